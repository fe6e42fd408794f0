/- Lemmas. -/
import Derived.Test.YtfpphfjlpgefaaaGreatQLG3
import Derived.Test.YtfpphfjlpgefaaaGreatQLG1
import Derived.Test.YtfpphfjlpgefaaaGreatQLM3
import Derived.Test.YtfpphfjlpgefaaaGreatQLG2
import Derived.Lib.MinMax
import Derived.StillTailTactics
import Derived.Deep.DeepCutAuto
set_option maxHeartbeats 2000000
set_option maxRecDepth 100000
set_option linter.unusedSimpArgs false
set_option linter.unusedVariables false
namespace Go.Proofs.YtfpphfjlpgefaaaGreat
open Go.RowKit

theorem l03Make_c (m : Int) (o : Option Addr) (n c : Nat) (w : World) :
  Calls Tryz.prog 58 #[.int .i64 m, .slice o n c] w fun e w' => e = .returned (.agg #[.int .i64 m, .slice o n c]) ∧ Below w.heap.size w w' := by
 go_enter Tryz.func58, Tryz.ntmps58
 go_wp2
 exact bodyPost_ret (v := .agg #[.int .i64 m, .slice o n c]) (by simp [results, Tryz.results58, go_sem]) rfl ⟨rfl, bZ⟩

theorem l03Zero_c (d : Int) (n : Nat) (w : World) (hd : d = (n : Int) - 1) (hn : n ≤ 1000) :
  Calls Tryz.prog 157 #[.int .i64 d] w fun e w' => ∃ v', e = .returned v' ∧ OwS w' w.heap.size v' (zeroT n) ∧ Below w.heap.size w w' := by
 subst hd
 go_enter Tryz.func157, Tryz.ntmps157
 go_wp2_with fail
 have O1 := OwS.lit0 w
 have B1 : Below w.heap.size w (w.alloc (.cells #[] 28)) := bZ
 generalize w.alloc (.cells #[] 28) = w1 at O1 B1 ⊢
 go_loopw [3, 4] (fun s i wr => ∃ (k : Nat) (ov : Option Addr) (cv : Nat), k ≤ n ∧ i = .int .i64 k ∧ s = .slice ov k cv ∧ OwS wr w.heap.size (.slice ov k cv) (zeroRows n k) ∧ Below w.heap.size w wr) (fun _ i _ => n - (intOf i).toNat)
 case atStart => exact ⟨0, _, _, Nat.zero_le _, rfl, rfl, O1, B1⟩
 case round =>
  obtain ⟨k, ov, cv, hk, rfl, rfl, hO, hB⟩ := hrel
  by_cases hlt : k < n
  ·have i1 : (k : Int) ≤ (n : Int) - 1 := by omega
   have hBs := hB.size
   have HS := Lib.hid (zeroRows_snoc n k)
   have HLn := Lib.hid (zeroRows_len n k)
   generalize zeroRows n k = l at hO HS HLn
   go_wp2_with (first
    | (at_make; go_loud (refine mkI _ rfl _ _ rfl _ _ _ (n - k) rfl rfl (by omega) (by omega) ?_; intro w2 how hb2 hs2; have hz2 : wr.heap.size < w2.heap.size := (by omega); clear hs2))
    | (at_builtin; obtain ⟨W, hW⟩ : ∃ W : World, W = w2.alloc (.cells #[.slice (some ⟨wr.heap.size, 0, none⟩) (n - k) (n - k)] 28) := ⟨_, rfl⟩; have hWs : W.heap.size = w2.heap.size + 1 := (by rw [hW]; simp); have hT : OwSR w.heap.size wr.heap.size W (.slice ov k cv) l := (by rw [hW]; exact hO.toR.stay (fun j _ hj => (Below.heap_alloc _ _ j (by omega)).trans (hb2.block j hj))); have hU : OwI W wr.heap.size (.slice (some ⟨wr.heap.size, 0, none⟩) (n - k) (n - k)) (List.replicate (n - k) 0) := (by rw [hW]; exact how.alloc _); have hC : W.cell? ⟨w2.heap.size, 0, none⟩ = some (.slice (some ⟨wr.heap.size, 0, none⟩) (n - k) (n - k)) := (by rw [hW]; simp); have B3 : Below w.heap.size w W := (by rw [hW]; exact hB.trans ((((Below.refl wr.heap.size wr).trans hb2).alloc (Nat.le_of_lt hz2) _).mono hBs)); rw [← hW]; have HW := Lib.hid hW; clear hW; go_loud (refine apT W rfl _ _ rfl w.heap.size wr.heap.size (.slice ov k cv) l rfl hT (by omega) hBs _ _ w2.heap.size rfl hC hU (by rw [HLn.out]; omega) ?_; intro g cap w3 hO3 hgr hb3; clear hgr; have B4 := B3.trans hb3)))
   rw [HLn.out, ← HS.out] at hO3
   exact ⟨⟨k + 1, _, _, by omega, by go_num, by rw [HLn.out], hO3, B4⟩, by simp [intOf]; omega⟩
  ·obtain rfl : k = n := by omega
   have i1 : ¬ (k : Int) ≤ (k : Int) - 1 := by omega
   rw [zeroRows_all] at hO
   go_wp2
   go_ret
   exact ⟨_, rfl, hO, hB⟩

theorem l03Add_c (m : Int) (v u : Value) (xss yss : List (List Int)) (w : World) (hv : RdT w v xss) (hu : RdT w u yss) (hm : 2 ≤ m) (hm' : m ≤ 1000000000000) (hn : xss.length ≤ 1000) (hl : yss.length = xss.length)
  (hx : ∀ i (hi : i < xss.length), xss[i].length = xss.length - i ∧ ∀ x ∈ xss[i], 0 ≤ x ∧ x < m) (hy : ∀ i (hi : i < yss.length), yss[i].length = yss.length - i ∧ ∀ x ∈ yss[i], 0 ≤ x ∧ x < m) :
  Calls Tryz.prog 174 #[.int .i64 m, v, u] w fun e w' => ∃ v', e = .returned v' ∧ OwS w' w.heap.size v' (addT m xss.length xss yss) ∧ Below w.heap.size w w' := by
 obtain ⟨o, c, rfl, hmx, -⟩ := id hv
 obtain ⟨o', c', rfl, hmy, -⟩ := id hu
 unfold maxLen at hmx hmy
 have HL := Lib.hid hl
 have HX := Lib.hid hx
 have HY := Lib.hid hy
 clear hl hx hy
 go_enter Tryz.func174, Tryz.ntmps174
 go_wp2_with fail
 have O1 := OwS.lit0 w
 have B1 : Below w.heap.size w (w.alloc (.cells #[] 28)) := bZ
 generalize w.alloc (.cells #[] 28) = w1 at O1 B1 ⊢
 go_loopw [7, 8] (fun s i wr => ∃ (k : Nat) (ov : Option Addr) (cv : Nat), k ≤ xss.length ∧ i = .int .i64 k ∧ s = .slice ov k cv ∧ OwS wr w.heap.size (.slice ov k cv) ((List.range k).map (fun i => mk (xss.length - i) ((fun i j => (atT xss i j + atT yss i j) % m) i))) ∧ Below w.heap.size w wr) (fun _ i _ => xss.length - (intOf i).toNat)
 case atStart => exact ⟨0, _, _, Nat.zero_le _, rfl, rfl, O1, B1⟩
 case round =>
  obtain ⟨k, ov, cv, hk, rfl, rfl, hO, hB⟩ := hrel
  by_cases hlt : k < xss.length
  ·have hly : k < yss.length := by have := HL.out; omega
   have hxl := (HX.out k hlt).1
   have hyl := (HY.out k hly).1
   have HE := Lib.hid (show addL m xss[k].length xss[k] yss[k] = mk (xss.length - k) (fun j => (atT xss k j + atT yss k j) % m) by
    unfold addL; rw [hxl]; exact mk_ext fun j _ => by rw [atT_row hlt, atT_row hly])
   have hrl : xss[k].length ≤ yss[k].length := by rw [hxl, hyl, HL.out]; exact Nat.le_refl _
   have hrn : xss[k].length ≤ 1000 := by omega
   have HEl := Lib.hid (addL_len m xss[k].length xss[k] yss[k])
   clear hxl hyl
   obtain ⟨bx, fx, rfl, -⟩ := hv.rows (by omega)
   obtain ⟨by', fy, rfl, -⟩ := hu.rows (by omega)
   obtain ⟨o1, c1, cx0, rx0⟩ := hv.row (show xss[k]? = some xss[k] by simp [hlt])
   obtain ⟨o2, c2, cy0, ry0⟩ := hu.row (show yss[k]? = some yss[k] by simp [hly])
   have cx := keep_cell hB (nl _) cx0
   have cy := keep_cell hB (nl _) cy0
   have rx := rx0.below hB (nl _)
   have ry := ry0.below hB (nl _)
   have hBs := hB.size
   have hclx := cell_lt cx
   have hcly := cell_lt cy
   have HS := Lib.hid (tri_snoc_rows xss.length k (fun i j => (atT xss i j + atT yss i j) % m))
   have HLn := Lib.hid (show ((List.range k).map (fun i => mk (xss.length - i) ((fun i j => (atT xss i j + atT yss i j) % m) i))).length = k by simp)
   generalize (List.range k).map (fun i => mk (xss.length - i) ((fun i j => (atT xss i j + atT yss i j) % m) i)) = l at hO HS HLn
   have i0 : (0 : Int) ≤ (k : Int) := by omega
   have i1 : (k : Int) < (xss.length : Int) := by omega
   have i2 : (k : Int) < (yss.length : Int) := by omega
   go_wp2_with fail
   go_region_held3 (fun w' => w'.cell? ⟨bx, fx + k, none⟩ = some (.slice o1 xss[k].length c1) ∧ w'.cell? ⟨by', fy + k, none⟩ = some (.slice o2 yss[k].length c2)) (go_keep)
    (first
     | (go_at_call 95; refine (l02Add_c m _ _ xss[k] yss[k] _ (rx.below (Below.refl _ _).drew (nl _)) (ry.below (Below.refl _ _).drew (nl _)) hrl (by omega) hm hm' (HX.out k hlt).2 (HY.out k hly).2).mono ?_; rintro e w2 ⟨va, rfl, how, hb2⟩; obtain ⟨oa, ca, rfl⟩ := how.shapeN (n := xss[k].length) HEl.out; have hb2' : Below wr.heap.size wr w2 := ((Below.refl wr.heap.size wr).drew).trans hb2; have how' : OwI w2 wr.heap.size (.slice oa xss[k].length ca) (addL m xss[k].length xss[k] yss[k]) := how; have hz2 := hb2'.size; have cx2 := keep_cell hb2' (nl _) cx; have cy2 := keep_cell hb2' (nl _) cy)
     | (have hq2 := hz2; (obtain ⟨W, hW⟩ : ∃ W : World, W = w2.alloc (.cells #[.slice oa xss[k].length ca] 28) := ⟨_, rfl⟩); have hWs : W.heap.size = w2.heap.size + 1 := (by rw [hW]; simp); have hT : OwSR w.heap.size wr.heap.size W (.slice ov k cv) l := (by rw [hW]; exact hO.toR.stay (fun j _ hj => (Below.heap_alloc _ _ j (by omega)).trans (hb2'.block j hj))); have hU : OwI W wr.heap.size (.slice oa xss[k].length ca) (addL m xss[k].length xss[k] yss[k]) := (by rw [hW]; exact how'.alloc _); have hC : W.cell? ⟨w2.heap.size, 0, none⟩ = some (.slice oa xss[k].length ca) := (by rw [hW]; simp); have B3 : Below w.heap.size w W := (by rw [hW]; exact hB.trans ((((Below.refl wr.heap.size wr).trans hb2').alloc hz2 _).mono hBs)); rw [← hW]; have HW := Lib.hid hW; clear hW; refine stT W rfl _ _ rfl w.heap.size wr.heap.size (.slice ov k cv) l rfl hT (by omega) hBs _ _ w2.heap.size rfl hC hU (by rw [HLn.out]; omega) ?_; intro g cap w3 hO3 hgr hb3; clear hgr; have B4 := B3.trans hb3; have cx3 := keep_cell B4 (nl _) cx0; have cy3 := keep_cell B4 (nl _) cy0)
     | fail)
   rw [HE.out, HLn.out, ← HS.out] at hO3
   go_wp2
   exact ⟨⟨k + 1, _, _, by omega, by go_num, by rw [HLn.out], hO3, B4⟩, by simp [intOf]; omega⟩
  ·obtain rfl : k = xss.length := by omega
   go_wp2
   go_ret
   exact ⟨_, rfl, hO, hB⟩


def Stp (n : Nat) (xss : List (List Int)) : Prop := xss.length = n ∧ ∀ k row, xss[k]? = some row → row.length = n - k
theorem OwS.dw {B n b : Nat} {w w' : World} {C : Nat} {v : Value} {xss : List (List Int)} (h : OwS w C v xss) (hd : DW B n b w w') (hne : b < C) : OwS w' C v xss := by
 have h1 := h.toR
 by_cases hC : C ≤ w.heap.size
 ·exact (h1.stay (fun j hj1 hj2 => hd.chg.block j hj2 (.inr (by omega)))).ow
 ·exact (h1.stay (fun j hj1 hj2 => by omega)).ow


theorem RdT.take {w : World} {ad : Addr} {n c : Nat} {xss : List (List Int)} (h : RdT w (.slice (some ad) n c) xss) (k : Nat) (hk : k ≤ xss.length) : RdT w (.slice (some ad) k c) (xss.take k) := by
 obtain ⟨o, c', heq, hm, hc⟩ := h
 obtain ⟨rfl, -, rfl⟩ : some ad = o ∧ n = xss.length ∧ c = c' := by simpa using heq
 have hl : (xss.take k).length = k := by rw [List.length_take]; omega
 refine ⟨some ad, c, by rw [hl], ⟨by omega, by omega, fun e => by cases e⟩, fun j row hj => ?_⟩
 rw [List.getElem?_take] at hj
 split at hj
 ·exact hc j row hj
 ·cases hj
theorem RdT.tail {w : World} {b off n c : Nat} {xss : List (List Int)} (h : RdT w (.slice (some ⟨b, off, none⟩) n c) xss) (k : Nat) (hk : k = xss.length - 1) : RdT w (.slice (some ⟨b, off + 1, none⟩) k (c - 1)) (xss.drop 1) := by
 obtain ⟨o, c', heq, hm, hc⟩ := h
 obtain ⟨rfl, -, rfl⟩ : some ⟨b, off, none⟩ = o ∧ n = xss.length ∧ c = c' := by simpa using heq
 subst hk
 refine ⟨some ⟨b, off + 1, none⟩, c - 1, by rw [List.length_drop], ⟨by rw [List.length_drop]; omega, by rw [List.length_drop]; omega, fun e => by cases e⟩, fun j row hj => ?_⟩
 rw [List.getElem?_drop] at hj
 obtain ⟨b', off', u, e, hcell, hr⟩ := hc (1 + j) row hj
 obtain ⟨rfl, rfl⟩ : b = b' ∧ off = off' := by simpa using e
 exact ⟨b, off + 1, u, rfl, by rw [Nat.add_assoc]; exact hcell, hr⟩
theorem OwSU.putS {us : List Value} {lo hi : Nat} {u : World} {v : Value} {xss : List (List Int)} (h : OwSU us lo hi u v xss) {b : Nat} (hb : b < lo ∨ hi ≤ b) (k : Nat) (x : Value) : OwSU us lo hi (u.setCell ⟨b, k, none⟩ x) v xss :=
 h.stay (fun j h1 h2 => heap_setCell_other u ⟨b, k, none⟩ j x (fun e => by simp at e; omega))
theorem OwSU.dwS {us : List Value} {lo hi : Nat} {B n b : Nat} {w w' : World} {v : Value} {xss : List (List Int)} (h : OwSU us lo hi w v xss) (hd : DW B n b w w') (h1 : b < lo) (h2 : hi ≤ w.heap.size) : OwSU us lo hi w' v xss :=
 h.stay (fun j h3 h4 => hd.chg.block j (by omega) (.inr (by omega)))
theorem Rds.imp {lo hi : Nat} {w : World} {R S : World → Prop} (h : Rds lo hi w R) (e : ∀ u, R u → S u) : Rds lo hi w S := ⟨h.1, fun u hu => e u (h.2 u hu)⟩
end Go.Proofs.YtfpphfjlpgefaaaGreat
/- Planes: the program's tables. -/
namespace Go.Proofs.YtfpphfjlpgefaaaGreat
open Go.RowKit

structure PR where
 m : Int
 xs : List (List Int)
 code : Int
def PR.bad (c : Int) : PR := ⟨0, [], c⟩
def PVEnd (w w' : World) (m : Int) (xss : List (List Int)) (e : Ending) : Prop :=
 ∃ v', e = .returned (.agg #[.int .i64 m, v']) ∧ OwS w' w.heap.size v' xss ∧ Below w.heap.size w w'

theorem RB2.put1 {w : World} {b : Nat} {x y : Value} (h : RB2 w b x y) (u : Value) : RB2 (w.setCell ⟨b, 1, none⟩ u) b x u := by
 obtain ⟨⟨h0, h1⟩, hf⟩ := h
 exact ⟨⟨(World.cell?_setCell_other w ⟨b, 1, none⟩ ⟨b, 0, none⟩ u (by simp)).trans h0, World.cell?_setCell_same _ _ _ h1⟩, fun k => by rw [World.frozen?_setCell]; exact hf k⟩

theorem emptyPlane_c (m d : Int) (n : Nat) (w : World) (hd : d = (n : Int) - 1) (hn : n ≤ 1000) :
  Calls Tryz.prog 148 #[.int .i64 m, .int .i64 d] w fun e w' => PVEnd w w' m (zeroT n) e := by
 subst hd
 go_enter Tryz.func148, Tryz.ntmps148
 go_wp2_with fail
 have B0 : Below w.heap.size w ((w.alloc (.cells #[.int .i64 0, .slice none 0 0] 26)).alloc (.cells #[.int .i64 m, .slice none 0 0] 26)) := bZ
 have R0 := (RB2.mk1 w (.int .i64 0) (.slice none 0 0) 26).below (w' := (w.alloc (.cells #[.int .i64 0, .slice none 0 0] 26)).alloc (.cells #[.int .i64 m, .slice none 0 0] 26)) (bZ) (nl _)
 have O0 := RB2.mk2 w (.cells #[.int .i64 0, .slice none 0 0] 26) (.int .i64 m) (.slice none 0 0) 26
 generalize (w.alloc (.cells #[.int .i64 0, .slice none 0 0] 26)).alloc (.cells #[.int .i64 m, .slice none 0 0] 26) = w0 at B0 R0 O0 ⊢
 have hO0 := O0.1.lt
 have hR0 := R0.1.lt
 go_loopw [11] (fun i wr => ∃ (k : Nat) (ov : Option Addr) (cv : Nat), k ≤ n ∧ i = .int .i64 k ∧ OwS wr w0.heap.size (.slice ov k cv) (zeroRows n k) ∧ RB2 wr (w.heap.size + 1) (.int .i64 m) (.slice ov k cv) ∧ RB2 wr w.heap.size (.int .i64 0) (.slice none 0 0) ∧ Below w.heap.size w wr ∧ w0.heap.size ≤ wr.heap.size) (fun i _ => n - (intOf i).toNat)
 case atStart => exact ⟨0, _, _, Nat.zero_le _, rfl, OwS.nil _ _, O0, R0, B0, Nat.le_refl _⟩
 case round =>
  obtain ⟨k, ov, cv, hk, rfl, hO, hB, hR, hBr, hsz⟩ := hrel
  by_cases hlt : k < n
  ·obtain ⟨⟨x0, x1⟩, xf⟩ := id hB
   have HS := Lib.hid (zeroRows_snoc n k)
   have HLn := Lib.hid (zeroRows_len n k)
   generalize zeroRows n k = l at hO HS HLn
   have e1 : IntKind.i64.wrap (n : Int) = (n : Int) := IntWalk.i64_in _ (by omega)
   have e2 : IntKind.i64.wrap ((n : Int) - (k : Int)) = (n : Int) - (k : Int) := IntWalk.i64_in _ (by omega)
   go_wp2_with fail
   refine wp_region_S (S := fun w' => w'.cell? ⟨w.heap.size + 1, 1, none⟩ = some (.slice ov k cv)) 10 (by kernel_rfl) ?_
   have hHeld : (fun w' : World => w'.cell? ⟨w.heap.size + 1, 1, none⟩ = some (.slice ov k cv)) wr.drew := by go_keep
   refine' wpAnyS_takeL (i := 0) (v := _) rfl (by kernel_rfl) (by kernel_rfl) (by kernel_rfl) (by kernel_rfl) (fun _ _ _ h => h) (Or.inl ⟨by rfl, ?yE0⟩) hHeld ?rE0
   case yE0 => (intro w' hSw; (try dsimp only at hSw); go_simp; try with_reducible rfl)
   try simp only [Act.put, List.setIfInBounds_toArray, List.set_cons_zero, List.set_cons_succ]
   refine' wpAnyS_takeL (i := 1) (v := _) rfl (by kernel_rfl) (by kernel_rfl) (by kernel_rfl) (by kernel_rfl) (fun _ _ _ h => h) (Or.inl ⟨by rfl, ?yE1⟩) hHeld ?rE1
   case yE1 => (intro w' hSw; (try dsimp only at hSw); go_simp; try with_reducible rfl)
   try simp only [Act.put, List.setIfInBounds_toArray, List.set_cons_zero, List.set_cons_succ]
   refine' wpAnyS_takeL (i := 2) (v := _) rfl (by kernel_rfl) (by kernel_rfl) (by kernel_rfl) (by kernel_rfl) (fun _ _ _ h => h) (Or.inl ⟨by rfl, ?yE2⟩) hHeld ?rE2
   case yE2 => (intro w' hSw; (try dsimp only at hSw); go_simp; try with_reducible rfl)
   try simp only [Act.put, List.setIfInBounds_toArray, List.set_cons_zero, List.set_cons_succ]
   refine' wpAnyS_takeL (i := 3) (v := _) rfl (by kernel_rfl) (by kernel_rfl) (by kernel_rfl) (by kernel_rfl) (fun _ _ _ h => h) (Or.inl ⟨by rfl, ?yE3⟩) hHeld ?rE3
   case yE3 => (intro w' hSw; (try dsimp only at hSw); go_simp; try with_reducible rfl)
   try simp only [Act.put, List.setIfInBounds_toArray, List.set_cons_zero, List.set_cons_succ]
   refine' wpAnyS_takeL (i := 4) (v := _) rfl (by kernel_rfl) (by kernel_rfl) (by kernel_rfl) (by kernel_rfl) (fun _ _ _ h => h) (Or.inl ⟨by rfl, ?yE4⟩) hHeld ?rE4
   case yE4 => (intro w' hSw; (try dsimp only at hSw); go_simp; try with_reducible rfl)
   try simp only [Act.put, List.setIfInBounds_toArray, List.set_cons_zero, List.set_cons_succ]
   refine' wpAnyS_takeL (i := 5) (v := _) rfl (by kernel_rfl) (by kernel_rfl) (by kernel_rfl) (by kernel_rfl) (fun _ _ _ h => h) (Or.inl ⟨by rfl, ?yE5⟩) hHeld ?rE5
   case yE5 => (intro w' hSw; (try dsimp only at hSw); go_simp; try with_reducible rfl)
   try simp only [Act.put, List.setIfInBounds_toArray, List.set_cons_zero, List.set_cons_succ]
   clear e1 e2
   refine wpAnyS_oneL (i := 6) rfl (by kernel_rfl) (fun K hK => ?_)
   refine stMk rfl _ _ rfl _ _ _ (n - k) rfl rfl (by omega) (by omega) ?_
   intro w2 how hb2 hs2
   have hb2' : Below wr.heap.size wr w2 := ((Below.refl wr.heap.size wr).drew).trans hb2
   have how' : OwI w2 wr.heap.size (.slice (some ⟨wr.heap.size, 0, none⟩) (n - k) (n - k)) (List.replicate (n - k) 0) := how
   have hs2' : w2.heap.size = wr.heap.size + 1 := hs2
   have hz2 : wr.heap.size < w2.heap.size := by omega
   clear hs2 hs2'
   have hB2 := hB.below hb2' (nl _)
   refine hK.out _ _ (fun _ => hB2.1.2) ?_
   clear hK K
   try simp only [Act.put, List.setIfInBounds_toArray, List.set_cons_zero, List.set_cons_succ]
   obtain ⟨W, hW⟩ : ∃ W : World, W = w2.alloc (.cells #[.slice (some ⟨wr.heap.size, 0, none⟩) (n - k) (n - k)] 28) := ⟨_, rfl⟩
   have hWs : W.heap.size = w2.heap.size + 1 := by rw [hW]; simp
   have hbW : Below wr.heap.size wr W := by rw [hW]; exact hb2'.alloc (by omega) _
   have hT : OwSR w0.heap.size wr.heap.size W (.slice ov k cv) l := hO.toR.stay (fun j _ hj => hbW.block j hj)
   have hU : OwI W wr.heap.size (.slice (some ⟨wr.heap.size, 0, none⟩) (n - k) (n - k)) (List.replicate (n - k) 0) := by rw [hW]; exact how'.alloc _
   have hC : W.cell? ⟨w2.heap.size, 0, none⟩ = some (.slice (some ⟨wr.heap.size, 0, none⟩) (n - k) (n - k)) := by rw [hW]; simp
   have hBW := hB.below hbW (nl _)
   have HW := Lib.hid hW
   clear hW
   refine wpAnyS_oneL (i := 7) rfl (by kernel_rfl) (fun K hK => ?_)
   go_simp
   rw [← HW.out]
   refine hK.out _ _ (fun _ => hBW.1.2) ?_
   clear hK K
   try simp only [Act.put, List.setIfInBounds_toArray, List.set_cons_zero, List.set_cons_succ]
   refine wpAnyS_oneL (i := 8) rfl (by kernel_rfl) (fun K hK => ?_)
   refine stT W rfl _ _ rfl w0.heap.size wr.heap.size (.slice ov k cv) l rfl hT (by omega) hsz _ _ w2.heap.size rfl hC hU (by rw [HLn.out]; omega) ?_
   intro g cap w3 hO3 hgr hb3
   clear hgr
   have hB3 := hBW.belowB hb3 hO0
   have hR3 := (hR.below hbW (nl _)).belowB hb3 hR0
   have B3 : Below w.heap.size w w3 := (hBr.trans (hbW.mono hBr.size)).trans (hb3.mono (by omega))
   refine hK.out _ _ (fun _ => hB3.1.2) ?_
   clear hK K
   try simp only [Act.put, List.setIfInBounds_toArray, List.set_cons_zero, List.set_cons_succ]
   refine wpAnyS_oneL (i := 9) rfl (by kernel_rfl) (fun K hK => ?_)
   go_simp
   refine hK.out _ _ (fun _ => hB3.1.2) ?_
   clear hK K
   try simp only [Act.put, List.setIfInBounds_toArray, List.set_cons_zero, List.set_cons_succ]
   refine wpAnyS_oneL (i := 10) rfl (by kernel_rfl) (fun K hK => ?_)
   obtain ⟨⟨z0, z1⟩, zf⟩ := id hB3
   go_simp
   refine hK.out _ _ (fun h => absurd h (by decide)) ?_
   clear hK K
   try simp only [Act.put, List.setIfInBounds_toArray, List.set_cons_zero, List.set_cons_succ]
   refine wpAnyS_done (by kernel_rfl) ?_ _
   rw [HLn.out, ← HS.out] at hO3
   rw [HLn.out]
   go_wp2_with fail
   have hO4 := hO3.low (g := w.heap.size + 1) (k := 1) hO0 (.slice (some ⟨g, 0, none⟩) (k + 1) cap)
   have hB4 := hB3.put1 (.slice (some ⟨g, 0, none⟩) (k + 1) cap)
   have hR4 := hR3.put' (a := ⟨w.heap.size + 1, 1, none⟩) (by simp) (.slice (some ⟨g, 0, none⟩) (k + 1) cap)
   have B4 : Below w.heap.size w (w3.setCell ⟨w.heap.size + 1, 1, none⟩ (.slice (some ⟨g, 0, none⟩) (k + 1) cap)) := below_put B3 (by omega) _
   have hsz4 : w0.heap.size ≤ w3.heap.size := by have := hb3.size; omega
   exact ⟨⟨k + 1, _, _, by omega, by go_num, hO4, hB4, hR4, B4, by simpa using hsz4⟩, by simp [intOf]; omega⟩
  ·obtain rfl : k = n := by omega
   rw [zeroRows_all] at hO
   obtain ⟨⟨x0, x1⟩, xf⟩ := id hB
   obtain ⟨⟨r0, r1⟩, rf⟩ := id hR
   go_wp2
   refine bodyPost_ret (v := .agg #[.int .i64 m, .slice ov k cv]) (by simp [results, Tryz.results148, go_sem, r0, r1]) rfl ⟨_, rfl, ?_, ?_⟩
   ·exact ((hO.low (show w.heap.size < w0.heap.size by omega) _).low (show w.heap.size < w0.heap.size by omega) _).mono (by omega)
   ·(repeat (first | exact bR _ _ | (refine bS ?_ _) | (refine bA ?_ _) | (refine bN ?_ _) | (refine bD ?_) | (refine bT ?_ hBr)))

end Go.Proofs.YtfpphfjlpgefaaaGreat

/- Planes: the program's plane with a number for each coefficient; a number as a plane. -/
namespace Go.Proofs.YtfpphfjlpgefaaaGreat
open Go.RowKit

theorem OwSR.alloc {lo hi : Nat} {u : World} {v : Value} {xss : List (List Int)} (h : OwSR lo hi u v xss) (hh : hi ≤ u.heap.size) (o : Obj) : OwSR lo hi (u.alloc o) v xss :=
 h.stay (fun k _ hk => Below.heap_alloc _ _ k (by omega))
theorem heap_set_ne (u : World) (b k : Nat) (x : Value) {j : Nat} (h : j ≠ b) : (u.setCell ⟨b, k, none⟩ x).heap[j]? = u.heap[j]? := heap_setCell_other u ⟨b, k, none⟩ j x (fun e => h (by simp [e]))
theorem OwSR.put {lo hi : Nat} {u : World} {v : Value} {xss : List (List Int)} (h : OwSR lo hi u v xss) {b : Nat} (hb : b < lo ∨ hi ≤ b) (k : Nat) (x : Value) : OwSR lo hi (u.setCell ⟨b, k, none⟩ x) v xss :=
 h.stay (fun j _ _ => heap_set_ne u b k x (by omega))
theorem OwS.ra {w : World} {B : Nat} {v : Value} {xss : List (List Int)} (h : OwS w B v xss) (o : Obj) : OwSR B w.heap.size (w.alloc o) v xss := h.toR.alloc (nl _) o
theorem OwS.rp2 {w : World} {B b : Nat} {v : Value} {xss : List (List Int)} (h : OwS w B v xss) (hb : b < B) (x y : Value) : OwSR B w.heap.size ((w.setCell ⟨b, 0, none⟩ x).setCell ⟨b, 1, none⟩ y) v xss :=
 (h.toR.put (.inl hb) 0 x).put (.inl hb) 1 y
end Go.Proofs.YtfpphfjlpgefaaaGreat

/- Planes: the program's sums. -/
namespace Go.Proofs.YtfpphfjlpgefaaaGreat
open Go.RowKit

theorem pla_at {xss : List (List Int)} {m : Int} {n i j : Nat} (hl : xss.length = n) (hx : ∀ i (hi : i < xss.length), xss[i].length = xss.length - i ∧ ∀ x ∈ xss[i], 0 ≤ x ∧ x < m) (h : i + j < n) :
  ∃ row, xss[i]? = some row ∧ row[j]? = some (atT xss i j) ∧ row.length = n - i ∧ 0 ≤ atT xss i j ∧ atT xss i j < m := by
 have hi : i < xss.length := by omega
 have h1 := hx i hi
 have h2 : atT xss i j = at0 xss[i] j := atT_row hi
 have h3 : j < xss[i].length := by omega
 refine ⟨xss[i], by simp [hi], by rw [h2]; exact some_at0 h3, by omega, ?_⟩
 rw [h2]
 exact h1.2 _ (mem_at0 h3)


def turnT (m : Int) (t : List (List Int)) : List (List Int) := tri t.length (fun i j => atT t j i % m)
end Go.Proofs.YtfpphfjlpgefaaaGreat
