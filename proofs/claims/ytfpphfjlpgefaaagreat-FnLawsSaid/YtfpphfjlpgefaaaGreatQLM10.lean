/- Lemmas. -/
import Derived.Test.YtfpphfjlpgefaaaGreatQLM7
import Derived.Test.YtfpphfjlpgefaaaGreatQLG5
import Derived.Test.YtfpphfjlpgefaaaGreatQLG3
import Derived.Test.YtfpphfjlpgefaaaGreatQLG2
import Derived.Test.YtfpphfjlpgefaaaGreatQLM5
import Derived.Deep.RegionHeld3
import Derived.Test.YtfpphfjlpgefaaaGreatQLG1
set_option maxHeartbeats 1000000
set_option maxRecDepth 100000
set_option linter.unusedSimpArgs false
set_option linter.unusedVariables false
namespace Go.Proofs.YtfpphfjlpgefaaaGreat
open Go.RowKit

def SEndL (w w' : World) (m : Int) (xs : List Int) (c : Int) (e : Ending) : Prop :=
 ∃ v', e = .returned (.tuple #[.agg #[.int .i64 m, v'], .int .i64 c]) ∧ OwI w' w.heap.size v' xs ∧ Below w.heap.size w w' ∧ xs.length ≤ 1048576
theorem sendL {P : Program} {f : FuncId} {args : Array Value} {w : World} {m : Int} {xs : List Int} {c : Int} (h : Calls P f args w fun e w' => SEnd w w' ⟨m, xs, c⟩ e) : Calls P f args w fun e w' => SEndL w w' m xs c e := h
def LEndL (w w' : World) (xs : List Int) (c : Int) (e : Ending) : Prop :=
 ∃ v', e = .returned (.tuple #[v', .int .i64 c]) ∧ OwI w' w.heap.size v' xs ∧ Below w.heap.size w w' ∧ xs.length ≤ 1048576
theorem lendL {P : Program} {f : FuncId} {args : Array Value} {w : World} {xs : List Int} {c : Int} (h : Calls P f args w fun e w' => LEnd w w' ⟨xs, c⟩ e) : Calls P f args w fun e w' => LEndL w w' xs c e := h
theorem likeInts_same (v u : Value) (xs : List Int) (w : World) (hv : RdI w v xs) (hu : RdI w u xs) :
  Calls Tryz.prog 9 #[v, u] w fun e w' => e = .returned (.bool true) ∧ Below w.heap.size w w' :=
 (likeInts_c v u xs xs w hv hu).mono fun e w' ⟨he, d, hd⟩ => ⟨by rw [he, eqLB_self], by rw [hd]; exact below_drewN (Below.refl _ _) d⟩

theorem series9_same (m : Int) (v u : Value) (xs : List Int) (w : World) (hv : RdI w v xs) (hu : RdI w u xs) :
  Calls Tryz.prog 15 #[.agg #[.int .i64 m, v], .agg #[.int .i64 m, u]] w fun e w' => e = .returned (.bool true) ∧ Below w.heap.size w w' := by
 have hq : (m == m) = true := by simp
 go_enter Tryz.func15, Tryz.ntmps15
 go_wp2_with fail
 have hb : Below w.heap.size w ((w.alloc (.cells #[.int .i64 m, v] 34)).alloc (.cells #[.int .i64 m, u] 34)) := bZ
 refine (likeInts_same _ _ xs _ (hv.below hb (nl _)) (hu.below hb (nl _))).mono ?_
 rintro e w1 ⟨rfl, h1⟩
 go_wp2
 go_ret
 exact ⟨rfl, hb.trans (h1.mono hb.size)⟩
theorem sIsLaw_c (m : Int) (v : Value) (t : List (List Int)) (w : World) (hv : RdT w v t) :
  Calls Tryz.prog 11 #[.agg #[.int .i64 m, v]] w fun e w' => e = .returned (.bool (lawB m t)) ∧ Below w.heap.size w w' := by
 go_enter Tryz.func11, Tryz.ntmps11
 go_wp2_with fail
 have hb : Below w.heap.size w (w.alloc (.cells #[.int .i64 m, v] 26)) := bZ
 refine (l04Is_c m v t _ (hv.below hb (nl _))).mono ?_
 rintro e w1 ⟨rfl, h1⟩
 go_wp2
 go_ret
 exact ⟨rfl, hb.trans (h1.mono hb.size)⟩
theorem laF_code {m : Int} {t : List (List Int)} {xs : List Int} {c : Int} (h : lawFaultR m t = ⟨xs, c⟩) : (c == 4) = lawB m t := by
 unfold lawFaultR at h
 unfold lawB
 cases h1 : plaB m t
 ·rw [h1] at h
  obtain ⟨-, rfl⟩ := LR.mk.inj h
  simp
 ·rw [h1] at h
  cases h2 : (fauL m t t.length).isEmpty
  ·rw [h2] at h
   obtain ⟨-, rfl⟩ := LR.mk.inj h
   simp
  ·rw [h2] at h
   obtain ⟨-, rfl⟩ := LR.mk.inj h
   simp

theorem powersS_c (m : Int) (n : Nat) (v : Value) (xs : List Int) (w : World) (hv : RdI w v xs) (hl : xs.length = n) (h1 : 1 ≤ n) (hn : n ≤ 1000) (hm : 2 ≤ m) (hm' : m ≤ 3000000000)
  (hx : ∀ x ∈ xs, 0 ≤ x ∧ x < m) :
  Calls Tryz.prog 88 #[.agg #[.int .i64 m, v]] w fun e w' => ∃ v', e = .returned v' ∧ OwLS w' w.heap.size v' m (powsL m n xs n) ∧ Below w.heap.size w w' := by
 subst hl
 obtain ⟨o, c, rfl, hmx, -⟩ := id hv
 have hml := hmx.1
 unfold maxLen at hmx
 go_enter Tryz.func88, Tryz.ntmps88
 go_wp2_with fail
 (have X0 := ((RB2.mk1 w  (.int .i64 m) (.slice o xs.length c) 34).1).below (w' := (w.alloc (.cells #[.int .i64 m, .slice o xs.length c] 34))) bZ (nl _); have B0 : Below w.heap.size w (w.alloc (.cells #[.int .i64 m, .slice o xs.length c] 34)) := bZ; have hv0 := hv.below (w' := (w.alloc (.cells #[.int .i64 m, .slice o xs.length c] 34))) bZ (nl _); generalize w.alloc (.cells #[.int .i64 m, .slice o xs.length c] 34) = w0 at X0 B0 hv0 ⊢)
 obtain ⟨x0, x1⟩ := id X0
 go_wp2_with fail
 refine (constant_c m 1 _ xs _ hv0 h1 (by omega) hm (by omega) (by omega) (by omega)).mono ?_
 rintro e w1 ⟨vz, rfl, how, hb⟩
 obtain ⟨oz, cz, rfl⟩ := how.shapeN (n := xs.length) (constL_len _ _ _)
 (have X1 := X0.below hb (nl _); have hv1 := hv0.below hb (nl _); have B1 := B0.trans (hb.mono B0.size))
 have hb1 := hb.size
 have hB0 := B0.size
 have OL := OwLS.lit1 w1 m _ _ (how.rds hb1) hb1
 rw [show [constL m 1 xs.length] = powsL m xs.length xs 1 from rfl] at OL
 clear x0 x1 hb
 obtain ⟨x0, x1⟩ := id X1
 have lX := X1.lt
 go_wp2_with fail
 have hb : Below w1.heap.size w1 (w1.alloc (.cells #[.int .i64 m, .slice oz xs.length cz] 34)) := bZ
 (have X2 := X1.below hb (nl _); have hv2 := hv1.below hb (nl _); have B2 := B1.trans (hb.mono B1.size))
 clear x0 x1 X1 hv1 hb lX
 generalize w1.alloc (.cells #[.int .i64 m, .slice oz xs.length cz] 34) = w2 at X2 hv2 B2 OL ⊢
 refine (degreeS_c m o xs.length c _ hml).mono ?_
 rintro e w3 ⟨rfl, hb⟩
 (have X3 := X2.below hb (nl _); have hv3 := hv2.below hb (nl _); have B3 := B2.trans (hb.mono B2.size))
 have OL3 := (OL.below hb).mono (show w.heap.size + 1 ≤ w0.heap.size from X0.lt)
 have B3s := B3.size
 clear OL hb how
 go_wp2_with fail
 go_loopw [3, 9] (fun s i wr => ∃ (k : Nat) (ov : Option Addr) (cv : Nat), k + 1 ≤ xs.length ∧ i = .int .i64 k ∧ s = .slice ov (k + 1) cv ∧ OwLS wr (w.heap.size + 1) (.slice ov (k + 1) cv) m (powsL m xs.length xs (k + 1)) ∧ Below w.heap.size w wr ∧ Box2 wr w.heap.size (.int .i64 m) (.slice o xs.length c)) (fun _ i _ => xs.length - 1 - (intOf i).toNat)
 case atStart => exact ⟨0, _, _, h1, rfl, rfl, OL3, B3, X3⟩
 case round =>
  obtain ⟨k, ov, cv, hk, rfl, rfl, hO, hB, hX⟩ := hrel
  have hBs := hB.size
  by_cases hlt : k + 1 < xs.length
  ·obtain ⟨q, hq⟩ : ∃ q, q = k + 1 := ⟨_, rfl⟩
   rw [← hq] at hO ⊢
   obtain ⟨bo, off, rfl⟩ := hO.rd.base (by rw [powsL_len]; omega)
   obtain ⟨o1, c1, y0, y1, hr⟩ := hO.rd.at (powsL_get (show k < q by omega))
   rw [powL_len] at y1 hr
   have hvr := hv.below hB (nl _)
   obtain ⟨x0, x1⟩ := id hX
   have HS := Lib.hid (powsL_snoc m xs.length xs q)
   have hlt2 := Lib.hid hO.lt
   have i0 : (0 : Int) ≤ (k : Int) := by omega
   have i1 : (k : Int) < (q : Int) := by omega
   have i2 : (k : Int) < (xs.length : Int) - 1 := by omega
   have i3 : (1 : Int) ≤ (q : Int) := by omega
   have i4 : (q : Int) - 1 < (q : Int) := by omega
   have i5 : ((q : Int) - 1).toNat = k := by omega
   have e0 : IntKind.i64.wrap ((q : Int) - 1) = (q : Int) - 1 := IntWalk.i64_in _ (by omega)
   have ly := cell_lt y0
   have HQ := Lib.hid hq
   have hPq : powL m xs.length xs (k + 1) = powL m xs.length xs q := by rw [hq]
   rw [show powL m xs.length xs q = powL m xs.length xs (k + 1) by rw [hq]] at HS
   clear hPq hq
   have lx := hX.lt
   go_wp2_with fail
   have hd0 : Below wr.heap.size wr wr.drew := (Below.refl _ _).drew
   have hsd0 := hd0.size
   refine wp_region_K (S := fun w' => w'.cell? ⟨bo, off + k * 2, none⟩ = some (.int .i64 m) ∧ w'.cell? ⟨bo, off + k * 2 + 1, none⟩ = some (.slice o1 xs.length c1) ∧ w'.cell? ⟨w.heap.size, 0, none⟩ = some (.int .i64 m) ∧ w'.cell? ⟨w.heap.size, 1, none⟩ = some (.slice o xs.length c)) [0, 8, 9, 10, 11] (by kernel_rfl) ?_
   have hHeld : (fun w' : World => w'.cell? ⟨bo, off + k * 2, none⟩ = some (.int .i64 m) ∧ w'.cell? ⟨bo, off + k * 2 + 1, none⟩ = some (.slice o1 xs.length c1) ∧ w'.cell? ⟨w.heap.size, 0, none⟩ = some (.int .i64 m) ∧ w'.cell? ⟨w.heap.size, 1, none⟩ = some (.slice o xs.length c)) wr.drew := by go_keep
   refine' wpAnyK_pureL (i := 0) (v := _) rfl (by kernel_rfl) (by kernel_rfl) (by kernel_rfl) (by kernel_rfl) (fun _ _ _ h => h) (Or.inl ⟨by rfl, ?yT1⟩) ?rT1
   case yT1 => (intro w' _; go_simp; try with_reducible rfl)
   try simp only [Act.put, sL]
   refine' wpAnyK_takeL (i := 1) (v := _) rfl (by kernel_rfl) (by kernel_rfl) (by kernel_rfl) (by kernel_rfl) (fun _ _ _ h => h) (Or.inl ⟨by rfl, ?yT2⟩) hHeld ?rT2
   case yT2 => (intro w' hSw; (try dsimp only at hSw); go_simp; try with_reducible rfl)
   try simp only [Act.put, sL]
   refine' wpAnyK_takeL (i := 2) (v := _) rfl (by kernel_rfl) (by kernel_rfl) (by kernel_rfl) (by kernel_rfl) (fun _ _ _ h => h) (Or.inl ⟨by rfl, ?yT3⟩) hHeld ?rT3
   case yT3 => (intro w' hSw; (try dsimp only at hSw); go_simp; try with_reducible rfl)
   try simp only [Act.put, sL]
   refine' wpAnyK_takeL (i := 3) (v := _) rfl (by kernel_rfl) (by kernel_rfl) (by kernel_rfl) (by kernel_rfl) (fun _ _ _ h => h) (Or.inl ⟨by rfl, ?yT4⟩) hHeld ?rT4
   case yT4 => (intro w' hSw; (try dsimp only at hSw); go_simp; try with_reducible rfl)
   try simp only [Act.put, sL]
   refine' wpAnyK_takeL (i := 4) (v := _) rfl (by kernel_rfl) (by kernel_rfl) (by kernel_rfl) (by kernel_rfl) (fun _ _ _ h => h) (Or.inl ⟨by rfl, ?yT5⟩) hHeld ?rT5
   case yT5 => (intro w' hSw; (try dsimp only at hSw); go_simp; try with_reducible rfl)
   try simp only [Act.put, sL]
   refine' wpAnyK_takeL (i := 5) (v := _) rfl (by kernel_rfl) (by kernel_rfl) (by kernel_rfl) (by kernel_rfl) (fun _ _ _ h => h) (Or.inl ⟨by rfl, ?yT6⟩) hHeld ?rT6
   case yT6 => (intro w' hSw; (try dsimp only at hSw); go_simp; try with_reducible rfl)
   try simp only [Act.put, sL]
   refine' wpAnyK_takeL (i := 6) (v := _) rfl (by kernel_rfl) (by kernel_rfl) (by kernel_rfl) (by kernel_rfl) (fun _ _ _ h => h) (Or.inl ⟨by rfl, ?yT7⟩) hHeld ?rT7
   case yT7 => (intro w' hSw; (try dsimp only at hSw); go_simp; try with_reducible rfl)
   try simp only [Act.put, sL]
   refine' wpAnyK_takeL (i := 7) (v := _) rfl (by kernel_rfl) (by kernel_rfl) (by kernel_rfl) (by kernel_rfl) (fun _ _ _ h => h) (Or.inl ⟨by rfl, ?yT8⟩) hHeld ?rT8
   case yT8 => (intro w' hSw; (try dsimp only at hSw); go_simp; try with_reducible rfl)
   try simp only [Act.put, sL]
   refine wpAnyK_oneL (i := 8) rfl (by kernel_rfl) (fun K hK => ?_)
   go_simp
   go_at_call 90
   refine (times_c m m _ _ (powL m xs.length xs k) xs _ ((hr).below bZ (nl _)) ((hvr).below bZ (nl _)) (by rw [powL_len]) (by rw [powL_len]; omega) (by rw [powL_len]; omega) hm hm' (powL_range (by omega)) hx).mono ?_
   rintro e wd1 ⟨va, rfl, hod1, hbd1⟩
   rw [powL_len] at hod1; obtain ⟨oa, ca, rfl⟩ := hod1.shapeN (n := xs.length) (timesL_len _ _ _ _)
   have hd1 : Below wr.heap.size wr wd1 := (by (repeat (first | exact bR _ _ | (refine bS ?_ _) | (refine bA ?_ _) | (refine bN ?_ _) | (refine bD ?_) | (refine bT ?_ hbd1))))
   have hsd1 := hd1.size
   have hsz1_ := hbd1.size
   (try simp at hsz1_)
   go_wp2_with fail
   refine hK.out _ _ (fun h => absurd h (by decide)) ?_
   clear hK K
   try simp only [Act.put, sL]
   refine wpAnyK_oneL (i := 9) rfl (by kernel_rfl) (fun K hK => ?_)
   go_simp
   (try go_wp2_with fail)
   refine hK.out _ _ (fun h => absurd h (by decide)) ?_
   clear hK K
   try simp only [Act.put, sL]
   refine wpAnyK_oneL (i := 10) rfl (by kernel_rfl) (fun K hK => ?_)
   have how' : OwI wd1 wr.heap.size (.slice oa xs.length ca) (powL m xs.length xs (k + 1)) := hod1
   obtain ⟨W, hW⟩ : ∃ W : World, W = wd1.alloc (.cells #[.int .i64 m, .slice oa xs.length ca] 34) := ⟨_, rfl⟩
   have hWb1 : Below wd1.heap.size wd1 W := (by rw [hW]; exact bZ)
   have hT : OwLS W (w.heap.size + 1) (.slice (some ⟨bo, off, none⟩) q cv) m (powsL m xs.length xs q) := (hO.below hd1).below hWb1
   have hU : Rds wr.heap.size wd1.heap.size W (fun x => RdI x (.slice oa xs.length ca) (powL m xs.length xs (k + 1))) := (how'.rds hsd1).below hWb1
   have hC0 : W.cell? ⟨wd1.heap.size, 0, none⟩ = some (.int .i64 m) := (by rw [hW]; simp)
   have hC1 : W.cell? ⟨wd1.heap.size, 1, none⟩ = some (.slice oa xs.length ca) := (by rw [hW]; simp)
   have hWb := hd1.trans (hWb1.mono hsd1)
   have hWz := hWb.size
   rw [← hW]
   have HW := Lib.hid hW
   clear hW
   refine stLS W rfl _ _ rfl (w.heap.size + 1) (.slice (some ⟨bo, off, none⟩) q cv) m (powsL m xs.length xs q) rfl hT (by omega) _ (powL m xs.length xs (k + 1)) wd1.heap.size rfl hC0 hC1 rfl ⟨_, _, by omega, hU, fun b hb => .inl (hlt2.out b hb).2⟩ (by rw [powsL_len]; omega) ?_
   intro g cap w5 hO5 hgr hb5
   have B5 := (hB.trans (hWb.mono hBs)).trans (hb5.mono (by omega))
   have hX5 := ((hX.below hWb (nl _)).grown hgr (fun hb => by have := hlt2.out _ hb.symm; omega))
   refine hK.out _ _ (fun h => absurd h (by decide)) ?_
   clear hK K
   try simp only [Act.put, sL]
   refine wpAnyK_oneL (i := 11) rfl (by kernel_rfl) (fun K hK => ?_)
   go_simp
   (try go_wp2_with fail)
   refine hK.out _ _ (fun h => absurd h (by decide)) ?_
   clear hK K
   try simp only [Act.put, sL]
   refine wpAnyK_done (by kernel_rfl) ?_ _
   go_wp2_with fail
   rw [powsL_len, ← HS.out] at hO5
   have hq := HQ.out
   go_wp2
   exact ⟨⟨k + 1, _, _, by omega, by go_num, by rw [powsL_len, hq], by rw [hq] at hO5; exact hO5, B5, hX5⟩, by simp [intOf]; omega⟩
  ·obtain hk1 : k + 1 = xs.length := by omega
   rw [congrArg (powsL m xs.length xs) hk1] at hO
   clear hk1
   go_wp2
   go_ret
   exact ⟨_, rfl, hO.mono (by omega), hB⟩

theorem OwS.lit1 {w : World} {B : Nat} {u : Value} {row : List Int} (h : OwI w B u row) (hB : B ≤ w.heap.size) : OwS (w.alloc (.cells #[u] 28)) B (.slice (some ⟨w.heap.size, 0, none⟩) 1 1) [row] := by
 have hr := World.ownsRow_lit (base := B) (e := 28) (size := 1) w #[u] 1 hB (by unfold maxLen; omega) rfl
 refine ⟨[u], rfl, hr, fun k u' r hk hx => ?_, fun i j u1 u2 b hi hj hb1 hb2 => ?_, fun i u' b hi hb hv => ?_⟩
 ·have : k = 0 := by have := (List.getElem?_eq_some_iff.1 hk).1; simp at this; omega
  subst this
  simp at hk hx
  subst hk hx
  exact h.alloc _
 ·have e1 := (List.getElem?_eq_some_iff.1 hi).1
  have e2 := (List.getElem?_eq_some_iff.1 hj).1
  simp at e1 e2
  omega
 ·have e1 := (List.getElem?_eq_some_iff.1 hi).1
  simp at e1
  subst e1
  simp at hi
  subst hi
  simp only [Value.ownBlock, Option.some.injEq] at hv
  have := (h.lt b hb).2
  omega

theorem l03Powers_c (m : Int) (n : Nat) (v : Value) (xs : List Int) (w : World) (hv : RdI w v xs) (hl : xs.length = n) (h1 : 1 ≤ n) (hn : n ≤ 1000) (hm : 2 ≤ m) (hm' : m ≤ 3000000000)
  (hx : ∀ x ∈ xs, 0 ≤ x ∧ x < m) :
  Calls Tryz.prog 94 #[.int .i64 m, v] w fun e w' => ∃ v', e = .returned v' ∧ OwS w' w.heap.size v' (powsL m n xs n) ∧ Below w.heap.size w w' := by
 subst hl
 obtain ⟨o, c, rfl, hmx, -⟩ := id hv
 unfold maxLen at hmx
 have i00 : (0 : Int) < (xs.length : Int) := by omega
 go_enter Tryz.func94, Tryz.ntmps94
 go_wp2_with (at_make; go_loud (refine mkI _ rfl _ _ rfl _ _ _ xs.length rfl rfl rfl (by omega) ?_; intro w1 how hb1 hs1; have hc0 := how.cell (k := 0) (rep_get xs.length 0 0 (by omega)); have hf0 := how.fz 0; have hz1 : w.heap.size < w1.heap.size := (by omega); have Hn := Lib.hid how; clear how hs1))
 have h2 := OwI.put Hn.out 0 1
 rw [show (List.replicate xs.length (0 : Int)).set 0 1 = powL m xs.length xs 0 by unfold powL; rw [one_mod hm]] at h2
 have B1 := below_put hb1 (g := w.heap.size) (k := 0) (nl _) (.int .i64 1)
 have OL := OwS.lit1 h2 (by have := B1.size; exact this)
 have B2 := B1.alloc B1.size (.cells #[.slice (some ⟨w.heap.size, 0, none⟩) xs.length xs.length] 28)
 rw [show [powL m xs.length xs 0] = powsL m xs.length xs 1 from rfl] at OL
 clear h2 hc0 hf0
 have hsz : (w1.setCell ⟨w.heap.size, 0, none⟩ (.int .i64 1)).heap.size = w1.heap.size := by simp
 rw [hsz] at OL
 clear hsz
 generalize (w1.setCell ⟨w.heap.size, 0, none⟩ (.int .i64 1)).alloc (.cells #[.slice (some ⟨w.heap.size, 0, none⟩) xs.length xs.length] 28) = w2 at OL B2 ⊢
 go_loopw [7, 8] (fun s i wr => ∃ (k : Nat) (ov : Option Addr) (cv : Nat), k + 1 ≤ xs.length ∧ i = .int .i64 k ∧ s = .slice ov (k + 1) cv ∧ OwS wr w.heap.size (.slice ov (k + 1) cv) (powsL m xs.length xs (k + 1)) ∧ Below w.heap.size w wr) (fun _ i _ => xs.length - 1 - (intOf i).toNat)
 case atStart => exact ⟨0, _, _, h1, rfl, rfl, OL, B2⟩
 case round =>
  obtain ⟨k, ov, cv, hk, rfl, rfl, hO, hB⟩ := hrel
  have hBs := hB.size
  by_cases hlt : k + 1 < xs.length
  ·obtain ⟨g, rfl, hgl, hgl'⟩ := hO.row (by omega)
   obtain ⟨o1, c1, y0, hr, -⟩ := hO.get (powsL_get (show k < k + 1 by omega))
   rw [powL_len] at y0 hr
   have hvr := hv.below hB (nl _)
   have HS := Lib.hid (powsL_snoc m xs.length xs (k + 1))
   have i0 : (0 : Int) ≤ (k : Int) := by omega
   have i1 : (k : Int) < ((k + 1 : Nat) : Int) := by omega
   have i2 : (k : Int) < (xs.length : Int) - 1 := by omega
   go_wp2_with (first
    | (go_at_call 97; refine (l02Times_c m _ xs.length _ _ (powL m xs.length xs k) xs _ rfl hr.rd hvr h1 (by omega) hm hm' (powL_range (by omega)) hx).mono ?_; rintro e w3 ⟨va, rfl, how, hb3⟩; obtain ⟨oa, ca, rfl⟩ := how.shapeN (n := xs.length) (timesL_len _ _ _ _); have hz3 := hb3.size)
    | (at_builtin; obtain ⟨W, hW⟩ : ∃ W : World, W = w3.alloc (.cells #[.slice oa xs.length ca] 28) := ⟨_, rfl⟩; have hWb : Below wr.heap.size wr W := (by rw [hW]; exact (by (repeat (first | exact bR _ _ | (refine bS ?_ _) | (refine bA ?_ _) | (refine bN ?_ _) | (refine bD ?_) | (refine bT ?_ hb3))))); have hT : OwSR w.heap.size wr.heap.size W (.slice (some ⟨g, 0, none⟩) (k + 1) cv) (powsL m xs.length xs (k + 1)) := hO.toR.stay (fun j _ hj => hWb.block j hj); have hU : OwI W wr.heap.size (.slice oa xs.length ca) (powL m xs.length xs (k + 1)) := (by rw [hW]; exact how.alloc _); have hC : W.cell? ⟨w3.heap.size, 0, none⟩ = some (.slice oa xs.length ca) := (by rw [hW]; simp); have B3 := hB.trans (hWb.mono hBs); have hWs := hWb.size; rw [← hW]; have HW := Lib.hid hW; clear hW; go_loud (refine apT W rfl _ _ rfl w.heap.size wr.heap.size _ _ rfl hT (by omega) hBs _ _ w3.heap.size rfl hC hU (by rw [powsL_len]; omega) ?_; intro g2 cap w4 hO4 hgr hb4; clear hgr; have B4 := B3.trans hb4)))
   rw [powsL_len, ← HS.out] at hO4
   exact ⟨⟨k + 1, _, _, by omega, by go_num, by rw [powsL_len], hO4, B4⟩, by simp [intOf]; omega⟩
  ·obtain hk1 : k + 1 = xs.length := by omega
   rw [congrArg (powsL m xs.length xs) hk1] at hO
   have i2 : ¬ (k : Int) < (xs.length : Int) - 1 := by omega
   clear hk1
   go_wp2
   go_ret
   exact ⟨_, rfl, hO, hB⟩

end Go.Proofs.YtfpphfjlpgefaaaGreat
