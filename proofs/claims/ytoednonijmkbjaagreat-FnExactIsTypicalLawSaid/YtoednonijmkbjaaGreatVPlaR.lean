/- Lemmas of PlaR. -/
import Derived.Test.YtoednonijmkbjaaGreatVG3
import Derived.Test.YtoednonijmkbjaaGreatVG1
import Derived.Test.YtoednonijmkbjaaGreatVSerR
set_option linter.unusedSimpArgs false
set_option linter.unusedVariables false
namespace Go.Proofs.YtoednonijmkbjaaGreat
open Go.RowKit

set_option maxHeartbeats 1000000 in
set_option maxRecDepth 100000 in
theorem l03Zero_c (d : Int) (n : Nat) (w : World) (hd : d = (n : Int) - 1) (hn : n ≤ 1000) :
    Calls Tryz.prog 79 #[.int .i64 d] w fun e w' => ∃ v', e = .returned v' ∧ OwS w' w.heap.size v' (zeroT n) ∧ Below w.heap.size w w' := by
  subst hd
  go_enter Tryz.func79, Tryz.ntmps79
  go_wp2_with fail
  have O1 := OwS.lit0 w
  have B1 : Below w.heap.size w (w.alloc (.cells #[] 26)) := (by (repeat (first | exact Below.refl _ _ | (refine Below.setCell ?_ (by first | (simp; done) | (simp; omega) | omega) _) | (refine Below.alloc ?_ (by first | (simp; done) | (simp; omega) | omega) _) | (refine below_drewN ?_ _) | (refine Below.drew ?_))))
  generalize w.alloc (.cells #[] 26) = w1 at O1 B1 ⊢
  go_loopw [3, 4] (fun s i wr => ∃ (k : Nat) (ov : Option Addr) (cv : Nat), k ≤ n ∧ i = .int .i64 k ∧ s = .slice ov k cv ∧ OwS wr w.heap.size (.slice ov k cv) (zeroRows n k) ∧ Below w.heap.size w wr) (fun _ i _ => n - (intOf i).toNat)
  case atStart => exact ⟨0, _, _, Nat.zero_le _, rfl, rfl, O1, B1⟩
  case round =>
    obtain ⟨k, ov, cv, hk, rfl, rfl, hO, hB⟩ := hrel
    by_cases hlt : k < n
    · have i1 : (k : Int) ≤ (n : Int) - 1 := by omega
      have hBs := hB.size
      have HS := Lib.hid (zeroRows_snoc n k)
      have HLn := Lib.hid (zeroRows_len n k)
      generalize zeroRows n k = l at hO HS HLn
      go_wp2_with (first
        | (at_make; go_loud (refine mkI _ rfl _ _ rfl _ _ _ (n - k) rfl rfl (by omega) (by omega) ?_; intro w2 how hb2 hs2; have hz2 : wr.heap.size < w2.heap.size := (by omega); clear hs2))
        | (at_builtin; obtain ⟨W, hW⟩ : ∃ W : World, W = w2.alloc (.cells #[.slice (some ⟨wr.heap.size, 0, none⟩) (n - k) (n - k)] 26) := ⟨_, rfl⟩; have hWs : W.heap.size = w2.heap.size + 1 := (by rw [hW]; simp); have hT : OwSR w.heap.size wr.heap.size W (.slice ov k cv) l := (by rw [hW]; exact hO.toR.stay (fun j _ hj => (Below.heap_alloc _ _ j (by omega)).trans (hb2.block j hj))); have hU : OwI W wr.heap.size (.slice (some ⟨wr.heap.size, 0, none⟩) (n - k) (n - k)) (List.replicate (n - k) 0) := (by rw [hW]; exact how.alloc _); have hC : W.cell? ⟨w2.heap.size, 0, none⟩ = some (.slice (some ⟨wr.heap.size, 0, none⟩) (n - k) (n - k)) := (by rw [hW]; simp); have B3 : Below w.heap.size w W := (by rw [hW]; exact hB.trans ((((Below.refl wr.heap.size wr).trans hb2).alloc (Nat.le_of_lt hz2) _).mono hBs)); rw [← hW]; have HW := Lib.hid hW; clear hW; go_loud (refine apT W rfl _ _ rfl w.heap.size wr.heap.size (.slice ov k cv) l rfl hT (by omega) hBs _ _ w2.heap.size rfl hC hU (by rw [HLn.out]; omega) ?_; intro g cap w3 hO3 hgr hb3; clear hgr; have B4 := B3.trans hb3)))
      rw [HLn.out, ← HS.out] at hO3
      exact ⟨⟨k + 1, _, _, by omega, by go_num, by rw [HLn.out], hO3, B4⟩, by simp [intOf]; omega⟩
    · obtain rfl : k = n := by omega
      have i1 : ¬ (k : Int) ≤ (k : Int) - 1 := by omega
      rw [zeroRows_all] at hO
      go_wp2
      go_ret
      exact ⟨_, rfl, hO, hB⟩

set_option maxHeartbeats 1000000 in
set_option maxRecDepth 100000 in
theorem l03Add_c (m : Int) (v u : Value) (xss yss : List (List Int)) (w : World) (hv : RdT w v xss) (hu : RdT w u yss) (hm : 2 ≤ m) (hm' : m ≤ 1000000000000) (hn : xss.length ≤ 1000) (hl : yss.length = xss.length)
    (hx : ∀ i (hi : i < xss.length), xss[i].length = xss.length - i ∧ ∀ x ∈ xss[i], 0 ≤ x ∧ x < m) (hy : ∀ i (hi : i < yss.length), yss[i].length = yss.length - i ∧ ∀ x ∈ yss[i], 0 ≤ x ∧ x < m) :
    Calls Tryz.prog 84 #[.int .i64 m, v, u] w fun e w' => ∃ v', e = .returned v' ∧ OwS w' w.heap.size v' (addT m xss.length xss yss) ∧ Below w.heap.size w w' := by
  obtain ⟨o, c, rfl, hmx, -⟩ := id hv
  obtain ⟨o', c', rfl, hmy, -⟩ := id hu
  unfold maxLen at hmx hmy
  have HL := Lib.hid hl
  have HX := Lib.hid hx
  have HY := Lib.hid hy
  clear hl hx hy
  go_enter Tryz.func84, Tryz.ntmps84
  go_wp2_with fail
  have O1 := OwS.lit0 w
  have B1 : Below w.heap.size w (w.alloc (.cells #[] 26)) := (by (repeat (first | exact Below.refl _ _ | (refine Below.setCell ?_ (by first | (simp; done) | (simp; omega) | omega) _) | (refine Below.alloc ?_ (by first | (simp; done) | (simp; omega) | omega) _) | (refine below_drewN ?_ _) | (refine Below.drew ?_))))
  generalize w.alloc (.cells #[] 26) = w1 at O1 B1 ⊢
  go_loopw [7, 8] (fun s i wr => ∃ (k : Nat) (ov : Option Addr) (cv : Nat), k ≤ xss.length ∧ i = .int .i64 k ∧ s = .slice ov k cv ∧ OwS wr w.heap.size (.slice ov k cv) ((List.range k).map (fun i => mk (xss.length - i) ((fun i j => (atT xss i j + atT yss i j) % m) i))) ∧ Below w.heap.size w wr) (fun _ i _ => xss.length - (intOf i).toNat)
  case atStart => exact ⟨0, _, _, Nat.zero_le _, rfl, rfl, O1, B1⟩
  case round =>
    obtain ⟨k, ov, cv, hk, rfl, rfl, hO, hB⟩ := hrel
    by_cases hlt : k < xss.length
    · have hly : k < yss.length := by have := HL.out; omega
      have hxl := (HX.out k hlt).1
      have hyl := (HY.out k hly).1
      have HE := Lib.hid (show addL m xss[k].length xss[k] yss[k] = mk (xss.length - k) (fun j => (atT xss k j + atT yss k j) % m) by
        unfold addL; rw [hxl]; exact mk_ext fun j _ => by rw [atT_row hlt, atT_row hly])
      have hrl : xss[k].length ≤ yss[k].length := by rw [hxl, hyl, HL.out]; exact Nat.le_refl _
      have hrn : xss[k].length ≤ 1000 := by omega
      have HEl := Lib.hid (addL_len m xss[k].length xss[k] yss[k])
      clear hxl hyl
      obtain ⟨bx, fx, rfl, -⟩ := hv.rows (by omega)
      obtain ⟨by', fy, rfl, -⟩ := hu.rows (by omega)
      obtain ⟨o1, c1, cx0, rx0⟩ := hv.row (show xss[k]? = some xss[k] by simp [hlt])
      obtain ⟨o2, c2, cy0, ry0⟩ := hu.row (show yss[k]? = some yss[k] by simp [hly])
      have cx := keep_cell hB (Nat.le_refl _) cx0
      have cy := keep_cell hB (Nat.le_refl _) cy0
      have rx := rx0.below hB (Nat.le_refl _)
      have ry := ry0.below hB (Nat.le_refl _)
      have hBs := hB.size
      have hclx := cell_lt cx
      have hcly := cell_lt cy
      have HS := Lib.hid (tri_snoc_rows xss.length k (fun i j => (atT xss i j + atT yss i j) % m))
      have HLn := Lib.hid (show ((List.range k).map (fun i => mk (xss.length - i) ((fun i j => (atT xss i j + atT yss i j) % m) i))).length = k by simp)
      generalize (List.range k).map (fun i => mk (xss.length - i) ((fun i j => (atT xss i j + atT yss i j) % m) i)) = l at hO HS HLn
      have i0 : (0 : Int) ≤ (k : Int) := by omega
      have i1 : (k : Int) < (xss.length : Int) := by omega
      have i2 : (k : Int) < (yss.length : Int) := by omega
      go_wp2_with fail
      go_region_held3 (fun w' => w'.cell? ⟨bx, fx + k, none⟩ = some (.slice o1 xss[k].length c1) ∧ w'.cell? ⟨by', fy + k, none⟩ = some (.slice o2 yss[k].length c2)) (go_keep)
        (first
          | (go_at_call 122; refine (l02Add_c m _ _ xss[k] yss[k] _ (rx.below (Below.refl _ _).drew (Nat.le_refl _)) (ry.below (Below.refl _ _).drew (Nat.le_refl _)) hrl (by omega) hm hm' (HX.out k hlt).2 (HY.out k hly).2).mono ?_; rintro e w2 ⟨va, rfl, how, hb2⟩; obtain ⟨oa, ca, rfl⟩ := how.shapeN (n := xss[k].length) HEl.out; have hb2' : Below wr.heap.size wr w2 := ((Below.refl wr.heap.size wr).drew).trans hb2; have how' : OwI w2 wr.heap.size (.slice oa xss[k].length ca) (addL m xss[k].length xss[k] yss[k]) := how; have hz2 := hb2'.size; have cx2 := keep_cell hb2' (Nat.le_refl _) cx; have cy2 := keep_cell hb2' (Nat.le_refl _) cy)
          | (have hq2 := hz2; (obtain ⟨W, hW⟩ : ∃ W : World, W = w2.alloc (.cells #[.slice oa xss[k].length ca] 26) := ⟨_, rfl⟩); have hWs : W.heap.size = w2.heap.size + 1 := (by rw [hW]; simp); have hT : OwSR w.heap.size wr.heap.size W (.slice ov k cv) l := (by rw [hW]; exact hO.toR.stay (fun j _ hj => (Below.heap_alloc _ _ j (by omega)).trans (hb2'.block j hj))); have hU : OwI W wr.heap.size (.slice oa xss[k].length ca) (addL m xss[k].length xss[k] yss[k]) := (by rw [hW]; exact how'.alloc _); have hC : W.cell? ⟨w2.heap.size, 0, none⟩ = some (.slice oa xss[k].length ca) := (by rw [hW]; simp); have B3 : Below w.heap.size w W := (by rw [hW]; exact hB.trans ((((Below.refl wr.heap.size wr).trans hb2').alloc hz2 _).mono hBs)); rw [← hW]; have HW := Lib.hid hW; clear hW; refine stT W rfl _ _ rfl w.heap.size wr.heap.size (.slice ov k cv) l rfl hT (by omega) hBs _ _ w2.heap.size rfl hC hU (by rw [HLn.out]; omega) ?_; intro g cap w3 hO3 hgr hb3; clear hgr; have B4 := B3.trans hb3; have cx3 := keep_cell B4 (Nat.le_refl _) cx0; have cy3 := keep_cell B4 (Nat.le_refl _) cy0)
          | fail)
      rw [HE.out, HLn.out, ← HS.out] at hO3
      go_wp2
      exact ⟨⟨k + 1, _, _, by omega, by go_num, by rw [HLn.out], hO3, B4⟩, by simp [intOf]; omega⟩
    · obtain rfl : k = xss.length := by omega
      go_wp2
      go_ret
      exact ⟨_, rfl, hO, hB⟩

end Go.Proofs.YtoednonijmkbjaaGreat
