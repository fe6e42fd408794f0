/- Lemmas of SRef. -/
import Derived.Test.YtmmneicblcjkjaaQSRev
import Derived.Test.YtmmneicblcjkjaaQG3
import Derived.Deep.RegionHeld3
set_option linter.unusedSimpArgs false
set_option linter.unusedVariables false
namespace Go.Proofs.Ytmmneicblcjkjaa
open Go.RowKit

set_option maxHeartbeats 4000000 in
set_option maxRecDepth 100000 in
theorem l02Inverse_c (m d : Int) (n : Nat) (v : Value) (xs : List Int) (w : World) (hd : d + 1 = (n : Int)) (hv : RdI w v xs) (hl : xs.length = n) (h1 : 1 ≤ n) (hn : n ≤ 1000) (hm : 2 ≤ m) (hm' : m ≤ 10000) (hx : ∀ x ∈ xs, 0 ≤ x ∧ x < m) :
    Calls Try.prog 29 #[.int .i64 m, v, .int .i64 d] w fun e w' => ∃ v', e = .returned v' ∧ OwI w' w.heap.size v' (invS m n xs) ∧ Below w.heap.size w w' := by
  subst hl
  obtain ⟨o, c, rfl, hmx, -⟩ := id hv
  unfold maxLen at hmx
  obtain ⟨bx, fx, rfl, hcx⟩ := hv.cells (by omega)
  have cx : w.cell? ⟨bx, fx, none⟩ = some (.int .i64 (at0 xs 0)) := hcx 0 _ (some_at0 (by omega))
  have hxr := at0_range (by omega) hx 0
  obtain ⟨u, hu⟩ : ∃ u, u = invM m (at0 xs 0) := ⟨_, rfl⟩
  have hur : 0 ≤ u ∧ u < m := by rw [hu]; exact invM_range (by omega) _
  have HU := Lib.hid hu
  clear hcx hu
  have i0 : (0 : Int) < (xs.length : Int) := by omega
  have i2 : 0 < xs.length := by omega
  go_enter Try.func29, Try.ntmps29
  go_wp2_with (go_at_call 48; refine (l01Inv_c m (at0 xs 0) _ hm (by omega) (by omega) (by omega)).mono ?_; rw [← HU.out]; rintro e w' ⟨rfl, rfl⟩)
  have O1 := OwI.lit w [u] (by simp [maxLen])
  simp at O1
  have HG0 := Lib.hid (show [u] = invG m xs 0 by rw [HU.out]; rfl)
  rw [HG0.out] at O1
  have B1 : Below w.heap.size w (w.alloc (.cells #[.int .i64 u] 2)) := (by (repeat (first | exact Below.refl _ _ | (refine Below.setCell ?_ (by first | (simp; done) | (simp; omega) | omega) _) | (refine Below.alloc ?_ (by first | (simp; done) | (simp; omega) | omega) _) | (refine below_drewN ?_ _) | (refine Below.drew ?_))))
  generalize w.alloc (.cells #[.int .i64 u] 2) = w1 at O1 B1 ⊢
  go_loopw [8, 9, 10, 11] (fun so i _ _ wr => ∃ (k : Nat) (ov : Option Addr) (cv : Nat), k + 1 ≤ xs.length ∧ i = .int .i64 ((k : Int) + 1) ∧ so = .slice ov (k + 1) cv ∧ OwI wr w.heap.size (.slice ov (k + 1) cv) (invG m xs k) ∧ Below w.heap.size w wr) (fun _ i _ _ _ => xs.length - (intOf i).toNat)
  case atStart => exact ⟨0, _, _, by omega, by go_num, rfl, O1, B1⟩
  case round =>
    clear O1 B1
    obtain ⟨k, ov, cv, hk, rfl, rfl, hO, hB⟩ := hrel
    have hBs := hB.size
    have HLg := Lib.hid (invG_len m xs k)
    by_cases hlt : k + 1 < xs.length
    · have i4 : (k : Int) + 1 ≤ d := by omega
      obtain ⟨gv, rfl, hgv, hgv'⟩ := hO.row (by omega)
      have hvr := hv.below hB (Nat.le_refl _)
      go_wp2_with fail
      go_loopw [10, 11] (fun s i w2 => ∃ j : Nat, j ≤ k + 1 ∧ s = .int .i64 (sumTo m xs (invG m xs k) (k + 1) j) ∧ i = .int .i64 ((j : Int) + 1) ∧ ∃ e, w2 = wr.drewN e) (fun _ i _ => k + 2 - (intOf i).toNat)
      case atStart => exact ⟨0, by omega, by simp [sumTo, sumN], by go_num, 0, rfl⟩
      case round =>
        obtain ⟨j, hj, rfl, rfl, e, rfl⟩ := hrel
        by_cases hjl : j < k + 1
        · have i5 : (j : Int) + 1 ≤ (k : Int) + 1 := by omega
          have i6 : (j : Int) + 1 < (xs.length : Int) := by omega
          have i7 : (0 : Int) ≤ (j : Int) + 1 := by omega
          have i8 : ((j : Int) + 1).toNat = j + 1 := by omega
          have cj := hvr.cell0 (some_at0 (show j + 1 < xs.length by omega))
          have cg := hO.cell (k := k + 1 - (j + 1)) (some_at0 (show k + 1 - (j + 1) < (invG m xs k).length by rw [HLg.out]; omega))
          have hxj := at0_range (by omega) hx (j + 1)
          have hgj := at0_range (by omega) (invG_range (m := m) (show 0 < m by omega) xs k) (k + 1 - (j + 1))
          have hsr := sumTo_range (show 0 < m by omega) xs (invG m xs k) (k + 1) j
          have HS := Lib.hid (sumTo_step (m := m) (a := xs) (b := invG m xs k) (n := k + 1) (i := j))
          obtain ⟨p, hp0⟩ : ∃ p, p = k + 1 - (j + 1) := ⟨_, rfl⟩
          rw [← hp0] at cg hgj HS
          have d0 : (k : Int) + 1 - ((j : Int) + 1) = (p : Int) := by omega
          have d1 : (0 : Int) ≤ (p : Int) := by omega
          have d2 : (p : Int) < ((k + 1 : Nat) : Int) := by omega
          have d3 : (p : Int) < (k : Int) + 1 := by omega
          have d4 : IntKind.i64.wrap (p : Int) = (p : Int) := IntWalk.i64_in _ (by omega)
          have HP := Lib.hid hp0
          clear hp0
          generalize at0 xs (j + 1) = x at cj hxj HS
          generalize at0 (invG m xs k) p = y at cg hgj HS
          generalize sumTo m xs (invG m xs k) (k + 1) j = s at hsr HS ⊢
          have hp := Int.mul_nonneg hxj.1 hgj.1
          have hp2 : x * y ≤ 10000 * 10000 := Int.mul_le_mul (by omega) (by omega) hgj.1 (by omega)
          have m0 : (m == 0) = false := by simp; omega
          have m1 : ¬ m = 0 := by omega
          have e1 : IntKind.i64.wrap (x * y) = x * y := IntWalk.i64_in _ (by omega)
          have e2 : IntKind.i64.wrap (s + x * y) = s + x * y := IntWalk.i64_in _ (by omega)
          have e3 : (s + x * y).tmod m = (s + x * y) % m := Int.tmod_eq_emod_of_nonneg (by omega)
          go_wp2_with fail
          go_quiet (fail)
          go_wp2
          exact ⟨⟨j + 1, by omega, by rw [← HS.out], by go_num, e + nq, by first | rfl | rw [World.drewN_drewN]⟩, by simp [intOf]; omega⟩
        · obtain rfl : j = k + 1 := by omega
          have i5 : ¬ ((k + 1 : Nat) : Int) + 1 ≤ (k : Int) + 1 := by omega
          have hsr := sumTo_range (show 0 < m by omega) xs (invG m xs k) (k + 1) (k + 1)
          have HS := Lib.hid (show invG m xs k ++ [(m - sumTo m xs (invG m xs k) (k + 1) (k + 1)) * u % m] = invG m xs (k + 1) by rw [HU.out, inv_step (Nat.le_refl _) (.inl rfl)]; rfl)
          generalize sumTo m xs (invG m xs k) (k + 1) (k + 1) = s at hsr HS ⊢
          have hp := Int.mul_nonneg (show 0 ≤ m - s by omega) hur.1
          have hp2 : (m - s) * u ≤ 10000 * 10000 := Int.mul_le_mul (by omega) (by omega) hur.1 (by omega)
          have m0 : (m == 0) = false := by simp; omega
          have m1 : ¬ m = 0 := by omega
          have e1 : IntKind.i64.wrap (m - s) = m - s := IntWalk.i64_in _ (by omega)
          have e2 : IntKind.i64.wrap ((m - s) * u) = (m - s) * u := IntWalk.i64_in _ (by omega)
          have e3 : ((m - s) * u).tmod m = (m - s) * u % m := Int.tmod_eq_emod_of_nonneg (by omega)
          have Hd : Below w.heap.size w (wr.drewN e) := (by (repeat (first | exact Below.refl _ _ | (refine Below.setCell ?_ (by first | (simp; done) | (simp; omega) | omega) _) | (refine Below.alloc ?_ (by first | (simp; done) | (simp; omega) | omega) _) | (refine below_drewN ?_ _) | (refine Below.drew ?_) | (refine Below.trans ?_ (Below.mono hB (by first | (simp; done) | (simp; omega) | omega))))))
          have HdO := hO.drewN e
          have Hds := Hd.size
          generalize wr.drewN e = w2 at Hd HdO Hds ⊢
          go_wp2_with (at_builtin; refine apI w2 rfl _ _ rfl w.heap.size (.slice (some ⟨gv, 0, none⟩) (k + 1) cv) (invG m xs k) rfl HdO ((m - s) * u % m) rfl (by rw [HLg.out]; omega) (by omega) ?_; intro v' w4 hO3 hgr hb3 hlt3; clear hgr)
          rw [HS.out] at hO3
          obtain ⟨o4, c4, rfl⟩ := hO3.shapeN (n := k + 1 + 1) (invG_len _ _ _)
          exact ⟨⟨k + 1, _, _, by omega, by go_num, rfl, hO3, Hd.trans (hb3.mono (Nat.le_refl _))⟩, by simp [intOf]; omega⟩
    · have hk' : k = xs.length - 1 := by omega
      have HI := Lib.hid (show invG m xs k = invS m xs.length xs by rw [hk']; rfl)
      have i4 : ¬ (k : Int) + 1 ≤ d := by omega
      rw [HI.out] at hO
      clear hk'
      go_wp2
      go_ret
      exact ⟨_, rfl, hO, hB⟩

end Go.Proofs.Ytmmneicblcjkjaa
