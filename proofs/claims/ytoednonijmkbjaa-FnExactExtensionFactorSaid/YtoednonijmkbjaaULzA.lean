/- Lemmas of LzA. -/
import Derived.Test.YtoednonijmkbjaaUG17
import Derived.Test.YtoednonijmkbjaaUG2
import Derived.Test.YtoednonijmkbjaaUG18
set_option linter.unusedSimpArgs false
set_option linter.unusedVariables false
namespace Go.Proofs.Ytoednonijmkbjaa
open Go.RowKit

theorem bin_range : ∀ n k, 0 ≤ bin n k ∧ bin n k ≤ 2 ^ n
  | 0, 0 => ⟨by decide, by decide⟩
  | 0, k + 1 => ⟨by show (0 : Int) ≤ 0; omega, by show (0 : Int) ≤ 1; omega⟩
  | n + 1, 0 => ⟨by show (0 : Int) ≤ 1; omega, by
    have h := (bin_range n 0)
    show (1 : Int) ≤ _
    rw [Int.pow_succ]
    rw [bin_0] at h
    omega⟩
  | n + 1, k + 1 => by
    have h := bin_range n k
    have h' := bin_range n (k + 1)
    show 0 ≤ bin n k + bin n (k + 1) ∧ bin n k + bin n (k + 1) ≤ _
    rw [Int.pow_succ]
    omega
theorem bin_r10 {n : Nat} (hn : n ≤ 10) (k : Nat) : 0 ≤ bin n k ∧ bin n k ≤ 1024 := by
  have h := bin_range n k
  have : (2 : Int) ^ n ≤ 2 ^ 10 := by
    have := Nat.pow_le_pow_right (n := 2) (by omega) hn
    exact_mod_cast this
  exact ⟨h.1, Int.le_trans h.2 this⟩

set_option maxHeartbeats 1000000 in
set_option maxRecDepth 100000 in
theorem binomial_c (n k : Nat) (w : World) (hk : k ≤ n) (hn : n ≤ 10) :
    Calls Try.prog 100 #[.int .i64 n, .int .i64 k] w fun e w' => e = .returned (.int .i64 (bin n k)) ∧ Below w.heap.size w w' := by
  have g0 : ¬ (n : Int) < (k : Int) := by omega
  have g1 : ¬ (k : Int) < 0 := by omega
  go_enter Try.func100, Try.ntmps100
  go_wp2_with fail
  have O1 := OwI.lit w [1] (by decide)
  have B1 : Below w.heap.size w (w.alloc (.cells #[.int .i64 1] 2)) := (by (repeat (first | exact Below.refl _ _ | (refine Below.setCell ?_ (by first | (simp; done) | (simp; omega) | omega) _) | (refine Below.alloc ?_ (by first | (simp; done) | (simp; omega) | omega) _) | (refine below_drewN ?_ _) | (refine Below.drew ?_))))
  simp at O1
  generalize w.alloc (.cells #[.int .i64 1] 2) = w1 at O1 B1 ⊢
  go_loopw [5, 13] (fun row i wr => ∃ q : Nat, q ≤ n ∧ i = .int .i64 q ∧ RdI wr row (mk (q + 1) (bin q)) ∧ Below w.heap.size w wr) (fun _ i _ => n - (intOf i).toNat)
  case atStart => exact ⟨0, Nat.zero_le _, rfl, O1.rd, B1⟩
  case round =>
    clear O1 B1
    obtain ⟨q, hq, rfl, hR, hB⟩ := hrel
    obtain ⟨wo, rfl⟩ : ∃ wo : World, wo = wr := ⟨_, rfl⟩
    have hl : (mk (q + 1) (bin q)).length = q + 1 := mk_len _ _
    obtain ⟨o, c, rfl, hmx, -⟩ := id hR
    unfold maxLen at hmx
    rw [hl] at hR hmx ⊢
    obtain ⟨bx, fx, rfl, -⟩ := hR.cells (by rw [hl]; omega)
    have hBs := hB.size
    by_cases hlt : q < n
    · have i0 : (q : Int) < (n : Int) := by omega
      have O2 := OwI.lit wo [1] (by decide)
      have B2 : Below wo.heap.size wo (wo.alloc (.cells #[.int .i64 1] 2)) := (by (repeat (first | exact Below.refl _ _ | (refine Below.setCell ?_ (by first | (simp; done) | (simp; omega) | omega) _) | (refine Below.alloc ?_ (by first | (simp; done) | (simp; omega) | omega) _) | (refine below_drewN ?_ _) | (refine Below.drew ?_))))
      simp at O2
      rw [show [(1 : Int)] = mk 1 (bin (q + 1)) from rfl] at O2
      go_wp2_with fail
      generalize wo.alloc (.cells #[.int .i64 1] 2) = w2 at O2 B2 ⊢
      go_loopw [6, 7] (fun s i wi => ∃ j : Nat, j ≤ q ∧ i = .int .i64 ((j : Int) + 1) ∧ OwI wi wo.heap.size s (mk (j + 1) (bin (q + 1))) ∧ Below wo.heap.size wo wi) (fun _ i _ => q + 1 - (intOf i).toNat)
      case atStart => exact ⟨0, Nat.zero_le _, rfl, O2, B2⟩
      case round =>
        clear O2 B2
        obtain ⟨j, hj, rfl, hO, hBi⟩ := hrel
        obtain ⟨ov, cv, rfl⟩ := hO.shapeN (n := j + 1) (mk_len _ _)
        by_cases hjl : j < q
        · have cx := (hR.below hBi (Nat.le_refl _)).cell0 (mk_get (f := bin q) (show j < q + 1 by omega))
          have cy := (hR.below hBi (Nat.le_refl _)).cell0 (mk_get (f := bin q) (show j + 1 < q + 1 by omega))
          have r1 := bin_r10 (show q ≤ 10 by omega) j
          have r2 := bin_r10 (show q ≤ 10 by omega) (j + 1)
          have i1 : (0 : Int) ≤ (j : Int) + 1 := by omega
          have i2 : (j : Int) + 1 < (q : Int) + 1 := by omega
          have i2' : (j : Int) < (q : Int) := by omega
          have i3 : (0 : Int) ≤ (j : Int) := by omega
          have i4 : (j : Int) < (q : Int) + 1 := by omega
          have i7 : ((j : Int) + 1).toNat = j + 1 := by omega
          have e0 : IntKind.i64.wrap ((j : Int) + 1 - 1) = (j : Int) := by rw [IntWalk.i64_in _ (by omega)]; omega
          have e0' : IntKind.i64.wrap (j : Int) = (j : Int) := IntWalk.i64_in _ (by omega)
          have e1 : IntKind.i64.wrap (bin q j + bin q (j + 1)) = bin q j + bin q (j + 1) := IntWalk.i64_in _ (by omega)
          have HS := Lib.hid (show mk (j + 1 + 1) (bin (q + 1)) = mk (j + 1) (bin (q + 1)) ++ [bin q j + bin q (j + 1)] by rw [mk_snoc]; rfl)
          have hBis := hBi.size
          go_wp2_with fail
          go_region_held3 (fun w' => w'.cell? ⟨bx, fx + j, none⟩ = some (.int .i64 (bin q j)) ∧ w'.cell? ⟨bx, fx + (j + 1), none⟩ = some (.int .i64 (bin q (j + 1)))) (go_keep)
            ((refine stI wr rfl _ _ rfl wo.heap.size (.slice ov (j + 1) cv) _ rfl hO _ rfl (by rw [mk_len]; omega) (by omega) ?_; intro v' w4 hO3 hb3; have cx2 := (hR.below (hBi.trans hb3) (Nat.le_refl _)).cell0 (mk_get (f := bin q) (show j < q + 1 by omega)); have cy2 := (hR.below (hBi.trans hb3) (Nat.le_refl _)).cell0 (mk_get (f := bin q) (show j + 1 < q + 1 by omega))))
          rw [← HS.out] at hO3
          go_wp2
          exact ⟨⟨j + 1, by omega, by go_num, hO3, hBi.trans hb3⟩, by simp [intOf]; omega⟩
        · obtain rfl : j = q := by omega
          have i3 : ¬ ((j : Int) + 1 < (j : Int) + 1) := by omega
          have HS := Lib.hid (show mk (j + 1 + 1) (bin (j + 1)) = mk (j + 1) (bin (j + 1)) ++ [1] by rw [mk_snoc, bin_self])
          have hBis := hBi.size
          go_wp2_with (at_builtin; refine apI wr rfl _ _ rfl wo.heap.size (.slice ov (j + 1) cv) _ rfl hO _ rfl (by rw [mk_len]; omega) (by omega) ?_; intro v' w4 hO3 hgr hb3 hlt3; clear hgr)
          rw [← HS.out] at hO3
          exact ⟨⟨j + 1, by omega, by go_num, hO3.rd, hB.trans ((hBi.trans hb3).mono hBs)⟩, by simp [intOf]; omega⟩
    · obtain rfl : q = n := by omega
      have cx := hR.cell0 (mk_get (f := bin q) (show k < q + 1 by omega))
      have i1 : (k : Int) < (q : Int) + 1 := by omega
      go_wp2
      go_ret
      exact ⟨rfl, hB⟩
set_option maxHeartbeats 1000000 in
set_option maxRecDepth 100000 in
theorem l01Binomial_c (n k : Nat) (w : World) (hk : k ≤ n) (hn : n ≤ 10) :
    Calls Try.prog 94 #[.int .i64 n, .int .i64 k] w fun e w' => e = .returned (.int .i64 (bin n k)) ∧ Below w.heap.size w w' := by
  have g0 : ¬ (n : Int) < (k : Int) := by omega
  have g1 : ¬ (k : Int) < 0 := by omega
  go_enter Try.func94, Try.ntmps94
  go_wp2_with fail
  have O1 := OwI.lit w [1] (by decide)
  have B1 : Below w.heap.size w (w.alloc (.cells #[.int .i64 1] 2)) := (by (repeat (first | exact Below.refl _ _ | (refine Below.setCell ?_ (by first | (simp; done) | (simp; omega) | omega) _) | (refine Below.alloc ?_ (by first | (simp; done) | (simp; omega) | omega) _) | (refine below_drewN ?_ _) | (refine Below.drew ?_))))
  simp at O1
  generalize w.alloc (.cells #[.int .i64 1] 2) = w1 at O1 B1 ⊢
  go_loopw [5, 6] (fun row i wr => ∃ q : Nat, q ≤ n ∧ i = .int .i64 q ∧ RdI wr row (mk (q + 1) (bin q)) ∧ Below w.heap.size w wr) (fun _ i _ => n - (intOf i).toNat)
  case atStart => exact ⟨0, Nat.zero_le _, rfl, O1.rd, B1⟩
  case round =>
    clear O1 B1
    obtain ⟨q, hq, rfl, hR, hB⟩ := hrel
    obtain ⟨wo, rfl⟩ : ∃ wo : World, wo = wr := ⟨_, rfl⟩
    have hl : (mk (q + 1) (bin q)).length = q + 1 := mk_len _ _
    obtain ⟨o, c, rfl, hmx, -⟩ := id hR
    unfold maxLen at hmx
    rw [hl] at hR hmx ⊢
    obtain ⟨bx, fx, rfl, -⟩ := hR.cells (by rw [hl]; omega)
    have hBs := hB.size
    by_cases hlt : q < n
    · have i0 : (q : Int) < (n : Int) := by omega
      have O2 := OwI.lit wo [1] (by decide)
      have B2 : Below wo.heap.size wo (wo.alloc (.cells #[.int .i64 1] 2)) := (by (repeat (first | exact Below.refl _ _ | (refine Below.setCell ?_ (by first | (simp; done) | (simp; omega) | omega) _) | (refine Below.alloc ?_ (by first | (simp; done) | (simp; omega) | omega) _) | (refine below_drewN ?_ _) | (refine Below.drew ?_))))
      simp at O2
      rw [show [(1 : Int)] = mk 1 (bin (q + 1)) from rfl] at O2
      go_wp2_with fail
      generalize wo.alloc (.cells #[.int .i64 1] 2) = w2 at O2 B2 ⊢
      go_loopw [7, 8] (fun s i wi => ∃ j : Nat, j ≤ q ∧ i = .int .i64 ((j : Int) + 1) ∧ OwI wi wo.heap.size s (mk (j + 1) (bin (q + 1))) ∧ Below wo.heap.size wo wi) (fun _ i _ => q + 1 - (intOf i).toNat)
      case atStart => exact ⟨0, Nat.zero_le _, rfl, O2, B2⟩
      case round =>
        clear O2 B2
        obtain ⟨j, hj, rfl, hO, hBi⟩ := hrel
        obtain ⟨ov, cv, rfl⟩ := hO.shapeN (n := j + 1) (mk_len _ _)
        by_cases hjl : j < q
        · have cx := (hR.below hBi (Nat.le_refl _)).cell0 (mk_get (f := bin q) (show j < q + 1 by omega))
          have cy := (hR.below hBi (Nat.le_refl _)).cell0 (mk_get (f := bin q) (show j + 1 < q + 1 by omega))
          have r1 := bin_r10 (show q ≤ 10 by omega) j
          have r2 := bin_r10 (show q ≤ 10 by omega) (j + 1)
          have i1 : (0 : Int) ≤ (j : Int) + 1 := by omega
          have i2 : (j : Int) + 1 < (q : Int) + 1 := by omega
          have i2' : (j : Int) < (q : Int) := by omega
          have i3 : (0 : Int) ≤ (j : Int) := by omega
          have i4 : (j : Int) < (q : Int) + 1 := by omega
          have i7 : ((j : Int) + 1).toNat = j + 1 := by omega
          have e0 : IntKind.i64.wrap ((j : Int) + 1 - 1) = (j : Int) := by rw [IntWalk.i64_in _ (by omega)]; omega
          have e0' : IntKind.i64.wrap (j : Int) = (j : Int) := IntWalk.i64_in _ (by omega)
          have e1 : IntKind.i64.wrap (bin q j + bin q (j + 1)) = bin q j + bin q (j + 1) := IntWalk.i64_in _ (by omega)
          have HS := Lib.hid (show mk (j + 1 + 1) (bin (q + 1)) = mk (j + 1) (bin (q + 1)) ++ [bin q j + bin q (j + 1)] by rw [mk_snoc]; rfl)
          have hBis := hBi.size
          go_wp2_with fail
          go_region_held3 (fun w' => w'.cell? ⟨bx, fx + j, none⟩ = some (.int .i64 (bin q j)) ∧ w'.cell? ⟨bx, fx + (j + 1), none⟩ = some (.int .i64 (bin q (j + 1)))) (go_keep)
            ((refine stI wr rfl _ _ rfl wo.heap.size (.slice ov (j + 1) cv) _ rfl hO _ rfl (by rw [mk_len]; omega) (by omega) ?_; intro v' w4 hO3 hb3; have cx2 := (hR.below (hBi.trans hb3) (Nat.le_refl _)).cell0 (mk_get (f := bin q) (show j < q + 1 by omega)); have cy2 := (hR.below (hBi.trans hb3) (Nat.le_refl _)).cell0 (mk_get (f := bin q) (show j + 1 < q + 1 by omega))))
          rw [← HS.out] at hO3
          go_wp2
          exact ⟨⟨j + 1, by omega, by go_num, hO3, hBi.trans hb3⟩, by simp [intOf]; omega⟩
        · obtain rfl : j = q := by omega
          have i3 : ¬ ((j : Int) + 1 < (j : Int) + 1) := by omega
          have HS := Lib.hid (show mk (j + 1 + 1) (bin (j + 1)) = mk (j + 1) (bin (j + 1)) ++ [1] by rw [mk_snoc, bin_self])
          have hBis := hBi.size
          go_wp2_with (at_builtin; refine apI wr rfl _ _ rfl wo.heap.size (.slice ov (j + 1) cv) _ rfl hO _ rfl (by rw [mk_len]; omega) (by omega) ?_; intro v' w4 hO3 hgr hb3 hlt3; clear hgr)
          rw [← HS.out] at hO3
          exact ⟨⟨j + 1, by omega, by go_num, hO3.rd, hB.trans ((hBi.trans hb3).mono hBs)⟩, by simp [intOf]; omega⟩
    · obtain rfl : q = n := by omega
      have cx := hR.cell0 (mk_get (f := bin q) (show k < q + 1 by omega))
      have i1 : (k : Int) < (q : Int) + 1 := by omega
      go_wp2
      go_ret
      exact ⟨rfl, hB⟩
end Go.Proofs.Ytoednonijmkbjaa
