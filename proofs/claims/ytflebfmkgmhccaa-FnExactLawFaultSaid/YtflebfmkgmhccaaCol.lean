/- A column of a table: the reference's function. -/
import Derived.Test.YtflebfmkgmhccaaFauB
import Derived.Test.YtflebfmkgmhccaaPlaT
set_option linter.unusedSimpArgs false
set_option linter.unusedVariables false
namespace Go.Proofs.Ytflebfmkgmhccaa
open Go.RowKit

theorem colT_range {m : Int} {n : Nat} {t : List (List Int)} (ht : PlaT m n t) (j : Nat) : ∀ x ∈ colT t n j, 0 ≤ x ∧ x < m := by
  intro x hx
  obtain ⟨k, hk, rfl⟩ := mem_mk hx
  obtain ⟨-, -, -, -, h1, h2⟩ := ht.at (i := k) (j := j) (by omega)
  exact ⟨h1, h2⟩

set_option maxHeartbeats 1000000 in
set_option maxRecDepth 100000 in
theorem l04Column_c (m : Int) (n j : Nat) (v : Value) (t : List (List Int)) (w : World) (hv : RdT w v t) (h1 : 1 ≤ n) (hn : n ≤ 1000) (hj : j ≤ n) (ht : PlaT m n t) :
    Calls Try.prog 105 #[v, .int .i64 j] w fun e w' => ∃ v', e = .returned v' ∧ OwI w' w.heap.size v' (colT t n j) ∧ Below w.heap.size w w' := by
  obtain ⟨o, c, rfl, hmx, -⟩ := id hv
  have hu : RdT w (.slice o n c) t := by rw [ht.1] at hv; exact hv
  rw [ht.1] at hmx ⊢
  clear hv
  unfold maxLen at hmx
  have HT := Lib.hid ht
  obtain ⟨bt, ft, rfl, -⟩ := hu.rows (by rw [ht.1]; omega)
  clear ht
  have j0 : (0 : Int) ≤ (j : Int) := by omega
  go_enter Try.func105, Try.ntmps105
  go_wp2_with fail
  have O1 := OwI.lit w [] (by decide)
  have B1 : Below w.heap.size w (w.alloc (.cells #[] 2)) := (by (repeat (first | exact Below.refl _ _ | (refine Below.setCell ?_ (by first | (simp; done) | (simp; omega) | omega) _) | (refine Below.alloc ?_ (by first | (simp; done) | (simp; omega) | omega) _) | (refine below_drewN ?_ _) | (refine Below.drew ?_))))
  simp at O1
  generalize w.alloc (.cells #[] 2) = w1 at O1 B1 ⊢
  go_loopw [5, 6] (fun s i wr => ∃ k : Nat, k ≤ n - j ∧ i = .int .i64 k ∧ OwI wr w.heap.size s (mk k (fun i => atT t i j)) ∧ Below w.heap.size w wr) (fun _ i _ => n - j - (intOf i).toNat)
  case atStart => exact ⟨0, Nat.zero_le _, rfl, O1, B1⟩
  case round =>
    obtain ⟨k, hk, rfl, hO, hB⟩ := hrel
    obtain ⟨ov, cv, rfl⟩ := hO.shapeN (n := k) (mk_len _ _)
    by_cases hlt : k < n - j
    · obtain ⟨r1, hr1, hl1, hj1⟩ := HT.out.row (show k < n by omega)
      obtain ⟨p1, q1, cx0, rx0⟩ := hu.row hr1
      rw [hl1] at cx0 rx0
      obtain ⟨b1, f1, rfl, -⟩ := rx0.cells (by omega)
      have cx := keep_cell hB (Nat.le_refl _) cx0
      have ex := (rx0.below hB (Nat.le_refl _)).cell0 (hj1 j (by omega))
      have HS := Lib.hid (mk_snoc k (fun i => atT t i j))
      have hBs := hB.size
      have i0 : (0 : Int) ≤ (k : Int) := by omega
      have i1 : (k : Int) < (n : Int) := by omega
      have i2 : (k : Int) + (j : Int) < (n : Int) := by omega
      have i3 : (j : Int) < ((n - k : Nat) : Int) := by omega
      clear hr1 hl1 hj1 cx0
      go_wp2_with (at_builtin; refine apI wr rfl _ _ rfl w.heap.size (.slice ov k cv) _ rfl hO (atT t k j) (by go_simp) (by rw [mk_len]; omega) (by omega) ?_; intro v' w4 hO3 hgr hb3 hlt3; clear hgr)
      rw [← HS.out] at hO3
      go_wp2
      exact ⟨⟨k + 1, by omega, by go_num, hO3, hB.trans hb3⟩, by simp [intOf]; omega⟩
    · obtain rfl : k = n - j := by omega
      have i2 : ¬ ((n - j : Nat) : Int) + (j : Int) < (n : Int) := by omega
      go_wp2
      go_ret
      exact ⟨_, rfl, hO, hB⟩
end Go.Proofs.Ytflebfmkgmhccaa
