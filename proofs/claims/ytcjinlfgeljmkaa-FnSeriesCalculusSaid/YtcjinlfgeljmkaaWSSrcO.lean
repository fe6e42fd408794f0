/- Lemmas of SrcO. -/
import Derived.Test.YtcjinlfgeljmkaaWSSrcD
set_option linter.unusedSimpArgs false
set_option linter.unusedVariables false
namespace Go.Proofs.Ytcjinlfgeljmkaa
open Go.RowKit

set_option maxHeartbeats 1000000 in
set_option maxRecDepth 100000 in
theorem l02Divisor_d (B n b : Nat) (m : Int) (w : World) (hs : Src w B n b) :
    Calls Try.prog 136 #[.pointer (some ⟨b, 0, none⟩), .int .i64 m] w fun e w' => NEnd w w' B n b e := by
  have hlt := hs.lt
  go_enter Try.func136, Try.ntmps136
  go_wp2_with fail
  refine (next_d B n b _ w hs).mono ?_
  rintro e w1 ⟨x, rfl, x0, x1, x2, hd1, hz1⟩
  have x1 := x1 (by omega)
  clear x2 hz1
  obtain ⟨K, rfl⟩ : ∃ k : Nat, x = k := ⟨x.toNat, by omega⟩
  go_wp2_with fail
  go_loopw [5, 6] (fun d i wr => ∃ (j : Nat) (D : Int), j ≤ 3 ∧ i = .int .i64 j ∧ d = .int .i64 D ∧ DW B n b w wr) (fun _ i _ => (intOf i).toNat)
  case atStart => exact ⟨K, m, by omega, rfl, rfl, hd1⟩
  case round =>
    clear hd1
    obtain ⟨j, D, hj, rfl, rfl, hD⟩ := hrel
    by_cases hg : 0 < j ∧ 1 < m
    · obtain ⟨hj0, hm⟩ := hg
      have i1 : (0 : Int) < (j : Int) := by omega
      go_wp2_with fail
      refine (pick_d B n b _ _ [2, 3, 5, 7] _ wr hD.src rfl rfl rfl (by simp) (by simp)).mono ?_
      rintro e w2 ⟨p, rfl, hp, hd2, hz2⟩
      have hp : 2 ≤ p ∧ p ≤ 7 := by simp at hp; omega
      obtain ⟨p2, p7⟩ := hp
      have pz : p ≠ 0 := by omega
      have pb : (p == 0) = false := by simp; omega
      have hD2 := hD.trans hd2
      clear hz2 hd2
      go_wp2_with fail
      all_goals exact ⟨⟨j - 1, _, by omega, by go_num, rfl, hD2⟩, by simp [intOf]; omega⟩
    · have hcase : j = 0 ∨ (0 < j ∧ ¬ 1 < m) := by omega
      rcases hcase with rfl | ⟨hj0, hm⟩
      all_goals
        first | have i1 : (0 : Int) < (j : Int) := by omega | skip
        clear hg
        go_wp2_with fail
        refine (next_d B n b _ wr hD.src).mono ?_
        rintro e w2 ⟨t, rfl, t0, t1, t2, hd2, hz2⟩
        have hD2 := hD.trans hd2
        clear t1 t2 hz2 hd2
        by_cases ht : t = 0
        · subst ht
          go_wp2_with fail
          refine (pick_d B n b _ _ [1, 0, _, _, 3] _ w2 hD2.src rfl rfl rfl (by simp) (by simp)).mono ?_
          rintro e w3 ⟨r, rfl, hr, hd3, hz3⟩
          go_wp2_with fail
          go_ret
          exact ⟨r, rfl, hD2.trans hd3⟩
        · have ht' : ¬ t = 0 := ht
          go_wp2_with fail
          go_ret
          exact ⟨D, rfl, hD2⟩
end Go.Proofs.Ytcjinlfgeljmkaa
