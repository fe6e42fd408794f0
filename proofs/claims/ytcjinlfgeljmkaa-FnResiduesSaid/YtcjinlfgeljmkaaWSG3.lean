/- Lemmas of G3. -/
import Derived.Test.YtcjinlfgeljmkaaWSG2
import Derived.Test.YtcjinlfgeljmkaaWSG1
import Derived.Deep.RegionHeld3
import Derived.Deep.DeepCutAuto
import Derived.StillTailTactics
/- Whether something is a series, a curve; whether two are alike: the program's answers and the reference's. -/
set_option linter.unusedSimpArgs false
set_option linter.unusedVariables false
namespace Go.Proofs.Ytcjinlfgeljmkaa
open Go.RowKit

end Go.Proofs.Ytcjinlfgeljmkaa

/- Whether something is a plane; whether two are alike: the program's answers and the reference's. -/
set_option linter.unusedSimpArgs false
set_option linter.unusedVariables false
namespace Go.Proofs.Ytcjinlfgeljmkaa
open Go.RowKit

end Go.Proofs.Ytcjinlfgeljmkaa

/- Whether two planes are alike. -/
set_option linter.unusedSimpArgs false
set_option linter.unusedVariables false
namespace Go.Proofs.Ytcjinlfgeljmkaa
open Go.RowKit

end Go.Proofs.Ytcjinlfgeljmkaa

/- Arithmetic modulo a number: the program's functions and the reference's. -/
set_option linter.unusedSimpArgs false
set_option linter.unusedVariables false
namespace Go.Proofs.Ytcjinlfgeljmkaa
open Go.RowKit

set_option maxHeartbeats 400000 in
theorem mod_c (n m : Int) (w : World) (hm : 0 < m) (hm' : m ≤ 1000000000000000000) (h1 : -9000000000000000000 ≤ n) (h2 : n ≤ 9000000000000000000) :
    Calls Try.prog 199 #[.int .i64 n, .int .i64 m] w fun e w' => e = .returned (.int .i64 (n % m)) ∧ w = w' := by
  have h3 : -m < n.tmod m := Int.lt_tmod_of_pos _ hm
  have h4 : n.tmod m < m := Int.tmod_lt_of_pos _ hm
  have HE := Lib.hid (tmod_mod (n := n) (m := m))
  go_enter Try.func199, Try.ntmps199
  go_wp2
  go_ret
  exact ⟨by rw [← HE.out]; rfl, rfl⟩

set_option maxHeartbeats 400000 in
theorem scale_c (p n : Int) (k : Nat) (w : World) (hn : n = k) (hp : 1 ≤ p) (hk : p ^ k ≤ 9223372036854775807) (hk' : k ≤ 1000) :
    Calls Try.prog 193 #[.int .i64 p, .int .i64 n] w fun e w' => e = .returned (.int .i64 (p ^ k)) ∧ w = w' := by
  subst hn
  go_enter Try.func193, Try.ntmps193
  go_wp2
  go_loop [5, 7] (fun out i => ∃ j : Nat, j ≤ k ∧ i = .int .i64 j ∧ out = .int .i64 (p ^ j)) (fun _ i => k - (intOf i).toNat)
  case atStart => exact ⟨0, Nat.zero_le _, rfl, by simp⟩
  case round =>
    obtain ⟨j, hj, rfl, rfl⟩ := hrel
    by_cases hlt : j < k
    · have h1 := pow_pos' hp j
      have h2 := pow_le hp (show j + 1 ≤ k by omega)
      rw [Int.pow_succ] at h2
      have h3 : 0 ≤ p ^ j * p := Int.mul_nonneg (by omega) (by omega)
      have h4 : p ^ j * p ≤ 9223372036854775807 := by omega
      generalize hq : p ^ j = q at *
      have Hq := Lib.hid hq
      clear hq
      go_wp2
      exact ⟨⟨j + 1, by omega, by go_num, by rw [Int.pow_succ, Hq.out]⟩, by simp [intOf]; omega⟩
    · obtain rfl : j = k := by omega
      go_wp2
      go_ret
      exact ⟨rfl, rfl⟩

set_option maxHeartbeats 400000 in
theorem l13Raise_c (p n : Int) (k : Nat) (w : World) (hn : n = k) (hp : 1 ≤ p) (hk : p ^ k ≤ 9223372036854775807) (hk' : k ≤ 1000) :
    Calls Try.prog 195 #[.int .i64 p, .int .i64 n] w fun e w' => e = .returned (.int .i64 (p ^ k)) ∧ w = w' := by
  subst hn
  go_enter Try.func195, Try.ntmps195
  go_wp2
  go_loop [1, 5] (fun i out => ∃ j : Nat, j ≤ k ∧ i = .int .i64 ((k : Int) - j) ∧ out = .int .i64 (p ^ j)) (fun i _ => (intOf i).toNat)
  case atStart => exact ⟨0, Nat.zero_le _, by go_num, by simp⟩
  case round =>
    obtain ⟨j, hj, rfl, rfl⟩ := hrel
    by_cases hlt : j < k
    · have h1 := pow_pos' hp j
      have h2 := pow_le hp (show j + 1 ≤ k by omega)
      rw [Int.pow_succ] at h2
      have h3 : 0 ≤ p ^ j * p := Int.mul_nonneg (by omega) (by omega)
      have h4 : p ^ j * p ≤ 9223372036854775807 := by omega
      generalize hq : p ^ j = q at *
      have Hq := Lib.hid hq
      clear hq
      go_wp2
      exact ⟨⟨j + 1, by omega, by go_num, by rw [Int.pow_succ, Hq.out]⟩, by simp [intOf]; omega⟩
    · obtain rfl : j = k := by omega
      go_wp2
      go_ret
      exact ⟨rfl, rfl⟩

set_option maxHeartbeats 400000 in
theorem mul_c (m a b : Int) (w : World) (hm : 1 ≤ m) (hm' : m ≤ 3000000000) (ha : 0 ≤ a) (hb : 0 ≤ b) (ha' : a < m) (hb' : b < m) :
    Calls Try.prog 173 #[.int .i64 m, .int .i64 a, .int .i64 b] w fun e w' => e = .returned (.int .i64 (a * b % m)) ∧ w = w' := by
  obtain ⟨h1, h2⟩ := prod_fits ha hb ha' hb' hm'
  go_enter Try.func173, Try.ntmps173
  go_wp2
  go_ret
  exact ⟨rfl, rfl⟩

set_option maxHeartbeats 400000 in
theorem power_c (m a n : Int) (k : Nat) (w : World) (hn : n = k) (hm : 1 ≤ m) (hm' : m ≤ 3000000000) (ha : 0 ≤ a) (ha' : a < m) (hk : k ≤ 1000000000000) :
    Calls Try.prog 197 #[.int .i64 m, .int .i64 a, .int .i64 n] w fun e w' => e = .returned (.int .i64 (a ^ k % m)) ∧ w = w' := by
  subst hn
  have hm1 : (1 : Int) % m < m := Int.emod_lt_of_pos _ (by omega)
  have hm0 : 0 ≤ (1 : Int) % m := Int.emod_nonneg _ (by omega)
  go_enter Try.func197, Try.ntmps197
  go_wp2
  go_loop [1, 2, 7] (fun x i out => ∃ (y z : Int) (j : Nat), x = .int .i64 y ∧ i = .int .i64 j ∧ out = .int .i64 z ∧ 0 ≤ y ∧ y < m ∧ 0 ≤ z ∧ z < m ∧ j ≤ 1000000000000 ∧ Hid (z * y ^ j % m = a ^ k % m)) (fun _ i _ => (intOf i).toNat)
  case atStart => exact ⟨a, 1 % m, k, rfl, rfl, rfl, ha, ha', hm0, hm1, hk, Lib.hid (by rw [Int.mul_emod, Int.emod_emod_of_dvd _ (Int.dvd_refl m), ← Int.mul_emod, Int.one_mul])⟩
  case round =>
    obtain ⟨y, z, j, rfl, rfl, rfl, hy, hy', hz, hz', hj, HE⟩ := hrel
    have hyy := mod_lt' (a := y * y) (show 0 < m by omega)
    have hzy := mod_lt' (a := z * y) (show 0 < m by omega)
    by_cases h0 : 0 < j
    · rcases Nat.mod_two_eq_zero_or_one j with hp | hp
      · have hb : (((j : Int) % 2) == 1) = false := by simp; omega
        have Hp := Lib.hid hp
        clear hp
        go_wp2_with (go_at_call 173; refine (mul_c _ _ _ _ (by omega) hm' (by omega) (by omega) (by omega) (by omega)).mono ?_; rintro e w' ⟨rfl, rfl⟩)
        exact ⟨⟨_, _, j / 2, rfl, by go_num, rfl, hyy.1, hyy.2, hz, hz', by omega, Lib.hid (by rw [raise_even Hp.out]; exact HE.out)⟩, by simp [intOf]; omega⟩
      · have hb : (((j : Int) % 2) == 1) = true := by simp; omega
        have Hp := Lib.hid hp
        clear hp
        go_wp2_with (go_at_call 173; refine (mul_c _ _ _ _ (by omega) hm' (by omega) (by omega) (by omega) (by omega)).mono ?_; rintro e w' ⟨rfl, rfl⟩)
        exact ⟨⟨_, _, j / 2, rfl, by go_num, rfl, hyy.1, hyy.2, hzy.1, hzy.2, by omega, Lib.hid (by rw [raise_odd Hp.out]; exact HE.out)⟩, by simp [intOf]; omega⟩
    · obtain rfl : j = 0 := by omega
      have he := HE.out
      rw [Int.pow_zero, Int.mul_one, Int.emod_eq_of_lt hz hz'] at he
      have He := Lib.hid he
      clear he
      go_wp2
      go_ret
      exact ⟨by rw [← He.out]; rfl, rfl⟩

set_option maxHeartbeats 400000 in
theorem l13Power_c (m a n : Int) (k : Nat) (w : World) (hn : n = k) (hm : 1 ≤ m) (hm' : m ≤ 3000000000) (ha : 0 ≤ a) (ha' : a ≤ 9000000000000000000) (hk : k ≤ 1000000000000) :
    Calls Try.prog 239 #[.int .i64 m, .int .i64 a, .int .i64 n] w fun e w' => e = .returned (.int .i64 (a ^ k % m)) ∧ w = w' := by
  subst hn
  have hm1 : (1 : Int) % m < m := Int.emod_lt_of_pos _ (by omega)
  have hm0 : 0 ≤ (1 : Int) % m := Int.emod_nonneg _ (by omega)
  have ham := mod_lt' (a := a) (show 0 < m by omega)
  have ham2 := mod_lt' (a := a % m + m) (show 0 < m by omega)
  have HS := Lib.hid (show (1 % m) * ((a % m + m) % m) ^ k % m = a ^ k % m by
    rw [Int.add_emod_right, Int.mul_emod, pow_mod, pow_mod, Int.emod_emod_of_dvd _ (Int.dvd_refl m), ← Int.mul_emod, Int.one_mul])
  go_enter Try.func239, Try.ntmps239
  go_wp2
  go_loop [1, 2, 7] (fun x i out => ∃ (y z : Int) (j : Nat), x = .int .i64 y ∧ i = .int .i64 j ∧ out = .int .i64 z ∧ 0 ≤ y ∧ y < m ∧ 0 ≤ z ∧ z < m ∧ j ≤ 1000000000000 ∧ Hid (z * y ^ j % m = a ^ k % m)) (fun _ i _ => (intOf i).toNat)
  case atStart => exact ⟨_, 1 % m, k, rfl, rfl, rfl, ham2.1, ham2.2, hm0, hm1, hk, HS⟩
  case round =>
    obtain ⟨y, z, j, rfl, rfl, rfl, hy, hy', hz, hz', hj, HE⟩ := hrel
    have hyy := mod_lt' (a := y * y) (show 0 < m by omega)
    have hzy := mod_lt' (a := z * y) (show 0 < m by omega)
    obtain ⟨q1, q2⟩ := prod_fits hz hy hz' hy' hm'
    obtain ⟨q3, q4⟩ := prod_fits hy hy hy' hy' hm'
    by_cases h0 : 0 < j
    · rcases Nat.mod_two_eq_zero_or_one j with hp | hp
      · have hb : (((j : Int) % 2) == 1) = false := by simp; omega
        have Hp := Lib.hid hp
        clear hp
        go_wp2
        exact ⟨⟨_, _, j / 2, rfl, by go_num, rfl, hyy.1, hyy.2, hz, hz', by omega, Lib.hid (by rw [raise_even Hp.out]; exact HE.out)⟩, by simp [intOf]; omega⟩
      · have hb : (((j : Int) % 2) == 1) = true := by simp; omega
        have Hp := Lib.hid hp
        clear hp
        go_wp2
        exact ⟨⟨_, _, j / 2, rfl, by go_num, rfl, hyy.1, hyy.2, hzy.1, hzy.2, by omega, Lib.hid (by rw [raise_odd Hp.out]; exact HE.out)⟩, by simp [intOf]; omega⟩
    · obtain rfl : j = 0 := by omega
      have he := HE.out
      rw [Int.pow_zero, Int.mul_one, Int.emod_eq_of_lt hz hz'] at he
      have He := Lib.hid he
      clear he
      go_wp2
      go_ret
      exact ⟨by rw [← He.out]; rfl, rfl⟩

end Go.Proofs.Ytcjinlfgeljmkaa

/- Series: the program's sums, products and compositions. -/
set_option linter.unusedSimpArgs false
set_option linter.unusedVariables false
namespace Go.Proofs.Ytcjinlfgeljmkaa
open Go.RowKit

structure SR where
  m : Int
  xs : List Int
  code : Int
def SR.bad (c : Int) : SR := ⟨0, [], c⟩
end Go.Proofs.Ytcjinlfgeljmkaa

/- Series: the program's products. -/
set_option linter.unusedSimpArgs false
set_option linter.unusedVariables false
namespace Go.Proofs.Ytcjinlfgeljmkaa
open Go.RowKit

end Go.Proofs.Ytcjinlfgeljmkaa

/- Series: the program's compositions. -/
set_option linter.unusedSimpArgs false
set_option linter.unusedVariables false
namespace Go.Proofs.Ytcjinlfgeljmkaa
open Go.RowKit

end Go.Proofs.Ytcjinlfgeljmkaa

/- Series: the reference's sums, products and compositions. -/
set_option linter.unusedSimpArgs false
set_option linter.unusedVariables false
namespace Go.Proofs.Ytcjinlfgeljmkaa
open Go.RowKit

end Go.Proofs.Ytcjinlfgeljmkaa

/- Series: the product with a number, in the program and in the reference. -/
set_option linter.unusedSimpArgs false
set_option linter.unusedVariables false
namespace Go.Proofs.Ytcjinlfgeljmkaa
open Go.RowKit

end Go.Proofs.Ytcjinlfgeljmkaa
