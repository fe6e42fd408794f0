/- Plain arithmetic: remainders, powers. No program stands here. -/
import Derived.WalkKit
set_option linter.unusedSimpArgs false
set_option linter.unusedVariables false
namespace Go.Proofs.Ytflebfmkgmhccaa

theorem tmod_mod {n m : Int} : (n.tmod m + m) % m = n % m := by
  rw [Int.add_emod_right, Int.tmod_def]
  have := Int.sub_mul_emod_self_left n m (n.tdiv m)
  grind

theorem pow1 (a : Int) : a ^ 1 = a := by rw [Int.pow_succ, Int.pow_zero, Int.one_mul]

theorem pow_mod (a m : Int) (k : Nat) : (a % m) ^ k % m = a ^ k % m := by
  induction k with
  | zero => simp [Int.pow_zero]
  | succ k ih => rw [Int.pow_succ, Int.pow_succ, Int.mul_emod, ih, Int.emod_emod_of_dvd _ (Int.dvd_refl m), ← Int.mul_emod]

theorem pow_pos' {p : Int} (hp : 1 ≤ p) (k : Nat) : 1 ≤ p ^ k := by
  induction k with
  | zero => simp
  | succ k ih => rw [Int.pow_succ]; exact Int.le_trans (by omega) (Int.mul_le_mul ih hp (by omega) (by omega))

theorem pow_le {p : Int} (hp : 1 ≤ p) {j k : Nat} (h : j ≤ k) : p ^ j ≤ p ^ k := by
  induction k with
  | zero => obtain rfl : j = 0 := by omega
            exact Int.le_refl _
  | succ k ih =>
    rcases Nat.lt_or_ge k j with h1 | h1
    · obtain rfl : j = k + 1 := by omega
      exact Int.le_refl _
    · have := ih h1
      have h2 := pow_pos' hp k
      rw [Int.pow_succ]
      have : p ^ k * 1 ≤ p ^ k * p := Int.mul_le_mul_of_nonneg_left hp (by omega)
      omega

theorem mul_lt_of {a b m : Int} (ha : 0 ≤ a) (hb : 0 ≤ b) (ha' : a < m) (hb' : b < m) : a * b ≤ (m - 1) * (m - 1) := Int.mul_le_mul (by omega) (by omega) hb (by omega)

/-- Products of numbers below 3000000000 fit. -/
theorem prod_fits {a b m : Int} (ha : 0 ≤ a) (hb : 0 ≤ b) (ha' : a < m) (hb' : b < m) (hm : m ≤ 3000000000) : 0 ≤ a * b ∧ a * b ≤ 9000000000000000000 := by
  have h := mul_lt_of ha hb ha' hb'
  have h2 : (m - 1) * (m - 1) ≤ 2999999999 * 2999999999 := Int.mul_le_mul (by omega) (by omega) (by omega) (by omega)
  exact ⟨Int.mul_nonneg ha hb, by omega⟩

theorem mod_lt' {a m : Int} (hm : 0 < m) : 0 ≤ a % m ∧ a % m < m := ⟨Int.emod_nonneg _ (by omega), Int.emod_lt_of_pos _ hm⟩

/-- One round of raising by squares. -/
theorem raise_odd {out a m : Int} {k : Nat} (h : k % 2 = 1) : (out * a % m) * (a * a % m) ^ (k / 2) % m = out * a ^ k % m := by
  have e : a ^ k = a * (a * a) ^ (k / 2) := by
    have hk : k = 2 * (k / 2) + 1 := by omega
    conv => lhs; rw [hk]
    rw [Int.pow_succ, Int.pow_mul, Int.mul_comm]
    congr 1
    rw [show a ^ 2 = a * a from by rw [Int.pow_succ, Int.pow_succ, Int.pow_zero, Int.one_mul]]
  rw [e, Int.mul_emod, pow_mod, Int.emod_emod_of_dvd _ (Int.dvd_refl m), ← Int.mul_emod, Int.mul_assoc]
theorem raise_even {out a m : Int} {k : Nat} (h : k % 2 = 0) : out * (a * a % m) ^ (k / 2) % m = out * a ^ k % m := by
  have e : a ^ k = (a * a) ^ (k / 2) := by
    have hk : k = 2 * (k / 2) := by omega
    conv => lhs; rw [hk]
    rw [Int.pow_mul]
    rw [show a ^ 2 = a * a from by rw [Int.pow_succ, Int.pow_succ, Int.pow_zero, Int.one_mul]]
  rw [e, Int.mul_emod, pow_mod, ← Int.mul_emod]
end Go.Proofs.Ytflebfmkgmhccaa
