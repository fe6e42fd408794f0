/- Lemmas of TyH. -/
import Derived.Test.YtoednonijmkbjaaQTyG
import Derived.Test.YtoednonijmkbjaaQInv
import Derived.Test.YtoednonijmkbjaaQG3
set_option linter.unusedSimpArgs false
set_option linter.unusedVariables false
namespace Go.Proofs.Ytoednonijmkbjaa
open Go.RowKit

set_option maxHeartbeats 400000 in
theorem l01Pow_c (m a n : Int) (k : Nat) (w : World) (hn : n = k) (hm : 1 ≤ m) (hm' : m ≤ 3000000000) (ha : 0 ≤ a) (ha' : a ≤ 9000000000000000000) (hk : k ≤ 1000000000000) :
    Calls Try.prog 77 #[.int .i64 m, .int .i64 a, .int .i64 n] w fun e w' => e = .returned (.int .i64 (a ^ k % m)) ∧ w = w' := by
  subst hn
  have hm1 : (1 : Int) % m < m := Int.emod_lt_of_pos _ (by omega)
  have hm0 : 0 ≤ (1 : Int) % m := Int.emod_nonneg _ (by omega)
  have ham := mod_lt' (a := a) (show 0 < m by omega)
  have m1 : ¬ m = 0 := by omega
  have m0 : (m == 0) = false := by simp; omega
  have t1 : (1 : Int).tmod m = 1 % m := Int.tmod_eq_emod_of_nonneg (by omega)
  have HS := Lib.hid (show (1 % m) * (a % m) ^ k % m = a ^ k % m by
    rw [Int.mul_emod, pow_mod, Int.emod_emod_of_dvd _ (Int.dvd_refl m), ← Int.mul_emod, Int.one_mul])
  go_enter Try.func77, Try.ntmps77
  go_wp2_with (go_at_call 51; refine (l01Mod_c _ _ _ (by omega) (by omega) (by omega) (by omega)).mono ?_; rintro e w' ⟨rfl, rfl⟩)
  go_loop [1, 2, 7] (fun x i out => ∃ (y z : Int) (j : Nat), x = .int .i64 y ∧ i = .int .i64 j ∧ out = .int .i64 z ∧ 0 ≤ y ∧ y < m ∧ 0 ≤ z ∧ z < m ∧ j ≤ 1000000000000 ∧ Hid (z * y ^ j % m = a ^ k % m)) (fun _ i _ => (intOf i).toNat)
  case atStart => exact ⟨_, 1 % m, k, rfl, rfl, rfl, ham.1, ham.2, hm0, hm1, hk, HS⟩
  case round =>
    obtain ⟨y, z, j, rfl, rfl, rfl, hy, hy', hz, hz', hj, HE⟩ := hrel
    have hyy := mod_lt' (a := y * y) (show 0 < m by omega)
    have hzy := mod_lt' (a := z * y) (show 0 < m by omega)
    obtain ⟨q1, q2⟩ := prod_fits hz hy hz' hy' hm'
    obtain ⟨q3, q4⟩ := prod_fits hy hy hy' hy' hm'
    by_cases h0 : 0 < j
    · rcases Nat.mod_two_eq_zero_or_one j with hp | hp
      · have hb : (((j : Int) % 2) == 1) = false := by simp; omega
        have Hp := Lib.hid hp
        clear hp
        go_wp2
        exact ⟨⟨_, _, j / 2, rfl, by go_num, rfl, hyy.1, hyy.2, hz, hz', by omega, Lib.hid (by rw [raise_even Hp.out]; exact HE.out)⟩, by simp [intOf]; omega⟩
      · have hb : (((j : Int) % 2) == 1) = true := by simp; omega
        have Hp := Lib.hid hp
        clear hp
        go_wp2
        exact ⟨⟨_, _, j / 2, rfl, by go_num, rfl, hyy.1, hyy.2, hzy.1, hzy.2, by omega, Lib.hid (by rw [raise_odd Hp.out]; exact HE.out)⟩, by simp [intOf]; omega⟩
    · obtain rfl : j = 0 := by omega
      have he := HE.out
      rw [Int.pow_zero, Int.mul_one, Int.emod_eq_of_lt hz hz'] at he
      have He := Lib.hid he
      clear he
      go_wp2
      go_ret
      exact ⟨by rw [← He.out]; rfl, rfl⟩
def mostOf (p n : Nat) : Nat := if p * p * p ≤ n then 3 else if p * p ≤ n then 2 else if p ≤ n then 1 else 0
theorem most_key {p n : Nat} (hp : P4 p) (hn : n ≤ 10) {j : Nat} (hj : j ≤ mostOf p n) : p ^ j ≤ 10 ∧ j ≤ 3 ∧ (p ^ (j + 1) ≤ n ↔ j < mostOf p n) ∧ p ^ (j + 1) ≤ 100 := by
  revert hj
  have hnn : n = 0 ∨ n = 1 ∨ n = 2 ∨ n = 3 ∨ n = 4 ∨ n = 5 ∨ n = 6 ∨ n = 7 ∨ n = 8 ∨ n = 9 ∨ n = 10 := by omega
  rcases hp with rfl | rfl | rfl | rfl <;>
    rcases hnn with rfl | rfl | rfl | rfl | rfl | rfl | rfl | rfl | rfl | rfl | rfl <;> (revert j; decide)
set_option maxHeartbeats 400000 in
theorem l09Most_c (p n : Nat) (w : World) (hp : P4 p) (hn : n ≤ 10) :
    Calls Try.prog 45 #[.int .i64 p, .int .i64 n] w fun e w' => e = .returned (.tuple #[.int .i64 (mostOf p n), .int .i64 ((p ^ mostOf p n : Nat) : Int)]) ∧ w = w' := by
  have hp2 := hp.pos
  go_enter Try.func45, Try.ntmps45
  go_wp2
  go_loop [6, 7] (fun k q => ∃ j : Nat, j ≤ mostOf p n ∧ k = .int .i64 j ∧ q = .int .i64 ((p ^ j : Nat) : Int)) (fun k _ => 4 - (intOf k).toNat)
  case atStart => exact ⟨0, Nat.zero_le _, rfl, rfl⟩
  case round =>
    obtain ⟨j, hj, rfl, rfl⟩ := hrel
    obtain ⟨k1, k2, k3, k4⟩ := most_key hp hn hj
    have e0 : ((p ^ j : Nat) : Int) * (p : Int) = ((p ^ (j + 1) : Nat) : Int) := by rw [Nat.pow_succ]; simp
    have e1 : IntKind.i64.wrap ((p ^ j : Nat) * (p : Int)) = ((p ^ (j + 1) : Nat) : Int) := by rw [e0]; exact IntWalk.i64_in _ (by omega)
    have HN := Lib.hid (show j + 1 ≤ 4 by omega)
    generalize hA : p ^ j = A at k1 e0 e1 ⊢
    generalize hB : p ^ (j + 1) = B at k3 k4 e0 e1
    have HB := Lib.hid hB
    have HA := Lib.hid hA
    clear hA hB e0
    by_cases hb : B ≤ n
    · have hj1 := k3.1 hb
      have hb' : (B : Int) ≤ (n : Int) := by omega
      go_wp2
      exact ⟨⟨j + 1, hj1, by go_num, by rw [HB.out]⟩, by simp [intOf]; have := HN.out; omega⟩
    · have hj1 : j = mostOf p n := by have := fun h => hb (k3.2 h); omega
      have hb' : ¬ (B : Int) ≤ (n : Int) := by omega
      have HJ := Lib.hid hj1
      clear k3 hj1
      go_wp2
      exact bodyPost_ret (v := .tuple #[.int .i64 j, .int .i64 A]) (by simp [results, Try.results45, go_sem]) rfl ⟨by rw [← HJ.out, ← HA.out]; simp, rfl⟩
end Go.Proofs.Ytoednonijmkbjaa
