/- Lemmas of G17. -/
import Derived.Test.YtoednonijmkbjaaUG3
import Derived.Test.YtoednonijmkbjaaUG12
/- Inverses modulo a number, by Euclid's algorithm, and common divisors: the program and the reference. -/
set_option linter.unusedSimpArgs false
set_option linter.unusedVariables false
namespace Go.Proofs.Ytoednonijmkbjaa
open Go.RowKit

end Go.Proofs.Ytoednonijmkbjaa

/- Units: common divisors, and what asks for them. -/
set_option linter.unusedSimpArgs false
set_option linter.unusedVariables false
namespace Go.Proofs.Ytoednonijmkbjaa
open Go.RowKit

set_option maxHeartbeats 1000000 in
theorem gcd_c (a b : Int) (w : World) (ha : 0 ≤ a) (ha' : a ≤ 1000000000000000000) (hb : 0 ≤ b) (hb' : b ≤ 1000000000000000000) :
    Calls Try.prog 116 #[.int .i64 a, .int .i64 b] w fun e w' => e = .returned (.int .i64 (Nat.gcd a.toNat b.toNat : Nat)) ∧ ∃ d, w' = w.drewN d := by
  go_enter Try.func116, Try.ntmps116
  go_wp2_with fail
  go_loopw [0, 1] (fun x y wr => ∃ (A B : Nat), x = .int .i64 A ∧ y = .int .i64 B ∧ A ≤ 1000000000000000000 ∧ B ≤ 1000000000000000000 ∧ Hid (Nat.gcd A B = Nat.gcd a.toNat b.toNat) ∧ ∃ d, wr = w.drewN d) (fun _ y _ => (intOf y).toNat)
  case atStart => exact ⟨a.toNat, b.toNat, by rw [Int.toNat_of_nonneg ha], by rw [Int.toNat_of_nonneg hb], by omega, by omega, Lib.hid rfl, 0, rfl⟩
  case round =>
    obtain ⟨A, B, rfl, rfl, hA, hB, HG, d, rfl⟩ := hrel
    by_cases hz : B = 0
    · subst hz
      have HR := Lib.hid (show A = Nat.gcd a.toNat b.toNat by rw [← HG.out, Nat.gcd_zero_right])
      go_wp2
      go_ret
      exact ⟨by rw [← HR.out]; rfl, _, rfl⟩
    · have hl := Nat.mod_lt A (show 0 < B by omega)
      have HE := Lib.hid (show Nat.gcd B (A % B) = Nat.gcd a.toNat b.toNat by rw [← HG.out, Nat.gcd_comm A B, Nat.gcd_rec B A, Nat.gcd_comm])
      have s0 : ((B : Int) == 0) = false := by simp; omega
      have s1 : ((B : Int) != 0) = true := by simp; omega
      have s2 : ¬ (B : Int) = 0 := by omega
      have e1 : (A : Int).tmod (B : Int) = ((A % B : Nat) : Int) := by rw [Int.tmod_eq_emod_of_nonneg (by omega)]; rfl
      go_wp2_with fail
      go_quiet (fail)
      go_wp2
      exact ⟨⟨B, A % B, rfl, (by first | rfl | (push_cast; rfl)), hB, by omega, HE, d + nq, by rw [World.drewN_drewN]⟩, by simp [intOf]; omega⟩
set_option maxHeartbeats 1000000 in
theorem l01Gcd_c (a b : Int) (w : World) (ha : 0 ≤ a) (ha' : a ≤ 1000000000000000000) (hb : 0 ≤ b) (hb' : b ≤ 1000000000000000000) :
    Calls Try.prog 113 #[.int .i64 a, .int .i64 b] w fun e w' => e = .returned (.int .i64 (Nat.gcd a.toNat b.toNat : Nat)) ∧ w = w' := by
  have c0 : ¬ a < 0 := by omega
  have c1 : ¬ b < 0 := by omega
  go_enter Try.func113, Try.ntmps113
  go_wp2_with fail
  go_loop [0, 1, 5] (fun x y _ => ∃ (A B : Nat), x = .int .i64 A ∧ y = .int .i64 B ∧ A ≤ 1000000000000000000 ∧ B ≤ 1000000000000000000 ∧ Hid (Nat.gcd A B = Nat.gcd a.toNat b.toNat)) (fun _ y _ => (intOf y).toNat)
  case atStart => exact ⟨a.toNat, b.toNat, by rw [Int.toNat_of_nonneg ha], by rw [Int.toNat_of_nonneg hb], by omega, by omega, Lib.hid rfl⟩
  case round =>
    obtain ⟨A, B, rfl, rfl, hA, hB, HG⟩ := hrel
    by_cases hz : B = 0
    · subst hz
      have HR := Lib.hid (show A = Nat.gcd a.toNat b.toNat by rw [← HG.out, Nat.gcd_zero_right])
      go_wp2
      go_ret
      exact ⟨by rw [← HR.out]; rfl, rfl⟩
    · have hl := Nat.mod_lt A (show 0 < B by omega)
      have HE := Lib.hid (show Nat.gcd B (A % B) = Nat.gcd a.toNat b.toNat by rw [← HG.out, Nat.gcd_comm A B, Nat.gcd_rec B A, Nat.gcd_comm])
      have s0 : ((B : Int) == 0) = false := by simp; omega
      have s1 : (0 : Int) < (B : Int) := by omega
      have s2 : ¬ (B : Int) = 0 := by omega
      have e1 : (A : Int).tmod (B : Int) = ((A % B : Nat) : Int) := by rw [Int.tmod_eq_emod_of_nonneg (by omega)]; rfl
      go_wp2
      exact ⟨⟨B, A % B, rfl, (by first | rfl | (push_cast; rfl)), hB, by omega, HE⟩, by simp [intOf]; omega⟩

end Go.Proofs.Ytoednonijmkbjaa
