/- The small functions on numbers: bounds, moduli, primes, shapes. -/
import Derived.Test.YtflebfmkgmhccaaMem
set_option linter.unusedSimpArgs false
set_option linter.unusedVariables false
namespace Go.Proofs.Ytflebfmkgmhccaa
open Go.RowKit

def inB (n lo hi : Int) : Bool := decide (lo ≤ n ∧ n ≤ hi)
theorem inB_t {n lo hi : Int} (h : inB n lo hi = true) : lo ≤ n ∧ n ≤ hi := by simpa [inB] using h
theorem inB_f {n lo hi : Int} (h : inB n lo hi = false) : ¬ (lo ≤ n ∧ n ≤ hi) := by simpa [inB] using h
theorem inB_mk {n lo hi : Int} (h1 : lo ≤ n) (h2 : n ≤ hi) : inB n lo hi = true := by simp [inB, h1, h2]

def modB (m : Int) : Bool := inB m 2 10000
theorem modB_t {m : Int} (h : modB m = true) : 2 ≤ m ∧ m ≤ 10000 := inB_t h
def primB (p : Int) : Bool := decide (p = 2 ∨ p = 3 ∨ p = 5 ∨ p = 7)
theorem primB_t {p : Int} (h : primB p = true) : p = 2 ∨ p = 3 ∨ p = 5 ∨ p = 7 := by simpa [primB] using h
def shapeB (p m n : Int) : Bool := primB p && modB m && inB n 1 4

set_option maxHeartbeats 400000 in
theorem l01In_c (n lo hi : Int) (w : World) :
    Calls Try.prog 128 #[.int .i64 n, .int .i64 lo, .int .i64 hi] w fun e w' => e = .returned (.bool (inB n lo hi)) ∧ w = w' := by
  go_enter Try.func128, Try.ntmps128
  go_wp2
  all_goals go_ret
  all_goals exact ⟨by simp [inB]; omega, rfl⟩
set_option maxHeartbeats 400000 in
theorem in_c (n lo hi : Int) (w : World) :
    Calls Try.prog 107 #[.int .i64 n, .int .i64 lo, .int .i64 hi] w fun e w' => e = .returned (.bool (inB n lo hi)) ∧ w = w' := by
  go_enter Try.func107, Try.ntmps107
  go_wp2
  all_goals go_ret
  all_goals exact ⟨by simp [inB]; omega, rfl⟩

set_option maxHeartbeats 400000 in
theorem isNumber_c (a m : Int) (w : World) (hm : -9223372036854775808 < m) (hm' : m ≤ 9223372036854775807) :
    Calls Try.prog 110 #[.int .i64 a, .int .i64 m] w fun e w' => e = .returned (.bool (inB a 0 (m - 1))) ∧ w = w' := by
  go_enter Try.func110, Try.ntmps110
  go_wp2_with (go_at_call 107; refine (in_c _ _ _ _).mono ?_; rintro e w' ⟨rfl, rfl⟩)
  go_ret
  exact ⟨rfl, rfl⟩

set_option maxHeartbeats 400000 in
theorem IsModulus_c (m : Int) (w : World) :
    Calls Try.prog 106 #[.int .i64 m] w fun e w' => e = .returned (.bool (modB m)) ∧ w = w' := by
  go_enter Try.func106, Try.ntmps106
  go_wp2_with (go_at_call 107; refine (in_c _ _ _ _).mono ?_; rintro e w' ⟨rfl, rfl⟩)
  go_ret
  exact ⟨rfl, rfl⟩




end Go.Proofs.Ytflebfmkgmhccaa
