/- Lemmas of SerJ. -/
import Derived.Test.YtcjinlfgeljmkaaWSSerI
set_option linter.unusedSimpArgs false
set_option linter.unusedVariables false
namespace Go.Proofs.Ytcjinlfgeljmkaa
open Go.RowKit

def pwL (m : Int) (n : Nat) (k : Nat) (out a : List Int) : List Int := if k = 0 then out else pwL m n (k / 2) (if k % 2 = 1 then timesL m n out a else out) (timesL m n a a)
termination_by k
decreasing_by omega
theorem pwL_0 (m : Int) (n : Nat) (out a : List Int) : pwL m n 0 out a = out := by rw [pwL]; simp
theorem pwL_s (m : Int) (n : Nat) {k : Nat} (h : 0 < k) (out a : List Int) : pwL m n k out a = pwL m n (k / 2) (if k % 2 = 1 then timesL m n out a else out) (timesL m n a a) := by rw [pwL, if_neg (by omega)]
def oneL (n : Nat) : List Int := (List.replicate n 0).set 0 1
theorem oneL_len (n : Nat) : (oneL n).length = n := by simp [oneL]
theorem oneL_range {m : Int} (hm : 2 ≤ m) (n : Nat) : ∀ x ∈ oneL n, 0 ≤ x ∧ x < m := by
  intro x hx
  rcases List.mem_or_eq_of_mem_set hx with h | rfl
  · have := List.eq_of_mem_replicate h; omega
  · omega

end Go.Proofs.Ytcjinlfgeljmkaa
