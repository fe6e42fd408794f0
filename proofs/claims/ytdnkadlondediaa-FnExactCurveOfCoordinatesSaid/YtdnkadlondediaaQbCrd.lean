/- Lemmas of Crd. -/
import Derived.Test.YtdnkadlondediaaQbRgB
set_option linter.unusedSimpArgs false
set_option linter.unusedVariables false
namespace Go.Proofs.Ytdnkadlondediaa
open Rg

def monL (n k : Nat) (c : Int) : List Int := (List.replicate n 0).set k c
theorem monL_len (n k : Nat) (c : Int) : (monL n k c).length = n := by simp [monL]
theorem monL_range {m : Int} (hm : 0 < m) {n k : Nat} {c : Int} (hc : 0 ≤ c ∧ c < m) : ∀ x ∈ monL n k c, 0 ≤ x ∧ x < m := by
  intro x hx
  rcases List.mem_or_eq_of_mem_set hx with h | rfl
  · simp at h; omega
  · exact hc
def crvTo (m : Int) (n : Nat) (t : List (List Int)) (l : List Int) : Nat → List Int
  | 0 => List.replicate n 0
  | k + 1 => putL m n t (crvTo m n t l k) (monL n (k + 1) (at0 l k))
def crvL (m : Int) (n : Nat) (t : List (List Int)) (l : List Int) : List Int := crvTo m n t l l.length
theorem crvTo_len (m : Int) (n : Nat) (t : List (List Int)) (l : List Int) (k : Nat) : (crvTo m n t l k).length = n := by
  cases k with
  | zero => simp [crvTo]
  | succ k => exact putTo_len _ _ _ _ _ _ _
theorem crvTo_range {m : Int} (hm : 0 < m) (n : Nat) (t : List (List Int)) (l : List Int) (k : Nat) : ∀ x ∈ crvTo m n t l k, 0 ≤ x ∧ x < m := by
  cases k with
  | zero => intro x hx; simp [crvTo] at hx; omega
  | succ k => exact putTo_range hm
end Go.Proofs.Ytdnkadlondediaa
