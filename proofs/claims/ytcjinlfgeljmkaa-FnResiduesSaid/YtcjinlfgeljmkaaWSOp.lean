/- Lemmas of Op. -/
import Derived.Test.YtcjinlfgeljmkaaWSDo
set_option linter.unusedSimpArgs false
set_option linter.unusedVariables false
namespace Go.Proofs.Ytcjinlfgeljmkaa
open Go.RowKit

def opR (t : Bool) (p m : Int) (xs : List Int) (q n : Int) (ys : List Int) : WR :=
  if twoC p m xs q n ys = 0 then ⟨p, m, opL p.toNat m xs ys t, 0⟩ else WR.bad (twoC p m xs q n ys)

theorem twoC_0 {p m : Int} {xs : List Int} {q n : Int} {ys : List Int} (h : twoC p m xs q n ys = 0) :
    wittB p m xs = true ∧ wittB q n ys = true ∧ q = p ∧ n = m ∧ ys.length = xs.length := by
  unfold twoC at h
  split at h
  · rename_i h1
    split at h
    · rename_i h2
      simp only [Bool.and_eq_true, alikeB, beq_iff_eq] at h1 h2
      obtain ⟨h1, h1'⟩ := h1
      refine ⟨h1, h1', ?_, ?_, ?_⟩ <;> omega
    · simp at h
  · simp at h

theorem witt_P4 {p m : Int} {xs : List Int} (h : wittB p m xs = true) : P4 p.toNat ∧ (p.toNat : Int) = p := by
  rcases witt_p h with rfl | rfl | rfl | rfl <;> simp [P4]

end Go.Proofs.Ytcjinlfgeljmkaa
