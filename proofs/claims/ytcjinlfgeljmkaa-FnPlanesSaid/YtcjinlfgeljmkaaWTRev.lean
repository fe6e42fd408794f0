/- Lemmas of Rev. -/
import Derived.Test.YtcjinlfgeljmkaaWTG1
import Derived.Test.YtcjinlfgeljmkaaWTEu
set_option linter.unusedSimpArgs false
set_option linter.unusedVariables false
namespace Go.Proofs.Ytcjinlfgeljmkaa

theorem at0_set {l : List Int} {k i : Nat} {x : Int} : at0 (l.set k x) i = if i = k ∧ k < l.length then x else at0 l i := by
  unfold at0 List.getD
  rw [List.getElem?_set]
  by_cases h : k = i
  · subst h
    by_cases h2 : k < l.length
    · simp [h2]
    · rw [if_pos rfl, if_neg h2, if_neg (by omega)]
      rw [List.getElem?_eq_none (by omega)]
  · rw [if_neg h, if_neg (by omega)]

end Go.Proofs.Ytcjinlfgeljmkaa
