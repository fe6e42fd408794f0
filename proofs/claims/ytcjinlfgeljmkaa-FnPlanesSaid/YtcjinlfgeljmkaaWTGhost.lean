/- Lemmas of Ghost. -/
import Derived.Test.YtcjinlfgeljmkaaWTG3
import Derived.Test.YtcjinlfgeljmkaaWTG1
set_option linter.unusedSimpArgs false
set_option linter.unusedVariables false
namespace Go.Proofs.Ytcjinlfgeljmkaa
open Go.RowKit

theorem P4.bounds {p : Nat} (hp : P4 p) : 1 ≤ (p : Int) ∧ (p : Int) ≤ 7 := by rcases hp with rfl | rfl | rfl | rfl <;> decide
end Go.Proofs.Ytcjinlfgeljmkaa
