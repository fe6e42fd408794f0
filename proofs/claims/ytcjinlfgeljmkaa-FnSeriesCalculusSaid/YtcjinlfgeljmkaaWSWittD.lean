/- Lemmas of WittD. -/
import Derived.Test.YtcjinlfgeljmkaaWSWittC
import Derived.Test.YtcjinlfgeljmkaaWSGhost
set_option linter.unusedSimpArgs false
set_option linter.unusedVariables false
namespace Go.Proofs.Ytcjinlfgeljmkaa
open Go.RowKit

structure IR where
  val : Int
  code : Int
structure LR where
  xs : List Int
  code : Int
end Go.Proofs.Ytcjinlfgeljmkaa
