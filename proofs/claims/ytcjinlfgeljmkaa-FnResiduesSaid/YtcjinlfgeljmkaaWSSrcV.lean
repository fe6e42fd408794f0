/- Lemmas of SrcV. -/
import Derived.Test.YtcjinlfgeljmkaaWSSrcW
import Derived.Test.YtcjinlfgeljmkaaWSWittC
import Derived.Lib.MinMax
set_option linter.unusedSimpArgs false
set_option linter.unusedVariables false
namespace Go.Proofs.Ytcjinlfgeljmkaa
open Go.RowKit

end Go.Proofs.Ytcjinlfgeljmkaa
