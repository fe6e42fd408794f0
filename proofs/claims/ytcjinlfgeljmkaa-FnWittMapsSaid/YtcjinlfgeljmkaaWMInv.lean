/- Lemmas of Inv. -/
import Derived.Test.YtcjinlfgeljmkaaWMG3
import Derived.Test.YtcjinlfgeljmkaaWMEu
set_option linter.unusedSimpArgs false
set_option linter.unusedVariables false
namespace Go.Proofs.Ytcjinlfgeljmkaa
open Go.RowKit

end Go.Proofs.Ytcjinlfgeljmkaa
