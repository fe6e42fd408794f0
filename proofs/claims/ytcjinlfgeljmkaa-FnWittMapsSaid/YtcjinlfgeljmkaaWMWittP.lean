/- Lemmas of WittP. -/
import Derived.Test.YtcjinlfgeljmkaaWMWittG
import Derived.Test.YtcjinlfgeljmkaaWMG2
set_option linter.unusedSimpArgs false
set_option linter.unusedVariables false
namespace Go.Proofs.Ytcjinlfgeljmkaa
open Go.RowKit

end Go.Proofs.Ytcjinlfgeljmkaa
