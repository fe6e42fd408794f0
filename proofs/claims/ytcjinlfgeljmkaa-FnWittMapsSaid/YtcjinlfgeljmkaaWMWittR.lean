/- Lemmas of WittR. -/
import Derived.Test.YtcjinlfgeljmkaaWMWittQ
import Derived.Test.YtcjinlfgeljmkaaWMInv
set_option linter.unusedSimpArgs false
set_option linter.unusedVariables false
namespace Go.Proofs.Ytcjinlfgeljmkaa
open Go.RowKit

end Go.Proofs.Ytcjinlfgeljmkaa
