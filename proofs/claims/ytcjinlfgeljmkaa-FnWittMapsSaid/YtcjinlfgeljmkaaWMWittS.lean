/- Lemmas of WittS. -/
import Derived.Test.YtcjinlfgeljmkaaWMWittR
import Derived.Test.YtcjinlfgeljmkaaWMG1
set_option linter.unusedSimpArgs false
set_option linter.unusedVariables false
namespace Go.Proofs.Ytcjinlfgeljmkaa
open Go.RowKit

end Go.Proofs.Ytcjinlfgeljmkaa
