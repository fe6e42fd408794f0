/- Lemmas of WittS. -/
import Derived.Test.YtcjinlfgeljmkaaWRWittR
import Derived.Test.YtcjinlfgeljmkaaWRG1
set_option linter.unusedSimpArgs false
set_option linter.unusedVariables false
namespace Go.Proofs.Ytcjinlfgeljmkaa
open Go.RowKit

end Go.Proofs.Ytcjinlfgeljmkaa
