/- Lemmas of SerG. -/
import Derived.Test.YtcjinlfgeljmkaaWSSRev
import Derived.Test.YtcjinlfgeljmkaaWSCo
set_option linter.unusedSimpArgs false
set_option linter.unusedVariables false
namespace Go.Proofs.Ytcjinlfgeljmkaa
open Go.RowKit

end Go.Proofs.Ytcjinlfgeljmkaa
