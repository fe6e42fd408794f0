/- Lemmas of Co. -/
import Derived.Test.YtcjinlfgeljmkaaWSUni
import Derived.Test.YtcjinlfgeljmkaaWSG3
import Derived.Test.YtcjinlfgeljmkaaWSG1
set_option linter.unusedSimpArgs false
set_option linter.unusedVariables false
namespace Go.Proofs.Ytcjinlfgeljmkaa
open Go.RowKit

end Go.Proofs.Ytcjinlfgeljmkaa
