/- Lemmas of WittA. -/
import Derived.Test.YtcjinlfgeljmkaaWSG2
import Derived.Test.YtcjinlfgeljmkaaWSLawW
set_option linter.unusedSimpArgs false
set_option linter.unusedVariables false
namespace Go.Proofs.Ytcjinlfgeljmkaa
open Go.RowKit

end Go.Proofs.Ytcjinlfgeljmkaa
