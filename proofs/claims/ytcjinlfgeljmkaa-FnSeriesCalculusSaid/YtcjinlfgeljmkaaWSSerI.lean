/- Lemmas of SerI. -/
import Derived.Test.YtcjinlfgeljmkaaWSSerH
set_option linter.unusedSimpArgs false
set_option linter.unusedVariables false
namespace Go.Proofs.Ytcjinlfgeljmkaa
open Go.RowKit

end Go.Proofs.Ytcjinlfgeljmkaa
