/- Lemmas of Uni. -/
import Derived.Test.YtdnkadlondediaaQcInv
import Derived.Test.YtdnkadlondediaaQcRev
set_option linter.unusedSimpArgs false
set_option linter.unusedVariables false
namespace Go.Proofs.Ytdnkadlondediaa
open Go.RowKit

end Go.Proofs.Ytdnkadlondediaa
