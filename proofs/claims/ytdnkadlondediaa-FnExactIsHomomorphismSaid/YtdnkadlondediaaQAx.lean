/- Lemmas of Ax. -/
import Derived.Test.YtdnkadlondediaaQG4
import Derived.Test.YtdnkadlondediaaQRev
set_option linter.unusedSimpArgs false
set_option linter.unusedVariables false
namespace Go.Proofs.Ytdnkadlondediaa
open Go.RowKit

end Go.Proofs.Ytdnkadlondediaa
