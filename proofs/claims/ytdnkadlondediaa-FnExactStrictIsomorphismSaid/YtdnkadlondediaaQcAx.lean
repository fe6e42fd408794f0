/- Lemmas of Ax. -/
import Derived.Test.YtdnkadlondediaaQcG4
import Derived.Test.YtdnkadlondediaaQcRev
set_option linter.unusedSimpArgs false
set_option linter.unusedVariables false
namespace Go.Proofs.Ytdnkadlondediaa
open Go.RowKit

end Go.Proofs.Ytdnkadlondediaa
