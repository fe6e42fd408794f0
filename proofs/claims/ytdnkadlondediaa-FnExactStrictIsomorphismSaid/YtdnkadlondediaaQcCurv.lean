/- Lemmas of Curv. -/
import Derived.Test.YtdnkadlondediaaQcAllS
import Derived.Test.YtdnkadlondediaaQcG5
set_option linter.unusedSimpArgs false
set_option linter.unusedVariables false
namespace Go.Proofs.Ytdnkadlondediaa
open Go.RowKit

end Go.Proofs.Ytdnkadlondediaa
