/- Lemmas of Curv. -/
import Derived.Test.YtdnkadlondediaaQbAllS
import Derived.Test.YtdnkadlondediaaQbG5
set_option linter.unusedSimpArgs false
set_option linter.unusedVariables false
namespace Go.Proofs.Ytdnkadlondediaa
open Go.RowKit

end Go.Proofs.Ytdnkadlondediaa
