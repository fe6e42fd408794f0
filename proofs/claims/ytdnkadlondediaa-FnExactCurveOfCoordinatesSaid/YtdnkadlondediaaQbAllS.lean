/- Lemmas of AllS. -/
import Derived.Test.YtdnkadlondediaaQbG2
import Derived.Test.YtdnkadlondediaaQbG4
set_option linter.unusedSimpArgs false
set_option linter.unusedVariables false
namespace Go.Proofs.Ytdnkadlondediaa
open Go.RowKit

end Go.Proofs.Ytdnkadlondediaa
