/- Lemmas of AllS. -/
import Derived.Test.YtdnkadlondediaaQcG2
import Derived.Test.YtdnkadlondediaaQcG4
set_option linter.unusedSimpArgs false
set_option linter.unusedVariables false
namespace Go.Proofs.Ytdnkadlondediaa
open Go.RowKit

end Go.Proofs.Ytdnkadlondediaa
