/- Lemmas of InvL. -/
import Derived.Test.YtdnkadlondediaaQbPut
import Derived.Test.YtdnkadlondediaaQbG5
import Derived.Test.YtdnkadlondediaaQbG1
set_option linter.unusedSimpArgs false
set_option linter.unusedVariables false
namespace Go.Proofs.Ytdnkadlondediaa
open Go.RowKit

end Go.Proofs.Ytdnkadlondediaa
