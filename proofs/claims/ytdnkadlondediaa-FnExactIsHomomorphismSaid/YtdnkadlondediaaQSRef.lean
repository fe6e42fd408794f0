/- Lemmas of SRef. -/
import Derived.Test.YtdnkadlondediaaQSRev
import Derived.Test.YtdnkadlondediaaQSerQ
set_option linter.unusedSimpArgs false
set_option linter.unusedVariables false
namespace Go.Proofs.Ytdnkadlondediaa
open Go.RowKit

end Go.Proofs.Ytdnkadlondediaa
