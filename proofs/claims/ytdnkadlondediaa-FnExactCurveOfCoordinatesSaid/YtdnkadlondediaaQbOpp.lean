/- Lemmas of Opp. -/
import Derived.Test.YtdnkadlondediaaQbInvL
import Derived.Test.YtdnkadlondediaaQbSerQ
set_option linter.unusedSimpArgs false
set_option linter.unusedVariables false
namespace Go.Proofs.Ytdnkadlondediaa
open Go.RowKit

end Go.Proofs.Ytdnkadlondediaa
