/- Lemmas of Inv. -/
import Derived.Test.YtdnkadlondediaaQbG3
import Derived.Test.YtdnkadlondediaaQbEu
set_option linter.unusedSimpArgs false
set_option linter.unusedVariables false
namespace Go.Proofs.Ytdnkadlondediaa
open Go.RowKit

end Go.Proofs.Ytdnkadlondediaa
