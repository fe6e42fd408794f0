/- Lemmas of Inv. -/
import Derived.Test.YtdnkadlondediaaQG3
import Derived.Test.YtdnkadlondediaaQEu
set_option linter.unusedSimpArgs false
set_option linter.unusedVariables false
namespace Go.Proofs.Ytdnkadlondediaa
open Go.RowKit

end Go.Proofs.Ytdnkadlondediaa
