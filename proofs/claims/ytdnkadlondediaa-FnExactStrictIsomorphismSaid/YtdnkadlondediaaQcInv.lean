/- Lemmas of Inv. -/
import Derived.Test.YtdnkadlondediaaQcG3
import Derived.Test.YtdnkadlondediaaQcEu
set_option linter.unusedSimpArgs false
set_option linter.unusedVariables false
namespace Go.Proofs.Ytdnkadlondediaa
open Go.RowKit

end Go.Proofs.Ytdnkadlondediaa
