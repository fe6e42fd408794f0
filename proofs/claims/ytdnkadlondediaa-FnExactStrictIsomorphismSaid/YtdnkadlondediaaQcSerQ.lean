/- Lemmas of SerQ. -/
import Derived.Test.YtdnkadlondediaaQcSerO
set_option linter.unusedSimpArgs false
set_option linter.unusedVariables false
namespace Go.Proofs.Ytdnkadlondediaa
open Go.RowKit

end Go.Proofs.Ytdnkadlondediaa
