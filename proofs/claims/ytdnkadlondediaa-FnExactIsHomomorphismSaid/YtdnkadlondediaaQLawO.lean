/- Lemmas of LawO. -/
import Derived.Test.YtdnkadlondediaaQAx
import Derived.Test.YtdnkadlondediaaQSRef
import Derived.Test.YtdnkadlondediaaQG4
import Derived.Test.YtdnkadlondediaaQPlaZ
set_option linter.unusedSimpArgs false
set_option linter.unusedVariables false
namespace Go.Proofs.Ytdnkadlondediaa
open Go.RowKit

end Go.Proofs.Ytdnkadlondediaa
