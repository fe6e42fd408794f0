/- Lemmas of LawO. -/
import Derived.Test.YtdnkadlondediaaQcAx
import Derived.Test.YtdnkadlondediaaQcSRef
import Derived.Test.YtdnkadlondediaaQcG4
import Derived.Test.YtdnkadlondediaaQcPlaZ
set_option linter.unusedSimpArgs false
set_option linter.unusedVariables false
namespace Go.Proofs.Ytdnkadlondediaa
open Go.RowKit

end Go.Proofs.Ytdnkadlondediaa
