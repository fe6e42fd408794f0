/- Lemmas of Rev. -/
import Derived.Test.YtdnkadlondediaaQG1
import Derived.Test.YtdnkadlondediaaQEu
set_option linter.unusedSimpArgs false
set_option linter.unusedVariables false
namespace Go.Proofs.Ytdnkadlondediaa

end Go.Proofs.Ytdnkadlondediaa
