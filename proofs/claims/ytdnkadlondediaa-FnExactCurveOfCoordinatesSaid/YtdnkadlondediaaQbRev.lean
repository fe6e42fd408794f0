/- Lemmas of Rev. -/
import Derived.Test.YtdnkadlondediaaQbG1
import Derived.Test.YtdnkadlondediaaQbEu
set_option linter.unusedSimpArgs false
set_option linter.unusedVariables false
namespace Go.Proofs.Ytdnkadlondediaa

end Go.Proofs.Ytdnkadlondediaa
