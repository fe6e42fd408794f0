/- Lemmas of RgB. -/
import Derived.Test.YtdnkadlondediaaQbRgL
import Derived.Test.YtdnkadlondediaaQbG1
import Derived.Test.YtdnkadlondediaaQbRev
set_option linter.unusedSimpArgs false
set_option linter.unusedVariables false
namespace Go.Proofs.Ytdnkadlondediaa
open Rg

def hs {T : Type} [Rg T] (cs : List Int) (a : T) : T := sm cs.length (fun k => ml (ic (at0 cs k)) (pw a k))
end Go.Proofs.Ytdnkadlondediaa
