/- Lemmas of PlaC. -/
import Derived.Test.YtmmneicblcjkjaaQPlaO
set_option linter.unusedSimpArgs false
set_option linter.unusedVariables false
namespace Go.Proofs.Ytmmneicblcjkjaa
open Go.RowKit

def turnT (m : Int) (t : List (List Int)) : List (List Int) := tri t.length (fun i j => atT t j i % m)
end Go.Proofs.Ytmmneicblcjkjaa
