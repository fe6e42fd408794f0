/- Products of planes: the program and the reference. -/
import Derived.Test.YtflebfmkgmhccaaPlaV
set_option linter.unusedSimpArgs false
set_option linter.unusedVariables false
namespace Go.Proofs.Ytflebfmkgmhccaa
open Go.RowKit

def mulPR (m : Int) (xs : List (List Int)) (n : Int) (ys : List (List Int)) : PR := if twoP m xs n ys = 0 then ⟨m, timesT m xs.length xs ys, 0⟩ else PR.bad (twoP m xs n ys)



end Go.Proofs.Ytflebfmkgmhccaa
