/- Lemmas of G16. -/
import Derived.Test.YtoednonijmkbjaaGreatVG2
import Derived.Test.YtoednonijmkbjaaGreatVG3
import Derived.Test.YtoednonijmkbjaaGreatVTyU
/- Typical laws: both functions answer alike. -/
set_option linter.unusedSimpArgs false
set_option linter.unusedVariables false
namespace Go.Proofs.YtoednonijmkbjaaGreat
open Go.RowKit

def typT2 (p : Nat) (m : Int) (n : Nat) (ls : List Int) : List (List Int) := tri (n + 1) (fun i j => tyF p (mostOf p n) (tyl p (mostOf p n) (at0 (ls ++ List.replicate (3 - ls.length) (0 : Int)))) (n - 1) i j % m)
end Go.Proofs.YtoednonijmkbjaaGreat

/- Typical laws: both functions answer alike, the good end. -/
set_option linter.unusedSimpArgs false
set_option linter.unusedVariables false
namespace Go.Proofs.YtoednonijmkbjaaGreat
open Go.RowKit

end Go.Proofs.YtoednonijmkbjaaGreat
