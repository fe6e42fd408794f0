/- Lemmas of HomP. -/
import Derived.Test.YtoednonijmkbjaaTG13
import Derived.Test.YtoednonijmkbjaaTG1
set_option linter.unusedSimpArgs false
set_option linter.unusedVariables false
namespace Go.Proofs.Ytoednonijmkbjaa
open Rg

def cutT (k : Nat) (t : List (List Int)) : List (List Int) := tri k (atT t)
theorem cutT_ok {m : Int} {n k : Nat} {t : List (List Int)} (ht : PlaT m n t) (hk : k ≤ n) : PlaT m k (cutT k t) := tri_ok fun i j h => tab_range ht (by omega)
end Go.Proofs.Ytoednonijmkbjaa
