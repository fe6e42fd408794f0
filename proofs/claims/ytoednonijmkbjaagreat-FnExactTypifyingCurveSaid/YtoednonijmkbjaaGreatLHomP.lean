/- Lemmas. -/
import Derived.Test.YtoednonijmkbjaaGreatLM2
import Derived.Test.YtoednonijmkbjaaGreatLG1
set_option linter.unusedSimpArgs false
set_option linter.unusedVariables false
namespace Go.Proofs.YtoednonijmkbjaaGreat
open Rg

def cutT (k : Nat) (t : List (List Int)) : List (List Int) := tri k (atT t)
theorem cutT_len (k : Nat) (t : List (List Int)) : (cutT k t).length = k := tri_len _ _
theorem cutT_ok {m : Int} {n k : Nat} {t : List (List Int)} (ht : PlaT m n t) (hk : k ≤ n) : PlaT m k (cutT k t) := tri_ok fun i j h => tab_range ht (by omega)
theorem cutT_at {k : Nat} {t : List (List Int)} {i j : Nat} (h : i + j < k) : atT (cutT k t) i j = atT t i j := atT_tri h

end Go.Proofs.YtoednonijmkbjaaGreat
