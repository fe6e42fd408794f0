/- Lemmas of WittN. -/
import Derived.Test.YtcjinlfgeljmkaaWMOpI
import Derived.Test.YtcjinlfgeljmkaaWMG2
set_option linter.unusedSimpArgs false
set_option linter.unusedVariables false
namespace Go.Proofs.Ytcjinlfgeljmkaa
open Go.RowKit

def negL (p : Nat) (m : Int) (xs : List Int) : List Int := FL p m xs.length (fun k => - gh p (at0 xs) k)
theorem negL_len (p : Nat) (m : Int) (xs : List Int) : (negL p m xs).length = xs.length := FL_len _ _ _ _
def negR (p m : Int) (xs : List Int) : WR := if wittB p m xs then ⟨p, m, negL p.toNat m xs, 0⟩ else WR.bad 1

end Go.Proofs.Ytcjinlfgeljmkaa
