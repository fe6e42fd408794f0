/- Lemmas of WittF. -/
import Derived.Test.YtcjinlfgeljmkaaWSWittN
import Derived.Test.YtcjinlfgeljmkaaWSG1
set_option linter.unusedSimpArgs false
set_option linter.unusedVariables false
namespace Go.Proofs.Ytcjinlfgeljmkaa
open Go.RowKit

def frobL (p : Nat) (m : Int) (xs : List Int) : List Int := FL p m (xs.length - 1) (fun k => gh p (at0 xs) (k + 1))
theorem frobL_len (p : Nat) (m : Int) (xs : List Int) : (frobL p m xs).length = xs.length - 1 := FL_len _ _ _ _
def frobR (p m : Int) (xs : List Int) : WR := if wittB p m xs then (if ((xs.length : Int) == 1) then WR.bad 5 else ⟨p, m, frobL p.toNat m xs, 0⟩) else WR.bad 1

end Go.Proofs.Ytcjinlfgeljmkaa
