/- Lemmas of RgB. -/
import Derived.Test.YtcjinlfgeljmkaaWSRgL
import Derived.Test.YtcjinlfgeljmkaaWSG1
import Derived.Test.YtcjinlfgeljmkaaWSRev
set_option linter.unusedSimpArgs false
set_option linter.unusedVariables false
namespace Go.Proofs.Ytcjinlfgeljmkaa
open Rg

theorem mod_self_mod (a m : Int) : a % m % m = a % m := Int.emod_emod_of_dvd _ (Int.dvd_refl m)
def hs {T : Type} [Rg T] (cs : List Int) (a : T) : T := sm cs.length (fun k => ml (ic (at0 cs k)) (pw a k))
end Go.Proofs.Ytcjinlfgeljmkaa
