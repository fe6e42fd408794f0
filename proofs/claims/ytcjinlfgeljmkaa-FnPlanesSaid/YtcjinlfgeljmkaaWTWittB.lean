/- Lemmas of WittB. -/
import Derived.Test.YtcjinlfgeljmkaaWTG2
import Derived.Deep.RegionHeld3
set_option linter.unusedSimpArgs false
set_option linter.unusedVariables false
namespace Go.Proofs.Ytcjinlfgeljmkaa
open Go.RowKit

structure WR where
  p : Int
  m : Int
  xs : List Int
  code : Int

def WR.bad (c : Int) : WR := ⟨0, 0, [], c⟩

end Go.Proofs.Ytcjinlfgeljmkaa
