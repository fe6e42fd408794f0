/- Lemmas of WittD. -/
import Derived.Test.YtcjinlfgeljmkaaWTWittC
import Derived.Test.YtcjinlfgeljmkaaWTGhost
set_option linter.unusedSimpArgs false
set_option linter.unusedVariables false
namespace Go.Proofs.Ytcjinlfgeljmkaa
open Go.RowKit

structure IR where
  val : Int
  code : Int
structure LR where
  xs : List Int
  code : Int
theorem Box3.belowB {B : Nat} {w w' : World} {b : Nat} {x y z : Value} (h : Box3 w b x y z) (hb : Below B w w') (hB : b < B) : Box3 w' b x y z :=
  ⟨(hb.cell (p := ⟨b, 0, none⟩) hB).trans h.1, (hb.cell (p := ⟨b, 1, none⟩) hB).trans h.2.1, (hb.cell (p := ⟨b, 2, none⟩) hB).trans h.2.2⟩
theorem RB3.belowB {B : Nat} {w w' : World} {b : Nat} {x y z : Value} (h : RB3 w b x y z) (hb : Below B w w') (hB : b < B) : RB3 w' b x y z :=
  ⟨h.1.belowB hb hB, fun k => (hb.frozen (p := ⟨b, k, none⟩) hB).trans (h.2 k)⟩
end Go.Proofs.Ytcjinlfgeljmkaa
