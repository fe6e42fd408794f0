/- Lemmas of Put. -/
import Derived.Test.YtmmneicblcjkjaaQG3
import Derived.Test.YtmmneicblcjkjaaQG2
import Derived.Test.YtmmneicblcjkjaaQPlaR
import Derived.Deep.RegionHeld3
import Derived.Test.YtmmneicblcjkjaaQG1
import Derived.Test.YtmmneicblcjkjaaQPlaX
import Derived.Test.YtmmneicblcjkjaaQPlaT
set_option linter.unusedSimpArgs false
set_option linter.unusedVariables false
namespace Go.Proofs.Ytmmneicblcjkjaa
open Go.RowKit

def Cel2 (w : World) (b f : Nat) (x y : Value) : Prop := w.cell? ⟨b, f, none⟩ = some x ∧ w.cell? ⟨b, f + 1, none⟩ = some y
theorem Cel2.below {B : Nat} {w w' : World} {b f : Nat} {x y : Value} (h : Cel2 w b f x y) (hb : Below B w w') (hB : w.heap.size ≤ B) : Cel2 w' b f x y := ⟨keep_cell hb hB h.1, keep_cell hb hB h.2⟩

end Go.Proofs.Ytmmneicblcjkjaa
