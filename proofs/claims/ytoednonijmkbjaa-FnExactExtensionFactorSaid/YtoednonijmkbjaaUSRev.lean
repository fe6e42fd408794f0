/- Lemmas of SRev. -/
import Derived.Test.YtoednonijmkbjaaUG17
import Derived.Test.YtoednonijmkbjaaUG3
import Derived.Test.YtoednonijmkbjaaUG6
import Derived.Test.YtoednonijmkbjaaUG1
import Derived.StillTailTactics
set_option linter.unusedSimpArgs false
set_option linter.unusedVariables false
namespace Go.Proofs.Ytoednonijmkbjaa
open Go.RowKit

structure Cel1 (w : World) (b f : Nat) (x : Value) : Prop where
  get : w.cell? ⟨b, f, none⟩ = some x
theorem Cel1.below {B : Nat} {w w' : World} {b f : Nat} {x : Value} (h : Cel1 w b f x) (hb : Below B w w') (hB : w.heap.size ≤ B) : Cel1 w' b f x := ⟨keep_cell hb hB h.get⟩

end Go.Proofs.Ytoednonijmkbjaa
