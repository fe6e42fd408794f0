/- Lemmas of SRev. -/
import Derived.Test.YtcjinlfgeljmkaaWTG3
import Derived.Test.YtcjinlfgeljmkaaWTEu
import Derived.Test.YtcjinlfgeljmkaaWTRev
set_option linter.unusedSimpArgs false
set_option linter.unusedVariables false
namespace Go.Proofs.Ytcjinlfgeljmkaa
open Go.RowKit

structure Cel1 (w : World) (b f : Nat) (x : Value) : Prop where
  get : w.cell? ⟨b, f, none⟩ = some x
theorem Cel1.below {B : Nat} {w w' : World} {b f : Nat} {x : Value} (h : Cel1 w b f x) (hb : Below B w w') (hB : w.heap.size ≤ B) : Cel1 w' b f x := ⟨keep_cell hb hB h.get⟩

end Go.Proofs.Ytcjinlfgeljmkaa
