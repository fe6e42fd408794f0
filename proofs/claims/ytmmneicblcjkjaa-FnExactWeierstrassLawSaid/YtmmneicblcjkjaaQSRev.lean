/- Lemmas of SRev. -/
import Derived.Test.YtmmneicblcjkjaaQInv
import Derived.Test.YtmmneicblcjkjaaQRev
import Derived.Test.YtmmneicblcjkjaaQG3
set_option linter.unusedSimpArgs false
set_option linter.unusedVariables false
namespace Go.Proofs.Ytmmneicblcjkjaa
open Go.RowKit

theorem invP_end {m : Int} {n : Nat} {a : List Int} {k : Nat} (h : n = k + 1) : invP m n a k = invS m n a := by subst h; exact invP_all
structure Cel1 (w : World) (b f : Nat) (x : Value) : Prop where
  get : w.cell? ⟨b, f, none⟩ = some x
theorem Cel1.below {B : Nat} {w w' : World} {b f : Nat} {x : Value} (h : Cel1 w b f x) (hb : Below B w w') (hB : w.heap.size ≤ B) : Cel1 w' b f x := ⟨keep_cell hb hB h.get⟩

end Go.Proofs.Ytmmneicblcjkjaa
