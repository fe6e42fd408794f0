/- Lemmas of Put. -/
import Derived.Test.YtdnkadlondediaaQcPow
import Derived.Test.YtdnkadlondediaaQcG4
import Derived.Test.YtdnkadlondediaaQcG2
set_option linter.unusedSimpArgs false
set_option linter.unusedVariables false
namespace Go.Proofs.Ytdnkadlondediaa
open Go.RowKit

theorem RB2.mk4 (w : World) (o o' o'' : Obj) (x y : Value) (t : TypeId) : RB2 ((((w.alloc o).alloc o').alloc o'').alloc (.cells #[x, y] t)) (w.heap.size + 3) x y := by
  have := RB2.mk1 (((w.alloc o).alloc o').alloc o'') x y t
  simpa using this

def Cel2 (w : World) (b f : Nat) (x y : Value) : Prop := w.cell? ⟨b, f, none⟩ = some x ∧ w.cell? ⟨b, f + 1, none⟩ = some y
theorem Cel2.below {B : Nat} {w w' : World} {b f : Nat} {x y : Value} (h : Cel2 w b f x y) (hb : Below B w w') (hB : w.heap.size ≤ B) : Cel2 w' b f x y := ⟨keep_cell hb hB h.1, keep_cell hb hB h.2⟩

end Go.Proofs.Ytdnkadlondediaa
