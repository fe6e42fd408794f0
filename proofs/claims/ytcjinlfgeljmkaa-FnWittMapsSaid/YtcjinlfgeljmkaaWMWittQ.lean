/- Lemmas of WittQ. -/
import Derived.Test.YtcjinlfgeljmkaaWMWittP
set_option linter.unusedSimpArgs false
set_option linter.unusedVariables false
namespace Go.Proofs.Ytcjinlfgeljmkaa
open Go.RowKit

def Box1 (w : World) (b : Nat) (x : Value) : Prop := w.cell? ⟨b, 0, none⟩ = some x
theorem Box1.below {B : Nat} {w w' : World} {b : Nat} {x : Value} (h : Box1 w b x) (hb : Below B w w') (hB : w.heap.size ≤ B) : Box1 w' b x := keep_cell hb hB h
theorem Box1.lt {w : World} {b : Nat} {x : Value} (h : Box1 w b x) : b < w.heap.size := cell_lt h
def RB1 (w : World) (b : Nat) (x : Value) : Prop := Box1 w b x ∧ ∀ k, w.frozen? ⟨b, k, none⟩ = false
theorem RB1.below {B : Nat} {w w' : World} {b : Nat} {x : Value} (h : RB1 w b x) (hb : Below B w w') (hB : w.heap.size ≤ B) : RB1 w' b x :=
  ⟨h.1.below hb hB, fun k => (hb.frozen (p := ⟨b, k, none⟩) (Nat.lt_of_lt_of_le h.1.lt hB)).trans (h.2 k)⟩
theorem RB1.mk1 (w : World) (x : Value) (t : TypeId) : RB1 (w.alloc (.cells #[x] t)) w.heap.size x := ⟨by unfold Box1; simp, frozen_new w _ t⟩
theorem RB1.mk2 (w : World) (o : Obj) (x : Value) (t : TypeId) : RB1 ((w.alloc o).alloc (.cells #[x] t)) (w.heap.size + 1) x := by
  have := RB1.mk1 (w.alloc o) x t
  simpa using this
end Go.Proofs.Ytcjinlfgeljmkaa
