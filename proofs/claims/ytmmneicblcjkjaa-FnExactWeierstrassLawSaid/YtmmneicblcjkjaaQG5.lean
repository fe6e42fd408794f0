/- Lemmas of G5. -/
import Derived.Test.YtmmneicblcjkjaaQPlaU
import Derived.Test.YtmmneicblcjkjaaQPlaT
import Derived.Test.YtmmneicblcjkjaaQG1
import Derived.Test.YtmmneicblcjkjaaQG2
import Derived.Deep.RegionHeld3
import Derived.Deep.DeepCutAuto
import Derived.Test.YtmmneicblcjkjaaQPlaY
import Derived.Test.YtmmneicblcjkjaaQG3
/- The powers of a plane: the program's function. -/
set_option linter.unusedSimpArgs false
set_option linter.unusedVariables false
namespace Go.Proofs.Ytmmneicblcjkjaa
open Go.RowKit

end Go.Proofs.Ytmmneicblcjkjaa

/- The defects of a law: the program's closure. -/
set_option linter.unusedSimpArgs false
set_option linter.unusedVariables false
namespace Go.Proofs.Ytmmneicblcjkjaa
open Go.RowKit

end Go.Proofs.Ytmmneicblcjkjaa

/- The defects of a law: the program's function that makes the closure. -/
set_option linter.unusedSimpArgs false
set_option linter.unusedVariables false
namespace Go.Proofs.Ytmmneicblcjkjaa
open Go.RowKit

def RB1 (w : World) (b : Nat) (x : Value) : Prop := w.cell? ⟨b, 0, none⟩ = some x ∧ ∀ k, w.frozen? ⟨b, k, none⟩ = false
theorem RB1.lt {w : World} {b : Nat} {x : Value} (h : RB1 w b x) : b < w.heap.size := cell_lt h.1
theorem RB1.below {B : Nat} {w w' : World} {b : Nat} {x : Value} (h : RB1 w b x) (hb : Below B w w') (hB : w.heap.size ≤ B) : RB1 w' b x :=
  ⟨keep_cell hb hB h.1, fun k => (hb.frozen (p := ⟨b, k, none⟩) (Nat.lt_of_lt_of_le h.lt hB)).trans (h.2 k)⟩
theorem RB1.mk1 (w : World) (x : Value) (t : TypeId) : RB1 (w.alloc (.cells #[x] t)) w.heap.size x := ⟨by simp, frozen_new w _ t⟩
theorem RB1.two {w : World} {b b' : Nat} {x0 y0 : Value} (h : RB1 w b x0) (h' : RB1 w b' y0) (hne : b ≠ b') (x y : Value) :
    ((w.setCell ⟨b, 0, none⟩ x).setCell ⟨b', 0, none⟩ y).cell? ⟨b, 0, none⟩ = some x ∧ ((w.setCell ⟨b, 0, none⟩ x).setCell ⟨b', 0, none⟩ y).cell? ⟨b', 0, none⟩ = some y := by
  have e1 := h.1
  have e2 := h'.1
  have hne' : b' ≠ b := fun e => hne e.symm
  constructor <;> simp [go_sem, *]

end Go.Proofs.Ytmmneicblcjkjaa

/- The first fault of a law: the program's function. -/
set_option linter.unusedSimpArgs false
set_option linter.unusedVariables false
namespace Go.Proofs.Ytmmneicblcjkjaa
open Go.RowKit

def FEnd (w w' : World) (l : List Int) (e : Ending) : Prop := ∃ v', e = .returned v' ∧ OwI w' w.heap.size v' l ∧ (l = [] → v' = .slice none 0 0) ∧ Below w.heap.size w w'
theorem FEnd.nil {w w' : World} {l : List Int} (h : l = []) (hb : Below w.heap.size w w') : FEnd w w' l (.returned (.slice none 0 0)) := ⟨_, rfl, by rw [h]; exact OwI.nil _ _, fun _ => rfl, hb⟩
theorem FEnd.lit {w W : World} {l : List Int} {ys : List Int} {n : Nat} (h : l = ys) (hne : ys ≠ []) (hl : ys.length = n) (hm : n ≤ 4) (hs : w.heap.size ≤ W.heap.size) (hb : Below w.heap.size w W) :
    FEnd w (W.alloc (.cells (ys.map (Value.int .i64)).toArray 2)) l (.returned (.slice (some ⟨W.heap.size, 0, none⟩) n n)) := by
  subst h hl
  exact ⟨_, rfl, (OwI.lit W l (by unfold maxLen; omega)).mono hs, fun h => absurd h hne, hb.alloc hs _⟩

end Go.Proofs.Ytmmneicblcjkjaa

/- A column of a table: the reference's function. -/
set_option linter.unusedSimpArgs false
set_option linter.unusedVariables false
namespace Go.Proofs.Ytmmneicblcjkjaa
open Go.RowKit

end Go.Proofs.Ytmmneicblcjkjaa

/- The first fault of a law: the reference's function. -/
set_option linter.unusedSimpArgs false
set_option linter.unusedVariables false
namespace Go.Proofs.Ytmmneicblcjkjaa
open Go.RowKit

end Go.Proofs.Ytmmneicblcjkjaa

/- Laws: is a plane one; its first fault. -/
set_option linter.unusedSimpArgs false
set_option linter.unusedVariables false
namespace Go.Proofs.Ytmmneicblcjkjaa
open Go.RowKit

structure IR where
  val : Int
  code : Int
structure LR where
  xs : List Int
  code : Int
end Go.Proofs.Ytmmneicblcjkjaa

/- Two laws: are they alike; where they agree. -/
set_option linter.unusedSimpArgs false
set_option linter.unusedVariables false
namespace Go.Proofs.Ytmmneicblcjkjaa
open Go.RowKit

end Go.Proofs.Ytmmneicblcjkjaa
