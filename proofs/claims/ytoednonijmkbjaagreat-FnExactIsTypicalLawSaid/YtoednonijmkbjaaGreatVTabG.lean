/- Lemmas of TabG. -/
import Derived.Test.YtoednonijmkbjaaGreatVG2
set_option linter.unusedSimpArgs false
set_option linter.unusedVariables false
namespace Go.Proofs.YtoednonijmkbjaaGreat
open Go.RowKit

section
variable {ops : Array Oper} {rest : List Oper} {o : Oper} {a : Act} {Q : Exit → Act → World → Prop}
end
def Lk (v : Value) (w : World) (F : World → Prop) : Prop := ∃ lo hi, Rds lo hi w F ∧ ∀ b, v.ownBlock = some b → b < lo ∨ hi ≤ b
theorem Lk.now {v : Value} {w : World} {F : World → Prop} (h : Lk v w F) : F w := by obtain ⟨lo, hi, h, -⟩ := h; exact h.now
theorem Lk.grown {v v' : Value} {w w' : World} {F : World → Prop} (h : Lk v w F) (hg : w.grownBy w' v.ownBlock) (hv : ∀ b, v'.ownBlock = some b → v.ownBlock = some b ∨ w.heap.size ≤ b) : Lk v' w' F := by
  obtain ⟨lo, hi, h, h1⟩ := h
  refine ⟨lo, hi, h.grown hg (fun b hb => h1 b hb), fun b hb => ?_⟩
  rcases hv b hb with e | e
  · exact h1 b e
  · have := h.1; exact .inr (by omega)
theorem Lk.below {v : Value} {w w' : World} {F : World → Prop} (h : Lk v w F) (hb : Below w.heap.size w w') : Lk v w' F := by
  obtain ⟨lo, hi, h, h1⟩ := h
  exact ⟨lo, hi, h.below hb, h1⟩
theorem Lk.of {v : Value} {w : World} {F : World → Prop} {lo hi : Nat} (h : Rds lo hi w F) (hv : ∀ b, v.ownBlock = some b → b < lo ∨ hi ≤ b) : Lk v w F := ⟨lo, hi, h, hv⟩
theorem RdT.rds {w : World} {v : Value} {xss : List (List Int)} (h : RdT w v xss) : Rds 0 w.heap.size w (fun u => RdT u v xss) := by
  obtain ⟨us, hu⟩ := Lives.rdT h
  exact ⟨Nat.le_refl _, fun u hk => (hu.stay w u hk hu.now).rd⟩
end Go.Proofs.YtoednonijmkbjaaGreat
