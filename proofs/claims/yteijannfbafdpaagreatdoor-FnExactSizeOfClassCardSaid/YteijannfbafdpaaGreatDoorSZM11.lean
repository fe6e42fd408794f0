/- Lemmas. -/
import Derived.Test.YteijannfbafdpaaGreatDoorSZG3
import Derived.Lib.Strings
import Derived.Lib.Slices
import Derived.Lib.Small
import Derived.Lib.Walk
import Derived.Lib.BitFns
import Derived.Lib.Mul64
import Derived.Laws.Bits64b
import Derived.Test.YteijannfbafdpaaGreatDoorSZG7
import Derived.Deep.AppendSrc
import Derived.Test.YteijannfbafdpaaGreatDoorSZM10
import Derived.Test.YteijannfbafdpaaGreatDoorSZM8
import Derived.Test.YteijannfbafdpaaGreatDoorSZG2
/- The numerators of a typical logarithm: the program. -/
set_option linter.unusedSimpArgs false
set_option linter.unusedVariables false
namespace Go.Proofs.YteijannfbafdpaaGreatDoor
open Go.RowKit

end Go.Proofs.YteijannfbafdpaaGreatDoor

/- append(xs, make([]int64, q)...), xs the call's own, q at most three. -/
set_option linter.unusedSimpArgs false
set_option linter.unusedVariables false
namespace Go.Proofs.YteijannfbafdpaaGreatDoor
open Go.RowKit
open Go

end Go.Proofs.YteijannfbafdpaaGreatDoor

/- The parameters, made three. -/
set_option linter.unusedSimpArgs false
set_option linter.unusedVariables false
namespace Go.Proofs.YteijannfbafdpaaGreatDoor
open Go.RowKit
open Go

end Go.Proofs.YteijannfbafdpaaGreatDoor

/- Typical laws, the reference: powers, numerators. -/
set_option linter.unusedSimpArgs false
set_option linter.unusedVariables false
namespace Go.Proofs.YteijannfbafdpaaGreatDoor
open Go.RowKit

def mostOf (p n : Nat) : Nat := if p * p * p ≤ n then 3 else if p * p ≤ n then 2 else if p ≤ n then 1 else 0
theorem most_key {p n : Nat} (hp : P4 p) (hn : n ≤ 10) {j : Nat} (hj : j ≤ mostOf p n) : p ^ j ≤ 10 ∧ j ≤ 3 ∧ (p ^ (j + 1) ≤ n ↔ j < mostOf p n) ∧ p ^ (j + 1) ≤ 100 := by
  revert hj
  have hnn : n = 0 ∨ n = 1 ∨ n = 2 ∨ n = 3 ∨ n = 4 ∨ n = 5 ∨ n = 6 ∨ n = 7 ∨ n = 8 ∨ n = 9 ∨ n = 10 := by omega
  rcases hp with rfl | rfl | rfl | rfl <;>
    rcases hnn with rfl | rfl | rfl | rfl | rfl | rfl | rfl | rfl | rfl | rfl | rfl <;> (revert j; decide)
end Go.Proofs.YteijannfbafdpaaGreatDoor

/- Typical laws, the reference: numerators. -/
set_option linter.unusedSimpArgs false
set_option linter.unusedVariables false
namespace Go.Proofs.YteijannfbafdpaaGreatDoor
open Go.RowKit

end Go.Proofs.YteijannfbafdpaaGreatDoor
set_option linter.unusedSimpArgs false
set_option linter.unusedVariables false
namespace Go.Proofs.YteijannfbafdpaaGreatDoor
open Go.RowKit

section
variable {ops : Array Oper} {rest : List Oper} {o : Oper} {a : Act} {Q : Exit → Act → World → Prop}
end
def Lk (v : Value) (w : World) (F : World → Prop) : Prop := ∃ lo hi, Rds lo hi w F ∧ ∀ b, v.ownBlock = some b → b < lo ∨ hi ≤ b
theorem Lk.now {v : Value} {w : World} {F : World → Prop} (h : Lk v w F) : F w := by obtain ⟨lo, hi, h, -⟩ := h; exact h.now
theorem Lk.grown {v v' : Value} {w w' : World} {F : World → Prop} (h : Lk v w F) (hg : w.grownBy w' v.ownBlock) (hv : ∀ b, v'.ownBlock = some b → v.ownBlock = some b ∨ w.heap.size ≤ b) : Lk v' w' F := by
  obtain ⟨lo, hi, h, h1⟩ := h
  refine ⟨lo, hi, h.grown hg (fun b hb => h1 b hb), fun b hb => ?_⟩
  rcases hv b hb with e | e
  · exact h1 b e
  · have := h.1; exact .inr (by omega)
theorem Lk.below {v : Value} {w w' : World} {F : World → Prop} (h : Lk v w F) (hb : Below w.heap.size w w') : Lk v w' F := by
  obtain ⟨lo, hi, h, h1⟩ := h
  exact ⟨lo, hi, h.below hb, h1⟩
theorem Lk.of {v : Value} {w : World} {F : World → Prop} {lo hi : Nat} (h : Rds lo hi w F) (hv : ∀ b, v.ownBlock = some b → b < lo ∨ hi ≤ b) : Lk v w F := ⟨lo, hi, h, hv⟩
theorem gr_of_below {w w' : World} {r : Option Nat} (hb : Below w.heap.size w w') : w.grownBy w' r := ⟨hb.os, hb.tape, hb.output, hb.size, fun k hk _ => hb.block k hk⟩
theorem RdT.rds {w : World} {v : Value} {xss : List (List Int)} (h : RdT w v xss) : Rds 0 w.heap.size w (fun u => RdT u v xss) := by
  obtain ⟨us, hu⟩ := Lives.rdT h
  exact ⟨Nat.le_refl _, fun u hk => (hu.stay w u hk hu.now).rd⟩
end Go.Proofs.YteijannfbafdpaaGreatDoor
