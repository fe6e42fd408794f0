/- An owned row while another block is written. -/
import Derived.Test.YtjfobjmpjboniaaMemB
set_option linter.unusedSimpArgs false
set_option linter.unusedVariables false
namespace Go.Proofs.Ytjfobjmpjboniaa
open Go.RowKit

theorem OwI.ne {w : World} {B b k : Nat} {v : Value} {xs : List Int} (h : OwI w B v xs) (hb : ∀ j, v.ownBlock = some j → j ≠ b) (u : Value) : OwI (w.setCell ⟨b, k, none⟩ u) B v xs := by
  refine h.kept (grown_put w b k u) ?_
  cases e : v.ownBlock with
  | none => exact .inl rfl
  | some j => exact .inr fun e' => hb j e (by simpa using e')

end Go.Proofs.Ytjfobjmpjboniaa
