/- Lemmas of SerK. -/
import Derived.Test.YtcjinlfgeljmkaaWTSRev
import Derived.Test.YtcjinlfgeljmkaaWTG3
import Derived.Test.YtcjinlfgeljmkaaWTEu
import Derived.Test.YtcjinlfgeljmkaaWTRev
import Derived.Test.YtcjinlfgeljmkaaWTG1
import Derived.Test.YtcjinlfgeljmkaaWTSerO
set_option linter.unusedSimpArgs false
set_option linter.unusedVariables false
namespace Go.Proofs.Ytcjinlfgeljmkaa
open Go.RowKit

def RdX (w : World) (g g' : Nat) (v : Value) (xs : List Int) : Prop := RdI w v xs ∧ ∀ j, v.ownBlock = some j → j ≠ g ∧ j ≠ g'
theorem RdI.off {w : World} {v : Value} {xs : List Int} (h : RdI w v xs) {g k : Nat} (hb : ∀ j, v.ownBlock = some j → j ≠ g) (u : Value) : RdI (w.setCell ⟨g, k, none⟩ u) v xs := by
  obtain ⟨o, c, rfl, hm, hc⟩ := h
  refine ⟨o, c, rfl, hm, fun i x hx => ?_⟩
  obtain ⟨b, off, ho, hcell⟩ := hc i x hx
  refine ⟨b, off, ho, ?_⟩
  have hj : b ≠ g := hb b (by rw [ho]; rfl)
  exact (grown_put w g k u).cell hcell (by simpa using hj)
theorem RdX.put {w : World} {g g' k : Nat} {v : Value} {xs : List Int} (h : RdX w g g' v xs) (u : Value) : RdX (w.setCell ⟨g, k, none⟩ u) g g' v xs := ⟨h.1.off (fun j hj => (h.2 j hj).1) u, h.2⟩
theorem RdX.put' {w : World} {g g' k : Nat} {v : Value} {xs : List Int} (h : RdX w g g' v xs) (u : Value) : RdX (w.setCell ⟨g', k, none⟩ u) g g' v xs := ⟨h.1.off (fun j hj => (h.2 j hj).2) u, h.2⟩
theorem RdX.below {w w' : World} {g g' : Nat} {v : Value} {xs : List Int} (h : RdX w g g' v xs) (hb : Below w.heap.size w w') : RdX w' g g' v xs := ⟨h.1.below hb (Nat.le_refl _), h.2⟩
end Go.Proofs.Ytcjinlfgeljmkaa
