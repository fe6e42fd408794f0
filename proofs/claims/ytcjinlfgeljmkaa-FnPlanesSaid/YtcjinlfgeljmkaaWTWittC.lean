/- Lemmas of WittC. -/
import Derived.Test.YtcjinlfgeljmkaaWTWittB
set_option linter.unusedSimpArgs false
set_option linter.unusedVariables false
namespace Go.Proofs.Ytcjinlfgeljmkaa
open Go.RowKit

theorem RdI.some {w : World} {o : Option Addr} {n c : Nat} {xs : List Int} (h : RdI w (.slice o n c) xs) (hx : 1 ≤ xs.length) : ∃ b off, o = .some ⟨b, off, none⟩ := by
  obtain ⟨o', c', heq, hm, hc⟩ := h
  obtain ⟨b, off, hb, _⟩ := hc 0 (xs[0]'(by omega)) (by simp)
  have : o = o' := by simpa using (Value.slice.inj heq).1
  exact ⟨b, off, this.trans hb⟩

end Go.Proofs.Ytcjinlfgeljmkaa
