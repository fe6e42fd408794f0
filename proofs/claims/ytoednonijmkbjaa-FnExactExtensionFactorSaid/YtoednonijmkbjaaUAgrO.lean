/- Lemmas of AgrO. -/
import Derived.Test.YtoednonijmkbjaaUG5
set_option linter.unusedSimpArgs false
set_option linter.unusedVariables false
namespace Go.Proofs.Ytoednonijmkbjaa
open Go.RowKit

theorem law_0 {m : Int} {t : List (List Int)} (h : lawB m t = true) : atT t 0 0 = 0 := by
  obtain ⟨h1, h2⟩ := lawB_t h
  have := (fauL_nil h2).1 0 (by have := pla_n h1; omega)
  simpa [dueI] using this
theorem law_P {m : Int} {t : List (List Int)} (h : lawB m t = true) : PlaT m t.length t := ⟨rfl, pla_row (lawB_t h).1⟩
theorem agr_0 {m n : Int} {t s : List (List Int)} (h : lawB m t = true) (h' : lawB n s = true) : agrA t s 0 = true := agrA_t fun i hi => by
  obtain rfl : i = 0 := by omega
  rw [Nat.sub_zero, law_0 h, law_0 h']

end Go.Proofs.Ytoednonijmkbjaa
