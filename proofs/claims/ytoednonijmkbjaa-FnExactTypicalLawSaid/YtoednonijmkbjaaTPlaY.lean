/- Lemmas of PlaY. -/
import Derived.Test.YtoednonijmkbjaaTPlaU
import Derived.Test.YtoednonijmkbjaaTPlaV
import Derived.Test.YtoednonijmkbjaaTPlaX
import Derived.Test.YtoednonijmkbjaaTG1
set_option linter.unusedSimpArgs false
set_option linter.unusedVariables false
namespace Go.Proofs.Ytoednonijmkbjaa
open Go.RowKit

theorem addcT_plus {m : Int} (hm : 0 < m) {n : Nat} {t : List (List Int)} (ht : PlaT m n t) (c : Int) :
    tri n (fun i j => (atT t i j + atT (numbT m c n) i j) % m) = addcT m c n t := tri_ext fun i j h => by
  unfold numbT
  rw [atT_tri h]
  by_cases e : i = 0 ∧ j = 0
  · rw [if_pos e, if_pos e]
    obtain ⟨rfl, rfl⟩ := e
    rw [Int.add_emod, Int.emod_emod_of_dvd _ (Int.dvd_refl m), ← Int.add_emod]
  · rw [if_neg e, if_neg e, Int.add_zero]
    obtain ⟨-, -, -, -, h1, h2⟩ := ht.at h
    exact Int.emod_eq_of_lt h1 h2
end Go.Proofs.Ytoednonijmkbjaa
