/- Lemmas of Int. -/
import Derived.Test.YtcjinlfgeljmkaaWMFromI
set_option linter.unusedSimpArgs false
set_option linter.unusedVariables false
namespace Go.Proofs.Ytcjinlfgeljmkaa
open Go.RowKit

theorem FL_range {p : Nat} {m : Int} (hm : 0 < m) {n : Nat} {G : Nat → Int} : ∀ x ∈ FL p m n G, 0 ≤ x ∧ x < m := by
  intro x hx
  simp only [FL, List.mem_map] at hx
  obtain ⟨y, _, rfl⟩ := hx
  exact mod_lt' hm

theorem wide_bounds {p : Nat} (hp : P4 p) {m : Int} (hm : 2 ≤ m) (hm' : m ≤ 10000) {e : Nat} (he : e ≤ 4) : 2 ≤ m * (p : Int) ^ e ∧ m * (p : Int) ^ e ≤ 30000000 := by
  have hpp := hp.pow3 he
  have hb1 : m * (p : Int) ^ e ≤ 10000 * 2401 := Int.mul_le_mul hm' hpp.2 (by omega) (by omega)
  have hb2 : 2 * 1 ≤ m * (p : Int) ^ e := Int.mul_le_mul hm hpp.1 (by omega) (by omega)
  omega

end Go.Proofs.Ytcjinlfgeljmkaa
