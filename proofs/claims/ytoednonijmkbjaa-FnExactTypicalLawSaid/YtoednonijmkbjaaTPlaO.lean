/- Lemmas of PlaO. -/
import Derived.Test.YtoednonijmkbjaaTG15
import Derived.Test.YtoednonijmkbjaaTPlaR
set_option linter.unusedSimpArgs false
set_option linter.unusedVariables false
namespace Go.Proofs.Ytoednonijmkbjaa
open Go.RowKit

theorem numT_rows (n : Nat) (f : Nat → Nat → Int) (k : Nat) : numT ((List.range k).map (fun i => mk (n - i) (f i))) ≤ k * n := by
  induction k with
  | zero => simp [numT]
  | succ k ih =>
    rw [tri_snoc_rows, numT_app, Nat.succ_mul]
    have : numT [mk (n - k) (f k)] ≤ n := by simp [numT, mk_len]
    omega
theorem sizeT_tri {n : Nat} (hn : n ≤ 1000) (f : Nat → Nat → Int) : sizeT (tri n f) ≤ 1048576 := by
  have h1 := numT_rows n f n
  have h2 : n * n ≤ 1000 * 1000 := Nat.mul_le_mul hn hn
  unfold sizeT
  rw [tri_len]
  unfold tri
  omega
end Go.Proofs.Ytoednonijmkbjaa
