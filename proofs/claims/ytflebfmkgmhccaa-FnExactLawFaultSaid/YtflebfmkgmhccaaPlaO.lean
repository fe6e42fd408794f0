/- Sums of planes: the program and the reference. -/
import Derived.Test.YtflebfmkgmhccaaPlaN
import Derived.Test.YtflebfmkgmhccaaPlaR
set_option linter.unusedSimpArgs false
set_option linter.unusedVariables false
namespace Go.Proofs.Ytflebfmkgmhccaa
open Go.RowKit

theorem numT_rows (n : Nat) (f : Nat → Nat → Int) (k : Nat) : numT ((List.range k).map (fun i => mk (n - i) (f i))) ≤ k * n := by
  induction k with
  | zero => simp [numT]
  | succ k ih =>
    rw [tri_snoc_rows, numT_app, Nat.succ_mul]
    have : numT [mk (n - k) (f k)] ≤ n := by simp [numT, mk_len]
    omega
theorem sizeT_tri {n : Nat} (hn : n ≤ 1000) (f : Nat → Nat → Int) : sizeT (tri n f) ≤ 1048576 := by
  have h1 := numT_rows n f n
  have h2 : n * n ≤ 1000 * 1000 := Nat.mul_le_mul hn hn
  unfold sizeT
  rw [tri_len]
  unfold tri
  omega
theorem twoP_bad {m : Int} {xs : List (List Int)} {n : Int} {ys : List (List Int)} (h : ¬ twoP m xs n ys = 0) : ∃ c, twoP m xs n ys = c ∧ c ≠ 0 := ⟨_, rfl, h⟩
def addPR (m : Int) (xs : List (List Int)) (n : Int) (ys : List (List Int)) : PR := if twoP m xs n ys = 0 then ⟨m, addT m xs.length xs ys, 0⟩ else PR.bad (twoP m xs n ys)



end Go.Proofs.Ytflebfmkgmhccaa
