/- Lemmas. -/
import Derived.Test.YteijannfbafdpaaGreatDoorSZM2
import Derived.Test.YteijannfbafdpaaGreatDoorSZG1
set_option linter.unusedSimpArgs false
set_option linter.unusedVariables false
namespace Go.Proofs.YteijannfbafdpaaGreatDoor
open Rg

def cutT (k : Nat) (t : List (List Int)) : List (List Int) := tri k (atT t)
theorem cutT_ok {m : Int} {n k : Nat} {t : List (List Int)} (ht : PlaT m n t) (hk : k ≤ n) : PlaT m k (cutT k t) := tri_ok fun i j h => tab_range ht (by omega)
theorem cutT_at {k : Nat} {t : List (List Int)} {i j : Nat} (h : i + j < k) : atT (cutT k t) i j = atT t i j := atT_tri h

theorem lo_atT {m : Int} {t : List (List Int)} (h : atT t 0 0 = 0) : lo m 1 (atT t) := fun i => by
  by_cases hi : i = 0
  · subst hi
    exact lo_fun fun j hj => by rw [show j = 0 by omega]; exact h
  · rw [show 1 - i = 0 by omega]; exact lo_0 _ _
def allC (m : Nat) : Nat → List Int → List (List Int)
  | 0, pre => [pre]
  | d + 1, pre => (List.range m).flatMap (fun (x : Nat) => allC m d (pre ++ [(x : Int)]))
end Go.Proofs.YteijannfbafdpaaGreatDoor
