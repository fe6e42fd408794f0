/- Lemmas. -/
import Derived.Test.YtfpphfjlpgefaaaGreatDoorQCM2
import Derived.Test.YtfpphfjlpgefaaaGreatDoorQCG1
set_option linter.unusedSimpArgs false
set_option linter.unusedVariables false
namespace Go.Proofs.YtfpphfjlpgefaaaGreatDoor
open Rg

def cutT (k : Nat) (t : List (List Int)) : List (List Int) := tri k (atT t)
theorem cutT_at {k : Nat} {t : List (List Int)} {i j : Nat} (h : i + j < k) : atT (cutT k t) i j = atT t i j := atT_tri h

def homT (m : Int) (n : Nat) (t s : List (List Int)) (xs : List Int) : Prop := hornT m n t xs = botL m n s xs xs
theorem homT_iff {m : Int} {n : Nat} {t s : List (List Int)} {xs : List Int} (hm : 0 < m) (ht : PlaT m n t) (hs : PlaT m n s) (h0 : at0 xs 0 = 0) (hl : xs.length = n) (ht0 : atT t 0 0 = 0) :
    homT m n t s xs ↔ eqv m n (ev1 n (at0 xs) (atT t)) (ev2 n (atT s) (onx (at0 xs)) (ony (at0 xs))) := by
  have e1 := T_horn (m := m) (n := n) t xs (by omega)
  have e2 := T_bot hs xs xs
  constructor
  · intro h
    rw [h] at e1
    exact eqv_trans (eqv_symm e1) e2
  · intro h
    exact tab_eq (hornT_ok hm _ _ _) (botTo_ok hm _ _ _ _ _ _) (eqv_trans e1 (eqv_trans h (eqv_symm e2)))
theorem lo_atT {m : Int} {t : List (List Int)} (h : atT t 0 0 = 0) : lo m 1 (atT t) := fun i => by
  by_cases hi : i = 0
  · subst hi
    exact lo_fun fun j hj => by rw [show j = 0 by omega]; exact h
  · rw [show 1 - i = 0 by omega]; exact lo_0 _ _
def allC (m : Nat) : Nat → List Int → List (List Int)
  | 0, pre => [pre]
  | d + 1, pre => (List.range m).flatMap (fun (x : Nat) => allC m d (pre ++ [(x : Int)]))
theorem allC_mem {m : Nat} : ∀ {d : Nat} {pre xs : List Int}, xs ∈ allC m d pre → xs.length = pre.length + d ∧ xs.take pre.length = pre ∧ ((∀ x ∈ pre, 0 ≤ x ∧ x < (m : Int)) → ∀ x ∈ xs, 0 ≤ x ∧ x < (m : Int))
  | 0, pre, xs, h => by
    simp [allC] at h; subst h; simp
  | d + 1, pre, xs, h => by
    obtain ⟨x, hx, h⟩ := List.mem_flatMap.1 h
    obtain ⟨h1, h2, h3⟩ := allC_mem h
    simp at h1 h2
    refine ⟨by omega, ?_, fun hp => h3 fun y hy => ?_⟩
    · have : (xs.take (pre.length + 1)).take pre.length = (pre ++ [(x : Int)]).take pre.length := by rw [h2]
      simpa [List.take_take] using this
    · rcases List.mem_append.1 hy with h | h
      · exact hp y h
      · simp at h hx; omega
end Go.Proofs.YtfpphfjlpgefaaaGreatDoor
