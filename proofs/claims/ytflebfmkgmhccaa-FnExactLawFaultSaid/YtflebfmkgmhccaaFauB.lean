/- The defects of a table, as they are added up. No program stands here. -/
import Derived.Test.YtflebfmkgmhccaaFau
set_option linter.unusedSimpArgs false
set_option linter.unusedVariables false
namespace Go.Proofs.Ytflebfmkgmhccaa

theorem sumR_bound {m : Int} (hm : 0 < m) (hm' : m ≤ 10000) (f : Nat → Int) (k : Nat) : 0 ≤ sumN k (fun i => f i % m) ∧ sumN k (fun i => f i % m) ≤ (k : Int) * 10000 := by
  induction k with
  | zero => simp [sumN]
  | succ k ih =>
    simp only [sumN]
    have := mod_lt' (a := f k) hm
    have e : ((k + 1 : Nat) : Int) * 10000 = (k : Int) * 10000 + 10000 := by omega
    omega
theorem sumR_mod (m : Int) (f : Nat → Int) (k : Nat) : sumN k (fun i => f i % m) % m = sumN k f % m := sumN_mod fun i _ => emod_idem _ _
def lefS (m : Int) (n : Nat) (t : List (List Int)) (a b c k : Nat) : Int := sumN k (fun i => atT t i c * atT (powT m n t i) a b % m)
def rigS (m : Int) (n : Nat) (t : List (List Int)) (a b c k : Nat) : Int := sumN k (fun j => atT t a j * atT (powT m n t j) b c % m)
def defC (m : Int) (n : Nat) (t : List (List Int)) (a b c : Nat) : Int := (lefS m n t a b c (n - c) - rigS m n t a b c (n - a)) % m
theorem defC_0 {m : Int} {n : Nat} {t : List (List Int)} {a b c : Nat} : (defC m n t a b c != 0) = true ↔ lefC m n t a b c ≠ rigC m n t a b c := by
  have e : defC m n t a b c = 0 ↔ lefC m n t a b c = rigC m n t a b c := by
    unfold defC lefC rigC
    rw [← sumR_mod m (fun i => atT t i c * atT (powT m n t i) a b), ← sumR_mod m (fun j => atT t a j * atT (powT m n t j) b c)]
    exact Int.emod_eq_emod_iff_emod_sub_eq_zero.symm
  rw [bne_iff_ne, ne_eq, e]
theorem defC_1 {m : Int} {n : Nat} {t : List (List Int)} {a b c : Nat} (h : (defC m n t a b c != 0) = false) : lefC m n t a b c = rigC m n t a b c := by
  by_cases e : lefC m n t a b c = rigC m n t a b c
  · exact e
  · rw [defC_0.2 e] at h; cases h
theorem lefS_step (m : Int) (n : Nat) (t : List (List Int)) (a b c k : Nat) : lefS m n t a b c (k + 1) = lefS m n t a b c k + atT t k c * atT (powT m n t k) a b % m := rfl
theorem rigS_step (m : Int) (n : Nat) (t : List (List Int)) (a b c k : Nat) : rigS m n t a b c (k + 1) = rigS m n t a b c k + atT t a k * atT (powT m n t k) b c % m := rfl
end Go.Proofs.Ytflebfmkgmhccaa
