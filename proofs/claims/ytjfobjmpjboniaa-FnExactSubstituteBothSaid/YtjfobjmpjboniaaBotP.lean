/- The table of a curve of x and a curve of y put into a plane, while it is made place by place. No program stands here. -/
import Derived.Test.YtjfobjmpjboniaaPlc
set_option linter.unusedSimpArgs false
set_option linter.unusedVariables false
namespace Go.Proofs.Ytjfobjmpjboniaa

/-- What stands at x^p y^q: of the place (i, j) the rows before k, and of the row k the places before l, are added. -/
def bpF (n : Nat) (t : Nat → Nat → Int) (P Q : Nat → List Int) (i j k l p q : Nat) : Int := if (i ≤ p ∧ j ≤ q) ∧ (p < k ∨ (p = k ∧ q < l)) then botS n t P Q i (j + 1) p q else botS n t P Q i j p q
def bpT (m : Int) (n : Nat) (t : Nat → Nat → Int) (P Q : Nat → List Int) (i j k l : Nat) : List (List Int) := tri n (fun p q => bpF n t P Q i j k l p q % m)
def bpR (m : Int) (n : Nat) (t : Nat → Nat → Int) (P Q : Nat → List Int) (i j k l : Nat) : List Int := mk (n - k) (fun q => bpF n t P Q i j k l k q % m)
theorem bpR_len (m : Int) (n : Nat) (t : Nat → Nat → Int) (P Q : Nat → List Int) (i j k l : Nat) : (bpR m n t P Q i j k l).length = n - k := mk_len _ _
theorem bpT_row {m : Int} {n : Nat} {t : Nat → Nat → Int} {P Q : Nat → List Int} {i j k l : Nat} (h : k < n) : (bpT m n t P Q i j k l)[k]? = some (bpR m n t P Q i j k l) := tri_get h
theorem bpR_get {m : Int} {n : Nat} {t : Nat → Nat → Int} {P Q : Nat → List Int} {i j k l : Nat} (h : k + l < n) : (bpR m n t P Q i j k l)[l]? = some (botS n t P Q i j k l % m) := by
  unfold bpR
  rw [mk_get (by omega)]
  unfold bpF
  rw [if_neg (by omega)]
theorem bpT_0 {m : Int} {n : Nat} {t : Nat → Nat → Int} {P Q : Nat → List Int} {i j : Nat} : botTo m n t P Q i j = bpT m n t P Q i j i j :=
  tri_ext fun p q _ => by unfold bpF; rw [if_neg (by omega)]
theorem bpT_skip {m : Int} {n : Nat} {t : Nat → Nat → Int} {P Q : Nat → List Int} {i j k l : Nat} (h : t i j = 0) : bpT m n t P Q i j k l = botTo m n t P Q i (j + 1) :=
  tri_ext fun p q _ => by
    unfold bpF
    have e : botS n t P Q i j p q = botS n t P Q i (j + 1) p q := by rw [botS_step, h, Int.zero_mul, Int.add_zero]
    rw [e, ite_self]
theorem bpT_line {m : Int} {n : Nat} {t : Nat → Nat → Int} {P Q : Nat → List Int} {i j k l : Nat} (h : n ≤ k + l) : bpT m n t P Q i j k l = bpT m n t P Q i j (k + 1) j :=
  tri_ext fun p q hpq => by
    unfold bpF
    by_cases e : (i ≤ p ∧ j ≤ q) ∧ (p < k ∨ (p = k ∧ q < l))
    · rw [if_pos e, if_pos (by omega)]
    · rw [if_neg e, if_neg (by omega)]
theorem bpT_all {m : Int} {n : Nat} {t : Nat → Nat → Int} {P Q : Nat → List Int} {i j l : Nat} (hP : ∀ k, k < i → at0 (P i) k = 0) (hQ : ∀ k, k < j → at0 (Q j) k = 0) : bpT m n t P Q i j n l = botTo m n t P Q i (j + 1) :=
  tri_ext fun p q hpq => by
    unfold bpF
    by_cases e : i ≤ p ∧ j ≤ q
    · rw [if_pos (by omega)]
    · rw [if_neg (by omega), botS_step]
      have : at0 (P i) p * at0 (Q j) q = 0 := by
        by_cases e1 : p < i
        · rw [hP p e1, Int.zero_mul]
        · rw [hQ q (by omega), Int.mul_zero]
      rw [this, Int.mul_zero, Int.add_zero]
theorem bp_num {m : Int} {n : Nat} {t : Nat → Nat → Int} {P Q : Nat → List Int} {i j k l : Nat} :
    (botS n t P Q i j k l % m + t i j * at0 (P i) k % m * at0 (Q j) l) % m = botS n t P Q i (j + 1) k l % m := by
  rw [botS_step]
  refine emod_congr_add (emod_idem _ _) ?_
  rw [← Int.mul_assoc]
  exact emod_congr_mul (emod_idem _ _) rfl
theorem bpT_set {m : Int} {n : Nat} {t : Nat → Nat → Int} {P Q : Nat → List Int} {i j k l : Nat} (hi : i ≤ k) (hj : j ≤ l) (h : k + l < n) :
    (bpT m n t P Q i j k l).set k ((bpR m n t P Q i j k l).set l ((botS n t P Q i j k l % m + t i j * at0 (P i) k % m * at0 (Q j) l) % m)) = bpT m n t P Q i j k (l + 1) := by
  rw [bp_num]
  unfold bpT bpR
  rw [tri_set (f := fun p q => bpF n t P Q i j k l p q % m) h]
  refine tri_ext fun p q hpq => ?_
  unfold bpF
  by_cases e : p = k ∧ q = l
  · obtain ⟨rfl, rfl⟩ := e
    rw [if_pos ⟨rfl, rfl⟩, if_pos (by omega)]
  · rw [if_neg e]
    by_cases e2 : (i ≤ p ∧ j ≤ q) ∧ (p < k ∨ (p = k ∧ q < l))
    · rw [if_pos e2, if_pos (by omega)]
    · rw [if_neg e2, if_neg (by omega)]
end Go.Proofs.Ytjfobjmpjboniaa
