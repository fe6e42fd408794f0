/- Lemmas of Rev. -/
import Derived.Test.YtmmneicblcjkjaaQG1
import Derived.Test.YtmmneicblcjkjaaQEu
set_option linter.unusedSimpArgs false
set_option linter.unusedVariables false
namespace Go.Proofs.Ytmmneicblcjkjaa

theorem conv_congr {a a' b b' : Nat → Int} {k : Nat} (h : ∀ i, i ≤ k → a i * b (k - i) = a' i * b' (k - i)) : conv a b k = conv a' b' k := sumN_congr fun i hi => h i (by omega)
theorem at0_set {l : List Int} {k i : Nat} {x : Int} : at0 (l.set k x) i = if i = k ∧ k < l.length then x else at0 l i := by
  unfold at0 List.getD
  rw [List.getElem?_set]
  by_cases h : k = i
  · subst h
    by_cases h2 : k < l.length
    · simp [h2]
    · rw [if_pos rfl, if_neg h2, if_neg (by omega)]
      rw [List.getElem?_eq_none (by omega)]
  · rw [if_neg h, if_neg (by omega)]

theorem neg_mod2 {m x : Int} : (-(x % m)) % m = (-x) % m := by
  rw [Int.neg_emod_eq_sub_emod, Int.neg_emod_eq_sub_emod, Int.sub_emod, Int.emod_emod_of_dvd _ (Int.dvd_refl m), ← Int.sub_emod]
theorem neg_mul_mod {m x u : Int} : (-(x * u % m)) % m = (-x * u) % m := by
  have : (-(x * u % m)) % m = (-(x * u)) % m := by
    rw [Int.neg_emod_eq_sub_emod, Int.neg_emod_eq_sub_emod, Int.sub_emod, Int.emod_emod_of_dvd _ (Int.dvd_refl m), ← Int.sub_emod]
  rw [this, Int.neg_mul]

def invG (m : Int) (a : List Int) : Nat → List Int
  | 0 => [invM m (at0 a 0)]
  | k + 1 => invG m a k ++ [(-(conv (at0 a) (at0 (invG m a k)) (k + 1)) * invM m (at0 a 0)) % m]
def invS (m : Int) (n : Nat) (a : List Int) : List Int := invG m a (n - 1)
theorem invG_len (m : Int) (a : List Int) (k : Nat) : (invG m a k).length = k + 1 := by
  induction k with
  | zero => rfl
  | succ k ih => simp [invG, ih]
theorem invS_len {m : Int} {n : Nat} (a : List Int) (hn : 1 ≤ n) : (invS m n a).length = n := by unfold invS; rw [invG_len]; omega
theorem invG_range {m : Int} (hm : 0 < m) (a : List Int) (k : Nat) : ∀ x ∈ invG m a k, 0 ≤ x ∧ x < m := by
  induction k with
  | zero => intro x hx; simp [invG] at hx; subst hx; exact invM_range hm _
  | succ k ih =>
    intro x hx
    unfold invG at hx
    rcases List.mem_append.1 hx with h | h
    · exact ih x h
    · simp at h; subst h; exact mod_lt' hm
def invP (m : Int) (n : Nat) (a : List Int) (k : Nat) : List Int := invG m a k ++ List.replicate (n - 1 - k) 0
theorem invP_range {m : Int} (hm : 0 < m) (n : Nat) (a : List Int) (k : Nat) : ∀ x ∈ invP m n a k, 0 ≤ x ∧ x < m := by
  intro x hx
  rcases List.mem_append.1 hx with h | h
  · exact invG_range hm a k x h
  · simp at h; omega
theorem invP_all {m : Int} {n : Nat} {a : List Int} : invP m n a (n - 1) = invS m n a := by simp [invP, invS]
def sumTo (m : Int) (a b : List Int) (n i : Nat) : Int := sumN i (fun i => at0 a (i + 1) * at0 b (n - (i + 1))) % m
theorem sumTo_step {m : Int} {a b : List Int} {n i : Nat} : (sumTo m a b n i + at0 a (i + 1) * at0 b (n - (i + 1))) % m = sumTo m a b n (i + 1) := by
  unfold sumTo
  simp only [sumN]
  rw [Int.add_emod, Int.emod_emod_of_dvd _ (Int.dvd_refl m), ← Int.add_emod]
theorem sumTo_range {m : Int} (hm : 0 < m) (a b : List Int) (n i : Nat) : 0 ≤ sumTo m a b n i ∧ sumTo m a b n i < m := mod_lt' hm
theorem sumN_first (n : Nat) (f : Nat → Int) : sumN (n + 1) f = f 0 + sumN n (fun i => f (i + 1)) := by
  induction n with
  | zero => simp [sumN]
  | succ n ih => rw [show sumN (n + 1 + 1) f = sumN (n + 1) f + f (n + 1) from rfl, ih]; simp only [sumN]; omega
theorem inv_step {m : Int} {a : List Int} {k i : Nat} (hi : i ≤ k + 1) (h : i = k + 1 ∨ a.length ≤ i + 1) :
    (m - sumTo m a (invG m a k) (k + 1) i) * invM m (at0 a 0) % m = (-(conv (at0 a) (at0 (invG m a k)) (k + 1)) * invM m (at0 a 0)) % m := by
  have e : conv (at0 a) (at0 (invG m a k)) (k + 1) = sumN i (fun i => at0 a (i + 1) * at0 (invG m a k) (k + 1 - (i + 1))) := by
    unfold conv
    rw [sumN_first, Nat.sub_zero, at0_out (xs := invG m a k) (by rw [invG_len]; omega), Int.mul_zero, Int.zero_add]
    obtain ⟨d, hd⟩ : ∃ d, k + 1 = i + d := ⟨k + 1 - i, by omega⟩
    rw [show sumN (k + 1) (fun i => at0 a (i + 1) * at0 (invG m a k) (k + 1 - (i + 1))) = sumN (i + d) (fun i => at0 a (i + 1) * at0 (invG m a k) (k + 1 - (i + 1))) by rw [← hd], sumN_split]
    rw [sumN_zero (n := d) (fun j hj => ?_), Int.add_zero]
    rcases h with h | h
    · omega
    · rw [at0_out (xs := a) (by omega), Int.zero_mul]
  rw [e]
  unfold sumTo
  generalize sumN i (fun i => at0 a (i + 1) * at0 (invG m a k) (k + 1 - (i + 1))) = s
  have e2 : (m - s % m) * invM m (at0 a 0) = -(s % m) * invM m (at0 a 0) + m * invM m (at0 a 0) := by grind
  rw [e2, Int.add_mul_emod_self_left, ← neg_mul_mod, ← neg_mul_mod (x := s), Int.mul_emod, Int.emod_emod_of_dvd _ (Int.dvd_refl m), ← Int.mul_emod]

def axT (n : Nat) (a : List Int) (k : Int) : List (List Int) := tri n (fun i j => if k = 0 then (if j = 0 then at0 a i else 0) else (if i = 0 then at0 a j else 0))
end Go.Proofs.Ytmmneicblcjkjaa
