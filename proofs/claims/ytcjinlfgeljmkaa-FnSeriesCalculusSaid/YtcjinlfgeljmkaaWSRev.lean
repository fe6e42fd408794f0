/- Lemmas of Rev. -/
import Derived.Test.YtcjinlfgeljmkaaWSG1
import Derived.Test.YtcjinlfgeljmkaaWSEu
set_option linter.unusedSimpArgs false
set_option linter.unusedVariables false
namespace Go.Proofs.Ytcjinlfgeljmkaa

theorem conv_congr {a a' b b' : Nat → Int} {k : Nat} (h : ∀ i, i ≤ k → a i * b (k - i) = a' i * b' (k - i)) : conv a b k = conv a' b' k := sumN_congr fun i hi => h i (by omega)
theorem sumN_first (n : Nat) (f : Nat → Int) : sumN (n + 1) f = f 0 + sumN n (fun i => f (i + 1)) := by
  induction n with
  | zero => simp [sumN]
  | succ n ih => rw [show sumN (n + 1 + 1) f = sumN (n + 1) f + f (n + 1) from rfl, ih]; simp only [sumN]; omega
def intC (m : Int) (a : List Int) (i : Nat) : Int := at0 a i * invM m ((i : Int) + 1) % m
def intTo (m : Int) (a : List Int) (i : Nat) : List Int := 0 :: mk i (intC m a)
def intL (m : Int) (a : List Int) : List Int := intTo m a a.length
theorem intTo_len (m : Int) (a : List Int) (i : Nat) : (intTo m a i).length = i + 1 := by simp [intTo, mk_len]
theorem intL_len (m : Int) (a : List Int) : (intL m a).length = a.length + 1 := intTo_len _ _ _
theorem intTo_snoc (m : Int) (a : List Int) (i : Nat) : intTo m a (i + 1) = intTo m a i ++ [intC m a i] := by simp [intTo, mk_snoc]
theorem intL_range {m : Int} (hm : 0 < m) (a : List Int) : ∀ x ∈ intL m a, 0 ≤ x ∧ x < m := by
  intro x hx
  rcases List.mem_cons.1 hx with rfl | h
  · omega
  · obtain ⟨k, _, rfl⟩ := mem_mk h
    exact mod_lt' hm
def intP (m : Int) (n : Nat) (a : List Int) (i : Nat) : List Int := mk n (fun k => if 1 ≤ k ∧ k ≤ i then intC m a (k - 1) else 0)
theorem intP_len (m : Int) (n : Nat) (a : List Int) (i : Nat) : (intP m n a i).length = n := mk_len _ _
theorem intP_0 (m : Int) (n : Nat) (a : List Int) : List.replicate n (0 : Int) = intP m n a 0 := by
  rw [mk_zero]; exact mk_ext fun k _ => by rw [if_neg (by omega)]
theorem intP_set {m : Int} {n : Nat} {a : List Int} {i : Nat} : (intP m n a i).set (i + 1) (intC m a i) = intP m n a (i + 1) := by
  unfold intP
  rw [mk_set]
  refine mk_ext fun k _ => ?_
  by_cases h : k = i + 1
  · subst h; rw [if_pos rfl, if_pos (by omega)]; rfl
  · rw [if_neg h]
    by_cases h2 : 1 ≤ k ∧ k ≤ i
    · rw [if_pos h2, if_pos (by omega)]
    · rw [if_neg h2, if_neg (by omega)]
theorem intP_all (m : Int) (a : List Int) : intP m (a.length + 1) a a.length = intL m a := by
  unfold intP intL intTo
  apply List.ext_getElem?
  intro j
  by_cases h : j < a.length + 1
  · rw [mk_get h]
    cases j with
    | zero => simp
    | succ j => rw [if_pos (by omega), List.getElem?_cons_succ, mk_get (by omega)]; rfl
  · rw [List.getElem?_eq_none (by rw [mk_len]; omega), List.getElem?_eq_none (by simp [mk_len]; omega)]
theorem invM_mod (m a : Int) : invM m (a % m) = invM m a := by unfold invM; rw [Int.emod_emod_of_dvd _ (Int.dvd_refl m)]

def unitsB (m : Int) (n : Nat) : Bool := (List.range n).all (fun i => unitB m ((i : Int) + 1))
theorem unitsB_t {m : Int} {n : Nat} (h : ∀ i, i < n → unitB m ((i : Int) + 1) = true) : unitsB m n = true := by
  unfold unitsB; rw [List.all_eq_true]; intro i hi; exact h i (List.mem_range.1 hi)
theorem unitsB_f {m : Int} {n i : Nat} (hi : i < n) (h : unitB m ((i : Int) + 1) = false) : unitsB m n = false := by
  unfold unitsB; rw [List.all_eq_false]; exact ⟨i, List.mem_range.2 hi, by simp [h]⟩

end Go.Proofs.Ytcjinlfgeljmkaa
