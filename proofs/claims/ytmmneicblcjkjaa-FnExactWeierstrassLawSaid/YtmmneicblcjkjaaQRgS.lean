/- Lemmas of RgS. -/
import Derived.Test.YtmmneicblcjkjaaQRgB
set_option linter.unusedSimpArgs false
set_option linter.unusedVariables false
namespace Go.Proofs.Ytmmneicblcjkjaa
open Rg

section ev
variable {T : Type} [Rg T]
theorem ev1_f {m : Int} {n k : Nat} {f g : Nat → Int} {a : T} (ha : lo m 1 a) (hk : k ≤ n) (h : eqv m k f g) : eqv m k (ev1 n f a) (ev1 n g a) := (hm1 (n := n) ha).eqv hk h
theorem ev1_a {m : Int} {n k : Nat} (f : Nat → Int) {a b : T} (h : eqv m k a b) : eqv m k (ev1 n f a) (ev1 n f b) := sm_eqv fun i _ => eqv_mll _ (pw_eqv h i)
end ev

theorem sumN_only {n i : Nat} {f : Nat → Int} (hi : i < n) (h : ∀ j, j < n → j ≠ i → f j = 0) : sumN n f = f i := by
  induction n with
  | zero => omega
  | succ n ih =>
    simp only [sumN]
    by_cases e : i = n
    · subst e
      rw [sumN_zero fun j hj => h j (by omega) (by omega), Int.zero_add]
    · rw [ih (by omega) fun j hj hne => h j (by omega) hne, h n (by omega) (by omega), Int.add_zero]
def xS : Nat → Int := mon 1 1
theorem at0_var {n : Nat} (h : 2 ≤ n) : at0 (varL n) = xS := by
  funext i
  unfold varL xS mon
  rw [at0_set, at0_rep, List.length_replicate]
  by_cases hi : i = 1
  · rw [if_pos ⟨hi, by omega⟩, if_pos hi]
  · rw [if_neg (fun e => hi e.1), if_neg hi]
theorem lo_x (m : Int) : lo m 1 xS := lo_mon m 1 1
theorem ev1_xl {T : Type} [Rg T] {m : Int} {n : Nat} (h2 : 2 ≤ n) (a : T) : ev1 n xS a = a := by
  rw [← at0_var h2]; exact ev1_var (m := m) h2 a
theorem invG_at (m : Int) (a : List Int) {k i : Nat} (h : i ≤ k) : at0 (invG m a (k + 1)) i = at0 (invG m a k) i := by
  show at0 (invG m a k ++ [_]) i = _
  unfold at0 List.getD
  rw [List.getElem?_append_left (by rw [invG_len]; omega)]
theorem invG_keep (m : Int) (a : List Int) {k i : Nat} : ∀ d, i ≤ k → at0 (invG m a (k + d)) i = at0 (invG m a k) i
  | 0, _ => rfl
  | d + 1, h => by rw [show k + (d + 1) = k + d + 1 by omega, invG_at m a (by omega)]; exact invG_keep m a d h
theorem inv_times {m : Int} (hm : 2 ≤ m) {n : Nat} (h1 : 1 ≤ n) {a : List Int} (hu : at0 a 0 * invM m (at0 a 0) % m = 1 % m) : timesL m n a (invS m n a) = mk n (fun k => if k = 0 then 1 else 0) := by
  unfold timesL
  refine mk_ext fun k hk => ?_
  have hat : ∀ i, i ≤ k → at0 (invS m n a) i = at0 (invG m a k) i := fun i hi => by
    unfold invS
    rw [show n - 1 = k + (n - 1 - k) by omega]
    exact invG_keep m a _ hi
  rw [conv_congr (a' := at0 a) (b' := at0 (invG m a k)) fun i hi => by rw [hat _ (by omega)]]
  cases k with
  | zero =>
    rw [if_pos rfl]
    unfold conv
    rw [sumN_one]
    show (at0 a 0 * at0 [invM m (at0 a 0)] 0) % m = 1
    rw [show at0 [invM m (at0 a 0)] 0 = invM m (at0 a 0) from rfl, hu]
    exact Int.emod_eq_of_lt (by omega) (by omega)
  | succ k =>
    rw [if_neg (by omega)]
    have l1 : at0 (invG m a (k + 1)) (k + 1) = (-(conv (at0 a) (at0 (invG m a k)) (k + 1)) * invM m (at0 a 0)) % m := by
      show at0 (invG m a k ++ [_]) (k + 1) = _
      unfold at0 List.getD
      rw [List.getElem?_append_right (by rw [invG_len]; omega)]
      simp [invG_len]
    have l2 : at0 (invG m a k) (k + 1) = 0 := by
      unfold at0 List.getD
      rw [List.getElem?_eq_none (by rw [invG_len]; omega)]; rfl
    have e1 : conv (at0 a) (at0 (invG m a (k + 1))) (k + 1) = at0 a 0 * at0 (invG m a (k + 1)) (k + 1) + sumN (k + 1) (fun i => at0 a (i + 1) * at0 (invG m a k) (k - i)) := by
      unfold conv
      rw [sumN_first]
      congr 1
      refine sumN_congr fun i hi => ?_
      rw [show k + 1 - (i + 1) = k - i by omega, invG_at m a (by omega)]
    have e2 : conv (at0 a) (at0 (invG m a k)) (k + 1) = sumN (k + 1) (fun i => at0 a (i + 1) * at0 (invG m a k) (k - i)) := by
      unfold conv
      rw [sumN_first, Nat.sub_zero, l2, Int.mul_zero, Int.zero_add]
      refine sumN_congr fun i hi => ?_
      rw [show k + 1 - (i + 1) = k - i by omega]
    rw [e1, ← e2, l1]
    generalize conv (at0 a) (at0 (invG m a k)) (k + 1) = c
    have e3 : (at0 a 0 * ((-c * invM m (at0 a 0)) % m)) % m = (at0 a 0 * (-c * invM m (at0 a 0))) % m := emod_congr_mul rfl (mod_self_mod _ _)
    have e4 : at0 a 0 * (-c * invM m (at0 a 0)) = at0 a 0 * invM m (at0 a 0) * (-c) := by grind
    have e5 : (at0 a 0 * invM m (at0 a 0) * (-c)) % m = (1 * (-c)) % m := emod_congr_mul hu rfl
    rw [Int.add_emod, e3, e4, e5, ← Int.add_emod, Int.one_mul, Int.add_left_neg, Int.zero_emod]
end Go.Proofs.Ytmmneicblcjkjaa
