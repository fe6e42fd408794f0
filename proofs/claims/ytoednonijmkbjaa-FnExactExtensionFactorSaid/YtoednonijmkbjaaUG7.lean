/- Lemmas of G7. -/
import Derived.Test.YtoednonijmkbjaaUG13
import Derived.Test.YtoednonijmkbjaaUG1
/- Powers of sums modulo a prime, and of what is congruent. No program stands here. -/
set_option linter.unusedSimpArgs false
set_option linter.unusedVariables false
namespace Go.Proofs.Ytoednonijmkbjaa
open Rg

def bin : Nat → Nat → Int
  | 0, 0 => 1
  | 0, _ + 1 => 0
  | n + 1, 0 => 1
  | n + 1, k + 1 => bin n k + bin n (k + 1)
theorem bin_0 (n : Nat) : bin n 0 = 1 := by cases n <;> rfl
theorem bin_hi : ∀ (n k : Nat), n < k → bin n k = 0
  | 0, 0, h => absurd h (by omega)
  | 0, k + 1, _ => rfl
  | n + 1, 0, h => absurd h (by omega)
  | n + 1, k + 1, h => by show bin n k + bin n (k + 1) = 0; rw [bin_hi n k (by omega), bin_hi n (k + 1) (by omega)]; rfl
theorem bin_self (n : Nat) : bin n n = 1 := by
  induction n with
  | zero => rfl
  | succ n ih => show bin n n + bin n (n + 1) = 1; rw [ih, bin_hi n (n + 1) (by omega)]; rfl

section gen
variable {T : Type} [Rg T]
theorem pw_binom (a b : T) (n : Nat) : pw (ad a b) n = sm (n + 1) (fun k => ml (ic (bin n k)) (ml (pw a k) (pw b (n - k)))) := by
  induction n with
  | zero =>
    show oo = ad zz (ml (ic 1) (ml oo oo))
    rw [zz_ad, ic_1, ml_oo, ml_oo]
  | succ n ih =>
    show ml (pw (ad a b) n) (ad a b) = _
    rw [ih, ml_ad, sm_mr, sm_mr, sm_first (n + 1)]
    have e1 : sm (n + 1) (fun k => ml (ic (bin (n + 1) (k + 1))) (ml (pw a (k + 1)) (pw b (n + 1 - (k + 1))))) =
        ad (sm (n + 1) (fun k => ml (ml (ic (bin n k)) (ml (pw a k) (pw b (n - k)))) a)) (sm (n + 1) (fun k => ml (ic (bin n (k + 1))) (ml (pw a (k + 1)) (pw b (n - k))))) := by
      rw [← sm_ad]
      refine sm_congr fun k hk => ?_
      rw [show bin (n + 1) (k + 1) = bin n k + bin n (k + 1) from rfl, ic_ad, ad_ml, show n + 1 - (k + 1) = n - k by omega]
      congr 1
      show ml (ic (bin n k)) (ml (ml (pw a k) a) (pw b (n - k))) = _
      ac_rfl
    rw [e1]
    have e2 : sm (n + 1) (fun k => ml (ml (ic (bin n k)) (ml (pw a k) (pw b (n - k)))) b) =
        ad (ml (ic (bin (n + 1) 0)) (ml (pw a 0) (pw b (n + 1 - 0)))) (sm (n + 1) (fun k => ml (ic (bin n (k + 1))) (ml (pw a (k + 1)) (pw b (n - k))))) := by
      rw [sm_first n]
      have e3 : sm (n + 1) (fun k => ml (ic (bin n (k + 1))) (ml (pw a (k + 1)) (pw b (n - k)))) = sm n (fun k => ml (ml (ic (bin n (k + 1))) (ml (pw a (k + 1)) (pw b (n - (k + 1))))) b) := by
        show ad (sm n _) (ml (ic (bin n (n + 1))) (ml (pw a (n + 1)) (pw b (n - n)))) = _
        rw [bin_hi n (n + 1) (by omega), ic_0, zz_ml, ad_zz]
        refine sm_congr fun k hk => ?_
        rw [show n - k = (n - (k + 1)) + 1 by omega]
        show ml (ic (bin n (k + 1))) (ml (pw a (k + 1)) (ml (pw b (n - (k + 1))) b)) = _
        ac_rfl
      rw [e3, bin_0, bin_0]
      congr 1
      show ml (ml (ic 1) (ml oo (pw b (n - 0)))) b = ml (ic 1) (ml oo (ml (pw b n) b))
      rw [Nat.sub_zero]
      ac_rfl
    rw [e2]
    ac_rfl

end gen

theorem pw_xS : ∀ i, pw xS i = mon i 1 := by
  intro i
  induction i with
  | zero => funext k; show (oo : Nat → Int) k = _; rfl
  | succ i ih =>
    show ml (pw xS i) xS = _
    rw [ih]
    funext k
    rw [cv_conv]
    unfold conv
    by_cases hk : k = i + 1
    · subst hk
      rw [sumN_only (i := i) (by omega) fun j hj hne => by unfold mon; rw [if_neg hne, Int.zero_mul]]
      unfold mon xS mon; simp
    · rw [sumN_zero fun j hj => ?_]
      · unfold mon; rw [if_neg hk]
      · unfold mon xS mon
        by_cases hji : j = i
        · subst hji; rw [if_neg (show ¬ k - j = 1 by omega), Int.mul_zero]
        · rw [if_neg hji, Int.zero_mul]
end Go.Proofs.Ytoednonijmkbjaa

/- The typical law has whole coefficients: the functional equation of its logarithm. No program stands here. -/
set_option linter.unusedSimpArgs false
set_option linter.unusedVariables false
namespace Go.Proofs.Ytoednonijmkbjaa
open Rg

def xP : Nat → Nat → Int := onx xS
def yP : Nat → Nat → Int := ony xS
section gen
variable {T : Type} [Rg T]
end gen

theorem xP_at (i j : Nat) : xP i j = if i = 1 ∧ j = 0 then 1 else 0 := by
  unfold xP onx xS mon
  by_cases hj : j = 0
  · by_cases hi : i = 1
    · rw [if_pos hj, if_pos hi, if_pos ⟨hi, hj⟩]
    · rw [if_pos hj, if_neg hi, if_neg (fun e => hi e.1)]
  · rw [if_neg hj, if_neg (fun e => hj e.2)]
theorem yP_at (i j : Nat) : yP i j = if i = 0 ∧ j = 1 then 1 else 0 := by
  unfold yP ony xS mon
  by_cases hi : i = 0
  · by_cases hj : j = 1
    · rw [if_pos hi, if_pos hj, if_pos ⟨hi, hj⟩]
    · rw [if_pos hi, if_neg hj, if_neg (fun e => hj e.2)]
  · rw [if_neg hi, if_neg (fun e => hi e.1)]
section typ
variable {p M : Nat} {l ν : Nat → Int}
structure TyL (p M : Nat) (l ν : Nat → Int) : Prop where
  pr : P4 p
  one : l 0 = (p : Int) ^ M
  dvd : ∀ k, k ≤ M → (p : Int) ^ (M - k) ∣ l k
  fe : ∀ k, k < M → (p : Int) * l (k + 1) = sm (k + 1) (fun j => ν j * l (k - j))

end typ
end Go.Proofs.Ytoednonijmkbjaa

/- The numerators of a typical logarithm; its functional equation over the integers. No program stands here. -/
set_option linter.unusedSimpArgs false
set_option linter.unusedVariables false
namespace Go.Proofs.Ytoednonijmkbjaa
open Rg

end Go.Proofs.Ytoednonijmkbjaa

/- The typical law as the program finds it: in the coordinate X with x = p X. No program stands here. -/
set_option linter.unusedSimpArgs false
set_option linter.unusedVariables false
namespace Go.Proofs.Ytoednonijmkbjaa
open Rg

def hF (p : Nat) (F : Nat → Nat → Int) : Nat → Nat → Int := fun i j => (p : Int) ^ (i + j - 1) * F i j
end Go.Proofs.Ytoednonijmkbjaa
