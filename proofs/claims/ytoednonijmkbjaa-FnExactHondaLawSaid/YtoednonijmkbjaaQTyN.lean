/- Lemmas of TyN. -/
import Derived.Test.YtoednonijmkbjaaQTyM
set_option linter.unusedSimpArgs false
set_option linter.unusedVariables false
namespace Go.Proofs.Ytoednonijmkbjaa
open Go.RowKit
open Rg

theorem T_pwT (m : Int) (n : Nat) (t : List (List Int)) : ∀ k, eqv m n (atT (pwT m n t k)) (pw (atT t) (k + 1))
  | 0 => by rw [pw_1]; exact eqv_rfl
  | k + 1 => eqv_trans (T_times m n _ _) (eqv_mlr _ (T_pwT m n t k))
theorem pwx_at (P i j : Nat) : (pw xP P : Nat → Nat → Int) i j = if j = 0 then (if i = P then 1 else 0) else 0 := by
  rw [show pw xP P = onx (pw xS P) from (onx_pw _ _).symm, pw_xS]; rfl
theorem pwy_at (P i j : Nat) : (pw yP P : Nat → Nat → Int) i j = if i = 0 then (if j = P then 1 else 0) else 0 := by
  rw [show pw yP P = ony (pw xS P) from (ony_pw _ _).symm, pw_xS]; rfl
theorem sub_at (F G H : Nat → Nat → Int) (i j : Nat) : (ad F (ng (ad G H)) : Nat → Nat → Int) i j = F i j - (G i j + H i j) := by
  show F i j + (ng (ad G H) : Nat → Nat → Int) i j = _
  rw [ser_ng, ser_ng]
  show _ + (-1) * (G i j + H i j) = _
  omega
theorem T_subA {m : Int} {n P : Nat} (hP : 1 ≤ P) (t : List (List Int)) : eqv m n (atT (subA m n P t)) (ad (atT t) (ng (ad (pw xP P) (pw yP P)))) := by
  refine eqv2.2 fun i j h => ?_
  rw [sub_at, pwx_at, pwy_at]
  unfold subA
  split
  · rw [atT_tri h]
    unfold dec2 dec1
    by_cases a : i = 0 ∧ j = P
    · obtain ⟨rfl, rfl⟩ := a
      rw [if_pos ⟨rfl, rfl⟩, if_neg (by omega), if_neg (by omega), if_pos rfl, if_pos rfl, mod_self_mod]
      simp
    · rw [if_neg a]
      by_cases b : i = P ∧ j = 0
      · obtain ⟨rfl, rfl⟩ := b
        rw [if_pos ⟨rfl, rfl⟩, if_pos rfl, if_pos rfl, if_neg (by omega), mod_self_mod]
        simp
      · rw [if_neg b]
        have e1 : (if j = 0 then (if i = P then (1 : Int) else 0) else 0) = 0 := by
          split
          · rw [if_neg (by omega)]
          · rfl
        have e2 : (if i = 0 then (if j = P then (1 : Int) else 0) else 0) = 0 := by
          split
          · rw [if_neg (by omega)]
          · rfl
        rw [e1, e2]; simp
  · have e1 : (if j = 0 then (if i = P then (1 : Int) else 0) else 0) = 0 := by
      split
      · rw [if_neg (by omega)]
      · rfl
    have e2 : (if i = 0 then (if j = P then (1 : Int) else 0) else 0) = 0 := by
      split
      · rw [if_neg (by omega)]
      · rfl
    rw [e1, e2]; simp
theorem T_res (m : Int) (n p M : Nat) (hp : 1 ≤ p) (ns : List Int) (t : List (List Int)) : ∀ k, eqv m n (atT (resT m n p M ns t k)) (sm k (fun i => ml (ic ((p : Int) ^ (M - i) % m * at0 ns i % m)) (ad (pw (atT t) (p ^ i)) (ng (ad (pw xP (p ^ i)) (pw yP (p ^ i)))))))
  | 0 => eqv2.2 fun i j h => by
    show atT (zeroT n) i j % m = _
    unfold zeroT
    rw [atT_tri h]; rfl
  | k + 1 => by
    have hP : 1 ≤ p ^ k := Nat.one_le_pow k p hp
    refine eqv_trans (T_add m n _ _) (eqv_ad (T_res m n p M hp ns t k) (eqv_trans (T_sca m n _ _) (eqv_mll _ (eqv_trans (T_subA hP _) (eqv_ad ?_ eqv_rfl)))))
    have h := T_pwT m n t (p ^ k - 1)
    rw [show p ^ k - 1 + 1 = p ^ k by omega] at h
    exact h
section rg
variable {T : Type} [Rg T]
theorem sm_ng (n : Nat) (f : Nat → T) : sm n (fun i => ng (f i)) = ng (sm n f) := by
  induction n with
  | zero => exact ng_zz.symm
  | succ n ih =>
    show ad (sm n _) (ng (f n)) = ng (ad (sm n f) (f n))
    rw [ih]
    exact (ml_ad _ _ _).symm
end rg
theorem DP_sm (p M : Nat) (l : Nat → Int) (F : Nat → Nat → Int) : sm (M + 1) (fun i => ml (ic (l i)) (ad (pw F (p ^ i)) (ng (ad (pw xP (p ^ i)) (pw yP (p ^ i)))))) = DP p M l F := by
  unfold DP LQ
  rw [← sm_ad, ← sm_ng, ← sm_ad]
  exact sm_congr fun i _ => by rw [ml_ad, ml_ng, ml_ad]
theorem T_DP {W : Int} (n p M : Nat) (hp : 1 ≤ p) (v : Nat → Int) (ns : List Int) (hns : ∀ i, i ≤ M → at0 ns i % W = num p v i % W) (t : List (List Int)) :
    eqv W n (atT (resT W n p M ns t (M + 1))) (DP p M (tyl p M v) (atT t)) := by
  refine eqv_trans (T_res W n p M hp ns t (M + 1)) ?_
  rw [← DP_sm]
  refine sm_eqv fun i hi => eqv_mlr _ (eqv_ic ?_)
  unfold tyl
  rw [mod_self_mod]
  exact emod_congr_mul (mod_self_mod _ _) (hns i (by omega))
theorem pw_liftm {p : Nat} (hp : P4 p) (m : Int) {k : Nat} {a b : Nat → Nat → Int} (h : eqv (m * p) k a b) (e : Nat) : eqv (m * p * (p : Int) ^ e) k (pw a (p ^ e)) (pw b (p ^ e)) := by
  induction e with
  | zero => rw [Nat.pow_zero, pw_1, pw_1, Int.pow_zero, Int.mul_one]; exact h
  | succ e ih =>
    rw [Nat.pow_succ, ← pw_pw, ← pw_pw, Int.pow_succ, ← Int.mul_assoc]
    exact pw_lift hp (Int.dvd_mul_of_dvd_left (Int.dvd_mul_left _ _)) ih
theorem DP_eqv {p M : Nat} {l ν : Nat → Int} (H : TyL p M l ν) (m : Int) {k : Nat} {F G : Nat → Nat → Int} (h : eqv (m * p) k F G) : eqv (m * (p : Int) ^ M * p) k (DP p M l F) (DP p M l G) := by
  unfold DP
  refine eqv_ad (sm_eqv fun i hi => ?_) eqv_rfl
  have a := eqv_icd (H.dvd i (by omega)) (pw_liftm H.pr m h i)
  rw [show (p : Int) ^ (M - i) * (m * p * (p : Int) ^ i) = m * (p : Int) ^ M * p by
    rw [show (p : Int) ^ M = (p : Int) ^ (M - i) * (p : Int) ^ i by rw [← Int.pow_add, Nat.sub_add_cancel (by omega)]]
    ac_rfl] at a
  exact a
end Go.Proofs.Ytoednonijmkbjaa
