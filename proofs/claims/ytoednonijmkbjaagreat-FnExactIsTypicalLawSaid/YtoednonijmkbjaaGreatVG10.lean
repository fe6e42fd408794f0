/- Lemmas of G10. -/
import Derived.Test.YtoednonijmkbjaaGreatVG9
/- The reference's typical law is the typical law. -/
set_option linter.unusedSimpArgs false
set_option linter.unusedVariables false
namespace Go.Proofs.YtoednonijmkbjaaGreat
open Go.RowKit
open Rg

theorem T_pwT (m : Int) (n : Nat) (t : List (List Int)) : ∀ k, eqv m n (atT (pwT m n t k)) (pw (atT t) (k + 1))
  | 0 => by rw [pw_1]; exact eqv_rfl
  | k + 1 => eqv_trans (T_times m n _ _) (eqv_mlr _ (T_pwT m n t k))
theorem pwx_at (P i j : Nat) : (pw xP P : Nat → Nat → Int) i j = if j = 0 then (if i = P then 1 else 0) else 0 := by
  rw [show pw xP P = onx (pw xS P) from (onx_pw _ _).symm, pw_xS]; rfl
theorem pwy_at (P i j : Nat) : (pw yP P : Nat → Nat → Int) i j = if i = 0 then (if j = P then 1 else 0) else 0 := by
  rw [show pw yP P = ony (pw xS P) from (ony_pw _ _).symm, pw_xS]; rfl
theorem sub_at (F G H : Nat → Nat → Int) (i j : Nat) : (ad F (ng (ad G H)) : Nat → Nat → Int) i j = F i j - (G i j + H i j) := by
  show F i j + (ng (ad G H) : Nat → Nat → Int) i j = _
  rw [ser_ng, ser_ng]
  show _ + (-1) * (G i j + H i j) = _
  omega
theorem T_subA {m : Int} {n P : Nat} (hP : 1 ≤ P) (t : List (List Int)) : eqv m n (atT (subA m n P t)) (ad (atT t) (ng (ad (pw xP P) (pw yP P)))) := by
  refine eqv2.2 fun i j h => ?_
  rw [sub_at, pwx_at, pwy_at]
  unfold subA
  split
  · rw [atT_tri h]
    unfold dec2 dec1
    by_cases a : i = 0 ∧ j = P
    · obtain ⟨rfl, rfl⟩ := a
      rw [if_pos ⟨rfl, rfl⟩, if_neg (by omega), if_neg (by omega), if_pos rfl, if_pos rfl, mod_self_mod]
      simp
    · rw [if_neg a]
      by_cases b : i = P ∧ j = 0
      · obtain ⟨rfl, rfl⟩ := b
        rw [if_pos ⟨rfl, rfl⟩, if_pos rfl, if_pos rfl, if_neg (by omega), mod_self_mod]
        simp
      · rw [if_neg b]
        have e1 : (if j = 0 then (if i = P then (1 : Int) else 0) else 0) = 0 := by
          split
          · rw [if_neg (by omega)]
          · rfl
        have e2 : (if i = 0 then (if j = P then (1 : Int) else 0) else 0) = 0 := by
          split
          · rw [if_neg (by omega)]
          · rfl
        rw [e1, e2]; simp
  · have e1 : (if j = 0 then (if i = P then (1 : Int) else 0) else 0) = 0 := by
      split
      · rw [if_neg (by omega)]
      · rfl
    have e2 : (if i = 0 then (if j = P then (1 : Int) else 0) else 0) = 0 := by
      split
      · rw [if_neg (by omega)]
      · rfl
    rw [e1, e2]; simp
theorem T_res (m : Int) (n p M : Nat) (hp : 1 ≤ p) (ns : List Int) (t : List (List Int)) : ∀ k, eqv m n (atT (resT m n p M ns t k)) (sm k (fun i => ml (ic ((p : Int) ^ (M - i) % m * at0 ns i % m)) (ad (pw (atT t) (p ^ i)) (ng (ad (pw xP (p ^ i)) (pw yP (p ^ i)))))))
  | 0 => eqv2.2 fun i j h => by
    show atT (zeroT n) i j % m = _
    unfold zeroT
    rw [atT_tri h]; rfl
  | k + 1 => by
    have hP : 1 ≤ p ^ k := Nat.one_le_pow k p hp
    refine eqv_trans (T_add m n _ _) (eqv_ad (T_res m n p M hp ns t k) (eqv_trans (T_sca m n _ _) (eqv_mll _ (eqv_trans (T_subA hP _) (eqv_ad ?_ eqv_rfl)))))
    have h := T_pwT m n t (p ^ k - 1)
    rw [show p ^ k - 1 + 1 = p ^ k by omega] at h
    exact h
section rg
variable {T : Type} [Rg T]
theorem sm_ng (n : Nat) (f : Nat → T) : sm n (fun i => ng (f i)) = ng (sm n f) := by
  induction n with
  | zero => exact ng_zz.symm
  | succ n ih =>
    show ad (sm n _) (ng (f n)) = ng (ad (sm n f) (f n))
    rw [ih]
    exact (ml_ad _ _ _).symm
end rg
theorem DP_sm (p M : Nat) (l : Nat → Int) (F : Nat → Nat → Int) : sm (M + 1) (fun i => ml (ic (l i)) (ad (pw F (p ^ i)) (ng (ad (pw xP (p ^ i)) (pw yP (p ^ i)))))) = DP p M l F := by
  unfold DP LQ
  rw [← sm_ad, ← sm_ng, ← sm_ad]
  exact sm_congr fun i _ => by rw [ml_ad, ml_ng, ml_ad]
theorem T_DP {W : Int} (n p M : Nat) (hp : 1 ≤ p) (v : Nat → Int) (ns : List Int) (hns : ∀ i, i ≤ M → at0 ns i % W = num p v i % W) (t : List (List Int)) :
    eqv W n (atT (resT W n p M ns t (M + 1))) (DP p M (tyl p M v) (atT t)) := by
  refine eqv_trans (T_res W n p M hp ns t (M + 1)) ?_
  rw [← DP_sm]
  refine sm_eqv fun i hi => eqv_mlr _ (eqv_ic ?_)
  unfold tyl
  rw [mod_self_mod]
  exact emod_congr_mul (mod_self_mod _ _) (hns i (by omega))
theorem pw_liftm {p : Nat} (hp : P4 p) (m : Int) {k : Nat} {a b : Nat → Nat → Int} (h : eqv (m * p) k a b) (e : Nat) : eqv (m * p * (p : Int) ^ e) k (pw a (p ^ e)) (pw b (p ^ e)) := by
  induction e with
  | zero => rw [Nat.pow_zero, pw_1, pw_1, Int.pow_zero, Int.mul_one]; exact h
  | succ e ih =>
    rw [Nat.pow_succ, ← pw_pw, ← pw_pw, Int.pow_succ, ← Int.mul_assoc]
    exact pw_lift hp (Int.dvd_mul_of_dvd_left (Int.dvd_mul_left _ _)) ih
theorem DP_eqv {p M : Nat} {l ν : Nat → Int} (H : TyL p M l ν) (m : Int) {k : Nat} {F G : Nat → Nat → Int} (h : eqv (m * p) k F G) : eqv (m * (p : Int) ^ M * p) k (DP p M l F) (DP p M l G) := by
  unfold DP
  refine eqv_ad (sm_eqv fun i hi => ?_) eqv_rfl
  have a := eqv_icd (H.dvd i (by omega)) (pw_liftm H.pr m h i)
  rw [show (p : Int) ^ (M - i) * (m * p * (p : Int) ^ i) = m * (p : Int) ^ M * p by
    rw [show (p : Int) ^ M = (p : Int) ^ (M - i) * (p : Int) ^ i by rw [← Int.pow_add, Nat.sub_add_cancel (by omega)]]
    ac_rfl] at a
  exact a
end Go.Proofs.YtoednonijmkbjaaGreat

/- The typical law on the axes. -/
set_option linter.unusedSimpArgs false
set_option linter.unusedVariables false
namespace Go.Proofs.YtoednonijmkbjaaGreat
open Go.RowKit
open Rg

theorem ml_col {F F' G G' : Nat → Nat → Int} (hF : ∀ a, F a 0 = F' a 0) (hG : ∀ a, G a 0 = G' a 0) (i : Nat) : (ml F G : Nat → Nat → Int) i 0 = (ml F' G' : Nat → Nat → Int) i 0 := by
  rw [cv_conv2, cv_conv2]
  unfold conv2
  refine sumN_congr fun a _ => sumN_congr fun b hb => ?_
  obtain rfl : b = 0 := by omega
  rw [hF, hG]
theorem ml_row {F F' G G' : Nat → Nat → Int} (hF : ∀ a, F 0 a = F' 0 a) (hG : ∀ a, G 0 a = G' 0 a) (i : Nat) : (ml F G : Nat → Nat → Int) 0 i = (ml F' G' : Nat → Nat → Int) 0 i := by
  rw [cv_conv2, cv_conv2]
  unfold conv2
  refine sumN_congr fun a ha => sumN_congr fun b hb => ?_
  obtain rfl : a = 0 := by omega
  rw [hF, hG]
theorem pw_col {F F' : Nat → Nat → Int} (hF : ∀ a, F a 0 = F' a 0) : ∀ k i, (pw F k : Nat → Nat → Int) i 0 = (pw F' k : Nat → Nat → Int) i 0
  | 0, _ => rfl
  | k + 1, i => ml_col (pw_col hF k) hF i
theorem pw_row {F F' : Nat → Nat → Int} (hF : ∀ a, F 0 a = F' 0 a) : ∀ k i, (pw F k : Nat → Nat → Int) 0 i = (pw F' k : Nat → Nat → Int) 0 i
  | 0, _ => rfl
  | k + 1, i => ml_row (pw_row hF k) hF i
theorem LQ_at (p : Nat) (l : Nat → Int) (n : Nat) (F : Nat → Nat → Int) (i j : Nat) : (LQ p l n F : Nat → Nat → Int) i j = sumN n (fun k => l k * (pw F (p ^ k) : Nat → Nat → Int) i j) := by
  unfold LQ
  rw [ser_sm, ser_sm, sumN_sm]
  exact sm_congr fun k _ => icml2 _ _ _ _
theorem DP_col {p : Nat} (hp : 1 ≤ p) (M : Nat) (l : Nat → Int) {F : Nat → Nat → Int} (hF : ∀ a, F a 0 = xP a 0) (i : Nat) : DP p M l F i 0 = 0 := by
  unfold DP
  rw [sub_at, LQ_at, LQ_at, LQ_at, show sumN (M + 1) (fun k => l k * (pw yP (p ^ k) : Nat → Nat → Int) i 0) = 0 from sumN_zero fun k _ => by
    rw [pwy_at]
    have := Nat.one_le_pow k p hp
    split
    · rw [if_neg (by omega), Int.mul_zero]
    · rw [Int.mul_zero], sumN_congr fun k _ => by rw [pw_col hF]]
  omega
theorem DP_row {p : Nat} (hp : 1 ≤ p) (M : Nat) (l : Nat → Int) {F : Nat → Nat → Int} (hF : ∀ a, F 0 a = yP 0 a) (i : Nat) : DP p M l F 0 i = 0 := by
  unfold DP
  rw [sub_at, LQ_at, LQ_at, LQ_at, show sumN (M + 1) (fun k => l k * (pw xP (p ^ k) : Nat → Nat → Int) 0 i) = 0 from sumN_zero fun k _ => by
    rw [pwx_at]
    have := Nat.one_le_pow k p hp
    split
    · rw [if_neg (by omega), Int.mul_zero]
    · rw [Int.mul_zero], sumN_congr fun k _ => by rw [pw_row hF]]
  omega
theorem tyF_col {p : Nat} (hp : 1 ≤ p) (M : Nat) (l : Nat → Int) : ∀ k i, tyF p M l k i 0 = xP i 0
  | 0, i => by
    show xP i 0 + yP i 0 = xP i 0
    rw [yP_at, if_neg (by omega), Int.add_zero]
  | k + 1, i => by
    show tyF p M l k i 0 + tyE p M l (k + 2) (tyF p M l k) i 0 = _
    unfold tyE
    rw [DP_col hp M l (tyF_col hp M l k), tyF_col hp M l k, Int.zero_ediv]
    split <;> simp
theorem tyF_row {p : Nat} (hp : 1 ≤ p) (M : Nat) (l : Nat → Int) : ∀ k i, tyF p M l k 0 i = yP 0 i
  | 0, i => by
    show xP 0 i + yP 0 i = yP 0 i
    rw [xP_at, if_neg (by omega), Int.zero_add]
  | k + 1, i => by
    show tyF p M l k 0 i + tyE p M l (k + 2) (tyF p M l k) 0 i = _
    unfold tyE
    rw [DP_row hp M l (tyF_row hp M l k), tyF_row hp M l k, Int.zero_ediv]
    split <;> simp
end Go.Proofs.YtoednonijmkbjaaGreat

/- The reference's law is the typical law, modulo m p. -/
set_option linter.unusedSimpArgs false
set_option linter.unusedVariables false
namespace Go.Proofs.YtoednonijmkbjaaGreat
open Go.RowKit
open Rg

theorem lwF_sup (W : Int) (n p M : Nat) (ns : List Int) : ∀ d i j, d + 2 ≤ i + j → lwF W n p M ns d i j = 0
  | 0, i, j, h => by unfold lwF; rw [if_neg (by omega)]
  | d + 1, i, j, h => by
    unfold lwF
    rw [if_neg (by omega)]
    exact lwF_sup W n p M ns d i j (by omega)
theorem lw_step {m P c x : Int} (hm : 0 < m) (hP : 0 < P) (p : Int) (hp : 0 < p) (h0 : 0 ≤ x) (h1 : x < m * P * p) (h : x % (m * P * p) = (P * c) % (m * P * p)) : (-(x / P)) % (m * P * p) % (m * p) = (-c) % (m * p) := by
  have e : m * P * p = P * (m * p) := by rw [Int.mul_comm m P, Int.mul_assoc]
  rw [Int.emod_eq_of_lt h0 h1] at h
  rw [e, Int.mul_emod_mul_of_pos _ _ hP] at h
  rw [h, Int.mul_ediv_cancel_left _ (by omega), e, Int.emod_emod_of_dvd _ (Int.dvd_mul_left _ _)]
  rw [← Int.zero_sub, ← Int.zero_sub c]
  exact emod_congr_sub rfl (mod_self_mod _ _)
theorem lw_ty {p M n : Nat} {v ν : Nat → Int} (H : TyL p M (tyl p M v) ν) {m W : Int} (hm : 2 ≤ m) (hW : W = m * ((p ^ M : Nat) : Int) * p) (hW2 : 2 ≤ W) {ns : List Int} (hns : ∀ i, i ≤ M → at0 ns i % W = num p v i % W) (hn : n + 1 ≤ p ^ (M + 1)) :
    ∀ d, d + 1 ≤ n → ∀ i j, lwF W n p M ns d i j % (m * p) = tyF p M (tyl p M v) d i j % (m * p)
  | 0, _, i, j => by
    show (if i + j = 1 then (1 : Int) else 0) % _ = (xP i j + yP i j) % _
    rw [xP_at, yP_at]
    by_cases a : i + j = 1
    · rw [if_pos a]
      by_cases b : i = 1
      · rw [if_pos ⟨b, by omega⟩, if_neg (by omega)]; rfl
      · rw [if_neg (by omega), if_pos ⟨by omega, by omega⟩]; rfl
    · rw [if_neg a, if_neg (by omega), if_neg (by omega)]; rfl
  | d + 1, hd, i, j => by
    have ih := lw_ty H hm hW hW2 hns hn d (by omega)
    have hp2 := H.pr.pos
    by_cases hij : i + j = d + 2
    · by_cases hb : 1 ≤ i ∧ i < d + 2
      · have hP : 0 < ((p ^ M : Nat) : Int) := by have := Nat.one_le_pow M p (by omega); omega
        have hD := DP_dvd H (show 1 ≤ d + 2 by omega) (by omega) (tyF_0 p M _ d) (tyF_ok H d (by omega))
        obtain ⟨c, hc⟩ := lo2_iff.1 hD i j (by omega)
        have hT := T_DP (d + 3) p M (by omega) v ns hns (cutT (d + 3) (tri (n + 1) (lwF W n p M ns d)))
        have hE : eqv (m * p) (d + 3) (atT (cutT (d + 3) (tri (n + 1) (lwF W n p M ns d)))) (tyF p M (tyl p M v) d) := eqv2.2 fun a b hab => by
          unfold cutT
          rw [atT_tri hab, atT_tri (by omega)]
          exact ih a b
        have hq : m * (p : Int) ^ M * p = W := by rw [hW, Int.natCast_pow]
        have hDE := DP_eqv H m hE
        rw [hq] at hDE
        have hT2 := eqv_trans hT hDE
        have hx := eqv2.1 hT2 i j (by omega)
        have rx := tab_range (resT_ok hW2 (d + 3) p M ns (cutT (d + 3) (tri (n + 1) (lwF W n p M ns d))) (M + 1)) (show i + j < d + 3 by omega)
        have e1 : lwF W n p M ns (d + 1) i j = (-(atT (resT W (d + 3) p M ns (cutT (d + 3) (tri (n + 1) (lwF W n p M ns d))) (M + 1)) i j / ((p ^ M : Nat) : Int))) % W := by
          show (if i + j = d + 2 ∧ 1 ≤ i ∧ i < d + 2 then _ else _) = _
          rw [if_pos ⟨hij, hb⟩]
        have e2 : tyF p M (tyl p M v) (d + 1) i j = -c := by
          show tyF p M (tyl p M v) d i j + tyE p M (tyl p M v) (d + 2) (tyF p M (tyl p M v) d) i j = _
          unfold tyE
          rw [tyF_sup p M _ d i j (by omega), if_pos hij, hc, ← Int.natCast_pow, Int.mul_ediv_cancel_left _ (by omega), Int.zero_add]
        rw [e1, e2]
        generalize atT (resT W (d + 3) p M ns (cutT (d + 3) (tri (n + 1) (lwF W n p M ns d))) (M + 1)) i j = x at hx rx
        rw [hc, ← Int.natCast_pow] at hx
        rw [hW] at hx rx ⊢
        exact lw_step (by omega) hP _ (by omega) rx.1 rx.2 hx
      · have e1 : lwF W n p M ns (d + 1) i j = 0 := by
          show (if i + j = d + 2 ∧ 1 ≤ i ∧ i < d + 2 then _ else _) = _
          rw [if_neg (fun h => hb h.2)]
          exact lwF_sup W n p M ns d i j (by omega)
        rw [e1]
        by_cases h0 : i = 0
        · subst h0
          rw [tyF_row (by omega), yP_at, if_neg (by omega)]
        · obtain rfl : j = 0 := by omega
          rw [tyF_col (by omega), xP_at, if_neg (by omega)]
    · have e1 : lwF W n p M ns (d + 1) i j = lwF W n p M ns d i j := by
        show (if i + j = d + 2 ∧ 1 ≤ i ∧ i < d + 2 then _ else _) = _
        rw [if_neg (fun h => hij h.1)]
      rw [e1, tyF_low p M _ d i j hij]
      exact ih i j
end Go.Proofs.YtoednonijmkbjaaGreat
