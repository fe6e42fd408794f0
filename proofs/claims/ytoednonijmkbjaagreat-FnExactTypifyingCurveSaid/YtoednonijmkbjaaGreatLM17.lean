/- Lemmas. -/
import Derived.Test.YtoednonijmkbjaaGreatLG9
import Derived.Test.YtoednonijmkbjaaGreatLG7
import Derived.Test.YtoednonijmkbjaaGreatLG11
/- The reference's typical law is the typical law. -/
set_option linter.unusedSimpArgs false
set_option linter.unusedVariables false
namespace Go.Proofs.YtoednonijmkbjaaGreat
open Go.RowKit
open Rg

theorem T_pwT (m : Int) (n : Nat) (t : List (List Int)) : ∀ k, eqv m n (atT (pwT m n t k)) (pw (atT t) (k + 1))
  | 0 => by rw [pw_1]; exact eqv_rfl
  | k + 1 => eqv_trans (T_times m n _ _) (eqv_mlr _ (T_pwT m n t k))
theorem pwx_at (P i j : Nat) : (pw xP P : Nat → Nat → Int) i j = if j = 0 then (if i = P then 1 else 0) else 0 := by
  rw [show pw xP P = onx (pw xS P) from (onx_pw _ _).symm, pw_xS]; rfl
theorem pwy_at (P i j : Nat) : (pw yP P : Nat → Nat → Int) i j = if i = 0 then (if j = P then 1 else 0) else 0 := by
  rw [show pw yP P = ony (pw xS P) from (ony_pw _ _).symm, pw_xS]; rfl
theorem sub_at (F G H : Nat → Nat → Int) (i j : Nat) : (ad F (ng (ad G H)) : Nat → Nat → Int) i j = F i j - (G i j + H i j) := by
  show F i j + (ng (ad G H) : Nat → Nat → Int) i j = _
  rw [ser_ng, ser_ng]
  show _ + (-1) * (G i j + H i j) = _
  omega
theorem T_subA {m : Int} {n P : Nat} (hP : 1 ≤ P) (t : List (List Int)) : eqv m n (atT (subA m n P t)) (ad (atT t) (ng (ad (pw xP P) (pw yP P)))) := by
  refine eqv2.2 fun i j h => ?_
  rw [sub_at, pwx_at, pwy_at]
  unfold subA
  split
  · rw [atT_tri h]
    unfold dec2 dec1
    by_cases a : i = 0 ∧ j = P
    · obtain ⟨rfl, rfl⟩ := a
      rw [if_pos ⟨rfl, rfl⟩, if_neg (by omega), if_neg (by omega), if_pos rfl, if_pos rfl, mod_self_mod]
      simp
    · rw [if_neg a]
      by_cases b : i = P ∧ j = 0
      · obtain ⟨rfl, rfl⟩ := b
        rw [if_pos ⟨rfl, rfl⟩, if_pos rfl, if_pos rfl, if_neg (by omega), mod_self_mod]
        simp
      · rw [if_neg b]
        have e1 : (if j = 0 then (if i = P then (1 : Int) else 0) else 0) = 0 := by
          split
          · rw [if_neg (by omega)]
          · rfl
        have e2 : (if i = 0 then (if j = P then (1 : Int) else 0) else 0) = 0 := by
          split
          · rw [if_neg (by omega)]
          · rfl
        rw [e1, e2]; simp
  · have e1 : (if j = 0 then (if i = P then (1 : Int) else 0) else 0) = 0 := by
      split
      · rw [if_neg (by omega)]
      · rfl
    have e2 : (if i = 0 then (if j = P then (1 : Int) else 0) else 0) = 0 := by
      split
      · rw [if_neg (by omega)]
      · rfl
    rw [e1, e2]; simp
theorem T_res (m : Int) (n p M : Nat) (hp : 1 ≤ p) (ns : List Int) (t : List (List Int)) : ∀ k, eqv m n (atT (resT m n p M ns t k)) (sm k (fun i => ml (ic ((p : Int) ^ (M - i) % m * at0 ns i % m)) (ad (pw (atT t) (p ^ i)) (ng (ad (pw xP (p ^ i)) (pw yP (p ^ i)))))))
  | 0 => eqv2.2 fun i j h => by
    show atT (zeroT n) i j % m = _
    unfold zeroT
    rw [atT_tri h]; rfl
  | k + 1 => by
    have hP : 1 ≤ p ^ k := Nat.one_le_pow k p hp
    refine eqv_trans (T_add m n _ _) (eqv_ad (T_res m n p M hp ns t k) (eqv_trans (T_sca m n _ _) (eqv_mll _ (eqv_trans (T_subA hP _) (eqv_ad ?_ eqv_rfl)))))
    have h := T_pwT m n t (p ^ k - 1)
    rw [show p ^ k - 1 + 1 = p ^ k by omega] at h
    exact h
section rg
variable {T : Type} [Rg T]
theorem sm_ng (n : Nat) (f : Nat → T) : sm n (fun i => ng (f i)) = ng (sm n f) := by
  induction n with
  | zero => exact ng_zz.symm
  | succ n ih =>
    show ad (sm n _) (ng (f n)) = ng (ad (sm n f) (f n))
    rw [ih]
    exact (ml_ad _ _ _).symm
end rg
theorem DP_sm (p M : Nat) (l : Nat → Int) (F : Nat → Nat → Int) : sm (M + 1) (fun i => ml (ic (l i)) (ad (pw F (p ^ i)) (ng (ad (pw xP (p ^ i)) (pw yP (p ^ i)))))) = DP p M l F := by
  unfold DP LQ
  rw [← sm_ad, ← sm_ng, ← sm_ad]
  exact sm_congr fun i _ => by rw [ml_ad, ml_ng, ml_ad]
theorem T_DP {W : Int} (n p M : Nat) (hp : 1 ≤ p) (v : Nat → Int) (ns : List Int) (hns : ∀ i, i ≤ M → at0 ns i % W = num p v i % W) (t : List (List Int)) :
    eqv W n (atT (resT W n p M ns t (M + 1))) (DP p M (tyl p M v) (atT t)) := by
  refine eqv_trans (T_res W n p M hp ns t (M + 1)) ?_
  rw [← DP_sm]
  refine sm_eqv fun i hi => eqv_mlr _ (eqv_ic ?_)
  unfold tyl
  rw [mod_self_mod]
  exact emod_congr_mul (mod_self_mod _ _) (hns i (by omega))
theorem pw_liftm {p : Nat} (hp : P4 p) (m : Int) {k : Nat} {a b : Nat → Nat → Int} (h : eqv (m * p) k a b) (e : Nat) : eqv (m * p * (p : Int) ^ e) k (pw a (p ^ e)) (pw b (p ^ e)) := by
  induction e with
  | zero => rw [Nat.pow_zero, pw_1, pw_1, Int.pow_zero, Int.mul_one]; exact h
  | succ e ih =>
    rw [Nat.pow_succ, ← pw_pw, ← pw_pw, Int.pow_succ, ← Int.mul_assoc]
    exact pw_lift hp (Int.dvd_mul_of_dvd_left (Int.dvd_mul_left _ _)) ih
theorem DP_eqv {p M : Nat} {l ν : Nat → Int} (H : TyL p M l ν) (m : Int) {k : Nat} {F G : Nat → Nat → Int} (h : eqv (m * p) k F G) : eqv (m * (p : Int) ^ M * p) k (DP p M l F) (DP p M l G) := by
  unfold DP
  refine eqv_ad (sm_eqv fun i hi => ?_) eqv_rfl
  have a := eqv_icd (H.dvd i (by omega)) (pw_liftm H.pr m h i)
  rw [show (p : Int) ^ (M - i) * (m * p * (p : Int) ^ i) = m * (p : Int) ^ M * p by
    rw [show (p : Int) ^ M = (p : Int) ^ (M - i) * (p : Int) ^ i by rw [← Int.pow_add, Nat.sub_add_cancel (by omega)]]
    ac_rfl] at a
  exact a
end Go.Proofs.YtoednonijmkbjaaGreat

/- The typical law on the axes. -/
set_option linter.unusedSimpArgs false
set_option linter.unusedVariables false
namespace Go.Proofs.YtoednonijmkbjaaGreat
open Go.RowKit
open Rg

theorem ml_col {F F' G G' : Nat → Nat → Int} (hF : ∀ a, F a 0 = F' a 0) (hG : ∀ a, G a 0 = G' a 0) (i : Nat) : (ml F G : Nat → Nat → Int) i 0 = (ml F' G' : Nat → Nat → Int) i 0 := by
  rw [cv_conv2, cv_conv2]
  unfold conv2
  refine sumN_congr fun a _ => sumN_congr fun b hb => ?_
  obtain rfl : b = 0 := by omega
  rw [hF, hG]
theorem ml_row {F F' G G' : Nat → Nat → Int} (hF : ∀ a, F 0 a = F' 0 a) (hG : ∀ a, G 0 a = G' 0 a) (i : Nat) : (ml F G : Nat → Nat → Int) 0 i = (ml F' G' : Nat → Nat → Int) 0 i := by
  rw [cv_conv2, cv_conv2]
  unfold conv2
  refine sumN_congr fun a ha => sumN_congr fun b hb => ?_
  obtain rfl : a = 0 := by omega
  rw [hF, hG]
theorem pw_col {F F' : Nat → Nat → Int} (hF : ∀ a, F a 0 = F' a 0) : ∀ k i, (pw F k : Nat → Nat → Int) i 0 = (pw F' k : Nat → Nat → Int) i 0
  | 0, _ => rfl
  | k + 1, i => ml_col (pw_col hF k) hF i
theorem pw_row {F F' : Nat → Nat → Int} (hF : ∀ a, F 0 a = F' 0 a) : ∀ k i, (pw F k : Nat → Nat → Int) 0 i = (pw F' k : Nat → Nat → Int) 0 i
  | 0, _ => rfl
  | k + 1, i => ml_row (pw_row hF k) hF i
theorem LQ_at (p : Nat) (l : Nat → Int) (n : Nat) (F : Nat → Nat → Int) (i j : Nat) : (LQ p l n F : Nat → Nat → Int) i j = sumN n (fun k => l k * (pw F (p ^ k) : Nat → Nat → Int) i j) := by
  unfold LQ
  rw [ser_sm, ser_sm, sumN_sm]
  exact sm_congr fun k _ => icml2 _ _ _ _
theorem DP_col {p : Nat} (hp : 1 ≤ p) (M : Nat) (l : Nat → Int) {F : Nat → Nat → Int} (hF : ∀ a, F a 0 = xP a 0) (i : Nat) : DP p M l F i 0 = 0 := by
  unfold DP
  rw [sub_at, LQ_at, LQ_at, LQ_at, show sumN (M + 1) (fun k => l k * (pw yP (p ^ k) : Nat → Nat → Int) i 0) = 0 from sumN_zero fun k _ => by
    rw [pwy_at]
    have := Nat.one_le_pow k p hp
    split
    · rw [if_neg (by omega), Int.mul_zero]
    · rw [Int.mul_zero], sumN_congr fun k _ => by rw [pw_col hF]]
  omega
theorem DP_row {p : Nat} (hp : 1 ≤ p) (M : Nat) (l : Nat → Int) {F : Nat → Nat → Int} (hF : ∀ a, F 0 a = yP 0 a) (i : Nat) : DP p M l F 0 i = 0 := by
  unfold DP
  rw [sub_at, LQ_at, LQ_at, LQ_at, show sumN (M + 1) (fun k => l k * (pw xP (p ^ k) : Nat → Nat → Int) 0 i) = 0 from sumN_zero fun k _ => by
    rw [pwx_at]
    have := Nat.one_le_pow k p hp
    split
    · rw [if_neg (by omega), Int.mul_zero]
    · rw [Int.mul_zero], sumN_congr fun k _ => by rw [pw_row hF]]
  omega
theorem tyF_col {p : Nat} (hp : 1 ≤ p) (M : Nat) (l : Nat → Int) : ∀ k i, tyF p M l k i 0 = xP i 0
  | 0, i => by
    show xP i 0 + yP i 0 = xP i 0
    rw [yP_at, if_neg (by omega), Int.add_zero]
  | k + 1, i => by
    show tyF p M l k i 0 + tyE p M l (k + 2) (tyF p M l k) i 0 = _
    unfold tyE
    rw [DP_col hp M l (tyF_col hp M l k), tyF_col hp M l k, Int.zero_ediv]
    split <;> simp
theorem tyF_row {p : Nat} (hp : 1 ≤ p) (M : Nat) (l : Nat → Int) : ∀ k i, tyF p M l k 0 i = yP 0 i
  | 0, i => by
    show xP 0 i + yP 0 i = yP 0 i
    rw [xP_at, if_neg (by omega), Int.zero_add]
  | k + 1, i => by
    show tyF p M l k 0 i + tyE p M l (k + 2) (tyF p M l k) 0 i = _
    unfold tyE
    rw [DP_row hp M l (tyF_row hp M l k), tyF_row hp M l k, Int.zero_ediv]
    split <;> simp
end Go.Proofs.YtoednonijmkbjaaGreat

/- The reference's law is the typical law, modulo m p. -/
set_option linter.unusedSimpArgs false
set_option linter.unusedVariables false
namespace Go.Proofs.YtoednonijmkbjaaGreat
open Go.RowKit
open Rg

theorem lwF_sup (W : Int) (n p M : Nat) (ns : List Int) : ∀ d i j, d + 2 ≤ i + j → lwF W n p M ns d i j = 0
  | 0, i, j, h => by unfold lwF; rw [if_neg (by omega)]
  | d + 1, i, j, h => by
    unfold lwF
    rw [if_neg (by omega)]
    exact lwF_sup W n p M ns d i j (by omega)
theorem lw_step {m P c x : Int} (hm : 0 < m) (hP : 0 < P) (p : Int) (hp : 0 < p) (h0 : 0 ≤ x) (h1 : x < m * P * p) (h : x % (m * P * p) = (P * c) % (m * P * p)) : (-(x / P)) % (m * P * p) % (m * p) = (-c) % (m * p) := by
  have e : m * P * p = P * (m * p) := by rw [Int.mul_comm m P, Int.mul_assoc]
  rw [Int.emod_eq_of_lt h0 h1] at h
  rw [e, Int.mul_emod_mul_of_pos _ _ hP] at h
  rw [h, Int.mul_ediv_cancel_left _ (by omega), e, Int.emod_emod_of_dvd _ (Int.dvd_mul_left _ _)]
  rw [← Int.zero_sub, ← Int.zero_sub c]
  exact emod_congr_sub rfl (mod_self_mod _ _)
theorem lw_ty {p M n : Nat} {v ν : Nat → Int} (H : TyL p M (tyl p M v) ν) {m W : Int} (hm : 2 ≤ m) (hW : W = m * ((p ^ M : Nat) : Int) * p) (hW2 : 2 ≤ W) {ns : List Int} (hns : ∀ i, i ≤ M → at0 ns i % W = num p v i % W) (hn : n + 1 ≤ p ^ (M + 1)) :
    ∀ d, d + 1 ≤ n → ∀ i j, lwF W n p M ns d i j % (m * p) = tyF p M (tyl p M v) d i j % (m * p)
  | 0, _, i, j => by
    show (if i + j = 1 then (1 : Int) else 0) % _ = (xP i j + yP i j) % _
    rw [xP_at, yP_at]
    by_cases a : i + j = 1
    · rw [if_pos a]
      by_cases b : i = 1
      · rw [if_pos ⟨b, by omega⟩, if_neg (by omega)]; rfl
      · rw [if_neg (by omega), if_pos ⟨by omega, by omega⟩]; rfl
    · rw [if_neg a, if_neg (by omega), if_neg (by omega)]; rfl
  | d + 1, hd, i, j => by
    have ih := lw_ty H hm hW hW2 hns hn d (by omega)
    have hp2 := H.pr.pos
    by_cases hij : i + j = d + 2
    · by_cases hb : 1 ≤ i ∧ i < d + 2
      · have hP : 0 < ((p ^ M : Nat) : Int) := by have := Nat.one_le_pow M p (by omega); omega
        have hD := DP_dvd H (show 1 ≤ d + 2 by omega) (by omega) (tyF_0 p M _ d) (tyF_ok H d (by omega))
        obtain ⟨c, hc⟩ := lo2_iff.1 hD i j (by omega)
        have hT := T_DP (d + 3) p M (by omega) v ns hns (cutT (d + 3) (tri (n + 1) (lwF W n p M ns d)))
        have hE : eqv (m * p) (d + 3) (atT (cutT (d + 3) (tri (n + 1) (lwF W n p M ns d)))) (tyF p M (tyl p M v) d) := eqv2.2 fun a b hab => by
          unfold cutT
          rw [atT_tri hab, atT_tri (by omega)]
          exact ih a b
        have hq : m * (p : Int) ^ M * p = W := by rw [hW, Int.natCast_pow]
        have hDE := DP_eqv H m hE
        rw [hq] at hDE
        have hT2 := eqv_trans hT hDE
        have hx := eqv2.1 hT2 i j (by omega)
        have rx := tab_range (resT_ok hW2 (d + 3) p M ns (cutT (d + 3) (tri (n + 1) (lwF W n p M ns d))) (M + 1)) (show i + j < d + 3 by omega)
        have e1 : lwF W n p M ns (d + 1) i j = (-(atT (resT W (d + 3) p M ns (cutT (d + 3) (tri (n + 1) (lwF W n p M ns d))) (M + 1)) i j / ((p ^ M : Nat) : Int))) % W := by
          show (if i + j = d + 2 ∧ 1 ≤ i ∧ i < d + 2 then _ else _) = _
          rw [if_pos ⟨hij, hb⟩]
        have e2 : tyF p M (tyl p M v) (d + 1) i j = -c := by
          show tyF p M (tyl p M v) d i j + tyE p M (tyl p M v) (d + 2) (tyF p M (tyl p M v) d) i j = _
          unfold tyE
          rw [tyF_sup p M _ d i j (by omega), if_pos hij, hc, ← Int.natCast_pow, Int.mul_ediv_cancel_left _ (by omega), Int.zero_add]
        rw [e1, e2]
        generalize atT (resT W (d + 3) p M ns (cutT (d + 3) (tri (n + 1) (lwF W n p M ns d))) (M + 1)) i j = x at hx rx
        rw [hc, ← Int.natCast_pow] at hx
        rw [hW] at hx rx ⊢
        exact lw_step (by omega) hP _ (by omega) rx.1 rx.2 hx
      · have e1 : lwF W n p M ns (d + 1) i j = 0 := by
          show (if i + j = d + 2 ∧ 1 ≤ i ∧ i < d + 2 then _ else _) = _
          rw [if_neg (fun h => hb h.2)]
          exact lwF_sup W n p M ns d i j (by omega)
        rw [e1]
        by_cases h0 : i = 0
        · subst h0
          rw [tyF_row (by omega), yP_at, if_neg (by omega)]
        · obtain rfl : j = 0 := by omega
          rw [tyF_col (by omega), xP_at, if_neg (by omega)]
    · have e1 : lwF W n p M ns (d + 1) i j = lwF W n p M ns d i j := by
        show (if i + j = d + 2 ∧ 1 ≤ i ∧ i < d + 2 then _ else _) = _
        rw [if_neg (fun h => hij h.1)]
      rw [e1, tyF_low p M _ d i j hij]
      exact ih i j
end Go.Proofs.YtoednonijmkbjaaGreat
/- A series in two variables is a law if sums of the three variables are associative. No program stands here. -/
set_option linter.unusedSimpArgs false
set_option linter.unusedVariables false
namespace Go.Proofs.YtoednonijmkbjaaGreat
open Rg

def cst {T : Type} [Rg T] (a : T) : Nat → T := fun i => if i = 0 then a else zz
def mono {T : Type} [Rg T] (p : Nat) : Nat → T := fun i => if i = p then oo else zz
section gen
variable {T : Type} [Rg T]
theorem cst_ml (a b : T) : (ml (cst a) (cst b) : Nat → T) = cst (ml a b) := by
  funext i
  show cv (fun k => if k = 0 then a else zz) (cst b) i = _
  rw [cv_ic]
  unfold cst
  by_cases h : i = 0
  · rw [if_pos h, if_pos h]
  · rw [if_neg h, if_neg h, ml_zz]
theorem cst_pw (a : T) (k : Nat) : (pw (cst a) k : Nat → T) = cst (pw a k) := by
  induction k with
  | zero => rfl
  | succ k ih => show ml (pw (cst a) k) (cst a) = _; rw [ih, cst_ml]; rfl
theorem mono_1 (f : Nat → T) : (ml f (mono 1) : Nat → T) = fun i => if i = 0 then zz else f (i - 1) := by
  funext i
  cases i with
  | zero =>
    show cv f (mono 1) 0 = _
    rw [cv_0]
    show ml (f 0) (if 0 = 1 then oo else zz) = _
    rw [if_neg (by omega), ml_zz, if_pos rfl]
  | succ i =>
    show cv f (mono 1) (i + 1) = _
    rw [cv_last]
    have e : sh (mono 1 : Nat → T) = fun k => if k = 0 then oo else zz := by
      funext k
      show (if k + 1 = 1 then (oo : T) else zz) = _
      by_cases h : k = 0
      · rw [if_pos (by omega), if_pos h]
      · rw [if_neg (by omega), if_neg h]
    rw [e, cv_oo]
    show ad (f i) (ml (f (i + 1)) (if 0 = 1 then oo else zz)) = _
    rw [if_neg (by omega), ml_zz, ad_zz, if_neg (by omega)]; rfl
theorem mono_pw (k : Nat) : (pw (mono 1) k : Nat → T) = mono k := by
  induction k with
  | zero => rfl
  | succ k ih =>
    show ml (pw (mono 1) k) (mono 1) = _
    rw [ih, mono_1]
    funext i
    show (if i = 0 then zz else if i - 1 = k then (oo : T) else zz) = if i = k + 1 then oo else zz
    by_cases h : i = 0
    · rw [if_pos h, if_neg (by omega)]
    · rw [if_neg h]
      by_cases h' : i = k + 1
      · rw [if_pos (by omega), if_pos h']
      · rw [if_neg (by omega), if_neg h']
theorem mono_cst (p : Nat) (b : T) (i : Nat) : (ml (mono p) (cst b) : Nat → T) i = if i = p then b else zz := by
  rw [ml_comm]
  show cv (fun k => if k = 0 then b else zz) (mono p) i = _
  rw [cv_ic]
  show ml b (if i = p then oo else zz) = _
  by_cases h : i = p
  · rw [if_pos h, if_pos h, ml_oo]
  · rw [if_neg h, if_neg h, ml_zz]
theorem lo_cst {m : Int} {k : Nat} {a : T} (h : lo m k a) : lo m k (cst a) := fun i => by
  by_cases hi : i = 0
  · subst hi; exact h
  · show lo m (k - i) (if i = 0 then a else zz)
    rw [if_neg hi]; exact lo_zz _ _
theorem lo_mono (m : Int) : lo m 1 (mono 1 : Nat → T) := fun i => by
  by_cases hi : i = 0
  · subst hi
    show lo m 1 (if 0 = 1 then (oo : T) else zz)
    rw [if_neg (by omega)]; exact lo_zz _ _
  · rw [show 1 - i = 0 by omega]; exact lo_0 _ _
theorem sm_ite' {n k : Nat} (hk : k < n) (f : Nat → T) : sm n (fun i => if k = i then f i else zz) = f k := by
  induction n with
  | zero => omega
  | succ n ih =>
    show ad (sm n _) (if k = n then f n else zz) = f k
    by_cases h : k = n
    · subst h
      rw [if_pos rfl, sm_none (n := k) fun i hi => by rw [if_neg (by omega)], zz_ad]
    · rw [if_neg h, ih (by omega), ad_zz]
end gen

def X3 : Nat → Nat → Nat → Int := mono 1
def Y3 : Nat → Nat → Nat → Int := cst xP
def Z3 : Nat → Nat → Nat → Int := cst yP
theorem T3_at (n : Nat) (c : Nat → Nat → Nat → Int) {i : Nat} (hi : i < n) :
    (sm n (fun p => sm n (fun q => sm n (fun k => ml (ic (c p q k)) (ml (pw X3 p) (ml (pw Y3 q) (pw Z3 k)))))) : Nat → Nat → Nat → Int) i = ev2 n (c i) xP yP := by
  rw [ser_sm]
  have e : ∀ p, (sm n (fun q => sm n (fun k => ml (ic (c p q k)) (ml (pw X3 p) (ml (pw Y3 q) (pw Z3 k))))) : Nat → Nat → Nat → Int) i = if i = p then ev2 n (c p) xP yP else zz := by
    intro p
    rw [ser_sm]
    have e1 : ∀ q, (sm n (fun k => ml (ic (c p q k)) (ml (pw X3 p) (ml (pw Y3 q) (pw Z3 k)))) : Nat → Nat → Nat → Int) i = if i = p then sm n (fun k => ml (ic (c p q k)) (ml (pw xP q) (pw yP k))) else zz := by
      intro q
      rw [ser_sm]
      have e2 : ∀ k, (ml (ic (c p q k)) (ml (pw X3 p) (ml (pw Y3 q) (pw Z3 k))) : Nat → Nat → Nat → Int) i = if i = p then ml (ic (c p q k)) (ml (pw xP q) (pw yP k)) else zz := by
        intro k
        rw [ser_icml]
        unfold X3 Y3 Z3
        rw [mono_pw, cst_pw, cst_pw, cst_ml, mono_cst]
        by_cases h : i = p
        · rw [if_pos h, if_pos h]
        · rw [if_neg h, if_neg h, ml_zz]
      rw [sm_congr fun k _ => e2 k]
      by_cases h : i = p
      · rw [if_pos h]; exact sm_congr fun k _ => by rw [if_pos h]
      · rw [if_neg h]; exact sm_none fun k _ => by rw [if_neg h]
    rw [sm_congr fun q _ => e1 q]
    by_cases h : i = p
    · rw [if_pos h, ev2_sum]; exact sm_congr fun q _ => by rw [if_pos h]
    · rw [if_neg h]; exact sm_none fun q _ => by rw [if_neg h]
  rw [sm_congr fun p _ => e p, sm_ite' hi]
theorem lw_of_ev {m : Int} {n : Nat} (h2 : 2 ≤ n) {F : Nat → Nat → Int} (h0 : F 0 0 = 0) (hu : ∀ i, i < n → F i 0 % m = (if i = 1 then 1 else 0) % m) (hs : ∀ i j, i + j < n → F i j % m = F j i % m)
    (ha : eqv m n (ev2 n F (ev2 n F X3 Y3) Z3) (ev2 n F X3 (ev2 n F Y3 Z3))) : Lw m n F := by
  refine ⟨h2, h0, hu, hs, fun p q k hpq => ?_⟩
  have lX : lo m 1 X3 := lo_mono m
  have lY : lo m 1 Y3 := lo_cst (lo_xP m)
  have lZ : lo m 1 Z3 := lo_cst (lo_yP m)
  have e1 : eqv m n (ev2 n F (ev2 n F X3 Y3) Z3) (sm n (fun i => ml (sm n (fun k => ml (ic (F i k)) (pw Z3 k))) (ev2 n (pw F i) X3 Y3))) :=
    sm_eqv fun i _ => eqv_mll _ (eqv_symm ((hm2 lX lY).pw F i))
  have e2 : eqv m n (ev2 n F X3 (ev2 n F Y3 Z3)) (sm n (fun p => ml (sm n (fun j => ml (ic (F p j)) (ev2 n (pw F j) Y3 Z3))) (pw X3 p))) :=
    sm_eqv fun p _ => eqv_mlr _ (sm_eqv fun j _ => eqv_mll _ (eqv_symm ((hm2 lY lZ).pw F j)))
  rw [three_sum n F (fun i => pw F i)] at e1
  rw [three_sum' n F (fun i => pw F i)] at e2
  have e := eqv_trans (eqv_symm e1) (eqv_trans ha e2)
  have h := eqv_ser e p
  rw [T3_at n (fun p q k => sm n (fun i => F i k * (pw F i : Nat → Nat → Int) p q)) (by omega), T3_at n (fun p q k => sm n (fun j => F p j * (pw F j : Nat → Nat → Int) q k)) (by omega)] at h
  have h' := eqv_trans (eqv_symm (eqv_le (ev2_self _) (show n - p ≤ n by omega))) (eqv_trans h (eqv_le (ev2_self _) (show n - p ≤ n by omega)))
  exact eqv2.1 h' q k (by omega)
end Go.Proofs.YtoednonijmkbjaaGreat

/- What a logarithm determines; typical laws are laws. No program stands here. -/
set_option linter.unusedSimpArgs false
set_option linter.unusedVariables false
namespace Go.Proofs.YtoednonijmkbjaaGreat
open Rg

def Tf (T : Type) [Rg T] : Prop := ∀ (c : Int) (k : Nat) (x : T), c ≠ 0 → lo 0 k (ml (ic c) x) → lo 0 k x
theorem tf_int : Tf Int := fun c k x hc h => by
  rcases h with h | h
  · exact .inl h
  · have h' : c * x = 0 := Int.zero_dvd.1 h
    rcases Int.mul_eq_zero.1 h' with e | e
    · exact absurd e hc
    · exact .inr (by rw [e]; exact Int.dvd_refl 0)
theorem tf_ser {T : Type} [Rg T] (H : Tf T) : Tf (Nat → T) := fun c k x hc h i => by
  have := h i
  rw [ser_icml] at this
  exact H c (k - i) (x i) hc this
section gen
variable {T : Type} [Rg T] {p : Nat} {l : Nat → Int}
theorem LQ_lateT (hp : 2 ≤ p) (l : Nat → Int) (M : Nat) {F e : T} {n : Nat} (hF : lo 0 1 F) (he : lo 0 (n + 1) e) : eqv 0 (n + 2) (LQ p l (M + 1) (ad F e)) (ad (LQ p l (M + 1) F) (ml (ic (l 0)) e)) := by
  unfold LQ
  rw [sm_first, sm_first]
  have e1 : eqv 0 (n + 2) (sm M (fun k => ml (ic (l (k + 1))) (pw (ad F e) (p ^ (k + 1))))) (sm M (fun k => ml (ic (l (k + 1))) (pw F (p ^ (k + 1))))) := by
    refine sm_eqv fun k _ => eqv_mll _ ?_
    have hq : 2 ≤ p ^ (k + 1) := by
      rw [Nat.pow_succ]
      exact Nat.le_trans (show 2 ≤ 1 * p by omega) (Nat.mul_le_mul_right p (Nat.one_le_pow k p (by omega)))
    obtain ⟨r, hr⟩ : ∃ r, p ^ (k + 1) = r + 2 := ⟨p ^ (k + 1) - 2, by omega⟩
    rw [hr]
    exact pw_late hF he r
  refine eqv_trans (eqv_ad eqv_rfl e1) (eqv_of ?_)
  rw [Nat.pow_zero, pw_1, pw_1, ml_ad]
  ac_rfl
theorem LQ_inj (tf : Tf T) (hp : 2 ≤ p) (h0 : l 0 ≠ 0) {M : Nat} {G H : T} (hG : lo 0 1 G) (hH : lo 0 1 H) {n : Nat} (h : eqv 0 n (LQ p l (M + 1) G) (LQ p l (M + 1) H)) : ∀ k, k ≤ n → eqv 0 k G H
  | 0, _ => lo_0 _ _
  | 1, _ => eqv_trans (eqv_lo hG) (eqv_symm (eqv_lo hH))
  | k + 2, hk => by
    have ih := LQ_inj tf hp h0 hG hH h (k + 1) (by omega)
    have e : G = ad H (ad G (ng H)) := by rw [show ad H (ad G (ng H)) = ad (ad H (ng H)) G by ac_rfl, ad_ng, zz_ad]
    have h1 := LQ_lateT hp l M hH (show lo 0 (k + 1) (ad G (ng H)) from ih)
    rw [← e] at h1
    have h2 := eqv_trans (eqv_symm h1) (eqv_le h hk)
    refine tf (l 0) (k + 2) _ h0 ?_
    have h3 : lo 0 (k + 2) (ad (ad (LQ p l (M + 1) H) (ml (ic (l 0)) (ad G (ng H)))) (ng (LQ p l (M + 1) H))) := h2
    rwa [show ad (ad (LQ p l (M + 1) H) (ml (ic (l 0)) (ad G (ng H)))) (ng (LQ p l (M + 1) H)) = ad (ad (LQ p l (M + 1) H) (ng (LQ p l (M + 1) H))) (ml (ic (l 0)) (ad G (ng H))) by ac_rfl, ad_ng, zz_ad] at h3
theorem LQ_sum {N n : Nat} (h2 : 2 ≤ n) {F : Nat → Nat → Int} (h : eqv 0 n (LQ p l N F) (ad (LQ p l N xP) (LQ p l N yP))) {a b : T} (ha : lo 0 1 a) (hb : lo 0 1 b) : eqv 0 n (LQ p l N (ev2 n F a b)) (ad (LQ p l N a) (LQ p l N b)) := by
  have hm : Hm 0 n (fun G => ev2 n G a b) := hm2 ha hb
  have t1 := LQ_hm hm p l N F
  have t2 := LQ_hm hm p l N xP
  have t3 := LQ_hm hm p l N yP
  rw [ev2_x h2] at t2
  rw [ev2_y h2] at t3
  have t4 := hm.eqv (Nat.le_refl _) h
  rw [hm.ad] at t4
  exact eqv_trans (eqv_symm t1) (eqv_trans t4 (eqv_ad t2 t3))
end gen
theorem ev2_swap {m : Int} {n : Nat} (F : Nat → Nat → Int) : eqv m n (ev2 n F yP xP) (fun i j => F j i) := by
  refine eqv2.2 fun i j hij => ?_
  rw [ev2_sum]
  have e1 : (sm n (fun a => sm n (fun b => ml (ic (F a b)) (ml (pw yP a) (pw xP b)))) : Nat → Nat → Int) i j = sumN n (fun a => sumN n (fun b => F a b * (if a = j ∧ b = i then 1 else 0))) := by
    rw [sumN_sm, ser_sm, ser_sm]
    refine sm_congr fun a _ => ?_
    rw [sumN_sm, ser_sm, ser_sm]
    refine sm_congr fun b _ => ?_
    rw [icml2]
    congr 1
    rw [ml_comm, show pw xP b = onx (pw xS b) from (onx_pw _ _).symm, show pw yP a = ony (pw xS a) from (ony_pw _ _).symm, onx_ony, pw_xS, pw_xS]
    unfold mon
    by_cases ha : a = j
    · subst ha
      by_cases hb : b = i
      · subst hb; simp
      · rw [if_neg (show ¬ i = b from fun e => hb e.symm), if_neg (show ¬ (a = a ∧ b = i) from fun e => hb e.2), Int.zero_mul]
    · rw [if_neg (show ¬ j = a from fun e => ha e.symm), if_neg (show ¬ (a = j ∧ b = i) from fun e => ha e.1), Int.mul_zero]
  rw [e1, sumN_only (i := j) (by omega) (fun a _ hne => sumN_zero fun b _ => by rw [if_neg (fun e => hne e.1), Int.mul_zero]),
    sumN_only (i := i) (by omega) (fun b _ hne => by rw [if_neg (fun e => hne e.2), Int.mul_zero]), if_pos ⟨rfl, rfl⟩, Int.mul_one]
theorem lw_log {p M n : Nat} {l : Nat → Int} (hp : 2 ≤ p) (hl : l 0 ≠ 0) (h2 : 2 ≤ n) {F : Nat → Nat → Int} (h0 : F 0 0 = 0) (hu : ∀ i, F i 0 = if i = 1 then 1 else 0)
    (h : eqv 0 n (LQ p l (M + 1) F) (ad (LQ p l (M + 1) xP) (LQ p l (M + 1) yP))) : Lw 0 n F := by
  have lx := lo_xP 0
  have ly := lo_yP 0
  have l2 : ∀ {T : Type} [Rg T] {a b : T}, lo 0 1 a → lo 0 1 b → lo 0 1 (ev2 n F a b) := fun ha hb => ev2_lo F h0 (Nat.le_refl _) ha hb
  refine lw_of_ev h2 h0 (fun i _ => by rw [hu i]) ?_ ?_
  · have h1 := LQ_sum (T := Nat → Nat → Int) h2 h ly lx
    rw [ad_comm] at h1
    have h3 := LQ_inj (tf_ser (tf_ser tf_int)) hp hl (M := M) (lo_of0 h0) (l2 ly lx) (eqv_trans h (eqv_symm h1)) n (Nat.le_refl _)
    have h4 := eqv_trans h3 (ev2_swap F)
    exact fun i j hij => eqv2.1 h4 i j hij
  · have lX : lo 0 1 X3 := lo_mono 0
    have lY : lo 0 1 Y3 := lo_cst (lo_xP 0)
    have lZ : lo 0 1 Z3 := lo_cst (lo_yP 0)
    have a1 := eqv_trans (LQ_sum h2 h (l2 lX lY) lZ) (eqv_ad (LQ_sum h2 h lX lY) eqv_rfl)
    have a2 := eqv_trans (LQ_sum h2 h lX (l2 lY lZ)) (eqv_ad eqv_rfl (LQ_sum h2 h lY lZ))
    rw [ad_assoc] at a1
    exact LQ_inj (tf_ser (tf_ser (tf_ser tf_int))) hp hl (M := M) (l2 (l2 lX lY) lZ) (l2 lX (l2 lY lZ)) (eqv_trans a1 (eqv_symm a2)) n (Nat.le_refl _)
theorem Lw.of0 {n : Nat} {F : Nat → Nat → Int} (L : Lw 0 n F) (m : Int) : Lw m n F := by
  refine ⟨L.two, L.zer, fun i hi => ?_, fun i j hij => ?_, fun p q k h => ?_⟩
  · have := L.un i hi; rw [Int.emod_zero, Int.emod_zero] at this; rw [this]
  · have := L.sy i j hij; rw [Int.emod_zero, Int.emod_zero] at this; rw [this]
  · have := L.as p q k h; rw [Int.emod_zero, Int.emod_zero] at this; rw [this]
theorem Lw.congr {m : Int} {n : Nat} {F G : Nat → Nat → Int} (L : Lw m n F) (h0 : G 0 0 = 0) (h : ∀ i j, i + j < n → F i j % m = G i j % m) : Lw m n G := by
  have e := eqv2.2 h
  have h2 := L.two
  have lF : lo m 1 F := lo_of0 L.zer
  have lG : lo m 1 G := lo_of0 h0
  refine ⟨L.two, h0, fun i hi => by rw [← h i 0 (by omega)]; exact L.un i hi, fun i j hij => by rw [← h i j hij, ← h j i (by omega)]; exact L.sy i j hij, fun p q k hpq => ?_⟩
  have e1 : sm n (fun i => F i k * (pw F i : Nat → Nat → Int) p q) % m = sm n (fun i => G i k * (pw G i : Nat → Nat → Int) p q) % m := by
    rw [← sumN_sm, ← sumN_sm]
    refine sumN_mod fun i hi => ?_
    by_cases hik : i + k < n
    · exact emod_congr_mul (h i k hik) (eqv2.1 (pw_eqv e i) p q (by omega))
    · have z1 : (pw F i : Nat → Nat → Int) p q % m = 0 % m := eqv2.1 (eqv_lo (pw_lo lF i)) p q (by omega)
      have z2 : (pw G i : Nat → Nat → Int) p q % m = 0 % m := eqv2.1 (eqv_lo (pw_lo lG i)) p q (by omega)
      rw [emod_congr_mul (rfl : F i k % m = _) z1, emod_congr_mul (rfl : G i k % m = _) z2, Int.mul_zero, Int.mul_zero]
  have e2 : sm n (fun j => F p j * (pw F j : Nat → Nat → Int) q k) % m = sm n (fun j => G p j * (pw G j : Nat → Nat → Int) q k) % m := by
    rw [← sumN_sm, ← sumN_sm]
    refine sumN_mod fun j hj => ?_
    by_cases hjp : p + j < n
    · exact emod_congr_mul (h p j hjp) (eqv2.1 (pw_eqv e j) q k (by omega))
    · have z1 : (pw F j : Nat → Nat → Int) q k % m = 0 % m := eqv2.1 (eqv_lo (pw_lo lF j)) q k (by omega)
      have z2 : (pw G j : Nat → Nat → Int) q k % m = 0 % m := eqv2.1 (eqv_lo (pw_lo lG j)) q k (by omega)
      rw [emod_congr_mul (rfl : F p j % m = _) z1, emod_congr_mul (rfl : G p j % m = _) z2, Int.mul_zero, Int.mul_zero]
  rw [← e1, ← e2]
  exact L.as p q k hpq
end Go.Proofs.YtoednonijmkbjaaGreat
