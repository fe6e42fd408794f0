/- Lemmas of G21. -/
import Derived.Test.YtoednonijmkbjaaGreatVG7
import Derived.Test.YtoednonijmkbjaaGreatVG11
import Derived.Test.YtoednonijmkbjaaGreatVG10
/- A series in two variables is a law if sums of the three variables are associative. No program stands here. -/
set_option linter.unusedSimpArgs false
set_option linter.unusedVariables false
namespace Go.Proofs.YtoednonijmkbjaaGreat
open Rg

def cst {T : Type} [Rg T] (a : T) : Nat → T := fun i => if i = 0 then a else zz
def mono {T : Type} [Rg T] (p : Nat) : Nat → T := fun i => if i = p then oo else zz
section gen
variable {T : Type} [Rg T]
theorem cst_ml (a b : T) : (ml (cst a) (cst b) : Nat → T) = cst (ml a b) := by
  funext i
  show cv (fun k => if k = 0 then a else zz) (cst b) i = _
  rw [cv_ic]
  unfold cst
  by_cases h : i = 0
  · rw [if_pos h, if_pos h]
  · rw [if_neg h, if_neg h, ml_zz]
theorem cst_pw (a : T) (k : Nat) : (pw (cst a) k : Nat → T) = cst (pw a k) := by
  induction k with
  | zero => rfl
  | succ k ih => show ml (pw (cst a) k) (cst a) = _; rw [ih, cst_ml]; rfl
theorem mono_1 (f : Nat → T) : (ml f (mono 1) : Nat → T) = fun i => if i = 0 then zz else f (i - 1) := by
  funext i
  cases i with
  | zero =>
    show cv f (mono 1) 0 = _
    rw [cv_0]
    show ml (f 0) (if 0 = 1 then oo else zz) = _
    rw [if_neg (by omega), ml_zz, if_pos rfl]
  | succ i =>
    show cv f (mono 1) (i + 1) = _
    rw [cv_last]
    have e : sh (mono 1 : Nat → T) = fun k => if k = 0 then oo else zz := by
      funext k
      show (if k + 1 = 1 then (oo : T) else zz) = _
      by_cases h : k = 0
      · rw [if_pos (by omega), if_pos h]
      · rw [if_neg (by omega), if_neg h]
    rw [e, cv_oo]
    show ad (f i) (ml (f (i + 1)) (if 0 = 1 then oo else zz)) = _
    rw [if_neg (by omega), ml_zz, ad_zz, if_neg (by omega)]; rfl
theorem mono_pw (k : Nat) : (pw (mono 1) k : Nat → T) = mono k := by
  induction k with
  | zero => rfl
  | succ k ih =>
    show ml (pw (mono 1) k) (mono 1) = _
    rw [ih, mono_1]
    funext i
    show (if i = 0 then zz else if i - 1 = k then (oo : T) else zz) = if i = k + 1 then oo else zz
    by_cases h : i = 0
    · rw [if_pos h, if_neg (by omega)]
    · rw [if_neg h]
      by_cases h' : i = k + 1
      · rw [if_pos (by omega), if_pos h']
      · rw [if_neg (by omega), if_neg h']
theorem mono_cst (p : Nat) (b : T) (i : Nat) : (ml (mono p) (cst b) : Nat → T) i = if i = p then b else zz := by
  rw [ml_comm]
  show cv (fun k => if k = 0 then b else zz) (mono p) i = _
  rw [cv_ic]
  show ml b (if i = p then oo else zz) = _
  by_cases h : i = p
  · rw [if_pos h, if_pos h, ml_oo]
  · rw [if_neg h, if_neg h, ml_zz]
theorem lo_cst {m : Int} {k : Nat} {a : T} (h : lo m k a) : lo m k (cst a) := fun i => by
  by_cases hi : i = 0
  · subst hi; exact h
  · show lo m (k - i) (if i = 0 then a else zz)
    rw [if_neg hi]; exact lo_zz _ _
theorem lo_mono (m : Int) : lo m 1 (mono 1 : Nat → T) := fun i => by
  by_cases hi : i = 0
  · subst hi
    show lo m 1 (if 0 = 1 then (oo : T) else zz)
    rw [if_neg (by omega)]; exact lo_zz _ _
  · rw [show 1 - i = 0 by omega]; exact lo_0 _ _
theorem sm_ite' {n k : Nat} (hk : k < n) (f : Nat → T) : sm n (fun i => if k = i then f i else zz) = f k := by
  induction n with
  | zero => omega
  | succ n ih =>
    show ad (sm n _) (if k = n then f n else zz) = f k
    by_cases h : k = n
    · subst h
      rw [if_pos rfl, sm_none (n := k) fun i hi => by rw [if_neg (by omega)], zz_ad]
    · rw [if_neg h, ih (by omega), ad_zz]
end gen

def X3 : Nat → Nat → Nat → Int := mono 1
def Y3 : Nat → Nat → Nat → Int := cst xP
def Z3 : Nat → Nat → Nat → Int := cst yP
theorem T3_at (n : Nat) (c : Nat → Nat → Nat → Int) {i : Nat} (hi : i < n) :
    (sm n (fun p => sm n (fun q => sm n (fun k => ml (ic (c p q k)) (ml (pw X3 p) (ml (pw Y3 q) (pw Z3 k)))))) : Nat → Nat → Nat → Int) i = ev2 n (c i) xP yP := by
  rw [ser_sm]
  have e : ∀ p, (sm n (fun q => sm n (fun k => ml (ic (c p q k)) (ml (pw X3 p) (ml (pw Y3 q) (pw Z3 k))))) : Nat → Nat → Nat → Int) i = if i = p then ev2 n (c p) xP yP else zz := by
    intro p
    rw [ser_sm]
    have e1 : ∀ q, (sm n (fun k => ml (ic (c p q k)) (ml (pw X3 p) (ml (pw Y3 q) (pw Z3 k)))) : Nat → Nat → Nat → Int) i = if i = p then sm n (fun k => ml (ic (c p q k)) (ml (pw xP q) (pw yP k))) else zz := by
      intro q
      rw [ser_sm]
      have e2 : ∀ k, (ml (ic (c p q k)) (ml (pw X3 p) (ml (pw Y3 q) (pw Z3 k))) : Nat → Nat → Nat → Int) i = if i = p then ml (ic (c p q k)) (ml (pw xP q) (pw yP k)) else zz := by
        intro k
        rw [ser_icml]
        unfold X3 Y3 Z3
        rw [mono_pw, cst_pw, cst_pw, cst_ml, mono_cst]
        by_cases h : i = p
        · rw [if_pos h, if_pos h]
        · rw [if_neg h, if_neg h, ml_zz]
      rw [sm_congr fun k _ => e2 k]
      by_cases h : i = p
      · rw [if_pos h]; exact sm_congr fun k _ => by rw [if_pos h]
      · rw [if_neg h]; exact sm_none fun k _ => by rw [if_neg h]
    rw [sm_congr fun q _ => e1 q]
    by_cases h : i = p
    · rw [if_pos h, ev2_sum]; exact sm_congr fun q _ => by rw [if_pos h]
    · rw [if_neg h]; exact sm_none fun q _ => by rw [if_neg h]
  rw [sm_congr fun p _ => e p, sm_ite' hi]
theorem lw_of_ev {m : Int} {n : Nat} (h2 : 2 ≤ n) {F : Nat → Nat → Int} (h0 : F 0 0 = 0) (hu : ∀ i, i < n → F i 0 % m = (if i = 1 then 1 else 0) % m) (hs : ∀ i j, i + j < n → F i j % m = F j i % m)
    (ha : eqv m n (ev2 n F (ev2 n F X3 Y3) Z3) (ev2 n F X3 (ev2 n F Y3 Z3))) : Lw m n F := by
  refine ⟨h2, h0, hu, hs, fun p q k hpq => ?_⟩
  have lX : lo m 1 X3 := lo_mono m
  have lY : lo m 1 Y3 := lo_cst (lo_xP m)
  have lZ : lo m 1 Z3 := lo_cst (lo_yP m)
  have e1 : eqv m n (ev2 n F (ev2 n F X3 Y3) Z3) (sm n (fun i => ml (sm n (fun k => ml (ic (F i k)) (pw Z3 k))) (ev2 n (pw F i) X3 Y3))) :=
    sm_eqv fun i _ => eqv_mll _ (eqv_symm ((hm2 lX lY).pw F i))
  have e2 : eqv m n (ev2 n F X3 (ev2 n F Y3 Z3)) (sm n (fun p => ml (sm n (fun j => ml (ic (F p j)) (ev2 n (pw F j) Y3 Z3))) (pw X3 p))) :=
    sm_eqv fun p _ => eqv_mlr _ (sm_eqv fun j _ => eqv_mll _ (eqv_symm ((hm2 lY lZ).pw F j)))
  rw [three_sum n F (fun i => pw F i)] at e1
  rw [three_sum' n F (fun i => pw F i)] at e2
  have e := eqv_trans (eqv_symm e1) (eqv_trans ha e2)
  have h := eqv_ser e p
  rw [T3_at n (fun p q k => sm n (fun i => F i k * (pw F i : Nat → Nat → Int) p q)) (by omega), T3_at n (fun p q k => sm n (fun j => F p j * (pw F j : Nat → Nat → Int) q k)) (by omega)] at h
  have h' := eqv_trans (eqv_symm (eqv_le (ev2_self _) (show n - p ≤ n by omega))) (eqv_trans h (eqv_le (ev2_self _) (show n - p ≤ n by omega)))
  exact eqv2.1 h' q k (by omega)
end Go.Proofs.YtoednonijmkbjaaGreat

/- What a logarithm determines; typical laws are laws. No program stands here. -/
set_option linter.unusedSimpArgs false
set_option linter.unusedVariables false
namespace Go.Proofs.YtoednonijmkbjaaGreat
open Rg

def Tf (T : Type) [Rg T] : Prop := ∀ (c : Int) (k : Nat) (x : T), c ≠ 0 → lo 0 k (ml (ic c) x) → lo 0 k x
theorem tf_int : Tf Int := fun c k x hc h => by
  rcases h with h | h
  · exact .inl h
  · have h' : c * x = 0 := Int.zero_dvd.1 h
    rcases Int.mul_eq_zero.1 h' with e | e
    · exact absurd e hc
    · exact .inr (by rw [e]; exact Int.dvd_refl 0)
theorem tf_ser {T : Type} [Rg T] (H : Tf T) : Tf (Nat → T) := fun c k x hc h i => by
  have := h i
  rw [ser_icml] at this
  exact H c (k - i) (x i) hc this
section gen
variable {T : Type} [Rg T] {p : Nat} {l : Nat → Int}
theorem LQ_lateT (hp : 2 ≤ p) (l : Nat → Int) (M : Nat) {F e : T} {n : Nat} (hF : lo 0 1 F) (he : lo 0 (n + 1) e) : eqv 0 (n + 2) (LQ p l (M + 1) (ad F e)) (ad (LQ p l (M + 1) F) (ml (ic (l 0)) e)) := by
  unfold LQ
  rw [sm_first, sm_first]
  have e1 : eqv 0 (n + 2) (sm M (fun k => ml (ic (l (k + 1))) (pw (ad F e) (p ^ (k + 1))))) (sm M (fun k => ml (ic (l (k + 1))) (pw F (p ^ (k + 1))))) := by
    refine sm_eqv fun k _ => eqv_mll _ ?_
    have hq : 2 ≤ p ^ (k + 1) := by
      rw [Nat.pow_succ]
      exact Nat.le_trans (show 2 ≤ 1 * p by omega) (Nat.mul_le_mul_right p (Nat.one_le_pow k p (by omega)))
    obtain ⟨r, hr⟩ : ∃ r, p ^ (k + 1) = r + 2 := ⟨p ^ (k + 1) - 2, by omega⟩
    rw [hr]
    exact pw_late hF he r
  refine eqv_trans (eqv_ad eqv_rfl e1) (eqv_of ?_)
  rw [Nat.pow_zero, pw_1, pw_1, ml_ad]
  ac_rfl
theorem LQ_inj (tf : Tf T) (hp : 2 ≤ p) (h0 : l 0 ≠ 0) {M : Nat} {G H : T} (hG : lo 0 1 G) (hH : lo 0 1 H) {n : Nat} (h : eqv 0 n (LQ p l (M + 1) G) (LQ p l (M + 1) H)) : ∀ k, k ≤ n → eqv 0 k G H
  | 0, _ => lo_0 _ _
  | 1, _ => eqv_trans (eqv_lo hG) (eqv_symm (eqv_lo hH))
  | k + 2, hk => by
    have ih := LQ_inj tf hp h0 hG hH h (k + 1) (by omega)
    have e : G = ad H (ad G (ng H)) := by rw [show ad H (ad G (ng H)) = ad (ad H (ng H)) G by ac_rfl, ad_ng, zz_ad]
    have h1 := LQ_lateT hp l M hH (show lo 0 (k + 1) (ad G (ng H)) from ih)
    rw [← e] at h1
    have h2 := eqv_trans (eqv_symm h1) (eqv_le h hk)
    refine tf (l 0) (k + 2) _ h0 ?_
    have h3 : lo 0 (k + 2) (ad (ad (LQ p l (M + 1) H) (ml (ic (l 0)) (ad G (ng H)))) (ng (LQ p l (M + 1) H))) := h2
    rwa [show ad (ad (LQ p l (M + 1) H) (ml (ic (l 0)) (ad G (ng H)))) (ng (LQ p l (M + 1) H)) = ad (ad (LQ p l (M + 1) H) (ng (LQ p l (M + 1) H))) (ml (ic (l 0)) (ad G (ng H))) by ac_rfl, ad_ng, zz_ad] at h3
theorem LQ_sum {N n : Nat} (h2 : 2 ≤ n) {F : Nat → Nat → Int} (h : eqv 0 n (LQ p l N F) (ad (LQ p l N xP) (LQ p l N yP))) {a b : T} (ha : lo 0 1 a) (hb : lo 0 1 b) : eqv 0 n (LQ p l N (ev2 n F a b)) (ad (LQ p l N a) (LQ p l N b)) := by
  have hm : Hm 0 n (fun G => ev2 n G a b) := hm2 ha hb
  have t1 := LQ_hm hm p l N F
  have t2 := LQ_hm hm p l N xP
  have t3 := LQ_hm hm p l N yP
  rw [ev2_x h2] at t2
  rw [ev2_y h2] at t3
  have t4 := hm.eqv (Nat.le_refl _) h
  rw [hm.ad] at t4
  exact eqv_trans (eqv_symm t1) (eqv_trans t4 (eqv_ad t2 t3))
end gen
theorem ev2_swap {m : Int} {n : Nat} (F : Nat → Nat → Int) : eqv m n (ev2 n F yP xP) (fun i j => F j i) := by
  refine eqv2.2 fun i j hij => ?_
  rw [ev2_sum]
  have e1 : (sm n (fun a => sm n (fun b => ml (ic (F a b)) (ml (pw yP a) (pw xP b)))) : Nat → Nat → Int) i j = sumN n (fun a => sumN n (fun b => F a b * (if a = j ∧ b = i then 1 else 0))) := by
    rw [sumN_sm, ser_sm, ser_sm]
    refine sm_congr fun a _ => ?_
    rw [sumN_sm, ser_sm, ser_sm]
    refine sm_congr fun b _ => ?_
    rw [icml2]
    congr 1
    rw [ml_comm, show pw xP b = onx (pw xS b) from (onx_pw _ _).symm, show pw yP a = ony (pw xS a) from (ony_pw _ _).symm, onx_ony, pw_xS, pw_xS]
    unfold mon
    by_cases ha : a = j
    · subst ha
      by_cases hb : b = i
      · subst hb; simp
      · rw [if_neg (show ¬ i = b from fun e => hb e.symm), if_neg (show ¬ (a = a ∧ b = i) from fun e => hb e.2), Int.zero_mul]
    · rw [if_neg (show ¬ j = a from fun e => ha e.symm), if_neg (show ¬ (a = j ∧ b = i) from fun e => ha e.1), Int.mul_zero]
  rw [e1, sumN_only (i := j) (by omega) (fun a _ hne => sumN_zero fun b _ => by rw [if_neg (fun e => hne e.1), Int.mul_zero]),
    sumN_only (i := i) (by omega) (fun b _ hne => by rw [if_neg (fun e => hne e.2), Int.mul_zero]), if_pos ⟨rfl, rfl⟩, Int.mul_one]
theorem lw_log {p M n : Nat} {l : Nat → Int} (hp : 2 ≤ p) (hl : l 0 ≠ 0) (h2 : 2 ≤ n) {F : Nat → Nat → Int} (h0 : F 0 0 = 0) (hu : ∀ i, F i 0 = if i = 1 then 1 else 0)
    (h : eqv 0 n (LQ p l (M + 1) F) (ad (LQ p l (M + 1) xP) (LQ p l (M + 1) yP))) : Lw 0 n F := by
  have lx := lo_xP 0
  have ly := lo_yP 0
  have l2 : ∀ {T : Type} [Rg T] {a b : T}, lo 0 1 a → lo 0 1 b → lo 0 1 (ev2 n F a b) := fun ha hb => ev2_lo F h0 (Nat.le_refl _) ha hb
  refine lw_of_ev h2 h0 (fun i _ => by rw [hu i]) ?_ ?_
  · have h1 := LQ_sum (T := Nat → Nat → Int) h2 h ly lx
    rw [ad_comm] at h1
    have h3 := LQ_inj (tf_ser (tf_ser tf_int)) hp hl (M := M) (lo_of0 h0) (l2 ly lx) (eqv_trans h (eqv_symm h1)) n (Nat.le_refl _)
    have h4 := eqv_trans h3 (ev2_swap F)
    exact fun i j hij => eqv2.1 h4 i j hij
  · have lX : lo 0 1 X3 := lo_mono 0
    have lY : lo 0 1 Y3 := lo_cst (lo_xP 0)
    have lZ : lo 0 1 Z3 := lo_cst (lo_yP 0)
    have a1 := eqv_trans (LQ_sum h2 h (l2 lX lY) lZ) (eqv_ad (LQ_sum h2 h lX lY) eqv_rfl)
    have a2 := eqv_trans (LQ_sum h2 h lX (l2 lY lZ)) (eqv_ad eqv_rfl (LQ_sum h2 h lY lZ))
    rw [ad_assoc] at a1
    exact LQ_inj (tf_ser (tf_ser (tf_ser tf_int))) hp hl (M := M) (l2 (l2 lX lY) lZ) (l2 lX (l2 lY lZ)) (eqv_trans a1 (eqv_symm a2)) n (Nat.le_refl _)
theorem Lw.of0 {n : Nat} {F : Nat → Nat → Int} (L : Lw 0 n F) (m : Int) : Lw m n F := by
  refine ⟨L.two, L.zer, fun i hi => ?_, fun i j hij => ?_, fun p q k h => ?_⟩
  · have := L.un i hi; rw [Int.emod_zero, Int.emod_zero] at this; rw [this]
  · have := L.sy i j hij; rw [Int.emod_zero, Int.emod_zero] at this; rw [this]
  · have := L.as p q k h; rw [Int.emod_zero, Int.emod_zero] at this; rw [this]
theorem Lw.congr {m : Int} {n : Nat} {F G : Nat → Nat → Int} (L : Lw m n F) (h0 : G 0 0 = 0) (h : ∀ i j, i + j < n → F i j % m = G i j % m) : Lw m n G := by
  have e := eqv2.2 h
  have h2 := L.two
  have lF : lo m 1 F := lo_of0 L.zer
  have lG : lo m 1 G := lo_of0 h0
  refine ⟨L.two, h0, fun i hi => by rw [← h i 0 (by omega)]; exact L.un i hi, fun i j hij => by rw [← h i j hij, ← h j i (by omega)]; exact L.sy i j hij, fun p q k hpq => ?_⟩
  have e1 : sm n (fun i => F i k * (pw F i : Nat → Nat → Int) p q) % m = sm n (fun i => G i k * (pw G i : Nat → Nat → Int) p q) % m := by
    rw [← sumN_sm, ← sumN_sm]
    refine sumN_mod fun i hi => ?_
    by_cases hik : i + k < n
    · exact emod_congr_mul (h i k hik) (eqv2.1 (pw_eqv e i) p q (by omega))
    · have z1 : (pw F i : Nat → Nat → Int) p q % m = 0 % m := eqv2.1 (eqv_lo (pw_lo lF i)) p q (by omega)
      have z2 : (pw G i : Nat → Nat → Int) p q % m = 0 % m := eqv2.1 (eqv_lo (pw_lo lG i)) p q (by omega)
      rw [emod_congr_mul (rfl : F i k % m = _) z1, emod_congr_mul (rfl : G i k % m = _) z2, Int.mul_zero, Int.mul_zero]
  have e2 : sm n (fun j => F p j * (pw F j : Nat → Nat → Int) q k) % m = sm n (fun j => G p j * (pw G j : Nat → Nat → Int) q k) % m := by
    rw [← sumN_sm, ← sumN_sm]
    refine sumN_mod fun j hj => ?_
    by_cases hjp : p + j < n
    · exact emod_congr_mul (h p j hjp) (eqv2.1 (pw_eqv e j) q k (by omega))
    · have z1 : (pw F j : Nat → Nat → Int) q k % m = 0 % m := eqv2.1 (eqv_lo (pw_lo lF j)) q k (by omega)
      have z2 : (pw G j : Nat → Nat → Int) q k % m = 0 % m := eqv2.1 (eqv_lo (pw_lo lG j)) q k (by omega)
      rw [emod_congr_mul (rfl : F p j % m = _) z1, emod_congr_mul (rfl : G p j % m = _) z2, Int.mul_zero, Int.mul_zero]
  rw [← e1, ← e2]
  exact L.as p q k hpq
end Go.Proofs.YtoednonijmkbjaaGreat
