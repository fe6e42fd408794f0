/- Lemmas. -/
import Derived.Test.YtfpphfjlpgefaaaGreatqG9
import Derived.Test.YtfpphfjlpgefaaaGreatqG7
import Derived.Test.YtfpphfjlpgefaaaGreatqG11
set_option linter.unusedSimpArgs false
set_option linter.unusedVariables false
namespace Go.Proofs.YtfpphfjlpgefaaaGreat
open Go.RowKit
section
open Rg

theorem T_pwT (m : Int) (n : Nat) (t : Tb) : ∀ k, eqv m n (atT (pwT m n t k)) (pw (atT t) (k + 1))
 | 0 => by rw [qBO]; exact qAY
 | k + 1 => qA2 (qHy m n _ _) (qBj _ (T_pwT m n t k))
theorem qJc (P i j : Nat) : (pw xP P : Nat → Nat → Int) i j = if j = 0 then (if i = P then 1 else 0) else 0 := by
 rw [show pw xP P = onx (pw xS P) from (qES _ _).symm, qD9]; rfl
theorem qJQ (P i j : Nat) : (pw yP P : Nat → Nat → Int) i j = if i = 0 then (if j = P then 1 else 0) else 0 := by
 rw [show pw yP P = ony (pw xS P) from (qEZ _ _).symm, qD9]; rfl
theorem qHi (F G H : Nat → Nat → Int) (i j : Nat) : (ad F (ng (ad G H)) : Nat → Nat → Int) i j = F i j - (G i j + H i j) := by
 show F i j + (ng (ad G H) : Nat → Nat → Int) i j = _
 rw [qE7, qE7]
 show _ + (-1) * (G i j + H i j) = _
 omega
theorem T_subA {m : Int} {n P : Nat} (hP : 1 ≤ P) (t : Tb) : eqv m n (atT (qCn m n P t)) (ad (atT t) (ng (ad (pw xP P) (pw yP P)))) := by
 refine qAJ.2 fun i j h => ?_
 rw [qHi, qJc, qJQ]
 unfold qCn
 split
 ·rw [qAi h]; unfold qEw qF5
  by_cases a : i = 0 ∧ j = P
  ·obtain ⟨rfl, rfl⟩ := a; rw [if_pos ⟨rfl, rfl⟩, if_neg Oo, if_neg Oo, if_pos rfl, if_pos rfl, qAW]; simp
  ·rw [if_neg a]
   by_cases b : i = P ∧ j = 0
   ·obtain ⟨rfl, rfl⟩ := b; rw [if_pos ⟨rfl, rfl⟩, if_pos rfl, if_pos rfl, if_neg Oo, qAW]; simp
   ·rw [if_neg b]
    have e1 : (if j = 0 then (if i = P then (1 : Int) else 0) else 0) = 0 := by
     split
     ·rw [if_neg Oo]
     ·rfl
    have e2 : (if i = 0 then (if j = P then (1 : Int) else 0) else 0) = 0 := by
     split
     ·rw [if_neg Oo]
     ·rfl
    rw [e1, e2]; simp
 ·have e1 : (if j = 0 then (if i = P then (1 : Int) else 0) else 0) = 0 := by
   split
   ·rw [if_neg Oo]
   ·rfl
  have e2 : (if i = 0 then (if j = P then (1 : Int) else 0) else 0) = 0 := by
   split
   ·rw [if_neg Oo]
   ·rfl
  rw [e1, e2]; simp
theorem T_res (m : Int) (n p M : Nat) (hp : 1 ≤ p) (ns : Li) (t : Tb) : ∀ k, eqv m n (atT (qCE m n p M ns t k)) (sm k (fun i => ml (ic ((p : Int) ^ (M - i) % m * at0 ns i % m)) (ad (pw (atT t) (p ^ i)) (ng (ad (pw xP (p ^ i)) (pw yP (p ^ i)))))))
 | 0 => qAJ.2 fun i j h => by
   show atT (qAb n) i j % m = _
   unfold qAb; rw [qAi h]; rfl
 | k + 1 => by
   have hP : 1 ≤ p ^ k := Nat.one_le_pow k p hp; refine qA2 (T_add m n _ _) (qAM (T_res m n p M hp ns t k) (qA2 (T_sca m n _ _) (qBh _ (qA2 (T_subA hP _) (qAM ?_ qAY))))); have h := T_pwT m n t (p ^ k - 1); rw [show p ^ k - 1 + 1 = p ^ k by omega] at h; exact h
section rg
variable {T : Type} [Rg T]
theorem sm_ng (n : Nat) (f : Nat → T) : sm n (fun i => ng (f i)) = ng (sm n f) := by
 induction n with
 | zero => exact ng_zz.symm
 | succ n ih =>
   show ad (sm n _) (ng (f n)) = ng (ad (sm n f) (f n))
   rw [ih]; exact (ml_ad _ _ _).symm
end rg
theorem DP_sm (p M : Nat) (l : Nat → Int) (F : Nat → Nat → Int) : sm (M + 1) (fun i => ml (ic (l i)) (ad (pw F (p ^ i)) (ng (ad (pw xP (p ^ i)) (pw yP (p ^ i)))))) = DP p M l F := by
 unfold DP LQ
 rw [← qDO, ← sm_ng, ← qDO]
 exact qAC fun i _ => by rw [ml_ad, qFb, ml_ad]
theorem T_DP {W : Int} (n p M : Nat) (hp : 1 ≤ p) (v : Nat → Int) (ns : Li) (hns : ∀ i, i ≤ M → at0 ns i % W = num p v i % W) (t : Tb) :
  eqv W n (atT (qCE W n p M ns t (M + 1))) (DP p M (tyl p M v) (atT t)) := by
 refine qA2 (T_res W n p M hp ns t (M + 1)) ?_
 rw [← DP_sm]
 refine qAm fun i hi => qBj _ (qDp ?_)
 unfold tyl
 rw [qAW]
 exact qAd (qAW _ _) (hns i Oo)
theorem qOd {p : Nat} (hp : P4 p) (m : Int) {k : Nat} {a b : Nat → Nat → Int} (h : eqv (m * p) k a b) (e : Nat) : eqv (m * p * (p : Int) ^ e) k (pw a (p ^ e)) (pw b (p ^ e)) := by
 induction e with
 | zero => rw [Nat.pow_zero, qBO, qBO, Int.pow_zero, Int.mul_one]; exact h
 | succ e ih =>
   rw [Nat.pow_succ, ← qCl, ← qCl, Int.pow_succ, ← Int.mul_assoc]; exact qKJ hp (Int.dvd_mul_of_dvd_left (Int.dvd_mul_left _ _)) ih
theorem DP_eqv {p M : Nat} {l ν : Nat → Int} (H : TyL p M l ν) (m : Int) {k : Nat} {F G : Nat → Nat → Int} (h : eqv (m * p) k F G) : eqv (m * (p : Int) ^ M * p) k (DP p M l F) (DP p M l G) := by
 unfold DP
 refine qAM (qAm fun i hi => ?_) qAY
 have a := qJo (H.dvd i Oo) (qOd H.pr m h i)
 rw [show (p : Int) ^ (M - i) * (m * p * (p : Int) ^ i) = m * (p : Int) ^ M * p by
  rw [show (p : Int) ^ M = (p : Int) ^ (M - i) * (p : Int) ^ i by rw [← Int.pow_add, Nat.sub_add_cancel Oo]]
  ac_rfl] at a
 exact a
end
section
open Rg

theorem ml_col {F F' G G' : Nat → Nat → Int} (hF : ∀ a, F a 0 = F' a 0) (hG : ∀ a, G a 0 = G' a 0) (i : Nat) : (ml F G : Nat → Nat → Int) i 0 = (ml F' G' : Nat → Nat → Int) i 0 := by
 rw [qDF, qDF]
 unfold qBF
 refine qC8 fun a _ => qC8 fun b hb => ?_
 obtain rfl : b = 0 := Oo
 rw [hF, hG]
theorem ml_row {F F' G G' : Nat → Nat → Int} (hF : ∀ a, F 0 a = F' 0 a) (hG : ∀ a, G 0 a = G' 0 a) (i : Nat) : (ml F G : Nat → Nat → Int) 0 i = (ml F' G' : Nat → Nat → Int) 0 i := by
 rw [qDF, qDF]
 unfold qBF
 refine qC8 fun a ha => qC8 fun b hb => ?_
 obtain rfl : a = 0 := Oo
 rw [hF, hG]
theorem qLQ {F F' : Nat → Nat → Int} (hF : ∀ a, F a 0 = F' a 0) : ∀ k i, (pw F k : Nat → Nat → Int) i 0 = (pw F' k : Nat → Nat → Int) i 0
 | 0, _ => rfl
 | k + 1, i => ml_col (qLQ hF k) hF i
theorem qK8 {F F' : Nat → Nat → Int} (hF : ∀ a, F 0 a = F' 0 a) : ∀ k i, (pw F k : Nat → Nat → Int) 0 i = (pw F' k : Nat → Nat → Int) 0 i
 | 0, _ => rfl
 | k + 1, i => ml_row (qK8 hF k) hF i
theorem qEf (p : Nat) (l : Nat → Int) (n : Nat) (F : Nat → Nat → Int) (i j : Nat) : (LQ p l n F : Nat → Nat → Int) i j = qA3 n (fun k => l k * (pw F (p ^ k) : Nat → Nat → Int) i j) := by
 unfold LQ
 rw [qBA, qBA, qBB]
 exact qAC fun k _ => qC_ _ _ _ _
theorem DP_col {p : Nat} (hp : 1 ≤ p) (M : Nat) (l : Nat → Int) {F : Nat → Nat → Int} (hF : ∀ a, F a 0 = xP a 0) (i : Nat) : DP p M l F i 0 = 0 := by
 unfold DP
 rw [qHi, qEf, qEf, qEf, show qA3 (M + 1) (fun k => l k * (pw yP (p ^ k) : Nat → Nat → Int) i 0) = 0 from qBG fun k _ => by
  rw [qJQ]; have := Nat.one_le_pow k p hp
  split
  ·rw [if_neg Oo, Int.mul_zero]
  ·rw [Int.mul_zero], qC8 fun k _ => by rw [qLQ hF]]
 omega
theorem DP_row {p : Nat} (hp : 1 ≤ p) (M : Nat) (l : Nat → Int) {F : Nat → Nat → Int} (hF : ∀ a, F 0 a = yP 0 a) (i : Nat) : DP p M l F 0 i = 0 := by
 unfold DP
 rw [qHi, qEf, qEf, qEf, show qA3 (M + 1) (fun k => l k * (pw xP (p ^ k) : Nat → Nat → Int) 0 i) = 0 from qBG fun k _ => by
  rw [qJc]; have := Nat.one_le_pow k p hp
  split
  ·rw [if_neg Oo, Int.mul_zero]
  ·rw [Int.mul_zero], qC8 fun k _ => by rw [qK8 hF]]
 omega
theorem qGs {p : Nat} (hp : 1 ≤ p) (M : Nat) (l : Nat → Int) : ∀ k i, tyF p M l k i 0 = xP i 0
 | 0, i => by
   show xP i 0 + yP i 0 = xP i 0
   rw [qDY, if_neg Oo, Int.add_zero]
 | k + 1, i => by
   show tyF p M l k i 0 + tyE p M l (k + 2) (tyF p M l k) i 0 = _
   unfold tyE; rw [DP_col hp M l (qGs hp M l k), qGs hp M l k, Int.zero_ediv]
   split <;> simp
theorem qHj {p : Nat} (hp : 1 ≤ p) (M : Nat) (l : Nat → Int) : ∀ k i, tyF p M l k 0 i = yP 0 i
 | 0, i => by
   show xP 0 i + yP 0 i = yP 0 i
   rw [qD_, if_neg Oo, Int.zero_add]
 | k + 1, i => by
   show tyF p M l k 0 i + tyE p M l (k + 2) (tyF p M l k) 0 i = _
   unfold tyE; rw [DP_row hp M l (qHj hp M l k), qHj hp M l k, Int.zero_ediv]
   split <;> simp
end
section
open Rg

theorem qIc (W : Int) (n p M : Nat) (ns : Li) : ∀ d i j, d + 2 ≤ i + j → lwF W n p M ns d i j = 0
 | 0, i, j, h => by unfold lwF; rw [if_neg Oo]
 | d + 1, i, j, h => by
   unfold lwF; rw [if_neg Oo]; exact qIc W n p M ns d i j Oo
theorem qP7 {m P c x : Int} (hm : 0 < m) (hP : 0 < P) (p : Int) (hp : 0 < p) (h0 : 0 ≤ x) (h1 : x < m * P * p) (h : x % (m * P * p) = (P * c) % (m * P * p)) : (-(x / P)) % (m * P * p) % (m * p) = (-c) % (m * p) := by
 have e : m * P * p = P * (m * p) := by rw [Int.mul_comm m P, Int.mul_assoc]
 rw [Int.emod_eq_of_lt h0 h1] at h
 rw [e, Int.mul_emod_mul_of_pos _ _ hP] at h
 rw [h, Int.mul_ediv_cancel_left _ Oo, e, Int.emod_emod_of_dvd _ (Int.dvd_mul_left _ _)]
 rw [← Int.zero_sub, ← Int.zero_sub c]
 exact qEs rfl (qAW _ _)
theorem lw_ty {p M n : Nat} {v ν : Nat → Int} (H : TyL p M (tyl p M v) ν) {m W : Int} (hm : 2 ≤ m) (hW : W = m * ((p ^ M : Nat) : Int) * p) (hW2 : 2 ≤ W) {ns : Li} (hns : ∀ i, i ≤ M → at0 ns i % W = num p v i % W) (hn : n + 1 ≤ p ^ (M + 1)) :
  ∀ d, d + 1 ≤ n → ∀ i j, lwF W n p M ns d i j % (m * p) = tyF p M (tyl p M v) d i j % (m * p)
 | 0, _, i, j => by
   show (if i + j = 1 then (1 : Int) else 0) % _ = (xP i j + yP i j) % _
   rw [qD_, qDY]
   by_cases a : i + j = 1
   ·rw [if_pos a]
    by_cases b : i = 1
    ·rw [if_pos ⟨b, Oo⟩, if_neg Oo]; rfl
    ·rw [if_neg Oo, if_pos ⟨Oo, Oo⟩]; rfl
   ·rw [if_neg a, if_neg Oo, if_neg Oo]; rfl
 | d + 1, hd, i, j => by
   have ih := lw_ty H hm hW hW2 hns hn d Oo; have hp2 := H.pr.pos
   by_cases hij : i + j = d + 2
   ·by_cases hb : 1 ≤ i ∧ i < d + 2
    ·have hP : 0 < ((p ^ M : Nat) : Int) := by have := Nat.one_le_pow M p Oo; omega
     have hD := qLk H (show 1 ≤ d + 2 by omega) Oo (qEk p M _ d) (qHY H d Oo); obtain ⟨c, hc⟩ := qDg.1 hD i j Oo; have hT := T_DP (d + 3) p M Oo v ns hns (qA_ (d + 3) (tri (n + 1) (lwF W n p M ns d)))
     have hE : eqv (m * p) (d + 3) (atT (qA_ (d + 3) (tri (n + 1) (lwF W n p M ns d)))) (tyF p M (tyl p M v) d) := qAJ.2 fun a b hab => by
      unfold qA_; rw [qAi hab, qAi Oo]; exact ih a b
     have hq : m * (p : Int) ^ M * p = W := by rw [hW, Int.natCast_pow]
     have hDE := DP_eqv H m hE; rw [hq] at hDE; have hT2 := qA2 hT hDE; have hx := qAJ.1 hT2 i j Oo; have rx := qBT (qHc hW2 (d + 3) p M ns (qA_ (d + 3) (tri (n + 1) (lwF W n p M ns d))) (M + 1)) (show i + j < d + 3 by omega)
     have e1 : lwF W n p M ns (d + 1) i j = (-(atT (qCE W (d + 3) p M ns (qA_ (d + 3) (tri (n + 1) (lwF W n p M ns d))) (M + 1)) i j / ((p ^ M : Nat) : Int))) % W := by
      show (if i + j = d + 2 ∧ 1 ≤ i ∧ i < d + 2 then _ else _) = _
      rw [if_pos ⟨hij, hb⟩]
     have e2 : tyF p M (tyl p M v) (d + 1) i j = -c := by
      show tyF p M (tyl p M v) d i j + tyE p M (tyl p M v) (d + 2) (tyF p M (tyl p M v) d) i j = _
      unfold tyE; rw [qLK p M _ d i j Oo, if_pos hij, hc, ← Int.natCast_pow, Int.mul_ediv_cancel_left _ Oo, Int.zero_add]
     rw [e1, e2]; generalize atT (qCE W (d + 3) p M ns (qA_ (d + 3) (tri (n + 1) (lwF W n p M ns d))) (M + 1)) i j = x at hx rx; rw [hc, ← Int.natCast_pow] at hx; rw [hW] at hx rx ⊢; exact qP7 Oo hP _ Oo rx.1 rx.2 hx
    ·have e1 : lwF W n p M ns (d + 1) i j = 0 := by
      show (if i + j = d + 2 ∧ 1 ≤ i ∧ i < d + 2 then _ else _) = _
      rw [if_neg (fun h => hb h.2)]; exact qIc W n p M ns d i j Oo
     rw [e1]
     by_cases h0 : i = 0
     ·subst h0; rw [qHj Oo, qDY, if_neg Oo]
     ·obtain rfl : j = 0 := Oo; rw [qGs Oo, qD_, if_neg Oo]
   ·have e1 : lwF W n p M ns (d + 1) i j = lwF W n p M ns d i j := by
     show (if i + j = d + 2 ∧ 1 ≤ i ∧ i < d + 2 then _ else _) = _
     rw [if_neg (fun h => hij h.1)]
    rw [e1, qJ9 p M _ d i j hij]; exact ih i j
end
section
open Rg

def cst {T : Type} [Rg T] (a : T) : Nat → T := fun i => if i = 0 then a else zz
def mono {T : Type} [Rg T] (p : Nat) : Nat → T := fun i => if i = p then oo else zz
section gen
variable {T : Type} [Rg T]
theorem qLZ (a b : T) : (ml (cst a) (cst b) : Nat → T) = cst (ml a b) := by
 funext i
 show cv (fun k => if k = 0 then a else zz) (cst b) i = _
 rw [qFX]
 unfold cst
 by_cases h : i = 0
 ·rw [if_pos h, if_pos h]
 ·rw [if_neg h, if_neg h, ml_zz]
theorem qLA (a : T) (k : Nat) : (pw (cst a) k : Nat → T) = cst (pw a k) := by
 induction k with
 | zero => rfl
 | succ k ih => show ml (pw (cst a) k) (cst a) = _; rw [ih, qLZ]; rfl
theorem mono_1 (f : Nat → T) : (ml f (mono 1) : Nat → T) = fun i => if i = 0 then zz else f (i - 1) := by
 funext i
 cases i with
 | zero =>
   show cv f (mono 1) 0 = _
   rw [qE2]
   show ml (f 0) (if 0 = 1 then oo else zz) = _
   rw [if_neg Oo, ml_zz, if_pos rfl]
 | succ i =>
   show cv f (mono 1) (i + 1) = _
   rw [qLo]
   have e : sh (mono 1 : Nat → T) = fun k => if k = 0 then oo else zz := by
    funext k
    show (if k + 1 = 1 then (oo : T) else zz) = _
    by_cases h : k = 0
    ·rw [if_pos Oo, if_pos h]
    ·rw [if_neg Oo, if_neg h]
   rw [e, cv_oo]
   show ad (f i) (ml (f (i + 1)) (if 0 = 1 then oo else zz)) = _
   rw [if_neg Oo, ml_zz, ad_zz, if_neg Oo]; rfl
theorem qOM (k : Nat) : (pw (mono 1) k : Nat → T) = mono k := by
 induction k with
 | zero => rfl
 | succ k ih =>
   show ml (pw (mono 1) k) (mono 1) = _
   rw [ih, mono_1]
   funext i
   show (if i = 0 then zz else if i - 1 = k then (oo : T) else zz) = if i = k + 1 then oo else zz
   by_cases h : i = 0
   ·rw [if_pos h, if_neg Oo]
   ·rw [if_neg h]
    by_cases h' : i = k + 1
    ·rw [if_pos Oo, if_pos h']
    ·rw [if_neg Oo, if_neg h']
theorem qMM (p : Nat) (b : T) (i : Nat) : (ml (mono p) (cst b) : Nat → T) i = if i = p then b else zz := by
 rw [ml_comm]
 show cv (fun k => if k = 0 then b else zz) (mono p) i = _
 rw [qFX]
 show ml b (if i = p then oo else zz) = _
 by_cases h : i = p
 ·rw [if_pos h, if_pos h, ml_oo]
 ·rw [if_neg h, if_neg h, ml_zz]
theorem qF4 {m : Int} {k : Nat} {a : T} (h : lo m k a) : lo m k (cst a) := fun i => by
 by_cases hi : i = 0
 ·subst hi; exact h
 ·show lo m (k - i) (if i = 0 then a else zz)
  rw [if_neg hi]; exact lo_zz _ _
theorem qHl (m : Int) : lo m 1 (mono 1 : Nat → T) := fun i => by
 by_cases hi : i = 0
 ·subst hi
  show lo m 1 (if 0 = 1 then (oo : T) else zz)
  rw [if_neg Oo]; exact lo_zz _ _
 ·rw [show 1 - i = 0 by omega]; exact lo_0 _ _
theorem qNv {n k : Nat} (hk : k < n) (f : Nat → T) : sm n (fun i => if k = i then f i else zz) = f k := by
 induction n with
 | zero => omega
 | succ n ih =>
   show ad (sm n _) (if k = n then f n else zz) = f k
   by_cases h : k = n
   ·subst h; rw [if_pos rfl, qBI (n := k) fun i hi => by rw [if_neg Oo], qBR]
   ·rw [if_neg h, ih Oo, ad_zz]
end gen

def X3 : Nat → Nat → Nat → Int := mono 1
def Y3 : Nat → Nat → Nat → Int := cst xP
def Z3 : Nat → Nat → Nat → Int := cst yP
theorem T3_at (n : Nat) (c : Nat → Nat → Nat → Int) {i : Nat} (hi : i < n) :
  (sm n (fun p => sm n (fun q => sm n (fun k => ml (ic (c p q k)) (ml (pw X3 p) (ml (pw Y3 q) (pw Z3 k)))))) : Nat → Nat → Nat → Int) i = ev2 n (c i) xP yP := by
 rw [qBA]
 have e : ∀ p, (sm n (fun q => sm n (fun k => ml (ic (c p q k)) (ml (pw X3 p) (ml (pw Y3 q) (pw Z3 k))))) : Nat → Nat → Nat → Int) i = if i = p then ev2 n (c p) xP yP else zz := by
  intro p; rw [qBA]
  have e1 : ∀ q, (sm n (fun k => ml (ic (c p q k)) (ml (pw X3 p) (ml (pw Y3 q) (pw Z3 k)))) : Nat → Nat → Nat → Int) i = if i = p then sm n (fun k => ml (ic (c p q k)) (ml (pw xP q) (pw yP k))) else zz := by
   intro q; rw [qBA]
   have e2 : ∀ k, (ml (ic (c p q k)) (ml (pw X3 p) (ml (pw Y3 q) (pw Z3 k))) : Nat → Nat → Nat → Int) i = if i = p then ml (ic (c p q k)) (ml (pw xP q) (pw yP k)) else zz := by
    intro k; rw [qC1]; unfold X3 Y3 Z3; rw [qOM, qLA, qLA, qLZ, qMM]
    by_cases h : i = p
    ·rw [if_pos h, if_pos h]
    ·rw [if_neg h, if_neg h, ml_zz]
   rw [qAC fun k _ => e2 k]
   by_cases h : i = p
   ·rw [if_pos h]; exact qAC fun k _ => by rw [if_pos h]
   ·rw [if_neg h]; exact qBI fun k _ => by rw [if_neg h]
  rw [qAC fun q _ => e1 q]
  by_cases h : i = p
  ·rw [if_pos h, qBJ]; exact qAC fun q _ => by rw [if_pos h]
  ·rw [if_neg h]; exact qBI fun q _ => by rw [if_neg h]
 rw [qAC fun p _ => e p, qNv hi]
theorem qL0 {m : Int} {n : Nat} (h2 : 2 ≤ n) {F : Nat → Nat → Int} (h0 : F 0 0 = 0) (hu : ∀ i, i < n → F i 0 % m = (if i = 1 then 1 else 0) % m) (hs : ∀ i j, i + j < n → F i j % m = F j i % m)
  (ha : eqv m n (ev2 n F (ev2 n F X3 Y3) Z3) (ev2 n F X3 (ev2 n F Y3 Z3))) : Lw m n F := by
 refine ⟨h2, h0, hu, hs, fun p q k hpq => ?_⟩
 have lX : lo m 1 X3 := qHl m
 have lY : lo m 1 Y3 := qF4 (qCP m)
 have lZ : lo m 1 Z3 := qF4 (qCW m)
 have e1 : eqv m n (ev2 n F (ev2 n F X3 Y3) Z3) (sm n (fun i => ml (sm n (fun k => ml (ic (F i k)) (pw Z3 k))) (ev2 n (pw F i) X3 Y3))) :=
  qAm fun i _ => qBh _ (qAQ ((hm2 lX lY).pw F i))
 have e2 : eqv m n (ev2 n F X3 (ev2 n F Y3 Z3)) (sm n (fun p => ml (sm n (fun j => ml (ic (F p j)) (ev2 n (pw F j) Y3 Z3))) (pw X3 p))) :=
  qAm fun p _ => qBj _ (qAm fun j _ => qBh _ (qAQ ((hm2 lY lZ).pw F j)))
 rw [qKR n F (fun i => pw F i)] at e1
 rw [qJW n F (fun i => pw F i)] at e2
 have e := qA2 (qAQ e1) (qA2 ha e2)
 have h := qHo e p
 rw [T3_at n (fun p q k => sm n (fun i => F i k * (pw F i : Nat → Nat → Int) p q)) Oo, T3_at n (fun p q k => sm n (fun j => F p j * (pw F j : Nat → Nat → Int) q k)) Oo] at h
 have h' := qA2 (qAQ (qBe (qDr _) (show n - p ≤ n by omega))) (qA2 h (qBe (qDr _) (show n - p ≤ n by omega)))
 exact qAJ.1 h' q k Oo
end
section
open Rg

def Tf (T : Type) [Rg T] : Prop := ∀ (c : Int) (k : Nat) (x : T), c ≠ 0 → lo 0 k (ml (ic c) x) → lo 0 k x
theorem qII : Tf Int := fun c k x hc h => by
 rcases h with h | h
 ·exact .inl h
 ·have h' : c * x = 0 := Int.zero_dvd.1 h; rcases Int.mul_eq_zero.1 h' with e | e
  ·exact absurd e hc
  ·exact .inr (by rw [e]; exact Int.dvd_refl 0)
theorem qEO {T : Type} [Rg T] (H : Tf T) : Tf (Nat → T) := fun c k x hc h i => by
 have := h i
 rw [qC1] at this
 exact H c (k - i) (x i) hc this
section gen
variable {T : Type} [Rg T] {p : Nat} {l : Nat → Int}
theorem qLb (hp : 2 ≤ p) (l : Nat → Int) (M : Nat) {F e : T} {n : Nat} (hF : lo 0 1 F) (he : lo 0 (n + 1) e) : eqv 0 (n + 2) (LQ p l (M + 1) (ad F e)) (ad (LQ p l (M + 1) F) (ml (ic (l 0)) e)) := by
 unfold LQ
 rw [qAn, qAn]
 have e1 : eqv 0 (n + 2) (sm M (fun k => ml (ic (l (k + 1))) (pw (ad F e) (p ^ (k + 1))))) (sm M (fun k => ml (ic (l (k + 1))) (pw F (p ^ (k + 1))))) := by
  refine qAm fun k _ => qBh _ ?_
  have hq : 2 ≤ p ^ (k + 1) := by
   rw [Nat.pow_succ]; exact Nat.le_trans (show 2 ≤ 1 * p by omega) (Nat.mul_le_mul_right p (Nat.one_le_pow k p Oo))
  obtain ⟨r, hr⟩ : ∃ r, p ^ (k + 1) = r + 2 := ⟨p ^ (k + 1) - 2, Oo⟩; rw [hr]; exact qIO hF he r
 refine qA2 (qAM qAY e1) (qAf ?_)
 rw [Nat.pow_zero, qBO, qBO, ml_ad]
 ac_rfl
theorem qGi (tf : Tf T) (hp : 2 ≤ p) (h0 : l 0 ≠ 0) {M : Nat} {G H : T} (hG : lo 0 1 G) (hH : lo 0 1 H) {n : Nat} (h : eqv 0 n (LQ p l (M + 1) G) (LQ p l (M + 1) H)) : ∀ k, k ≤ n → eqv 0 k G H
 | 0, _ => lo_0 _ _
 | 1, _ => qA2 (qAo hG) (qAQ (qAo hH))
 | k + 2, hk => by
   have ih := qGi tf hp h0 hG hH h (k + 1) Oo; have e : G = ad H (ad G (ng H)) := by rw [show ad H (ad G (ng H)) = ad (ad H (ng H)) G by ac_rfl, qEN, qBR]
   have h1 := qLb hp l M hH (show lo 0 (k + 1) (ad G (ng H)) from ih); rw [← e] at h1; have h2 := qA2 (qAQ h1) (qBe h hk); refine tf (l 0) (k + 2) _ h0 ?_; have h3 : lo 0 (k + 2) (ad (ad (LQ p l (M + 1) H) (ml (ic (l 0)) (ad G (ng H)))) (ng (LQ p l (M + 1) H))) := h2
   rwa [show ad (ad (LQ p l (M + 1) H) (ml (ic (l 0)) (ad G (ng H)))) (ng (LQ p l (M + 1) H)) = ad (ad (LQ p l (M + 1) H) (ng (LQ p l (M + 1) H))) (ml (ic (l 0)) (ad G (ng H))) by ac_rfl, qEN, qBR] at h3
theorem qFa {N n : Nat} (h2 : 2 ≤ n) {F : Nat → Nat → Int} (h : eqv 0 n (LQ p l N F) (ad (LQ p l N xP) (LQ p l N yP))) {a b : T} (ha : lo 0 1 a) (hb : lo 0 1 b) : eqv 0 n (LQ p l N (ev2 n F a b)) (ad (LQ p l N a) (LQ p l N b)) := by
 have hm : Hm 0 n (fun G => ev2 n G a b) := hm2 ha hb
 have t1 := qF1 hm p l N F
 have t2 := qF1 hm p l N xP
 have t3 := qF1 hm p l N yP
 rw [ev2_x h2] at t2
 rw [ev2_y h2] at t3
 have t4 := hm.eqv (nl _) h
 rw [hm.ad] at t4
 exact qA2 (qAQ t1) (qA2 t4 (qAM t2 t3))
end gen
theorem qKC {m : Int} {n : Nat} (F : Nat → Nat → Int) : eqv m n (ev2 n F yP xP) (fun i j => F j i) := by
 refine qAJ.2 fun i j hij => ?_
 rw [qBJ]
 have e1 : (sm n (fun a => sm n (fun b => ml (ic (F a b)) (ml (pw yP a) (pw xP b)))) : Nat → Nat → Int) i j = qA3 n (fun a => qA3 n (fun b => F a b * (if a = j ∧ b = i then 1 else 0))) := by
  rw [qBB, qBA, qBA]; refine qAC fun a _ => ?_
  rw [qBB, qBA, qBA]; refine qAC fun b _ => ?_
  rw [qC_]
  congr 1
  rw [ml_comm, show pw xP b = onx (pw xS b) from (qES _ _).symm, show pw yP a = ony (pw xS a) from (qEZ _ _).symm, qGm, qD9, qD9]; unfold mon
  by_cases ha : a = j
  ·subst ha
   by_cases hb : b = i
   ·subst hb; simp
   ·rw [if_neg (show ¬ i = b from fun e => hb e.symm), if_neg (show ¬ (a = a ∧ b = i) from fun e => hb e.2), Int.zero_mul]
  ·rw [if_neg (show ¬ j = a from fun e => ha e.symm), if_neg (show ¬ (a = j ∧ b = i) from fun e => ha e.1), Int.mul_zero]
 rw [e1, qDs (i := j) Oo (fun a _ hne => qBG fun b _ => by rw [if_neg (fun e => hne e.1), Int.mul_zero]),
  qDs (i := i) Oo (fun b _ hne => by rw [if_neg (fun e => hne e.2), Int.mul_zero]), if_pos ⟨rfl, rfl⟩, Int.mul_one]
theorem lw_log {p M n : Nat} {l : Nat → Int} (hp : 2 ≤ p) (hl : l 0 ≠ 0) (h2 : 2 ≤ n) {F : Nat → Nat → Int} (h0 : F 0 0 = 0) (hu : ∀ i, F i 0 = if i = 1 then 1 else 0)
  (h : eqv 0 n (LQ p l (M + 1) F) (ad (LQ p l (M + 1) xP) (LQ p l (M + 1) yP))) : Lw 0 n F := by
 have lx := qCP 0
 have ly := qCW 0
 have l2 : ∀ {T : Type} [Rg T] {a b : T}, lo 0 1 a → lo 0 1 b → lo 0 1 (ev2 n F a b) := fun ha hb => qGS F h0 (nl _) ha hb
 refine qL0 h2 h0 (fun i _ => by rw [hu i]) ?_ ?_
 ·have h1 := qFa (T := Nat → Nat → Int) h2 h ly lx; rw [ad_comm] at h1; have h3 := qGi (qEO (qEO qII)) hp hl (M := M) (qDB h0) (l2 ly lx) (qA2 h (qAQ h1)) n (nl _); have h4 := qA2 h3 (qKC F); exact fun i j hij => qAJ.1 h4 i j hij
 ·have lX : lo 0 1 X3 := qHl 0; have lY : lo 0 1 Y3 := qF4 (qCP 0); have lZ : lo 0 1 Z3 := qF4 (qCW 0); have a1 := qA2 (qFa h2 h (l2 lX lY) lZ) (qAM (qFa h2 h lX lY) qAY); have a2 := qA2 (qFa h2 h lX (l2 lY lZ)) (qAM qAY (qFa h2 h lY lZ)); rw [ad_assoc] at a1; exact qGi (qEO (qEO (qEO qII))) hp hl (M := M) (l2 (l2 lX lY) lZ) (l2 lX (l2 lY lZ)) (qA2 a1 (qAQ a2)) n (nl _)
theorem Lw.of0 {n : Nat} {F : Nat → Nat → Int} (L : Lw 0 n F) (m : Int) : Lw m n F := by
 refine ⟨L.two, L.zer, fun i hi => ?_, fun i j hij => ?_, fun p q k h => ?_⟩
 ·have := L.un i hi; rw [Int.emod_zero, Int.emod_zero] at this; rw [this]
 ·have := L.sy i j hij; rw [Int.emod_zero, Int.emod_zero] at this; rw [this]
 ·have := L.as p q k h; rw [Int.emod_zero, Int.emod_zero] at this; rw [this]
theorem Lw.congr {m : Int} {n : Nat} {F G : Nat → Nat → Int} (L : Lw m n F) (h0 : G 0 0 = 0) (h : ∀ i j, i + j < n → F i j % m = G i j % m) : Lw m n G := by
 have e := qAJ.2 h
 have h2 := L.two
 have lF : lo m 1 F := qDB L.zer
 have lG : lo m 1 G := qDB h0
 refine ⟨L.two, h0, fun i hi => by rw [← h i 0 Oo]; exact L.un i hi, fun i j hij => by rw [← h i j hij, ← h j i Oo]; exact L.sy i j hij, fun p q k hpq => ?_⟩
 have e1 : sm n (fun i => F i k * (pw F i : Nat → Nat → Int) p q) % m = sm n (fun i => G i k * (pw G i : Nat → Nat → Int) p q) % m := by
  rw [← qBB, ← qBB]; refine qCI fun i hi => ?_
  by_cases hik : i + k < n
  ·exact qAd (h i k hik) (qAJ.1 (qDH e i) p q Oo)
  ·have z1 : (pw F i : Nat → Nat → Int) p q % m = 0 % m := qAJ.1 (qAo (qAu lF i)) p q Oo; have z2 : (pw G i : Nat → Nat → Int) p q % m = 0 % m := qAJ.1 (qAo (qAu lG i)) p q Oo; rw [qAd (rfl : F i k % m = _) z1, qAd (rfl : G i k % m = _) z2, Int.mul_zero, Int.mul_zero]
 have e2 : sm n (fun j => F p j * (pw F j : Nat → Nat → Int) q k) % m = sm n (fun j => G p j * (pw G j : Nat → Nat → Int) q k) % m := by
  rw [← qBB, ← qBB]; refine qCI fun j hj => ?_
  by_cases hjp : p + j < n
  ·exact qAd (h p j hjp) (qAJ.1 (qDH e j) q k Oo)
  ·have z1 : (pw F j : Nat → Nat → Int) q k % m = 0 % m := qAJ.1 (qAo (qAu lF j)) q k Oo; have z2 : (pw G j : Nat → Nat → Int) q k % m = 0 % m := qAJ.1 (qAo (qAu lG j)) q k Oo; rw [qAd (rfl : F p j % m = _) z1, qAd (rfl : G p j % m = _) z2, Int.mul_zero, Int.mul_zero]
 rw [← e1, ← e2]
 exact L.as p q k hpq
end
end Go.Proofs.YtfpphfjlpgefaaaGreat
