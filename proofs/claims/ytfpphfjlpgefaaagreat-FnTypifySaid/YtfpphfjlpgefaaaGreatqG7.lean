/- Lemmas. -/
import Derived.Test.YtfpphfjlpgefaaaGreatqG13
import Derived.Test.YtfpphfjlpgefaaaGreatqG1
set_option linter.unusedSimpArgs false
set_option linter.unusedVariables false
namespace Go.Proofs.YtfpphfjlpgefaaaGreat
section
open Rg

def bin : Nat → Nat → Int
 | 0, 0 => 1
 | 0, _ + 1 => 0
 | n + 1, 0 => 1
 | n + 1, k + 1 => bin n k + bin n (k + 1)
theorem qEF (n : Nat) : bin n 0 = 1 := by cases n <;> rfl
theorem qGb : ∀ (n k : Nat), n < k → bin n k = 0
 | 0, 0, h => absurd h Oo
 | 0, k + 1, _ => rfl
 | n + 1, 0, h => absurd h Oo
 | n + 1, k + 1, h => by show bin n k + bin n (k + 1) = 0; rw [qGb n k Oo, qGb n (k + 1) Oo]; rfl
theorem qF8 (n : Nat) : bin n n = 1 := by
 induction n with
 | zero => rfl
 | succ n ih => show bin n n + bin n (n + 1) = 1; rw [ih, qGb n (n + 1) Oo]; rfl

section gen
variable {T : Type} [Rg T]
theorem qI3 (a b : T) (n : Nat) : pw (ad a b) n = sm (n + 1) (fun k => ml (ic (bin n k)) (ml (pw a k) (pw b (n - k)))) := by
 induction n with
 | zero =>
   show oo = ad zz (ml (ic 1) (ml oo oo))
   rw [qBR, ic_1, ml_oo, ml_oo]
 | succ n ih =>
   show ml (pw (ad a b) n) (ad a b) = _
   rw [ih, ml_ad, qCH, qCH, qAn (n + 1)]
   have e1 : sm (n + 1) (fun k => ml (ic (bin (n + 1) (k + 1))) (ml (pw a (k + 1)) (pw b (n + 1 - (k + 1))))) =
     ad (sm (n + 1) (fun k => ml (ml (ic (bin n k)) (ml (pw a k) (pw b (n - k)))) a)) (sm (n + 1) (fun k => ml (ic (bin n (k + 1))) (ml (pw a (k + 1)) (pw b (n - k))))) := by
    rw [← qDO]; refine qAC fun k hk => ?_
    rw [show bin (n + 1) (k + 1) = bin n k + bin n (k + 1) from rfl, ic_ad, qEv, show n + 1 - (k + 1) = n - k by omega]
    congr 1
    show ml (ic (bin n k)) (ml (ml (pw a k) a) (pw b (n - k))) = _
    ac_rfl
   rw [e1]
   have e2 : sm (n + 1) (fun k => ml (ml (ic (bin n k)) (ml (pw a k) (pw b (n - k)))) b) =
     ad (ml (ic (bin (n + 1) 0)) (ml (pw a 0) (pw b (n + 1 - 0)))) (sm (n + 1) (fun k => ml (ic (bin n (k + 1))) (ml (pw a (k + 1)) (pw b (n - k))))) := by
    rw [qAn n]
    have e3 : sm (n + 1) (fun k => ml (ic (bin n (k + 1))) (ml (pw a (k + 1)) (pw b (n - k)))) = sm n (fun k => ml (ml (ic (bin n (k + 1))) (ml (pw a (k + 1)) (pw b (n - (k + 1))))) b) := by
     show ad (sm n _) (ml (ic (bin n (n + 1))) (ml (pw a (n + 1)) (pw b (n - n)))) = _
     rw [qGb n (n + 1) Oo, ic_0, qBi, ad_zz]; refine qAC fun k hk => ?_
     rw [show n - k = (n - (k + 1)) + 1 by omega]
     show ml (ic (bin n (k + 1))) (ml (pw a (k + 1)) (ml (pw b (n - (k + 1))) b)) = _
     ac_rfl
    rw [e3, qEF, qEF]
    congr 1
    show ml (ml (ic 1) (ml oo (pw b (n - 0)))) b = ml (ic 1) (ml oo (ml (pw b n) b))
    rw [Nat.sub_zero]
    ac_rfl
   rw [e2]
   ac_rfl

theorem ic_pw (c : Int) (k : Nat) : (pw (ic c) k : T) = ic (c ^ k) := by
 induction k with
 | zero => show (oo : T) = _; rw [Int.pow_zero, ic_1]
 | succ k ih => show ml (pw (ic c) k) (ic c) = _; rw [ih, ← ic_ml, Int.pow_succ]
theorem qCl (a : T) (i j : Nat) : pw (pw a i) j = pw a (i * j) := by
 induction j with
 | zero => rfl
 | succ j ih => show ml (pw (pw a i) j) (pw a i) = _; rw [ih, pw_ad]; rfl

theorem qNI {p : Nat} (hp : P4 p) (k : Nat) (a b : T) : eqv (p : Int) k (pw (ad a b) p) (ad (pw a p) (pw b p)) := by
 have h1 : 1 ≤ p := by rcases hp with rfl | rfl | rfl | rfl <;> omega
 obtain ⟨q, rfl⟩ : ∃ q, p = q + 1 := ⟨p - 1, Oo⟩
 rw [qI3, qAn]
 have e1 : ml (ic (bin (q + 1) 0)) (ml (pw a 0) (pw b (q + 1 - 0))) = pw b (q + 1) := by
  rw [qEF, ic_1, qC5]; exact qC5 _
 have e2 : sm (q + 1) (fun i => ml (ic (bin (q + 1) (i + 1))) (ml (pw a (i + 1)) (pw b (q + 1 - (i + 1))))) = ad (sm q (fun i => ml (ic (bin (q + 1) (i + 1))) (ml (pw a (i + 1)) (pw b (q + 1 - (i + 1)))))) (pw a (q + 1)) := by
  show ad _ (ml (ic (bin (q + 1) (q + 1))) (ml (pw a (q + 1)) (pw b (q + 1 - (q + 1))))) = _
  rw [qF8, ic_1, qC5, Nat.sub_self]
  show ad _ (ml (pw a (q + 1)) oo) = _
  rw [ml_oo]
 rw [e1, e2]
 have hd : ∀ i, i < q → ((q + 1 : Nat) : Int) ∣ bin (q + 1) (i + 1) := by
  rcases hp with h | h | h | h
  all_goals
   obtain rfl : q = _ := by first | exact Nat.succ.inj h
   decide
 have e3 : eqv ((q + 1 : Nat) : Int) k (sm q (fun i => ml (ic (bin (q + 1) (i + 1))) (ml (pw a (i + 1)) (pw b (q + 1 - (i + 1)))))) zz := by
  refine qAo (qCD fun i hi => ?_); rw [ml_comm]; exact qBC _ (lo_ic (hd i hi))
 refine qA2 (qAM qAY (qAM e3 qAY)) (qAf ?_)
 rw [qBR, ad_comm]
theorem pw_zz' {p : Nat} (h : 1 ≤ p) : pw (zz : T) p = zz := by
 obtain ⟨q, rfl⟩ : ∃ q, p = q + 1 := ⟨p - 1, Oo⟩
 exact ml_zz _
theorem P4.pos {p : Nat} (hp : P4 p) : 2 ≤ p ∧ p ≤ 7 := by rcases hp with rfl | rfl | rfl | rfl <;> omega
theorem qKx {p : Nat} (hp : P4 p) (k n : Nat) (f : Nat → T) : eqv (p : Int) k (pw (sm n f) p) (sm n (fun i => pw (f i) p)) := by
 induction n with
 | zero => exact qAf (pw_zz' (by have := hp.pos; omega))
 | succ n ih => exact qA2 (qNI hp k _ _) (qAM ih qAY)
theorem qMx {p : Nat} (hp : P4 p) (k n : Nat) (F : Nat → Nat → Int) (a b : T) : eqv (p : Int) k (pw (ev2 n F a b) p) (ev2 n F (pw a p) (pw b p)) := by
 rw [qBJ, qBJ]
 refine qA2 (qKx hp k n _) (qAm fun i _ => qA2 (qKx hp k n _) (qAm fun j _ => ?_))
 rw [qHC, qHC, ic_pw, qCl, qCl, qCl, qCl, Nat.mul_comm i p, Nat.mul_comm j p]
 refine qBj _ (qDp ?_)
 obtain ⟨h, hh⟩ := qGy hp (F i j)
 rw [hh, Int.add_mul_emod_self_left]
theorem qPr {p : Nat} (hp : P4 p) (k n : Nat) (F : Nat → Nat → Int) (a b : T) (e : Nat) : eqv (p : Int) k (pw (ev2 n F a b) (p ^ e)) (ev2 n F (pw a (p ^ e)) (pw b (p ^ e))) := by
 induction e with
 | zero => rw [Nat.pow_zero, qBO, qBO, qBO]; exact qAY
 | succ e ih =>
   rw [Nat.pow_succ, ← qCl, ← qCl, ← qCl]; exact qA2 (qDH ih p) (qMx hp k n F _ _)
end gen

theorem qD9 : ∀ i, pw xS i = mon i 1 := by
 intro i
 induction i with
 | zero => funext k; show (oo : Nat → Int) k = _; rfl
 | succ i ih =>
   show ml (pw xS i) xS = _
   rw [ih]
   funext k
   rw [qE8]; unfold conv
   by_cases hk : k = i + 1
   ·subst hk; rw [qDs (i := i) Oo fun j hj hne => by unfold mon; rw [if_neg hne, Int.zero_mul]]; unfold mon xS mon; simp
   ·rw [qBG fun j hj => ?_]
    ·unfold mon; rw [if_neg hk]
    ·unfold mon xS mon
     by_cases hji : j = i
     ·subst hji; rw [if_neg (show ¬ k - j = 1 by omega), Int.mul_zero]
     ·rw [if_neg hji, Int.zero_mul]
theorem qPa {q r : Int} {k : Nat} {x y : Int} (hx : lo q k x) (hy : lo r k y) : lo (q * r) k (ml x y) := by
 rcases hx with h | h
 ·exact .inl h
 ·rcases hy with h' | h'
  ·exact .inl h'
  ·exact .inr (Int.mul_dvd_mul h h')
theorem qKe {T : Type} [Rg T] (H : ∀ {q r : Int} {k : Nat} {x y : T}, lo q k x → lo r k y → lo (q * r) k (ml x y)) {q r : Int} {k : Nat} {x y : Nat → T} (hx : lo q k x) (hy : lo r k y) : lo (q * r) k (ml x y) :=
 fun i => qCD fun l hl => H (lo_le (hx l) Oo) (lo_le (hy (i - l)) Oo)
theorem lo2 {q r : Int} {k : Nat} {x y : Nat → Nat → Int} (hx : lo q k x) (hy : lo r k y) : lo (q * r) k (ml x y) := qKe (fun a b => qKe qPa a b) hx hy
theorem qOV {q r : Int} {k : Nat} {x : Int} (hd : q ∣ r) (hx : lo r k x) : lo q k x := by
 rcases hx with h | h
 ·exact .inl h
 ·exact .inr (Int.dvd_trans hd h)
theorem lod {q r : Int} {k : Nat} {x : Nat → Nat → Int} (hd : q ∣ r) (hx : lo r k x) : lo q k x := fun i j => qOV hd (hx i j)
theorem eqd {q r : Int} {k : Nat} {x y : Nat → Nat → Int} (hd : q ∣ r) (hx : eqv r k x y) : eqv q k x y := lod hd hx
theorem qDg {m : Int} {k : Nat} {F : Nat → Nat → Int} : lo m k F ↔ ∀ i j, i + j < k → m ∣ F i j := by
 constructor
 ·intro h i j hij; rcases h i j with e | e
  ·omega
  ·exact e
 ·intro h i j
  by_cases hij : i + j < k
  ·exact .inr (h i j hij)
  ·exact .inl Oo
theorem qC_ (c : Int) (F : Nat → Nat → Int) (i j : Nat) : (ml (ic c) F : Nat → Nat → Int) i j = c * F i j := by
 rw [qC1, qC1]; rfl
theorem qQn {q r : Int} (hq : q ≠ 0) {k : Nat} {F : Nat → Nat → Int} (h : lo (q * r) k (ml (ic q) F)) : lo r k F := qDg.2 fun i j hij => by
 have := qDg.1 h i j hij
 rw [qC_] at this
 obtain ⟨c, hc⟩ := this
 refine ⟨c, ?_⟩
 rw [Int.mul_assoc] at hc
 exact Int.eq_of_mul_eq_mul_left hq hc

theorem qKJ {p : Nat} (hp : P4 p) {q : Int} (hq : (p : Int) ∣ q) {k : Nat} {a b : Nat → Nat → Int} (h : eqv q k a b) : eqv (q * p) k (pw a p) (pw b p) := by
 have h2 := hp.pos
 obtain ⟨u, hu⟩ : ∃ u, u = ad a (ng b) := ⟨_, rfl⟩
 have hlu : lo q k u := by rw [hu]; exact h
 have ea : a = ad u b := by rw [hu, ad_assoc, qFt, ad_zz]
 obtain ⟨r, rfl⟩ : ∃ r, p = r + 2 := ⟨p - 2, Oo⟩
 rw [ea, qI3, qAn, qAn]
 have e1 : ml (ic (bin (r + 2) 0)) (ml (pw u 0) (pw b (r + 2 - 0))) = pw b (r + 2) := by
  rw [qEF, ic_1, qC5]; exact qC5 _
 rw [e1]
 refine qA2 (qAM qAY (qAo (lo_ad ?_ (qCD fun i hi => ?_)))) (qAf (ad_zz _))
 ·have hb : bin (r + 2) (0 + 1) = ((r + 2 : Nat) : Int) := by
   rcases hp with h | h | h | h
   all_goals
    obtain rfl : r = _ := by first | exact Nat.succ.inj (Nat.succ.inj h)
    rfl
  rw [hb]; have l1 : lo ((r + 2 : Nat) : Int) k (ic ((r + 2 : Nat) : Int) : Nat → Nat → Int) := lo_ic (Int.dvd_refl _); have l2 : lo q k (pw u (0 + 1)) := by rw [qBO]; exact hlu
  have := lo2 l2 l1; rw [show ml (ic ((r + 2 : Nat) : Int)) (ml (pw u (0 + 1)) (pw b (r + 2 - (0 + 1)))) = ml (pw b (r + 2 - (0 + 1))) (ml (pw u (0 + 1)) (ic ((r + 2 : Nat) : Int))) by ac_rfl]; exact qBC _ this
 ·have l2 := lo2 hlu hlu; have l3 : lo (q * ((r + 2 : Nat) : Int)) k (ml u u) := lod (Int.mul_dvd_mul (Int.dvd_refl _) hq) l2; rw [show i + 1 + 1 = i + 2 from rfl, show pw u (i + 2) = ml (ml (pw u i) u) u from rfl]; rw [show ml (ic (bin (r + 2) (i + 2))) (ml (ml (ml (pw u i) u) u) (pw b (r + 2 - (i + 2)))) = ml (ml (ic (bin (r + 2) (i + 2))) (ml (pw u i) (pw b (r + 2 - (i + 2))))) (ml u u) by ac_rfl]; exact qBC _ l3
theorem qQy {p : Nat} (hp : P4 p) {k : Nat} {a b : Nat → Nat → Int} (h : eqv (p : Int) k a b) (e : Nat) : eqv ((p : Int) ^ (e + 1)) k (pw a (p ^ e)) (pw b (p ^ e)) := by
 induction e with
 | zero => rw [Nat.pow_zero, qBO, qBO]; rw [show ((p : Int) ^ (0 + 1)) = p by rw [Int.pow_succ, Int.pow_zero, Int.one_mul]]; exact h
 | succ e ih =>
   rw [Nat.pow_succ, ← qCl, ← qCl, Int.pow_succ]; refine qKJ hp ?_ ih; exact ⟨(p : Int) ^ e, by rw [Int.pow_succ, Int.mul_comm]⟩
end
section
open Rg

def xP : Nat → Nat → Int := onx xS
def yP : Nat → Nat → Int := ony xS
theorem qCP (m : Int) : lo m 1 xP := qFd (by rfl)
theorem qCW (m : Int) : lo m 1 yP := qFF (by rfl)

section gen
variable {T : Type} [Rg T]
theorem qFR {m : Int} {r : Nat} {a : T} (h : lo m r a) (k : Nat) : lo m (r * k) (pw a k) := by
 induction k with
 | zero => exact lo_0 _ _
 | succ k ih => exact lo_ml ih h
def LQ (p : Nat) (l : Nat → Int) (n : Nat) (H : T) : T := sm n (fun k => ml (ic (l k)) (pw H (p ^ k)))
theorem qIC (p M : Nat) (l ν : Nat → Int) (hν : ∀ k, k < M → (p : Int) * l (k + 1) = sm (k + 1) (fun j => ν j * l (k - j))) (H : T) :
  ml (ic (p : Int)) (LQ p l (M + 1) H) = ad (ml (ic ((p : Int) * l 0)) H) (sm M (fun j => ml (ic (ν j)) (LQ p l (M - j) (pw H (p ^ (j + 1)))))) := by
 unfold LQ
 rw [qAn, ml_ad]
 congr 1
 ·rw [Nat.pow_zero, qBO, ← ml_assoc, ← ic_ml]
 ·rw [qCk]
  have e : ∀ k, k < M → ml (ic (p : Int)) (ml (ic (l (k + 1))) (pw H (p ^ (k + 1)))) = sm (k + 1) (fun j => (fun j i => ml (ic (ν j)) (ml (ic (l i)) (pw (pw H (p ^ (j + 1))) (p ^ i)))) j (k - j)) := by
   intro k hk; rw [← ml_assoc, ← ic_ml, hν k hk, qGI, qCH]; refine qAC fun j hj => ?_
   show ml (ic (ν j * l (k - j))) _ = ml (ic (ν j)) (ml (ic (l (k - j))) (pw (pw H (p ^ (j + 1))) (p ^ (k - j))))
   rw [ic_ml, ml_assoc, qCl, ← Nat.pow_add, show j + 1 + (k - j) = k + 1 by omega]
  rw [qAC e, qKc M (fun j i => ml (ic (ν j)) (ml (ic (l i)) (pw (pw H (p ^ (j + 1))) (p ^ i))))]; exact qAC fun j _ => by rw [qCk]
theorem qF1 {S : Type} [Rg S] {m : Int} {n : Nat} {φ : S → T} (h : Hm m n φ) (p : Nat) (l : Nat → Int) (k : Nat) (H : S) : eqv m n (φ (LQ p l k H)) (LQ p l k (φ H)) := by
 unfold LQ
 rw [h.sm]
 exact qAm fun i _ => qA2 (h.ml _ _) (qFA (h.ic _) (h.pw _ _))
theorem qH3 {m : Int} {p M : Nat} (hp : 2 ≤ p) (l : Nat → Int) {j n : Nat} (hj : j < M) (hn : n ≤ p ^ (M + 1)) {H : T} (h : lo m (p ^ (j + 1)) H) : eqv m n (LQ p l (M + 1) H) (LQ p l (M - j) H) := by
 unfold LQ
 rw [show M + 1 = (M - j) + (j + 1) by omega, qG0]
 refine qA2 (qAM qAY (qAo (qCD fun i hi => ?_))) (qAf (ad_zz _))
 refine qBC _ (lo_le (qFR h _) (Nat.le_trans hn ?_))
 rw [← Nat.pow_add]
 exact Nat.pow_le_pow_right Oo Oo
end gen

theorem ev2_x {T : Type} [Rg T] {n : Nat} (h2 : 2 ≤ n) (a b : T) : ev2 n xP a b = a := by
 rw [qBJ]
 have e : ∀ i, i < n → sm n (fun j => ml (ic (xP i j)) (ml (pw a i) (pw b j))) = ml (ic (if i = 1 then 1 else 0)) (pw a i) := by
  intro i hi; obtain ⟨r, rfl⟩ : ∃ r, n = r + 1 := ⟨n - 1, Oo⟩; rw [qAn, qBI fun j _ => by show ml (ic (xP i (j + 1))) _ = zz; rw [show xP i (j + 1) = 0 from rfl, ic_0, qBi], ad_zz]
  show ml (ic (xP i 0)) (ml (pw a i) oo) = _
  rw [ml_oo]; rfl
 rw [qAC e, qGF h2 (fun i => pw a i), qBO]
theorem ev2_y {T : Type} [Rg T] {n : Nat} (h2 : 2 ≤ n) (a b : T) : ev2 n yP a b = b := by
 rw [qBJ]
 obtain ⟨r, rfl⟩ : ∃ r, n = r + 1 := ⟨n - 1, Oo⟩
 rw [qAn, qBI fun i _ => qBI fun j _ => by show ml (ic (yP (i + 1) j)) _ = zz; rw [show yP (i + 1) j = 0 from rfl, ic_0, qBi], ad_zz]
 have e : ∀ j, j < r + 1 → ml (ic (yP 0 j)) (ml (pw a 0) (pw b j)) = ml (ic (if j = 1 then 1 else 0)) (pw b j) := by
  intro j hj
  show ml (ic (yP 0 j)) (ml oo (pw b j)) = _
  rw [qC5]; rfl
 rw [qAC e, qGF h2 (fun i => pw b i), qBO]
theorem qD_ (i j : Nat) : xP i j = if i = 1 ∧ j = 0 then 1 else 0 := by
 unfold xP onx xS mon
 by_cases hj : j = 0
 ·by_cases hi : i = 1
  ·rw [if_pos hj, if_pos hi, if_pos ⟨hi, hj⟩]
  ·rw [if_pos hj, if_neg hi, if_neg (fun e => hi e.1)]
 ·rw [if_neg hj, if_neg (fun e => hj e.2)]
theorem qDY (i j : Nat) : yP i j = if i = 0 ∧ j = 1 then 1 else 0 := by
 unfold yP ony xS mon
 by_cases hi : i = 0
 ·by_cases hj : j = 1
  ·rw [if_pos hi, if_pos hj, if_pos ⟨hi, hj⟩]
  ·rw [if_pos hi, if_neg hj, if_neg (fun e => hj e.2)]
 ·rw [if_neg hi, if_neg (fun e => hi e.1)]
theorem qQ1 {T : Type} [Rg T] {n N : Nat} (h1 : 1 ≤ n) {G : Nat → Nat → Int} (hG : lo 0 n G) {m : Int} {a b : T} (ha : lo m 2 a) (hb : lo m 2 b) : lo m (n + 1) (ev2 N G a b) := by
 rw [qBJ]
 refine qCD fun i _ => qCD fun j _ => ?_
 by_cases h : i + j < n
 ·have := qDg.1 hG i j h; rw [Int.zero_dvd.1 this, ic_0, qBi]; exact lo_zz _ _
 ·exact qBC _ (lo_le (lo_ml (qFR ha i) (qFR hb j)) Oo)
theorem qMb {T : Type} [Rg T] {N q : Nat} {F : Nat → Nat → Int} (h0 : F 0 0 = 0) {m : Int} {a b : T} (ha : lo m q a) (hb : lo m q b) : lo m q (ev2 N F a b) := by
 rw [qBJ]
 refine qCD fun i _ => qCD fun j _ => ?_
 by_cases h : i = 0 ∧ j = 0
 ·rw [h.1, h.2, h0, ic_0, qBi]; exact lo_zz _ _
 ·refine qBC _ (lo_le (lo_ml (qFR ha i) (qFR hb j)) ?_); rw [← Nat.mul_add]; exact Nat.le_mul_of_pos_right q Oo
theorem qDr {m : Int} {n : Nat} (F : Nat → Nat → Int) : eqv m n (ev2 n F xP yP) F := by
 refine qAJ.2 fun i j hij => ?_
 rw [qBJ]
 have e1 : (sm n (fun a => sm n (fun b => ml (ic (F a b)) (ml (pw xP a) (pw yP b)))) : Nat → Nat → Int) i j = qA3 n (fun a => qA3 n (fun b => F a b * (if a = i ∧ b = j then 1 else 0))) := by
  rw [qBB, qBA, qBA]; refine qAC fun a _ => ?_
  rw [qBB, qBA, qBA]; refine qAC fun b _ => ?_
  rw [qC_]
  congr 1
  rw [show pw xP a = onx (pw xS a) from (qES _ _).symm, show pw yP b = ony (pw xS b) from (qEZ _ _).symm, qGm, qD9, qD9]; unfold mon
  by_cases ha : a = i
  ·subst ha
   by_cases hb : b = j
   ·subst hb; simp
   ·rw [if_neg (show ¬ j = b from fun e => hb e.symm), if_neg (show ¬ (a = a ∧ b = j) from fun e => hb e.2), Int.mul_zero]
  ·rw [if_neg (show ¬ i = a from fun e => ha e.symm), if_neg (show ¬ (a = i ∧ b = j) from fun e => ha e.1), Int.zero_mul]
 rw [e1, qDs (i := i) Oo (fun a _ hne => qBG fun b _ => by rw [if_neg (fun e => hne e.1), Int.mul_zero]),
  qDs (i := j) Oo (fun b _ hne => by rw [if_neg (fun e => hne e.2), Int.mul_zero]), if_pos ⟨rfl, rfl⟩, Int.mul_one]

section typ
variable {p M : Nat} {l ν : Nat → Int}
structure TyL (p M : Nat) (l ν : Nat → Int) : Prop where
 pr : P4 p
 one : l 0 = (p : Int) ^ M
 dvd : ∀ k, k ≤ M → (p : Int) ^ (M - k) ∣ l k
 fe : ∀ k, k < M → (p : Int) * l (k + 1) = sm (k + 1) (fun j => ν j * l (k - j))

def DP (p M : Nat) (l : Nat → Int) (F : Nat → Nat → Int) : Nat → Nat → Int := ad (LQ p l (M + 1) F) (ng (ad (LQ p l (M + 1) xP) (LQ p l (M + 1) yP)))

theorem qJo {q r c : Int} (hc : q ∣ c) {k : Nat} {a b : Nat → Nat → Int} (h : eqv r k a b) : eqv (q * r) k (ml (ic c) a) (ml (ic c) b) := by
 have := lo2 (lo_ic hc : lo q k (ic c : Nat → Nat → Int)) h
 rwa [ml_ad, qFb] at this
theorem qLk (H : TyL p M l ν) {n : Nat} (h1 : 1 ≤ n) (hn : n + 1 ≤ p ^ (M + 1)) {F : Nat → Nat → Int} (h0 : F 0 0 = 0) (hD : lo 0 n (DP p M l F)) : lo ((p : Int) ^ M) (n + 1) (DP p M l F) := by
 have hp2 := H.pr.pos
 have hN2 : 2 ≤ n + 1 := Oo
 have hW : ((p : Int) ^ (M + 1)) ∣ 0 := Int.dvd_zero _
 -- one summand of the functional equation
 have key : ∀ j, j < M → eqv ((p : Int) ^ (M + 1)) (n + 1) (LQ p l (M - j) (pw F (p ^ (j + 1)))) (ad (LQ p l (M - j) (pw xP (p ^ (j + 1)))) (LQ p l (M - j) (pw yP (p ^ (j + 1))))) := by
  intro j hj
  have hq : 2 ≤ p ^ (j + 1) := by
   rw [Nat.pow_succ]; have := Nat.one_le_pow j p Oo; exact Nat.le_trans (show 2 ≤ 1 * p by omega) (Nat.mul_le_mul_right p this)
  have lX : lo 0 (p ^ (j + 1)) (pw xP (p ^ (j + 1))) := by have := qAu (qCP 0) (p ^ (j + 1)); exact this
  have lY : lo 0 (p ^ (j + 1)) (pw yP (p ^ (j + 1))) := by have := qAu (qCW 0) (p ^ (j + 1)); exact this
  obtain ⟨Φ, hΦ⟩ : ∃ Φ, Φ = ev2 (n + 1) F (pw xP (p ^ (j + 1))) (pw yP (p ^ (j + 1))) := ⟨_, rfl⟩; have lΦ : lo 0 (p ^ (j + 1)) Φ := by rw [hΦ]; exact qMb h0 lX lY
  have s1 : eqv (p : Int) (n + 1) (pw F (p ^ (j + 1))) Φ := by
   rw [hΦ]; exact qA2 (qDH (qAQ (qDr F)) _) (qPr H.pr (n + 1) (n + 1) F xP yP (j + 1))
  have s2 : eqv ((p : Int) ^ (M + 1)) (n + 1) (LQ p l (M - j) (pw F (p ^ (j + 1)))) (LQ p l (M - j) Φ) := by
   refine qAm fun i hi => ?_
   have := qJo (H.dvd i Oo) (qQy H.pr s1 i)
   rwa [← Int.pow_add, show M - i + (i + 1) = M + 1 by omega] at this
  have hm : Hm 0 (n + 1) (fun G => ev2 (n + 1) G (pw xP (p ^ (j + 1))) (pw yP (p ^ (j + 1)))) := hm2 (lo_le lX Oo) (lo_le lY Oo)
  have s3 : eqv 0 (n + 1) (LQ p l (M + 1) Φ) (ad (LQ p l (M + 1) (pw xP (p ^ (j + 1)))) (LQ p l (M + 1) (pw yP (p ^ (j + 1))))) := by
   have t1 := qF1 hm p l (M + 1) F; have t2 := qF1 hm p l (M + 1) xP; have t3 := qF1 hm p l (M + 1) yP; rw [← hΦ] at t1; rw [ev2_x hN2] at t2; rw [ev2_y hN2] at t3; have t4 := qQ1 (N := n + 1) h1 hD (lo_le lX hq) (lo_le lY hq); have t5 := hm.ad (LQ p l (M + 1) F) (ng (ad (LQ p l (M + 1) xP) (LQ p l (M + 1) yP))); have t6 := hm.ng (ad (LQ p l (M + 1) xP) (LQ p l (M + 1) yP)); have t7 := hm.ad (LQ p l (M + 1) xP) (LQ p l (M + 1) yP); unfold DP at t4; rw [t5, t6, t7] at t4; exact qA2 (qAQ t1) (qA2 t4 (qAM t2 t3))
  refine qA2 s2 (eqd hW ?_); exact qA2 (qAQ (qH3 hp2.1 l hj hn lΦ)) (qA2 s3 (qAM (qH3 hp2.1 l hj hn lX) (qH3 hp2.1 l hj hn lY)))
 have hp0 : (p : Int) ≠ 0 := Oo
 refine qQn hp0 ?_
 unfold DP
 rw [ml_ad, qFb, ml_ad, qIC p M l ν H.fe, qIC p M l ν H.fe, qIC p M l ν H.fe, H.one, show (p : Int) * (p : Int) ^ M = (p : Int) ^ (M + 1) by rw [Int.pow_succ, Int.mul_comm]]
 have z : ∀ X : Nat → Nat → Int, eqv ((p : Int) ^ (M + 1)) (n + 1) (ml (ic ((p : Int) ^ (M + 1))) X) zz := fun X => qAo (by rw [ml_comm]; exact qBC _ (lo_ic (Int.dvd_refl _)))
 show eqv _ _ _ _
 refine qA2 (qAM (z _) (qAm fun j hj => qBh _ (key j hj))) ?_
 refine qAQ (qA2 (qAM (qAM (z _) qAY) (qAM (z _) qAY)) (qAf ?_))
 rw [qBR, qBR, qBR, ← qDO]
 exact qAC fun j _ => (ml_ad _ _ _).symm

def tyE (p M : Nat) (l : Nat → Int) (n : Nat) (F : Nat → Nat → Int) : Nat → Nat → Int := fun i j => if i + j = n then -(DP p M l F i j / (p : Int) ^ M) else 0
def tyF (p M : Nat) (l : Nat → Int) : Nat → Nat → Nat → Int
 | 0 => ad xP yP
 | k + 1 => ad (tyF p M l k) (tyE p M l (k + 2) (tyF p M l k))
theorem qLK (p M : Nat) (l : Nat → Int) : ∀ (k i j : Nat), k + 2 ≤ i + j → tyF p M l k i j = 0
 | 0, i, j, h => by
   show xP i j + yP i j = 0
   rw [qD_, qDY, if_neg Oo, if_neg Oo]; rfl
 | k + 1, i, j, h => by
   show tyF p M l k i j + tyE p M l (k + 2) (tyF p M l k) i j = 0
   rw [qLK p M l k i j Oo]; unfold tyE; rw [if_neg Oo]; rfl
theorem qJ9 (p M : Nat) (l : Nat → Int) (k i j : Nat) (h : i + j ≠ k + 2) : tyF p M l (k + 1) i j = tyF p M l k i j := by
 show tyF p M l k i j + tyE p M l (k + 2) (tyF p M l k) i j = _
 unfold tyE
 rw [if_neg h, Int.add_zero]
theorem qEk (p M : Nat) (l : Nat → Int) : ∀ k, tyF p M l k 0 0 = 0
 | 0 => rfl
 | k + 1 => by rw [qJ9 p M l k 0 0 Oo]; exact qEk p M l k
theorem qDB {m : Int} {F : Nat → Nat → Int} (h : F 0 0 = 0) : lo m 1 F := qDg.2 fun i j hij => by
 rw [show i = 0 by omega, show j = 0 by omega, h]; exact Int.dvd_zero _
theorem qQF (hp : 2 ≤ p) (l : Nat → Int) (M : Nat) {F e : Nat → Nat → Int} {n : Nat} (hF : lo 0 1 F) (he : lo 0 (n + 1) e) : eqv 0 (n + 2) (LQ p l (M + 1) (ad F e)) (ad (LQ p l (M + 1) F) (ml (ic (l 0)) e)) := by
 unfold LQ
 rw [qAn, qAn]
 have e1 : eqv 0 (n + 2) (sm M (fun k => ml (ic (l (k + 1))) (pw (ad F e) (p ^ (k + 1))))) (sm M (fun k => ml (ic (l (k + 1))) (pw F (p ^ (k + 1))))) := by
  refine qAm fun k _ => qBh _ ?_
  have hq : 2 ≤ p ^ (k + 1) := by
   rw [Nat.pow_succ]; exact Nat.le_trans (show 2 ≤ 1 * p by omega) (Nat.mul_le_mul_right p (Nat.one_le_pow k p Oo))
  obtain ⟨r, hr⟩ : ∃ r, p ^ (k + 1) = r + 2 := ⟨p ^ (k + 1) - 2, Oo⟩; rw [hr]; exact qIO hF he r
 refine qA2 (qAM qAY e1) (qAf ?_)
 rw [Nat.pow_zero, qBO, qBO, ml_ad]
 ac_rfl
theorem qHY (H : TyL p M l ν) : ∀ k, k + 2 ≤ p ^ (M + 1) → lo 0 (k + 2) (DP p M l (tyF p M l k))
 | 0, _ => by
   have hp2 := H.pr.pos
   have h : ∀ X : Nat → Nat → Int, lo 0 1 X → eqv 0 2 (LQ p l (M + 1) X) (ml (ic (l 0)) X) := by
    intro X hX; unfold LQ; rw [qAn, Nat.pow_zero, qBO]; refine qA2 (qAM qAY (qAo (qCD fun k _ => qBC _ (lo_le (qAu hX _) ?_)))) (qAf (ad_zz _)); rw [Nat.pow_succ]; exact Nat.le_trans (show 2 ≤ 1 * p by omega) (Nat.mul_le_mul_right p (Nat.one_le_pow k p Oo))
   show eqv 0 2 (LQ p l (M + 1) (ad xP yP)) (ad (LQ p l (M + 1) xP) (LQ p l (M + 1) yP))
   refine qA2 (h _ (lo_ad (qCP 0) (qCW 0))) ?_; rw [ml_ad]; exact qAQ (qAM (h _ (qCP 0)) (h _ (qCW 0)))
 | k + 1, hk => by
   have ih := qHY H k Oo; have hd := qLk H (show 1 ≤ k + 2 by omega) Oo (qEk p M l k) ih
   have he : lo 0 (k + 1 + 1) (tyE p M l (k + 2) (tyF p M l k)) := qDg.2 fun i j hij => by
    unfold tyE; rw [if_neg Oo]; exact Int.dvd_zero _
   have h1 := qQF H.pr.pos.1 l M (qDB (qEk p M l k)) he
   show eqv 0 (k + 3) (LQ p l (M + 1) (ad (tyF p M l k) (tyE p M l (k + 2) (tyF p M l k)))) (ad (LQ p l (M + 1) xP) (LQ p l (M + 1) yP))
   refine qA2 h1 (qAJ.2 fun i j hij => ?_)
   show (LQ p l (M + 1) (tyF p M l k) i j + (ml (ic (l 0)) (tyE p M l (k + 2) (tyF p M l k)) : Nat → Nat → Int) i j) % 0 = _
   rw [qC_, H.one]
   have hD : DP p M l (tyF p M l k) i j = LQ p l (M + 1) (tyF p M l k) i j - (ad (LQ p l (M + 1) xP) (LQ p l (M + 1) yP) : Nat → Nat → Int) i j := by
    show LQ p l (M + 1) (tyF p M l k) i j + (ng (ad (LQ p l (M + 1) xP) (LQ p l (M + 1) yP)) : Nat → Nat → Int) i j = _
    rw [qE7, qE7]
    show _ + (-1) * _ = _
    omega
   by_cases h : i + j = k + 2
   ·obtain ⟨c, hc⟩ := qDg.1 hd i j Oo; unfold tyE; rw [if_pos h, hc]
    have hpM : (p : Int) ^ M ≠ 0 := by
     have := H.pr.pos; exact Int.pow_ne_zero Oo
    rw [Int.mul_ediv_cancel_left _ hpM]; rw [hD] at hc
    congr 1
    rw [Int.mul_neg]; omega
   ·have h0 := qDg.1 ih i j Oo; rw [Int.zero_dvd, hD] at h0; unfold tyE; rw [if_neg h, Int.mul_zero]
    congr 1
    omega
end typ
end
section
open Rg

theorem qDt (x : Int) : x ^ 1 = x := by rw [Int.pow_succ, Int.pow_zero, Int.one_mul]
def qDq (p : Nat) (v : Nat → Int) : Nat → Li
 | 0 => [1]
 | k + 1 => qDq p v k ++ [qA3 (k + 1) (fun i => (p : Int) ^ (k - i) * at0 (qDq p v k) i * v (k - i) ^ (p ^ i))]
def num (p : Nat) (v : Nat → Int) (k : Nat) : Int := at0 (qDq p v k) k
theorem qJn (p : Nat) (v : Nat → Int) (k : Nat) : (qDq p v k).length = k + 1 := by
 induction k with
 | zero => rfl
 | succ k ih => show (qDq p v k ++ [_]).length = _; rw [List.length_append, ih]; rfl
theorem qH_ {a b : Li} {k : Nat} (h : k < a.length) : at0 (a ++ b) k = at0 a k := by
 unfold at0 List.getD; rw [List.getElem?_append_left h]
theorem qJd {a : Li} {x : Int} : at0 (a ++ [x]) a.length = x := by
 unfold at0 List.getD; rw [List.getElem?_append_right (Nat.le_refl _)]; simp
theorem qKW (p : Nat) (v : Nat → Int) : ∀ (n k : Nat), k ≤ n → at0 (qDq p v n) k = num p v k
 | 0, k, h => by
   obtain rfl : k = 0 := Oo
   rfl
 | n + 1, k, h => by
   by_cases hk : k ≤ n
   ·rw [← qKW p v n k hk]
    show at0 (qDq p v n ++ [_]) k = _
    exact qH_ (by rw [qJn]; omega)
   ·obtain rfl : k = n + 1 := Oo
    rfl
theorem qCu (p : Nat) (v : Nat → Int) : num p v 0 = 1 := rfl
theorem qDw (p : Nat) (v : Nat → Int) (k : Nat) : num p v (k + 1) = qA3 (k + 1) (fun i => (p : Int) ^ (k - i) * num p v i * v (k - i) ^ (p ^ i)) := by
 unfold num
 show at0 (qDq p v k ++ [_]) (k + 1) = _
 have h := qJn p v k
 rw [← h, qJd, h]
 exact qC8 fun i hi => by rw [qKW p v k i Oo]; rfl
theorem qFf (p : Nat) (v : Nat → Int) : num p v 1 = v 0 := by
 rw [qDw]
 show 0 + (p : Int) ^ 0 * num p v 0 * v 0 ^ (p ^ 0) = _
 rw [qCu, Nat.pow_zero, Int.pow_zero, qDt]
 simp
theorem num_2 (p : Nat) (v : Nat → Int) : num p v 2 = p * v 1 + v 0 * v 0 ^ p := by
 rw [qDw]
 show 0 + (p : Int) ^ 1 * num p v 0 * v 1 ^ (p ^ 0) + (p : Int) ^ 0 * num p v 1 * v 0 ^ (p ^ 1) = _
 rw [qCu, qFf, Nat.pow_zero, Int.pow_zero, Nat.pow_one, qDt, qDt]
 simp
theorem num_3 (p : Nat) (v : Nat → Int) : num p v 3 = (p : Int) ^ 2 * v 2 + p * v 0 * v 1 ^ p + num p v 2 * v 0 ^ (p ^ 2) := by
 rw [qDw]
 show 0 + (p : Int) ^ 2 * num p v 0 * v 2 ^ (p ^ 0) + (p : Int) ^ 1 * num p v 1 * v 1 ^ (p ^ 1) + (p : Int) ^ 0 * num p v 2 * v 0 ^ (p ^ 2) = _
 rw [qCu, qFf, Nat.pow_zero, Int.pow_zero, Nat.pow_one, qDt, qDt]
 simp

def Most (p M : Nat) : Prop := P4 p ∧ M ≤ 3 ∧ (3 ≤ p → M ≤ 2) ∧ (5 ≤ p → M ≤ 1)
def tyl (p M : Nat) (v : Nat → Int) (k : Nat) : Int := (p : Int) ^ (M - k) * num p v k
theorem qKb {p M : Nat} (h : Most p M) (v : Nat → Int) : ∃ ν, TyL p M (tyl p M v) ν := by
 obtain ⟨hp, h3, h2, h1⟩ := h
 obtain ⟨e, he⟩ := qGy hp (v 0)
 have key : ∃ ν : Nat → Int, ∀ k, k < M → num p v (k + 1) = sm (k + 1) (fun j => (p : Int) ^ j * ν j * num p v (k - j)) := by
  have k0 : ∀ ν : Nat → Int, ν 0 = v 0 → num p v (0 + 1) = sm (0 + 1) (fun j => (p : Int) ^ j * ν j * num p v (0 - j)) := by
   intro ν h0
   show num p v 1 = 0 + (p : Int) ^ 0 * ν 0 * num p v 0
   rw [qFf, qCu, h0, Int.pow_zero]; omega
  have k1 : ∀ ν : Nat → Int, ν 0 = v 0 → ν 1 = v 1 + v 0 * e → num p v (1 + 1) = sm (1 + 1) (fun j => (p : Int) ^ j * ν j * num p v (1 - j)) := by
   intro ν h0 h1
   show num p v 2 = 0 + (p : Int) ^ 0 * ν 0 * num p v 1 + (p : Int) ^ 1 * ν 1 * num p v 0
   rw [num_2, qFf, qCu, h0, h1, he, Int.pow_zero]
   grind
  by_cases hM : M ≤ 2
  ·refine ⟨fun j => if j = 0 then v 0 else v 1 + v 0 * e, fun k hk => ?_⟩; obtain rfl | rfl : k = 0 ∨ k = 1 := Oo
   ·exact k0 _ rfl
   ·exact k1 _ rfl rfl
  ·obtain rfl : M = 3 := Oo
   have hp2 : p = 2 := by rcases hp with h | h | h | h <;> omega
   subst hp2; obtain ⟨g, hg⟩ := qGy hp (v 1); refine ⟨fun j => if j = 0 then v 0 else if j = 1 then v 1 + v 0 * e else v 2 + v 0 * g + v 1 * (e + 2 * v 0 * e + 2 * e ^ 2) + v 0 * e ^ 2 + v 0 ^ 4 * e + v 0 ^ 3 * e ^ 2, fun k hk => ?_⟩; obtain rfl | rfl | rfl : k = 0 ∨ k = 1 ∨ k = 2 := Oo
   ·exact k0 _ rfl
   ·exact k1 _ rfl rfl
   ·show num 2 v 3 = 0 + ((2 : Nat) : Int) ^ 0 * v 0 * num 2 v 2 + ((2 : Nat) : Int) ^ 1 * (v 1 + v 0 * e) * num 2 v 1 + ((2 : Nat) : Int) ^ 2 * (v 2 + v 0 * g + v 1 * (e + 2 * v 0 * e + 2 * e ^ 2) + v 0 * e ^ 2 + v 0 ^ 4 * e + v 0 ^ 3 * e ^ 2) * num 2 v 0
    rw [num_3, num_2, qFf, qCu, show (2 : Nat) ^ 2 = 4 from rfl]; generalize v 0 = a at he ⊢; generalize v 1 = b at hg ⊢; generalize v 2 = c; have q2 : ((2 : Nat) : Int) = 2 := rfl; rw [q2] at he hg ⊢
    grind
 obtain ⟨ν, hν⟩ := key
 refine ⟨ν, hp, ?_, fun k hk => ⟨num p v k, rfl⟩, fun k hk => ?_⟩
 ·show (p : Int) ^ (M - 0) * num p v 0 = _
  rw [qCu, Int.mul_one, Nat.sub_zero]
 ·show (p : Int) * ((p : Int) ^ (M - (k + 1)) * num p v (k + 1)) = _
  rw [← Int.mul_assoc, Int.mul_comm (p : Int), ← Int.pow_succ, show (M - (k + 1)).succ = M - k by omega, hν k hk]; have e1 := qCk (T := Int) (k + 1) (fun j => (p : Int) ^ j * ν j * num p v (k - j)) ((p : Int) ^ (M - k)); refine Eq.trans e1 (qAC fun j hj => ?_)
  show (p : Int) ^ (M - k) * ((p : Int) ^ j * ν j * num p v (k - j)) = ν j * ((p : Int) ^ (M - (k - j)) * num p v (k - j))
  rw [show M - (k - j) = (M - k) + j by omega, Int.pow_add]
  ac_rfl

theorem ty_ex {p M : Nat} (h : Most p M) (v : Nat → Int) {n : Nat} (h2 : 2 ≤ n) (hn : n ≤ p ^ (M + 1)) :
  ∃ F : Nat → Nat → Int, F = tyF p M (tyl p M v) (n - 2) ∧ F 0 0 = 0 ∧ eqv 0 n (LQ p (tyl p M v) (M + 1) F) (ad (LQ p (tyl p M v) (M + 1) xP) (LQ p (tyl p M v) (M + 1) yP)) := by
 obtain ⟨ν, hν⟩ := qKb h v
 refine ⟨_, rfl, qEk _ _ _ _, ?_⟩
 have := qHY hν (n - 2) Oo
 rw [show n - 2 + 2 = n by omega] at this
 exact this
end
section
open Rg

def cK (p : Nat) (v : Nat → Int) (k : Nat) : Int := num p v k * (p : Int) ^ (p ^ k - 1 - k)
def LL {T : Type} [Rg T] (p : Nat) (v : Nat → Int) (M : Nat) (X : T) : T := sm (M + 1) (fun k => ml (ic (cK p v k)) (pw X (p ^ k)))
def qCc (p : Nat) (v : Nat → Int) (M : Nat) (i : Nat) : Int := qA3 (M + 1) (fun k => if i = p ^ k then cK p v k else 0)

theorem qCG {p : Nat} (hp : 2 ≤ p) (k : Nat) : k + 1 ≤ p ^ k := by
 induction k with
 | zero => rw [Nat.pow_zero]; omega
 | succ k ih =>
   rw [Nat.pow_succ]; exact Nat.le_trans (show k + 1 + 1 ≤ (k + 1) * 2 by omega) (Nat.mul_le_mul ih hp)
theorem qI1 {T : Type} [Rg T] {p M : Nat} (hp : 2 ≤ p) (v : Nat → Int) (X : T) : LQ p (tyl p M v) (M + 1) (ml (ic (p : Int)) X) = ml (ic ((p : Int) ^ (M + 1))) (LL p v M X) := by
 unfold LQ LL
 rw [qCk]
 refine qAC fun k hk => ?_
 have hg := qCG hp k
 rw [qHC, ic_pw, ← ml_assoc, ← ic_ml, ← ml_assoc, ← ic_ml]
 congr 2
 unfold tyl cK
 have e : (p : Int) ^ (M - k) * (p : Int) ^ (p ^ k) = (p : Int) ^ (M + 1) * (p : Int) ^ (p ^ k - 1 - k) := by
  rw [← Int.pow_add, ← Int.pow_add]
  congr 1
  omega
 have : ∀ a b c d e : Int, a * c = d * e → a * b * c = d * (b * e) := fun a b c d e h => by
  rw [Int.mul_assoc, Int.mul_comm b c, ← Int.mul_assoc, h, Int.mul_assoc, Int.mul_comm e b]
 exact this _ _ _ _ _ e

def sg (c : Int) (F : Nat → Nat → Int) : Nat → Nat → Int := fun i j => c ^ (i + j) * F i j
theorem sg_ad (c : Int) (F G : Nat → Nat → Int) : sg c (ad F G) = ad (sg c F) (sg c G) := by
 funext i j
 exact Int.mul_add _ _ _
theorem sg_ml (c : Int) (F G : Nat → Nat → Int) : sg c (ml F G) = ml (sg c F) (sg c G) := by
 funext i j
 rw [qDF]
 show c ^ (i + j) * (ml F G : Nat → Nat → Int) i j = _
 rw [qDF]
 unfold qBF
 rw [← qGT]
 refine qC8 fun a ha => ?_
 rw [← qGT]
 refine qC8 fun b hb => ?_
 unfold sg
 rw [show i + j = (a + b) + ((i - a) + (j - b)) by omega, Int.pow_add]
 ac_rfl
theorem sg_ic (c k : Int) : sg c (ic k) = ic k := by
 funext i j
 show c ^ (i + j) * (ic k : Nat → Nat → Int) i j = _
 by_cases h : i = 0 ∧ j = 0
 ·rw [h.1, h.2, show (0 + 0 : Nat) = 0 from rfl, Int.pow_zero]; exact Int.one_mul _
 ·have : (ic k : Nat → Nat → Int) i j = 0 := by
   rw [show (ic k : Nat → Nat → Int) i = if i = 0 then ic k else zz from rfl]
   by_cases hi : i = 0
   ·rw [if_pos hi]
    show (if j = 0 then k else 0) = 0
    rw [if_neg (fun e => h ⟨hi, e⟩)]
   ·rw [if_neg hi]; rfl
  rw [this, Int.mul_zero]
theorem sg_oo (c : Int) : sg c oo = oo := by rw [← ic_1, sg_ic]
theorem sg_pw (c : Int) (F : Nat → Nat → Int) (k : Nat) : sg c (pw F k) = pw (sg c F) k := by
 induction k with
 | zero => exact sg_oo c
 | succ k ih => show sg c (ml (pw F k) F) = ml _ _; rw [sg_ml, ih]
theorem sg_sm (c : Int) (n : Nat) (f : Nat → Nat → Nat → Int) : sg c (sm n f) = sm n (fun k => sg c (f k)) := by
 induction n with
 | zero => funext i j; exact Int.mul_zero _
 | succ n ih => show sg c (ad _ _) = ad _ _; rw [sg_ad, ih]
theorem qH4 (c : Int) (p : Nat) (l : Nat → Int) (n : Nat) (F : Nat → Nat → Int) : sg c (LQ p l n F) = LQ p l n (sg c F) := by
 unfold LQ
 rw [sg_sm]
 exact qAC fun k _ => by rw [sg_ml, sg_ic, sg_pw]
theorem sg_x (c : Int) : sg c xP = ml (ic c) xP := by
 funext i j
 rw [qC_]
 unfold sg
 rw [qD_]
 by_cases h : i = 1 ∧ j = 0
 ·rw [if_pos h, h.1, h.2, qDt]
 ·rw [if_neg h, Int.mul_zero, Int.mul_zero]
theorem sg_y (c : Int) : sg c yP = ml (ic c) yP := by
 funext i j
 rw [qC_]
 unfold sg
 rw [qDY]
 by_cases h : i = 0 ∧ j = 1
 ·rw [if_pos h, h.1, h.2, qDt]
 ·rw [if_neg h, Int.mul_zero, Int.mul_zero]
def hF (p : Nat) (F : Nat → Nat → Int) : Nat → Nat → Int := fun i j => (p : Int) ^ (i + j - 1) * F i j
theorem hF_sg (p : Nat) {F : Nat → Nat → Int} (h0 : F 0 0 = 0) : sg (p : Int) F = ml (ic (p : Int)) (hF p F) := by
 funext i j
 rw [qC_]
 unfold sg hF
 by_cases h : i + j = 0
 ·rw [show i = 0 by omega, show j = 0 by omega, h0, Int.mul_zero, Int.mul_zero]
 ·rw [← Int.mul_assoc, Int.mul_comm (p : Int), ← Int.pow_succ, show (i + j - 1).succ = i + j by omega]
theorem hF_log {p M : Nat} (hp : P4 p) (v : Nat → Int) {n : Nat} {F : Nat → Nat → Int} (h0 : F 0 0 = 0)
  (h : eqv 0 n (LQ p (tyl p M v) (M + 1) F) (ad (LQ p (tyl p M v) (M + 1) xP) (LQ p (tyl p M v) (M + 1) yP))) : eqv 0 n (LL p v M (hF p F)) (ad (LL p v M xP) (LL p v M yP)) := by
 have hp2 := hp.pos
 have hP : (p : Int) ^ (M + 1) ≠ 0 := Int.pow_ne_zero Oo
 have e : ∀ i j, i + j < n → sg (p : Int) (LQ p (tyl p M v) (M + 1) F) i j = sg (p : Int) (ad (LQ p (tyl p M v) (M + 1) xP) (LQ p (tyl p M v) (M + 1) yP)) i j := by
  intro i j hij; have := qAJ.1 h i j hij; rw [Int.emod_zero, Int.emod_zero] at this; unfold sg; rw [this]
 rw [sg_ad, qH4, qH4, qH4, hF_sg p h0, sg_x, sg_y, qI1 hp2.1, qI1 hp2.1, qI1 hp2.1, ← ml_ad] at e
 refine qAJ.2 fun i j hij => ?_
 have := e i j hij
 rw [qC_, qC_] at this
 rw [Int.eq_of_mul_eq_mul_left hP this]

theorem qHt {T : Type} [Rg T] {n j : Nat} (hj : j < n) (c : Int) (f : Nat → T) : sm n (fun i => ml (ic (if i = j then c else 0)) (f i)) = ml (ic c) (f j) := by
 induction n with
 | zero => omega
 | succ n ih =>
   show ad (sm n _) (ml (ic (if n = j then c else 0)) (f n)) = _
   by_cases h : n = j
   ·subst h; rw [if_pos rfl, qBI fun i hi => by show ml (ic (if i = n then c else 0)) (f i) = zz; rw [if_neg Oo, ic_0, qBi], qBR]
   ·rw [if_neg h, ic_0, qBi, ad_zz, ih Oo]
theorem qNx {T : Type} [Rg T] {p M n : Nat} (hp : 2 ≤ p) (v : Nat → Int) (hM : p ^ M < n) (G : T) : ev1 n (qCc p v M) G = LL p v M G := by
 unfold ev1 ex LL
 have e : ∀ i, i < n → ml (ic (qCc p v M i)) (pw G i) = sm (M + 1) (fun k => ml (ic (if i = p ^ k then cK p v k else 0)) (pw G i)) := by
  intro i _; unfold qCc; rw [qBB, qGI, qCH]
 rw [qAC e, qEB]
 refine qAC fun k hk => ?_
 exact qHt (Nat.lt_of_le_of_lt (Nat.pow_le_pow_right Oo Oo) hM) _ _
theorem LL_x {p M : Nat} (v : Nat → Int) : LL p v M xP = onx (qCc p v M) := by
 funext i j
 unfold LL qCc
 rw [qBA, qBA]
 show _ = if j = 0 then qA3 _ _ else 0
 rw [qBB]
 have e : ∀ k, (ml (ic (cK p v k)) (pw xP (p ^ k)) : Nat → Nat → Int) i j = if j = 0 then (if i = p ^ k then cK p v k else 0) else 0 := by
  intro k; rw [qC_, show pw xP (p ^ k) = onx (pw xS (p ^ k)) from (qES _ _).symm, qD9]
  show cK p v k * (if j = 0 then (if i = p ^ k then 1 else 0) else 0) = _
  by_cases hj : j = 0
  ·rw [if_pos hj, if_pos hj]
   by_cases hi : i = p ^ k
   ·rw [if_pos hi, if_pos hi, Int.mul_one]
   ·rw [if_neg hi, if_neg hi, Int.mul_zero]
  ·rw [if_neg hj, if_neg hj, Int.mul_zero]
 rw [qAC fun k _ => e k]
 by_cases hj : j = 0
 ·rw [if_pos hj]; exact qAC fun k _ => by rw [if_pos hj]
 ·rw [if_neg hj]; exact qBI fun k _ => by rw [if_neg hj]; rfl
theorem LL_y {p M : Nat} (v : Nat → Int) : LL p v M yP = ony (qCc p v M) := by
 funext i j
 unfold LL qCc
 rw [qBA, qBA]
 show _ = if i = 0 then qA3 _ _ else 0
 rw [qBB]
 have e : ∀ k, (ml (ic (cK p v k)) (pw yP (p ^ k)) : Nat → Nat → Int) i j = if i = 0 then (if j = p ^ k then cK p v k else 0) else 0 := by
  intro k; rw [qC_, show pw yP (p ^ k) = ony (pw xS (p ^ k)) from (qEZ _ _).symm, qD9]
  show cK p v k * (if i = 0 then (if j = p ^ k then 1 else 0) else 0) = _
  by_cases hj : i = 0
  ·rw [if_pos hj, if_pos hj]
   by_cases hi : j = p ^ k
   ·rw [if_pos hi, if_pos hi, Int.mul_one]
   ·rw [if_neg hi, if_neg hi, Int.mul_zero]
  ·rw [if_neg hj, if_neg hj, Int.mul_zero]
 rw [qAC fun k _ => e k]
 by_cases hj : i = 0
 ·rw [if_pos hj]; exact qAC fun k _ => by rw [if_pos hj]
 ·rw [if_neg hj]; exact qBI fun k _ => by rw [if_neg hj]; rfl
theorem ty_law {p M : Nat} (hp : P4 p) (v : Nat → Int) {n : Nat} (h2 : 2 ≤ n) (hM : p ^ M < n) {W : Int} (hW : 2 ≤ W) {F : Nat → Nat → Int} (h0 : F 0 0 = 0)
  (h : eqv 0 n (LQ p (tyl p M v) (M + 1) F) (ad (LQ p (tyl p M v) (M + 1) xP) (LQ p (tyl p M v) (M + 1) yP)))
  {xs : Li} (lx : xs.length = n) (rx : ∀ x ∈ xs, 0 ≤ x ∧ x < W) (hx : ∀ i, i < n → at0 xs i % W = qCc p v M i % W) (x0 : at0 xs 0 = 0) (x1 : at0 xs 1 = 1) :
  eqv W n (atT (qAK W n (qDZ n xs) (qAc W n xs))) (hF p F) := by
 have hp2 := hp.pos
 have hu : at0 xs 1 * qAI W (at0 xs 1) % W = 1 % W := by
  rw [x1]; exact qHw Oo Oo (by simp [qFc])
 have e1 : eqv W n (at0 xs) (qCc p v M) := qBP.2 hx
 have hl := eqd (Int.dvd_zero W) (hF_log hp v h0 h)
 have hf0 : lo W 1 (hF p F) := qDB (by show (p : Int) ^ (0 + 0 - 1) * F 0 0 = 0; rw [h0, Int.mul_zero])
 -- the sum of both logarithms
 have e2 : eqv W n (atT (qDZ n xs)) (ev1 n (at0 xs) (hF p F)) := by
  refine qAQ (qA2 (qED hf0 (Nat.le_refl _) e1) ?_); rw [qNx hp2.1 v hM]; refine qA2 hl ?_; rw [LL_x, LL_y]; refine qAJ.2 fun i j hij => ?_
  unfold qDZ; rw [qAi hij]
  show ((if j = 0 then qCc p v M i else 0) + (if i = 0 then qCc p v M j else 0)) % W = _
  have l0 : qCc p v M 0 = 0 := by
   unfold qCc; refine qBG fun k _ => if_neg ?_
   have := qCG hp2.1 k; omega
  by_cases hj : j = 0
  ·by_cases hi : i = 0
   ·rw [if_pos hj, if_pos hi, if_pos hj, if_pos hi, hi, hj, l0]; rfl
   ·rw [if_pos hj, if_neg hi, if_pos hj, if_neg hi, Int.add_zero, hx i Oo]
  ·by_cases hi : i = 0
   ·rw [if_neg hj, if_pos hi, if_neg hj, if_pos hi, Int.zero_add, hx j Oo]
   ·rw [if_neg hj, if_neg hi, if_neg hj, if_neg hi]; rfl
 refine qA2 (qHD _ _ (by rw [qGl]; omega)) ?_
 refine qA2 (qC2 _ e2) ?_
 refine qA2 (qAQ (qFZ hf0 (at0 (qAc W n xs)) (at0 xs))) ?_
 have r1 : at0 (qAc W n xs) 1 = qAI W (at0 xs 1) := by
  unfold qAc; rw [show n - 1 = (n - 2) + 1 by omega]; exact qHP W h2 xs _
 have e3 : eqv W n (ev1 n (at0 (qAc W n xs)) (at0 xs)) xS := qJE h2 (qDc x0) (qDc (qD2 W n xs _)) (qKm Oo h2 lx x0 hu) (by rw [r1, Int.mul_comm]; exact hu)
 refine qA2 (qED hf0 (Nat.le_refl _) e3) (qAf ?_)
 exact qEj (m := W) h2 _
theorem qOc {p : Nat} (hp : 2 ≤ p) {m : Int} (hm : 0 < m) {d e : Nat} (he : e ≤ d) (f : Int) : ((p : Int) ^ e * f % (m * (p : Int) ^ d)) / (p : Int) ^ e % m = f % m := by
 have hpe : (0 : Int) < (p : Int) ^ e := Int.pow_pos Oo
 rw [show m * (p : Int) ^ d = (p : Int) ^ e * (m * (p : Int) ^ (d - e)) by
  rw [show d = e + (d - e) by omega, Int.pow_add, show e + (d - e) - e = d - e by omega]; ac_rfl]
 rw [Int.mul_emod_mul_of_pos _ _ hpe, Int.mul_ediv_cancel_left _ Oo]
 exact Int.emod_emod_of_dvd _ (Int.dvd_mul_right _ _)
end
end Go.Proofs.YtfpphfjlpgefaaaGreat
