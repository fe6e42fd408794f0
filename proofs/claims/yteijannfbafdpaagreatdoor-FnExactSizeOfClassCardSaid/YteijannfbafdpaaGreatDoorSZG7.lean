/- Lemmas. -/
import Derived.Test.YteijannfbafdpaaGreatDoorSZM2
import Derived.Test.YteijannfbafdpaaGreatDoorSZG1
/- Powers of sums modulo a prime, and of what is congruent. No program stands here. -/
set_option linter.unusedSimpArgs false
set_option linter.unusedVariables false
namespace Go.Proofs.YteijannfbafdpaaGreatDoor
open Rg

def bin : Nat → Nat → Int
  | 0, 0 => 1
  | 0, _ + 1 => 0
  | n + 1, 0 => 1
  | n + 1, k + 1 => bin n k + bin n (k + 1)
theorem bin_0 (n : Nat) : bin n 0 = 1 := by cases n <;> rfl
theorem bin_hi : ∀ (n k : Nat), n < k → bin n k = 0
  | 0, 0, h => absurd h (by omega)
  | 0, k + 1, _ => rfl
  | n + 1, 0, h => absurd h (by omega)
  | n + 1, k + 1, h => by show bin n k + bin n (k + 1) = 0; rw [bin_hi n k (by omega), bin_hi n (k + 1) (by omega)]; rfl
theorem bin_self (n : Nat) : bin n n = 1 := by
  induction n with
  | zero => rfl
  | succ n ih => show bin n n + bin n (n + 1) = 1; rw [ih, bin_hi n (n + 1) (by omega)]; rfl

section gen
variable {T : Type} [Rg T]
theorem pw_binom (a b : T) (n : Nat) : pw (ad a b) n = sm (n + 1) (fun k => ml (ic (bin n k)) (ml (pw a k) (pw b (n - k)))) := by
  induction n with
  | zero =>
    show oo = ad zz (ml (ic 1) (ml oo oo))
    rw [zz_ad, ic_1, ml_oo, ml_oo]
  | succ n ih =>
    show ml (pw (ad a b) n) (ad a b) = _
    rw [ih, ml_ad, sm_mr, sm_mr, sm_first (n + 1)]
    have e1 : sm (n + 1) (fun k => ml (ic (bin (n + 1) (k + 1))) (ml (pw a (k + 1)) (pw b (n + 1 - (k + 1))))) =
        ad (sm (n + 1) (fun k => ml (ml (ic (bin n k)) (ml (pw a k) (pw b (n - k)))) a)) (sm (n + 1) (fun k => ml (ic (bin n (k + 1))) (ml (pw a (k + 1)) (pw b (n - k))))) := by
      rw [← sm_ad]
      refine sm_congr fun k hk => ?_
      rw [show bin (n + 1) (k + 1) = bin n k + bin n (k + 1) from rfl, ic_ad, ad_ml, show n + 1 - (k + 1) = n - k by omega]
      congr 1
      show ml (ic (bin n k)) (ml (ml (pw a k) a) (pw b (n - k))) = _
      ac_rfl
    rw [e1]
    have e2 : sm (n + 1) (fun k => ml (ml (ic (bin n k)) (ml (pw a k) (pw b (n - k)))) b) =
        ad (ml (ic (bin (n + 1) 0)) (ml (pw a 0) (pw b (n + 1 - 0)))) (sm (n + 1) (fun k => ml (ic (bin n (k + 1))) (ml (pw a (k + 1)) (pw b (n - k))))) := by
      rw [sm_first n]
      have e3 : sm (n + 1) (fun k => ml (ic (bin n (k + 1))) (ml (pw a (k + 1)) (pw b (n - k)))) = sm n (fun k => ml (ml (ic (bin n (k + 1))) (ml (pw a (k + 1)) (pw b (n - (k + 1))))) b) := by
        show ad (sm n _) (ml (ic (bin n (n + 1))) (ml (pw a (n + 1)) (pw b (n - n)))) = _
        rw [bin_hi n (n + 1) (by omega), ic_0, zz_ml, ad_zz]
        refine sm_congr fun k hk => ?_
        rw [show n - k = (n - (k + 1)) + 1 by omega]
        show ml (ic (bin n (k + 1))) (ml (pw a (k + 1)) (ml (pw b (n - (k + 1))) b)) = _
        ac_rfl
      rw [e3, bin_0, bin_0]
      congr 1
      show ml (ml (ic 1) (ml oo (pw b (n - 0)))) b = ml (ic 1) (ml oo (ml (pw b n) b))
      rw [Nat.sub_zero]
      ac_rfl
    rw [e2]
    ac_rfl

theorem ic_pw (c : Int) (k : Nat) : (pw (ic c) k : T) = ic (c ^ k) := by
  induction k with
  | zero => show (oo : T) = _; rw [Int.pow_zero, ic_1]
  | succ k ih => show ml (pw (ic c) k) (ic c) = _; rw [ih, ← ic_ml, Int.pow_succ]
theorem pw_pw (a : T) (i j : Nat) : pw (pw a i) j = pw a (i * j) := by
  induction j with
  | zero => rfl
  | succ j ih => show ml (pw (pw a i) j) (pw a i) = _; rw [ih, pw_ad]; rfl

theorem pw_fresh {p : Nat} (hp : P4 p) (k : Nat) (a b : T) : eqv (p : Int) k (pw (ad a b) p) (ad (pw a p) (pw b p)) := by
  have h1 : 1 ≤ p := by rcases hp with rfl | rfl | rfl | rfl <;> omega
  obtain ⟨q, rfl⟩ : ∃ q, p = q + 1 := ⟨p - 1, by omega⟩
  rw [pw_binom, sm_first]
  have e1 : ml (ic (bin (q + 1) 0)) (ml (pw a 0) (pw b (q + 1 - 0))) = pw b (q + 1) := by
    rw [bin_0, ic_1, oo_ml]; exact oo_ml _
  have e2 : sm (q + 1) (fun i => ml (ic (bin (q + 1) (i + 1))) (ml (pw a (i + 1)) (pw b (q + 1 - (i + 1))))) = ad (sm q (fun i => ml (ic (bin (q + 1) (i + 1))) (ml (pw a (i + 1)) (pw b (q + 1 - (i + 1)))))) (pw a (q + 1)) := by
    show ad _ (ml (ic (bin (q + 1) (q + 1))) (ml (pw a (q + 1)) (pw b (q + 1 - (q + 1))))) = _
    rw [bin_self, ic_1, oo_ml, Nat.sub_self]
    show ad _ (ml (pw a (q + 1)) oo) = _
    rw [ml_oo]
  rw [e1, e2]
  have hd : ∀ i, i < q → ((q + 1 : Nat) : Int) ∣ bin (q + 1) (i + 1) := by
    rcases hp with h | h | h | h
    all_goals
      obtain rfl : q = _ := by first | exact Nat.succ.inj h
      decide
  have e3 : eqv ((q + 1 : Nat) : Int) k (sm q (fun i => ml (ic (bin (q + 1) (i + 1))) (ml (pw a (i + 1)) (pw b (q + 1 - (i + 1)))))) zz := by
    refine eqv_lo (sm_lo fun i hi => ?_)
    rw [ml_comm]
    exact lo_mul _ (lo_ic (hd i hi))
  refine eqv_trans (eqv_ad eqv_rfl (eqv_ad e3 eqv_rfl)) (eqv_of ?_)
  rw [zz_ad, ad_comm]
theorem pw_zz' {p : Nat} (h : 1 ≤ p) : pw (zz : T) p = zz := by
  obtain ⟨q, rfl⟩ : ∃ q, p = q + 1 := ⟨p - 1, by omega⟩
  exact ml_zz _
theorem P4.pos {p : Nat} (hp : P4 p) : 2 ≤ p ∧ p ≤ 7 := by rcases hp with rfl | rfl | rfl | rfl <;> omega
theorem pw_fresh_sm {p : Nat} (hp : P4 p) (k n : Nat) (f : Nat → T) : eqv (p : Int) k (pw (sm n f) p) (sm n (fun i => pw (f i) p)) := by
  induction n with
  | zero => exact eqv_of (pw_zz' (by have := hp.pos; omega))
  | succ n ih => exact eqv_trans (pw_fresh hp k _ _) (eqv_ad ih eqv_rfl)
theorem ev2_frob {p : Nat} (hp : P4 p) (k n : Nat) (F : Nat → Nat → Int) (a b : T) : eqv (p : Int) k (pw (ev2 n F a b) p) (ev2 n F (pw a p) (pw b p)) := by
  rw [ev2_sum, ev2_sum]
  refine eqv_trans (pw_fresh_sm hp k n _) (sm_eqv fun i _ => eqv_trans (pw_fresh_sm hp k n _) (sm_eqv fun j _ => ?_))
  rw [pw_ml, pw_ml, ic_pw, pw_pw, pw_pw, pw_pw, pw_pw, Nat.mul_comm i p, Nat.mul_comm j p]
  refine eqv_mlr _ (eqv_ic ?_)
  obtain ⟨h, hh⟩ := fermat hp (F i j)
  rw [hh, Int.add_mul_emod_self_left]
theorem ev2_frobs {p : Nat} (hp : P4 p) (k n : Nat) (F : Nat → Nat → Int) (a b : T) (e : Nat) : eqv (p : Int) k (pw (ev2 n F a b) (p ^ e)) (ev2 n F (pw a (p ^ e)) (pw b (p ^ e))) := by
  induction e with
  | zero => rw [Nat.pow_zero, pw_1, pw_1, pw_1]; exact eqv_rfl
  | succ e ih =>
    rw [Nat.pow_succ, ← pw_pw, ← pw_pw, ← pw_pw]
    exact eqv_trans (pw_eqv ih p) (ev2_frob hp k n F _ _)
end gen

theorem pw_xS : ∀ i, pw xS i = mon i 1 := by
  intro i
  induction i with
  | zero => funext k; show (oo : Nat → Int) k = _; rfl
  | succ i ih =>
    show ml (pw xS i) xS = _
    rw [ih]
    funext k
    rw [cv_conv]
    unfold conv
    by_cases hk : k = i + 1
    · subst hk
      rw [sumN_only (i := i) (by omega) fun j hj hne => by unfold mon; rw [if_neg hne, Int.zero_mul]]
      unfold mon xS mon; simp
    · rw [sumN_zero fun j hj => ?_]
      · unfold mon; rw [if_neg hk]
      · unfold mon xS mon
        by_cases hji : j = i
        · subst hji; rw [if_neg (show ¬ k - j = 1 by omega), Int.mul_zero]
        · rw [if_neg hji, Int.zero_mul]
theorem lo2_int {q r : Int} {k : Nat} {x y : Int} (hx : lo q k x) (hy : lo r k y) : lo (q * r) k (ml x y) := by
  rcases hx with h | h
  · exact .inl h
  · rcases hy with h' | h'
    · exact .inl h'
    · exact .inr (Int.mul_dvd_mul h h')
theorem lo2_ser {T : Type} [Rg T] (H : ∀ {q r : Int} {k : Nat} {x y : T}, lo q k x → lo r k y → lo (q * r) k (ml x y)) {q r : Int} {k : Nat} {x y : Nat → T} (hx : lo q k x) (hy : lo r k y) : lo (q * r) k (ml x y) :=
  fun i => sm_lo fun l hl => H (lo_le (hx l) (by omega)) (lo_le (hy (i - l)) (by omega))
theorem lo2 {q r : Int} {k : Nat} {x y : Nat → Nat → Int} (hx : lo q k x) (hy : lo r k y) : lo (q * r) k (ml x y) := lo2_ser (fun a b => lo2_ser lo2_int a b) hx hy
theorem lod_int {q r : Int} {k : Nat} {x : Int} (hd : q ∣ r) (hx : lo r k x) : lo q k x := by
  rcases hx with h | h
  · exact .inl h
  · exact .inr (Int.dvd_trans hd h)
theorem lod {q r : Int} {k : Nat} {x : Nat → Nat → Int} (hd : q ∣ r) (hx : lo r k x) : lo q k x := fun i j => lod_int hd (hx i j)
theorem eqd {q r : Int} {k : Nat} {x y : Nat → Nat → Int} (hd : q ∣ r) (hx : eqv r k x y) : eqv q k x y := lod hd hx
theorem lo2_iff {m : Int} {k : Nat} {F : Nat → Nat → Int} : lo m k F ↔ ∀ i j, i + j < k → m ∣ F i j := by
  constructor
  · intro h i j hij
    rcases h i j with e | e
    · omega
    · exact e
  · intro h i j
    by_cases hij : i + j < k
    · exact .inr (h i j hij)
    · exact .inl (by omega)
theorem icml2 (c : Int) (F : Nat → Nat → Int) (i j : Nat) : (ml (ic c) F : Nat → Nat → Int) i j = c * F i j := by
  rw [ser_icml, ser_icml]; rfl
theorem lo2_cancel {q r : Int} (hq : q ≠ 0) {k : Nat} {F : Nat → Nat → Int} (h : lo (q * r) k (ml (ic q) F)) : lo r k F := lo2_iff.2 fun i j hij => by
  have := lo2_iff.1 h i j hij
  rw [icml2] at this
  obtain ⟨c, hc⟩ := this
  refine ⟨c, ?_⟩
  rw [Int.mul_assoc] at hc
  exact Int.eq_of_mul_eq_mul_left hq hc

theorem pw_lift {p : Nat} (hp : P4 p) {q : Int} (hq : (p : Int) ∣ q) {k : Nat} {a b : Nat → Nat → Int} (h : eqv q k a b) : eqv (q * p) k (pw a p) (pw b p) := by
  have h2 := hp.pos
  obtain ⟨u, hu⟩ : ∃ u, u = ad a (ng b) := ⟨_, rfl⟩
  have hlu : lo q k u := by rw [hu]; exact h
  have ea : a = ad u b := by rw [hu, ad_assoc, ng_ad, ad_zz]
  obtain ⟨r, rfl⟩ : ∃ r, p = r + 2 := ⟨p - 2, by omega⟩
  rw [ea, pw_binom, sm_first, sm_first]
  have e1 : ml (ic (bin (r + 2) 0)) (ml (pw u 0) (pw b (r + 2 - 0))) = pw b (r + 2) := by
    rw [bin_0, ic_1, oo_ml]; exact oo_ml _
  rw [e1]
  refine eqv_trans (eqv_ad eqv_rfl (eqv_lo (lo_ad ?_ (sm_lo fun i hi => ?_)))) (eqv_of (ad_zz _))
  · have hb : bin (r + 2) (0 + 1) = ((r + 2 : Nat) : Int) := by
      rcases hp with h | h | h | h
      all_goals
        obtain rfl : r = _ := by first | exact Nat.succ.inj (Nat.succ.inj h)
        rfl
    rw [hb]
    have l1 : lo ((r + 2 : Nat) : Int) k (ic ((r + 2 : Nat) : Int) : Nat → Nat → Int) := lo_ic (Int.dvd_refl _)
    have l2 : lo q k (pw u (0 + 1)) := by rw [pw_1]; exact hlu
    have := lo2 l2 l1
    rw [show ml (ic ((r + 2 : Nat) : Int)) (ml (pw u (0 + 1)) (pw b (r + 2 - (0 + 1)))) = ml (pw b (r + 2 - (0 + 1))) (ml (pw u (0 + 1)) (ic ((r + 2 : Nat) : Int))) by ac_rfl]
    exact lo_mul _ this
  · have l2 := lo2 hlu hlu
    have l3 : lo (q * ((r + 2 : Nat) : Int)) k (ml u u) := lod (Int.mul_dvd_mul (Int.dvd_refl _) hq) l2
    rw [show i + 1 + 1 = i + 2 from rfl, show pw u (i + 2) = ml (ml (pw u i) u) u from rfl]
    rw [show ml (ic (bin (r + 2) (i + 2))) (ml (ml (ml (pw u i) u) u) (pw b (r + 2 - (i + 2)))) = ml (ml (ic (bin (r + 2) (i + 2))) (ml (pw u i) (pw b (r + 2 - (i + 2))))) (ml u u) by ac_rfl]
    exact lo_mul _ l3
theorem pw_lifts {p : Nat} (hp : P4 p) {k : Nat} {a b : Nat → Nat → Int} (h : eqv (p : Int) k a b) (e : Nat) : eqv ((p : Int) ^ (e + 1)) k (pw a (p ^ e)) (pw b (p ^ e)) := by
  induction e with
  | zero => rw [Nat.pow_zero, pw_1, pw_1]; rw [show ((p : Int) ^ (0 + 1)) = p by rw [Int.pow_succ, Int.pow_zero, Int.one_mul]]; exact h
  | succ e ih =>
    rw [Nat.pow_succ, ← pw_pw, ← pw_pw, Int.pow_succ]
    refine pw_lift hp ?_ ih
    exact ⟨(p : Int) ^ e, by rw [Int.pow_succ, Int.mul_comm]⟩
end Go.Proofs.YteijannfbafdpaaGreatDoor

/- The typical law has whole coefficients: the functional equation of its logarithm. No program stands here. -/
set_option linter.unusedSimpArgs false
set_option linter.unusedVariables false
namespace Go.Proofs.YteijannfbafdpaaGreatDoor
open Rg

def xP : Nat → Nat → Int := onx xS
def yP : Nat → Nat → Int := ony xS
theorem lo_xP (m : Int) : lo m 1 xP := lo_onx (by rfl)
theorem lo_yP (m : Int) : lo m 1 yP := lo_ony (by rfl)

section gen
variable {T : Type} [Rg T]
theorem pw_los {m : Int} {r : Nat} {a : T} (h : lo m r a) (k : Nat) : lo m (r * k) (pw a k) := by
  induction k with
  | zero => exact lo_0 _ _
  | succ k ih => exact lo_ml ih h
def LQ (p : Nat) (l : Nat → Int) (n : Nat) (H : T) : T := sm n (fun k => ml (ic (l k)) (pw H (p ^ k)))
theorem LQ_fun (p M : Nat) (l ν : Nat → Int) (hν : ∀ k, k < M → (p : Int) * l (k + 1) = sm (k + 1) (fun j => ν j * l (k - j))) (H : T) :
    ml (ic (p : Int)) (LQ p l (M + 1) H) = ad (ml (ic ((p : Int) * l 0)) H) (sm M (fun j => ml (ic (ν j)) (LQ p l (M - j) (pw H (p ^ (j + 1)))))) := by
  unfold LQ
  rw [sm_first, ml_ad]
  congr 1
  · rw [Nat.pow_zero, pw_1, ← ml_assoc, ← ic_ml]
  · rw [sm_ml]
    have e : ∀ k, k < M → ml (ic (p : Int)) (ml (ic (l (k + 1))) (pw H (p ^ (k + 1)))) = sm (k + 1) (fun j => (fun j i => ml (ic (ν j)) (ml (ic (l i)) (pw (pw H (p ^ (j + 1))) (p ^ i)))) j (k - j)) := by
      intro k hk
      rw [← ml_assoc, ← ic_ml, hν k hk, ic_sm, sm_mr]
      refine sm_congr fun j hj => ?_
      show ml (ic (ν j * l (k - j))) _ = ml (ic (ν j)) (ml (ic (l (k - j))) (pw (pw H (p ^ (j + 1))) (p ^ (k - j))))
      rw [ic_ml, ml_assoc, pw_pw, ← Nat.pow_add, show j + 1 + (k - j) = k + 1 by omega]
    rw [sm_congr e, sm_tri M (fun j i => ml (ic (ν j)) (ml (ic (l i)) (pw (pw H (p ^ (j + 1))) (p ^ i))))]
    exact sm_congr fun j _ => by rw [sm_ml]
theorem LQ_hm {S : Type} [Rg S] {m : Int} {n : Nat} {φ : S → T} (h : Hm m n φ) (p : Nat) (l : Nat → Int) (k : Nat) (H : S) : eqv m n (φ (LQ p l k H)) (LQ p l k (φ H)) := by
  unfold LQ
  rw [h.sm]
  exact sm_eqv fun i _ => eqv_trans (h.ml _ _) (eqv_ml (h.ic _) (h.pw _ _))
theorem LQ_cut {m : Int} {p M : Nat} (hp : 2 ≤ p) (l : Nat → Int) {j n : Nat} (hj : j < M) (hn : n ≤ p ^ (M + 1)) {H : T} (h : lo m (p ^ (j + 1)) H) : eqv m n (LQ p l (M + 1) H) (LQ p l (M - j) H) := by
  unfold LQ
  rw [show M + 1 = (M - j) + (j + 1) by omega, sm_split]
  refine eqv_trans (eqv_ad eqv_rfl (eqv_lo (sm_lo fun i hi => ?_))) (eqv_of (ad_zz _))
  refine lo_mul _ (lo_le (pw_los h _) (Nat.le_trans hn ?_))
  rw [← Nat.pow_add]
  exact Nat.pow_le_pow_right (by omega) (by omega)
end gen

theorem ev2_x {T : Type} [Rg T] {n : Nat} (h2 : 2 ≤ n) (a b : T) : ev2 n xP a b = a := by
  rw [ev2_sum]
  have e : ∀ i, i < n → sm n (fun j => ml (ic (xP i j)) (ml (pw a i) (pw b j))) = ml (ic (if i = 1 then 1 else 0)) (pw a i) := by
    intro i hi
    obtain ⟨r, rfl⟩ : ∃ r, n = r + 1 := ⟨n - 1, by omega⟩
    rw [sm_first, sm_none fun j _ => by show ml (ic (xP i (j + 1))) _ = zz; rw [show xP i (j + 1) = 0 from rfl, ic_0, zz_ml], ad_zz]
    show ml (ic (xP i 0)) (ml (pw a i) oo) = _
    rw [ml_oo]; rfl
  rw [sm_congr e, sum_one h2 (fun i => pw a i), pw_1]
theorem ev2_y {T : Type} [Rg T] {n : Nat} (h2 : 2 ≤ n) (a b : T) : ev2 n yP a b = b := by
  rw [ev2_sum]
  obtain ⟨r, rfl⟩ : ∃ r, n = r + 1 := ⟨n - 1, by omega⟩
  rw [sm_first, sm_none fun i _ => sm_none fun j _ => by show ml (ic (yP (i + 1) j)) _ = zz; rw [show yP (i + 1) j = 0 from rfl, ic_0, zz_ml], ad_zz]
  have e : ∀ j, j < r + 1 → ml (ic (yP 0 j)) (ml (pw a 0) (pw b j)) = ml (ic (if j = 1 then 1 else 0)) (pw b j) := by
    intro j hj
    show ml (ic (yP 0 j)) (ml oo (pw b j)) = _
    rw [oo_ml]; rfl
  rw [sm_congr e, sum_one h2 (fun i => pw b i), pw_1]
theorem xP_at (i j : Nat) : xP i j = if i = 1 ∧ j = 0 then 1 else 0 := by
  unfold xP onx xS mon
  by_cases hj : j = 0
  · by_cases hi : i = 1
    · rw [if_pos hj, if_pos hi, if_pos ⟨hi, hj⟩]
    · rw [if_pos hj, if_neg hi, if_neg (fun e => hi e.1)]
  · rw [if_neg hj, if_neg (fun e => hj e.2)]
theorem yP_at (i j : Nat) : yP i j = if i = 0 ∧ j = 1 then 1 else 0 := by
  unfold yP ony xS mon
  by_cases hi : i = 0
  · by_cases hj : j = 1
    · rw [if_pos hi, if_pos hj, if_pos ⟨hi, hj⟩]
    · rw [if_pos hi, if_neg hj, if_neg (fun e => hj e.2)]
  · rw [if_neg hi, if_neg (fun e => hi e.1)]
theorem ev2_twice {T : Type} [Rg T] {n N : Nat} (h1 : 1 ≤ n) {G : Nat → Nat → Int} (hG : lo 0 n G) {m : Int} {a b : T} (ha : lo m 2 a) (hb : lo m 2 b) : lo m (n + 1) (ev2 N G a b) := by
  rw [ev2_sum]
  refine sm_lo fun i _ => sm_lo fun j _ => ?_
  by_cases h : i + j < n
  · have := lo2_iff.1 hG i j h
    rw [Int.zero_dvd.1 this, ic_0, zz_ml]
    exact lo_zz _ _
  · exact lo_mul _ (lo_le (lo_ml (pw_los ha i) (pw_los hb j)) (by omega))
theorem ev2_loq {T : Type} [Rg T] {N q : Nat} {F : Nat → Nat → Int} (h0 : F 0 0 = 0) {m : Int} {a b : T} (ha : lo m q a) (hb : lo m q b) : lo m q (ev2 N F a b) := by
  rw [ev2_sum]
  refine sm_lo fun i _ => sm_lo fun j _ => ?_
  by_cases h : i = 0 ∧ j = 0
  · rw [h.1, h.2, h0, ic_0, zz_ml]; exact lo_zz _ _
  · refine lo_mul _ (lo_le (lo_ml (pw_los ha i) (pw_los hb j)) ?_)
    rw [← Nat.mul_add]
    exact Nat.le_mul_of_pos_right q (by omega)
theorem ev2_self {m : Int} {n : Nat} (F : Nat → Nat → Int) : eqv m n (ev2 n F xP yP) F := by
  refine eqv2.2 fun i j hij => ?_
  rw [ev2_sum]
  have e1 : (sm n (fun a => sm n (fun b => ml (ic (F a b)) (ml (pw xP a) (pw yP b)))) : Nat → Nat → Int) i j = sumN n (fun a => sumN n (fun b => F a b * (if a = i ∧ b = j then 1 else 0))) := by
    rw [sumN_sm, ser_sm, ser_sm]
    refine sm_congr fun a _ => ?_
    rw [sumN_sm, ser_sm, ser_sm]
    refine sm_congr fun b _ => ?_
    rw [icml2]
    congr 1
    rw [show pw xP a = onx (pw xS a) from (onx_pw _ _).symm, show pw yP b = ony (pw xS b) from (ony_pw _ _).symm, onx_ony, pw_xS, pw_xS]
    unfold mon
    by_cases ha : a = i
    · subst ha
      by_cases hb : b = j
      · subst hb; simp
      · rw [if_neg (show ¬ j = b from fun e => hb e.symm), if_neg (show ¬ (a = a ∧ b = j) from fun e => hb e.2), Int.mul_zero]
    · rw [if_neg (show ¬ i = a from fun e => ha e.symm), if_neg (show ¬ (a = i ∧ b = j) from fun e => ha e.1), Int.zero_mul]
  rw [e1, sumN_only (i := i) (by omega) (fun a _ hne => sumN_zero fun b _ => by rw [if_neg (fun e => hne e.1), Int.mul_zero]),
    sumN_only (i := j) (by omega) (fun b _ hne => by rw [if_neg (fun e => hne e.2), Int.mul_zero]), if_pos ⟨rfl, rfl⟩, Int.mul_one]

section typ
variable {p M : Nat} {l ν : Nat → Int}
structure TyL (p M : Nat) (l ν : Nat → Int) : Prop where
  pr : P4 p
  one : l 0 = (p : Int) ^ M
  dvd : ∀ k, k ≤ M → (p : Int) ^ (M - k) ∣ l k
  fe : ∀ k, k < M → (p : Int) * l (k + 1) = sm (k + 1) (fun j => ν j * l (k - j))

def DP (p M : Nat) (l : Nat → Int) (F : Nat → Nat → Int) : Nat → Nat → Int := ad (LQ p l (M + 1) F) (ng (ad (LQ p l (M + 1) xP) (LQ p l (M + 1) yP)))

theorem eqv_icd {q r c : Int} (hc : q ∣ c) {k : Nat} {a b : Nat → Nat → Int} (h : eqv r k a b) : eqv (q * r) k (ml (ic c) a) (ml (ic c) b) := by
  have := lo2 (lo_ic hc : lo q k (ic c : Nat → Nat → Int)) h
  rwa [ml_ad, ml_ng] at this
theorem DP_dvd (H : TyL p M l ν) {n : Nat} (h1 : 1 ≤ n) (hn : n + 1 ≤ p ^ (M + 1)) {F : Nat → Nat → Int} (h0 : F 0 0 = 0) (hD : lo 0 n (DP p M l F)) : lo ((p : Int) ^ M) (n + 1) (DP p M l F) := by
  have hp2 := H.pr.pos
  have hN2 : 2 ≤ n + 1 := by omega
  have hW : ((p : Int) ^ (M + 1)) ∣ 0 := Int.dvd_zero _
  -- one summand of the functional equation
  have key : ∀ j, j < M → eqv ((p : Int) ^ (M + 1)) (n + 1) (LQ p l (M - j) (pw F (p ^ (j + 1)))) (ad (LQ p l (M - j) (pw xP (p ^ (j + 1)))) (LQ p l (M - j) (pw yP (p ^ (j + 1))))) := by
    intro j hj
    have hq : 2 ≤ p ^ (j + 1) := by
      rw [Nat.pow_succ]
      have := Nat.one_le_pow j p (by omega)
      exact Nat.le_trans (show 2 ≤ 1 * p by omega) (Nat.mul_le_mul_right p this)
    have lX : lo 0 (p ^ (j + 1)) (pw xP (p ^ (j + 1))) := by have := pw_lo (lo_xP 0) (p ^ (j + 1)); exact this
    have lY : lo 0 (p ^ (j + 1)) (pw yP (p ^ (j + 1))) := by have := pw_lo (lo_yP 0) (p ^ (j + 1)); exact this
    obtain ⟨Φ, hΦ⟩ : ∃ Φ, Φ = ev2 (n + 1) F (pw xP (p ^ (j + 1))) (pw yP (p ^ (j + 1))) := ⟨_, rfl⟩
    have lΦ : lo 0 (p ^ (j + 1)) Φ := by rw [hΦ]; exact ev2_loq h0 lX lY
    have s1 : eqv (p : Int) (n + 1) (pw F (p ^ (j + 1))) Φ := by
      rw [hΦ]
      exact eqv_trans (pw_eqv (eqv_symm (ev2_self F)) _) (ev2_frobs H.pr (n + 1) (n + 1) F xP yP (j + 1))
    have s2 : eqv ((p : Int) ^ (M + 1)) (n + 1) (LQ p l (M - j) (pw F (p ^ (j + 1)))) (LQ p l (M - j) Φ) := by
      refine sm_eqv fun i hi => ?_
      have := eqv_icd (H.dvd i (by omega)) (pw_lifts H.pr s1 i)
      rwa [← Int.pow_add, show M - i + (i + 1) = M + 1 by omega] at this
    have hm : Hm 0 (n + 1) (fun G => ev2 (n + 1) G (pw xP (p ^ (j + 1))) (pw yP (p ^ (j + 1)))) := hm2 (lo_le lX (by omega)) (lo_le lY (by omega))
    have s3 : eqv 0 (n + 1) (LQ p l (M + 1) Φ) (ad (LQ p l (M + 1) (pw xP (p ^ (j + 1)))) (LQ p l (M + 1) (pw yP (p ^ (j + 1))))) := by
      have t1 := LQ_hm hm p l (M + 1) F
      have t2 := LQ_hm hm p l (M + 1) xP
      have t3 := LQ_hm hm p l (M + 1) yP
      rw [← hΦ] at t1
      rw [ev2_x hN2] at t2
      rw [ev2_y hN2] at t3
      have t4 := ev2_twice (N := n + 1) h1 hD (lo_le lX hq) (lo_le lY hq)
      have t5 := hm.ad (LQ p l (M + 1) F) (ng (ad (LQ p l (M + 1) xP) (LQ p l (M + 1) yP)))
      have t6 := hm.ng (ad (LQ p l (M + 1) xP) (LQ p l (M + 1) yP))
      have t7 := hm.ad (LQ p l (M + 1) xP) (LQ p l (M + 1) yP)
      unfold DP at t4
      rw [t5, t6, t7] at t4
      exact eqv_trans (eqv_symm t1) (eqv_trans t4 (eqv_ad t2 t3))
    refine eqv_trans s2 (eqd hW ?_)
    exact eqv_trans (eqv_symm (LQ_cut hp2.1 l hj hn lΦ)) (eqv_trans s3 (eqv_ad (LQ_cut hp2.1 l hj hn lX) (LQ_cut hp2.1 l hj hn lY)))
  have hp0 : (p : Int) ≠ 0 := by omega
  refine lo2_cancel hp0 ?_
  unfold DP
  rw [ml_ad, ml_ng, ml_ad, LQ_fun p M l ν H.fe, LQ_fun p M l ν H.fe, LQ_fun p M l ν H.fe, H.one, show (p : Int) * (p : Int) ^ M = (p : Int) ^ (M + 1) by rw [Int.pow_succ, Int.mul_comm]]
  have z : ∀ X : Nat → Nat → Int, eqv ((p : Int) ^ (M + 1)) (n + 1) (ml (ic ((p : Int) ^ (M + 1))) X) zz := fun X => eqv_lo (by rw [ml_comm]; exact lo_mul _ (lo_ic (Int.dvd_refl _)))
  show eqv _ _ _ _
  refine eqv_trans (eqv_ad (z _) (sm_eqv fun j hj => eqv_mll _ (key j hj))) ?_
  refine eqv_symm (eqv_trans (eqv_ad (eqv_ad (z _) eqv_rfl) (eqv_ad (z _) eqv_rfl)) (eqv_of ?_))
  rw [zz_ad, zz_ad, zz_ad, ← sm_ad]
  exact sm_congr fun j _ => (ml_ad _ _ _).symm

def tyE (p M : Nat) (l : Nat → Int) (n : Nat) (F : Nat → Nat → Int) : Nat → Nat → Int := fun i j => if i + j = n then -(DP p M l F i j / (p : Int) ^ M) else 0
def tyF (p M : Nat) (l : Nat → Int) : Nat → Nat → Nat → Int
  | 0 => ad xP yP
  | k + 1 => ad (tyF p M l k) (tyE p M l (k + 2) (tyF p M l k))
theorem tyF_low (p M : Nat) (l : Nat → Int) (k i j : Nat) (h : i + j ≠ k + 2) : tyF p M l (k + 1) i j = tyF p M l k i j := by
  show tyF p M l k i j + tyE p M l (k + 2) (tyF p M l k) i j = _
  unfold tyE
  rw [if_neg h, Int.add_zero]
theorem tyF_0 (p M : Nat) (l : Nat → Int) : ∀ k, tyF p M l k 0 0 = 0
  | 0 => rfl
  | k + 1 => by rw [tyF_low p M l k 0 0 (by omega)]; exact tyF_0 p M l k
theorem lo_of0 {m : Int} {F : Nat → Nat → Int} (h : F 0 0 = 0) : lo m 1 F := lo2_iff.2 fun i j hij => by
  rw [show i = 0 by omega, show j = 0 by omega, h]; exact Int.dvd_zero _
theorem LQ_late (hp : 2 ≤ p) (l : Nat → Int) (M : Nat) {F e : Nat → Nat → Int} {n : Nat} (hF : lo 0 1 F) (he : lo 0 (n + 1) e) : eqv 0 (n + 2) (LQ p l (M + 1) (ad F e)) (ad (LQ p l (M + 1) F) (ml (ic (l 0)) e)) := by
  unfold LQ
  rw [sm_first, sm_first]
  have e1 : eqv 0 (n + 2) (sm M (fun k => ml (ic (l (k + 1))) (pw (ad F e) (p ^ (k + 1))))) (sm M (fun k => ml (ic (l (k + 1))) (pw F (p ^ (k + 1))))) := by
    refine sm_eqv fun k _ => eqv_mll _ ?_
    have hq : 2 ≤ p ^ (k + 1) := by
      rw [Nat.pow_succ]
      exact Nat.le_trans (show 2 ≤ 1 * p by omega) (Nat.mul_le_mul_right p (Nat.one_le_pow k p (by omega)))
    obtain ⟨r, hr⟩ : ∃ r, p ^ (k + 1) = r + 2 := ⟨p ^ (k + 1) - 2, by omega⟩
    rw [hr]
    exact pw_late hF he r
  refine eqv_trans (eqv_ad eqv_rfl e1) (eqv_of ?_)
  rw [Nat.pow_zero, pw_1, pw_1, ml_ad]
  ac_rfl
theorem tyF_ok (H : TyL p M l ν) : ∀ k, k + 2 ≤ p ^ (M + 1) → lo 0 (k + 2) (DP p M l (tyF p M l k))
  | 0, _ => by
    have hp2 := H.pr.pos
    have h : ∀ X : Nat → Nat → Int, lo 0 1 X → eqv 0 2 (LQ p l (M + 1) X) (ml (ic (l 0)) X) := by
      intro X hX
      unfold LQ
      rw [sm_first, Nat.pow_zero, pw_1]
      refine eqv_trans (eqv_ad eqv_rfl (eqv_lo (sm_lo fun k _ => lo_mul _ (lo_le (pw_lo hX _) ?_)))) (eqv_of (ad_zz _))
      rw [Nat.pow_succ]
      exact Nat.le_trans (show 2 ≤ 1 * p by omega) (Nat.mul_le_mul_right p (Nat.one_le_pow k p (by omega)))
    show eqv 0 2 (LQ p l (M + 1) (ad xP yP)) (ad (LQ p l (M + 1) xP) (LQ p l (M + 1) yP))
    refine eqv_trans (h _ (lo_ad (lo_xP 0) (lo_yP 0))) ?_
    rw [ml_ad]
    exact eqv_symm (eqv_ad (h _ (lo_xP 0)) (h _ (lo_yP 0)))
  | k + 1, hk => by
    have ih := tyF_ok H k (by omega)
    have hd := DP_dvd H (show 1 ≤ k + 2 by omega) (by omega) (tyF_0 p M l k) ih
    have he : lo 0 (k + 1 + 1) (tyE p M l (k + 2) (tyF p M l k)) := lo2_iff.2 fun i j hij => by
      unfold tyE; rw [if_neg (by omega)]; exact Int.dvd_zero _
    have h1 := LQ_late H.pr.pos.1 l M (lo_of0 (tyF_0 p M l k)) he
    show eqv 0 (k + 3) (LQ p l (M + 1) (ad (tyF p M l k) (tyE p M l (k + 2) (tyF p M l k)))) (ad (LQ p l (M + 1) xP) (LQ p l (M + 1) yP))
    refine eqv_trans h1 (eqv2.2 fun i j hij => ?_)
    show (LQ p l (M + 1) (tyF p M l k) i j + (ml (ic (l 0)) (tyE p M l (k + 2) (tyF p M l k)) : Nat → Nat → Int) i j) % 0 = _
    rw [icml2, H.one]
    have hD : DP p M l (tyF p M l k) i j = LQ p l (M + 1) (tyF p M l k) i j - (ad (LQ p l (M + 1) xP) (LQ p l (M + 1) yP) : Nat → Nat → Int) i j := by
      show LQ p l (M + 1) (tyF p M l k) i j + (ng (ad (LQ p l (M + 1) xP) (LQ p l (M + 1) yP)) : Nat → Nat → Int) i j = _
      rw [ser_ng, ser_ng]
      show _ + (-1) * _ = _
      omega
    by_cases h : i + j = k + 2
    · obtain ⟨c, hc⟩ := lo2_iff.1 hd i j (by omega)
      unfold tyE
      rw [if_pos h, hc]
      have hpM : (p : Int) ^ M ≠ 0 := by
        have := H.pr.pos
        exact Int.pow_ne_zero (by omega)
      rw [Int.mul_ediv_cancel_left _ hpM]
      rw [hD] at hc
      congr 1
      rw [Int.mul_neg]
      omega
    · have h0 := lo2_iff.1 ih i j (by omega)
      rw [Int.zero_dvd, hD] at h0
      unfold tyE
      rw [if_neg h, Int.mul_zero]
      congr 1
      omega
end typ
end Go.Proofs.YteijannfbafdpaaGreatDoor

/- The numerators of a typical logarithm; its functional equation over the integers. No program stands here. -/
set_option linter.unusedSimpArgs false
set_option linter.unusedVariables false
namespace Go.Proofs.YteijannfbafdpaaGreatDoor
open Rg

theorem ipow1 (x : Int) : x ^ 1 = x := by rw [Int.pow_succ, Int.pow_zero, Int.one_mul]
def numL (p : Nat) (v : Nat → Int) : Nat → List Int
  | 0 => [1]
  | k + 1 => numL p v k ++ [sumN (k + 1) (fun i => (p : Int) ^ (k - i) * at0 (numL p v k) i * v (k - i) ^ (p ^ i))]
def num (p : Nat) (v : Nat → Int) (k : Nat) : Int := at0 (numL p v k) k
theorem numL_len (p : Nat) (v : Nat → Int) (k : Nat) : (numL p v k).length = k + 1 := by
  induction k with
  | zero => rfl
  | succ k ih => show (numL p v k ++ [_]).length = _; rw [List.length_append, ih]; rfl
theorem at0_left {a b : List Int} {k : Nat} (h : k < a.length) : at0 (a ++ b) k = at0 a k := by
  unfold at0 List.getD; rw [List.getElem?_append_left h]
theorem at0_lst {a : List Int} {x : Int} : at0 (a ++ [x]) a.length = x := by
  unfold at0 List.getD; rw [List.getElem?_append_right (Nat.le_refl _)]; simp
theorem numL_at (p : Nat) (v : Nat → Int) : ∀ (n k : Nat), k ≤ n → at0 (numL p v n) k = num p v k
  | 0, k, h => by
    obtain rfl : k = 0 := by omega
    rfl
  | n + 1, k, h => by
    by_cases hk : k ≤ n
    · rw [← numL_at p v n k hk]
      show at0 (numL p v n ++ [_]) k = _
      exact at0_left (by rw [numL_len]; omega)
    · obtain rfl : k = n + 1 := by omega
      rfl
theorem num_0 (p : Nat) (v : Nat → Int) : num p v 0 = 1 := rfl
theorem num_succ (p : Nat) (v : Nat → Int) (k : Nat) : num p v (k + 1) = sumN (k + 1) (fun i => (p : Int) ^ (k - i) * num p v i * v (k - i) ^ (p ^ i)) := by
  unfold num
  show at0 (numL p v k ++ [_]) (k + 1) = _
  have h := numL_len p v k
  rw [← h, at0_lst, h]
  exact sumN_congr fun i hi => by rw [numL_at p v k i (by omega)]; rfl
theorem num_1 (p : Nat) (v : Nat → Int) : num p v 1 = v 0 := by
  rw [num_succ]
  show 0 + (p : Int) ^ 0 * num p v 0 * v 0 ^ (p ^ 0) = _
  rw [num_0, Nat.pow_zero, Int.pow_zero, ipow1]
  simp
theorem num_2 (p : Nat) (v : Nat → Int) : num p v 2 = p * v 1 + v 0 * v 0 ^ p := by
  rw [num_succ]
  show 0 + (p : Int) ^ 1 * num p v 0 * v 1 ^ (p ^ 0) + (p : Int) ^ 0 * num p v 1 * v 0 ^ (p ^ 1) = _
  rw [num_0, num_1, Nat.pow_zero, Int.pow_zero, Nat.pow_one, ipow1, ipow1]
  simp
theorem num_3 (p : Nat) (v : Nat → Int) : num p v 3 = (p : Int) ^ 2 * v 2 + p * v 0 * v 1 ^ p + num p v 2 * v 0 ^ (p ^ 2) := by
  rw [num_succ]
  show 0 + (p : Int) ^ 2 * num p v 0 * v 2 ^ (p ^ 0) + (p : Int) ^ 1 * num p v 1 * v 1 ^ (p ^ 1) + (p : Int) ^ 0 * num p v 2 * v 0 ^ (p ^ 2) = _
  rw [num_0, num_1, Nat.pow_zero, Int.pow_zero, Nat.pow_one, ipow1, ipow1]
  simp

def Most (p M : Nat) : Prop := P4 p ∧ M ≤ 3 ∧ (3 ≤ p → M ≤ 2) ∧ (5 ≤ p → M ≤ 1)
def tyl (p M : Nat) (v : Nat → Int) (k : Nat) : Int := (p : Int) ^ (M - k) * num p v k
theorem tyl_ok {p M : Nat} (h : Most p M) (v : Nat → Int) : ∃ ν, TyL p M (tyl p M v) ν := by
  obtain ⟨hp, h3, h2, h1⟩ := h
  obtain ⟨e, he⟩ := fermat hp (v 0)
  have key : ∃ ν : Nat → Int, ∀ k, k < M → num p v (k + 1) = sm (k + 1) (fun j => (p : Int) ^ j * ν j * num p v (k - j)) := by
    have k0 : ∀ ν : Nat → Int, ν 0 = v 0 → num p v (0 + 1) = sm (0 + 1) (fun j => (p : Int) ^ j * ν j * num p v (0 - j)) := by
      intro ν h0
      show num p v 1 = 0 + (p : Int) ^ 0 * ν 0 * num p v 0
      rw [num_1, num_0, h0, Int.pow_zero]; omega
    have k1 : ∀ ν : Nat → Int, ν 0 = v 0 → ν 1 = v 1 + v 0 * e → num p v (1 + 1) = sm (1 + 1) (fun j => (p : Int) ^ j * ν j * num p v (1 - j)) := by
      intro ν h0 h1
      show num p v 2 = 0 + (p : Int) ^ 0 * ν 0 * num p v 1 + (p : Int) ^ 1 * ν 1 * num p v 0
      rw [num_2, num_1, num_0, h0, h1, he, Int.pow_zero]
      grind
    by_cases hM : M ≤ 2
    · refine ⟨fun j => if j = 0 then v 0 else v 1 + v 0 * e, fun k hk => ?_⟩
      obtain rfl | rfl : k = 0 ∨ k = 1 := by omega
      · exact k0 _ rfl
      · exact k1 _ rfl rfl
    · obtain rfl : M = 3 := by omega
      have hp2 : p = 2 := by rcases hp with h | h | h | h <;> omega
      subst hp2
      obtain ⟨g, hg⟩ := fermat hp (v 1)
      refine ⟨fun j => if j = 0 then v 0 else if j = 1 then v 1 + v 0 * e else v 2 + v 0 * g + v 1 * (e + 2 * v 0 * e + 2 * e ^ 2) + v 0 * e ^ 2 + v 0 ^ 4 * e + v 0 ^ 3 * e ^ 2, fun k hk => ?_⟩
      obtain rfl | rfl | rfl : k = 0 ∨ k = 1 ∨ k = 2 := by omega
      · exact k0 _ rfl
      · exact k1 _ rfl rfl
      · show num 2 v 3 = 0 + ((2 : Nat) : Int) ^ 0 * v 0 * num 2 v 2 + ((2 : Nat) : Int) ^ 1 * (v 1 + v 0 * e) * num 2 v 1 + ((2 : Nat) : Int) ^ 2 * (v 2 + v 0 * g + v 1 * (e + 2 * v 0 * e + 2 * e ^ 2) + v 0 * e ^ 2 + v 0 ^ 4 * e + v 0 ^ 3 * e ^ 2) * num 2 v 0
        rw [num_3, num_2, num_1, num_0, show (2 : Nat) ^ 2 = 4 from rfl]
        generalize v 0 = a at he ⊢
        generalize v 1 = b at hg ⊢
        generalize v 2 = c
        have q2 : ((2 : Nat) : Int) = 2 := rfl
        rw [q2] at he hg ⊢
        grind
  obtain ⟨ν, hν⟩ := key
  refine ⟨ν, hp, ?_, fun k hk => ⟨num p v k, rfl⟩, fun k hk => ?_⟩
  · show (p : Int) ^ (M - 0) * num p v 0 = _
    rw [num_0, Int.mul_one, Nat.sub_zero]
  · show (p : Int) * ((p : Int) ^ (M - (k + 1)) * num p v (k + 1)) = _
    rw [← Int.mul_assoc, Int.mul_comm (p : Int), ← Int.pow_succ, show (M - (k + 1)).succ = M - k by omega, hν k hk]
    have e1 := sm_ml (T := Int) (k + 1) (fun j => (p : Int) ^ j * ν j * num p v (k - j)) ((p : Int) ^ (M - k))
    refine Eq.trans e1 (sm_congr fun j hj => ?_)
    show (p : Int) ^ (M - k) * ((p : Int) ^ j * ν j * num p v (k - j)) = ν j * ((p : Int) ^ (M - (k - j)) * num p v (k - j))
    rw [show M - (k - j) = (M - k) + j by omega, Int.pow_add]
    ac_rfl

theorem ty_ex {p M : Nat} (h : Most p M) (v : Nat → Int) {n : Nat} (h2 : 2 ≤ n) (hn : n ≤ p ^ (M + 1)) :
    ∃ F : Nat → Nat → Int, F = tyF p M (tyl p M v) (n - 2) ∧ F 0 0 = 0 ∧ eqv 0 n (LQ p (tyl p M v) (M + 1) F) (ad (LQ p (tyl p M v) (M + 1) xP) (LQ p (tyl p M v) (M + 1) yP)) := by
  obtain ⟨ν, hν⟩ := tyl_ok h v
  refine ⟨_, rfl, tyF_0 _ _ _ _, ?_⟩
  have := tyF_ok hν (n - 2) (by omega)
  rw [show n - 2 + 2 = n by omega] at this
  exact this
end Go.Proofs.YteijannfbafdpaaGreatDoor

/- The typical law as the program finds it: in the coordinate X with x = p X. No program stands here. -/
set_option linter.unusedSimpArgs false
set_option linter.unusedVariables false
namespace Go.Proofs.YteijannfbafdpaaGreatDoor
open Rg

theorem pow_gt {p : Nat} (hp : 2 ≤ p) (k : Nat) : k + 1 ≤ p ^ k := by
  induction k with
  | zero => rw [Nat.pow_zero]; omega
  | succ k ih =>
    rw [Nat.pow_succ]
    exact Nat.le_trans (show k + 1 + 1 ≤ (k + 1) * 2 by omega) (Nat.mul_le_mul ih hp)
def hF (p : Nat) (F : Nat → Nat → Int) : Nat → Nat → Int := fun i j => (p : Int) ^ (i + j - 1) * F i j
theorem sum_at {T : Type} [Rg T] {n j : Nat} (hj : j < n) (c : Int) (f : Nat → T) : sm n (fun i => ml (ic (if i = j then c else 0)) (f i)) = ml (ic c) (f j) := by
  induction n with
  | zero => omega
  | succ n ih =>
    show ad (sm n _) (ml (ic (if n = j then c else 0)) (f n)) = _
    by_cases h : n = j
    · subst h
      rw [if_pos rfl, sm_none fun i hi => by show ml (ic (if i = n then c else 0)) (f i) = zz; rw [if_neg (by omega), ic_0, zz_ml], zz_ad]
    · rw [if_neg h, ic_0, zz_ml, ad_zz, ih (by omega)]
end Go.Proofs.YteijannfbafdpaaGreatDoor
