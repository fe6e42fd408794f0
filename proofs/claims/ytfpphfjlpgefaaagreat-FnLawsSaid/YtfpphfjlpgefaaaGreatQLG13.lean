/- Lemmas. -/
import Derived.Test.YtfpphfjlpgefaaaGreatQLG11
import Derived.Test.YtfpphfjlpgefaaaGreatQLG1
import Derived.Test.YtfpphfjlpgefaaaGreatQLG12
/- Lists and tables of numbers as power series: what the lists' operations are in the ring. No program stands here. -/
set_option linter.unusedSimpArgs false
set_option linter.unusedVariables false
namespace Go.Proofs.YtfpphfjlpgefaaaGreat
open Rg

theorem sumN_sm (n : Nat) (f : Nat → Int) : sumN n f = sm n f := by
 induction n with
 | zero => rfl
 | succ n ih => simp only [sumN]; rw [ih]; rfl
theorem cv_conv (f g : Nat → Int) (k : Nat) : (ml f g : Nat → Int) k = conv f g k := (sumN_sm _ _).symm
theorem cv_conv2 (F G : Nat → Nat → Int) (p q : Nat) : (ml F G : Nat → Nat → Int) p q = conv2 F G p q := by
 show (sm (p + 1) (fun i => ml (F i) (G (p - i))) : Nat → Int) q = _
 rw [ser_sm]
 unfold conv2
 rw [sumN_sm]
 exact sm_congr fun i _ => cv_conv _ _ _
theorem mod_self_mod (a m : Int) : a % m % m = a % m := Int.emod_emod_of_dvd _ (Int.dvd_refl m)
theorem L_mk (m : Int) (n : Nat) (f : Nat → Int) : eqv m n (at0 (mk n (fun k => f k % m))) f := eqv1.2 fun k hk => by rw [mk_at hk, mod_self_mod]
theorem T_tri (m : Int) (n : Nat) (F : Nat → Nat → Int) : eqv m n (atT (tri n (fun i j => F i j % m))) F := eqv2.2 fun i j h => by rw [atT_tri h, mod_self_mod]
theorem L_times (m : Int) (n : Nat) (a b : List Int) : eqv m n (at0 (timesL m n a b)) (ml (at0 a) (at0 b)) :=
 eqv_trans (L_mk m n _) (eqv_of (funext fun k => (cv_conv _ _ k).symm))
theorem T_times (m : Int) (n : Nat) (a b : List (List Int)) : eqv m n (atT (timesT m n a b)) (ml (atT a) (atT b)) :=
 eqv_trans (T_tri m n _) (eqv_of (funext fun p => funext fun q => (cv_conv2 _ _ p q).symm))
theorem at0_rep (n k : Nat) : at0 (List.replicate n (0 : Int)) k = 0 := by
 rw [mk_zero]
 by_cases h : k < n
 ·exact mk_at h
 ·exact mk_out (by omega)
theorem L_pow (m : Int) (n : Nat) (a : List Int) (k : Nat) : eqv m n (at0 (powL m n a k)) (pw (at0 a) k) := by
 induction k with
 | zero =>
   refine eqv1.2 fun k hk => ?_
   unfold powL
   rw [at0_set, at0_rep, List.length_replicate]
   show _ = (if k = 0 then (1 : Int) else 0) % m
   by_cases h : k = 0
   ·rw [if_pos ⟨h, by omega⟩, if_pos h, mod_self_mod]
   ·rw [if_neg (fun e => h e.1), if_neg h]
 | succ k ih => exact eqv_trans (L_times m n _ _) (eqv_mlr _ ih)
theorem T_pow (m : Int) (n : Nat) (t : List (List Int)) (k : Nat) : eqv m n (atT (powT m n t k)) (pw (atT t) k) := by
 induction k with
 | zero =>
   refine eqv2.2 fun i j h => ?_
   unfold powT
   rw [atT_tri h]
   show _ = (if i = 0 then (fun j : Nat => if j = 0 then (1 : Int) else 0) else (fun _ => 0)) j % m
   by_cases hi : i = 0
   ·by_cases hj : j = 0
    ·rw [if_pos ⟨hi, hj⟩, if_pos hi, if_pos hj, mod_self_mod]
    ·rw [if_neg (fun e => hj e.2), if_pos hi, if_neg hj]
   ·rw [if_neg (fun e => hi e.1), if_neg hi]
 | succ k ih => exact eqv_trans (T_times m n _ _) (eqv_mlr _ ih)
theorem atT_out {m : Int} {n : Nat} {t : List (List Int)} (ht : PlaT m n t) {i j : Nat} (h : n ≤ i + j) : atT t i j = 0 := by
 obtain ⟨hl, hr⟩ := ht
 by_cases hi : i < t.length
 ·rw [atT_row hi]
  exact at0_out (by rw [(hr i hi).1]; omega)
 ·unfold atT List.getD
  rw [List.getElem?_eq_none (by omega)]; rfl
theorem sm_short {T : Type} [Rg T] {n k : Nat} {f : Nat → T} (hk : k ≤ n) (h : ∀ i, k ≤ i → i < n → f i = zz) : sm n f = sm k f := by
 obtain ⟨d, rfl⟩ : ∃ d, n = k + d := ⟨n - k, by omega⟩
 rw [sm_split, sm_none (n := d) fun i hi => h (k + i) (by omega) (by omega), ad_zz]
theorem L_put {m : Int} {n : Nat} {t : List (List Int)} (ht : PlaT m n t) (a b : List Int) : eqv m n (at0 (putL m n t a b)) (ev2 n (atT t) (at0 a) (at0 b)) := by
 refine eqv_trans (L_mk m n _) (eqv1.2 fun k hk => ?_)
 rw [ev2_sum, ser_sm]
 show putS n (atT t) (powL m n a) (powL m n b) n 0 k % m = _
 unfold putS
 rw [show sumN 0 (fun j' => atT t n j' * conv (at0 (powL m n a n)) (at0 (powL m n b j')) k) = 0 from rfl, Int.add_zero, ← sumN_sm]
 refine sumN_mod fun i hi => ?_
 rw [ser_sm, ← sumN_sm]
 rw [sumN_cut (n := n) (k := n - i) (by omega) fun j hj _ => ?_]
 ·refine sumN_mod fun j hj => ?_
  rw [ser_icml]
  show atT t i j * _ % m = (atT t i j * _) % m
  refine emod_congr_mul rfl ?_
  rw [← cv_conv]
  exact eqv1.1 (eqv_ml (L_pow m n a i) (L_pow m n b j)) k hk
 ·rw [ser_icml, atT_out ht (by omega)]
  exact Int.zero_mul _
theorem ic_ser1 (c : Int) (k : Nat) : (ic c : Nat → Int) k = if k = 0 then c else 0 := rfl
def hs {T : Type} [Rg T] (cs : List Int) (a : T) : T := sm cs.length (fun k => ml (ic (at0 cs k)) (pw a k))
theorem hs_cons {T : Type} [Rg T] (c : Int) (cs : List Int) (a : T) : hs (c :: cs) a = ad (ic c) (ml (hs cs a) a) := by
 unfold hs
 rw [List.length_cons, sm_first, sm_mr]
 congr 1
 ·show ml (ic c) oo = _
  rw [ml_oo]
 ·exact sm_congr fun k _ => by rw [show at0 (c :: cs) (k + 1) = at0 cs k from rfl, ml_assoc]; rfl
theorem hs_ev1 {T : Type} [Rg T] {n : Nat} {cs : List Int} (h : cs.length ≤ n) (a : T) : ev1 n (at0 cs) a = hs cs a :=
 sm_short h fun i hi _ => by rw [at0_out hi, ic_0, zz_ml]
theorem L_addc {m : Int} {n : Nat} {c : Int} {l : List Int} (hl : l.length = n) : eqv m n (at0 (addc m c l)) (ad (ic c) (at0 l)) := by
 refine eqv1.2 fun k hk => ?_
 unfold addc
 rw [at0_set, ser_ad, ic_ser1]
 show _ = ((if k = 0 then c else 0) + at0 l k) % m
 by_cases h : k = 0
 ·subst h; rw [if_pos ⟨rfl, by omega⟩, if_pos rfl, mod_self_mod, Int.add_comm]
 ·rw [if_neg (fun e => h e.1), if_neg h, Int.zero_add]
theorem L_horn' (m : Int) (n : Nat) (f cs : List Int) : eqv m n (at0 (horn m n f cs)) (hs cs (at0 f)) := by
 induction cs with
 | nil => exact eqv1.2 fun k hk => by show at0 (List.replicate n 0) k % m = _; rw [at0_rep]; rfl
 | cons c cs ih =>
   rw [hs_cons]
   exact eqv_trans (L_addc (timesL_len _ _ _ _)) (eqv_ad eqv_rfl (eqv_trans (L_times _ _ _ _) (eqv_mlr _ ih)))
theorem L_horn {m : Int} {n : Nat} (f cs : List Int) (hc : cs.length ≤ n) : eqv m n (at0 (horn m n f cs)) (ev1 n (at0 cs) (at0 f)) := by
 rw [hs_ev1 hc]; exact L_horn' m n f cs
theorem lo_at0 {m : Int} {a : List Int} (h : at0 a 0 = 0) : lo m 1 (at0 a) := fun i => by
 by_cases hi : i = 0
 ·subst hi; rw [h]; exact lo_zz _ _
 ·rw [show 1 - i = 0 by omega]; exact lo_0 _ _
theorem lo_fun {m : Int} {k : Nat} {f : Nat → Int} (h : ∀ i, i < k → f i = 0) : lo m k f := fun i => by
 by_cases hi : i < k
 ·rw [h i hi]; exact lo_zz _ _
 ·rw [show k - i = 0 by omega]; exact lo_0 _ _
theorem lw_of {m : Int} {n : Nat} {t : List (List Int)} (h2 : 2 ≤ n) (ht : PlaT m n t) (h : fauL m t n = []) : Lw m n (atT t) := by
 obtain ⟨h1, hs, ha⟩ := fauL_nil h
 refine ⟨h2, ?_, fun i hi => ?_, fun i j hij => ?_, fun p q k hpq => ?_⟩
 ·rw [h1 0 (by omega)]; rfl
 ·rw [h1 i hi]; rfl
 ·rcases Nat.lt_trichotomy i j with e | e | e
  ·rw [hs i j e hij]
  ·rw [e]
  ·rw [hs j i e (by omega)]
 ·have h := ha p q k hpq
  unfold lefC rigC at h
  have e1 : sumN (n - k) (fun i => atT t i k * atT (powT m n t i) p q) % m = sm n (fun i => atT t i k * (pw (atT t) i : Nat → Nat → Int) p q) % m := by
   rw [← sumN_sm, sumN_cut (n := n) (k := n - k) (by omega) fun i hi _ => by rw [atT_out ht (by omega), Int.zero_mul]]
   exact sumN_mod fun i _ => emod_congr_mul rfl (eqv2.1 (T_pow m n t i) p q (by omega))
  have e2 : sumN (n - p) (fun j => atT t p j * atT (powT m n t j) q k) % m = sm n (fun j => atT t p j * (pw (atT t) j : Nat → Nat → Int) q k) % m := by
   rw [← sumN_sm, sumN_cut (n := n) (k := n - p) (by omega) fun j hj _ => by rw [atT_out ht (by omega), Int.zero_mul]]
   exact sumN_mod fun j _ => emod_congr_mul rfl (eqv2.1 (T_pow m n t j) q k (by omega))
  rw [← e1, ← e2, h]
theorem list_eq {m : Int} {n : Nat} {xs ys : List Int} (hx : xs.length = n) (hy : ys.length = n) (rx : ∀ x ∈ xs, 0 ≤ x ∧ x < m) (ry : ∀ x ∈ ys, 0 ≤ x ∧ x < m) (h : eqv m n (at0 xs) (at0 ys)) : xs = ys := by
 rw [eq_mk xs, eq_mk ys, hx, hy]
 refine mk_ext fun k hk => ?_
 have := eqv1.1 h k hk
 have a := rx _ (mem_at0 (xs := xs) (k := k) (by omega))
 have b := ry _ (mem_at0 (xs := ys) (k := k) (by omega))
 rwa [Int.emod_eq_of_lt a.1 a.2, Int.emod_eq_of_lt b.1 b.2] at this
def mon (k : Nat) (c : Int) : Nat → Int := fun i => if i = k then c else 0
theorem lo_mon (m : Int) (k : Nat) (c : Int) : lo m k (mon k c) := lo_fun fun i hi => if_neg (by omega)
theorem invTo_hi (m : Int) (n : Nat) (t : List (List Int)) (k : Nat) : ∀ i, k < i → at0 (invTo m n t k) i = 0 := by
 induction k with
 | zero => intro i _; exact at0_rep _ _
 | succ k ih => intro i hi; unfold invTo; rw [at0_set, if_neg (by omega)]; exact ih i (by omega)
theorem L_inv {m : Int} {n : Nat} {t : List (List Int)} (L : Lw m n (atT t)) (ht : PlaT m n t) : eqv m n (ev2 n (atT t) (at0 (varL n)) (at0 (invL m n t))) zz := by
 have h2 := L.two
 have h0 : at0 (varL n) 0 = 0 := by unfold varL; rw [at0_set, if_neg (by omega)]; exact at0_rep _ _
 have key : ∀ k, k + 1 ≤ n → eqv m (k + 1) (ev2 n (atT t) (at0 (varL n)) (at0 (invTo m n t k))) zz := by
  intro k
  induction k with
  | zero =>
    intro _
    exact eqv_lo (ev2_lo _ L.zer (Nat.le_refl _) (lo_at0 h0) (lo_at0 (invTo_0 m n t 0)))
  | succ k ih =>
    intro hk
    have ih := ih (by omega)
    obtain ⟨c, hc⟩ : ∃ c, c = (-(at0 (putL m n t (varL n) (invTo m n t k)) (k + 1))) % m := ⟨_, rfl⟩
    have e : at0 (invTo m n t (k + 1)) = ad (at0 (invTo m n t k)) (mon (k + 1) c) := by
     funext i
     show at0 ((invTo m n t k).set (k + 1) _) i = at0 (invTo m n t k) i + (if i = k + 1 then c else 0)
     rw [← hc, at0_set, invTo_len]
     by_cases hi : i = k + 1
     ·rw [if_pos ⟨hi, by omega⟩, if_pos hi, hi, invTo_hi m n t k (k + 1) (by omega), Int.zero_add]
     ·rw [if_neg (fun e => hi e.1), if_neg hi, Int.add_zero]
    rw [e]
    refine eqv_trans (ev2_late L (lo_at0 h0) (lo_at0 (invTo_0 m n t k)) (lo_mon m (k + 1) c) (by omega) hk (by omega)) ?_
    refine eqv1.2 fun i hi => ?_
    show (ev2 n (atT t) (at0 (varL n)) (at0 (invTo m n t k)) i + mon (k + 1) c i) % m = 0 % m
    by_cases hik : i = k + 1
    ·subst hik
     have := eqv1.1 (L_put ht (varL n) (invTo m n t k)) (k + 1) (by omega)
     unfold mon
     rw [if_pos rfl, Int.add_emod, ← this, hc, mod_self_mod, ← Int.add_emod, Int.add_right_neg]
    ·have := eqv1.1 ih i (by omega)
     unfold mon
     rw [if_neg hik, Int.add_zero, this]; rfl
 have := key (n - 1) (by omega)
 rw [show n - 1 + 1 = n by omega] at this
 exact this
theorem ev1_var {T : Type} [Rg T] {m : Int} {n : Nat} (h2 : 2 ≤ n) (a : T) : ev1 n (at0 (varL n)) a = a := by
 unfold ev1 ex
 rw [sm_congr (g := fun i => ml (ic (if i = 1 then 1 else 0)) (pw a i)) fun i hi => ?_, sum_one h2, pw_1]
 unfold varL
 rw [at0_set, at0_rep, List.length_replicate]
 by_cases h : i = 1
 ·rw [if_pos ⟨h, by omega⟩, if_pos h]
 ·rw [if_neg (fun e => h e.1), if_neg h]
theorem ev2_opp {T : Type} [Rg T] {m : Int} {n : Nat} {t : List (List Int)} (L : Lw m n (atT t)) (ht : PlaT m n t) {a : T} (ha : lo m 1 a) : eqv m n (ev2 n (atT t) a (ev1 n (at0 (invL m n t)) a)) zz := by
 have H := hm1 (n := n) ha
 have h := H.eqv (Nat.le_refl _) (L_inv L ht)
 rw [H.zz] at h
 refine eqv_trans (eqv_symm ?_) h
 have h1 := H.of_ex (χ := ex n Rg.ic (at0 (invL m n t))) (ψ := ex n Rg.ic (ev1 n (at0 (invL m n t)) a)) (fun x => H.of_ex (fun c => H.ic c) _ x) (at0 (varL n)) (atT t)
 rw [ev1_var (m := m) L.two] at h1
 exact h1
end Go.Proofs.YtfpphfjlpgefaaaGreat

/- The laws of series: products, compositions, inverses, reversions. No program stands here. -/
namespace Go.Proofs.YtfpphfjlpgefaaaGreat
open Rg

section ev
variable {T : Type} [Rg T]
end ev

theorem sumN_only {n i : Nat} {f : Nat → Int} (hi : i < n) (h : ∀ j, j < n → j ≠ i → f j = 0) : sumN n f = f i := by
 induction n with
 | zero => omega
 | succ n ih =>
   simp only [sumN]
   by_cases e : i = n
   ·subst e
    rw [sumN_zero fun j hj => h j (by omega) (by omega), Int.zero_add]
   ·rw [ih (by omega) fun j hj hne => h j (by omega) hne, h n (by omega) (by omega), Int.add_zero]
def xS : Nat → Int := mon 1 1
end Go.Proofs.YtfpphfjlpgefaaaGreat

/- The Weierstrass series: the program's iteration and the reference's recursion make the same list. No program stands here. -/
namespace Go.Proofs.YtfpphfjlpgefaaaGreat
open Rg

def weiV (m : Int) (a : Nat → Int) (w : List Int) (k : Nat) : Int :=
 (a 0 * at0 w (k + 2) + a 1 * at0 w (k + 1) + a 2 * at0 (timesL m (k + 4) w w) (k + 3) + a 3 * at0 (timesL m (k + 4) w w) (k + 2) + a 4 * at0 (timesL m (k + 4) (timesL m (k + 4) w w) w) (k + 3) + (if k = 0 then 1 else 0)) % m
def weiR (m : Int) (N : Nat) (a : Nat → Int) : Nat → List Int
 | 0 => List.replicate N 0
 | k + 1 => (weiR m N a k).set (k + 3) (weiV m a (weiR m N a k) k)
theorem weiR_len (m : Int) (N : Nat) (a : Nat → Int) : ∀ k, (weiR m N a k).length = N
 | 0 => by simp [weiR]
 | k + 1 => by simp [weiR, weiR_len m N a k]
theorem weiR_range {m : Int} (hm : 0 < m) (N : Nat) (a : Nat → Int) : ∀ k, ∀ y ∈ weiR m N a k, 0 ≤ y ∧ y < m
 | 0 => by intro y hy; simp [weiR] at hy; omega
 | k + 1 => by
   intro y hy
   rcases List.mem_or_eq_of_mem_set hy with h | rfl
   ·exact weiR_range hm N a k y h
   ·exact mod_lt' hm
theorem x_ml (f : Nat → Int) (k : Nat) : (ml xS f : Nat → Int) (k + 1) = f k := by
 rw [cv_conv]
 unfold conv
 rw [sumN_only (i := 1) (by omega) fun j hj hne => by unfold xS mon; rw [if_neg hne, Int.zero_mul]]
 unfold xS mon
 rw [if_pos rfl, Int.one_mul, Nat.add_sub_cancel]
theorem x_ml0 (f : Nat → Int) : (ml xS f : Nat → Int) 0 = 0 := by
 rw [cv_conv]
 unfold conv
 rw [sumN_one]
 unfold xS mon
 rw [if_neg (by omega), Int.zero_mul]
theorem x3 (k : Nat) : (ml (ml xS xS) xS : Nat → Int) k = if k = 3 then 1 else 0 := by
 rw [ml_assoc]
 cases k with
 | zero => rw [x_ml0]; rfl
 | succ k =>
   rw [x_ml]
   cases k with
   | zero => rw [x_ml0]; rfl
   | succ k =>
     rw [x_ml]
     unfold xS mon
     by_cases h : k = 1
     ·subst h; rfl
     ·rw [if_neg h, if_neg (by omega)]
end Go.Proofs.YtfpphfjlpgefaaaGreat

/- Inverses of series with the constant 1, as the program and the reference make them. No program stands here. -/
namespace Go.Proofs.YtfpphfjlpgefaaaGreat
open Rg

section inv
variable {T : Type} [Rg T]
def geo (r : T) : Nat → T
 | 0 => oo
 | j + 1 => ad (ml (geo r j) r) oo
def sgnL (m : Int) (n : Nat) : List Int := mk n (fun k => if k % 2 = 0 then 1 else m - 1)
end inv

section law
variable {T : Type} [Rg T]
end law
end Go.Proofs.YtfpphfjlpgefaaaGreat

/- The Weierstrass law: the program's table and the reference's are one. No program stands here. -/
namespace Go.Proofs.YtfpphfjlpgefaaaGreat
open Rg

def subT (m : Int) (n : Nat) (a b : List (List Int)) : List (List Int) := tri n (fun i j => (atT a i j - atT b i j) % m)
def scaT (m : Int) (n : Nat) (c : Int) (t : List (List Int)) : List (List Int) := tri n (fun i j => (c * atT t i j) % m)
def oneT (m : Int) (n : Nat) : List (List Int) := tri n (fun i j => (if i = 0 ∧ j = 0 then 1 else 0) % m)
def xT (n : Nat) : List (List Int) := tri n (fun i j => if i = 1 ∧ j = 0 then 1 else 0)
def yT (n : Nat) : List (List Int) := tri n (fun i j => if i = 0 ∧ j = 1 then 1 else 0)
def linT (m : Int) (n : Nat) (W : List Int) : List (List Int) := tri n (fun i j => at0 W (i + j + 1) % m)
def clnT (m : Int) (n : Nat) (w : List Int) : List (List Int) := tri n (fun i j => (if j = 0 then at0 w i else 0) % m)
def geoT (m : Int) (n : Nat) (r : List (List Int)) : Nat → List (List Int)
 | 0 => oneT m n
 | j + 1 => addT m n (timesT m n (geoT m n r j) r) (oneT m n)
def invT (m : Int) (n : Nat) (f : List (List Int)) : List (List Int) := geoT m n (subT m n (oneT m n) f) (n - 1)
section tabs
variable (m : Int) (n : Nat) (a : Nat → Int) (W : List Int)
end tabs
section tabr
variable (m : Int) (n : Nat) (a : Nat → Int) (W : List Int)
def wrV (L : List (List Int)) : List (List Int) := addT m n (clnT m n (W.take n)) (scaT m n (m - 1) (timesT m n L (xT n)))
def wrTop (L V : List (List Int)) : List (List Int) :=
 addT m n (addT m n (addT m n (addT m n (scaT m n (a 0) L) (scaT m n (a 1) V)) (scaT m n (a 2) (timesT m n L L))) (scaT m n (2 * a 3 % m) (timesT m n L V))) (scaT m n (3 * a 4 % m) (timesT m n (timesT m n L L) V))
def wrBot (L : List (List Int)) : List (List Int) :=
 addT m n (addT m n (scaT m n (a 1) L) (scaT m n (a 3) (timesT m n L L))) (scaT m n (a 4) (timesT m n (timesT m n L L) L))
def wrU (L : List (List Int)) : List (List Int) :=
 scaT m n (m - 1) (addT m n (addT m n (xT n) (yT n)) (timesT m n (wrTop m n a L (wrV m n W L)) (hornT m n (wrBot m n a L) (sgnL m n))))
def wrB : List Int := mk n (fun k => if k = 0 then 1 else (m - (a 2 * at0 W k + (if k = 1 then a 0 else 0)) % m) % m)
def wrLaw : List (List Int) := hornT m n (wrU m n a W (linT m n W)) (timesL m n ((List.replicate n 0).set 1 (m - 1)) (invS m n (wrB m n a W)))
end tabr
end Go.Proofs.YtfpphfjlpgefaaaGreat
