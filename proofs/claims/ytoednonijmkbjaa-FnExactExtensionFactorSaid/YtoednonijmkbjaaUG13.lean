/- Lemmas of G13. -/
import Derived.Test.YtoednonijmkbjaaUG11
import Derived.Test.YtoednonijmkbjaaUG1
import Derived.Test.YtoednonijmkbjaaUG12
/- Lists and tables of numbers as power series: what the lists' operations are in the ring. No program stands here. -/
set_option linter.unusedSimpArgs false
set_option linter.unusedVariables false
namespace Go.Proofs.Ytoednonijmkbjaa
open Rg

theorem sumN_sm (n : Nat) (f : Nat → Int) : sumN n f = sm n f := by
  induction n with
  | zero => rfl
  | succ n ih => simp only [sumN]; rw [ih]; rfl
theorem cv_conv (f g : Nat → Int) (k : Nat) : (ml f g : Nat → Int) k = conv f g k := (sumN_sm _ _).symm
theorem cv_conv2 (F G : Nat → Nat → Int) (p q : Nat) : (ml F G : Nat → Nat → Int) p q = conv2 F G p q := by
  show (sm (p + 1) (fun i => ml (F i) (G (p - i))) : Nat → Int) q = _
  rw [ser_sm]
  unfold conv2
  rw [sumN_sm]
  exact sm_congr fun i _ => cv_conv _ _ _
theorem mod_self_mod (a m : Int) : a % m % m = a % m := Int.emod_emod_of_dvd _ (Int.dvd_refl m)
theorem T_tri (m : Int) (n : Nat) (F : Nat → Nat → Int) : eqv m n (atT (tri n (fun i j => F i j % m))) F := eqv2.2 fun i j h => by rw [atT_tri h, mod_self_mod]
theorem T_times (m : Int) (n : Nat) (a b : List (List Int)) : eqv m n (atT (timesT m n a b)) (ml (atT a) (atT b)) :=
  eqv_trans (T_tri m n _) (eqv_of (funext fun p => funext fun q => (cv_conv2 _ _ p q).symm))
theorem T_pow (m : Int) (n : Nat) (t : List (List Int)) (k : Nat) : eqv m n (atT (powT m n t k)) (pw (atT t) k) := by
  induction k with
  | zero =>
    refine eqv2.2 fun i j h => ?_
    unfold powT
    rw [atT_tri h]
    show _ = (if i = 0 then (fun j : Nat => if j = 0 then (1 : Int) else 0) else (fun _ => 0)) j % m
    by_cases hi : i = 0
    · by_cases hj : j = 0
      · rw [if_pos ⟨hi, hj⟩, if_pos hi, if_pos hj, mod_self_mod]
      · rw [if_neg (fun e => hj e.2), if_pos hi, if_neg hj]
    · rw [if_neg (fun e => hi e.1), if_neg hi]
  | succ k ih => exact eqv_trans (T_times m n _ _) (eqv_mlr _ ih)
theorem atT_out {m : Int} {n : Nat} {t : List (List Int)} (ht : PlaT m n t) {i j : Nat} (h : n ≤ i + j) : atT t i j = 0 := by
  obtain ⟨hl, hr⟩ := ht
  by_cases hi : i < t.length
  · rw [atT_row hi]
    exact at0_out (by rw [(hr i hi).1]; omega)
  · unfold atT List.getD
    rw [List.getElem?_eq_none (by omega)]; rfl
def hs {T : Type} [Rg T] (cs : List Int) (a : T) : T := sm cs.length (fun k => ml (ic (at0 cs k)) (pw a k))
def onx (s : Nat → Int) : Nat → Nat → Int := fun i j => if j = 0 then s i else 0
def ony (s : Nat → Int) : Nat → Nat → Int := fun i j => if i = 0 then s j else 0
theorem onx_ml (f g : Nat → Int) : onx (ml f g) = ml (onx f) (onx g) := by
  funext p q
  rw [cv_conv2]
  unfold onx conv2
  by_cases h : q = 0
  · subst h
    rw [if_pos rfl, cv_conv]
    unfold conv
    refine sumN_congr fun i _ => ?_
    simp [sumN]
  · rw [if_neg h, sumN_zero fun i _ => sumN_zero fun j hj => ?_]
    by_cases hj0 : j = 0
    · subst hj0; show _ * (if q - 0 = 0 then g (p - i) else 0) = 0; rw [if_neg (show ¬ q - 0 = 0 by omega), Int.mul_zero]
    · show (if j = 0 then f i else 0) * _ = 0; rw [if_neg hj0, Int.zero_mul]
theorem ony_ml (f g : Nat → Int) : ony (ml f g) = ml (ony f) (ony g) := by
  funext p q
  rw [cv_conv2]
  unfold ony conv2
  by_cases h : p = 0
  · subst h
    rw [if_pos rfl, cv_conv]
    unfold conv
    simp [sumN]
  · rw [if_neg h, sumN_zero fun i hi => sumN_zero fun j hj => ?_]
    by_cases hj0 : i = 0
    · subst hj0; show _ * (if p - 0 = 0 then g (q - j) else 0) = 0; rw [if_neg (show ¬ p - 0 = 0 by omega), Int.mul_zero]
    · show (if i = 0 then f j else 0) * _ = 0; rw [if_neg hj0, Int.zero_mul]
theorem onx_oo : onx (oo : Nat → Int) = oo := by
  funext p q
  show (if q = 0 then (if p = 0 then (1 : Int) else 0) else 0) = (if p = 0 then (fun k : Nat => if k = 0 then (1 : Int) else 0) else (fun _ => 0)) q
  by_cases h : p = 0 <;> by_cases h' : q = 0 <;> simp [h, h']
theorem ony_oo : ony (oo : Nat → Int) = oo := by
  funext p q
  show (if p = 0 then (if q = 0 then (1 : Int) else 0) else 0) = (if p = 0 then (fun k : Nat => if k = 0 then (1 : Int) else 0) else (fun _ => 0)) q
  by_cases h : p = 0 <;> by_cases h' : q = 0 <;> simp [h, h']
theorem onx_pw (f : Nat → Int) (k : Nat) : onx (pw f k) = pw (onx f) k := by
  induction k with
  | zero => exact onx_oo
  | succ k ih => show onx (ml (pw f k) f) = _; rw [onx_ml, ih]; rfl
theorem ony_pw (f : Nat → Int) (k : Nat) : ony (pw f k) = pw (ony f) k := by
  induction k with
  | zero => exact ony_oo
  | succ k ih => show ony (ml (pw f k) f) = _; rw [ony_ml, ih]; rfl
theorem onx_ony (f g : Nat → Int) (p q : Nat) : (ml (onx f) (ony g) : Nat → Nat → Int) p q = f p * g q := by
  rw [cv_conv2]
  unfold conv2
  show sumN p _ + sumN (q + 1) (fun j => onx f p j * ony g (p - p) (q - j)) = _
  rw [sumN_zero fun i hi => sumN_zero fun j _ => by show _ * (if p - i = 0 then g (q - j) else 0) = 0; rw [if_neg (show ¬ p - i = 0 by omega), Int.mul_zero], Int.zero_add]
  rw [sumN_first, sumN_zero fun j hj => by show (if j + 1 = 0 then f p else 0) * _ = 0; rw [if_neg (by omega), Int.zero_mul]]
  unfold onx ony
  simp
theorem lo_fun {m : Int} {k : Nat} {f : Nat → Int} (h : ∀ i, i < k → f i = 0) : lo m k f := fun i => by
  by_cases hi : i < k
  · rw [h i hi]; exact lo_zz _ _
  · rw [show k - i = 0 by omega]; exact lo_0 _ _
theorem lw_of {m : Int} {n : Nat} {t : List (List Int)} (h2 : 2 ≤ n) (ht : PlaT m n t) (h : fauL m t n = []) : Lw m n (atT t) := by
  obtain ⟨h1, hs, ha⟩ := fauL_nil h
  refine ⟨h2, ?_, fun i hi => ?_, fun i j hij => ?_, fun p q k hpq => ?_⟩
  · rw [h1 0 (by omega)]; rfl
  · rw [h1 i hi]; rfl
  · rcases Nat.lt_trichotomy i j with e | e | e
    · rw [hs i j e hij]
    · rw [e]
    · rw [hs j i e (by omega)]
  · have h := ha p q k hpq
    unfold lefC rigC at h
    have e1 : sumN (n - k) (fun i => atT t i k * atT (powT m n t i) p q) % m = sm n (fun i => atT t i k * (pw (atT t) i : Nat → Nat → Int) p q) % m := by
      rw [← sumN_sm, sumN_cut (n := n) (k := n - k) (by omega) fun i hi _ => by rw [atT_out ht (by omega), Int.zero_mul]]
      exact sumN_mod fun i _ => emod_congr_mul rfl (eqv2.1 (T_pow m n t i) p q (by omega))
    have e2 : sumN (n - p) (fun j => atT t p j * atT (powT m n t j) q k) % m = sm n (fun j => atT t p j * (pw (atT t) j : Nat → Nat → Int) q k) % m := by
      rw [← sumN_sm, sumN_cut (n := n) (k := n - p) (by omega) fun j hj _ => by rw [atT_out ht (by omega), Int.zero_mul]]
      exact sumN_mod fun j _ => emod_congr_mul rfl (eqv2.1 (T_pow m n t j) q k (by omega))
    rw [← e1, ← e2, h]
theorem tab_range {m : Int} {n : Nat} {t : List (List Int)} (ht : PlaT m n t) {i j : Nat} (h : i + j < n) : 0 ≤ atT t i j ∧ atT t i j < m := by
  obtain ⟨hl, hr⟩ := ht
  have hi : i < t.length := by omega
  rw [atT_row hi]
  exact (hr i hi).2 _ (mem_at0 (by rw [(hr i hi).1]; omega))
def mon (k : Nat) (c : Int) : Nat → Int := fun i => if i = k then c else 0
end Go.Proofs.Ytoednonijmkbjaa

/- The laws of series: products, compositions, inverses, reversions. No program stands here. -/
set_option linter.unusedSimpArgs false
set_option linter.unusedVariables false
namespace Go.Proofs.Ytoednonijmkbjaa
open Rg

section ev
variable {T : Type} [Rg T]
end ev

theorem sumN_only {n i : Nat} {f : Nat → Int} (hi : i < n) (h : ∀ j, j < n → j ≠ i → f j = 0) : sumN n f = f i := by
  induction n with
  | zero => omega
  | succ n ih =>
    simp only [sumN]
    by_cases e : i = n
    · subst e
      rw [sumN_zero fun j hj => h j (by omega) (by omega), Int.zero_add]
    · rw [ih (by omega) fun j hj hne => h j (by omega) hne, h n (by omega) (by omega), Int.add_zero]
def xS : Nat → Int := mon 1 1
end Go.Proofs.Ytoednonijmkbjaa

/- The Weierstrass series: the program's iteration and the reference's recursion make the same list. No program stands here. -/
set_option linter.unusedSimpArgs false
set_option linter.unusedVariables false
namespace Go.Proofs.Ytoednonijmkbjaa
open Rg

theorem x_ml (f : Nat → Int) (k : Nat) : (ml xS f : Nat → Int) (k + 1) = f k := by
  rw [cv_conv]
  unfold conv
  rw [sumN_only (i := 1) (by omega) fun j hj hne => by unfold xS mon; rw [if_neg hne, Int.zero_mul]]
  unfold xS mon
  rw [if_pos rfl, Int.one_mul, Nat.add_sub_cancel]
theorem x_ml0 (f : Nat → Int) : (ml xS f : Nat → Int) 0 = 0 := by
  rw [cv_conv]
  unfold conv
  rw [sumN_one]
  unfold xS mon
  rw [if_neg (by omega), Int.zero_mul]
theorem x3 (k : Nat) : (ml (ml xS xS) xS : Nat → Int) k = if k = 3 then 1 else 0 := by
  rw [ml_assoc]
  cases k with
  | zero => rw [x_ml0]; rfl
  | succ k =>
    rw [x_ml]
    cases k with
    | zero => rw [x_ml0]; rfl
    | succ k =>
      rw [x_ml]
      unfold xS mon
      by_cases h : k = 1
      · subst h; rfl
      · rw [if_neg h, if_neg (by omega)]
end Go.Proofs.Ytoednonijmkbjaa

/- Inverses of series with the constant 1, as the program and the reference make them. No program stands here. -/
set_option linter.unusedSimpArgs false
set_option linter.unusedVariables false
namespace Go.Proofs.Ytoednonijmkbjaa
open Rg

section inv
variable {T : Type} [Rg T]
end inv

section law
variable {T : Type} [Rg T]
end law
end Go.Proofs.Ytoednonijmkbjaa

/- The Weierstrass law: the program's table and the reference's are one. No program stands here. -/
set_option linter.unusedSimpArgs false
set_option linter.unusedVariables false
namespace Go.Proofs.Ytoednonijmkbjaa
open Rg

def subT (m : Int) (n : Nat) (a b : List (List Int)) : List (List Int) := tri n (fun i j => (atT a i j - atT b i j) % m)
def scaT (m : Int) (n : Nat) (c : Int) (t : List (List Int)) : List (List Int) := tri n (fun i j => (c * atT t i j) % m)
section tabs
variable (m : Int) (n : Nat) (a : Nat → Int) (W : List Int)
end tabs
section tabr
variable (m : Int) (n : Nat) (a : Nat → Int) (W : List Int)
end tabr
end Go.Proofs.Ytoednonijmkbjaa
