/- Lemmas of RgB. -/
import Derived.Test.YtoednonijmkbjaaQRgL
import Derived.Test.YtoednonijmkbjaaQG1
import Derived.Test.YtoednonijmkbjaaQRev
set_option linter.unusedSimpArgs false
set_option linter.unusedVariables false
namespace Go.Proofs.Ytoednonijmkbjaa
open Rg

theorem sumN_sm (n : Nat) (f : Nat → Int) : sumN n f = sm n f := by
  induction n with
  | zero => rfl
  | succ n ih => simp only [sumN]; rw [ih]; rfl
theorem cv_conv (f g : Nat → Int) (k : Nat) : (ml f g : Nat → Int) k = conv f g k := (sumN_sm _ _).symm
theorem cv_conv2 (F G : Nat → Nat → Int) (p q : Nat) : (ml F G : Nat → Nat → Int) p q = conv2 F G p q := by
  show (sm (p + 1) (fun i => ml (F i) (G (p - i))) : Nat → Int) q = _
  rw [ser_sm]
  unfold conv2
  rw [sumN_sm]
  exact sm_congr fun i _ => cv_conv _ _ _
theorem mod_self_mod (a m : Int) : a % m % m = a % m := Int.emod_emod_of_dvd _ (Int.dvd_refl m)
theorem L_mk (m : Int) (n : Nat) (f : Nat → Int) : eqv m n (at0 (mk n (fun k => f k % m))) f := eqv1.2 fun k hk => by rw [mk_at hk, mod_self_mod]
theorem T_tri (m : Int) (n : Nat) (F : Nat → Nat → Int) : eqv m n (atT (tri n (fun i j => F i j % m))) F := eqv2.2 fun i j h => by rw [atT_tri h, mod_self_mod]
theorem L_times (m : Int) (n : Nat) (a b : List Int) : eqv m n (at0 (timesL m n a b)) (ml (at0 a) (at0 b)) :=
  eqv_trans (L_mk m n _) (eqv_of (funext fun k => (cv_conv _ _ k).symm))
theorem T_times (m : Int) (n : Nat) (a b : List (List Int)) : eqv m n (atT (timesT m n a b)) (ml (atT a) (atT b)) :=
  eqv_trans (T_tri m n _) (eqv_of (funext fun p => funext fun q => (cv_conv2 _ _ p q).symm))
theorem T_add (m : Int) (n : Nat) (a b : List (List Int)) : eqv m n (atT (addT m n a b)) (ad (atT a) (atT b)) := T_tri m n _
theorem at0_rep (n k : Nat) : at0 (List.replicate n (0 : Int)) k = 0 := by
  rw [mk_zero]
  by_cases h : k < n
  · exact mk_at h
  · exact mk_out (by omega)
theorem sm_short {T : Type} [Rg T] {n k : Nat} {f : Nat → T} (hk : k ≤ n) (h : ∀ i, k ≤ i → i < n → f i = zz) : sm n f = sm k f := by
  obtain ⟨d, rfl⟩ : ∃ d, n = k + d := ⟨n - k, by omega⟩
  rw [sm_split, sm_none (n := d) fun i hi => h (k + i) (by omega) (by omega), ad_zz]
theorem ic_ser1 (c : Int) (k : Nat) : (ic c : Nat → Int) k = if k = 0 then c else 0 := rfl
def hs {T : Type} [Rg T] (cs : List Int) (a : T) : T := sm cs.length (fun k => ml (ic (at0 cs k)) (pw a k))
theorem hs_cons {T : Type} [Rg T] (c : Int) (cs : List Int) (a : T) : hs (c :: cs) a = ad (ic c) (ml (hs cs a) a) := by
  unfold hs
  rw [List.length_cons, sm_first, sm_mr]
  congr 1
  · show ml (ic c) oo = _
    rw [ml_oo]
  · exact sm_congr fun k _ => by rw [show at0 (c :: cs) (k + 1) = at0 cs k from rfl, ml_assoc]; rfl
theorem hs_ev1 {T : Type} [Rg T] {n : Nat} {cs : List Int} (h : cs.length ≤ n) (a : T) : ev1 n (at0 cs) a = hs cs a :=
  sm_short h fun i hi _ => by rw [at0_out hi, ic_0, zz_ml]
theorem L_addc {m : Int} {n : Nat} {c : Int} {l : List Int} (hl : l.length = n) : eqv m n (at0 (addc m c l)) (ad (ic c) (at0 l)) := by
  refine eqv1.2 fun k hk => ?_
  unfold addc
  rw [at0_set, ser_ad, ic_ser1]
  show _ = ((if k = 0 then c else 0) + at0 l k) % m
  by_cases h : k = 0
  · subst h; rw [if_pos ⟨rfl, by omega⟩, if_pos rfl, mod_self_mod, Int.add_comm]
  · rw [if_neg (fun e => h e.1), if_neg h, Int.zero_add]
theorem L_horn' (m : Int) (n : Nat) (f cs : List Int) : eqv m n (at0 (horn m n f cs)) (hs cs (at0 f)) := by
  induction cs with
  | nil => exact eqv1.2 fun k hk => by show at0 (List.replicate n 0) k % m = _; rw [at0_rep]; rfl
  | cons c cs ih =>
    rw [hs_cons]
    exact eqv_trans (L_addc (timesL_len _ _ _ _)) (eqv_ad eqv_rfl (eqv_trans (L_times _ _ _ _) (eqv_mlr _ ih)))
theorem L_horn {m : Int} {n : Nat} (f cs : List Int) (hc : cs.length ≤ n) : eqv m n (at0 (horn m n f cs)) (ev1 n (at0 cs) (at0 f)) := by
  rw [hs_ev1 hc]; exact L_horn' m n f cs
theorem T_addc {m : Int} {n : Nat} {c : Int} {l : List (List Int)} : eqv m n (atT (addcT m c n l)) (ad (ic c) (atT l)) := by
  refine eqv2.2 fun i j h => ?_
  unfold addcT
  rw [atT_tri h, ser_ad]
  show _ = ((if i = 0 then (fun k : Nat => if k = 0 then c else 0) else (fun _ => 0)) j + atT l i j) % m
  by_cases hi : i = 0
  · by_cases hj : j = 0
    · subst hi hj; rw [if_pos ⟨rfl, rfl⟩, if_pos rfl, if_pos rfl, mod_self_mod, Int.add_comm]
    · rw [if_neg (fun e => hj e.2), if_pos hi, if_neg hj, Int.zero_add]
  · rw [if_neg (fun e => hi e.1), if_neg hi, Int.zero_add]
theorem T_horn' (m : Int) (n : Nat) (t : List (List Int)) (cs : List Int) : eqv m n (atT (hornT m n t cs)) (hs cs (atT t)) := by
  induction cs with
  | nil => exact eqv2.2 fun i j h => by show atT (zeroT n) i j % m = _; unfold zeroT; rw [atT_tri h]; rfl
  | cons c cs ih =>
    rw [hs_cons]
    exact eqv_trans T_addc (eqv_ad eqv_rfl (eqv_trans (T_times _ _ _ _) (eqv_mlr _ ih)))
theorem T_horn {m : Int} {n : Nat} (t : List (List Int)) (cs : List Int) (hc : cs.length ≤ n) : eqv m n (atT (hornT m n t cs)) (ev1 n (at0 cs) (atT t)) := by
  rw [hs_ev1 hc]; exact T_horn' m n t cs
def onx (s : Nat → Int) : Nat → Nat → Int := fun i j => if j = 0 then s i else 0
def ony (s : Nat → Int) : Nat → Nat → Int := fun i j => if i = 0 then s j else 0
theorem onx_ml (f g : Nat → Int) : onx (ml f g) = ml (onx f) (onx g) := by
  funext p q
  rw [cv_conv2]
  unfold onx conv2
  by_cases h : q = 0
  · subst h
    rw [if_pos rfl, cv_conv]
    unfold conv
    refine sumN_congr fun i _ => ?_
    simp [sumN]
  · rw [if_neg h, sumN_zero fun i _ => sumN_zero fun j hj => ?_]
    by_cases hj0 : j = 0
    · subst hj0; show _ * (if q - 0 = 0 then g (p - i) else 0) = 0; rw [if_neg (show ¬ q - 0 = 0 by omega), Int.mul_zero]
    · show (if j = 0 then f i else 0) * _ = 0; rw [if_neg hj0, Int.zero_mul]
theorem ony_ml (f g : Nat → Int) : ony (ml f g) = ml (ony f) (ony g) := by
  funext p q
  rw [cv_conv2]
  unfold ony conv2
  by_cases h : p = 0
  · subst h
    rw [if_pos rfl, cv_conv]
    unfold conv
    simp [sumN]
  · rw [if_neg h, sumN_zero fun i hi => sumN_zero fun j hj => ?_]
    by_cases hj0 : i = 0
    · subst hj0; show _ * (if p - 0 = 0 then g (q - j) else 0) = 0; rw [if_neg (show ¬ p - 0 = 0 by omega), Int.mul_zero]
    · show (if i = 0 then f j else 0) * _ = 0; rw [if_neg hj0, Int.zero_mul]
theorem onx_oo : onx (oo : Nat → Int) = oo := by
  funext p q
  show (if q = 0 then (if p = 0 then (1 : Int) else 0) else 0) = (if p = 0 then (fun k : Nat => if k = 0 then (1 : Int) else 0) else (fun _ => 0)) q
  by_cases h : p = 0 <;> by_cases h' : q = 0 <;> simp [h, h']
theorem ony_oo : ony (oo : Nat → Int) = oo := by
  funext p q
  show (if p = 0 then (if q = 0 then (1 : Int) else 0) else 0) = (if p = 0 then (fun k : Nat => if k = 0 then (1 : Int) else 0) else (fun _ => 0)) q
  by_cases h : p = 0 <;> by_cases h' : q = 0 <;> simp [h, h']
theorem onx_pw (f : Nat → Int) (k : Nat) : onx (pw f k) = pw (onx f) k := by
  induction k with
  | zero => exact onx_oo
  | succ k ih => show onx (ml (pw f k) f) = _; rw [onx_ml, ih]; rfl
theorem ony_pw (f : Nat → Int) (k : Nat) : ony (pw f k) = pw (ony f) k := by
  induction k with
  | zero => exact ony_oo
  | succ k ih => show ony (ml (pw f k) f) = _; rw [ony_ml, ih]; rfl
theorem onx_ony (f g : Nat → Int) (p q : Nat) : (ml (onx f) (ony g) : Nat → Nat → Int) p q = f p * g q := by
  rw [cv_conv2]
  unfold conv2
  show sumN p _ + sumN (q + 1) (fun j => onx f p j * ony g (p - p) (q - j)) = _
  rw [sumN_zero fun i hi => sumN_zero fun j _ => by show _ * (if p - i = 0 then g (q - j) else 0) = 0; rw [if_neg (show ¬ p - i = 0 by omega), Int.mul_zero], Int.zero_add]
  rw [sumN_first, sumN_zero fun j hj => by show (if j + 1 = 0 then f p else 0) * _ = 0; rw [if_neg (by omega), Int.zero_mul]]
  unfold onx ony
  simp
theorem lo_at0 {m : Int} {a : List Int} (h : at0 a 0 = 0) : lo m 1 (at0 a) := fun i => by
  by_cases hi : i = 0
  · subst hi; rw [h]; exact lo_zz _ _
  · rw [show 1 - i = 0 by omega]; exact lo_0 _ _
theorem lo_fun {m : Int} {k : Nat} {f : Nat → Int} (h : ∀ i, i < k → f i = 0) : lo m k f := fun i => by
  by_cases hi : i < k
  · rw [h i hi]; exact lo_zz _ _
  · rw [show k - i = 0 by omega]; exact lo_0 _ _
theorem lo_onx {m : Int} {f : Nat → Int} (h : f 0 = 0) : lo m 1 (onx f) := fun i => by
  by_cases hi : i = 0
  · subst hi
    exact lo_fun fun j hj => by unfold onx; rw [if_pos (by omega), h]
  · rw [show 1 - i = 0 by omega]; exact lo_0 _ _
theorem lo_ony {m : Int} {f : Nat → Int} (h : f 0 = 0) : lo m 1 (ony f) := fun i => by
  by_cases hi : i = 0
  · subst hi
    exact lo_fun fun j hj => by unfold ony; rw [if_pos rfl, show j = 0 by omega, h]
  · rw [show 1 - i = 0 by omega]; exact lo_0 _ _
theorem tab_range {m : Int} {n : Nat} {t : List (List Int)} (ht : PlaT m n t) {i j : Nat} (h : i + j < n) : 0 ≤ atT t i j ∧ atT t i j < m := by
  obtain ⟨hl, hr⟩ := ht
  have hi : i < t.length := by omega
  rw [atT_row hi]
  exact (hr i hi).2 _ (mem_at0 (by rw [(hr i hi).1]; omega))
def mon (k : Nat) (c : Int) : Nat → Int := fun i => if i = k then c else 0
theorem lo_mon (m : Int) (k : Nat) (c : Int) : lo m k (mon k c) := lo_fun fun i hi => if_neg (by omega)
theorem ev1_var {T : Type} [Rg T] {m : Int} {n : Nat} (h2 : 2 ≤ n) (a : T) : ev1 n (at0 (varL n)) a = a := by
  unfold ev1 ex
  rw [sm_congr (g := fun i => ml (ic (if i = 1 then 1 else 0)) (pw a i)) fun i hi => ?_, sum_one h2, pw_1]
  unfold varL
  rw [at0_set, at0_rep, List.length_replicate]
  by_cases h : i = 1
  · rw [if_pos ⟨h, by omega⟩, if_pos h]
  · rw [if_neg (fun e => h e.1), if_neg h]
end Go.Proofs.Ytoednonijmkbjaa
