/- Lemmas of RgB. -/
import Derived.Test.YtmmneicblcjkjaaQRgL
import Derived.Test.YtmmneicblcjkjaaQG1
import Derived.Test.YtmmneicblcjkjaaQRev
set_option linter.unusedSimpArgs false
set_option linter.unusedVariables false
namespace Go.Proofs.Ytmmneicblcjkjaa
open Rg

theorem sumN_sm (n : Nat) (f : Nat → Int) : sumN n f = sm n f := by
  induction n with
  | zero => rfl
  | succ n ih => simp only [sumN]; rw [ih]; rfl
theorem cv_conv (f g : Nat → Int) (k : Nat) : (ml f g : Nat → Int) k = conv f g k := (sumN_sm _ _).symm
theorem cv_conv2 (F G : Nat → Nat → Int) (p q : Nat) : (ml F G : Nat → Nat → Int) p q = conv2 F G p q := by
  show (sm (p + 1) (fun i => ml (F i) (G (p - i))) : Nat → Int) q = _
  rw [ser_sm]
  unfold conv2
  rw [sumN_sm]
  exact sm_congr fun i _ => cv_conv _ _ _
theorem mod_self_mod (a m : Int) : a % m % m = a % m := Int.emod_emod_of_dvd _ (Int.dvd_refl m)
theorem L_mk (m : Int) (n : Nat) (f : Nat → Int) : eqv m n (at0 (mk n (fun k => f k % m))) f := eqv1.2 fun k hk => by rw [mk_at hk, mod_self_mod]
theorem T_tri (m : Int) (n : Nat) (F : Nat → Nat → Int) : eqv m n (atT (tri n (fun i j => F i j % m))) F := eqv2.2 fun i j h => by rw [atT_tri h, mod_self_mod]
theorem L_times (m : Int) (n : Nat) (a b : List Int) : eqv m n (at0 (timesL m n a b)) (ml (at0 a) (at0 b)) :=
  eqv_trans (L_mk m n _) (eqv_of (funext fun k => (cv_conv _ _ k).symm))
theorem T_times (m : Int) (n : Nat) (a b : List (List Int)) : eqv m n (atT (timesT m n a b)) (ml (atT a) (atT b)) :=
  eqv_trans (T_tri m n _) (eqv_of (funext fun p => funext fun q => (cv_conv2 _ _ p q).symm))
theorem L_add (m : Int) (n : Nat) (a b : List Int) : eqv m n (at0 (addL m n a b)) (ad (at0 a) (at0 b)) := L_mk m n _
theorem T_add (m : Int) (n : Nat) (a b : List (List Int)) : eqv m n (atT (addT m n a b)) (ad (atT a) (atT b)) := T_tri m n _
theorem at0_rep (n k : Nat) : at0 (List.replicate n (0 : Int)) k = 0 := by
  rw [mk_zero]
  by_cases h : k < n
  · exact mk_at h
  · exact mk_out (by omega)
theorem sm_short {T : Type} [Rg T] {n k : Nat} {f : Nat → T} (hk : k ≤ n) (h : ∀ i, k ≤ i → i < n → f i = zz) : sm n f = sm k f := by
  obtain ⟨d, rfl⟩ : ∃ d, n = k + d := ⟨n - k, by omega⟩
  rw [sm_split, sm_none (n := d) fun i hi => h (k + i) (by omega) (by omega), ad_zz]
def hs {T : Type} [Rg T] (cs : List Int) (a : T) : T := sm cs.length (fun k => ml (ic (at0 cs k)) (pw a k))
theorem hs_cons {T : Type} [Rg T] (c : Int) (cs : List Int) (a : T) : hs (c :: cs) a = ad (ic c) (ml (hs cs a) a) := by
  unfold hs
  rw [List.length_cons, sm_first, sm_mr]
  congr 1
  · show ml (ic c) oo = _
    rw [ml_oo]
  · exact sm_congr fun k _ => by rw [show at0 (c :: cs) (k + 1) = at0 cs k from rfl, ml_assoc]; rfl
theorem hs_ev1 {T : Type} [Rg T] {n : Nat} {cs : List Int} (h : cs.length ≤ n) (a : T) : ev1 n (at0 cs) a = hs cs a :=
  sm_short h fun i hi _ => by rw [at0_out hi, ic_0, zz_ml]
theorem T_addc {m : Int} {n : Nat} {c : Int} {l : List (List Int)} : eqv m n (atT (addcT m c n l)) (ad (ic c) (atT l)) := by
  refine eqv2.2 fun i j h => ?_
  unfold addcT
  rw [atT_tri h, ser_ad]
  show _ = ((if i = 0 then (fun k : Nat => if k = 0 then c else 0) else (fun _ => 0)) j + atT l i j) % m
  by_cases hi : i = 0
  · by_cases hj : j = 0
    · subst hi hj; rw [if_pos ⟨rfl, rfl⟩, if_pos rfl, if_pos rfl, mod_self_mod, Int.add_comm]
    · rw [if_neg (fun e => hj e.2), if_pos hi, if_neg hj, Int.zero_add]
  · rw [if_neg (fun e => hi e.1), if_neg hi, Int.zero_add]
theorem T_horn' (m : Int) (n : Nat) (t : List (List Int)) (cs : List Int) : eqv m n (atT (hornT m n t cs)) (hs cs (atT t)) := by
  induction cs with
  | nil => exact eqv2.2 fun i j h => by show atT (zeroT n) i j % m = _; unfold zeroT; rw [atT_tri h]; rfl
  | cons c cs ih =>
    rw [hs_cons]
    exact eqv_trans T_addc (eqv_ad eqv_rfl (eqv_trans (T_times _ _ _ _) (eqv_mlr _ ih)))
theorem T_horn {m : Int} {n : Nat} (t : List (List Int)) (cs : List Int) (hc : cs.length ≤ n) : eqv m n (atT (hornT m n t cs)) (ev1 n (at0 cs) (atT t)) := by
  rw [hs_ev1 hc]; exact T_horn' m n t cs
theorem lo_at0 {m : Int} {a : List Int} (h : at0 a 0 = 0) : lo m 1 (at0 a) := fun i => by
  by_cases hi : i = 0
  · subst hi; rw [h]; exact lo_zz _ _
  · rw [show 1 - i = 0 by omega]; exact lo_0 _ _
theorem lo_fun {m : Int} {k : Nat} {f : Nat → Int} (h : ∀ i, i < k → f i = 0) : lo m k f := fun i => by
  by_cases hi : i < k
  · rw [h i hi]; exact lo_zz _ _
  · rw [show k - i = 0 by omega]; exact lo_0 _ _
theorem list_eq {m : Int} {n : Nat} {xs ys : List Int} (hx : xs.length = n) (hy : ys.length = n) (rx : ∀ x ∈ xs, 0 ≤ x ∧ x < m) (ry : ∀ x ∈ ys, 0 ≤ x ∧ x < m) (h : eqv m n (at0 xs) (at0 ys)) : xs = ys := by
  rw [eq_mk xs, eq_mk ys, hx, hy]
  refine mk_ext fun k hk => ?_
  have := eqv1.1 h k hk
  have a := rx _ (mem_at0 (xs := xs) (k := k) (by omega))
  have b := ry _ (mem_at0 (xs := ys) (k := k) (by omega))
  rwa [Int.emod_eq_of_lt a.1 a.2, Int.emod_eq_of_lt b.1 b.2] at this
theorem tab_range {m : Int} {n : Nat} {t : List (List Int)} (ht : PlaT m n t) {i j : Nat} (h : i + j < n) : 0 ≤ atT t i j ∧ atT t i j < m := by
  obtain ⟨hl, hr⟩ := ht
  have hi : i < t.length := by omega
  rw [atT_row hi]
  exact (hr i hi).2 _ (mem_at0 (by rw [(hr i hi).1]; omega))
theorem tab_eq {m : Int} {n : Nat} {t s : List (List Int)} (ht : PlaT m n t) (hs : PlaT m n s) (h : eqv m n (atT t) (atT s)) : t = s := by
  rw [tri_eq ht.1 (fun i hi => by rw [(ht.2 i hi).1, ht.1]), tri_eq hs.1 (fun i hi => by rw [(hs.2 i hi).1, hs.1])]
  refine tri_ext fun i j hij => ?_
  have := eqv2.1 h i j hij
  have a := tab_range ht hij
  have b := tab_range hs hij
  rwa [Int.emod_eq_of_lt a.1 a.2, Int.emod_eq_of_lt b.1 b.2] at this
def mon (k : Nat) (c : Int) : Nat → Int := fun i => if i = k then c else 0
theorem lo_mon (m : Int) (k : Nat) (c : Int) : lo m k (mon k c) := lo_fun fun i hi => if_neg (by omega)
theorem ev1_var {T : Type} [Rg T] {m : Int} {n : Nat} (h2 : 2 ≤ n) (a : T) : ev1 n (at0 (varL n)) a = a := by
  unfold ev1 ex
  rw [sm_congr (g := fun i => ml (ic (if i = 1 then 1 else 0)) (pw a i)) fun i hi => ?_, sum_one h2, pw_1]
  unfold varL
  rw [at0_set, at0_rep, List.length_replicate]
  by_cases h : i = 1
  · rw [if_pos ⟨h, by omega⟩, if_pos h]
  · rw [if_neg (fun e => h e.1), if_neg h]
end Go.Proofs.Ytmmneicblcjkjaa
