/- Lemmas of RgB. -/
import Derived.Test.YtcjinlfgeljmkaaWTRgL
import Derived.Test.YtcjinlfgeljmkaaWTG1
import Derived.Test.YtcjinlfgeljmkaaWTRev
set_option linter.unusedSimpArgs false
set_option linter.unusedVariables false
namespace Go.Proofs.Ytcjinlfgeljmkaa
open Rg

theorem sumN_sm (n : Nat) (f : Nat → Int) : sumN n f = sm n f := by
  induction n with
  | zero => rfl
  | succ n ih => simp only [sumN]; rw [ih]; rfl
theorem cv_conv (f g : Nat → Int) (k : Nat) : (ml f g : Nat → Int) k = conv f g k := (sumN_sm _ _).symm
theorem cv_conv2 (F G : Nat → Nat → Int) (p q : Nat) : (ml F G : Nat → Nat → Int) p q = conv2 F G p q := by
  show (sm (p + 1) (fun i => ml (F i) (G (p - i))) : Nat → Int) q = _
  rw [ser_sm]
  unfold conv2
  rw [sumN_sm]
  exact sm_congr fun i _ => cv_conv _ _ _
theorem mod_self_mod (a m : Int) : a % m % m = a % m := Int.emod_emod_of_dvd _ (Int.dvd_refl m)
theorem L_mk (m : Int) (n : Nat) (f : Nat → Int) : eqv m n (at0 (mk n (fun k => f k % m))) f := eqv1.2 fun k hk => by rw [mk_at hk, mod_self_mod]
theorem T_tri (m : Int) (n : Nat) (F : Nat → Nat → Int) : eqv m n (atT (tri n (fun i j => F i j % m))) F := eqv2.2 fun i j h => by rw [atT_tri h, mod_self_mod]
theorem L_times (m : Int) (n : Nat) (a b : List Int) : eqv m n (at0 (timesL m n a b)) (ml (at0 a) (at0 b)) :=
  eqv_trans (L_mk m n _) (eqv_of (funext fun k => (cv_conv _ _ k).symm))
theorem T_times (m : Int) (n : Nat) (a b : List (List Int)) : eqv m n (atT (timesT m n a b)) (ml (atT a) (atT b)) :=
  eqv_trans (T_tri m n _) (eqv_of (funext fun p => funext fun q => (cv_conv2 _ _ p q).symm))
theorem T_add (m : Int) (n : Nat) (a b : List (List Int)) : eqv m n (atT (addT m n a b)) (ad (atT a) (atT b)) := T_tri m n _
theorem at0_rep (n k : Nat) : at0 (List.replicate n (0 : Int)) k = 0 := by
  rw [mk_zero]
  by_cases h : k < n
  · exact mk_at h
  · exact mk_out (by omega)
theorem L_pow (m : Int) (n : Nat) (a : List Int) (k : Nat) : eqv m n (at0 (powL m n a k)) (pw (at0 a) k) := by
  induction k with
  | zero =>
    refine eqv1.2 fun k hk => ?_
    unfold powL
    rw [at0_set, at0_rep, List.length_replicate]
    show _ = (if k = 0 then (1 : Int) else 0) % m
    by_cases h : k = 0
    · rw [if_pos ⟨h, by omega⟩, if_pos h, mod_self_mod]
    · rw [if_neg (fun e => h e.1), if_neg h]
  | succ k ih => exact eqv_trans (L_times m n _ _) (eqv_mlr _ ih)
theorem atT_out {m : Int} {n : Nat} {t : List (List Int)} (ht : PlaT m n t) {i j : Nat} (h : n ≤ i + j) : atT t i j = 0 := by
  obtain ⟨hl, hr⟩ := ht
  by_cases hi : i < t.length
  · rw [atT_row hi]
    exact at0_out (by rw [(hr i hi).1]; omega)
  · unfold atT List.getD
    rw [List.getElem?_eq_none (by omega)]; rfl
theorem L_put {m : Int} {n : Nat} {t : List (List Int)} (ht : PlaT m n t) (a b : List Int) : eqv m n (at0 (putL m n t a b)) (ev2 n (atT t) (at0 a) (at0 b)) := by
  refine eqv_trans (L_mk m n _) (eqv1.2 fun k hk => ?_)
  rw [ev2_sum, ser_sm]
  show putS n (atT t) (powL m n a) (powL m n b) n 0 k % m = _
  unfold putS
  rw [show sumN 0 (fun j' => atT t n j' * conv (at0 (powL m n a n)) (at0 (powL m n b j')) k) = 0 from rfl, Int.add_zero, ← sumN_sm]
  refine sumN_mod fun i hi => ?_
  rw [ser_sm, ← sumN_sm]
  rw [sumN_cut (n := n) (k := n - i) (by omega) fun j hj _ => ?_]
  · refine sumN_mod fun j hj => ?_
    rw [ser_icml]
    show atT t i j * _ % m = (atT t i j * _) % m
    refine emod_congr_mul rfl ?_
    rw [← cv_conv]
    exact eqv1.1 (eqv_ml (L_pow m n a i) (L_pow m n b j)) k hk
  · rw [ser_icml, atT_out ht (by omega)]
    exact Int.zero_mul _
def hs {T : Type} [Rg T] (cs : List Int) (a : T) : T := sm cs.length (fun k => ml (ic (at0 cs k)) (pw a k))
theorem lo_at0 {m : Int} {a : List Int} (h : at0 a 0 = 0) : lo m 1 (at0 a) := fun i => by
  by_cases hi : i = 0
  · subst hi; rw [h]; exact lo_zz _ _
  · rw [show 1 - i = 0 by omega]; exact lo_0 _ _
theorem list_eq {m : Int} {n : Nat} {xs ys : List Int} (hx : xs.length = n) (hy : ys.length = n) (rx : ∀ x ∈ xs, 0 ≤ x ∧ x < m) (ry : ∀ x ∈ ys, 0 ≤ x ∧ x < m) (h : eqv m n (at0 xs) (at0 ys)) : xs = ys := by
  rw [eq_mk xs, eq_mk ys, hx, hy]
  refine mk_ext fun k hk => ?_
  have := eqv1.1 h k hk
  have a := rx _ (mem_at0 (xs := xs) (k := k) (by omega))
  have b := ry _ (mem_at0 (xs := ys) (k := k) (by omega))
  rwa [Int.emod_eq_of_lt a.1 a.2, Int.emod_eq_of_lt b.1 b.2] at this
theorem tab_range {m : Int} {n : Nat} {t : List (List Int)} (ht : PlaT m n t) {i j : Nat} (h : i + j < n) : 0 ≤ atT t i j ∧ atT t i j < m := by
  obtain ⟨hl, hr⟩ := ht
  have hi : i < t.length := by omega
  rw [atT_row hi]
  exact (hr i hi).2 _ (mem_at0 (by rw [(hr i hi).1]; omega))
theorem tab_eq {m : Int} {n : Nat} {t s : List (List Int)} (ht : PlaT m n t) (hs : PlaT m n s) (h : eqv m n (atT t) (atT s)) : t = s := by
  rw [tri_eq ht.1 (fun i hi => by rw [(ht.2 i hi).1, ht.1]), tri_eq hs.1 (fun i hi => by rw [(hs.2 i hi).1, hs.1])]
  refine tri_ext fun i j hij => ?_
  have := eqv2.1 h i j hij
  have a := tab_range ht hij
  have b := tab_range hs hij
  rwa [Int.emod_eq_of_lt a.1 a.2, Int.emod_eq_of_lt b.1 b.2] at this
end Go.Proofs.Ytcjinlfgeljmkaa
