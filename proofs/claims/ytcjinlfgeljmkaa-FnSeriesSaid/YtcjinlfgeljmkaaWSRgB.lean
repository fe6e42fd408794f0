/- Lemmas of RgB. -/
import Derived.Test.YtcjinlfgeljmkaaWSRgL
import Derived.Test.YtcjinlfgeljmkaaWSG1
import Derived.Test.YtcjinlfgeljmkaaWSRev
set_option linter.unusedSimpArgs false
set_option linter.unusedVariables false
namespace Go.Proofs.Ytcjinlfgeljmkaa
open Rg

theorem sumN_sm (n : Nat) (f : Nat → Int) : sumN n f = sm n f := by
  induction n with
  | zero => rfl
  | succ n ih => simp only [sumN]; rw [ih]; rfl
theorem cv_conv (f g : Nat → Int) (k : Nat) : (ml f g : Nat → Int) k = conv f g k := (sumN_sm _ _).symm
theorem mod_self_mod (a m : Int) : a % m % m = a % m := Int.emod_emod_of_dvd _ (Int.dvd_refl m)
theorem L_mk (m : Int) (n : Nat) (f : Nat → Int) : eqv m n (at0 (mk n (fun k => f k % m))) f := eqv1.2 fun k hk => by rw [mk_at hk, mod_self_mod]
theorem L_times (m : Int) (n : Nat) (a b : List Int) : eqv m n (at0 (timesL m n a b)) (ml (at0 a) (at0 b)) :=
  eqv_trans (L_mk m n _) (eqv_of (funext fun k => (cv_conv _ _ k).symm))
theorem L_add (m : Int) (n : Nat) (a b : List Int) : eqv m n (at0 (addL m n a b)) (ad (at0 a) (at0 b)) := L_mk m n _
theorem at0_rep (n k : Nat) : at0 (List.replicate n (0 : Int)) k = 0 := by
  rw [mk_zero]
  by_cases h : k < n
  · exact mk_at h
  · exact mk_out (by omega)
theorem sm_short {T : Type} [Rg T] {n k : Nat} {f : Nat → T} (hk : k ≤ n) (h : ∀ i, k ≤ i → i < n → f i = zz) : sm n f = sm k f := by
  obtain ⟨d, rfl⟩ : ∃ d, n = k + d := ⟨n - k, by omega⟩
  rw [sm_split, sm_none (n := d) fun i hi => h (k + i) (by omega) (by omega), ad_zz]
theorem ic_ser1 (c : Int) (k : Nat) : (ic c : Nat → Int) k = if k = 0 then c else 0 := rfl
def hs {T : Type} [Rg T] (cs : List Int) (a : T) : T := sm cs.length (fun k => ml (ic (at0 cs k)) (pw a k))
theorem hs_cons {T : Type} [Rg T] (c : Int) (cs : List Int) (a : T) : hs (c :: cs) a = ad (ic c) (ml (hs cs a) a) := by
  unfold hs
  rw [List.length_cons, sm_first, sm_mr]
  congr 1
  · show ml (ic c) oo = _
    rw [ml_oo]
  · exact sm_congr fun k _ => by rw [show at0 (c :: cs) (k + 1) = at0 cs k from rfl, ml_assoc]; rfl
theorem hs_ev1 {T : Type} [Rg T] {n : Nat} {cs : List Int} (h : cs.length ≤ n) (a : T) : ev1 n (at0 cs) a = hs cs a :=
  sm_short h fun i hi _ => by rw [at0_out hi, ic_0, zz_ml]
theorem L_addc {m : Int} {n : Nat} {c : Int} {l : List Int} (hl : l.length = n) : eqv m n (at0 (addc m c l)) (ad (ic c) (at0 l)) := by
  refine eqv1.2 fun k hk => ?_
  unfold addc
  rw [at0_set, ser_ad, ic_ser1]
  show _ = ((if k = 0 then c else 0) + at0 l k) % m
  by_cases h : k = 0
  · subst h; rw [if_pos ⟨rfl, by omega⟩, if_pos rfl, mod_self_mod, Int.add_comm]
  · rw [if_neg (fun e => h e.1), if_neg h, Int.zero_add]
theorem L_horn' (m : Int) (n : Nat) (f cs : List Int) : eqv m n (at0 (horn m n f cs)) (hs cs (at0 f)) := by
  induction cs with
  | nil => exact eqv1.2 fun k hk => by show at0 (List.replicate n 0) k % m = _; rw [at0_rep]; rfl
  | cons c cs ih =>
    rw [hs_cons]
    exact eqv_trans (L_addc (timesL_len _ _ _ _)) (eqv_ad eqv_rfl (eqv_trans (L_times _ _ _ _) (eqv_mlr _ ih)))
theorem L_horn {m : Int} {n : Nat} (f cs : List Int) (hc : cs.length ≤ n) : eqv m n (at0 (horn m n f cs)) (ev1 n (at0 cs) (at0 f)) := by
  rw [hs_ev1 hc]; exact L_horn' m n f cs
theorem lo_at0 {m : Int} {a : List Int} (h : at0 a 0 = 0) : lo m 1 (at0 a) := fun i => by
  by_cases hi : i = 0
  · subst hi; rw [h]; exact lo_zz _ _
  · rw [show 1 - i = 0 by omega]; exact lo_0 _ _
theorem lo_fun {m : Int} {k : Nat} {f : Nat → Int} (h : ∀ i, i < k → f i = 0) : lo m k f := fun i => by
  by_cases hi : i < k
  · rw [h i hi]; exact lo_zz _ _
  · rw [show k - i = 0 by omega]; exact lo_0 _ _
theorem list_eq {m : Int} {n : Nat} {xs ys : List Int} (hx : xs.length = n) (hy : ys.length = n) (rx : ∀ x ∈ xs, 0 ≤ x ∧ x < m) (ry : ∀ x ∈ ys, 0 ≤ x ∧ x < m) (h : eqv m n (at0 xs) (at0 ys)) : xs = ys := by
  rw [eq_mk xs, eq_mk ys, hx, hy]
  refine mk_ext fun k hk => ?_
  have := eqv1.1 h k hk
  have a := rx _ (mem_at0 (xs := xs) (k := k) (by omega))
  have b := ry _ (mem_at0 (xs := ys) (k := k) (by omega))
  rwa [Int.emod_eq_of_lt a.1 a.2, Int.emod_eq_of_lt b.1 b.2] at this
def mon (k : Nat) (c : Int) : Nat → Int := fun i => if i = k then c else 0
theorem lo_mon (m : Int) (k : Nat) (c : Int) : lo m k (mon k c) := lo_fun fun i hi => if_neg (by omega)
theorem ev1_var {T : Type} [Rg T] {m : Int} {n : Nat} (h2 : 2 ≤ n) (a : T) : ev1 n (at0 (varL n)) a = a := by
  unfold ev1 ex
  rw [sm_congr (g := fun i => ml (ic (if i = 1 then 1 else 0)) (pw a i)) fun i hi => ?_, sum_one h2, pw_1]
  unfold varL
  rw [at0_set, at0_rep, List.length_replicate]
  by_cases h : i = 1
  · rw [if_pos ⟨h, by omega⟩, if_pos h]
  · rw [if_neg (fun e => h e.1), if_neg h]
end Go.Proofs.Ytcjinlfgeljmkaa
