/- Lemmas. -/
import Derived.Test.YtfpphfjlpgefaaaQAG1
import Derived.Test.YtfpphfjlpgefaaaQAG11
/- Inverses modulo a number, by Euclid's algorithm, and common divisors, in plain arithmetic. No program stands here. -/
set_option linter.unusedSimpArgs false
set_option linter.unusedVariables false
namespace Go.Proofs.Ytfpphfjlpgefaaa

structure EuI (m r s : Nat) (x y : Int) : Prop where
  ex : ∃ X Y : Nat, Y * r + X * s = m ∧ ((x = X ∧ y = -(Y : Int)) ∨ (x = -(X : Int) ∧ y = Y))
  lt : s < r
  le : r ≤ m
  bx : -(m : Int) ≤ x ∧ x ≤ m
theorem EuI.bounds {m r s : Nat} {x y : Int} (h : EuI m r s x y) : -(m : Int) ≤ y ∧ y ≤ m := by
  obtain ⟨⟨X, Y, hm, hx⟩, hl, hle, -⟩ := h
  have h2 : Y ≤ Y * r := Nat.le_mul_of_pos_right _ (by omega)
  rcases hx with ⟨rfl, rfl⟩ | ⟨rfl, rfl⟩ <;> omega
theorem EuI.step {m r s : Nat} {x y : Int} (h : EuI m r s x y) (hs : s ≠ 0) : EuI m s (r % s) y (x - ((r / s : Nat) : Int) * y) := by
  have hby := h.bounds
  obtain ⟨⟨X, Y, hm, hx⟩, hl, hle, -⟩ := h
  refine ⟨⟨Y, X + r / s * Y, ?_, ?_⟩, Nat.mod_lt _ (by omega), by omega, hby⟩
  · have e := Nat.div_add_mod r s
    have e2 : (X + r / s * Y) * s + Y * (r % s) = X * s + Y * (s * (r / s) + r % s) := by grind
    rw [e2, e, ← hm]; omega
  · rcases hx with ⟨rfl, rfl⟩ | ⟨rfl, rfl⟩
    · exact .inr ⟨rfl, by push_cast; grind⟩
    · exact .inl ⟨rfl, by push_cast; grind⟩
end Go.Proofs.Ytfpphfjlpgefaaa

/- Inverses and reversions of power series, integrals; units. No program stands here. -/
set_option linter.unusedSimpArgs false
set_option linter.unusedVariables false
namespace Go.Proofs.Ytfpphfjlpgefaaa

theorem at0_take {a : List Int} {n i : Nat} (h : i < n) : at0 (a.take n) i = at0 a i := by
  unfold at0 List.getD; rw [List.getElem?_take, if_pos h]
theorem at0_set {l : List Int} {k i : Nat} {x : Int} : at0 (l.set k x) i = if i = k ∧ k < l.length then x else at0 l i := by
  unfold at0 List.getD
  rw [List.getElem?_set]
  by_cases h : k = i
  · subst h
    by_cases h2 : k < l.length
    · simp [h2]
    · rw [if_pos rfl, if_neg h2, if_neg (by omega)]
      rw [List.getElem?_eq_none (by omega)]
  · rw [if_neg h, if_neg (by omega)]

theorem sumN_first (n : Nat) (f : Nat → Int) : sumN (n + 1) f = f 0 + sumN n (fun i => f (i + 1)) := by
  induction n with
  | zero => simp [sumN]
  | succ n ih => rw [show sumN (n + 1 + 1) f = sumN (n + 1) f + f (n + 1) from rfl, ih]; simp only [sumN]; omega
end Go.Proofs.Ytfpphfjlpgefaaa
/- Lists and tables of numbers as power series: what the lists' operations are in the ring. No program stands here. -/
set_option linter.unusedSimpArgs false
set_option linter.unusedVariables false
namespace Go.Proofs.Ytfpphfjlpgefaaa
open Rg

theorem sumN_sm (n : Nat) (f : Nat → Int) : sumN n f = sm n f := by
  induction n with
  | zero => rfl
  | succ n ih => simp only [sumN]; rw [ih]; rfl
theorem cv_conv (f g : Nat → Int) (k : Nat) : (ml f g : Nat → Int) k = conv f g k := (sumN_sm _ _).symm
theorem cv_conv2 (F G : Nat → Nat → Int) (p q : Nat) : (ml F G : Nat → Nat → Int) p q = conv2 F G p q := by
  show (sm (p + 1) (fun i => ml (F i) (G (p - i))) : Nat → Int) q = _
  rw [ser_sm]
  unfold conv2
  rw [sumN_sm]
  exact sm_congr fun i _ => cv_conv _ _ _
theorem mod_self_mod (a m : Int) : a % m % m = a % m := Int.emod_emod_of_dvd _ (Int.dvd_refl m)
theorem L_mk (m : Int) (n : Nat) (f : Nat → Int) : eqv m n (at0 (mk n (fun k => f k % m))) f := eqv1.2 fun k hk => by rw [mk_at hk, mod_self_mod]
theorem T_tri (m : Int) (n : Nat) (F : Nat → Nat → Int) : eqv m n (atT (tri n (fun i j => F i j % m))) F := eqv2.2 fun i j h => by rw [atT_tri h, mod_self_mod]
theorem L_times (m : Int) (n : Nat) (a b : List Int) : eqv m n (at0 (timesL m n a b)) (ml (at0 a) (at0 b)) :=
  eqv_trans (L_mk m n _) (eqv_of (funext fun k => (cv_conv _ _ k).symm))
theorem T_times (m : Int) (n : Nat) (a b : List (List Int)) : eqv m n (atT (timesT m n a b)) (ml (atT a) (atT b)) :=
  eqv_trans (T_tri m n _) (eqv_of (funext fun p => funext fun q => (cv_conv2 _ _ p q).symm))
theorem at0_rep (n k : Nat) : at0 (List.replicate n (0 : Int)) k = 0 := by
  rw [mk_zero]
  by_cases h : k < n
  · exact mk_at h
  · exact mk_out (by omega)
theorem L_pow (m : Int) (n : Nat) (a : List Int) (k : Nat) : eqv m n (at0 (powL m n a k)) (pw (at0 a) k) := by
  induction k with
  | zero =>
    refine eqv1.2 fun k hk => ?_
    unfold powL
    rw [at0_set, at0_rep, List.length_replicate]
    show _ = (if k = 0 then (1 : Int) else 0) % m
    by_cases h : k = 0
    · rw [if_pos ⟨h, by omega⟩, if_pos h, mod_self_mod]
    · rw [if_neg (fun e => h e.1), if_neg h]
  | succ k ih => exact eqv_trans (L_times m n _ _) (eqv_mlr _ ih)
theorem atT_out {m : Int} {n : Nat} {t : List (List Int)} (ht : PlaT m n t) {i j : Nat} (h : n ≤ i + j) : atT t i j = 0 := by
  obtain ⟨hl, hr⟩ := ht
  by_cases hi : i < t.length
  · rw [atT_row hi]
    exact at0_out (by rw [(hr i hi).1]; omega)
  · unfold atT List.getD
    rw [List.getElem?_eq_none (by omega)]; rfl
theorem sm_short {T : Type} [Rg T] {n k : Nat} {f : Nat → T} (hk : k ≤ n) (h : ∀ i, k ≤ i → i < n → f i = zz) : sm n f = sm k f := by
  obtain ⟨d, rfl⟩ : ∃ d, n = k + d := ⟨n - k, by omega⟩
  rw [sm_split, sm_none (n := d) fun i hi => h (k + i) (by omega) (by omega), ad_zz]
def hs {T : Type} [Rg T] (cs : List Int) (a : T) : T := sm cs.length (fun k => ml (ic (at0 cs k)) (pw a k))
theorem hs_cons {T : Type} [Rg T] (c : Int) (cs : List Int) (a : T) : hs (c :: cs) a = ad (ic c) (ml (hs cs a) a) := by
  unfold hs
  rw [List.length_cons, sm_first, sm_mr]
  congr 1
  · show ml (ic c) oo = _
    rw [ml_oo]
  · exact sm_congr fun k _ => by rw [show at0 (c :: cs) (k + 1) = at0 cs k from rfl, ml_assoc]; rfl
theorem hs_ev1 {T : Type} [Rg T] {n : Nat} {cs : List Int} (h : cs.length ≤ n) (a : T) : ev1 n (at0 cs) a = hs cs a :=
  sm_short h fun i hi _ => by rw [at0_out hi, ic_0, zz_ml]
theorem T_addc {m : Int} {n : Nat} {c : Int} {l : List (List Int)} : eqv m n (atT (addcT m c n l)) (ad (ic c) (atT l)) := by
  refine eqv2.2 fun i j h => ?_
  unfold addcT
  rw [atT_tri h, ser_ad]
  show _ = ((if i = 0 then (fun k : Nat => if k = 0 then c else 0) else (fun _ => 0)) j + atT l i j) % m
  by_cases hi : i = 0
  · by_cases hj : j = 0
    · subst hi hj; rw [if_pos ⟨rfl, rfl⟩, if_pos rfl, if_pos rfl, mod_self_mod, Int.add_comm]
    · rw [if_neg (fun e => hj e.2), if_pos hi, if_neg hj, Int.zero_add]
  · rw [if_neg (fun e => hi e.1), if_neg hi, Int.zero_add]
theorem T_horn' (m : Int) (n : Nat) (t : List (List Int)) (cs : List Int) : eqv m n (atT (hornT m n t cs)) (hs cs (atT t)) := by
  induction cs with
  | nil => exact eqv2.2 fun i j h => by show atT (zeroT n) i j % m = _; unfold zeroT; rw [atT_tri h]; rfl
  | cons c cs ih =>
    rw [hs_cons]
    exact eqv_trans T_addc (eqv_ad eqv_rfl (eqv_trans (T_times _ _ _ _) (eqv_mlr _ ih)))
theorem T_horn {m : Int} {n : Nat} (t : List (List Int)) (cs : List Int) (hc : cs.length ≤ n) : eqv m n (atT (hornT m n t cs)) (ev1 n (at0 cs) (atT t)) := by
  rw [hs_ev1 hc]; exact T_horn' m n t cs
def onx (s : Nat → Int) : Nat → Nat → Int := fun i j => if j = 0 then s i else 0
def ony (s : Nat → Int) : Nat → Nat → Int := fun i j => if i = 0 then s j else 0
theorem onx_ml (f g : Nat → Int) : onx (ml f g) = ml (onx f) (onx g) := by
  funext p q
  rw [cv_conv2]
  unfold onx conv2
  by_cases h : q = 0
  · subst h
    rw [if_pos rfl, cv_conv]
    unfold conv
    refine sumN_congr fun i _ => ?_
    simp [sumN]
  · rw [if_neg h, sumN_zero fun i _ => sumN_zero fun j hj => ?_]
    by_cases hj0 : j = 0
    · subst hj0; show _ * (if q - 0 = 0 then g (p - i) else 0) = 0; rw [if_neg (show ¬ q - 0 = 0 by omega), Int.mul_zero]
    · show (if j = 0 then f i else 0) * _ = 0; rw [if_neg hj0, Int.zero_mul]
theorem ony_ml (f g : Nat → Int) : ony (ml f g) = ml (ony f) (ony g) := by
  funext p q
  rw [cv_conv2]
  unfold ony conv2
  by_cases h : p = 0
  · subst h
    rw [if_pos rfl, cv_conv]
    unfold conv
    simp [sumN]
  · rw [if_neg h, sumN_zero fun i hi => sumN_zero fun j hj => ?_]
    by_cases hj0 : i = 0
    · subst hj0; show _ * (if p - 0 = 0 then g (q - j) else 0) = 0; rw [if_neg (show ¬ p - 0 = 0 by omega), Int.mul_zero]
    · show (if i = 0 then f j else 0) * _ = 0; rw [if_neg hj0, Int.zero_mul]
theorem onx_oo : onx (oo : Nat → Int) = oo := by
  funext p q
  show (if q = 0 then (if p = 0 then (1 : Int) else 0) else 0) = (if p = 0 then (fun k : Nat => if k = 0 then (1 : Int) else 0) else (fun _ => 0)) q
  by_cases h : p = 0 <;> by_cases h' : q = 0 <;> simp [h, h']
theorem ony_oo : ony (oo : Nat → Int) = oo := by
  funext p q
  show (if p = 0 then (if q = 0 then (1 : Int) else 0) else 0) = (if p = 0 then (fun k : Nat => if k = 0 then (1 : Int) else 0) else (fun _ => 0)) q
  by_cases h : p = 0 <;> by_cases h' : q = 0 <;> simp [h, h']
theorem onx_pw (f : Nat → Int) (k : Nat) : onx (pw f k) = pw (onx f) k := by
  induction k with
  | zero => exact onx_oo
  | succ k ih => show onx (ml (pw f k) f) = _; rw [onx_ml, ih]; rfl
theorem ony_pw (f : Nat → Int) (k : Nat) : ony (pw f k) = pw (ony f) k := by
  induction k with
  | zero => exact ony_oo
  | succ k ih => show ony (ml (pw f k) f) = _; rw [ony_ml, ih]; rfl
theorem onx_ony (f g : Nat → Int) (p q : Nat) : (ml (onx f) (ony g) : Nat → Nat → Int) p q = f p * g q := by
  rw [cv_conv2]
  unfold conv2
  show sumN p _ + sumN (q + 1) (fun j => onx f p j * ony g (p - p) (q - j)) = _
  rw [sumN_zero fun i hi => sumN_zero fun j _ => by show _ * (if p - i = 0 then g (q - j) else 0) = 0; rw [if_neg (show ¬ p - i = 0 by omega), Int.mul_zero], Int.zero_add]
  rw [sumN_first, sumN_zero fun j hj => by show (if j + 1 = 0 then f p else 0) * _ = 0; rw [if_neg (by omega), Int.zero_mul]]
  unfold onx ony
  simp
theorem T_bot {m : Int} {n : Nat} {t : List (List Int)} (ht : PlaT m n t) (a b : List Int) : eqv m n (atT (botL m n t a b)) (ev2 n (atT t) (onx (at0 a)) (ony (at0 b))) := by
  refine eqv_trans (T_tri m n _) (eqv2.2 fun p q hpq => ?_)
  rw [ev2_sum, ser_sm, ser_sm]
  show botS n (atT t) (powL m n a) (powL m n b) n 0 p q % m = _
  unfold botS
  rw [show sumN 0 (fun j' => atT t n j' * (at0 (powL m n a n) p * at0 (powL m n b j') q)) = 0 from rfl, Int.add_zero, ← sumN_sm]
  refine sumN_mod fun i hi => ?_
  rw [ser_sm, ser_sm, ← sumN_sm]
  rw [sumN_cut (n := n) (k := n - i) (by omega) fun j hj _ => ?_]
  · refine sumN_mod fun j hj => ?_
    rw [ser_icml, ser_icml, ← onx_pw, ← ony_pw, onx_ony]
    show atT t i j * _ % m = (atT t i j * _) % m
    refine emod_congr_mul rfl (emod_congr_mul ?_ ?_)
    · exact eqv1.1 (L_pow m n a i) p (by omega)
    · exact eqv1.1 (L_pow m n b j) q (by omega)
  · rw [ser_icml, ser_icml, atT_out ht (by omega)]
    exact Int.zero_mul _
theorem lo_fun {m : Int} {k : Nat} {f : Nat → Int} (h : ∀ i, i < k → f i = 0) : lo m k f := fun i => by
  by_cases hi : i < k
  · rw [h i hi]; exact lo_zz _ _
  · rw [show k - i = 0 by omega]; exact lo_0 _ _
theorem lo_onx {m : Int} {f : Nat → Int} (h : f 0 = 0) : lo m 1 (onx f) := fun i => by
  by_cases hi : i = 0
  · subst hi
    exact lo_fun fun j hj => by unfold onx; rw [if_pos (by omega), h]
  · rw [show 1 - i = 0 by omega]; exact lo_0 _ _
theorem lo_ony {m : Int} {f : Nat → Int} (h : f 0 = 0) : lo m 1 (ony f) := fun i => by
  by_cases hi : i = 0
  · subst hi
    exact lo_fun fun j hj => by unfold ony; rw [if_pos rfl, show j = 0 by omega, h]
  · rw [show 1 - i = 0 by omega]; exact lo_0 _ _
theorem tab_range {m : Int} {n : Nat} {t : List (List Int)} (ht : PlaT m n t) {i j : Nat} (h : i + j < n) : 0 ≤ atT t i j ∧ atT t i j < m := by
  obtain ⟨hl, hr⟩ := ht
  have hi : i < t.length := by omega
  rw [atT_row hi]
  exact (hr i hi).2 _ (mem_at0 (by rw [(hr i hi).1]; omega))
theorem tab_eq {m : Int} {n : Nat} {t s : List (List Int)} (ht : PlaT m n t) (hs : PlaT m n s) (h : eqv m n (atT t) (atT s)) : t = s := by
  rw [tri_eq ht.1 (fun i hi => by rw [(ht.2 i hi).1, ht.1]), tri_eq hs.1 (fun i hi => by rw [(hs.2 i hi).1, hs.1])]
  refine tri_ext fun i j hij => ?_
  have := eqv2.1 h i j hij
  have a := tab_range ht hij
  have b := tab_range hs hij
  rwa [Int.emod_eq_of_lt a.1 a.2, Int.emod_eq_of_lt b.1 b.2] at this
end Go.Proofs.Ytfpphfjlpgefaaa

/- The laws of series: products, compositions, inverses, reversions. No program stands here. -/
set_option linter.unusedSimpArgs false
set_option linter.unusedVariables false
namespace Go.Proofs.Ytfpphfjlpgefaaa
open Rg

section ev
variable {T : Type} [Rg T]
end ev

end Go.Proofs.Ytfpphfjlpgefaaa

/- The Weierstrass series: the program's iteration and the reference's recursion make the same list. No program stands here. -/
set_option linter.unusedSimpArgs false
set_option linter.unusedVariables false
namespace Go.Proofs.Ytfpphfjlpgefaaa
open Rg

end Go.Proofs.Ytfpphfjlpgefaaa

/- Inverses of series with the constant 1, as the program and the reference make them. No program stands here. -/
set_option linter.unusedSimpArgs false
set_option linter.unusedVariables false
namespace Go.Proofs.Ytfpphfjlpgefaaa
open Rg

section inv
variable {T : Type} [Rg T]
end inv

section law
variable {T : Type} [Rg T]
end law
end Go.Proofs.Ytfpphfjlpgefaaa

/- The Weierstrass law: the program's table and the reference's are one. No program stands here. -/
set_option linter.unusedSimpArgs false
set_option linter.unusedVariables false
namespace Go.Proofs.Ytfpphfjlpgefaaa
open Rg

section tabs
variable (m : Int) (n : Nat) (a : Nat → Int) (W : List Int)
end tabs
section tabr
variable (m : Int) (n : Nat) (a : Nat → Int) (W : List Int)
end tabr
end Go.Proofs.Ytfpphfjlpgefaaa
set_option linter.unusedSimpArgs false
set_option linter.unusedVariables false
namespace Go.Proofs.Ytfpphfjlpgefaaa
open Rg

theorem ev1_cut {T : Type} [Rg T] {m : Int} {n k : Nat} (f : Nat → Int) {a : T} (ha : lo m 1 a) (hk : k ≤ n) : eqv m k (ev1 n f a) (ev1 k f a) := by
  obtain ⟨d, rfl⟩ : ∃ d, n = k + d := ⟨n - k, by omega⟩
  unfold ev1 ex
  rw [sm_split]
  refine eqv_trans (eqv_ad eqv_rfl (eqv_lo (sm_lo fun i _ => lo_mul _ (lo_le (pw_lo ha (k + i)) (by omega))))) (eqv_of (ad_zz _))
theorem ev1_eqv {T : Type} [Rg T] {m : Int} {n k : Nat} {f g : Nat → Int} {a b : T} (ha : lo m 1 a) (hk : k ≤ n) (hf : ∀ i, i < k → f i % m = g i % m) (h : eqv m k a b) : eqv m k (ev1 n f a) (ev1 n g b) := by
  refine sm_eqv fun i hi => ?_
  by_cases hik : i < k
  · exact eqv_ml (eqv_ic (hf i hik)) (pw_eqv h i)
  · have h1 : lo m k (pw a i) := lo_le (pw_lo ha i) (by omega)
    have h2 : lo m k (pw b i) := lo_eqv (eqv_symm (pw_eqv h i)) (Nat.le_refl _) h1
    exact eqv_trans (eqv_lo (lo_mul _ h1)) (eqv_symm (eqv_lo (lo_mul _ h2)))
theorem ev2_cut {T : Type} [Rg T] {m : Int} {n k : Nat} (F : Nat → Nat → Int) {a b : T} (ha : lo m 1 a) (hb : lo m 1 b) (hk : k ≤ n) : eqv m k (ev2 n F a b) (ev2 k F a b) := by
  obtain ⟨d, rfl⟩ : ∃ d, n = k + d := ⟨n - k, by omega⟩
  rw [ev2_sum, ev2_sum, sm_split]
  refine eqv_trans (eqv_ad (sm_eqv fun i _ => ?_) (eqv_lo (sm_lo fun i _ => sm_lo fun j _ => lo_mul _ (lo_le (lo_ml (pw_lo ha (k + i)) (pw_lo hb j)) (by omega))))) (eqv_of (ad_zz _))
  rw [sm_split]
  exact eqv_trans (eqv_ad eqv_rfl (eqv_lo (sm_lo fun j _ => lo_mul _ (lo_le (lo_ml (pw_lo ha i) (pw_lo hb (k + j))) (by omega))))) (eqv_of (ad_zz _))

def cutT (k : Nat) (t : List (List Int)) : List (List Int) := tri k (atT t)
theorem cutT_len (k : Nat) (t : List (List Int)) : (cutT k t).length = k := tri_len _ _
theorem cutT_ok {m : Int} {n k : Nat} {t : List (List Int)} (ht : PlaT m n t) (hk : k ≤ n) : PlaT m k (cutT k t) := tri_ok fun i j h => tab_range ht (by omega)
theorem cutT_all {m : Int} {n : Nat} {t : List (List Int)} (ht : PlaT m n t) : cutT n t = t := (tri_eq ht.1 (fun i hi => by rw [(ht.2 i hi).1, ht.1])).symm
theorem cutT_at {k : Nat} {t : List (List Int)} {i j : Nat} (h : i + j < k) : atT (cutT k t) i j = atT t i j := atT_tri h

def homT (m : Int) (n : Nat) (t s : List (List Int)) (xs : List Int) : Prop := hornT m n t xs = botL m n s xs xs
theorem homT_iff {m : Int} {n : Nat} {t s : List (List Int)} {xs : List Int} (hm : 0 < m) (ht : PlaT m n t) (hs : PlaT m n s) (h0 : at0 xs 0 = 0) (hl : xs.length = n) (ht0 : atT t 0 0 = 0) :
    homT m n t s xs ↔ eqv m n (ev1 n (at0 xs) (atT t)) (ev2 n (atT s) (onx (at0 xs)) (ony (at0 xs))) := by
  have e1 := T_horn (m := m) (n := n) t xs (by omega)
  have e2 := T_bot hs xs xs
  constructor
  · intro h
    rw [h] at e1
    exact eqv_trans (eqv_symm e1) e2
  · intro h
    exact tab_eq (hornT_ok hm _ _ _) (botTo_ok hm _ _ _ _ _ _) (eqv_trans e1 (eqv_trans h (eqv_symm e2)))
theorem lo_atT {m : Int} {t : List (List Int)} (h : atT t 0 0 = 0) : lo m 1 (atT t) := fun i => by
  by_cases hi : i = 0
  · subst hi
    exact lo_fun fun j hj => by rw [show j = 0 by omega]; exact h
  · rw [show 1 - i = 0 by omega]; exact lo_0 _ _
theorem homT_cut {m : Int} {n k : Nat} {t s : List (List Int)} {xs : List Int} (hm : 0 < m) (ht : PlaT m n t) (hs : PlaT m n s) (h0 : at0 xs 0 = 0) (hl : xs.length = n) (ht0 : atT t 0 0 = 0) (hk : k ≤ n) (hk1 : 1 ≤ k) (h : homT m n t s xs) :
    homT m k (cutT k t) (cutT k s) (xs.take k) := by
  have hx0 : at0 (xs.take k) 0 = 0 := by rw [at0_take (by omega)]; exact h0
  have hc0 : atT (cutT k t) 0 0 = 0 := by rw [cutT_at (by omega)]; exact ht0
  rw [homT_iff hm (cutT_ok ht hk) (cutT_ok hs hk) hx0 (by simp; omega) hc0]
  have h := (homT_iff hm ht hs h0 hl ht0).1 h
  have lF : lo m 1 (atT t) := lo_atT ht0
  have lX : lo m 1 (onx (at0 xs)) := lo_onx h0
  have lY : lo m 1 (ony (at0 xs)) := lo_ony h0
  have lFc : lo m 1 (atT (cutT k t)) := lo_atT hc0
  have lXc : lo m 1 (onx (at0 (xs.take k))) := lo_onx hx0
  have lYc : lo m 1 (ony (at0 (xs.take k))) := lo_ony hx0
  have eT : eqv m k (atT (cutT k t)) (atT t) := eqv2.2 fun i j hij => by rw [cutT_at hij]
  have eX : eqv m k (onx (at0 (xs.take k))) (onx (at0 xs)) := eqv2.2 fun i j hij => by unfold onx; rw [at0_take (show i < k by omega)]
  have eY : eqv m k (ony (at0 (xs.take k))) (ony (at0 xs)) := eqv2.2 fun i j hij => by unfold ony; rw [at0_take (show j < k by omega)]
  have e1 : eqv m k (ev1 k (at0 (xs.take k)) (atT (cutT k t))) (ev1 n (at0 xs) (atT t)) :=
    eqv_trans (ev1_eqv lFc (Nat.le_refl _) (fun i hi => by rw [at0_take hi]) eT) (eqv_symm (ev1_cut _ lF hk))
  have e2 : eqv m k (ev2 k (atT (cutT k s)) (onx (at0 (xs.take k))) (ony (at0 (xs.take k)))) (ev2 n (atT s) (onx (at0 xs)) (ony (at0 xs))) :=
    eqv_trans (ev2_eqv lXc lYc (Nat.le_refl _) (fun i j hij => by rw [cutT_at hij]) eX eY) (eqv_symm (ev2_cut _ lX lY hk))
  exact eqv_trans e1 (eqv_trans (eqv_le h hk) (eqv_symm e2))

def allC (m : Nat) : Nat → List Int → List (List Int)
  | 0, pre => [pre]
  | d + 1, pre => (List.range m).flatMap (fun (x : Nat) => allC m d (pre ++ [(x : Int)]))
theorem allC_mem {m : Nat} : ∀ {d : Nat} {pre xs : List Int}, xs ∈ allC m d pre → xs.length = pre.length + d ∧ xs.take pre.length = pre ∧ ((∀ x ∈ pre, 0 ≤ x ∧ x < (m : Int)) → ∀ x ∈ xs, 0 ≤ x ∧ x < (m : Int))
  | 0, pre, xs, h => by
    simp [allC] at h; subst h; simp
  | d + 1, pre, xs, h => by
    obtain ⟨x, hx, h⟩ := List.mem_flatMap.1 h
    obtain ⟨h1, h2, h3⟩ := allC_mem h
    simp at h1 h2
    refine ⟨by omega, ?_, fun hp => h3 fun y hy => ?_⟩
    · have : (xs.take (pre.length + 1)).take pre.length = (pre ++ [(x : Int)]).take pre.length := by rw [h2]
      simpa [List.take_take] using this
    · rcases List.mem_append.1 hy with h | h
      · exact hp y h
      · simp at h hx; omega
theorem allC_len (m : Nat) : ∀ (d : Nat) (pre : List Int), (allC m d pre).length = m ^ d
  | 0, pre => by simp [allC]
  | d + 1, pre => by
    unfold allC
    rw [List.length_flatMap, show (List.range m).map (fun (x : Nat) => (allC m d (pre ++ [(x : Int)])).length) = (List.range m).map (fun _ => m ^ d) from List.map_congr_left fun x _ => allC_len m d _]
    rw [List.map_const', List.sum_replicate_nat]
    simp [Nat.pow_succ, Nat.mul_comm]

def growL (m n most : Nat) (fit : List Int → Bool) : Nat → List Int → List (List Int) → List (List Int)
  | 0, pre, out => out ++ [pre]
  | d + 1, pre, out => (List.range m).foldl (fun out (c : Nat) => if out.length < most then (if fit (pre ++ [(c : Int)]) then growL m n most fit d (pre ++ [(c : Int)]) out else out) else out) out
theorem take_app {α : Type} (X Y : List α) (k : Nat) (h : (X.take k).length < k) : (X.take k ++ Y).take k = (X ++ Y).take k := by
  rw [List.length_take] at h
  rw [List.take_of_length_le (show X.length ≤ k by omega)]
theorem take_full {α : Type} (X Y : List α) (k : Nat) (h : ¬ (X.take k).length < k) : X.take k = (X ++ Y).take k := by
  rw [List.length_take] at h
  rw [List.take_append_of_le_length (by omega)]
theorem growL_eq {m n most : Nat} {fit full : List Int → Bool} {P : List Int → Prop} (hP : ∀ pre (c : Nat), P pre → P (pre ++ [(c : Int)])) (hf : ∀ d pre xs, P pre → pre.length + d = n → xs ∈ allC m d pre → full xs = true → fit pre = true) (hn : ∀ xs, P xs → xs.length = n → fit xs = full xs) :
    ∀ (d : Nat) (pre : List Int) (out : List (List Int)), P pre → pre.length + d = n → out.length < most → (d = 0 → full pre = true) → growL m n most fit d pre out = (out ++ (allC m d pre).filter full).take most
  | 0, pre, out, hp, hd, ho, h0 => by
    unfold growL allC
    rw [List.filter_cons_of_pos (by simpa using h0 rfl), List.filter_nil, List.take_of_length_le (by simp; omega)]
  | d + 1, pre, out, hp, hd, ho, h0 => by
    unfold growL allC
    have key : ∀ k, k ≤ m → (List.range k).foldl (fun out (c : Nat) => if out.length < most then (if fit (pre ++ [(c : Int)]) then growL m n most fit d (pre ++ [(c : Int)]) out else out) else out) out
        = (out ++ ((List.range k).flatMap (fun (x : Nat) => allC m d (pre ++ [(x : Int)]))).filter full).take most := by
      intro k
      induction k with
      | zero => intro _; simp [List.take_of_length_le (show out.length ≤ most by omega)]
      | succ k ih =>
        intro hk
        rw [List.range_succ, List.foldl_append, ih (by omega), List.flatMap_append, List.filter_append, ← List.append_assoc]
        simp only [List.foldl_cons, List.foldl_nil, List.flatMap_cons, List.flatMap_nil, List.append_nil]
        generalize out ++ ((List.range k).flatMap (fun (x : Nat) => allC m d (pre ++ [(x : Int)]))).filter full = X
        by_cases h : (X.take most).length < most
        · rw [if_pos h]
          cases hfit : fit (pre ++ [(k : Int)])
          · rw [if_neg (by simp)]
            have : (allC m d (pre ++ [(k : Int)])).filter full = [] := by
              rw [List.filter_eq_nil_iff]
              intro xs hxs hfull
              have := hf d (pre ++ [(k : Int)]) xs (hP pre k hp) (by simp; omega) hxs hfull
              rw [this] at hfit; cases hfit
            rw [this, List.append_nil]
          · rw [if_pos rfl, growL_eq hP hf hn d (pre ++ [(k : Int)]) (X.take most) (hP pre k hp) (by simp; omega) h (fun hd0 => by rw [← hn _ (hP pre k hp) (by simp; omega)]; exact hfit), take_app _ _ _ h]
        · rw [if_neg h]
          exact take_full _ _ _ h
    exact key m (Nat.le_refl _)
end Go.Proofs.Ytfpphfjlpgefaaa
