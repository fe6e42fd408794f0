/- Lemmas of WeiT. -/
import Derived.Test.YtmmneicblcjkjaaQWeiP
set_option linter.unusedSimpArgs false
set_option linter.unusedVariables false
namespace Go.Proofs.Ytmmneicblcjkjaa
open Rg

def subT (m : Int) (n : Nat) (a b : List (List Int)) : List (List Int) := tri n (fun i j => (atT a i j - atT b i j) % m)
def scaT (m : Int) (n : Nat) (c : Int) (t : List (List Int)) : List (List Int) := tri n (fun i j => (c * atT t i j) % m)
def oneT (m : Int) (n : Nat) : List (List Int) := tri n (fun i j => (if i = 0 ∧ j = 0 then 1 else 0) % m)
def xT (n : Nat) : List (List Int) := tri n (fun i j => if i = 1 ∧ j = 0 then 1 else 0)
def yT (n : Nat) : List (List Int) := tri n (fun i j => if i = 0 ∧ j = 1 then 1 else 0)
def linT (m : Int) (n : Nat) (W : List Int) : List (List Int) := tri n (fun i j => at0 W (i + j + 1) % m)
def clnT (m : Int) (n : Nat) (w : List Int) : List (List Int) := tri n (fun i j => (if j = 0 then at0 w i else 0) % m)
theorem T_sub (m : Int) (n : Nat) (a b : List (List Int)) : eqv m n (atT (subT m n a b)) (ad (atT a) (ng (atT b))) := by
  refine eqv_trans (T_tri m n _) (eqv2.2 fun i j h => ?_)
  show (atT a i j - atT b i j) % m = (atT a i j + (ng (atT b) : Nat → Nat → Int) i j) % m
  have e : (ng (atT b) : Nat → Nat → Int) i j = -(atT b i j) := by
    show (ml (ic (-1)) (atT b) : Nat → Nat → Int) i j = _
    rw [ser_icml]
    show (ml (ic (-1)) (atT b i) : Nat → Int) j = _
    rw [ser_icml]
    show (-1) * atT b i j = _
    omega
  rw [e, Int.sub_eq_add_neg]
theorem T_sca (m : Int) (n : Nat) (c : Int) (t : List (List Int)) : eqv m n (atT (scaT m n c t)) (ml (ic c) (atT t)) := by
  refine eqv_trans (T_tri m n _) (eqv2.2 fun i j h => ?_)
  rw [ser_icml]
  show c * atT t i j % m = (ml (ic c) (atT t i) : Nat → Int) j % m
  rw [ser_icml]; rfl
theorem T_one (m : Int) (n : Nat) : eqv m n (atT (oneT m n)) (oo : Nat → Nat → Int) := by
  refine eqv_trans (T_tri m n _) (eqv2.2 fun i j h => ?_)
  show (if i = 0 ∧ j = 0 then (1 : Int) else 0) % m = (oo : Nat → Nat → Int) i j % m
  congr 1
  cases i with
  | zero =>
    cases j with
    | zero => rfl
    | succ j => rfl
  | succ i => rfl
def geoT (m : Int) (n : Nat) (r : List (List Int)) : Nat → List (List Int)
  | 0 => oneT m n
  | j + 1 => addT m n (timesT m n (geoT m n r j) r) (oneT m n)
theorem T_geo {m : Int} {n : Nat} {r : List (List Int)} {f : Nat → Nat → Int} (h : eqv m n (atT r) f) : ∀ j, eqv m n (atT (geoT m n r j)) (geo f j)
  | 0 => T_one m n
  | j + 1 => eqv_trans (T_add _ _ _ _) (eqv_ad (eqv_trans (T_times _ _ _ _) (eqv_ml (T_geo h j) h)) (T_one m n))
def invT (m : Int) (n : Nat) (f : List (List Int)) : List (List Int) := geoT m n (subT m n (oneT m n) f) (n - 1)
theorem T_inv {m : Int} {n : Nat} {f : List (List Int)} {r : Nat → Nat → Int} (h : eqv m n (atT f) (ad oo (ng r))) : eqv m n (atT (invT m n f)) (geo r (n - 1)) := by
  refine T_geo (eqv_trans (T_sub _ _ _ _) ?_) _
  have h1 : eqv m n (ng (atT f)) (ng (ad oo (ng r))) := by
    have := eqv_mll (ic (-1) : Nat → Nat → Int) h
    rwa [ic_m1, ic_m1] at this
  refine eqv_trans (eqv_ad (T_one m n) h1) (eqv_of ?_)
  have e : ng (ad oo (ng r)) = ad (ng oo) r := by
    show ml (ic (-1)) (ad oo (ng r)) = _
    rw [ml_ad, ic_m1, ic_m1, ng_ng]
  rw [e, ← ad_assoc, ad_ng, zz_ad]

section tabs
variable (m : Int) (n : Nat) (a : Nat → Int) (W : List Int)
def wtV (L : List (List Int)) : List (List Int) := subT m n (clnT m n (W.take n)) (timesT m n L (xT n))
def wtTop (L V : List (List Int)) : List (List Int) :=
  addT m n (addT m n (addT m n (addT m n (scaT m n (a 0) L) (scaT m n (a 1) V)) (scaT m n (a 2) (timesT m n L L))) (scaT m n (2 * a 3) (timesT m n L V))) (scaT m n (3 * a 4) (timesT m n (timesT m n L L) V))
def wtUnder (L : List (List Int)) : List (List Int) :=
  addT m n (addT m n (addT m n (oneT m n) (scaT m n (a 1) L)) (scaT m n (a 3) (timesT m n L L))) (scaT m n (a 4) (timesT m n (timesT m n L L) L))
def wtMinus (L : List (List Int)) : List (List Int) := addT m n (addT m n (xT n) (yT n)) (timesT m n (wtTop m n a L (wtV m n W L)) (invT m n (wtUnder m n a L)))
def wtBelow (U : List (List Int)) : List (List Int) := subT m n (subT m n (oneT m n) (scaT m n (a 0) U)) (scaT m n (a 2) (hornT m n U (W.take n)))
def wtLaw : List (List Int) :=
  timesT m n (wtMinus m n a W (linT m n W)) (invT m n (wtBelow m n a W (scaT m n (-1) (wtMinus m n a W (linT m n W)))))
end tabs
theorem wtLaw_eqv {m : Int} {n : Nat} (a : Nat → Int) (W : List Int) : eqv m n (atT (wtLaw m n a W))
    (ml (weiMP n a (atT (linT m n W)) (atT (clnT m n (W.take n))) (atT (xT n)) (atT (yT n))) (geo (weiD n a (at0 (W.take n)) (ng (weiMP n a (atT (linT m n W)) (atT (clnT m n (W.take n))) (atT (xT n)) (atT (yT n))))) (n - 1))) := by
  have ti : ∀ {s t : List (List Int)} {f g : Nat → Nat → Int}, eqv m n (atT s) f → eqv m n (atT t) g → eqv m n (atT (timesT m n s t)) (ml f g) := fun h k => eqv_trans (T_times _ _ _ _) (eqv_ml h k)
  have adl : ∀ {s t : List (List Int)} {f g : Nat → Nat → Int}, eqv m n (atT s) f → eqv m n (atT t) g → eqv m n (atT (addT m n s t)) (ad f g) := fun h k => eqv_trans (T_add _ _ _ _) (eqv_ad h k)
  have sc : ∀ {c : Int} {s : List (List Int)} {f : Nat → Nat → Int}, eqv m n (atT s) f → eqv m n (atT (scaT m n c s)) (ml (ic c) f) := fun h => eqv_trans (T_sca _ _ _ _) (eqv_mll _ h)
  have ngl : ∀ {f g : Nat → Nat → Int}, eqv m n f g → eqv m n (ng f) (ng g) := fun h => by
    have := eqv_mll (ic (-1) : Nat → Nat → Int) h
    rwa [ic_m1, ic_m1] at this
  have su : ∀ {s t : List (List Int)} {f g : Nat → Nat → Int}, eqv m n (atT s) f → eqv m n (atT t) g → eqv m n (atT (subT m n s t)) (ad f (ng g)) := fun h k => eqv_trans (T_sub _ _ _ _) (eqv_ad h (ngl k))
  generalize hL : linT m n W = L
  have hV : eqv m n (atT (wtV m n W L)) (ad (atT (clnT m n (W.take n))) (ng (ml (atT L) (atT (xT n))))) := su eqv_rfl (ti eqv_rfl eqv_rfl)
  have hT : eqv m n (atT (wtTop m n a L (wtV m n W L))) (weiTop a (atT L) (ad (atT (clnT m n (W.take n))) (ng (ml (atT L) (atT (xT n)))))) :=
    adl (adl (adl (adl (sc eqv_rfl) (sc hV)) (sc (ti eqv_rfl eqv_rfl))) (sc (ti eqv_rfl hV))) (sc (ti (ti eqv_rfl eqv_rfl) hV))
  have hUn : eqv m n (atT (wtUnder m n a L)) (ad oo (ng (ng (weiBot a (atT L))))) := by
    rw [ng_ng]
    refine eqv_trans (adl (adl (adl (T_one m n) (sc eqv_rfl)) (sc (ti eqv_rfl eqv_rfl))) (sc (ti (ti eqv_rfl eqv_rfl) eqv_rfl))) (eqv_of ?_)
    unfold weiBot
    rw [ad_assoc, ad_assoc, ad_assoc]
  have hM : eqv m n (atT (wtMinus m n a W L)) (weiMP n a (atT L) (atT (clnT m n (W.take n))) (atT (xT n)) (atT (yT n))) :=
    adl (adl eqv_rfl eqv_rfl) (ti hT (T_inv hUn))
  have key : ∀ M0 : Nat → Nat → Int, eqv m n (atT (wtMinus m n a W L)) M0 → lo m 1 M0 → True := fun _ _ _ => trivial
  unfold wtLaw
  rw [hL]
  refine ti hM ?_
  have hU : eqv m n (atT (scaT m n (-1) (wtMinus m n a W L))) (ng (weiMP n a (atT L) (atT (clnT m n (W.take n))) (atT (xT n)) (atT (yT n)))) := by
    have := sc (c := -1) hM
    rwa [ic_m1] at this
  refine T_inv ?_
  have hH : eqv m n (atT (hornT m n (scaT m n (-1) (wtMinus m n a W L)) (W.take n))) (ev1 n (at0 (W.take n)) (ng (weiMP n a (atT L) (atT (clnT m n (W.take n))) (atT (xT n)) (atT (yT n))))) :=
    eqv_trans (T_horn _ _ (by rw [List.length_take]; omega)) (ev1_a _ hU)
  refine eqv_trans (su (su (T_one m n) (sc hU)) (sc hH)) (eqv_of ?_)
  unfold weiD
  have e : ∀ p q : Nat → Nat → Int, ad (ad oo (ng p)) (ng q) = ad oo (ng (ad p q)) := fun p q => by
    have : ng (ad p q) = ad (ng p) (ng q) := by
      show ml (ic (-1)) (ad p q) = _
      rw [ml_ad]; rfl
    rw [this, ad_assoc]
  exact e _ _

section tabr
variable (m : Int) (n : Nat) (a : Nat → Int) (W : List Int)
def wrV (L : List (List Int)) : List (List Int) := addT m n (clnT m n (W.take n)) (scaT m n (m - 1) (timesT m n L (xT n)))
def wrTop (L V : List (List Int)) : List (List Int) :=
  addT m n (addT m n (addT m n (addT m n (scaT m n (a 0) L) (scaT m n (a 1) V)) (scaT m n (a 2) (timesT m n L L))) (scaT m n (2 * a 3 % m) (timesT m n L V))) (scaT m n (3 * a 4 % m) (timesT m n (timesT m n L L) V))
def wrBot (L : List (List Int)) : List (List Int) :=
  addT m n (addT m n (scaT m n (a 1) L) (scaT m n (a 3) (timesT m n L L))) (scaT m n (a 4) (timesT m n (timesT m n L L) L))
def wrU (L : List (List Int)) : List (List Int) :=
  scaT m n (m - 1) (addT m n (addT m n (xT n) (yT n)) (timesT m n (wrTop m n a L (wrV m n W L)) (hornT m n (wrBot m n a L) (sgnL m n))))
def wrB : List Int := mk n (fun k => if k = 0 then 1 else (m - (a 2 * at0 W k + (if k = 1 then a 0 else 0)) % m) % m)
def wrLaw : List (List Int) := hornT m n (wrU m n a W (linT m n W)) (timesL m n ((List.replicate n 0).set 1 (m - 1)) (invS m n (wrB m n a W)))
end tabr
theorem lo_T0 {m : Int} {F : Nat → Nat → Int} (h : F 0 0 = 0) : lo m 1 F := fun i => by
  by_cases hi : i = 0
  · subst hi
    exact lo_fun fun j hj => by rw [show j = 0 by omega, h]
  · rw [show 1 - i = 0 by omega]; exact lo_0 _ _
theorem m1_eqv {T : Type} [Rg T] {m : Int} {n : Nat} {f g : T} (h : eqv m n f g) : eqv m n (ml (ic (m - 1)) f) (ng g) := by
  have h1 : eqv m n (ic (m - 1) : T) (ic (-1)) := eqv_ic (by rw [Int.sub_eq_add_neg, Int.add_emod_left])
  have h2 := eqv_ml h1 h
  rwa [ic_m1] at h2
theorem wrB_inv {m : Int} (hm : 2 ≤ m) {n : Nat} (h2 : 2 ≤ n) (a : Nat → Int) {W : List Int} (h0 : at0 W 0 = 0) :
    eqv m n (ml (ad oo (ng (ad (ml (ic (a 0)) xS) (ml (ic (a 2)) (at0 (W.take n)))))) (at0 (invS m n (wrB m n a W)))) (oo : Nat → Int) := by
  have hb0 : at0 (wrB m n a W) 0 = 1 := by
    show at0 (mk n _) 0 = 1
    rw [mk_at (by omega), if_pos rfl]
  have hu : at0 (wrB m n a W) 0 * invM m (at0 (wrB m n a W) 0) % m = 1 % m := by
    rw [hb0]
    exact unitB_inv (by omega) (by omega) (by simp [unitB])
  have h1 := inv_times hm (n := n) (by omega) (a := wrB m n a W) hu
  have h3 : eqv m n (ml (at0 (wrB m n a W)) (at0 (invS m n (wrB m n a W)))) (oo : Nat → Int) := by
    refine eqv_trans (eqv_symm (L_times m n _ _)) ?_
    rw [h1]
    refine eqv1.2 fun k hk => ?_
    rw [mk_at hk]
    congr 1
  refine eqv_trans (eqv_mlr _ (eqv1.2 fun k hk => ?_)) h3
  have e1 : (ad oo (ng (ad (ml (ic (a 0)) xS) (ml (ic (a 2)) (at0 (W.take n))))) : Nat → Int) k = (if k = 0 then 1 else 0) - (a 0 * xS k + a 2 * at0 W k) := by
    rw [ser_ad]
    show (oo : Nat → Int) k + (ml (ic (-1)) (ad (ml (ic (a 0)) xS) (ml (ic (a 2)) (at0 (W.take n)))) : Nat → Int) k = _
    rw [ser_icml, ser_ad, ser_icml, ser_icml]
    have e2 : at0 (W.take n) k = at0 W k := by unfold at0 List.getD; rw [List.getElem?_take, if_pos hk]
    rw [e2]
    have e3 : (oo : Nat → Int) k = if k = 0 then 1 else 0 := by
      cases k with
      | zero => rfl
      | succ k => rfl
    rw [e3]
    show _ + (-1) * (a 0 * xS k + a 2 * at0 W k) = _
    omega
  rw [e1]
  show _ = at0 (mk n _) k % m
  rw [mk_at hk]
  by_cases hk0 : k = 0
  · subst hk0
    rw [if_pos rfl, if_pos rfl, h0]
    unfold xS mon
    rw [if_neg (by omega)]
    simp
  · rw [if_neg hk0, if_neg hk0, mod_self_mod]
    have e4 : a 0 * xS k + a 2 * at0 W k = a 2 * at0 W k + (if k = 1 then a 0 else 0) := by
      unfold xS mon
      by_cases h : k = 1
      · rw [if_pos h, if_pos h]; omega
      · rw [if_neg h, if_neg h]; omega
    rw [e4]
    generalize a 2 * at0 W k + (if k = 1 then a 0 else 0) = c
    rw [Int.zero_sub, Int.sub_eq_add_neg, Int.add_emod_left]
    exact (neg_mod2).symm
theorem wei_tab {m : Int} (hm : 2 ≤ m) {n : Nat} (h2 : 2 ≤ n) (a : Nat → Int) {W : List Int} (h0 : at0 W 0 = 0) (h1 : at0 W 1 = 0) : wtLaw m n a W = wrLaw m n a W := by
  have hm0 : 0 < m := by omega
  refine tab_eq (timesT_ok hm0 n _ _) (hornT_ok hm0 n _ _) (eqv_trans (wtLaw_eqv a W) ?_)
  have lL : lo m 1 (atT (linT m n W)) := lo_T0 (by show atT (tri n _) 0 0 = 0; rw [atT_tri (by omega), h1, Int.zero_emod])
  have lC : lo m 1 (atT (clnT m n (W.take n))) := lo_T0 (by
    show atT (tri n _) 0 0 = 0
    rw [atT_tri (by omega), if_pos rfl]
    have e2 : at0 (W.take n) 0 = at0 W 0 := by unfold at0 List.getD; rw [List.getElem?_take, if_pos (by omega)]
    rw [e2, h0, Int.zero_emod])
  have lX : lo m 1 (atT (xT n)) := lo_T0 (by show atT (tri n _) 0 0 = 0; rw [atT_tri (by omega), if_neg (by omega)])
  have lY : lo m 1 (atT (yT n)) := lo_T0 (by show atT (tri n _) 0 0 = 0; rw [atT_tri (by omega), if_neg (by omega)])
  have lw : lo m 1 (at0 (W.take n)) := lo_at0 (by unfold at0 List.getD; rw [List.getElem?_take, if_pos (by omega)]; exact h0)
  refine eqv_trans (wei_law h2 a lL lC lX lY lw (wrB_inv hm h2 a h0)) ?_
  generalize hB : at0 (invS m n (wrB m n a W)) = B
  have ti : ∀ {s t : List (List Int)} {f g : Nat → Nat → Int}, eqv m n (atT s) f → eqv m n (atT t) g → eqv m n (atT (timesT m n s t)) (ml f g) := fun h k => eqv_trans (T_times _ _ _ _) (eqv_ml h k)
  have adl : ∀ {s t : List (List Int)} {f g : Nat → Nat → Int}, eqv m n (atT s) f → eqv m n (atT t) g → eqv m n (atT (addT m n s t)) (ad f g) := fun h k => eqv_trans (T_add _ _ _ _) (eqv_ad h k)
  have sc : ∀ {c : Int} {s : List (List Int)} {f : Nat → Nat → Int}, eqv m n (atT s) f → eqv m n (atT (scaT m n c s)) (ml (ic c) f) := fun h => eqv_trans (T_sca _ _ _ _) (eqv_mll _ h)
  have scm : ∀ {c : Int} {s : List (List Int)} {f : Nat → Nat → Int}, eqv m n (atT s) f → eqv m n (atT (scaT m n (c % m) s)) (ml (ic c) f) := fun h => eqv_trans (sc h) (eqv_mlr _ (eqv_ic (mod_self_mod _ _)))
  have sn : ∀ {s : List (List Int)} {f : Nat → Nat → Int}, eqv m n (atT s) f → eqv m n (atT (scaT m n (m - 1) s)) (ng f) := fun h => eqv_trans (T_sca _ _ _ _) (m1_eqv h)
  unfold wrLaw
  rw [← hB]
  generalize hL : linT m n W = L
  have hV : eqv m n (atT (wrV m n W L)) (ad (atT (clnT m n (W.take n))) (ng (ml (atT L) (atT (xT n))))) := adl eqv_rfl (sn (ti eqv_rfl eqv_rfl))
  have hT : eqv m n (atT (wrTop m n a L (wrV m n W L))) (weiTop a (atT L) (ad (atT (clnT m n (W.take n))) (ng (ml (atT L) (atT (xT n)))))) :=
    adl (adl (adl (adl (sc eqv_rfl) (sc hV)) (sc (ti eqv_rfl eqv_rfl))) (scm (ti eqv_rfl hV))) (scm (ti (ti eqv_rfl eqv_rfl) hV))
  have hBo : eqv m n (atT (wrBot m n a L)) (weiBot a (atT L)) := adl (adl (sc eqv_rfl) (sc (ti eqv_rfl eqv_rfl))) (sc (ti (ti eqv_rfl eqv_rfl) eqv_rfl))
  have hS : eqv m n (atT (hornT m n (wrBot m n a L) (sgnL m n))) (ev1 n (at0 (sgnL m n)) (weiBot a (atT L))) := eqv_trans (T_horn _ _ (by unfold sgnL; rw [mk_len]; omega)) (ev1_a _ hBo)
  have hU : eqv m n (atT (wrU m n a W L)) (ng (weiMR m n a (atT L) (atT (clnT m n (W.take n))) (atT (xT n)) (atT (yT n)))) := sn (adl (adl eqv_rfl eqv_rfl) (ti hT hS))
  have lU : lo m 1 (atT (wrU m n a W L)) := by
    rw [hL] at lL
    have hM := weiM_eq (m := m) (n := n) (by omega) a (atT L) (atT (clnT m n (W.take n))) (atT (xT n)) (atT (yT n))
    have l1 := lo_eqv hM (show 1 ≤ n by omega) (weiMP_lo (n := n) a lL lC lX lY)
    exact lo_eqv hU (show 1 ≤ n by omega) (lo_ng l1)
  refine eqv_trans (ev1_a _ (eqv_symm hU)) (eqv_trans (ev1_f lU (Nat.le_refl _) ?_) (eqv_symm (T_horn _ _ (by rw [timesL_len]; omega))))
  refine eqv_trans (eqv_mlr _ ?_) (eqv_symm (L_times m n _ _))
  refine eqv1.2 fun k hk => ?_
  show (ml (ic (-1)) xS : Nat → Int) k % m = _
  rw [ser_icml, at0_set, at0_rep, List.length_replicate]
  show (-1) * xS k % m = _
  unfold xS mon
  by_cases h : k = 1
  · rw [if_pos h, if_pos ⟨h, by omega⟩, Int.mul_one, Int.sub_eq_add_neg, Int.add_emod_left]
  · rw [if_neg h, if_neg (fun e => h e.1), Int.mul_zero]
end Go.Proofs.Ytmmneicblcjkjaa
