/- Lemmas of WeiP. -/
import Derived.Test.YtmmneicblcjkjaaQWei
set_option linter.unusedSimpArgs false
set_option linter.unusedVariables false
namespace Go.Proofs.Ytmmneicblcjkjaa
open Rg

section inv
variable {T : Type} [Rg T]
theorem ml_ooW (a : T) : ml a oo = a := by rw [ml_comm]; exact oo_ml a
theorem inv_uniq {m : Int} {n : Nat} {f p q : T} (hp : eqv m n (ml f p) oo) (hq : eqv m n (ml f q) oo) : eqv m n p q := by
  have h1 : eqv m n (ml p (ml f q)) (ml p oo) := eqv_mll p hq
  have h2 : eqv m n (ml (ml f p) q) (ml oo q) := eqv_mlr q hp
  rw [ml_ooW] at h1
  rw [oo_ml] at h2
  have e : ml p (ml f q) = ml (ml f p) q := by rw [← ml_assoc, ml_comm p f]
  rw [e] at h1
  exact eqv_trans (eqv_symm h1) h2
def geo (r : T) : Nat → T
  | 0 => oo
  | j + 1 => ad (ml (geo r j) r) oo
theorem geo_ok {f r : T} (h : ad f r = oo) : ∀ j, ad (ml f (geo r j)) (pw r (j + 1)) = oo
  | 0 => by
    show ad (ml f oo) (pw r 1) = oo
    rw [ml_ooW, pw_1]; exact h
  | j + 1 => by
    have ih := geo_ok h j
    show ad (ml f (ad (ml (geo r j) r) oo)) (ml (pw r (j + 1)) r) = oo
    rw [ml_ad, ml_ooW, ← ml_assoc]
    have e : ad (ad (ml (ml f (geo r j)) r) f) (ml (pw r (j + 1)) r) = ad (ml (ad (ml f (geo r j)) (pw r (j + 1))) r) f := by
      rw [ad_ml]; ac_rfl
    rw [e, ih, oo_ml, ad_comm]
    exact h
theorem geo_inv {m : Int} {n j : Nat} {f r : T} (h : ad f r = oo) (hr : lo m 1 r) (hn : n ≤ j + 1) : eqv m n (ml f (geo r j)) oo := by
  have hp : eqv m n (pw r (j + 1)) zz := eqv_lo (lo_le (pw_lo hr (j + 1)) hn)
  have h1 := eqv_ad (eqv_rfl (m := m) (n := n) (x := ml f (geo r j))) hp
  rw [geo_ok h j, ad_zz] at h1
  exact eqv_symm h1
theorem geo_sm (r : T) : ∀ j, geo r j = sm (j + 1) (pw r)
  | 0 => by
    show oo = ad zz oo
    rw [zz_ad]
  | j + 1 => by
    show ad (ml (geo r j) r) oo = _
    rw [geo_sm r j, ml_comm, sm_ml, ad_comm]
    conv => rhs; rw [sm_first]
    show ad oo _ = ad oo _
    congr 1
    congr 1
    funext i
    exact ml_comm _ _
theorem ic_m1 (x : T) : ml (ic (-1)) x = ng x := rfl
def sgnL (m : Int) (n : Nat) : List Int := mk n (fun k => if k % 2 = 0 then 1 else m - 1)
theorem pw_ngW (b : T) : ∀ k, pw (ng b) k = if k % 2 = 0 then pw b k else ng (pw b k)
  | 0 => rfl
  | k + 1 => by
    show ml (pw (ng b) k) (ng b) = _
    rw [pw_ngW b k]
    by_cases h : k % 2 = 0
    · rw [if_pos h, if_neg (by omega), ml_ng]; rfl
    · rw [if_neg h, if_pos (by omega), ml_ng, ng_ml, ng_ng]; rfl
theorem sgn_ev {m : Int} {n : Nat} (b : T) : eqv m n (ev1 n (at0 (sgnL m n)) b) (sm n (pw (ng b))) := by
  unfold ev1 ex
  refine sm_eqv fun k hk => ?_
  rw [pw_ngW]
  have e : at0 (sgnL m n) k = if k % 2 = 0 then 1 else m - 1 := mk_at hk
  rw [e]
  by_cases h : k % 2 = 0
  · rw [if_pos h, if_pos h, ic_1, oo_ml]; exact eqv_rfl
  · rw [if_neg h, if_neg h]
    have h1 : eqv m n (ic (m - 1) : T) (ic (-1)) := eqv_ic (by rw [Int.sub_eq_add_neg, Int.add_emod_left])
    have h2 := eqv_mlr (pw b k) h1
    rw [ic_m1] at h2
    exact h2
end inv

section law
variable {T : Type} [Rg T]
def weiTop (a : Nat → Int) (L V : T) : T := ad (ad (ad (ad (ml (ic (a 0)) L) (ml (ic (a 1)) V)) (ml (ic (a 2)) (ml L L))) (ml (ic (2 * a 3)) (ml L V))) (ml (ic (3 * a 4)) (ml (ml L L) V))
def weiBot (a : Nat → Int) (L : T) : T := ad (ad (ml (ic (a 1)) L) (ml (ic (a 3)) (ml L L))) (ml (ic (a 4)) (ml (ml L L) L))
def weiMP (n : Nat) (a : Nat → Int) (L W X Y : T) : T := ad (ad X Y) (ml (weiTop a L (ad W (ng (ml L X)))) (geo (ng (weiBot a L)) (n - 1)))
def weiMR (m : Int) (n : Nat) (a : Nat → Int) (L W X Y : T) : T := ad (ad X Y) (ml (weiTop a L (ad W (ng (ml L X)))) (ev1 n (at0 (sgnL m n)) (weiBot a L)))
def weiD (n : Nat) (a : Nat → Int) (w : Nat → Int) (U : T) : T := ad (ml (ic (a 0)) U) (ml (ic (a 2)) (ev1 n w U))
theorem weiTop_lo {m : Int} (a : Nat → Int) {L V : T} (h : lo m 1 L) (k : lo m 1 V) : lo m 1 (weiTop a L V) := lo_ad (lo_ad (lo_ad (lo_ad (lo_mul _ h) (lo_mul _ k)) (lo_mul _ (lo_mul _ h))) (lo_mul _ (lo_mul _ k))) (lo_mul _ (lo_mul _ k))
theorem lo_mulr {m : Int} {k : Nat} {x : T} (y : T) (h : lo m k x) : lo m k (ml x y) := by rw [ml_comm]; exact lo_mul y h
theorem weiMP_lo {m : Int} {n : Nat} (a : Nat → Int) {L W X Y : T} (hL : lo m 1 L) (hW : lo m 1 W) (hX : lo m 1 X) (hY : lo m 1 Y) : lo m 1 (weiMP n a L W X Y) :=
  lo_ad (lo_ad hX hY) (lo_mulr _ (weiTop_lo a hL (lo_ad hW (lo_ng (lo_mulr _ hL)))))
theorem weiM_eq {m : Int} {n : Nat} (hn : 1 ≤ n) (a : Nat → Int) (L W X Y : T) : eqv m n (weiMR m n a L W X Y) (weiMP n a L W X Y) := by
  unfold weiMR weiMP
  refine eqv_ad eqv_rfl (eqv_mll _ ?_)
  have h := sgn_ev (m := m) (n := n) (weiBot a L)
  rw [show n = (n - 1) + 1 by omega] at h ⊢
  rw [← geo_sm] at h
  exact h
theorem ev1_w_lo {m : Int} {n : Nat} {w : Nat → Int} {U : T} (hw : lo m 1 w) (hU : lo m 1 U) (hn : 1 ≤ n) : lo m 1 (ev1 n w U) := (hm1 (n := n) hU).lo 1 w hn hw
theorem wei_law {m : Int} {n : Nat} (hn : 2 ≤ n) (a : Nat → Int) {L W X Y : T} {w B : Nat → Int} (hL : lo m 1 L) (hW : lo m 1 W) (hX : lo m 1 X) (hY : lo m 1 Y) (hw : lo m 1 w)
    (hB : eqv m n (ml (ad oo (ng (ad (ml (ic (a 0)) xS) (ml (ic (a 2)) w)))) B) oo) :
    eqv m n (ml (weiMP n a L W X Y) (geo (weiD n a w (ng (weiMP n a L W X Y))) (n - 1))) (ev1 n (ml (ng xS) B) (ng (weiMR m n a L W X Y))) := by
  have hM := weiMP_lo (n := n) a hL hW hX hY
  have hMM := weiM_eq (m := m) (n := n) (by omega) a L W X Y
  generalize weiMP n a L W X Y = M at hM hMM ⊢
  generalize weiMR m n a L W X Y = M' at hMM ⊢
  have hU : lo m 1 (ng M) := lo_ng hM
  have eU : eqv m n (ng M') (ng M) := by
    have := eqv_mll (ic (-1) : T) hMM
    rwa [ic_m1, ic_m1] at this
  have H := hm1 (m := m) (n := n) hU
  refine eqv_trans ?_ (eqv_symm (ev1_a _ eU))
  refine eqv_trans ?_ (eqv_symm (H.ml (ng xS) B))
  have e1 : ev1 n (ng xS) (ng M) = M := by
    have := H.ng xS
    rw [show ev1 n (ng xS) (ng M) = ng (ev1 n xS (ng M)) from this, ev1_xl (m := m) hn, ng_ng]
  rw [e1]
  refine eqv_mll M ?_
  have lD : lo m 1 (weiD n a w (ng M)) := lo_ad (lo_mul _ hU) (lo_mul _ (ev1_w_lo hw hU (by omega)))
  have g1 : eqv m n (ml (ad oo (ng (weiD n a w (ng M)))) (geo (weiD n a w (ng M)) (n - 1))) oo := geo_inv (by rw [ad_assoc, ng_ad, ad_zz]) lD (by omega)
  have eD : eqv m n (ev1 n (ad oo (ng (ad (ml (ic (a 0)) xS) (ml (ic (a 2)) w)))) (ng M)) (ad oo (ng (weiD n a w (ng M)))) := by
    rw [show ev1 n (ad oo (ng (ad (ml (ic (a 0)) xS) (ml (ic (a 2)) w)))) (ng M) = ad (ev1 n oo (ng M)) (ev1 n (ng (ad (ml (ic (a 0)) xS) (ml (ic (a 2)) w))) (ng M)) from H.ad _ _]
    rw [show ev1 n (ng (ad (ml (ic (a 0)) xS) (ml (ic (a 2)) w))) (ng M) = ng (ev1 n (ad (ml (ic (a 0)) xS) (ml (ic (a 2)) w)) (ng M)) from H.ng _]
    rw [show ev1 n (ad (ml (ic (a 0)) xS) (ml (ic (a 2)) w)) (ng M) = ad (ev1 n (ml (ic (a 0)) xS) (ng M)) (ev1 n (ml (ic (a 2)) w) (ng M)) from H.ad _ _]
    have c1 : eqv m n (ev1 n (ml (ic (a 0)) xS) (ng M)) (ml (ic (a 0)) (ng M)) := by
      have := eqv_trans (H.ml (ic (a 0)) xS) (eqv_mlr _ (H.ic (a 0)))
      rwa [show ev1 n xS (ng M) = ng M from ev1_xl (m := m) hn _] at this
    have c2 : eqv m n (ev1 n (ml (ic (a 2)) w) (ng M)) (ml (ic (a 2)) (ev1 n w (ng M))) := eqv_trans (H.ml (ic (a 2)) w) (eqv_mlr _ (H.ic (a 2)))
    have c3 := eqv_mll (ic (-1) : T) (eqv_ad c1 c2)
    rw [ic_m1, ic_m1] at c3
    exact eqv_ad H.oo c3
  have g2 : eqv m n (ml (ad oo (ng (weiD n a w (ng M)))) (ev1 n B (ng M))) oo := by
    refine eqv_trans (eqv_mlr _ (eqv_symm eD)) ?_
    refine eqv_trans (eqv_symm (H.ml _ B)) ?_
    exact eqv_trans (H.eqv (Nat.le_refl _) hB) H.oo
  exact inv_uniq g1 g2
end law
end Go.Proofs.Ytmmneicblcjkjaa
