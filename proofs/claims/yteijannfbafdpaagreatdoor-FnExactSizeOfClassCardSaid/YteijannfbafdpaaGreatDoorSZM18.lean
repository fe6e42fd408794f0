/- Lemmas. -/
import Derived.Test.YteijannfbafdpaaGreatDoorSZM15
import Derived.Test.YteijannfbafdpaaGreatDoorSZM17
import Derived.Test.YteijannfbafdpaaGreatDoorSZM14
import Derived.Test.YteijannfbafdpaaGreatDoorSZM8
import Derived.Test.YteijannfbafdpaaGreatDoorSZHomP
import Derived.Test.YteijannfbafdpaaGreatDoorSZG2
set_option linter.unusedSimpArgs false
set_option linter.unusedVariables false
namespace Go.Proofs.YteijannfbafdpaaGreatDoor
open Go.RowKit

theorem botM_len (m : Int) (n : Nat) (t : List (List Int)) (a b : List Int) : (botL m n t a b).length = n := tri_len _ _
theorem botM_ok {m : Int} (hm : 0 < m) (n : Nat) (t : List (List Int)) (a b : List Int) : PlaT m n (botL m n t a b) := botTo_ok hm _ _ _ _ _ _
def cooT (m : Int) (n : Nat) (t : List (List Int)) (a : List Int) : List (List Int) := hornT m n (botL m n t (revL m n a) (revL m n a)) a
theorem cooT_len (m : Int) (n : Nat) (t : List (List Int)) (a : List Int) : (cooT m n t a).length = n := hornT_len _ _ _ _
set_option maxHeartbeats 4000000 in
set_option maxRecDepth 100000 in
theorem inCoordinate_c (m : Int) (n : Nat) (v u : Value) (t : List (List Int)) (xs : List Int) (w : World) (hv : RdT w v t) (hu : RdI w u xs) (hl : xs.length = n) (h1 : 2 ≤ n) (hn : n ≤ 1000) (hm : 2 ≤ m) (hm' : m ≤ 10000) (ht : PlaT m n t) (hx : ∀ x ∈ xs, 0 ≤ x ∧ x < m) :
    Calls Tryz.prog 36 #[.agg #[.int .i64 m, v], .agg #[.int .i64 m, u]] w fun e w' => PVEnd w w' m (cooT m n t xs) e := by
  subst hl
  obtain ⟨o, c, rfl, -, -⟩ := id hv
  obtain ⟨o', c', rfl, -, -⟩ := id hu
  have hv' : RdT w (.slice o xs.length c) t := by rw [ht.1] at hv; exact hv
  rw [ht.1]
  have HT := Lib.hid ht
  have HRl := Lib.hid (revL_len m xs.length xs)
  have HRr := Lib.hid (revL_range (m := m) (show 0 < m by omega) xs.length xs)
  have HBo := Lib.hid (botM_ok (m := m) (show 0 < m by omega) xs.length t (revL m xs.length xs) (revL m xs.length xs))
  have HC := Lib.hid (show hornT m xs.length (botL m xs.length t (revL m xs.length xs) (revL m xs.length xs)) xs = cooT m xs.length t xs from rfl)
  clear ht hv
  go_enter Tryz.func36, Tryz.ntmps36
  go_wp2_with fail
  (obtain ⟨w0, hw0⟩ : ∃ W : World, W = (((w.alloc (.cells #[.int .i64 m, .slice o xs.length c] 28)).alloc (.cells #[.int .i64 m, .slice o' xs.length c'] 57)).alloc (.cells #[.int .i64 0, .slice none 0 0] 28)) := ⟨_, rfl⟩; have X0 := (RB2.mk1 w  (.int .i64 m) (.slice o xs.length c) 28).1.below (w' := w0) (by rw [hw0]; (repeat (first | exact bR _ _ | (refine bS ?_ _) | (refine bA ?_ _) | (refine bN ?_ _) | (refine bD ?_)))) (Nat.le_refl _); have Y0 := (RB2.mk2 w (.cells #[.int .i64 m, .slice o xs.length c] 28) (.int .i64 m) (.slice o' xs.length c') 57).1.below (w' := w0) (by rw [hw0]; (repeat (first | exact bR _ _ | (refine bS ?_ _) | (refine bA ?_ _) | (refine bN ?_ _) | (refine bD ?_)))) (Nat.le_refl _); have R0 := (RB2.mk3 w (.cells #[.int .i64 m, .slice o xs.length c] 28) (.cells #[.int .i64 m, .slice o' xs.length c'] 57) (.int .i64 0) (.slice none 0 0) 28).below (w' := w0) (by rw [hw0]; (repeat (first | exact bR _ _ | (refine bS ?_ _) | (refine bA ?_ _) | (refine bN ?_ _) | (refine bD ?_)))) (Nat.le_refl _); have B0 : Below w.heap.size w w0 := (by rw [hw0]; (repeat (first | exact bR _ _ | (refine bS ?_ _) | (refine bA ?_ _) | (refine bN ?_ _) | (refine bD ?_)))); have hv'0 := hv'.below (w' := w0) (by rw [hw0]; (repeat (first | exact bR _ _ | (refine bS ?_ _) | (refine bA ?_ _) | (refine bN ?_ _) | (refine bD ?_)))) (Nat.le_refl _); have hu0 := hu.below (w' := w0) (by rw [hw0]; (repeat (first | exact bR _ _ | (refine bS ?_ _) | (refine bA ?_ _) | (refine bN ?_ _) | (refine bD ?_)))) (Nat.le_refl _); rw [← hw0]; clear hw0)
  obtain ⟨y0, y1⟩ := id Y0
  have B0s := B0.size
  go_wp2_with fail
  refine (reverseS_c m _ xs _ hu0 (by omega) (by omega) (by omega) (by omega) hx).mono ?_
  rintro e w1 ⟨vr, rfl, hor, hb⟩
  obtain ⟨or, cr, rfl⟩ := hor.shapeN (n := xs.length) HRl.out
  clear y0 y1
  (have X1 := X0.below hb (Nat.le_refl _); have Y1 := Y0.below hb (Nat.le_refl _); have R1 := R0.below hb (Nat.le_refl _); have hv'1 := hv'0.below hb (Nat.le_refl _); have hu1 := hu0.below hb (Nat.le_refl _); have B1 := B0.trans (hb.mono B0.size))
  have hb1 := hb.size
  have lR := R1.1.lt
  go_wp2_with fail
  (have hb : Below w1.heap.size w1 (w1.alloc (.cells #[.int .i64 m, .slice or xs.length cr] 57)) := (by (repeat (first | exact bR _ _ | (refine bS ?_ _) | (refine bA ?_ _) | (refine bN ?_ _) | (refine bD ?_)))); have X2 := X1.below hb (Nat.le_refl _); have Y2 := Y1.below hb (Nat.le_refl _); have R2 := R1.below hb (Nat.le_refl _); have hv'2 := hv'1.below hb (Nat.le_refl _); have hu2 := hu1.below hb (Nat.le_refl _); have hor := hor.alloc (.cells #[.int .i64 m, .slice or xs.length cr] 57); have B2 := B1.trans (hb.mono B1.size); have O := RB2.mk1 w1 (.int .i64 m) (.slice or xs.length cr) 57; have hl_w2 := hb.size; clear hb; generalize w1.alloc (.cells #[.int .i64 m, .slice or xs.length cr] 57) = w2 at O B2 hl_w2 X2 Y2 R2 hv'2 hu2 hor ⊢)
  have hor2 := hor.rd
  have hB2 := B2.size
  have hd0 : Below w2.heap.size w2 w2.drew := (Below.refl _ _).drew
  have hsd0 := hd0.size
  have hrl := R2.1.lt
  have hneR_X2 : w.heap.size + 2 ≠ w.heap.size := by omega
  have hneR_Y2 : w.heap.size + 2 ≠ w.heap.size + 1 := by omega
  have hneR_O1 : w.heap.size + 2 ≠ w1.heap.size := by omega
  obtain ⟨⟨q0_R_0, q0_R_1⟩, qf0_R⟩ := R2.below (Below.refl w2.heap.size w2) (Nat.le_refl _)
  obtain ⟨q0_X2_0, q0_X2_1⟩ := X2.below (Below.refl w2.heap.size w2) (Nat.le_refl _)
  obtain ⟨q0_Y2_0, q0_Y2_1⟩ := Y2.below (Below.refl w2.heap.size w2) (Nat.le_refl _)
  obtain ⟨q0_O1_0, q0_O1_1⟩ := O.1.below (Below.refl w2.heap.size w2) (Nat.le_refl _)
  go_region_held3 (fun w' => w'.cell? ⟨w.heap.size, 0, none⟩ = some (.int .i64 m) ∧ w'.cell? ⟨w.heap.size, 1, none⟩ = some (.slice o xs.length c) ∧ w'.cell? ⟨w.heap.size + 1, 0, none⟩ = some (.int .i64 m) ∧ w'.cell? ⟨w.heap.size + 1, 1, none⟩ = some (.slice o' xs.length c') ∧ w'.cell? ⟨w1.heap.size, 0, none⟩ = some (.int .i64 m) ∧ w'.cell? ⟨w1.heap.size, 1, none⟩ = some (.slice or xs.length cr)) (go_keep)
    (first
      | (go_at_call 63; refine (bothP_c m xs.length _ _ _ t (revL m xs.length xs) (revL m xs.length xs) _ ((hv'2).below (by (repeat (first | exact bR _ _ | (refine bS ?_ _) | (refine bA ?_ _) | (refine bN ?_ _) | (refine bD ?_)))) (Nat.le_refl _)) ((hor2).below (by (repeat (first | exact bR _ _ | (refine bS ?_ _) | (refine bA ?_ _) | (refine bN ?_ _) | (refine bD ?_)))) (Nat.le_refl _)) ((hor2).below (by (repeat (first | exact bR _ _ | (refine bS ?_ _) | (refine bA ?_ _) | (refine bN ?_ _) | (refine bD ?_)))) (Nat.le_refl _)) HRl.out HRl.out (by omega) (by omega) hm hm' HT.out HRr.out HRr.out).mono ?_; rintro e wd1 ⟨vb, rfl, hod1, hbd1⟩; obtain ⟨ob, cb, rfl⟩ := hod1.shapeN (n := xs.length) (botM_len _ _ _ _ _); have hd1 : Below w2.heap.size w2 wd1 := (by (repeat (first | exact bR _ _ | (refine bS ?_ _) | (refine bA ?_ _) | (refine bN ?_ _) | (refine bD ?_) | (refine bT ?_ hbd1)))); have hsd1 := hd1.size; have hsz1_ := hbd1.size; (try simp at hsz1_); obtain ⟨⟨q1_R_0, q1_R_1⟩, qf1_R⟩ := R2.below hd1 (Nat.le_refl _); obtain ⟨q1_X2_0, q1_X2_1⟩ := X2.below hd1 (Nat.le_refl _); obtain ⟨q1_Y2_0, q1_Y2_1⟩ := Y2.below hd1 (Nat.le_refl _); obtain ⟨q1_O1_0, q1_O1_1⟩ := O.1.below hd1 (Nat.le_refl _))
      | (go_at_call 62; refine (ofS_c m m xs.length _ _ xs (botL m xs.length t (revL m xs.length xs) (revL m xs.length xs)) _ ((hu2).below (by (repeat (first | exact bR _ _ | (refine bS ?_ _) | (refine bA ?_ _) | (refine bN ?_ _) | (refine bD ?_) | (refine bT ?_ hbd1)))) (Nat.le_refl _)) ((hod1.below (by (repeat (first | exact bR _ _ | (refine bS ?_ _) | (refine bA ?_ _) | (refine bN ?_ _) | (refine bD ?_)))))).rd (by omega) (by omega) (by omega) (by omega) hm (by omega) hx HBo.out).mono ?_; rintro e wd2 ⟨vl, rfl, hod2, hbd2⟩; rw [HC.out] at hod2; obtain ⟨ol, cl, rfl⟩ := hod2.shapeN (n := xs.length) (cooT_len _ _ _ _); have hd2 : Below w2.heap.size w2 wd2 := (by (repeat (first | exact bR _ _ | (refine bS ?_ _) | (refine bA ?_ _) | (refine bN ?_ _) | (refine bD ?_) | (refine bT ?_ hbd1) | (refine bT ?_ hbd2)))); have hsd2 := hd2.size; have hsz2_ := hbd2.size; (try simp at hsz2_); obtain ⟨⟨q2_R_0, q2_R_1⟩, qf2_R⟩ := R2.below hd2 (Nat.le_refl _); obtain ⟨q2_X2_0, q2_X2_1⟩ := X2.below hd2 (Nat.le_refl _); obtain ⟨q2_Y2_0, q2_Y2_1⟩ := Y2.below hd2 (Nat.le_refl _); obtain ⟨q2_O1_0, q2_O1_1⟩ := O.1.below hd2 (Nat.le_refl _)))
  go_wp2
  refine bodyPost_ret (v := .agg #[.int .i64 m, .slice ol xs.length cl]) (by simp [results, Tryz.results36, go_sem, q2_R_0, q2_R_1]) rfl ⟨_, rfl, ?_, ?_⟩
  · have hbsz := B2.size
    exact ((hod2.low (by first | (simp; done) | (simp; omega) | omega) _).low (by first | (simp; done) | (simp; omega) | omega) _).mono (by first | (simp; done) | (simp; omega) | omega)
  · have hbsz := B2.size
    (repeat (first | exact bR _ _ | (refine bS ?_ _) | (refine bA ?_ _) | (refine bN ?_ _) | (refine bD ?_) | (refine bT ?_ hbd1) | (refine bT ?_ hbd2) | (refine bT ?_ B2)))

set_option maxHeartbeats 400000 in
theorem l03Both2_c (m : Int) (n : Nat) (v u : Value) (t : List (List Int)) (xs : List Int) (w : World) (hv : RdT w v t) (hu : RdI w u xs) (hlx : xs.length = n) (h1 : 1 ≤ n) (hn : n ≤ 1000) (hm : 2 ≤ m) (hm' : m ≤ 10000)
    (ht : PlaT m n t) (hx : ∀ x ∈ xs, 0 ≤ x ∧ x < m) (hx0 : at0 xs 0 = 0) :
    Calls Tryz.prog 43 #[.int .i64 m, v, u] w fun e w' => ∃ v', e = .returned v' ∧ OwS w' w.heap.size v' (botL m n t xs xs) ∧ Below w.heap.size w w' := by
  have HX := Lib.hid hx0
  clear hx0
  go_enter Tryz.func43, Tryz.ntmps43
  go_wp2_with fail
  refine (l03Both_c m n _ _ _ t xs xs _ hv hu hu hlx hlx h1 hn hm hm' ht hx hx HX.out HX.out).mono ?_
  rintro e w1 ⟨v', rfl, how, hb⟩
  go_wp2
  go_ret
  exact ⟨_, rfl, how, hb⟩

set_option maxHeartbeats 2000000 in
set_option maxRecDepth 100000 in
theorem l06Conjugate_c (m : Int) (n : Nat) (v u : Value) (t : List (List Int)) (xs : List Int) (w : World) (hv : RdT w v t) (hu : RdI w u xs) (hl : xs.length = n) (h1 : 2 ≤ n) (hn : n ≤ 1000) (hm : 2 ≤ m) (hm' : m ≤ 10000) (ht : PlaT m n t) (hx : ∀ x ∈ xs, 0 ≤ x ∧ x < m) :
    Calls Tryz.prog 24 #[.int .i64 m, v, u] w fun e w' => ∃ v', e = .returned v' ∧ OwS w' w.heap.size v' (cooT m n t xs) ∧ Below w.heap.size w w' := by
  subst hl
  obtain ⟨o', c', rfl, hmx, -⟩ := id hu
  unfold maxLen at hmx
  have HRl := Lib.hid (revL_len m xs.length xs)
  have HRr := Lib.hid (revL_range (m := m) (show 0 < m by omega) xs.length xs)
  have HR0 := Lib.hid (show at0 (revL m xs.length xs) 0 = 0 from revTo_0 _ _ _ _)
  have HBo := Lib.hid (botM_ok (m := m) (show 0 < m by omega) xs.length t (revL m xs.length xs) (revL m xs.length xs))
  go_enter Tryz.func24, Tryz.ntmps24
  go_wp2_with fail
  refine (l02Reverse_c m ((xs.length : Int) - 1) xs.length _ xs _ (by omega) hu rfl (by omega) (by omega) (by omega) (by omega) hx).mono ?_
  rintro e w1 ⟨vr, rfl, hor, B1⟩
  obtain ⟨or, cr, rfl⟩ := hor.shapeN (n := xs.length) HRl.out
  go_wp2_with fail
  refine (l03Both2_c m xs.length _ _ t (revL m xs.length xs) _ (hv.below B1 (Nat.le_refl _)) hor.rd HRl.out (by omega) (by omega) hm hm' ht HRr.out HR0.out).mono ?_
  rintro e w2 ⟨vt, rfl, hot, hb2⟩
  obtain ⟨ot, ct, rfl⟩ := hot.shapeN (n := xs.length) (botM_len _ _ _ _ _)
  have B2 := B1.trans (hb2.mono B1.size)
  go_wp2_with fail
  refine (l03After_c m xs.length _ _ xs _ _ (hu.below B2 (Nat.le_refl _)) hot.rd (by omega) (by omega) (by omega) (by omega) (by omega) hx HBo.out).mono ?_
  rintro e w3 ⟨vl, rfl, hol, hb3⟩
  have hBs := B2.size
  have B3 := B2.trans (hb3.mono hBs)
  go_wp2
  go_ret
  exact ⟨_, rfl, hol.mono hBs, B3⟩

end Go.Proofs.YteijannfbafdpaaGreatDoor
set_option linter.unusedSimpArgs false
set_option linter.unusedVariables false
namespace Go.Proofs.YteijannfbafdpaaGreatDoor
open Go.RowKit
open Rg

def stpG (m : Int) (N n : Nat) (own : Int) : List Int := (varL N).set n (own * invM m (lam n % m) % m)
theorem stpG_len (m : Int) (N n : Nat) (own : Int) : (stpG m N n own).length = N := by unfold stpG; rw [List.length_set, varL_len]
theorem stpG_at (m : Int) {N n : Nat} (h2 : 2 ≤ n) (hn : n < N) (own : Int) : at0 (stpG m N n own) = ad xS (mon n (own * invM m (lam n % m) % m)) := by
  funext i
  unfold stpG
  rw [at0_set, varL_len, at0_var (by omega)]
  show _ = xS i + mon n _ i
  unfold xS mon
  by_cases h : i = n
  · rw [if_pos ⟨h, by omega⟩, if_pos h, if_neg (by omega), Int.zero_add]
  · rw [if_neg (fun e => h e.1), if_neg h, Int.add_zero]
theorem stpG_0 (m : Int) {N n : Nat} (h2 : 2 ≤ n) (hn : n < N) (own : Int) : at0 (stpG m N n own) 0 = 0 := by
  rw [stpG_at m h2 hn]
  show xS 0 + mon n _ 0 = 0
  unfold xS mon
  rw [if_neg (by omega), if_neg (by omega)]; rfl
theorem stpG_1 (m : Int) {N n : Nat} (h2 : 2 ≤ n) (hn : n < N) (own : Int) : at0 (stpG m N n own) 1 = 1 := by
  rw [stpG_at m h2 hn]
  show xS 1 + mon n _ 1 = 1
  unfold xS mon
  rw [if_pos rfl, if_neg (by omega)]; rfl
section stp
variable {p N n : Nat} {m : Int} {t : List (List Int)}
theorem coo_cnj (hm : 2 ≤ m) (hN : 2 ≤ N) (ht : PlaT m N t) {xs : List Int} (hl : xs.length = N) (h0 : at0 xs 0 = 0) (h1 : at0 xs 1 = 1) : Cnj m N (atT t) (atT (cooT m N t xs)) (at0 xs) (at0 (revL m N xs)) := by
  have hu : at0 xs 1 * invM m (at0 xs 1) % m = 1 % m := by
    rw [h1]
    exact unitB_inv (by omega) (by omega) (by simp [unitB])
  have r1 : at0 (revL m N xs) 1 = invM m (at0 xs 1) := by
    unfold revL
    rw [show N - 1 = (N - 2) + 1 by omega]
    exact revTo_1 m hN xs _
  have hfg := revL_ok (show 0 < m by omega) hN hl h0 hu
  refine ⟨hN, lo_at0 h0, lo_at0 (revTo_0 m N xs _), hfg, back_left hN (lo_at0 h0) (lo_at0 (revTo_0 m N xs _)) hfg (by rw [r1, Int.mul_comm]; exact hu), ?_⟩
  unfold cooT
  exact eqv_trans (T_horn _ _ (by omega)) (ev1_a _ (T_bot ht _ _))
theorem coo_00 (hm : 2 ≤ m) (hN : 2 ≤ N) (ht : PlaT m N t) (L : Lw m N (atT t)) {xs : List Int} (hl : xs.length = N) (h0 : at0 xs 0 = 0) (h1 : at0 xs 1 = 1) : atT (cooT m N t xs) 0 0 = 0 := by
  have C := coo_cnj hm hN ht hl h0 h1
  have hr := tab_range (show PlaT m N (cooT m N t xs) from hornT_ok (by omega) _ _ _) (show 0 + 0 < N by omega)
  have hlo : lo m 1 (ev1 N (at0 xs) (ev2 N (atT t) (onx (at0 (revL m N xs))) (ony (at0 (revL m N xs))))) :=
    lo_ev1 C.lf (by omega) (ev2_lo _ L.zer (Nat.le_refl _) (lo_onx (revTo_0 m N xs _)) (lo_ony (revTo_0 m N xs _)))
  have e := eqv2.1 (eqv_trans (eqv_le C.ok (show 1 ≤ N by omega)) (eqv_lo hlo)) 0 0 (by omega)
  rw [Int.emod_eq_of_lt hr.1 hr.2] at e
  rw [e]
  show (0 : Int) % m = 0
  exact Int.zero_emod m
theorem coo_lw (hm : 2 ≤ m) (hN : 2 ≤ N) (ht : PlaT m N t) (L : Lw m N (atT t)) {xs : List Int} (hl : xs.length = N) (h0 : at0 xs 0 = 0) (h1 : at0 xs 1 = 1) : Lw m N (atT (cooT m N t xs)) :=
  (coo_cnj hm hN ht hl h0 h1).lw L (coo_00 hm hN ht L hl h0 h1)
structure TyI (p : Nat) (m : Int) (D k : Nat) (t : List (List Int)) (ls cv : List Int) : Prop where
  ok : PlaT m (D + 1) t
  lw : Lw m (D + 1) (atT t)
  len : ls.length = mostOf p (k + 1)
  rng : ∀ x ∈ ls, 0 ≤ x ∧ x < m
  clen : cv.length = D + 1
  crng : ∀ x ∈ cv, 0 ≤ x ∧ x < m
  agr : ∀ i j, i + j < k + 2 → atT t i j % m = tyLaw p D (at0 ls) i j % m
theorem TyI.agrF {D k : Nat} {ls cv : List Int} (I : TyI p m D k t ls cv) (hp : P4 p) (hk : k + 2 ≤ D) (hD : D ≤ 10) (hm : 2 ≤ m) : agrF p m t (k + 2) ls := by
  unfold Go.Proofs.YteijannfbafdpaaGreatDoor.agrF
  have e := tyLaw_agree (n := k + 2) (n' := D) (r := 10) (k := k + 2) hp (by omega) (by omega) (by omega) hD (v := at0 ls) (v' := at0 ls) (fun _ _ => rfl) (by omega) (by omega) (by have := pow_gt hp.pos.1 (10 + 1); omega)
  refine agrK_ge (by omega) fun d hd => agrA_t fun i hi => ?_
  have hr := tab_range I.ok (show i + (d - i) < D + 1 by omega)
  rw [cutT_at (by omega), typT2_eq, atT_tri (by omega), e i (d - i) (by omega), ← I.agr i (d - i) (by omega), Int.emod_eq_of_lt hr.1 hr.2]
end stp
end Go.Proofs.YteijannfbafdpaaGreatDoor
set_option linter.unusedSimpArgs false
set_option linter.unusedVariables false
namespace Go.Proofs.YteijannfbafdpaaGreatDoor
open Go.RowKit
open Rg

theorem hm_onx (m : Int) (n : Nat) : Hm m n onx where
  ad x y := by
    funext i j
    show (if j = 0 then x i + y i else 0) = (if j = 0 then x i else 0) + (if j = 0 then y i else 0)
    split <;> simp
  zz := by
    funext i j
    show (if j = 0 then (0 : Int) else 0) = 0
    split <;> rfl
  ic c := eqv_of (by
    funext i j
    show (if j = 0 then (if i = 0 then c else 0) else 0) = ((if i = 0 then (ic c : Nat → Int) else zz) : Nat → Int) j
    by_cases hi : i = 0
    · rw [if_pos hi, if_pos hi]; rfl
    · rw [if_neg hi, if_neg hi]
      show (if j = 0 then (0 : Int) else 0) = 0
      split <;> rfl)
  ml x y := eqv_of (onx_ml x y)
  lo k x _ h := fun i j => by
    show Rg.lo m (k - i - j) (if j = 0 then x i else 0)
    by_cases hj : j = 0
    · rw [if_pos hj, hj]; exact h i
    · rw [if_neg hj]; exact lo_zz m _
theorem hm_ony (m : Int) (n : Nat) : Hm m n ony where
  ad x y := by
    funext i j
    show (if i = 0 then x j + y j else 0) = (if i = 0 then x j else 0) + (if i = 0 then y j else 0)
    split <;> simp
  zz := by
    funext i j
    show (if i = 0 then (0 : Int) else 0) = 0
    split <;> rfl
  ic c := eqv_of (by
    funext i j
    show (if i = 0 then (if j = 0 then c else 0) else 0) = ((if i = 0 then (ic c : Nat → Int) else zz) : Nat → Int) j
    by_cases hi : i = 0
    · rw [if_pos hi, if_pos hi]; rfl
    · rw [if_neg hi, if_neg hi]; rfl)
  ml x y := eqv_of (ony_ml x y)
  lo k x _ h := fun i j => by
    show Rg.lo m (k - i - j) (if i = 0 then x j else 0)
    by_cases hi : i = 0
    · rw [if_pos hi, hi]; exact h j
    · rw [if_neg hi]; exact lo_zz m _
theorem at_lo {m : Int} {f : Nat → Int} (h : lo m 1 f) : f 0 % m = 0 := by
  have := h 0
  rcases this with h | h
  · omega
  · exact Int.emod_eq_zero_of_dvd h
theorem ev1_low {m : Int} {N n : Nat} (hN : 2 ≤ N) (h2 : 2 ≤ n) (hn : n < N) (b : Int) {X : Nat → Int} (hX : lo m 1 X) : eqv m 2 (ev1 N (ad xS (mon n b)) X) X := by
  have H : Hm m N (fun u => Go.Proofs.YteijannfbafdpaaGreatDoor.ev1 N u X) := hm1 hX
  have e : Go.Proofs.YteijannfbafdpaaGreatDoor.ev1 N (ad xS (mon n b)) X = ad X (ml (ic b) (pw X n)) := by
    rw [H.ad, ev1_xl (m := m) hN]
    congr 1
    unfold Go.Proofs.YteijannfbafdpaaGreatDoor.ev1 ex mon
    exact sum_at hn b (fun i => pw X i)
  rw [e]
  exact eqv_trans (eqv_ad eqv_rfl (eqv_lo (lo_le (lo_mul _ (pw_lo hX n)) h2))) (eqv_of (ad_zz X))
section hom
variable {p D : Nat} {m : Int} {t : List (List Int)}
structure TyH (m : Int) (N : Nat) (t T : List (List Int)) (cv : List Int) : Prop where
  z : at0 cv 0 = 0
  o : at0 cv 1 = 1
  h : eqv m N (ev1 N (at0 cv) (atT t)) (ev2 N (atT T) (onx (at0 cv)) (ony (at0 cv)))
theorem TyH.var {N : Nat} (hN : 2 ≤ N) (t : List (List Int)) : TyH m N t t (varL N) := by
  have h0 : at0 (varL N) 0 = 0 := by rw [at0_var (by omega)]; rfl
  have hx : at0 (varL N) = xS := by
    funext i
    rw [at0_var (by omega)]
  refine ⟨h0, by rw [at0_var (by omega)]; rfl, ?_⟩
  rw [ev1_var (m := m) hN]
  have e1 : onx (at0 (varL N)) = xP := by
    funext i j
    rw [hx, xP_at]
    show (if j = 0 then mon 1 1 i else 0) = _
    unfold mon
    by_cases hj : j = 0
    · by_cases hi : i = 1
      · rw [if_pos hj, if_pos hi, if_pos ⟨hi, hj⟩]
      · rw [if_pos hj, if_neg hi, if_neg (fun h => hi h.1)]
    · rw [if_neg hj, if_neg (fun h => hj h.2)]
  have e2 : ony (at0 (varL N)) = yP := by
    funext i j
    rw [hx, yP_at]
    show (if i = 0 then mon 1 1 j else 0) = _
    unfold mon
    by_cases hi : i = 0
    · by_cases hj : j = 1
      · rw [if_pos hi, if_pos hj, if_pos ⟨hi, hj⟩]
      · rw [if_pos hi, if_neg hj, if_neg (fun h => hj h.2)]
    · rw [if_neg hi, if_neg (fun h => hi h.1)]
  rw [e1, e2]
  exact eqv_symm (ev2_self (atT t))
theorem TyH.step {N n : Nat} {T : List (List Int)} {cv : List Int} (H : TyH m N t T cv) (hm : 2 ≤ m) (hT : PlaT m N T) (L : Lw m N (atT T)) (ht0 : atT t 0 0 = 0) (h2 : 2 ≤ n) (hn : n < N) (y : Int) : TyH m N t (cooT m N T (stpG m N n y)) (horn m N cv (stpG m N n y)) := by
  have hN : 2 ≤ N := by omega
  have gl := stpG_len m N n y
  have g0 := stpG_0 m h2 hn y
  have g1 := stpG_1 m h2 hn y
  have C := coo_cnj hm hN hT gl g0 g1
  have ga := stpG_at m h2 hn y
  obtain ⟨G, hG⟩ : ∃ G, G = stpG m N n y := ⟨_, rfl⟩
  rw [← hG] at gl g0 g1 C ga ⊢
  have lc : lo m 1 (at0 cv) := lo_at0 H.z
  have lF : lo m 1 (atT t) := lo_atT ht0
  have hc' : eqv m N (at0 (horn m N cv G)) (ev1 N (at0 G) (at0 cv)) := L_horn cv G (by omega)
  have hr : ∀ i, i < N → 0 ≤ at0 (horn m N cv G) i ∧ at0 (horn m N cv G) i < m := fun i hi => horn_range (by omega) _ (by rw [at0_get (by rw [horn_len]; exact hi)]; exact List.getElem_mem _)
  have z0 : at0 (horn m N cv G) 0 = 0 := by
    have e := eqv1.1 hc' 0 (by omega)
    rw [at_lo (lo_ev1 (lo_at0 g0) (by omega) lc), Int.emod_eq_of_lt (hr 0 (by omega)).1 (hr 0 (by omega)).2] at e
    exact e
  have z1 : at0 (horn m N cv G) 1 = 1 := by
    have e := eqv1.1 hc' 1 (by omega)
    have e2 := eqv1.1 (ev1_low (m := m) hN h2 hn (y * invM m (lam n % m) % m) lc) 1 (by omega)
    rw [← ga] at e2
    rw [e2, H.o, Int.emod_eq_of_lt (hr 1 (by omega)).1 (hr 1 (by omega)).2, Int.emod_eq_of_lt (by omega) (by omega)] at e
    exact e
  refine ⟨z0, z1, ?_⟩
  have lX : lo m 1 (onx (at0 cv)) := lo_onx H.z
  have lY : lo m 1 (ony (at0 cv)) := lo_ony H.z
  have a1 := eqv_trans (ev1_f lF (Nat.le_refl _) hc') (eqv_trans (ev1_ev1 lF (at0 G) (at0 cv)) (ev1_a (at0 G) H.h))
  have bx : eqv m N (onx (at0 (horn m N cv G))) (ev1 N (at0 G) (onx (at0 cv))) := eqv_trans ((hm_onx m N).eqv (Nat.le_refl _) hc') (hm_ev1 (hm_onx m N) (at0 G) (at0 cv))
  have by_ : eqv m N (ony (at0 (horn m N cv G))) (ev1 N (at0 G) (ony (at0 cv))) := eqv_trans ((hm_ony m N).eqv (Nat.le_refl _) hc') (hm_ev1 (hm_ony m N) (at0 G) (at0 cv))
  have b1 := ev2_eqv (n := N) (F := atT (cooT m N T G)) (G := atT (cooT m N T G)) (lo_onx z0) (lo_ony z0) (Nat.le_refl N) (fun _ _ _ => rfl) bx by_
  exact eqv_trans a1 (eqv_symm (eqv_trans b1 (C.hom L lX lY)))
end hom
end Go.Proofs.YteijannfbafdpaaGreatDoor
set_option linter.unusedSimpArgs false
set_option linter.unusedVariables false
namespace Go.Proofs.YteijannfbafdpaaGreatDoor
open Go.RowKit

set_option maxHeartbeats 400000 in
theorem l01Same_c (v u : Value) (xs ys : List Int) (w : World) (hv : RdI w v xs) (hu : RdI w u ys) :
    Calls Tryz.prog 67 #[v, u] w fun e w' => e = .returned (.bool (eqLB xs ys)) ∧ ∃ n, w' = w.drewN n := by
  obtain ⟨o, c, rfl, hm, hc⟩ := hv
  obtain ⟨o', c', rfl, hm', hc'⟩ := hu
  unfold maxLen at hm hm'
  by_cases hlen : xs.length = ys.length
  · have hne : (((xs.length:Nat):Int) != ((ys.length:Nat):Int)) = false := by simp [hlen]
    have HL := Lib.hid hlen
    clear hlen
    go_enter Tryz.func67, Tryz.ntmps67
    go_wp2
    go_loopw [5] (fun i wr => ∃ k : Nat, k ≤ xs.length ∧ i = .int .i64 k ∧ Hid (xs.take k = ys.take k) ∧ ∃ n, wr = w.drewN n) (fun i _ => xs.length - (intOf i).toNat)
    case atStart => exact ⟨0, Nat.zero_le _, rfl, Lib.hid rfl, 0, rfl⟩
    case round =>
      obtain ⟨k, hk, rfl, HT, n, rfl⟩ := hrel
      by_cases hlt : k < xs.length
      · obtain ⟨b, off, rfl, hx⟩ := hc k (xs[k]) (by simp [hlt])
        obtain ⟨b', off', rfl, hy⟩ := hc' k (ys[k]'(by have := HL.out; omega)) (by simp)
        have hlt' : k < ys.length := by have := HL.out; omega
        go_wp2
        go_quiet (fail)
        go_wp2
        · have hne : xs[k] ≠ ys[k] := by have h : (xs[k] != ys[k]) = true := by assumption
                                         simpa using h
          go_ret
          exact ⟨by rw [eqLB_idx (k := k) (by simp) (by simp) hne]; rfl, n + nq, by simp⟩
        · have he : ys[k] = xs[k] := by have h : (xs[k] != ys[k]) = false := by assumption
                                        simpa using Eq.symm (by simpa using h)
          exact ⟨⟨k + 1, by omega, by go_num, Lib.hid (take_eq (x := xs[k]) (by simp) (by simp [← he]) HT.out), n + nq, rfl⟩, by simp [intOf]; omega⟩
      · go_wp2
        go_ret
        exact ⟨by rw [eqLB_take HL.out hlt HT.out]; rfl, n, rfl⟩
  · have hne : (((xs.length:Nat):Int) != ((ys.length:Nat):Int)) = true := by simp; omega
    have HL := Lib.hid hlen
    clear hlen
    go_enter Tryz.func67, Tryz.ntmps67
    go_wp2
    go_ret
    exact ⟨by rw [eqLB_ne (fun h => HL.out (by rw [h]))]; rfl, 0, rfl⟩
set_option maxHeartbeats 1000000 in
theorem l01Same2_c (v u : Value) (xss yss : List (List Int)) (w : World) (hv : RdT w v xss) (hu : RdT w u yss) :
    Calls Tryz.prog 40 #[v, u] w fun e w' => e = .returned (.bool (eqTB xss yss)) ∧ ∃ n, w' = w.drewN n := by
  obtain ⟨o, c, rfl, hm, -⟩ := id hv
  obtain ⟨o', c', rfl, hm', -⟩ := id hu
  unfold maxLen at hm hm'
  by_cases hlen : xss.length = yss.length
  · have hne : (((xss.length:Nat):Int) != ((yss.length:Nat):Int)) = false := by simp [hlen]
    have HL := Lib.hid hlen
    clear hlen
    go_enter Tryz.func40, Tryz.ntmps40
    go_wp2
    go_loopw [5] (fun i wr => ∃ k : Nat, k ≤ xss.length ∧ i = .int .i64 k ∧ Hid (xss.take k = yss.take k) ∧ ∃ n, wr = w.drewN n) (fun i _ => xss.length - (intOf i).toNat)
    case atStart => exact ⟨0, Nat.zero_le _, rfl, Lib.hid rfl, 0, rfl⟩
    case round =>
      obtain ⟨k, hk, rfl, HT, n, rfl⟩ := hrel
      by_cases hlt : k < xss.length
      · have hly : k < yss.length := by have := HL.out; omega
        obtain ⟨b, off, rfl, -⟩ := hv.rows (by omega)
        obtain ⟨b', off', rfl, -⟩ := hu.rows (by omega)
        obtain ⟨o1, c1, hx, hr⟩ := hv.row (show xss[k]? = some xss[k] by simp [hlt])
        obtain ⟨o2, c2, hy, hs⟩ := hu.row (show yss[k]? = some yss[k] by simp [hly])
        cases he : eqLB xss[k] yss[k]
        · go_wp2
          go_quiet ((go_at_call 67; (first | exact quietA (by rw [he]) (l01Same_c _ _ xss[k] yss[k] _ hr hs) | exact quietB (by rw [he]) (l01Same_c _ _ xss[k] yss[k] _ hr hs) | exact quietC (by rw [he]) (l01Same_c _ _ xss[k] yss[k] _ hr hs) | exact quietD (by rw [he]) (l01Same_c _ _ xss[k] yss[k] _ hr hs))))
          go_wp2
          go_ret
          exact ⟨by rw [eqTB_idx (k := k) (by simp [hlt]) (by simp [hly]) he]; rfl, n + nq, by simp⟩
        · go_wp2
          go_quiet ((go_at_call 67; (first | exact quietA (by rw [he]) (l01Same_c _ _ xss[k] yss[k] _ hr hs) | exact quietB (by rw [he]) (l01Same_c _ _ xss[k] yss[k] _ hr hs) | exact quietC (by rw [he]) (l01Same_c _ _ xss[k] yss[k] _ hr hs) | exact quietD (by rw [he]) (l01Same_c _ _ xss[k] yss[k] _ hr hs))))
          go_wp2
          exact ⟨⟨k + 1, by omega, by go_num, Lib.hid (takeT_eq (by simp [hlt]) (by simp [hly]) he HT.out), _, rfl⟩, by simp [intOf]; omega⟩
      · go_wp2
        go_ret
        exact ⟨by rw [eqTB_take HL.out hlt HT.out]; rfl, n, rfl⟩
  · have hne : (((xss.length:Nat):Int) != ((yss.length:Nat):Int)) = true := by simp; omega
    have HL := Lib.hid hlen
    clear hlen
    go_enter Tryz.func40, Tryz.ntmps40
    go_wp2
    go_ret
    exact ⟨by rw [eqTB_ne (fun h => HL.out (by rw [h]))]; rfl, 0, rfl⟩

end Go.Proofs.YteijannfbafdpaaGreatDoor
