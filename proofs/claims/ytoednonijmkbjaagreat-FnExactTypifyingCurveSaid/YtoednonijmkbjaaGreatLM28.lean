/- Lemmas. -/
import Derived.Test.YtoednonijmkbjaaGreatLM19
import Derived.Test.YtoednonijmkbjaaGreatLM27
import Derived.Test.YtoednonijmkbjaaGreatLM25
set_option linter.unusedSimpArgs false
set_option linter.unusedVariables false
namespace Go.Proofs.YtoednonijmkbjaaGreat
open Go.RowKit

theorem botM_len (m : Int) (n : Nat) (t : List (List Int)) (a b : List Int) : (botL m n t a b).length = n := tri_len _ _
theorem botM_ok {m : Int} (hm : 0 < m) (n : Nat) (t : List (List Int)) (a b : List Int) : PlaT m n (botL m n t a b) := botTo_ok hm _ _ _ _ _ _
def cooT (m : Int) (n : Nat) (t : List (List Int)) (a : List Int) : List (List Int) := hornT m n (botL m n t (revL m n a) (revL m n a)) a
theorem cooT_len (m : Int) (n : Nat) (t : List (List Int)) (a : List Int) : (cooT m n t a).length = n := hornT_len _ _ _ _
set_option maxHeartbeats 4000000 in
set_option maxRecDepth 100000 in
theorem inCoordinate_c (m : Int) (n : Nat) (v u : Value) (t : List (List Int)) (xs : List Int) (w : World) (hv : RdT w v t) (hu : RdI w u xs) (hl : xs.length = n) (h1 : 2 ≤ n) (hn : n ≤ 1000) (hm : 2 ≤ m) (hm' : m ≤ 10000) (ht : PlaT m n t) (hx : ∀ x ∈ xs, 0 ≤ x ∧ x < m) :
    Calls Tryz.prog 63 #[.agg #[.int .i64 m, v], .agg #[.int .i64 m, u]] w fun e w' => PVEnd w w' m (cooT m n t xs) e := by
  subst hl
  obtain ⟨o, c, rfl, -, -⟩ := id hv
  obtain ⟨o', c', rfl, -, -⟩ := id hu
  have hv' : RdT w (.slice o xs.length c) t := by rw [ht.1] at hv; exact hv
  rw [ht.1]
  have HT := Lib.hid ht
  have HRl := Lib.hid (revL_len m xs.length xs)
  have HRr := Lib.hid (revL_range (m := m) (show 0 < m by omega) xs.length xs)
  have HBo := Lib.hid (botM_ok (m := m) (show 0 < m by omega) xs.length t (revL m xs.length xs) (revL m xs.length xs))
  have HC := Lib.hid (show hornT m xs.length (botL m xs.length t (revL m xs.length xs) (revL m xs.length xs)) xs = cooT m xs.length t xs from rfl)
  clear ht hv
  go_enter Tryz.func63, Tryz.ntmps63
  go_wp2_with fail
  (have X0 := ((RB2.mk1 w  (.int .i64 m) (.slice o xs.length c) 31).1).below (w' := (((w.alloc (.cells #[.int .i64 m, .slice o xs.length c] 31)).alloc (.cells #[.int .i64 m, .slice o' xs.length c'] 28)).alloc (.cells #[.int .i64 0, .slice none 0 0] 31))) (by (repeat (first | exact bR _ _ | (refine bS ?_ _) | (refine bA ?_ _) | (refine bN ?_ _) | (refine bD ?_)))) (Nat.le_refl _); have Y0 := ((RB2.mk2 w (.cells #[.int .i64 m, .slice o xs.length c] 31) (.int .i64 m) (.slice o' xs.length c') 28).1).below (w' := (((w.alloc (.cells #[.int .i64 m, .slice o xs.length c] 31)).alloc (.cells #[.int .i64 m, .slice o' xs.length c'] 28)).alloc (.cells #[.int .i64 0, .slice none 0 0] 31))) (by (repeat (first | exact bR _ _ | (refine bS ?_ _) | (refine bA ?_ _) | (refine bN ?_ _) | (refine bD ?_)))) (Nat.le_refl _); have R0 := ((RB2.mk3 w (.cells #[.int .i64 m, .slice o xs.length c] 31) (.cells #[.int .i64 m, .slice o' xs.length c'] 28) (.int .i64 0) (.slice none 0 0) 31)).below (w' := (((w.alloc (.cells #[.int .i64 m, .slice o xs.length c] 31)).alloc (.cells #[.int .i64 m, .slice o' xs.length c'] 28)).alloc (.cells #[.int .i64 0, .slice none 0 0] 31))) (by (repeat (first | exact bR _ _ | (refine bS ?_ _) | (refine bA ?_ _) | (refine bN ?_ _) | (refine bD ?_)))) (Nat.le_refl _); have B0 : Below w.heap.size w (((w.alloc (.cells #[.int .i64 m, .slice o xs.length c] 31)).alloc (.cells #[.int .i64 m, .slice o' xs.length c'] 28)).alloc (.cells #[.int .i64 0, .slice none 0 0] 31)) := (by (repeat (first | exact bR _ _ | (refine bS ?_ _) | (refine bA ?_ _) | (refine bN ?_ _) | (refine bD ?_)))); have hv'0 := hv'.below (w' := (((w.alloc (.cells #[.int .i64 m, .slice o xs.length c] 31)).alloc (.cells #[.int .i64 m, .slice o' xs.length c'] 28)).alloc (.cells #[.int .i64 0, .slice none 0 0] 31))) (by (repeat (first | exact bR _ _ | (refine bS ?_ _) | (refine bA ?_ _) | (refine bN ?_ _) | (refine bD ?_)))) (Nat.le_refl _); have hu0 := hu.below (w' := (((w.alloc (.cells #[.int .i64 m, .slice o xs.length c] 31)).alloc (.cells #[.int .i64 m, .slice o' xs.length c'] 28)).alloc (.cells #[.int .i64 0, .slice none 0 0] 31))) (by (repeat (first | exact bR _ _ | (refine bS ?_ _) | (refine bA ?_ _) | (refine bN ?_ _) | (refine bD ?_)))) (Nat.le_refl _); generalize ((w.alloc (.cells #[.int .i64 m, .slice o xs.length c] 31)).alloc (.cells #[.int .i64 m, .slice o' xs.length c'] 28)).alloc (.cells #[.int .i64 0, .slice none 0 0] 31) = w0 at X0 Y0 R0 B0 hv'0 hu0 ⊢)
  obtain ⟨y0, y1⟩ := id Y0
  have B0s := B0.size
  go_wp2_with fail
  refine (reverseS_c m _ xs _ hu0 (by omega) (by omega) (by omega) (by omega) hx).mono ?_
  rintro e w1 ⟨vr, rfl, hor, hb⟩
  obtain ⟨or, cr, rfl⟩ := hor.shapeN (n := xs.length) HRl.out
  clear y0 y1
  (have X1 := X0.below hb (Nat.le_refl _); have Y1 := Y0.below hb (Nat.le_refl _); have R1 := R0.below hb (Nat.le_refl _); have hv'1 := hv'0.below hb (Nat.le_refl _); have hu1 := hu0.below hb (Nat.le_refl _); have B1 := B0.trans (hb.mono B0.size))
  have hb1 := hb.size
  have lR := R1.1.lt
  go_wp2_with fail
  (have hb : Below w1.heap.size w1 (w1.alloc (.cells #[.int .i64 m, .slice or xs.length cr] 28)) := (by (repeat (first | exact bR _ _ | (refine bS ?_ _) | (refine bA ?_ _) | (refine bN ?_ _) | (refine bD ?_)))); have X2 := X1.below hb (Nat.le_refl _); have Y2 := Y1.below hb (Nat.le_refl _); have R2 := R1.below hb (Nat.le_refl _); have hv'2 := hv'1.below hb (Nat.le_refl _); have hu2 := hu1.below hb (Nat.le_refl _); have hor := hor.alloc (.cells #[.int .i64 m, .slice or xs.length cr] 28); have B2 := B1.trans (hb.mono B1.size); have O := RB2.mk1 w1 (.int .i64 m) (.slice or xs.length cr) 28; have hl_w2 := hb.size; clear hb; generalize w1.alloc (.cells #[.int .i64 m, .slice or xs.length cr] 28) = w2 at O B2 hl_w2 X2 Y2 R2 hv'2 hu2 hor ⊢)
  have hor2 := hor.rd
  have hB2 := B2.size
  have hd0 : Below w2.heap.size w2 w2.drew := (Below.refl _ _).drew
  have hsd0 := hd0.size
  have hrl := R2.1.lt
  have hneR_X2 : w.heap.size + 2 ≠ w.heap.size := by omega
  have hneR_Y2 : w.heap.size + 2 ≠ w.heap.size + 1 := by omega
  have hneR_O1 : w.heap.size + 2 ≠ w1.heap.size := by omega
  obtain ⟨⟨q0_R_0, q0_R_1⟩, qf0_R⟩ := R2.below (Below.refl w2.heap.size w2) (Nat.le_refl _)
  obtain ⟨q0_X2_0, q0_X2_1⟩ := X2.below (Below.refl w2.heap.size w2) (Nat.le_refl _)
  obtain ⟨q0_Y2_0, q0_Y2_1⟩ := Y2.below (Below.refl w2.heap.size w2) (Nat.le_refl _)
  obtain ⟨q0_O1_0, q0_O1_1⟩ := O.1.below (Below.refl w2.heap.size w2) (Nat.le_refl _)
  go_region_held3 (fun w' => w'.cell? ⟨w.heap.size, 0, none⟩ = some (.int .i64 m) ∧ w'.cell? ⟨w.heap.size, 1, none⟩ = some (.slice o xs.length c) ∧ w'.cell? ⟨w.heap.size + 1, 0, none⟩ = some (.int .i64 m) ∧ w'.cell? ⟨w.heap.size + 1, 1, none⟩ = some (.slice o' xs.length c') ∧ w'.cell? ⟨w1.heap.size, 0, none⟩ = some (.int .i64 m) ∧ w'.cell? ⟨w1.heap.size, 1, none⟩ = some (.slice or xs.length cr)) (go_keep)
    (first
      | (go_at_call 107; refine (bothP_c m xs.length _ _ _ t (revL m xs.length xs) (revL m xs.length xs) _ ((hv'2).below (by (repeat (first | exact bR _ _ | (refine bS ?_ _) | (refine bA ?_ _) | (refine bN ?_ _) | (refine bD ?_)))) (Nat.le_refl _)) ((hor2).below (by (repeat (first | exact bR _ _ | (refine bS ?_ _) | (refine bA ?_ _) | (refine bN ?_ _) | (refine bD ?_)))) (Nat.le_refl _)) ((hor2).below (by (repeat (first | exact bR _ _ | (refine bS ?_ _) | (refine bA ?_ _) | (refine bN ?_ _) | (refine bD ?_)))) (Nat.le_refl _)) HRl.out HRl.out (by omega) (by omega) hm hm' HT.out HRr.out HRr.out).mono ?_; rintro e wd1 ⟨vb, rfl, hod1, hbd1⟩; obtain ⟨ob, cb, rfl⟩ := hod1.shapeN (n := xs.length) (botM_len _ _ _ _ _); have hd1 : Below w2.heap.size w2 wd1 := (by (repeat (first | exact bR _ _ | (refine bS ?_ _) | (refine bA ?_ _) | (refine bN ?_ _) | (refine bD ?_) | (refine bT ?_ hbd1)))); have hsd1 := hd1.size; have hsz1_ := hbd1.size; (try simp at hsz1_); obtain ⟨⟨q1_R_0, q1_R_1⟩, qf1_R⟩ := R2.below hd1 (Nat.le_refl _); obtain ⟨q1_X2_0, q1_X2_1⟩ := X2.below hd1 (Nat.le_refl _); obtain ⟨q1_Y2_0, q1_Y2_1⟩ := Y2.below hd1 (Nat.le_refl _); obtain ⟨q1_O1_0, q1_O1_1⟩ := O.1.below hd1 (Nat.le_refl _))
      | (go_at_call 106; refine (ofS_c m m xs.length _ _ xs (botL m xs.length t (revL m xs.length xs) (revL m xs.length xs)) _ ((hu2).below (by (repeat (first | exact bR _ _ | (refine bS ?_ _) | (refine bA ?_ _) | (refine bN ?_ _) | (refine bD ?_) | (refine bT ?_ hbd1)))) (Nat.le_refl _)) ((hod1.below (by (repeat (first | exact bR _ _ | (refine bS ?_ _) | (refine bA ?_ _) | (refine bN ?_ _) | (refine bD ?_)))))).rd (by omega) (by omega) (by omega) (by omega) hm (by omega) hx HBo.out).mono ?_; rintro e wd2 ⟨vl, rfl, hod2, hbd2⟩; rw [HC.out] at hod2; obtain ⟨ol, cl, rfl⟩ := hod2.shapeN (n := xs.length) (cooT_len _ _ _ _); have hd2 : Below w2.heap.size w2 wd2 := (by (repeat (first | exact bR _ _ | (refine bS ?_ _) | (refine bA ?_ _) | (refine bN ?_ _) | (refine bD ?_) | (refine bT ?_ hbd1) | (refine bT ?_ hbd2)))); have hsd2 := hd2.size; have hsz2_ := hbd2.size; (try simp at hsz2_); obtain ⟨⟨q2_R_0, q2_R_1⟩, qf2_R⟩ := R2.below hd2 (Nat.le_refl _); obtain ⟨q2_X2_0, q2_X2_1⟩ := X2.below hd2 (Nat.le_refl _); obtain ⟨q2_Y2_0, q2_Y2_1⟩ := Y2.below hd2 (Nat.le_refl _); obtain ⟨q2_O1_0, q2_O1_1⟩ := O.1.below hd2 (Nat.le_refl _)))
  go_wp2
  refine bodyPost_ret (v := .agg #[.int .i64 m, .slice ol xs.length cl]) (by simp [results, Tryz.results63, go_sem, q2_R_0, q2_R_1]) rfl ⟨_, rfl, ?_, ?_⟩
  · have hbsz := B2.size
    exact ((hod2.low (by first | (simp; done) | (simp; omega) | omega) _).low (by first | (simp; done) | (simp; omega) | omega) _).mono (by first | (simp; done) | (simp; omega) | omega)
  · have hbsz := B2.size
    (repeat (first | exact bR _ _ | (refine bS ?_ _) | (refine bA ?_ _) | (refine bN ?_ _) | (refine bD ?_) | (refine bT ?_ hbd1) | (refine bT ?_ hbd2) | (refine bT ?_ B2)))

set_option maxHeartbeats 400000 in
theorem l03Both2_c (m : Int) (n : Nat) (v u : Value) (t : List (List Int)) (xs : List Int) (w : World) (hv : RdT w v t) (hu : RdI w u xs) (hlx : xs.length = n) (h1 : 1 ≤ n) (hn : n ≤ 1000) (hm : 2 ≤ m) (hm' : m ≤ 10000)
    (ht : PlaT m n t) (hx : ∀ x ∈ xs, 0 ≤ x ∧ x < m) (hx0 : at0 xs 0 = 0) :
    Calls Tryz.prog 90 #[.int .i64 m, v, u] w fun e w' => ∃ v', e = .returned v' ∧ OwS w' w.heap.size v' (botL m n t xs xs) ∧ Below w.heap.size w w' := by
  have HX := Lib.hid hx0
  clear hx0
  go_enter Tryz.func90, Tryz.ntmps90
  go_wp2_with fail
  refine (l03Both_c m n _ _ _ t xs xs _ hv hu hu hlx hlx h1 hn hm hm' ht hx hx HX.out HX.out).mono ?_
  rintro e w1 ⟨v', rfl, how, hb⟩
  go_wp2
  go_ret
  exact ⟨_, rfl, how, hb⟩

set_option maxHeartbeats 2000000 in
set_option maxRecDepth 100000 in
theorem l06Conjugate_c (m : Int) (n : Nat) (v u : Value) (t : List (List Int)) (xs : List Int) (w : World) (hv : RdT w v t) (hu : RdI w u xs) (hl : xs.length = n) (h1 : 2 ≤ n) (hn : n ≤ 1000) (hm : 2 ≤ m) (hm' : m ≤ 10000) (ht : PlaT m n t) (hx : ∀ x ∈ xs, 0 ≤ x ∧ x < m) :
    Calls Tryz.prog 50 #[.int .i64 m, v, u] w fun e w' => ∃ v', e = .returned v' ∧ OwS w' w.heap.size v' (cooT m n t xs) ∧ Below w.heap.size w w' := by
  subst hl
  obtain ⟨o', c', rfl, hmx, -⟩ := id hu
  unfold maxLen at hmx
  have HRl := Lib.hid (revL_len m xs.length xs)
  have HRr := Lib.hid (revL_range (m := m) (show 0 < m by omega) xs.length xs)
  have HR0 := Lib.hid (show at0 (revL m xs.length xs) 0 = 0 from revTo_0 _ _ _ _)
  have HBo := Lib.hid (botM_ok (m := m) (show 0 < m by omega) xs.length t (revL m xs.length xs) (revL m xs.length xs))
  go_enter Tryz.func50, Tryz.ntmps50
  go_wp2_with fail
  refine (l02Reverse_c m ((xs.length : Int) - 1) xs.length _ xs _ (by omega) hu rfl (by omega) (by omega) (by omega) (by omega) hx).mono ?_
  rintro e w1 ⟨vr, rfl, hor, B1⟩
  obtain ⟨or, cr, rfl⟩ := hor.shapeN (n := xs.length) HRl.out
  go_wp2_with fail
  refine (l03Both2_c m xs.length _ _ t (revL m xs.length xs) _ (hv.below B1 (Nat.le_refl _)) hor.rd HRl.out (by omega) (by omega) hm hm' ht HRr.out HR0.out).mono ?_
  rintro e w2 ⟨vt, rfl, hot, hb2⟩
  obtain ⟨ot, ct, rfl⟩ := hot.shapeN (n := xs.length) (botM_len _ _ _ _ _)
  have B2 := B1.trans (hb2.mono B1.size)
  go_wp2_with fail
  refine (l03After_c m xs.length _ _ xs _ _ (hu.below B2 (Nat.le_refl _)) hot.rd (by omega) (by omega) (by omega) (by omega) (by omega) hx HBo.out).mono ?_
  rintro e w3 ⟨vl, rfl, hol, hb3⟩
  have hBs := B2.size
  have B3 := B2.trans (hb3.mono hBs)
  go_wp2
  go_ret
  exact ⟨_, rfl, hol.mono hBs, B3⟩

end Go.Proofs.YtoednonijmkbjaaGreat
set_option linter.unusedSimpArgs false
set_option linter.unusedVariables false
namespace Go.Proofs.YtoednonijmkbjaaGreat
open Go.RowKit
open Rg

def isPw (p n : Nat) : Bool := (List.range 14).any (fun k => p ^ k == n)
theorem pw_most {p n : Nat} (hp : P4 p) (h2 : 2 ≤ n) (hn : n ≤ 10) : (isPw p n = true → n = p ^ (mostOf p (n - 1) + 1) ∧ mostOf p n = mostOf p (n - 1) + 1) ∧ (isPw p n = false → mostOf p n = mostOf p (n - 1) ∧ Nat.gcd (lam n).toNat p = 1) := by
  have hnn : n = 2 ∨ n = 3 ∨ n = 4 ∨ n = 5 ∨ n = 6 ∨ n = 7 ∨ n = 8 ∨ n = 9 ∨ n = 10 := by omega
  rcases hp with rfl | rfl | rfl | rfl <;>
    rcases hnn with rfl | rfl | rfl | rfl | rfl | rfl | rfl | rfl | rfl <;> decide
theorem lam_unit {p n e : Nat} {m : Int} (hp : P4 p) (h2 : 2 ≤ n) (hn : n ≤ 10) (hm : 2 ≤ m) (he : m = ((p ^ e : Nat) : Int)) (h : isPw p n = false) : (lam n % m) * invM m (lam n % m) % m = 1 % m := by
  have hg := ((pw_most hp h2 hn).2 h).2
  have hl := lam_range n h2 hn
  have hr := mod_lt' (a := lam n) (show 0 < m by omega)
  refine unitB_inv (by omega) hr.1 ?_
  unfold unitB
  rw [beq_iff_eq, Int.toNat_emod (by omega) (by omega), ← Nat.gcd_rec, Nat.gcd_comm, he]
  exact Nat.Coprime.pow_right e hg
def stpG (m : Int) (N n : Nat) (own : Int) : List Int := (varL N).set n (own * invM m (lam n % m) % m)
theorem stpG_len (m : Int) (N n : Nat) (own : Int) : (stpG m N n own).length = N := by unfold stpG; rw [List.length_set, varL_len]
theorem stpG_at (m : Int) {N n : Nat} (h2 : 2 ≤ n) (hn : n < N) (own : Int) : at0 (stpG m N n own) = ad xS (mon n (own * invM m (lam n % m) % m)) := by
  funext i
  unfold stpG
  rw [at0_set, varL_len, at0_var (by omega)]
  show _ = xS i + mon n _ i
  unfold xS mon
  by_cases h : i = n
  · rw [if_pos ⟨h, by omega⟩, if_pos h, if_neg (by omega), Int.zero_add]
  · rw [if_neg (fun e => h e.1), if_neg h, Int.add_zero]
theorem stpG_range {m : Int} (hm : 2 ≤ m) (N n : Nat) (own : Int) : ∀ x ∈ stpG m N n own, 0 ≤ x ∧ x < m := by
  intro x hx
  unfold stpG at hx
  rcases List.mem_or_eq_of_mem_set hx with h | h
  · exact varL_range hm N x h
  · rw [h]; exact mod_lt' (by omega)
theorem stpG_0 (m : Int) {N n : Nat} (h2 : 2 ≤ n) (hn : n < N) (own : Int) : at0 (stpG m N n own) 0 = 0 := by
  rw [stpG_at m h2 hn]
  show xS 0 + mon n _ 0 = 0
  unfold xS mon
  rw [if_neg (by omega), if_neg (by omega)]; rfl
theorem stpG_1 (m : Int) {N n : Nat} (h2 : 2 ≤ n) (hn : n < N) (own : Int) : at0 (stpG m N n own) 1 = 1 := by
  rw [stpG_at m h2 hn]
  show xS 1 + mon n _ 1 = 1
  unfold xS mon
  rw [if_pos rfl, if_neg (by omega)]; rfl
section stp
variable {p N n : Nat} {m : Int} {t : List (List Int)}
theorem coo_cnj (hm : 2 ≤ m) (hN : 2 ≤ N) (ht : PlaT m N t) {xs : List Int} (hl : xs.length = N) (h0 : at0 xs 0 = 0) (h1 : at0 xs 1 = 1) : Cnj m N (atT t) (atT (cooT m N t xs)) (at0 xs) (at0 (revL m N xs)) := by
  have hu : at0 xs 1 * invM m (at0 xs 1) % m = 1 % m := by
    rw [h1]
    exact unitB_inv (by omega) (by omega) (by simp [unitB])
  have r1 : at0 (revL m N xs) 1 = invM m (at0 xs 1) := by
    unfold revL
    rw [show N - 1 = (N - 2) + 1 by omega]
    exact revTo_1 m hN xs _
  have hfg := revL_ok (show 0 < m by omega) hN hl h0 hu
  refine ⟨hN, lo_at0 h0, lo_at0 (revTo_0 m N xs _), hfg, back_left hN (lo_at0 h0) (lo_at0 (revTo_0 m N xs _)) hfg (by rw [r1, Int.mul_comm]; exact hu), ?_⟩
  unfold cooT
  exact eqv_trans (T_horn _ _ (by omega)) (ev1_a _ (T_bot ht _ _))
theorem coo_00 (hm : 2 ≤ m) (hN : 2 ≤ N) (ht : PlaT m N t) (L : Lw m N (atT t)) {xs : List Int} (hl : xs.length = N) (h0 : at0 xs 0 = 0) (h1 : at0 xs 1 = 1) : atT (cooT m N t xs) 0 0 = 0 := by
  have C := coo_cnj hm hN ht hl h0 h1
  have hr := tab_range (show PlaT m N (cooT m N t xs) from hornT_ok (by omega) _ _ _) (show 0 + 0 < N by omega)
  have hlo : lo m 1 (ev1 N (at0 xs) (ev2 N (atT t) (onx (at0 (revL m N xs))) (ony (at0 (revL m N xs))))) :=
    lo_ev1 C.lf (by omega) (ev2_lo _ L.zer (Nat.le_refl _) (lo_onx (revTo_0 m N xs _)) (lo_ony (revTo_0 m N xs _)))
  have e := eqv2.1 (eqv_trans (eqv_le C.ok (show 1 ≤ N by omega)) (eqv_lo hlo)) 0 0 (by omega)
  rw [Int.emod_eq_of_lt hr.1 hr.2] at e
  rw [e]
  show (0 : Int) % m = 0
  exact Int.zero_emod m
theorem coo_lw (hm : 2 ≤ m) (hN : 2 ≤ N) (ht : PlaT m N t) (L : Lw m N (atT t)) {xs : List Int} (hl : xs.length = N) (h0 : at0 xs 0 = 0) (h1 : at0 xs 1 = 1) : Lw m N (atT (cooT m N t xs)) :=
  (coo_cnj hm hN ht hl h0 h1).lw L (coo_00 hm hN ht L hl h0 h1)
theorem coo_low (hm : 2 ≤ m) (ht : PlaT m N t) (L : Lw m N (atT t)) (h2 : 2 ≤ n) (hn : n < N) (hn10 : n ≤ 10) (own : Int) (hu : (lam n % m) * invM m (lam n % m) % m = 1 % m) :
    (∀ i j, i + j < n → atT (cooT m N t (stpG m N n own)) i j % m = atT t i j % m) ∧ ∀ i, i ≤ n → atT (cooT m N t (stpG m N n own)) i (n - i) % m = (atT t i (n - i) + own * laz n i) % m := by
  have hl := stpG_len m N n own
  have h0 := stpG_0 m h2 hn own
  have h1 := stpG_1 m h2 hn own
  have C := coo_cnj hm (by omega) ht hl h0 h1
  obtain ⟨b, hb⟩ : ∃ b, b = own * invM m (lam n % m) % m := ⟨_, rfl⟩
  have e := C.low L (coo_00 hm (by omega) ht L hl h0 h1) h2 (by omega) (eqv_of (by rw [stpG_at m h2 hn own, ← hb]))
  have d1 : ∀ (X Y : Nat → Nat → Int) i j, (ad X Y : Nat → Nat → Int) i j = X i j + Y i j := fun X Y i j => rfl
  constructor
  · intro i j hij
    have h := eqv2.1 e i j (by omega)
    simp only [d1, icml2] at h
    have z : ∀ X : Nat → Nat → Int, lo 0 1 X → (pw X n : Nat → Nat → Int) i j = 0 := fun X hX => Int.zero_dvd.1 (lo2_iff.1 (pw_lo hX n) i j hij)
    rw [z _ (lo_xP 0), z _ (lo_yP 0), z _ (lo_xy 0)] at h
    simpa using h
  · intro i hi
    have h := eqv2.1 e i (n - i) (by omega)
    simp only [d1, icml2] at h
    have hx := xy_at (show 1 ≤ n by omega) hi
    have hbn : (pw (ad xP yP) n : Nat → Nat → Int) i (n - i) = bin n i := by
      have := xy_pw i (n - i)
      rwa [show i + (n - i) = n by omega] at this
    rw [hx.1, hx.2, hbn] at h
    have hbl : b * lam n % m = own % m := by
      rw [hb]
      have e1 : own * invM m (lam n % m) % m * lam n % m = own * (lam n % m * invM m (lam n % m)) % m := by
        refine (emod_congr_mul (mod_self_mod _ _) (mod_self_mod (lam n) m).symm).trans ?_
        rw [Int.mul_assoc, Int.mul_comm (invM m (lam n % m))]
      rw [e1]
      refine (emod_congr_mul (rfl : own % m = own % m) hu).trans ?_
      rw [Int.mul_one]
    have hq : (b * bin n i - (b * (if i = n then 1 else 0) + b * (if i = 0 then 1 else 0))) % m = own * laz n i % m := by
      by_cases hm1 : 1 ≤ i ∧ i < n
      · rw [if_neg (by omega), if_neg (by omega), bin_laz h2 hn10 hm1.1 hm1.2, ← Int.mul_assoc, Int.mul_zero, Int.add_zero, Int.sub_zero]
        exact emod_congr_mul hbl rfl
      · have hz : laz n i = 0 := by unfold laz; rw [if_neg hm1]
        obtain h' | h' : i = 0 ∨ i = n := by omega
        · rw [if_neg (by omega), if_pos h', hz, h', bin_0]; simp
        · rw [if_pos h', if_neg (by omega), hz, h', bin_self]; simp
    have e2 := emod_congr_sub h (rfl : (b * (if i = n then 1 else 0) + b * (if i = 0 then 1 else 0)) % m = _)
    rw [Int.add_sub_cancel, Int.add_sub_assoc] at e2
    rw [e2]
    exact emod_congr_add rfl hq
def tyS (p : Nat) (m : Int) (N : Nat) (t : List (List Int)) : Nat → List (List Int) × List Int × List Int
  | 0 => (t, [], varL N)
  | k + 1 => if isPw p (k + 2) = true then ((tyS p m N t k).1, (tyS p m N t k).2.1 ++ [ownF p m (tyS p m N t k).1 (k + 2) (tyS p m N t k).2.1], (tyS p m N t k).2.2)
    else (cooT m N (tyS p m N t k).1 (stpG m N (k + 2) (ownF p m (tyS p m N t k).1 (k + 2) (tyS p m N t k).2.1)), (tyS p m N t k).2.1, horn m N (tyS p m N t k).2.2 (stpG m N (k + 2) (ownF p m (tyS p m N t k).1 (k + 2) (tyS p m N t k).2.1)))
structure TyI (p : Nat) (m : Int) (D k : Nat) (t : List (List Int)) (ls cv : List Int) : Prop where
  ok : PlaT m (D + 1) t
  lw : Lw m (D + 1) (atT t)
  len : ls.length = mostOf p (k + 1)
  rng : ∀ x ∈ ls, 0 ≤ x ∧ x < m
  clen : cv.length = D + 1
  crng : ∀ x ∈ cv, 0 ≤ x ∧ x < m
  agr : ∀ i j, i + j < k + 2 → atT t i j % m = tyLaw p D (at0 ls) i j % m
theorem TyI.agrF {D k : Nat} {ls cv : List Int} (I : TyI p m D k t ls cv) (hp : P4 p) (hk : k + 2 ≤ D) (hD : D ≤ 10) (hm : 2 ≤ m) : agrF p m t (k + 2) ls := by
  unfold Go.Proofs.YtoednonijmkbjaaGreat.agrF
  have e := tyLaw_agree (n := k + 2) (n' := D) (r := 10) (k := k + 2) hp (by omega) (by omega) (by omega) hD (v := at0 ls) (v' := at0 ls) (fun _ _ => rfl) (by omega) (by omega) (by have := pow_gt hp.pos.1 (10 + 1); omega)
  refine agrK_ge (by omega) fun d hd => agrA_t fun i hi => ?_
  have hr := tab_range I.ok (show i + (d - i) < D + 1 by omega)
  rw [cutT_at (by omega), typT2_eq, atT_tri (by omega), e i (d - i) (by omega), ← I.agr i (d - i) (by omega), Int.emod_eq_of_lt hr.1 hr.2]
theorem own_at (hp : P4 p) (hm : 2 ≤ m) {D : Nat} (hD : D ≤ 10) (L : Lw m (D + 1) (atT t)) (h2 : 2 ≤ n) (hn : n ≤ D) {ls : List Int} (h : agrF p m t n ls) : 0 ≤ ownF p m t n ls ∧ ownF p m t n ls < m ∧ ∀ i, i ≤ n → tyLaw p n (at0 ls) i (n - i) % m = (atT t i (n - i) + ownF p m t n ls * laz n i) % m := by
  have h0 := own_ex hp hm hD L h2 hn h
  refine ⟨h0, ?_⟩
  unfold ownF at h0 ⊢
  rcases facTo_cases m (laz n) (fun i => (atT (typT2 p m n ls) i (n - i) - atT (cutT (n + 1) t) i (n - i)) % m) (n + 1) m.toNat with e | ⟨k, hk, e, hf⟩
  · omega
  · rw [e]
    refine ⟨by omega, fun i hi => ?_⟩
    have := fitTo_t hf i (by omega)
    simp only [mod_self_mod] at this
    rw [cutT_at (by omega), typT2_eq, atT_tri (by omega)] at this
    have e1 := emod_congr_add (rfl : atT t i (n - i) % m = _) (this.trans (emod_congr_mul rfl (mod_self_mod (laz n i) m)))
    rw [← e1]
    have e2 := emod_congr_add (rfl : atT t i (n - i) % m = _) (emod_congr_sub (mod_self_mod (tyLaw p n (at0 ls) i (n - i)) m) (rfl : atT t i (n - i) % m = _))
    rw [e2]
    congr 1; omega
theorem at0_snoc {ls : List Int} {x : Int} : (∀ i, i < ls.length → at0 ls i = at0 (ls ++ [x]) i) ∧ at0 (ls ++ [x]) ls.length = at0 ls ls.length + x := by
  refine ⟨fun i hi => (at0_left hi).symm, ?_⟩
  rw [at0_lst, at0_out (Nat.le_refl _), Int.zero_add]
theorem tyS_inv {D : Nat} {e : Nat} (hp : P4 p) (hm : 2 ≤ m) (hm' : m = ((p ^ e : Nat) : Int)) (hD1 : 1 ≤ D) (hD : D ≤ 10) (ht : PlaT m (D + 1) t) (L : Lw m (D + 1) (atT t)) :
    ∀ k, k + 1 ≤ D → TyI p m D k (tyS p m (D + 1) t k).1 (tyS p m (D + 1) t k).2.1 (tyS p m (D + 1) t k).2.2 := by
  intro k
  induction k with
  | zero =>
    intro _
    have h1 : mostOf p 1 = 0 := by rcases hp with rfl | rfl | rfl | rfl <;> decide
    refine ⟨ht, L, (by show ([] : List Int).length = _; rw [h1]; rfl), fun x hx => (by cases hx), varL_len _, varL_range hm _, fun i j hij => ?_⟩
    show atT t i j % m = _
    have e1 := eqv2.1 (law_xy L) i j hij
    have e2 := eqv2.1 (law_xy (tyLaw_lw hp hD1 hD (at0 []) m)) i j hij
    exact e1.trans e2.symm
  | succ k ih =>
    intro hk
    have I := ih (by omega)
    have hA := I.agrF hp (show k + 2 ≤ D by omega) hD hm
    obtain ⟨ho0, ho1, hoA⟩ := own_at hp hm hD I.lw (show 2 ≤ k + 2 by omega) (show k + 2 ≤ D by omega) hA
    have hpm := pw_most hp (show 2 ≤ k + 2 by omega) (show k + 2 ≤ 10 by omega)
    have eD := tyLaw_agree (n := k + 2) (n' := D) (r := 10) (k := k + 3) hp (by omega) (by omega) (by omega) hD (v := at0 (tyS p m (D + 1) t k).2.1) (v' := at0 (tyS p m (D + 1) t k).2.1) (fun _ _ => rfl) (by omega) (by omega) (by have := pow_gt hp.pos.1 (10 + 1); omega)
    obtain ⟨y, hy⟩ : ∃ y, y = ownF p m (tyS p m (D + 1) t k).1 (k + 2) (tyS p m (D + 1) t k).2.1 := ⟨_, rfl⟩
    have hS : tyS p m (D + 1) t (k + 1) = if isPw p (k + 2) = true then ((tyS p m (D + 1) t k).1, (tyS p m (D + 1) t k).2.1 ++ [y], (tyS p m (D + 1) t k).2.2)
      else (cooT m (D + 1) (tyS p m (D + 1) t k).1 (stpG m (D + 1) (k + 2) y), (tyS p m (D + 1) t k).2.1, horn m (D + 1) (tyS p m (D + 1) t k).2.2 (stpG m (D + 1) (k + 2) y)) := by rw [hy]; rfl
    rw [← hy] at ho0 ho1 hoA
    rw [hS]
    obtain ⟨T, hT⟩ : ∃ T, T = (tyS p m (D + 1) t k).1 := ⟨_, rfl⟩
    obtain ⟨ls, hls⟩ : ∃ ls, ls = (tyS p m (D + 1) t k).2.1 := ⟨_, rfl⟩
    obtain ⟨cv, hcv⟩ : ∃ cv, cv = (tyS p m (D + 1) t k).2.2 := ⟨_, rfl⟩
    rw [← hT, ← hls, ← hcv] at I ⊢
    rw [← hls] at eD
    rw [← hT, ← hls] at hoA
    cases hpw : isPw p (k + 2)
    · rw [if_neg (by simp)]
      obtain ⟨hmo, hgc⟩ := hpm.2 hpw
      have hu := lam_unit hp (show 2 ≤ k + 2 by omega) (show k + 2 ≤ 10 by omega) hm hm' hpw
      have hlow := coo_low hm I.ok I.lw (show 2 ≤ k + 2 by omega) (show k + 2 < D + 1 by omega) (by omega) y hu
      refine ⟨hornT_ok (by omega) _ _ _, coo_lw hm (by omega) I.ok I.lw (stpG_len _ _ _ _) (stpG_0 m (by omega) (by omega) y) (stpG_1 m (by omega) (by omega) y), ?_, I.rng, horn_len _ _ _ _, horn_range (by omega), fun i j hij => ?_⟩
      · show ls.length = mostOf p (k + 2)
        rw [hmo]; exact I.len
      · show atT (cooT m (D + 1) T (stpG m (D + 1) (k + 2) y)) i j % m = tyLaw p D (at0 ls) i j % m
        by_cases h : i + j < k + 2
        · rw [hlow.1 i j h]; exact I.agr i j h
        · obtain rfl : j = k + 2 - i := by omega
          rw [hlow.2 i (by omega), ← hoA i (by omega), eD i (k + 2 - i) (by omega)]
    · rw [if_pos rfl]
      obtain ⟨hnp, hmo⟩ := hpm.1 hpw
      rw [show k + 2 - 1 = k + 1 by omega] at hnp hmo
      have hlen := I.len
      have hsn := at0_snoc (ls := ls) (x := y)
      refine ⟨I.ok, I.lw, ?_, fun x hx => ?_, I.clen, I.crng, fun i j hij => ?_⟩
      · show (ls ++ [y]).length = mostOf p (k + 2)
        rw [hmo]; simp [I.len]
      · rcases List.mem_append.1 hx with h | h
        · exact I.rng x h
        · rw [List.mem_singleton.1 h]; exact ⟨ho0, ho1⟩
      · show atT T i j % m = tyLaw p D (at0 (ls ++ [y])) i j % m
        by_cases h : i + j < k + 2
        · have e1 := tyLaw_agree (n := D) (n' := D) (r := ls.length) (k := k + 2) hp (by omega) hD (by omega) hD hsn.1 (by omega) (by omega) (by rw [hlen, ← hnp]; exact Nat.le_refl _)
          rw [I.agr i j h, e1 i j h]
        · obtain rfl : j = k + 2 - i := by omega
          have e1 := tyLaw_par (p := p) (D := D) (r := ls.length) (v := at0 ls) (v' := at0 (ls ++ [y])) (c := y) hp hD hsn.1 hsn.2 (by rw [hlen, ← hnp]; omega) i (by rw [hlen, ← hnp]; omega)
          rw [hlen, ← hnp] at e1
          rw [e1]
          have e2 := hoA i (by omega)
          rw [eD i (k + 2 - i) (by omega)] at e2
          have e3 := emod_congr_sub e2 (rfl : y * laz (k + 2) i % m = _)
          rw [Int.add_sub_cancel] at e3
          exact e3.symm
end stp
end Go.Proofs.YtoednonijmkbjaaGreat
set_option linter.unusedSimpArgs false
set_option linter.unusedVariables false
namespace Go.Proofs.YtoednonijmkbjaaGreat
open Go.RowKit

theorem isPw_iff {p q : Nat} (hp : P4 p) (hq : q ≤ 10000) : isPw p q = true ↔ ∃ k, p ^ k = q := by
  unfold isPw
  rw [List.any_eq_true]
  constructor
  · rintro ⟨k, -, h⟩; exact ⟨k, by simpa using h⟩
  · rintro ⟨k, h⟩
    refine ⟨k, List.mem_range.2 ?_, by simpa using h⟩
    apply Decidable.byContradiction
    intro hk
    have h1 : p ^ 14 ≤ p ^ k := Nat.pow_le_pow_right (by have := hp.pos; omega) (by omega)
    have h2 : 2 ^ 14 ≤ p ^ 14 := Nat.pow_le_pow_left hp.pos.1 14
    omega
theorem isPw_div {p q : Nat} (hp : P4 p) (hq1 : 1 ≤ q) (hq : q ≤ 10000) (h : q % p = 0) : isPw p (q / p) = isPw p q := by
  have hp2 := hp.pos
  have hd : q / p ≤ q := Nat.div_le_self _ _
  have hqe : p * (q / p) = q := by have := Nat.div_add_mod q p; omega
  apply Bool.eq_iff_iff.2
  rw [isPw_iff hp (by omega), isPw_iff hp hq]
  constructor
  · rintro ⟨k, h1⟩; exact ⟨k + 1, by rw [Nat.pow_succ, h1, Nat.mul_comm]; exact hqe⟩
  · rintro ⟨k, h1⟩
    cases k with
    | zero =>
      exfalso
      rw [Nat.pow_zero] at h1
      rw [← h1, Nat.mod_eq_of_lt (by omega)] at h
      omega
    | succ k =>
      refine ⟨k, ?_⟩
      rw [Nat.pow_succ, ← hqe, Nat.mul_comm] at h1
      exact Nat.eq_of_mul_eq_mul_left (by omega) h1
theorem isPw_end {p q : Nat} (hp : P4 p) (hq : q ≤ 10000) (h : ¬ q % p = 0) : isPw p q = decide (q = 1) := by
  apply Bool.eq_iff_iff.2
  rw [isPw_iff hp hq, decide_eq_true_iff]
  constructor
  · rintro ⟨k, h1⟩
    cases k with
    | zero => exact h1.symm
    | succ k =>
      exfalso
      apply h
      rw [← h1, Nat.pow_succ]
      exact Nat.mul_mod_left _ _
  · intro h1; exact ⟨0, h1.symm⟩
theorem isPw_p {p m : Nat} (hp : P4 p) (h : isPw p m = true) : ∃ e, m = p ^ e := by
  unfold isPw at h
  rw [List.any_eq_true] at h
  obtain ⟨k, -, h⟩ := h
  exact ⟨k, (by simpa using h : p ^ k = m).symm⟩

theorem isPowerOf_c (p m : Nat) (w : World) (hp : P4 p) (h1 : 1 ≤ m) (hm : m ≤ 10000) :
    Calls Tryz.prog 53 #[.int .i64 m, .int .i64 p] w fun e w' => e = .returned (.bool (isPw p m)) ∧ w = w' := by
  have hp2 := hp.pos
  go_enter Tryz.func53, Tryz.ntmps53
  go_wp2
  go_loop [0] (fun x => ∃ q : Nat, x = .int .i64 q ∧ 1 ≤ q ∧ q ≤ 10000 ∧ Hid (isPw p q = isPw p m)) (fun x => (intOf x).toNat)
  case atStart => exact ⟨m, rfl, h1, hm, Lib.hid rfl⟩
  case round =>
    obtain ⟨q, rfl, q1, q2, HE⟩ := hrel
    have hpi : (1 : Int) ≤ (p : Int) := by omega
    have t1 : ((q : Int)).tmod (p : Int) = ((q % p : Nat) : Int) := by
      rw [Int.tmod_eq_emod_of_nonneg (by omega)]; simp
    have t2 : ((q : Int)).tdiv (p : Int) = ((q / p : Nat) : Int) := by
      rw [Int.tdiv_eq_ediv_of_nonneg (by omega)]; simp
    have t3 : (q : Int) % (p : Int) = ((q % p : Nat) : Int) := by simp
    have t4 : (q : Int) / (p : Int) = ((q / p : Nat) : Int) := by simp
    by_cases h0 : q % p = 0
    · have hb : (((q % p : Nat) : Int) == 0) = true := by rw [h0]; rfl
      have HD := Lib.hid ((isPw_div hp q1 q2 h0).trans HE.out)
      have hdl : q / p < q := Nat.div_lt_self (by omega) (by omega)
      have hd1 : 1 ≤ q / p := by
        rcases Nat.eq_zero_or_pos (q / p) with hz | hz
        · have := Nat.div_add_mod q p
          rw [hz, h0] at this
          omega
        · exact hz
      clear h0
      generalize q % p = x at t1 t3 hb
      generalize q / p = y at t2 t4 HD hdl hd1
      go_wp2
      exact ⟨⟨y, rfl, hd1, by omega, HD⟩, by simp [intOf]; omega⟩
    · have hb : (((q % p : Nat) : Int) == 0) = false := by simp; omega
      have HD := Lib.hid ((isPw_end hp q2 h0).symm.trans HE.out)
      clear h0
      generalize q % p = x at t1 t3 hb
      go_wp2
      go_ret
      refine ⟨?_, rfl⟩
      rw [← HD.out]
      congr 2
      by_cases h : q = 1
      · subst h; rfl
      · simp [h]; omega
theorem l09PowerOf_c (p m : Nat) (w : World) (hp : P4 p) (h1 : 1 ≤ m) (hm : m ≤ 10000) :
    Calls Tryz.prog 42 #[.int .i64 p, .int .i64 m] w fun e w' => e = .returned (.bool (isPw p m)) ∧ w = w' := by
  have hp2 := hp.pos
  go_enter Tryz.func42, Tryz.ntmps42
  go_wp2
  go_loop [1] (fun x => ∃ q : Nat, x = .int .i64 q ∧ 1 ≤ q ∧ q ≤ 10000 ∧ Hid (isPw p q = isPw p m)) (fun x => (intOf x).toNat)
  case atStart => exact ⟨m, rfl, h1, hm, Lib.hid rfl⟩
  case round =>
    obtain ⟨q, rfl, q1, q2, HE⟩ := hrel
    have hpi : (1 : Int) ≤ (p : Int) := by omega
    have t1 : ((q : Int)).tmod (p : Int) = ((q % p : Nat) : Int) := by
      rw [Int.tmod_eq_emod_of_nonneg (by omega)]; simp
    have t2 : ((q : Int)).tdiv (p : Int) = ((q / p : Nat) : Int) := by
      rw [Int.tdiv_eq_ediv_of_nonneg (by omega)]; simp
    have t3 : (q : Int) % (p : Int) = ((q % p : Nat) : Int) := by simp
    have t4 : (q : Int) / (p : Int) = ((q / p : Nat) : Int) := by simp
    by_cases h0 : q % p = 0
    · have hb : (((q % p : Nat) : Int) == 0) = true := by rw [h0]; rfl
      have HD := Lib.hid ((isPw_div hp q1 q2 h0).trans HE.out)
      have hdl : q / p < q := Nat.div_lt_self (by omega) (by omega)
      have hd1 : 1 ≤ q / p := by
        rcases Nat.eq_zero_or_pos (q / p) with hz | hz
        · have := Nat.div_add_mod q p
          rw [hz, h0] at this
          omega
        · exact hz
      clear h0
      generalize q % p = x at t1 t3 hb
      generalize q / p = y at t2 t4 HD hdl hd1
      go_wp2
      exact ⟨⟨y, rfl, hd1, by omega, HD⟩, by simp [intOf]; omega⟩
    · have hb : (((q % p : Nat) : Int) == 0) = false := by simp; omega
      have HD := Lib.hid ((isPw_end hp q2 h0).symm.trans HE.out)
      clear h0
      generalize q % p = x at t1 t3 hb
      go_wp2
      go_ret
      refine ⟨?_, rfl⟩
      rw [← HD.out]
      congr 2
      by_cases h : q = 1
      · subst h; rfl
      · simp [h]; omega

def tyfC (p m : Int) (t : List (List Int)) : Int := if tyFor p m t = 0 then (if isPw p.toNat m.toNat = true then 0 else 5) else tyFor p m t
set_option maxHeartbeats 1000000 in
set_option maxRecDepth 100000 in
theorem typifiable_c (p m : Int) (v : Value) (t : List (List Int)) (w : World) (hv : RdT w v t) :
    Calls Tryz.prog 31 #[.int .i64 p, .agg #[.int .i64 m, v]] w fun e w' => e = .returned (.int .i64 (tyfC p m t)) ∧ Below w.heap.size w w' := by
  obtain ⟨o, c, rfl, -, -⟩ := id hv
  by_cases h0 : tyFor p m t = 0
  · obtain ⟨P, D, rfl, hl, hP, hD1, hD, hm, hm', HT, L, e1, e2⟩ := law_typ h0
    obtain ⟨M, rfl⟩ : ∃ M : Nat, m = M := ⟨m.toNat, by omega⟩
    have hR : tyfC P M t = if isPw P M = true then 0 else 5 := by unfold tyfC; rw [if_pos h0]; rfl
    have HC := Lib.hid h0
    clear h0 HT L e1 e2 hl
    cases hPw : isPw P M
    all_goals
      rw [hPw] at hR
      have HR := Lib.hid hR
      clear hR
      go_enter Tryz.func31, Tryz.ntmps31
      go_wp2_with fail
      (have X0 := ((RB2.mk1 w  (.int .i64 M) (.slice o t.length c) 31).1).below (w' := (w.alloc (.cells #[.int .i64 M, .slice o t.length c] 31))) (by (repeat (first | exact bR _ _ | (refine bS ?_ _) | (refine bA ?_ _) | (refine bN ?_ _) | (refine bD ?_)))) (Nat.le_refl _); have B0 : Below w.heap.size w (w.alloc (.cells #[.int .i64 M, .slice o t.length c] 31)) := (by (repeat (first | exact bR _ _ | (refine bS ?_ _) | (refine bA ?_ _) | (refine bN ?_ _) | (refine bD ?_)))); have hv0 := hv.below (w' := (w.alloc (.cells #[.int .i64 M, .slice o t.length c] 31))) (by (repeat (first | exact bR _ _ | (refine bS ?_ _) | (refine bA ?_ _) | (refine bN ?_ _) | (refine bD ?_)))) (Nat.le_refl _); generalize w.alloc (.cells #[.int .i64 M, .slice o t.length c] 31) = w0 at X0 B0 hv0 ⊢)
      (obtain ⟨gqX0, gqX1⟩ := id X0; go_wp2_with fail; refine (typicalFor_c P M _ t _ hv0).mono ?_; rw [HC.out]; rintro e w1 ⟨rfl, hb⟩; (have X1 := X0.below hb (Nat.le_refl _); have hv1 := hv0.below hb (Nat.le_refl _); have B1 := B0.trans (hb.mono B0.size)); clear gqX0 gqX1; clear hb)
      obtain ⟨x0, x1⟩ := id X1
      go_wp2_with (go_at_call 53; refine (isPowerOf_c P M _ hP (by omega) (by omega)).mono ?_; rw [hPw]; rintro e w' ⟨rfl, rfl⟩)
      go_ret
      exact ⟨by rw [HR.out]; rfl, B1⟩
  · have HR := Lib.hid (show tyfC p m t = tyFor p m t by unfold tyfC; rw [if_neg h0])
    obtain ⟨cc, hcc⟩ : ∃ cc, cc = tyFor p m t := ⟨_, rfl⟩
    rw [← hcc] at h0 HR
    have HC := Lib.hid hcc
    clear hcc
    have hne : (cc != 0) = true := by simpa using h0
    have hne' : (cc == 0) = false := by simpa using h0
    go_enter Tryz.func31, Tryz.ntmps31
    go_wp2_with fail
    (have X0 := ((RB2.mk1 w  (.int .i64 m) (.slice o t.length c) 31).1).below (w' := (w.alloc (.cells #[.int .i64 m, .slice o t.length c] 31))) (by (repeat (first | exact bR _ _ | (refine bS ?_ _) | (refine bA ?_ _) | (refine bN ?_ _) | (refine bD ?_)))) (Nat.le_refl _); have B0 : Below w.heap.size w (w.alloc (.cells #[.int .i64 m, .slice o t.length c] 31)) := (by (repeat (first | exact bR _ _ | (refine bS ?_ _) | (refine bA ?_ _) | (refine bN ?_ _) | (refine bD ?_)))); have hv0 := hv.below (w' := (w.alloc (.cells #[.int .i64 m, .slice o t.length c] 31))) (by (repeat (first | exact bR _ _ | (refine bS ?_ _) | (refine bA ?_ _) | (refine bN ?_ _) | (refine bD ?_)))) (Nat.le_refl _); generalize w.alloc (.cells #[.int .i64 m, .slice o t.length c] 31) = w0 at X0 B0 hv0 ⊢)
    (obtain ⟨gqX0, gqX1⟩ := id X0; go_wp2_with fail; refine (typicalFor_c p m _ t _ hv0).mono ?_; rw [← HC.out]; rintro e w1 ⟨rfl, hb⟩; (have X1 := X0.below hb (Nat.le_refl _); have hv1 := hv0.below hb (Nat.le_refl _); have B1 := B0.trans (hb.mono B0.size)); clear gqX0 gqX1; clear hb)
    go_wp2
    go_ret
    exact ⟨by rw [HR.out]; rfl, B1⟩
set_option maxHeartbeats 1000000 in
set_option maxRecDepth 100000 in
theorem l09Good_c (p m : Int) (v : Value) (t : List (List Int)) (w : World) (hv : RdT w v t) :
    Calls Tryz.prog 27 #[.int .i64 p, .agg #[.int .i64 m, v]] w fun e w' => e = .returned (.int .i64 (tyfC p m t)) ∧ Below w.heap.size w w' := by
  obtain ⟨o, c, rfl, -, -⟩ := id hv
  by_cases h0 : tyFor p m t = 0
  · obtain ⟨P, D, rfl, hl, hP, hD1, hD, hm, hm', HT, L, e1, e2⟩ := law_typ h0
    obtain ⟨M, rfl⟩ : ∃ M : Nat, m = M := ⟨m.toNat, by omega⟩
    have hR : tyfC P M t = if isPw P M = true then 0 else 5 := by unfold tyfC; rw [if_pos h0]; rfl
    have HC := Lib.hid h0
    clear h0 HT L e1 e2 hl
    cases hPw : isPw P M
    all_goals
      rw [hPw] at hR
      have HR := Lib.hid hR
      clear hR
      go_enter Tryz.func27, Tryz.ntmps27
      go_wp2_with fail
      (have X0 := ((RB2.mk1 w  (.int .i64 M) (.slice o t.length c) 31).1).below (w' := (w.alloc (.cells #[.int .i64 M, .slice o t.length c] 31))) (by (repeat (first | exact bR _ _ | (refine bS ?_ _) | (refine bA ?_ _) | (refine bN ?_ _) | (refine bD ?_)))) (Nat.le_refl _); have B0 : Below w.heap.size w (w.alloc (.cells #[.int .i64 M, .slice o t.length c] 31)) := (by (repeat (first | exact bR _ _ | (refine bS ?_ _) | (refine bA ?_ _) | (refine bN ?_ _) | (refine bD ?_)))); have hv0 := hv.below (w' := (w.alloc (.cells #[.int .i64 M, .slice o t.length c] 31))) (by (repeat (first | exact bR _ _ | (refine bS ?_ _) | (refine bA ?_ _) | (refine bN ?_ _) | (refine bD ?_)))) (Nat.le_refl _); generalize w.alloc (.cells #[.int .i64 M, .slice o t.length c] 31) = w0 at X0 B0 hv0 ⊢)
      (obtain ⟨gqX0, gqX1⟩ := id X0; go_wp2_with fail; refine (l09Of_c P M _ t _ hv0).mono ?_; rw [HC.out]; rintro e w1 ⟨rfl, hb⟩; (have X1 := X0.below hb (Nat.le_refl _); have hv1 := hv0.below hb (Nat.le_refl _); have B1 := B0.trans (hb.mono B0.size)); clear gqX0 gqX1; clear hb)
      obtain ⟨x0, x1⟩ := id X1
      go_wp2_with (go_at_call 42; refine (l09PowerOf_c P M _ hP (by omega) (by omega)).mono ?_; rw [hPw]; rintro e w' ⟨rfl, rfl⟩)
      go_ret
      exact ⟨by rw [HR.out]; rfl, B1⟩
  · have HR := Lib.hid (show tyfC p m t = tyFor p m t by unfold tyfC; rw [if_neg h0])
    obtain ⟨cc, hcc⟩ : ∃ cc, cc = tyFor p m t := ⟨_, rfl⟩
    rw [← hcc] at h0 HR
    have HC := Lib.hid hcc
    clear hcc
    have hne : (cc != 0) = true := by simpa using h0
    have hne' : (cc == 0) = false := by simpa using h0
    go_enter Tryz.func27, Tryz.ntmps27
    go_wp2_with fail
    (have X0 := ((RB2.mk1 w  (.int .i64 m) (.slice o t.length c) 31).1).below (w' := (w.alloc (.cells #[.int .i64 m, .slice o t.length c] 31))) (by (repeat (first | exact bR _ _ | (refine bS ?_ _) | (refine bA ?_ _) | (refine bN ?_ _) | (refine bD ?_)))) (Nat.le_refl _); have B0 : Below w.heap.size w (w.alloc (.cells #[.int .i64 m, .slice o t.length c] 31)) := (by (repeat (first | exact bR _ _ | (refine bS ?_ _) | (refine bA ?_ _) | (refine bN ?_ _) | (refine bD ?_)))); have hv0 := hv.below (w' := (w.alloc (.cells #[.int .i64 m, .slice o t.length c] 31))) (by (repeat (first | exact bR _ _ | (refine bS ?_ _) | (refine bA ?_ _) | (refine bN ?_ _) | (refine bD ?_)))) (Nat.le_refl _); generalize w.alloc (.cells #[.int .i64 m, .slice o t.length c] 31) = w0 at X0 B0 hv0 ⊢)
    (obtain ⟨gqX0, gqX1⟩ := id X0; go_wp2_with fail; refine (l09Of_c p m _ t _ hv0).mono ?_; rw [← HC.out]; rintro e w1 ⟨rfl, hb⟩; (have X1 := X0.below hb (Nat.le_refl _); have hv1 := hv0.below hb (Nat.le_refl _); have B1 := B0.trans (hb.mono B0.size)); clear gqX0 gqX1; clear hb)
    go_wp2
    go_ret
    exact ⟨by rw [HR.out]; rfl, B1⟩
theorem tyfC_0 {p m : Int} {t : List (List Int)} (h : tyfC p m t = 0) : tyFor p m t = 0 ∧ isPw p.toNat m.toNat = true := by
  unfold tyfC at h
  split at h
  · split at h
    · exact ⟨by assumption, by assumption⟩
    · omega
  · exact absurd h (by assumption)
end Go.Proofs.YtoednonijmkbjaaGreat
