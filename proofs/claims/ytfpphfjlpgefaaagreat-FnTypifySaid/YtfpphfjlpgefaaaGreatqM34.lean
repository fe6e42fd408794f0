/- Lemmas. -/
import Derived.Test.YtfpphfjlpgefaaaGreatqM28
import Derived.Test.YtfpphfjlpgefaaaGreatqM33
import Derived.Test.YtfpphfjlpgefaaaGreatqM31
import Derived.Test.YtfpphfjlpgefaaaGreatqHomP
set_option maxHeartbeats 4000000
set_option maxRecDepth 100000
set_option linter.unusedSimpArgs false
set_option linter.unusedVariables false
namespace Go.Proofs.YtfpphfjlpgefaaaGreat
open Go.RowKit
section

theorem qKF (m : Int) (n : Nat) (t : Tb) (a b : Li) : (qBw m n t a b).length = n := qA9 _ _
theorem qL9 {m : Int} (hm : 0 < m) (n : Nat) (t : Tb) (a b : Li) : PlaT m n (qBw m n t a b) := qH7 hm _ _ _ _ _ _
def qB7 (m : Int) (n : Nat) (t : Tb) (a : Li) : Tb := qAK m n (qBw m n t (qAc m n a) (qAc m n a)) a
theorem qGQ (m : Int) (n : Nat) (t : Tb) (a : Li) : (qB7 m n t a).length = n := qE6 _ _ _ _
theorem qPi (m : Int) (n : Nat) (v u : Value) (t : Tb) (xs : Li) (w : World) (hv : RdT w v t) (hu : RdI w u xs) (hl : xs.length = n) (h1 : 2 ≤ n) (hn : n ≤ 1000) (hm : 2 ≤ m) (hm' : m ≤ 10000) (ht : PlaT m n t) (hx : ∀ x ∈ xs, 0 ≤ x ∧ x < m) :
  Calls Tryz.prog 113 #[.agg #[.int .i64 m, v], .agg #[.int .i64 m, u]] w fun e w' => qC9 w w' m (qB7 m n t xs) e := by
 subst hl
 obtain ⟨o, c, rfl, -, -⟩ := id hv
 obtain ⟨o', c', rfl, -, -⟩ := id hu
 have hv' : RdT w (.slice o xs.length c) t := by rw [ht.1] at hv; exact hv
 rw [ht.1]
 have HT := dd ht
 have HRl := dd (qGl m xs.length xs)
 have HRr := dd (qIV (m := m) (show 0 < m by omega) xs.length xs)
 have HBo := dd (qL9 (m := m) (show 0 < m by omega) xs.length t (qAc m xs.length xs) (qAc m xs.length xs))
 have HC := dd (show qAK m xs.length (qBw m xs.length t (qAc m xs.length xs) (qAc m xs.length xs)) xs = qB7 m xs.length t xs from rfl)
 clear ht hv
 go_enter Tryz.func113, Tryz.ntmps113
 go_wp2_with fail
 (obtain ⟨w0, hw0⟩ : ∃ W : World, W = (((w.alloc (.cells #[.int .i64 m, .slice o xs.length c] 26)).alloc (.cells #[.int .i64 m, .slice o' xs.length c'] 34)).alloc (.cells #[.int .i64 0, .slice none 0 0] 26)) := ⟨_, rfl⟩; have X0 := (RB2.mk1 w  (.int .i64 m) (.slice o xs.length c) 26).1.below (w' := w0) (bV hw0) (nl _); have Y0 := (RB2.mk2 w (.cells #[.int .i64 m, .slice o xs.length c] 26) (.int .i64 m) (.slice o' xs.length c') 34).1.below (w' := w0) (bV hw0) (nl _); have R0 := (RB2.mk3 w (.cells #[.int .i64 m, .slice o xs.length c] 26) (.cells #[.int .i64 m, .slice o' xs.length c'] 34) (.int .i64 0) (.slice none 0 0) 26).below (w' := w0) (bV hw0) (nl _); have B0 : Below w.heap.size w w0 := (bV hw0); have hv'0 := hv'.below (w' := w0) (bV hw0) (nl _); have hu0 := hu.below (w' := w0) (bV hw0) (nl _); rw [← hw0]; clear hw0)
 obtain ⟨y0, y1⟩ := id Y0
 have B0s := B0.size
 go_wp2_with fail
 refine (qJ0 m _ xs _ hu0 Oo Oo Oo Oo hx).mono ?_
 rintro e w1 ⟨vr, rfl, hor, hb⟩
 obtain ⟨or, cr, rfl⟩ := hor.shapeN (n := xs.length) HRl.out
 clear y0 y1
 (have X1 := X0.below hb; have Y1 := Y0.below hb; have R1 := R0.below hb; have hv'1 := hv'0.below hb; have hu1 := hu0.below hb; have B1 := B0.trans (hb.mono B0.size))
 have hb1 := hb.size
 have lR := R1.1.lt
 go_wp2_with fail
 (have hb : Below w1.heap.size w1 (w1.alloc (.cells #[.int .i64 m, .slice or xs.length cr] 34)) := bZ; have X2 := X1.below hb; have Y2 := Y1.below hb; have R2 := R1.below hb; have hv'2 := hv'1.below hb; have hu2 := hu1.below hb; have hor := hor.alloc (.cells #[.int .i64 m, .slice or xs.length cr] 34); have B2 := B1.trans (hb.mono B1.size); have O := RB2.mk1 w1 (.int .i64 m) (.slice or xs.length cr) 34; have hl_w2 := hb.size; clear hb; generalize w1.alloc (.cells #[.int .i64 m, .slice or xs.length cr] 34) = w2 at O B2 hl_w2 X2 Y2 R2 hv'2 hu2 hor ⊢)
 have hor2 := hor.rd
 have hB2 := B2.size
 have hd0 : Below w2.heap.size w2 w2.drew := (Below.refl _ _).drew
 have hsd0 := hd0.size
 have hrl := R2.1.lt
 have hneR_X2 : w.heap.size + 2 ≠ w.heap.size := Oo
 have hneR_Y2 : w.heap.size + 2 ≠ w.heap.size + 1 := Oo
 have hneR_O1 : w.heap.size + 2 ≠ w1.heap.size := Oo
 obtain ⟨⟨q0_R_0, q0_R_1⟩, qf0_R⟩ := R2.below (Below.refl w2.heap.size w2) (nl _)
 obtain ⟨q0_X2_0, q0_X2_1⟩ := X2.below (Below.refl w2.heap.size w2) (nl _)
 obtain ⟨q0_Y2_0, q0_Y2_1⟩ := Y2.below (Below.refl w2.heap.size w2) (nl _)
 obtain ⟨q0_O1_0, q0_O1_1⟩ := O.1.below (Below.refl w2.heap.size w2) (nl _)
 go_region_held3 (fun w' => w'.cell? ⟨w.heap.size, 0, none⟩ = some (.int .i64 m) ∧ w'.cell? ⟨w.heap.size, 1, none⟩ = some (.slice o xs.length c) ∧ w'.cell? ⟨w.heap.size + 1, 0, none⟩ = some (.int .i64 m) ∧ w'.cell? ⟨w.heap.size + 1, 1, none⟩ = some (.slice o' xs.length c') ∧ w'.cell? ⟨w1.heap.size, 0, none⟩ = some (.int .i64 m) ∧ w'.cell? ⟨w1.heap.size, 1, none⟩ = some (.slice or xs.length cr)) (go_keep)
  (first
   | (go_at_call 66; refine (qIj m xs.length _ _ _ t (qAc m xs.length xs) (qAc m xs.length xs) _ ((hv'2).below bZ (nl _)) ((hor2).below bZ (nl _)) ((hor2).below bZ (nl _)) HRl.out HRl.out Oo Oo hm hm' HT.out HRr.out HRr.out).mono ?_; rintro e wd1 ⟨vb, rfl, hod1, hbd1⟩; obtain ⟨ob, cb, rfl⟩ := hod1.shapeN (n := xs.length) (qKF _ _ _ _ _); have hd1 : Below w2.heap.size w2 wd1 := (bY1 hbd1); have hsd1 := hd1.size; have hsz1_ := hbd1.size; (try simp at hsz1_); obtain ⟨⟨q1_R_0, q1_R_1⟩, qf1_R⟩ := R2.below hd1; obtain ⟨q1_X2_0, q1_X2_1⟩ := X2.below hd1; obtain ⟨q1_Y2_0, q1_Y2_1⟩ := Y2.below hd1; obtain ⟨q1_O1_0, q1_O1_1⟩ := O.1.below hd1)
   | (go_at_call 64; refine (qHp m m xs.length _ _ xs (qBw m xs.length t (qAc m xs.length xs) (qAc m xs.length xs)) _ ((hu2).below (bY1 hbd1) (nl _)) ((hod1.below bZ)).rd Oo Oo Oo Oo hm Oo hx HBo.out).mono ?_; rintro e wd2 ⟨vl, rfl, hod2, hbd2⟩; rw [HC.out] at hod2; obtain ⟨ol, cl, rfl⟩ := hod2.shapeN (n := xs.length) (qGQ _ _ _ _); have hd2 : Below w2.heap.size w2 wd2 := (bY2 hbd1 hbd2); have hsd2 := hd2.size; have hsz2_ := hbd2.size; (try simp at hsz2_); obtain ⟨⟨q2_R_0, q2_R_1⟩, qf2_R⟩ := R2.below hd2; obtain ⟨q2_X2_0, q2_X2_1⟩ := X2.below hd2; obtain ⟨q2_Y2_0, q2_Y2_1⟩ := Y2.below hd2; obtain ⟨q2_O1_0, q2_O1_1⟩ := O.1.below hd2))
 go_wp2
 refine bodyPost_ret (v := .agg #[.int .i64 m, .slice ol xs.length cl]) (by simp [results, Tryz.results113, go_sem, q2_R_0, q2_R_1]) rfl ⟨_, rfl, ?_, ?_⟩
 ·have hbsz := B2.size; exact ((hod2.low sz _).low sz _).mono sz
 ·have hbsz := B2.size
  (repeat (first | exact bR _ _ | (refine bS ?_ _) | (refine bA ?_ _) | (refine bN ?_ _) | (refine bD ?_) | (refine bT ?_ hbd1) | (refine bT ?_ hbd2) | (refine bT ?_ B2)))

theorem qO6 (m : Int) (n : Nat) (v u : Value) (t : Tb) (xs : Li) (w : World) (hv : RdT w v t) (hu : RdI w u xs) (hlx : xs.length = n) (h1 : 1 ≤ n) (hn : n ≤ 1000) (hm : 2 ≤ m) (hm' : m ≤ 10000)
  (ht : PlaT m n t) (hx : ∀ x ∈ xs, 0 ≤ x ∧ x < m) (hx0 : at0 xs 0 = 0) :
  Calls Tryz.prog 179 #[.int .i64 m, v, u] w fun e w' => ∃ v', e = .returned v' ∧ OwS w' w.heap.size v' (qBw m n t xs xs) ∧ Below w.heap.size w w' := by
 have HX := dd hx0
 clear hx0
 go_enter Tryz.func179, Tryz.ntmps179
 go_wp2_with fail
 refine (qM5 m n _ _ _ t xs xs _ hv hu hu hlx hlx h1 hn hm hm' ht hx hx HX.out HX.out).mono ?_
 rintro e w1 ⟨v', rfl, how, hb⟩
 go_wp2
 go_ret
 exact ⟨_, rfl, how, hb⟩

theorem qLU (m : Int) (n : Nat) (v u : Value) (t : Tb) (xs : Li) (w : World) (hv : RdT w v t) (hu : RdI w u xs) (hl : xs.length = n) (h1 : 2 ≤ n) (hn : n ≤ 1000) (hm : 2 ≤ m) (hm' : m ≤ 10000) (ht : PlaT m n t) (hx : ∀ x ∈ xs, 0 ≤ x ∧ x < m) :
  Calls Tryz.prog 122 #[.int .i64 m, v, u] w fun e w' => ∃ v', e = .returned v' ∧ OwS w' w.heap.size v' (qB7 m n t xs) ∧ Below w.heap.size w w' := by
 subst hl
 obtain ⟨o', c', rfl, hmx, -⟩ := id hu
 unfold maxLen at hmx
 have HRl := dd (qGl m xs.length xs)
 have HRr := dd (qIV (m := m) (show 0 < m by omega) xs.length xs)
 have HR0 := dd (show at0 (qAc m xs.length xs) 0 = 0 from qD2 _ _ _ _)
 have HBo := dd (qL9 (m := m) (show 0 < m by omega) xs.length t (qAc m xs.length xs) (qAc m xs.length xs))
 go_enter Tryz.func122, Tryz.ntmps122
 go_wp2_with fail
 refine (qPI m ((xs.length : Int) - 1) xs.length _ xs _ Oo hu rfl Oo Oo Oo Oo hx).mono ?_
 rintro e w1 ⟨vr, rfl, hor, B1⟩
 obtain ⟨or, cr, rfl⟩ := hor.shapeN (n := xs.length) HRl.out
 go_wp2_with fail
 refine (qO6 m xs.length _ _ t (qAc m xs.length xs) _ (hv.below B1) hor.rd HRl.out Oo Oo hm hm' ht HRr.out HR0.out).mono ?_
 rintro e w2 ⟨vt, rfl, hot, hb2⟩
 obtain ⟨ot, ct, rfl⟩ := hot.shapeN (n := xs.length) (qKF _ _ _ _ _)
 have B2 := B1.trans (hb2.mono B1.size)
 go_wp2_with fail
 refine (qFK m xs.length _ _ xs _ _ (hu.below B2) hot.rd Oo Oo Oo Oo Oo hx HBo.out).mono ?_
 rintro e w3 ⟨vl, rfl, hol, hb3⟩
 have hBs := B2.size
 have B3 := B2.trans (hb3.mono hBs)
 go_wp2
 go_ret
 exact ⟨_, rfl, hol.mono hBs, B3⟩

end
section
open Rg

def qAS (p n : Nat) : Bool := (List.range 14).any (fun k => p ^ k == n)
theorem qGB {p n : Nat} (hp : P4 p) (h2 : 2 ≤ n) (hn : n ≤ 10) : (qAS p n = true → n = p ^ (qA4 p (n - 1) + 1) ∧ qA4 p n = qA4 p (n - 1) + 1) ∧ (qAS p n = false → qA4 p n = qA4 p (n - 1) ∧ Nat.gcd (lam n).toNat p = 1) := by
 have hnn : n = 2 ∨ n = 3 ∨ n = 4 ∨ n = 5 ∨ n = 6 ∨ n = 7 ∨ n = 8 ∨ n = 9 ∨ n = 10 := Oo
 rcases hp with rfl | rfl | rfl | rfl <;>
  rcases hnn with rfl | rfl | rfl | rfl | rfl | rfl | rfl | rfl | rfl <;> decide
theorem qNz {p n e : Nat} {m : Int} (hp : P4 p) (h2 : 2 ≤ n) (hn : n ≤ 10) (hm : 2 ≤ m) (he : m = ((p ^ e : Nat) : Int)) (h : qAS p n = false) : (lam n % m) * qAI m (lam n % m) % m = 1 % m := by
 have hg := ((qGB hp h2 hn).2 h).2
 have hl := qF2 n h2 hn
 have hr := qA6 (a := lam n) (show 0 < m by omega)
 refine qHw Oo hr.1 ?_
 unfold qFc
 rw [beq_iff_eq, Int.toNat_emod Oo Oo, ← Nat.gcd_rec, Nat.gcd_comm, he]
 exact Nat.Coprime.pow_right e hg
def qAe (m : Int) (N n : Nat) (own : Int) : Li := (qAk N).set n (own * qAI m (lam n % m) % m)
theorem qF6 (m : Int) (N n : Nat) (own : Int) : (qAe m N n own).length = N := by unfold qAe; rw [List.length_set, qD8]
theorem qGj (m : Int) {N n : Nat} (h2 : 2 ≤ n) (hn : n < N) (own : Int) : at0 (qAe m N n own) = ad xS (mon n (own * qAI m (lam n % m) % m)) := by
 funext i
 unfold qAe
 rw [qCO, qD8, qEV Oo]
 show _ = xS i + mon n _ i
 unfold xS mon
 by_cases h : i = n
 ·rw [if_pos ⟨h, Oo⟩, if_pos h, if_neg Oo, Int.zero_add]
 ·rw [if_neg (fun e => h e.1), if_neg h, Int.add_zero]
theorem qL6 {m : Int} (hm : 2 ≤ m) (N n : Nat) (own : Int) : ∀ x ∈ qAe m N n own, 0 ≤ x ∧ x < m := by
 intro x hx
 unfold qAe at hx
 rcases List.mem_or_eq_of_mem_set hx with h | h
 ·exact qHZ hm N x h
 ·rw [h]; exact qA6 Oo
theorem qHq (m : Int) {N n : Nat} (h2 : 2 ≤ n) (hn : n < N) (own : Int) : at0 (qAe m N n own) 0 = 0 := by
 rw [qGj m h2 hn]
 show xS 0 + mon n _ 0 = 0
 unfold xS mon
 rw [if_neg Oo, if_neg Oo]; rfl
theorem qHO (m : Int) {N n : Nat} (h2 : 2 ≤ n) (hn : n < N) (own : Int) : at0 (qAe m N n own) 1 = 1 := by
 rw [qGj m h2 hn]
 show xS 1 + mon n _ 1 = 1
 unfold xS mon
 rw [if_pos rfl, if_neg Oo]; rfl
section stp
variable {p N n : Nat} {m : Int} {t : Tb}
theorem qFB (hm : 2 ≤ m) (hN : 2 ≤ N) (ht : PlaT m N t) {xs : Li} (hl : xs.length = N) (h0 : at0 xs 0 = 0) (h1 : at0 xs 1 = 1) : Cnj m N (atT t) (atT (qB7 m N t xs)) (at0 xs) (at0 (qAc m N xs)) := by
 have hu : at0 xs 1 * qAI m (at0 xs 1) % m = 1 % m := by
  rw [h1]; exact qHw Oo Oo (by simp [qFc])
 have r1 : at0 (qAc m N xs) 1 = qAI m (at0 xs 1) := by
  unfold qAc; rw [show N - 1 = (N - 2) + 1 by omega]; exact qHP m hN xs _
 have hfg := qKm (show 0 < m by omega) hN hl h0 hu
 refine ⟨hN, qDc h0, qDc (qD2 m N xs _), hfg, qJE hN (qDc h0) (qDc (qD2 m N xs _)) hfg (by rw [r1, Int.mul_comm]; exact hu), ?_⟩
 unfold qB7
 exact qA2 (qHD _ _ Oo) (qC2 _ (T_bot ht _ _))
theorem qIw (hm : 2 ≤ m) (hN : 2 ≤ N) (ht : PlaT m N t) (L : Lw m N (atT t)) {xs : Li} (hl : xs.length = N) (h0 : at0 xs 0 = 0) (h1 : at0 xs 1 = 1) : atT (qB7 m N t xs) 0 0 = 0 := by
 have C := qFB hm hN ht hl h0 h1
 have hr := qBT (show PlaT m N (qB7 m N t xs) from qAF Oo _ _ _) (show 0 + 0 < N by omega)
 have hlo : lo m 1 (ev1 N (at0 xs) (ev2 N (atT t) (onx (at0 (qAc m N xs))) (ony (at0 (qAc m N xs))))) :=
  qBa C.lf Oo (qGS _ L.zer (nl _) (qFd (qD2 m N xs _)) (qFF (qD2 m N xs _)))
 have e := qAJ.1 (qA2 (qBe C.ok (show 1 ≤ N by omega)) (qAo hlo)) 0 0 Oo
 rw [Int.emod_eq_of_lt hr.1 hr.2] at e
 rw [e]
 show (0 : Int) % m = 0
 exact Int.zero_emod m
theorem coo_lw (hm : 2 ≤ m) (hN : 2 ≤ N) (ht : PlaT m N t) (L : Lw m N (atT t)) {xs : Li} (hl : xs.length = N) (h0 : at0 xs 0 = 0) (h1 : at0 xs 1 = 1) : Lw m N (atT (qB7 m N t xs)) :=
 (qFB hm hN ht hl h0 h1).lw L (qIw hm hN ht L hl h0 h1)
theorem qN9 (hm : 2 ≤ m) (ht : PlaT m N t) (L : Lw m N (atT t)) (h2 : 2 ≤ n) (hn : n < N) (hn10 : n ≤ 10) (own : Int) (hu : (lam n % m) * qAI m (lam n % m) % m = 1 % m) :
  (∀ i j, i + j < n → atT (qB7 m N t (qAe m N n own)) i j % m = atT t i j % m) ∧ ∀ i, i ≤ n → atT (qB7 m N t (qAe m N n own)) i (n - i) % m = (atT t i (n - i) + own * laz n i) % m := by
 have hl := qF6 m N n own
 have h0 := qHq m h2 hn own
 have h1 := qHO m h2 hn own
 have C := qFB hm Oo ht hl h0 h1
 obtain ⟨b, hb⟩ : ∃ b, b = own * qAI m (lam n % m) % m := ⟨_, rfl⟩
 have e := C.low L (qIw hm Oo ht L hl h0 h1) h2 Oo (qAf (by rw [qGj m h2 hn own, ← hb]))
 have d1 : ∀ (X Y : Nat → Nat → Int) i j, (ad X Y : Nat → Nat → Int) i j = X i j + Y i j := fun X Y i j => rfl
 constructor
 ·intro i j hij; have h := qAJ.1 e i j Oo; simp only [d1, qC_] at h; have z : ∀ X : Nat → Nat → Int, lo 0 1 X → (pw X n : Nat → Nat → Int) i j = 0 := fun X hX => Int.zero_dvd.1 (qDg.1 (qAu hX n) i j hij)
  rw [z _ (qCP 0), z _ (qCW 0), z _ (qFx 0)] at h; simpa using h
 ·intro i hi; have h := qAJ.1 e i (n - i) Oo; simp only [d1, qC_] at h; have hx := xy_at (show 1 ≤ n by omega) hi
  have hbn : (pw (ad xP yP) n : Nat → Nat → Int) i (n - i) = bin n i := by
   have := qIJ i (n - i)
   rwa [show i + (n - i) = n by omega] at this
  rw [hx.1, hx.2, hbn] at h
  have hbl : b * lam n % m = own % m := by
   rw [hb]
   have e1 : own * qAI m (lam n % m) % m * lam n % m = own * (lam n % m * qAI m (lam n % m)) % m := by
    refine (qAd (qAW _ _) (qAW (lam n) m).symm).trans ?_; rw [Int.mul_assoc, Int.mul_comm (qAI m (lam n % m))]
   rw [e1]; refine (qAd (rfl : own % m = own % m) hu).trans ?_; rw [Int.mul_one]
  have hq : (b * bin n i - (b * (if i = n then 1 else 0) + b * (if i = 0 then 1 else 0))) % m = own * laz n i % m := by
   by_cases hm1 : 1 ≤ i ∧ i < n
   ·rw [if_neg Oo, if_neg Oo, qJX h2 hn10 hm1.1 hm1.2, ← Int.mul_assoc, Int.mul_zero, Int.add_zero, Int.sub_zero]; exact qAd hbl rfl
   ·have hz : laz n i = 0 := by unfold laz; rw [if_neg hm1]
    obtain h' | h' : i = 0 ∨ i = n := Oo
    ·rw [if_neg Oo, if_pos h', hz, h', qEF]; simp
    ·rw [if_pos h', if_neg Oo, hz, h', qF8]; simp
  have e2 := qEs h (rfl : (b * (if i = n then 1 else 0) + b * (if i = 0 then 1 else 0)) % m = _); rw [Int.add_sub_cancel, Int.add_sub_assoc] at e2; rw [e2]; exact qCU rfl hq
def tyS (p : Nat) (m : Int) (N : Nat) (t : Tb) : Nat → Tb × Li × Li
 | 0 => (t, [], qAk N)
 | k + 1 => if qAS p (k + 2) = true then ((tyS p m N t k).1, (tyS p m N t k).2.1 ++ [qAB p m (tyS p m N t k).1 (k + 2) (tyS p m N t k).2.1], (tyS p m N t k).2.2)
   else (qB7 m N (tyS p m N t k).1 (qAe m N (k + 2) (qAB p m (tyS p m N t k).1 (k + 2) (tyS p m N t k).2.1)), (tyS p m N t k).2.1, qAH m N (tyS p m N t k).2.2 (qAe m N (k + 2) (qAB p m (tyS p m N t k).1 (k + 2) (tyS p m N t k).2.1)))
structure TyI (p : Nat) (m : Int) (D k : Nat) (t : Tb) (ls cv : Li) : Prop where
 ok : PlaT m (D + 1) t
 lw : Lw m (D + 1) (atT t)
 len : ls.length = qA4 p (k + 1)
 rng : ∀ x ∈ ls, 0 ≤ x ∧ x < m
 clen : cv.length = D + 1
 crng : ∀ x ∈ cv, 0 ≤ x ∧ x < m
 agr : ∀ i j, i + j < k + 2 → atT t i j % m = qBV p D (at0 ls) i j % m
theorem TyI.agrF {D k : Nat} {ls cv : Li} (I : TyI p m D k t ls cv) (hp : P4 p) (hk : k + 2 ≤ D) (hD : D ≤ 10) (hm : 2 ≤ m) : agrF p m t (k + 2) ls := by
 unfold Go.Proofs.YtfpphfjlpgefaaaGreat.agrF
 have e := qDh (n := k + 2) (n' := D) (r := 10) (k := k + 2) hp Oo Oo Oo hD (v := at0 ls) (v' := at0 ls) (fun _ _ => rfl) Oo Oo (by have := qCG hp.pos.1 (10 + 1); omega)
 refine qH8 Oo fun d hd => qFN fun i hi => ?_
 have hr := qBT I.ok (show i + (d - i) < D + 1 by omega)
 rw [qEQ Oo, qBD, qAi Oo, e i (d - i) Oo, ← I.agr i (d - i) Oo, Int.emod_eq_of_lt hr.1 hr.2]
theorem qHm (hp : P4 p) (hm : 2 ≤ m) {D : Nat} (hD : D ≤ 10) (L : Lw m (D + 1) (atT t)) (h2 : 2 ≤ n) (hn : n ≤ D) {ls : Li} (h : agrF p m t n ls) : 0 ≤ qAB p m t n ls ∧ qAB p m t n ls < m ∧ ∀ i, i ≤ n → qBV p n (at0 ls) i (n - i) % m = (atT t i (n - i) + qAB p m t n ls * laz n i) % m := by
 have h0 := qGf hp hm hD L h2 hn h
 refine ⟨h0, ?_⟩
 unfold qAB at h0 ⊢
 rcases qEL m (laz n) (fun i => (atT (qA7 p m n ls) i (n - i) - atT (qA_ (n + 1) t) i (n - i)) % m) (n + 1) m.toNat with e | ⟨k, hk, e, hf⟩
 ·omega
 ·rw [e]; refine ⟨Oo, fun i hi => ?_⟩; have := qHH hf i Oo; simp only [qAW] at this; rw [qEQ Oo, qBD, qAi Oo] at this; have e1 := qCU (rfl : atT t i (n - i) % m = _) (this.trans (qAd rfl (qAW (laz n i) m))); rw [← e1]; have e2 := qCU (rfl : atT t i (n - i) % m = _) (qEs (qAW (qBV p n (at0 ls) i (n - i)) m) (rfl : atT t i (n - i) % m = _)); rw [e2]
  congr 1; omega
theorem qQK {ls : Li} {x : Int} : (∀ i, i < ls.length → at0 ls i = at0 (ls ++ [x]) i) ∧ at0 (ls ++ [x]) ls.length = at0 ls ls.length + x := by
 refine ⟨fun i hi => (qH_ hi).symm, ?_⟩
 rw [qJd, qCq (nl _), Int.zero_add]
theorem qG4 {D : Nat} {e : Nat} (hp : P4 p) (hm : 2 ≤ m) (hm' : m = ((p ^ e : Nat) : Int)) (hD1 : 1 ≤ D) (hD : D ≤ 10) (ht : PlaT m (D + 1) t) (L : Lw m (D + 1) (atT t)) :
  ∀ k, k + 1 ≤ D → TyI p m D k (tyS p m (D + 1) t k).1 (tyS p m (D + 1) t k).2.1 (tyS p m (D + 1) t k).2.2 := by
 intro k
 induction k with
 | zero =>
   intro _
   have h1 : qA4 p 1 = 0 := by rcases hp with rfl | rfl | rfl | rfl <;> decide
   refine ⟨ht, L, (by show ([] : Li).length = _; rw [h1]; rfl), fun x hx => (by cases hx), qD8 _, qHZ hm _, fun i j hij => ?_⟩
   show atT t i j % m = _
   have e1 := qAJ.1 (qFM L) i j hij; have e2 := qAJ.1 (qFM (qH6 hp hD1 hD (at0 []) m)) i j hij; exact e1.trans e2.symm
 | succ k ih =>
   intro hk; have I := ih Oo; have hA := I.agrF hp (show k + 2 ≤ D by omega) hD hm; obtain ⟨ho0, ho1, hoA⟩ := qHm hp hm hD I.lw (show 2 ≤ k + 2 by omega) (show k + 2 ≤ D by omega) hA; have hpm := qGB hp (show 2 ≤ k + 2 by omega) (show k + 2 ≤ 10 by omega); have eD := qDh (n := k + 2) (n' := D) (r := 10) (k := k + 3) hp Oo Oo Oo hD (v := at0 (tyS p m (D + 1) t k).2.1) (v' := at0 (tyS p m (D + 1) t k).2.1) (fun _ _ => rfl) Oo Oo (by have := qCG hp.pos.1 (10 + 1); omega); obtain ⟨y, hy⟩ : ∃ y, y = qAB p m (tyS p m (D + 1) t k).1 (k + 2) (tyS p m (D + 1) t k).2.1 := ⟨_, rfl⟩
   have hS : tyS p m (D + 1) t (k + 1) = if qAS p (k + 2) = true then ((tyS p m (D + 1) t k).1, (tyS p m (D + 1) t k).2.1 ++ [y], (tyS p m (D + 1) t k).2.2)
    else (qB7 m (D + 1) (tyS p m (D + 1) t k).1 (qAe m (D + 1) (k + 2) y), (tyS p m (D + 1) t k).2.1, qAH m (D + 1) (tyS p m (D + 1) t k).2.2 (qAe m (D + 1) (k + 2) y)) := by rw [hy]; rfl
   rw [← hy] at ho0 ho1 hoA; rw [hS]; obtain ⟨T, hT⟩ : ∃ T, T = (tyS p m (D + 1) t k).1 := ⟨_, rfl⟩; obtain ⟨ls, hls⟩ : ∃ ls, ls = (tyS p m (D + 1) t k).2.1 := ⟨_, rfl⟩; obtain ⟨cv, hcv⟩ : ∃ cv, cv = (tyS p m (D + 1) t k).2.2 := ⟨_, rfl⟩; rw [← hT, ← hls, ← hcv] at I ⊢; rw [← hls] at eD; rw [← hT, ← hls] at hoA; cases hpw : qAS p (k + 2)
   ·rw [if_neg (by simp)]; obtain ⟨hmo, hgc⟩ := hpm.2 hpw; have hu := qNz hp (show 2 ≤ k + 2 by omega) (show k + 2 ≤ 10 by omega) hm hm' hpw; have hlow := qN9 hm I.ok I.lw (show 2 ≤ k + 2 by omega) (show k + 2 < D + 1 by omega) Oo y hu; refine ⟨qAF Oo _ _ _, coo_lw hm Oo I.ok I.lw (qF6 _ _ _ _) (qHq m Oo Oo y) (qHO m Oo Oo y), ?_, I.rng, qDo _ _ _ _, qEy Oo, fun i j hij => ?_⟩
    ·show ls.length = qA4 p (k + 2)
     rw [hmo]; exact I.len
    ·show atT (qB7 m (D + 1) T (qAe m (D + 1) (k + 2) y)) i j % m = qBV p D (at0 ls) i j % m
     by_cases h : i + j < k + 2
     ·rw [hlow.1 i j h]; exact I.agr i j h
     ·obtain rfl : j = k + 2 - i := Oo; rw [hlow.2 i Oo, ← hoA i Oo, eD i (k + 2 - i) Oo]
   ·rw [if_pos rfl]; obtain ⟨hnp, hmo⟩ := hpm.1 hpw; rw [show k + 2 - 1 = k + 1 by omega] at hnp hmo; have hlen := I.len; have hsn := qQK (ls := ls) (x := y); refine ⟨I.ok, I.lw, ?_, fun x hx => ?_, I.clen, I.crng, fun i j hij => ?_⟩
    ·show (ls ++ [y]).length = qA4 p (k + 2)
     rw [hmo]; simp [I.len]
    ·rcases List.mem_append.1 hx with h | h
     ·exact I.rng x h
     ·rw [List.mem_singleton.1 h]; exact ⟨ho0, ho1⟩
    ·show atT T i j % m = qBV p D (at0 (ls ++ [y])) i j % m
     by_cases h : i + j < k + 2
     ·have e1 := qDh (n := D) (n' := D) (r := ls.length) (k := k + 2) hp Oo hD Oo hD hsn.1 Oo Oo (by rw [hlen, ← hnp]; exact Nat.le_refl _); rw [I.agr i j h, e1 i j h]
     ·obtain rfl : j = k + 2 - i := Oo; have e1 := qLX (p := p) (D := D) (r := ls.length) (v := at0 ls) (v' := at0 (ls ++ [y])) (c := y) hp hD hsn.1 hsn.2 (by rw [hlen, ← hnp]; omega) i (by rw [hlen, ← hnp]; omega); rw [hlen, ← hnp] at e1; rw [e1]; have e2 := hoA i Oo; rw [eD i (k + 2 - i) Oo] at e2; have e3 := qEs e2 (rfl : y * laz (k + 2) i % m = _); rw [Int.add_sub_cancel] at e3; exact e3.symm
end stp
end
section
open Rg

theorem qPv {p a b : Nat} (hp : P4 p) (hb : b ≤ 10) (h : a ≤ b) : qA4 p a ≤ qA4 p b := by
 unfold qA4
 split <;> split <;> (try split) <;> (try split) <;> (try split) <;> (try split) <;> omega
theorem qIy {p D n : Nat} {m : Int} {t : Tb} (hp : P4 p) (hm : 2 ≤ m) (hD : D ≤ 10) (L : Lw m (D + 1) (atT t)) (h2 : 2 ≤ n) (hn : n ≤ D) {ls : Li} (h : agrF p m t n ls) {c : Int} (hc0 : 0 ≤ c) (hc1 : c < m)
  (hc : ∀ i, i ≤ n → qBV p n (at0 ls) i (n - i) % m = (atT t i (n - i) + c * laz n i) % m) : qAB p m t n ls = c := by
 obtain ⟨o0, o1, oA⟩ := qHm hp hm hD L h2 hn h
 have e : ∀ i, i < n + 1 → qAB p m t n ls * laz n i % m = c * laz n i % m := fun i hi => by
  have h1 := (oA i Oo).symm.trans (hc i Oo); have h2 := qEs h1 (rfl : atT t i (n - i) % m = _); have s : ∀ a b : Int, a + b - a = b := fun a b => Oo
  rw [s, s] at h2; exact h2
 have := qKD h2 Oo e
 rwa [Int.emod_eq_of_lt o0 o1, Int.emod_eq_of_lt hc0 hc1] at this

section coo
variable {m : Int} {N : Nat} {t : Tb}
theorem qQ2 (hm : 2 ≤ m) (hN : 2 ≤ N) (ht : PlaT m N t) : qB7 m N t (qAk N) = t := by
 have h0 : at0 (qAk N) 0 = 0 := by rw [qEV Oo]; rfl
 have h1 : at0 (qAk N) 1 = 1 := by rw [qEV Oo]; rfl
 have C := qFB hm hN ht (qD8 N) h0 h1
 refine qHE (show PlaT m N (qB7 m N t (qAk N)) from qAF Oo _ _ _) ht ?_
 have e1 := C.ok
 rw [qGn (m := m) hN] at e1
 have e2 := C.fg
 rw [qGn (m := m) hN] at e2
 have g0 : at0 (qAc m N (qAk N)) 0 = 0 := qD2 m N (qAk N) _
 have x1 : eqv m N (onx (at0 (qAc m N (qAk N)))) xP := by
  refine qAJ.2 fun i j h => ?_
  rw [qD_]
  show (if j = 0 then at0 (qAc m N (qAk N)) i else 0) % m = _
  by_cases hj : j = 0
  ·rw [if_pos hj, qBP.1 e2 i Oo]
   show xS i % m = _
   unfold xS mon
   by_cases hi : i = 1
   ·rw [if_pos hi, if_pos ⟨hi, hj⟩]
   ·rw [if_neg hi, if_neg (fun h => hi h.1)]
  ·rw [if_neg hj, if_neg (fun h => hj h.2)]
 have x2 : eqv m N (ony (at0 (qAc m N (qAk N)))) yP := by
  refine qAJ.2 fun i j h => ?_
  rw [qDY]
  show (if i = 0 then at0 (qAc m N (qAk N)) j else 0) % m = _
  by_cases hi : i = 0
  ·rw [if_pos hi, qBP.1 e2 j Oo]
   show xS j % m = _
   unfold xS mon
   by_cases hj : j = 1
   ·rw [if_pos hj, if_pos ⟨hi, hj⟩]
   ·rw [if_neg hj, if_neg (fun h => hj h.2)]
  ·rw [if_neg hi, if_neg (fun h => hi h.1)]
 exact qA2 e1 (qA2 (qFP (qFd g0) (qFF g0) (nl _) (fun _ _ _ => rfl) x1 x2) (qDr (atT t)))
theorem stpG_z {n : Nat} (h2 : 2 ≤ n) (hm : 2 ≤ m) : qAe m N n 0 = qAk N := by
 unfold qAe
 rw [Int.zero_mul, Int.zero_emod]
 apply List.ext_getElem?
 intro i
 rw [List.getElem?_set]
 by_cases h : n = i
 ·subst h; rw [if_pos rfl, qD8]
  by_cases hl : n < N
  ·rw [if_pos hl]; unfold qAk; rw [List.getElem?_set, if_neg Oo, List.getElem?_replicate, if_pos hl]
  ·rw [if_neg hl]; exact (List.getElem?_eq_none (by rw [qD8]; omega)).symm
 ·rw [if_neg h]
end coo
section typ
variable {p D : Nat} {m : Int} {ls : Li}
theorem qIT {i j : Nat} (h : i + j < D + 1) : atT (qA7 p m D ls) i j % m = qBV p D (at0 ls) i j % m := by
 rw [qBD, qAi h, qAW]
theorem qEq {k i : Nat} (h : i < k) : at0 (ls.take k) i = at0 ls i := qHF h
theorem qKq (hp : P4 p) (hm : 2 ≤ m) (hD1 : 1 ≤ D) (hD : D ≤ 10) (hr : ∀ x ∈ ls, 0 ≤ x ∧ x < m) {k : Nat} (hk : k < ls.length) (hkD : p ^ (k + 1) ≤ D) :
  agrF p m (qA7 p m D ls) (p ^ (k + 1)) (ls.take k) ∧ qAB p m (qA7 p m D ls) (p ^ (k + 1)) (ls.take k) = at0 ls k := by
 have hp2 := hp.pos
 have hg := qCG hp2.1 (k + 1)
 have hlt : p ^ (k + 1) + 1 ≤ p ^ (k + 2) := Nat.pow_lt_pow_right Oo Oo
 have L := qEt hp hD1 hD hm ls
 have P := qDz (m := m) Oo p D ls
 obtain ⟨n, hn⟩ : ∃ n, n = p ^ (k + 1) := ⟨_, rfl⟩
 rw [← hn] at hg hlt hkD ⊢
 have hA : agrF p m (qA7 p m D ls) n (ls.take k) := by
  unfold Go.Proofs.YtfpphfjlpgefaaaGreat.agrF; have e := qDh (n := n) (n' := D) (r := k) (k := n) hp Oo Oo Oo hD (v := at0 (ls.take k)) (v' := at0 ls) (fun i hi => qEq hi) Oo Oo Oo; refine qH8 Oo fun d hd => qFN fun i hi => ?_
  rw [qEQ Oo, qBD, qBD, qAi Oo, qAi Oo, e i (d - i) Oo]
 refine ⟨hA, ?_⟩
 have hx := hr (at0 ls k) (by rw [qDT hk]; exact List.getElem_mem hk)
 refine qIy hp hm hD L Oo hkD hA hx.1 hx.2 fun i hi => ?_
 have hi1 : i + (n - i) < n + 1 := Oo
 have e1 := qDh (n := n) (n' := D) (r := 10) (k := n + 1) hp Oo Oo Oo hD (v := at0 (ls.take k)) (v' := at0 (ls.take k)) (fun _ _ => rfl) Oo Oo (by have := qCG hp2.1 (10 + 1); omega) i (n - i) hi1
 have e2 := qLX (p := p) (D := D) (r := k) (v := at0 (ls.take k)) (v' := at0 (ls.take (k + 1))) (c := at0 ls k) hp hD (fun i hi => by rw [qEq hi, qEq Oo]) (by rw [qEq Oo, qCq (xs := ls.take k) (by rw [List.length_take]; omega), Int.zero_add]) (by rw [← hn]; exact hkD) i (by rw [← hn]; exact hi)
 rw [← hn] at e2
 have e3 := qDh (n := D) (n' := D) (r := k + 1) (k := n + 1) hp Oo hD Oo hD (v := at0 ls) (v' := at0 (ls.take (k + 1))) (fun i hi => (qEq hi).symm) Oo Oo Oo i (n - i) hi1
 rw [e1]
 have e4 := qIT (p := p) (m := m) (ls := ls) (show i + (n - i) < D + 1 by omega)
 rw [e3, e2] at e4
 have e5 := qCU e4 (rfl : at0 ls k * laz n i % m = _)
 rw [e5]
 congr 1; omega
theorem qIZ (hp : P4 p) (hm : 2 ≤ m) (hD1 : 1 ≤ D) (hD : D ≤ 10) (hr : ∀ x ∈ ls, 0 ≤ x ∧ x < m) (hl : ls.length = qA4 p D) : ∀ k, k ≤ qA4 p D → qB5 p m (qA7 p m D ls) k = some (ls.take k)
 | 0, _ => by rw [List.take_zero]; rfl
 | k + 1, hk => by
   have hkD := (qBq hp hD (show k ≤ qA4 p D by omega)).2.2.1.2 Oo; obtain ⟨hA, ho⟩ := qKq hp hm hD1 hD hr (show k < ls.length by omega) hkD; unfold qB5; rw [qIZ hp hm hD1 hD hr hl k Oo]; simp only; rw [if_pos hA, ho, List.take_succ_eq_append_getElem Oo, qDT Oo]
theorem qNs (hp : P4 p) (hm : 2 ≤ m) (hD1 : 1 ≤ D) (hD : D ≤ 10) (hr : ∀ x ∈ ls, 0 ≤ x ∧ x < m) (hl : ls.length = qA4 p D) : qBr p m (qA7 p m D ls) D = some ls := by
 unfold qBr
 rw [qIZ hp hm hD1 hD hr hl _ (nl _), ← hl, List.take_length]
 simp
theorem qPV {e : Nat} (hp : P4 p) (hm : 2 ≤ m) (hm' : m = ((p ^ e : Nat) : Int)) (hD1 : 1 ≤ D) (hD : D ≤ 10) (hr : ∀ x ∈ ls, 0 ≤ x ∧ x < m) (hl : ls.length = qA4 p D) :
  ∀ k, k + 1 ≤ D → (tyS p m (D + 1) (qA7 p m D ls) k).1 = qA7 p m D ls ∧ (tyS p m (D + 1) (qA7 p m D ls) k).2.1 = ls.take (qA4 p (k + 1)) := by
 have L := qEt hp hD1 hD hm ls
 have P := qDz (m := m) Oo p D ls
 intro k
 induction k with
 | zero =>
   intro _
   have h1 : qA4 p 1 = 0 := by rcases hp with rfl | rfl | rfl | rfl <;> decide
   exact ⟨rfl, by show [] = _; rw [h1, List.take_zero]⟩
 | succ k ih =>
   intro hk; obtain ⟨i1, i2⟩ := ih Oo; have I := qG4 hp hm hm' hD1 hD P L k Oo; have hA := I.agrF hp (show k + 2 ≤ D by omega) hD hm; rw [i1, i2] at hA; have hpm := qGB hp (show 2 ≤ k + 2 by omega) (show k + 2 ≤ 10 by omega); obtain ⟨T, hT⟩ : ∃ T, T = tyS p m (D + 1) (qA7 p m D ls) k := ⟨_, rfl⟩
   have hS : tyS p m (D + 1) (qA7 p m D ls) (k + 1) = if qAS p (k + 2) = true then (T.1, T.2.1 ++ [qAB p m T.1 (k + 2) T.2.1], T.2.2)
    else (qB7 m (D + 1) T.1 (qAe m (D + 1) (k + 2) (qAB p m T.1 (k + 2) T.2.1)), T.2.1, qAH m (D + 1) T.2.2 (qAe m (D + 1) (k + 2) (qAB p m T.1 (k + 2) T.2.1))) := by rw [hT]; rfl
   rw [← hT] at i1 i2; rw [hS, i1, i2]; cases hpw : qAS p (k + 2)
   ·rw [if_neg (by simp)]; obtain ⟨hmo, -⟩ := hpm.2 hpw; rw [show k + 2 - 1 = k + 1 by omega] at hmo; have hmo' : qA4 p (k + 1 + 1) = qA4 p (k + 1) := hmo
    have hz : qAB p m (qA7 p m D ls) (k + 2) (ls.take (qA4 p (k + 1))) = 0 := by
     refine qIy hp hm hD L Oo Oo hA (Int.le_refl 0) Oo fun i hi => ?_
     rw [Int.zero_mul, Int.add_zero, qIT Oo]
     congr 1
     have hkey := (qBq (n := k + 2) hp Oo (nl _)).2.2.1
     have hb : k + 2 + 1 ≤ p ^ (qA4 p (k + 1) + 1) := by
      have h1 : ¬ p ^ (qA4 p (k + 2) + 1) ≤ k + 2 := fun h => by have := hkey.1 h; omega
      rw [hmo] at h1; omega
     exact qDh (n := k + 2) (n' := D) (r := qA4 p (k + 1)) (k := k + 3) hp Oo Oo Oo hD (v := at0 (ls.take (qA4 p (k + 1)))) (v' := at0 ls) (fun i hi => qEq hi) Oo Oo Oo i (k + 2 - i) Oo
    rw [hz, stpG_z Oo hm, qQ2 hm Oo P, hmo']; exact ⟨rfl, rfl⟩
   ·rw [if_pos rfl]; obtain ⟨hnp, hmo⟩ := hpm.1 hpw; rw [show k + 2 - 1 = k + 1 by omega] at hnp hmo; have hmo' : qA4 p (k + 1 + 1) = qA4 p (k + 1) + 1 := hmo
    have hle : qA4 p (k + 1) < qA4 p D := by
     have hk2 : qA4 p (k + 1) ≤ qA4 p D := qPv hp hD Oo; exact (qBq hp hD hk2).2.2.1.1 Oo
    obtain ⟨-, ho⟩ := qKq hp hm hD1 hD hr (show qA4 p (k + 1) < ls.length by omega) (by rw [← hnp]; omega); rw [← hnp] at ho; rw [ho, hmo', List.take_succ_eq_append_getElem Oo, qDT Oo]; exact ⟨rfl, rfl⟩
end typ
end
end Go.Proofs.YtfpphfjlpgefaaaGreat
