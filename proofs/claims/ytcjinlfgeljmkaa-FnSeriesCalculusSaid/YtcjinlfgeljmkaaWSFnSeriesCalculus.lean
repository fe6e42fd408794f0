/- The derivative of a product is the sum of both products with a derivative, the derivative of an integral is the series, values of sums are sums, and cutting and changing the modulus keep products. For every code. No condition. -/
import Derived.Test.YtcjinlfgeljmkaaWSLwS
import Derived.Test.YtcjinlfgeljmkaaWSSrcK
import Derived.Test.YtcjinlfgeljmkaaWSLwU
import Derived.Test.YtcjinlfgeljmkaaWSEndB
import Derived.Deep.RegionHeld3
import Derived.Deep.DeepCutAuto
set_option linter.unusedSimpArgs false
set_option linter.unusedVariables false
namespace Go.Proofs.Ytcjinlfgeljmkaa
open Go.RowKit
set_option maxHeartbeats 16000000 in
set_option maxRecDepth 100000 in
theorem FnSeriesCalculus_c (n : Nat) (v : Value) (w0 : World) (hv : RdB w0 w0.heap.size n v) :
    Calls Try.prog 4 #[v] w0 fun e w' => e = .returned (.bool true) ∧ Below w0.heap.size w0 w' := by
  obtain ⟨ov, cv, rfl, hmv, hcv⟩ := id hv
  clear hmv hcv
  have HB0 := Below.refl w0.heap.size w0
  have HV := Lib.hid hv
  clear hv
  go_enter Try.func4, Try.ntmps4
  go_wp2_with fail
  refine (big_c w0.heap.size n _ w0 HV.out).mono ?_
  rintro e w' ⟨rfl, rfl⟩
  by_cases hbig : 4096 < n
  · have hbb : decide (4096 < n) = true := by simpa using hbig
    go_wp2
    go_ret
    exact ⟨rfl, HB0⟩
  have hbb : decide (4096 < n) = false := by simpa using hbig
  clear hbig
  go_wp2_with fail
  clear hbb
  refine (DrawMultiplySeries_d w0.heap.size n _ w0 (HV.out.keep (fun j hj => HB0.block j hj)) HB0.size).mono ?_
  rintro e w1 ⟨ma, va, xa, mb, vb, xb, rfl, ra, rb, hla, hlb, hb⟩
  have HB1 := HB0.trans (hb.mono HB0.size)
  clear HB0 hb
  obtain ⟨oa, ca, rfl, -, -⟩ := id ra
  obtain ⟨ob, cb, rfl, -, -⟩ := id rb
  go_wp2_with fail
  have a_2 := (SB.mk1 w1 (ma) (.slice oa xa.length ca) (xa) ra 26).below (w' := (w1.alloc (.cells #[.int .i64 ma, .slice oa xa.length ca] 26)).alloc (.cells #[.int .i64 mb, .slice ob xb.length cb] 26)) (by (repeat (first | exact Below.refl _ _ | (refine Below.setCell ?_ (by first | (simp; done) | (simp; omega) | omega) _) | (refine Below.alloc ?_ (by first | (simp; done) | (simp; omega) | omega) _) | (refine below_drewN ?_ _) | (refine Below.drew ?_))))
  have hbk0 : w1.heap.size = w1.heap.size := by simp
  rw [hbk0] at a_2
  clear hbk0
  have b_2 := (SB.mk1 (w1.alloc (.cells #[.int .i64 ma, .slice oa xa.length ca] 26)) (mb) (.slice ob xb.length cb) (xb) (rb.below (w' := (w1.alloc (.cells #[.int .i64 ma, .slice oa xa.length ca] 26))) (by (repeat (first | exact Below.refl _ _ | (refine Below.setCell ?_ (by first | (simp; done) | (simp; omega) | omega) _) | (refine Below.alloc ?_ (by first | (simp; done) | (simp; omega) | omega) _) | (refine below_drewN ?_ _) | (refine Below.drew ?_)))) (Nat.le_refl _)) 26).below (w' := (w1.alloc (.cells #[.int .i64 ma, .slice oa xa.length ca] 26)).alloc (.cells #[.int .i64 mb, .slice ob xb.length cb] 26)) (by (repeat (first | exact Below.refl _ _ | (refine Below.setCell ?_ (by first | (simp; done) | (simp; omega) | omega) _) | (refine Below.alloc ?_ (by first | (simp; done) | (simp; omega) | omega) _) | (refine below_drewN ?_ _) | (refine Below.drew ?_))))
  have hbk1 : (w1.alloc (.cells #[.int .i64 ma, .slice oa xa.length ca] 26)).heap.size = w1.heap.size + 1 := by simp
  rw [hbk1] at b_2
  clear hbk1
  have hb : Below w1.heap.size w1 ((w1.alloc (.cells #[.int .i64 ma, .slice oa xa.length ca] 26)).alloc (.cells #[.int .i64 mb, .slice ob xb.length cb] 26)) := (by (repeat (first | exact Below.refl _ _ | (refine Below.setCell ?_ (by first | (simp; done) | (simp; omega) | omega) _) | (refine Below.alloc ?_ (by first | (simp; done) | (simp; omega) | omega) _) | (refine below_drewN ?_ _) | (refine Below.drew ?_))))
  have HB2 := HB1.trans (hb.mono HB1.size)
  clear hb HB1 
  generalize (w1.alloc (.cells #[.int .i64 ma, .slice oa xa.length ca] 26)).alloc (.cells #[.int .i64 mb, .slice ob xb.length cb] 26) = w2 at a_2 b_2 HB2 ⊢
  clear ra rb
  obtain ⟨⟨MR1, XR1, CR1⟩, hR1⟩ : ∃ r, mulR ma xa mb xb = r := ⟨_, rfl⟩
  have HR1 := Lib.hid hR1
  clear hR1
  have hC := MultiplySeries_c (ma) _ (xa) (mb) _ (xb) w2 a_2.2 b_2.2
  rw [HR1.out] at hC
  refine (send3 hC).mono ?_
  clear hC
  rintro e w3 ⟨vc, rfl, hc, hb, hlc⟩
  have a_3 := a_2.below hb
  have b_3 := b_2.below hb
  have HB3 := HB2.trans (hb.mono HB2.size)
  clear a_2 b_2 HB2 hb
  obtain ⟨oc, cc, rfl⟩ := hc.shape
  have rc := hc.rd
  clear hc
  clear hlc
  obtain ⟨⟨qa0, qa1⟩, -⟩ := id a_3
  have la := a_3.lt
  go_upto_region 5 with fail
  clear la qa0 qa1
  have c_4 := (SB.mk1 w3 (MR1) (.slice oc XR1.length cc) (XR1) rc 26).below (w' := w3.alloc (.cells #[.int .i64 MR1, .slice oc XR1.length cc] 26)) (by (repeat (first | exact Below.refl _ _ | (refine Below.setCell ?_ (by first | (simp; done) | (simp; omega) | omega) _) | (refine Below.alloc ?_ (by first | (simp; done) | (simp; omega) | omega) _) | (refine below_drewN ?_ _) | (refine Below.drew ?_))))
  have hbk0 : w3.heap.size = w3.heap.size := by simp
  rw [hbk0] at c_4
  clear hbk0
  have hb : Below w3.heap.size w3 (w3.alloc (.cells #[.int .i64 MR1, .slice oc XR1.length cc] 26)) := (by (repeat (first | exact Below.refl _ _ | (refine Below.setCell ?_ (by first | (simp; done) | (simp; omega) | omega) _) | (refine Below.alloc ?_ (by first | (simp; done) | (simp; omega) | omega) _) | (refine below_drewN ?_ _) | (refine Below.drew ?_))))
  have a_4 := a_3.below hb
  have b_4 := b_3.below hb
  have HB4 := HB3.trans (hb.mono HB3.size)
  clear hb HB3 a_3 b_3
  generalize w3.alloc (.cells #[.int .i64 MR1, .slice oc XR1.length cc] 26) = w4 at a_4 b_4 c_4 HB4 ⊢
  clear rc
  have hla1 : (xa.length : Int) ≤ 30 := by omega
  clear hla hlb
  go_cut [79] from 72 to 79 (fun s79 u => ∃ B : Bool, s79 = .bool B ∧ Hid (B = true → CR1 = 0 ∧ 2 < xa.length) ∧ u = w4)
  case first =>
    as_aux_lemma =>
    by_cases hc : CR1 = 0
    · by_cases hl : 2 < xa.length
      · have hq1 : (CR1 == 0) = true := by simpa using hc
        have hq2 : (2 : Int) < (xa.length : Int) := by omega
        obtain ⟨⟨qa0, qa1⟩, -⟩ := id a_4
        have HC := Lib.hid (show CR1 = 0 ∧ 2 < xa.length from ⟨hc, hl⟩)
        clear hc hl
        go_wp2_with fail
        go_meet
        case rel => exact ⟨true, rfl, Lib.hid (fun _ => HC.out), rfl⟩
      · have hq1 : (CR1 == 0) = true := by simpa using hc
        have hq2 : ¬ (2 : Int) < (xa.length : Int) := by omega
        obtain ⟨⟨qa0, qa1⟩, -⟩ := id a_4
        have HC := Lib.hid (show ¬ (CR1 = 0 ∧ 2 < xa.length) from fun h => hl h.2)
        clear hc hl
        go_wp2_with fail
        go_meet
        case rel => exact ⟨false, rfl, Lib.hid (fun h => by cases h), rfl⟩
    · have hq1 : (CR1 == 0) = false := by simpa using hc
      have HC := Lib.hid (show ¬ (CR1 = 0 ∧ 2 < xa.length) from fun h => hc h.1)
      clear hc
      go_wp2_with fail
      go_meet
      case rel => exact ⟨false, rfl, Lib.hid (fun h => by cases h), rfl⟩
  case rest =>
    obtain ⟨B, rfl, hB, hw⟩ := hcut
    rw [hw]
    clear hw
    trace "guard done"
    go_upto_if 79 with fail
    go_cut [7, 8, 9, 10, 11, 12, 13, 14, 15, 16, 17, 18, 19, 20, 21, 22, 23, 24, 25, 26, 27] from 80 to 190 (fun s7 s8 s9 s10 s11 s12 s13 s14 s15 s16 s17 s18 s19 s20 s21 s22 s23 s24 s25 s26 s27 u => Below w0.heap.size w0 u)
    case first =>
      as_aux_lemma =>
      cases B
      · clear hB
        go_wp2_with fail
        go_meet
        case rel => exact HB4
      have hc := hB.out rfl
      clear hB
      obtain ⟨hc, hc3⟩ := hc
      subst hc
      have h0 : twoS ma xa mb xb = 0 := mul_code (by rw [HR1.out])
      obtain ⟨e, ha, hb'⟩ := two_IsS h0
      have e := e.symm
      subst e
      obtain ⟨N, hN⟩ : ∃ N, xa.length = N + 1 := ⟨xa.length - 1, by omega⟩
      rw [hN] at ha hb'
      obtain ⟨T, D, X, Y, U, V, P, Q, W, eT, e1, e2, e3, e4, e5, e6, e7, e8, e9, e10⟩ := ser_calc ha hb' (by omega) (d := (xa.length : Int) - 2) (by omega)
      obtain ⟨f1, f2⟩ : ma = MR1 ∧ T = XR1 := by
        have e0 := HR1.out
        rw [(ha.times hb').1, eT] at e0
        exact ⟨(SR.mk.inj e0).1, (SR.mk.inj e0).2.1⟩
      subst f1 f2
      have E1 := Lib.hid e1
      have E2 := Lib.hid e2
      have E3 := Lib.hid e3
      have E4 := Lib.hid e4
      have E5 := Lib.hid e5
      have E6 := Lib.hid e6
      have E7 := Lib.hid e7
      have E8 := Lib.hid e8
      have E9 := Lib.hid e9
      have E10 := Lib.hid e10
      clear e1 e2 e3 e4 e5 e6 e7 e8 e9 e10 eT HR1 h0 ha hb' hN
      have e0 : IntKind.i64.wrap ((xa.length : Int) - 2) = (xa.length : Int) - 2 := IntWalk.i64_in _ (by omega)
      obtain ⟨⟨qa0, qa1⟩, -⟩ := id a_4
      have la := a_4.lt
      obtain ⟨⟨qc0, qc1⟩, -⟩ := id c_4
      have lc := c_4.lt
      go_wp2_with fail
      clear la qa0 qa1
      clear lc qc0 qc1
      have hC := DeriveSeries_c (ma) _ (T) w4 c_4.2
      rw [E1.out] at hC
      refine (send3 hC).mono ?_
      clear hC
      rintro e w5 ⟨vl, rfl, hl, hb, hll⟩
      have a_5 := a_4.below hb
      have b_5 := b_4.below hb
      have c_5 := c_4.below hb
      have HB5 := HB4.trans (hb.mono HB4.size)
      clear a_4 b_4 c_4 HB4 hb
      obtain ⟨ol, cl, rfl⟩ := hl.shape
      have rl := hl.rd
      clear hl
      clear hll
      obtain ⟨⟨qa0, qa1⟩, -⟩ := id a_5
      have la := a_5.lt
      go_wp2_with fail
      clear la qa0 qa1
      have l_6 := (SB.mk1 w5 (ma) (.slice ol D.length cl) (D) rl 26).below (w' := w5.alloc (.cells #[.int .i64 ma, .slice ol D.length cl] 26)) (by (repeat (first | exact Below.refl _ _ | (refine Below.setCell ?_ (by first | (simp; done) | (simp; omega) | omega) _) | (refine Below.alloc ?_ (by first | (simp; done) | (simp; omega) | omega) _) | (refine below_drewN ?_ _) | (refine Below.drew ?_))))
      have hbk0 : w5.heap.size = w5.heap.size := by simp
      rw [hbk0] at l_6
      clear hbk0
      have hb : Below w5.heap.size w5 (w5.alloc (.cells #[.int .i64 ma, .slice ol D.length cl] 26)) := (by (repeat (first | exact Below.refl _ _ | (refine Below.setCell ?_ (by first | (simp; done) | (simp; omega) | omega) _) | (refine Below.alloc ?_ (by first | (simp; done) | (simp; omega) | omega) _) | (refine below_drewN ?_ _) | (refine Below.drew ?_))))
      have a_6 := a_5.below hb
      have b_6 := b_5.below hb
      have c_6 := c_5.below hb
      have HB6 := HB5.trans (hb.mono HB5.size)
      clear hb HB5 a_5 b_5 c_5
      generalize w5.alloc (.cells #[.int .i64 ma, .slice ol D.length cl] 26) = w6 at a_6 b_6 c_6 l_6 HB6 ⊢
      clear rl
      have hC := DeriveSeries_c (ma) _ (xa) w6 a_6.2
      rw [E2.out] at hC
      refine (send3 hC).mono ?_
      clear hC
      rintro e w7 ⟨vx, rfl, hx, hb, hlx⟩
      have a_7 := a_6.below hb
      have b_7 := b_6.below hb
      have c_7 := c_6.below hb
      have l_7 := l_6.below hb
      have HB7 := HB6.trans (hb.mono HB6.size)
      clear a_6 b_6 c_6 l_6 HB6 hb
      obtain ⟨ox, cx, rfl⟩ := hx.shape
      have rx := hx.rd
      clear hx
      clear hlx
      obtain ⟨⟨qb0, qb1⟩, -⟩ := id b_7
      have lb := b_7.lt
      go_wp2_with fail
      clear lb qb0 qb1
      have x_8 := (SB.mk1 w7 (ma) (.slice ox X.length cx) (X) rx 26).below (w' := w7.alloc (.cells #[.int .i64 ma, .slice ox X.length cx] 26)) (by (repeat (first | exact Below.refl _ _ | (refine Below.setCell ?_ (by first | (simp; done) | (simp; omega) | omega) _) | (refine Below.alloc ?_ (by first | (simp; done) | (simp; omega) | omega) _) | (refine below_drewN ?_ _) | (refine Below.drew ?_))))
      have hbk0 : w7.heap.size = w7.heap.size := by simp
      rw [hbk0] at x_8
      clear hbk0
      have hb : Below w7.heap.size w7 (w7.alloc (.cells #[.int .i64 ma, .slice ox X.length cx] 26)) := (by (repeat (first | exact Below.refl _ _ | (refine Below.setCell ?_ (by first | (simp; done) | (simp; omega) | omega) _) | (refine Below.alloc ?_ (by first | (simp; done) | (simp; omega) | omega) _) | (refine below_drewN ?_ _) | (refine Below.drew ?_))))
      have a_8 := a_7.below hb
      have b_8 := b_7.below hb
      have c_8 := c_7.below hb
      have l_8 := l_7.below hb
      have HB8 := HB7.trans (hb.mono HB7.size)
      clear hb HB7 a_7 b_7 c_7 l_7
      generalize w7.alloc (.cells #[.int .i64 ma, .slice ox X.length cx] 26) = w8 at a_8 b_8 c_8 l_8 x_8 HB8 ⊢
      clear rx
      have hC := DeriveSeries_c (ma) _ (xb) w8 b_8.2
      rw [E3.out] at hC
      refine (send3 hC).mono ?_
      clear hC
      rintro e w9 ⟨vy, rfl, hy, hb, hly⟩
      have a_9 := a_8.below hb
      have b_9 := b_8.below hb
      have c_9 := c_8.below hb
      have l_9 := l_8.below hb
      have x_9 := x_8.below hb
      have HB9 := HB8.trans (hb.mono HB8.size)
      clear a_8 b_8 c_8 l_8 x_8 HB8 hb
      obtain ⟨oy, cy, rfl⟩ := hy.shape
      have ry := hy.rd
      clear hy
      clear hly
      obtain ⟨⟨qa0, qa1⟩, -⟩ := id a_9
      have la := a_9.lt
      go_wp2_with fail
      clear la qa0 qa1
      have y_10 := (SB.mk1 w9 (ma) (.slice oy Y.length cy) (Y) ry 26).below (w' := w9.alloc (.cells #[.int .i64 ma, .slice oy Y.length cy] 26)) (by (repeat (first | exact Below.refl _ _ | (refine Below.setCell ?_ (by first | (simp; done) | (simp; omega) | omega) _) | (refine Below.alloc ?_ (by first | (simp; done) | (simp; omega) | omega) _) | (refine below_drewN ?_ _) | (refine Below.drew ?_))))
      have hbk0 : w9.heap.size = w9.heap.size := by simp
      rw [hbk0] at y_10
      clear hbk0
      have hb : Below w9.heap.size w9 (w9.alloc (.cells #[.int .i64 ma, .slice oy Y.length cy] 26)) := (by (repeat (first | exact Below.refl _ _ | (refine Below.setCell ?_ (by first | (simp; done) | (simp; omega) | omega) _) | (refine Below.alloc ?_ (by first | (simp; done) | (simp; omega) | omega) _) | (refine below_drewN ?_ _) | (refine Below.drew ?_))))
      have a_10 := a_9.below hb
      have b_10 := b_9.below hb
      have c_10 := c_9.below hb
      have l_10 := l_9.below hb
      have x_10 := x_9.below hb
      have HB10 := HB9.trans (hb.mono HB9.size)
      clear hb HB9 a_9 b_9 c_9 l_9 x_9
      generalize w9.alloc (.cells #[.int .i64 ma, .slice oy Y.length cy] 26) = w10 at a_10 b_10 c_10 l_10 x_10 y_10 HB10 ⊢
      clear ry
      have hC := CutSeries_c (ma) ((xa.length : Int) - 2) _ (xa) w10 a_10.2
      rw [E4.out] at hC
      refine (send3 hC).mono ?_
      clear hC
      rintro e w11 ⟨vu, rfl, hu, hb, hlu⟩
      have a_11 := a_10.below hb
      have b_11 := b_10.below hb
      have c_11 := c_10.below hb
      have l_11 := l_10.below hb
      have x_11 := x_10.below hb
      have y_11 := y_10.below hb
      have HB11 := HB10.trans (hb.mono HB10.size)
      clear a_10 b_10 c_10 l_10 x_10 y_10 HB10 hb
      obtain ⟨ou, cu, rfl⟩ := hu.shape
      have ru := hu.rd
      clear hu
      clear hlu
      obtain ⟨⟨qb0, qb1⟩, -⟩ := id b_11
      have lb := b_11.lt
      go_wp2_with fail
      clear lb qb0 qb1
      have u_12 := (SB.mk1 w11 (ma) (.slice ou U.length cu) (U) ru 26).below (w' := w11.alloc (.cells #[.int .i64 ma, .slice ou U.length cu] 26)) (by (repeat (first | exact Below.refl _ _ | (refine Below.setCell ?_ (by first | (simp; done) | (simp; omega) | omega) _) | (refine Below.alloc ?_ (by first | (simp; done) | (simp; omega) | omega) _) | (refine below_drewN ?_ _) | (refine Below.drew ?_))))
      have hbk0 : w11.heap.size = w11.heap.size := by simp
      rw [hbk0] at u_12
      clear hbk0
      have hb : Below w11.heap.size w11 (w11.alloc (.cells #[.int .i64 ma, .slice ou U.length cu] 26)) := (by (repeat (first | exact Below.refl _ _ | (refine Below.setCell ?_ (by first | (simp; done) | (simp; omega) | omega) _) | (refine Below.alloc ?_ (by first | (simp; done) | (simp; omega) | omega) _) | (refine below_drewN ?_ _) | (refine Below.drew ?_))))
      have a_12 := a_11.below hb
      have b_12 := b_11.below hb
      have c_12 := c_11.below hb
      have l_12 := l_11.below hb
      have x_12 := x_11.below hb
      have y_12 := y_11.below hb
      have HB12 := HB11.trans (hb.mono HB11.size)
      clear hb HB11 a_11 b_11 c_11 l_11 x_11 y_11
      generalize w11.alloc (.cells #[.int .i64 ma, .slice ou U.length cu] 26) = w12 at a_12 b_12 c_12 l_12 x_12 y_12 u_12 HB12 ⊢
      clear ru
      have hC := CutSeries_c (ma) ((xa.length : Int) - 2) _ (xb) w12 b_12.2
      rw [E5.out] at hC
      refine (send3 hC).mono ?_
      clear hC
      rintro e w13 ⟨vv, rfl, hv, hb, hlv⟩
      have a_13 := a_12.below hb
      have b_13 := b_12.below hb
      have c_13 := c_12.below hb
      have l_13 := l_12.below hb
      have x_13 := x_12.below hb
      have y_13 := y_12.below hb
      have u_13 := u_12.below hb
      have HB13 := HB12.trans (hb.mono HB12.size)
      clear a_12 b_12 c_12 l_12 x_12 y_12 u_12 HB12 hb
      obtain ⟨ov, cv, rfl⟩ := hv.shape
      have rv := hv.rd
      clear hv
      clear hlv
      obtain ⟨⟨qx0, qx1⟩, -⟩ := id x_13
      have lx := x_13.lt
      go_wp2_with fail
      clear lx qx0 qx1
      have v_14 := (SB.mk1 w13 (ma) (.slice ov V.length cv) (V) rv 26).below (w' := w13.alloc (.cells #[.int .i64 ma, .slice ov V.length cv] 26)) (by (repeat (first | exact Below.refl _ _ | (refine Below.setCell ?_ (by first | (simp; done) | (simp; omega) | omega) _) | (refine Below.alloc ?_ (by first | (simp; done) | (simp; omega) | omega) _) | (refine below_drewN ?_ _) | (refine Below.drew ?_))))
      have hbk0 : w13.heap.size = w13.heap.size := by simp
      rw [hbk0] at v_14
      clear hbk0
      have hb : Below w13.heap.size w13 (w13.alloc (.cells #[.int .i64 ma, .slice ov V.length cv] 26)) := (by (repeat (first | exact Below.refl _ _ | (refine Below.setCell ?_ (by first | (simp; done) | (simp; omega) | omega) _) | (refine Below.alloc ?_ (by first | (simp; done) | (simp; omega) | omega) _) | (refine below_drewN ?_ _) | (refine Below.drew ?_))))
      have a_14 := a_13.below hb
      have b_14 := b_13.below hb
      have c_14 := c_13.below hb
      have l_14 := l_13.below hb
      have x_14 := x_13.below hb
      have y_14 := y_13.below hb
      have u_14 := u_13.below hb
      have HB14 := HB13.trans (hb.mono HB13.size)
      clear hb HB13 a_13 b_13 c_13 l_13 x_13 y_13 u_13
      generalize w13.alloc (.cells #[.int .i64 ma, .slice ov V.length cv] 26) = w14 at a_14 b_14 c_14 l_14 x_14 y_14 u_14 v_14 HB14 ⊢
      clear rv
      clear a_14
      clear b_14
      have hC := MultiplySeries_c (ma) _ (X) (ma) _ (V) w14 x_14.2 v_14.2
      rw [E6.out] at hC
      refine (send3 hC).mono ?_
      clear hC
      rintro e w15 ⟨vp, rfl, hp, hb, hlp⟩
      have c_15 := c_14.below hb
      have l_15 := l_14.below hb
      have x_15 := x_14.below hb
      have y_15 := y_14.below hb
      have u_15 := u_14.below hb
      have v_15 := v_14.below hb
      have HB15 := HB14.trans (hb.mono HB14.size)
      clear c_14 l_14 x_14 y_14 u_14 v_14 HB14 hb
      obtain ⟨op, cp, rfl⟩ := hp.shape
      have rp := hp.rd
      clear hp
      clear hlp
      obtain ⟨⟨qu0, qu1⟩, -⟩ := id u_15
      have lu := u_15.lt
      obtain ⟨⟨qy0, qy1⟩, -⟩ := id y_15
      have ly := y_15.lt
      go_wp2_with fail
      clear lu qu0 qu1
      clear ly qy0 qy1
      have p_16 := (SB.mk1 w15 (ma) (.slice op P.length cp) (P) rp 26).below (w' := w15.alloc (.cells #[.int .i64 ma, .slice op P.length cp] 26)) (by (repeat (first | exact Below.refl _ _ | (refine Below.setCell ?_ (by first | (simp; done) | (simp; omega) | omega) _) | (refine Below.alloc ?_ (by first | (simp; done) | (simp; omega) | omega) _) | (refine below_drewN ?_ _) | (refine Below.drew ?_))))
      have hbk0 : w15.heap.size = w15.heap.size := by simp
      rw [hbk0] at p_16
      clear hbk0
      have hb : Below w15.heap.size w15 (w15.alloc (.cells #[.int .i64 ma, .slice op P.length cp] 26)) := (by (repeat (first | exact Below.refl _ _ | (refine Below.setCell ?_ (by first | (simp; done) | (simp; omega) | omega) _) | (refine Below.alloc ?_ (by first | (simp; done) | (simp; omega) | omega) _) | (refine below_drewN ?_ _) | (refine Below.drew ?_))))
      have c_16 := c_15.below hb
      have l_16 := l_15.below hb
      have x_16 := x_15.below hb
      have y_16 := y_15.below hb
      have u_16 := u_15.below hb
      have v_16 := v_15.below hb
      have HB16 := HB15.trans (hb.mono HB15.size)
      clear hb HB15 c_15 l_15 x_15 y_15 u_15 v_15
      generalize w15.alloc (.cells #[.int .i64 ma, .slice op P.length cp] 26) = w16 at c_16 l_16 x_16 y_16 u_16 v_16 p_16 HB16 ⊢
      clear rp
      have hC := MultiplySeries_c (ma) _ (U) (ma) _ (Y) w16 u_16.2 y_16.2
      rw [E7.out] at hC
      refine (send3 hC).mono ?_
      clear hC
      rintro e w17 ⟨vq, rfl, hq, hb, hlq⟩
      have c_17 := c_16.below hb
      have l_17 := l_16.below hb
      have x_17 := x_16.below hb
      have y_17 := y_16.below hb
      have u_17 := u_16.below hb
      have v_17 := v_16.below hb
      have p_17 := p_16.below hb
      have HB17 := HB16.trans (hb.mono HB16.size)
      clear c_16 l_16 x_16 y_16 u_16 v_16 p_16 HB16 hb
      obtain ⟨oq, cq, rfl⟩ := hq.shape
      have rq := hq.rd
      clear hq
      clear hlq
      obtain ⟨⟨qp0, qp1⟩, -⟩ := id p_17
      have lp := p_17.lt
      go_wp2_with fail
      clear lp qp0 qp1
      have q_18 := (SB.mk1 w17 (ma) (.slice oq Q.length cq) (Q) rq 26).below (w' := w17.alloc (.cells #[.int .i64 ma, .slice oq Q.length cq] 26)) (by (repeat (first | exact Below.refl _ _ | (refine Below.setCell ?_ (by first | (simp; done) | (simp; omega) | omega) _) | (refine Below.alloc ?_ (by first | (simp; done) | (simp; omega) | omega) _) | (refine below_drewN ?_ _) | (refine Below.drew ?_))))
      have hbk0 : w17.heap.size = w17.heap.size := by simp
      rw [hbk0] at q_18
      clear hbk0
      have hb : Below w17.heap.size w17 (w17.alloc (.cells #[.int .i64 ma, .slice oq Q.length cq] 26)) := (by (repeat (first | exact Below.refl _ _ | (refine Below.setCell ?_ (by first | (simp; done) | (simp; omega) | omega) _) | (refine Below.alloc ?_ (by first | (simp; done) | (simp; omega) | omega) _) | (refine below_drewN ?_ _) | (refine Below.drew ?_))))
      have c_18 := c_17.below hb
      have l_18 := l_17.below hb
      have x_18 := x_17.below hb
      have y_18 := y_17.below hb
      have u_18 := u_17.below hb
      have v_18 := v_17.below hb
      have p_18 := p_17.below hb
      have HB18 := HB17.trans (hb.mono HB17.size)
      clear hb HB17 c_17 l_17 x_17 y_17 u_17 v_17 p_17
      generalize w17.alloc (.cells #[.int .i64 ma, .slice oq Q.length cq] 26) = w18 at c_18 l_18 x_18 y_18 u_18 v_18 p_18 q_18 HB18 ⊢
      clear rq
      clear x_18
      clear y_18
      have hC := AddSeries_c (ma) _ (P) (ma) _ (Q) w18 p_18.2 q_18.2
      rw [E8.out] at hC
      refine (send3 hC).mono ?_
      clear hC
      rintro e w19 ⟨vr, rfl, hr, hb, hlr⟩
      have c_19 := c_18.below hb
      have l_19 := l_18.below hb
      have u_19 := u_18.below hb
      have v_19 := v_18.below hb
      have p_19 := p_18.below hb
      have q_19 := q_18.below hb
      have HB19 := HB18.trans (hb.mono HB18.size)
      clear c_18 l_18 u_18 v_18 p_18 q_18 HB18 hb
      obtain ⟨or, cr, rfl⟩ := hr.shape
      have rr := hr.rd
      clear hr
      clear hlr
      obtain ⟨⟨qc0, qc1⟩, -⟩ := id c_19
      have lc := c_19.lt
      go_wp2_with fail
      clear lc qc0 qc1
      have r_20 := (SB.mk1 w19 (ma) (.slice or D.length cr) (D) rr 26).below (w' := w19.alloc (.cells #[.int .i64 ma, .slice or D.length cr] 26)) (by (repeat (first | exact Below.refl _ _ | (refine Below.setCell ?_ (by first | (simp; done) | (simp; omega) | omega) _) | (refine Below.alloc ?_ (by first | (simp; done) | (simp; omega) | omega) _) | (refine below_drewN ?_ _) | (refine Below.drew ?_))))
      have hbk0 : w19.heap.size = w19.heap.size := by simp
      rw [hbk0] at r_20
      clear hbk0
      have hb : Below w19.heap.size w19 (w19.alloc (.cells #[.int .i64 ma, .slice or D.length cr] 26)) := (by (repeat (first | exact Below.refl _ _ | (refine Below.setCell ?_ (by first | (simp; done) | (simp; omega) | omega) _) | (refine Below.alloc ?_ (by first | (simp; done) | (simp; omega) | omega) _) | (refine below_drewN ?_ _) | (refine Below.drew ?_))))
      have c_20 := c_19.below hb
      have l_20 := l_19.below hb
      have u_20 := u_19.below hb
      have v_20 := v_19.below hb
      have p_20 := p_19.below hb
      have q_20 := q_19.below hb
      have HB20 := HB19.trans (hb.mono HB19.size)
      clear hb HB19 c_19 l_19 u_19 v_19 p_19 q_19
      generalize w19.alloc (.cells #[.int .i64 ma, .slice or D.length cr] 26) = w20 at c_20 l_20 u_20 v_20 p_20 q_20 r_20 HB20 ⊢
      clear rr
      clear p_20
      clear q_20
      have hC := CutSeries_c (ma) ((xa.length : Int) - 2) _ (T) w20 c_20.2
      rw [E9.out] at hC
      refine (send3 hC).mono ?_
      clear hC
      rintro e w21 ⟨vs, rfl, hs, hb, hls⟩
      have c_21 := c_20.below hb
      have l_21 := l_20.below hb
      have u_21 := u_20.below hb
      have v_21 := v_20.below hb
      have r_21 := r_20.below hb
      have HB21 := HB20.trans (hb.mono HB20.size)
      clear c_20 l_20 u_20 v_20 r_20 HB20 hb
      obtain ⟨os, cs, rfl⟩ := hs.shape
      have rs := hs.rd
      clear hs
      clear hls
      obtain ⟨⟨qu0, qu1⟩, -⟩ := id u_21
      have lu := u_21.lt
      obtain ⟨⟨qv0, qv1⟩, -⟩ := id v_21
      have lv := v_21.lt
      go_wp2_with fail
      clear lu qu0 qu1
      clear lv qv0 qv1
      have s_22 := (SB.mk1 w21 (ma) (.slice os W.length cs) (W) rs 26).below (w' := w21.alloc (.cells #[.int .i64 ma, .slice os W.length cs] 26)) (by (repeat (first | exact Below.refl _ _ | (refine Below.setCell ?_ (by first | (simp; done) | (simp; omega) | omega) _) | (refine Below.alloc ?_ (by first | (simp; done) | (simp; omega) | omega) _) | (refine below_drewN ?_ _) | (refine Below.drew ?_))))
      have hbk0 : w21.heap.size = w21.heap.size := by simp
      rw [hbk0] at s_22
      clear hbk0
      have hb : Below w21.heap.size w21 (w21.alloc (.cells #[.int .i64 ma, .slice os W.length cs] 26)) := (by (repeat (first | exact Below.refl _ _ | (refine Below.setCell ?_ (by first | (simp; done) | (simp; omega) | omega) _) | (refine Below.alloc ?_ (by first | (simp; done) | (simp; omega) | omega) _) | (refine below_drewN ?_ _) | (refine Below.drew ?_))))
      have c_22 := c_21.below hb
      have l_22 := l_21.below hb
      have u_22 := u_21.below hb
      have v_22 := v_21.below hb
      have r_22 := r_21.below hb
      have HB22 := HB21.trans (hb.mono HB21.size)
      clear hb HB21 c_21 l_21 u_21 v_21 r_21
      generalize w21.alloc (.cells #[.int .i64 ma, .slice os W.length cs] 26) = w22 at c_22 l_22 u_22 v_22 r_22 s_22 HB22 ⊢
      clear rs
      clear c_22
      have hC := MultiplySeries_c (ma) _ (U) (ma) _ (V) w22 u_22.2 v_22.2
      rw [E10.out] at hC
      refine (send3 hC).mono ?_
      clear hC
      rintro e w23 ⟨vt, rfl, ht, hb, hlt⟩
      have l_23 := l_22.below hb
      have u_23 := u_22.below hb
      have v_23 := v_22.below hb
      have r_23 := r_22.below hb
      have s_23 := s_22.below hb
      have HB23 := HB22.trans (hb.mono HB22.size)
      clear l_22 u_22 v_22 r_22 s_22 HB22 hb
      obtain ⟨ot, ct, rfl⟩ := ht.shape
      have rt := ht.rd
      clear ht
      clear hlt
      obtain ⟨⟨ql0, ql1⟩, -⟩ := id l_23
      have ll := l_23.lt
      obtain ⟨⟨qr0, qr1⟩, -⟩ := id r_23
      have lr := r_23.lt
      go_wp2_with fail
      clear ll ql0 ql1
      clear lr qr0 qr1
      have t_24 := (SB.mk1 w23 (ma) (.slice ot W.length ct) (W) rt 26).below (w' := w23.alloc (.cells #[.int .i64 ma, .slice ot W.length ct] 26)) (by (repeat (first | exact Below.refl _ _ | (refine Below.setCell ?_ (by first | (simp; done) | (simp; omega) | omega) _) | (refine Below.alloc ?_ (by first | (simp; done) | (simp; omega) | omega) _) | (refine below_drewN ?_ _) | (refine Below.drew ?_))))
      have hbk0 : w23.heap.size = w23.heap.size := by simp
      rw [hbk0] at t_24
      clear hbk0
      have hb : Below w23.heap.size w23 (w23.alloc (.cells #[.int .i64 ma, .slice ot W.length ct] 26)) := (by (repeat (first | exact Below.refl _ _ | (refine Below.setCell ?_ (by first | (simp; done) | (simp; omega) | omega) _) | (refine Below.alloc ?_ (by first | (simp; done) | (simp; omega) | omega) _) | (refine below_drewN ?_ _) | (refine Below.drew ?_))))
      have l_24 := l_23.below hb
      have u_24 := u_23.below hb
      have v_24 := v_23.below hb
      have r_24 := r_23.below hb
      have s_24 := s_23.below hb
      have HB24 := HB23.trans (hb.mono HB23.size)
      clear hb HB23 l_23 u_23 v_23 r_23 s_23
      generalize w23.alloc (.cells #[.int .i64 ma, .slice ot W.length ct] 26) = w24 at l_24 u_24 v_24 r_24 s_24 t_24 HB24 ⊢
      clear rt
      clear u_24
      clear v_24
      refine (series5_same (ma) _ _ (D) _ l_24.2 r_24.2).mono ?_
      rintro e w25 ⟨rfl, hb⟩
      have l_25 := l_24.below hb
      have r_25 := r_24.below hb
      have s_25 := s_24.below hb
      have t_25 := t_24.below hb
      have HB25 := HB24.trans (hb.mono HB24.size)
      clear l_24 r_24 s_24 t_24 HB24 hb
      clear l_25
      clear r_25
      obtain ⟨⟨qs0, qs1⟩, -⟩ := id s_25
      have ls := s_25.lt
      obtain ⟨⟨qt0, qt1⟩, -⟩ := id t_25
      have lt := t_25.lt
      go_wp2_with fail
      clear ls qs0 qs1
      clear lt qt0 qt1
      refine (series5_same (ma) _ _ (W) _ s_25.2 t_25.2).mono ?_
      rintro e w26 ⟨rfl, hb⟩
      have s_26 := s_25.below hb
      have t_26 := t_25.below hb
      have HB26 := HB25.trans (hb.mono HB25.size)
      clear s_25 t_25 HB25 hb
      go_wp2_with fail
      go_meet
      case rel => exact HB26
    case rest =>
      as_aux_lemma =>
      obtain ⟨w27, rfl⟩ : ∃ u, u = wc := ⟨_, rfl⟩
      clear a_4 b_4 c_4 HB4
      have HB27 := hcut
      clear hcut
      trace "part 1"
      try clear hla1
      go_wp2_with fail
      refine (DrawIntegrateSeries_d w0.heap.size n _ w27 (HV.out.keep (fun j hj => HB27.block j hj)) HB27.size).mono ?_
      rintro e w28 ⟨me, ve, xe, rfl, re, hle, hb⟩
      have HB28 := HB27.trans (hb.mono HB27.size)
      clear HB27 hb
      obtain ⟨oe, ce, rfl, -, -⟩ := id re
      clear hle
      go_wp2_with fail
      have e_29 := (SB.mk1 w28 (me) (.slice oe xe.length ce) (xe) re 26).below (w' := w28.alloc (.cells #[.int .i64 me, .slice oe xe.length ce] 26)) (by (repeat (first | exact Below.refl _ _ | (refine Below.setCell ?_ (by first | (simp; done) | (simp; omega) | omega) _) | (refine Below.alloc ?_ (by first | (simp; done) | (simp; omega) | omega) _) | (refine below_drewN ?_ _) | (refine Below.drew ?_))))
      have hbk0 : w28.heap.size = w28.heap.size := by simp
      rw [hbk0] at e_29
      clear hbk0
      have hb : Below w28.heap.size w28 (w28.alloc (.cells #[.int .i64 me, .slice oe xe.length ce] 26)) := (by (repeat (first | exact Below.refl _ _ | (refine Below.setCell ?_ (by first | (simp; done) | (simp; omega) | omega) _) | (refine Below.alloc ?_ (by first | (simp; done) | (simp; omega) | omega) _) | (refine below_drewN ?_ _) | (refine Below.drew ?_))))
      have HB29 := HB28.trans (hb.mono HB28.size)
      clear hb HB28 
      generalize w28.alloc (.cells #[.int .i64 me, .slice oe xe.length ce] 26) = w29 at e_29 HB29 ⊢
      clear re
      obtain ⟨⟨MR2, XR2, CR2⟩, hR2⟩ : ∃ r, intSR me xe = r := ⟨_, rfl⟩
      have HR2 := Lib.hid hR2
      clear hR2
      have hC := IntegrateSeries_c (me) _ (xe) w29 e_29.2
      rw [HR2.out] at hC
      refine (send3 hC).mono ?_
      clear hC
      rintro e w30 ⟨vi, rfl, hi, hb, hli⟩
      have e_30 := e_29.below hb
      have HB30 := HB29.trans (hb.mono HB29.size)
      clear e_29 HB29 hb
      obtain ⟨oi, ci, rfl⟩ := hi.shape
      have ri := hi.rd
      clear hi
      clear hli
      obtain ⟨⟨qe0, qe1⟩, -⟩ := id e_30
      have le := e_30.lt
      go_wp2_with fail
      clear le qe0 qe1
      have i_31 := (SB.mk1 w30 (MR2) (.slice oi XR2.length ci) (XR2) ri 26).below (w' := w30.alloc (.cells #[.int .i64 MR2, .slice oi XR2.length ci] 26)) (by (repeat (first | exact Below.refl _ _ | (refine Below.setCell ?_ (by first | (simp; done) | (simp; omega) | omega) _) | (refine Below.alloc ?_ (by first | (simp; done) | (simp; omega) | omega) _) | (refine below_drewN ?_ _) | (refine Below.drew ?_))))
      have hbk0 : w30.heap.size = w30.heap.size := by simp
      rw [hbk0] at i_31
      clear hbk0
      have hb : Below w30.heap.size w30 (w30.alloc (.cells #[.int .i64 MR2, .slice oi XR2.length ci] 26)) := (by (repeat (first | exact Below.refl _ _ | (refine Below.setCell ?_ (by first | (simp; done) | (simp; omega) | omega) _) | (refine Below.alloc ?_ (by first | (simp; done) | (simp; omega) | omega) _) | (refine below_drewN ?_ _) | (refine Below.drew ?_))))
      have e_31 := e_30.below hb
      have HB31 := HB30.trans (hb.mono HB30.size)
      clear hb HB30 e_30
      generalize w30.alloc (.cells #[.int .i64 MR2, .slice oi XR2.length ci] 26) = w31 at e_31 i_31 HB31 ⊢
      clear ri
      have hC := sIntegrateSeries_c (me) _ (xe) w31 e_31.2
      rw [HR2.out] at hC
      refine (send3 hC).mono ?_
      clear hC
      rintro e w32 ⟨vt, rfl, ht, hb, hlt⟩
      have e_32 := e_31.below hb
      have i_32 := i_31.below hb
      have HB32 := HB31.trans (hb.mono HB31.size)
      clear e_31 i_31 HB31 hb
      obtain ⟨ot, ct, rfl⟩ := ht.shape
      have rt := ht.rd
      clear ht
      clear hlt
      have hqR2 : (CR2 != CR2) = false := by simp
      obtain ⟨⟨qi0, qi1⟩, -⟩ := id i_32
      have li := i_32.lt
      go_wp2_with fail
      clear li qi0 qi1
      have t_33 := (SB.mk1 w32 (MR2) (.slice ot XR2.length ct) (XR2) rt 26).below (w' := w32.alloc (.cells #[.int .i64 MR2, .slice ot XR2.length ct] 26)) (by (repeat (first | exact Below.refl _ _ | (refine Below.setCell ?_ (by first | (simp; done) | (simp; omega) | omega) _) | (refine Below.alloc ?_ (by first | (simp; done) | (simp; omega) | omega) _) | (refine below_drewN ?_ _) | (refine Below.drew ?_))))
      have hbk0 : w32.heap.size = w32.heap.size := by simp
      rw [hbk0] at t_33
      clear hbk0
      have hb : Below w32.heap.size w32 (w32.alloc (.cells #[.int .i64 MR2, .slice ot XR2.length ct] 26)) := (by (repeat (first | exact Below.refl _ _ | (refine Below.setCell ?_ (by first | (simp; done) | (simp; omega) | omega) _) | (refine Below.alloc ?_ (by first | (simp; done) | (simp; omega) | omega) _) | (refine below_drewN ?_ _) | (refine Below.drew ?_))))
      have e_33 := e_32.below hb
      have i_33 := i_32.below hb
      have HB33 := HB32.trans (hb.mono HB32.size)
      clear hb HB32 e_32 i_32
      generalize w32.alloc (.cells #[.int .i64 MR2, .slice ot XR2.length ct] 26) = w33 at e_33 i_33 t_33 HB33 ⊢
      clear rt
      refine (series5_same (MR2) _ _ (XR2) _ i_33.2 t_33.2).mono ?_
      rintro e w34 ⟨rfl, hb⟩
      have e_34 := e_33.below hb
      have i_34 := i_33.below hb
      have t_34 := t_33.below hb
      have HB34 := HB33.trans (hb.mono HB33.size)
      clear e_33 i_33 t_33 HB33 hb
      clear t_34
      go_upto_if 213 with fail
      go_cut [33, 34] from 214 to 231 (fun s33 s34 u => Below w0.heap.size w0 u)
      case first =>
        as_aux_lemma =>
        by_cases hc : CR2 = 0
        rotate_left
        · have hc2 : (CR2 == 0) = false := by simpa using hc
          go_wp2_with fail
          go_meet
          case rel => exact HB34
        subst hc
        obtain ⟨he, hl, hu⟩ := int_code (m := me) (a := xe) (by rw [HR2.out])
        obtain ⟨I, e0, e1, e2⟩ := ser_int he hl hu
        obtain ⟨f1, f2⟩ : me = MR2 ∧ I = XR2 := by
          have e3 := HR2.out
          rw [e0] at e3
          exact ⟨(SR.mk.inj e3).1, (SR.mk.inj e3).2.1⟩
        subst f1 f2
        have E1 := Lib.hid e1
        have E2 := Lib.hid e2
        clear e0 e1 e2 HR2 he hu hl hqR2
        obtain ⟨⟨qi0, qi1⟩, -⟩ := id i_34
        have li := i_34.lt
        go_wp2_with fail
        clear li qi0 qi1
        have hC := DeriveSeries_c (me) _ (I) w34 i_34.2
        rw [E1.out] at hC
        refine (send3 hC).mono ?_
        clear hC
        rintro e w35 ⟨vk, rfl, hk, hb, hlk⟩
        have e_35 := e_34.below hb
        have i_35 := i_34.below hb
        have HB35 := HB34.trans (hb.mono HB34.size)
        clear e_34 i_34 HB34 hb
        obtain ⟨ok, ck, rfl⟩ := hk.shape
        have rk := hk.rd
        clear hk
        clear hlk
        obtain ⟨⟨qe0, qe1⟩, -⟩ := id e_35
        have le := e_35.lt
        go_wp2_with fail
        clear le qe0 qe1
        have k_36 := (SB.mk1 w35 (me) (.slice ok xe.length ck) (xe) rk 26).below (w' := w35.alloc (.cells #[.int .i64 me, .slice ok xe.length ck] 26)) (by (repeat (first | exact Below.refl _ _ | (refine Below.setCell ?_ (by first | (simp; done) | (simp; omega) | omega) _) | (refine Below.alloc ?_ (by first | (simp; done) | (simp; omega) | omega) _) | (refine below_drewN ?_ _) | (refine Below.drew ?_))))
        have hbk0 : w35.heap.size = w35.heap.size := by simp
        rw [hbk0] at k_36
        clear hbk0
        have hb : Below w35.heap.size w35 (w35.alloc (.cells #[.int .i64 me, .slice ok xe.length ck] 26)) := (by (repeat (first | exact Below.refl _ _ | (refine Below.setCell ?_ (by first | (simp; done) | (simp; omega) | omega) _) | (refine Below.alloc ?_ (by first | (simp; done) | (simp; omega) | omega) _) | (refine below_drewN ?_ _) | (refine Below.drew ?_))))
        have e_36 := e_35.below hb
        have i_36 := i_35.below hb
        have HB36 := HB35.trans (hb.mono HB35.size)
        clear hb HB35 e_35 i_35
        generalize w35.alloc (.cells #[.int .i64 me, .slice ok xe.length ck] 26) = w36 at e_36 i_36 k_36 HB36 ⊢
        clear rk
        refine (series5_same (me) _ _ (xe) _ k_36.2 e_36.2).mono ?_
        rintro e w37 ⟨rfl, hb⟩
        have e_37 := e_36.below hb
        have i_37 := i_36.below hb
        have k_37 := k_36.below hb
        have HB37 := HB36.trans (hb.mono HB36.size)
        clear e_36 i_36 k_36 HB36 hb
        clear k_37
        clear e_37
        obtain ⟨⟨qi0, qi1⟩, -⟩ := id i_37
        have li := i_37.lt
        go_wp2_with fail
        clear li qi0 qi1
        have hC := IsCurve_c me _ I w37 i_37.2
        rw [E2.out] at hC
        refine hC.mono ?_
        clear hC
        rintro e w38 ⟨rfl, hb⟩
        have i_38 := i_37.below hb
        have HB38 := HB37.trans (hb.mono HB37.size)
        clear i_37 HB37 hb
        go_wp2_with fail
        go_meet
        case rel => exact HB38
      case rest =>
        as_aux_lemma =>
        obtain ⟨w39, rfl⟩ : ∃ u, u = wc := ⟨_, rfl⟩
        clear e_34 i_34 HB34
        have HB39 := hcut
        clear hcut
        trace "part 2"
        go_wp2_with fail
        refine (DrawChangeSeries_d w0.heap.size n _ w39 (HV.out.keep (fun j hj => HB39.block j hj)) HB39.size).mono ?_
        rintro e w40 ⟨mf, vf, xf, kf, rfl, rf, hlf, hb⟩
        have HB40 := HB39.trans (hb.mono HB39.size)
        clear HB39 hb
        obtain ⟨of, cf, rfl, -, -⟩ := id rf
        clear hlf
        go_wp2_with fail
        have f_41 := (SB.mk1 w40 (mf) (.slice of xf.length cf) (xf) rf 26).below (w' := w40.alloc (.cells #[.int .i64 mf, .slice of xf.length cf] 26)) (by (repeat (first | exact Below.refl _ _ | (refine Below.setCell ?_ (by first | (simp; done) | (simp; omega) | omega) _) | (refine Below.alloc ?_ (by first | (simp; done) | (simp; omega) | omega) _) | (refine below_drewN ?_ _) | (refine Below.drew ?_))))
        have hbk0 : w40.heap.size = w40.heap.size := by simp
        rw [hbk0] at f_41
        clear hbk0
        have hb : Below w40.heap.size w40 (w40.alloc (.cells #[.int .i64 mf, .slice of xf.length cf] 26)) := (by (repeat (first | exact Below.refl _ _ | (refine Below.setCell ?_ (by first | (simp; done) | (simp; omega) | omega) _) | (refine Below.alloc ?_ (by first | (simp; done) | (simp; omega) | omega) _) | (refine below_drewN ?_ _) | (refine Below.drew ?_))))
        have HB41 := HB40.trans (hb.mono HB40.size)
        clear hb HB40 
        generalize w40.alloc (.cells #[.int .i64 mf, .slice of xf.length cf] 26) = w41 at f_41 HB41 ⊢
        clear rf
        obtain ⟨⟨MR3, XR3, CR3⟩, hR3⟩ : ∃ r, chSR mf xf kf = r := ⟨_, rfl⟩
        have HR3 := Lib.hid hR3
        clear hR3
        have hC := ChangeSeries_c (mf) (kf) _ (xf) w41 f_41.2
        rw [HR3.out] at hC
        refine (send3 hC).mono ?_
        clear hC
        rintro e w42 ⟨vl, rfl, hl, hb, hll⟩
        have f_42 := f_41.below hb
        have HB42 := HB41.trans (hb.mono HB41.size)
        clear f_41 HB41 hb
        obtain ⟨ol, cl, rfl⟩ := hl.shape
        have rl := hl.rd
        clear hl
        clear hll
        obtain ⟨⟨qf0, qf1⟩, -⟩ := id f_42
        have lf := f_42.lt
        go_wp2_with fail
        clear lf qf0 qf1
        have l_43 := (SB.mk1 w42 (MR3) (.slice ol XR3.length cl) (XR3) rl 26).below (w' := w42.alloc (.cells #[.int .i64 MR3, .slice ol XR3.length cl] 26)) (by (repeat (first | exact Below.refl _ _ | (refine Below.setCell ?_ (by first | (simp; done) | (simp; omega) | omega) _) | (refine Below.alloc ?_ (by first | (simp; done) | (simp; omega) | omega) _) | (refine below_drewN ?_ _) | (refine Below.drew ?_))))
        have hbk0 : w42.heap.size = w42.heap.size := by simp
        rw [hbk0] at l_43
        clear hbk0
        have hb : Below w42.heap.size w42 (w42.alloc (.cells #[.int .i64 MR3, .slice ol XR3.length cl] 26)) := (by (repeat (first | exact Below.refl _ _ | (refine Below.setCell ?_ (by first | (simp; done) | (simp; omega) | omega) _) | (refine Below.alloc ?_ (by first | (simp; done) | (simp; omega) | omega) _) | (refine below_drewN ?_ _) | (refine Below.drew ?_))))
        have f_43 := f_42.below hb
        have HB43 := HB42.trans (hb.mono HB42.size)
        clear hb HB42 f_42
        generalize w42.alloc (.cells #[.int .i64 MR3, .slice ol XR3.length cl] 26) = w43 at f_43 l_43 HB43 ⊢
        clear rl
        have hC := sChangeSeries_c (mf) (kf) _ (xf) w43 f_43.2
        rw [HR3.out] at hC
        refine (send3 hC).mono ?_
        clear hC
        rintro e w44 ⟨vt, rfl, ht, hb, hlt⟩
        have f_44 := f_43.below hb
        have l_44 := l_43.below hb
        have HB44 := HB43.trans (hb.mono HB43.size)
        clear f_43 l_43 HB43 hb
        obtain ⟨ot, ct, rfl⟩ := ht.shape
        have rt := ht.rd
        clear ht
        clear hlt
        have hqR3 : (CR3 != CR3) = false := by simp
        obtain ⟨⟨ql0, ql1⟩, -⟩ := id l_44
        have ll := l_44.lt
        obtain ⟨⟨qf0, qf1⟩, -⟩ := id f_44
        have lf := f_44.lt
        go_wp2_with fail
        clear ll ql0 ql1
        clear lf qf0 qf1
        have t_45 := (SB.mk1 w44 (MR3) (.slice ot XR3.length ct) (XR3) rt 26).below (w' := w44.alloc (.cells #[.int .i64 MR3, .slice ot XR3.length ct] 26)) (by (repeat (first | exact Below.refl _ _ | (refine Below.setCell ?_ (by first | (simp; done) | (simp; omega) | omega) _) | (refine Below.alloc ?_ (by first | (simp; done) | (simp; omega) | omega) _) | (refine below_drewN ?_ _) | (refine Below.drew ?_))))
        have hbk0 : w44.heap.size = w44.heap.size := by simp
        rw [hbk0] at t_45
        clear hbk0
        have hb : Below w44.heap.size w44 (w44.alloc (.cells #[.int .i64 MR3, .slice ot XR3.length ct] 26)) := (by (repeat (first | exact Below.refl _ _ | (refine Below.setCell ?_ (by first | (simp; done) | (simp; omega) | omega) _) | (refine Below.alloc ?_ (by first | (simp; done) | (simp; omega) | omega) _) | (refine below_drewN ?_ _) | (refine Below.drew ?_))))
        have f_45 := f_44.below hb
        have l_45 := l_44.below hb
        have HB45 := HB44.trans (hb.mono HB44.size)
        clear hb HB44 f_44 l_44
        generalize w44.alloc (.cells #[.int .i64 MR3, .slice ot XR3.length ct] 26) = w45 at f_45 l_45 t_45 HB45 ⊢
        clear rt
        refine (series5_same (MR3) _ _ (XR3) _ l_45.2 t_45.2).mono ?_
        rintro e w46 ⟨rfl, hb⟩
        have f_46 := f_45.below hb
        have l_46 := l_45.below hb
        have t_46 := t_45.below hb
        have HB46 := HB45.trans (hb.mono HB45.size)
        clear f_45 l_45 t_45 HB45 hb
        clear t_46
        go_upto_if 259 with fail
        go_cut [41, 42, 43, 44, 45, 46] from 260 to 293 (fun s41 s42 s43 s44 s45 s46 u => Below w0.heap.size w0 u)
        case first =>
          as_aux_lemma =>
          by_cases hc : CR3 = 0
          rotate_left
          · have hc2 : (CR3 == 0) = false := by simpa using hc
            go_wp2_with fail
            go_meet
            case rel => exact HB46
          subst hc
          obtain ⟨hf, hq⟩ := ch_code (m := mf) (a := xf) (q := kf) (by rw [HR3.out])
          obtain ⟨L, Q, F, e0, e1, e2, e3⟩ := ser_ch hf hq
          obtain ⟨f1, f2⟩ : kf = MR3 ∧ L = XR3 := by
            have e4 := HR3.out
            rw [e0] at e4
            exact ⟨(SR.mk.inj e4).1, (SR.mk.inj e4).2.1⟩
          subst f1 f2
          have E1 := Lib.hid e1
          have E2 := Lib.hid e2
          have E3 := Lib.hid e3
          clear e0 e1 e2 e3 HR3 hf hq hqR3
          obtain ⟨⟨qf0, qf1⟩, -⟩ := id f_46
          have lf := f_46.lt
          go_wp2_with fail
          clear lf qf0 qf1
          have hC := MultiplySeries_c (mf) _ (xf) (mf) _ (xf) w46 f_46.2 f_46.2
          rw [E1.out] at hC
          refine (send3 hC).mono ?_
          clear hC
          rintro e w47 ⟨vs, rfl, hs, hb, hls⟩
          have f_47 := f_46.below hb
          have l_47 := l_46.below hb
          have HB47 := HB46.trans (hb.mono HB46.size)
          clear f_46 l_46 HB46 hb
          obtain ⟨os, cs, rfl⟩ := hs.shape
          have rs := hs.rd
          clear hs
          clear hls
          go_wp2_with fail
          have s_48 := (SB.mk1 w47 (mf) (.slice os Q.length cs) (Q) rs 26).below (w' := w47.alloc (.cells #[.int .i64 mf, .slice os Q.length cs] 26)) (by (repeat (first | exact Below.refl _ _ | (refine Below.setCell ?_ (by first | (simp; done) | (simp; omega) | omega) _) | (refine Below.alloc ?_ (by first | (simp; done) | (simp; omega) | omega) _) | (refine below_drewN ?_ _) | (refine Below.drew ?_))))
          have hbk0 : w47.heap.size = w47.heap.size := by simp
          rw [hbk0] at s_48
          clear hbk0
          have hb : Below w47.heap.size w47 (w47.alloc (.cells #[.int .i64 mf, .slice os Q.length cs] 26)) := (by (repeat (first | exact Below.refl _ _ | (refine Below.setCell ?_ (by first | (simp; done) | (simp; omega) | omega) _) | (refine Below.alloc ?_ (by first | (simp; done) | (simp; omega) | omega) _) | (refine below_drewN ?_ _) | (refine Below.drew ?_))))
          have f_48 := f_47.below hb
          have l_48 := l_47.below hb
          have HB48 := HB47.trans (hb.mono HB47.size)
          clear hb HB47 f_47 l_47
          generalize w47.alloc (.cells #[.int .i64 mf, .slice os Q.length cs] 26) = w48 at f_48 l_48 s_48 HB48 ⊢
          clear rs
          have hC := ChangeSeries_c (mf) (kf) _ (Q) w48 s_48.2
          rw [E2.out] at hC
          refine (send3 hC).mono ?_
          clear hC
          rintro e w49 ⟨vx, rfl, hx, hb, hlx⟩
          have f_49 := f_48.below hb
          have l_49 := l_48.below hb
          have s_49 := s_48.below hb
          have HB49 := HB48.trans (hb.mono HB48.size)
          clear f_48 l_48 s_48 HB48 hb
          obtain ⟨ox, cx, rfl⟩ := hx.shape
          have rx := hx.rd
          clear hx
          clear hlx
          obtain ⟨⟨ql0, ql1⟩, -⟩ := id l_49
          have ll := l_49.lt
          go_wp2_with fail
          clear ll ql0 ql1
          have x_50 := (SB.mk1 w49 (kf) (.slice ox F.length cx) (F) rx 26).below (w' := w49.alloc (.cells #[.int .i64 kf, .slice ox F.length cx] 26)) (by (repeat (first | exact Below.refl _ _ | (refine Below.setCell ?_ (by first | (simp; done) | (simp; omega) | omega) _) | (refine Below.alloc ?_ (by first | (simp; done) | (simp; omega) | omega) _) | (refine below_drewN ?_ _) | (refine Below.drew ?_))))
          have hbk0 : w49.heap.size = w49.heap.size := by simp
          rw [hbk0] at x_50
          clear hbk0
          have hb : Below w49.heap.size w49 (w49.alloc (.cells #[.int .i64 kf, .slice ox F.length cx] 26)) := (by (repeat (first | exact Below.refl _ _ | (refine Below.setCell ?_ (by first | (simp; done) | (simp; omega) | omega) _) | (refine Below.alloc ?_ (by first | (simp; done) | (simp; omega) | omega) _) | (refine below_drewN ?_ _) | (refine Below.drew ?_))))
          have f_50 := f_49.below hb
          have l_50 := l_49.below hb
          have s_50 := s_49.below hb
          have HB50 := HB49.trans (hb.mono HB49.size)
          clear hb HB49 f_49 l_49 s_49
          generalize w49.alloc (.cells #[.int .i64 kf, .slice ox F.length cx] 26) = w50 at f_50 l_50 s_50 x_50 HB50 ⊢
          clear rx
          have hC := MultiplySeries_c (kf) _ (L) (kf) _ (L) w50 l_50.2 l_50.2
          rw [E3.out] at hC
          refine (send3 hC).mono ?_
          clear hC
          rintro e w51 ⟨vy, rfl, hy, hb, hly⟩
          have f_51 := f_50.below hb
          have l_51 := l_50.below hb
          have s_51 := s_50.below hb
          have x_51 := x_50.below hb
          have HB51 := HB50.trans (hb.mono HB50.size)
          clear f_50 l_50 s_50 x_50 HB50 hb
          obtain ⟨oy, cy, rfl⟩ := hy.shape
          have ry := hy.rd
          clear hy
          clear hly
          obtain ⟨⟨qx0, qx1⟩, -⟩ := id x_51
          have lx := x_51.lt
          go_wp2_with fail
          clear lx qx0 qx1
          have y_52 := (SB.mk1 w51 (kf) (.slice oy F.length cy) (F) ry 26).below (w' := w51.alloc (.cells #[.int .i64 kf, .slice oy F.length cy] 26)) (by (repeat (first | exact Below.refl _ _ | (refine Below.setCell ?_ (by first | (simp; done) | (simp; omega) | omega) _) | (refine Below.alloc ?_ (by first | (simp; done) | (simp; omega) | omega) _) | (refine below_drewN ?_ _) | (refine Below.drew ?_))))
          have hbk0 : w51.heap.size = w51.heap.size := by simp
          rw [hbk0] at y_52
          clear hbk0
          have hb : Below w51.heap.size w51 (w51.alloc (.cells #[.int .i64 kf, .slice oy F.length cy] 26)) := (by (repeat (first | exact Below.refl _ _ | (refine Below.setCell ?_ (by first | (simp; done) | (simp; omega) | omega) _) | (refine Below.alloc ?_ (by first | (simp; done) | (simp; omega) | omega) _) | (refine below_drewN ?_ _) | (refine Below.drew ?_))))
          have f_52 := f_51.below hb
          have l_52 := l_51.below hb
          have s_52 := s_51.below hb
          have x_52 := x_51.below hb
          have HB52 := HB51.trans (hb.mono HB51.size)
          clear hb HB51 f_51 l_51 s_51 x_51
          generalize w51.alloc (.cells #[.int .i64 kf, .slice oy F.length cy] 26) = w52 at f_52 l_52 s_52 x_52 y_52 HB52 ⊢
          clear ry
          clear f_52
          clear s_52
          clear l_52
          refine (series5_same (kf) _ _ (F) _ x_52.2 y_52.2).mono ?_
          rintro e w53 ⟨rfl, hb⟩
          have x_53 := x_52.below hb
          have y_53 := y_52.below hb
          have HB53 := HB52.trans (hb.mono HB52.size)
          clear x_52 y_52 HB52 hb
          go_wp2_with fail
          go_meet
          case rel => exact HB53
        case rest =>
          as_aux_lemma =>
          obtain ⟨w54, rfl⟩ : ∃ u, u = wc := ⟨_, rfl⟩
          clear f_46 l_46 HB46
          have HB54 := hcut
          clear hcut
          trace "part 3"
          go_wp2_with fail
          refine (DrawPowerOfSeries_d w0.heap.size n _ w54 (HV.out.keep (fun j hj => HB54.block j hj)) HB54.size).mono ?_
          rintro e w55 ⟨mp, vp, xp, kp, rfl, rp, hlp, hb⟩
          have HB55 := HB54.trans (hb.mono HB54.size)
          clear HB54 hb
          obtain ⟨op, cp, rfl, -, -⟩ := id rp
          clear hlp
          go_wp2_with fail
          have p_56 := (SB.mk1 w55 (mp) (.slice op xp.length cp) (xp) rp 26).below (w' := w55.alloc (.cells #[.int .i64 mp, .slice op xp.length cp] 26)) (by (repeat (first | exact Below.refl _ _ | (refine Below.setCell ?_ (by first | (simp; done) | (simp; omega) | omega) _) | (refine Below.alloc ?_ (by first | (simp; done) | (simp; omega) | omega) _) | (refine below_drewN ?_ _) | (refine Below.drew ?_))))
          have hbk0 : w55.heap.size = w55.heap.size := by simp
          rw [hbk0] at p_56
          clear hbk0
          have hb : Below w55.heap.size w55 (w55.alloc (.cells #[.int .i64 mp, .slice op xp.length cp] 26)) := (by (repeat (first | exact Below.refl _ _ | (refine Below.setCell ?_ (by first | (simp; done) | (simp; omega) | omega) _) | (refine Below.alloc ?_ (by first | (simp; done) | (simp; omega) | omega) _) | (refine below_drewN ?_ _) | (refine Below.drew ?_))))
          have HB56 := HB55.trans (hb.mono HB55.size)
          clear hb HB55 
          generalize w55.alloc (.cells #[.int .i64 mp, .slice op xp.length cp] 26) = w56 at p_56 HB56 ⊢
          clear rp
          obtain ⟨⟨MR4, XR4, CR4⟩, hR4⟩ : ∃ r, pwSR mp xp kp = r := ⟨_, rfl⟩
          have HR4 := Lib.hid hR4
          clear hR4
          have hC := PowerOfSeries_c (mp) (kp) _ (xp) w56 p_56.2
          rw [HR4.out] at hC
          refine (send3 hC).mono ?_
          clear hC
          rintro e w57 ⟨vs, rfl, hs, hb, hls⟩
          have p_57 := p_56.below hb
          have HB57 := HB56.trans (hb.mono HB56.size)
          clear p_56 HB56 hb
          obtain ⟨os, cs, rfl⟩ := hs.shape
          have rs := hs.rd
          clear hs
          clear hls
          obtain ⟨⟨qp0, qp1⟩, -⟩ := id p_57
          have lp := p_57.lt
          go_wp2_with fail
          clear lp qp0 qp1
          have s_58 := (SB.mk1 w57 (MR4) (.slice os XR4.length cs) (XR4) rs 26).below (w' := w57.alloc (.cells #[.int .i64 MR4, .slice os XR4.length cs] 26)) (by (repeat (first | exact Below.refl _ _ | (refine Below.setCell ?_ (by first | (simp; done) | (simp; omega) | omega) _) | (refine Below.alloc ?_ (by first | (simp; done) | (simp; omega) | omega) _) | (refine below_drewN ?_ _) | (refine Below.drew ?_))))
          have hbk0 : w57.heap.size = w57.heap.size := by simp
          rw [hbk0] at s_58
          clear hbk0
          have hb : Below w57.heap.size w57 (w57.alloc (.cells #[.int .i64 MR4, .slice os XR4.length cs] 26)) := (by (repeat (first | exact Below.refl _ _ | (refine Below.setCell ?_ (by first | (simp; done) | (simp; omega) | omega) _) | (refine Below.alloc ?_ (by first | (simp; done) | (simp; omega) | omega) _) | (refine below_drewN ?_ _) | (refine Below.drew ?_))))
          have p_58 := p_57.below hb
          have HB58 := HB57.trans (hb.mono HB57.size)
          clear hb HB57 p_57
          generalize w57.alloc (.cells #[.int .i64 MR4, .slice os XR4.length cs] 26) = w58 at p_58 s_58 HB58 ⊢
          clear rs
          have hC := sPowerOfSeries_c (mp) (kp) _ (xp) w58 p_58.2
          rw [HR4.out] at hC
          refine (send3 hC).mono ?_
          clear hC
          rintro e w59 ⟨vt, rfl, ht, hb, hlt⟩
          have p_59 := p_58.below hb
          have s_59 := s_58.below hb
          have HB59 := HB58.trans (hb.mono HB58.size)
          clear p_58 s_58 HB58 hb
          obtain ⟨ot, ct, rfl⟩ := ht.shape
          have rt := ht.rd
          clear ht
          clear hlt
          go_wp2_with fail
          have t_60 := (SB.mk1 w59 (MR4) (.slice ot XR4.length ct) (XR4) rt 26).below (w' := w59.alloc (.cells #[.int .i64 MR4, .slice ot XR4.length ct] 26)) (by (repeat (first | exact Below.refl _ _ | (refine Below.setCell ?_ (by first | (simp; done) | (simp; omega) | omega) _) | (refine Below.alloc ?_ (by first | (simp; done) | (simp; omega) | omega) _) | (refine below_drewN ?_ _) | (refine Below.drew ?_))))
          have hbk0 : w59.heap.size = w59.heap.size := by simp
          rw [hbk0] at t_60
          clear hbk0
          have hb : Below w59.heap.size w59 (w59.alloc (.cells #[.int .i64 MR4, .slice ot XR4.length ct] 26)) := (by (repeat (first | exact Below.refl _ _ | (refine Below.setCell ?_ (by first | (simp; done) | (simp; omega) | omega) _) | (refine Below.alloc ?_ (by first | (simp; done) | (simp; omega) | omega) _) | (refine below_drewN ?_ _) | (refine Below.drew ?_))))
          have p_60 := p_59.below hb
          have s_60 := s_59.below hb
          have HB60 := HB59.trans (hb.mono HB59.size)
          clear hb HB59 p_59 s_59
          generalize w59.alloc (.cells #[.int .i64 MR4, .slice ot XR4.length ct] 26) = w60 at p_60 s_60 t_60 HB60 ⊢
          clear rt
          clear p_60
          refine (DrawValueOfSeries_d w0.heap.size n _ w60 (HV.out.keep (fun j hj => HB60.block j hj)) HB60.size).mono ?_
          rintro e w61 ⟨mv, vv, xv, kv, rfl, rv, hlv, hb⟩
          have s_61 := s_60.below hb
          have t_61 := t_60.below hb
          have HB61 := HB60.trans (hb.mono HB60.size)
          clear s_60 t_60 HB60 hb
          obtain ⟨ov, cv, rfl, -, -⟩ := id rv
          clear hlv
          go_wp2_with fail
          have v_62 := (SB.mk1 w61 (mv) (.slice ov xv.length cv) (xv) rv 26).below (w' := w61.alloc (.cells #[.int .i64 mv, .slice ov xv.length cv] 26)) (by (repeat (first | exact Below.refl _ _ | (refine Below.setCell ?_ (by first | (simp; done) | (simp; omega) | omega) _) | (refine Below.alloc ?_ (by first | (simp; done) | (simp; omega) | omega) _) | (refine below_drewN ?_ _) | (refine Below.drew ?_))))
          have hbk0 : w61.heap.size = w61.heap.size := by simp
          rw [hbk0] at v_62
          clear hbk0
          have hb : Below w61.heap.size w61 (w61.alloc (.cells #[.int .i64 mv, .slice ov xv.length cv] 26)) := (by (repeat (first | exact Below.refl _ _ | (refine Below.setCell ?_ (by first | (simp; done) | (simp; omega) | omega) _) | (refine Below.alloc ?_ (by first | (simp; done) | (simp; omega) | omega) _) | (refine below_drewN ?_ _) | (refine Below.drew ?_))))
          have s_62 := s_61.below hb
          have t_62 := t_61.below hb
          have HB62 := HB61.trans (hb.mono HB61.size)
          clear hb HB61 s_61 t_61
          generalize w61.alloc (.cells #[.int .i64 mv, .slice ov xv.length cv] 26) = w62 at s_62 t_62 v_62 HB62 ⊢
          clear rv
          obtain ⟨⟨VV, VK⟩, hV⟩ : ∃ r, valR mv xv kv = r := ⟨_, rfl⟩
          have HVV := Lib.hid hV
          clear hV
          have hC := ValueOfSeries_c mv kv _ xv w62 v_62.2
          rw [HVV.out] at hC
          refine (vend3 hC).mono ?_
          clear hC
          rintro e w63 ⟨rfl, hb⟩
          have s_63 := s_62.below hb
          have t_63 := t_62.below hb
          have v_63 := v_62.below hb
          have HB63 := HB62.trans (hb.mono HB62.size)
          clear s_62 t_62 v_62 HB62 hb
          obtain ⟨⟨qv0, qv1⟩, -⟩ := id v_63
          have lv := v_63.lt
          go_wp2_with fail
          clear lv qv0 qv1
          have hC := sValueOfSeries_c mv kv _ xv w63 v_63.2
          rw [HVV.out] at hC
          refine (vend3 hC).mono ?_
          clear hC
          rintro e w64 ⟨rfl, hb⟩
          have s_64 := s_63.below hb
          have t_64 := t_63.below hb
          have v_64 := v_63.below hb
          have HB64 := HB63.trans (hb.mono HB63.size)
          clear s_63 t_63 v_63 HB63 hb
          clear v_64
          obtain ⟨⟨qs0, qs1⟩, -⟩ := id s_64
          have ls := s_64.lt
          obtain ⟨⟨qt0, qt1⟩, -⟩ := id t_64
          have lt := t_64.lt
          go_wp2_with fail
          clear ls qs0 qs1
          clear lt qt0 qt1
          refine (series5_same (MR4) _ _ (XR4) _ s_64.2 t_64.2).mono ?_
          rintro e w65 ⟨rfl, hb⟩
          have s_65 := s_64.below hb
          have t_65 := t_64.below hb
          have HB65 := HB64.trans (hb.mono HB64.size)
          clear s_64 t_64 HB64 hb
          go_wp2
          go_ret
          exact ⟨by simp, HB65⟩

open Go.ChangeShapes Go.WideShapes Go.ChangeAt Go.Joins
set_option maxRecDepth 100000 in
theorem SeriesCalculus_lifted (os : Os) (started : os.Started) (H : Type) (enc : TypeId × Value → H) :
    ReturnsInHanded {} Try.checked os 4 .any (Rows.fnSeriesCalculusSpec.pre6 enc Try.prog Try.f4 Rows.fnSeriesCalculusRow.domain false) (Rows.fnSeriesCalculusSpec.post enc Try.prog Try.f4 false true false false) := by
  refine returnsInHanded_of_change (C := Try.checked) Try.own started (by kernel_rfl) Try.func4
    (ChangeSpec.witness6 (enc := enc) (C := Try.checked) false ⟨#[], #[.slice none 0 0], []⟩ 8 (by kernel_rfl) (by kernel_rfl) (by kernel_rfl) (by kernel_rfl)) ?_
  intro W base args ds gs before hval0 hW _ _
  have hval : ∀ (j : Nat) t v, Try.f4.params[j]? = some t → args[j]? = some v → Value.okWide Try.prog W .any base t v := hval0
  have hW' := hW
  obtain ⟨p, q, hA0, hV, rfl, _, _⟩ := hW
  have hA : DataW.TrodAll enc Try.prog W 0 (fun _ => true) true Try.f4.params.toList args.toList ds p := hA0
  rw [Try.params4] at hA hval
  have hAk := hA
  obtain ⟨rfl, rfl⟩ := trodVars_none hV
  obtain ⟨v0, d0, rfl, rfl, h0⟩ := trodAll_one hA
  obtain ⟨n, r0⟩ := rdB_of_trod (hval 0 22 v0 rfl rfl) h0
  clear hA0 hval0
  simp only [List.append_nil] at hW'
  refine (FnSeriesCalculus_c n v0 W r0).mono fun e W' ⟨he, hb⟩ => ?_
  subst he
  refine ⟨_, rfl, _, _, _, [], p, [], hW', ?_, ?_, rfl, hb.frame _, fun h => by cases h⟩
  · exact trodAll_mk1 (shut_bool Try.underlying4 true)
  · exact trodAll_below Try.laidOut (by kernel_rfl) hAk hb (fun x hx => by simpa using hW'.lt x hx)

theorem SeriesCalculus_holds : Rows.FnSeriesCalculusSaid :=
  OpenClaim.holds_of_wide 4 Try.f4 rfl rfl rfl rfl rfl rfl rfl ⟨rfl, rfl, rfl, rfl, rfl⟩ rfl rfl rfl rfl rfl (by kernel_rfl) Try.func4 (by kernel_rfl)
    (of_decide_eq_true (by kernel_rfl)) (by unfold Func.isWrapper; rw [if_neg (of_decide_eq_false (by kernel_rfl))]; exact ⟨rfl, rfl⟩)
    (fun os started H enc _ => SeriesCalculus_lifted os started H enc)

#print axioms SeriesCalculus_holds
end Go.Proofs.Ytcjinlfgeljmkaa
