/- Over a prime field residues of sums and products are sums and products of residues, each residue is that of one Witt vector, powers are powers, and inverses undo products. For every code. No condition. -/
import Derived.Test.YtcjinlfgeljmkaaWSLwB
import Derived.Test.YtcjinlfgeljmkaaWSSrcU
import Derived.Test.YtcjinlfgeljmkaaWSLwQ
import Derived.Test.YtcjinlfgeljmkaaWSEndB
import Derived.Deep.RegionHeld3
import Derived.Deep.DeepCutAuto
set_option linter.unusedSimpArgs false
set_option linter.unusedVariables false
namespace Go.Proofs.Ytcjinlfgeljmkaa
open Go.RowKit
set_option maxHeartbeats 16000000 in
set_option maxRecDepth 100000 in
theorem FnResidues_c (n : Nat) (v : Value) (w0 : World) (hv : RdB w0 w0.heap.size n v) :
    Calls Try.prog 8 #[v] w0 fun e w' => e = .returned (.bool true) ∧ Below w0.heap.size w0 w' := by
  obtain ⟨ov, cv, rfl, hmv, hcv⟩ := id hv
  clear hmv hcv
  have HB0 := Below.refl w0.heap.size w0
  have HV := Lib.hid hv
  clear hv
  go_enter Try.func8, Try.ntmps8
  go_wp2_with fail
  refine (big_c w0.heap.size n _ w0 HV.out).mono ?_
  rintro e w' ⟨rfl, rfl⟩
  by_cases hbig : 4096 < n
  · have hbb : decide (4096 < n) = true := by simpa using hbig
    go_wp2
    go_ret
    exact ⟨rfl, HB0⟩
  have hbb : decide (4096 < n) = false := by simpa using hbig
  clear hbig
  go_wp2_with fail
  clear hbb
  refine (DrawResidueOf_d w0.heap.size n _ w0 (HV.out.keep (fun j hj => HB0.block j hj)) HB0.size).mono ?_
  rintro e w1 ⟨pa, ma, va, xa, rfl, ha, hb⟩
  have HB1 := HB0.trans (hb.mono HB0.size)
  clear HB0 hb
  obtain ⟨oa, ca, rfl⟩ := ha.shape
  have ra := ha.rd
  clear ha
  go_wp2_with fail
  have a_2 := (WB.mk1 w1 (pa) (ma) (.slice oa xa.length ca) (xa) ra 59).below (w' := w1.alloc (.cells #[.int .i64 pa, .int .i64 ma, .slice oa xa.length ca] 59)) (by (repeat (first | exact Below.refl _ _ | (refine Below.setCell ?_ (by first | (simp; done) | (simp; omega) | omega) _) | (refine Below.alloc ?_ (by first | (simp; done) | (simp; omega) | omega) _) | (refine below_drewN ?_ _) | (refine Below.drew ?_))))
  have hbk0 : w1.heap.size = w1.heap.size := by simp
  rw [hbk0] at a_2
  clear hbk0
  have hb : Below w1.heap.size w1 (w1.alloc (.cells #[.int .i64 pa, .int .i64 ma, .slice oa xa.length ca] 59)) := (by (repeat (first | exact Below.refl _ _ | (refine Below.setCell ?_ (by first | (simp; done) | (simp; omega) | omega) _) | (refine Below.alloc ?_ (by first | (simp; done) | (simp; omega) | omega) _) | (refine below_drewN ?_ _) | (refine Below.drew ?_))))
  have HB2 := HB1.trans (hb.mono HB1.size)
  clear hb HB1 
  generalize w1.alloc (.cells #[.int .i64 pa, .int .i64 ma, .slice oa xa.length ca] 59) = w2 at a_2 HB2 ⊢
  clear ra
  obtain ⟨⟨V1, K1⟩, h1⟩ : ∃ r, residR pa ma xa = r := ⟨_, rfl⟩
  have HR1 := Lib.hid h1
  clear h1
  have hqV : (V1 != V1) = false := by simp
  have hqK : (K1 != K1) = false := by simp
  have hC := ResidueOf_c (pa) (ma) _ (xa) w2 a_2.2
  rw [HR1.out] at hC
  refine (iend2 hC).mono ?_
  clear hC
  rintro e w3 ⟨rfl, hb⟩
  have a_3 := a_2.below hb
  have HB3 := HB2.trans (hb.mono HB2.size)
  clear a_2 HB2 hb
  obtain ⟨⟨qa0, qa1, qa2⟩, -⟩ := id a_3
  have la := a_3.lt
  go_wp2_with fail
  clear la qa0 qa1 qa2
  have hC := sResidueOf_c (pa) (ma) _ (xa) w3 a_3.2
  rw [HR1.out] at hC
  refine (iend2 hC).mono ?_
  clear hC
  rintro e w4 ⟨rfl, hb⟩
  have a_4 := a_3.below hb
  have HB4 := HB3.trans (hb.mono HB3.size)
  clear a_3 HB3 hb
  go_wp2_with fail
  refine (DrawWittOfResidue_d w0.heap.size n _ w4 (HV.out.keep (fun j hj => HB4.block j hj)) HB4.size).mono ?_
  rintro e w5 ⟨pr, nr, kr, rfl, hb⟩
  have a_5 := a_4.below hb
  have HB5 := HB4.trans (hb.mono HB4.size)
  clear a_4 HB4 hb
  go_wp2_with fail
  obtain ⟨⟨PR2, MR2, XR2, CR2⟩, hR2⟩ : ∃ r, wresR pr nr kr = r := ⟨_, rfl⟩
  have HR2 := Lib.hid hR2
  clear hR2
  have hC := WittOfResidue_c  pr nr kr w5 
  rw [HR2.out] at hC
  refine (wend4 hC).mono ?_
  clear hC
  rintro e w6 ⟨vv, rfl, hv, hb, hlv⟩
  have a_6 := a_5.below hb
  have HB6 := HB5.trans (hb.mono HB5.size)
  clear a_5 HB5 hb
  obtain ⟨ov, cv, rfl⟩ := hv.shape
  have rv := hv.rd
  clear hv
  clear hlv
  go_wp2_with fail
  have v_7 := (WB.mk1 w6 (PR2) (MR2) (.slice ov XR2.length cv) (XR2) rv 59).below (w' := w6.alloc (.cells #[.int .i64 PR2, .int .i64 MR2, .slice ov XR2.length cv] 59)) (by (repeat (first | exact Below.refl _ _ | (refine Below.setCell ?_ (by first | (simp; done) | (simp; omega) | omega) _) | (refine Below.alloc ?_ (by first | (simp; done) | (simp; omega) | omega) _) | (refine below_drewN ?_ _) | (refine Below.drew ?_))))
  have hbk0 : w6.heap.size = w6.heap.size := by simp
  rw [hbk0] at v_7
  clear hbk0
  have hb : Below w6.heap.size w6 (w6.alloc (.cells #[.int .i64 PR2, .int .i64 MR2, .slice ov XR2.length cv] 59)) := (by (repeat (first | exact Below.refl _ _ | (refine Below.setCell ?_ (by first | (simp; done) | (simp; omega) | omega) _) | (refine Below.alloc ?_ (by first | (simp; done) | (simp; omega) | omega) _) | (refine below_drewN ?_ _) | (refine Below.drew ?_))))
  have a_7 := a_6.below hb
  have HB7 := HB6.trans (hb.mono HB6.size)
  clear hb HB6 a_6
  generalize w6.alloc (.cells #[.int .i64 PR2, .int .i64 MR2, .slice ov XR2.length cv] 59) = w7 at a_7 v_7 HB7 ⊢
  clear rv
  have hC := sWittOfResidue_c  pr nr kr w7 
  rw [HR2.out] at hC
  refine (wend4 hC).mono ?_
  clear hC
  rintro e w8 ⟨vt, rfl, ht, hb, hlt⟩
  have a_8 := a_7.below hb
  have v_8 := v_7.below hb
  have HB8 := HB7.trans (hb.mono HB7.size)
  clear a_7 v_7 HB7 hb
  obtain ⟨ot, ct, rfl⟩ := ht.shape
  have rt := ht.rd
  clear ht
  clear hlt
  have hqR2 : (CR2 != CR2) = false := by simp
  obtain ⟨⟨qv0, qv1, qv2⟩, -⟩ := id v_8
  have lv := v_8.lt
  go_wp2_with fail
  clear lv qv0 qv1 qv2
  have t_9 := (WB.mk1 w8 (PR2) (MR2) (.slice ot XR2.length ct) (XR2) rt 59).below (w' := w8.alloc (.cells #[.int .i64 PR2, .int .i64 MR2, .slice ot XR2.length ct] 59)) (by (repeat (first | exact Below.refl _ _ | (refine Below.setCell ?_ (by first | (simp; done) | (simp; omega) | omega) _) | (refine Below.alloc ?_ (by first | (simp; done) | (simp; omega) | omega) _) | (refine below_drewN ?_ _) | (refine Below.drew ?_))))
  have hbk0 : w8.heap.size = w8.heap.size := by simp
  rw [hbk0] at t_9
  clear hbk0
  have hb : Below w8.heap.size w8 (w8.alloc (.cells #[.int .i64 PR2, .int .i64 MR2, .slice ot XR2.length ct] 59)) := (by (repeat (first | exact Below.refl _ _ | (refine Below.setCell ?_ (by first | (simp; done) | (simp; omega) | omega) _) | (refine Below.alloc ?_ (by first | (simp; done) | (simp; omega) | omega) _) | (refine below_drewN ?_ _) | (refine Below.drew ?_))))
  have a_9 := a_8.below hb
  have v_9 := v_8.below hb
  have HB9 := HB8.trans (hb.mono HB8.size)
  clear hb HB8 a_8 v_8
  generalize w8.alloc (.cells #[.int .i64 PR2, .int .i64 MR2, .slice ot XR2.length ct] 59) = w9 at a_9 v_9 t_9 HB9 ⊢
  clear rt
  refine (witt9_same (PR2) (MR2) _ _ (XR2) _ v_9.2 t_9.2).mono ?_
  rintro e w10 ⟨rfl, hb⟩
  have a_10 := a_9.below hb
  have v_10 := v_9.below hb
  have t_10 := t_9.below hb
  have HB10 := HB9.trans (hb.mono HB9.size)
  clear a_9 v_9 t_9 HB9 hb
  clear t_10
  go_upto_if 105 with fail
  go_cut [15, 16] from 106 (fun s15 s16 u => Below w10.heap.size w10 u)
  case first =>
    by_cases hc2 : CR2 = 0
    · subst hc2
      obtain ⟨rfl, rfl, hr2⟩ := wres_back HR2.out
      have HR := Lib.hid hr2
      clear hr2
      have hqk : (kr != kr) = false := by simp
      obtain ⟨⟨q0, q1, q2⟩, -⟩ := id v_10
      go_wp2_with fail
      have hC := ResidueOf_c MR2 MR2 _ XR2 w10 v_10.2
      rw [HR.out] at hC
      refine (iend2 hC).mono ?_
      clear hC
      rintro e wz ⟨rfl, hbz⟩
      go_wp2_with fail
      go_meet
      case rel => exact hbz
    · have hc2' : (CR2 == 0) = false := by simpa using hc2
      go_wp2_with fail
      go_meet
      case rel => exact Below.refl _ _
  case rest =>
    obtain ⟨w11, rfl⟩ : ∃ u, u = wc := ⟨_, rfl⟩
    have hb := hcut
    clear hcut
    have a_11 := a_10.below hb
    have v_11 := v_10.below hb
    have HB11 := HB10.trans (hb.mono HB10.size)
    clear a_10 v_10 HB10 hb
    clear v_11
    go_wp2_with fail
    clear hqV hqK hqR2
    refine (DrawPowerOfWitt_d w0.heap.size n _ w11 (HV.out.keep (fun j hj => HB11.block j hj)) HB11.size).mono ?_
    rintro e w12 ⟨px, mx, vx, xx, ex, rfl, hx, hb⟩
    have a_12 := a_11.below hb
    have HB12 := HB11.trans (hb.mono HB11.size)
    clear a_11 HB11 hb
    obtain ⟨ox, cx, rfl⟩ := hx.shape
    have rx := hx.rd
    clear hx
    go_wp2_with fail
    have x_13 := (WB.mk1 w12 (px) (mx) (.slice ox xx.length cx) (xx) rx 59).below (w' := w12.alloc (.cells #[.int .i64 px, .int .i64 mx, .slice ox xx.length cx] 59)) (by (repeat (first | exact Below.refl _ _ | (refine Below.setCell ?_ (by first | (simp; done) | (simp; omega) | omega) _) | (refine Below.alloc ?_ (by first | (simp; done) | (simp; omega) | omega) _) | (refine below_drewN ?_ _) | (refine Below.drew ?_))))
    have hbk0 : w12.heap.size = w12.heap.size := by simp
    rw [hbk0] at x_13
    clear hbk0
    have hb : Below w12.heap.size w12 (w12.alloc (.cells #[.int .i64 px, .int .i64 mx, .slice ox xx.length cx] 59)) := (by (repeat (first | exact Below.refl _ _ | (refine Below.setCell ?_ (by first | (simp; done) | (simp; omega) | omega) _) | (refine Below.alloc ?_ (by first | (simp; done) | (simp; omega) | omega) _) | (refine below_drewN ?_ _) | (refine Below.drew ?_))))
    have a_13 := a_12.below hb
    have HB13 := HB12.trans (hb.mono HB12.size)
    clear hb HB12 a_12
    generalize w12.alloc (.cells #[.int .i64 px, .int .i64 mx, .slice ox xx.length cx] 59) = w13 at a_13 x_13 HB13 ⊢
    clear rx
    obtain ⟨⟨PR3, MR3, XR3, CR3⟩, hR3⟩ : ∃ r, powR px mx xx ex = r := ⟨_, rfl⟩
    have HR3 := Lib.hid hR3
    clear hR3
    have hC := PowerOfWitt_c (px) (mx) _ (xx) ex w13 x_13.2
    rw [HR3.out] at hC
    refine (wend4 hC).mono ?_
    clear hC
    rintro e w14 ⟨vs, rfl, hs, hb, hls⟩
    have a_14 := a_13.below hb
    have x_14 := x_13.below hb
    have HB14 := HB13.trans (hb.mono HB13.size)
    clear a_13 x_13 HB13 hb
    obtain ⟨os, cs, rfl⟩ := hs.shape
    have rs := hs.rd
    clear hs
    clear hls
    obtain ⟨⟨qx0, qx1, qx2⟩, -⟩ := id x_14
    have lx := x_14.lt
    go_wp2_with fail
    clear lx qx0 qx1 qx2
    have s_15 := (WB.mk1 w14 (PR3) (MR3) (.slice os XR3.length cs) (XR3) rs 59).below (w' := w14.alloc (.cells #[.int .i64 PR3, .int .i64 MR3, .slice os XR3.length cs] 59)) (by (repeat (first | exact Below.refl _ _ | (refine Below.setCell ?_ (by first | (simp; done) | (simp; omega) | omega) _) | (refine Below.alloc ?_ (by first | (simp; done) | (simp; omega) | omega) _) | (refine below_drewN ?_ _) | (refine Below.drew ?_))))
    have hbk0 : w14.heap.size = w14.heap.size := by simp
    rw [hbk0] at s_15
    clear hbk0
    have hb : Below w14.heap.size w14 (w14.alloc (.cells #[.int .i64 PR3, .int .i64 MR3, .slice os XR3.length cs] 59)) := (by (repeat (first | exact Below.refl _ _ | (refine Below.setCell ?_ (by first | (simp; done) | (simp; omega) | omega) _) | (refine Below.alloc ?_ (by first | (simp; done) | (simp; omega) | omega) _) | (refine below_drewN ?_ _) | (refine Below.drew ?_))))
    have a_15 := a_14.below hb
    have x_15 := x_14.below hb
    have HB15 := HB14.trans (hb.mono HB14.size)
    clear hb HB14 a_14 x_14
    generalize w14.alloc (.cells #[.int .i64 PR3, .int .i64 MR3, .slice os XR3.length cs] 59) = w15 at a_15 x_15 s_15 HB15 ⊢
    clear rs
    have hC := sPowerOfWitt_c (px) (mx) _ (xx) ex w15 x_15.2
    rw [HR3.out] at hC
    refine (wend4 hC).mono ?_
    clear hC
    rintro e w16 ⟨vt, rfl, ht, hb, hlt⟩
    have a_16 := a_15.below hb
    have x_16 := x_15.below hb
    have s_16 := s_15.below hb
    have HB16 := HB15.trans (hb.mono HB15.size)
    clear a_15 x_15 s_15 HB15 hb
    obtain ⟨ot, ct, rfl⟩ := ht.shape
    have rt := ht.rd
    clear ht
    clear hlt
    have hqR3 : (CR3 != CR3) = false := by simp
    obtain ⟨⟨qs0, qs1, qs2⟩, -⟩ := id s_16
    have ls := s_16.lt
    go_wp2_with fail
    clear ls qs0 qs1 qs2
    have t_17 := (WB.mk1 w16 (PR3) (MR3) (.slice ot XR3.length ct) (XR3) rt 59).below (w' := w16.alloc (.cells #[.int .i64 PR3, .int .i64 MR3, .slice ot XR3.length ct] 59)) (by (repeat (first | exact Below.refl _ _ | (refine Below.setCell ?_ (by first | (simp; done) | (simp; omega) | omega) _) | (refine Below.alloc ?_ (by first | (simp; done) | (simp; omega) | omega) _) | (refine below_drewN ?_ _) | (refine Below.drew ?_))))
    have hbk0 : w16.heap.size = w16.heap.size := by simp
    rw [hbk0] at t_17
    clear hbk0
    have hb : Below w16.heap.size w16 (w16.alloc (.cells #[.int .i64 PR3, .int .i64 MR3, .slice ot XR3.length ct] 59)) := (by (repeat (first | exact Below.refl _ _ | (refine Below.setCell ?_ (by first | (simp; done) | (simp; omega) | omega) _) | (refine Below.alloc ?_ (by first | (simp; done) | (simp; omega) | omega) _) | (refine below_drewN ?_ _) | (refine Below.drew ?_))))
    have a_17 := a_16.below hb
    have x_17 := x_16.below hb
    have s_17 := s_16.below hb
    have HB17 := HB16.trans (hb.mono HB16.size)
    clear hb HB16 a_16 x_16 s_16
    generalize w16.alloc (.cells #[.int .i64 PR3, .int .i64 MR3, .slice ot XR3.length ct] 59) = w17 at a_17 x_17 s_17 t_17 HB17 ⊢
    clear rt
    refine (witt9_same (PR3) (MR3) _ _ (XR3) _ s_17.2 t_17.2).mono ?_
    rintro e w18 ⟨rfl, hb⟩
    have a_18 := a_17.below hb
    have x_18 := x_17.below hb
    have s_18 := s_17.below hb
    have t_18 := t_17.below hb
    have HB18 := HB17.trans (hb.mono HB17.size)
    clear a_17 x_17 s_17 t_17 HB17 hb
    clear s_18
    clear t_18
    clear x_18
    go_wp2_with fail
    clear hqR3
    refine (DrawIntegerWitt_d w0.heap.size n _ w18 (HV.out.keep (fun j hj => HB18.block j hj)) HB18.size).mono ?_
    rintro e w19 ⟨pi, mi, ni, ci, rfl, hb⟩
    have a_19 := a_18.below hb
    have HB19 := HB18.trans (hb.mono HB18.size)
    clear a_18 HB18 hb
    go_wp2_with fail
    obtain ⟨⟨PR4, MR4, XR4, CR4⟩, hR4⟩ : ∃ r, integerR pi mi ni ci = r := ⟨_, rfl⟩
    have HR4 := Lib.hid hR4
    clear hR4
    have hC := IntegerWitt_c  pi mi ni ci w19 
    rw [HR4.out] at hC
    refine (wend4 hC).mono ?_
    clear hC
    rintro e w20 ⟨vs, rfl, hs, hb, hls⟩
    have a_20 := a_19.below hb
    have HB20 := HB19.trans (hb.mono HB19.size)
    clear a_19 HB19 hb
    obtain ⟨os, cs, rfl⟩ := hs.shape
    have rs := hs.rd
    clear hs
    clear hls
    go_wp2_with fail
    have s_21 := (WB.mk1 w20 (PR4) (MR4) (.slice os XR4.length cs) (XR4) rs 59).below (w' := w20.alloc (.cells #[.int .i64 PR4, .int .i64 MR4, .slice os XR4.length cs] 59)) (by (repeat (first | exact Below.refl _ _ | (refine Below.setCell ?_ (by first | (simp; done) | (simp; omega) | omega) _) | (refine Below.alloc ?_ (by first | (simp; done) | (simp; omega) | omega) _) | (refine below_drewN ?_ _) | (refine Below.drew ?_))))
    have hbk0 : w20.heap.size = w20.heap.size := by simp
    rw [hbk0] at s_21
    clear hbk0
    have hb : Below w20.heap.size w20 (w20.alloc (.cells #[.int .i64 PR4, .int .i64 MR4, .slice os XR4.length cs] 59)) := (by (repeat (first | exact Below.refl _ _ | (refine Below.setCell ?_ (by first | (simp; done) | (simp; omega) | omega) _) | (refine Below.alloc ?_ (by first | (simp; done) | (simp; omega) | omega) _) | (refine below_drewN ?_ _) | (refine Below.drew ?_))))
    have a_21 := a_20.below hb
    have HB21 := HB20.trans (hb.mono HB20.size)
    clear hb HB20 a_20
    generalize w20.alloc (.cells #[.int .i64 PR4, .int .i64 MR4, .slice os XR4.length cs] 59) = w21 at a_21 s_21 HB21 ⊢
    clear rs
    have hC := sIntegerWitt_c  pi mi ni ci w21 
    rw [HR4.out] at hC
    refine (wend4 hC).mono ?_
    clear hC
    rintro e w22 ⟨vt, rfl, ht, hb, hlt⟩
    have a_22 := a_21.below hb
    have s_22 := s_21.below hb
    have HB22 := HB21.trans (hb.mono HB21.size)
    clear a_21 s_21 HB21 hb
    obtain ⟨ot, ct, rfl⟩ := ht.shape
    have rt := ht.rd
    clear ht
    clear hlt
    have hqR4 : (CR4 != CR4) = false := by simp
    obtain ⟨⟨qs0, qs1, qs2⟩, -⟩ := id s_22
    have ls := s_22.lt
    go_wp2_with fail
    clear ls qs0 qs1 qs2
    have t_23 := (WB.mk1 w22 (PR4) (MR4) (.slice ot XR4.length ct) (XR4) rt 59).below (w' := w22.alloc (.cells #[.int .i64 PR4, .int .i64 MR4, .slice ot XR4.length ct] 59)) (by (repeat (first | exact Below.refl _ _ | (refine Below.setCell ?_ (by first | (simp; done) | (simp; omega) | omega) _) | (refine Below.alloc ?_ (by first | (simp; done) | (simp; omega) | omega) _) | (refine below_drewN ?_ _) | (refine Below.drew ?_))))
    have hbk0 : w22.heap.size = w22.heap.size := by simp
    rw [hbk0] at t_23
    clear hbk0
    have hb : Below w22.heap.size w22 (w22.alloc (.cells #[.int .i64 PR4, .int .i64 MR4, .slice ot XR4.length ct] 59)) := (by (repeat (first | exact Below.refl _ _ | (refine Below.setCell ?_ (by first | (simp; done) | (simp; omega) | omega) _) | (refine Below.alloc ?_ (by first | (simp; done) | (simp; omega) | omega) _) | (refine below_drewN ?_ _) | (refine Below.drew ?_))))
    have a_23 := a_22.below hb
    have s_23 := s_22.below hb
    have HB23 := HB22.trans (hb.mono HB22.size)
    clear hb HB22 a_22 s_22
    generalize w22.alloc (.cells #[.int .i64 PR4, .int .i64 MR4, .slice ot XR4.length ct] 59) = w23 at a_23 s_23 t_23 HB23 ⊢
    clear rt
    refine (witt9_same (PR4) (MR4) _ _ (XR4) _ s_23.2 t_23.2).mono ?_
    rintro e w24 ⟨rfl, hb⟩
    have a_24 := a_23.below hb
    have s_24 := s_23.below hb
    have t_24 := t_23.below hb
    have HB24 := HB23.trans (hb.mono HB23.size)
    clear a_23 s_23 t_23 HB23 hb
    clear s_24
    clear t_24
    obtain ⟨⟨qa0, qa1, qa2⟩, -⟩ := id a_24
    have la := a_24.lt
    go_wp2_with fail
    clear la qa0 qa1 qa2
    clear hqR4
    obtain ⟨⟨PR5, MR5, XR5, CR5⟩, hR5⟩ : ∃ r, invR pa ma xa = r := ⟨_, rfl⟩
    have HR5 := Lib.hid hR5
    clear hR5
    have hC := InverseOfWitt_c (pa) (ma) _ (xa)  w24 a_24.2
    rw [HR5.out] at hC
    refine (wend4 hC).mono ?_
    clear hC
    rintro e w25 ⟨vv, rfl, hv, hb, hlv⟩
    have a_25 := a_24.below hb
    have HB25 := HB24.trans (hb.mono HB24.size)
    clear a_24 HB24 hb
    obtain ⟨ov, cv, rfl⟩ := hv.shape
    have rv := hv.rd
    clear hv
    clear hlv
    obtain ⟨⟨qa0, qa1, qa2⟩, -⟩ := id a_25
    have la := a_25.lt
    go_wp2_with fail
    clear la qa0 qa1 qa2
    have v_26 := (WB.mk1 w25 (PR5) (MR5) (.slice ov XR5.length cv) (XR5) rv 59).below (w' := w25.alloc (.cells #[.int .i64 PR5, .int .i64 MR5, .slice ov XR5.length cv] 59)) (by (repeat (first | exact Below.refl _ _ | (refine Below.setCell ?_ (by first | (simp; done) | (simp; omega) | omega) _) | (refine Below.alloc ?_ (by first | (simp; done) | (simp; omega) | omega) _) | (refine below_drewN ?_ _) | (refine Below.drew ?_))))
    have hbk0 : w25.heap.size = w25.heap.size := by simp
    rw [hbk0] at v_26
    clear hbk0
    have hb : Below w25.heap.size w25 (w25.alloc (.cells #[.int .i64 PR5, .int .i64 MR5, .slice ov XR5.length cv] 59)) := (by (repeat (first | exact Below.refl _ _ | (refine Below.setCell ?_ (by first | (simp; done) | (simp; omega) | omega) _) | (refine Below.alloc ?_ (by first | (simp; done) | (simp; omega) | omega) _) | (refine below_drewN ?_ _) | (refine Below.drew ?_))))
    have a_26 := a_25.below hb
    have HB26 := HB25.trans (hb.mono HB25.size)
    clear hb HB25 a_25
    generalize w25.alloc (.cells #[.int .i64 PR5, .int .i64 MR5, .slice ov XR5.length cv] 59) = w26 at a_26 v_26 HB26 ⊢
    clear rv
    have hC := sInverseOfWitt_c (pa) (ma) _ (xa)  w26 a_26.2
    rw [HR5.out] at hC
    refine (wend4 hC).mono ?_
    clear hC
    rintro e w27 ⟨vt, rfl, ht, hb, hlt⟩
    have a_27 := a_26.below hb
    have v_27 := v_26.below hb
    have HB27 := HB26.trans (hb.mono HB26.size)
    clear a_26 v_26 HB26 hb
    obtain ⟨ot, ct, rfl⟩ := ht.shape
    have rt := ht.rd
    clear ht
    clear hlt
    have hqR5 : (CR5 != CR5) = false := by simp
    obtain ⟨⟨qv0, qv1, qv2⟩, -⟩ := id v_27
    have lv := v_27.lt
    obtain ⟨⟨qa0, qa1, qa2⟩, -⟩ := id a_27
    have la := a_27.lt
    go_wp2_with fail
    clear lv qv0 qv1 qv2
    clear la qa0 qa1 qa2
    have t_28 := (WB.mk1 w27 (PR5) (MR5) (.slice ot XR5.length ct) (XR5) rt 59).below (w' := w27.alloc (.cells #[.int .i64 PR5, .int .i64 MR5, .slice ot XR5.length ct] 59)) (by (repeat (first | exact Below.refl _ _ | (refine Below.setCell ?_ (by first | (simp; done) | (simp; omega) | omega) _) | (refine Below.alloc ?_ (by first | (simp; done) | (simp; omega) | omega) _) | (refine below_drewN ?_ _) | (refine Below.drew ?_))))
    have hbk0 : w27.heap.size = w27.heap.size := by simp
    rw [hbk0] at t_28
    clear hbk0
    have hb : Below w27.heap.size w27 (w27.alloc (.cells #[.int .i64 PR5, .int .i64 MR5, .slice ot XR5.length ct] 59)) := (by (repeat (first | exact Below.refl _ _ | (refine Below.setCell ?_ (by first | (simp; done) | (simp; omega) | omega) _) | (refine Below.alloc ?_ (by first | (simp; done) | (simp; omega) | omega) _) | (refine below_drewN ?_ _) | (refine Below.drew ?_))))
    have a_28 := a_27.below hb
    have v_28 := v_27.below hb
    have HB28 := HB27.trans (hb.mono HB27.size)
    clear hb HB27 a_27 v_27
    generalize w27.alloc (.cells #[.int .i64 PR5, .int .i64 MR5, .slice ot XR5.length ct] 59) = w28 at a_28 v_28 t_28 HB28 ⊢
    clear rt
    refine (witt9_same (PR5) (MR5) _ _ (XR5) _ v_28.2 t_28.2).mono ?_
    rintro e w29 ⟨rfl, hb⟩
    have a_29 := a_28.below hb
    have v_29 := v_28.below hb
    have t_29 := t_28.below hb
    have HB29 := HB28.trans (hb.mono HB28.size)
    clear a_28 v_28 t_28 HB28 hb
    clear t_29
    by_cases hK : K1 = 0
    rotate_left
    · have hc5 := resid_bad HR1.out hK HR5.out
      go_wp2_with fail
      go_ret
      refine ⟨?_, HB29⟩
      simp [hc5]
    subst hK
    obtain ⟨rfl, ha, rfl⟩ := resid_good HR1.out
    have hn := ha.n
    have hm := witt_m ha.ok
    obtain ⟨⟨qa0, qa1, qa2⟩, -⟩ := id a_29
    have la := a_29.lt
    go_wp2_with fail
    clear hqR5
    have hp4 := witt_p ha.ok
    have HP4 := Lib.hid hp4
    clear hp4
    go_loop [35, 36] (fun s i => ∃ k : Nat, k ≤ xa.length ∧ i = .int .i64 k ∧ s = .int .i64 (ma ^ k)) (fun _ i => xa.length - (intOf i).toNat)
    case atStart => exact ⟨0, by omega, by go_num, by rw [Int.pow_zero]⟩
    rename_i hrel
    obtain ⟨k, hk, rfl, rfl⟩ := hrel
    by_cases hlt : k < xa.length
    · have i1 : (k : Int) < (xa.length : Int) := by omega
      have k4 : (k : Int) ≤ 4 := by omega
      have b1 := (pow_le4 HP4.out (show k + 1 ≤ 4 by omega))
      rw [Int.pow_succ] at b1
      have HS := Lib.hid (Int.pow_succ ma k)
      generalize ma ^ k = z at b1 HS ⊢
      obtain ⟨b1, b2⟩ := b1
      go_wp2_with fail
      exact ⟨⟨k + 1, by omega, by go_num, by rw [HS.out]⟩, by simp [intOf]; omega⟩
    obtain rfl : k = xa.length := by omega
    have hZ := pow_le4 HP4.out (show xa.length ≤ 4 by omega)
    obtain ⟨Z, hz⟩ : ∃ Z, ma ^ xa.length = Z := ⟨_, rfl⟩
    rw [hz] at hZ ⊢
    have HZ := Lib.hid hz
    clear hz
    obtain ⟨z1, z2⟩ := hZ
    go_wp2_with fail
    trace "before cut"
    go_cut [37, 38] (fun s37 s38 u => ∃ (wz : World) (bz : Nat) (o : Option Addr) (c : Nat) (r : Int) (xu : List Int), wz = u ∧ s37 = .pointer (some ⟨bz, 0, none⟩) ∧ s38 = .int .i64 0 ∧ 0 ≤ r ∧ r < Z ∧ wresR ma xa.length r = ⟨ma, ma, xu, 0⟩ ∧ WB u bz ma ma (.slice o xu.length c) xu ∧ Below w29.heap.size w29 u)
    case first =>
      as_aux_lemma =>
      have hlk := a_29.lt
      have hd0 : Below w29.heap.size w29 w29.drew := (Below.refl _ _).drew
      refine wp_region_K (S := fun w' => w'.cell? ⟨w1.heap.size, 0, none⟩ = some (.int .i64 ma) ∧ w'.cell? ⟨w1.heap.size, 2, none⟩ = some (.slice oa xa.length ca)) [12, 14, 15] (by as_aux_lemma => kernel_rfl) ?_
      have hHeld : (fun w' : World => w'.cell? ⟨w1.heap.size, 0, none⟩ = some (.int .i64 ma) ∧ w'.cell? ⟨w1.heap.size, 2, none⟩ = some (.slice oa xa.length ca)) w29.drew := by go_keep
      refine' wpAnyK_takeL (i := 0) (v := _) rfl (by as_aux_lemma => kernel_rfl) (by as_aux_lemma => kernel_rfl) (by as_aux_lemma => kernel_rfl) (by as_aux_lemma => kernel_rfl) (fun _ _ _ h => h) (Or.inl ⟨by rfl, ?yT1⟩) hHeld ?rT1
      case yT1 => (intro w' hSw; (try dsimp only at hSw); go_simp; try with_reducible rfl)
      try simp only [List.getElem_toArray, List.getElem_cons_zero, List.getElem_cons_succ, Act.put, List.setIfInBounds_toArray, List.set_cons_zero, List.set_cons_succ]
      refine' wpAnyK_takeL (i := 1) (v := _) rfl (by as_aux_lemma => kernel_rfl) (by as_aux_lemma => kernel_rfl) (by as_aux_lemma => kernel_rfl) (by as_aux_lemma => kernel_rfl) (fun _ _ _ h => h) (Or.inl ⟨by rfl, ?yT2⟩) hHeld ?rT2
      case yT2 => (intro w' hSw; (try dsimp only at hSw); go_simp; try with_reducible rfl)
      try simp only [List.getElem_toArray, List.getElem_cons_zero, List.getElem_cons_succ, Act.put, List.setIfInBounds_toArray, List.set_cons_zero, List.set_cons_succ]
      refine' wpAnyK_takeL (i := 2) (v := _) rfl (by as_aux_lemma => kernel_rfl) (by as_aux_lemma => kernel_rfl) (by as_aux_lemma => kernel_rfl) (by as_aux_lemma => kernel_rfl) (fun _ _ _ h => h) (Or.inl ⟨by rfl, ?yT3⟩) hHeld ?rT3
      case yT3 => (intro w' hSw; (try dsimp only at hSw); go_simp; try with_reducible rfl)
      try simp only [List.getElem_toArray, List.getElem_cons_zero, List.getElem_cons_succ, Act.put, List.setIfInBounds_toArray, List.set_cons_zero, List.set_cons_succ]
      refine' wpAnyK_takeL (i := 3) (v := _) rfl (by as_aux_lemma => kernel_rfl) (by as_aux_lemma => kernel_rfl) (by as_aux_lemma => kernel_rfl) (by as_aux_lemma => kernel_rfl) (fun _ _ _ h => h) (Or.inl ⟨by rfl, ?yT4⟩) hHeld ?rT4
      case yT4 => (intro w' hSw; (try dsimp only at hSw); go_simp; try with_reducible rfl)
      try simp only [List.getElem_toArray, List.getElem_cons_zero, List.getElem_cons_succ, Act.put, List.setIfInBounds_toArray, List.set_cons_zero, List.set_cons_succ]
      refine' wpAnyK_takeL (i := 4) (v := _) rfl (by as_aux_lemma => kernel_rfl) (by as_aux_lemma => kernel_rfl) (by as_aux_lemma => kernel_rfl) (by as_aux_lemma => kernel_rfl) (fun _ _ _ h => h) (Or.inl ⟨by rfl, ?yT5⟩) hHeld ?rT5
      case yT5 => (intro w' hSw; (try dsimp only at hSw); go_simp; try with_reducible rfl)
      try simp only [List.getElem_toArray, List.getElem_cons_zero, List.getElem_cons_succ, Act.put, List.setIfInBounds_toArray, List.set_cons_zero, List.set_cons_succ]
      refine' wpAnyK_takeL (i := 5) (v := _) rfl (by as_aux_lemma => kernel_rfl) (by as_aux_lemma => kernel_rfl) (by as_aux_lemma => kernel_rfl) (by as_aux_lemma => kernel_rfl) (fun _ _ _ h => h) (Or.inl ⟨by rfl, ?yT6⟩) hHeld ?rT6
      case yT6 => (intro w' hSw; (try dsimp only at hSw); go_simp; try with_reducible rfl)
      try simp only [List.getElem_toArray, List.getElem_cons_zero, List.getElem_cons_succ, Act.put, List.setIfInBounds_toArray, List.set_cons_zero, List.set_cons_succ]
      refine' wpAnyK_takeL (i := 7) (v := _) rfl (by as_aux_lemma => kernel_rfl) (by as_aux_lemma => kernel_rfl) (by as_aux_lemma => kernel_rfl) (by as_aux_lemma => kernel_rfl) (fun _ _ _ h => h) (Or.inl ⟨by rfl, ?yT7⟩) hHeld ?rT7
      case yT7 => (intro w' hSw; (try dsimp only at hSw); go_simp; try with_reducible rfl)
      try simp only [List.getElem_toArray, List.getElem_cons_zero, List.getElem_cons_succ, Act.put, List.setIfInBounds_toArray, List.set_cons_zero, List.set_cons_succ]
      refine wpAnyK_two (i := 6) (j := 13) rfl rfl (by as_aux_lemma => kernel_rfl) (fun K hK => ?_) (fun K hK => ?_)
      · as_aux_lemma =>
        go_simp
        go_at_call 52
        have hbp : Below w29.heap.size w29 (w29.drew) := (by (repeat (first | exact Below.refl _ _ | (refine Below.setCell ?_ (by first | (simp; done) | (simp; omega) | omega) _) | (refine Below.alloc ?_ (by first | (simp; done) | (simp; omega) | omega) _) | (refine below_drewN ?_ _) | (refine Below.drew ?_))))
        have hzp := hbp.size
        refine (roll_c w0.heap.size n _ 7015 (w29.drew) (HV.out.keep (fun j hj => (HB29.trans (hbp.mono HB29.size)).block j hj)) (by have := HB29.size; omega)).mono ?_
        rintro e wr ⟨d, rfl, hs, hbr⟩
        have hdr : Below w29.heap.size w29 wr := (by (repeat (first | exact Below.refl _ _ | (refine Below.setCell ?_ (by first | (simp; done) | (simp; omega) | omega) _) | (refine Below.alloc ?_ (by first | (simp; done) | (simp; omega) | omega) _) | (refine below_drewN ?_ _) | (refine Below.drew ?_) | (refine Below.trans ?_ (Below.mono hbr (by first | (simp; done) | (simp; omega) | omega))))))
        have hd0 := hs.1
        have hz6 := hbr.size
        have hd1 := hs.lt
        obtain ⟨Bs, hs⟩ : ∃ B, Src wr B n d := ⟨_, hs⟩
        have hdB := hs.1
        have hsr := hdr.size
        obtain ⟨⟨fr0, fr1, fr2⟩, -⟩ := a_29.below hdr
        clear hbp
        go_wp2_with fail
        clear hHeld
        have hHeld : (fun w' : World => w'.cell? ⟨w1.heap.size, 0, none⟩ = some (.int .i64 ma) ∧ w'.cell? ⟨w1.heap.size, 2, none⟩ = some (.slice oa xa.length ca)) wr := by go_keep
        refine hK.out _ _ (fun _ => hHeld) ?_
        clear hK K
        try simp only [List.getElem_toArray, List.getElem_cons_zero, List.getElem_cons_succ, Act.put, List.setIfInBounds_toArray, List.set_cons_zero, List.set_cons_succ]
        refine wpAnyK_two (i := 8) (j := 13) rfl rfl (by as_aux_lemma => kernel_rfl) (fun K hK => ?_) (fun K hK => ?_)
        · as_aux_lemma =>
          go_simp
          go_at_call 70
          have hs8 : Src (wr) Bs n d := by (first | with_reducible exact hs | exact hs.below hba (by omega))
          refine (dice_d Bs n d Z _ hs8).mono ?_
          rintro e wd ⟨r, rfl, r0, r1, r2, hdd, hzd⟩
          have r1 := r1 (by omega)
          clear r2 hzd
          have hbd : Below w29.heap.size (wr) wd := hdd.to (by omega)
          have hddw : Below w29.heap.size w29 wd := (by (repeat (first | exact Below.refl _ _ | (refine Below.setCell ?_ (by first | (simp; done) | (simp; omega) | omega) _) | (refine Below.alloc ?_ (by first | (simp; done) | (simp; omega) | omega) _) | (refine below_drewN ?_ _) | (refine Below.drew ?_) | (refine Below.trans ?_ (Below.mono hbr (by first | (simp; done) | (simp; omega) | omega))) | (refine Below.trans ?_ (Below.mono hbd (by first | (simp; done) | (simp; omega) | omega))))))
          have hsd := hddw.size
          have hsd8 := hbd.size
          obtain ⟨⟨fd0, fd1, fd2⟩, -⟩ := a_29.below hddw
          go_wp2_with fail
          clear hHeld
          have hHeld : (fun w' : World => w'.cell? ⟨w1.heap.size, 0, none⟩ = some (.int .i64 ma) ∧ w'.cell? ⟨w1.heap.size, 2, none⟩ = some (.slice oa xa.length ca)) wd := by go_keep
          refine hK.out _ _ (fun _ => hHeld) ?_
          clear hK K
          try simp only [List.getElem_toArray, List.getElem_cons_zero, List.getElem_cons_succ, Act.put, List.setIfInBounds_toArray, List.set_cons_zero, List.set_cons_succ]
          refine wpAnyK_two (i := 9) (j := 13) rfl rfl (by as_aux_lemma => kernel_rfl) (fun K hK => ?_) (fun K hK => ?_)
          · as_aux_lemma =>
            go_simp
            go_at_call 87
            obtain ⟨xu, xs, xt, e1, e2, e3, e4, e5, e6⟩ := residues_all ha r0 (by rw [HZ.out]; exact r1)
            have HE1 := Lib.hid e1
            clear e1 e2 e3 e4 e5 e6
            have hC := WittOfResidue_c ma xa.length r (wd)
            rw [HE1.out] at hC
            refine (wend4 hC).mono ?_
            clear hC
            rintro e wt ⟨vt, rfl, hOt, hbt, hlt9⟩
            obtain ⟨ot, ct, rfl⟩ := hOt.shape
            have hz9 := hbt.size
            have hdt : Below w29.heap.size w29 wt := (by (repeat (first | exact Below.refl _ _ | (refine Below.setCell ?_ (by first | (simp; done) | (simp; omega) | omega) _) | (refine Below.alloc ?_ (by first | (simp; done) | (simp; omega) | omega) _) | (refine below_drewN ?_ _) | (refine Below.drew ?_) | (refine Below.trans ?_ (Below.mono hbr (by first | (simp; done) | (simp; omega) | omega))) | (refine Below.trans ?_ (Below.mono hbd (by first | (simp; done) | (simp; omega) | omega))) | (refine Below.trans ?_ (Below.mono hbt (by first | (simp; done) | (simp; omega) | omega))))))
            have hst := hdt.size
            obtain ⟨⟨ft0, ft1, ft2⟩, -⟩ := a_29.below hdt
            go_wp2_with fail
            clear hHeld
            have hHeld : (fun w' : World => w'.cell? ⟨w1.heap.size, 0, none⟩ = some (.int .i64 ma) ∧ w'.cell? ⟨w1.heap.size, 2, none⟩ = some (.slice oa xa.length ca)) wt := by go_keep
            refine hK.out _ _ (fun _ => hHeld) ?_
            clear hK K
            try simp only [List.getElem_toArray, List.getElem_cons_zero, List.getElem_cons_succ, Act.put, List.setIfInBounds_toArray, List.set_cons_zero, List.set_cons_succ]
            refine' wpAnyK_takeL (i := 10) (v := _) rfl (by as_aux_lemma => kernel_rfl) (by as_aux_lemma => kernel_rfl) (by as_aux_lemma => kernel_rfl) (by as_aux_lemma => kernel_rfl) (fun _ _ _ h => h) (Or.inl ⟨by rfl, ?yT8⟩) hHeld ?rT8
            case yT8 => (intro w' hSw; (try dsimp only at hSw); go_simp; try with_reducible rfl)
            try simp only [List.getElem_toArray, List.getElem_cons_zero, List.getElem_cons_succ, Act.put, List.setIfInBounds_toArray, List.set_cons_zero, List.set_cons_succ]
            refine' wpAnyK_pureL (i := 12) (v := _) rfl (by as_aux_lemma => kernel_rfl) (by as_aux_lemma => kernel_rfl) (by as_aux_lemma => kernel_rfl) (by as_aux_lemma => kernel_rfl) (fun _ _ _ h => h) (Or.inl ⟨by rfl, ?yT9⟩) ?rT9
            case yT9 => (intro w' _; go_simp; try with_reducible rfl)
            try simp only [List.getElem_toArray, List.getElem_cons_zero, List.getElem_cons_succ, Act.put, List.setIfInBounds_toArray, List.set_cons_zero, List.set_cons_succ]
            refine' wpAnyK_takeL (i := 11) (v := _) rfl (by as_aux_lemma => kernel_rfl) (by as_aux_lemma => kernel_rfl) (by as_aux_lemma => kernel_rfl) (by as_aux_lemma => kernel_rfl) (fun _ _ _ h => h) (Or.inl ⟨by rfl, ?yT10⟩) hHeld ?rT10
            case yT10 => (intro w' hSw; (try dsimp only at hSw); go_simp; try with_reducible rfl)
            try simp only [List.getElem_toArray, List.getElem_cons_zero, List.getElem_cons_succ, Act.put, List.setIfInBounds_toArray, List.set_cons_zero, List.set_cons_succ]
            refine wpAnyK_oneL (i := 13) rfl (by as_aux_lemma => kernel_rfl) (fun K hK => ?_)
            go_simp
            obtain ⟨wa, hwa⟩ : ∃ x : World, x = (wt).alloc (.cells #[.int .i64 0, .int .i64 0, .slice none 0 0] 59) := ⟨_, rfl⟩
            have hba : Below (wt).heap.size (wt) wa := by rw [hwa]; exact (by (repeat (first | exact Below.refl _ _ | (refine Below.setCell ?_ (by first | (simp; done) | (simp; omega) | omega) _) | (refine Below.alloc ?_ (by first | (simp; done) | (simp; omega) | omega) _) | (refine below_drewN ?_ _) | (refine Below.drew ?_))))
            have A13 : RB3 wa wt.heap.size (.int .i64 0) (.int .i64 0) (.slice none 0 0) := by rw [hwa]; exact RB3.mk1 (wt) _ _ _ _
            have ha13 : wt.heap.size < wa.heap.size := A13.1.lt
            have hda : Below w29.heap.size w29 wa := (by (repeat (first | exact Below.refl _ _ | (refine Below.setCell ?_ (by first | (simp; done) | (simp; omega) | omega) _) | (refine Below.alloc ?_ (by first | (simp; done) | (simp; omega) | omega) _) | (refine below_drewN ?_ _) | (refine Below.drew ?_) | (refine Below.trans ?_ (Below.mono hbr (by first | (simp; done) | (simp; omega) | omega))) | (refine Below.trans ?_ (Below.mono hbd (by first | (simp; done) | (simp; omega) | omega))) | (refine Below.trans ?_ (Below.mono hbt (by first | (simp; done) | (simp; omega) | omega))) | (refine Below.trans ?_ (Below.mono hba (by first | (simp; done) | (simp; omega) | omega))))))
            have hsa := hda.size
            obtain ⟨⟨fa0, fa1, fa2⟩, -⟩ := a_29.below hda
            rw [← hwa]
            clear hwa
            clear hHeld
            have hHeld : (fun w' : World => w'.cell? ⟨w1.heap.size, 0, none⟩ = some (.int .i64 ma) ∧ w'.cell? ⟨w1.heap.size, 2, none⟩ = some (.slice oa xa.length ca)) wa := by go_keep
            refine hK.out _ _ (fun _ => hHeld) ?_
            clear hK K
            try simp only [List.getElem_toArray, List.getElem_cons_zero, List.getElem_cons_succ, Act.put, List.setIfInBounds_toArray, List.set_cons_zero, List.set_cons_succ]
            refine wpAnyK_oneL (i := 14) rfl (by as_aux_lemma => kernel_rfl) (fun K hK => ?_)
            have RZ : RB3 (wa) wt.heap.size (.int .i64 0) (.int .i64 0) (.slice none 0 0) := by first | exact A13 | exact A13.below hbt (Nat.le_refl _) | exact (A13.chg hdd.chg (.inr (by omega))).below hbt (Nat.le_refl _) | exact ((A13.below hbr (Nat.le_refl _)).chg hdd.chg (.inl (by omega))).below hbt (Nat.le_refl _)
            have OT : OwI (wa) wd.heap.size (.slice ot xu.length ct) xu := by (first | with_reducible exact hOt | exact hOt.below hba)
            have hOl := hOt.lt
            have hlz := RZ.1.lt
            obtain ⟨⟨z0, z1, z2⟩, zf⟩ := id RZ
            go_simp
            (try go_wp2_with fail)
            refine hK.out _ _ (fun h => absurd h (by decide)) ?_
            clear hK K
            try simp only [List.getElem_toArray, List.getElem_cons_zero, List.getElem_cons_succ, Act.put, List.setIfInBounds_toArray, List.set_cons_zero, List.set_cons_succ]
            refine wpAnyK_oneL (i := 15) rfl (by as_aux_lemma => kernel_rfl) (fun K hK => ?_)
            go_simp
            (try go_wp2_with fail)
            refine hK.out _ _ (fun h => absurd h (by decide)) ?_
            clear hK K
            try simp only [List.getElem_toArray, List.getElem_cons_zero, List.getElem_cons_succ, Act.put, List.setIfInBounds_toArray, List.set_cons_zero, List.set_cons_succ]
            refine wpAnyK_done (by as_aux_lemma => kernel_rfl) ?_ _
            go_wp2_with fail
            go_meet
            refine ⟨_, _, ot, ct, r, xu, rfl, rfl, rfl, r0, r1, HE1.out, ⟨(RB3.put RZ _ _ _).1, ?_⟩, ?_⟩
            · exact (((OT.ne (fun j hj => by have h := hOl j hj; omega) _).ne (fun j hj => by have h := hOl j hj; omega) _).ne (fun j hj => by have h := hOl j hj; omega) _).rd
            · (refine below_put (below_put (below_put ?_ (by omega) _) (by omega) _) (by omega) _; exact (by (repeat (first | exact Below.refl _ _ | (refine Below.setCell ?_ (by first | (simp; done) | (simp; omega) | omega) _) | (refine Below.alloc ?_ (by first | (simp; done) | (simp; omega) | omega) _) | (refine below_drewN ?_ _) | (refine Below.drew ?_) | (refine Below.trans ?_ (Below.mono hbr (by first | (simp; done) | (simp; omega) | omega))) | (refine Below.trans ?_ (Below.mono hbd (by first | (simp; done) | (simp; omega) | omega))) | (refine Below.trans ?_ (Below.mono hbt (by first | (simp; done) | (simp; omega) | omega))) | (refine Below.trans ?_ (Below.mono hba (by first | (simp; done) | (simp; omega) | omega)))))))
          · as_aux_lemma =>
            go_simp
            obtain ⟨wa, hwa⟩ : ∃ x : World, x = (wd).alloc (.cells #[.int .i64 0, .int .i64 0, .slice none 0 0] 59) := ⟨_, rfl⟩
            have hba : Below (wd).heap.size (wd) wa := by rw [hwa]; exact (by (repeat (first | exact Below.refl _ _ | (refine Below.setCell ?_ (by first | (simp; done) | (simp; omega) | omega) _) | (refine Below.alloc ?_ (by first | (simp; done) | (simp; omega) | omega) _) | (refine below_drewN ?_ _) | (refine Below.drew ?_))))
            have A13 : RB3 wa wd.heap.size (.int .i64 0) (.int .i64 0) (.slice none 0 0) := by rw [hwa]; exact RB3.mk1 (wd) _ _ _ _
            have ha13 : wd.heap.size < wa.heap.size := A13.1.lt
            have hda : Below w29.heap.size w29 wa := (by (repeat (first | exact Below.refl _ _ | (refine Below.setCell ?_ (by first | (simp; done) | (simp; omega) | omega) _) | (refine Below.alloc ?_ (by first | (simp; done) | (simp; omega) | omega) _) | (refine below_drewN ?_ _) | (refine Below.drew ?_) | (refine Below.trans ?_ (Below.mono hbr (by first | (simp; done) | (simp; omega) | omega))) | (refine Below.trans ?_ (Below.mono hbd (by first | (simp; done) | (simp; omega) | omega))) | (refine Below.trans ?_ (Below.mono hba (by first | (simp; done) | (simp; omega) | omega))))))
            have hsa := hda.size
            obtain ⟨⟨fa0, fa1, fa2⟩, -⟩ := a_29.below hda
            rw [← hwa]
            clear hwa
            clear hHeld
            have hHeld : (fun w' : World => w'.cell? ⟨w1.heap.size, 0, none⟩ = some (.int .i64 ma) ∧ w'.cell? ⟨w1.heap.size, 2, none⟩ = some (.slice oa xa.length ca)) wa := by go_keep
            refine hK.out _ _ (fun _ => hHeld) ?_
            clear hK K
            try simp only [List.getElem_toArray, List.getElem_cons_zero, List.getElem_cons_succ, Act.put, List.setIfInBounds_toArray, List.set_cons_zero, List.set_cons_succ]
            refine wpAnyK_oneL (i := 9) rfl (by as_aux_lemma => kernel_rfl) (fun K hK => ?_)
            go_simp
            go_at_call 87
            obtain ⟨xu, xs, xt, e1, e2, e3, e4, e5, e6⟩ := residues_all ha r0 (by rw [HZ.out]; exact r1)
            have HE1 := Lib.hid e1
            clear e1 e2 e3 e4 e5 e6
            have hC := WittOfResidue_c ma xa.length r (wa)
            rw [HE1.out] at hC
            refine (wend4 hC).mono ?_
            clear hC
            rintro e wt ⟨vt, rfl, hOt, hbt, hlt9⟩
            obtain ⟨ot, ct, rfl⟩ := hOt.shape
            have hz9 := hbt.size
            have hdt : Below w29.heap.size w29 wt := (by (repeat (first | exact Below.refl _ _ | (refine Below.setCell ?_ (by first | (simp; done) | (simp; omega) | omega) _) | (refine Below.alloc ?_ (by first | (simp; done) | (simp; omega) | omega) _) | (refine below_drewN ?_ _) | (refine Below.drew ?_) | (refine Below.trans ?_ (Below.mono hbr (by first | (simp; done) | (simp; omega) | omega))) | (refine Below.trans ?_ (Below.mono hbd (by first | (simp; done) | (simp; omega) | omega))) | (refine Below.trans ?_ (Below.mono hba (by first | (simp; done) | (simp; omega) | omega))) | (refine Below.trans ?_ (Below.mono hbt (by first | (simp; done) | (simp; omega) | omega))))))
            have hst := hdt.size
            obtain ⟨⟨ft0, ft1, ft2⟩, -⟩ := a_29.below hdt
            go_wp2_with fail
            clear hHeld
            have hHeld : (fun w' : World => w'.cell? ⟨w1.heap.size, 0, none⟩ = some (.int .i64 ma) ∧ w'.cell? ⟨w1.heap.size, 2, none⟩ = some (.slice oa xa.length ca)) wt := by go_keep
            refine hK.out _ _ (fun _ => hHeld) ?_
            clear hK K
            try simp only [List.getElem_toArray, List.getElem_cons_zero, List.getElem_cons_succ, Act.put, List.setIfInBounds_toArray, List.set_cons_zero, List.set_cons_succ]
            refine' wpAnyK_takeL (i := 10) (v := _) rfl (by as_aux_lemma => kernel_rfl) (by as_aux_lemma => kernel_rfl) (by as_aux_lemma => kernel_rfl) (by as_aux_lemma => kernel_rfl) (fun _ _ _ h => h) (Or.inl ⟨by rfl, ?yT11⟩) hHeld ?rT11
            case yT11 => (intro w' hSw; (try dsimp only at hSw); go_simp; try with_reducible rfl)
            try simp only [List.getElem_toArray, List.getElem_cons_zero, List.getElem_cons_succ, Act.put, List.setIfInBounds_toArray, List.set_cons_zero, List.set_cons_succ]
            refine' wpAnyK_pureL (i := 12) (v := _) rfl (by as_aux_lemma => kernel_rfl) (by as_aux_lemma => kernel_rfl) (by as_aux_lemma => kernel_rfl) (by as_aux_lemma => kernel_rfl) (fun _ _ _ h => h) (Or.inl ⟨by rfl, ?yT12⟩) ?rT12
            case yT12 => (intro w' _; go_simp; try with_reducible rfl)
            try simp only [List.getElem_toArray, List.getElem_cons_zero, List.getElem_cons_succ, Act.put, List.setIfInBounds_toArray, List.set_cons_zero, List.set_cons_succ]
            refine' wpAnyK_takeL (i := 11) (v := _) rfl (by as_aux_lemma => kernel_rfl) (by as_aux_lemma => kernel_rfl) (by as_aux_lemma => kernel_rfl) (by as_aux_lemma => kernel_rfl) (fun _ _ _ h => h) (Or.inl ⟨by rfl, ?yT13⟩) hHeld ?rT13
            case yT13 => (intro w' hSw; (try dsimp only at hSw); go_simp; try with_reducible rfl)
            try simp only [List.getElem_toArray, List.getElem_cons_zero, List.getElem_cons_succ, Act.put, List.setIfInBounds_toArray, List.set_cons_zero, List.set_cons_succ]
            refine wpAnyK_oneL (i := 14) rfl (by as_aux_lemma => kernel_rfl) (fun K hK => ?_)
            have RZ : RB3 (wt) wd.heap.size (.int .i64 0) (.int .i64 0) (.slice none 0 0) := by first | exact A13 | exact A13.below hbt (Nat.le_refl _) | exact (A13.chg hdd.chg (.inr (by omega))).below hbt (Nat.le_refl _) | exact ((A13.below hbr (Nat.le_refl _)).chg hdd.chg (.inl (by omega))).below hbt (Nat.le_refl _)
            have OT : OwI (wt) wa.heap.size (.slice ot xu.length ct) xu := by (first | with_reducible exact hOt | exact hOt.below hba)
            have hOl := hOt.lt
            have hlz := RZ.1.lt
            obtain ⟨⟨z0, z1, z2⟩, zf⟩ := id RZ
            go_simp
            (try go_wp2_with fail)
            refine hK.out _ _ (fun h => absurd h (by decide)) ?_
            clear hK K
            try simp only [List.getElem_toArray, List.getElem_cons_zero, List.getElem_cons_succ, Act.put, List.setIfInBounds_toArray, List.set_cons_zero, List.set_cons_succ]
            refine wpAnyK_oneL (i := 15) rfl (by as_aux_lemma => kernel_rfl) (fun K hK => ?_)
            go_simp
            (try go_wp2_with fail)
            refine hK.out _ _ (fun h => absurd h (by decide)) ?_
            clear hK K
            try simp only [List.getElem_toArray, List.getElem_cons_zero, List.getElem_cons_succ, Act.put, List.setIfInBounds_toArray, List.set_cons_zero, List.set_cons_succ]
            refine wpAnyK_done (by as_aux_lemma => kernel_rfl) ?_ _
            go_wp2_with fail
            go_meet
            refine ⟨_, _, ot, ct, r, xu, rfl, rfl, rfl, r0, r1, HE1.out, ⟨(RB3.put RZ _ _ _).1, ?_⟩, ?_⟩
            · exact (((OT.ne (fun j hj => by have h := hOl j hj; omega) _).ne (fun j hj => by have h := hOl j hj; omega) _).ne (fun j hj => by have h := hOl j hj; omega) _).rd
            · (refine below_put (below_put (below_put ?_ (by omega) _) (by omega) _) (by omega) _; exact (by (repeat (first | exact Below.refl _ _ | (refine Below.setCell ?_ (by first | (simp; done) | (simp; omega) | omega) _) | (refine Below.alloc ?_ (by first | (simp; done) | (simp; omega) | omega) _) | (refine below_drewN ?_ _) | (refine Below.drew ?_) | (refine Below.trans ?_ (Below.mono hbr (by first | (simp; done) | (simp; omega) | omega))) | (refine Below.trans ?_ (Below.mono hbd (by first | (simp; done) | (simp; omega) | omega))) | (refine Below.trans ?_ (Below.mono hba (by first | (simp; done) | (simp; omega) | omega))) | (refine Below.trans ?_ (Below.mono hbt (by first | (simp; done) | (simp; omega) | omega)))))))
        · as_aux_lemma =>
          go_simp
          obtain ⟨wa, hwa⟩ : ∃ x : World, x = (wr).alloc (.cells #[.int .i64 0, .int .i64 0, .slice none 0 0] 59) := ⟨_, rfl⟩
          have hba : Below (wr).heap.size (wr) wa := by rw [hwa]; exact (by (repeat (first | exact Below.refl _ _ | (refine Below.setCell ?_ (by first | (simp; done) | (simp; omega) | omega) _) | (refine Below.alloc ?_ (by first | (simp; done) | (simp; omega) | omega) _) | (refine below_drewN ?_ _) | (refine Below.drew ?_))))
          have A13 : RB3 wa wr.heap.size (.int .i64 0) (.int .i64 0) (.slice none 0 0) := by rw [hwa]; exact RB3.mk1 (wr) _ _ _ _
          have ha13 : wr.heap.size < wa.heap.size := A13.1.lt
          have hda : Below w29.heap.size w29 wa := (by (repeat (first | exact Below.refl _ _ | (refine Below.setCell ?_ (by first | (simp; done) | (simp; omega) | omega) _) | (refine Below.alloc ?_ (by first | (simp; done) | (simp; omega) | omega) _) | (refine below_drewN ?_ _) | (refine Below.drew ?_) | (refine Below.trans ?_ (Below.mono hbr (by first | (simp; done) | (simp; omega) | omega))) | (refine Below.trans ?_ (Below.mono hba (by first | (simp; done) | (simp; omega) | omega))))))
          have hsa := hda.size
          obtain ⟨⟨fa0, fa1, fa2⟩, -⟩ := a_29.below hda
          rw [← hwa]
          clear hwa
          clear hHeld
          have hHeld : (fun w' : World => w'.cell? ⟨w1.heap.size, 0, none⟩ = some (.int .i64 ma) ∧ w'.cell? ⟨w1.heap.size, 2, none⟩ = some (.slice oa xa.length ca)) wa := by go_keep
          refine hK.out _ _ (fun _ => hHeld) ?_
          clear hK K
          try simp only [List.getElem_toArray, List.getElem_cons_zero, List.getElem_cons_succ, Act.put, List.setIfInBounds_toArray, List.set_cons_zero, List.set_cons_succ]
          refine wpAnyK_oneL (i := 8) rfl (by as_aux_lemma => kernel_rfl) (fun K hK => ?_)
          go_simp
          go_at_call 70
          have hs8 : Src (wa) Bs n d := by (first | with_reducible exact hs | exact hs.below hba (by omega))
          refine (dice_d Bs n d Z _ hs8).mono ?_
          rintro e wd ⟨r, rfl, r0, r1, r2, hdd, hzd⟩
          have r1 := r1 (by omega)
          clear r2 hzd
          have hbd : Below w29.heap.size (wa) wd := hdd.to (by omega)
          have hddw : Below w29.heap.size w29 wd := (by (repeat (first | exact Below.refl _ _ | (refine Below.setCell ?_ (by first | (simp; done) | (simp; omega) | omega) _) | (refine Below.alloc ?_ (by first | (simp; done) | (simp; omega) | omega) _) | (refine below_drewN ?_ _) | (refine Below.drew ?_) | (refine Below.trans ?_ (Below.mono hbr (by first | (simp; done) | (simp; omega) | omega))) | (refine Below.trans ?_ (Below.mono hba (by first | (simp; done) | (simp; omega) | omega))) | (refine Below.trans ?_ (Below.mono hbd (by first | (simp; done) | (simp; omega) | omega))))))
          have hsd := hddw.size
          have hsd8 := hbd.size
          obtain ⟨⟨fd0, fd1, fd2⟩, -⟩ := a_29.below hddw
          go_wp2_with fail
          clear hHeld
          have hHeld : (fun w' : World => w'.cell? ⟨w1.heap.size, 0, none⟩ = some (.int .i64 ma) ∧ w'.cell? ⟨w1.heap.size, 2, none⟩ = some (.slice oa xa.length ca)) wd := by go_keep
          refine hK.out _ _ (fun _ => hHeld) ?_
          clear hK K
          try simp only [List.getElem_toArray, List.getElem_cons_zero, List.getElem_cons_succ, Act.put, List.setIfInBounds_toArray, List.set_cons_zero, List.set_cons_succ]
          refine wpAnyK_oneL (i := 9) rfl (by as_aux_lemma => kernel_rfl) (fun K hK => ?_)
          go_simp
          go_at_call 87
          obtain ⟨xu, xs, xt, e1, e2, e3, e4, e5, e6⟩ := residues_all ha r0 (by rw [HZ.out]; exact r1)
          have HE1 := Lib.hid e1
          clear e1 e2 e3 e4 e5 e6
          have hC := WittOfResidue_c ma xa.length r (wd)
          rw [HE1.out] at hC
          refine (wend4 hC).mono ?_
          clear hC
          rintro e wt ⟨vt, rfl, hOt, hbt, hlt9⟩
          obtain ⟨ot, ct, rfl⟩ := hOt.shape
          have hz9 := hbt.size
          have hdt : Below w29.heap.size w29 wt := (by (repeat (first | exact Below.refl _ _ | (refine Below.setCell ?_ (by first | (simp; done) | (simp; omega) | omega) _) | (refine Below.alloc ?_ (by first | (simp; done) | (simp; omega) | omega) _) | (refine below_drewN ?_ _) | (refine Below.drew ?_) | (refine Below.trans ?_ (Below.mono hbr (by first | (simp; done) | (simp; omega) | omega))) | (refine Below.trans ?_ (Below.mono hba (by first | (simp; done) | (simp; omega) | omega))) | (refine Below.trans ?_ (Below.mono hbd (by first | (simp; done) | (simp; omega) | omega))) | (refine Below.trans ?_ (Below.mono hbt (by first | (simp; done) | (simp; omega) | omega))))))
          have hst := hdt.size
          obtain ⟨⟨ft0, ft1, ft2⟩, -⟩ := a_29.below hdt
          go_wp2_with fail
          clear hHeld
          have hHeld : (fun w' : World => w'.cell? ⟨w1.heap.size, 0, none⟩ = some (.int .i64 ma) ∧ w'.cell? ⟨w1.heap.size, 2, none⟩ = some (.slice oa xa.length ca)) wt := by go_keep
          refine hK.out _ _ (fun _ => hHeld) ?_
          clear hK K
          try simp only [List.getElem_toArray, List.getElem_cons_zero, List.getElem_cons_succ, Act.put, List.setIfInBounds_toArray, List.set_cons_zero, List.set_cons_succ]
          refine' wpAnyK_takeL (i := 10) (v := _) rfl (by as_aux_lemma => kernel_rfl) (by as_aux_lemma => kernel_rfl) (by as_aux_lemma => kernel_rfl) (by as_aux_lemma => kernel_rfl) (fun _ _ _ h => h) (Or.inl ⟨by rfl, ?yT14⟩) hHeld ?rT14
          case yT14 => (intro w' hSw; (try dsimp only at hSw); go_simp; try with_reducible rfl)
          try simp only [List.getElem_toArray, List.getElem_cons_zero, List.getElem_cons_succ, Act.put, List.setIfInBounds_toArray, List.set_cons_zero, List.set_cons_succ]
          refine' wpAnyK_pureL (i := 12) (v := _) rfl (by as_aux_lemma => kernel_rfl) (by as_aux_lemma => kernel_rfl) (by as_aux_lemma => kernel_rfl) (by as_aux_lemma => kernel_rfl) (fun _ _ _ h => h) (Or.inl ⟨by rfl, ?yT15⟩) ?rT15
          case yT15 => (intro w' _; go_simp; try with_reducible rfl)
          try simp only [List.getElem_toArray, List.getElem_cons_zero, List.getElem_cons_succ, Act.put, List.setIfInBounds_toArray, List.set_cons_zero, List.set_cons_succ]
          refine' wpAnyK_takeL (i := 11) (v := _) rfl (by as_aux_lemma => kernel_rfl) (by as_aux_lemma => kernel_rfl) (by as_aux_lemma => kernel_rfl) (by as_aux_lemma => kernel_rfl) (fun _ _ _ h => h) (Or.inl ⟨by rfl, ?yT16⟩) hHeld ?rT16
          case yT16 => (intro w' hSw; (try dsimp only at hSw); go_simp; try with_reducible rfl)
          try simp only [List.getElem_toArray, List.getElem_cons_zero, List.getElem_cons_succ, Act.put, List.setIfInBounds_toArray, List.set_cons_zero, List.set_cons_succ]
          refine wpAnyK_oneL (i := 14) rfl (by as_aux_lemma => kernel_rfl) (fun K hK => ?_)
          have RZ : RB3 (wt) wr.heap.size (.int .i64 0) (.int .i64 0) (.slice none 0 0) := by first | exact A13 | exact A13.below hbt (Nat.le_refl _) | exact (A13.chg hdd.chg (.inr (by omega))).below hbt (Nat.le_refl _) | exact ((A13.below hbr (Nat.le_refl _)).chg hdd.chg (.inl (by omega))).below hbt (Nat.le_refl _)
          have OT : OwI (wt) wd.heap.size (.slice ot xu.length ct) xu := by (first | with_reducible exact hOt | exact hOt.below hba)
          have hOl := hOt.lt
          have hlz := RZ.1.lt
          obtain ⟨⟨z0, z1, z2⟩, zf⟩ := id RZ
          go_simp
          (try go_wp2_with fail)
          refine hK.out _ _ (fun h => absurd h (by decide)) ?_
          clear hK K
          try simp only [List.getElem_toArray, List.getElem_cons_zero, List.getElem_cons_succ, Act.put, List.setIfInBounds_toArray, List.set_cons_zero, List.set_cons_succ]
          refine wpAnyK_oneL (i := 15) rfl (by as_aux_lemma => kernel_rfl) (fun K hK => ?_)
          go_simp
          (try go_wp2_with fail)
          refine hK.out _ _ (fun h => absurd h (by decide)) ?_
          clear hK K
          try simp only [List.getElem_toArray, List.getElem_cons_zero, List.getElem_cons_succ, Act.put, List.setIfInBounds_toArray, List.set_cons_zero, List.set_cons_succ]
          refine wpAnyK_done (by as_aux_lemma => kernel_rfl) ?_ _
          go_wp2_with fail
          go_meet
          refine ⟨_, _, ot, ct, r, xu, rfl, rfl, rfl, r0, r1, HE1.out, ⟨(RB3.put RZ _ _ _).1, ?_⟩, ?_⟩
          · exact (((OT.ne (fun j hj => by have h := hOl j hj; omega) _).ne (fun j hj => by have h := hOl j hj; omega) _).ne (fun j hj => by have h := hOl j hj; omega) _).rd
          · (refine below_put (below_put (below_put ?_ (by omega) _) (by omega) _) (by omega) _; exact (by (repeat (first | exact Below.refl _ _ | (refine Below.setCell ?_ (by first | (simp; done) | (simp; omega) | omega) _) | (refine Below.alloc ?_ (by first | (simp; done) | (simp; omega) | omega) _) | (refine below_drewN ?_ _) | (refine Below.drew ?_) | (refine Below.trans ?_ (Below.mono hbr (by first | (simp; done) | (simp; omega) | omega))) | (refine Below.trans ?_ (Below.mono hba (by first | (simp; done) | (simp; omega) | omega))) | (refine Below.trans ?_ (Below.mono hbd (by first | (simp; done) | (simp; omega) | omega))) | (refine Below.trans ?_ (Below.mono hbt (by first | (simp; done) | (simp; omega) | omega)))))))
      · as_aux_lemma =>
        go_simp
        obtain ⟨wa, hwa⟩ : ∃ x : World, x = (w29.alloc (.cells #[.int .i64 0, .int .i64 0, .slice none 0 0] 59)).drew := ⟨_, rfl⟩
        have hba : Below (w29).heap.size (w29) wa := by rw [hwa]; exact (by (repeat (first | exact Below.refl _ _ | (refine Below.setCell ?_ (by first | (simp; done) | (simp; omega) | omega) _) | (refine Below.alloc ?_ (by first | (simp; done) | (simp; omega) | omega) _) | (refine below_drewN ?_ _) | (refine Below.drew ?_))))
        have A13 : RB3 wa w29.heap.size (.int .i64 0) (.int .i64 0) (.slice none 0 0) := by rw [hwa]; exact RB3.mk1 (w29) _ _ _ _
        have ha13 : w29.heap.size < wa.heap.size := A13.1.lt
        have hda : Below w29.heap.size w29 wa := (by (repeat (first | exact Below.refl _ _ | (refine Below.setCell ?_ (by first | (simp; done) | (simp; omega) | omega) _) | (refine Below.alloc ?_ (by first | (simp; done) | (simp; omega) | omega) _) | (refine below_drewN ?_ _) | (refine Below.drew ?_) | (refine Below.trans ?_ (Below.mono hba (by first | (simp; done) | (simp; omega) | omega))))))
        have hsa := hda.size
        obtain ⟨⟨fa0, fa1, fa2⟩, -⟩ := a_29.below hda
        rw [← hwa]
        clear hwa
        clear hHeld
        have hHeld : (fun w' : World => w'.cell? ⟨w1.heap.size, 0, none⟩ = some (.int .i64 ma) ∧ w'.cell? ⟨w1.heap.size, 2, none⟩ = some (.slice oa xa.length ca)) wa := by go_keep
        refine hK.out _ _ (fun _ => hHeld) ?_
        clear hK K
        try simp only [List.getElem_toArray, List.getElem_cons_zero, List.getElem_cons_succ, Act.put, List.setIfInBounds_toArray, List.set_cons_zero, List.set_cons_succ]
        refine wpAnyK_oneL (i := 6) rfl (by as_aux_lemma => kernel_rfl) (fun K hK => ?_)
        go_simp
        go_at_call 52
        have hbp : Below w29.heap.size w29 (wa) := (by (repeat (first | exact Below.refl _ _ | (refine Below.setCell ?_ (by first | (simp; done) | (simp; omega) | omega) _) | (refine Below.alloc ?_ (by first | (simp; done) | (simp; omega) | omega) _) | (refine below_drewN ?_ _) | (refine Below.drew ?_) | (refine Below.trans ?_ (Below.mono hba (by first | (simp; done) | (simp; omega) | omega))))))
        have hzp := hbp.size
        refine (roll_c w0.heap.size n _ 7015 (wa) (HV.out.keep (fun j hj => (HB29.trans (hbp.mono HB29.size)).block j hj)) (by have := HB29.size; omega)).mono ?_
        rintro e wr ⟨d, rfl, hs, hbr⟩
        have hdr : Below w29.heap.size w29 wr := (by (repeat (first | exact Below.refl _ _ | (refine Below.setCell ?_ (by first | (simp; done) | (simp; omega) | omega) _) | (refine Below.alloc ?_ (by first | (simp; done) | (simp; omega) | omega) _) | (refine below_drewN ?_ _) | (refine Below.drew ?_) | (refine Below.trans ?_ (Below.mono hba (by first | (simp; done) | (simp; omega) | omega))) | (refine Below.trans ?_ (Below.mono hbr (by first | (simp; done) | (simp; omega) | omega))))))
        have hd0 := hs.1
        have hz6 := hbr.size
        have hd1 := hs.lt
        obtain ⟨Bs, hs⟩ : ∃ B, Src wr B n d := ⟨_, hs⟩
        have hdB := hs.1
        have hsr := hdr.size
        obtain ⟨⟨fr0, fr1, fr2⟩, -⟩ := a_29.below hdr
        clear hbp
        go_wp2_with fail
        clear hHeld
        have hHeld : (fun w' : World => w'.cell? ⟨w1.heap.size, 0, none⟩ = some (.int .i64 ma) ∧ w'.cell? ⟨w1.heap.size, 2, none⟩ = some (.slice oa xa.length ca)) wr := by go_keep
        refine hK.out _ _ (fun _ => hHeld) ?_
        clear hK K
        try simp only [List.getElem_toArray, List.getElem_cons_zero, List.getElem_cons_succ, Act.put, List.setIfInBounds_toArray, List.set_cons_zero, List.set_cons_succ]
        refine wpAnyK_oneL (i := 8) rfl (by as_aux_lemma => kernel_rfl) (fun K hK => ?_)
        go_simp
        go_at_call 70
        have hs8 : Src (wr) Bs n d := by (first | with_reducible exact hs | exact hs.below hba (by omega))
        refine (dice_d Bs n d Z _ hs8).mono ?_
        rintro e wd ⟨r, rfl, r0, r1, r2, hdd, hzd⟩
        have r1 := r1 (by omega)
        clear r2 hzd
        have hbd : Below w29.heap.size (wr) wd := hdd.to (by omega)
        have hddw : Below w29.heap.size w29 wd := (by (repeat (first | exact Below.refl _ _ | (refine Below.setCell ?_ (by first | (simp; done) | (simp; omega) | omega) _) | (refine Below.alloc ?_ (by first | (simp; done) | (simp; omega) | omega) _) | (refine below_drewN ?_ _) | (refine Below.drew ?_) | (refine Below.trans ?_ (Below.mono hba (by first | (simp; done) | (simp; omega) | omega))) | (refine Below.trans ?_ (Below.mono hbr (by first | (simp; done) | (simp; omega) | omega))) | (refine Below.trans ?_ (Below.mono hbd (by first | (simp; done) | (simp; omega) | omega))))))
        have hsd := hddw.size
        have hsd8 := hbd.size
        obtain ⟨⟨fd0, fd1, fd2⟩, -⟩ := a_29.below hddw
        go_wp2_with fail
        clear hHeld
        have hHeld : (fun w' : World => w'.cell? ⟨w1.heap.size, 0, none⟩ = some (.int .i64 ma) ∧ w'.cell? ⟨w1.heap.size, 2, none⟩ = some (.slice oa xa.length ca)) wd := by go_keep
        refine hK.out _ _ (fun _ => hHeld) ?_
        clear hK K
        try simp only [List.getElem_toArray, List.getElem_cons_zero, List.getElem_cons_succ, Act.put, List.setIfInBounds_toArray, List.set_cons_zero, List.set_cons_succ]
        refine wpAnyK_oneL (i := 9) rfl (by as_aux_lemma => kernel_rfl) (fun K hK => ?_)
        go_simp
        go_at_call 87
        obtain ⟨xu, xs, xt, e1, e2, e3, e4, e5, e6⟩ := residues_all ha r0 (by rw [HZ.out]; exact r1)
        have HE1 := Lib.hid e1
        clear e1 e2 e3 e4 e5 e6
        have hC := WittOfResidue_c ma xa.length r (wd)
        rw [HE1.out] at hC
        refine (wend4 hC).mono ?_
        clear hC
        rintro e wt ⟨vt, rfl, hOt, hbt, hlt9⟩
        obtain ⟨ot, ct, rfl⟩ := hOt.shape
        have hz9 := hbt.size
        have hdt : Below w29.heap.size w29 wt := (by (repeat (first | exact Below.refl _ _ | (refine Below.setCell ?_ (by first | (simp; done) | (simp; omega) | omega) _) | (refine Below.alloc ?_ (by first | (simp; done) | (simp; omega) | omega) _) | (refine below_drewN ?_ _) | (refine Below.drew ?_) | (refine Below.trans ?_ (Below.mono hba (by first | (simp; done) | (simp; omega) | omega))) | (refine Below.trans ?_ (Below.mono hbr (by first | (simp; done) | (simp; omega) | omega))) | (refine Below.trans ?_ (Below.mono hbd (by first | (simp; done) | (simp; omega) | omega))) | (refine Below.trans ?_ (Below.mono hbt (by first | (simp; done) | (simp; omega) | omega))))))
        have hst := hdt.size
        obtain ⟨⟨ft0, ft1, ft2⟩, -⟩ := a_29.below hdt
        go_wp2_with fail
        clear hHeld
        have hHeld : (fun w' : World => w'.cell? ⟨w1.heap.size, 0, none⟩ = some (.int .i64 ma) ∧ w'.cell? ⟨w1.heap.size, 2, none⟩ = some (.slice oa xa.length ca)) wt := by go_keep
        refine hK.out _ _ (fun _ => hHeld) ?_
        clear hK K
        try simp only [List.getElem_toArray, List.getElem_cons_zero, List.getElem_cons_succ, Act.put, List.setIfInBounds_toArray, List.set_cons_zero, List.set_cons_succ]
        refine' wpAnyK_takeL (i := 10) (v := _) rfl (by as_aux_lemma => kernel_rfl) (by as_aux_lemma => kernel_rfl) (by as_aux_lemma => kernel_rfl) (by as_aux_lemma => kernel_rfl) (fun _ _ _ h => h) (Or.inl ⟨by rfl, ?yT17⟩) hHeld ?rT17
        case yT17 => (intro w' hSw; (try dsimp only at hSw); go_simp; try with_reducible rfl)
        try simp only [List.getElem_toArray, List.getElem_cons_zero, List.getElem_cons_succ, Act.put, List.setIfInBounds_toArray, List.set_cons_zero, List.set_cons_succ]
        refine' wpAnyK_pureL (i := 12) (v := _) rfl (by as_aux_lemma => kernel_rfl) (by as_aux_lemma => kernel_rfl) (by as_aux_lemma => kernel_rfl) (by as_aux_lemma => kernel_rfl) (fun _ _ _ h => h) (Or.inl ⟨by rfl, ?yT18⟩) ?rT18
        case yT18 => (intro w' _; go_simp; try with_reducible rfl)
        try simp only [List.getElem_toArray, List.getElem_cons_zero, List.getElem_cons_succ, Act.put, List.setIfInBounds_toArray, List.set_cons_zero, List.set_cons_succ]
        refine' wpAnyK_takeL (i := 11) (v := _) rfl (by as_aux_lemma => kernel_rfl) (by as_aux_lemma => kernel_rfl) (by as_aux_lemma => kernel_rfl) (by as_aux_lemma => kernel_rfl) (fun _ _ _ h => h) (Or.inl ⟨by rfl, ?yT19⟩) hHeld ?rT19
        case yT19 => (intro w' hSw; (try dsimp only at hSw); go_simp; try with_reducible rfl)
        try simp only [List.getElem_toArray, List.getElem_cons_zero, List.getElem_cons_succ, Act.put, List.setIfInBounds_toArray, List.set_cons_zero, List.set_cons_succ]
        refine wpAnyK_oneL (i := 14) rfl (by as_aux_lemma => kernel_rfl) (fun K hK => ?_)
        have RZ : RB3 (wt) w29.heap.size (.int .i64 0) (.int .i64 0) (.slice none 0 0) := by first | exact A13 | exact A13.below hbt (Nat.le_refl _) | exact (A13.chg hdd.chg (.inr (by omega))).below hbt (Nat.le_refl _) | exact ((A13.below hbr (Nat.le_refl _)).chg hdd.chg (.inl (by omega))).below hbt (Nat.le_refl _)
        have OT : OwI (wt) wd.heap.size (.slice ot xu.length ct) xu := by (first | with_reducible exact hOt | exact hOt.below hba)
        have hOl := hOt.lt
        have hlz := RZ.1.lt
        obtain ⟨⟨z0, z1, z2⟩, zf⟩ := id RZ
        go_simp
        (try go_wp2_with fail)
        refine hK.out _ _ (fun h => absurd h (by decide)) ?_
        clear hK K
        try simp only [List.getElem_toArray, List.getElem_cons_zero, List.getElem_cons_succ, Act.put, List.setIfInBounds_toArray, List.set_cons_zero, List.set_cons_succ]
        refine wpAnyK_oneL (i := 15) rfl (by as_aux_lemma => kernel_rfl) (fun K hK => ?_)
        go_simp
        (try go_wp2_with fail)
        refine hK.out _ _ (fun h => absurd h (by decide)) ?_
        clear hK K
        try simp only [List.getElem_toArray, List.getElem_cons_zero, List.getElem_cons_succ, Act.put, List.setIfInBounds_toArray, List.set_cons_zero, List.set_cons_succ]
        refine wpAnyK_done (by as_aux_lemma => kernel_rfl) ?_ _
        go_wp2_with fail
        go_meet
        refine ⟨_, _, ot, ct, r, xu, rfl, rfl, rfl, r0, r1, HE1.out, ⟨(RB3.put RZ _ _ _).1, ?_⟩, ?_⟩
        · exact (((OT.ne (fun j hj => by have h := hOl j hj; omega) _).ne (fun j hj => by have h := hOl j hj; omega) _).ne (fun j hj => by have h := hOl j hj; omega) _).rd
        · (refine below_put (below_put (below_put ?_ (by omega) _) (by omega) _) (by omega) _; exact (by (repeat (first | exact Below.refl _ _ | (refine Below.setCell ?_ (by first | (simp; done) | (simp; omega) | omega) _) | (refine Below.alloc ?_ (by first | (simp; done) | (simp; omega) | omega) _) | (refine below_drewN ?_ _) | (refine Below.drew ?_) | (refine Below.trans ?_ (Below.mono hba (by first | (simp; done) | (simp; omega) | omega))) | (refine Below.trans ?_ (Below.mono hbr (by first | (simp; done) | (simp; omega) | omega))) | (refine Below.trans ?_ (Below.mono hbd (by first | (simp; done) | (simp; omega) | omega))) | (refine Below.trans ?_ (Below.mono hbt (by first | (simp; done) | (simp; omega) | omega)))))))
    case rest =>
    obtain ⟨wz, bz, ou, cu, r, xu, rfl, rfl, rfl, r0, r1, e1, hU, hb⟩ := hcut
    obtain ⟨w30, rfl⟩ : ∃ u, u = wz := ⟨_, rfl⟩
    have a_30 := a_29.below hb
    have v_30 := v_29.below hb
    have HB30 := HB29.trans (hb.mono HB29.size)
    clear a_29 v_29 HB29 hb
    have u_30 := hU
    clear hU
    obtain ⟨xu', xs, xt, e1', e2, e3, e4, e5, e6⟩ := residues_all ha r0 (by rw [HZ.out]; exact r1)
    obtain rfl : xu = xu' := by rw [e1] at e1'; exact (WR.mk.inj e1').2.2.1
    have hA := res_range ha
    rw [HZ.out] at e5 e6 hA
    have hinv := inv_all ha
    generalize resV ma.toNat xa = A at *
    obtain ⟨A0, A1⟩ := hA
    have E2 := Lib.hid e2
    have E3 := Lib.hid e3
    have E4 := Lib.hid e4
    have E5 := Lib.hid e5
    have E6 := Lib.hid e6
    have HI := Lib.hid hinv
    clear e1 e1' e2 e3 e4 e5 e6 hinv
    have p0 : 0 ≤ A * r := Int.mul_nonneg A0 r0
    have p1 : A * r ≤ 2401 * 2401 := Int.mul_le_mul (by omega) (by omega) r0 (by omega)
    have mz : ma ≠ 0 := by omega
    have zz : Z ≠ 0 := by omega
    obtain ⟨⟨qu0, qu1, qu2⟩, -⟩ := id u_30
    have lu := u_30.lt
    go_wp2_with fail
    clear lu qu0 qu1 qu2
    have hC := ResidueOf_c (ma) (ma) _ (xu) w30 u_30.2
    rw [E2.out] at hC
    refine (iend2 hC).mono ?_
    clear hC
    rintro e w31 ⟨rfl, hb⟩
    have a_31 := a_30.below hb
    have v_31 := v_30.below hb
    have u_31 := u_30.below hb
    have HB31 := HB30.trans (hb.mono HB30.size)
    clear a_30 v_30 u_30 HB30 hb
    obtain ⟨⟨qa0, qa1, qa2⟩, -⟩ := id a_31
    have la := a_31.lt
    obtain ⟨⟨qu0, qu1, qu2⟩, -⟩ := id u_31
    have lu := u_31.lt
    go_wp2_with fail
    clear la qa0 qa1 qa2
    clear lu qu0 qu1 qu2
    have hC := AddWitt_c (ma) (ma) _ (xa) (ma) (ma) _ (xu)  w31 a_31.2 u_31.2
    rw [E3.out] at hC
    refine (wend4 hC).mono ?_
    clear hC
    rintro e w32 ⟨vs, rfl, hs, hb, hls⟩
    have a_32 := a_31.below hb
    have v_32 := v_31.below hb
    have u_32 := u_31.below hb
    have HB32 := HB31.trans (hb.mono HB31.size)
    clear a_31 v_31 u_31 HB31 hb
    obtain ⟨os, cs, rfl⟩ := hs.shape
    have rs := hs.rd
    clear hs
    clear hls
    obtain ⟨⟨qa0, qa1, qa2⟩, -⟩ := id a_32
    have la := a_32.lt
    obtain ⟨⟨qu0, qu1, qu2⟩, -⟩ := id u_32
    have lu := u_32.lt
    go_wp2_with fail
    clear la qa0 qa1 qa2
    clear lu qu0 qu1 qu2
    have s_33 := (WB.mk1 w32 (ma) (ma) (.slice os xs.length cs) (xs) rs 59).below (w' := w32.alloc (.cells #[.int .i64 ma, .int .i64 ma, .slice os xs.length cs] 59)) (by (repeat (first | exact Below.refl _ _ | (refine Below.setCell ?_ (by first | (simp; done) | (simp; omega) | omega) _) | (refine Below.alloc ?_ (by first | (simp; done) | (simp; omega) | omega) _) | (refine below_drewN ?_ _) | (refine Below.drew ?_))))
    have hbk0 : w32.heap.size = w32.heap.size := by simp
    rw [hbk0] at s_33
    clear hbk0
    have hb : Below w32.heap.size w32 (w32.alloc (.cells #[.int .i64 ma, .int .i64 ma, .slice os xs.length cs] 59)) := (by (repeat (first | exact Below.refl _ _ | (refine Below.setCell ?_ (by first | (simp; done) | (simp; omega) | omega) _) | (refine Below.alloc ?_ (by first | (simp; done) | (simp; omega) | omega) _) | (refine below_drewN ?_ _) | (refine Below.drew ?_))))
    have a_33 := a_32.below hb
    have v_33 := v_32.below hb
    have u_33 := u_32.below hb
    have HB33 := HB32.trans (hb.mono HB32.size)
    clear hb HB32 a_32 v_32 u_32
    generalize w32.alloc (.cells #[.int .i64 ma, .int .i64 ma, .slice os xs.length cs] 59) = w33 at a_33 v_33 u_33 s_33 HB33 ⊢
    clear rs
    have hC := MultiplyWitt_c (ma) (ma) _ (xa) (ma) (ma) _ (xu)  w33 a_33.2 u_33.2
    rw [E4.out] at hC
    refine (wend4 hC).mono ?_
    clear hC
    rintro e w34 ⟨vt, rfl, ht, hb, hlt⟩
    have a_34 := a_33.below hb
    have v_34 := v_33.below hb
    have u_34 := u_33.below hb
    have s_34 := s_33.below hb
    have HB34 := HB33.trans (hb.mono HB33.size)
    clear a_33 v_33 u_33 s_33 HB33 hb
    obtain ⟨ot, ct, rfl⟩ := ht.shape
    have rt := ht.rd
    clear ht
    clear hlt
    obtain ⟨⟨qs0, qs1, qs2⟩, -⟩ := id s_34
    have ls := s_34.lt
    go_wp2_with fail
    clear ls qs0 qs1 qs2
    have t_35 := (WB.mk1 w34 (ma) (ma) (.slice ot xt.length ct) (xt) rt 59).below (w' := w34.alloc (.cells #[.int .i64 ma, .int .i64 ma, .slice ot xt.length ct] 59)) (by (repeat (first | exact Below.refl _ _ | (refine Below.setCell ?_ (by first | (simp; done) | (simp; omega) | omega) _) | (refine Below.alloc ?_ (by first | (simp; done) | (simp; omega) | omega) _) | (refine below_drewN ?_ _) | (refine Below.drew ?_))))
    have hbk0 : w34.heap.size = w34.heap.size := by simp
    rw [hbk0] at t_35
    clear hbk0
    have hb : Below w34.heap.size w34 (w34.alloc (.cells #[.int .i64 ma, .int .i64 ma, .slice ot xt.length ct] 59)) := (by (repeat (first | exact Below.refl _ _ | (refine Below.setCell ?_ (by first | (simp; done) | (simp; omega) | omega) _) | (refine Below.alloc ?_ (by first | (simp; done) | (simp; omega) | omega) _) | (refine below_drewN ?_ _) | (refine Below.drew ?_))))
    have a_35 := a_34.below hb
    have v_35 := v_34.below hb
    have u_35 := u_34.below hb
    have s_35 := s_34.below hb
    have HB35 := HB34.trans (hb.mono HB34.size)
    clear hb HB34 a_34 v_34 u_34 s_34
    generalize w34.alloc (.cells #[.int .i64 ma, .int .i64 ma, .slice ot xt.length ct] 59) = w35 at a_35 v_35 u_35 s_35 t_35 HB35 ⊢
    clear rt
    clear u_35
    have hC := ResidueOf_c (ma) (ma) _ (xs) w35 s_35.2
    rw [E5.out] at hC
    refine (iend2 hC).mono ?_
    clear hC
    rintro e w36 ⟨rfl, hb⟩
    have a_36 := a_35.below hb
    have v_36 := v_35.below hb
    have s_36 := s_35.below hb
    have t_36 := t_35.below hb
    have HB36 := HB35.trans (hb.mono HB35.size)
    clear a_35 v_35 s_35 t_35 HB35 hb
    obtain ⟨⟨qt0, qt1, qt2⟩, -⟩ := id t_36
    have lt := t_36.lt
    go_wp2_with fail
    clear lt qt0 qt1 qt2
    have hC := ResidueOf_c (ma) (ma) _ (xt) w36 t_36.2
    rw [E6.out] at hC
    refine (iend2 hC).mono ?_
    clear hC
    rintro e w37 ⟨rfl, hb⟩
    have a_37 := a_36.below hb
    have v_37 := v_36.below hb
    have s_37 := s_36.below hb
    have t_37 := t_36.below hb
    have HB37 := HB36.trans (hb.mono HB36.size)
    clear a_36 v_36 s_36 t_36 HB36 hb
    clear s_37
    clear t_37
    rcases HI.out with ⟨hA0, hi⟩ | ⟨hA0, xi, xn, hi, hi2, hi3⟩
    · obtain ⟨rfl, rfl, rfl, rfl⟩ : PR5 = 0 ∧ MR5 = 0 ∧ XR5 = [] ∧ CR5 = 5 := by
        have e := HR5.out
        rw [hi] at e
        obtain ⟨a1, a2, a3, a4⟩ := WR.mk.inj e
        exact ⟨a1.symm, a2.symm, a3.symm, a4.symm⟩
      obtain ⟨⟨qa0, qa1, qa2⟩, -⟩ := id a_37
      have la := a_37.lt
      go_wp2_with fail
      go_ret
      exact ⟨by simp, HB37⟩
    obtain ⟨e1, e2, rfl, rfl⟩ : PR5 = ma ∧ MR5 = ma ∧ xi = XR5 ∧ 0 = CR5 := by
      have e := HR5.out
      rw [hi] at e
      obtain ⟨a1, a2, a3, a4⟩ := WR.mk.inj e
      exact ⟨a1.symm, a2.symm, a3, a4⟩
    subst e1
    obtain rfl : PR5 = MR5 := e2.symm
    have F2 := Lib.hid hi2
    have F3 := Lib.hid hi3
    clear hi hi2 hi3 HR5 e2
    have hAb : (A % PR5 != 0) = true := by simpa using hA0
    obtain ⟨⟨qa0, qa1, qa2⟩, -⟩ := id a_37
    have la := a_37.lt
    obtain ⟨⟨qv0, qv1, qv2⟩, -⟩ := id v_37
    have lv := v_37.lt
    go_wp2_with fail
    clear la qa0 qa1 qa2
    clear lv qv0 qv1 qv2
    have hC := MultiplyWitt_c (PR5) (PR5) _ (xa) (PR5) (PR5) _ (xi)  w37 a_37.2 v_37.2
    rw [F2.out] at hC
    refine (wend4 hC).mono ?_
    clear hC
    rintro e w38 ⟨vun, rfl, hun, hb, hlun⟩
    have a_38 := a_37.below hb
    have v_38 := v_37.below hb
    have HB38 := HB37.trans (hb.mono HB37.size)
    clear a_37 v_37 HB37 hb
    obtain ⟨oun, cun, rfl⟩ := hun.shape
    have run := hun.rd
    clear hun
    clear hlun
    go_wp2_with fail
    have un_39 := (WB.mk1 w38 (PR5) (PR5) (.slice oun xn.length cun) (xn) run 59).below (w' := w38.alloc (.cells #[.int .i64 PR5, .int .i64 PR5, .slice oun xn.length cun] 59)) (by (repeat (first | exact Below.refl _ _ | (refine Below.setCell ?_ (by first | (simp; done) | (simp; omega) | omega) _) | (refine Below.alloc ?_ (by first | (simp; done) | (simp; omega) | omega) _) | (refine below_drewN ?_ _) | (refine Below.drew ?_))))
    have hbk0 : w38.heap.size = w38.heap.size := by simp
    rw [hbk0] at un_39
    clear hbk0
    have hb : Below w38.heap.size w38 (w38.alloc (.cells #[.int .i64 PR5, .int .i64 PR5, .slice oun xn.length cun] 59)) := (by (repeat (first | exact Below.refl _ _ | (refine Below.setCell ?_ (by first | (simp; done) | (simp; omega) | omega) _) | (refine Below.alloc ?_ (by first | (simp; done) | (simp; omega) | omega) _) | (refine below_drewN ?_ _) | (refine Below.drew ?_))))
    have a_39 := a_38.below hb
    have v_39 := v_38.below hb
    have HB39 := HB38.trans (hb.mono HB38.size)
    clear hb HB38 a_38 v_38
    generalize w38.alloc (.cells #[.int .i64 PR5, .int .i64 PR5, .slice oun xn.length cun] 59) = w39 at a_39 v_39 un_39 HB39 ⊢
    clear run
    have hC := ResidueOf_c (PR5) (PR5) _ (xn) w39 un_39.2
    rw [F3.out] at hC
    refine (iend2 hC).mono ?_
    clear hC
    rintro e w40 ⟨rfl, hb⟩
    have a_40 := a_39.below hb
    have v_40 := v_39.below hb
    have un_40 := un_39.below hb
    have HB40 := HB39.trans (hb.mono HB39.size)
    clear a_39 v_39 un_39 HB39 hb
    go_wp2_with fail
    go_ret
    exact ⟨rfl, HB40⟩

open Go.ChangeShapes Go.WideShapes Go.ChangeAt Go.Joins
set_option maxRecDepth 100000 in
theorem Residues_lifted (os : Os) (started : os.Started) (H : Type) (enc : TypeId × Value → H) :
    ReturnsInHanded {} Try.checked os 8 .any (Rows.fnResiduesSpec.pre6 enc Try.prog Try.f8 Rows.fnResiduesRow.domain false) (Rows.fnResiduesSpec.post enc Try.prog Try.f8 false true false false) := by
  refine returnsInHanded_of_change (C := Try.checked) Try.own started (by kernel_rfl) Try.func8
    (ChangeSpec.witness6 (enc := enc) (C := Try.checked) false ⟨#[], #[.slice none 0 0], []⟩ 8 (by kernel_rfl) (by kernel_rfl) (by kernel_rfl) (by kernel_rfl)) ?_
  intro W base args ds gs before hval0 hW _ _
  have hval : ∀ (j : Nat) t v, Try.f8.params[j]? = some t → args[j]? = some v → Value.okWide Try.prog W .any base t v := hval0
  have hW' := hW
  obtain ⟨p, q, hA0, hV, rfl, _, _⟩ := hW
  have hA : DataW.TrodAll enc Try.prog W 0 (fun _ => true) true Try.f8.params.toList args.toList ds p := hA0
  rw [Try.params8] at hA hval
  have hAk := hA
  obtain ⟨rfl, rfl⟩ := trodVars_none hV
  obtain ⟨v0, d0, rfl, rfl, h0⟩ := trodAll_one hA
  obtain ⟨n, r0⟩ := rdB_of_trod (hval 0 22 v0 rfl rfl) h0
  clear hA0 hval0
  simp only [List.append_nil] at hW'
  refine (FnResidues_c n v0 W r0).mono fun e W' ⟨he, hb⟩ => ?_
  subst he
  refine ⟨_, rfl, _, _, _, [], p, [], hW', ?_, ?_, rfl, hb.frame _, fun h => by cases h⟩
  · exact trodAll_mk1 (shut_bool Try.underlying4 true)
  · exact trodAll_below Try.laidOut (by kernel_rfl) hAk hb (fun x hx => by simpa using hW'.lt x hx)

theorem Residues_holds : Rows.FnResiduesSaid :=
  OpenClaim.holds_of_wide 8 Try.f8 rfl rfl rfl rfl rfl rfl rfl ⟨rfl, rfl, rfl, rfl, rfl⟩ rfl rfl rfl rfl rfl (by kernel_rfl) Try.func8 (by kernel_rfl)
    (of_decide_eq_true (by kernel_rfl)) (by unfold Func.isWrapper; rw [if_neg (of_decide_eq_false (by kernel_rfl))]; exact ⟨rfl, rfl⟩)
    (fun os started H enc _ => Residues_lifted os started H enc)

#print axioms Residues_holds
end Go.Proofs.Ytcjinlfgeljmkaa
