/- Products with shifts are shifts of products with the Frobenius; the Frobenius is multiplicative, and representatives multiply as numbers; and cutting keeps sums. For every code. No condition. -/
import Derived.Test.YtcjinlfgeljmkaaWMLwB
import Derived.Test.YtcjinlfgeljmkaaWMSrcU
import Derived.Test.YtcjinlfgeljmkaaWMLwP
import Derived.Test.YtcjinlfgeljmkaaWMEndB
import Derived.Deep.RegionHeld3
import Derived.Deep.DeepCutAuto
set_option linter.unusedSimpArgs false
set_option linter.unusedVariables false
namespace Go.Proofs.Ytcjinlfgeljmkaa
open Go.RowKit
set_option maxHeartbeats 4000000 in
set_option maxRecDepth 100000 in
theorem FnWittMaps_c (n : Nat) (v : Value) (w0 : World) (hv : RdB w0 w0.heap.size n v) :
    Calls Try.prog 7 #[v] w0 fun e w' => e = .returned (.bool true) ∧ Below w0.heap.size w0 w' := by
  obtain ⟨ov, cv, rfl, hmv, hcv⟩ := id hv
  clear hmv hcv
  have HB0 := Below.refl w0.heap.size w0
  have HV := Lib.hid hv
  clear hv
  go_enter Try.func7, Try.ntmps7
  go_wp2_with fail
  refine (big_c w0.heap.size n _ w0 HV.out).mono ?_
  rintro e w' ⟨rfl, rfl⟩
  by_cases hbig : 4096 < n
  · have hbb : decide (4096 < n) = true := by simpa using hbig
    go_wp2
    go_ret
    exact ⟨rfl, HB0⟩
  have hbb : decide (4096 < n) = false := by simpa using hbig
  clear hbig
  go_wp2_with fail
  clear hbb
  refine (DrawFrobeniusOf_d w0.heap.size n _ w0 (HV.out.keep (fun j hj => HB0.block j hj)) HB0.size).mono ?_
  rintro e w1 ⟨pa, ma, va, xa, rfl, ha, hb⟩
  have HB1 := HB0.trans (hb.mono HB0.size)
  clear HB0 hb
  obtain ⟨oa, ca, rfl⟩ := ha.shape
  have ra := ha.rd
  clear ha
  go_wp2_with fail
  have a_2 := (WB.mk1 w1 (pa) (ma) (.slice oa xa.length ca) (xa) ra 59).below (w' := w1.alloc (.cells #[.int .i64 pa, .int .i64 ma, .slice oa xa.length ca] 59)) (by (repeat (first | exact Below.refl _ _ | (refine Below.setCell ?_ (by first | (simp; done) | (simp; omega) | omega) _) | (refine Below.alloc ?_ (by first | (simp; done) | (simp; omega) | omega) _) | (refine below_drewN ?_ _) | (refine Below.drew ?_))))
  have hbk0 : w1.heap.size = w1.heap.size := by simp
  rw [hbk0] at a_2
  clear hbk0
  have hb : Below w1.heap.size w1 (w1.alloc (.cells #[.int .i64 pa, .int .i64 ma, .slice oa xa.length ca] 59)) := (by (repeat (first | exact Below.refl _ _ | (refine Below.setCell ?_ (by first | (simp; done) | (simp; omega) | omega) _) | (refine Below.alloc ?_ (by first | (simp; done) | (simp; omega) | omega) _) | (refine below_drewN ?_ _) | (refine Below.drew ?_))))
  have HB2 := HB1.trans (hb.mono HB1.size)
  clear hb HB1 
  generalize w1.alloc (.cells #[.int .i64 pa, .int .i64 ma, .slice oa xa.length ca] 59) = w2 at a_2 HB2 ⊢
  clear ra
  obtain ⟨⟨PR1, MR1, XR1, CR1⟩, hR1⟩ : ∃ r, frobR pa ma xa = r := ⟨_, rfl⟩
  have HR1 := Lib.hid hR1
  clear hR1
  have hC := FrobeniusOf_c (pa) (ma) _ (xa)  w2 a_2.2
  rw [HR1.out] at hC
  refine (wend4 hC).mono ?_
  clear hC
  rintro e w3 ⟨vf, rfl, hf, hb, hlf⟩
  have a_3 := a_2.below hb
  have HB3 := HB2.trans (hb.mono HB2.size)
  clear a_2 HB2 hb
  obtain ⟨of, cf, rfl⟩ := hf.shape
  have rf := hf.rd
  clear hf
  clear hlf
  obtain ⟨⟨qa0, qa1, qa2⟩, -⟩ := id a_3
  have la := a_3.lt
  go_wp2_with fail
  clear la qa0 qa1 qa2
  have f_4 := (WB.mk1 w3 (PR1) (MR1) (.slice of XR1.length cf) (XR1) rf 59).below (w' := w3.alloc (.cells #[.int .i64 PR1, .int .i64 MR1, .slice of XR1.length cf] 59)) (by (repeat (first | exact Below.refl _ _ | (refine Below.setCell ?_ (by first | (simp; done) | (simp; omega) | omega) _) | (refine Below.alloc ?_ (by first | (simp; done) | (simp; omega) | omega) _) | (refine below_drewN ?_ _) | (refine Below.drew ?_))))
  have hbk0 : w3.heap.size = w3.heap.size := by simp
  rw [hbk0] at f_4
  clear hbk0
  have hb : Below w3.heap.size w3 (w3.alloc (.cells #[.int .i64 PR1, .int .i64 MR1, .slice of XR1.length cf] 59)) := (by (repeat (first | exact Below.refl _ _ | (refine Below.setCell ?_ (by first | (simp; done) | (simp; omega) | omega) _) | (refine Below.alloc ?_ (by first | (simp; done) | (simp; omega) | omega) _) | (refine below_drewN ?_ _) | (refine Below.drew ?_))))
  have a_4 := a_3.below hb
  have HB4 := HB3.trans (hb.mono HB3.size)
  clear hb HB3 a_3
  generalize w3.alloc (.cells #[.int .i64 PR1, .int .i64 MR1, .slice of XR1.length cf] 59) = w4 at a_4 f_4 HB4 ⊢
  clear rf
  have hC := sFrobeniusOf_c (pa) (ma) _ (xa)  w4 a_4.2
  rw [HR1.out] at hC
  refine (wend4 hC).mono ?_
  clear hC
  rintro e w5 ⟨vt, rfl, ht, hb, hlt⟩
  have a_5 := a_4.below hb
  have f_5 := f_4.below hb
  have HB5 := HB4.trans (hb.mono HB4.size)
  clear a_4 f_4 HB4 hb
  obtain ⟨ot, ct, rfl⟩ := ht.shape
  have rt := ht.rd
  clear ht
  clear hlt
  have hqR1 : (CR1 != CR1) = false := by simp
  obtain ⟨⟨qf0, qf1, qf2⟩, -⟩ := id f_5
  have lf := f_5.lt
  go_wp2_with fail
  clear lf qf0 qf1 qf2
  have t_6 := (WB.mk1 w5 (PR1) (MR1) (.slice ot XR1.length ct) (XR1) rt 59).below (w' := w5.alloc (.cells #[.int .i64 PR1, .int .i64 MR1, .slice ot XR1.length ct] 59)) (by (repeat (first | exact Below.refl _ _ | (refine Below.setCell ?_ (by first | (simp; done) | (simp; omega) | omega) _) | (refine Below.alloc ?_ (by first | (simp; done) | (simp; omega) | omega) _) | (refine below_drewN ?_ _) | (refine Below.drew ?_))))
  have hbk0 : w5.heap.size = w5.heap.size := by simp
  rw [hbk0] at t_6
  clear hbk0
  have hb : Below w5.heap.size w5 (w5.alloc (.cells #[.int .i64 PR1, .int .i64 MR1, .slice ot XR1.length ct] 59)) := (by (repeat (first | exact Below.refl _ _ | (refine Below.setCell ?_ (by first | (simp; done) | (simp; omega) | omega) _) | (refine Below.alloc ?_ (by first | (simp; done) | (simp; omega) | omega) _) | (refine below_drewN ?_ _) | (refine Below.drew ?_))))
  have a_6 := a_5.below hb
  have f_6 := f_5.below hb
  have HB6 := HB5.trans (hb.mono HB5.size)
  clear hb HB5 a_5 f_5
  generalize w5.alloc (.cells #[.int .i64 PR1, .int .i64 MR1, .slice ot XR1.length ct] 59) = w6 at a_6 f_6 t_6 HB6 ⊢
  clear rt
  refine (witt9_same (PR1) (MR1) _ _ (XR1) _ f_6.2 t_6.2).mono ?_
  rintro e w7 ⟨rfl, hb⟩
  have a_7 := a_6.below hb
  have f_7 := f_6.below hb
  have t_7 := t_6.below hb
  have HB7 := HB6.trans (hb.mono HB6.size)
  clear a_6 f_6 t_6 HB6 hb
  clear t_7
  obtain ⟨⟨qa0, qa1, qa2⟩, -⟩ := id a_7
  have la := a_7.lt
  go_wp2_with fail
  clear la qa0 qa1 qa2
  clear hqR1
  obtain ⟨⟨PR2, MR2, XR2, CR2⟩, hR2⟩ : ∃ r, shiftR pa ma xa = r := ⟨_, rfl⟩
  have HR2 := Lib.hid hR2
  clear hR2
  have hC := ShiftWitt_c (pa) (ma) _ (xa)  w7 a_7.2
  rw [HR2.out] at hC
  refine (wend4 hC).mono ?_
  clear hC
  rintro e w8 ⟨vs, rfl, hs, hb, hls⟩
  have a_8 := a_7.below hb
  have f_8 := f_7.below hb
  have HB8 := HB7.trans (hb.mono HB7.size)
  clear a_7 f_7 HB7 hb
  obtain ⟨os, cs, rfl⟩ := hs.shape
  have rs := hs.rd
  clear hs
  clear hls
  obtain ⟨⟨qa0, qa1, qa2⟩, -⟩ := id a_8
  have la := a_8.lt
  go_wp2_with fail
  clear la qa0 qa1 qa2
  have s_9 := (WB.mk1 w8 (PR2) (MR2) (.slice os XR2.length cs) (XR2) rs 59).below (w' := w8.alloc (.cells #[.int .i64 PR2, .int .i64 MR2, .slice os XR2.length cs] 59)) (by (repeat (first | exact Below.refl _ _ | (refine Below.setCell ?_ (by first | (simp; done) | (simp; omega) | omega) _) | (refine Below.alloc ?_ (by first | (simp; done) | (simp; omega) | omega) _) | (refine below_drewN ?_ _) | (refine Below.drew ?_))))
  have hbk0 : w8.heap.size = w8.heap.size := by simp
  rw [hbk0] at s_9
  clear hbk0
  have hb : Below w8.heap.size w8 (w8.alloc (.cells #[.int .i64 PR2, .int .i64 MR2, .slice os XR2.length cs] 59)) := (by (repeat (first | exact Below.refl _ _ | (refine Below.setCell ?_ (by first | (simp; done) | (simp; omega) | omega) _) | (refine Below.alloc ?_ (by first | (simp; done) | (simp; omega) | omega) _) | (refine below_drewN ?_ _) | (refine Below.drew ?_))))
  have a_9 := a_8.below hb
  have f_9 := f_8.below hb
  have HB9 := HB8.trans (hb.mono HB8.size)
  clear hb HB8 a_8 f_8
  generalize w8.alloc (.cells #[.int .i64 PR2, .int .i64 MR2, .slice os XR2.length cs] 59) = w9 at a_9 f_9 s_9 HB9 ⊢
  clear rs
  have hC := sShiftWitt_c (pa) (ma) _ (xa)  w9 a_9.2
  rw [HR2.out] at hC
  refine (wend4 hC).mono ?_
  clear hC
  rintro e w10 ⟨vt, rfl, ht, hb, hlt⟩
  have a_10 := a_9.below hb
  have f_10 := f_9.below hb
  have s_10 := s_9.below hb
  have HB10 := HB9.trans (hb.mono HB9.size)
  clear a_9 f_9 s_9 HB9 hb
  obtain ⟨ot, ct, rfl⟩ := ht.shape
  have rt := ht.rd
  clear ht
  clear hlt
  have hqR2 : (CR2 != CR2) = false := by simp
  obtain ⟨⟨qs0, qs1, qs2⟩, -⟩ := id s_10
  have ls := s_10.lt
  go_wp2_with fail
  clear ls qs0 qs1 qs2
  have t_11 := (WB.mk1 w10 (PR2) (MR2) (.slice ot XR2.length ct) (XR2) rt 59).below (w' := w10.alloc (.cells #[.int .i64 PR2, .int .i64 MR2, .slice ot XR2.length ct] 59)) (by (repeat (first | exact Below.refl _ _ | (refine Below.setCell ?_ (by first | (simp; done) | (simp; omega) | omega) _) | (refine Below.alloc ?_ (by first | (simp; done) | (simp; omega) | omega) _) | (refine below_drewN ?_ _) | (refine Below.drew ?_))))
  have hbk0 : w10.heap.size = w10.heap.size := by simp
  rw [hbk0] at t_11
  clear hbk0
  have hb : Below w10.heap.size w10 (w10.alloc (.cells #[.int .i64 PR2, .int .i64 MR2, .slice ot XR2.length ct] 59)) := (by (repeat (first | exact Below.refl _ _ | (refine Below.setCell ?_ (by first | (simp; done) | (simp; omega) | omega) _) | (refine Below.alloc ?_ (by first | (simp; done) | (simp; omega) | omega) _) | (refine below_drewN ?_ _) | (refine Below.drew ?_))))
  have a_11 := a_10.below hb
  have f_11 := f_10.below hb
  have s_11 := s_10.below hb
  have HB11 := HB10.trans (hb.mono HB10.size)
  clear hb HB10 a_10 f_10 s_10
  generalize w10.alloc (.cells #[.int .i64 PR2, .int .i64 MR2, .slice ot XR2.length ct] 59) = w11 at a_11 f_11 s_11 t_11 HB11 ⊢
  clear rt
  refine (witt9_same (PR2) (MR2) _ _ (XR2) _ s_11.2 t_11.2).mono ?_
  rintro e w12 ⟨rfl, hb⟩
  have a_12 := a_11.below hb
  have f_12 := f_11.below hb
  have s_12 := s_11.below hb
  have t_12 := t_11.below hb
  have HB12 := HB11.trans (hb.mono HB11.size)
  clear a_11 f_11 s_11 t_11 HB11 hb
  clear s_12
  clear t_12
  go_wp2_with fail
  clear hqR2
  refine (DrawCutWitt_d w0.heap.size n _ w12 (HV.out.keep (fun j hj => HB12.block j hj)) HB12.size).mono ?_
  rintro e w13 ⟨px, mx, vx, xx, nx, rfl, hx, hb⟩
  have a_13 := a_12.below hb
  have f_13 := f_12.below hb
  have HB13 := HB12.trans (hb.mono HB12.size)
  clear a_12 f_12 HB12 hb
  obtain ⟨ox, cx, rfl⟩ := hx.shape
  have rx := hx.rd
  clear hx
  go_wp2_with fail
  have x_14 := (WB.mk1 w13 (px) (mx) (.slice ox xx.length cx) (xx) rx 59).below (w' := w13.alloc (.cells #[.int .i64 px, .int .i64 mx, .slice ox xx.length cx] 59)) (by (repeat (first | exact Below.refl _ _ | (refine Below.setCell ?_ (by first | (simp; done) | (simp; omega) | omega) _) | (refine Below.alloc ?_ (by first | (simp; done) | (simp; omega) | omega) _) | (refine below_drewN ?_ _) | (refine Below.drew ?_))))
  have hbk0 : w13.heap.size = w13.heap.size := by simp
  rw [hbk0] at x_14
  clear hbk0
  have hb : Below w13.heap.size w13 (w13.alloc (.cells #[.int .i64 px, .int .i64 mx, .slice ox xx.length cx] 59)) := (by (repeat (first | exact Below.refl _ _ | (refine Below.setCell ?_ (by first | (simp; done) | (simp; omega) | omega) _) | (refine Below.alloc ?_ (by first | (simp; done) | (simp; omega) | omega) _) | (refine below_drewN ?_ _) | (refine Below.drew ?_))))
  have a_14 := a_13.below hb
  have f_14 := f_13.below hb
  have HB14 := HB13.trans (hb.mono HB13.size)
  clear hb HB13 a_13 f_13
  generalize w13.alloc (.cells #[.int .i64 px, .int .i64 mx, .slice ox xx.length cx] 59) = w14 at a_14 f_14 x_14 HB14 ⊢
  clear rx
  obtain ⟨⟨PR3, MR3, XR3, CR3⟩, hR3⟩ : ∃ r, cutR px mx xx nx = r := ⟨_, rfl⟩
  have HR3 := Lib.hid hR3
  clear hR3
  have hC := CutWitt_c (px) (mx) _ (xx) nx w14 x_14.2
  rw [HR3.out] at hC
  refine (wend4 hC).mono ?_
  clear hC
  rintro e w15 ⟨vs, rfl, hs, hb, hls⟩
  have a_15 := a_14.below hb
  have f_15 := f_14.below hb
  have x_15 := x_14.below hb
  have HB15 := HB14.trans (hb.mono HB14.size)
  clear a_14 f_14 x_14 HB14 hb
  obtain ⟨os, cs, rfl⟩ := hs.shape
  have rs := hs.rd
  clear hs
  clear hls
  obtain ⟨⟨qx0, qx1, qx2⟩, -⟩ := id x_15
  have lx := x_15.lt
  go_wp2_with fail
  clear lx qx0 qx1 qx2
  have s_16 := (WB.mk1 w15 (PR3) (MR3) (.slice os XR3.length cs) (XR3) rs 59).below (w' := w15.alloc (.cells #[.int .i64 PR3, .int .i64 MR3, .slice os XR3.length cs] 59)) (by (repeat (first | exact Below.refl _ _ | (refine Below.setCell ?_ (by first | (simp; done) | (simp; omega) | omega) _) | (refine Below.alloc ?_ (by first | (simp; done) | (simp; omega) | omega) _) | (refine below_drewN ?_ _) | (refine Below.drew ?_))))
  have hbk0 : w15.heap.size = w15.heap.size := by simp
  rw [hbk0] at s_16
  clear hbk0
  have hb : Below w15.heap.size w15 (w15.alloc (.cells #[.int .i64 PR3, .int .i64 MR3, .slice os XR3.length cs] 59)) := (by (repeat (first | exact Below.refl _ _ | (refine Below.setCell ?_ (by first | (simp; done) | (simp; omega) | omega) _) | (refine Below.alloc ?_ (by first | (simp; done) | (simp; omega) | omega) _) | (refine below_drewN ?_ _) | (refine Below.drew ?_))))
  have a_16 := a_15.below hb
  have f_16 := f_15.below hb
  have x_16 := x_15.below hb
  have HB16 := HB15.trans (hb.mono HB15.size)
  clear hb HB15 a_15 f_15 x_15
  generalize w15.alloc (.cells #[.int .i64 PR3, .int .i64 MR3, .slice os XR3.length cs] 59) = w16 at a_16 f_16 x_16 s_16 HB16 ⊢
  clear rs
  have hC := sCutWitt_c (px) (mx) _ (xx) nx w16 x_16.2
  rw [HR3.out] at hC
  refine (wend4 hC).mono ?_
  clear hC
  rintro e w17 ⟨vt, rfl, ht, hb, hlt⟩
  have a_17 := a_16.below hb
  have f_17 := f_16.below hb
  have x_17 := x_16.below hb
  have s_17 := s_16.below hb
  have HB17 := HB16.trans (hb.mono HB16.size)
  clear a_16 f_16 x_16 s_16 HB16 hb
  obtain ⟨ot, ct, rfl⟩ := ht.shape
  have rt := ht.rd
  clear ht
  clear hlt
  have hqR3 : (CR3 != CR3) = false := by simp
  obtain ⟨⟨qs0, qs1, qs2⟩, -⟩ := id s_17
  have ls := s_17.lt
  go_wp2_with fail
  clear ls qs0 qs1 qs2
  have t_18 := (WB.mk1 w17 (PR3) (MR3) (.slice ot XR3.length ct) (XR3) rt 59).below (w' := w17.alloc (.cells #[.int .i64 PR3, .int .i64 MR3, .slice ot XR3.length ct] 59)) (by (repeat (first | exact Below.refl _ _ | (refine Below.setCell ?_ (by first | (simp; done) | (simp; omega) | omega) _) | (refine Below.alloc ?_ (by first | (simp; done) | (simp; omega) | omega) _) | (refine below_drewN ?_ _) | (refine Below.drew ?_))))
  have hbk0 : w17.heap.size = w17.heap.size := by simp
  rw [hbk0] at t_18
  clear hbk0
  have hb : Below w17.heap.size w17 (w17.alloc (.cells #[.int .i64 PR3, .int .i64 MR3, .slice ot XR3.length ct] 59)) := (by (repeat (first | exact Below.refl _ _ | (refine Below.setCell ?_ (by first | (simp; done) | (simp; omega) | omega) _) | (refine Below.alloc ?_ (by first | (simp; done) | (simp; omega) | omega) _) | (refine below_drewN ?_ _) | (refine Below.drew ?_))))
  have a_18 := a_17.below hb
  have f_18 := f_17.below hb
  have x_18 := x_17.below hb
  have s_18 := s_17.below hb
  have HB18 := HB17.trans (hb.mono HB17.size)
  clear hb HB17 a_17 f_17 x_17 s_17
  generalize w17.alloc (.cells #[.int .i64 PR3, .int .i64 MR3, .slice ot XR3.length ct] 59) = w18 at a_18 f_18 x_18 s_18 t_18 HB18 ⊢
  clear rt
  refine (witt9_same (PR3) (MR3) _ _ (XR3) _ s_18.2 t_18.2).mono ?_
  rintro e w19 ⟨rfl, hb⟩
  have a_19 := a_18.below hb
  have f_19 := f_18.below hb
  have x_19 := x_18.below hb
  have s_19 := s_18.below hb
  have t_19 := t_18.below hb
  have HB19 := HB18.trans (hb.mono HB18.size)
  clear a_18 f_18 x_18 s_18 t_18 HB18 hb
  clear s_19
  clear t_19
  clear x_19
  go_wp2_with fail
  clear hqR3
  refine (DrawRepresentativeOf_d w0.heap.size n _ w19 (HV.out.keep (fun j hj => HB19.block j hj)) HB19.size).mono ?_
  rintro e w20 ⟨pr, mr, nr, ar, rfl, hb⟩
  have a_20 := a_19.below hb
  have f_20 := f_19.below hb
  have HB20 := HB19.trans (hb.mono HB19.size)
  clear a_19 f_19 HB19 hb
  go_wp2_with fail
  obtain ⟨⟨PR4, MR4, XR4, CR4⟩, hR4⟩ : ∃ r, reprR pr mr nr ar = r := ⟨_, rfl⟩
  have HR4 := Lib.hid hR4
  clear hR4
  have hC := RepresentativeOf_c  pr mr nr ar w20 
  rw [HR4.out] at hC
  refine (wend4 hC).mono ?_
  clear hC
  rintro e w21 ⟨vr, rfl, hr, hb, hlr⟩
  have a_21 := a_20.below hb
  have f_21 := f_20.below hb
  have HB21 := HB20.trans (hb.mono HB20.size)
  clear a_20 f_20 HB20 hb
  obtain ⟨or, cr, rfl⟩ := hr.shape
  have rr := hr.rd
  clear hr
  clear hlr
  go_wp2_with fail
  have r_22 := (WB.mk1 w21 (PR4) (MR4) (.slice or XR4.length cr) (XR4) rr 59).below (w' := w21.alloc (.cells #[.int .i64 PR4, .int .i64 MR4, .slice or XR4.length cr] 59)) (by (repeat (first | exact Below.refl _ _ | (refine Below.setCell ?_ (by first | (simp; done) | (simp; omega) | omega) _) | (refine Below.alloc ?_ (by first | (simp; done) | (simp; omega) | omega) _) | (refine below_drewN ?_ _) | (refine Below.drew ?_))))
  have hbk0 : w21.heap.size = w21.heap.size := by simp
  rw [hbk0] at r_22
  clear hbk0
  have hb : Below w21.heap.size w21 (w21.alloc (.cells #[.int .i64 PR4, .int .i64 MR4, .slice or XR4.length cr] 59)) := (by (repeat (first | exact Below.refl _ _ | (refine Below.setCell ?_ (by first | (simp; done) | (simp; omega) | omega) _) | (refine Below.alloc ?_ (by first | (simp; done) | (simp; omega) | omega) _) | (refine below_drewN ?_ _) | (refine Below.drew ?_))))
  have a_22 := a_21.below hb
  have f_22 := f_21.below hb
  have HB22 := HB21.trans (hb.mono HB21.size)
  clear hb HB21 a_21 f_21
  generalize w21.alloc (.cells #[.int .i64 PR4, .int .i64 MR4, .slice or XR4.length cr] 59) = w22 at a_22 f_22 r_22 HB22 ⊢
  clear rr
  have hC := sRepresentativeOf_c  pr mr nr ar w22 
  rw [HR4.out] at hC
  refine (wend4 hC).mono ?_
  clear hC
  rintro e w23 ⟨vt, rfl, ht, hb, hlt⟩
  have a_23 := a_22.below hb
  have f_23 := f_22.below hb
  have r_23 := r_22.below hb
  have HB23 := HB22.trans (hb.mono HB22.size)
  clear a_22 f_22 r_22 HB22 hb
  obtain ⟨ot, ct, rfl⟩ := ht.shape
  have rt := ht.rd
  clear ht
  clear hlt
  have hqR4 : (CR4 != CR4) = false := by simp
  obtain ⟨⟨qr0, qr1, qr2⟩, -⟩ := id r_23
  have lr := r_23.lt
  go_wp2_with fail
  clear lr qr0 qr1 qr2
  have t_24 := (WB.mk1 w23 (PR4) (MR4) (.slice ot XR4.length ct) (XR4) rt 59).below (w' := w23.alloc (.cells #[.int .i64 PR4, .int .i64 MR4, .slice ot XR4.length ct] 59)) (by (repeat (first | exact Below.refl _ _ | (refine Below.setCell ?_ (by first | (simp; done) | (simp; omega) | omega) _) | (refine Below.alloc ?_ (by first | (simp; done) | (simp; omega) | omega) _) | (refine below_drewN ?_ _) | (refine Below.drew ?_))))
  have hbk0 : w23.heap.size = w23.heap.size := by simp
  rw [hbk0] at t_24
  clear hbk0
  have hb : Below w23.heap.size w23 (w23.alloc (.cells #[.int .i64 PR4, .int .i64 MR4, .slice ot XR4.length ct] 59)) := (by (repeat (first | exact Below.refl _ _ | (refine Below.setCell ?_ (by first | (simp; done) | (simp; omega) | omega) _) | (refine Below.alloc ?_ (by first | (simp; done) | (simp; omega) | omega) _) | (refine below_drewN ?_ _) | (refine Below.drew ?_))))
  have a_24 := a_23.below hb
  have f_24 := f_23.below hb
  have r_24 := r_23.below hb
  have HB24 := HB23.trans (hb.mono HB23.size)
  clear hb HB23 a_23 f_23 r_23
  generalize w23.alloc (.cells #[.int .i64 PR4, .int .i64 MR4, .slice ot XR4.length ct] 59) = w24 at a_24 f_24 r_24 t_24 HB24 ⊢
  clear rt
  refine (witt9_same (PR4) (MR4) _ _ (XR4) _ r_24.2 t_24.2).mono ?_
  rintro e w25 ⟨rfl, hb⟩
  have a_25 := a_24.below hb
  have f_25 := f_24.below hb
  have r_25 := r_24.below hb
  have t_25 := t_24.below hb
  have HB25 := HB24.trans (hb.mono HB24.size)
  clear a_24 f_24 r_24 t_24 HB24 hb
  clear t_25
  go_wp2_with fail
  clear hqR4
  refine (roll_c w0.heap.size n _ 7014 w25 (HV.out.keep (fun j hj => HB25.block j hj)) HB25.size).mono ?_
  rintro e w26 ⟨d, rfl, hs, hb⟩
  have hbd := hs.1
  have hbL := hb
  have hsL := hs.lt
  have aL := a_25
  have fL := f_25
  have rL := r_25
  have HBL := HB25
  have a_26 := a_25.below hb
  have f_26 := f_25.below hb
  have r_26 := r_25.below hb
  have HB26 := HB25.trans (hb.mono HB25.size)
  clear a_25 f_25 r_25 HB25 hb
  have hD_26 := DW.refl hs
  clear hs
  go_upto_if 155 with fail
  go_cut [27, 28, 29, 30, 31, 32, 33] from 156 (fun s27 s28 s29 s30 s31 s32 s33 u => DW w25.heap.size n d w26 u)
  case first =>
    by_cases hc4 : CR4 = 0
    · obtain ⟨hsh, e1⟩ : (shapeB pr mr nr && inB ar 0 (mr - 1)) = true ∧ True := by
        refine ⟨?_, trivial⟩
        have e := HR4.out
        rw [hc4] at e
        cases h : (shapeB pr mr nr && inB ar 0 (mr - 1))
        · simp [reprR, h, WR.bad] at e
        · rfl
      clear e1
      subst hc4
      go_wp2_with fail
      refine (dice_d _ n d _ _ hD_26.src).mono ?_
      rintro e w27 ⟨y, rfl, z0, z1, z2, hdy, hzy⟩
      have hmr := shape_m (by simpa using hsh : shapeB pr mr nr = true ∧ inB ar 0 (mr - 1) = true).1
      have z1 := z1 (by omega)
      clear z2 hzy hmr
      obtain ⟨X, Y, Z, e1, e2, e3, e4, m1, m2, a0, a1⟩ := repr_all hsh z0 z1
      obtain ⟨rfl, rfl, rfl⟩ : pr = PR4 ∧ mr = MR4 ∧ X = XR4 := by have e := HR4.out; rw [e1] at e; simpa using e
      have E2 := Lib.hid e2
      have E3 := Lib.hid e3
      have E4 := Lib.hid e4
      clear e1 e2 e3 e4
      have p0 : 0 ≤ ar * y := Int.mul_nonneg a0 z0
      have p1 : ar * y ≤ 10000 * 10000 := Int.mul_le_mul (by omega) (by omega) z0 (by omega)
      have mz' : mr ≠ 0 := by omega
      have hD_27 := hD_26.trans hdy
      have hbr := hD_27.out hbL hbd
      have r_27 := rL.below hbr
      have HB27 := HBL.trans (hbr.mono HBL.size)
      clear hdy hbr
      go_wp2_with fail
      have hC := RepresentativeOf_c  pr mr nr y w27 
      rw [E2.out] at hC
      refine (wend4 hC).mono ?_
      clear hC
      rintro e w28 ⟨vq, rfl, hq, hb, hlq⟩
      have r_28 := r_27.below hb
      have hD_28 := hD_27.below hb
      have HB28 := HB27.trans (hb.mono HB27.size)
      clear r_27 hD_27 HB27 hb
      obtain ⟨oq, cq, rfl⟩ := hq.shape
      have rq := hq.rd
      clear hq
      clear hlq
      obtain ⟨⟨qr0, qr1, qr2⟩, -⟩ := id r_28
      have lr := r_28.lt
      go_wp2_with fail
      clear lr qr0 qr1 qr2
      have q_29 := (WB.mk1 w28 (pr) (mr) (.slice oq Y.length cq) (Y) rq 59).below (w' := w28.alloc (.cells #[.int .i64 pr, .int .i64 mr, .slice oq Y.length cq] 59)) (by (repeat (first | exact Below.refl _ _ | (refine Below.setCell ?_ (by first | (simp; done) | (simp; omega) | omega) _) | (refine Below.alloc ?_ (by first | (simp; done) | (simp; omega) | omega) _) | (refine below_drewN ?_ _) | (refine Below.drew ?_))))
      have hbk0 : w28.heap.size = w28.heap.size := by simp
      rw [hbk0] at q_29
      clear hbk0
      have hb : Below w28.heap.size w28 (w28.alloc (.cells #[.int .i64 pr, .int .i64 mr, .slice oq Y.length cq] 59)) := (by (repeat (first | exact Below.refl _ _ | (refine Below.setCell ?_ (by first | (simp; done) | (simp; omega) | omega) _) | (refine Below.alloc ?_ (by first | (simp; done) | (simp; omega) | omega) _) | (refine below_drewN ?_ _) | (refine Below.drew ?_))))
      have r_29 := r_28.below hb
      have hD_29 := hD_28.below hb
      have HB29 := HB28.trans (hb.mono HB28.size)
      clear hb HB28 r_28 hD_28
      generalize w28.alloc (.cells #[.int .i64 pr, .int .i64 mr, .slice oq Y.length cq] 59) = w29 at r_29 hD_29 q_29 HB29 ⊢
      clear rq
      have hC := MultiplyWitt_c (pr) (mr) _ (X) (pr) (mr) _ (Y)  w29 r_29.2 q_29.2
      rw [E3.out] at hC
      refine (wend4 hC).mono ?_
      clear hC
      rintro e w30 ⟨vs, rfl, hs, hb, hls⟩
      have r_30 := r_29.below hb
      have hD_30 := hD_29.below hb
      have q_30 := q_29.below hb
      have HB30 := HB29.trans (hb.mono HB29.size)
      clear r_29 hD_29 q_29 HB29 hb
      obtain ⟨os, cs, rfl⟩ := hs.shape
      have rs := hs.rd
      clear hs
      clear hls
      go_wp2_with fail
      have s_31 := (WB.mk1 w30 (pr) (mr) (.slice os Z.length cs) (Z) rs 59).below (w' := w30.alloc (.cells #[.int .i64 pr, .int .i64 mr, .slice os Z.length cs] 59)) (by (repeat (first | exact Below.refl _ _ | (refine Below.setCell ?_ (by first | (simp; done) | (simp; omega) | omega) _) | (refine Below.alloc ?_ (by first | (simp; done) | (simp; omega) | omega) _) | (refine below_drewN ?_ _) | (refine Below.drew ?_))))
      have hbk0 : w30.heap.size = w30.heap.size := by simp
      rw [hbk0] at s_31
      clear hbk0
      have hb : Below w30.heap.size w30 (w30.alloc (.cells #[.int .i64 pr, .int .i64 mr, .slice os Z.length cs] 59)) := (by (repeat (first | exact Below.refl _ _ | (refine Below.setCell ?_ (by first | (simp; done) | (simp; omega) | omega) _) | (refine Below.alloc ?_ (by first | (simp; done) | (simp; omega) | omega) _) | (refine below_drewN ?_ _) | (refine Below.drew ?_))))
      have r_31 := r_30.below hb
      have hD_31 := hD_30.below hb
      have q_31 := q_30.below hb
      have HB31 := HB30.trans (hb.mono HB30.size)
      clear hb HB30 r_30 hD_30 q_30
      generalize w30.alloc (.cells #[.int .i64 pr, .int .i64 mr, .slice os Z.length cs] 59) = w31 at r_31 hD_31 q_31 s_31 HB31 ⊢
      clear rs
      have hC := RepresentativeOf_c  pr mr nr (ar * y % mr) w31 
      rw [E4.out] at hC
      refine (wend4 hC).mono ?_
      clear hC
      rintro e w32 ⟨vt, rfl, ht, hb, hlt⟩
      have r_32 := r_31.below hb
      have hD_32 := hD_31.below hb
      have q_32 := q_31.below hb
      have s_32 := s_31.below hb
      have HB32 := HB31.trans (hb.mono HB31.size)
      clear r_31 hD_31 q_31 s_31 HB31 hb
      obtain ⟨ot, ct, rfl⟩ := ht.shape
      have rt := ht.rd
      clear ht
      clear hlt
      obtain ⟨⟨qs0, qs1, qs2⟩, -⟩ := id s_32
      have ls := s_32.lt
      go_wp2_with fail
      clear ls qs0 qs1 qs2
      have t_33 := (WB.mk1 w32 (pr) (mr) (.slice ot Z.length ct) (Z) rt 59).below (w' := w32.alloc (.cells #[.int .i64 pr, .int .i64 mr, .slice ot Z.length ct] 59)) (by (repeat (first | exact Below.refl _ _ | (refine Below.setCell ?_ (by first | (simp; done) | (simp; omega) | omega) _) | (refine Below.alloc ?_ (by first | (simp; done) | (simp; omega) | omega) _) | (refine below_drewN ?_ _) | (refine Below.drew ?_))))
      have hbk0 : w32.heap.size = w32.heap.size := by simp
      rw [hbk0] at t_33
      clear hbk0
      have hb : Below w32.heap.size w32 (w32.alloc (.cells #[.int .i64 pr, .int .i64 mr, .slice ot Z.length ct] 59)) := (by (repeat (first | exact Below.refl _ _ | (refine Below.setCell ?_ (by first | (simp; done) | (simp; omega) | omega) _) | (refine Below.alloc ?_ (by first | (simp; done) | (simp; omega) | omega) _) | (refine below_drewN ?_ _) | (refine Below.drew ?_))))
      have r_33 := r_32.below hb
      have hD_33 := hD_32.below hb
      have q_33 := q_32.below hb
      have s_33 := s_32.below hb
      have HB33 := HB32.trans (hb.mono HB32.size)
      clear hb HB32 r_32 hD_32 q_32 s_32
      generalize w32.alloc (.cells #[.int .i64 pr, .int .i64 mr, .slice ot Z.length ct] 59) = w33 at r_33 hD_33 q_33 s_33 t_33 HB33 ⊢
      clear rt
      refine (witt9_same (pr) (mr) _ _ (Z) _ s_33.2 t_33.2).mono ?_
      rintro e w34 ⟨rfl, hb⟩
      have r_34 := r_33.below hb
      have hD_34 := hD_33.below hb
      have q_34 := q_33.below hb
      have s_34 := s_33.below hb
      have t_34 := t_33.below hb
      have HB34 := HB33.trans (hb.mono HB33.size)
      clear r_33 hD_33 q_33 s_33 t_33 HB33 hb
      go_wp2_with fail
      go_meet
      case rel => exact hD_34
    · have hc4' : (CR4 == 0) = false := by simpa using hc4
      go_wp2_with fail
      go_meet
      case rel => exact hD_26
  case rest =>
    obtain ⟨w27, rfl⟩ : ∃ u, u = wc := ⟨_, rfl⟩
    have hbr := hcut.out hbL hbd
    have HB27 := HBL.trans (hbr.mono HBL.size)
    have hD_27 := hcut
    clear hcut HB26 a_26 f_26 r_26 hD_26
    have a_27 := aL.below hbr
    have f_27 := fL.below hbr
    have r_27 := rL.below hbr
    clear hbr
    clear r_27
    by_cases hc : wittB pa ma xa = true ∧ xa.length ≠ 1
    rotate_left
    · have hx : XR1 = [] ∧ CR1 ≠ 0 := by
        have e := HR1.out
        unfold frobR at e
        split at e
        · rename_i h1
          split at e
          · simp [WR.bad] at e; exact ⟨e.2.2.1, by omega⟩
          · rename_i h2
            exact absurd ⟨h1, fun e => h2 (by rw [e]; rfl)⟩ hc
        · simp [WR.bad] at e; exact ⟨e.2.2.1, by omega⟩
      obtain ⟨rfl, hc1⟩ := hx
      obtain ⟨⟨qf0, qf1, qf2⟩, -⟩ := id f_27
      have lf := f_27.lt
      go_wp2
      go_ret
      exact ⟨rfl, HB27⟩
    have ha : Wt pa ma xa.length xa := ⟨hc.1, rfl⟩
    have h2 : 2 ≤ xa.length := by have := ha.n; omega
    have hn := ha.n
    have e1 := (ha.frob h2).2
    have e0 := HR1.out
    rw [e1] at e0
    obtain ⟨rfl, rfl, e2, rfl⟩ : pa = PR1 ∧ ma = MR1 ∧ frobL pa.toNat ma xa = XR1 ∧ 0 = CR1 := by simpa using e0
    clear e0 e1 HR1
    have HF := Lib.hid e2
    clear e2 hc
    have hm := witt_m ha.ok
    obtain ⟨⟨qa0, qa1, qa2⟩, -⟩ := id a_27
    have la := a_27.lt
    go_wp2_with fail
    clear la qa0 qa1 qa2
    have HSZ := Lib.hid hD_27.size
    have hU := RB3.mk1 w27 (.int .i64 pa) (.int .i64 ma) (.slice none 0 0) 59
    have hD := hD_27.alloc (.cells #[.int .i64 pa, .int .i64 ma, .slice none 0 0] 59)
    clear HB27 a_27 f_27 hD_27
    have hz1 := hD.size
    generalize w27.alloc (.cells #[.int .i64 pa, .int .i64 ma, .slice none 0 0] 59) = w28 at hU hD hz1 ⊢
    have hlU0 := hU.1.lt
    have hd1 : d < w27.heap.size := by have := hD.lt; have := HSZ.out; omega
    go_loopw [35] (fun i wr => ∃ (k : Nat) (xs : List Int) (o : Option Addr) (c : Nat), k ≤ xa.length ∧ (xs.length = k ∧ ∀ y ∈ xs, 0 ≤ y ∧ y < ma) ∧ i = .int .i64 k ∧ RB3 wr w27.heap.size (.int .i64 pa) (.int .i64 ma) (.slice o k c) ∧ OwI wr (w27.heap.size + 1) (.slice o k c) xs ∧ DW w25.heap.size n d w26 wr) (fun i _ => xa.length - (intOf i).toNat)
    case atStart => exact ⟨0, [], none, 0, by omega, ⟨rfl, by simp⟩, by go_num, hU, OwI.nil _ _, hD⟩
    clear hU hD hlU0 hz1
    rename_i hrel
    obtain ⟨k, xs, oy, cy, hk, hxs, rfl, hU, hO, hD⟩ := hrel
    have HX := Lib.hid hxs
    clear hxs
    have hbr := hD.out hbL hbd
    have hlU := hU.1.lt
    have hr_a := aL.below hbr
    obtain ⟨⟨q0, q1, q2⟩, -⟩ := id hr_a
    have hq0 := hr_a.lt
    obtain ⟨⟨u0, u1, u2⟩, uf⟩ := id hU
    by_cases hlt : k < xa.length
    · have i1 : (k : Int) < (xa.length : Int) := by omega
      go_wp2_with fail
      have hd0 : Below wr.heap.size wr wr.drew := (Below.refl _ _).drew
      have hsd0 := hd0.size
      refine wp_region_K (S := fun w' => w'.cell? ⟨w27.heap.size, 2, none⟩ = some (.slice oy k cy) ∧ w'.cell? ⟨w1.heap.size, 1, none⟩ = some (.int .i64 ma)) [7, 8, 9] (by kernel_rfl) ?_
      have hHeld : (fun w' : World => w'.cell? ⟨w27.heap.size, 2, none⟩ = some (.slice oy k cy) ∧ w'.cell? ⟨w1.heap.size, 1, none⟩ = some (.int .i64 ma)) wr.drew := by go_keep
      refine' wpAnyK_takeL (i := 0) (v := _) rfl (by kernel_rfl) (by kernel_rfl) (by kernel_rfl) (by kernel_rfl) (fun _ _ _ h => h) (Or.inl ⟨by rfl, ?yT1⟩) hHeld ?rT1
      case yT1 => (intro w' hSw; (try dsimp only at hSw); go_simp; try with_reducible rfl)
      try simp only [List.getElem_toArray, List.getElem_cons_zero, List.getElem_cons_succ, Act.put, List.setIfInBounds_toArray, List.set_cons_zero, List.set_cons_succ]
      refine' wpAnyK_takeL (i := 1) (v := _) rfl (by kernel_rfl) (by kernel_rfl) (by kernel_rfl) (by kernel_rfl) (fun _ _ _ h => h) (Or.inl ⟨by rfl, ?yT2⟩) hHeld ?rT2
      case yT2 => (intro w' hSw; (try dsimp only at hSw); go_simp; try with_reducible rfl)
      try simp only [List.getElem_toArray, List.getElem_cons_zero, List.getElem_cons_succ, Act.put, List.setIfInBounds_toArray, List.set_cons_zero, List.set_cons_succ]
      refine' wpAnyK_takeL (i := 2) (v := _) rfl (by kernel_rfl) (by kernel_rfl) (by kernel_rfl) (by kernel_rfl) (fun _ _ _ h => h) (Or.inl ⟨by rfl, ?yT3⟩) hHeld ?rT3
      case yT3 => (intro w' hSw; (try dsimp only at hSw); go_simp; try with_reducible rfl)
      try simp only [List.getElem_toArray, List.getElem_cons_zero, List.getElem_cons_succ, Act.put, List.setIfInBounds_toArray, List.set_cons_zero, List.set_cons_succ]
      refine' wpAnyK_takeL (i := 3) (v := _) rfl (by kernel_rfl) (by kernel_rfl) (by kernel_rfl) (by kernel_rfl) (fun _ _ _ h => h) (Or.inl ⟨by rfl, ?yT4⟩) hHeld ?rT4
      case yT4 => (intro w' hSw; (try dsimp only at hSw); go_simp; try with_reducible rfl)
      try simp only [List.getElem_toArray, List.getElem_cons_zero, List.getElem_cons_succ, Act.put, List.setIfInBounds_toArray, List.set_cons_zero, List.set_cons_succ]
      refine' wpAnyK_takeL (i := 4) (v := _) rfl (by kernel_rfl) (by kernel_rfl) (by kernel_rfl) (by kernel_rfl) (fun _ _ _ h => h) (Or.inl ⟨by rfl, ?yT5⟩) hHeld ?rT5
      case yT5 => (intro w' hSw; (try dsimp only at hSw); go_simp; try with_reducible rfl)
      try simp only [List.getElem_toArray, List.getElem_cons_zero, List.getElem_cons_succ, Act.put, List.setIfInBounds_toArray, List.set_cons_zero, List.set_cons_succ]
      refine wpAnyK_oneL (i := 5) rfl (by kernel_rfl) (fun K hK => ?_)
      go_simp
      go_at_call 70
      refine (dice_d _ n d _ _ hD.drew.src).mono ?_
      rintro e wy ⟨y, rfl, z0, z1, z2, hdy, hzy⟩
      have z1 := z1 (by omega)
      clear z2 hzy
      have hUy := (show RB3 wr.drew _ _ _ _ from hU).dw hdy (by omega)
      have hOy := (show OwI wr.drew _ _ _ from hO).dw hdy (by omega)
      have hDy := hD.drew.trans hdy
      have hry := aL.below (hDy.out hbL hbd)
      clear hdy hHeld
      have hly := hUy.1.lt
      have hlr := hry.lt
      obtain ⟨⟨t0, t1, t2⟩, tf⟩ := id hUy
      obtain ⟨⟨s0, s1, s2⟩, -⟩ := id hry
      go_wp2_with fail
      have hHeld : (fun w' : World => w'.cell? ⟨w27.heap.size, 2, none⟩ = some (.slice oy k cy) ∧ w'.cell? ⟨w1.heap.size, 1, none⟩ = some (.int .i64 ma)) wy := by go_keep
      refine hK.out _ _ (fun _ => hHeld) ?_
      clear hK K
      try simp only [List.getElem_toArray, List.getElem_cons_zero, List.getElem_cons_succ, Act.put, List.setIfInBounds_toArray, List.set_cons_zero, List.set_cons_succ]
      refine wpAnyK_oneL (i := 6) rfl (by kernel_rfl) (fun K hK => ?_)
      go_simp
      (try go_wp2_with fail)
      have hHeld2 : (fun w' : World => w'.cell? ⟨w27.heap.size, 2, none⟩ = some (.slice oy k cy) ∧ w'.cell? ⟨w1.heap.size, 1, none⟩ = some (.int .i64 ma)) (wy.alloc (.cells #[.int .i64 y] 2)) := by go_keep
      clear hHeld
      have hHeld := hHeld2
      clear hHeld2
      refine hK.out _ _ (fun _ => hHeld) ?_
      clear hK K
      try simp only [List.getElem_toArray, List.getElem_cons_zero, List.getElem_cons_succ, Act.put, List.setIfInBounds_toArray, List.set_cons_zero, List.set_cons_succ]
      refine wpAnyK_oneL (i := 7) rfl (by kernel_rfl) (fun K hK => ?_)
      clear hHeld
      have hUz := (hUy.below (w' := wy.alloc (.cells #[.int .i64 y] 2)) (by (repeat (first | exact Below.refl _ _ | (refine Below.setCell ?_ (by first | (simp; done) | (simp; omega) | omega) _) | (refine Below.alloc ?_ (by first | (simp; done) | (simp; omega) | omega) _) | (refine below_drewN ?_ _) | (refine Below.drew ?_)))) (Nat.le_refl _))
      have hDz := hDy.alloc (.cells #[.int .i64 y] 2)
      have hOl := hOy.lt
      refine stR _ rfl _ _ rfl (w27.heap.size + 1) (.slice oy k cy) xs rfl (hOy.alloc _) ⟨wy.heap.size, 0, none⟩ 1 1 [y] rfl (OwI.lit wy [y] (by simp [maxLen])).rd (by have := HX.out.1; simp; omega) (by simp; omega) ?_
      intro o2 c2 wz hOz hgz hbz
      have hUz := hUz.grown hgz (fun e => by have := hOl _ e.symm; omega)
      have hDz := hDz.grown hgz (fun k hk => by have := hOl _ hk; have := HSZ.out; omega)
      clear hUy hDy hOy hry hgz hbz hOl t0 t1 t2 tf s0 s1 s2
      rw [show (xs ++ [y]).length = k + 1 by have := HX.out.1; simp; omega] at hOz ⊢
      have hlz := hUz.1.lt
      obtain ⟨⟨t0, t1, t2⟩, tf⟩ := id hUz
      refine hK.out _ _ (fun h => absurd h (by decide)) ?_
      clear hK K
      try simp only [List.getElem_toArray, List.getElem_cons_zero, List.getElem_cons_succ, Act.put, List.setIfInBounds_toArray, List.set_cons_zero, List.set_cons_succ]
      refine wpAnyK_oneL (i := 8) rfl (by kernel_rfl) (fun K hK => ?_)
      go_simp
      (try go_wp2_with fail)
      refine hK.out _ _ (fun h => absurd h (by decide)) ?_
      clear hK K
      try simp only [List.getElem_toArray, List.getElem_cons_zero, List.getElem_cons_succ, Act.put, List.setIfInBounds_toArray, List.set_cons_zero, List.set_cons_succ]
      refine wpAnyK_oneL (i := 9) rfl (by kernel_rfl) (fun K hK => ?_)
      go_simp
      (try go_wp2_with fail)
      refine hK.out _ _ (fun h => absurd h (by decide)) ?_
      clear hK K
      try simp only [List.getElem_toArray, List.getElem_cons_zero, List.getElem_cons_succ, Act.put, List.setIfInBounds_toArray, List.set_cons_zero, List.set_cons_succ]
      refine wpAnyK_done (by kernel_rfl) ?_ _
      go_wp2_with fail
      go_wp2
      exact ⟨⟨k + 1, xs ++ [y], o2, c2, by omega, ⟨by have := HX.out.1; simp; omega, fun t ht => by have h := HX.out.2; simp at ht; rcases ht with ht | rfl; exact h t ht; exact ⟨z0, z1⟩⟩, by go_num, hUz.set2 _, hOz.low (by simp) _, hDz.put (by have := HSZ.out; omega) _ _⟩, by simp [intOf]; omega⟩
    obtain rfl : k = xa.length := by omega
    clear hk hlt q0 q1 q2 hq0 u0 u1 u2 uf hlU hr_a
    obtain ⟨w28, rfl⟩ : ∃ u : World, u = wr := ⟨_, rfl⟩
    have HB28 := HBL.trans (hbr.mono HBL.size)
    have a_28 := aL.below hbr
    have f_28 := fL.below hbr
    obtain ⟨o, rfl⟩ : ∃ o, oy = o := ⟨_, rfl⟩
    have Wy : Wt pa ma xa.length xs := Wt.mk' ha HX.out.1 HX.out.2
    have y_28 : WB w28 w27.heap.size pa ma (.slice oy xa.length cy) xs := ⟨hU.1, hO.rd⟩
    clear hU hO hD hbr HX HBL hbL hbd hsL HSZ hd1 aL fL rL
    obtain ⟨xy, rfl⟩ : ∃ l, l = xs := ⟨_, rfl⟩
    obtain ⟨xf, xg, xw, xb, xs, xc, xi, e1, e2, e3, e4, e5, e6, e7, e8, e9, hli⟩ := maps_all ha Wy h2
    obtain ⟨xl, hxl⟩ : ∃ l, l = [0] ++ xi := ⟨_, rfl⟩
    rw [← hxl] at e7
    have HXL := Lib.hid hxl
    clear hxl
    have HLI := Lib.hid hli
    clear hli
    obtain rfl : XR1 = xf := by
      have e := (ha.frob h2).2
      rw [e1] at e
      have e := (WR.mk.inj e).2.2.1
      rw [e]; exact HF.out.symm
    have E2 := Lib.hid e2
    have E3 := Lib.hid e3
    have E4 := Lib.hid e4
    have E5 := Lib.hid e5
    have E6 := Lib.hid e6
    have E7 := Lib.hid e7
    have E8 := Lib.hid e8
    have E9 := Lib.hid e9
    clear e1 e2 e3 e4 e5 e6 e7 e8 e9 HF
    obtain ⟨⟨qa0, qa1, qa2⟩, -⟩ := id a_28
    have la := a_28.lt
    obtain ⟨⟨qy0, qy1, qy2⟩, -⟩ := id y_28
    have ly := y_28.lt
    go_wp2_with fail
    clear la qa0 qa1 qa2
    clear ly qy0 qy1 qy2
    have hC := FrobeniusOf_c (pa) (ma) _ (xy)  w28 y_28.2
    rw [E2.out] at hC
    refine (wend4 hC).mono ?_
    clear hC
    rintro e w29 ⟨vg, rfl, hg, hb, hlg⟩
    have a_29 := a_28.below hb
    have f_29 := f_28.below hb
    have y_29 := y_28.below hb
    have HB29 := HB28.trans (hb.mono HB28.size)
    clear a_28 f_28 y_28 HB28 hb
    obtain ⟨og, cg, rfl⟩ := hg.shape
    have rg := hg.rd
    clear hg
    clear hlg
    obtain ⟨⟨qa0, qa1, qa2⟩, -⟩ := id a_29
    have la := a_29.lt
    obtain ⟨⟨qy0, qy1, qy2⟩, -⟩ := id y_29
    have ly := y_29.lt
    go_wp2_with fail
    clear la qa0 qa1 qa2
    clear ly qy0 qy1 qy2
    have g_30 := (WB.mk1 w29 (pa) (ma) (.slice og xg.length cg) (xg) rg 59).below (w' := w29.alloc (.cells #[.int .i64 pa, .int .i64 ma, .slice og xg.length cg] 59)) (by (repeat (first | exact Below.refl _ _ | (refine Below.setCell ?_ (by first | (simp; done) | (simp; omega) | omega) _) | (refine Below.alloc ?_ (by first | (simp; done) | (simp; omega) | omega) _) | (refine below_drewN ?_ _) | (refine Below.drew ?_))))
    have hbk0 : w29.heap.size = w29.heap.size := by simp
    rw [hbk0] at g_30
    clear hbk0
    have hb : Below w29.heap.size w29 (w29.alloc (.cells #[.int .i64 pa, .int .i64 ma, .slice og xg.length cg] 59)) := (by (repeat (first | exact Below.refl _ _ | (refine Below.setCell ?_ (by first | (simp; done) | (simp; omega) | omega) _) | (refine Below.alloc ?_ (by first | (simp; done) | (simp; omega) | omega) _) | (refine below_drewN ?_ _) | (refine Below.drew ?_))))
    have a_30 := a_29.below hb
    have f_30 := f_29.below hb
    have y_30 := y_29.below hb
    have HB30 := HB29.trans (hb.mono HB29.size)
    clear hb HB29 a_29 f_29 y_29
    generalize w29.alloc (.cells #[.int .i64 pa, .int .i64 ma, .slice og xg.length cg] 59) = w30 at a_30 f_30 y_30 g_30 HB30 ⊢
    clear rg
    have hC := MultiplyWitt_c (pa) (ma) _ (xa) (pa) (ma) _ (xy)  w30 a_30.2 y_30.2
    rw [E3.out] at hC
    refine (wend4 hC).mono ?_
    clear hC
    rintro e w31 ⟨vwv, rfl, hwv, hb, hlwv⟩
    have a_31 := a_30.below hb
    have f_31 := f_30.below hb
    have y_31 := y_30.below hb
    have g_31 := g_30.below hb
    have HB31 := HB30.trans (hb.mono HB30.size)
    clear a_30 f_30 y_30 g_30 HB30 hb
    obtain ⟨owv, cwv, rfl⟩ := hwv.shape
    have rwv := hwv.rd
    clear hwv
    clear hlwv
    go_wp2_with fail
    have wv_32 := (WB.mk1 w31 (pa) (ma) (.slice owv xw.length cwv) (xw) rwv 59).below (w' := w31.alloc (.cells #[.int .i64 pa, .int .i64 ma, .slice owv xw.length cwv] 59)) (by (repeat (first | exact Below.refl _ _ | (refine Below.setCell ?_ (by first | (simp; done) | (simp; omega) | omega) _) | (refine Below.alloc ?_ (by first | (simp; done) | (simp; omega) | omega) _) | (refine below_drewN ?_ _) | (refine Below.drew ?_))))
    have hbk0 : w31.heap.size = w31.heap.size := by simp
    rw [hbk0] at wv_32
    clear hbk0
    have hb : Below w31.heap.size w31 (w31.alloc (.cells #[.int .i64 pa, .int .i64 ma, .slice owv xw.length cwv] 59)) := (by (repeat (first | exact Below.refl _ _ | (refine Below.setCell ?_ (by first | (simp; done) | (simp; omega) | omega) _) | (refine Below.alloc ?_ (by first | (simp; done) | (simp; omega) | omega) _) | (refine below_drewN ?_ _) | (refine Below.drew ?_))))
    have a_32 := a_31.below hb
    have f_32 := f_31.below hb
    have y_32 := y_31.below hb
    have g_32 := g_31.below hb
    have HB32 := HB31.trans (hb.mono HB31.size)
    clear hb HB31 a_31 f_31 y_31 g_31
    generalize w31.alloc (.cells #[.int .i64 pa, .int .i64 ma, .slice owv xw.length cwv] 59) = w32 at a_32 f_32 y_32 g_32 wv_32 HB32 ⊢
    clear rwv
    have hC := FrobeniusOf_c (pa) (ma) _ (xw)  w32 wv_32.2
    rw [E4.out] at hC
    refine (wend4 hC).mono ?_
    clear hC
    rintro e w33 ⟨vb, rfl, hb, hb, hlb⟩
    have a_33 := a_32.below hb
    have f_33 := f_32.below hb
    have y_33 := y_32.below hb
    have g_33 := g_32.below hb
    have wv_33 := wv_32.below hb
    have HB33 := HB32.trans (hb.mono HB32.size)
    clear a_32 f_32 y_32 g_32 wv_32 HB32 hb
    obtain ⟨ob, cb, rfl⟩ := hb.shape
    have rb := hb.rd
    clear hb
    clear hlb
    obtain ⟨⟨qf0, qf1, qf2⟩, -⟩ := id f_33
    have lf := f_33.lt
    obtain ⟨⟨qg0, qg1, qg2⟩, -⟩ := id g_33
    have lg := g_33.lt
    go_wp2_with fail
    clear lf qf0 qf1 qf2
    clear lg qg0 qg1 qg2
    have b_34 := (WB.mk1 w33 (pa) (ma) (.slice ob xb.length cb) (xb) rb 59).below (w' := w33.alloc (.cells #[.int .i64 pa, .int .i64 ma, .slice ob xb.length cb] 59)) (by (repeat (first | exact Below.refl _ _ | (refine Below.setCell ?_ (by first | (simp; done) | (simp; omega) | omega) _) | (refine Below.alloc ?_ (by first | (simp; done) | (simp; omega) | omega) _) | (refine below_drewN ?_ _) | (refine Below.drew ?_))))
    have hbk0 : w33.heap.size = w33.heap.size := by simp
    rw [hbk0] at b_34
    clear hbk0
    have hb : Below w33.heap.size w33 (w33.alloc (.cells #[.int .i64 pa, .int .i64 ma, .slice ob xb.length cb] 59)) := (by (repeat (first | exact Below.refl _ _ | (refine Below.setCell ?_ (by first | (simp; done) | (simp; omega) | omega) _) | (refine Below.alloc ?_ (by first | (simp; done) | (simp; omega) | omega) _) | (refine below_drewN ?_ _) | (refine Below.drew ?_))))
    have a_34 := a_33.below hb
    have f_34 := f_33.below hb
    have y_34 := y_33.below hb
    have g_34 := g_33.below hb
    have wv_34 := wv_33.below hb
    have HB34 := HB33.trans (hb.mono HB33.size)
    clear hb HB33 a_33 f_33 y_33 g_33 wv_33
    generalize w33.alloc (.cells #[.int .i64 pa, .int .i64 ma, .slice ob xb.length cb] 59) = w34 at a_34 f_34 y_34 g_34 wv_34 b_34 HB34 ⊢
    clear rb
    have hC := MultiplyWitt_c (pa) (ma) _ (XR1) (pa) (ma) _ (xg)  w34 f_34.2 g_34.2
    rw [E5.out] at hC
    refine (wend4 hC).mono ?_
    clear hC
    rintro e w35 ⟨vfg, rfl, hfg, hb, hlfg⟩
    have a_35 := a_34.below hb
    have f_35 := f_34.below hb
    have y_35 := y_34.below hb
    have g_35 := g_34.below hb
    have wv_35 := wv_34.below hb
    have b_35 := b_34.below hb
    have HB35 := HB34.trans (hb.mono HB34.size)
    clear a_34 f_34 y_34 g_34 wv_34 b_34 HB34 hb
    obtain ⟨ofg, cfg, rfl⟩ := hfg.shape
    have rfg := hfg.rd
    clear hfg
    clear hlfg
    obtain ⟨⟨qy0, qy1, qy2⟩, -⟩ := id y_35
    have ly := y_35.lt
    go_wp2_with fail
    clear ly qy0 qy1 qy2
    have fg_36 := (WB.mk1 w35 (pa) (ma) (.slice ofg xb.length cfg) (xb) rfg 59).below (w' := w35.alloc (.cells #[.int .i64 pa, .int .i64 ma, .slice ofg xb.length cfg] 59)) (by (repeat (first | exact Below.refl _ _ | (refine Below.setCell ?_ (by first | (simp; done) | (simp; omega) | omega) _) | (refine Below.alloc ?_ (by first | (simp; done) | (simp; omega) | omega) _) | (refine below_drewN ?_ _) | (refine Below.drew ?_))))
    have hbk0 : w35.heap.size = w35.heap.size := by simp
    rw [hbk0] at fg_36
    clear hbk0
    have hb : Below w35.heap.size w35 (w35.alloc (.cells #[.int .i64 pa, .int .i64 ma, .slice ofg xb.length cfg] 59)) := (by (repeat (first | exact Below.refl _ _ | (refine Below.setCell ?_ (by first | (simp; done) | (simp; omega) | omega) _) | (refine Below.alloc ?_ (by first | (simp; done) | (simp; omega) | omega) _) | (refine below_drewN ?_ _) | (refine Below.drew ?_))))
    have a_36 := a_35.below hb
    have f_36 := f_35.below hb
    have y_36 := y_35.below hb
    have g_36 := g_35.below hb
    have wv_36 := wv_35.below hb
    have b_36 := b_35.below hb
    have HB36 := HB35.trans (hb.mono HB35.size)
    clear hb HB35 a_35 f_35 y_35 g_35 wv_35 b_35
    generalize w35.alloc (.cells #[.int .i64 pa, .int .i64 ma, .slice ofg xb.length cfg] 59) = w36 at a_36 f_36 y_36 g_36 wv_36 b_36 fg_36 HB36 ⊢
    clear rfg
    have hC := ShiftWitt_c (pa) (ma) _ (xy)  w36 y_36.2
    rw [E6.out] at hC
    refine (wend4 hC).mono ?_
    clear hC
    rintro e w37 ⟨vsh, rfl, hsh, hb, hlsh⟩
    have a_37 := a_36.below hb
    have f_37 := f_36.below hb
    have y_37 := y_36.below hb
    have g_37 := g_36.below hb
    have wv_37 := wv_36.below hb
    have b_37 := b_36.below hb
    have fg_37 := fg_36.below hb
    have HB37 := HB36.trans (hb.mono HB36.size)
    clear a_36 f_36 y_36 g_36 wv_36 b_36 fg_36 HB36 hb
    obtain ⟨osh, csh, rfl⟩ := hsh.shape
    have rsh := hsh.rd
    clear hsh
    clear hlsh
    obtain ⟨⟨qa0, qa1, qa2⟩, -⟩ := id a_37
    have la := a_37.lt
    go_wp2_with fail
    clear la qa0 qa1 qa2
    have sh_38 := (WB.mk1 w37 (pa) (ma) (.slice osh xs.length csh) (xs) rsh 59).below (w' := w37.alloc (.cells #[.int .i64 pa, .int .i64 ma, .slice osh xs.length csh] 59)) (by (repeat (first | exact Below.refl _ _ | (refine Below.setCell ?_ (by first | (simp; done) | (simp; omega) | omega) _) | (refine Below.alloc ?_ (by first | (simp; done) | (simp; omega) | omega) _) | (refine below_drewN ?_ _) | (refine Below.drew ?_))))
    have hbk0 : w37.heap.size = w37.heap.size := by simp
    rw [hbk0] at sh_38
    clear hbk0
    have hb : Below w37.heap.size w37 (w37.alloc (.cells #[.int .i64 pa, .int .i64 ma, .slice osh xs.length csh] 59)) := (by (repeat (first | exact Below.refl _ _ | (refine Below.setCell ?_ (by first | (simp; done) | (simp; omega) | omega) _) | (refine Below.alloc ?_ (by first | (simp; done) | (simp; omega) | omega) _) | (refine below_drewN ?_ _) | (refine Below.drew ?_))))
    have a_38 := a_37.below hb
    have f_38 := f_37.below hb
    have y_38 := y_37.below hb
    have g_38 := g_37.below hb
    have wv_38 := wv_37.below hb
    have b_38 := b_37.below hb
    have fg_38 := fg_37.below hb
    have HB38 := HB37.trans (hb.mono HB37.size)
    clear hb HB37 a_37 f_37 y_37 g_37 wv_37 b_37 fg_37
    generalize w37.alloc (.cells #[.int .i64 pa, .int .i64 ma, .slice osh xs.length csh] 59) = w38 at a_38 f_38 y_38 g_38 wv_38 b_38 fg_38 sh_38 HB38 ⊢
    clear rsh
    have hC := MultiplyWitt_c (pa) (ma) _ (xa) (pa) (ma) _ (xs)  w38 a_38.2 sh_38.2
    rw [E7.out] at hC
    refine (wend4 hC).mono ?_
    clear hC
    rintro e w39 ⟨vl, rfl, hl, hb, hll⟩
    have a_39 := a_38.below hb
    have f_39 := f_38.below hb
    have y_39 := y_38.below hb
    have g_39 := g_38.below hb
    have wv_39 := wv_38.below hb
    have b_39 := b_38.below hb
    have fg_39 := fg_38.below hb
    have sh_39 := sh_38.below hb
    have HB39 := HB38.trans (hb.mono HB38.size)
    clear a_38 f_38 y_38 g_38 wv_38 b_38 fg_38 sh_38 HB38 hb
    obtain ⟨ol, cl, rfl⟩ := hl.shape
    have rl := hl.rd
    clear hl
    clear hll
    obtain ⟨⟨qy0, qy1, qy2⟩, -⟩ := id y_39
    have ly := y_39.lt
    go_wp2_with fail
    clear ly qy0 qy1 qy2
    have l_40 := (WB.mk1 w39 (pa) (ma) (.slice ol xl.length cl) (xl) rl 59).below (w' := w39.alloc (.cells #[.int .i64 pa, .int .i64 ma, .slice ol xl.length cl] 59)) (by (repeat (first | exact Below.refl _ _ | (refine Below.setCell ?_ (by first | (simp; done) | (simp; omega) | omega) _) | (refine Below.alloc ?_ (by first | (simp; done) | (simp; omega) | omega) _) | (refine below_drewN ?_ _) | (refine Below.drew ?_))))
    have hbk0 : w39.heap.size = w39.heap.size := by simp
    rw [hbk0] at l_40
    clear hbk0
    have hb : Below w39.heap.size w39 (w39.alloc (.cells #[.int .i64 pa, .int .i64 ma, .slice ol xl.length cl] 59)) := (by (repeat (first | exact Below.refl _ _ | (refine Below.setCell ?_ (by first | (simp; done) | (simp; omega) | omega) _) | (refine Below.alloc ?_ (by first | (simp; done) | (simp; omega) | omega) _) | (refine below_drewN ?_ _) | (refine Below.drew ?_))))
    have a_40 := a_39.below hb
    have f_40 := f_39.below hb
    have y_40 := y_39.below hb
    have g_40 := g_39.below hb
    have wv_40 := wv_39.below hb
    have b_40 := b_39.below hb
    have fg_40 := fg_39.below hb
    have sh_40 := sh_39.below hb
    have HB40 := HB39.trans (hb.mono HB39.size)
    clear hb HB39 a_39 f_39 y_39 g_39 wv_39 b_39 fg_39 sh_39
    generalize w39.alloc (.cells #[.int .i64 pa, .int .i64 ma, .slice ol xl.length cl] 59) = w40 at a_40 f_40 y_40 g_40 wv_40 b_40 fg_40 sh_40 l_40 HB40 ⊢
    clear rl
    have hC := CutWitt_c (pa) (ma) _ (xy) ((xa.length : Int) - 1) w40 y_40.2
    rw [E8.out] at hC
    refine (wend4 hC).mono ?_
    clear hC
    rintro e w41 ⟨vsc, rfl, hsc, hb, hlsc⟩
    have a_41 := a_40.below hb
    have f_41 := f_40.below hb
    have y_41 := y_40.below hb
    have g_41 := g_40.below hb
    have wv_41 := wv_40.below hb
    have b_41 := b_40.below hb
    have fg_41 := fg_40.below hb
    have sh_41 := sh_40.below hb
    have l_41 := l_40.below hb
    have HB41 := HB40.trans (hb.mono HB40.size)
    clear a_40 f_40 y_40 g_40 wv_40 b_40 fg_40 sh_40 l_40 HB40 hb
    obtain ⟨osc, csc, rfl⟩ := hsc.shape
    have rsc := hsc.rd
    clear hsc
    clear hlsc
    obtain ⟨⟨qf0, qf1, qf2⟩, -⟩ := id f_41
    have lf := f_41.lt
    go_wp2_with fail
    clear lf qf0 qf1 qf2
    have sc_42 := (WB.mk1 w41 (pa) (ma) (.slice osc xc.length csc) (xc) rsc 59).below (w' := w41.alloc (.cells #[.int .i64 pa, .int .i64 ma, .slice osc xc.length csc] 59)) (by (repeat (first | exact Below.refl _ _ | (refine Below.setCell ?_ (by first | (simp; done) | (simp; omega) | omega) _) | (refine Below.alloc ?_ (by first | (simp; done) | (simp; omega) | omega) _) | (refine below_drewN ?_ _) | (refine Below.drew ?_))))
    have hbk0 : w41.heap.size = w41.heap.size := by simp
    rw [hbk0] at sc_42
    clear hbk0
    have hb : Below w41.heap.size w41 (w41.alloc (.cells #[.int .i64 pa, .int .i64 ma, .slice osc xc.length csc] 59)) := (by (repeat (first | exact Below.refl _ _ | (refine Below.setCell ?_ (by first | (simp; done) | (simp; omega) | omega) _) | (refine Below.alloc ?_ (by first | (simp; done) | (simp; omega) | omega) _) | (refine below_drewN ?_ _) | (refine Below.drew ?_))))
    have a_42 := a_41.below hb
    have f_42 := f_41.below hb
    have y_42 := y_41.below hb
    have g_42 := g_41.below hb
    have wv_42 := wv_41.below hb
    have b_42 := b_41.below hb
    have fg_42 := fg_41.below hb
    have sh_42 := sh_41.below hb
    have l_42 := l_41.below hb
    have HB42 := HB41.trans (hb.mono HB41.size)
    clear hb HB41 a_41 f_41 y_41 g_41 wv_41 b_41 fg_41 sh_41 l_41
    generalize w41.alloc (.cells #[.int .i64 pa, .int .i64 ma, .slice osc xc.length csc] 59) = w42 at a_42 f_42 y_42 g_42 wv_42 b_42 fg_42 sh_42 l_42 sc_42 HB42 ⊢
    clear rsc
    have hC := MultiplyWitt_c (pa) (ma) _ (XR1) (pa) (ma) _ (xc)  w42 f_42.2 sc_42.2
    rw [E9.out] at hC
    refine (wend4 hC).mono ?_
    clear hC
    rintro e w43 ⟨vi, rfl, hi, hb, hli⟩
    have a_43 := a_42.below hb
    have f_43 := f_42.below hb
    have y_43 := y_42.below hb
    have g_43 := g_42.below hb
    have wv_43 := wv_42.below hb
    have b_43 := b_42.below hb
    have fg_43 := fg_42.below hb
    have sh_43 := sh_42.below hb
    have l_43 := l_42.below hb
    have sc_43 := sc_42.below hb
    have HB43 := HB42.trans (hb.mono HB42.size)
    clear a_42 f_42 y_42 g_42 wv_42 b_42 fg_42 sh_42 l_42 sc_42 HB42 hb
    obtain ⟨oi, ci, rfl⟩ := hi.shape
    have ri := hi.rd
    clear hi
    clear hli
    obtain ⟨⟨qb0, qb1, qb2⟩, -⟩ := id b_43
    have lb := b_43.lt
    obtain ⟨⟨qfg0, qfg1, qfg2⟩, -⟩ := id fg_43
    have lfg := fg_43.lt
    go_wp2_with fail
    clear lb qb0 qb1 qb2
    clear lfg qfg0 qfg1 qfg2
    have i_44 := (WB.mk1 w43 (pa) (ma) (.slice oi xi.length ci) (xi) ri 59).below (w' := w43.alloc (.cells #[.int .i64 pa, .int .i64 ma, .slice oi xi.length ci] 59)) (by (repeat (first | exact Below.refl _ _ | (refine Below.setCell ?_ (by first | (simp; done) | (simp; omega) | omega) _) | (refine Below.alloc ?_ (by first | (simp; done) | (simp; omega) | omega) _) | (refine below_drewN ?_ _) | (refine Below.drew ?_))))
    have hbk0 : w43.heap.size = w43.heap.size := by simp
    rw [hbk0] at i_44
    clear hbk0
    have hb : Below w43.heap.size w43 (w43.alloc (.cells #[.int .i64 pa, .int .i64 ma, .slice oi xi.length ci] 59)) := (by (repeat (first | exact Below.refl _ _ | (refine Below.setCell ?_ (by first | (simp; done) | (simp; omega) | omega) _) | (refine Below.alloc ?_ (by first | (simp; done) | (simp; omega) | omega) _) | (refine below_drewN ?_ _) | (refine Below.drew ?_))))
    have a_44 := a_43.below hb
    have f_44 := f_43.below hb
    have y_44 := y_43.below hb
    have g_44 := g_43.below hb
    have wv_44 := wv_43.below hb
    have b_44 := b_43.below hb
    have fg_44 := fg_43.below hb
    have sh_44 := sh_43.below hb
    have l_44 := l_43.below hb
    have sc_44 := sc_43.below hb
    have HB44 := HB43.trans (hb.mono HB43.size)
    clear hb HB43 a_43 f_43 y_43 g_43 wv_43 b_43 fg_43 sh_43 l_43 sc_43
    generalize w43.alloc (.cells #[.int .i64 pa, .int .i64 ma, .slice oi xi.length ci] 59) = w44 at a_44 f_44 y_44 g_44 wv_44 b_44 fg_44 sh_44 l_44 sc_44 i_44 HB44 ⊢
    clear ri
    clear a_44
    clear y_44
    clear sh_44
    clear sc_44
    clear f_44
    clear g_44
    clear wv_44
    refine (witt9_same (pa) (ma) _ _ (xb) _ b_44.2 fg_44.2).mono ?_
    rintro e w45 ⟨rfl, hb⟩
    have b_45 := b_44.below hb
    have fg_45 := fg_44.below hb
    have l_45 := l_44.below hb
    have i_45 := i_44.below hb
    have HB45 := HB44.trans (hb.mono HB44.size)
    clear b_44 fg_44 l_44 i_44 HB44 hb
    clear b_45
    clear fg_45
    obtain ⟨gi, fi, rfl⟩ : ∃ gi fi, oi = some ⟨gi, fi, none⟩ := by
      have hl := HLI.out
      obtain ⟨b, o, h, _⟩ := i_45.2.cells (by omega)
      exact ⟨b, o, h⟩
    obtain ⟨⟨ql0, ql1, ql2⟩, -⟩ := id l_45
    have ll := l_45.lt
    obtain ⟨⟨qi0, qi1, qi2⟩, -⟩ := id i_45
    have li := i_45.lt
    go_wp2_with fail
    
    have hd0 : Below w45.heap.size w45 w45.drew := (Below.refl _ _).drew
    have hsd0 := hd0.size
    refine wp_region_K (S := fun w' => w'.cell? ⟨w39.heap.size, 2, none⟩ = some (.slice ol xl.length cl) ∧ w'.cell? ⟨w43.heap.size, 2, none⟩ = some (.slice (some ⟨gi, fi, none⟩) xi.length ci)) [6, 7] (by kernel_rfl) ?_
    have hHeld : (fun w' : World => w'.cell? ⟨w39.heap.size, 2, none⟩ = some (.slice ol xl.length cl) ∧ w'.cell? ⟨w43.heap.size, 2, none⟩ = some (.slice (some ⟨gi, fi, none⟩) xi.length ci)) w45.drew := by go_keep
    refine' wpAnyK_takeL (i := 0) (v := _) rfl (by kernel_rfl) (by kernel_rfl) (by kernel_rfl) (by kernel_rfl) (fun _ _ _ h => h) (Or.inl ⟨by rfl, ?yT6⟩) hHeld ?rT6
    case yT6 => (intro w' hSw; (try dsimp only at hSw); go_simp; try with_reducible rfl)
    try simp only [List.getElem_toArray, List.getElem_cons_zero, List.getElem_cons_succ, Act.put, List.setIfInBounds_toArray, List.set_cons_zero, List.set_cons_succ]
    refine' wpAnyK_takeL (i := 1) (v := _) rfl (by kernel_rfl) (by kernel_rfl) (by kernel_rfl) (by kernel_rfl) (fun _ _ _ h => h) (Or.inl ⟨by rfl, ?yT7⟩) hHeld ?rT7
    case yT7 => (intro w' hSw; (try dsimp only at hSw); go_simp; try with_reducible rfl)
    try simp only [List.getElem_toArray, List.getElem_cons_zero, List.getElem_cons_succ, Act.put, List.setIfInBounds_toArray, List.set_cons_zero, List.set_cons_succ]
    refine' wpAnyK_takeL (i := 3) (v := _) rfl (by kernel_rfl) (by kernel_rfl) (by kernel_rfl) (by kernel_rfl) (fun _ _ _ h => h) (Or.inl ⟨by rfl, ?yT8⟩) hHeld ?rT8
    case yT8 => (intro w' hSw; (try dsimp only at hSw); go_simp; try with_reducible rfl)
    try simp only [List.getElem_toArray, List.getElem_cons_zero, List.getElem_cons_succ, Act.put, List.setIfInBounds_toArray, List.set_cons_zero, List.set_cons_succ]
    refine' wpAnyK_takeL (i := 4) (v := _) rfl (by kernel_rfl) (by kernel_rfl) (by kernel_rfl) (by kernel_rfl) (fun _ _ _ h => h) (Or.inl ⟨by rfl, ?yT9⟩) hHeld ?rT9
    case yT9 => (intro w' hSw; (try dsimp only at hSw); go_simp; try with_reducible rfl)
    try simp only [List.getElem_toArray, List.getElem_cons_zero, List.getElem_cons_succ, Act.put, List.setIfInBounds_toArray, List.set_cons_zero, List.set_cons_succ]
    refine wpAnyK_oneL (i := 2) rfl (by kernel_rfl) (fun K hK => ?_)
    go_simp
    (try go_wp2_with fail)
    have hHeld2 : (fun w' : World => w'.cell? ⟨w39.heap.size, 2, none⟩ = some (.slice ol xl.length cl) ∧ w'.cell? ⟨w43.heap.size, 2, none⟩ = some (.slice (some ⟨gi, fi, none⟩) xi.length ci)) (w45.alloc (.cells #[.int .i64 0] 2)).drew := by go_keep
    clear hHeld
    have hHeld := hHeld2
    clear hHeld2
    refine hK.out _ _ (fun _ => hHeld) ?_
    clear hK K
    try simp only [List.getElem_toArray, List.getElem_cons_zero, List.getElem_cons_succ, Act.put, List.setIfInBounds_toArray, List.set_cons_zero, List.set_cons_succ]
    refine wpAnyK_oneL (i := 5) rfl (by kernel_rfl) (fun K hK => ?_)
    refine stR _ rfl _ _ rfl w45.heap.size _ [0] rfl (OwI.lit w45 [0] (by simp [maxLen])) ⟨gi, fi, none⟩ xi.length ci xi rfl (i_45.2.below (w' := (w45.alloc (.cells #[.int .i64 0] 2)).drew) (by (repeat (first | exact Below.refl _ _ | (refine Below.setCell ?_ (by first | (simp; done) | (simp; omega) | omega) _) | (refine Below.alloc ?_ (by first | (simp; done) | (simp; omega) | omega) _) | (refine below_drewN ?_ _) | (refine Below.drew ?_)))) (Nat.le_refl _)) (by have := HLI.out; simp; omega) (by simp) ?_
    intro o1 c1 wz how hgr hb2
    clear hgr
    rw [show (([0] : List Int) ++ xi).length = xi.length + 1 by simp] at how ⊢
    have hb3 := Below.trans (a := w45) (B := w45.heap.size) (b := (w45.alloc (.cells #[.int .i64 0] 2)).drew) (by (repeat (first | exact Below.refl _ _ | (refine Below.setCell ?_ (by first | (simp; done) | (simp; omega) | omega) _) | (refine Below.alloc ?_ (by first | (simp; done) | (simp; omega) | omega) _) | (refine below_drewN ?_ _) | (refine Below.drew ?_)))) hb2
    clear hb2 hHeld
    have l2 := l_45.below hb3
    have i2 := i_45.below hb3
    have HBz := HB45.trans (hb3.mono HB45.size)
    obtain ⟨⟨p0, p1, p2⟩, -⟩ := id l2
    obtain ⟨⟨q0, q1, q2⟩, -⟩ := id i2
    have hHeld : (fun w' : World => w'.cell? ⟨w39.heap.size, 2, none⟩ = some (.slice ol xl.length cl) ∧ w'.cell? ⟨w43.heap.size, 2, none⟩ = some (.slice (some ⟨gi, fi, none⟩) xi.length ci)) wz := by go_keep
    refine hK.out _ _ (fun _ => hHeld) ?_
    clear hK K
    try simp only [List.getElem_toArray, List.getElem_cons_zero, List.getElem_cons_succ, Act.put, List.setIfInBounds_toArray, List.set_cons_zero, List.set_cons_succ]
    refine wpAnyK_oneL (i := 6) rfl (by kernel_rfl) (fun K hK => ?_)
    go_simp
    go_at_call 28
    have hC := likeInts_c _ _ _ _ wz l2.2 how.rd
    rw [show eqLB xl ([0] ++ xi) = true by rw [HXL.out, eqLB_self]] at hC
    refine hC.mono ?_
    rintro e wy ⟨rfl, dd, rfl⟩
    go_wp2_with fail
    refine hK.out _ _ (fun h => absurd h (by decide)) ?_
    clear hK K
    try simp only [List.getElem_toArray, List.getElem_cons_zero, List.getElem_cons_succ, Act.put, List.setIfInBounds_toArray, List.set_cons_zero, List.set_cons_succ]
    refine wpAnyK_oneL (i := 7) rfl (by kernel_rfl) (fun K hK => ?_)
    go_simp
    (try go_wp2_with fail)
    refine hK.out _ _ (fun h => absurd h (by decide)) ?_
    clear hK K
    try simp only [List.getElem_toArray, List.getElem_cons_zero, List.getElem_cons_succ, Act.put, List.setIfInBounds_toArray, List.set_cons_zero, List.set_cons_succ]
    refine wpAnyK_done (by kernel_rfl) ?_ _
    go_wp2_with fail
    go_ret
    exact ⟨rfl, below_drewN HBz _⟩

open Go.ChangeShapes Go.WideShapes Go.ChangeAt Go.Joins
set_option maxRecDepth 100000 in
theorem WittMaps_lifted (os : Os) (started : os.Started) (H : Type) (enc : TypeId × Value → H) :
    ReturnsInHanded {} Try.checked os 7 .any (Rows.fnWittMapsSpec.pre6 enc Try.prog Try.f7 Rows.fnWittMapsRow.domain false) (Rows.fnWittMapsSpec.post enc Try.prog Try.f7 false true false false) := by
  refine returnsInHanded_of_change (C := Try.checked) Try.own started (by kernel_rfl) Try.func7
    (ChangeSpec.witness6 (enc := enc) (C := Try.checked) false ⟨#[], #[.slice none 0 0], []⟩ 8 (by kernel_rfl) (by kernel_rfl) (by kernel_rfl) (by kernel_rfl)) ?_
  intro W base args ds gs before hval0 hW _ _
  have hval : ∀ (j : Nat) t v, Try.f7.params[j]? = some t → args[j]? = some v → Value.okWide Try.prog W .any base t v := hval0
  have hW' := hW
  obtain ⟨p, q, hA0, hV, rfl, _, _⟩ := hW
  have hA : DataW.TrodAll enc Try.prog W 0 (fun _ => true) true Try.f7.params.toList args.toList ds p := hA0
  rw [Try.params7] at hA hval
  have hAk := hA
  obtain ⟨rfl, rfl⟩ := trodVars_none hV
  obtain ⟨v0, d0, rfl, rfl, h0⟩ := trodAll_one hA
  obtain ⟨n, r0⟩ := rdB_of_trod (hval 0 22 v0 rfl rfl) h0
  clear hA0 hval0
  simp only [List.append_nil] at hW'
  refine (FnWittMaps_c n v0 W r0).mono fun e W' ⟨he, hb⟩ => ?_
  subst he
  refine ⟨_, rfl, _, _, _, [], p, [], hW', ?_, ?_, rfl, hb.frame _, fun h => by cases h⟩
  · exact trodAll_mk1 (shut_bool Try.underlying4 true)
  · exact trodAll_below Try.laidOut (by kernel_rfl) hAk hb (fun x hx => by simpa using hW'.lt x hx)

theorem WittMaps_holds : Rows.FnWittMapsSaid :=
  OpenClaim.holds_of_wide 7 Try.f7 rfl rfl rfl rfl rfl rfl rfl ⟨rfl, rfl, rfl, rfl, rfl⟩ rfl rfl rfl rfl rfl (by kernel_rfl) Try.func7 (by kernel_rfl)
    (of_decide_eq_true (by kernel_rfl)) (by unfold Func.isWrapper; rw [if_neg (of_decide_eq_false (by kernel_rfl))]; exact ⟨rfl, rfl⟩)
    (fun os started H enc _ => WittMaps_lifted os started H enc)

#print axioms WittMaps_holds
end Go.Proofs.Ytcjinlfgeljmkaa
