/- Sums and products of Witt vectors are associative and distributive, their ghost components are sums and products, and the opposite undoes a sum: for every code. No condition. -/
import Derived.Test.YtcjinlfgeljmkaaWRLwB
import Derived.Test.YtcjinlfgeljmkaaWRSrcU
import Derived.Test.YtcjinlfgeljmkaaWRLwP
import Derived.Test.YtcjinlfgeljmkaaWREndB
import Derived.Deep.RegionHeld3
set_option linter.unusedSimpArgs false
set_option linter.unusedVariables false
namespace Go.Proofs.Ytcjinlfgeljmkaa
open Go.RowKit
set_option maxHeartbeats 4000000 in
set_option maxRecDepth 100000 in
theorem FnWittRings_c (n : Nat) (v : Value) (w0 : World) (hv : RdB w0 w0.heap.size n v) :
    Calls Try.prog 6 #[v] w0 fun e w' => e = .returned (.bool true) ∧ Below w0.heap.size w0 w' := by
  obtain ⟨ov, cv, rfl, hmv, hcv⟩ := id hv
  clear hmv hcv
  have HB0 := Below.refl w0.heap.size w0
  have HV := Lib.hid hv
  clear hv
  go_enter Try.func6, Try.ntmps6
  go_wp2_with fail
  refine (big_c w0.heap.size n _ w0 HV.out).mono ?_
  rintro e w' ⟨rfl, rfl⟩
  by_cases hbig : 4096 < n
  · have hbb : decide (4096 < n) = true := by simpa using hbig
    go_wp2
    go_ret
    exact ⟨rfl, HB0⟩
  have hbb : decide (4096 < n) = false := by simpa using hbig
  clear hbig
  go_wp2_with fail
  clear hbb
  refine (DrawMultiplyWitt_d w0.heap.size n _ w0 (HV.out.keep (fun j hj => HB0.block j hj)) HB0.size).mono ?_
  rintro e w1 ⟨pa, ma, va, xa, pb, mb, vb, xb, rfl, ha, hb, hb⟩
  have HB1 := HB0.trans (hb.mono HB0.size)
  clear HB0 hb
  obtain ⟨oa, ca, rfl⟩ := ha.shape
  have ra := ha.rd
  clear ha
  obtain ⟨ob, cb, rfl⟩ := hb.shape
  have rb := hb.rd
  clear hb
  go_wp2_with fail
  have a_2 := (WB.mk1 w1 (pa) (ma) (.slice oa xa.length ca) (xa) ra 59).below (w' := (w1.alloc (.cells #[.int .i64 pa, .int .i64 ma, .slice oa xa.length ca] 59)).alloc (.cells #[.int .i64 pb, .int .i64 mb, .slice ob xb.length cb] 59)) (by (repeat (first | exact Below.refl _ _ | (refine Below.setCell ?_ (by first | (simp; done) | (simp; omega) | omega) _) | (refine Below.alloc ?_ (by first | (simp; done) | (simp; omega) | omega) _) | (refine below_drewN ?_ _) | (refine Below.drew ?_))))
  have hbk0 : w1.heap.size = w1.heap.size := by simp
  rw [hbk0] at a_2
  clear hbk0
  have b_2 := (WB.mk1 (w1.alloc (.cells #[.int .i64 pa, .int .i64 ma, .slice oa xa.length ca] 59)) (pb) (mb) (.slice ob xb.length cb) (xb) (rb.below (w' := (w1.alloc (.cells #[.int .i64 pa, .int .i64 ma, .slice oa xa.length ca] 59))) (by (repeat (first | exact Below.refl _ _ | (refine Below.setCell ?_ (by first | (simp; done) | (simp; omega) | omega) _) | (refine Below.alloc ?_ (by first | (simp; done) | (simp; omega) | omega) _) | (refine below_drewN ?_ _) | (refine Below.drew ?_)))) (Nat.le_refl _)) 59).below (w' := (w1.alloc (.cells #[.int .i64 pa, .int .i64 ma, .slice oa xa.length ca] 59)).alloc (.cells #[.int .i64 pb, .int .i64 mb, .slice ob xb.length cb] 59)) (by (repeat (first | exact Below.refl _ _ | (refine Below.setCell ?_ (by first | (simp; done) | (simp; omega) | omega) _) | (refine Below.alloc ?_ (by first | (simp; done) | (simp; omega) | omega) _) | (refine below_drewN ?_ _) | (refine Below.drew ?_))))
  have hbk1 : (w1.alloc (.cells #[.int .i64 pa, .int .i64 ma, .slice oa xa.length ca] 59)).heap.size = w1.heap.size + 1 := by simp
  rw [hbk1] at b_2
  clear hbk1
  have hb : Below w1.heap.size w1 ((w1.alloc (.cells #[.int .i64 pa, .int .i64 ma, .slice oa xa.length ca] 59)).alloc (.cells #[.int .i64 pb, .int .i64 mb, .slice ob xb.length cb] 59)) := (by (repeat (first | exact Below.refl _ _ | (refine Below.setCell ?_ (by first | (simp; done) | (simp; omega) | omega) _) | (refine Below.alloc ?_ (by first | (simp; done) | (simp; omega) | omega) _) | (refine below_drewN ?_ _) | (refine Below.drew ?_))))
  have HB2 := HB1.trans (hb.mono HB1.size)
  clear hb HB1 
  generalize (w1.alloc (.cells #[.int .i64 pa, .int .i64 ma, .slice oa xa.length ca] 59)).alloc (.cells #[.int .i64 pb, .int .i64 mb, .slice ob xb.length cb] 59) = w2 at a_2 b_2 HB2 ⊢
  clear ra rb
  obtain ⟨⟨PR1, MR1, XR1, CR1⟩, hR1⟩ : ∃ r, opR true pa ma xa pb mb xb = r := ⟨_, rfl⟩
  have HR1 := Lib.hid hR1
  clear hR1
  have hC := MultiplyWitt_c (pa) (ma) _ (xa) (pb) (mb) _ (xb) w2 a_2.2 b_2.2
  rw [HR1.out] at hC
  refine (wend4 hC).mono ?_
  clear hC
  rintro e w3 ⟨vc, rfl, hc, hb, hlc⟩
  have a_3 := a_2.below hb
  have b_3 := b_2.below hb
  have HB3 := HB2.trans (hb.mono HB2.size)
  clear a_2 b_2 HB2 hb
  obtain ⟨oc, cc, rfl⟩ := hc.shape
  have rc := hc.rd
  clear hc hlc
  obtain ⟨⟨qa0, qa1, qa2⟩, -⟩ := id a_3
  have la := a_3.lt
  obtain ⟨⟨qb0, qb1, qb2⟩, -⟩ := id b_3
  have lb := b_3.lt
  go_wp2_with fail
  clear la qa0 qa1 qa2
  clear lb qb0 qb1 qb2
  have c_4 := (WB.mk1 w3 (PR1) (MR1) (.slice oc XR1.length cc) (XR1) rc 59).below (w' := w3.alloc (.cells #[.int .i64 PR1, .int .i64 MR1, .slice oc XR1.length cc] 59)) (by (repeat (first | exact Below.refl _ _ | (refine Below.setCell ?_ (by first | (simp; done) | (simp; omega) | omega) _) | (refine Below.alloc ?_ (by first | (simp; done) | (simp; omega) | omega) _) | (refine below_drewN ?_ _) | (refine Below.drew ?_))))
  have hbk0 : w3.heap.size = w3.heap.size := by simp
  rw [hbk0] at c_4
  clear hbk0
  have hb : Below w3.heap.size w3 (w3.alloc (.cells #[.int .i64 PR1, .int .i64 MR1, .slice oc XR1.length cc] 59)) := (by (repeat (first | exact Below.refl _ _ | (refine Below.setCell ?_ (by first | (simp; done) | (simp; omega) | omega) _) | (refine Below.alloc ?_ (by first | (simp; done) | (simp; omega) | omega) _) | (refine below_drewN ?_ _) | (refine Below.drew ?_))))
  have a_4 := a_3.below hb
  have b_4 := b_3.below hb
  have HB4 := HB3.trans (hb.mono HB3.size)
  clear hb HB3 a_3 b_3
  generalize w3.alloc (.cells #[.int .i64 PR1, .int .i64 MR1, .slice oc XR1.length cc] 59) = w4 at a_4 b_4 c_4 HB4 ⊢
  clear rc
  have hC := sMultiplyWitt_c (pa) (ma) _ (xa) (pb) (mb) _ (xb) w4 a_4.2 b_4.2
  rw [HR1.out] at hC
  refine (wend4 hC).mono ?_
  clear hC
  rintro e w5 ⟨vd, rfl, hd, hb, hld⟩
  have a_5 := a_4.below hb
  have b_5 := b_4.below hb
  have c_5 := c_4.below hb
  have HB5 := HB4.trans (hb.mono HB4.size)
  clear a_4 b_4 c_4 HB4 hb
  obtain ⟨od, cd, rfl⟩ := hd.shape
  have rd := hd.rd
  clear hd hld
  obtain ⟨⟨qc0, qc1, qc2⟩, -⟩ := id c_5
  have lc := c_5.lt
  obtain ⟨⟨qa0, qa1, qa2⟩, -⟩ := id a_5
  have la := a_5.lt
  have hq : (CR1 != CR1) = false := by simp
  go_wp2_with fail
  clear lc qc0 qc1 qc2
  clear la qa0 qa1 qa2
  have d_6 := (WB.mk1 w5 (PR1) (MR1) (.slice od XR1.length cd) (XR1) rd 59).below (w' := w5.alloc (.cells #[.int .i64 PR1, .int .i64 MR1, .slice od XR1.length cd] 59)) (by (repeat (first | exact Below.refl _ _ | (refine Below.setCell ?_ (by first | (simp; done) | (simp; omega) | omega) _) | (refine Below.alloc ?_ (by first | (simp; done) | (simp; omega) | omega) _) | (refine below_drewN ?_ _) | (refine Below.drew ?_))))
  have hbk0 : w5.heap.size = w5.heap.size := by simp
  rw [hbk0] at d_6
  clear hbk0
  have hb : Below w5.heap.size w5 (w5.alloc (.cells #[.int .i64 PR1, .int .i64 MR1, .slice od XR1.length cd] 59)) := (by (repeat (first | exact Below.refl _ _ | (refine Below.setCell ?_ (by first | (simp; done) | (simp; omega) | omega) _) | (refine Below.alloc ?_ (by first | (simp; done) | (simp; omega) | omega) _) | (refine below_drewN ?_ _) | (refine Below.drew ?_))))
  have a_6 := a_5.below hb
  have b_6 := b_5.below hb
  have c_6 := c_5.below hb
  have HB6 := HB5.trans (hb.mono HB5.size)
  clear hb HB5 a_5 b_5 c_5
  generalize w5.alloc (.cells #[.int .i64 PR1, .int .i64 MR1, .slice od XR1.length cd] 59) = w6 at a_6 b_6 c_6 d_6 HB6 ⊢
  clear rd
  obtain ⟨⟨qc0, qc1, qc2⟩, -⟩ := id c_6
  have lc := c_6.lt
  obtain ⟨⟨qd0, qd1, qd2⟩, -⟩ := id d_6
  have ld := d_6.lt
  obtain ⟨⟨qa0, qa1, qa2⟩, -⟩ := id a_6
  have la := a_6.lt
  have hb : Below w6.heap.size w6 w6.drew := (Below.refl _ _).drew
  have a_7 := a_6.below hb
  have b_7 := b_6.below hb
  have c_7 := c_6.below hb
  have d_7 := d_6.below hb
  have HB7 := HB6.trans (hb.mono HB6.size)
  clear a_6 b_6 c_6 d_6 HB6 hb
  go_region_held3 (fun w' => w'.cell? ⟨w3.heap.size, 0, none⟩ = some (.int .i64 (PR1)) ∧ w'.cell? ⟨w3.heap.size, 1, none⟩ = some (.int .i64 (MR1)) ∧ w'.cell? ⟨w3.heap.size, 2, none⟩ = some (.slice oc XR1.length cc) ∧ w'.cell? ⟨w5.heap.size, 0, none⟩ = some (.int .i64 (PR1)) ∧ w'.cell? ⟨w5.heap.size, 1, none⟩ = some (.int .i64 (MR1)) ∧ w'.cell? ⟨w5.heap.size, 2, none⟩ = some (.slice od XR1.length cd) ∧ w'.cell? ⟨w1.heap.size, 0, none⟩ = some (.int .i64 (pa)) ∧ w'.cell? ⟨w1.heap.size, 1, none⟩ = some (.int .i64 (ma)) ∧ w'.cell? ⟨w1.heap.size, 2, none⟩ = some (.slice oa xa.length ca)) (go_keep)
    (first
      | (go_at_call 61; refine (witt9_same (PR1) (MR1) _ _ (XR1) _ c_7.2 d_7.2).mono ?_; rintro e w8 ⟨rfl, hb⟩; have a_8 := a_7.below hb; have b_8 := b_7.below hb; have c_8 := c_7.below hb; have d_8 := d_7.below hb; have HB8 := HB7.trans (hb.mono HB7.size); clear a_7 b_7 c_7 d_7 HB7 hb; obtain ⟨⟨qc0, qc1, qc2⟩, -⟩ := id c_8; obtain ⟨⟨qd0, qd1, qd2⟩, -⟩ := id d_8; obtain ⟨⟨qa0, qa1, qa2⟩, -⟩ := id a_8)
      | (go_at_call 62; refine (IsWitt_c (pa) (ma) _ (xa) _ a_8.2).mono ?_; rintro e w9 ⟨rfl, hb⟩; have a_9 := a_8.below hb; have b_9 := b_8.below hb; have c_9 := c_8.below hb; have d_9 := d_8.below hb; have HB9 := HB8.trans (hb.mono HB8.size); clear a_8 b_8 c_8 d_8 HB8 hb; obtain ⟨⟨qc0, qc1, qc2⟩, -⟩ := id c_9; obtain ⟨⟨qd0, qd1, qd2⟩, -⟩ := id d_9; obtain ⟨⟨qa0, qa1, qa2⟩, -⟩ := id a_9)
      | (go_at_call 63; refine (sIsWitt_c (pa) (ma) _ (xa) _ a_9.2).mono ?_; rintro e w10 ⟨rfl, hb⟩; have a_10 := a_9.below hb; have b_10 := b_9.below hb; have c_10 := c_9.below hb; have d_10 := d_9.below hb; have HB10 := HB9.trans (hb.mono HB9.size); clear a_9 b_9 c_9 d_9 HB9 hb; obtain ⟨⟨qc0, qc1, qc2⟩, -⟩ := id c_10; obtain ⟨⟨qd0, qd1, qd2⟩, -⟩ := id d_10; obtain ⟨⟨qa0, qa1, qa2⟩, -⟩ := id a_10))
  clear lc qc0 qc1 qc2 ld qd0 qd1 qd2 la qa0 qa1 qa2
  clear hq
  clear d_10
  go_wp2_with fail
  refine (DrawAddWitt_d w0.heap.size n _ w10 (HV.out.keep (fun j hj => HB10.block j hj)) HB10.size).mono ?_
  rintro e w11 ⟨px, mx, vx, xx, py, my, vy, xy, rfl, hx, hy, hb⟩
  have a_11 := a_10.below hb
  have b_11 := b_10.below hb
  have c_11 := c_10.below hb
  have HB11 := HB10.trans (hb.mono HB10.size)
  clear a_10 b_10 c_10 HB10 hb
  obtain ⟨ox, cx, rfl⟩ := hx.shape
  have rx := hx.rd
  clear hx
  obtain ⟨oy, cy, rfl⟩ := hy.shape
  have ry := hy.rd
  clear hy
  go_wp2_with fail
  have x_12 := (WB.mk1 w11 (px) (mx) (.slice ox xx.length cx) (xx) rx 59).below (w' := (w11.alloc (.cells #[.int .i64 px, .int .i64 mx, .slice ox xx.length cx] 59)).alloc (.cells #[.int .i64 py, .int .i64 my, .slice oy xy.length cy] 59)) (by (repeat (first | exact Below.refl _ _ | (refine Below.setCell ?_ (by first | (simp; done) | (simp; omega) | omega) _) | (refine Below.alloc ?_ (by first | (simp; done) | (simp; omega) | omega) _) | (refine below_drewN ?_ _) | (refine Below.drew ?_))))
  have hbk0 : w11.heap.size = w11.heap.size := by simp
  rw [hbk0] at x_12
  clear hbk0
  have y_12 := (WB.mk1 (w11.alloc (.cells #[.int .i64 px, .int .i64 mx, .slice ox xx.length cx] 59)) (py) (my) (.slice oy xy.length cy) (xy) (ry.below (w' := (w11.alloc (.cells #[.int .i64 px, .int .i64 mx, .slice ox xx.length cx] 59))) (by (repeat (first | exact Below.refl _ _ | (refine Below.setCell ?_ (by first | (simp; done) | (simp; omega) | omega) _) | (refine Below.alloc ?_ (by first | (simp; done) | (simp; omega) | omega) _) | (refine below_drewN ?_ _) | (refine Below.drew ?_)))) (Nat.le_refl _)) 59).below (w' := (w11.alloc (.cells #[.int .i64 px, .int .i64 mx, .slice ox xx.length cx] 59)).alloc (.cells #[.int .i64 py, .int .i64 my, .slice oy xy.length cy] 59)) (by (repeat (first | exact Below.refl _ _ | (refine Below.setCell ?_ (by first | (simp; done) | (simp; omega) | omega) _) | (refine Below.alloc ?_ (by first | (simp; done) | (simp; omega) | omega) _) | (refine below_drewN ?_ _) | (refine Below.drew ?_))))
  have hbk1 : (w11.alloc (.cells #[.int .i64 px, .int .i64 mx, .slice ox xx.length cx] 59)).heap.size = w11.heap.size + 1 := by simp
  rw [hbk1] at y_12
  clear hbk1
  have hb : Below w11.heap.size w11 ((w11.alloc (.cells #[.int .i64 px, .int .i64 mx, .slice ox xx.length cx] 59)).alloc (.cells #[.int .i64 py, .int .i64 my, .slice oy xy.length cy] 59)) := (by (repeat (first | exact Below.refl _ _ | (refine Below.setCell ?_ (by first | (simp; done) | (simp; omega) | omega) _) | (refine Below.alloc ?_ (by first | (simp; done) | (simp; omega) | omega) _) | (refine below_drewN ?_ _) | (refine Below.drew ?_))))
  have a_12 := a_11.below hb
  have b_12 := b_11.below hb
  have c_12 := c_11.below hb
  have HB12 := HB11.trans (hb.mono HB11.size)
  clear hb HB11 a_11 b_11 c_11
  generalize (w11.alloc (.cells #[.int .i64 px, .int .i64 mx, .slice ox xx.length cx] 59)).alloc (.cells #[.int .i64 py, .int .i64 my, .slice oy xy.length cy] 59) = w12 at a_12 b_12 c_12 x_12 y_12 HB12 ⊢
  clear rx ry
  obtain ⟨⟨PR2, MR2, XR2, CR2⟩, hR2⟩ : ∃ r, opR false px mx xx py my xy = r := ⟨_, rfl⟩
  have HR2 := Lib.hid hR2
  clear hR2
  have hC := AddWitt_c (px) (mx) _ (xx) (py) (my) _ (xy) w12 x_12.2 y_12.2
  rw [HR2.out] at hC
  refine (wend4 hC).mono ?_
  clear hC
  rintro e w13 ⟨vs, rfl, hs, hb, hls⟩
  have a_13 := a_12.below hb
  have b_13 := b_12.below hb
  have c_13 := c_12.below hb
  have x_13 := x_12.below hb
  have y_13 := y_12.below hb
  have HB13 := HB12.trans (hb.mono HB12.size)
  clear a_12 b_12 c_12 x_12 y_12 HB12 hb
  obtain ⟨os, cs, rfl⟩ := hs.shape
  have rs := hs.rd
  clear hs hls
  obtain ⟨⟨qx0, qx1, qx2⟩, -⟩ := id x_13
  have lx := x_13.lt
  obtain ⟨⟨qy0, qy1, qy2⟩, -⟩ := id y_13
  have ly := y_13.lt
  go_wp2_with fail
  clear lx qx0 qx1 qx2
  clear ly qy0 qy1 qy2
  have s_14 := (WB.mk1 w13 (PR2) (MR2) (.slice os XR2.length cs) (XR2) rs 59).below (w' := w13.alloc (.cells #[.int .i64 PR2, .int .i64 MR2, .slice os XR2.length cs] 59)) (by (repeat (first | exact Below.refl _ _ | (refine Below.setCell ?_ (by first | (simp; done) | (simp; omega) | omega) _) | (refine Below.alloc ?_ (by first | (simp; done) | (simp; omega) | omega) _) | (refine below_drewN ?_ _) | (refine Below.drew ?_))))
  have hbk0 : w13.heap.size = w13.heap.size := by simp
  rw [hbk0] at s_14
  clear hbk0
  have hb : Below w13.heap.size w13 (w13.alloc (.cells #[.int .i64 PR2, .int .i64 MR2, .slice os XR2.length cs] 59)) := (by (repeat (first | exact Below.refl _ _ | (refine Below.setCell ?_ (by first | (simp; done) | (simp; omega) | omega) _) | (refine Below.alloc ?_ (by first | (simp; done) | (simp; omega) | omega) _) | (refine below_drewN ?_ _) | (refine Below.drew ?_))))
  have a_14 := a_13.below hb
  have b_14 := b_13.below hb
  have c_14 := c_13.below hb
  have x_14 := x_13.below hb
  have y_14 := y_13.below hb
  have HB14 := HB13.trans (hb.mono HB13.size)
  clear hb HB13 a_13 b_13 c_13 x_13 y_13
  generalize w13.alloc (.cells #[.int .i64 PR2, .int .i64 MR2, .slice os XR2.length cs] 59) = w14 at a_14 b_14 c_14 x_14 y_14 s_14 HB14 ⊢
  clear rs
  have hC := sAddWitt_c (px) (mx) _ (xx) (py) (my) _ (xy) w14 x_14.2 y_14.2
  rw [HR2.out] at hC
  refine (wend4 hC).mono ?_
  clear hC
  rintro e w15 ⟨vt, rfl, ht, hb, hlt⟩
  have a_15 := a_14.below hb
  have b_15 := b_14.below hb
  have c_15 := c_14.below hb
  have x_15 := x_14.below hb
  have y_15 := y_14.below hb
  have s_15 := s_14.below hb
  have HB15 := HB14.trans (hb.mono HB14.size)
  clear a_14 b_14 c_14 x_14 y_14 s_14 HB14 hb
  obtain ⟨ot, ct, rfl⟩ := ht.shape
  have rt := ht.rd
  clear ht hlt
  obtain ⟨⟨qs0, qs1, qs2⟩, -⟩ := id s_15
  have ls := s_15.lt
  have hq : (CR2 != CR2) = false := by simp
  go_wp2_with fail
  clear ls qs0 qs1 qs2
  clear x_15
  clear y_15
  have t_16 := (WB.mk1 w15 (PR2) (MR2) (.slice ot XR2.length ct) (XR2) rt 59).below (w' := w15.alloc (.cells #[.int .i64 PR2, .int .i64 MR2, .slice ot XR2.length ct] 59)) (by (repeat (first | exact Below.refl _ _ | (refine Below.setCell ?_ (by first | (simp; done) | (simp; omega) | omega) _) | (refine Below.alloc ?_ (by first | (simp; done) | (simp; omega) | omega) _) | (refine below_drewN ?_ _) | (refine Below.drew ?_))))
  have hbk0 : w15.heap.size = w15.heap.size := by simp
  rw [hbk0] at t_16
  clear hbk0
  have hb : Below w15.heap.size w15 (w15.alloc (.cells #[.int .i64 PR2, .int .i64 MR2, .slice ot XR2.length ct] 59)) := (by (repeat (first | exact Below.refl _ _ | (refine Below.setCell ?_ (by first | (simp; done) | (simp; omega) | omega) _) | (refine Below.alloc ?_ (by first | (simp; done) | (simp; omega) | omega) _) | (refine below_drewN ?_ _) | (refine Below.drew ?_))))
  have a_16 := a_15.below hb
  have b_16 := b_15.below hb
  have c_16 := c_15.below hb
  have s_16 := s_15.below hb
  have HB16 := HB15.trans (hb.mono HB15.size)
  clear hb HB15 a_15 b_15 c_15 s_15
  generalize w15.alloc (.cells #[.int .i64 PR2, .int .i64 MR2, .slice ot XR2.length ct] 59) = w16 at a_16 b_16 c_16 s_16 t_16 HB16 ⊢
  clear rt
  refine (witt9_same (PR2) (MR2) _ _ (XR2) _ s_16.2 t_16.2).mono ?_
  rintro e w17 ⟨rfl, hb⟩
  have a_17 := a_16.below hb
  have b_17 := b_16.below hb
  have c_17 := c_16.below hb
  have s_17 := s_16.below hb
  have t_17 := t_16.below hb
  have HB17 := HB16.trans (hb.mono HB16.size)
  clear a_16 b_16 c_16 s_16 t_16 HB16 hb
  clear s_17
  clear t_17
  go_wp2_with fail
  clear hq
  refine (DrawNegateWitt_d w0.heap.size n _ w17 (HV.out.keep (fun j hj => HB17.block j hj)) HB17.size).mono ?_
  rintro e w18 ⟨pz, mz, vz, xz, rfl, hz, hb⟩
  have a_18 := a_17.below hb
  have b_18 := b_17.below hb
  have c_18 := c_17.below hb
  have HB18 := HB17.trans (hb.mono HB17.size)
  clear a_17 b_17 c_17 HB17 hb
  obtain ⟨oz, cz, rfl⟩ := hz.shape
  have rz := hz.rd
  clear hz
  go_wp2_with fail
  have z_19 := (WB.mk1 w18 (pz) (mz) (.slice oz xz.length cz) (xz) rz 59).below (w' := w18.alloc (.cells #[.int .i64 pz, .int .i64 mz, .slice oz xz.length cz] 59)) (by (repeat (first | exact Below.refl _ _ | (refine Below.setCell ?_ (by first | (simp; done) | (simp; omega) | omega) _) | (refine Below.alloc ?_ (by first | (simp; done) | (simp; omega) | omega) _) | (refine below_drewN ?_ _) | (refine Below.drew ?_))))
  have hbk0 : w18.heap.size = w18.heap.size := by simp
  rw [hbk0] at z_19
  clear hbk0
  have hb : Below w18.heap.size w18 (w18.alloc (.cells #[.int .i64 pz, .int .i64 mz, .slice oz xz.length cz] 59)) := (by (repeat (first | exact Below.refl _ _ | (refine Below.setCell ?_ (by first | (simp; done) | (simp; omega) | omega) _) | (refine Below.alloc ?_ (by first | (simp; done) | (simp; omega) | omega) _) | (refine below_drewN ?_ _) | (refine Below.drew ?_))))
  have a_19 := a_18.below hb
  have b_19 := b_18.below hb
  have c_19 := c_18.below hb
  have HB19 := HB18.trans (hb.mono HB18.size)
  clear hb HB18 a_18 b_18 c_18
  generalize w18.alloc (.cells #[.int .i64 pz, .int .i64 mz, .slice oz xz.length cz] 59) = w19 at a_19 b_19 c_19 z_19 HB19 ⊢
  clear rz
  obtain ⟨⟨PR3, MR3, XR3, CR3⟩, hR3⟩ : ∃ r, negR pz mz xz = r := ⟨_, rfl⟩
  have HR3 := Lib.hid hR3
  clear hR3
  have hC := NegateWitt_c (pz) (mz) _ (xz) w19 z_19.2
  rw [HR3.out] at hC
  refine (wend4 hC).mono ?_
  clear hC
  rintro e w20 ⟨vs, rfl, hs, hb, hls⟩
  have a_20 := a_19.below hb
  have b_20 := b_19.below hb
  have c_20 := c_19.below hb
  have z_20 := z_19.below hb
  have HB20 := HB19.trans (hb.mono HB19.size)
  clear a_19 b_19 c_19 z_19 HB19 hb
  obtain ⟨os, cs, rfl⟩ := hs.shape
  have rs := hs.rd
  clear hs hls
  obtain ⟨⟨qz0, qz1, qz2⟩, -⟩ := id z_20
  have lz := z_20.lt
  go_wp2_with fail
  clear lz qz0 qz1 qz2
  have s_21 := (WB.mk1 w20 (PR3) (MR3) (.slice os XR3.length cs) (XR3) rs 59).below (w' := w20.alloc (.cells #[.int .i64 PR3, .int .i64 MR3, .slice os XR3.length cs] 59)) (by (repeat (first | exact Below.refl _ _ | (refine Below.setCell ?_ (by first | (simp; done) | (simp; omega) | omega) _) | (refine Below.alloc ?_ (by first | (simp; done) | (simp; omega) | omega) _) | (refine below_drewN ?_ _) | (refine Below.drew ?_))))
  have hbk0 : w20.heap.size = w20.heap.size := by simp
  rw [hbk0] at s_21
  clear hbk0
  have hb : Below w20.heap.size w20 (w20.alloc (.cells #[.int .i64 PR3, .int .i64 MR3, .slice os XR3.length cs] 59)) := (by (repeat (first | exact Below.refl _ _ | (refine Below.setCell ?_ (by first | (simp; done) | (simp; omega) | omega) _) | (refine Below.alloc ?_ (by first | (simp; done) | (simp; omega) | omega) _) | (refine below_drewN ?_ _) | (refine Below.drew ?_))))
  have a_21 := a_20.below hb
  have b_21 := b_20.below hb
  have c_21 := c_20.below hb
  have z_21 := z_20.below hb
  have HB21 := HB20.trans (hb.mono HB20.size)
  clear hb HB20 a_20 b_20 c_20 z_20
  generalize w20.alloc (.cells #[.int .i64 PR3, .int .i64 MR3, .slice os XR3.length cs] 59) = w21 at a_21 b_21 c_21 z_21 s_21 HB21 ⊢
  clear rs
  have hC := sNegateWitt_c (pz) (mz) _ (xz) w21 z_21.2
  rw [HR3.out] at hC
  refine (wend4 hC).mono ?_
  clear hC
  rintro e w22 ⟨vt, rfl, ht, hb, hlt⟩
  have a_22 := a_21.below hb
  have b_22 := b_21.below hb
  have c_22 := c_21.below hb
  have z_22 := z_21.below hb
  have s_22 := s_21.below hb
  have HB22 := HB21.trans (hb.mono HB21.size)
  clear a_21 b_21 c_21 z_21 s_21 HB21 hb
  obtain ⟨ot, ct, rfl⟩ := ht.shape
  have rt := ht.rd
  clear ht hlt
  obtain ⟨⟨qs0, qs1, qs2⟩, -⟩ := id s_22
  have ls := s_22.lt
  have hq : (CR3 != CR3) = false := by simp
  go_wp2_with fail
  clear ls qs0 qs1 qs2
  clear z_22
  have t_23 := (WB.mk1 w22 (PR3) (MR3) (.slice ot XR3.length ct) (XR3) rt 59).below (w' := w22.alloc (.cells #[.int .i64 PR3, .int .i64 MR3, .slice ot XR3.length ct] 59)) (by (repeat (first | exact Below.refl _ _ | (refine Below.setCell ?_ (by first | (simp; done) | (simp; omega) | omega) _) | (refine Below.alloc ?_ (by first | (simp; done) | (simp; omega) | omega) _) | (refine below_drewN ?_ _) | (refine Below.drew ?_))))
  have hbk0 : w22.heap.size = w22.heap.size := by simp
  rw [hbk0] at t_23
  clear hbk0
  have hb : Below w22.heap.size w22 (w22.alloc (.cells #[.int .i64 PR3, .int .i64 MR3, .slice ot XR3.length ct] 59)) := (by (repeat (first | exact Below.refl _ _ | (refine Below.setCell ?_ (by first | (simp; done) | (simp; omega) | omega) _) | (refine Below.alloc ?_ (by first | (simp; done) | (simp; omega) | omega) _) | (refine below_drewN ?_ _) | (refine Below.drew ?_))))
  have a_23 := a_22.below hb
  have b_23 := b_22.below hb
  have c_23 := c_22.below hb
  have s_23 := s_22.below hb
  have HB23 := HB22.trans (hb.mono HB22.size)
  clear hb HB22 a_22 b_22 c_22 s_22
  generalize w22.alloc (.cells #[.int .i64 PR3, .int .i64 MR3, .slice ot XR3.length ct] 59) = w23 at a_23 b_23 c_23 s_23 t_23 HB23 ⊢
  clear rt
  refine (witt9_same (PR3) (MR3) _ _ (XR3) _ s_23.2 t_23.2).mono ?_
  rintro e w24 ⟨rfl, hb⟩
  have a_24 := a_23.below hb
  have b_24 := b_23.below hb
  have c_24 := c_23.below hb
  have s_24 := s_23.below hb
  have t_24 := t_23.below hb
  have HB24 := HB23.trans (hb.mono HB23.size)
  clear a_23 b_23 c_23 s_23 t_23 HB23 hb
  clear s_24
  clear t_24
  by_cases hc : twoC pa ma xa pb mb xb = 0
  rotate_left
  · have hx : XR1 = [] ∧ CR1 ≠ 0 := by
      have e := HR1.out
      simp [opR, hc, WR.bad] at e
      exact ⟨e.2.2.1, e.2.2.2 ▸ hc⟩
    obtain ⟨rfl, hc1⟩ := hx
    obtain ⟨⟨qc0, qc1, qc2⟩, -⟩ := id c_24
    have lc := c_24.lt
    go_wp2
    go_ret
    exact ⟨rfl, HB24⟩
  obtain ⟨rfl, rfl, ha, hb'⟩ := two_Wt hc
  clear hc
  have hn := ha.n
  have e1 : opR true pa ma xa pa ma xb = ⟨pa, ma, opL pa.toNat ma xa xb true, 0⟩ := (ha.op hb' true).2
  rw [e1] at HR1
  obtain ⟨rfl, rfl, rfl, rfl⟩ : pa = PR1 ∧ ma = MR1 ∧ opL pa.toNat ma xa xb true = XR1 ∧ 0 = CR1 := by simpa using HR1.out
  have HE1 := Lib.hid e1
  clear e1 HR1
  have hm := witt_m ha.ok
  obtain ⟨⟨qa0, qa1, qa2⟩, -⟩ := id a_24
  have la := a_24.lt
  go_wp2_with fail
  clear hq
  clear la qa0 qa1 qa2
  refine (roll_c w0.heap.size n _ 7013 w24 (HV.out.keep (fun j hj => HB24.block j hj)) HB24.size).mono ?_
  rintro e w25 ⟨d, rfl, hs, hb⟩
  have hbd := hs.1
  have hbL := hb
  have hsL := hs.lt
  have aL := a_24
  have bL := b_24
  have cL := c_24
  have HBL := HB24
  have a_25 := a_24.below hb
  have b_25 := b_24.below hb
  have c_25 := c_24.below hb
  have HB25 := HB24.trans (hb.mono HB24.size)
  clear a_24 b_24 c_24 HB24 hb
  obtain ⟨⟨qa0, qa1, qa2⟩, -⟩ := id a_25
  have la := a_25.lt
  go_wp2_with fail
  clear la qa0 qa1 qa2
  have hU := RB3.mk1 w25 (.int .i64 pa) (.int .i64 ma) (.slice none 0 0) 59
  have hD := (DW.refl hs).alloc (.cells #[.int .i64 pa, .int .i64 ma, .slice none 0 0] 59)
  clear hs HB25 a_25 b_25 c_25
  generalize w25.alloc (.cells #[.int .i64 pa, .int .i64 ma, .slice none 0 0] 59) = w26 at hU hD ⊢
  go_loopw [22] (fun i wr => ∃ (k : Nat) (xs : List Int) (o : Option Addr) (c : Nat), k ≤ xa.length ∧ (xs.length = k ∧ ∀ y ∈ xs, 0 ≤ y ∧ y < ma) ∧ i = .int .i64 k ∧ RB3 wr w25.heap.size (.int .i64 pa) (.int .i64 ma) (.slice o k c) ∧ OwI wr (w25.heap.size + 1) (.slice o k c) xs ∧ DW w24.heap.size n d w25 wr) (fun i _ => xa.length - (intOf i).toNat)
  case atStart => exact ⟨0, [], none, 0, by omega, ⟨rfl, by simp⟩, by go_num, hU, OwI.nil _ _, hD⟩
  clear hU hD
  rename_i hrel
  obtain ⟨k, xs, ou, cu, hk, hxs, rfl, hU, hO, hD⟩ := hrel
  have HX := Lib.hid hxs
  clear hxs
  have hbr := hD.out hbL hbd
  have hlU := hU.1.lt
  have hr_a := aL.below hbr
  obtain ⟨⟨q0, q1, q2⟩, -⟩ := id hr_a
  have hq0 := hr_a.lt
  obtain ⟨⟨u0, u1, u2⟩, uf⟩ := id hU
  by_cases hlt : k < xa.length
  · have i1 : (k : Int) < (xa.length : Int) := by omega
    go_wp2_with fail
    have hd0 : Below wr.heap.size wr wr.drew := (Below.refl _ _).drew
    have hsd0 := hd0.size
    refine wp_region_K (S := fun w' => w'.cell? ⟨w25.heap.size, 2, none⟩ = some (.slice ou k cu) ∧ w'.cell? ⟨w1.heap.size, 1, none⟩ = some (.int .i64 ma)) [7, 8, 9] (by kernel_rfl) ?_
    have hHeld : (fun w' : World => w'.cell? ⟨w25.heap.size, 2, none⟩ = some (.slice ou k cu) ∧ w'.cell? ⟨w1.heap.size, 1, none⟩ = some (.int .i64 ma)) wr.drew := by go_keep
    refine' wpAnyK_takeL (i := 0) (v := _) rfl (by kernel_rfl) (by kernel_rfl) (by kernel_rfl) (by kernel_rfl) (fun _ _ _ h => h) (Or.inl ⟨by rfl, ?yT1⟩) hHeld ?rT1
    case yT1 => (intro w' hSw; (try dsimp only at hSw); go_simp; try with_reducible rfl)
    try simp only [List.getElem_toArray, List.getElem_cons_zero, List.getElem_cons_succ, Act.put, List.setIfInBounds_toArray, List.set_cons_zero, List.set_cons_succ]
    refine' wpAnyK_takeL (i := 1) (v := _) rfl (by kernel_rfl) (by kernel_rfl) (by kernel_rfl) (by kernel_rfl) (fun _ _ _ h => h) (Or.inl ⟨by rfl, ?yT2⟩) hHeld ?rT2
    case yT2 => (intro w' hSw; (try dsimp only at hSw); go_simp; try with_reducible rfl)
    try simp only [List.getElem_toArray, List.getElem_cons_zero, List.getElem_cons_succ, Act.put, List.setIfInBounds_toArray, List.set_cons_zero, List.set_cons_succ]
    refine' wpAnyK_takeL (i := 2) (v := _) rfl (by kernel_rfl) (by kernel_rfl) (by kernel_rfl) (by kernel_rfl) (fun _ _ _ h => h) (Or.inl ⟨by rfl, ?yT3⟩) hHeld ?rT3
    case yT3 => (intro w' hSw; (try dsimp only at hSw); go_simp; try with_reducible rfl)
    try simp only [List.getElem_toArray, List.getElem_cons_zero, List.getElem_cons_succ, Act.put, List.setIfInBounds_toArray, List.set_cons_zero, List.set_cons_succ]
    refine' wpAnyK_takeL (i := 3) (v := _) rfl (by kernel_rfl) (by kernel_rfl) (by kernel_rfl) (by kernel_rfl) (fun _ _ _ h => h) (Or.inl ⟨by rfl, ?yT4⟩) hHeld ?rT4
    case yT4 => (intro w' hSw; (try dsimp only at hSw); go_simp; try with_reducible rfl)
    try simp only [List.getElem_toArray, List.getElem_cons_zero, List.getElem_cons_succ, Act.put, List.setIfInBounds_toArray, List.set_cons_zero, List.set_cons_succ]
    refine' wpAnyK_takeL (i := 4) (v := _) rfl (by kernel_rfl) (by kernel_rfl) (by kernel_rfl) (by kernel_rfl) (fun _ _ _ h => h) (Or.inl ⟨by rfl, ?yT5⟩) hHeld ?rT5
    case yT5 => (intro w' hSw; (try dsimp only at hSw); go_simp; try with_reducible rfl)
    try simp only [List.getElem_toArray, List.getElem_cons_zero, List.getElem_cons_succ, Act.put, List.setIfInBounds_toArray, List.set_cons_zero, List.set_cons_succ]
    refine wpAnyK_oneL (i := 5) rfl (by kernel_rfl) (fun K hK => ?_)
    go_simp
    go_at_call 70
    refine (dice_d _ n d _ _ hD.drew.src).mono ?_
    rintro e wy ⟨y, rfl, z0, z1, z2, hdy, hzy⟩
    have z1 := z1 (by omega)
    clear z2 hzy
    have hUy := (show RB3 wr.drew _ _ _ _ from hU).dw hdy (by omega)
    have hOy := (show OwI wr.drew _ _ _ from hO).dw hdy (by omega)
    have hDy := hD.drew.trans hdy
    have hry := aL.below (hDy.out hbL hbd)
    clear hdy hHeld
    have hly := hUy.1.lt
    have hlr := hry.lt
    obtain ⟨⟨t0, t1, t2⟩, tf⟩ := id hUy
    obtain ⟨⟨s0, s1, s2⟩, -⟩ := id hry
    go_wp2_with fail
    have hHeld : (fun w' : World => w'.cell? ⟨w25.heap.size, 2, none⟩ = some (.slice ou k cu) ∧ w'.cell? ⟨w1.heap.size, 1, none⟩ = some (.int .i64 ma)) wy := by go_keep
    refine hK.out _ _ (fun _ => hHeld) ?_
    clear hK K
    try simp only [List.getElem_toArray, List.getElem_cons_zero, List.getElem_cons_succ, Act.put, List.setIfInBounds_toArray, List.set_cons_zero, List.set_cons_succ]
    refine wpAnyK_oneL (i := 6) rfl (by kernel_rfl) (fun K hK => ?_)
    go_simp
    (try go_wp2_with fail)
    have hHeld2 : (fun w' : World => w'.cell? ⟨w25.heap.size, 2, none⟩ = some (.slice ou k cu) ∧ w'.cell? ⟨w1.heap.size, 1, none⟩ = some (.int .i64 ma)) (wy.alloc (.cells #[.int .i64 y] 2)) := by go_keep
    clear hHeld
    have hHeld := hHeld2
    clear hHeld2
    refine hK.out _ _ (fun _ => hHeld) ?_
    clear hK K
    try simp only [List.getElem_toArray, List.getElem_cons_zero, List.getElem_cons_succ, Act.put, List.setIfInBounds_toArray, List.set_cons_zero, List.set_cons_succ]
    refine wpAnyK_oneL (i := 7) rfl (by kernel_rfl) (fun K hK => ?_)
    clear hHeld
    have hUz := (hUy.below (w' := wy.alloc (.cells #[.int .i64 y] 2)) (by (repeat (first | exact Below.refl _ _ | (refine Below.setCell ?_ (by first | (simp; done) | (simp; omega) | omega) _) | (refine Below.alloc ?_ (by first | (simp; done) | (simp; omega) | omega) _) | (refine below_drewN ?_ _) | (refine Below.drew ?_)))) (Nat.le_refl _))
    have hDz := hDy.alloc (.cells #[.int .i64 y] 2)
    have hOl := hOy.lt
    refine stR _ rfl _ _ rfl (w25.heap.size + 1) (.slice ou k cu) xs rfl (hOy.alloc _) ⟨wy.heap.size, 0, none⟩ 1 1 [y] rfl (OwI.lit wy [y] (by simp [maxLen])).rd (by have := HX.out.1; simp; omega) (by simp; omega) ?_
    intro o2 c2 wz hOz hgz hbz
    have hUz := hUz.grown hgz (fun e => by have := hOl _ e.symm; omega)
    have hDz := hDz.grown hgz (fun k hk => by have := hOl _ hk; omega)
    clear hUy hDy hOy hry hgz hbz hOl t0 t1 t2 tf s0 s1 s2
    rw [show (xs ++ [y]).length = k + 1 by have := HX.out.1; simp; omega] at hOz ⊢
    have hlz := hUz.1.lt
    obtain ⟨⟨t0, t1, t2⟩, tf⟩ := id hUz
    refine hK.out _ _ (fun h => absurd h (by decide)) ?_
    clear hK K
    try simp only [List.getElem_toArray, List.getElem_cons_zero, List.getElem_cons_succ, Act.put, List.setIfInBounds_toArray, List.set_cons_zero, List.set_cons_succ]
    refine wpAnyK_oneL (i := 8) rfl (by kernel_rfl) (fun K hK => ?_)
    go_simp
    (try go_wp2_with fail)
    refine hK.out _ _ (fun h => absurd h (by decide)) ?_
    clear hK K
    try simp only [List.getElem_toArray, List.getElem_cons_zero, List.getElem_cons_succ, Act.put, List.setIfInBounds_toArray, List.set_cons_zero, List.set_cons_succ]
    refine wpAnyK_oneL (i := 9) rfl (by kernel_rfl) (fun K hK => ?_)
    go_simp
    (try go_wp2_with fail)
    refine hK.out _ _ (fun h => absurd h (by decide)) ?_
    clear hK K
    try simp only [List.getElem_toArray, List.getElem_cons_zero, List.getElem_cons_succ, Act.put, List.setIfInBounds_toArray, List.set_cons_zero, List.set_cons_succ]
    refine wpAnyK_done (by kernel_rfl) ?_ _
    go_wp2_with fail
    go_wp2
    exact ⟨⟨k + 1, xs ++ [y], o2, c2, by omega, ⟨by have := HX.out.1; simp; omega, fun t ht => by have h := HX.out.2; simp at ht; rcases ht with ht | rfl; exact h t ht; exact ⟨z0, z1⟩⟩, by go_num, hUz.set2 _, hOz.low (by simp) _, hDz.put (by omega) _ _⟩, by simp [intOf]; omega⟩
  obtain rfl : k = xa.length := by omega
  clear hk hlt q0 q1 q2 hq0 u0 u1 u2 uf hlU hr_a
  obtain ⟨w26, rfl⟩ : ∃ u : World, u = wr := ⟨_, rfl⟩
  have HB26 := HBL.trans (hbr.mono HBL.size)
  have a_26 := aL.below hbr
  have b_26 := bL.below hbr
  have c_26 := cL.below hbr
  obtain ⟨o, rfl⟩ : ∃ o, ou = o := ⟨_, rfl⟩
  have Wu : Wt pa ma xa.length xs := Wt.mk' ha HX.out.1 HX.out.2
  have Hx := Lib.hid HX.out.1
  have u_26 : WB w26 w25.heap.size pa ma (.slice ou xa.length cu) xs := ⟨hU.1, hO.rd⟩
  clear hU hO hD hbr HX HBL hbL hbd hsL aL bL cL
  obtain ⟨xu, rfl⟩ : ∃ l, l = xs := ⟨_, rfl⟩
  generalize opL pa.toNat ma xa xb true = xp at *
  obtain ⟨xp', xwv, xl, xwu, xvu, xz, xn, e1, e2, e3, e4, e5, e6, e7, e8, e9, e10, G, H, K, L, d1, d2, d3, d4, lG, lH, lK, lL, hgh⟩ := rings_all ha hb' Wu
  obtain rfl : xp = xp' := by have := HE1.out.symm.trans e1; simpa using this
  have E2 := Lib.hid e2
  have E3 := Lib.hid e3
  have E4 := Lib.hid e4
  have E5 := Lib.hid e5
  have E6 := Lib.hid e6
  have E7 := Lib.hid e7
  have E8 := Lib.hid e8
  have E9 := Lib.hid e9
  have E10 := Lib.hid e10
  have D1 := Lib.hid d1
  have D2 := Lib.hid d2
  have D3 := Lib.hid d3
  have D4 := Lib.hid d4
  have HL := Lib.hid (show G.length = xa.length ∧ H.length = xa.length ∧ K.length = xa.length ∧ L.length = xa.length from ⟨lG, lH, lK, lL⟩)
  have HGH := Lib.hid hgh
  clear e1 e2 e3 e4 e5 e6 e7 e8 e9 e10 d1 d2 d3 d4 lG lH lK lL hgh HE1
  obtain ⟨⟨qa0, qa1, qa2⟩, -⟩ := id a_26
  have la := a_26.lt
  obtain ⟨⟨qb0, qb1, qb2⟩, -⟩ := id b_26
  have lb := b_26.lt
  go_wp2_with fail
  clear la qa0 qa1 qa2
  clear lb qb0 qb1 qb2
  have hC := AddWitt_c (pa) (ma) _ (xa) (pa) (ma) _ (xb) w26 a_26.2 b_26.2
  rw [E2.out] at hC
  refine (wend4 hC).mono ?_
  clear hC
  rintro e w27 ⟨vwv, rfl, hwv, hb, hlwv⟩
  have a_27 := a_26.below hb
  have b_27 := b_26.below hb
  have c_27 := c_26.below hb
  have u_27 := u_26.below hb
  have HB27 := HB26.trans (hb.mono HB26.size)
  clear a_26 b_26 c_26 u_26 HB26 hb
  obtain ⟨owv, cwv, rfl⟩ := hwv.shape
  have rwv := hwv.rd
  clear hwv hlwv
  obtain ⟨⟨qu0, qu1, qu2⟩, -⟩ := id u_27
  have lu := u_27.lt
  go_wp2_with fail
  clear lu qu0 qu1 qu2
  have wv_28 := (WB.mk1 w27 (pa) (ma) (.slice owv xwv.length cwv) (xwv) rwv 59).below (w' := w27.alloc (.cells #[.int .i64 pa, .int .i64 ma, .slice owv xwv.length cwv] 59)) (by (repeat (first | exact Below.refl _ _ | (refine Below.setCell ?_ (by first | (simp; done) | (simp; omega) | omega) _) | (refine Below.alloc ?_ (by first | (simp; done) | (simp; omega) | omega) _) | (refine below_drewN ?_ _) | (refine Below.drew ?_))))
  have hbk0 : w27.heap.size = w27.heap.size := by simp
  rw [hbk0] at wv_28
  clear hbk0
  have hb : Below w27.heap.size w27 (w27.alloc (.cells #[.int .i64 pa, .int .i64 ma, .slice owv xwv.length cwv] 59)) := (by (repeat (first | exact Below.refl _ _ | (refine Below.setCell ?_ (by first | (simp; done) | (simp; omega) | omega) _) | (refine Below.alloc ?_ (by first | (simp; done) | (simp; omega) | omega) _) | (refine below_drewN ?_ _) | (refine Below.drew ?_))))
  have a_28 := a_27.below hb
  have b_28 := b_27.below hb
  have c_28 := c_27.below hb
  have u_28 := u_27.below hb
  have HB28 := HB27.trans (hb.mono HB27.size)
  clear hb HB27 a_27 b_27 c_27 u_27
  generalize w27.alloc (.cells #[.int .i64 pa, .int .i64 ma, .slice owv xwv.length cwv] 59) = w28 at a_28 b_28 c_28 u_28 wv_28 HB28 ⊢
  clear rwv
  have hC := MultiplyWitt_c (pa) (ma) _ (xwv) (pa) (ma) _ (xu) w28 wv_28.2 u_28.2
  rw [E3.out] at hC
  refine (wend4 hC).mono ?_
  clear hC
  rintro e w29 ⟨vl, rfl, hl, hb, hll⟩
  have a_29 := a_28.below hb
  have b_29 := b_28.below hb
  have c_29 := c_28.below hb
  have u_29 := u_28.below hb
  have wv_29 := wv_28.below hb
  have HB29 := HB28.trans (hb.mono HB28.size)
  clear a_28 b_28 c_28 u_28 wv_28 HB28 hb
  obtain ⟨ol, cl, rfl⟩ := hl.shape
  have rl := hl.rd
  clear hl hll
  obtain ⟨⟨qa0, qa1, qa2⟩, -⟩ := id a_29
  have la := a_29.lt
  obtain ⟨⟨qu0, qu1, qu2⟩, -⟩ := id u_29
  have lu := u_29.lt
  go_wp2_with fail
  clear la qa0 qa1 qa2
  clear lu qu0 qu1 qu2
  have l_30 := (WB.mk1 w29 (pa) (ma) (.slice ol xl.length cl) (xl) rl 59).below (w' := w29.alloc (.cells #[.int .i64 pa, .int .i64 ma, .slice ol xl.length cl] 59)) (by (repeat (first | exact Below.refl _ _ | (refine Below.setCell ?_ (by first | (simp; done) | (simp; omega) | omega) _) | (refine Below.alloc ?_ (by first | (simp; done) | (simp; omega) | omega) _) | (refine below_drewN ?_ _) | (refine Below.drew ?_))))
  have hbk0 : w29.heap.size = w29.heap.size := by simp
  rw [hbk0] at l_30
  clear hbk0
  have hb : Below w29.heap.size w29 (w29.alloc (.cells #[.int .i64 pa, .int .i64 ma, .slice ol xl.length cl] 59)) := (by (repeat (first | exact Below.refl _ _ | (refine Below.setCell ?_ (by first | (simp; done) | (simp; omega) | omega) _) | (refine Below.alloc ?_ (by first | (simp; done) | (simp; omega) | omega) _) | (refine below_drewN ?_ _) | (refine Below.drew ?_))))
  have a_30 := a_29.below hb
  have b_30 := b_29.below hb
  have c_30 := c_29.below hb
  have u_30 := u_29.below hb
  have wv_30 := wv_29.below hb
  have HB30 := HB29.trans (hb.mono HB29.size)
  clear hb HB29 a_29 b_29 c_29 u_29 wv_29
  generalize w29.alloc (.cells #[.int .i64 pa, .int .i64 ma, .slice ol xl.length cl] 59) = w30 at a_30 b_30 c_30 u_30 wv_30 l_30 HB30 ⊢
  clear rl
  have hC := MultiplyWitt_c (pa) (ma) _ (xa) (pa) (ma) _ (xu) w30 a_30.2 u_30.2
  rw [E4.out] at hC
  refine (wend4 hC).mono ?_
  clear hC
  rintro e w31 ⟨vwu, rfl, hwu, hb, hlwu⟩
  have a_31 := a_30.below hb
  have b_31 := b_30.below hb
  have c_31 := c_30.below hb
  have u_31 := u_30.below hb
  have wv_31 := wv_30.below hb
  have l_31 := l_30.below hb
  have HB31 := HB30.trans (hb.mono HB30.size)
  clear a_30 b_30 c_30 u_30 wv_30 l_30 HB30 hb
  obtain ⟨owu, cwu, rfl⟩ := hwu.shape
  have rwu := hwu.rd
  clear hwu hlwu
  obtain ⟨⟨qb0, qb1, qb2⟩, -⟩ := id b_31
  have lb := b_31.lt
  obtain ⟨⟨qu0, qu1, qu2⟩, -⟩ := id u_31
  have lu := u_31.lt
  go_wp2_with fail
  clear lb qb0 qb1 qb2
  clear lu qu0 qu1 qu2
  have wu_32 := (WB.mk1 w31 (pa) (ma) (.slice owu xwu.length cwu) (xwu) rwu 59).below (w' := w31.alloc (.cells #[.int .i64 pa, .int .i64 ma, .slice owu xwu.length cwu] 59)) (by (repeat (first | exact Below.refl _ _ | (refine Below.setCell ?_ (by first | (simp; done) | (simp; omega) | omega) _) | (refine Below.alloc ?_ (by first | (simp; done) | (simp; omega) | omega) _) | (refine below_drewN ?_ _) | (refine Below.drew ?_))))
  have hbk0 : w31.heap.size = w31.heap.size := by simp
  rw [hbk0] at wu_32
  clear hbk0
  have hb : Below w31.heap.size w31 (w31.alloc (.cells #[.int .i64 pa, .int .i64 ma, .slice owu xwu.length cwu] 59)) := (by (repeat (first | exact Below.refl _ _ | (refine Below.setCell ?_ (by first | (simp; done) | (simp; omega) | omega) _) | (refine Below.alloc ?_ (by first | (simp; done) | (simp; omega) | omega) _) | (refine below_drewN ?_ _) | (refine Below.drew ?_))))
  have a_32 := a_31.below hb
  have b_32 := b_31.below hb
  have c_32 := c_31.below hb
  have u_32 := u_31.below hb
  have wv_32 := wv_31.below hb
  have l_32 := l_31.below hb
  have HB32 := HB31.trans (hb.mono HB31.size)
  clear hb HB31 a_31 b_31 c_31 u_31 wv_31 l_31
  generalize w31.alloc (.cells #[.int .i64 pa, .int .i64 ma, .slice owu xwu.length cwu] 59) = w32 at a_32 b_32 c_32 u_32 wv_32 l_32 wu_32 HB32 ⊢
  clear rwu
  have hC := MultiplyWitt_c (pa) (ma) _ (xb) (pa) (ma) _ (xu) w32 b_32.2 u_32.2
  rw [E5.out] at hC
  refine (wend4 hC).mono ?_
  clear hC
  rintro e w33 ⟨vvu, rfl, hvu, hb, hlvu⟩
  have a_33 := a_32.below hb
  have b_33 := b_32.below hb
  have c_33 := c_32.below hb
  have u_33 := u_32.below hb
  have wv_33 := wv_32.below hb
  have l_33 := l_32.below hb
  have wu_33 := wu_32.below hb
  have HB33 := HB32.trans (hb.mono HB32.size)
  clear a_32 b_32 c_32 u_32 wv_32 l_32 wu_32 HB32 hb
  obtain ⟨ovu, cvu, rfl⟩ := hvu.shape
  have rvu := hvu.rd
  clear hvu hlvu
  obtain ⟨⟨qwu0, qwu1, qwu2⟩, -⟩ := id wu_33
  have lwu := wu_33.lt
  go_wp2_with fail
  clear lwu qwu0 qwu1 qwu2
  have vu_34 := (WB.mk1 w33 (pa) (ma) (.slice ovu xvu.length cvu) (xvu) rvu 59).below (w' := w33.alloc (.cells #[.int .i64 pa, .int .i64 ma, .slice ovu xvu.length cvu] 59)) (by (repeat (first | exact Below.refl _ _ | (refine Below.setCell ?_ (by first | (simp; done) | (simp; omega) | omega) _) | (refine Below.alloc ?_ (by first | (simp; done) | (simp; omega) | omega) _) | (refine below_drewN ?_ _) | (refine Below.drew ?_))))
  have hbk0 : w33.heap.size = w33.heap.size := by simp
  rw [hbk0] at vu_34
  clear hbk0
  have hb : Below w33.heap.size w33 (w33.alloc (.cells #[.int .i64 pa, .int .i64 ma, .slice ovu xvu.length cvu] 59)) := (by (repeat (first | exact Below.refl _ _ | (refine Below.setCell ?_ (by first | (simp; done) | (simp; omega) | omega) _) | (refine Below.alloc ?_ (by first | (simp; done) | (simp; omega) | omega) _) | (refine below_drewN ?_ _) | (refine Below.drew ?_))))
  have a_34 := a_33.below hb
  have b_34 := b_33.below hb
  have c_34 := c_33.below hb
  have u_34 := u_33.below hb
  have wv_34 := wv_33.below hb
  have l_34 := l_33.below hb
  have wu_34 := wu_33.below hb
  have HB34 := HB33.trans (hb.mono HB33.size)
  clear hb HB33 a_33 b_33 c_33 u_33 wv_33 l_33 wu_33
  generalize w33.alloc (.cells #[.int .i64 pa, .int .i64 ma, .slice ovu xvu.length cvu] 59) = w34 at a_34 b_34 c_34 u_34 wv_34 l_34 wu_34 vu_34 HB34 ⊢
  clear rvu
  have hC := AddWitt_c (pa) (ma) _ (xwu) (pa) (ma) _ (xvu) w34 wu_34.2 vu_34.2
  rw [E6.out] at hC
  refine (wend4 hC).mono ?_
  clear hC
  rintro e w35 ⟨vr, rfl, hr, hb, hlr⟩
  have a_35 := a_34.below hb
  have b_35 := b_34.below hb
  have c_35 := c_34.below hb
  have u_35 := u_34.below hb
  have wv_35 := wv_34.below hb
  have l_35 := l_34.below hb
  have wu_35 := wu_34.below hb
  have vu_35 := vu_34.below hb
  have HB35 := HB34.trans (hb.mono HB34.size)
  clear a_34 b_34 c_34 u_34 wv_34 l_34 wu_34 vu_34 HB34 hb
  obtain ⟨or, cr, rfl⟩ := hr.shape
  have rr := hr.rd
  clear hr hlr
  obtain ⟨⟨qc0, qc1, qc2⟩, -⟩ := id c_35
  have lc := c_35.lt
  obtain ⟨⟨qu0, qu1, qu2⟩, -⟩ := id u_35
  have lu := u_35.lt
  go_wp2_with fail
  clear lc qc0 qc1 qc2
  clear lu qu0 qu1 qu2
  have r_36 := (WB.mk1 w35 (pa) (ma) (.slice or xl.length cr) (xl) rr 59).below (w' := w35.alloc (.cells #[.int .i64 pa, .int .i64 ma, .slice or xl.length cr] 59)) (by (repeat (first | exact Below.refl _ _ | (refine Below.setCell ?_ (by first | (simp; done) | (simp; omega) | omega) _) | (refine Below.alloc ?_ (by first | (simp; done) | (simp; omega) | omega) _) | (refine below_drewN ?_ _) | (refine Below.drew ?_))))
  have hbk0 : w35.heap.size = w35.heap.size := by simp
  rw [hbk0] at r_36
  clear hbk0
  have hb : Below w35.heap.size w35 (w35.alloc (.cells #[.int .i64 pa, .int .i64 ma, .slice or xl.length cr] 59)) := (by (repeat (first | exact Below.refl _ _ | (refine Below.setCell ?_ (by first | (simp; done) | (simp; omega) | omega) _) | (refine Below.alloc ?_ (by first | (simp; done) | (simp; omega) | omega) _) | (refine below_drewN ?_ _) | (refine Below.drew ?_))))
  have a_36 := a_35.below hb
  have b_36 := b_35.below hb
  have c_36 := c_35.below hb
  have u_36 := u_35.below hb
  have wv_36 := wv_35.below hb
  have l_36 := l_35.below hb
  have wu_36 := wu_35.below hb
  have vu_36 := vu_35.below hb
  have HB36 := HB35.trans (hb.mono HB35.size)
  clear hb HB35 a_35 b_35 c_35 u_35 wv_35 l_35 wu_35 vu_35
  generalize w35.alloc (.cells #[.int .i64 pa, .int .i64 ma, .slice or xl.length cr] 59) = w36 at a_36 b_36 c_36 u_36 wv_36 l_36 wu_36 vu_36 r_36 HB36 ⊢
  clear rr
  have hC := MultiplyWitt_c (pa) (ma) _ (xp) (pa) (ma) _ (xu) w36 c_36.2 u_36.2
  rw [E7.out] at hC
  refine (wend4 hC).mono ?_
  clear hC
  rintro e w37 ⟨vA, rfl, hA, hb, hlA⟩
  have a_37 := a_36.below hb
  have b_37 := b_36.below hb
  have c_37 := c_36.below hb
  have u_37 := u_36.below hb
  have wv_37 := wv_36.below hb
  have l_37 := l_36.below hb
  have wu_37 := wu_36.below hb
  have vu_37 := vu_36.below hb
  have r_37 := r_36.below hb
  have HB37 := HB36.trans (hb.mono HB36.size)
  clear a_36 b_36 c_36 u_36 wv_36 l_36 wu_36 vu_36 r_36 HB36 hb
  obtain ⟨oA, cA, rfl⟩ := hA.shape
  have rA := hA.rd
  clear hA hlA
  obtain ⟨⟨qa0, qa1, qa2⟩, -⟩ := id a_37
  have la := a_37.lt
  obtain ⟨⟨qvu0, qvu1, qvu2⟩, -⟩ := id vu_37
  have lvu := vu_37.lt
  go_wp2_with fail
  clear la qa0 qa1 qa2
  clear lvu qvu0 qvu1 qvu2
  have A_38 := (WB.mk1 w37 (pa) (ma) (.slice oA xz.length cA) (xz) rA 59).below (w' := w37.alloc (.cells #[.int .i64 pa, .int .i64 ma, .slice oA xz.length cA] 59)) (by (repeat (first | exact Below.refl _ _ | (refine Below.setCell ?_ (by first | (simp; done) | (simp; omega) | omega) _) | (refine Below.alloc ?_ (by first | (simp; done) | (simp; omega) | omega) _) | (refine below_drewN ?_ _) | (refine Below.drew ?_))))
  have hbk0 : w37.heap.size = w37.heap.size := by simp
  rw [hbk0] at A_38
  clear hbk0
  have hb : Below w37.heap.size w37 (w37.alloc (.cells #[.int .i64 pa, .int .i64 ma, .slice oA xz.length cA] 59)) := (by (repeat (first | exact Below.refl _ _ | (refine Below.setCell ?_ (by first | (simp; done) | (simp; omega) | omega) _) | (refine Below.alloc ?_ (by first | (simp; done) | (simp; omega) | omega) _) | (refine below_drewN ?_ _) | (refine Below.drew ?_))))
  have a_38 := a_37.below hb
  have b_38 := b_37.below hb
  have c_38 := c_37.below hb
  have u_38 := u_37.below hb
  have wv_38 := wv_37.below hb
  have l_38 := l_37.below hb
  have wu_38 := wu_37.below hb
  have vu_38 := vu_37.below hb
  have r_38 := r_37.below hb
  have HB38 := HB37.trans (hb.mono HB37.size)
  clear hb HB37 a_37 b_37 c_37 u_37 wv_37 l_37 wu_37 vu_37 r_37
  generalize w37.alloc (.cells #[.int .i64 pa, .int .i64 ma, .slice oA xz.length cA] 59) = w38 at a_38 b_38 c_38 u_38 wv_38 l_38 wu_38 vu_38 r_38 A_38 HB38 ⊢
  clear rA
  have hC := MultiplyWitt_c (pa) (ma) _ (xa) (pa) (ma) _ (xvu) w38 a_38.2 vu_38.2
  rw [E8.out] at hC
  refine (wend4 hC).mono ?_
  clear hC
  rintro e w39 ⟨vB, rfl, hB, hb, hlB⟩
  have a_39 := a_38.below hb
  have b_39 := b_38.below hb
  have c_39 := c_38.below hb
  have u_39 := u_38.below hb
  have wv_39 := wv_38.below hb
  have l_39 := l_38.below hb
  have wu_39 := wu_38.below hb
  have vu_39 := vu_38.below hb
  have r_39 := r_38.below hb
  have A_39 := A_38.below hb
  have HB39 := HB38.trans (hb.mono HB38.size)
  clear a_38 b_38 c_38 u_38 wv_38 l_38 wu_38 vu_38 r_38 A_38 HB38 hb
  obtain ⟨oB, cB, rfl⟩ := hB.shape
  have rB := hB.rd
  clear hB hlB
  obtain ⟨⟨ql0, ql1, ql2⟩, -⟩ := id l_39
  have ll := l_39.lt
  obtain ⟨⟨qr0, qr1, qr2⟩, -⟩ := id r_39
  have lr := r_39.lt
  go_wp2_with fail
  clear ll ql0 ql1 ql2
  clear lr qr0 qr1 qr2
  have B_40 := (WB.mk1 w39 (pa) (ma) (.slice oB xz.length cB) (xz) rB 59).below (w' := w39.alloc (.cells #[.int .i64 pa, .int .i64 ma, .slice oB xz.length cB] 59)) (by (repeat (first | exact Below.refl _ _ | (refine Below.setCell ?_ (by first | (simp; done) | (simp; omega) | omega) _) | (refine Below.alloc ?_ (by first | (simp; done) | (simp; omega) | omega) _) | (refine below_drewN ?_ _) | (refine Below.drew ?_))))
  have hbk0 : w39.heap.size = w39.heap.size := by simp
  rw [hbk0] at B_40
  clear hbk0
  have hb : Below w39.heap.size w39 (w39.alloc (.cells #[.int .i64 pa, .int .i64 ma, .slice oB xz.length cB] 59)) := (by (repeat (first | exact Below.refl _ _ | (refine Below.setCell ?_ (by first | (simp; done) | (simp; omega) | omega) _) | (refine Below.alloc ?_ (by first | (simp; done) | (simp; omega) | omega) _) | (refine below_drewN ?_ _) | (refine Below.drew ?_))))
  have a_40 := a_39.below hb
  have b_40 := b_39.below hb
  have c_40 := c_39.below hb
  have u_40 := u_39.below hb
  have wv_40 := wv_39.below hb
  have l_40 := l_39.below hb
  have wu_40 := wu_39.below hb
  have vu_40 := vu_39.below hb
  have r_40 := r_39.below hb
  have A_40 := A_39.below hb
  have HB40 := HB39.trans (hb.mono HB39.size)
  clear hb HB39 a_39 b_39 c_39 u_39 wv_39 l_39 wu_39 vu_39 r_39 A_39
  generalize w39.alloc (.cells #[.int .i64 pa, .int .i64 ma, .slice oB xz.length cB] 59) = w40 at a_40 b_40 c_40 u_40 wv_40 l_40 wu_40 vu_40 r_40 A_40 B_40 HB40 ⊢
  clear rB
  clear u_40
  clear wu_40
  clear vu_40
  refine (witt9_same (pa) (ma) _ _ (xl) _ l_40.2 r_40.2).mono ?_
  rintro e w41 ⟨rfl, hb⟩
  have a_41 := a_40.below hb
  have b_41 := b_40.below hb
  have c_41 := c_40.below hb
  have wv_41 := wv_40.below hb
  have l_41 := l_40.below hb
  have r_41 := r_40.below hb
  have A_41 := A_40.below hb
  have B_41 := B_40.below hb
  have HB41 := HB40.trans (hb.mono HB40.size)
  clear a_40 b_40 c_40 wv_40 l_40 r_40 A_40 B_40 HB40 hb
  clear l_41
  clear r_41
  obtain ⟨⟨qA0, qA1, qA2⟩, -⟩ := id A_41
  have lA := A_41.lt
  obtain ⟨⟨qB0, qB1, qB2⟩, -⟩ := id B_41
  have lB := B_41.lt
  go_wp2_with fail
  clear lA qA0 qA1 qA2
  clear lB qB0 qB1 qB2
  refine (witt9_same (pa) (ma) _ _ (xz) _ A_41.2 B_41.2).mono ?_
  rintro e w42 ⟨rfl, hb⟩
  have a_42 := a_41.below hb
  have b_42 := b_41.below hb
  have c_42 := c_41.below hb
  have wv_42 := wv_41.below hb
  have A_42 := A_41.below hb
  have B_42 := B_41.below hb
  have HB42 := HB41.trans (hb.mono HB41.size)
  clear a_41 b_41 c_41 wv_41 A_41 B_41 HB41 hb
  clear A_42
  clear B_42
  obtain ⟨⟨qa0, qa1, qa2⟩, -⟩ := id a_42
  have la := a_42.lt
  go_wp2_with fail
  clear la qa0 qa1 qa2
  have hC := GhostsOf_c pa ma _ xa w42 a_42.2
  rw [D1.out] at hC
  refine (lend2 hC).mono ?_
  clear hC
  rintro e w43 ⟨vG, rfl, hG, hb, hlG⟩
  have a_43 := a_42.below hb
  have b_43 := b_42.below hb
  have c_43 := c_42.below hb
  have wv_43 := wv_42.below hb
  have HB43 := HB42.trans (hb.mono HB42.size)
  clear a_42 b_42 c_42 wv_42 HB42 hb
  obtain ⟨oG, cG, rfl⟩ := hG.shape
  have rG_43 := hG.rd
  clear hG hlG
  obtain ⟨bG, fG, rfl, -⟩ := rG_43.cells (by have := HL.out; omega)
  obtain ⟨⟨qb0, qb1, qb2⟩, -⟩ := id b_43
  have lb := b_43.lt
  go_wp2_with fail
  clear lb qb0 qb1 qb2
  have hC := GhostsOf_c pa ma _ xb w43 b_43.2
  rw [D2.out] at hC
  refine (lend2 hC).mono ?_
  clear hC
  rintro e w44 ⟨vH, rfl, hH, hb, hlH⟩
  have a_44 := a_43.below hb
  have b_44 := b_43.below hb
  have c_44 := c_43.below hb
  have wv_44 := wv_43.below hb
  have rG_44 := rG_43.below hb (Nat.le_refl _)
  have HB44 := HB43.trans (hb.mono HB43.size)
  clear a_43 b_43 c_43 wv_43 rG_43 HB43 hb
  obtain ⟨oH, cH, rfl⟩ := hH.shape
  have rH_44 := hH.rd
  clear hH hlH
  obtain ⟨bH, fH, rfl, -⟩ := rH_44.cells (by have := HL.out; omega)
  obtain ⟨⟨qc0, qc1, qc2⟩, -⟩ := id c_44
  have lc := c_44.lt
  go_wp2_with fail
  clear lc qc0 qc1 qc2
  have hC := GhostsOf_c pa ma _ xp w44 c_44.2
  rw [D3.out] at hC
  refine (lend2 hC).mono ?_
  clear hC
  rintro e w45 ⟨vK, rfl, hK, hb, hlK⟩
  have a_45 := a_44.below hb
  have b_45 := b_44.below hb
  have c_45 := c_44.below hb
  have wv_45 := wv_44.below hb
  have rG_45 := rG_44.below hb (Nat.le_refl _)
  have rH_45 := rH_44.below hb (Nat.le_refl _)
  have HB45 := HB44.trans (hb.mono HB44.size)
  clear a_44 b_44 c_44 wv_44 rG_44 rH_44 HB44 hb
  obtain ⟨oK, cK, rfl⟩ := hK.shape
  have rK_45 := hK.rd
  clear hK hlK
  obtain ⟨bK, fK, rfl, -⟩ := rK_45.cells (by have := HL.out; omega)
  obtain ⟨⟨qwv0, qwv1, qwv2⟩, -⟩ := id wv_45
  have lwv := wv_45.lt
  go_wp2_with fail
  clear lwv qwv0 qwv1 qwv2
  have hC := GhostsOf_c pa ma _ xwv w45 wv_45.2
  rw [D4.out] at hC
  refine (lend2 hC).mono ?_
  clear hC
  rintro e w46 ⟨vL, rfl, hL, hb, hlL⟩
  have a_46 := a_45.below hb
  have b_46 := b_45.below hb
  have c_46 := c_45.below hb
  have wv_46 := wv_45.below hb
  have rG_46 := rG_45.below hb (Nat.le_refl _)
  have rH_46 := rH_45.below hb (Nat.le_refl _)
  have rK_46 := rK_45.below hb (Nat.le_refl _)
  have HB46 := HB45.trans (hb.mono HB45.size)
  clear a_45 b_45 c_45 wv_45 rG_45 rH_45 rK_45 HB45 hb
  obtain ⟨oL, cL, rfl⟩ := hL.shape
  have rL_46 := hL.rd
  clear hL hlL
  obtain ⟨bL, fL, rfl, -⟩ := rL_46.cells (by have := HL.out; omega)
  have i1 : (G.length != K.length) = false := by rw [HL.out.1, HL.out.2.2.1]; simp
  have i2 : (H.length != K.length) = false := by rw [HL.out.2.1, HL.out.2.2.1]; simp
  have i3 : (L.length != K.length) = false := by rw [HL.out.2.2.2, HL.out.2.2.1]; simp
  have j1 : ((G.length : Int) != (K.length : Int)) = false := by rw [HL.out.1, HL.out.2.2.1]; simp
  have j2 : ((H.length : Int) != (K.length : Int)) = false := by rw [HL.out.2.1, HL.out.2.2.1]; simp
  have j3 : ((L.length : Int) != (K.length : Int)) = false := by rw [HL.out.2.2.2, HL.out.2.2.1]; simp
  go_wp2_with fail
  clear i1 i2 i3 j1 j2 j3
  go_loopw [45] (fun i wr => ∃ (k e : Nat), k ≤ G.length ∧ i = .int .i64 k ∧ wr = w46.drewN e) (fun i _ => G.length - (intOf i).toNat)
  case atStart => exact ⟨0, 0, by omega, by go_num, rfl⟩
  rename_i hrel
  obtain ⟨k, e, hk, rfl, rfl⟩ := hrel
  by_cases hlt : k < G.length
  · obtain ⟨g, h, eG, eH, eK, eL, g0, g1, h0, h1⟩ := HGH.out k (by have := HL.out; omega)
    obtain ⟨⟨q0, q1, q2⟩, -⟩ := id a_46
    have cG := rG_46.cell0 eG
    have cH := rH_46.cell0 eH
    have cK := rK_46.cell0 eK
    have cL := rL_46.cell0 eL
    have p0 : 0 ≤ g * h := Int.mul_nonneg g0 h0
    have p1 : g * h ≤ 10000 * 10000 := Int.mul_le_mul (by omega) (by omega) h0 (by omega)
    have wp : IntKind.i64.wrap (g * h) = g * h := IntWalk.i64_in _ (by omega)
    have ws : IntKind.i64.wrap (g + h) = g + h := IntWalk.i64_in _ (by omega)
    have tp : (g * h).tmod ma = g * h % ma := Int.tmod_eq_emod_of_nonneg p0
    have ts : (g + h).tmod ma = (g + h) % ma := Int.tmod_eq_emod_of_nonneg (by omega)
    have i0 : (0 : Int) ≤ (k : Int) := by omega
    have k4 : (k : Int) ≤ 4 := by have := HL.out; omega
    have iG : (k : Int) < (G.length : Int) := by omega
    have iH : (k : Int) < (H.length : Int) := by have := HL.out; omega
    have iK : (k : Int) < (K.length : Int) := by have := HL.out; omega
    have iL : (k : Int) < (L.length : Int) := by have := HL.out; omega
    have mz : (ma == 0) = false := by simp; omega
    have mz' : ma ≠ 0 := by omega
    clear eG eH eK eL
    go_wp2_with fail
    go_quiet (fail)
    go_wp2_with fail
    exact ⟨⟨k + 1, e + nq, by omega, by go_num, rfl⟩, by simp [intOf]; omega⟩
  obtain rfl : k = G.length := by omega
  obtain ⟨w47, hw⟩ : ∃ u, u = w46.drewN e := ⟨_, rfl⟩
  rw [← hw]
  have hb : Below w46.heap.size w46 w47 := by rw [hw]; exact below_drewN (Below.refl _ _) _
  clear hw hlt hk
  have a_47 := a_46.below hb
  have b_47 := b_46.below hb
  have c_47 := c_46.below hb
  have wv_47 := wv_46.below hb
  have rG_47 := rG_46.below hb (Nat.le_refl _)
  have rH_47 := rH_46.below hb (Nat.le_refl _)
  have rK_47 := rK_46.below hb (Nat.le_refl _)
  have rL_47 := rL_46.below hb (Nat.le_refl _)
  have HB47 := HB46.trans (hb.mono HB46.size)
  clear a_46 b_46 c_46 wv_46 rG_46 rH_46 rK_46 rL_46 HB46 hb
  clear rG_47
  clear rH_47
  clear rK_47
  clear rL_47
  obtain ⟨⟨qb0, qb1, qb2⟩, -⟩ := id b_47
  have lb := b_47.lt
  go_wp2_with fail
  clear lb qb0 qb1 qb2
  have hC := NegateWitt_c (pa) (ma) _ (xb) w47 b_47.2
  rw [E9.out] at hC
  refine (wend4 hC).mono ?_
  clear hC
  rintro e w48 ⟨vnn, rfl, hnn, hb, hlnn⟩
  have a_48 := a_47.below hb
  have b_48 := b_47.below hb
  have c_48 := c_47.below hb
  have wv_48 := wv_47.below hb
  have HB48 := HB47.trans (hb.mono HB47.size)
  clear a_47 b_47 c_47 wv_47 HB47 hb
  obtain ⟨onn, cnn, rfl⟩ := hnn.shape
  have rnn := hnn.rd
  clear hnn hlnn
  obtain ⟨⟨qwv0, qwv1, qwv2⟩, -⟩ := id wv_48
  have lwv := wv_48.lt
  go_wp2_with fail
  clear lwv qwv0 qwv1 qwv2
  have nn_49 := (WB.mk1 w48 (pa) (ma) (.slice onn xn.length cnn) (xn) rnn 59).below (w' := w48.alloc (.cells #[.int .i64 pa, .int .i64 ma, .slice onn xn.length cnn] 59)) (by (repeat (first | exact Below.refl _ _ | (refine Below.setCell ?_ (by first | (simp; done) | (simp; omega) | omega) _) | (refine Below.alloc ?_ (by first | (simp; done) | (simp; omega) | omega) _) | (refine below_drewN ?_ _) | (refine Below.drew ?_))))
  have hbk0 : w48.heap.size = w48.heap.size := by simp
  rw [hbk0] at nn_49
  clear hbk0
  have hb : Below w48.heap.size w48 (w48.alloc (.cells #[.int .i64 pa, .int .i64 ma, .slice onn xn.length cnn] 59)) := (by (repeat (first | exact Below.refl _ _ | (refine Below.setCell ?_ (by first | (simp; done) | (simp; omega) | omega) _) | (refine Below.alloc ?_ (by first | (simp; done) | (simp; omega) | omega) _) | (refine below_drewN ?_ _) | (refine Below.drew ?_))))
  have a_49 := a_48.below hb
  have b_49 := b_48.below hb
  have c_49 := c_48.below hb
  have wv_49 := wv_48.below hb
  have HB49 := HB48.trans (hb.mono HB48.size)
  clear hb HB48 a_48 b_48 c_48 wv_48
  generalize w48.alloc (.cells #[.int .i64 pa, .int .i64 ma, .slice onn xn.length cnn] 59) = w49 at a_49 b_49 c_49 wv_49 nn_49 HB49 ⊢
  clear rnn
  have hC := AddWitt_c (pa) (ma) _ (xwv) (pa) (ma) _ (xn) w49 wv_49.2 nn_49.2
  rw [E10.out] at hC
  refine (wend4 hC).mono ?_
  clear hC
  rintro e w50 ⟨vbk, rfl, hbk, hb, hlbk⟩
  have a_50 := a_49.below hb
  have b_50 := b_49.below hb
  have c_50 := c_49.below hb
  have wv_50 := wv_49.below hb
  have nn_50 := nn_49.below hb
  have HB50 := HB49.trans (hb.mono HB49.size)
  clear a_49 b_49 c_49 wv_49 nn_49 HB49 hb
  obtain ⟨obk, cbk, rfl⟩ := hbk.shape
  have rbk := hbk.rd
  clear hbk hlbk
  obtain ⟨⟨qa0, qa1, qa2⟩, -⟩ := id a_50
  have la := a_50.lt
  go_wp2_with fail
  clear la qa0 qa1 qa2
  have bk_51 := (WB.mk1 w50 (pa) (ma) (.slice obk xa.length cbk) (xa) rbk 59).below (w' := w50.alloc (.cells #[.int .i64 pa, .int .i64 ma, .slice obk xa.length cbk] 59)) (by (repeat (first | exact Below.refl _ _ | (refine Below.setCell ?_ (by first | (simp; done) | (simp; omega) | omega) _) | (refine Below.alloc ?_ (by first | (simp; done) | (simp; omega) | omega) _) | (refine below_drewN ?_ _) | (refine Below.drew ?_))))
  have hbk0 : w50.heap.size = w50.heap.size := by simp
  rw [hbk0] at bk_51
  clear hbk0
  have hb : Below w50.heap.size w50 (w50.alloc (.cells #[.int .i64 pa, .int .i64 ma, .slice obk xa.length cbk] 59)) := (by (repeat (first | exact Below.refl _ _ | (refine Below.setCell ?_ (by first | (simp; done) | (simp; omega) | omega) _) | (refine Below.alloc ?_ (by first | (simp; done) | (simp; omega) | omega) _) | (refine below_drewN ?_ _) | (refine Below.drew ?_))))
  have a_51 := a_50.below hb
  have b_51 := b_50.below hb
  have c_51 := c_50.below hb
  have wv_51 := wv_50.below hb
  have nn_51 := nn_50.below hb
  have HB51 := HB50.trans (hb.mono HB50.size)
  clear hb HB50 a_50 b_50 c_50 wv_50 nn_50
  generalize w50.alloc (.cells #[.int .i64 pa, .int .i64 ma, .slice obk xa.length cbk] 59) = w51 at a_51 b_51 c_51 wv_51 nn_51 bk_51 HB51 ⊢
  clear rbk
  refine (witt9_same (pa) (ma) _ _ (xa) _ bk_51.2 a_51.2).mono ?_
  rintro e w52 ⟨rfl, hb⟩
  have a_52 := a_51.below hb
  have b_52 := b_51.below hb
  have c_52 := c_51.below hb
  have wv_52 := wv_51.below hb
  have nn_52 := nn_51.below hb
  have bk_52 := bk_51.below hb
  have HB52 := HB51.trans (hb.mono HB51.size)
  clear a_51 b_51 c_51 wv_51 nn_51 bk_51 HB51 hb
  go_wp2_with fail
  go_ret
  exact ⟨rfl, HB52⟩

open Go.ChangeShapes Go.WideShapes Go.ChangeAt Go.Joins
set_option maxRecDepth 100000 in
theorem WittRings_lifted (os : Os) (started : os.Started) (H : Type) (enc : TypeId × Value → H) :
    ReturnsInHanded {} Try.checked os 6 .any (Rows.fnWittRingsSpec.pre6 enc Try.prog Try.f6 Rows.fnWittRingsRow.domain false) (Rows.fnWittRingsSpec.post enc Try.prog Try.f6 false true false false) := by
  refine returnsInHanded_of_change (C := Try.checked) Try.own started (by kernel_rfl) Try.func6
    (ChangeSpec.witness6 (enc := enc) (C := Try.checked) false ⟨#[], #[.slice none 0 0], []⟩ 8 (by kernel_rfl) (by kernel_rfl) (by kernel_rfl) (by kernel_rfl)) ?_
  intro W base args ds gs before hval0 hW _ _
  have hval : ∀ (j : Nat) t v, Try.f6.params[j]? = some t → args[j]? = some v → Value.okWide Try.prog W .any base t v := hval0
  have hW' := hW
  obtain ⟨p, q, hA0, hV, rfl, _, _⟩ := hW
  have hA : DataW.TrodAll enc Try.prog W 0 (fun _ => true) true Try.f6.params.toList args.toList ds p := hA0
  rw [Try.params6] at hA hval
  have hAk := hA
  obtain ⟨rfl, rfl⟩ := trodVars_none hV
  obtain ⟨v0, d0, rfl, rfl, h0⟩ := trodAll_one hA
  obtain ⟨n, r0⟩ := rdB_of_trod (hval 0 22 v0 rfl rfl) h0
  clear hA0 hval0
  simp only [List.append_nil] at hW'
  refine (FnWittRings_c n v0 W r0).mono fun e W' ⟨he, hb⟩ => ?_
  subst he
  refine ⟨_, rfl, _, _, _, [], p, [], hW', ?_, ?_, rfl, hb.frame _, fun h => by cases h⟩
  · exact trodAll_mk1 (shut_bool Try.underlying4 true)
  · exact trodAll_below Try.laidOut (by kernel_rfl) hAk hb (fun x hx => by simpa using hW'.lt x hx)

theorem WittRings_holds : Rows.FnWittRingsSaid :=
  OpenClaim.holds_of_wide 6 Try.f6 rfl rfl rfl rfl rfl rfl rfl ⟨rfl, rfl, rfl, rfl, rfl⟩ rfl rfl rfl rfl rfl (by kernel_rfl) Try.func6 (by kernel_rfl)
    (of_decide_eq_true (by kernel_rfl)) (by unfold Func.isWrapper; rw [if_neg (of_decide_eq_false (by kernel_rfl))]; exact ⟨rfl, rfl⟩)
    (fun os started H enc _ => WittRings_lifted os started H enc)

#print axioms WittRings_holds
end Go.Proofs.Ytcjinlfgeljmkaa
