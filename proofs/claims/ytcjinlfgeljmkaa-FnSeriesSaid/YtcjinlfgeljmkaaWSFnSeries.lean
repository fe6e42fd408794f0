/- Products are commutative and associative, inverses are inverses, compositions are associative, and reversions undo on both sides. For every code. No condition. -/
import Derived.Test.YtcjinlfgeljmkaaWSLwS
import Derived.Test.YtcjinlfgeljmkaaWSSrcK
import Derived.Test.YtcjinlfgeljmkaaWSLwT
import Derived.Test.YtcjinlfgeljmkaaWSEndB
import Derived.Deep.RegionHeld3
import Derived.Deep.DeepCutAuto
set_option linter.unusedSimpArgs false
set_option linter.unusedVariables false
namespace Go.Proofs.Ytcjinlfgeljmkaa
open Go.RowKit
set_option maxHeartbeats 16000000 in
set_option maxRecDepth 100000 in
theorem FnSeries_c (n : Nat) (v : Value) (w0 : World) (hv : RdB w0 w0.heap.size n v) :
    Calls Try.prog 3 #[v] w0 fun e w' => e = .returned (.bool true) ∧ Below w0.heap.size w0 w' := by
  obtain ⟨ov, cv, rfl, hmv, hcv⟩ := id hv
  clear hmv hcv
  have HB0 := Below.refl w0.heap.size w0
  have HV := Lib.hid hv
  clear hv
  go_enter Try.func3, Try.ntmps3
  go_wp2_with fail
  refine (big_c w0.heap.size n _ w0 HV.out).mono ?_
  rintro e w' ⟨rfl, rfl⟩
  by_cases hbig : 4096 < n
  · have hbb : decide (4096 < n) = true := by simpa using hbig
    go_wp2
    go_ret
    exact ⟨rfl, HB0⟩
  have hbb : decide (4096 < n) = false := by simpa using hbig
  clear hbig
  go_wp2_with fail
  clear hbb
  refine (DrawMultiplySeries_d w0.heap.size n _ w0 (HV.out.keep (fun j hj => HB0.block j hj)) HB0.size).mono ?_
  rintro e w1 ⟨ma, va, xa, mb, vb, xb, rfl, ra, rb, hla, hlb, hb⟩
  have HB1 := HB0.trans (hb.mono HB0.size)
  clear HB0 hb
  obtain ⟨oa, ca, rfl, -, -⟩ := id ra
  obtain ⟨ob, cb, rfl, -, -⟩ := id rb
  clear hla hlb
  go_wp2_with fail
  have a_2 := (SB.mk1 w1 (ma) (.slice oa xa.length ca) (xa) ra 26).below (w' := (w1.alloc (.cells #[.int .i64 ma, .slice oa xa.length ca] 26)).alloc (.cells #[.int .i64 mb, .slice ob xb.length cb] 26)) (by (repeat (first | exact Below.refl _ _ | (refine Below.setCell ?_ (by first | (simp; done) | (simp; omega) | omega) _) | (refine Below.alloc ?_ (by first | (simp; done) | (simp; omega) | omega) _) | (refine below_drewN ?_ _) | (refine Below.drew ?_))))
  have hbk0 : w1.heap.size = w1.heap.size := by simp
  rw [hbk0] at a_2
  clear hbk0
  have b_2 := (SB.mk1 (w1.alloc (.cells #[.int .i64 ma, .slice oa xa.length ca] 26)) (mb) (.slice ob xb.length cb) (xb) (rb.below (w' := (w1.alloc (.cells #[.int .i64 ma, .slice oa xa.length ca] 26))) (by (repeat (first | exact Below.refl _ _ | (refine Below.setCell ?_ (by first | (simp; done) | (simp; omega) | omega) _) | (refine Below.alloc ?_ (by first | (simp; done) | (simp; omega) | omega) _) | (refine below_drewN ?_ _) | (refine Below.drew ?_)))) (Nat.le_refl _)) 26).below (w' := (w1.alloc (.cells #[.int .i64 ma, .slice oa xa.length ca] 26)).alloc (.cells #[.int .i64 mb, .slice ob xb.length cb] 26)) (by (repeat (first | exact Below.refl _ _ | (refine Below.setCell ?_ (by first | (simp; done) | (simp; omega) | omega) _) | (refine Below.alloc ?_ (by first | (simp; done) | (simp; omega) | omega) _) | (refine below_drewN ?_ _) | (refine Below.drew ?_))))
  have hbk1 : (w1.alloc (.cells #[.int .i64 ma, .slice oa xa.length ca] 26)).heap.size = w1.heap.size + 1 := by simp
  rw [hbk1] at b_2
  clear hbk1
  have hb : Below w1.heap.size w1 ((w1.alloc (.cells #[.int .i64 ma, .slice oa xa.length ca] 26)).alloc (.cells #[.int .i64 mb, .slice ob xb.length cb] 26)) := (by (repeat (first | exact Below.refl _ _ | (refine Below.setCell ?_ (by first | (simp; done) | (simp; omega) | omega) _) | (refine Below.alloc ?_ (by first | (simp; done) | (simp; omega) | omega) _) | (refine below_drewN ?_ _) | (refine Below.drew ?_))))
  have HB2 := HB1.trans (hb.mono HB1.size)
  clear hb HB1 
  generalize (w1.alloc (.cells #[.int .i64 ma, .slice oa xa.length ca] 26)).alloc (.cells #[.int .i64 mb, .slice ob xb.length cb] 26) = w2 at a_2 b_2 HB2 ⊢
  clear ra rb
  obtain ⟨⟨MR1, XR1, CR1⟩, hR1⟩ : ∃ r, mulR ma xa mb xb = r := ⟨_, rfl⟩
  have HR1 := Lib.hid hR1
  clear hR1
  obtain ⟨⟨MR2, XR2, CR2⟩, hR2⟩ : ∃ r, addR ma xa mb xb = r := ⟨_, rfl⟩
  have HR2 := Lib.hid hR2
  clear hR2
  have hC := MultiplySeries_c (ma) _ (xa) (mb) _ (xb) w2 a_2.2 b_2.2
  rw [HR1.out] at hC
  refine (send3 hC).mono ?_
  clear hC
  rintro e w3 ⟨vc, rfl, hc, hb, hlc⟩
  have a_3 := a_2.below hb
  have b_3 := b_2.below hb
  have HB3 := HB2.trans (hb.mono HB2.size)
  clear a_2 b_2 HB2 hb
  obtain ⟨oc, cc, rfl⟩ := hc.shape
  have rc := hc.rd
  clear hc
  clear hlc
  obtain ⟨⟨qa0, qa1⟩, -⟩ := id a_3
  have la := a_3.lt
  obtain ⟨⟨qb0, qb1⟩, -⟩ := id b_3
  have lb := b_3.lt
  go_wp2_with fail
  clear la qa0 qa1
  clear lb qb0 qb1
  have c_4 := (SB.mk1 w3 (MR1) (.slice oc XR1.length cc) (XR1) rc 26).below (w' := w3.alloc (.cells #[.int .i64 MR1, .slice oc XR1.length cc] 26)) (by (repeat (first | exact Below.refl _ _ | (refine Below.setCell ?_ (by first | (simp; done) | (simp; omega) | omega) _) | (refine Below.alloc ?_ (by first | (simp; done) | (simp; omega) | omega) _) | (refine below_drewN ?_ _) | (refine Below.drew ?_))))
  have hbk0 : w3.heap.size = w3.heap.size := by simp
  rw [hbk0] at c_4
  clear hbk0
  have hb : Below w3.heap.size w3 (w3.alloc (.cells #[.int .i64 MR1, .slice oc XR1.length cc] 26)) := (by (repeat (first | exact Below.refl _ _ | (refine Below.setCell ?_ (by first | (simp; done) | (simp; omega) | omega) _) | (refine Below.alloc ?_ (by first | (simp; done) | (simp; omega) | omega) _) | (refine below_drewN ?_ _) | (refine Below.drew ?_))))
  have a_4 := a_3.below hb
  have b_4 := b_3.below hb
  have HB4 := HB3.trans (hb.mono HB3.size)
  clear hb HB3 a_3 b_3
  generalize w3.alloc (.cells #[.int .i64 MR1, .slice oc XR1.length cc] 26) = w4 at a_4 b_4 c_4 HB4 ⊢
  clear rc
  have hC := sMultiplySeries_c (ma) _ (xa) (mb) _ (xb) w4 a_4.2 b_4.2
  rw [HR1.out] at hC
  refine (send3 hC).mono ?_
  clear hC
  rintro e w5 ⟨vd, rfl, hd, hb, hld⟩
  have a_5 := a_4.below hb
  have b_5 := b_4.below hb
  have c_5 := c_4.below hb
  have HB5 := HB4.trans (hb.mono HB4.size)
  clear a_4 b_4 c_4 HB4 hb
  obtain ⟨od, cd, rfl⟩ := hd.shape
  have rd := hd.rd
  clear hd
  clear hld
  obtain ⟨⟨qa0, qa1⟩, -⟩ := id a_5
  have la := a_5.lt
  obtain ⟨⟨qb0, qb1⟩, -⟩ := id b_5
  have lb := b_5.lt
  go_wp2_with fail
  clear la qa0 qa1
  clear lb qb0 qb1
  have d_6 := (SB.mk1 w5 (MR1) (.slice od XR1.length cd) (XR1) rd 26).below (w' := w5.alloc (.cells #[.int .i64 MR1, .slice od XR1.length cd] 26)) (by (repeat (first | exact Below.refl _ _ | (refine Below.setCell ?_ (by first | (simp; done) | (simp; omega) | omega) _) | (refine Below.alloc ?_ (by first | (simp; done) | (simp; omega) | omega) _) | (refine below_drewN ?_ _) | (refine Below.drew ?_))))
  have hbk0 : w5.heap.size = w5.heap.size := by simp
  rw [hbk0] at d_6
  clear hbk0
  have hb : Below w5.heap.size w5 (w5.alloc (.cells #[.int .i64 MR1, .slice od XR1.length cd] 26)) := (by (repeat (first | exact Below.refl _ _ | (refine Below.setCell ?_ (by first | (simp; done) | (simp; omega) | omega) _) | (refine Below.alloc ?_ (by first | (simp; done) | (simp; omega) | omega) _) | (refine below_drewN ?_ _) | (refine Below.drew ?_))))
  have a_6 := a_5.below hb
  have b_6 := b_5.below hb
  have c_6 := c_5.below hb
  have HB6 := HB5.trans (hb.mono HB5.size)
  clear hb HB5 a_5 b_5 c_5
  generalize w5.alloc (.cells #[.int .i64 MR1, .slice od XR1.length cd] 26) = w6 at a_6 b_6 c_6 d_6 HB6 ⊢
  clear rd
  have hC := AddSeries_c (ma) _ (xa) (mb) _ (xb) w6 a_6.2 b_6.2
  rw [HR2.out] at hC
  refine (send3 hC).mono ?_
  clear hC
  rintro e w7 ⟨vs, rfl, hs, hb, hls⟩
  have a_7 := a_6.below hb
  have b_7 := b_6.below hb
  have c_7 := c_6.below hb
  have d_7 := d_6.below hb
  have HB7 := HB6.trans (hb.mono HB6.size)
  clear a_6 b_6 c_6 d_6 HB6 hb
  obtain ⟨os, cs, rfl⟩ := hs.shape
  have rs := hs.rd
  clear hs
  clear hls
  obtain ⟨⟨qa0, qa1⟩, -⟩ := id a_7
  have la := a_7.lt
  obtain ⟨⟨qb0, qb1⟩, -⟩ := id b_7
  have lb := b_7.lt
  go_wp2_with fail
  clear la qa0 qa1
  clear lb qb0 qb1
  have s_8 := (SB.mk1 w7 (MR2) (.slice os XR2.length cs) (XR2) rs 26).below (w' := w7.alloc (.cells #[.int .i64 MR2, .slice os XR2.length cs] 26)) (by (repeat (first | exact Below.refl _ _ | (refine Below.setCell ?_ (by first | (simp; done) | (simp; omega) | omega) _) | (refine Below.alloc ?_ (by first | (simp; done) | (simp; omega) | omega) _) | (refine below_drewN ?_ _) | (refine Below.drew ?_))))
  have hbk0 : w7.heap.size = w7.heap.size := by simp
  rw [hbk0] at s_8
  clear hbk0
  have hb : Below w7.heap.size w7 (w7.alloc (.cells #[.int .i64 MR2, .slice os XR2.length cs] 26)) := (by (repeat (first | exact Below.refl _ _ | (refine Below.setCell ?_ (by first | (simp; done) | (simp; omega) | omega) _) | (refine Below.alloc ?_ (by first | (simp; done) | (simp; omega) | omega) _) | (refine below_drewN ?_ _) | (refine Below.drew ?_))))
  have a_8 := a_7.below hb
  have b_8 := b_7.below hb
  have c_8 := c_7.below hb
  have d_8 := d_7.below hb
  have HB8 := HB7.trans (hb.mono HB7.size)
  clear hb HB7 a_7 b_7 c_7 d_7
  generalize w7.alloc (.cells #[.int .i64 MR2, .slice os XR2.length cs] 26) = w8 at a_8 b_8 c_8 d_8 s_8 HB8 ⊢
  clear rs
  have hC := sAddSeries_c (ma) _ (xa) (mb) _ (xb) w8 a_8.2 b_8.2
  rw [HR2.out] at hC
  refine (send3 hC).mono ?_
  clear hC
  rintro e w9 ⟨vt, rfl, ht, hb, hlt⟩
  have a_9 := a_8.below hb
  have b_9 := b_8.below hb
  have c_9 := c_8.below hb
  have d_9 := d_8.below hb
  have s_9 := s_8.below hb
  have HB9 := HB8.trans (hb.mono HB8.size)
  clear a_8 b_8 c_8 d_8 s_8 HB8 hb
  obtain ⟨ot, ct, rfl⟩ := ht.shape
  have rt := ht.rd
  clear ht
  clear hlt
  have hq1 : (CR1 != CR1) = false := by simp
  have hq2 : (CR2 != CR2) = false := by simp
  obtain ⟨⟨qa0, qa1⟩, -⟩ := id a_9
  have la := a_9.lt
  obtain ⟨⟨qc0, qc1⟩, -⟩ := id c_9
  have lc := c_9.lt
  obtain ⟨⟨qd0, qd1⟩, -⟩ := id d_9
  have ld := d_9.lt
  obtain ⟨⟨qs0, qs1⟩, -⟩ := id s_9
  have ls := s_9.lt
  go_wp2_with fail
  clear la qa0 qa1
  clear lc qc0 qc1
  clear ld qd0 qd1
  clear ls qs0 qs1
  have t_10 := (SB.mk1 w9 (MR2) (.slice ot XR2.length ct) (XR2) rt 26).below (w' := w9.alloc (.cells #[.int .i64 MR2, .slice ot XR2.length ct] 26)) (by (repeat (first | exact Below.refl _ _ | (refine Below.setCell ?_ (by first | (simp; done) | (simp; omega) | omega) _) | (refine Below.alloc ?_ (by first | (simp; done) | (simp; omega) | omega) _) | (refine below_drewN ?_ _) | (refine Below.drew ?_))))
  have hbk0 : w9.heap.size = w9.heap.size := by simp
  rw [hbk0] at t_10
  clear hbk0
  have hb : Below w9.heap.size w9 (w9.alloc (.cells #[.int .i64 MR2, .slice ot XR2.length ct] 26)) := (by (repeat (first | exact Below.refl _ _ | (refine Below.setCell ?_ (by first | (simp; done) | (simp; omega) | omega) _) | (refine Below.alloc ?_ (by first | (simp; done) | (simp; omega) | omega) _) | (refine below_drewN ?_ _) | (refine Below.drew ?_))))
  have a_10 := a_9.below hb
  have b_10 := b_9.below hb
  have c_10 := c_9.below hb
  have d_10 := d_9.below hb
  have s_10 := s_9.below hb
  have HB10 := HB9.trans (hb.mono HB9.size)
  clear hb HB9 a_9 b_9 c_9 d_9 s_9
  generalize w9.alloc (.cells #[.int .i64 MR2, .slice ot XR2.length ct] 26) = w10 at a_10 b_10 c_10 d_10 s_10 t_10 HB10 ⊢
  clear rt
  obtain ⟨⟨qa0, qa1⟩, -⟩ := id a_10
  have la := a_10.lt
  obtain ⟨⟨qc0, qc1⟩, -⟩ := id c_10
  have lc := c_10.lt
  obtain ⟨⟨qd0, qd1⟩, -⟩ := id d_10
  have ld := d_10.lt
  obtain ⟨⟨qs0, qs1⟩, -⟩ := id s_10
  have ls := s_10.lt
  obtain ⟨⟨qt0, qt1⟩, -⟩ := id t_10
  have lt := t_10.lt
  have hb : Below w10.heap.size w10 w10.drew := (Below.refl _ _).drew
  have a_11 := a_10.below hb
  have b_11 := b_10.below hb
  have c_11 := c_10.below hb
  have d_11 := d_10.below hb
  have s_11 := s_10.below hb
  have t_11 := t_10.below hb
  have HB11 := HB10.trans (hb.mono HB10.size)
  clear a_10 b_10 c_10 d_10 s_10 t_10 HB10 hb
  go_region_held3 (fun w' => w'.cell? ⟨w1.heap.size, 0, none⟩ = some (.int .i64 (ma)) ∧ w'.cell? ⟨w1.heap.size, 1, none⟩ = some (.slice oa xa.length ca) ∧ w'.cell? ⟨w3.heap.size, 0, none⟩ = some (.int .i64 (MR1)) ∧ w'.cell? ⟨w3.heap.size, 1, none⟩ = some (.slice oc XR1.length cc) ∧ w'.cell? ⟨w5.heap.size, 0, none⟩ = some (.int .i64 (MR1)) ∧ w'.cell? ⟨w5.heap.size, 1, none⟩ = some (.slice od XR1.length cd) ∧ w'.cell? ⟨w7.heap.size, 0, none⟩ = some (.int .i64 (MR2)) ∧ w'.cell? ⟨w7.heap.size, 1, none⟩ = some (.slice os XR2.length cs) ∧ w'.cell? ⟨w9.heap.size, 0, none⟩ = some (.int .i64 (MR2)) ∧ w'.cell? ⟨w9.heap.size, 1, none⟩ = some (.slice ot XR2.length ct)) (go_keep)
    (first
      | (go_at_call_of 15 (Value.agg #[.int .i64 MR1, .slice oc XR1.length cc]); refine (series5_same (MR1) _ _ (XR1) _ c_11.2 d_11.2).mono ?_; rintro e w12 ⟨rfl, hb⟩; have a_12 := a_11.below hb; have b_12 := b_11.below hb; have c_12 := c_11.below hb; have d_12 := d_11.below hb; have s_12 := s_11.below hb; have t_12 := t_11.below hb; have HB12 := HB11.trans (hb.mono HB11.size); clear a_11 b_11 c_11 d_11 s_11 t_11 HB11 hb; obtain ⟨⟨qa0, qa1⟩, -⟩ := id a_12; obtain ⟨⟨qc0, qc1⟩, -⟩ := id c_12; obtain ⟨⟨qd0, qd1⟩, -⟩ := id d_12; obtain ⟨⟨qs0, qs1⟩, -⟩ := id s_12; obtain ⟨⟨qt0, qt1⟩, -⟩ := id t_12)
      | (go_at_call_of 15 (Value.agg #[.int .i64 MR2, .slice os XR2.length cs]); refine (series5_same (MR2) _ _ (XR2) _ s_12.2 t_12.2).mono ?_; rintro e w13 ⟨rfl, hb⟩; have a_13 := a_12.below hb; have b_13 := b_12.below hb; have c_13 := c_12.below hb; have d_13 := d_12.below hb; have s_13 := s_12.below hb; have t_13 := t_12.below hb; have HB13 := HB12.trans (hb.mono HB12.size); clear a_12 b_12 c_12 d_12 s_12 t_12 HB12 hb; obtain ⟨⟨qa0, qa1⟩, -⟩ := id a_13; obtain ⟨⟨qc0, qc1⟩, -⟩ := id c_13; obtain ⟨⟨qd0, qd1⟩, -⟩ := id d_13; obtain ⟨⟨qs0, qs1⟩, -⟩ := id s_13; obtain ⟨⟨qt0, qt1⟩, -⟩ := id t_13)
      | (go_at_call 16; refine (IsSeries_c (ma) _ (xa) _ a_13.2).mono ?_; rintro e w14 ⟨rfl, hb⟩; have a_14 := a_13.below hb; have b_14 := b_13.below hb; have c_14 := c_13.below hb; have d_14 := d_13.below hb; have s_14 := s_13.below hb; have t_14 := t_13.below hb; have HB14 := HB13.trans (hb.mono HB13.size); clear a_13 b_13 c_13 d_13 s_13 t_13 HB13 hb; obtain ⟨⟨qa0, qa1⟩, -⟩ := id a_14; obtain ⟨⟨qc0, qc1⟩, -⟩ := id c_14; obtain ⟨⟨qd0, qd1⟩, -⟩ := id d_14; obtain ⟨⟨qs0, qs1⟩, -⟩ := id s_14; obtain ⟨⟨qt0, qt1⟩, -⟩ := id t_14)
      | (go_at_call 17; refine (sIsSeries_c (ma) _ (xa) _ a_14.2).mono ?_; rintro e w15 ⟨rfl, hb⟩; have a_15 := a_14.below hb; have b_15 := b_14.below hb; have c_15 := c_14.below hb; have d_15 := d_14.below hb; have s_15 := s_14.below hb; have t_15 := t_14.below hb; have HB15 := HB14.trans (hb.mono HB14.size); clear a_14 b_14 c_14 d_14 s_14 t_14 HB14 hb; obtain ⟨⟨qa0, qa1⟩, -⟩ := id a_15; obtain ⟨⟨qc0, qc1⟩, -⟩ := id c_15; obtain ⟨⟨qd0, qd1⟩, -⟩ := id d_15; obtain ⟨⟨qs0, qs1⟩, -⟩ := id s_15; obtain ⟨⟨qt0, qt1⟩, -⟩ := id t_15)
      | (go_at_call 18; refine (IsCurve_c (ma) _ (xa) _ a_15.2).mono ?_; rintro e w16 ⟨rfl, hb⟩; have a_16 := a_15.below hb; have b_16 := b_15.below hb; have c_16 := c_15.below hb; have d_16 := d_15.below hb; have s_16 := s_15.below hb; have t_16 := t_15.below hb; have HB16 := HB15.trans (hb.mono HB15.size); clear a_15 b_15 c_15 d_15 s_15 t_15 HB15 hb; obtain ⟨⟨qa0, qa1⟩, -⟩ := id a_16; obtain ⟨⟨qc0, qc1⟩, -⟩ := id c_16; obtain ⟨⟨qd0, qd1⟩, -⟩ := id d_16; obtain ⟨⟨qs0, qs1⟩, -⟩ := id s_16; obtain ⟨⟨qt0, qt1⟩, -⟩ := id t_16)
      | (go_at_call 19; refine (sIsCurve_c (ma) _ (xa) _ a_16.2).mono ?_; rintro e w17 ⟨rfl, hb⟩; have a_17 := a_16.below hb; have b_17 := b_16.below hb; have c_17 := c_16.below hb; have d_17 := d_16.below hb; have s_17 := s_16.below hb; have t_17 := t_16.below hb; have HB17 := HB16.trans (hb.mono HB16.size); clear a_16 b_16 c_16 d_16 s_16 t_16 HB16 hb; obtain ⟨⟨qa0, qa1⟩, -⟩ := id a_17; obtain ⟨⟨qc0, qc1⟩, -⟩ := id c_17; obtain ⟨⟨qd0, qd1⟩, -⟩ := id d_17; obtain ⟨⟨qs0, qs1⟩, -⟩ := id s_17; obtain ⟨⟨qt0, qt1⟩, -⟩ := id t_17))
  clear hq1 hq2 la qa0 qa1 lc qc0 qc1 ld qd0 qd1 ls qs0 qs1 lt qt0 qt1
  clear d_17
  clear t_17
  trace "region done"
  go_upto_if 120 with fail
  go_cut [13, 14, 15, 16, 17, 18, 19, 20, 21, 22] from 121 (fun s13 s14 s15 s16 s17 s18 s19 s20 s21 s22 u => Below w0.heap.size w0 u)
  case first =>
    as_aux_lemma =>
    by_cases hc : CR1 = 0
    rotate_left
    · have hc2 : (CR1 == 0) = false := by simpa using hc
      go_wp2_with fail
      go_meet
      case rel => exact HB17
    subst hc
    have h0 : twoS ma xa mb xb = 0 := mul_code (by rw [HR1.out])
    obtain ⟨e, ha, hb'⟩ := two_IsS h0
    have e := e.symm
    subst e
    obtain ⟨T, A, L, Q, P, eT, eA, e1, e2, e3, e4, e5⟩ := ser_ring ha hb'
    obtain ⟨f1, f2⟩ : ma = MR1 ∧ T = XR1 := by
      have e0 := HR1.out
      rw [(ha.times hb').1, eT] at e0
      exact ⟨(SR.mk.inj e0).1, (SR.mk.inj e0).2.1⟩
    obtain ⟨f3, f4⟩ : ma = MR2 ∧ A = XR2 := by
      have e0 := HR2.out
      rw [(ha.add hb').1, eA] at e0
      exact ⟨(SR.mk.inj e0).1, (SR.mk.inj e0).2.1⟩
    subst f1 f2 f3 f4
    have E1 := Lib.hid e1
    have E2 := Lib.hid e2
    have E3 := Lib.hid e3
    have E4 := Lib.hid e4
    have E5 := Lib.hid e5
    clear e1 e2 e3 e4 e5 eT eA HR1 HR2 h0 ha hb'
    obtain ⟨⟨qb0, qb1⟩, -⟩ := id b_17
    have lb := b_17.lt
    obtain ⟨⟨qc0, qc1⟩, -⟩ := id c_17
    have lc := c_17.lt
    go_wp2_with fail
    clear lb qb0 qb1
    clear lc qc0 qc1
    have hC := MultiplySeries_c (ma) _ (T) (ma) _ (xb) w17 c_17.2 b_17.2
    rw [E1.out] at hC
    refine (send3 hC).mono ?_
    clear hC
    rintro e w18 ⟨vl, rfl, hl, hb, hll⟩
    have a_18 := a_17.below hb
    have b_18 := b_17.below hb
    have c_18 := c_17.below hb
    have s_18 := s_17.below hb
    have HB18 := HB17.trans (hb.mono HB17.size)
    clear a_17 b_17 c_17 s_17 HB17 hb
    obtain ⟨ol, cl, rfl⟩ := hl.shape
    have rl := hl.rd
    clear hl
    clear hll
    obtain ⟨⟨qb0, qb1⟩, -⟩ := id b_18
    have lb := b_18.lt
    go_wp2_with fail
    clear lb qb0 qb1
    have l_19 := (SB.mk1 w18 (ma) (.slice ol L.length cl) (L) rl 26).below (w' := w18.alloc (.cells #[.int .i64 ma, .slice ol L.length cl] 26)) (by (repeat (first | exact Below.refl _ _ | (refine Below.setCell ?_ (by first | (simp; done) | (simp; omega) | omega) _) | (refine Below.alloc ?_ (by first | (simp; done) | (simp; omega) | omega) _) | (refine below_drewN ?_ _) | (refine Below.drew ?_))))
    have hbk0 : w18.heap.size = w18.heap.size := by simp
    rw [hbk0] at l_19
    clear hbk0
    have hb : Below w18.heap.size w18 (w18.alloc (.cells #[.int .i64 ma, .slice ol L.length cl] 26)) := (by (repeat (first | exact Below.refl _ _ | (refine Below.setCell ?_ (by first | (simp; done) | (simp; omega) | omega) _) | (refine Below.alloc ?_ (by first | (simp; done) | (simp; omega) | omega) _) | (refine below_drewN ?_ _) | (refine Below.drew ?_))))
    have a_19 := a_18.below hb
    have b_19 := b_18.below hb
    have c_19 := c_18.below hb
    have s_19 := s_18.below hb
    have HB19 := HB18.trans (hb.mono HB18.size)
    clear hb HB18 a_18 b_18 c_18 s_18
    generalize w18.alloc (.cells #[.int .i64 ma, .slice ol L.length cl] 26) = w19 at a_19 b_19 c_19 s_19 l_19 HB19 ⊢
    clear rl
    have hC := MultiplySeries_c (ma) _ (xb) (ma) _ (xb) w19 b_19.2 b_19.2
    rw [E2.out] at hC
    refine (send3 hC).mono ?_
    clear hC
    rintro e w20 ⟨vq, rfl, hq, hb, hlq⟩
    have a_20 := a_19.below hb
    have b_20 := b_19.below hb
    have c_20 := c_19.below hb
    have s_20 := s_19.below hb
    have l_20 := l_19.below hb
    have HB20 := HB19.trans (hb.mono HB19.size)
    clear a_19 b_19 c_19 s_19 l_19 HB19 hb
    obtain ⟨oq, cq, rfl⟩ := hq.shape
    have rq := hq.rd
    clear hq
    clear hlq
    obtain ⟨⟨qa0, qa1⟩, -⟩ := id a_20
    have la := a_20.lt
    go_wp2_with fail
    clear la qa0 qa1
    have q_21 := (SB.mk1 w20 (ma) (.slice oq Q.length cq) (Q) rq 26).below (w' := w20.alloc (.cells #[.int .i64 ma, .slice oq Q.length cq] 26)) (by (repeat (first | exact Below.refl _ _ | (refine Below.setCell ?_ (by first | (simp; done) | (simp; omega) | omega) _) | (refine Below.alloc ?_ (by first | (simp; done) | (simp; omega) | omega) _) | (refine below_drewN ?_ _) | (refine Below.drew ?_))))
    have hbk0 : w20.heap.size = w20.heap.size := by simp
    rw [hbk0] at q_21
    clear hbk0
    have hb : Below w20.heap.size w20 (w20.alloc (.cells #[.int .i64 ma, .slice oq Q.length cq] 26)) := (by (repeat (first | exact Below.refl _ _ | (refine Below.setCell ?_ (by first | (simp; done) | (simp; omega) | omega) _) | (refine Below.alloc ?_ (by first | (simp; done) | (simp; omega) | omega) _) | (refine below_drewN ?_ _) | (refine Below.drew ?_))))
    have a_21 := a_20.below hb
    have b_21 := b_20.below hb
    have c_21 := c_20.below hb
    have s_21 := s_20.below hb
    have l_21 := l_20.below hb
    have HB21 := HB20.trans (hb.mono HB20.size)
    clear hb HB20 a_20 b_20 c_20 s_20 l_20
    generalize w20.alloc (.cells #[.int .i64 ma, .slice oq Q.length cq] 26) = w21 at a_21 b_21 c_21 s_21 l_21 q_21 HB21 ⊢
    clear rq
    have hC := MultiplySeries_c (ma) _ (xa) (ma) _ (Q) w21 a_21.2 q_21.2
    rw [E3.out] at hC
    refine (send3 hC).mono ?_
    clear hC
    rintro e w22 ⟨vr, rfl, hr, hb, hlr⟩
    have a_22 := a_21.below hb
    have b_22 := b_21.below hb
    have c_22 := c_21.below hb
    have s_22 := s_21.below hb
    have l_22 := l_21.below hb
    have q_22 := q_21.below hb
    have HB22 := HB21.trans (hb.mono HB21.size)
    clear a_21 b_21 c_21 s_21 l_21 q_21 HB21 hb
    obtain ⟨or, cr, rfl⟩ := hr.shape
    have rr := hr.rd
    clear hr
    clear hlr
    obtain ⟨⟨qs0, qs1⟩, -⟩ := id s_22
    have ls := s_22.lt
    obtain ⟨⟨qb0, qb1⟩, -⟩ := id b_22
    have lb := b_22.lt
    go_wp2_with fail
    clear ls qs0 qs1
    clear lb qb0 qb1
    have r_23 := (SB.mk1 w22 (ma) (.slice or L.length cr) (L) rr 26).below (w' := w22.alloc (.cells #[.int .i64 ma, .slice or L.length cr] 26)) (by (repeat (first | exact Below.refl _ _ | (refine Below.setCell ?_ (by first | (simp; done) | (simp; omega) | omega) _) | (refine Below.alloc ?_ (by first | (simp; done) | (simp; omega) | omega) _) | (refine below_drewN ?_ _) | (refine Below.drew ?_))))
    have hbk0 : w22.heap.size = w22.heap.size := by simp
    rw [hbk0] at r_23
    clear hbk0
    have hb : Below w22.heap.size w22 (w22.alloc (.cells #[.int .i64 ma, .slice or L.length cr] 26)) := (by (repeat (first | exact Below.refl _ _ | (refine Below.setCell ?_ (by first | (simp; done) | (simp; omega) | omega) _) | (refine Below.alloc ?_ (by first | (simp; done) | (simp; omega) | omega) _) | (refine below_drewN ?_ _) | (refine Below.drew ?_))))
    have a_23 := a_22.below hb
    have b_23 := b_22.below hb
    have c_23 := c_22.below hb
    have s_23 := s_22.below hb
    have l_23 := l_22.below hb
    have q_23 := q_22.below hb
    have HB23 := HB22.trans (hb.mono HB22.size)
    clear hb HB22 a_22 b_22 c_22 s_22 l_22 q_22
    generalize w22.alloc (.cells #[.int .i64 ma, .slice or L.length cr] 26) = w23 at a_23 b_23 c_23 s_23 l_23 q_23 r_23 HB23 ⊢
    clear rr
    have hC := MultiplySeries_c (ma) _ (A) (ma) _ (xb) w23 s_23.2 b_23.2
    rw [E4.out] at hC
    refine (send3 hC).mono ?_
    clear hC
    rintro e w24 ⟨vp, rfl, hp, hb, hlp⟩
    have a_24 := a_23.below hb
    have b_24 := b_23.below hb
    have c_24 := c_23.below hb
    have s_24 := s_23.below hb
    have l_24 := l_23.below hb
    have q_24 := q_23.below hb
    have r_24 := r_23.below hb
    have HB24 := HB23.trans (hb.mono HB23.size)
    clear a_23 b_23 c_23 s_23 l_23 q_23 r_23 HB23 hb
    obtain ⟨op, cp, rfl⟩ := hp.shape
    have rp := hp.rd
    clear hp
    clear hlp
    obtain ⟨⟨qc0, qc1⟩, -⟩ := id c_24
    have lc := c_24.lt
    obtain ⟨⟨qq0, qq1⟩, -⟩ := id q_24
    have lq := q_24.lt
    go_wp2_with fail
    clear lc qc0 qc1
    clear lq qq0 qq1
    have p_25 := (SB.mk1 w24 (ma) (.slice op P.length cp) (P) rp 26).below (w' := w24.alloc (.cells #[.int .i64 ma, .slice op P.length cp] 26)) (by (repeat (first | exact Below.refl _ _ | (refine Below.setCell ?_ (by first | (simp; done) | (simp; omega) | omega) _) | (refine Below.alloc ?_ (by first | (simp; done) | (simp; omega) | omega) _) | (refine below_drewN ?_ _) | (refine Below.drew ?_))))
    have hbk0 : w24.heap.size = w24.heap.size := by simp
    rw [hbk0] at p_25
    clear hbk0
    have hb : Below w24.heap.size w24 (w24.alloc (.cells #[.int .i64 ma, .slice op P.length cp] 26)) := (by (repeat (first | exact Below.refl _ _ | (refine Below.setCell ?_ (by first | (simp; done) | (simp; omega) | omega) _) | (refine Below.alloc ?_ (by first | (simp; done) | (simp; omega) | omega) _) | (refine below_drewN ?_ _) | (refine Below.drew ?_))))
    have a_25 := a_24.below hb
    have b_25 := b_24.below hb
    have c_25 := c_24.below hb
    have s_25 := s_24.below hb
    have l_25 := l_24.below hb
    have q_25 := q_24.below hb
    have r_25 := r_24.below hb
    have HB25 := HB24.trans (hb.mono HB24.size)
    clear hb HB24 a_24 b_24 c_24 s_24 l_24 q_24 r_24
    generalize w24.alloc (.cells #[.int .i64 ma, .slice op P.length cp] 26) = w25 at a_25 b_25 c_25 s_25 l_25 q_25 r_25 p_25 HB25 ⊢
    clear rp
    have hC := AddSeries_c (ma) _ (T) (ma) _ (Q) w25 c_25.2 q_25.2
    rw [E5.out] at hC
    refine (send3 hC).mono ?_
    clear hC
    rintro e w26 ⟨vo, rfl, ho, hb, hlo⟩
    have a_26 := a_25.below hb
    have b_26 := b_25.below hb
    have c_26 := c_25.below hb
    have s_26 := s_25.below hb
    have l_26 := l_25.below hb
    have q_26 := q_25.below hb
    have r_26 := r_25.below hb
    have p_26 := p_25.below hb
    have HB26 := HB25.trans (hb.mono HB25.size)
    clear a_25 b_25 c_25 s_25 l_25 q_25 r_25 p_25 HB25 hb
    obtain ⟨oo, co, rfl⟩ := ho.shape
    have ro := ho.rd
    clear ho
    clear hlo
    obtain ⟨⟨ql0, ql1⟩, -⟩ := id l_26
    have ll := l_26.lt
    obtain ⟨⟨qr0, qr1⟩, -⟩ := id r_26
    have lr := r_26.lt
    go_wp2_with fail
    clear ll ql0 ql1
    clear lr qr0 qr1
    have o_27 := (SB.mk1 w26 (ma) (.slice oo P.length co) (P) ro 26).below (w' := w26.alloc (.cells #[.int .i64 ma, .slice oo P.length co] 26)) (by (repeat (first | exact Below.refl _ _ | (refine Below.setCell ?_ (by first | (simp; done) | (simp; omega) | omega) _) | (refine Below.alloc ?_ (by first | (simp; done) | (simp; omega) | omega) _) | (refine below_drewN ?_ _) | (refine Below.drew ?_))))
    have hbk0 : w26.heap.size = w26.heap.size := by simp
    rw [hbk0] at o_27
    clear hbk0
    have hb : Below w26.heap.size w26 (w26.alloc (.cells #[.int .i64 ma, .slice oo P.length co] 26)) := (by (repeat (first | exact Below.refl _ _ | (refine Below.setCell ?_ (by first | (simp; done) | (simp; omega) | omega) _) | (refine Below.alloc ?_ (by first | (simp; done) | (simp; omega) | omega) _) | (refine below_drewN ?_ _) | (refine Below.drew ?_))))
    have a_27 := a_26.below hb
    have b_27 := b_26.below hb
    have c_27 := c_26.below hb
    have s_27 := s_26.below hb
    have l_27 := l_26.below hb
    have q_27 := q_26.below hb
    have r_27 := r_26.below hb
    have p_27 := p_26.below hb
    have HB27 := HB26.trans (hb.mono HB26.size)
    clear hb HB26 a_26 b_26 c_26 s_26 l_26 q_26 r_26 p_26
    generalize w26.alloc (.cells #[.int .i64 ma, .slice oo P.length co] 26) = w27 at a_27 b_27 c_27 s_27 l_27 q_27 r_27 p_27 o_27 HB27 ⊢
    clear ro
    clear a_27
    clear b_27
    clear c_27
    clear s_27
    clear q_27
    refine (series5_same (ma) _ _ (L) _ l_27.2 r_27.2).mono ?_
    rintro e w28 ⟨rfl, hb⟩
    have l_28 := l_27.below hb
    have r_28 := r_27.below hb
    have p_28 := p_27.below hb
    have o_28 := o_27.below hb
    have HB28 := HB27.trans (hb.mono HB27.size)
    clear l_27 r_27 p_27 o_27 HB27 hb
    clear l_28
    clear r_28
    obtain ⟨⟨qp0, qp1⟩, -⟩ := id p_28
    have lp := p_28.lt
    obtain ⟨⟨qo0, qo1⟩, -⟩ := id o_28
    have lo := o_28.lt
    go_wp2_with fail
    clear lp qp0 qp1
    clear lo qo0 qo1
    refine (series5_same (ma) _ _ (P) _ p_28.2 o_28.2).mono ?_
    rintro e w29 ⟨rfl, hb⟩
    have p_29 := p_28.below hb
    have o_29 := o_28.below hb
    have HB29 := HB28.trans (hb.mono HB28.size)
    clear p_28 o_28 HB28 hb
    go_wp2_with fail
    go_meet
    case rel => exact HB29
  case rest =>
    as_aux_lemma =>
    obtain ⟨w30, rfl⟩ : ∃ u, u = wc := ⟨_, rfl⟩
    clear a_17 b_17 c_17 s_17 HB17
    have HB30 := hcut
    clear hcut
    trace "part 1"
    go_wp2_with fail
    refine (DrawInverseOfSeries_d w0.heap.size n _ w30 (HV.out.keep (fun j hj => HB30.block j hj)) HB30.size).mono ?_
    rintro e w31 ⟨me, ve, xe, rfl, re, hle, hb⟩
    have HB31 := HB30.trans (hb.mono HB30.size)
    clear HB30 hb
    obtain ⟨oe, ce, rfl, -, -⟩ := id re
    clear hle
    go_wp2_with fail
    have e_32 := (SB.mk1 w31 (me) (.slice oe xe.length ce) (xe) re 26).below (w' := w31.alloc (.cells #[.int .i64 me, .slice oe xe.length ce] 26)) (by (repeat (first | exact Below.refl _ _ | (refine Below.setCell ?_ (by first | (simp; done) | (simp; omega) | omega) _) | (refine Below.alloc ?_ (by first | (simp; done) | (simp; omega) | omega) _) | (refine below_drewN ?_ _) | (refine Below.drew ?_))))
    have hbk0 : w31.heap.size = w31.heap.size := by simp
    rw [hbk0] at e_32
    clear hbk0
    have hb : Below w31.heap.size w31 (w31.alloc (.cells #[.int .i64 me, .slice oe xe.length ce] 26)) := (by (repeat (first | exact Below.refl _ _ | (refine Below.setCell ?_ (by first | (simp; done) | (simp; omega) | omega) _) | (refine Below.alloc ?_ (by first | (simp; done) | (simp; omega) | omega) _) | (refine below_drewN ?_ _) | (refine Below.drew ?_))))
    have HB32 := HB31.trans (hb.mono HB31.size)
    clear hb HB31 
    generalize w31.alloc (.cells #[.int .i64 me, .slice oe xe.length ce] 26) = w32 at e_32 HB32 ⊢
    clear re
    obtain ⟨⟨MR3, XR3, CR3⟩, hR3⟩ : ∃ r, invSR me xe = r := ⟨_, rfl⟩
    have HR3 := Lib.hid hR3
    clear hR3
    have hC := InverseOfSeries_c (me) _ (xe) w32 e_32.2
    rw [HR3.out] at hC
    refine (send3 hC).mono ?_
    clear hC
    rintro e w33 ⟨vi, rfl, hi, hb, hli⟩
    have e_33 := e_32.below hb
    have HB33 := HB32.trans (hb.mono HB32.size)
    clear e_32 HB32 hb
    obtain ⟨oi, ci, rfl⟩ := hi.shape
    have ri := hi.rd
    clear hi
    clear hli
    obtain ⟨⟨qe0, qe1⟩, -⟩ := id e_33
    have le := e_33.lt
    go_wp2_with fail
    clear le qe0 qe1
    have i_34 := (SB.mk1 w33 (MR3) (.slice oi XR3.length ci) (XR3) ri 26).below (w' := w33.alloc (.cells #[.int .i64 MR3, .slice oi XR3.length ci] 26)) (by (repeat (first | exact Below.refl _ _ | (refine Below.setCell ?_ (by first | (simp; done) | (simp; omega) | omega) _) | (refine Below.alloc ?_ (by first | (simp; done) | (simp; omega) | omega) _) | (refine below_drewN ?_ _) | (refine Below.drew ?_))))
    have hbk0 : w33.heap.size = w33.heap.size := by simp
    rw [hbk0] at i_34
    clear hbk0
    have hb : Below w33.heap.size w33 (w33.alloc (.cells #[.int .i64 MR3, .slice oi XR3.length ci] 26)) := (by (repeat (first | exact Below.refl _ _ | (refine Below.setCell ?_ (by first | (simp; done) | (simp; omega) | omega) _) | (refine Below.alloc ?_ (by first | (simp; done) | (simp; omega) | omega) _) | (refine below_drewN ?_ _) | (refine Below.drew ?_))))
    have e_34 := e_33.below hb
    have HB34 := HB33.trans (hb.mono HB33.size)
    clear hb HB33 e_33
    generalize w33.alloc (.cells #[.int .i64 MR3, .slice oi XR3.length ci] 26) = w34 at e_34 i_34 HB34 ⊢
    clear ri
    have hC := sInverseOfSeries_c (me) _ (xe) w34 e_34.2
    rw [HR3.out] at hC
    refine (send3 hC).mono ?_
    clear hC
    rintro e w35 ⟨vt, rfl, ht, hb, hlt⟩
    have e_35 := e_34.below hb
    have i_35 := i_34.below hb
    have HB35 := HB34.trans (hb.mono HB34.size)
    clear e_34 i_34 HB34 hb
    obtain ⟨ot, ct, rfl⟩ := ht.shape
    have rt := ht.rd
    clear ht
    clear hlt
    have hqR3 : (CR3 != CR3) = false := by simp
    obtain ⟨⟨qi0, qi1⟩, -⟩ := id i_35
    have li := i_35.lt
    go_wp2_with fail
    clear li qi0 qi1
    have t_36 := (SB.mk1 w35 (MR3) (.slice ot XR3.length ct) (XR3) rt 26).below (w' := w35.alloc (.cells #[.int .i64 MR3, .slice ot XR3.length ct] 26)) (by (repeat (first | exact Below.refl _ _ | (refine Below.setCell ?_ (by first | (simp; done) | (simp; omega) | omega) _) | (refine Below.alloc ?_ (by first | (simp; done) | (simp; omega) | omega) _) | (refine below_drewN ?_ _) | (refine Below.drew ?_))))
    have hbk0 : w35.heap.size = w35.heap.size := by simp
    rw [hbk0] at t_36
    clear hbk0
    have hb : Below w35.heap.size w35 (w35.alloc (.cells #[.int .i64 MR3, .slice ot XR3.length ct] 26)) := (by (repeat (first | exact Below.refl _ _ | (refine Below.setCell ?_ (by first | (simp; done) | (simp; omega) | omega) _) | (refine Below.alloc ?_ (by first | (simp; done) | (simp; omega) | omega) _) | (refine below_drewN ?_ _) | (refine Below.drew ?_))))
    have e_36 := e_35.below hb
    have i_36 := i_35.below hb
    have HB36 := HB35.trans (hb.mono HB35.size)
    clear hb HB35 e_35 i_35
    generalize w35.alloc (.cells #[.int .i64 MR3, .slice ot XR3.length ct] 26) = w36 at e_36 i_36 t_36 HB36 ⊢
    clear rt
    refine (series5_same (MR3) _ _ (XR3) _ i_36.2 t_36.2).mono ?_
    rintro e w37 ⟨rfl, hb⟩
    have e_37 := e_36.below hb
    have i_37 := i_36.below hb
    have t_37 := t_36.below hb
    have HB37 := HB36.trans (hb.mono HB36.size)
    clear e_36 i_36 t_36 HB36 hb
    clear t_37
    go_upto_if 203 with fail
    go_cut [28, 29, 30, 31] from 204 (fun s28 s29 s30 s31 u => Below w0.heap.size w0 u)
    case first =>
      as_aux_lemma =>
      by_cases hc : CR3 = 0
      rotate_left
      · have hc2 : (CR3 == 0) = false := by simpa using hc
        go_wp2_with fail
        go_meet
        case rel => exact HB37
      subst hc
      obtain ⟨he, hu⟩ := inv_code (m := me) (a := xe) (by rw [HR3.out])
      obtain ⟨I, e0, e1, e2⟩ := ser_inv he hu
      obtain ⟨f1, f2⟩ : me = MR3 ∧ I = XR3 := by
        have e3 := HR3.out
        rw [e0] at e3
        exact ⟨(SR.mk.inj e3).1, (SR.mk.inj e3).2.1⟩
      subst f1 f2
      obtain ⟨O, hO⟩ : ∃ O, oneL xe.length = O := ⟨_, rfl⟩
      rw [hO] at e1 e2
      have E1 := Lib.hid e1
      have E2 := Lib.hid e2
      clear e0 e1 e2 hO HR3 he hu hqR3
      obtain ⟨⟨qe0, qe1⟩, -⟩ := id e_37
      have le := e_37.lt
      obtain ⟨⟨qi0, qi1⟩, -⟩ := id i_37
      have li := i_37.lt
      go_wp2_with fail
      clear le qe0 qe1
      clear li qi0 qi1
      have hC := MultiplySeries_c (me) _ (xe) (me) _ (I) w37 e_37.2 i_37.2
      rw [E1.out] at hC
      refine (send3 hC).mono ?_
      clear hC
      rintro e w38 ⟨vu, rfl, hu, hb, hlu⟩
      have e_38 := e_37.below hb
      have i_38 := i_37.below hb
      have HB38 := HB37.trans (hb.mono HB37.size)
      clear e_37 i_37 HB37 hb
      obtain ⟨ou, cu, rfl⟩ := hu.shape
      have ru := hu.rd
      clear hu
      clear hlu
      obtain ⟨⟨qe0, qe1⟩, -⟩ := id e_38
      have le := e_38.lt
      go_wp2_with fail
      clear le qe0 qe1
      have u_39 := (SB.mk1 w38 (me) (.slice ou O.length cu) (O) ru 26).below (w' := w38.alloc (.cells #[.int .i64 me, .slice ou O.length cu] 26)) (by (repeat (first | exact Below.refl _ _ | (refine Below.setCell ?_ (by first | (simp; done) | (simp; omega) | omega) _) | (refine Below.alloc ?_ (by first | (simp; done) | (simp; omega) | omega) _) | (refine below_drewN ?_ _) | (refine Below.drew ?_))))
      have hbk0 : w38.heap.size = w38.heap.size := by simp
      rw [hbk0] at u_39
      clear hbk0
      have hb : Below w38.heap.size w38 (w38.alloc (.cells #[.int .i64 me, .slice ou O.length cu] 26)) := (by (repeat (first | exact Below.refl _ _ | (refine Below.setCell ?_ (by first | (simp; done) | (simp; omega) | omega) _) | (refine Below.alloc ?_ (by first | (simp; done) | (simp; omega) | omega) _) | (refine below_drewN ?_ _) | (refine Below.drew ?_))))
      have e_39 := e_38.below hb
      have i_39 := i_38.below hb
      have HB39 := HB38.trans (hb.mono HB38.size)
      clear hb HB38 e_38 i_38
      generalize w38.alloc (.cells #[.int .i64 me, .slice ou O.length cu] 26) = w39 at e_39 i_39 u_39 HB39 ⊢
      clear ru
      have hC := PowerOfSeries_c (me) (0) _ (xe) w39 e_39.2
      rw [E2.out] at hC
      refine (send3 hC).mono ?_
      clear hC
      rintro e w40 ⟨vp, rfl, hp, hb, hlp⟩
      have e_40 := e_39.below hb
      have i_40 := i_39.below hb
      have u_40 := u_39.below hb
      have HB40 := HB39.trans (hb.mono HB39.size)
      clear e_39 i_39 u_39 HB39 hb
      obtain ⟨op, cp, rfl⟩ := hp.shape
      have rp := hp.rd
      clear hp
      clear hlp
      obtain ⟨⟨qu0, qu1⟩, -⟩ := id u_40
      have lu := u_40.lt
      go_wp2_with fail
      clear lu qu0 qu1
      have p_41 := (SB.mk1 w40 (me) (.slice op O.length cp) (O) rp 26).below (w' := w40.alloc (.cells #[.int .i64 me, .slice op O.length cp] 26)) (by (repeat (first | exact Below.refl _ _ | (refine Below.setCell ?_ (by first | (simp; done) | (simp; omega) | omega) _) | (refine Below.alloc ?_ (by first | (simp; done) | (simp; omega) | omega) _) | (refine below_drewN ?_ _) | (refine Below.drew ?_))))
      have hbk0 : w40.heap.size = w40.heap.size := by simp
      rw [hbk0] at p_41
      clear hbk0
      have hb : Below w40.heap.size w40 (w40.alloc (.cells #[.int .i64 me, .slice op O.length cp] 26)) := (by (repeat (first | exact Below.refl _ _ | (refine Below.setCell ?_ (by first | (simp; done) | (simp; omega) | omega) _) | (refine Below.alloc ?_ (by first | (simp; done) | (simp; omega) | omega) _) | (refine below_drewN ?_ _) | (refine Below.drew ?_))))
      have e_41 := e_40.below hb
      have i_41 := i_40.below hb
      have u_41 := u_40.below hb
      have HB41 := HB40.trans (hb.mono HB40.size)
      clear hb HB40 e_40 i_40 u_40
      generalize w40.alloc (.cells #[.int .i64 me, .slice op O.length cp] 26) = w41 at e_41 i_41 u_41 p_41 HB41 ⊢
      clear rp
      clear e_41
      clear i_41
      refine (series5_same (me) _ _ (O) _ u_41.2 p_41.2).mono ?_
      rintro e w42 ⟨rfl, hb⟩
      have u_42 := u_41.below hb
      have p_42 := p_41.below hb
      have HB42 := HB41.trans (hb.mono HB41.size)
      clear u_41 p_41 HB41 hb
      go_wp2_with fail
      go_meet
      case rel => exact HB42
    case rest =>
      as_aux_lemma =>
      obtain ⟨w43, rfl⟩ : ∃ u, u = wc := ⟨_, rfl⟩
      clear e_37 i_37 HB37
      have HB43 := hcut
      clear hcut
      trace "part 2"
      go_wp2_with fail
      refine (DrawReverseSeries_d w0.heap.size n _ w43 (HV.out.keep (fun j hj => HB43.block j hj)) HB43.size).mono ?_
      rintro e w44 ⟨mf, vf, xf, rfl, rf, hlf, hb⟩
      have HB44 := HB43.trans (hb.mono HB43.size)
      clear HB43 hb
      obtain ⟨of, cf, rfl, -, -⟩ := id rf
      clear hlf
      go_wp2_with fail
      have f_45 := (SB.mk1 w44 (mf) (.slice of xf.length cf) (xf) rf 26).below (w' := w44.alloc (.cells #[.int .i64 mf, .slice of xf.length cf] 26)) (by (repeat (first | exact Below.refl _ _ | (refine Below.setCell ?_ (by first | (simp; done) | (simp; omega) | omega) _) | (refine Below.alloc ?_ (by first | (simp; done) | (simp; omega) | omega) _) | (refine below_drewN ?_ _) | (refine Below.drew ?_))))
      have hbk0 : w44.heap.size = w44.heap.size := by simp
      rw [hbk0] at f_45
      clear hbk0
      have hb : Below w44.heap.size w44 (w44.alloc (.cells #[.int .i64 mf, .slice of xf.length cf] 26)) := (by (repeat (first | exact Below.refl _ _ | (refine Below.setCell ?_ (by first | (simp; done) | (simp; omega) | omega) _) | (refine Below.alloc ?_ (by first | (simp; done) | (simp; omega) | omega) _) | (refine below_drewN ?_ _) | (refine Below.drew ?_))))
      have HB45 := HB44.trans (hb.mono HB44.size)
      clear hb HB44 
      generalize w44.alloc (.cells #[.int .i64 mf, .slice of xf.length cf] 26) = w45 at f_45 HB45 ⊢
      clear rf
      obtain ⟨⟨MR4, XR4, CR4⟩, hR4⟩ : ∃ r, revR mf xf = r := ⟨_, rfl⟩
      have HR4 := Lib.hid hR4
      clear hR4
      have hC := ReverseSeries_c (mf) _ (xf) w45 f_45.2
      rw [HR4.out] at hC
      refine (send3 hC).mono ?_
      clear hC
      rintro e w46 ⟨vg, rfl, hg, hb, hlg⟩
      have f_46 := f_45.below hb
      have HB46 := HB45.trans (hb.mono HB45.size)
      clear f_45 HB45 hb
      obtain ⟨og, cg, rfl⟩ := hg.shape
      have rg := hg.rd
      clear hg
      clear hlg
      obtain ⟨⟨qf0, qf1⟩, -⟩ := id f_46
      have lf := f_46.lt
      go_wp2_with fail
      clear lf qf0 qf1
      have g_47 := (SB.mk1 w46 (MR4) (.slice og XR4.length cg) (XR4) rg 26).below (w' := w46.alloc (.cells #[.int .i64 MR4, .slice og XR4.length cg] 26)) (by (repeat (first | exact Below.refl _ _ | (refine Below.setCell ?_ (by first | (simp; done) | (simp; omega) | omega) _) | (refine Below.alloc ?_ (by first | (simp; done) | (simp; omega) | omega) _) | (refine below_drewN ?_ _) | (refine Below.drew ?_))))
      have hbk0 : w46.heap.size = w46.heap.size := by simp
      rw [hbk0] at g_47
      clear hbk0
      have hb : Below w46.heap.size w46 (w46.alloc (.cells #[.int .i64 MR4, .slice og XR4.length cg] 26)) := (by (repeat (first | exact Below.refl _ _ | (refine Below.setCell ?_ (by first | (simp; done) | (simp; omega) | omega) _) | (refine Below.alloc ?_ (by first | (simp; done) | (simp; omega) | omega) _) | (refine below_drewN ?_ _) | (refine Below.drew ?_))))
      have f_47 := f_46.below hb
      have HB47 := HB46.trans (hb.mono HB46.size)
      clear hb HB46 f_46
      generalize w46.alloc (.cells #[.int .i64 MR4, .slice og XR4.length cg] 26) = w47 at f_47 g_47 HB47 ⊢
      clear rg
      have hC := sReverseSeries_c (mf) _ (xf) w47 f_47.2
      rw [HR4.out] at hC
      refine (send3 hC).mono ?_
      clear hC
      rintro e w48 ⟨vt, rfl, ht, hb, hlt⟩
      have f_48 := f_47.below hb
      have g_48 := g_47.below hb
      have HB48 := HB47.trans (hb.mono HB47.size)
      clear f_47 g_47 HB47 hb
      obtain ⟨ot, ct, rfl⟩ := ht.shape
      have rt := ht.rd
      clear ht
      clear hlt
      have hqR4 : (CR4 != CR4) = false := by simp
      obtain ⟨⟨qg0, qg1⟩, -⟩ := id g_48
      have lg := g_48.lt
      go_wp2_with fail
      clear lg qg0 qg1
      have t_49 := (SB.mk1 w48 (MR4) (.slice ot XR4.length ct) (XR4) rt 26).below (w' := w48.alloc (.cells #[.int .i64 MR4, .slice ot XR4.length ct] 26)) (by (repeat (first | exact Below.refl _ _ | (refine Below.setCell ?_ (by first | (simp; done) | (simp; omega) | omega) _) | (refine Below.alloc ?_ (by first | (simp; done) | (simp; omega) | omega) _) | (refine below_drewN ?_ _) | (refine Below.drew ?_))))
      have hbk0 : w48.heap.size = w48.heap.size := by simp
      rw [hbk0] at t_49
      clear hbk0
      have hb : Below w48.heap.size w48 (w48.alloc (.cells #[.int .i64 MR4, .slice ot XR4.length ct] 26)) := (by (repeat (first | exact Below.refl _ _ | (refine Below.setCell ?_ (by first | (simp; done) | (simp; omega) | omega) _) | (refine Below.alloc ?_ (by first | (simp; done) | (simp; omega) | omega) _) | (refine below_drewN ?_ _) | (refine Below.drew ?_))))
      have f_49 := f_48.below hb
      have g_49 := g_48.below hb
      have HB49 := HB48.trans (hb.mono HB48.size)
      clear hb HB48 f_48 g_48
      generalize w48.alloc (.cells #[.int .i64 MR4, .slice ot XR4.length ct] 26) = w49 at f_49 g_49 t_49 HB49 ⊢
      clear rt
      refine (series5_same (MR4) _ _ (XR4) _ g_49.2 t_49.2).mono ?_
      rintro e w50 ⟨rfl, hb⟩
      have f_50 := f_49.below hb
      have g_50 := g_49.below hb
      have t_50 := t_49.below hb
      have HB50 := HB49.trans (hb.mono HB49.size)
      clear f_49 g_49 t_49 HB49 hb
      clear t_50
      go_upto_if 249 with fail
      go_cut [37, 38, 39, 40, 41] from 250 (fun s37 s38 s39 s40 s41 u => Below w0.heap.size w0 u)
      case first =>
        as_aux_lemma =>
        by_cases hc : CR4 = 0
        rotate_left
        · have hc2 : (CR4 == 0) = false := by simpa using hc
          go_wp2_with fail
          go_meet
          case rel => exact HB50
        subst hc
        obtain ⟨hf, hco⟩ := rev_code (m := mf) (a := xf) (by rw [HR4.out])
        have hfn := hf.n
        obtain ⟨G, e0, e1, e2⟩ := ser_rev hf hco
        obtain ⟨f1, f2⟩ : mf = MR4 ∧ G = XR4 := by
          have e3 := HR4.out
          rw [e0] at e3
          exact ⟨(SR.mk.inj e3).1, (SR.mk.inj e3).2.1⟩
        subst f1 f2
        obtain ⟨V, hV⟩ : ∃ V, varL xf.length = V := ⟨_, rfl⟩
        rw [hV] at e1 e2
        have E1 := Lib.hid e1
        have E2 := Lib.hid e2
        have HVV := Lib.hid hV
        clear e0 e1 e2 hV HR4 hf hco hqR4
        obtain ⟨⟨qf0, qf1⟩, -⟩ := id f_50
        have lf := f_50.lt
        obtain ⟨⟨qg0, qg1⟩, -⟩ := id g_50
        have lg := g_50.lt
        go_wp2_with fail
        clear lf qf0 qf1
        clear lg qg0 qg1
        have hC := ComposeSeries_c (mf) _ (xf) (mf) _ (G) w50 f_50.2 g_50.2
        rw [E1.out] at hC
        refine (send3 hC).mono ?_
        clear hC
        rintro e w51 ⟨vx, rfl, hx, hb, hlx⟩
        have f_51 := f_50.below hb
        have g_51 := g_50.below hb
        have HB51 := HB50.trans (hb.mono HB50.size)
        clear f_50 g_50 HB50 hb
        obtain ⟨ox, cx, rfl⟩ := hx.shape
        have rx := hx.rd
        clear hx
        clear hlx
        obtain ⟨⟨qg0, qg1⟩, -⟩ := id g_51
        have lg := g_51.lt
        obtain ⟨⟨qf0, qf1⟩, -⟩ := id f_51
        have lf := f_51.lt
        go_wp2_with fail
        clear lg qg0 qg1
        clear lf qf0 qf1
        have x_52 := (SB.mk1 w51 (mf) (.slice ox V.length cx) (V) rx 26).below (w' := w51.alloc (.cells #[.int .i64 mf, .slice ox V.length cx] 26)) (by (repeat (first | exact Below.refl _ _ | (refine Below.setCell ?_ (by first | (simp; done) | (simp; omega) | omega) _) | (refine Below.alloc ?_ (by first | (simp; done) | (simp; omega) | omega) _) | (refine below_drewN ?_ _) | (refine Below.drew ?_))))
        have hbk0 : w51.heap.size = w51.heap.size := by simp
        rw [hbk0] at x_52
        clear hbk0
        have hb : Below w51.heap.size w51 (w51.alloc (.cells #[.int .i64 mf, .slice ox V.length cx] 26)) := (by (repeat (first | exact Below.refl _ _ | (refine Below.setCell ?_ (by first | (simp; done) | (simp; omega) | omega) _) | (refine Below.alloc ?_ (by first | (simp; done) | (simp; omega) | omega) _) | (refine below_drewN ?_ _) | (refine Below.drew ?_))))
        have f_52 := f_51.below hb
        have g_52 := g_51.below hb
        have HB52 := HB51.trans (hb.mono HB51.size)
        clear hb HB51 f_51 g_51
        generalize w51.alloc (.cells #[.int .i64 mf, .slice ox V.length cx] 26) = w52 at f_52 g_52 x_52 HB52 ⊢
        clear rx
        have hC := ComposeSeries_c (mf) _ (G) (mf) _ (xf) w52 g_52.2 f_52.2
        rw [E2.out] at hC
        refine (send3 hC).mono ?_
        clear hC
        rintro e w53 ⟨vy, rfl, hy, hb, hly⟩
        have f_53 := f_52.below hb
        have g_53 := g_52.below hb
        have x_53 := x_52.below hb
        have HB53 := HB52.trans (hb.mono HB52.size)
        clear f_52 g_52 x_52 HB52 hb
        obtain ⟨oy, cy, rfl⟩ := hy.shape
        have ry := hy.rd
        clear hy
        clear hly
        obtain ⟨⟨qf0, qf1⟩, -⟩ := id f_53
        have lf := f_53.lt
        obtain ⟨⟨qx0, qx1⟩, -⟩ := id x_53
        have lx := x_53.lt
        have lx1 := x_53.lt
        have i1 : (1 : Int) < (xf.length : Int) := by omega
        have i2 : 1 < xf.length := by omega
        go_wp2_with (at_make; go_loud (refine mkI _ rfl _ _ rfl _ _ _ xf.length rfl rfl (by omega) (by omega) ?_; intro wm hO1 hb1 hz1; simp at hO1 hz1; have hbm := Below.trans (a := w53) (B := w53.heap.size) (b := w53.alloc (.cells #[.int .i64 mf, .slice oy V.length cy] 26)) (by (repeat (first | exact Below.refl _ _ | (refine Below.setCell ?_ (by first | (simp; done) | (simp; omega) | omega) _) | (refine Below.alloc ?_ (by first | (simp; done) | (simp; omega) | omega) _) | (refine below_drewN ?_ _) | (refine Below.drew ?_)))) (hb1.mono (by first | (simp; done) | (simp; omega) | omega)); have hc1 := hO1.cell (k := 1) (rep_get xf.length 1 0 (by omega)); have hf1 := hO1.fz 1; obtain ⟨⟨px0, px1⟩, -⟩ := x_53.below hbm; clear hz1))
        have hbm2 := below_put hbm (g := w53.heap.size + 1) (k := 1) (by omega) (.int .i64 1)
        have y_54 : SB (wm.setCell ⟨w53.heap.size + 1, 1, none⟩ (.int .i64 1)) w53.heap.size mf (.slice oy V.length cy) V := ⟨Box2.belowB (Box2.mk' w53 _ _ 26) (below_put hb1 (by simp) _) (by simp), ry.below hbm2 (Nat.le_refl _)⟩
        have hOr := hO1.put 1 1
        rw [show (List.replicate xf.length (0 : Int)).set 1 1 = V from HVV.out] at hOr
        have x_54 := x_53.below hbm2
        have HB54 := HB53.trans (hbm2.mono HB53.size)
        clear hbm hbm2 hb1 hc1 hf1 px0 px1 x_53 HB53 f_53 g_53 lf qf0 qf1 lx qx0 qx1 lx1 hO1 ry
        generalize wm.setCell ⟨w53.heap.size + 1, 1, none⟩ (.int .i64 1) = w54 at x_54 y_54 hOr HB54 ⊢
        have hC := likeInts_c _ _ V V _ x_54.2 hOr.rd
        rw [eqLB_self] at hC
        refine hC.mono ?_
        clear hC
        rintro e w' ⟨rfl, d, rfl⟩
        have hb : Below w54.heap.size w54 (w54.drewN d) := (by (repeat (first | exact Below.refl _ _ | (refine Below.setCell ?_ (by first | (simp; done) | (simp; omega) | omega) _) | (refine Below.alloc ?_ (by first | (simp; done) | (simp; omega) | omega) _) | (refine below_drewN ?_ _) | (refine Below.drew ?_))))
        have hOr := hOr.rd.below hb (Nat.le_refl _)
        have y_55 := y_54.below hb
        have HB55 := HB54.trans (hb.mono HB54.size)
        clear x_54 y_54 HB54 hb
        generalize w54.drewN d = w55 at hOr y_55 HB55 ⊢
        obtain ⟨⟨py0, py1⟩, -⟩ := id y_55
        go_wp2_with fail
        have hC := likeInts_c _ _ V V _ y_55.2 hOr
        rw [eqLB_self] at hC
        refine hC.mono ?_
        clear hC
        rintro e w' ⟨rfl, d, rfl⟩
        have HB56 : Below w0.heap.size w0 (w55.drewN d) := below_drewN HB55 d
        generalize w55.drewN d = w56 at HB56 ⊢
        clear hOr y_55 HB55 py0 py1
        go_wp2_with fail
        go_meet
        case rel => exact HB56
      case rest =>
        as_aux_lemma =>
        obtain ⟨w57, rfl⟩ : ∃ u, u = wc := ⟨_, rfl⟩
        clear f_50 g_50 HB50
        have HB57 := hcut
        clear hcut
        trace "part 3"
        go_wp2_with fail
        refine (DrawComposeSeries_d w0.heap.size n _ w57 (HV.out.keep (fun j hj => HB57.block j hj)) HB57.size).mono ?_
        rintro e w58 ⟨mh, vh, xh, mk, vk, xk, rfl, rh, rk, hlh, hlk, hb⟩
        have HB58 := HB57.trans (hb.mono HB57.size)
        clear HB57 hb
        obtain ⟨oh, ch, rfl, -, -⟩ := id rh
        obtain ⟨ok, ck, rfl, -, -⟩ := id rk
        clear hlh hlk
        go_wp2_with fail
        have h_59 := (SB.mk1 w58 (mh) (.slice oh xh.length ch) (xh) rh 26).below (w' := (w58.alloc (.cells #[.int .i64 mh, .slice oh xh.length ch] 26)).alloc (.cells #[.int .i64 mk, .slice ok xk.length ck] 26)) (by (repeat (first | exact Below.refl _ _ | (refine Below.setCell ?_ (by first | (simp; done) | (simp; omega) | omega) _) | (refine Below.alloc ?_ (by first | (simp; done) | (simp; omega) | omega) _) | (refine below_drewN ?_ _) | (refine Below.drew ?_))))
        have hbk0 : w58.heap.size = w58.heap.size := by simp
        rw [hbk0] at h_59
        clear hbk0
        have k_59 := (SB.mk1 (w58.alloc (.cells #[.int .i64 mh, .slice oh xh.length ch] 26)) (mk) (.slice ok xk.length ck) (xk) (rk.below (w' := (w58.alloc (.cells #[.int .i64 mh, .slice oh xh.length ch] 26))) (by (repeat (first | exact Below.refl _ _ | (refine Below.setCell ?_ (by first | (simp; done) | (simp; omega) | omega) _) | (refine Below.alloc ?_ (by first | (simp; done) | (simp; omega) | omega) _) | (refine below_drewN ?_ _) | (refine Below.drew ?_)))) (Nat.le_refl _)) 26).below (w' := (w58.alloc (.cells #[.int .i64 mh, .slice oh xh.length ch] 26)).alloc (.cells #[.int .i64 mk, .slice ok xk.length ck] 26)) (by (repeat (first | exact Below.refl _ _ | (refine Below.setCell ?_ (by first | (simp; done) | (simp; omega) | omega) _) | (refine Below.alloc ?_ (by first | (simp; done) | (simp; omega) | omega) _) | (refine below_drewN ?_ _) | (refine Below.drew ?_))))
        have hbk1 : (w58.alloc (.cells #[.int .i64 mh, .slice oh xh.length ch] 26)).heap.size = w58.heap.size + 1 := by simp
        rw [hbk1] at k_59
        clear hbk1
        have hb : Below w58.heap.size w58 ((w58.alloc (.cells #[.int .i64 mh, .slice oh xh.length ch] 26)).alloc (.cells #[.int .i64 mk, .slice ok xk.length ck] 26)) := (by (repeat (first | exact Below.refl _ _ | (refine Below.setCell ?_ (by first | (simp; done) | (simp; omega) | omega) _) | (refine Below.alloc ?_ (by first | (simp; done) | (simp; omega) | omega) _) | (refine below_drewN ?_ _) | (refine Below.drew ?_))))
        have HB59 := HB58.trans (hb.mono HB58.size)
        clear hb HB58 
        generalize (w58.alloc (.cells #[.int .i64 mh, .slice oh xh.length ch] 26)).alloc (.cells #[.int .i64 mk, .slice ok xk.length ck] 26) = w59 at h_59 k_59 HB59 ⊢
        clear rh rk
        obtain ⟨⟨MR5, XR5, CR5⟩, hR5⟩ : ∃ r, compR mh xh mk xk = r := ⟨_, rfl⟩
        have HR5 := Lib.hid hR5
        clear hR5
        have hC := ComposeSeries_c (mh) _ (xh) (mk) _ (xk) w59 h_59.2 k_59.2
        rw [HR5.out] at hC
        refine (send3 hC).mono ?_
        clear hC
        rintro e w60 ⟨vx, rfl, hx, hb, hlx⟩
        have h_60 := h_59.below hb
        have k_60 := k_59.below hb
        have HB60 := HB59.trans (hb.mono HB59.size)
        clear h_59 k_59 HB59 hb
        obtain ⟨ox, cx, rfl⟩ := hx.shape
        have rx := hx.rd
        clear hx
        clear hlx
        obtain ⟨⟨qh0, qh1⟩, -⟩ := id h_60
        have lh := h_60.lt
        obtain ⟨⟨qk0, qk1⟩, -⟩ := id k_60
        have lk := k_60.lt
        go_wp2_with fail
        clear lh qh0 qh1
        clear lk qk0 qk1
        have x_61 := (SB.mk1 w60 (MR5) (.slice ox XR5.length cx) (XR5) rx 26).below (w' := w60.alloc (.cells #[.int .i64 MR5, .slice ox XR5.length cx] 26)) (by (repeat (first | exact Below.refl _ _ | (refine Below.setCell ?_ (by first | (simp; done) | (simp; omega) | omega) _) | (refine Below.alloc ?_ (by first | (simp; done) | (simp; omega) | omega) _) | (refine below_drewN ?_ _) | (refine Below.drew ?_))))
        have hbk0 : w60.heap.size = w60.heap.size := by simp
        rw [hbk0] at x_61
        clear hbk0
        have hb : Below w60.heap.size w60 (w60.alloc (.cells #[.int .i64 MR5, .slice ox XR5.length cx] 26)) := (by (repeat (first | exact Below.refl _ _ | (refine Below.setCell ?_ (by first | (simp; done) | (simp; omega) | omega) _) | (refine Below.alloc ?_ (by first | (simp; done) | (simp; omega) | omega) _) | (refine below_drewN ?_ _) | (refine Below.drew ?_))))
        have h_61 := h_60.below hb
        have k_61 := k_60.below hb
        have HB61 := HB60.trans (hb.mono HB60.size)
        clear hb HB60 h_60 k_60
        generalize w60.alloc (.cells #[.int .i64 MR5, .slice ox XR5.length cx] 26) = w61 at h_61 k_61 x_61 HB61 ⊢
        clear rx
        have hC := sComposeSeries_c (mh) _ (xh) (mk) _ (xk) w61 h_61.2 k_61.2
        rw [HR5.out] at hC
        refine (send3 hC).mono ?_
        clear hC
        rintro e w62 ⟨vt, rfl, ht, hb, hlt⟩
        have h_62 := h_61.below hb
        have k_62 := k_61.below hb
        have x_62 := x_61.below hb
        have HB62 := HB61.trans (hb.mono HB61.size)
        clear h_61 k_61 x_61 HB61 hb
        obtain ⟨ot, ct, rfl⟩ := ht.shape
        have rt := ht.rd
        clear ht
        clear hlt
        have hqR5 : (CR5 != CR5) = false := by simp
        obtain ⟨⟨qx0, qx1⟩, -⟩ := id x_62
        have lx := x_62.lt
        go_wp2_with fail
        clear lx qx0 qx1
        have t_63 := (SB.mk1 w62 (MR5) (.slice ot XR5.length ct) (XR5) rt 26).below (w' := w62.alloc (.cells #[.int .i64 MR5, .slice ot XR5.length ct] 26)) (by (repeat (first | exact Below.refl _ _ | (refine Below.setCell ?_ (by first | (simp; done) | (simp; omega) | omega) _) | (refine Below.alloc ?_ (by first | (simp; done) | (simp; omega) | omega) _) | (refine below_drewN ?_ _) | (refine Below.drew ?_))))
        have hbk0 : w62.heap.size = w62.heap.size := by simp
        rw [hbk0] at t_63
        clear hbk0
        have hb : Below w62.heap.size w62 (w62.alloc (.cells #[.int .i64 MR5, .slice ot XR5.length ct] 26)) := (by (repeat (first | exact Below.refl _ _ | (refine Below.setCell ?_ (by first | (simp; done) | (simp; omega) | omega) _) | (refine Below.alloc ?_ (by first | (simp; done) | (simp; omega) | omega) _) | (refine below_drewN ?_ _) | (refine Below.drew ?_))))
        have h_63 := h_62.below hb
        have k_63 := k_62.below hb
        have x_63 := x_62.below hb
        have HB63 := HB62.trans (hb.mono HB62.size)
        clear hb HB62 h_62 k_62 x_62
        generalize w62.alloc (.cells #[.int .i64 MR5, .slice ot XR5.length ct] 26) = w63 at h_63 k_63 x_63 t_63 HB63 ⊢
        clear rt
        refine (series5_same (MR5) _ _ (XR5) _ x_63.2 t_63.2).mono ?_
        rintro e w64 ⟨rfl, hb⟩
        have h_64 := h_63.below hb
        have k_64 := k_63.below hb
        have x_64 := x_63.below hb
        have t_64 := t_63.below hb
        have HB64 := HB63.trans (hb.mono HB63.size)
        clear h_63 k_63 x_63 t_63 HB63 hb
        clear t_64
        by_cases hc : CR5 = 0
        rotate_left
        · have hc2 : (CR5 != 0) = true := by simpa using hc
          go_wp2
          go_ret
          exact ⟨rfl, HB64⟩
        subst hc
        obtain ⟨e, hh, hk, k0⟩ := comp_code (m := mh) (q := mk) (a := xh) (f := xk) (by rw [HR5.out])
        have e := e.symm
        subst e
        obtain ⟨X, K, Z, e0, e1, e2, e3⟩ := ser_comp hh hk k0
        obtain ⟨f1, f2⟩ : mh = MR5 ∧ X = XR5 := by
          have e4 := HR5.out
          rw [e0] at e4
          exact ⟨(SR.mk.inj e4).1, (SR.mk.inj e4).2.1⟩
        subst f1 f2
        have E1 := Lib.hid e1
        have E2 := Lib.hid e2
        have E3 := Lib.hid e3
        clear e0 e1 e2 e3 HR5 hh hk k0 hqR5
        obtain ⟨⟨qx0, qx1⟩, -⟩ := id x_64
        have lx := x_64.lt
        obtain ⟨⟨qk0, qk1⟩, -⟩ := id k_64
        have lk := k_64.lt
        go_wp2_with fail
        clear lx qx0 qx1
        clear lk qk0 qk1
        have hC := ComposeSeries_c (mh) _ (X) (mh) _ (xk) w64 x_64.2 k_64.2
        rw [E1.out] at hC
        refine (send3 hC).mono ?_
        clear hC
        rintro e w65 ⟨vz, rfl, hz, hb, hlz⟩
        have h_65 := h_64.below hb
        have k_65 := k_64.below hb
        have x_65 := x_64.below hb
        have HB65 := HB64.trans (hb.mono HB64.size)
        clear h_64 k_64 x_64 HB64 hb
        obtain ⟨oz, cz, rfl⟩ := hz.shape
        have rz := hz.rd
        clear hz
        clear hlz
        obtain ⟨⟨qk0, qk1⟩, -⟩ := id k_65
        have lk := k_65.lt
        go_wp2_with fail
        clear lk qk0 qk1
        have z_66 := (SB.mk1 w65 (mh) (.slice oz Z.length cz) (Z) rz 26).below (w' := w65.alloc (.cells #[.int .i64 mh, .slice oz Z.length cz] 26)) (by (repeat (first | exact Below.refl _ _ | (refine Below.setCell ?_ (by first | (simp; done) | (simp; omega) | omega) _) | (refine Below.alloc ?_ (by first | (simp; done) | (simp; omega) | omega) _) | (refine below_drewN ?_ _) | (refine Below.drew ?_))))
        have hbk0 : w65.heap.size = w65.heap.size := by simp
        rw [hbk0] at z_66
        clear hbk0
        have hb : Below w65.heap.size w65 (w65.alloc (.cells #[.int .i64 mh, .slice oz Z.length cz] 26)) := (by (repeat (first | exact Below.refl _ _ | (refine Below.setCell ?_ (by first | (simp; done) | (simp; omega) | omega) _) | (refine Below.alloc ?_ (by first | (simp; done) | (simp; omega) | omega) _) | (refine below_drewN ?_ _) | (refine Below.drew ?_))))
        have h_66 := h_65.below hb
        have k_66 := k_65.below hb
        have x_66 := x_65.below hb
        have HB66 := HB65.trans (hb.mono HB65.size)
        clear hb HB65 h_65 k_65 x_65
        generalize w65.alloc (.cells #[.int .i64 mh, .slice oz Z.length cz] 26) = w66 at h_66 k_66 x_66 z_66 HB66 ⊢
        clear rz
        have hC := ComposeSeries_c (mh) _ (xk) (mh) _ (xk) w66 k_66.2 k_66.2
        rw [E2.out] at hC
        refine (send3 hC).mono ?_
        clear hC
        rintro e w67 ⟨vkk, rfl, hkk, hb, hlkk⟩
        have h_67 := h_66.below hb
        have k_67 := k_66.below hb
        have x_67 := x_66.below hb
        have z_67 := z_66.below hb
        have HB67 := HB66.trans (hb.mono HB66.size)
        clear h_66 k_66 x_66 z_66 HB66 hb
        obtain ⟨okk, ckk, rfl⟩ := hkk.shape
        have rkk := hkk.rd
        clear hkk
        clear hlkk
        obtain ⟨⟨qh0, qh1⟩, -⟩ := id h_67
        have lh := h_67.lt
        go_wp2_with fail
        clear lh qh0 qh1
        have kk_68 := (SB.mk1 w67 (mh) (.slice okk K.length ckk) (K) rkk 26).below (w' := w67.alloc (.cells #[.int .i64 mh, .slice okk K.length ckk] 26)) (by (repeat (first | exact Below.refl _ _ | (refine Below.setCell ?_ (by first | (simp; done) | (simp; omega) | omega) _) | (refine Below.alloc ?_ (by first | (simp; done) | (simp; omega) | omega) _) | (refine below_drewN ?_ _) | (refine Below.drew ?_))))
        have hbk0 : w67.heap.size = w67.heap.size := by simp
        rw [hbk0] at kk_68
        clear hbk0
        have hb : Below w67.heap.size w67 (w67.alloc (.cells #[.int .i64 mh, .slice okk K.length ckk] 26)) := (by (repeat (first | exact Below.refl _ _ | (refine Below.setCell ?_ (by first | (simp; done) | (simp; omega) | omega) _) | (refine Below.alloc ?_ (by first | (simp; done) | (simp; omega) | omega) _) | (refine below_drewN ?_ _) | (refine Below.drew ?_))))
        have h_68 := h_67.below hb
        have k_68 := k_67.below hb
        have x_68 := x_67.below hb
        have z_68 := z_67.below hb
        have HB68 := HB67.trans (hb.mono HB67.size)
        clear hb HB67 h_67 k_67 x_67 z_67
        generalize w67.alloc (.cells #[.int .i64 mh, .slice okk K.length ckk] 26) = w68 at h_68 k_68 x_68 z_68 kk_68 HB68 ⊢
        clear rkk
        have hC := ComposeSeries_c (mh) _ (xh) (mh) _ (K) w68 h_68.2 kk_68.2
        rw [E3.out] at hC
        refine (send3 hC).mono ?_
        clear hC
        rintro e w69 ⟨vw, rfl, hw, hb, hlw⟩
        have h_69 := h_68.below hb
        have k_69 := k_68.below hb
        have x_69 := x_68.below hb
        have z_69 := z_68.below hb
        have kk_69 := kk_68.below hb
        have HB69 := HB68.trans (hb.mono HB68.size)
        clear h_68 k_68 x_68 z_68 kk_68 HB68 hb
        obtain ⟨ow, cw, rfl⟩ := hw.shape
        have rw := hw.rd
        clear hw
        clear hlw
        obtain ⟨⟨qz0, qz1⟩, -⟩ := id z_69
        have lz := z_69.lt
        go_wp2_with fail
        clear lz qz0 qz1
        have w_70 := (SB.mk1 w69 (mh) (.slice ow Z.length cw) (Z) rw 26).below (w' := w69.alloc (.cells #[.int .i64 mh, .slice ow Z.length cw] 26)) (by (repeat (first | exact Below.refl _ _ | (refine Below.setCell ?_ (by first | (simp; done) | (simp; omega) | omega) _) | (refine Below.alloc ?_ (by first | (simp; done) | (simp; omega) | omega) _) | (refine below_drewN ?_ _) | (refine Below.drew ?_))))
        have hbk0 : w69.heap.size = w69.heap.size := by simp
        rw [hbk0] at w_70
        clear hbk0
        have hb : Below w69.heap.size w69 (w69.alloc (.cells #[.int .i64 mh, .slice ow Z.length cw] 26)) := (by (repeat (first | exact Below.refl _ _ | (refine Below.setCell ?_ (by first | (simp; done) | (simp; omega) | omega) _) | (refine Below.alloc ?_ (by first | (simp; done) | (simp; omega) | omega) _) | (refine below_drewN ?_ _) | (refine Below.drew ?_))))
        have h_70 := h_69.below hb
        have k_70 := k_69.below hb
        have x_70 := x_69.below hb
        have z_70 := z_69.below hb
        have kk_70 := kk_69.below hb
        have HB70 := HB69.trans (hb.mono HB69.size)
        clear hb HB69 h_69 k_69 x_69 z_69 kk_69
        generalize w69.alloc (.cells #[.int .i64 mh, .slice ow Z.length cw] 26) = w70 at h_70 k_70 x_70 z_70 kk_70 w_70 HB70 ⊢
        clear rw
        refine (series5_same (mh) _ _ (Z) _ z_70.2 w_70.2).mono ?_
        rintro e w71 ⟨rfl, hb⟩
        have h_71 := h_70.below hb
        have k_71 := k_70.below hb
        have x_71 := x_70.below hb
        have z_71 := z_70.below hb
        have kk_71 := kk_70.below hb
        have w_71 := w_70.below hb
        have HB71 := HB70.trans (hb.mono HB70.size)
        clear h_70 k_70 x_70 z_70 kk_70 w_70 HB70 hb
        go_wp2
        go_ret
        exact ⟨rfl, HB71⟩

open Go.ChangeShapes Go.WideShapes Go.ChangeAt Go.Joins
set_option maxRecDepth 100000 in
theorem Series_lifted (os : Os) (started : os.Started) (H : Type) (enc : TypeId × Value → H) :
    ReturnsInHanded {} Try.checked os 3 .any (Rows.fnSeriesSpec.pre6 enc Try.prog Try.f3 Rows.fnSeriesRow.domain false) (Rows.fnSeriesSpec.post enc Try.prog Try.f3 false true false false) := by
  refine returnsInHanded_of_change (C := Try.checked) Try.own started (by kernel_rfl) Try.func3
    (ChangeSpec.witness6 (enc := enc) (C := Try.checked) false ⟨#[], #[.slice none 0 0], []⟩ 8 (by kernel_rfl) (by kernel_rfl) (by kernel_rfl) (by kernel_rfl)) ?_
  intro W base args ds gs before hval0 hW _ _
  have hval : ∀ (j : Nat) t v, Try.f3.params[j]? = some t → args[j]? = some v → Value.okWide Try.prog W .any base t v := hval0
  have hW' := hW
  obtain ⟨p, q, hA0, hV, rfl, _, _⟩ := hW
  have hA : DataW.TrodAll enc Try.prog W 0 (fun _ => true) true Try.f3.params.toList args.toList ds p := hA0
  rw [Try.params3] at hA hval
  have hAk := hA
  obtain ⟨rfl, rfl⟩ := trodVars_none hV
  obtain ⟨v0, d0, rfl, rfl, h0⟩ := trodAll_one hA
  obtain ⟨n, r0⟩ := rdB_of_trod (hval 0 22 v0 rfl rfl) h0
  clear hA0 hval0
  simp only [List.append_nil] at hW'
  refine (FnSeries_c n v0 W r0).mono fun e W' ⟨he, hb⟩ => ?_
  subst he
  refine ⟨_, rfl, _, _, _, [], p, [], hW', ?_, ?_, rfl, hb.frame _, fun h => by cases h⟩
  · exact trodAll_mk1 (shut_bool Try.underlying4 true)
  · exact trodAll_below Try.laidOut (by kernel_rfl) hAk hb (fun x hx => by simpa using hW'.lt x hx)

theorem Series_holds : Rows.FnSeriesSaid :=
  OpenClaim.holds_of_wide 3 Try.f3 rfl rfl rfl rfl rfl rfl rfl ⟨rfl, rfl, rfl, rfl, rfl⟩ rfl rfl rfl rfl rfl (by kernel_rfl) Try.func3 (by kernel_rfl)
    (of_decide_eq_true (by kernel_rfl)) (by unfold Func.isWrapper; rw [if_neg (of_decide_eq_false (by kernel_rfl))]; exact ⟨rfl, rfl⟩)
    (fun os started H enc _ => Series_lifted os started H enc)

#print axioms Series_holds
end Go.Proofs.Ytcjinlfgeljmkaa
