/- The fault of a law that is drawn is the same on both sides, and sums and differences of curves under a law are the same on both sides; sums are commutative and associative, and a difference undoes a sum. For every code. No condition. -/
import Derived.Test.YtfpphfjlpgefaaaGreatQLM10
import Derived.Test.YtfpphfjlpgefaaaGreatQLM18
import Derived.Test.YtfpphfjlpgefaaaGreatQLM25
import Derived.Test.YtfpphfjlpgefaaaGreatQLM22
import Derived.Deep.RegionHeld3
import Derived.Deep.DeepCutAuto
set_option maxHeartbeats 16000000
set_option maxRecDepth 100000
set_option linter.unusedSimpArgs false
set_option linter.unusedVariables false
namespace Go.Proofs.YtfpphfjlpgefaaaGreat
open Go.RowKit
theorem FnLaws_c (n : Nat) (v : Value) (w0 : World) (hv : RdB w0 w0.heap.size n v) :
  Calls Tryz.prog 3 #[v] w0 fun e w' => e = .returned (.bool true) ∧ Below w0.heap.size w0 w' := by
 obtain ⟨ov, cv, rfl, hmv, hcv⟩ := id hv
 clear hmv hcv
 have HB0 := Below.refl w0.heap.size w0
 have HV := Lib.hid hv
 clear hv
 go_enter Tryz.func3, Tryz.ntmps3
 go_wp2_with fail
 refine (big_c w0.heap.size n _ w0 HV.out).mono ?_
 rintro e w' ⟨rfl, rfl⟩
 by_cases hbig : 4096 < n
 ·have hbb : decide (4096 < n) = true := by simpa using hbig
  go_wp2
  go_ret
  exact ⟨rfl, HB0⟩
 have hbb : decide (4096 < n) = false := by simpa using hbig
 clear hbig
 go_wp2_with fail
 clear hbb
 refine (DrawLawFault_d w0.heap.size n _ w0 (HV.out.keep (fun j hj => HB0.block j hj)) HB0.size).mono ?_
 rintro e w1 ⟨mf, vf, xf, rfl, rf, hb⟩
 have HB1 := HB0.trans (hb.mono HB0.size)
 clear HB0 hb
 obtain ⟨of, cf, rfl, -, -⟩ := id rf
 go_wp2_with fail
 have f_2 := (PB.mk1 w1 (mf) (.slice of xf.length cf) (xf) rf 26).below (w' := w1.alloc (.cells #[.int .i64 mf, .slice of xf.length cf] 26)) bZ
 have hbk0 : w1.heap.size = w1.heap.size := by simp
 rw [hbk0] at f_2
 clear hbk0
 have hb : Below w1.heap.size w1 (w1.alloc (.cells #[.int .i64 mf, .slice of xf.length cf] 26)) := bZ
 have HB2 := HB1.trans (hb.mono HB1.size)
 clear hb HB1 
 generalize w1.alloc (.cells #[.int .i64 mf, .slice of xf.length cf] 26) = w2 at f_2 HB2 ⊢
 clear rf
 obtain ⟨⟨LX, LC⟩, hL⟩ : ∃ r, lawFaultR mf xf = r := ⟨_, rfl⟩
 have HL := Lib.hid hL
 clear hL
 have hC := LawFault_c mf _ xf w2 f_2.2
 rw [HL.out] at hC
 refine (lendL hC).mono ?_
 clear hC
 rintro e w3 ⟨vp, rfl, hp, hb, hlp⟩
 have f_3 := f_2.below hb
 have HB3 := HB2.trans (hb.mono HB2.size)
 clear f_2 HB2 hb
 obtain ⟨op, cp, rfl⟩ := hp.shape
 have rp := hp.rd
 clear hp
 clear hlp
 have p_3 := rp
 clear rp
 obtain ⟨⟨qf0, qf1⟩, -⟩ := id f_3
 have lf := f_3.lt
 go_wp2_with fail
 clear lf qf0 qf1
 have hC := sLawFault_c mf _ xf w3 f_3.2
 rw [HL.out] at hC
 refine (lendL hC).mono ?_
 clear hC
 rintro e w4 ⟨vq, rfl, hq, hb, hlq⟩
 have f_4 := f_3.below hb
 have p_4 := p_3.below hb (nl _)
 have HB4 := HB3.trans (hb.mono HB3.size)
 clear f_3 p_3 HB3 hb
 obtain ⟨oq, cq, rfl⟩ := hq.shape
 have rq := hq.rd
 clear hq
 clear hlq
 have q_4 := rq
 clear rq
 have h4 := laF_code HL.out
 obtain ⟨B, hB⟩ : ∃ b, lawB mf xf = b := ⟨_, rfl⟩
 rw [hB] at h4
 have HB' := Lib.hid hB
 clear hB
 have hq0 : (LC != LC) = false := by simp
 have hq1 : (B != B) = false := by simp
 obtain ⟨⟨qf0, qf1⟩, -⟩ := id f_4
 have lf := f_4.lt
 go_wp2_with fail
 have hb : Below w4.heap.size w4 w4.drew := (Below.refl _ _).drew
 have f_5 := f_4.below hb
 have p_5 := p_4.below hb (nl _)
 have q_5 := q_4.below hb (nl _)
 have HB5 := HB4.trans (hb.mono HB4.size)
 clear f_4 p_4 q_4 HB4 hb
 go_region_held3 (fun w' => w'.cell? ⟨w1.heap.size, 0, none⟩ = some (.int .i64 (mf)) ∧ w'.cell? ⟨w1.heap.size, 1, none⟩ = some (.slice of xf.length cf)) (go_keep)
  (first
   | (go_at_call 9; refine (likeInts_same _ _ LX _ p_5 q_5).mono ?_; rintro e w6 ⟨rfl, hb⟩; have f_6 := f_5.below hb; have p_6 := p_5.below hb (nl _); have q_6 := q_5.below hb (nl _); have HB6 := HB5.trans (hb.mono HB5.size); clear f_5 p_5 q_5 HB5 hb; obtain ⟨⟨qf0, qf1⟩, -⟩ := id f_6)
   | (go_at_call 10; refine ((show Calls _ _ _ w6 (fun e w' => e = .returned (.bool B) ∧ Below w6.heap.size w6 w') from HB'.out ▸ IsLaw_c mf _ xf w6 f_6.2)).mono ?_; rintro e w7 ⟨rfl, hb⟩; have f_7 := f_6.below hb; have p_7 := p_6.below hb (nl _); have q_7 := q_6.below hb (nl _); have HB7 := HB6.trans (hb.mono HB6.size); clear f_6 p_6 q_6 HB6 hb; obtain ⟨⟨qf0, qf1⟩, -⟩ := id f_7)
   | (go_at_call 11; refine ((show Calls _ _ _ w7 (fun e w' => e = .returned (.bool B) ∧ Below w7.heap.size w7 w') from HB'.out ▸ sIsLaw_c mf _ xf w7 f_7.2)).mono ?_; rintro e w8 ⟨rfl, hb⟩; have f_8 := f_7.below hb; have p_8 := p_7.below hb (nl _); have q_8 := q_7.below hb (nl _); have HB8 := HB7.trans (hb.mono HB7.size); clear f_7 p_7 q_7 HB7 hb; obtain ⟨⟨qf0, qf1⟩, -⟩ := id f_8)
   | (go_at_call 10; refine ((show Calls _ _ _ w8 (fun e w' => e = .returned (.bool B) ∧ Below w8.heap.size w8 w') from HB'.out ▸ IsLaw_c mf _ xf w8 f_8.2)).mono ?_; rintro e w9 ⟨rfl, hb⟩; have f_9 := f_8.below hb; have p_9 := p_8.below hb (nl _); have q_9 := q_8.below hb (nl _); have HB9 := HB8.trans (hb.mono HB8.size); clear f_8 p_8 q_8 HB8 hb; obtain ⟨⟨qf0, qf1⟩, -⟩ := id f_9))
 clear lf qf0 qf1
 clear f_9
 clear p_9
 clear q_9
 clear h4 HB' hq0 hq1
 go_wp2_with fail
 refine (DrawSumUnder_d w0.heap.size n _ w9 (HV.out.keep (fun j hj => HB9.block j hj)) HB9.size).mono ?_
 rintro e w10 ⟨mh, vh, xh, ma, va, xa, mb, vb, xb, rfl, rh, ra, rb, hb⟩
 have HB10 := HB9.trans (hb.mono HB9.size)
 clear HB9 hb
 obtain ⟨oh, ch, rfl, -, -⟩ := id rh
 obtain ⟨oa, ca, rfl, -, -⟩ := id ra
 obtain ⟨ob, cb, rfl, -, -⟩ := id rb
 go_wp2_with fail
 have h_11 := (PB.mk1 w10 (mh) (.slice oh xh.length ch) (xh) rh 26).below (w' := ((w10.alloc (.cells #[.int .i64 mh, .slice oh xh.length ch] 26)).alloc (.cells #[.int .i64 ma, .slice oa xa.length ca] 34)).alloc (.cells #[.int .i64 mb, .slice ob xb.length cb] 34)) bZ
 have hbk0 : w10.heap.size = w10.heap.size := by simp
 rw [hbk0] at h_11
 clear hbk0
 have a_11 := (SB.mk1 (w10.alloc (.cells #[.int .i64 mh, .slice oh xh.length ch] 26)) (ma) (.slice oa xa.length ca) (xa) (ra.below (w' := (w10.alloc (.cells #[.int .i64 mh, .slice oh xh.length ch] 26))) bZ (nl _)) 34).below (w' := ((w10.alloc (.cells #[.int .i64 mh, .slice oh xh.length ch] 26)).alloc (.cells #[.int .i64 ma, .slice oa xa.length ca] 34)).alloc (.cells #[.int .i64 mb, .slice ob xb.length cb] 34)) bZ
 have hbk1 : (w10.alloc (.cells #[.int .i64 mh, .slice oh xh.length ch] 26)).heap.size = w10.heap.size + 1 := by simp
 rw [hbk1] at a_11
 clear hbk1
 have b_11 := (SB.mk1 ((w10.alloc (.cells #[.int .i64 mh, .slice oh xh.length ch] 26)).alloc (.cells #[.int .i64 ma, .slice oa xa.length ca] 34)) (mb) (.slice ob xb.length cb) (xb) (rb.below (w' := ((w10.alloc (.cells #[.int .i64 mh, .slice oh xh.length ch] 26)).alloc (.cells #[.int .i64 ma, .slice oa xa.length ca] 34))) bZ (nl _)) 34).below (w' := ((w10.alloc (.cells #[.int .i64 mh, .slice oh xh.length ch] 26)).alloc (.cells #[.int .i64 ma, .slice oa xa.length ca] 34)).alloc (.cells #[.int .i64 mb, .slice ob xb.length cb] 34)) bZ
 have hbk2 : ((w10.alloc (.cells #[.int .i64 mh, .slice oh xh.length ch] 26)).alloc (.cells #[.int .i64 ma, .slice oa xa.length ca] 34)).heap.size = w10.heap.size + 2 := by simp
 rw [hbk2] at b_11
 clear hbk2
 have hb : Below w10.heap.size w10 (((w10.alloc (.cells #[.int .i64 mh, .slice oh xh.length ch] 26)).alloc (.cells #[.int .i64 ma, .slice oa xa.length ca] 34)).alloc (.cells #[.int .i64 mb, .slice ob xb.length cb] 34)) := bZ
 have HB11 := HB10.trans (hb.mono HB10.size)
 clear hb HB10 
 generalize ((w10.alloc (.cells #[.int .i64 mh, .slice oh xh.length ch] 26)).alloc (.cells #[.int .i64 ma, .slice oa xa.length ca] 34)).alloc (.cells #[.int .i64 mb, .slice ob xb.length cb] 34) = w11 at h_11 a_11 b_11 HB11 ⊢
 clear rh ra rb
 obtain ⟨⟨MR1, XR1, CR1⟩, hR1⟩ : ∃ r, sumUR mh xh ma xa mb xb = r := ⟨_, rfl⟩
 have HR1 := Lib.hid hR1
 clear hR1
 have hC := SumUnder_c (mh) _ (xh) (ma) _ (xa) (mb) _ (xb) w11 h_11.2 a_11.2 b_11.2
 rw [HR1.out] at hC
 refine (sendL hC).mono ?_
 clear hC
 rintro e w12 ⟨vc, rfl, hc, hb, hlc⟩
 have h_12 := h_11.below hb
 have a_12 := a_11.below hb
 have b_12 := b_11.below hb
 have HB12 := HB11.trans (hb.mono HB11.size)
 clear h_11 a_11 b_11 HB11 hb
 obtain ⟨oc, cc, rfl⟩ := hc.shape
 have rc := hc.rd
 clear hc
 clear hlc
 obtain ⟨⟨qh0, qh1⟩, -⟩ := id h_12
 have lh := h_12.lt
 obtain ⟨⟨qa0, qa1⟩, -⟩ := id a_12
 have la := a_12.lt
 obtain ⟨⟨qb0, qb1⟩, -⟩ := id b_12
 have lb := b_12.lt
 go_wp2_with fail
 clear lh qh0 qh1
 clear la qa0 qa1
 clear lb qb0 qb1
 have c_13 := (SB.mk1 w12 (MR1) (.slice oc XR1.length cc) (XR1) rc 34).below (w' := w12.alloc (.cells #[.int .i64 MR1, .slice oc XR1.length cc] 34)) bZ
 have hbk0 : w12.heap.size = w12.heap.size := by simp
 rw [hbk0] at c_13
 clear hbk0
 have hb : Below w12.heap.size w12 (w12.alloc (.cells #[.int .i64 MR1, .slice oc XR1.length cc] 34)) := bZ
 have h_13 := h_12.below hb
 have a_13 := a_12.below hb
 have b_13 := b_12.below hb
 have HB13 := HB12.trans (hb.mono HB12.size)
 clear hb HB12 h_12 a_12 b_12
 generalize w12.alloc (.cells #[.int .i64 MR1, .slice oc XR1.length cc] 34) = w13 at h_13 a_13 b_13 c_13 HB13 ⊢
 clear rc
 have hC := sSumUnder_c (mh) _ (xh) (ma) _ (xa) (mb) _ (xb) w13 h_13.2 a_13.2 b_13.2
 rw [HR1.out] at hC
 refine (sendL hC).mono ?_
 clear hC
 rintro e w14 ⟨vd, rfl, hd, hb, hld⟩
 have h_14 := h_13.below hb
 have a_14 := a_13.below hb
 have b_14 := b_13.below hb
 have c_14 := c_13.below hb
 have HB14 := HB13.trans (hb.mono HB13.size)
 clear h_13 a_13 b_13 c_13 HB13 hb
 obtain ⟨od, cd, rfl⟩ := hd.shape
 have rd := hd.rd
 clear hd
 clear hld
 have hqR1 : (CR1 != CR1) = false := by simp
 obtain ⟨⟨qc0, qc1⟩, -⟩ := id c_14
 have lc := c_14.lt
 go_wp2_with fail
 clear lc qc0 qc1
 have d_15 := (SB.mk1 w14 (MR1) (.slice od XR1.length cd) (XR1) rd 34).below (w' := w14.alloc (.cells #[.int .i64 MR1, .slice od XR1.length cd] 34)) bZ
 have hbk0 : w14.heap.size = w14.heap.size := by simp
 rw [hbk0] at d_15
 clear hbk0
 have hb : Below w14.heap.size w14 (w14.alloc (.cells #[.int .i64 MR1, .slice od XR1.length cd] 34)) := bZ
 have h_15 := h_14.below hb
 have a_15 := a_14.below hb
 have b_15 := b_14.below hb
 have c_15 := c_14.below hb
 have HB15 := HB14.trans (hb.mono HB14.size)
 clear hb HB14 h_14 a_14 b_14 c_14
 generalize w14.alloc (.cells #[.int .i64 MR1, .slice od XR1.length cd] 34) = w15 at h_15 a_15 b_15 c_15 d_15 HB15 ⊢
 clear rd
 refine (series9_same (MR1) _ _ (XR1) _ c_15.2 d_15.2).mono ?_
 rintro e w16 ⟨rfl, hb⟩
 have h_16 := h_15.below hb
 have a_16 := a_15.below hb
 have b_16 := b_15.below hb
 have c_16 := c_15.below hb
 have d_16 := d_15.below hb
 have HB16 := HB15.trans (hb.mono HB15.size)
 clear h_15 a_15 b_15 c_15 d_15 HB15 hb
 clear d_16
 obtain ⟨⟨qh0, qh1⟩, -⟩ := id h_16
 have lh := h_16.lt
 obtain ⟨⟨qa0, qa1⟩, -⟩ := id a_16
 have la := a_16.lt
 obtain ⟨⟨qb0, qb1⟩, -⟩ := id b_16
 have lb := b_16.lt
 go_wp2_with fail
 clear lh qh0 qh1
 clear la qa0 qa1
 clear lb qb0 qb1
 obtain ⟨⟨MR2, XR2, CR2⟩, hR2⟩ : ∃ r, diffUR mh xh ma xa mb xb = r := ⟨_, rfl⟩
 have HR2 := Lib.hid hR2
 clear hR2
 have hC := DifferenceUnder_c (mh) _ (xh) (ma) _ (xa) (mb) _ (xb) w16 h_16.2 a_16.2 b_16.2
 rw [HR2.out] at hC
 refine (sendL hC).mono ?_
 clear hC
 rintro e w17 ⟨vx, rfl, hx, hb, hlx⟩
 have h_17 := h_16.below hb
 have a_17 := a_16.below hb
 have b_17 := b_16.below hb
 have c_17 := c_16.below hb
 have HB17 := HB16.trans (hb.mono HB16.size)
 clear h_16 a_16 b_16 c_16 HB16 hb
 obtain ⟨ox, cx, rfl⟩ := hx.shape
 have rx := hx.rd
 clear hx
 clear hlx
 obtain ⟨⟨qh0, qh1⟩, -⟩ := id h_17
 have lh := h_17.lt
 obtain ⟨⟨qa0, qa1⟩, -⟩ := id a_17
 have la := a_17.lt
 obtain ⟨⟨qb0, qb1⟩, -⟩ := id b_17
 have lb := b_17.lt
 go_wp2_with fail
 clear lh qh0 qh1
 clear la qa0 qa1
 clear lb qb0 qb1
 have x_18 := (SB.mk1 w17 (MR2) (.slice ox XR2.length cx) (XR2) rx 34).below (w' := w17.alloc (.cells #[.int .i64 MR2, .slice ox XR2.length cx] 34)) bZ
 have hbk0 : w17.heap.size = w17.heap.size := by simp
 rw [hbk0] at x_18
 clear hbk0
 have hb : Below w17.heap.size w17 (w17.alloc (.cells #[.int .i64 MR2, .slice ox XR2.length cx] 34)) := bZ
 have h_18 := h_17.below hb
 have a_18 := a_17.below hb
 have b_18 := b_17.below hb
 have c_18 := c_17.below hb
 have HB18 := HB17.trans (hb.mono HB17.size)
 clear hb HB17 h_17 a_17 b_17 c_17
 generalize w17.alloc (.cells #[.int .i64 MR2, .slice ox XR2.length cx] 34) = w18 at h_18 a_18 b_18 c_18 x_18 HB18 ⊢
 clear rx
 have hC := sDifferenceUnder_c (mh) _ (xh) (ma) _ (xa) (mb) _ (xb) w18 h_18.2 a_18.2 b_18.2
 rw [HR2.out] at hC
 refine (sendL hC).mono ?_
 clear hC
 rintro e w19 ⟨vy, rfl, hy, hb, hly⟩
 have h_19 := h_18.below hb
 have a_19 := a_18.below hb
 have b_19 := b_18.below hb
 have c_19 := c_18.below hb
 have x_19 := x_18.below hb
 have HB19 := HB18.trans (hb.mono HB18.size)
 clear h_18 a_18 b_18 c_18 x_18 HB18 hb
 obtain ⟨oy, cy, rfl⟩ := hy.shape
 have ry := hy.rd
 clear hy
 clear hly
 have hqR2 : (CR2 != CR2) = false := by simp
 obtain ⟨⟨qx0, qx1⟩, -⟩ := id x_19
 have lx := x_19.lt
 go_wp2_with fail
 clear lx qx0 qx1
 have y_20 := (SB.mk1 w19 (MR2) (.slice oy XR2.length cy) (XR2) ry 34).below (w' := w19.alloc (.cells #[.int .i64 MR2, .slice oy XR2.length cy] 34)) bZ
 have hbk0 : w19.heap.size = w19.heap.size := by simp
 rw [hbk0] at y_20
 clear hbk0
 have hb : Below w19.heap.size w19 (w19.alloc (.cells #[.int .i64 MR2, .slice oy XR2.length cy] 34)) := bZ
 have h_20 := h_19.below hb
 have a_20 := a_19.below hb
 have b_20 := b_19.below hb
 have c_20 := c_19.below hb
 have x_20 := x_19.below hb
 have HB20 := HB19.trans (hb.mono HB19.size)
 clear hb HB19 h_19 a_19 b_19 c_19 x_19
 generalize w19.alloc (.cells #[.int .i64 MR2, .slice oy XR2.length cy] 34) = w20 at h_20 a_20 b_20 c_20 x_20 y_20 HB20 ⊢
 clear ry
 refine (series9_same (MR2) _ _ (XR2) _ x_20.2 y_20.2).mono ?_
 rintro e w21 ⟨rfl, hb⟩
 have h_21 := h_20.below hb
 have a_21 := a_20.below hb
 have b_21 := b_20.below hb
 have c_21 := c_20.below hb
 have x_21 := x_20.below hb
 have y_21 := y_20.below hb
 have HB21 := HB20.trans (hb.mono HB20.size)
 clear h_20 a_20 b_20 c_20 x_20 y_20 HB20 hb
 clear y_21
 obtain ⟨⟨qc0, qc1⟩, -⟩ := id c_21
 have lc := c_21.lt
 by_cases hc : CR1 = 0
 rotate_left
 ·have hc2 : (CR1 != 0) = true := by simpa using hc
  have hx0 : XR1.length = 0 := by
   have h := HR1.out
   unfold sumUR at h
   split at h
   ·exact absurd (SR.mk.inj h).2.2.symm hc
   ·rw [← (SR.mk.inj h).2.1]; rfl
  have hx1 : (((XR1.length : Nat) : Int) == 0) = true := by simp [hx0]
  go_wp2_with fail
  go_ret
  exact ⟨by simp [hx0], HB21⟩
 clear lc qc0 qc1
 subst hc
 obtain ⟨hO, rfl, rfl, hIa, hIb⟩ := sumU_0 (m := mh) (m1 := ma) (m2 := mb) (t := xh) (xs := xa) (ys := xb) (by rw [HR1.out])
 have O := lawO hO
 obtain ⟨hm2, hm9⟩ := O.hm
 obtain ⟨hn2, hn9⟩ := O.hn
 have h1 := HR1.out
 rw [sumU_ok hO hIa hIb] at h1
 obtain ⟨f1, f2⟩ : mb = MR1 ∧ putL mb xh.length xh xa xb = XR1 := ⟨(SR.mk.inj h1).1, (SR.mk.inj h1).2.1⟩
 subst f1
 have hIc := put_isC hO hIa hIb
 rw [f2] at hIc
 have h2 := HR2.out
 unfold diffUR at h2
 rw [if_pos (curC_ok hO (fun p hp => by
  rcases List.mem_cons.1 hp with rfl | hp
  ·exact ⟨rfl, hIa⟩
  ·rw [List.mem_singleton.1 hp]; exact ⟨rfl, hIb⟩))] at h2
 obtain ⟨f3, f4, f5⟩ : mb = MR2 ∧ putL mb xh.length xh xa (horn mb xh.length xb (invL mb xh.length xh)) = XR2 ∧ 0 = CR2 := ⟨(SR.mk.inj h2).1, (SR.mk.inj h2).2.1, (SR.mk.inj h2).2.2⟩
 subst f3 f5
 have hIx := put_isC hO hIa (opp_isC hO hIb)
 rw [f4] at hIx
 have E1 := Lib.hid (show sumUR mb xh mb xb mb xa = ⟨mb, XR1, 0⟩ by rw [sumU_ok hO hIb hIa, sum_comm hO hIa hIb, f2])
 have E5 := Lib.hid (show sumUR mb xh mb XR2 mb xb = ⟨mb, xa, 0⟩ by rw [sumU_ok hO hIx hIb, ← f4, diff_back hO hIa hIb])
 have HO := Lib.hid hO
 have HIa := Lib.hid hIa
 have HIb := Lib.hid hIb
 have HIc := Lib.hid hIc
 have HIx := Lib.hid hIx
 have HF2 := Lib.hid f2
 clear h1 h2 hO hIa hIb hIc hIx f2 f4 O HR1 HR2 hqR1 hqR2
 obtain ⟨⟨qh0, qh1⟩, -⟩ := id h_21
 have lh := h_21.lt
 go_upto_region 19 with fail
 clear lh qh0 qh1
 go_cut [19] from 125 to 128 (fun s u => ∃ (wz : World) (bz : Nat) (o : Option Addr) (c : Nat) (ys : List Int), wz = u ∧ s = .pointer (some ⟨bz, 0, none⟩) ∧ (ys.length = xh.length ∧ ys[0]? = some 0 ∧ ∀ y ∈ ys, 0 ≤ y ∧ y < mb) ∧ SB u bz mb (.slice o ys.length c) ys ∧ Below w21.heap.size w21 u)
 case first =>
  as_aux_lemma =>
  have hlk := h_21.lt
  obtain ⟨⟨fh0, fh1⟩, -⟩ := id h_21
  have hd0 : Below w21.heap.size w21 w21.drew := (Below.refl _ _).drew
  refine wp_region_K (S := fun w' => w'.cell? ⟨w10.heap.size, 0, none⟩ = some (.int .i64 mb) ∧ w'.cell? ⟨w10.heap.size, 1, none⟩ = some (.slice oh xh.length ch)) [5] (by as_aux_lemma => kernel_rfl) ?_
  have hHeld : (fun w' : World => w'.cell? ⟨w10.heap.size, 0, none⟩ = some (.int .i64 mb) ∧ w'.cell? ⟨w10.heap.size, 1, none⟩ = some (.slice oh xh.length ch)) w21.drew := by go_keep
  refine' wpAnyK_takeL (i := 0) (v := _) rfl (by as_aux_lemma => kernel_rfl) (by as_aux_lemma => kernel_rfl) (by as_aux_lemma => kernel_rfl) (by as_aux_lemma => kernel_rfl) (fun _ _ _ h => h) (Or.inl ⟨by rfl, ?yT1⟩) hHeld ?rT1
  case yT1 => (intro w' hSw; (try dsimp only at hSw); go_simp; try with_reducible rfl)
  try simp only [Act.put, sL]
  refine' wpAnyK_takeL (i := 2) (v := _) rfl (by as_aux_lemma => kernel_rfl) (by as_aux_lemma => kernel_rfl) (by as_aux_lemma => kernel_rfl) (by as_aux_lemma => kernel_rfl) (fun _ _ _ h => h) (Or.inl ⟨by rfl, ?yT2⟩) hHeld ?rT2
  case yT2 => (intro w' hSw; (try dsimp only at hSw); go_simp; try with_reducible rfl)
  try simp only [Act.put, sL]
  refine wpAnyK_two (i := 1) (j := 4) rfl rfl (by as_aux_lemma => kernel_rfl) (fun K hK => ?_) (fun K hK => ?_)
  ·as_aux_lemma =>
   go_simp
   go_at_call 19
   have hbp : Below w21.heap.size w21 (w21.drew) := bZ
   have hzp := hbp.size
   refine (roll_c w0.heap.size n _ 7001 (w21.drew) (HV.out.keep (fun j hj => (HB21.trans (hbp.mono HB21.size)).block j hj)) (by have := HB21.size; omega)).mono ?_
   rintro e wr ⟨d, rfl, hs, hbr⟩
   have hdr : Below w21.heap.size w21 wr := (by (repeat (first | exact bR _ _ | (refine bS ?_ _) | (refine bA ?_ _) | (refine bN ?_ _) | (refine bD ?_) | (refine bT ?_ hbr))))
   have hd0 := hs.1
   have hz6 := hbr.size
   have hd1 := hs.lt
   obtain ⟨Bs, hs⟩ : ∃ B, Src wr B n d := ⟨_, hs⟩
   have hdB := hs.1
   have hsr := hdr.size
   obtain ⟨⟨fr0, fr1⟩, -⟩ := h_21.below hdr
   clear hbp
   go_wp2_with fail
   clear hHeld
   have hHeld : (fun w' : World => w'.cell? ⟨w10.heap.size, 0, none⟩ = some (.int .i64 mb) ∧ w'.cell? ⟨w10.heap.size, 1, none⟩ = some (.slice oh xh.length ch)) wr := by go_keep
   refine hK.out _ _ (fun _ => hHeld) ?_
   clear hK K
   try simp only [Act.put, sL]
   refine wpAnyK_two (i := 3) (j := 4) rfl rfl (by as_aux_lemma => kernel_rfl) (fun K hK => ?_) (fun K hK => ?_)
   ·as_aux_lemma =>
    go_simp
    go_at_call 18
    have hs8 : Src (wr) Bs n d := by (first | with_reducible exact hs | exact hs.below hba (by omega))
    refine (any9_d Bs n d mb oh xh.length ch _ hs8 hm2 hn2 (by omega)).mono ?_
    rintro e wd ⟨ug, ys, rfl, hG, hys, hdd⟩
    obtain ⟨gg, cg, rfl⟩ := row_of hG hys.1 (by omega)
    have HYS := Lib.hid hys
    clear hys
    have hbd : Below w21.heap.size (wr) wd := Chg.below (Below.refl _ _) hdd.chg (by omega) (by have := hdd.lt; omega)
    have hddw : Below w21.heap.size w21 wd := (by (repeat (first | exact bR _ _ | (refine bS ?_ _) | (refine bA ?_ _) | (refine bN ?_ _) | (refine bD ?_) | (refine bT ?_ hbr) | (refine bT ?_ hbd))))
    have hsd := hddw.size
    have hsd8 := hbd.size
    obtain ⟨⟨fd0, fd1⟩, -⟩ := h_21.below hddw
    go_wp2_with fail
    clear hHeld
    have hHeld : (fun w' : World => w'.cell? ⟨w10.heap.size, 0, none⟩ = some (.int .i64 mb) ∧ w'.cell? ⟨w10.heap.size, 1, none⟩ = some (.slice oh xh.length ch)) wd := by go_keep
    refine hK.out _ _ (fun _ => hHeld) ?_
    clear hK K
    try simp only [Act.put, sL]
    refine wpAnyK_oneL (i := 4) rfl (by as_aux_lemma => kernel_rfl) (fun K hK => ?_)
    go_simp
    obtain ⟨wa, hwa⟩ : ∃ x : World, x = (wd).alloc (.cells #[.int .i64 0, .slice none 0 0] 34) := ⟨_, rfl⟩
    have hba : Below (wd).heap.size (wd) wa := by rw [hwa]; exact bZ
    have A4 : RB2 wa wd.heap.size (.int .i64 0) (.slice none 0 0) := by rw [hwa]; exact RB2.mk1 (wd) _ _ _
    have ha4 : wd.heap.size < wa.heap.size := A4.1.lt
    have hda : Below w21.heap.size w21 wa := (by (repeat (first | exact bR _ _ | (refine bS ?_ _) | (refine bA ?_ _) | (refine bN ?_ _) | (refine bD ?_) | (refine bT ?_ hbr) | (refine bT ?_ hbd) | (refine bT ?_ hba))))
    have hsa := hda.size
    obtain ⟨⟨fa0, fa1⟩, -⟩ := h_21.below hda
    rw [← hwa]
    clear hwa
    clear hHeld
    have hHeld : (fun w' : World => w'.cell? ⟨w10.heap.size, 0, none⟩ = some (.int .i64 mb) ∧ w'.cell? ⟨w10.heap.size, 1, none⟩ = some (.slice oh xh.length ch)) wa := by go_keep
    refine hK.out _ _ (fun _ => hHeld) ?_
    clear hK K
    try simp only [Act.put, sL]
    refine wpAnyK_oneL (i := 5) rfl (by as_aux_lemma => kernel_rfl) (fun K hK => ?_)
    have RZ : RB2 (wa) wd.heap.size (.int .i64 0) (.slice none 0 0) := by first | exact A4 | exact A4.chg hdd.chg (.inr (by omega)) | exact (A4.below hbr (nl _)).chg hdd.chg (.inl (by omega))
    have OT : OwI (wa) wr.heap.size (.slice (some ⟨gg, 0, none⟩) xh.length cg) ys := by (first | with_reducible exact hG | exact hG.below hba)
    have hOl := hG.lt gg rfl
    have hlz := RZ.1.lt
    obtain ⟨⟨z0, z1⟩, zf⟩ := id RZ
    go_simp
    (try go_wp2_with fail)
    refine hK.out _ _ (fun h => absurd h (by decide)) ?_
    clear hK K
    try simp only [Act.put, sL]
    refine wpAnyK_done (by as_aux_lemma => kernel_rfl) ?_ _
    go_wp2_with fail
    go_meet
    refine ⟨_, _, some ⟨gg, 0, none⟩, cg, ys, rfl, rfl, HYS.out, ?_, ?_⟩
    ·rw [HYS.out.1]; exact ⟨(RB2.put RZ _ _).1, ((OT.ne (fun j hj => by have e : gg = j := (by simpa [Value.ownBlock] using hj); omega) _).ne (fun j hj => by have e : gg = j := (by simpa [Value.ownBlock] using hj); omega) _).rd⟩
    ·(refine below_put (below_put ?_ (by omega) _) (by omega) _; exact (by (repeat (first | exact bR _ _ | (refine bS ?_ _) | (refine bA ?_ _) | (refine bN ?_ _) | (refine bD ?_) | (refine bT ?_ hbr) | (refine bT ?_ hbd) | (refine bT ?_ hba)))))
   ·as_aux_lemma =>
    go_simp
    obtain ⟨wa, hwa⟩ : ∃ x : World, x = (wr).alloc (.cells #[.int .i64 0, .slice none 0 0] 34) := ⟨_, rfl⟩
    have hba : Below (wr).heap.size (wr) wa := by rw [hwa]; exact bZ
    have A4 : RB2 wa wr.heap.size (.int .i64 0) (.slice none 0 0) := by rw [hwa]; exact RB2.mk1 (wr) _ _ _
    have ha4 : wr.heap.size < wa.heap.size := A4.1.lt
    have hda : Below w21.heap.size w21 wa := (by (repeat (first | exact bR _ _ | (refine bS ?_ _) | (refine bA ?_ _) | (refine bN ?_ _) | (refine bD ?_) | (refine bT ?_ hbr) | (refine bT ?_ hba))))
    have hsa := hda.size
    obtain ⟨⟨fa0, fa1⟩, -⟩ := h_21.below hda
    rw [← hwa]
    clear hwa
    clear hHeld
    have hHeld : (fun w' : World => w'.cell? ⟨w10.heap.size, 0, none⟩ = some (.int .i64 mb) ∧ w'.cell? ⟨w10.heap.size, 1, none⟩ = some (.slice oh xh.length ch)) wa := by go_keep
    refine hK.out _ _ (fun _ => hHeld) ?_
    clear hK K
    try simp only [Act.put, sL]
    refine wpAnyK_oneL (i := 3) rfl (by as_aux_lemma => kernel_rfl) (fun K hK => ?_)
    go_simp
    go_at_call 18
    have hs8 : Src (wa) Bs n d := by (first | with_reducible exact hs | exact hs.below hba (by omega))
    refine (any9_d Bs n d mb oh xh.length ch _ hs8 hm2 hn2 (by omega)).mono ?_
    rintro e wd ⟨ug, ys, rfl, hG, hys, hdd⟩
    obtain ⟨gg, cg, rfl⟩ := row_of hG hys.1 (by omega)
    have HYS := Lib.hid hys
    clear hys
    have hbd : Below w21.heap.size (wa) wd := Chg.below (Below.refl _ _) hdd.chg (by omega) (by have := hdd.lt; omega)
    have hddw : Below w21.heap.size w21 wd := (by (repeat (first | exact bR _ _ | (refine bS ?_ _) | (refine bA ?_ _) | (refine bN ?_ _) | (refine bD ?_) | (refine bT ?_ hbr) | (refine bT ?_ hba) | (refine bT ?_ hbd))))
    have hsd := hddw.size
    have hsd8 := hbd.size
    obtain ⟨⟨fd0, fd1⟩, -⟩ := h_21.below hddw
    go_wp2_with fail
    clear hHeld
    have hHeld : (fun w' : World => w'.cell? ⟨w10.heap.size, 0, none⟩ = some (.int .i64 mb) ∧ w'.cell? ⟨w10.heap.size, 1, none⟩ = some (.slice oh xh.length ch)) wd := by go_keep
    refine hK.out _ _ (fun _ => hHeld) ?_
    clear hK K
    try simp only [Act.put, sL]
    refine wpAnyK_oneL (i := 5) rfl (by as_aux_lemma => kernel_rfl) (fun K hK => ?_)
    have RZ : RB2 (wd) wr.heap.size (.int .i64 0) (.slice none 0 0) := by first | exact A4 | exact A4.chg hdd.chg (.inr (by omega)) | exact (A4.below hbr (nl _)).chg hdd.chg (.inl (by omega))
    have OT : OwI (wd) wa.heap.size (.slice (some ⟨gg, 0, none⟩) xh.length cg) ys := by (first | with_reducible exact hG | exact hG.below hba)
    have hOl := hG.lt gg rfl
    have hlz := RZ.1.lt
    obtain ⟨⟨z0, z1⟩, zf⟩ := id RZ
    go_simp
    (try go_wp2_with fail)
    refine hK.out _ _ (fun h => absurd h (by decide)) ?_
    clear hK K
    try simp only [Act.put, sL]
    refine wpAnyK_done (by as_aux_lemma => kernel_rfl) ?_ _
    go_wp2_with fail
    go_meet
    refine ⟨_, _, some ⟨gg, 0, none⟩, cg, ys, rfl, rfl, HYS.out, ?_, ?_⟩
    ·rw [HYS.out.1]; exact ⟨(RB2.put RZ _ _).1, ((OT.ne (fun j hj => by have e : gg = j := (by simpa [Value.ownBlock] using hj); omega) _).ne (fun j hj => by have e : gg = j := (by simpa [Value.ownBlock] using hj); omega) _).rd⟩
    ·(refine below_put (below_put ?_ (by omega) _) (by omega) _; exact (by (repeat (first | exact bR _ _ | (refine bS ?_ _) | (refine bA ?_ _) | (refine bN ?_ _) | (refine bD ?_) | (refine bT ?_ hbr) | (refine bT ?_ hba) | (refine bT ?_ hbd)))))
  ·as_aux_lemma =>
   go_simp
   obtain ⟨wa, hwa⟩ : ∃ x : World, x = (w21.alloc (.cells #[.int .i64 0, .slice none 0 0] 34)).drew := ⟨_, rfl⟩
   have hba : Below (w21).heap.size (w21) wa := by rw [hwa]; exact bZ
   have A4 : RB2 wa w21.heap.size (.int .i64 0) (.slice none 0 0) := by rw [hwa]; exact RB2.mk1 (w21) _ _ _
   have ha4 : w21.heap.size < wa.heap.size := A4.1.lt
   have hda : Below w21.heap.size w21 wa := (by (repeat (first | exact bR _ _ | (refine bS ?_ _) | (refine bA ?_ _) | (refine bN ?_ _) | (refine bD ?_) | (refine bT ?_ hba))))
   have hsa := hda.size
   obtain ⟨⟨fa0, fa1⟩, -⟩ := h_21.below hda
   rw [← hwa]
   clear hwa
   clear hHeld
   have hHeld : (fun w' : World => w'.cell? ⟨w10.heap.size, 0, none⟩ = some (.int .i64 mb) ∧ w'.cell? ⟨w10.heap.size, 1, none⟩ = some (.slice oh xh.length ch)) wa := by go_keep
   refine hK.out _ _ (fun _ => hHeld) ?_
   clear hK K
   try simp only [Act.put, sL]
   refine wpAnyK_oneL (i := 1) rfl (by as_aux_lemma => kernel_rfl) (fun K hK => ?_)
   go_simp
   go_at_call 19
   have hbp : Below w21.heap.size w21 (wa) := (by (repeat (first | exact bR _ _ | (refine bS ?_ _) | (refine bA ?_ _) | (refine bN ?_ _) | (refine bD ?_) | (refine bT ?_ hba))))
   have hzp := hbp.size
   refine (roll_c w0.heap.size n _ 7001 (wa) (HV.out.keep (fun j hj => (HB21.trans (hbp.mono HB21.size)).block j hj)) (by have := HB21.size; omega)).mono ?_
   rintro e wr ⟨d, rfl, hs, hbr⟩
   have hdr : Below w21.heap.size w21 wr := (by (repeat (first | exact bR _ _ | (refine bS ?_ _) | (refine bA ?_ _) | (refine bN ?_ _) | (refine bD ?_) | (refine bT ?_ hba) | (refine bT ?_ hbr))))
   have hd0 := hs.1
   have hz6 := hbr.size
   have hd1 := hs.lt
   obtain ⟨Bs, hs⟩ : ∃ B, Src wr B n d := ⟨_, hs⟩
   have hdB := hs.1
   have hsr := hdr.size
   obtain ⟨⟨fr0, fr1⟩, -⟩ := h_21.below hdr
   clear hbp
   go_wp2_with fail
   clear hHeld
   have hHeld : (fun w' : World => w'.cell? ⟨w10.heap.size, 0, none⟩ = some (.int .i64 mb) ∧ w'.cell? ⟨w10.heap.size, 1, none⟩ = some (.slice oh xh.length ch)) wr := by go_keep
   refine hK.out _ _ (fun _ => hHeld) ?_
   clear hK K
   try simp only [Act.put, sL]
   refine wpAnyK_oneL (i := 3) rfl (by as_aux_lemma => kernel_rfl) (fun K hK => ?_)
   go_simp
   go_at_call 18
   have hs8 : Src (wr) Bs n d := by (first | with_reducible exact hs | exact hs.below hba (by omega))
   refine (any9_d Bs n d mb oh xh.length ch _ hs8 hm2 hn2 (by omega)).mono ?_
   rintro e wd ⟨ug, ys, rfl, hG, hys, hdd⟩
   obtain ⟨gg, cg, rfl⟩ := row_of hG hys.1 (by omega)
   have HYS := Lib.hid hys
   clear hys
   have hbd : Below w21.heap.size (wr) wd := Chg.below (Below.refl _ _) hdd.chg (by omega) (by have := hdd.lt; omega)
   have hddw : Below w21.heap.size w21 wd := (by (repeat (first | exact bR _ _ | (refine bS ?_ _) | (refine bA ?_ _) | (refine bN ?_ _) | (refine bD ?_) | (refine bT ?_ hba) | (refine bT ?_ hbr) | (refine bT ?_ hbd))))
   have hsd := hddw.size
   have hsd8 := hbd.size
   obtain ⟨⟨fd0, fd1⟩, -⟩ := h_21.below hddw
   go_wp2_with fail
   clear hHeld
   have hHeld : (fun w' : World => w'.cell? ⟨w10.heap.size, 0, none⟩ = some (.int .i64 mb) ∧ w'.cell? ⟨w10.heap.size, 1, none⟩ = some (.slice oh xh.length ch)) wd := by go_keep
   refine hK.out _ _ (fun _ => hHeld) ?_
   clear hK K
   try simp only [Act.put, sL]
   refine wpAnyK_oneL (i := 5) rfl (by as_aux_lemma => kernel_rfl) (fun K hK => ?_)
   have RZ : RB2 (wd) w21.heap.size (.int .i64 0) (.slice none 0 0) := by first | exact A4 | exact A4.chg hdd.chg (.inr (by omega)) | exact (A4.below hbr (nl _)).chg hdd.chg (.inl (by omega))
   have OT : OwI (wd) wr.heap.size (.slice (some ⟨gg, 0, none⟩) xh.length cg) ys := by (first | with_reducible exact hG | exact hG.below hba)
   have hOl := hG.lt gg rfl
   have hlz := RZ.1.lt
   obtain ⟨⟨z0, z1⟩, zf⟩ := id RZ
   go_simp
   (try go_wp2_with fail)
   refine hK.out _ _ (fun h => absurd h (by decide)) ?_
   clear hK K
   try simp only [Act.put, sL]
   refine wpAnyK_done (by as_aux_lemma => kernel_rfl) ?_ _
   go_wp2_with fail
   go_meet
   refine ⟨_, _, some ⟨gg, 0, none⟩, cg, ys, rfl, rfl, HYS.out, ?_, ?_⟩
   ·rw [HYS.out.1]; exact ⟨(RB2.put RZ _ _).1, ((OT.ne (fun j hj => by have e : gg = j := (by simpa [Value.ownBlock] using hj); omega) _).ne (fun j hj => by have e : gg = j := (by simpa [Value.ownBlock] using hj); omega) _).rd⟩
   ·(refine below_put (below_put ?_ (by omega) _) (by omega) _; exact (by (repeat (first | exact bR _ _ | (refine bS ?_ _) | (refine bA ?_ _) | (refine bN ?_ _) | (refine bD ?_) | (refine bT ?_ hba) | (refine bT ?_ hbr) | (refine bT ?_ hbd)))))
 case rest =>
  obtain ⟨wz, bg, og, cg, xg, rfl, rfl, hxg, hU, hb⟩ := hcut
  obtain ⟨w22, rfl⟩ : ∃ u, u = wz := ⟨_, rfl⟩
  have h_22 := h_21.below hb
  have a_22 := a_21.below hb
  have b_22 := b_21.below hb
  have c_22 := c_21.below hb
  have x_22 := x_21.below hb
  have HB22 := HB21.trans (hb.mono HB21.size)
  clear h_21 a_21 b_21 c_21 x_21 HB21 hb
  have g_22 := hU
  clear hU
  have hIg : IsC mb xh.length xg := ⟨ser_mk ⟨hm2, hm9⟩ (by rw [hxg.1]; exact ⟨hn2, hn9⟩) hxg.2.2, hxg.1, by simp [at0, List.getD, hxg.2.1]⟩
  obtain ⟨U, hU⟩ : ∃ U, putL mb xh.length xh XR1 xg = U := ⟨_, rfl⟩
  obtain ⟨V, hV⟩ : ∃ V, putL mb xh.length xh xb xg = V := ⟨_, rfl⟩
  have hIv := put_isC HO.out HIb.out hIg
  rw [hV] at hIv
  have E2 := Lib.hid (show sumUR mb xh mb XR1 mb xg = ⟨mb, U, 0⟩ by rw [sumU_ok HO.out HIc.out hIg, hU])
  have E3 := Lib.hid (show sumUR mb xh mb xb mb xg = ⟨mb, V, 0⟩ by rw [sumU_ok HO.out HIb.out hIg, hV])
  have E4 := Lib.hid (show sumUR mb xh mb xa mb V = ⟨mb, U, 0⟩ by rw [sumU_ok HO.out HIa.out hIv, ← hV, ← sum_assoc HO.out HIa.out HIb.out hIg, HF2.out, hU])
  clear hIg hIv hU hV hxg HO HIa HIb HIc HIx HF2
  obtain ⟨⟨qh0, qh1⟩, -⟩ := id h_22
  have lh := h_22.lt
  obtain ⟨⟨qb0, qb1⟩, -⟩ := id b_22
  have lb := b_22.lt
  obtain ⟨⟨qa0, qa1⟩, -⟩ := id a_22
  have la := a_22.lt
  go_wp2_with fail
  clear lh qh0 qh1
  clear lb qb0 qb1
  clear la qa0 qa1
  have hC := SumUnder_c (mb) _ (xh) (mb) _ (xb) (mb) _ (xa) w22 h_22.2 b_22.2 a_22.2
  rw [E1.out] at hC
  refine (sendL hC).mono ?_
  clear hC
  rintro e w23 ⟨vr, rfl, hr, hb, hlr⟩
  have h_23 := h_22.below hb
  have a_23 := a_22.below hb
  have b_23 := b_22.below hb
  have c_23 := c_22.below hb
  have x_23 := x_22.below hb
  have g_23 := g_22.below hb
  have HB23 := HB22.trans (hb.mono HB22.size)
  clear h_22 a_22 b_22 c_22 x_22 g_22 HB22 hb
  obtain ⟨or, cr, rfl⟩ := hr.shape
  have rr := hr.rd
  clear hr
  clear hlr
  obtain ⟨⟨qh0, qh1⟩, -⟩ := id h_23
  have lh := h_23.lt
  obtain ⟨⟨qc0, qc1⟩, -⟩ := id c_23
  have lc := c_23.lt
  obtain ⟨⟨qg0, qg1⟩, -⟩ := id g_23
  have lg := g_23.lt
  go_wp2_with fail
  clear lh qh0 qh1
  clear lc qc0 qc1
  clear lg qg0 qg1
  have r_24 := (SB.mk1 w23 (mb) (.slice or XR1.length cr) (XR1) rr 34).below (w' := w23.alloc (.cells #[.int .i64 mb, .slice or XR1.length cr] 34)) bZ
  have hbk0 : w23.heap.size = w23.heap.size := by simp
  rw [hbk0] at r_24
  clear hbk0
  have hb : Below w23.heap.size w23 (w23.alloc (.cells #[.int .i64 mb, .slice or XR1.length cr] 34)) := bZ
  have h_24 := h_23.below hb
  have a_24 := a_23.below hb
  have b_24 := b_23.below hb
  have c_24 := c_23.below hb
  have x_24 := x_23.below hb
  have g_24 := g_23.below hb
  have HB24 := HB23.trans (hb.mono HB23.size)
  clear hb HB23 h_23 a_23 b_23 c_23 x_23 g_23
  generalize w23.alloc (.cells #[.int .i64 mb, .slice or XR1.length cr] 34) = w24 at h_24 a_24 b_24 c_24 x_24 g_24 r_24 HB24 ⊢
  clear rr
  have hC := SumUnder_c (mb) _ (xh) (mb) _ (XR1) (mb) _ (xg) w24 h_24.2 c_24.2 g_24.2
  rw [E2.out] at hC
  refine (sendL hC).mono ?_
  clear hC
  rintro e w25 ⟨vs, rfl, hs, hb, hls⟩
  have h_25 := h_24.below hb
  have a_25 := a_24.below hb
  have b_25 := b_24.below hb
  have c_25 := c_24.below hb
  have x_25 := x_24.below hb
  have g_25 := g_24.below hb
  have r_25 := r_24.below hb
  have HB25 := HB24.trans (hb.mono HB24.size)
  clear h_24 a_24 b_24 c_24 x_24 g_24 r_24 HB24 hb
  obtain ⟨os, cs, rfl⟩ := hs.shape
  have rs := hs.rd
  clear hs
  clear hls
  obtain ⟨⟨qh0, qh1⟩, -⟩ := id h_25
  have lh := h_25.lt
  obtain ⟨⟨qb0, qb1⟩, -⟩ := id b_25
  have lb := b_25.lt
  obtain ⟨⟨qg0, qg1⟩, -⟩ := id g_25
  have lg := g_25.lt
  go_wp2_with fail
  clear lh qh0 qh1
  clear lb qb0 qb1
  clear lg qg0 qg1
  have s_26 := (SB.mk1 w25 (mb) (.slice os U.length cs) (U) rs 34).below (w' := w25.alloc (.cells #[.int .i64 mb, .slice os U.length cs] 34)) bZ
  have hbk0 : w25.heap.size = w25.heap.size := by simp
  rw [hbk0] at s_26
  clear hbk0
  have hb : Below w25.heap.size w25 (w25.alloc (.cells #[.int .i64 mb, .slice os U.length cs] 34)) := bZ
  have h_26 := h_25.below hb
  have a_26 := a_25.below hb
  have b_26 := b_25.below hb
  have c_26 := c_25.below hb
  have x_26 := x_25.below hb
  have g_26 := g_25.below hb
  have r_26 := r_25.below hb
  have HB26 := HB25.trans (hb.mono HB25.size)
  clear hb HB25 h_25 a_25 b_25 c_25 x_25 g_25 r_25
  generalize w25.alloc (.cells #[.int .i64 mb, .slice os U.length cs] 34) = w26 at h_26 a_26 b_26 c_26 x_26 g_26 r_26 s_26 HB26 ⊢
  clear rs
  have hC := SumUnder_c (mb) _ (xh) (mb) _ (xb) (mb) _ (xg) w26 h_26.2 b_26.2 g_26.2
  rw [E3.out] at hC
  refine (sendL hC).mono ?_
  clear hC
  rintro e w27 ⟨vt, rfl, ht, hb, hlt⟩
  have h_27 := h_26.below hb
  have a_27 := a_26.below hb
  have b_27 := b_26.below hb
  have c_27 := c_26.below hb
  have x_27 := x_26.below hb
  have g_27 := g_26.below hb
  have r_27 := r_26.below hb
  have s_27 := s_26.below hb
  have HB27 := HB26.trans (hb.mono HB26.size)
  clear h_26 a_26 b_26 c_26 x_26 g_26 r_26 s_26 HB26 hb
  obtain ⟨ot, ct, rfl⟩ := ht.shape
  have rt := ht.rd
  clear ht
  clear hlt
  obtain ⟨⟨qh0, qh1⟩, -⟩ := id h_27
  have lh := h_27.lt
  obtain ⟨⟨qa0, qa1⟩, -⟩ := id a_27
  have la := a_27.lt
  go_wp2_with fail
  clear lh qh0 qh1
  clear la qa0 qa1
  have t_28 := (SB.mk1 w27 (mb) (.slice ot V.length ct) (V) rt 34).below (w' := w27.alloc (.cells #[.int .i64 mb, .slice ot V.length ct] 34)) bZ
  have hbk0 : w27.heap.size = w27.heap.size := by simp
  rw [hbk0] at t_28
  clear hbk0
  have hb : Below w27.heap.size w27 (w27.alloc (.cells #[.int .i64 mb, .slice ot V.length ct] 34)) := bZ
  have h_28 := h_27.below hb
  have a_28 := a_27.below hb
  have b_28 := b_27.below hb
  have c_28 := c_27.below hb
  have x_28 := x_27.below hb
  have g_28 := g_27.below hb
  have r_28 := r_27.below hb
  have s_28 := s_27.below hb
  have HB28 := HB27.trans (hb.mono HB27.size)
  clear hb HB27 h_27 a_27 b_27 c_27 x_27 g_27 r_27 s_27
  generalize w27.alloc (.cells #[.int .i64 mb, .slice ot V.length ct] 34) = w28 at h_28 a_28 b_28 c_28 x_28 g_28 r_28 s_28 t_28 HB28 ⊢
  clear rt
  have hC := SumUnder_c (mb) _ (xh) (mb) _ (xa) (mb) _ (V) w28 h_28.2 a_28.2 t_28.2
  rw [E4.out] at hC
  refine (sendL hC).mono ?_
  clear hC
  rintro e w29 ⟨vu, rfl, hu, hb, hlu⟩
  have h_29 := h_28.below hb
  have a_29 := a_28.below hb
  have b_29 := b_28.below hb
  have c_29 := c_28.below hb
  have x_29 := x_28.below hb
  have g_29 := g_28.below hb
  have r_29 := r_28.below hb
  have s_29 := s_28.below hb
  have t_29 := t_28.below hb
  have HB29 := HB28.trans (hb.mono HB28.size)
  clear h_28 a_28 b_28 c_28 x_28 g_28 r_28 s_28 t_28 HB28 hb
  obtain ⟨ou, cu, rfl⟩ := hu.shape
  have ru := hu.rd
  clear hu
  clear hlu
  obtain ⟨⟨qh0, qh1⟩, -⟩ := id h_29
  have lh := h_29.lt
  obtain ⟨⟨qx0, qx1⟩, -⟩ := id x_29
  have lx := x_29.lt
  obtain ⟨⟨qb0, qb1⟩, -⟩ := id b_29
  have lb := b_29.lt
  go_wp2_with fail
  clear lh qh0 qh1
  clear lx qx0 qx1
  clear lb qb0 qb1
  have u_30 := (SB.mk1 w29 (mb) (.slice ou U.length cu) (U) ru 34).below (w' := w29.alloc (.cells #[.int .i64 mb, .slice ou U.length cu] 34)) bZ
  have hbk0 : w29.heap.size = w29.heap.size := by simp
  rw [hbk0] at u_30
  clear hbk0
  have hb : Below w29.heap.size w29 (w29.alloc (.cells #[.int .i64 mb, .slice ou U.length cu] 34)) := bZ
  have h_30 := h_29.below hb
  have a_30 := a_29.below hb
  have b_30 := b_29.below hb
  have c_30 := c_29.below hb
  have x_30 := x_29.below hb
  have g_30 := g_29.below hb
  have r_30 := r_29.below hb
  have s_30 := s_29.below hb
  have t_30 := t_29.below hb
  have HB30 := HB29.trans (hb.mono HB29.size)
  clear hb HB29 h_29 a_29 b_29 c_29 x_29 g_29 r_29 s_29 t_29
  generalize w29.alloc (.cells #[.int .i64 mb, .slice ou U.length cu] 34) = w30 at h_30 a_30 b_30 c_30 x_30 g_30 r_30 s_30 t_30 u_30 HB30 ⊢
  clear ru
  have hC := SumUnder_c (mb) _ (xh) (mb) _ (XR2) (mb) _ (xb) w30 h_30.2 x_30.2 b_30.2
  rw [E5.out] at hC
  refine (sendL hC).mono ?_
  clear hC
  rintro e w31 ⟨vz, rfl, hz, hb, hlz⟩
  have h_31 := h_30.below hb
  have a_31 := a_30.below hb
  have b_31 := b_30.below hb
  have c_31 := c_30.below hb
  have x_31 := x_30.below hb
  have g_31 := g_30.below hb
  have r_31 := r_30.below hb
  have s_31 := s_30.below hb
  have t_31 := t_30.below hb
  have u_31 := u_30.below hb
  have HB31 := HB30.trans (hb.mono HB30.size)
  clear h_30 a_30 b_30 c_30 x_30 g_30 r_30 s_30 t_30 u_30 HB30 hb
  obtain ⟨oz, cz, rfl⟩ := hz.shape
  have rz := hz.rd
  clear hz
  clear hlz
  obtain ⟨⟨qr0, qr1⟩, -⟩ := id r_31
  have lr := r_31.lt
  obtain ⟨⟨qc0, qc1⟩, -⟩ := id c_31
  have lc := c_31.lt
  go_wp2_with fail
  clear lr qr0 qr1
  clear lc qc0 qc1
  have z_32 := (SB.mk1 w31 (mb) (.slice oz xa.length cz) (xa) rz 34).below (w' := w31.alloc (.cells #[.int .i64 mb, .slice oz xa.length cz] 34)) bZ
  have hbk0 : w31.heap.size = w31.heap.size := by simp
  rw [hbk0] at z_32
  clear hbk0
  have hb : Below w31.heap.size w31 (w31.alloc (.cells #[.int .i64 mb, .slice oz xa.length cz] 34)) := bZ
  have h_32 := h_31.below hb
  have a_32 := a_31.below hb
  have b_32 := b_31.below hb
  have c_32 := c_31.below hb
  have x_32 := x_31.below hb
  have g_32 := g_31.below hb
  have r_32 := r_31.below hb
  have s_32 := s_31.below hb
  have t_32 := t_31.below hb
  have u_32 := u_31.below hb
  have HB32 := HB31.trans (hb.mono HB31.size)
  clear hb HB31 h_31 a_31 b_31 c_31 x_31 g_31 r_31 s_31 t_31 u_31
  generalize w31.alloc (.cells #[.int .i64 mb, .slice oz xa.length cz] 34) = w32 at h_32 a_32 b_32 c_32 x_32 g_32 r_32 s_32 t_32 u_32 z_32 HB32 ⊢
  clear rz
  clear h_32
  clear b_32
  clear x_32
  clear t_32
  clear g_32
  refine (series9_same (mb) _ _ (XR1) _ r_32.2 c_32.2).mono ?_
  rintro e w33 ⟨rfl, hb⟩
  have a_33 := a_32.below hb
  have c_33 := c_32.below hb
  have r_33 := r_32.below hb
  have s_33 := s_32.below hb
  have u_33 := u_32.below hb
  have z_33 := z_32.below hb
  have HB33 := HB32.trans (hb.mono HB32.size)
  clear a_32 c_32 r_32 s_32 u_32 z_32 HB32 hb
  clear r_33
  clear c_33
  obtain ⟨⟨qs0, qs1⟩, -⟩ := id s_33
  have ls := s_33.lt
  obtain ⟨⟨qu0, qu1⟩, -⟩ := id u_33
  have lu := u_33.lt
  go_wp2_with fail
  clear ls qs0 qs1
  clear lu qu0 qu1
  refine (series9_same (mb) _ _ (U) _ s_33.2 u_33.2).mono ?_
  rintro e w34 ⟨rfl, hb⟩
  have a_34 := a_33.below hb
  have s_34 := s_33.below hb
  have u_34 := u_33.below hb
  have z_34 := z_33.below hb
  have HB34 := HB33.trans (hb.mono HB33.size)
  clear a_33 s_33 u_33 z_33 HB33 hb
  clear s_34
  clear u_34
  obtain ⟨⟨qz0, qz1⟩, -⟩ := id z_34
  have lz := z_34.lt
  obtain ⟨⟨qa0, qa1⟩, -⟩ := id a_34
  have la := a_34.lt
  go_wp2_with fail
  clear lz qz0 qz1
  clear la qa0 qa1
  refine (series9_same (mb) _ _ (xa) _ z_34.2 a_34.2).mono ?_
  rintro e w35 ⟨rfl, hb⟩
  have a_35 := a_34.below hb
  have z_35 := z_34.below hb
  have HB35 := HB34.trans (hb.mono HB34.size)
  clear a_34 z_34 HB34 hb
  go_wp2
  go_ret
  exact ⟨rfl, HB35⟩

open Go.ChangeShapes Go.WideShapes Go.ChangeAt Go.Joins
theorem Laws_lifted (os : Os) (started : os.Started) (H : Type) (enc : TypeId × Value → H) :
  ReturnsInHanded {} Tryz.checked os 3 .any (Rows.fnLawsSpec.pre6 enc Tryz.prog Tryz.f3 Rows.fnLawsRow.domain false) (Rows.fnLawsSpec.post enc Tryz.prog Tryz.f3 false true false false) := by
 refine returnsInHanded_of_change (C := Tryz.checked) Tryz.own started (by kernel_rfl) Tryz.func3
  (ChangeSpec.witness6 (enc := enc) (C := Tryz.checked) false ⟨#[], #[.slice none 0 0], []⟩ 8 (by kernel_rfl) (by kernel_rfl) (by kernel_rfl) (by kernel_rfl)) ?_
 intro W base args ds gs before hval0 hW _ _
 have hval : ∀ (j : Nat) t v, Tryz.f3.params[j]? = some t → args[j]? = some v → Value.okWide Tryz.prog W .any base t v := hval0
 have hW' := hW
 obtain ⟨p, q, hA0, hV, rfl, _, _⟩ := hW
 have hA : DataW.TrodAll enc Tryz.prog W 0 (fun _ => true) true Tryz.f3.params.toList args.toList ds p := hA0
 rw [Tryz.params3] at hA hval
 have hAk := hA
 obtain ⟨rfl, rfl⟩ := trodVars_none hV
 obtain ⟨v0, d0, rfl, rfl, h0⟩ := trodAll_one hA
 obtain ⟨n, r0⟩ := rdB_of_trod (hval 0 22 v0 rfl rfl) h0
 clear hA0 hval0
 simp only [List.append_nil] at hW'
 refine (FnLaws_c n v0 W r0).mono fun e W' ⟨he, hb⟩ => ?_
 subst he
 refine ⟨_, rfl, _, _, _, [], p, [], hW', ?_, ?_, rfl, hb.frame _, fun h => by cases h⟩
 ·exact trodAll_mk1 (shut_bool Tryz.underlying4 true)
 ·exact trodAll_below Tryz.laidOut (by kernel_rfl) hAk hb (fun x hx => by simpa using hW'.lt x hx)

theorem Laws_holds : Rows.FnLawsSaid :=
 OpenClaim.holds_of_wide 3 Tryz.f3 rfl rfl rfl rfl rfl rfl rfl ⟨rfl, rfl, rfl, rfl, rfl⟩ rfl rfl rfl rfl rfl (by kernel_rfl) Tryz.func3 (by kernel_rfl)
  (of_decide_eq_true (by kernel_rfl)) (by unfold Func.isWrapper; rw [if_neg (of_decide_eq_false (by kernel_rfl))]; exact ⟨rfl, rfl⟩)
  (fun os started H enc _ => Laws_lifted os started H enc)

#print axioms Laws_holds
end Go.Proofs.YtfpphfjlpgefaaaGreat
