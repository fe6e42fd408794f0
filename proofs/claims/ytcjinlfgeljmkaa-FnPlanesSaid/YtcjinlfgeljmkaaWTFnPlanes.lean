/- Products are commutative and distributive, exchanging variables twice changes nothing, derivatives in both variables may be exchanged, and substituting curves keeps sums and products. For every code. No condition. -/
import Derived.Test.YtcjinlfgeljmkaaWTLwX
import Derived.Test.YtcjinlfgeljmkaaWTLwY
import Derived.Test.YtcjinlfgeljmkaaWTEndB
import Derived.Deep.RegionHeld3
import Derived.Deep.DeepCutAuto
set_option linter.unusedSimpArgs false
set_option linter.unusedVariables false
namespace Go.Proofs.Ytcjinlfgeljmkaa
open Go.RowKit
set_option maxHeartbeats 16000000 in
set_option maxRecDepth 100000 in
theorem FnPlanes_c (n : Nat) (v : Value) (w0 : World) (hv : RdB w0 w0.heap.size n v) :
    Calls Try.prog 5 #[v] w0 fun e w' => e = .returned (.bool true) ∧ Below w0.heap.size w0 w' := by
  obtain ⟨ov, cv, rfl, hmv, hcv⟩ := id hv
  clear hmv hcv
  have HB0 := Below.refl w0.heap.size w0
  have HV := Lib.hid hv
  clear hv
  go_enter Try.func5, Try.ntmps5
  go_wp2_with fail
  refine (big_c w0.heap.size n _ w0 HV.out).mono ?_
  rintro e w' ⟨rfl, rfl⟩
  by_cases hbig : 4096 < n
  · have hbb : decide (4096 < n) = true := by simpa using hbig
    go_wp2
    go_ret
    exact ⟨rfl, HB0⟩
  have hbb : decide (4096 < n) = false := by simpa using hbig
  clear hbig
  go_wp2_with fail
  clear hbb
  refine (DrawMultiplyPlanes_d w0.heap.size n _ w0 (HV.out.keep (fun j hj => HB0.block j hj)) HB0.size).mono ?_
  rintro e w1 ⟨mf, vf, xf, mh, vh, xh, rfl, rf, rh, hb⟩
  have HB1 := HB0.trans (hb.mono HB0.size)
  clear HB0 hb
  obtain ⟨of, cf, rfl, -, -⟩ := id rf
  obtain ⟨oh, ch, rfl, -, -⟩ := id rh
  go_wp2_with fail
  have f_2 := (PB.mk1 w1 (mf) (.slice of xf.length cf) (xf) rf 42).below (w' := (w1.alloc (.cells #[.int .i64 mf, .slice of xf.length cf] 42)).alloc (.cells #[.int .i64 mh, .slice oh xh.length ch] 42)) (by (repeat (first | exact Below.refl _ _ | (refine Below.setCell ?_ (by first | (simp; done) | (simp; omega) | omega) _) | (refine Below.alloc ?_ (by first | (simp; done) | (simp; omega) | omega) _) | (refine below_drewN ?_ _) | (refine Below.drew ?_))))
  have hbk0 : w1.heap.size = w1.heap.size := by simp
  rw [hbk0] at f_2
  clear hbk0
  have h_2 := (PB.mk1 (w1.alloc (.cells #[.int .i64 mf, .slice of xf.length cf] 42)) (mh) (.slice oh xh.length ch) (xh) (rh.below (w' := (w1.alloc (.cells #[.int .i64 mf, .slice of xf.length cf] 42))) (by (repeat (first | exact Below.refl _ _ | (refine Below.setCell ?_ (by first | (simp; done) | (simp; omega) | omega) _) | (refine Below.alloc ?_ (by first | (simp; done) | (simp; omega) | omega) _) | (refine below_drewN ?_ _) | (refine Below.drew ?_)))) (Nat.le_refl _)) 42).below (w' := (w1.alloc (.cells #[.int .i64 mf, .slice of xf.length cf] 42)).alloc (.cells #[.int .i64 mh, .slice oh xh.length ch] 42)) (by (repeat (first | exact Below.refl _ _ | (refine Below.setCell ?_ (by first | (simp; done) | (simp; omega) | omega) _) | (refine Below.alloc ?_ (by first | (simp; done) | (simp; omega) | omega) _) | (refine below_drewN ?_ _) | (refine Below.drew ?_))))
  have hbk1 : (w1.alloc (.cells #[.int .i64 mf, .slice of xf.length cf] 42)).heap.size = w1.heap.size + 1 := by simp
  rw [hbk1] at h_2
  clear hbk1
  have hb : Below w1.heap.size w1 ((w1.alloc (.cells #[.int .i64 mf, .slice of xf.length cf] 42)).alloc (.cells #[.int .i64 mh, .slice oh xh.length ch] 42)) := (by (repeat (first | exact Below.refl _ _ | (refine Below.setCell ?_ (by first | (simp; done) | (simp; omega) | omega) _) | (refine Below.alloc ?_ (by first | (simp; done) | (simp; omega) | omega) _) | (refine below_drewN ?_ _) | (refine Below.drew ?_))))
  have HB2 := HB1.trans (hb.mono HB1.size)
  clear hb HB1 
  generalize (w1.alloc (.cells #[.int .i64 mf, .slice of xf.length cf] 42)).alloc (.cells #[.int .i64 mh, .slice oh xh.length ch] 42) = w2 at f_2 h_2 HB2 ⊢
  clear rf rh
  obtain ⟨⟨MR1, XR1, CR1⟩, hR1⟩ : ∃ r, mulPR mf xf mh xh = r := ⟨_, rfl⟩
  have HR1 := Lib.hid hR1
  clear hR1
  obtain ⟨⟨MR2, XR2, CR2⟩, hR2⟩ : ∃ r, addPR mf xf mh xh = r := ⟨_, rfl⟩
  have HR2 := Lib.hid hR2
  clear hR2
  have hC := MultiplyPlanes_c (mf) _ (xf) (mh) _ (xh) w2 f_2.2 h_2.2
  rw [HR1.out] at hC
  refine (pend3 hC).mono ?_
  clear hC
  rintro e w3 ⟨vc, rfl, hc, hb, hlc⟩
  have f_3 := f_2.below hb
  have h_3 := h_2.below hb
  have HB3 := HB2.trans (hb.mono HB2.size)
  clear f_2 h_2 HB2 hb
  obtain ⟨oc, cc, rfl⟩ := hc.shape
  have rc := hc.rd
  clear hc
  clear hlc
  obtain ⟨⟨qf0, qf1⟩, -⟩ := id f_3
  have lf := f_3.lt
  obtain ⟨⟨qh0, qh1⟩, -⟩ := id h_3
  have lh := h_3.lt
  go_wp2_with fail
  clear lf qf0 qf1
  clear lh qh0 qh1
  have c_4 := (PB.mk1 w3 (MR1) (.slice oc XR1.length cc) (XR1) rc 42).below (w' := w3.alloc (.cells #[.int .i64 MR1, .slice oc XR1.length cc] 42)) (by (repeat (first | exact Below.refl _ _ | (refine Below.setCell ?_ (by first | (simp; done) | (simp; omega) | omega) _) | (refine Below.alloc ?_ (by first | (simp; done) | (simp; omega) | omega) _) | (refine below_drewN ?_ _) | (refine Below.drew ?_))))
  have hbk0 : w3.heap.size = w3.heap.size := by simp
  rw [hbk0] at c_4
  clear hbk0
  have hb : Below w3.heap.size w3 (w3.alloc (.cells #[.int .i64 MR1, .slice oc XR1.length cc] 42)) := (by (repeat (first | exact Below.refl _ _ | (refine Below.setCell ?_ (by first | (simp; done) | (simp; omega) | omega) _) | (refine Below.alloc ?_ (by first | (simp; done) | (simp; omega) | omega) _) | (refine below_drewN ?_ _) | (refine Below.drew ?_))))
  have f_4 := f_3.below hb
  have h_4 := h_3.below hb
  have HB4 := HB3.trans (hb.mono HB3.size)
  clear hb HB3 f_3 h_3
  generalize w3.alloc (.cells #[.int .i64 MR1, .slice oc XR1.length cc] 42) = w4 at f_4 h_4 c_4 HB4 ⊢
  clear rc
  have hC := sMultiplyPlanes_c (mf) _ (xf) (mh) _ (xh) w4 f_4.2 h_4.2
  rw [HR1.out] at hC
  refine (pend3 hC).mono ?_
  clear hC
  rintro e w5 ⟨vd, rfl, hd, hb, hld⟩
  have f_5 := f_4.below hb
  have h_5 := h_4.below hb
  have c_5 := c_4.below hb
  have HB5 := HB4.trans (hb.mono HB4.size)
  clear f_4 h_4 c_4 HB4 hb
  obtain ⟨od, cd, rfl⟩ := hd.shape
  have rd := hd.rd
  clear hd
  clear hld
  obtain ⟨⟨qf0, qf1⟩, -⟩ := id f_5
  have lf := f_5.lt
  obtain ⟨⟨qh0, qh1⟩, -⟩ := id h_5
  have lh := h_5.lt
  go_wp2_with fail
  clear lf qf0 qf1
  clear lh qh0 qh1
  have d_6 := (PB.mk1 w5 (MR1) (.slice od XR1.length cd) (XR1) rd 42).below (w' := w5.alloc (.cells #[.int .i64 MR1, .slice od XR1.length cd] 42)) (by (repeat (first | exact Below.refl _ _ | (refine Below.setCell ?_ (by first | (simp; done) | (simp; omega) | omega) _) | (refine Below.alloc ?_ (by first | (simp; done) | (simp; omega) | omega) _) | (refine below_drewN ?_ _) | (refine Below.drew ?_))))
  have hbk0 : w5.heap.size = w5.heap.size := by simp
  rw [hbk0] at d_6
  clear hbk0
  have hb : Below w5.heap.size w5 (w5.alloc (.cells #[.int .i64 MR1, .slice od XR1.length cd] 42)) := (by (repeat (first | exact Below.refl _ _ | (refine Below.setCell ?_ (by first | (simp; done) | (simp; omega) | omega) _) | (refine Below.alloc ?_ (by first | (simp; done) | (simp; omega) | omega) _) | (refine below_drewN ?_ _) | (refine Below.drew ?_))))
  have f_6 := f_5.below hb
  have h_6 := h_5.below hb
  have c_6 := c_5.below hb
  have HB6 := HB5.trans (hb.mono HB5.size)
  clear hb HB5 f_5 h_5 c_5
  generalize w5.alloc (.cells #[.int .i64 MR1, .slice od XR1.length cd] 42) = w6 at f_6 h_6 c_6 d_6 HB6 ⊢
  clear rd
  have hC := AddPlanes_c (mf) _ (xf) (mh) _ (xh) w6 f_6.2 h_6.2
  rw [HR2.out] at hC
  refine (pend3 hC).mono ?_
  clear hC
  rintro e w7 ⟨vs, rfl, hs, hb, hls⟩
  have f_7 := f_6.below hb
  have h_7 := h_6.below hb
  have c_7 := c_6.below hb
  have d_7 := d_6.below hb
  have HB7 := HB6.trans (hb.mono HB6.size)
  clear f_6 h_6 c_6 d_6 HB6 hb
  obtain ⟨os, cs, rfl⟩ := hs.shape
  have rs := hs.rd
  clear hs
  clear hls
  obtain ⟨⟨qf0, qf1⟩, -⟩ := id f_7
  have lf := f_7.lt
  obtain ⟨⟨qh0, qh1⟩, -⟩ := id h_7
  have lh := h_7.lt
  go_wp2_with fail
  clear lf qf0 qf1
  clear lh qh0 qh1
  have s_8 := (PB.mk1 w7 (MR2) (.slice os XR2.length cs) (XR2) rs 42).below (w' := w7.alloc (.cells #[.int .i64 MR2, .slice os XR2.length cs] 42)) (by (repeat (first | exact Below.refl _ _ | (refine Below.setCell ?_ (by first | (simp; done) | (simp; omega) | omega) _) | (refine Below.alloc ?_ (by first | (simp; done) | (simp; omega) | omega) _) | (refine below_drewN ?_ _) | (refine Below.drew ?_))))
  have hbk0 : w7.heap.size = w7.heap.size := by simp
  rw [hbk0] at s_8
  clear hbk0
  have hb : Below w7.heap.size w7 (w7.alloc (.cells #[.int .i64 MR2, .slice os XR2.length cs] 42)) := (by (repeat (first | exact Below.refl _ _ | (refine Below.setCell ?_ (by first | (simp; done) | (simp; omega) | omega) _) | (refine Below.alloc ?_ (by first | (simp; done) | (simp; omega) | omega) _) | (refine below_drewN ?_ _) | (refine Below.drew ?_))))
  have f_8 := f_7.below hb
  have h_8 := h_7.below hb
  have c_8 := c_7.below hb
  have d_8 := d_7.below hb
  have HB8 := HB7.trans (hb.mono HB7.size)
  clear hb HB7 f_7 h_7 c_7 d_7
  generalize w7.alloc (.cells #[.int .i64 MR2, .slice os XR2.length cs] 42) = w8 at f_8 h_8 c_8 d_8 s_8 HB8 ⊢
  clear rs
  have hC := sAddPlanes_c (mf) _ (xf) (mh) _ (xh) w8 f_8.2 h_8.2
  rw [HR2.out] at hC
  refine (pend3 hC).mono ?_
  clear hC
  rintro e w9 ⟨vt, rfl, ht, hb, hlt⟩
  have f_9 := f_8.below hb
  have h_9 := h_8.below hb
  have c_9 := c_8.below hb
  have d_9 := d_8.below hb
  have s_9 := s_8.below hb
  have HB9 := HB8.trans (hb.mono HB8.size)
  clear f_8 h_8 c_8 d_8 s_8 HB8 hb
  obtain ⟨ot, ct, rfl⟩ := ht.shape
  have rt := ht.rd
  clear ht
  clear hlt
  have hq1 : (CR1 != CR1) = false := by simp
  have hq2 : (CR2 != CR2) = false := by simp
  obtain ⟨⟨qc0, qc1⟩, -⟩ := id c_9
  have lc := c_9.lt
  obtain ⟨⟨qd0, qd1⟩, -⟩ := id d_9
  have ld := d_9.lt
  go_wp2_with fail
  clear lc qc0 qc1
  clear ld qd0 qd1
  have t_10 := (PB.mk1 w9 (MR2) (.slice ot XR2.length ct) (XR2) rt 42).below (w' := w9.alloc (.cells #[.int .i64 MR2, .slice ot XR2.length ct] 42)) (by (repeat (first | exact Below.refl _ _ | (refine Below.setCell ?_ (by first | (simp; done) | (simp; omega) | omega) _) | (refine Below.alloc ?_ (by first | (simp; done) | (simp; omega) | omega) _) | (refine below_drewN ?_ _) | (refine Below.drew ?_))))
  have hbk0 : w9.heap.size = w9.heap.size := by simp
  rw [hbk0] at t_10
  clear hbk0
  have hb : Below w9.heap.size w9 (w9.alloc (.cells #[.int .i64 MR2, .slice ot XR2.length ct] 42)) := (by (repeat (first | exact Below.refl _ _ | (refine Below.setCell ?_ (by first | (simp; done) | (simp; omega) | omega) _) | (refine Below.alloc ?_ (by first | (simp; done) | (simp; omega) | omega) _) | (refine below_drewN ?_ _) | (refine Below.drew ?_))))
  have f_10 := f_9.below hb
  have h_10 := h_9.below hb
  have c_10 := c_9.below hb
  have d_10 := d_9.below hb
  have s_10 := s_9.below hb
  have HB10 := HB9.trans (hb.mono HB9.size)
  clear hb HB9 f_9 h_9 c_9 d_9 s_9
  generalize w9.alloc (.cells #[.int .i64 MR2, .slice ot XR2.length ct] 42) = w10 at f_10 h_10 c_10 d_10 s_10 t_10 HB10 ⊢
  clear rt
  refine (plane5_same (MR1) _ _ (XR1) _ c_10.2 d_10.2).mono ?_
  rintro e w11 ⟨rfl, hb⟩
  have f_11 := f_10.below hb
  have h_11 := h_10.below hb
  have c_11 := c_10.below hb
  have d_11 := d_10.below hb
  have s_11 := s_10.below hb
  have t_11 := t_10.below hb
  have HB11 := HB10.trans (hb.mono HB10.size)
  clear f_10 h_10 c_10 d_10 s_10 t_10 HB10 hb
  clear d_11
  obtain ⟨⟨qs0, qs1⟩, -⟩ := id s_11
  have ls := s_11.lt
  obtain ⟨⟨qt0, qt1⟩, -⟩ := id t_11
  have lt := t_11.lt
  go_wp2_with fail
  clear ls qs0 qs1
  clear lt qt0 qt1
  refine (plane5_same (MR2) _ _ (XR2) _ s_11.2 t_11.2).mono ?_
  rintro e w12 ⟨rfl, hb⟩
  have f_12 := f_11.below hb
  have h_12 := h_11.below hb
  have c_12 := c_11.below hb
  have s_12 := s_11.below hb
  have t_12 := t_11.below hb
  have HB12 := HB11.trans (hb.mono HB11.size)
  clear f_11 h_11 c_11 s_11 t_11 HB11 hb
  clear t_12
  go_upto_if 102 with fail
  go_cut [13, 14, 15, 16, 17, 18, 19, 20, 21, 22, 23, 24, 25, 26, 27, 28, 29, 30, 31, 32, 33, 34, 35, 36, 37, 38, 39, 40, 41, 42, 43, 44] from 103 to 294 (fun s13 s14 s15 s16 s17 s18 s19 s20 s21 s22 s23 s24 s25 s26 s27 s28 s29 s30 s31 s32 s33 s34 s35 s36 s37 s38 s39 s40 s41 s42 s43 s44 u => Below w0.heap.size w0 u)
  case first =>
    as_aux_lemma =>
    by_cases hc : CR1 = 0
    rotate_left
    · have hc2 : (CR1 == 0) = false := by simpa using hc
      go_wp2_with fail
      go_meet
      case rel => exact HB12
    subst hc
    have h0 : twoP mf xf mh xh = 0 := mulP_code (by rw [HR1.out])
    obtain ⟨e, hf, hh⟩ := two_IsP h0
    have e := e.symm
    subst e
    obtain ⟨T, A, Q, L, O, eT, eA, hT, e1, e2, e3, e4, e5, e6⟩ := pla_ring hf hh
    obtain ⟨f1, f2⟩ : mf = MR1 ∧ T = XR1 := by
      have e0 := HR1.out
      rw [(hf.times hh).1, eT] at e0
      exact ⟨(PR.mk.inj e0).1, (PR.mk.inj e0).2.1⟩
    obtain ⟨f3, f4⟩ : mf = MR2 ∧ A = XR2 := by
      have e0 := HR2.out
      rw [(hf.add hh).1, eA] at e0
      exact ⟨(PR.mk.inj e0).1, (PR.mk.inj e0).2.1⟩
    subst f1 f2 f3 f4
    have HF := Lib.hid hf
    have HH := Lib.hid hh
    have ET := Lib.hid eT
    have E1 := Lib.hid e1
    have E2 := Lib.hid e2
    have E3 := Lib.hid e3
    have E4 := Lib.hid e4
    have E5 := Lib.hid e5
    have E6 := Lib.hid e6
    have hmf := hf.m
    have hnf := hf.n
    clear e1 e2 e3 e4 e5 e6 eT eA HR1 HR2 h0 hf hh hT hq1 hq2
    obtain ⟨⟨qf0, qf1⟩, -⟩ := id f_12
    have lf := f_12.lt
    obtain ⟨⟨qh0, qh1⟩, -⟩ := id h_12
    have lh := h_12.lt
    go_wp2_with fail
    clear lf qf0 qf1
    clear lh qh0 qh1
    have hC := MultiplyPlanes_c (mf) _ (xh) (mf) _ (xf) w12 h_12.2 f_12.2
    rw [E1.out] at hC
    refine (pend3 hC).mono ?_
    clear hC
    rintro e w13 ⟨vt, rfl, ht, hb, hlt⟩
    have f_13 := f_12.below hb
    have h_13 := h_12.below hb
    have c_13 := c_12.below hb
    have s_13 := s_12.below hb
    have HB13 := HB12.trans (hb.mono HB12.size)
    clear f_12 h_12 c_12 s_12 HB12 hb
    obtain ⟨ot, ct, rfl⟩ := ht.shape
    have rt := ht.rd
    clear ht
    clear hlt
    obtain ⟨⟨qh0, qh1⟩, -⟩ := id h_13
    have lh := h_13.lt
    go_wp2_with fail
    clear lh qh0 qh1
    have t_14 := (PB.mk1 w13 (mf) (.slice ot T.length ct) (T) rt 42).below (w' := w13.alloc (.cells #[.int .i64 mf, .slice ot T.length ct] 42)) (by (repeat (first | exact Below.refl _ _ | (refine Below.setCell ?_ (by first | (simp; done) | (simp; omega) | omega) _) | (refine Below.alloc ?_ (by first | (simp; done) | (simp; omega) | omega) _) | (refine below_drewN ?_ _) | (refine Below.drew ?_))))
    have hbk0 : w13.heap.size = w13.heap.size := by simp
    rw [hbk0] at t_14
    clear hbk0
    have hb : Below w13.heap.size w13 (w13.alloc (.cells #[.int .i64 mf, .slice ot T.length ct] 42)) := (by (repeat (first | exact Below.refl _ _ | (refine Below.setCell ?_ (by first | (simp; done) | (simp; omega) | omega) _) | (refine Below.alloc ?_ (by first | (simp; done) | (simp; omega) | omega) _) | (refine below_drewN ?_ _) | (refine Below.drew ?_))))
    have f_14 := f_13.below hb
    have h_14 := h_13.below hb
    have c_14 := c_13.below hb
    have s_14 := s_13.below hb
    have HB14 := HB13.trans (hb.mono HB13.size)
    clear hb HB13 f_13 h_13 c_13 s_13
    generalize w13.alloc (.cells #[.int .i64 mf, .slice ot T.length ct] 42) = w14 at f_14 h_14 c_14 s_14 t_14 HB14 ⊢
    clear rt
    have hC := MultiplyPlanes_c (mf) _ (xh) (mf) _ (xh) w14 h_14.2 h_14.2
    rw [E2.out] at hC
    refine (pend3 hC).mono ?_
    clear hC
    rintro e w15 ⟨vq, rfl, hq, hb, hlq⟩
    have f_15 := f_14.below hb
    have h_15 := h_14.below hb
    have c_15 := c_14.below hb
    have s_15 := s_14.below hb
    have t_15 := t_14.below hb
    have HB15 := HB14.trans (hb.mono HB14.size)
    clear f_14 h_14 c_14 s_14 t_14 HB14 hb
    obtain ⟨oq, cq, rfl⟩ := hq.shape
    have rq := hq.rd
    clear hq
    clear hlq
    obtain ⟨⟨qs0, qs1⟩, -⟩ := id s_15
    have ls := s_15.lt
    obtain ⟨⟨qh0, qh1⟩, -⟩ := id h_15
    have lh := h_15.lt
    go_wp2_with fail
    clear ls qs0 qs1
    clear lh qh0 qh1
    have q_16 := (PB.mk1 w15 (mf) (.slice oq Q.length cq) (Q) rq 42).below (w' := w15.alloc (.cells #[.int .i64 mf, .slice oq Q.length cq] 42)) (by (repeat (first | exact Below.refl _ _ | (refine Below.setCell ?_ (by first | (simp; done) | (simp; omega) | omega) _) | (refine Below.alloc ?_ (by first | (simp; done) | (simp; omega) | omega) _) | (refine below_drewN ?_ _) | (refine Below.drew ?_))))
    have hbk0 : w15.heap.size = w15.heap.size := by simp
    rw [hbk0] at q_16
    clear hbk0
    have hb : Below w15.heap.size w15 (w15.alloc (.cells #[.int .i64 mf, .slice oq Q.length cq] 42)) := (by (repeat (first | exact Below.refl _ _ | (refine Below.setCell ?_ (by first | (simp; done) | (simp; omega) | omega) _) | (refine Below.alloc ?_ (by first | (simp; done) | (simp; omega) | omega) _) | (refine below_drewN ?_ _) | (refine Below.drew ?_))))
    have f_16 := f_15.below hb
    have h_16 := h_15.below hb
    have c_16 := c_15.below hb
    have s_16 := s_15.below hb
    have t_16 := t_15.below hb
    have HB16 := HB15.trans (hb.mono HB15.size)
    clear hb HB15 f_15 h_15 c_15 s_15 t_15
    generalize w15.alloc (.cells #[.int .i64 mf, .slice oq Q.length cq] 42) = w16 at f_16 h_16 c_16 s_16 t_16 q_16 HB16 ⊢
    clear rq
    have hC := MultiplyPlanes_c (mf) _ (A) (mf) _ (xh) w16 s_16.2 h_16.2
    rw [E3.out] at hC
    refine (pend3 hC).mono ?_
    clear hC
    rintro e w17 ⟨vl, rfl, hl, hb, hll⟩
    have f_17 := f_16.below hb
    have h_17 := h_16.below hb
    have c_17 := c_16.below hb
    have s_17 := s_16.below hb
    have t_17 := t_16.below hb
    have q_17 := q_16.below hb
    have HB17 := HB16.trans (hb.mono HB16.size)
    clear f_16 h_16 c_16 s_16 t_16 q_16 HB16 hb
    obtain ⟨ol, cl, rfl⟩ := hl.shape
    have rl := hl.rd
    clear hl
    clear hll
    obtain ⟨⟨qc0, qc1⟩, -⟩ := id c_17
    have lc := c_17.lt
    obtain ⟨⟨qq0, qq1⟩, -⟩ := id q_17
    have lq := q_17.lt
    go_wp2_with fail
    clear lc qc0 qc1
    clear lq qq0 qq1
    have l_18 := (PB.mk1 w17 (mf) (.slice ol L.length cl) (L) rl 42).below (w' := w17.alloc (.cells #[.int .i64 mf, .slice ol L.length cl] 42)) (by (repeat (first | exact Below.refl _ _ | (refine Below.setCell ?_ (by first | (simp; done) | (simp; omega) | omega) _) | (refine Below.alloc ?_ (by first | (simp; done) | (simp; omega) | omega) _) | (refine below_drewN ?_ _) | (refine Below.drew ?_))))
    have hbk0 : w17.heap.size = w17.heap.size := by simp
    rw [hbk0] at l_18
    clear hbk0
    have hb : Below w17.heap.size w17 (w17.alloc (.cells #[.int .i64 mf, .slice ol L.length cl] 42)) := (by (repeat (first | exact Below.refl _ _ | (refine Below.setCell ?_ (by first | (simp; done) | (simp; omega) | omega) _) | (refine Below.alloc ?_ (by first | (simp; done) | (simp; omega) | omega) _) | (refine below_drewN ?_ _) | (refine Below.drew ?_))))
    have f_18 := f_17.below hb
    have h_18 := h_17.below hb
    have c_18 := c_17.below hb
    have s_18 := s_17.below hb
    have t_18 := t_17.below hb
    have q_18 := q_17.below hb
    have HB18 := HB17.trans (hb.mono HB17.size)
    clear hb HB17 f_17 h_17 c_17 s_17 t_17 q_17
    generalize w17.alloc (.cells #[.int .i64 mf, .slice ol L.length cl] 42) = w18 at f_18 h_18 c_18 s_18 t_18 q_18 l_18 HB18 ⊢
    clear rl
    have hC := AddPlanes_c (mf) _ (T) (mf) _ (Q) w18 c_18.2 q_18.2
    rw [E4.out] at hC
    refine (pend3 hC).mono ?_
    clear hC
    rintro e w19 ⟨vr, rfl, hr, hb, hlr⟩
    have f_19 := f_18.below hb
    have h_19 := h_18.below hb
    have c_19 := c_18.below hb
    have s_19 := s_18.below hb
    have t_19 := t_18.below hb
    have q_19 := q_18.below hb
    have l_19 := l_18.below hb
    have HB19 := HB18.trans (hb.mono HB18.size)
    clear f_18 h_18 c_18 s_18 t_18 q_18 l_18 HB18 hb
    obtain ⟨or, cr, rfl⟩ := hr.shape
    have rr := hr.rd
    clear hr
    clear hlr
    obtain ⟨⟨qf0, qf1⟩, -⟩ := id f_19
    have lf := f_19.lt
    go_wp2_with fail
    clear lf qf0 qf1
    have r_20 := (PB.mk1 w19 (mf) (.slice or L.length cr) (L) rr 42).below (w' := w19.alloc (.cells #[.int .i64 mf, .slice or L.length cr] 42)) (by (repeat (first | exact Below.refl _ _ | (refine Below.setCell ?_ (by first | (simp; done) | (simp; omega) | omega) _) | (refine Below.alloc ?_ (by first | (simp; done) | (simp; omega) | omega) _) | (refine below_drewN ?_ _) | (refine Below.drew ?_))))
    have hbk0 : w19.heap.size = w19.heap.size := by simp
    rw [hbk0] at r_20
    clear hbk0
    have hb : Below w19.heap.size w19 (w19.alloc (.cells #[.int .i64 mf, .slice or L.length cr] 42)) := (by (repeat (first | exact Below.refl _ _ | (refine Below.setCell ?_ (by first | (simp; done) | (simp; omega) | omega) _) | (refine Below.alloc ?_ (by first | (simp; done) | (simp; omega) | omega) _) | (refine below_drewN ?_ _) | (refine Below.drew ?_))))
    have f_20 := f_19.below hb
    have h_20 := h_19.below hb
    have c_20 := c_19.below hb
    have s_20 := s_19.below hb
    have t_20 := t_19.below hb
    have q_20 := q_19.below hb
    have l_20 := l_19.below hb
    have HB20 := HB19.trans (hb.mono HB19.size)
    clear hb HB19 f_19 h_19 c_19 s_19 t_19 q_19 l_19
    generalize w19.alloc (.cells #[.int .i64 mf, .slice or L.length cr] 42) = w20 at f_20 h_20 c_20 s_20 t_20 q_20 l_20 r_20 HB20 ⊢
    clear rr
    have hC := TurnPlane_c (mf) _ (xf) w20 f_20.2
    rw [E5.out] at hC
    refine (pend3 hC).mono ?_
    clear hC
    rintro e w21 ⟨vo, rfl, ho, hb, hlo⟩
    have f_21 := f_20.below hb
    have h_21 := h_20.below hb
    have c_21 := c_20.below hb
    have s_21 := s_20.below hb
    have t_21 := t_20.below hb
    have q_21 := q_20.below hb
    have l_21 := l_20.below hb
    have r_21 := r_20.below hb
    have HB21 := HB20.trans (hb.mono HB20.size)
    clear f_20 h_20 c_20 s_20 t_20 q_20 l_20 r_20 HB20 hb
    obtain ⟨oo, co, rfl⟩ := ho.shape
    have ro := ho.rd
    clear ho
    clear hlo
    go_wp2_with fail
    have o_22 := (PB.mk1 w21 (mf) (.slice oo O.length co) (O) ro 42).below (w' := w21.alloc (.cells #[.int .i64 mf, .slice oo O.length co] 42)) (by (repeat (first | exact Below.refl _ _ | (refine Below.setCell ?_ (by first | (simp; done) | (simp; omega) | omega) _) | (refine Below.alloc ?_ (by first | (simp; done) | (simp; omega) | omega) _) | (refine below_drewN ?_ _) | (refine Below.drew ?_))))
    have hbk0 : w21.heap.size = w21.heap.size := by simp
    rw [hbk0] at o_22
    clear hbk0
    have hb : Below w21.heap.size w21 (w21.alloc (.cells #[.int .i64 mf, .slice oo O.length co] 42)) := (by (repeat (first | exact Below.refl _ _ | (refine Below.setCell ?_ (by first | (simp; done) | (simp; omega) | omega) _) | (refine Below.alloc ?_ (by first | (simp; done) | (simp; omega) | omega) _) | (refine below_drewN ?_ _) | (refine Below.drew ?_))))
    have f_22 := f_21.below hb
    have h_22 := h_21.below hb
    have c_22 := c_21.below hb
    have s_22 := s_21.below hb
    have t_22 := t_21.below hb
    have q_22 := q_21.below hb
    have l_22 := l_21.below hb
    have r_22 := r_21.below hb
    have HB22 := HB21.trans (hb.mono HB21.size)
    clear hb HB21 f_21 h_21 c_21 s_21 t_21 q_21 l_21 r_21
    generalize w21.alloc (.cells #[.int .i64 mf, .slice oo O.length co] 42) = w22 at f_22 h_22 c_22 s_22 t_22 q_22 l_22 r_22 o_22 HB22 ⊢
    clear ro
    clear q_22
    clear s_22
    have hC := TurnPlane_c (mf) _ (O) w22 o_22.2
    rw [E6.out] at hC
    refine (pend3 hC).mono ?_
    clear hC
    rintro e w23 ⟨vu, rfl, hu, hb, hlu⟩
    have f_23 := f_22.below hb
    have h_23 := h_22.below hb
    have c_23 := c_22.below hb
    have t_23 := t_22.below hb
    have l_23 := l_22.below hb
    have r_23 := r_22.below hb
    have o_23 := o_22.below hb
    have HB23 := HB22.trans (hb.mono HB22.size)
    clear f_22 h_22 c_22 t_22 l_22 r_22 o_22 HB22 hb
    obtain ⟨ou, cu, rfl⟩ := hu.shape
    have ru := hu.rd
    clear hu
    clear hlu
    obtain ⟨⟨qt0, qt1⟩, -⟩ := id t_23
    have lt := t_23.lt
    obtain ⟨⟨qc0, qc1⟩, -⟩ := id c_23
    have lc := c_23.lt
    go_wp2_with fail
    clear lt qt0 qt1
    clear lc qc0 qc1
    have u_24 := (PB.mk1 w23 (mf) (.slice ou xf.length cu) (xf) ru 42).below (w' := w23.alloc (.cells #[.int .i64 mf, .slice ou xf.length cu] 42)) (by (repeat (first | exact Below.refl _ _ | (refine Below.setCell ?_ (by first | (simp; done) | (simp; omega) | omega) _) | (refine Below.alloc ?_ (by first | (simp; done) | (simp; omega) | omega) _) | (refine below_drewN ?_ _) | (refine Below.drew ?_))))
    have hbk0 : w23.heap.size = w23.heap.size := by simp
    rw [hbk0] at u_24
    clear hbk0
    have hb : Below w23.heap.size w23 (w23.alloc (.cells #[.int .i64 mf, .slice ou xf.length cu] 42)) := (by (repeat (first | exact Below.refl _ _ | (refine Below.setCell ?_ (by first | (simp; done) | (simp; omega) | omega) _) | (refine Below.alloc ?_ (by first | (simp; done) | (simp; omega) | omega) _) | (refine below_drewN ?_ _) | (refine Below.drew ?_))))
    have f_24 := f_23.below hb
    have h_24 := h_23.below hb
    have c_24 := c_23.below hb
    have t_24 := t_23.below hb
    have l_24 := l_23.below hb
    have r_24 := r_23.below hb
    have o_24 := o_23.below hb
    have HB24 := HB23.trans (hb.mono HB23.size)
    clear hb HB23 f_23 h_23 c_23 t_23 l_23 r_23 o_23
    generalize w23.alloc (.cells #[.int .i64 mf, .slice ou xf.length cu] 42) = w24 at f_24 h_24 c_24 t_24 l_24 r_24 o_24 u_24 HB24 ⊢
    clear ru
    clear o_24
    refine (plane5_same (mf) _ _ (T) _ t_24.2 c_24.2).mono ?_
    rintro e w25 ⟨rfl, hb⟩
    have f_25 := f_24.below hb
    have h_25 := h_24.below hb
    have c_25 := c_24.below hb
    have t_25 := t_24.below hb
    have l_25 := l_24.below hb
    have r_25 := r_24.below hb
    have u_25 := u_24.below hb
    have HB25 := HB24.trans (hb.mono HB24.size)
    clear f_24 h_24 c_24 t_24 l_24 r_24 u_24 HB24 hb
    clear t_25
    obtain ⟨⟨ql0, ql1⟩, -⟩ := id l_25
    have ll := l_25.lt
    obtain ⟨⟨qr0, qr1⟩, -⟩ := id r_25
    have lr := r_25.lt
    go_wp2_with fail
    clear ll ql0 ql1
    clear lr qr0 qr1
    refine (plane5_same (mf) _ _ (L) _ l_25.2 r_25.2).mono ?_
    rintro e w26 ⟨rfl, hb⟩
    have f_26 := f_25.below hb
    have h_26 := h_25.below hb
    have c_26 := c_25.below hb
    have l_26 := l_25.below hb
    have r_26 := r_25.below hb
    have u_26 := u_25.below hb
    have HB26 := HB25.trans (hb.mono HB25.size)
    clear f_25 h_25 c_25 l_25 r_25 u_25 HB25 hb
    clear l_26
    clear r_26
    obtain ⟨⟨qu0, qu1⟩, -⟩ := id u_26
    have lu := u_26.lt
    obtain ⟨⟨qf0, qf1⟩, -⟩ := id f_26
    have lf := f_26.lt
    go_wp2_with fail
    clear lu qu0 qu1
    clear lf qf0 qf1
    refine (plane5_same (mf) _ _ (xf) _ u_26.2 f_26.2).mono ?_
    rintro e w27 ⟨rfl, hb⟩
    have f_27 := f_26.below hb
    have h_27 := h_26.below hb
    have c_27 := c_26.below hb
    have u_27 := u_26.below hb
    have HB27 := HB26.trans (hb.mono HB26.size)
    clear f_26 h_26 c_26 u_26 HB26 hb
    clear u_27
    obtain ⟨⟨qf0, qf1⟩, -⟩ := id f_27
    have lf := f_27.lt
    go_upto_if 180 with fail
    clear lf qf0 qf1
    go_cut [25, 26, 27, 28, 29, 30, 31, 32] from 180 to 220 (fun s25 s26 s27 s28 s29 s30 s31 s32 u => Below w27.heap.size w27 u)
    case first =>
      as_aux_lemma =>
      have HK27 := Below.refl w27.heap.size w27
      by_cases hl3 : 3 < xf.length
      rotate_left
      · have hc2 : ¬ (3 : Int) < (xf.length : Int) := by omega
        go_wp2_with fail
        go_meet
        case rel => exact HK27
      have hc2 : (3 : Int) < (xf.length : Int) := by omega
      obtain ⟨X, Y, Z, e1, e2, e3, e4⟩ := pla_par HF.out hl3
      have F1 := Lib.hid e1
      have F2 := Lib.hid e2
      have F3 := Lib.hid e3
      have F4 := Lib.hid e4
      clear e1 e2 e3 e4 hl3
      obtain ⟨⟨qf0, qf1⟩, -⟩ := id f_27
      have lf := f_27.lt
      go_wp2_with fail
      clear lf qf0 qf1
      clear hc2
      have hC := PartialPlane_c (mf) (0) _ (xf) w27 f_27.2
      rw [F1.out] at hC
      refine (pend3 hC).mono ?_
      clear hC
      rintro e w28 ⟨vx, rfl, hx, hb, hlx⟩
      have f_28 := f_27.below hb
      have h_28 := h_27.below hb
      have c_28 := c_27.below hb
      have HB28 := HB27.trans (hb.mono HB27.size)
      have HK28 := HK27.trans (hb.mono HK27.size)
      clear f_27 h_27 c_27 HK27 HB27 hb
      obtain ⟨ox, cx, rfl⟩ := hx.shape
      have rx := hx.rd
      clear hx
      clear hlx
      go_wp2_with fail
      have x_29 := (PB.mk1 w28 (mf) (.slice ox X.length cx) (X) rx 42).below (w' := w28.alloc (.cells #[.int .i64 mf, .slice ox X.length cx] 42)) (by (repeat (first | exact Below.refl _ _ | (refine Below.setCell ?_ (by first | (simp; done) | (simp; omega) | omega) _) | (refine Below.alloc ?_ (by first | (simp; done) | (simp; omega) | omega) _) | (refine below_drewN ?_ _) | (refine Below.drew ?_))))
      have hbk0 : w28.heap.size = w28.heap.size := by simp
      rw [hbk0] at x_29
      clear hbk0
      have hb : Below w28.heap.size w28 (w28.alloc (.cells #[.int .i64 mf, .slice ox X.length cx] 42)) := (by (repeat (first | exact Below.refl _ _ | (refine Below.setCell ?_ (by first | (simp; done) | (simp; omega) | omega) _) | (refine Below.alloc ?_ (by first | (simp; done) | (simp; omega) | omega) _) | (refine below_drewN ?_ _) | (refine Below.drew ?_))))
      have f_29 := f_28.below hb
      have h_29 := h_28.below hb
      have c_29 := c_28.below hb
      have HB29 := HB28.trans (hb.mono HB28.size)
      have HK29 := HK28.trans (hb.mono HK28.size)
      clear hb HB28 f_28 h_28 c_28 HK28
      generalize w28.alloc (.cells #[.int .i64 mf, .slice ox X.length cx] 42) = w29 at f_29 h_29 c_29 x_29 HB29 HK29 ⊢
      clear rx
      have hC := PartialPlane_c (mf) (1) _ (X) w29 x_29.2
      rw [F2.out] at hC
      refine (pend3 hC).mono ?_
      clear hC
      rintro e w30 ⟨vz, rfl, hz, hb, hlz⟩
      have f_30 := f_29.below hb
      have h_30 := h_29.below hb
      have c_30 := c_29.below hb
      have x_30 := x_29.below hb
      have HB30 := HB29.trans (hb.mono HB29.size)
      have HK30 := HK29.trans (hb.mono HK29.size)
      clear f_29 h_29 c_29 x_29 HK29 HB29 hb
      obtain ⟨oz, cz, rfl⟩ := hz.shape
      have rz := hz.rd
      clear hz
      clear hlz
      obtain ⟨⟨qf0, qf1⟩, -⟩ := id f_30
      have lf := f_30.lt
      go_wp2_with fail
      clear lf qf0 qf1
      have z_31 := (PB.mk1 w30 (mf) (.slice oz Z.length cz) (Z) rz 42).below (w' := w30.alloc (.cells #[.int .i64 mf, .slice oz Z.length cz] 42)) (by (repeat (first | exact Below.refl _ _ | (refine Below.setCell ?_ (by first | (simp; done) | (simp; omega) | omega) _) | (refine Below.alloc ?_ (by first | (simp; done) | (simp; omega) | omega) _) | (refine below_drewN ?_ _) | (refine Below.drew ?_))))
      have hbk0 : w30.heap.size = w30.heap.size := by simp
      rw [hbk0] at z_31
      clear hbk0
      have hb : Below w30.heap.size w30 (w30.alloc (.cells #[.int .i64 mf, .slice oz Z.length cz] 42)) := (by (repeat (first | exact Below.refl _ _ | (refine Below.setCell ?_ (by first | (simp; done) | (simp; omega) | omega) _) | (refine Below.alloc ?_ (by first | (simp; done) | (simp; omega) | omega) _) | (refine below_drewN ?_ _) | (refine Below.drew ?_))))
      have f_31 := f_30.below hb
      have h_31 := h_30.below hb
      have c_31 := c_30.below hb
      have x_31 := x_30.below hb
      have HB31 := HB30.trans (hb.mono HB30.size)
      have HK31 := HK30.trans (hb.mono HK30.size)
      clear hb HB30 f_30 h_30 c_30 x_30 HK30
      generalize w30.alloc (.cells #[.int .i64 mf, .slice oz Z.length cz] 42) = w31 at f_31 h_31 c_31 x_31 z_31 HB31 HK31 ⊢
      clear rz
      have hC := PartialPlane_c (mf) (1) _ (xf) w31 f_31.2
      rw [F3.out] at hC
      refine (pend3 hC).mono ?_
      clear hC
      rintro e w32 ⟨vy, rfl, hy, hb, hly⟩
      have f_32 := f_31.below hb
      have h_32 := h_31.below hb
      have c_32 := c_31.below hb
      have x_32 := x_31.below hb
      have z_32 := z_31.below hb
      have HB32 := HB31.trans (hb.mono HB31.size)
      have HK32 := HK31.trans (hb.mono HK31.size)
      clear f_31 h_31 c_31 x_31 z_31 HK31 HB31 hb
      obtain ⟨oy, cy, rfl⟩ := hy.shape
      have ry := hy.rd
      clear hy
      clear hly
      go_wp2_with fail
      have y_33 := (PB.mk1 w32 (mf) (.slice oy Y.length cy) (Y) ry 42).below (w' := w32.alloc (.cells #[.int .i64 mf, .slice oy Y.length cy] 42)) (by (repeat (first | exact Below.refl _ _ | (refine Below.setCell ?_ (by first | (simp; done) | (simp; omega) | omega) _) | (refine Below.alloc ?_ (by first | (simp; done) | (simp; omega) | omega) _) | (refine below_drewN ?_ _) | (refine Below.drew ?_))))
      have hbk0 : w32.heap.size = w32.heap.size := by simp
      rw [hbk0] at y_33
      clear hbk0
      have hb : Below w32.heap.size w32 (w32.alloc (.cells #[.int .i64 mf, .slice oy Y.length cy] 42)) := (by (repeat (first | exact Below.refl _ _ | (refine Below.setCell ?_ (by first | (simp; done) | (simp; omega) | omega) _) | (refine Below.alloc ?_ (by first | (simp; done) | (simp; omega) | omega) _) | (refine below_drewN ?_ _) | (refine Below.drew ?_))))
      have f_33 := f_32.below hb
      have h_33 := h_32.below hb
      have c_33 := c_32.below hb
      have x_33 := x_32.below hb
      have z_33 := z_32.below hb
      have HB33 := HB32.trans (hb.mono HB32.size)
      have HK33 := HK32.trans (hb.mono HK32.size)
      clear hb HB32 f_32 h_32 c_32 x_32 z_32 HK32
      generalize w32.alloc (.cells #[.int .i64 mf, .slice oy Y.length cy] 42) = w33 at f_33 h_33 c_33 x_33 z_33 y_33 HB33 HK33 ⊢
      clear ry
      have hC := PartialPlane_c (mf) (0) _ (Y) w33 y_33.2
      rw [F4.out] at hC
      refine (pend3 hC).mono ?_
      clear hC
      rintro e w34 ⟨vp, rfl, hp, hb, hlp⟩
      have f_34 := f_33.below hb
      have h_34 := h_33.below hb
      have c_34 := c_33.below hb
      have x_34 := x_33.below hb
      have z_34 := z_33.below hb
      have y_34 := y_33.below hb
      have HB34 := HB33.trans (hb.mono HB33.size)
      have HK34 := HK33.trans (hb.mono HK33.size)
      clear f_33 h_33 c_33 x_33 z_33 y_33 HK33 HB33 hb
      obtain ⟨op, cp, rfl⟩ := hp.shape
      have rp := hp.rd
      clear hp
      clear hlp
      obtain ⟨⟨qz0, qz1⟩, -⟩ := id z_34
      have lz := z_34.lt
      go_wp2_with fail
      clear lz qz0 qz1
      have p_35 := (PB.mk1 w34 (mf) (.slice op Z.length cp) (Z) rp 42).below (w' := w34.alloc (.cells #[.int .i64 mf, .slice op Z.length cp] 42)) (by (repeat (first | exact Below.refl _ _ | (refine Below.setCell ?_ (by first | (simp; done) | (simp; omega) | omega) _) | (refine Below.alloc ?_ (by first | (simp; done) | (simp; omega) | omega) _) | (refine below_drewN ?_ _) | (refine Below.drew ?_))))
      have hbk0 : w34.heap.size = w34.heap.size := by simp
      rw [hbk0] at p_35
      clear hbk0
      have hb : Below w34.heap.size w34 (w34.alloc (.cells #[.int .i64 mf, .slice op Z.length cp] 42)) := (by (repeat (first | exact Below.refl _ _ | (refine Below.setCell ?_ (by first | (simp; done) | (simp; omega) | omega) _) | (refine Below.alloc ?_ (by first | (simp; done) | (simp; omega) | omega) _) | (refine below_drewN ?_ _) | (refine Below.drew ?_))))
      have f_35 := f_34.below hb
      have h_35 := h_34.below hb
      have c_35 := c_34.below hb
      have x_35 := x_34.below hb
      have z_35 := z_34.below hb
      have y_35 := y_34.below hb
      have HB35 := HB34.trans (hb.mono HB34.size)
      have HK35 := HK34.trans (hb.mono HK34.size)
      clear hb HB34 f_34 h_34 c_34 x_34 z_34 y_34 HK34
      generalize w34.alloc (.cells #[.int .i64 mf, .slice op Z.length cp] 42) = w35 at f_35 h_35 c_35 x_35 z_35 y_35 p_35 HB35 HK35 ⊢
      clear rp
      refine (plane5_same (mf) _ _ (Z) _ z_35.2 p_35.2).mono ?_
      rintro e w36 ⟨rfl, hb⟩
      have f_36 := f_35.below hb
      have h_36 := h_35.below hb
      have c_36 := c_35.below hb
      have x_36 := x_35.below hb
      have z_36 := z_35.below hb
      have y_36 := y_35.below hb
      have p_36 := p_35.below hb
      have HB36 := HB35.trans (hb.mono HB35.size)
      have HK36 := HK35.trans (hb.mono HK35.size)
      clear f_35 h_35 c_35 x_35 z_35 y_35 p_35 HK35 HB35 hb
      go_wp2_with fail
      go_meet
      case rel => exact HK36
    case rest =>
      obtain ⟨w37, rfl⟩ : ∃ u, u = wc := ⟨_, rfl⟩
      have f_37 := f_27.below hcut
      have h_37 := h_27.below hcut
      have c_37 := c_27.below hcut
      have HB37 := HB27.trans (hcut.mono HB27.size)
      clear hcut HB27 f_27 h_27 c_27
      go_wp2_with fail
      refine (roll_c w0.heap.size n _ 961 w37 (HV.out.keep (fun j hj => HB37.block j hj)) HB37.size).mono ?_
      rintro e w38 ⟨d, rfl, hs, hb⟩
      have hbd := hs.1
      have hbL := hb
      have hsL := hs.lt
      have fL := f_37
      have hL := h_37
      have cL := c_37
      have HBL := HB37
      have f_38 := f_37.below hb
      have h_38 := h_37.below hb
      have c_38 := c_37.below hb
      have HB38 := HB37.trans (hb.mono HB37.size)
      clear f_37 h_37 c_37 HB37 hb
      have hD_38 := DW.refl hs
      clear hs
      obtain ⟨⟨qf0, qf1⟩, -⟩ := id f_38
      have lf := f_38.lt
      go_upto_region 28 with fail
      clear lf qf0 qf1
      obtain ⟨N, hN⟩ : ∃ N, xf.length = N + 1 := ⟨xf.length - 1, by omega⟩
      have n1 : 1 ≤ N := by omega
      have n2 : N ≤ 10 := by omega
      have HN := Lib.hid hN
      have e9 : IntKind.i64.wrap ((xf.length : Int) - 1) = (xf.length : Int) - 1 := IntWalk.i64_in _ (by omega)
      clear hN
      clear HB38 f_38 h_38 c_38
      go_cut [35] from 226 to 236 (fun s u => ∃ (wz : World) (bz hi : Nat) (o : Option Addr) (c : Nat) (ys : List Int), wz = u ∧ s = .pointer (some ⟨bz, 0, none⟩) ∧ hi = u.heap.size ∧ (ys.length = N ∧ ∀ y ∈ ys, 0 ≤ y ∧ y < mf) ∧ Rds w38.heap.size hi u (fun x => SB x bz mf (.slice o (N + 1) c) (0 :: ys)) ∧ DW w37.heap.size n d w38 u)
      case first =>
        as_aux_lemma =>
        have hDc := hD_38
        have hdl := hDc.lt
        have hzc := hDc.size
        obtain ⟨⟨f0, f1⟩, -⟩ := fL.below (hDc.out hbL hbd)
        have hd0 : Below w38.heap.size w38 w38.drew := (Below.refl _ _).drew
        refine wp_region_K (S := fun w' => w'.cell? ⟨w1.heap.size, 0, none⟩ = some (.int .i64 mf)) [10, 12] (by as_aux_lemma => kernel_rfl) ?_
        have hHeld : (fun w' : World => w'.cell? ⟨w1.heap.size, 0, none⟩ = some (.int .i64 mf)) w38.drew := by go_keep
        refine' wpAnyK_takeL (i := 0) (v := _) rfl (by as_aux_lemma => kernel_rfl) (by as_aux_lemma => kernel_rfl) (by as_aux_lemma => kernel_rfl) (by as_aux_lemma => kernel_rfl) (fun _ _ _ h => h) (Or.inl ⟨by rfl, ?yT1⟩) hHeld ?rT1
        case yT1 => (intro w' hSw; (try dsimp only at hSw); go_simp; try with_reducible rfl)
        try simp only [List.getElem_toArray, List.getElem_cons_zero, List.getElem_cons_succ, Act.put, List.setIfInBounds_toArray, List.set_cons_zero, List.set_cons_succ]
        refine' wpAnyK_takeL (i := 1) (v := _) rfl (by as_aux_lemma => kernel_rfl) (by as_aux_lemma => kernel_rfl) (by as_aux_lemma => kernel_rfl) (by as_aux_lemma => kernel_rfl) (fun _ _ _ h => h) (Or.inl ⟨by rfl, ?yT2⟩) hHeld ?rT2
        case yT2 => (intro w' hSw; (try dsimp only at hSw); go_simp; try with_reducible rfl)
        try simp only [List.getElem_toArray, List.getElem_cons_zero, List.getElem_cons_succ, Act.put, List.setIfInBounds_toArray, List.set_cons_zero, List.set_cons_succ]
        refine' wpAnyK_takeL (i := 3) (v := _) rfl (by as_aux_lemma => kernel_rfl) (by as_aux_lemma => kernel_rfl) (by as_aux_lemma => kernel_rfl) (by as_aux_lemma => kernel_rfl) (fun _ _ _ h => h) (Or.inl ⟨by rfl, ?yT3⟩) hHeld ?rT3
        case yT3 => (intro w' hSw; (try dsimp only at hSw); go_simp; try with_reducible rfl)
        try simp only [List.getElem_toArray, List.getElem_cons_zero, List.getElem_cons_succ, Act.put, List.setIfInBounds_toArray, List.set_cons_zero, List.set_cons_succ]
        refine' wpAnyK_takeL (i := 4) (v := _) rfl (by as_aux_lemma => kernel_rfl) (by as_aux_lemma => kernel_rfl) (by as_aux_lemma => kernel_rfl) (by as_aux_lemma => kernel_rfl) (fun _ _ _ h => h) (Or.inl ⟨by rfl, ?yT4⟩) hHeld ?rT4
        case yT4 => (intro w' hSw; (try dsimp only at hSw); go_simp; try with_reducible rfl)
        try simp only [List.getElem_toArray, List.getElem_cons_zero, List.getElem_cons_succ, Act.put, List.setIfInBounds_toArray, List.set_cons_zero, List.set_cons_succ]
        refine' wpAnyK_takeL (i := 5) (v := _) rfl (by as_aux_lemma => kernel_rfl) (by as_aux_lemma => kernel_rfl) (by as_aux_lemma => kernel_rfl) (by as_aux_lemma => kernel_rfl) (fun _ _ _ h => h) (Or.inl ⟨by rfl, ?yT5⟩) hHeld ?rT5
        case yT5 => (intro w' hSw; (try dsimp only at hSw); go_simp; try with_reducible rfl)
        try simp only [List.getElem_toArray, List.getElem_cons_zero, List.getElem_cons_succ, Act.put, List.setIfInBounds_toArray, List.set_cons_zero, List.set_cons_succ]
        refine' wpAnyK_takeL (i := 6) (v := _) rfl (by as_aux_lemma => kernel_rfl) (by as_aux_lemma => kernel_rfl) (by as_aux_lemma => kernel_rfl) (by as_aux_lemma => kernel_rfl) (fun _ _ _ h => h) (Or.inl ⟨by rfl, ?yT6⟩) hHeld ?rT6
        case yT6 => (intro w' hSw; (try dsimp only at hSw); go_simp; try with_reducible rfl)
        try simp only [List.getElem_toArray, List.getElem_cons_zero, List.getElem_cons_succ, Act.put, List.setIfInBounds_toArray, List.set_cons_zero, List.set_cons_succ]
        refine' wpAnyK_takeL (i := 7) (v := _) rfl (by as_aux_lemma => kernel_rfl) (by as_aux_lemma => kernel_rfl) (by as_aux_lemma => kernel_rfl) (by as_aux_lemma => kernel_rfl) (fun _ _ _ h => h) (Or.inl ⟨by rfl, ?yT7⟩) hHeld ?rT7
        case yT7 => (intro w' hSw; (try dsimp only at hSw); go_simp; try with_reducible rfl)
        try simp only [List.getElem_toArray, List.getElem_cons_zero, List.getElem_cons_succ, Act.put, List.setIfInBounds_toArray, List.set_cons_zero, List.set_cons_succ]
        refine wpAnyK_three (i := 2) (j := 8) (k := 11) (by as_aux_lemma => kernel_rfl) rfl rfl rfl (fun K hK => ?_) (fun K hK => ?_) (fun K hK => ?_)
        · as_aux_lemma =>
          go_simp
          obtain ⟨wl, hwl⟩ : ∃ x : World, x = (w38.alloc (.cells #[.int .i64 0] 2)).drew := ⟨_, rfl⟩
          have hbl : Below (w38).heap.size (w38) wl := by rw [hwl]; exact (by (repeat (first | exact Below.refl _ _ | (refine Below.setCell ?_ (by first | (simp; done) | (simp; omega) | omega) _) | (refine Below.alloc ?_ (by first | (simp; done) | (simp; omega) | omega) _) | (refine below_drewN ?_ _) | (refine Below.drew ?_))))
          have A2 : OwI wl w38.heap.size (.slice (some ⟨w38.heap.size, 0, none⟩) 1 1) [0] := by rw [hwl]; exact OwI.lit (w38) [0] (by simp [maxLen])
          have z2 : w38.heap.size < wl.heap.size := by rw [hwl]; simp
          have q2 : w38.heap.size ≤ w38.heap.size := hDc.size
          have hDc := hDc.below hbl
          (try have R8 := R8.below hbl)
          (try have X11 := X11.below hbl (Nat.le_refl _))
          obtain ⟨⟨f0, f1⟩, -⟩ := fL.below (hDc.out hbL hbd)
          rw [← hwl]
          clear hwl
          clear hHeld
          have hHeld : (fun w' : World => w'.cell? ⟨w1.heap.size, 0, none⟩ = some (.int .i64 mf)) wl := by go_keep
          refine hK.out _ _ (fun _ => hHeld) ?_
          clear hK K
          try simp only [List.getElem_toArray, List.getElem_cons_zero, List.getElem_cons_succ, Act.put, List.setIfInBounds_toArray, List.set_cons_zero, List.set_cons_succ]
          refine wpAnyK_two (i := 8) (j := 11) rfl rfl (by as_aux_lemma => kernel_rfl) (fun K hK => ?_) (fun K hK => ?_)
          · as_aux_lemma =>
            go_simp
            go_at_call 53
            refine (below5_i w37.heap.size n d mf ((xf.length : Int) - 1) N (wl) (by first | exact hDc.src | exact hDc.drew.src) (by have := HN.out; omega) (by omega) (by have := HN.out; omega)).mono ?_
            rintro e w8 ⟨v8, ys, rfl, R8, hys, hdd⟩
            obtain ⟨g8, c8, rfl⟩ := row_of R8 hys.1 (by omega)
            have HYS := Lib.hid hys
            clear hys
            have hDc : DW w37.heap.size n d w38 w8 := by first | exact hDc.trans hdd | exact hDc.drew.trans hdd
            have z8 : wl.heap.size ≤ w8.heap.size := hdd.size
            (try have A2 := A2.dw hdd (by omega))
            (try have X11 := X11.dw hdd (by omega))
            obtain ⟨⟨f0, f1⟩, -⟩ := fL.below (hDc.out hbL hbd)
            clear hdd
            go_wp2_with fail
            clear hHeld
            have hHeld : (fun w' : World => w'.cell? ⟨w1.heap.size, 0, none⟩ = some (.int .i64 mf)) w8 := by go_keep
            refine hK.out _ _ (fun _ => hHeld) ?_
            clear hK K
            try simp only [List.getElem_toArray, List.getElem_cons_zero, List.getElem_cons_succ, Act.put, List.setIfInBounds_toArray, List.set_cons_zero, List.set_cons_succ]
            refine wpAnyK_two (i := 9) (j := 11) rfl rfl (by as_aux_lemma => kernel_rfl) (fun K hK => ?_) (fun K hK => ?_)
            · as_aux_lemma =>
              have hA2l := A2.lt
              refine stR _ rfl _ _ rfl w38.heap.size (.slice (some ⟨w38.heap.size, 0, none⟩) 1 1) [0] rfl A2 ⟨g8, 0, none⟩ N c8 ys rfl R8.rd (by have := HYS.out.1; simp; omega) (by omega) ?_
              intro o9 c9 w9 hO9 hgr hb9
              rw [show ([(0 : Int)] ++ ys).length = N + 1 by have := HYS.out.1; simp; omega] at hO9 ⊢
              have z9 : w8.heap.size ≤ w9.heap.size := hgr.size
              have hDc := hDc.grown hgr (fun j hj => by have := hA2l j hj; omega)
              skip
              obtain ⟨⟨f0, f1⟩, -⟩ := fL.below (hDc.out hbL hbd)
              clear hgr hb9
              clear hHeld
              have hHeld : (fun w' : World => w'.cell? ⟨w1.heap.size, 0, none⟩ = some (.int .i64 mf)) w9 := by go_keep
              refine hK.out _ _ (fun _ => hHeld) ?_
              clear hK K
              try simp only [List.getElem_toArray, List.getElem_cons_zero, List.getElem_cons_succ, Act.put, List.setIfInBounds_toArray, List.set_cons_zero, List.set_cons_succ]
              refine' wpAnyK_pureL (i := 10) (v := _) rfl (by as_aux_lemma => kernel_rfl) (by as_aux_lemma => kernel_rfl) (by as_aux_lemma => kernel_rfl) (by as_aux_lemma => kernel_rfl) (fun _ _ _ h => h) (Or.inl ⟨by rfl, ?yT8⟩) ?rT8
              case yT8 => (intro w' _; go_simp; try with_reducible rfl)
              try simp only [List.getElem_toArray, List.getElem_cons_zero, List.getElem_cons_succ, Act.put, List.setIfInBounds_toArray, List.set_cons_zero, List.set_cons_succ]
              refine wpAnyK_oneL (i := 11) rfl (by as_aux_lemma => kernel_rfl) (fun K hK => ?_)
              go_simp
              obtain ⟨wa, hwa⟩ : ∃ x : World, x = (w9).alloc (.cells #[.int .i64 0, .slice none 0 0] 26) := ⟨_, rfl⟩
              have hba : Below (w9).heap.size (w9) wa := by rw [hwa]; exact (by (repeat (first | exact Below.refl _ _ | (refine Below.setCell ?_ (by first | (simp; done) | (simp; omega) | omega) _) | (refine Below.alloc ?_ (by first | (simp; done) | (simp; omega) | omega) _) | (refine below_drewN ?_ _) | (refine Below.drew ?_))))
              have X11 : RB2 wa w9.heap.size (.int .i64 0) (.slice none 0 0) := by rw [hwa]; exact RB2.mk1 (w9) _ _ _
              have z11 : w9.heap.size < wa.heap.size := X11.1.lt
              have q11 : w38.heap.size ≤ w9.heap.size := hDc.size
              have hDc := hDc.below hba
              (try have A2 := A2.below hba)
              (try have R8 := R8.below hba)
              (try have hO9 := hO9.below hba)
              obtain ⟨⟨f0, f1⟩, -⟩ := fL.below (hDc.out hbL hbd)
              rw [← hwa]
              clear hwa
              clear hHeld
              have hHeld : (fun w' : World => w'.cell? ⟨w1.heap.size, 0, none⟩ = some (.int .i64 mf)) wa := by go_keep
              refine hK.out _ _ (fun _ => hHeld) ?_
              clear hK K
              try simp only [List.getElem_toArray, List.getElem_cons_zero, List.getElem_cons_succ, Act.put, List.setIfInBounds_toArray, List.set_cons_zero, List.set_cons_succ]
              refine wpAnyK_oneL (i := 12) rfl (by as_aux_lemma => kernel_rfl) (fun K hK => ?_)
              obtain ⟨⟨z0, z1⟩, zf⟩ := id X11
              go_simp
              (try go_wp2_with fail)
              refine hK.out _ _ (fun h => absurd h (by decide)) ?_
              clear hK K
              try simp only [List.getElem_toArray, List.getElem_cons_zero, List.getElem_cons_succ, Act.put, List.setIfInBounds_toArray, List.set_cons_zero, List.set_cons_succ]
              refine wpAnyK_done (by as_aux_lemma => kernel_rfl) ?_ _
              go_wp2_with fail
              go_meet
              obtain ⟨g9, c9', e9⟩ := row_of hO9 (N := N + 1) (by have := HYS.out.1; simp; omega) (by omega)
              obtain ⟨rfl, rfl⟩ : o9 = some ⟨g9, 0, none⟩ ∧ c9 = c9' := by simpa using e9
              have hne := own_ne hO9 (by have := HYS.out.1; simp; omega) X11.1
              have hO10 := ((hO9.ne (b := w9.heap.size) (k := 0) (fun j hj => by have e : g9 = j := (by simpa [Value.ownBlock] using hj); omega) (.int .i64 mf)).ne (b := w9.heap.size) (k := 1) (fun j hj => by have e : g9 = j := (by simpa [Value.ownBlock] using hj); omega) (.slice (some ⟨g9, 0, none⟩) (N + 1) c9)).mono (B' := w38.heap.size) q2
              have hX10 := (RB2.put X11 (.int .i64 mf) (.slice (some ⟨g9, 0, none⟩) (N + 1) c9)).1
              exact ⟨_, _, _, _, c9, ys, rfl, rfl, rfl, HYS.out, sb_rds hX10 hO10 q11 (by simp; omega), (hDc.put q11 _ _).put q11 _ _⟩
            · as_aux_lemma =>
              go_simp
              obtain ⟨wa, hwa⟩ : ∃ x : World, x = (w8).alloc (.cells #[.int .i64 0, .slice none 0 0] 26) := ⟨_, rfl⟩
              have hba : Below (w8).heap.size (w8) wa := by rw [hwa]; exact (by (repeat (first | exact Below.refl _ _ | (refine Below.setCell ?_ (by first | (simp; done) | (simp; omega) | omega) _) | (refine Below.alloc ?_ (by first | (simp; done) | (simp; omega) | omega) _) | (refine below_drewN ?_ _) | (refine Below.drew ?_))))
              have X11 : RB2 wa w8.heap.size (.int .i64 0) (.slice none 0 0) := by rw [hwa]; exact RB2.mk1 (w8) _ _ _
              have z11 : w8.heap.size < wa.heap.size := X11.1.lt
              have q11 : w38.heap.size ≤ w8.heap.size := hDc.size
              have hDc := hDc.below hba
              (try have A2 := A2.below hba)
              (try have R8 := R8.below hba)
              (try have hO9 := hO9.below hba)
              obtain ⟨⟨f0, f1⟩, -⟩ := fL.below (hDc.out hbL hbd)
              rw [← hwa]
              clear hwa
              clear hHeld
              have hHeld : (fun w' : World => w'.cell? ⟨w1.heap.size, 0, none⟩ = some (.int .i64 mf)) wa := by go_keep
              refine hK.out _ _ (fun _ => hHeld) ?_
              clear hK K
              try simp only [List.getElem_toArray, List.getElem_cons_zero, List.getElem_cons_succ, Act.put, List.setIfInBounds_toArray, List.set_cons_zero, List.set_cons_succ]
              refine wpAnyK_oneL (i := 9) rfl (by as_aux_lemma => kernel_rfl) (fun K hK => ?_)
              have hA2l := A2.lt
              refine stR _ rfl _ _ rfl w38.heap.size (.slice (some ⟨w38.heap.size, 0, none⟩) 1 1) [0] rfl A2 ⟨g8, 0, none⟩ N c8 ys rfl R8.rd (by have := HYS.out.1; simp; omega) (by omega) ?_
              intro o9 c9 w9 hO9 hgr hb9
              rw [show ([(0 : Int)] ++ ys).length = N + 1 by have := HYS.out.1; simp; omega] at hO9 ⊢
              have z9 : wa.heap.size ≤ w9.heap.size := hgr.size
              have hDc := hDc.grown hgr (fun j hj => by have := hA2l j hj; omega)
              (try have X11 := X11.grown hgr (fun e => by have e2 : w8.heap.size = w38.heap.size := (by simpa [Value.ownBlock] using e); omega))
              obtain ⟨⟨f0, f1⟩, -⟩ := fL.below (hDc.out hbL hbd)
              clear hgr hb9
              clear hHeld
              have hHeld : (fun w' : World => w'.cell? ⟨w1.heap.size, 0, none⟩ = some (.int .i64 mf)) w9 := by go_keep
              refine hK.out _ _ (fun _ => hHeld) ?_
              clear hK K
              try simp only [List.getElem_toArray, List.getElem_cons_zero, List.getElem_cons_succ, Act.put, List.setIfInBounds_toArray, List.set_cons_zero, List.set_cons_succ]
              refine' wpAnyK_pureL (i := 10) (v := _) rfl (by as_aux_lemma => kernel_rfl) (by as_aux_lemma => kernel_rfl) (by as_aux_lemma => kernel_rfl) (by as_aux_lemma => kernel_rfl) (fun _ _ _ h => h) (Or.inl ⟨by rfl, ?yT9⟩) ?rT9
              case yT9 => (intro w' _; go_simp; try with_reducible rfl)
              try simp only [List.getElem_toArray, List.getElem_cons_zero, List.getElem_cons_succ, Act.put, List.setIfInBounds_toArray, List.set_cons_zero, List.set_cons_succ]
              refine wpAnyK_oneL (i := 12) rfl (by as_aux_lemma => kernel_rfl) (fun K hK => ?_)
              obtain ⟨⟨z0, z1⟩, zf⟩ := id X11
              go_simp
              (try go_wp2_with fail)
              refine hK.out _ _ (fun h => absurd h (by decide)) ?_
              clear hK K
              try simp only [List.getElem_toArray, List.getElem_cons_zero, List.getElem_cons_succ, Act.put, List.setIfInBounds_toArray, List.set_cons_zero, List.set_cons_succ]
              refine wpAnyK_done (by as_aux_lemma => kernel_rfl) ?_ _
              go_wp2_with fail
              go_meet
              obtain ⟨g9, c9', e9⟩ := row_of hO9 (N := N + 1) (by have := HYS.out.1; simp; omega) (by omega)
              obtain ⟨rfl, rfl⟩ : o9 = some ⟨g9, 0, none⟩ ∧ c9 = c9' := by simpa using e9
              have hne := own_ne hO9 (by have := HYS.out.1; simp; omega) X11.1
              have hO10 := ((hO9.ne (b := w8.heap.size) (k := 0) (fun j hj => by have e : g9 = j := (by simpa [Value.ownBlock] using hj); omega) (.int .i64 mf)).ne (b := w8.heap.size) (k := 1) (fun j hj => by have e : g9 = j := (by simpa [Value.ownBlock] using hj); omega) (.slice (some ⟨g9, 0, none⟩) (N + 1) c9)).mono (B' := w38.heap.size) q2
              have hX10 := (RB2.put X11 (.int .i64 mf) (.slice (some ⟨g9, 0, none⟩) (N + 1) c9)).1
              exact ⟨_, _, _, _, c9, ys, rfl, rfl, rfl, HYS.out, sb_rds hX10 hO10 q11 (by simp; omega), (hDc.put q11 _ _).put q11 _ _⟩
          · as_aux_lemma =>
            go_simp
            obtain ⟨wa, hwa⟩ : ∃ x : World, x = (wl).alloc (.cells #[.int .i64 0, .slice none 0 0] 26) := ⟨_, rfl⟩
            have hba : Below (wl).heap.size (wl) wa := by rw [hwa]; exact (by (repeat (first | exact Below.refl _ _ | (refine Below.setCell ?_ (by first | (simp; done) | (simp; omega) | omega) _) | (refine Below.alloc ?_ (by first | (simp; done) | (simp; omega) | omega) _) | (refine below_drewN ?_ _) | (refine Below.drew ?_))))
            have X11 : RB2 wa wl.heap.size (.int .i64 0) (.slice none 0 0) := by rw [hwa]; exact RB2.mk1 (wl) _ _ _
            have z11 : wl.heap.size < wa.heap.size := X11.1.lt
            have q11 : w38.heap.size ≤ wl.heap.size := hDc.size
            have hDc := hDc.below hba
            (try have A2 := A2.below hba)
            (try have R8 := R8.below hba)
            (try have hO9 := hO9.below hba)
            obtain ⟨⟨f0, f1⟩, -⟩ := fL.below (hDc.out hbL hbd)
            rw [← hwa]
            clear hwa
            clear hHeld
            have hHeld : (fun w' : World => w'.cell? ⟨w1.heap.size, 0, none⟩ = some (.int .i64 mf)) wa := by go_keep
            refine hK.out _ _ (fun _ => hHeld) ?_
            clear hK K
            try simp only [List.getElem_toArray, List.getElem_cons_zero, List.getElem_cons_succ, Act.put, List.setIfInBounds_toArray, List.set_cons_zero, List.set_cons_succ]
            refine wpAnyK_oneL (i := 8) rfl (by as_aux_lemma => kernel_rfl) (fun K hK => ?_)
            go_simp
            go_at_call 53
            refine (below5_i w37.heap.size n d mf ((xf.length : Int) - 1) N (wa) (by first | exact hDc.src | exact hDc.drew.src) (by have := HN.out; omega) (by omega) (by have := HN.out; omega)).mono ?_
            rintro e w8 ⟨v8, ys, rfl, R8, hys, hdd⟩
            obtain ⟨g8, c8, rfl⟩ := row_of R8 hys.1 (by omega)
            have HYS := Lib.hid hys
            clear hys
            have hDc : DW w37.heap.size n d w38 w8 := by first | exact hDc.trans hdd | exact hDc.drew.trans hdd
            have z8 : wa.heap.size ≤ w8.heap.size := hdd.size
            (try have A2 := A2.dw hdd (by omega))
            (try have X11 := X11.dw hdd (by omega))
            obtain ⟨⟨f0, f1⟩, -⟩ := fL.below (hDc.out hbL hbd)
            clear hdd
            go_wp2_with fail
            clear hHeld
            have hHeld : (fun w' : World => w'.cell? ⟨w1.heap.size, 0, none⟩ = some (.int .i64 mf)) w8 := by go_keep
            refine hK.out _ _ (fun _ => hHeld) ?_
            clear hK K
            try simp only [List.getElem_toArray, List.getElem_cons_zero, List.getElem_cons_succ, Act.put, List.setIfInBounds_toArray, List.set_cons_zero, List.set_cons_succ]
            refine wpAnyK_oneL (i := 9) rfl (by as_aux_lemma => kernel_rfl) (fun K hK => ?_)
            have hA2l := A2.lt
            refine stR _ rfl _ _ rfl w38.heap.size (.slice (some ⟨w38.heap.size, 0, none⟩) 1 1) [0] rfl A2 ⟨g8, 0, none⟩ N c8 ys rfl R8.rd (by have := HYS.out.1; simp; omega) (by omega) ?_
            intro o9 c9 w9 hO9 hgr hb9
            rw [show ([(0 : Int)] ++ ys).length = N + 1 by have := HYS.out.1; simp; omega] at hO9 ⊢
            have z9 : w8.heap.size ≤ w9.heap.size := hgr.size
            have hDc := hDc.grown hgr (fun j hj => by have := hA2l j hj; omega)
            (try have X11 := X11.grown hgr (fun e => by have e2 : wl.heap.size = w38.heap.size := (by simpa [Value.ownBlock] using e); omega))
            obtain ⟨⟨f0, f1⟩, -⟩ := fL.below (hDc.out hbL hbd)
            clear hgr hb9
            clear hHeld
            have hHeld : (fun w' : World => w'.cell? ⟨w1.heap.size, 0, none⟩ = some (.int .i64 mf)) w9 := by go_keep
            refine hK.out _ _ (fun _ => hHeld) ?_
            clear hK K
            try simp only [List.getElem_toArray, List.getElem_cons_zero, List.getElem_cons_succ, Act.put, List.setIfInBounds_toArray, List.set_cons_zero, List.set_cons_succ]
            refine' wpAnyK_pureL (i := 10) (v := _) rfl (by as_aux_lemma => kernel_rfl) (by as_aux_lemma => kernel_rfl) (by as_aux_lemma => kernel_rfl) (by as_aux_lemma => kernel_rfl) (fun _ _ _ h => h) (Or.inl ⟨by rfl, ?yT10⟩) ?rT10
            case yT10 => (intro w' _; go_simp; try with_reducible rfl)
            try simp only [List.getElem_toArray, List.getElem_cons_zero, List.getElem_cons_succ, Act.put, List.setIfInBounds_toArray, List.set_cons_zero, List.set_cons_succ]
            refine wpAnyK_oneL (i := 12) rfl (by as_aux_lemma => kernel_rfl) (fun K hK => ?_)
            obtain ⟨⟨z0, z1⟩, zf⟩ := id X11
            go_simp
            (try go_wp2_with fail)
            refine hK.out _ _ (fun h => absurd h (by decide)) ?_
            clear hK K
            try simp only [List.getElem_toArray, List.getElem_cons_zero, List.getElem_cons_succ, Act.put, List.setIfInBounds_toArray, List.set_cons_zero, List.set_cons_succ]
            refine wpAnyK_done (by as_aux_lemma => kernel_rfl) ?_ _
            go_wp2_with fail
            go_meet
            obtain ⟨g9, c9', e9⟩ := row_of hO9 (N := N + 1) (by have := HYS.out.1; simp; omega) (by omega)
            obtain ⟨rfl, rfl⟩ : o9 = some ⟨g9, 0, none⟩ ∧ c9 = c9' := by simpa using e9
            have hne := own_ne hO9 (by have := HYS.out.1; simp; omega) X11.1
            have hO10 := ((hO9.ne (b := wl.heap.size) (k := 0) (fun j hj => by have e : g9 = j := (by simpa [Value.ownBlock] using hj); omega) (.int .i64 mf)).ne (b := wl.heap.size) (k := 1) (fun j hj => by have e : g9 = j := (by simpa [Value.ownBlock] using hj); omega) (.slice (some ⟨g9, 0, none⟩) (N + 1) c9)).mono (B' := w38.heap.size) q2
            have hX10 := (RB2.put X11 (.int .i64 mf) (.slice (some ⟨g9, 0, none⟩) (N + 1) c9)).1
            exact ⟨_, _, _, _, c9, ys, rfl, rfl, rfl, HYS.out, sb_rds hX10 hO10 q11 (by simp; omega), (hDc.put q11 _ _).put q11 _ _⟩
        · as_aux_lemma =>
          go_simp
          go_at_call 53
          refine (below5_i w37.heap.size n d mf ((xf.length : Int) - 1) N (w38.drew) (by first | exact hDc.src | exact hDc.drew.src) (by have := HN.out; omega) (by omega) (by have := HN.out; omega)).mono ?_
          rintro e w8 ⟨v8, ys, rfl, R8, hys, hdd⟩
          obtain ⟨g8, c8, rfl⟩ := row_of R8 hys.1 (by omega)
          have HYS := Lib.hid hys
          clear hys
          have hDc : DW w37.heap.size n d w38 w8 := by first | exact hDc.trans hdd | exact hDc.drew.trans hdd
          have z8 : w38.heap.size ≤ w8.heap.size := hdd.size
          (try have A2 := A2.dw hdd (by omega))
          (try have X11 := X11.dw hdd (by omega))
          obtain ⟨⟨f0, f1⟩, -⟩ := fL.below (hDc.out hbL hbd)
          clear hdd
          go_wp2_with fail
          clear hHeld
          have hHeld : (fun w' : World => w'.cell? ⟨w1.heap.size, 0, none⟩ = some (.int .i64 mf)) w8 := by go_keep
          refine hK.out _ _ (fun _ => hHeld) ?_
          clear hK K
          try simp only [List.getElem_toArray, List.getElem_cons_zero, List.getElem_cons_succ, Act.put, List.setIfInBounds_toArray, List.set_cons_zero, List.set_cons_succ]
          refine wpAnyK_two (i := 2) (j := 11) rfl rfl (by as_aux_lemma => kernel_rfl) (fun K hK => ?_) (fun K hK => ?_)
          · as_aux_lemma =>
            go_simp
            obtain ⟨wl, hwl⟩ : ∃ x : World, x = (w8).alloc (.cells #[.int .i64 0] 2) := ⟨_, rfl⟩
            have hbl : Below (w8).heap.size (w8) wl := by rw [hwl]; exact (by (repeat (first | exact Below.refl _ _ | (refine Below.setCell ?_ (by first | (simp; done) | (simp; omega) | omega) _) | (refine Below.alloc ?_ (by first | (simp; done) | (simp; omega) | omega) _) | (refine below_drewN ?_ _) | (refine Below.drew ?_))))
            have A2 : OwI wl w8.heap.size (.slice (some ⟨w8.heap.size, 0, none⟩) 1 1) [0] := by rw [hwl]; exact OwI.lit (w8) [0] (by simp [maxLen])
            have z2 : w8.heap.size < wl.heap.size := by rw [hwl]; simp
            have q2 : w38.heap.size ≤ w8.heap.size := hDc.size
            have hDc := hDc.below hbl
            (try have R8 := R8.below hbl)
            (try have X11 := X11.below hbl (Nat.le_refl _))
            obtain ⟨⟨f0, f1⟩, -⟩ := fL.below (hDc.out hbL hbd)
            rw [← hwl]
            clear hwl
            clear hHeld
            have hHeld : (fun w' : World => w'.cell? ⟨w1.heap.size, 0, none⟩ = some (.int .i64 mf)) wl := by go_keep
            refine hK.out _ _ (fun _ => hHeld) ?_
            clear hK K
            try simp only [List.getElem_toArray, List.getElem_cons_zero, List.getElem_cons_succ, Act.put, List.setIfInBounds_toArray, List.set_cons_zero, List.set_cons_succ]
            refine wpAnyK_two (i := 9) (j := 11) rfl rfl (by as_aux_lemma => kernel_rfl) (fun K hK => ?_) (fun K hK => ?_)
            · as_aux_lemma =>
              have hA2l := A2.lt
              refine stR _ rfl _ _ rfl w8.heap.size (.slice (some ⟨w8.heap.size, 0, none⟩) 1 1) [0] rfl A2 ⟨g8, 0, none⟩ N c8 ys rfl R8.rd (by have := HYS.out.1; simp; omega) (by omega) ?_
              intro o9 c9 w9 hO9 hgr hb9
              rw [show ([(0 : Int)] ++ ys).length = N + 1 by have := HYS.out.1; simp; omega] at hO9 ⊢
              have z9 : wl.heap.size ≤ w9.heap.size := hgr.size
              have hDc := hDc.grown hgr (fun j hj => by have := hA2l j hj; omega)
              skip
              obtain ⟨⟨f0, f1⟩, -⟩ := fL.below (hDc.out hbL hbd)
              clear hgr hb9
              clear hHeld
              have hHeld : (fun w' : World => w'.cell? ⟨w1.heap.size, 0, none⟩ = some (.int .i64 mf)) w9 := by go_keep
              refine hK.out _ _ (fun _ => hHeld) ?_
              clear hK K
              try simp only [List.getElem_toArray, List.getElem_cons_zero, List.getElem_cons_succ, Act.put, List.setIfInBounds_toArray, List.set_cons_zero, List.set_cons_succ]
              refine' wpAnyK_pureL (i := 10) (v := _) rfl (by as_aux_lemma => kernel_rfl) (by as_aux_lemma => kernel_rfl) (by as_aux_lemma => kernel_rfl) (by as_aux_lemma => kernel_rfl) (fun _ _ _ h => h) (Or.inl ⟨by rfl, ?yT11⟩) ?rT11
              case yT11 => (intro w' _; go_simp; try with_reducible rfl)
              try simp only [List.getElem_toArray, List.getElem_cons_zero, List.getElem_cons_succ, Act.put, List.setIfInBounds_toArray, List.set_cons_zero, List.set_cons_succ]
              refine wpAnyK_oneL (i := 11) rfl (by as_aux_lemma => kernel_rfl) (fun K hK => ?_)
              go_simp
              obtain ⟨wa, hwa⟩ : ∃ x : World, x = (w9).alloc (.cells #[.int .i64 0, .slice none 0 0] 26) := ⟨_, rfl⟩
              have hba : Below (w9).heap.size (w9) wa := by rw [hwa]; exact (by (repeat (first | exact Below.refl _ _ | (refine Below.setCell ?_ (by first | (simp; done) | (simp; omega) | omega) _) | (refine Below.alloc ?_ (by first | (simp; done) | (simp; omega) | omega) _) | (refine below_drewN ?_ _) | (refine Below.drew ?_))))
              have X11 : RB2 wa w9.heap.size (.int .i64 0) (.slice none 0 0) := by rw [hwa]; exact RB2.mk1 (w9) _ _ _
              have z11 : w9.heap.size < wa.heap.size := X11.1.lt
              have q11 : w38.heap.size ≤ w9.heap.size := hDc.size
              have hDc := hDc.below hba
              (try have A2 := A2.below hba)
              (try have R8 := R8.below hba)
              (try have hO9 := hO9.below hba)
              obtain ⟨⟨f0, f1⟩, -⟩ := fL.below (hDc.out hbL hbd)
              rw [← hwa]
              clear hwa
              clear hHeld
              have hHeld : (fun w' : World => w'.cell? ⟨w1.heap.size, 0, none⟩ = some (.int .i64 mf)) wa := by go_keep
              refine hK.out _ _ (fun _ => hHeld) ?_
              clear hK K
              try simp only [List.getElem_toArray, List.getElem_cons_zero, List.getElem_cons_succ, Act.put, List.setIfInBounds_toArray, List.set_cons_zero, List.set_cons_succ]
              refine wpAnyK_oneL (i := 12) rfl (by as_aux_lemma => kernel_rfl) (fun K hK => ?_)
              obtain ⟨⟨z0, z1⟩, zf⟩ := id X11
              go_simp
              (try go_wp2_with fail)
              refine hK.out _ _ (fun h => absurd h (by decide)) ?_
              clear hK K
              try simp only [List.getElem_toArray, List.getElem_cons_zero, List.getElem_cons_succ, Act.put, List.setIfInBounds_toArray, List.set_cons_zero, List.set_cons_succ]
              refine wpAnyK_done (by as_aux_lemma => kernel_rfl) ?_ _
              go_wp2_with fail
              go_meet
              obtain ⟨g9, c9', e9⟩ := row_of hO9 (N := N + 1) (by have := HYS.out.1; simp; omega) (by omega)
              obtain ⟨rfl, rfl⟩ : o9 = some ⟨g9, 0, none⟩ ∧ c9 = c9' := by simpa using e9
              have hne := own_ne hO9 (by have := HYS.out.1; simp; omega) X11.1
              have hO10 := ((hO9.ne (b := w9.heap.size) (k := 0) (fun j hj => by have e : g9 = j := (by simpa [Value.ownBlock] using hj); omega) (.int .i64 mf)).ne (b := w9.heap.size) (k := 1) (fun j hj => by have e : g9 = j := (by simpa [Value.ownBlock] using hj); omega) (.slice (some ⟨g9, 0, none⟩) (N + 1) c9)).mono (B' := w38.heap.size) q2
              have hX10 := (RB2.put X11 (.int .i64 mf) (.slice (some ⟨g9, 0, none⟩) (N + 1) c9)).1
              exact ⟨_, _, _, _, c9, ys, rfl, rfl, rfl, HYS.out, sb_rds hX10 hO10 q11 (by simp; omega), (hDc.put q11 _ _).put q11 _ _⟩
            · as_aux_lemma =>
              go_simp
              obtain ⟨wa, hwa⟩ : ∃ x : World, x = (wl).alloc (.cells #[.int .i64 0, .slice none 0 0] 26) := ⟨_, rfl⟩
              have hba : Below (wl).heap.size (wl) wa := by rw [hwa]; exact (by (repeat (first | exact Below.refl _ _ | (refine Below.setCell ?_ (by first | (simp; done) | (simp; omega) | omega) _) | (refine Below.alloc ?_ (by first | (simp; done) | (simp; omega) | omega) _) | (refine below_drewN ?_ _) | (refine Below.drew ?_))))
              have X11 : RB2 wa wl.heap.size (.int .i64 0) (.slice none 0 0) := by rw [hwa]; exact RB2.mk1 (wl) _ _ _
              have z11 : wl.heap.size < wa.heap.size := X11.1.lt
              have q11 : w38.heap.size ≤ wl.heap.size := hDc.size
              have hDc := hDc.below hba
              (try have A2 := A2.below hba)
              (try have R8 := R8.below hba)
              (try have hO9 := hO9.below hba)
              obtain ⟨⟨f0, f1⟩, -⟩ := fL.below (hDc.out hbL hbd)
              rw [← hwa]
              clear hwa
              clear hHeld
              have hHeld : (fun w' : World => w'.cell? ⟨w1.heap.size, 0, none⟩ = some (.int .i64 mf)) wa := by go_keep
              refine hK.out _ _ (fun _ => hHeld) ?_
              clear hK K
              try simp only [List.getElem_toArray, List.getElem_cons_zero, List.getElem_cons_succ, Act.put, List.setIfInBounds_toArray, List.set_cons_zero, List.set_cons_succ]
              refine wpAnyK_oneL (i := 9) rfl (by as_aux_lemma => kernel_rfl) (fun K hK => ?_)
              have hA2l := A2.lt
              refine stR _ rfl _ _ rfl w8.heap.size (.slice (some ⟨w8.heap.size, 0, none⟩) 1 1) [0] rfl A2 ⟨g8, 0, none⟩ N c8 ys rfl R8.rd (by have := HYS.out.1; simp; omega) (by omega) ?_
              intro o9 c9 w9 hO9 hgr hb9
              rw [show ([(0 : Int)] ++ ys).length = N + 1 by have := HYS.out.1; simp; omega] at hO9 ⊢
              have z9 : wa.heap.size ≤ w9.heap.size := hgr.size
              have hDc := hDc.grown hgr (fun j hj => by have := hA2l j hj; omega)
              (try have X11 := X11.grown hgr (fun e => by have e2 : wl.heap.size = w8.heap.size := (by simpa [Value.ownBlock] using e); omega))
              obtain ⟨⟨f0, f1⟩, -⟩ := fL.below (hDc.out hbL hbd)
              clear hgr hb9
              clear hHeld
              have hHeld : (fun w' : World => w'.cell? ⟨w1.heap.size, 0, none⟩ = some (.int .i64 mf)) w9 := by go_keep
              refine hK.out _ _ (fun _ => hHeld) ?_
              clear hK K
              try simp only [List.getElem_toArray, List.getElem_cons_zero, List.getElem_cons_succ, Act.put, List.setIfInBounds_toArray, List.set_cons_zero, List.set_cons_succ]
              refine' wpAnyK_pureL (i := 10) (v := _) rfl (by as_aux_lemma => kernel_rfl) (by as_aux_lemma => kernel_rfl) (by as_aux_lemma => kernel_rfl) (by as_aux_lemma => kernel_rfl) (fun _ _ _ h => h) (Or.inl ⟨by rfl, ?yT12⟩) ?rT12
              case yT12 => (intro w' _; go_simp; try with_reducible rfl)
              try simp only [List.getElem_toArray, List.getElem_cons_zero, List.getElem_cons_succ, Act.put, List.setIfInBounds_toArray, List.set_cons_zero, List.set_cons_succ]
              refine wpAnyK_oneL (i := 12) rfl (by as_aux_lemma => kernel_rfl) (fun K hK => ?_)
              obtain ⟨⟨z0, z1⟩, zf⟩ := id X11
              go_simp
              (try go_wp2_with fail)
              refine hK.out _ _ (fun h => absurd h (by decide)) ?_
              clear hK K
              try simp only [List.getElem_toArray, List.getElem_cons_zero, List.getElem_cons_succ, Act.put, List.setIfInBounds_toArray, List.set_cons_zero, List.set_cons_succ]
              refine wpAnyK_done (by as_aux_lemma => kernel_rfl) ?_ _
              go_wp2_with fail
              go_meet
              obtain ⟨g9, c9', e9⟩ := row_of hO9 (N := N + 1) (by have := HYS.out.1; simp; omega) (by omega)
              obtain ⟨rfl, rfl⟩ : o9 = some ⟨g9, 0, none⟩ ∧ c9 = c9' := by simpa using e9
              have hne := own_ne hO9 (by have := HYS.out.1; simp; omega) X11.1
              have hO10 := ((hO9.ne (b := wl.heap.size) (k := 0) (fun j hj => by have e : g9 = j := (by simpa [Value.ownBlock] using hj); omega) (.int .i64 mf)).ne (b := wl.heap.size) (k := 1) (fun j hj => by have e : g9 = j := (by simpa [Value.ownBlock] using hj); omega) (.slice (some ⟨g9, 0, none⟩) (N + 1) c9)).mono (B' := w38.heap.size) q2
              have hX10 := (RB2.put X11 (.int .i64 mf) (.slice (some ⟨g9, 0, none⟩) (N + 1) c9)).1
              exact ⟨_, _, _, _, c9, ys, rfl, rfl, rfl, HYS.out, sb_rds hX10 hO10 q11 (by simp; omega), (hDc.put q11 _ _).put q11 _ _⟩
          · as_aux_lemma =>
            go_simp
            obtain ⟨wa, hwa⟩ : ∃ x : World, x = (w8).alloc (.cells #[.int .i64 0, .slice none 0 0] 26) := ⟨_, rfl⟩
            have hba : Below (w8).heap.size (w8) wa := by rw [hwa]; exact (by (repeat (first | exact Below.refl _ _ | (refine Below.setCell ?_ (by first | (simp; done) | (simp; omega) | omega) _) | (refine Below.alloc ?_ (by first | (simp; done) | (simp; omega) | omega) _) | (refine below_drewN ?_ _) | (refine Below.drew ?_))))
            have X11 : RB2 wa w8.heap.size (.int .i64 0) (.slice none 0 0) := by rw [hwa]; exact RB2.mk1 (w8) _ _ _
            have z11 : w8.heap.size < wa.heap.size := X11.1.lt
            have q11 : w38.heap.size ≤ w8.heap.size := hDc.size
            have hDc := hDc.below hba
            (try have A2 := A2.below hba)
            (try have R8 := R8.below hba)
            (try have hO9 := hO9.below hba)
            obtain ⟨⟨f0, f1⟩, -⟩ := fL.below (hDc.out hbL hbd)
            rw [← hwa]
            clear hwa
            clear hHeld
            have hHeld : (fun w' : World => w'.cell? ⟨w1.heap.size, 0, none⟩ = some (.int .i64 mf)) wa := by go_keep
            refine hK.out _ _ (fun _ => hHeld) ?_
            clear hK K
            try simp only [List.getElem_toArray, List.getElem_cons_zero, List.getElem_cons_succ, Act.put, List.setIfInBounds_toArray, List.set_cons_zero, List.set_cons_succ]
            refine wpAnyK_oneL (i := 2) rfl (by as_aux_lemma => kernel_rfl) (fun K hK => ?_)
            go_simp
            obtain ⟨wl, hwl⟩ : ∃ x : World, x = (wa).alloc (.cells #[.int .i64 0] 2) := ⟨_, rfl⟩
            have hbl : Below (wa).heap.size (wa) wl := by rw [hwl]; exact (by (repeat (first | exact Below.refl _ _ | (refine Below.setCell ?_ (by first | (simp; done) | (simp; omega) | omega) _) | (refine Below.alloc ?_ (by first | (simp; done) | (simp; omega) | omega) _) | (refine below_drewN ?_ _) | (refine Below.drew ?_))))
            have A2 : OwI wl wa.heap.size (.slice (some ⟨wa.heap.size, 0, none⟩) 1 1) [0] := by rw [hwl]; exact OwI.lit (wa) [0] (by simp [maxLen])
            have z2 : wa.heap.size < wl.heap.size := by rw [hwl]; simp
            have q2 : w38.heap.size ≤ wa.heap.size := hDc.size
            have hDc := hDc.below hbl
            (try have R8 := R8.below hbl)
            (try have X11 := X11.below hbl (Nat.le_refl _))
            obtain ⟨⟨f0, f1⟩, -⟩ := fL.below (hDc.out hbL hbd)
            rw [← hwl]
            clear hwl
            clear hHeld
            have hHeld : (fun w' : World => w'.cell? ⟨w1.heap.size, 0, none⟩ = some (.int .i64 mf)) wl := by go_keep
            refine hK.out _ _ (fun _ => hHeld) ?_
            clear hK K
            try simp only [List.getElem_toArray, List.getElem_cons_zero, List.getElem_cons_succ, Act.put, List.setIfInBounds_toArray, List.set_cons_zero, List.set_cons_succ]
            refine wpAnyK_oneL (i := 9) rfl (by as_aux_lemma => kernel_rfl) (fun K hK => ?_)
            have hA2l := A2.lt
            refine stR _ rfl _ _ rfl wa.heap.size (.slice (some ⟨wa.heap.size, 0, none⟩) 1 1) [0] rfl A2 ⟨g8, 0, none⟩ N c8 ys rfl R8.rd (by have := HYS.out.1; simp; omega) (by omega) ?_
            intro o9 c9 w9 hO9 hgr hb9
            rw [show ([(0 : Int)] ++ ys).length = N + 1 by have := HYS.out.1; simp; omega] at hO9 ⊢
            have z9 : wl.heap.size ≤ w9.heap.size := hgr.size
            have hDc := hDc.grown hgr (fun j hj => by have := hA2l j hj; omega)
            (try have X11 := X11.grown hgr (fun e => by have e2 : w8.heap.size = wa.heap.size := (by simpa [Value.ownBlock] using e); omega))
            obtain ⟨⟨f0, f1⟩, -⟩ := fL.below (hDc.out hbL hbd)
            clear hgr hb9
            clear hHeld
            have hHeld : (fun w' : World => w'.cell? ⟨w1.heap.size, 0, none⟩ = some (.int .i64 mf)) w9 := by go_keep
            refine hK.out _ _ (fun _ => hHeld) ?_
            clear hK K
            try simp only [List.getElem_toArray, List.getElem_cons_zero, List.getElem_cons_succ, Act.put, List.setIfInBounds_toArray, List.set_cons_zero, List.set_cons_succ]
            refine' wpAnyK_pureL (i := 10) (v := _) rfl (by as_aux_lemma => kernel_rfl) (by as_aux_lemma => kernel_rfl) (by as_aux_lemma => kernel_rfl) (by as_aux_lemma => kernel_rfl) (fun _ _ _ h => h) (Or.inl ⟨by rfl, ?yT13⟩) ?rT13
            case yT13 => (intro w' _; go_simp; try with_reducible rfl)
            try simp only [List.getElem_toArray, List.getElem_cons_zero, List.getElem_cons_succ, Act.put, List.setIfInBounds_toArray, List.set_cons_zero, List.set_cons_succ]
            refine wpAnyK_oneL (i := 12) rfl (by as_aux_lemma => kernel_rfl) (fun K hK => ?_)
            obtain ⟨⟨z0, z1⟩, zf⟩ := id X11
            go_simp
            (try go_wp2_with fail)
            refine hK.out _ _ (fun h => absurd h (by decide)) ?_
            clear hK K
            try simp only [List.getElem_toArray, List.getElem_cons_zero, List.getElem_cons_succ, Act.put, List.setIfInBounds_toArray, List.set_cons_zero, List.set_cons_succ]
            refine wpAnyK_done (by as_aux_lemma => kernel_rfl) ?_ _
            go_wp2_with fail
            go_meet
            obtain ⟨g9, c9', e9⟩ := row_of hO9 (N := N + 1) (by have := HYS.out.1; simp; omega) (by omega)
            obtain ⟨rfl, rfl⟩ : o9 = some ⟨g9, 0, none⟩ ∧ c9 = c9' := by simpa using e9
            have hne := own_ne hO9 (by have := HYS.out.1; simp; omega) X11.1
            have hO10 := ((hO9.ne (b := w8.heap.size) (k := 0) (fun j hj => by have e : g9 = j := (by simpa [Value.ownBlock] using hj); omega) (.int .i64 mf)).ne (b := w8.heap.size) (k := 1) (fun j hj => by have e : g9 = j := (by simpa [Value.ownBlock] using hj); omega) (.slice (some ⟨g9, 0, none⟩) (N + 1) c9)).mono (B' := w38.heap.size) q2
            have hX10 := (RB2.put X11 (.int .i64 mf) (.slice (some ⟨g9, 0, none⟩) (N + 1) c9)).1
            exact ⟨_, _, _, _, c9, ys, rfl, rfl, rfl, HYS.out, sb_rds hX10 hO10 q11 (by simp; omega), (hDc.put q11 _ _).put q11 _ _⟩
        · as_aux_lemma =>
          go_simp
          obtain ⟨wa, hwa⟩ : ∃ x : World, x = (w38.alloc (.cells #[.int .i64 0, .slice none 0 0] 26)).drew := ⟨_, rfl⟩
          have hba : Below (w38).heap.size (w38) wa := by rw [hwa]; exact (by (repeat (first | exact Below.refl _ _ | (refine Below.setCell ?_ (by first | (simp; done) | (simp; omega) | omega) _) | (refine Below.alloc ?_ (by first | (simp; done) | (simp; omega) | omega) _) | (refine below_drewN ?_ _) | (refine Below.drew ?_))))
          have X11 : RB2 wa w38.heap.size (.int .i64 0) (.slice none 0 0) := by rw [hwa]; exact RB2.mk1 (w38) _ _ _
          have z11 : w38.heap.size < wa.heap.size := X11.1.lt
          have q11 : w38.heap.size ≤ w38.heap.size := hDc.size
          have hDc := hDc.below hba
          (try have A2 := A2.below hba)
          (try have R8 := R8.below hba)
          (try have hO9 := hO9.below hba)
          obtain ⟨⟨f0, f1⟩, -⟩ := fL.below (hDc.out hbL hbd)
          rw [← hwa]
          clear hwa
          clear hHeld
          have hHeld : (fun w' : World => w'.cell? ⟨w1.heap.size, 0, none⟩ = some (.int .i64 mf)) wa := by go_keep
          refine hK.out _ _ (fun _ => hHeld) ?_
          clear hK K
          try simp only [List.getElem_toArray, List.getElem_cons_zero, List.getElem_cons_succ, Act.put, List.setIfInBounds_toArray, List.set_cons_zero, List.set_cons_succ]
          refine wpAnyK_two (i := 2) (j := 8) rfl rfl (by as_aux_lemma => kernel_rfl) (fun K hK => ?_) (fun K hK => ?_)
          · as_aux_lemma =>
            go_simp
            obtain ⟨wl, hwl⟩ : ∃ x : World, x = (wa).alloc (.cells #[.int .i64 0] 2) := ⟨_, rfl⟩
            have hbl : Below (wa).heap.size (wa) wl := by rw [hwl]; exact (by (repeat (first | exact Below.refl _ _ | (refine Below.setCell ?_ (by first | (simp; done) | (simp; omega) | omega) _) | (refine Below.alloc ?_ (by first | (simp; done) | (simp; omega) | omega) _) | (refine below_drewN ?_ _) | (refine Below.drew ?_))))
            have A2 : OwI wl wa.heap.size (.slice (some ⟨wa.heap.size, 0, none⟩) 1 1) [0] := by rw [hwl]; exact OwI.lit (wa) [0] (by simp [maxLen])
            have z2 : wa.heap.size < wl.heap.size := by rw [hwl]; simp
            have q2 : w38.heap.size ≤ wa.heap.size := hDc.size
            have hDc := hDc.below hbl
            (try have R8 := R8.below hbl)
            (try have X11 := X11.below hbl (Nat.le_refl _))
            obtain ⟨⟨f0, f1⟩, -⟩ := fL.below (hDc.out hbL hbd)
            rw [← hwl]
            clear hwl
            clear hHeld
            have hHeld : (fun w' : World => w'.cell? ⟨w1.heap.size, 0, none⟩ = some (.int .i64 mf)) wl := by go_keep
            refine hK.out _ _ (fun _ => hHeld) ?_
            clear hK K
            try simp only [List.getElem_toArray, List.getElem_cons_zero, List.getElem_cons_succ, Act.put, List.setIfInBounds_toArray, List.set_cons_zero, List.set_cons_succ]
            refine wpAnyK_oneL (i := 8) rfl (by as_aux_lemma => kernel_rfl) (fun K hK => ?_)
            go_simp
            go_at_call 53
            refine (below5_i w37.heap.size n d mf ((xf.length : Int) - 1) N (wl) (by first | exact hDc.src | exact hDc.drew.src) (by have := HN.out; omega) (by omega) (by have := HN.out; omega)).mono ?_
            rintro e w8 ⟨v8, ys, rfl, R8, hys, hdd⟩
            obtain ⟨g8, c8, rfl⟩ := row_of R8 hys.1 (by omega)
            have HYS := Lib.hid hys
            clear hys
            have hDc : DW w37.heap.size n d w38 w8 := by first | exact hDc.trans hdd | exact hDc.drew.trans hdd
            have z8 : wl.heap.size ≤ w8.heap.size := hdd.size
            (try have A2 := A2.dw hdd (by omega))
            (try have X11 := X11.dw hdd (by omega))
            obtain ⟨⟨f0, f1⟩, -⟩ := fL.below (hDc.out hbL hbd)
            clear hdd
            go_wp2_with fail
            clear hHeld
            have hHeld : (fun w' : World => w'.cell? ⟨w1.heap.size, 0, none⟩ = some (.int .i64 mf)) w8 := by go_keep
            refine hK.out _ _ (fun _ => hHeld) ?_
            clear hK K
            try simp only [List.getElem_toArray, List.getElem_cons_zero, List.getElem_cons_succ, Act.put, List.setIfInBounds_toArray, List.set_cons_zero, List.set_cons_succ]
            refine wpAnyK_oneL (i := 9) rfl (by as_aux_lemma => kernel_rfl) (fun K hK => ?_)
            have hA2l := A2.lt
            refine stR _ rfl _ _ rfl wa.heap.size (.slice (some ⟨wa.heap.size, 0, none⟩) 1 1) [0] rfl A2 ⟨g8, 0, none⟩ N c8 ys rfl R8.rd (by have := HYS.out.1; simp; omega) (by omega) ?_
            intro o9 c9 w9 hO9 hgr hb9
            rw [show ([(0 : Int)] ++ ys).length = N + 1 by have := HYS.out.1; simp; omega] at hO9 ⊢
            have z9 : w8.heap.size ≤ w9.heap.size := hgr.size
            have hDc := hDc.grown hgr (fun j hj => by have := hA2l j hj; omega)
            (try have X11 := X11.grown hgr (fun e => by have e2 : w38.heap.size = wa.heap.size := (by simpa [Value.ownBlock] using e); omega))
            obtain ⟨⟨f0, f1⟩, -⟩ := fL.below (hDc.out hbL hbd)
            clear hgr hb9
            clear hHeld
            have hHeld : (fun w' : World => w'.cell? ⟨w1.heap.size, 0, none⟩ = some (.int .i64 mf)) w9 := by go_keep
            refine hK.out _ _ (fun _ => hHeld) ?_
            clear hK K
            try simp only [List.getElem_toArray, List.getElem_cons_zero, List.getElem_cons_succ, Act.put, List.setIfInBounds_toArray, List.set_cons_zero, List.set_cons_succ]
            refine' wpAnyK_pureL (i := 10) (v := _) rfl (by as_aux_lemma => kernel_rfl) (by as_aux_lemma => kernel_rfl) (by as_aux_lemma => kernel_rfl) (by as_aux_lemma => kernel_rfl) (fun _ _ _ h => h) (Or.inl ⟨by rfl, ?yT14⟩) ?rT14
            case yT14 => (intro w' _; go_simp; try with_reducible rfl)
            try simp only [List.getElem_toArray, List.getElem_cons_zero, List.getElem_cons_succ, Act.put, List.setIfInBounds_toArray, List.set_cons_zero, List.set_cons_succ]
            refine wpAnyK_oneL (i := 12) rfl (by as_aux_lemma => kernel_rfl) (fun K hK => ?_)
            obtain ⟨⟨z0, z1⟩, zf⟩ := id X11
            go_simp
            (try go_wp2_with fail)
            refine hK.out _ _ (fun h => absurd h (by decide)) ?_
            clear hK K
            try simp only [List.getElem_toArray, List.getElem_cons_zero, List.getElem_cons_succ, Act.put, List.setIfInBounds_toArray, List.set_cons_zero, List.set_cons_succ]
            refine wpAnyK_done (by as_aux_lemma => kernel_rfl) ?_ _
            go_wp2_with fail
            go_meet
            obtain ⟨g9, c9', e9⟩ := row_of hO9 (N := N + 1) (by have := HYS.out.1; simp; omega) (by omega)
            obtain ⟨rfl, rfl⟩ : o9 = some ⟨g9, 0, none⟩ ∧ c9 = c9' := by simpa using e9
            have hne := own_ne hO9 (by have := HYS.out.1; simp; omega) X11.1
            have hO10 := ((hO9.ne (b := w38.heap.size) (k := 0) (fun j hj => by have e : g9 = j := (by simpa [Value.ownBlock] using hj); omega) (.int .i64 mf)).ne (b := w38.heap.size) (k := 1) (fun j hj => by have e : g9 = j := (by simpa [Value.ownBlock] using hj); omega) (.slice (some ⟨g9, 0, none⟩) (N + 1) c9)).mono (B' := w38.heap.size) q2
            have hX10 := (RB2.put X11 (.int .i64 mf) (.slice (some ⟨g9, 0, none⟩) (N + 1) c9)).1
            exact ⟨_, _, _, _, c9, ys, rfl, rfl, rfl, HYS.out, sb_rds hX10 hO10 q11 (by simp; omega), (hDc.put q11 _ _).put q11 _ _⟩
          · as_aux_lemma =>
            go_simp
            go_at_call 53
            refine (below5_i w37.heap.size n d mf ((xf.length : Int) - 1) N (wa) (by first | exact hDc.src | exact hDc.drew.src) (by have := HN.out; omega) (by omega) (by have := HN.out; omega)).mono ?_
            rintro e w8 ⟨v8, ys, rfl, R8, hys, hdd⟩
            obtain ⟨g8, c8, rfl⟩ := row_of R8 hys.1 (by omega)
            have HYS := Lib.hid hys
            clear hys
            have hDc : DW w37.heap.size n d w38 w8 := by first | exact hDc.trans hdd | exact hDc.drew.trans hdd
            have z8 : wa.heap.size ≤ w8.heap.size := hdd.size
            (try have A2 := A2.dw hdd (by omega))
            (try have X11 := X11.dw hdd (by omega))
            obtain ⟨⟨f0, f1⟩, -⟩ := fL.below (hDc.out hbL hbd)
            clear hdd
            go_wp2_with fail
            clear hHeld
            have hHeld : (fun w' : World => w'.cell? ⟨w1.heap.size, 0, none⟩ = some (.int .i64 mf)) w8 := by go_keep
            refine hK.out _ _ (fun _ => hHeld) ?_
            clear hK K
            try simp only [List.getElem_toArray, List.getElem_cons_zero, List.getElem_cons_succ, Act.put, List.setIfInBounds_toArray, List.set_cons_zero, List.set_cons_succ]
            refine wpAnyK_oneL (i := 2) rfl (by as_aux_lemma => kernel_rfl) (fun K hK => ?_)
            go_simp
            obtain ⟨wl, hwl⟩ : ∃ x : World, x = (w8).alloc (.cells #[.int .i64 0] 2) := ⟨_, rfl⟩
            have hbl : Below (w8).heap.size (w8) wl := by rw [hwl]; exact (by (repeat (first | exact Below.refl _ _ | (refine Below.setCell ?_ (by first | (simp; done) | (simp; omega) | omega) _) | (refine Below.alloc ?_ (by first | (simp; done) | (simp; omega) | omega) _) | (refine below_drewN ?_ _) | (refine Below.drew ?_))))
            have A2 : OwI wl w8.heap.size (.slice (some ⟨w8.heap.size, 0, none⟩) 1 1) [0] := by rw [hwl]; exact OwI.lit (w8) [0] (by simp [maxLen])
            have z2 : w8.heap.size < wl.heap.size := by rw [hwl]; simp
            have q2 : w38.heap.size ≤ w8.heap.size := hDc.size
            have hDc := hDc.below hbl
            (try have R8 := R8.below hbl)
            (try have X11 := X11.below hbl (Nat.le_refl _))
            obtain ⟨⟨f0, f1⟩, -⟩ := fL.below (hDc.out hbL hbd)
            rw [← hwl]
            clear hwl
            clear hHeld
            have hHeld : (fun w' : World => w'.cell? ⟨w1.heap.size, 0, none⟩ = some (.int .i64 mf)) wl := by go_keep
            refine hK.out _ _ (fun _ => hHeld) ?_
            clear hK K
            try simp only [List.getElem_toArray, List.getElem_cons_zero, List.getElem_cons_succ, Act.put, List.setIfInBounds_toArray, List.set_cons_zero, List.set_cons_succ]
            refine wpAnyK_oneL (i := 9) rfl (by as_aux_lemma => kernel_rfl) (fun K hK => ?_)
            have hA2l := A2.lt
            refine stR _ rfl _ _ rfl w8.heap.size (.slice (some ⟨w8.heap.size, 0, none⟩) 1 1) [0] rfl A2 ⟨g8, 0, none⟩ N c8 ys rfl R8.rd (by have := HYS.out.1; simp; omega) (by omega) ?_
            intro o9 c9 w9 hO9 hgr hb9
            rw [show ([(0 : Int)] ++ ys).length = N + 1 by have := HYS.out.1; simp; omega] at hO9 ⊢
            have z9 : wl.heap.size ≤ w9.heap.size := hgr.size
            have hDc := hDc.grown hgr (fun j hj => by have := hA2l j hj; omega)
            (try have X11 := X11.grown hgr (fun e => by have e2 : w38.heap.size = w8.heap.size := (by simpa [Value.ownBlock] using e); omega))
            obtain ⟨⟨f0, f1⟩, -⟩ := fL.below (hDc.out hbL hbd)
            clear hgr hb9
            clear hHeld
            have hHeld : (fun w' : World => w'.cell? ⟨w1.heap.size, 0, none⟩ = some (.int .i64 mf)) w9 := by go_keep
            refine hK.out _ _ (fun _ => hHeld) ?_
            clear hK K
            try simp only [List.getElem_toArray, List.getElem_cons_zero, List.getElem_cons_succ, Act.put, List.setIfInBounds_toArray, List.set_cons_zero, List.set_cons_succ]
            refine' wpAnyK_pureL (i := 10) (v := _) rfl (by as_aux_lemma => kernel_rfl) (by as_aux_lemma => kernel_rfl) (by as_aux_lemma => kernel_rfl) (by as_aux_lemma => kernel_rfl) (fun _ _ _ h => h) (Or.inl ⟨by rfl, ?yT15⟩) ?rT15
            case yT15 => (intro w' _; go_simp; try with_reducible rfl)
            try simp only [List.getElem_toArray, List.getElem_cons_zero, List.getElem_cons_succ, Act.put, List.setIfInBounds_toArray, List.set_cons_zero, List.set_cons_succ]
            refine wpAnyK_oneL (i := 12) rfl (by as_aux_lemma => kernel_rfl) (fun K hK => ?_)
            obtain ⟨⟨z0, z1⟩, zf⟩ := id X11
            go_simp
            (try go_wp2_with fail)
            refine hK.out _ _ (fun h => absurd h (by decide)) ?_
            clear hK K
            try simp only [List.getElem_toArray, List.getElem_cons_zero, List.getElem_cons_succ, Act.put, List.setIfInBounds_toArray, List.set_cons_zero, List.set_cons_succ]
            refine wpAnyK_done (by as_aux_lemma => kernel_rfl) ?_ _
            go_wp2_with fail
            go_meet
            obtain ⟨g9, c9', e9⟩ := row_of hO9 (N := N + 1) (by have := HYS.out.1; simp; omega) (by omega)
            obtain ⟨rfl, rfl⟩ : o9 = some ⟨g9, 0, none⟩ ∧ c9 = c9' := by simpa using e9
            have hne := own_ne hO9 (by have := HYS.out.1; simp; omega) X11.1
            have hO10 := ((hO9.ne (b := w38.heap.size) (k := 0) (fun j hj => by have e : g9 = j := (by simpa [Value.ownBlock] using hj); omega) (.int .i64 mf)).ne (b := w38.heap.size) (k := 1) (fun j hj => by have e : g9 = j := (by simpa [Value.ownBlock] using hj); omega) (.slice (some ⟨g9, 0, none⟩) (N + 1) c9)).mono (B' := w38.heap.size) q2
            have hX10 := (RB2.put X11 (.int .i64 mf) (.slice (some ⟨g9, 0, none⟩) (N + 1) c9)).1
            exact ⟨_, _, _, _, c9, ys, rfl, rfl, rfl, HYS.out, sb_rds hX10 hO10 q11 (by simp; omega), (hDc.put q11 _ _).put q11 _ _⟩
      case rest =>
        obtain ⟨wz, ba, hia, oa, ca, xa, rfl, rfl, hhi, hysa, aR, hDz⟩ := hcut
        obtain ⟨w39, rfl⟩ : ∃ u, u = wz := ⟨_, rfl⟩
        have hha : hia ≤ w39.heap.size := by omega
        have hD_39 := hDz
        clear hDz hD_38 hhi
        go_upto_region 29 with fail
        go_cut [36] from 237 to 247 (fun s u => ∃ (wz : World) (bz hi : Nat) (o : Option Addr) (c : Nat) (ys : List Int), wz = u ∧ s = .pointer (some ⟨bz, 0, none⟩) ∧ hi = u.heap.size ∧ (ys.length = N ∧ ∀ y ∈ ys, 0 ≤ y ∧ y < mf) ∧ Rds w38.heap.size hi u (fun x => SB x bz mf (.slice o (N + 1) c) (0 :: ys)) ∧ Rds w38.heap.size hia u (fun x => SB x ba mf (.slice oa (N + 1) ca) (0 :: xa)) ∧ DW w37.heap.size n d w38 u)
        case first =>
          as_aux_lemma =>
          have hDc := hD_39
          have hdl := hDc.lt
          have hzc := hDc.size
          obtain ⟨⟨f0, f1⟩, -⟩ := fL.below (hDc.out hbL hbd)
          have hd0 : Below w39.heap.size w39 w39.drew := (Below.refl _ _).drew
          refine wp_region_K (S := fun w' => w'.cell? ⟨w1.heap.size, 0, none⟩ = some (.int .i64 mf)) [10, 12] (by as_aux_lemma => kernel_rfl) ?_
          have hHeld : (fun w' : World => w'.cell? ⟨w1.heap.size, 0, none⟩ = some (.int .i64 mf)) w39.drew := by go_keep
          refine' wpAnyK_takeL (i := 0) (v := _) rfl (by as_aux_lemma => kernel_rfl) (by as_aux_lemma => kernel_rfl) (by as_aux_lemma => kernel_rfl) (by as_aux_lemma => kernel_rfl) (fun _ _ _ h => h) (Or.inl ⟨by rfl, ?yT16⟩) hHeld ?rT16
          case yT16 => (intro w' hSw; (try dsimp only at hSw); go_simp; try with_reducible rfl)
          try simp only [List.getElem_toArray, List.getElem_cons_zero, List.getElem_cons_succ, Act.put, List.setIfInBounds_toArray, List.set_cons_zero, List.set_cons_succ]
          refine' wpAnyK_takeL (i := 1) (v := _) rfl (by as_aux_lemma => kernel_rfl) (by as_aux_lemma => kernel_rfl) (by as_aux_lemma => kernel_rfl) (by as_aux_lemma => kernel_rfl) (fun _ _ _ h => h) (Or.inl ⟨by rfl, ?yT17⟩) hHeld ?rT17
          case yT17 => (intro w' hSw; (try dsimp only at hSw); go_simp; try with_reducible rfl)
          try simp only [List.getElem_toArray, List.getElem_cons_zero, List.getElem_cons_succ, Act.put, List.setIfInBounds_toArray, List.set_cons_zero, List.set_cons_succ]
          refine' wpAnyK_takeL (i := 3) (v := _) rfl (by as_aux_lemma => kernel_rfl) (by as_aux_lemma => kernel_rfl) (by as_aux_lemma => kernel_rfl) (by as_aux_lemma => kernel_rfl) (fun _ _ _ h => h) (Or.inl ⟨by rfl, ?yT18⟩) hHeld ?rT18
          case yT18 => (intro w' hSw; (try dsimp only at hSw); go_simp; try with_reducible rfl)
          try simp only [List.getElem_toArray, List.getElem_cons_zero, List.getElem_cons_succ, Act.put, List.setIfInBounds_toArray, List.set_cons_zero, List.set_cons_succ]
          refine' wpAnyK_takeL (i := 4) (v := _) rfl (by as_aux_lemma => kernel_rfl) (by as_aux_lemma => kernel_rfl) (by as_aux_lemma => kernel_rfl) (by as_aux_lemma => kernel_rfl) (fun _ _ _ h => h) (Or.inl ⟨by rfl, ?yT19⟩) hHeld ?rT19
          case yT19 => (intro w' hSw; (try dsimp only at hSw); go_simp; try with_reducible rfl)
          try simp only [List.getElem_toArray, List.getElem_cons_zero, List.getElem_cons_succ, Act.put, List.setIfInBounds_toArray, List.set_cons_zero, List.set_cons_succ]
          refine' wpAnyK_takeL (i := 5) (v := _) rfl (by as_aux_lemma => kernel_rfl) (by as_aux_lemma => kernel_rfl) (by as_aux_lemma => kernel_rfl) (by as_aux_lemma => kernel_rfl) (fun _ _ _ h => h) (Or.inl ⟨by rfl, ?yT20⟩) hHeld ?rT20
          case yT20 => (intro w' hSw; (try dsimp only at hSw); go_simp; try with_reducible rfl)
          try simp only [List.getElem_toArray, List.getElem_cons_zero, List.getElem_cons_succ, Act.put, List.setIfInBounds_toArray, List.set_cons_zero, List.set_cons_succ]
          refine' wpAnyK_takeL (i := 6) (v := _) rfl (by as_aux_lemma => kernel_rfl) (by as_aux_lemma => kernel_rfl) (by as_aux_lemma => kernel_rfl) (by as_aux_lemma => kernel_rfl) (fun _ _ _ h => h) (Or.inl ⟨by rfl, ?yT21⟩) hHeld ?rT21
          case yT21 => (intro w' hSw; (try dsimp only at hSw); go_simp; try with_reducible rfl)
          try simp only [List.getElem_toArray, List.getElem_cons_zero, List.getElem_cons_succ, Act.put, List.setIfInBounds_toArray, List.set_cons_zero, List.set_cons_succ]
          refine' wpAnyK_takeL (i := 7) (v := _) rfl (by as_aux_lemma => kernel_rfl) (by as_aux_lemma => kernel_rfl) (by as_aux_lemma => kernel_rfl) (by as_aux_lemma => kernel_rfl) (fun _ _ _ h => h) (Or.inl ⟨by rfl, ?yT22⟩) hHeld ?rT22
          case yT22 => (intro w' hSw; (try dsimp only at hSw); go_simp; try with_reducible rfl)
          try simp only [List.getElem_toArray, List.getElem_cons_zero, List.getElem_cons_succ, Act.put, List.setIfInBounds_toArray, List.set_cons_zero, List.set_cons_succ]
          refine wpAnyK_three (i := 2) (j := 8) (k := 11) (by as_aux_lemma => kernel_rfl) rfl rfl rfl (fun K hK => ?_) (fun K hK => ?_) (fun K hK => ?_)
          · as_aux_lemma =>
            go_simp
            obtain ⟨wl, hwl⟩ : ∃ x : World, x = (w39.alloc (.cells #[.int .i64 0] 2)).drew := ⟨_, rfl⟩
            have hbl : Below (w39).heap.size (w39) wl := by rw [hwl]; exact (by (repeat (first | exact Below.refl _ _ | (refine Below.setCell ?_ (by first | (simp; done) | (simp; omega) | omega) _) | (refine Below.alloc ?_ (by first | (simp; done) | (simp; omega) | omega) _) | (refine below_drewN ?_ _) | (refine Below.drew ?_))))
            have A2 : OwI wl w39.heap.size (.slice (some ⟨w39.heap.size, 0, none⟩) 1 1) [0] := by rw [hwl]; exact OwI.lit (w39) [0] (by simp [maxLen])
            have z2 : w39.heap.size < wl.heap.size := by rw [hwl]; simp
            have q2 : w38.heap.size ≤ w39.heap.size := hDc.size
            have hDc := hDc.below hbl
            (try have R8 := R8.below hbl)
            (try have X11 := X11.below hbl (Nat.le_refl _))
            have aR := aR.below hbl
            obtain ⟨⟨f0, f1⟩, -⟩ := fL.below (hDc.out hbL hbd)
            rw [← hwl]
            clear hwl
            clear hHeld
            have hHeld : (fun w' : World => w'.cell? ⟨w1.heap.size, 0, none⟩ = some (.int .i64 mf)) wl := by go_keep
            refine hK.out _ _ (fun _ => hHeld) ?_
            clear hK K
            try simp only [List.getElem_toArray, List.getElem_cons_zero, List.getElem_cons_succ, Act.put, List.setIfInBounds_toArray, List.set_cons_zero, List.set_cons_succ]
            refine wpAnyK_two (i := 8) (j := 11) rfl rfl (by as_aux_lemma => kernel_rfl) (fun K hK => ?_) (fun K hK => ?_)
            · as_aux_lemma =>
              go_simp
              go_at_call 53
              refine (below5_i w37.heap.size n d mf ((xf.length : Int) - 1) N (wl) (by first | exact hDc.src | exact hDc.drew.src) (by have := HN.out; omega) (by omega) (by have := HN.out; omega)).mono ?_
              rintro e w8 ⟨v8, ys, rfl, R8, hys, hdd⟩
              obtain ⟨g8, c8, rfl⟩ := row_of R8 hys.1 (by omega)
              have HYS := Lib.hid hys
              clear hys
              have hDc : DW w37.heap.size n d w38 w8 := by first | exact hDc.trans hdd | exact hDc.drew.trans hdd
              have z8 : wl.heap.size ≤ w8.heap.size := hdd.size
              (try have A2 := A2.dw hdd (by omega))
              (try have X11 := X11.dw hdd (by omega))
              have aR := (show Rds _ _ (wl) _ from aR).dwS hdd (by omega)
              obtain ⟨⟨f0, f1⟩, -⟩ := fL.below (hDc.out hbL hbd)
              clear hdd
              go_wp2_with fail
              clear hHeld
              have hHeld : (fun w' : World => w'.cell? ⟨w1.heap.size, 0, none⟩ = some (.int .i64 mf)) w8 := by go_keep
              refine hK.out _ _ (fun _ => hHeld) ?_
              clear hK K
              try simp only [List.getElem_toArray, List.getElem_cons_zero, List.getElem_cons_succ, Act.put, List.setIfInBounds_toArray, List.set_cons_zero, List.set_cons_succ]
              refine wpAnyK_two (i := 9) (j := 11) rfl rfl (by as_aux_lemma => kernel_rfl) (fun K hK => ?_) (fun K hK => ?_)
              · as_aux_lemma =>
                have hA2l := A2.lt
                refine stR _ rfl _ _ rfl w39.heap.size (.slice (some ⟨w39.heap.size, 0, none⟩) 1 1) [0] rfl A2 ⟨g8, 0, none⟩ N c8 ys rfl R8.rd (by have := HYS.out.1; simp; omega) (by omega) ?_
                intro o9 c9 w9 hO9 hgr hb9
                rw [show ([(0 : Int)] ++ ys).length = N + 1 by have := HYS.out.1; simp; omega] at hO9 ⊢
                have z9 : w8.heap.size ≤ w9.heap.size := hgr.size
                have hDc := hDc.grown hgr (fun j hj => by have := hA2l j hj; omega)
                skip
                have aR := aR.grown hgr (fun j hj => .inr (by have := hA2l j hj; omega))
                obtain ⟨⟨f0, f1⟩, -⟩ := fL.below (hDc.out hbL hbd)
                clear hgr hb9
                clear hHeld
                have hHeld : (fun w' : World => w'.cell? ⟨w1.heap.size, 0, none⟩ = some (.int .i64 mf)) w9 := by go_keep
                refine hK.out _ _ (fun _ => hHeld) ?_
                clear hK K
                try simp only [List.getElem_toArray, List.getElem_cons_zero, List.getElem_cons_succ, Act.put, List.setIfInBounds_toArray, List.set_cons_zero, List.set_cons_succ]
                refine' wpAnyK_pureL (i := 10) (v := _) rfl (by as_aux_lemma => kernel_rfl) (by as_aux_lemma => kernel_rfl) (by as_aux_lemma => kernel_rfl) (by as_aux_lemma => kernel_rfl) (fun _ _ _ h => h) (Or.inl ⟨by rfl, ?yT23⟩) ?rT23
                case yT23 => (intro w' _; go_simp; try with_reducible rfl)
                try simp only [List.getElem_toArray, List.getElem_cons_zero, List.getElem_cons_succ, Act.put, List.setIfInBounds_toArray, List.set_cons_zero, List.set_cons_succ]
                refine wpAnyK_oneL (i := 11) rfl (by as_aux_lemma => kernel_rfl) (fun K hK => ?_)
                go_simp
                obtain ⟨wa, hwa⟩ : ∃ x : World, x = (w9).alloc (.cells #[.int .i64 0, .slice none 0 0] 26) := ⟨_, rfl⟩
                have hba : Below (w9).heap.size (w9) wa := by rw [hwa]; exact (by (repeat (first | exact Below.refl _ _ | (refine Below.setCell ?_ (by first | (simp; done) | (simp; omega) | omega) _) | (refine Below.alloc ?_ (by first | (simp; done) | (simp; omega) | omega) _) | (refine below_drewN ?_ _) | (refine Below.drew ?_))))
                have X11 : RB2 wa w9.heap.size (.int .i64 0) (.slice none 0 0) := by rw [hwa]; exact RB2.mk1 (w9) _ _ _
                have z11 : w9.heap.size < wa.heap.size := X11.1.lt
                have q11 : w38.heap.size ≤ w9.heap.size := hDc.size
                have hDc := hDc.below hba
                (try have A2 := A2.below hba)
                (try have R8 := R8.below hba)
                (try have hO9 := hO9.below hba)
                have aR := aR.below hba
                obtain ⟨⟨f0, f1⟩, -⟩ := fL.below (hDc.out hbL hbd)
                rw [← hwa]
                clear hwa
                clear hHeld
                have hHeld : (fun w' : World => w'.cell? ⟨w1.heap.size, 0, none⟩ = some (.int .i64 mf)) wa := by go_keep
                refine hK.out _ _ (fun _ => hHeld) ?_
                clear hK K
                try simp only [List.getElem_toArray, List.getElem_cons_zero, List.getElem_cons_succ, Act.put, List.setIfInBounds_toArray, List.set_cons_zero, List.set_cons_succ]
                refine wpAnyK_oneL (i := 12) rfl (by as_aux_lemma => kernel_rfl) (fun K hK => ?_)
                obtain ⟨⟨z0, z1⟩, zf⟩ := id X11
                go_simp
                (try go_wp2_with fail)
                refine hK.out _ _ (fun h => absurd h (by decide)) ?_
                clear hK K
                try simp only [List.getElem_toArray, List.getElem_cons_zero, List.getElem_cons_succ, Act.put, List.setIfInBounds_toArray, List.set_cons_zero, List.set_cons_succ]
                refine wpAnyK_done (by as_aux_lemma => kernel_rfl) ?_ _
                go_wp2_with fail
                go_meet
                obtain ⟨g9, c9', e9⟩ := row_of hO9 (N := N + 1) (by have := HYS.out.1; simp; omega) (by omega)
                obtain ⟨rfl, rfl⟩ : o9 = some ⟨g9, 0, none⟩ ∧ c9 = c9' := by simpa using e9
                have hne := own_ne hO9 (by have := HYS.out.1; simp; omega) X11.1
                have hO10 := ((hO9.ne (b := w9.heap.size) (k := 0) (fun j hj => by have e : g9 = j := (by simpa [Value.ownBlock] using hj); omega) (.int .i64 mf)).ne (b := w9.heap.size) (k := 1) (fun j hj => by have e : g9 = j := (by simpa [Value.ownBlock] using hj); omega) (.slice (some ⟨g9, 0, none⟩) (N + 1) c9)).mono (B' := w38.heap.size) q2
                have hX10 := (RB2.put X11 (.int .i64 mf) (.slice (some ⟨g9, 0, none⟩) (N + 1) c9)).1
                exact ⟨_, _, _, _, c9, ys, rfl, rfl, rfl, HYS.out, sb_rds hX10 hO10 q11 (by simp; omega), (aR.put (.inr (by omega)) _ _).put (.inr (by omega)) _ _, (hDc.put q11 _ _).put q11 _ _⟩
              · as_aux_lemma =>
                go_simp
                obtain ⟨wa, hwa⟩ : ∃ x : World, x = (w8).alloc (.cells #[.int .i64 0, .slice none 0 0] 26) := ⟨_, rfl⟩
                have hba : Below (w8).heap.size (w8) wa := by rw [hwa]; exact (by (repeat (first | exact Below.refl _ _ | (refine Below.setCell ?_ (by first | (simp; done) | (simp; omega) | omega) _) | (refine Below.alloc ?_ (by first | (simp; done) | (simp; omega) | omega) _) | (refine below_drewN ?_ _) | (refine Below.drew ?_))))
                have X11 : RB2 wa w8.heap.size (.int .i64 0) (.slice none 0 0) := by rw [hwa]; exact RB2.mk1 (w8) _ _ _
                have z11 : w8.heap.size < wa.heap.size := X11.1.lt
                have q11 : w38.heap.size ≤ w8.heap.size := hDc.size
                have hDc := hDc.below hba
                (try have A2 := A2.below hba)
                (try have R8 := R8.below hba)
                (try have hO9 := hO9.below hba)
                have aR := aR.below hba
                obtain ⟨⟨f0, f1⟩, -⟩ := fL.below (hDc.out hbL hbd)
                rw [← hwa]
                clear hwa
                clear hHeld
                have hHeld : (fun w' : World => w'.cell? ⟨w1.heap.size, 0, none⟩ = some (.int .i64 mf)) wa := by go_keep
                refine hK.out _ _ (fun _ => hHeld) ?_
                clear hK K
                try simp only [List.getElem_toArray, List.getElem_cons_zero, List.getElem_cons_succ, Act.put, List.setIfInBounds_toArray, List.set_cons_zero, List.set_cons_succ]
                refine wpAnyK_oneL (i := 9) rfl (by as_aux_lemma => kernel_rfl) (fun K hK => ?_)
                have hA2l := A2.lt
                refine stR _ rfl _ _ rfl w39.heap.size (.slice (some ⟨w39.heap.size, 0, none⟩) 1 1) [0] rfl A2 ⟨g8, 0, none⟩ N c8 ys rfl R8.rd (by have := HYS.out.1; simp; omega) (by omega) ?_
                intro o9 c9 w9 hO9 hgr hb9
                rw [show ([(0 : Int)] ++ ys).length = N + 1 by have := HYS.out.1; simp; omega] at hO9 ⊢
                have z9 : wa.heap.size ≤ w9.heap.size := hgr.size
                have hDc := hDc.grown hgr (fun j hj => by have := hA2l j hj; omega)
                (try have X11 := X11.grown hgr (fun e => by have e2 : w8.heap.size = w39.heap.size := (by simpa [Value.ownBlock] using e); omega))
                have aR := aR.grown hgr (fun j hj => .inr (by have := hA2l j hj; omega))
                obtain ⟨⟨f0, f1⟩, -⟩ := fL.below (hDc.out hbL hbd)
                clear hgr hb9
                clear hHeld
                have hHeld : (fun w' : World => w'.cell? ⟨w1.heap.size, 0, none⟩ = some (.int .i64 mf)) w9 := by go_keep
                refine hK.out _ _ (fun _ => hHeld) ?_
                clear hK K
                try simp only [List.getElem_toArray, List.getElem_cons_zero, List.getElem_cons_succ, Act.put, List.setIfInBounds_toArray, List.set_cons_zero, List.set_cons_succ]
                refine' wpAnyK_pureL (i := 10) (v := _) rfl (by as_aux_lemma => kernel_rfl) (by as_aux_lemma => kernel_rfl) (by as_aux_lemma => kernel_rfl) (by as_aux_lemma => kernel_rfl) (fun _ _ _ h => h) (Or.inl ⟨by rfl, ?yT24⟩) ?rT24
                case yT24 => (intro w' _; go_simp; try with_reducible rfl)
                try simp only [List.getElem_toArray, List.getElem_cons_zero, List.getElem_cons_succ, Act.put, List.setIfInBounds_toArray, List.set_cons_zero, List.set_cons_succ]
                refine wpAnyK_oneL (i := 12) rfl (by as_aux_lemma => kernel_rfl) (fun K hK => ?_)
                obtain ⟨⟨z0, z1⟩, zf⟩ := id X11
                go_simp
                (try go_wp2_with fail)
                refine hK.out _ _ (fun h => absurd h (by decide)) ?_
                clear hK K
                try simp only [List.getElem_toArray, List.getElem_cons_zero, List.getElem_cons_succ, Act.put, List.setIfInBounds_toArray, List.set_cons_zero, List.set_cons_succ]
                refine wpAnyK_done (by as_aux_lemma => kernel_rfl) ?_ _
                go_wp2_with fail
                go_meet
                obtain ⟨g9, c9', e9⟩ := row_of hO9 (N := N + 1) (by have := HYS.out.1; simp; omega) (by omega)
                obtain ⟨rfl, rfl⟩ : o9 = some ⟨g9, 0, none⟩ ∧ c9 = c9' := by simpa using e9
                have hne := own_ne hO9 (by have := HYS.out.1; simp; omega) X11.1
                have hO10 := ((hO9.ne (b := w8.heap.size) (k := 0) (fun j hj => by have e : g9 = j := (by simpa [Value.ownBlock] using hj); omega) (.int .i64 mf)).ne (b := w8.heap.size) (k := 1) (fun j hj => by have e : g9 = j := (by simpa [Value.ownBlock] using hj); omega) (.slice (some ⟨g9, 0, none⟩) (N + 1) c9)).mono (B' := w38.heap.size) q2
                have hX10 := (RB2.put X11 (.int .i64 mf) (.slice (some ⟨g9, 0, none⟩) (N + 1) c9)).1
                exact ⟨_, _, _, _, c9, ys, rfl, rfl, rfl, HYS.out, sb_rds hX10 hO10 q11 (by simp; omega), (aR.put (.inr (by omega)) _ _).put (.inr (by omega)) _ _, (hDc.put q11 _ _).put q11 _ _⟩
            · as_aux_lemma =>
              go_simp
              obtain ⟨wa, hwa⟩ : ∃ x : World, x = (wl).alloc (.cells #[.int .i64 0, .slice none 0 0] 26) := ⟨_, rfl⟩
              have hba : Below (wl).heap.size (wl) wa := by rw [hwa]; exact (by (repeat (first | exact Below.refl _ _ | (refine Below.setCell ?_ (by first | (simp; done) | (simp; omega) | omega) _) | (refine Below.alloc ?_ (by first | (simp; done) | (simp; omega) | omega) _) | (refine below_drewN ?_ _) | (refine Below.drew ?_))))
              have X11 : RB2 wa wl.heap.size (.int .i64 0) (.slice none 0 0) := by rw [hwa]; exact RB2.mk1 (wl) _ _ _
              have z11 : wl.heap.size < wa.heap.size := X11.1.lt
              have q11 : w38.heap.size ≤ wl.heap.size := hDc.size
              have hDc := hDc.below hba
              (try have A2 := A2.below hba)
              (try have R8 := R8.below hba)
              (try have hO9 := hO9.below hba)
              have aR := aR.below hba
              obtain ⟨⟨f0, f1⟩, -⟩ := fL.below (hDc.out hbL hbd)
              rw [← hwa]
              clear hwa
              clear hHeld
              have hHeld : (fun w' : World => w'.cell? ⟨w1.heap.size, 0, none⟩ = some (.int .i64 mf)) wa := by go_keep
              refine hK.out _ _ (fun _ => hHeld) ?_
              clear hK K
              try simp only [List.getElem_toArray, List.getElem_cons_zero, List.getElem_cons_succ, Act.put, List.setIfInBounds_toArray, List.set_cons_zero, List.set_cons_succ]
              refine wpAnyK_oneL (i := 8) rfl (by as_aux_lemma => kernel_rfl) (fun K hK => ?_)
              go_simp
              go_at_call 53
              refine (below5_i w37.heap.size n d mf ((xf.length : Int) - 1) N (wa) (by first | exact hDc.src | exact hDc.drew.src) (by have := HN.out; omega) (by omega) (by have := HN.out; omega)).mono ?_
              rintro e w8 ⟨v8, ys, rfl, R8, hys, hdd⟩
              obtain ⟨g8, c8, rfl⟩ := row_of R8 hys.1 (by omega)
              have HYS := Lib.hid hys
              clear hys
              have hDc : DW w37.heap.size n d w38 w8 := by first | exact hDc.trans hdd | exact hDc.drew.trans hdd
              have z8 : wa.heap.size ≤ w8.heap.size := hdd.size
              (try have A2 := A2.dw hdd (by omega))
              (try have X11 := X11.dw hdd (by omega))
              have aR := (show Rds _ _ (wa) _ from aR).dwS hdd (by omega)
              obtain ⟨⟨f0, f1⟩, -⟩ := fL.below (hDc.out hbL hbd)
              clear hdd
              go_wp2_with fail
              clear hHeld
              have hHeld : (fun w' : World => w'.cell? ⟨w1.heap.size, 0, none⟩ = some (.int .i64 mf)) w8 := by go_keep
              refine hK.out _ _ (fun _ => hHeld) ?_
              clear hK K
              try simp only [List.getElem_toArray, List.getElem_cons_zero, List.getElem_cons_succ, Act.put, List.setIfInBounds_toArray, List.set_cons_zero, List.set_cons_succ]
              refine wpAnyK_oneL (i := 9) rfl (by as_aux_lemma => kernel_rfl) (fun K hK => ?_)
              have hA2l := A2.lt
              refine stR _ rfl _ _ rfl w39.heap.size (.slice (some ⟨w39.heap.size, 0, none⟩) 1 1) [0] rfl A2 ⟨g8, 0, none⟩ N c8 ys rfl R8.rd (by have := HYS.out.1; simp; omega) (by omega) ?_
              intro o9 c9 w9 hO9 hgr hb9
              rw [show ([(0 : Int)] ++ ys).length = N + 1 by have := HYS.out.1; simp; omega] at hO9 ⊢
              have z9 : w8.heap.size ≤ w9.heap.size := hgr.size
              have hDc := hDc.grown hgr (fun j hj => by have := hA2l j hj; omega)
              (try have X11 := X11.grown hgr (fun e => by have e2 : wl.heap.size = w39.heap.size := (by simpa [Value.ownBlock] using e); omega))
              have aR := aR.grown hgr (fun j hj => .inr (by have := hA2l j hj; omega))
              obtain ⟨⟨f0, f1⟩, -⟩ := fL.below (hDc.out hbL hbd)
              clear hgr hb9
              clear hHeld
              have hHeld : (fun w' : World => w'.cell? ⟨w1.heap.size, 0, none⟩ = some (.int .i64 mf)) w9 := by go_keep
              refine hK.out _ _ (fun _ => hHeld) ?_
              clear hK K
              try simp only [List.getElem_toArray, List.getElem_cons_zero, List.getElem_cons_succ, Act.put, List.setIfInBounds_toArray, List.set_cons_zero, List.set_cons_succ]
              refine' wpAnyK_pureL (i := 10) (v := _) rfl (by as_aux_lemma => kernel_rfl) (by as_aux_lemma => kernel_rfl) (by as_aux_lemma => kernel_rfl) (by as_aux_lemma => kernel_rfl) (fun _ _ _ h => h) (Or.inl ⟨by rfl, ?yT25⟩) ?rT25
              case yT25 => (intro w' _; go_simp; try with_reducible rfl)
              try simp only [List.getElem_toArray, List.getElem_cons_zero, List.getElem_cons_succ, Act.put, List.setIfInBounds_toArray, List.set_cons_zero, List.set_cons_succ]
              refine wpAnyK_oneL (i := 12) rfl (by as_aux_lemma => kernel_rfl) (fun K hK => ?_)
              obtain ⟨⟨z0, z1⟩, zf⟩ := id X11
              go_simp
              (try go_wp2_with fail)
              refine hK.out _ _ (fun h => absurd h (by decide)) ?_
              clear hK K
              try simp only [List.getElem_toArray, List.getElem_cons_zero, List.getElem_cons_succ, Act.put, List.setIfInBounds_toArray, List.set_cons_zero, List.set_cons_succ]
              refine wpAnyK_done (by as_aux_lemma => kernel_rfl) ?_ _
              go_wp2_with fail
              go_meet
              obtain ⟨g9, c9', e9⟩ := row_of hO9 (N := N + 1) (by have := HYS.out.1; simp; omega) (by omega)
              obtain ⟨rfl, rfl⟩ : o9 = some ⟨g9, 0, none⟩ ∧ c9 = c9' := by simpa using e9
              have hne := own_ne hO9 (by have := HYS.out.1; simp; omega) X11.1
              have hO10 := ((hO9.ne (b := wl.heap.size) (k := 0) (fun j hj => by have e : g9 = j := (by simpa [Value.ownBlock] using hj); omega) (.int .i64 mf)).ne (b := wl.heap.size) (k := 1) (fun j hj => by have e : g9 = j := (by simpa [Value.ownBlock] using hj); omega) (.slice (some ⟨g9, 0, none⟩) (N + 1) c9)).mono (B' := w38.heap.size) q2
              have hX10 := (RB2.put X11 (.int .i64 mf) (.slice (some ⟨g9, 0, none⟩) (N + 1) c9)).1
              exact ⟨_, _, _, _, c9, ys, rfl, rfl, rfl, HYS.out, sb_rds hX10 hO10 q11 (by simp; omega), (aR.put (.inr (by omega)) _ _).put (.inr (by omega)) _ _, (hDc.put q11 _ _).put q11 _ _⟩
          · as_aux_lemma =>
            go_simp
            go_at_call 53
            refine (below5_i w37.heap.size n d mf ((xf.length : Int) - 1) N (w39.drew) (by first | exact hDc.src | exact hDc.drew.src) (by have := HN.out; omega) (by omega) (by have := HN.out; omega)).mono ?_
            rintro e w8 ⟨v8, ys, rfl, R8, hys, hdd⟩
            obtain ⟨g8, c8, rfl⟩ := row_of R8 hys.1 (by omega)
            have HYS := Lib.hid hys
            clear hys
            have hDc : DW w37.heap.size n d w38 w8 := by first | exact hDc.trans hdd | exact hDc.drew.trans hdd
            have z8 : w39.heap.size ≤ w8.heap.size := hdd.size
            (try have A2 := A2.dw hdd (by omega))
            (try have X11 := X11.dw hdd (by omega))
            have aR := (show Rds _ _ (w39.drew) _ from aR).dwS hdd (by omega)
            obtain ⟨⟨f0, f1⟩, -⟩ := fL.below (hDc.out hbL hbd)
            clear hdd
            go_wp2_with fail
            clear hHeld
            have hHeld : (fun w' : World => w'.cell? ⟨w1.heap.size, 0, none⟩ = some (.int .i64 mf)) w8 := by go_keep
            refine hK.out _ _ (fun _ => hHeld) ?_
            clear hK K
            try simp only [List.getElem_toArray, List.getElem_cons_zero, List.getElem_cons_succ, Act.put, List.setIfInBounds_toArray, List.set_cons_zero, List.set_cons_succ]
            refine wpAnyK_two (i := 2) (j := 11) rfl rfl (by as_aux_lemma => kernel_rfl) (fun K hK => ?_) (fun K hK => ?_)
            · as_aux_lemma =>
              go_simp
              obtain ⟨wl, hwl⟩ : ∃ x : World, x = (w8).alloc (.cells #[.int .i64 0] 2) := ⟨_, rfl⟩
              have hbl : Below (w8).heap.size (w8) wl := by rw [hwl]; exact (by (repeat (first | exact Below.refl _ _ | (refine Below.setCell ?_ (by first | (simp; done) | (simp; omega) | omega) _) | (refine Below.alloc ?_ (by first | (simp; done) | (simp; omega) | omega) _) | (refine below_drewN ?_ _) | (refine Below.drew ?_))))
              have A2 : OwI wl w8.heap.size (.slice (some ⟨w8.heap.size, 0, none⟩) 1 1) [0] := by rw [hwl]; exact OwI.lit (w8) [0] (by simp [maxLen])
              have z2 : w8.heap.size < wl.heap.size := by rw [hwl]; simp
              have q2 : w38.heap.size ≤ w8.heap.size := hDc.size
              have hDc := hDc.below hbl
              (try have R8 := R8.below hbl)
              (try have X11 := X11.below hbl (Nat.le_refl _))
              have aR := aR.below hbl
              obtain ⟨⟨f0, f1⟩, -⟩ := fL.below (hDc.out hbL hbd)
              rw [← hwl]
              clear hwl
              clear hHeld
              have hHeld : (fun w' : World => w'.cell? ⟨w1.heap.size, 0, none⟩ = some (.int .i64 mf)) wl := by go_keep
              refine hK.out _ _ (fun _ => hHeld) ?_
              clear hK K
              try simp only [List.getElem_toArray, List.getElem_cons_zero, List.getElem_cons_succ, Act.put, List.setIfInBounds_toArray, List.set_cons_zero, List.set_cons_succ]
              refine wpAnyK_two (i := 9) (j := 11) rfl rfl (by as_aux_lemma => kernel_rfl) (fun K hK => ?_) (fun K hK => ?_)
              · as_aux_lemma =>
                have hA2l := A2.lt
                refine stR _ rfl _ _ rfl w8.heap.size (.slice (some ⟨w8.heap.size, 0, none⟩) 1 1) [0] rfl A2 ⟨g8, 0, none⟩ N c8 ys rfl R8.rd (by have := HYS.out.1; simp; omega) (by omega) ?_
                intro o9 c9 w9 hO9 hgr hb9
                rw [show ([(0 : Int)] ++ ys).length = N + 1 by have := HYS.out.1; simp; omega] at hO9 ⊢
                have z9 : wl.heap.size ≤ w9.heap.size := hgr.size
                have hDc := hDc.grown hgr (fun j hj => by have := hA2l j hj; omega)
                skip
                have aR := aR.grown hgr (fun j hj => .inr (by have := hA2l j hj; omega))
                obtain ⟨⟨f0, f1⟩, -⟩ := fL.below (hDc.out hbL hbd)
                clear hgr hb9
                clear hHeld
                have hHeld : (fun w' : World => w'.cell? ⟨w1.heap.size, 0, none⟩ = some (.int .i64 mf)) w9 := by go_keep
                refine hK.out _ _ (fun _ => hHeld) ?_
                clear hK K
                try simp only [List.getElem_toArray, List.getElem_cons_zero, List.getElem_cons_succ, Act.put, List.setIfInBounds_toArray, List.set_cons_zero, List.set_cons_succ]
                refine' wpAnyK_pureL (i := 10) (v := _) rfl (by as_aux_lemma => kernel_rfl) (by as_aux_lemma => kernel_rfl) (by as_aux_lemma => kernel_rfl) (by as_aux_lemma => kernel_rfl) (fun _ _ _ h => h) (Or.inl ⟨by rfl, ?yT26⟩) ?rT26
                case yT26 => (intro w' _; go_simp; try with_reducible rfl)
                try simp only [List.getElem_toArray, List.getElem_cons_zero, List.getElem_cons_succ, Act.put, List.setIfInBounds_toArray, List.set_cons_zero, List.set_cons_succ]
                refine wpAnyK_oneL (i := 11) rfl (by as_aux_lemma => kernel_rfl) (fun K hK => ?_)
                go_simp
                obtain ⟨wa, hwa⟩ : ∃ x : World, x = (w9).alloc (.cells #[.int .i64 0, .slice none 0 0] 26) := ⟨_, rfl⟩
                have hba : Below (w9).heap.size (w9) wa := by rw [hwa]; exact (by (repeat (first | exact Below.refl _ _ | (refine Below.setCell ?_ (by first | (simp; done) | (simp; omega) | omega) _) | (refine Below.alloc ?_ (by first | (simp; done) | (simp; omega) | omega) _) | (refine below_drewN ?_ _) | (refine Below.drew ?_))))
                have X11 : RB2 wa w9.heap.size (.int .i64 0) (.slice none 0 0) := by rw [hwa]; exact RB2.mk1 (w9) _ _ _
                have z11 : w9.heap.size < wa.heap.size := X11.1.lt
                have q11 : w38.heap.size ≤ w9.heap.size := hDc.size
                have hDc := hDc.below hba
                (try have A2 := A2.below hba)
                (try have R8 := R8.below hba)
                (try have hO9 := hO9.below hba)
                have aR := aR.below hba
                obtain ⟨⟨f0, f1⟩, -⟩ := fL.below (hDc.out hbL hbd)
                rw [← hwa]
                clear hwa
                clear hHeld
                have hHeld : (fun w' : World => w'.cell? ⟨w1.heap.size, 0, none⟩ = some (.int .i64 mf)) wa := by go_keep
                refine hK.out _ _ (fun _ => hHeld) ?_
                clear hK K
                try simp only [List.getElem_toArray, List.getElem_cons_zero, List.getElem_cons_succ, Act.put, List.setIfInBounds_toArray, List.set_cons_zero, List.set_cons_succ]
                refine wpAnyK_oneL (i := 12) rfl (by as_aux_lemma => kernel_rfl) (fun K hK => ?_)
                obtain ⟨⟨z0, z1⟩, zf⟩ := id X11
                go_simp
                (try go_wp2_with fail)
                refine hK.out _ _ (fun h => absurd h (by decide)) ?_
                clear hK K
                try simp only [List.getElem_toArray, List.getElem_cons_zero, List.getElem_cons_succ, Act.put, List.setIfInBounds_toArray, List.set_cons_zero, List.set_cons_succ]
                refine wpAnyK_done (by as_aux_lemma => kernel_rfl) ?_ _
                go_wp2_with fail
                go_meet
                obtain ⟨g9, c9', e9⟩ := row_of hO9 (N := N + 1) (by have := HYS.out.1; simp; omega) (by omega)
                obtain ⟨rfl, rfl⟩ : o9 = some ⟨g9, 0, none⟩ ∧ c9 = c9' := by simpa using e9
                have hne := own_ne hO9 (by have := HYS.out.1; simp; omega) X11.1
                have hO10 := ((hO9.ne (b := w9.heap.size) (k := 0) (fun j hj => by have e : g9 = j := (by simpa [Value.ownBlock] using hj); omega) (.int .i64 mf)).ne (b := w9.heap.size) (k := 1) (fun j hj => by have e : g9 = j := (by simpa [Value.ownBlock] using hj); omega) (.slice (some ⟨g9, 0, none⟩) (N + 1) c9)).mono (B' := w38.heap.size) q2
                have hX10 := (RB2.put X11 (.int .i64 mf) (.slice (some ⟨g9, 0, none⟩) (N + 1) c9)).1
                exact ⟨_, _, _, _, c9, ys, rfl, rfl, rfl, HYS.out, sb_rds hX10 hO10 q11 (by simp; omega), (aR.put (.inr (by omega)) _ _).put (.inr (by omega)) _ _, (hDc.put q11 _ _).put q11 _ _⟩
              · as_aux_lemma =>
                go_simp
                obtain ⟨wa, hwa⟩ : ∃ x : World, x = (wl).alloc (.cells #[.int .i64 0, .slice none 0 0] 26) := ⟨_, rfl⟩
                have hba : Below (wl).heap.size (wl) wa := by rw [hwa]; exact (by (repeat (first | exact Below.refl _ _ | (refine Below.setCell ?_ (by first | (simp; done) | (simp; omega) | omega) _) | (refine Below.alloc ?_ (by first | (simp; done) | (simp; omega) | omega) _) | (refine below_drewN ?_ _) | (refine Below.drew ?_))))
                have X11 : RB2 wa wl.heap.size (.int .i64 0) (.slice none 0 0) := by rw [hwa]; exact RB2.mk1 (wl) _ _ _
                have z11 : wl.heap.size < wa.heap.size := X11.1.lt
                have q11 : w38.heap.size ≤ wl.heap.size := hDc.size
                have hDc := hDc.below hba
                (try have A2 := A2.below hba)
                (try have R8 := R8.below hba)
                (try have hO9 := hO9.below hba)
                have aR := aR.below hba
                obtain ⟨⟨f0, f1⟩, -⟩ := fL.below (hDc.out hbL hbd)
                rw [← hwa]
                clear hwa
                clear hHeld
                have hHeld : (fun w' : World => w'.cell? ⟨w1.heap.size, 0, none⟩ = some (.int .i64 mf)) wa := by go_keep
                refine hK.out _ _ (fun _ => hHeld) ?_
                clear hK K
                try simp only [List.getElem_toArray, List.getElem_cons_zero, List.getElem_cons_succ, Act.put, List.setIfInBounds_toArray, List.set_cons_zero, List.set_cons_succ]
                refine wpAnyK_oneL (i := 9) rfl (by as_aux_lemma => kernel_rfl) (fun K hK => ?_)
                have hA2l := A2.lt
                refine stR _ rfl _ _ rfl w8.heap.size (.slice (some ⟨w8.heap.size, 0, none⟩) 1 1) [0] rfl A2 ⟨g8, 0, none⟩ N c8 ys rfl R8.rd (by have := HYS.out.1; simp; omega) (by omega) ?_
                intro o9 c9 w9 hO9 hgr hb9
                rw [show ([(0 : Int)] ++ ys).length = N + 1 by have := HYS.out.1; simp; omega] at hO9 ⊢
                have z9 : wa.heap.size ≤ w9.heap.size := hgr.size
                have hDc := hDc.grown hgr (fun j hj => by have := hA2l j hj; omega)
                (try have X11 := X11.grown hgr (fun e => by have e2 : wl.heap.size = w8.heap.size := (by simpa [Value.ownBlock] using e); omega))
                have aR := aR.grown hgr (fun j hj => .inr (by have := hA2l j hj; omega))
                obtain ⟨⟨f0, f1⟩, -⟩ := fL.below (hDc.out hbL hbd)
                clear hgr hb9
                clear hHeld
                have hHeld : (fun w' : World => w'.cell? ⟨w1.heap.size, 0, none⟩ = some (.int .i64 mf)) w9 := by go_keep
                refine hK.out _ _ (fun _ => hHeld) ?_
                clear hK K
                try simp only [List.getElem_toArray, List.getElem_cons_zero, List.getElem_cons_succ, Act.put, List.setIfInBounds_toArray, List.set_cons_zero, List.set_cons_succ]
                refine' wpAnyK_pureL (i := 10) (v := _) rfl (by as_aux_lemma => kernel_rfl) (by as_aux_lemma => kernel_rfl) (by as_aux_lemma => kernel_rfl) (by as_aux_lemma => kernel_rfl) (fun _ _ _ h => h) (Or.inl ⟨by rfl, ?yT27⟩) ?rT27
                case yT27 => (intro w' _; go_simp; try with_reducible rfl)
                try simp only [List.getElem_toArray, List.getElem_cons_zero, List.getElem_cons_succ, Act.put, List.setIfInBounds_toArray, List.set_cons_zero, List.set_cons_succ]
                refine wpAnyK_oneL (i := 12) rfl (by as_aux_lemma => kernel_rfl) (fun K hK => ?_)
                obtain ⟨⟨z0, z1⟩, zf⟩ := id X11
                go_simp
                (try go_wp2_with fail)
                refine hK.out _ _ (fun h => absurd h (by decide)) ?_
                clear hK K
                try simp only [List.getElem_toArray, List.getElem_cons_zero, List.getElem_cons_succ, Act.put, List.setIfInBounds_toArray, List.set_cons_zero, List.set_cons_succ]
                refine wpAnyK_done (by as_aux_lemma => kernel_rfl) ?_ _
                go_wp2_with fail
                go_meet
                obtain ⟨g9, c9', e9⟩ := row_of hO9 (N := N + 1) (by have := HYS.out.1; simp; omega) (by omega)
                obtain ⟨rfl, rfl⟩ : o9 = some ⟨g9, 0, none⟩ ∧ c9 = c9' := by simpa using e9
                have hne := own_ne hO9 (by have := HYS.out.1; simp; omega) X11.1
                have hO10 := ((hO9.ne (b := wl.heap.size) (k := 0) (fun j hj => by have e : g9 = j := (by simpa [Value.ownBlock] using hj); omega) (.int .i64 mf)).ne (b := wl.heap.size) (k := 1) (fun j hj => by have e : g9 = j := (by simpa [Value.ownBlock] using hj); omega) (.slice (some ⟨g9, 0, none⟩) (N + 1) c9)).mono (B' := w38.heap.size) q2
                have hX10 := (RB2.put X11 (.int .i64 mf) (.slice (some ⟨g9, 0, none⟩) (N + 1) c9)).1
                exact ⟨_, _, _, _, c9, ys, rfl, rfl, rfl, HYS.out, sb_rds hX10 hO10 q11 (by simp; omega), (aR.put (.inr (by omega)) _ _).put (.inr (by omega)) _ _, (hDc.put q11 _ _).put q11 _ _⟩
            · as_aux_lemma =>
              go_simp
              obtain ⟨wa, hwa⟩ : ∃ x : World, x = (w8).alloc (.cells #[.int .i64 0, .slice none 0 0] 26) := ⟨_, rfl⟩
              have hba : Below (w8).heap.size (w8) wa := by rw [hwa]; exact (by (repeat (first | exact Below.refl _ _ | (refine Below.setCell ?_ (by first | (simp; done) | (simp; omega) | omega) _) | (refine Below.alloc ?_ (by first | (simp; done) | (simp; omega) | omega) _) | (refine below_drewN ?_ _) | (refine Below.drew ?_))))
              have X11 : RB2 wa w8.heap.size (.int .i64 0) (.slice none 0 0) := by rw [hwa]; exact RB2.mk1 (w8) _ _ _
              have z11 : w8.heap.size < wa.heap.size := X11.1.lt
              have q11 : w38.heap.size ≤ w8.heap.size := hDc.size
              have hDc := hDc.below hba
              (try have A2 := A2.below hba)
              (try have R8 := R8.below hba)
              (try have hO9 := hO9.below hba)
              have aR := aR.below hba
              obtain ⟨⟨f0, f1⟩, -⟩ := fL.below (hDc.out hbL hbd)
              rw [← hwa]
              clear hwa
              clear hHeld
              have hHeld : (fun w' : World => w'.cell? ⟨w1.heap.size, 0, none⟩ = some (.int .i64 mf)) wa := by go_keep
              refine hK.out _ _ (fun _ => hHeld) ?_
              clear hK K
              try simp only [List.getElem_toArray, List.getElem_cons_zero, List.getElem_cons_succ, Act.put, List.setIfInBounds_toArray, List.set_cons_zero, List.set_cons_succ]
              refine wpAnyK_oneL (i := 2) rfl (by as_aux_lemma => kernel_rfl) (fun K hK => ?_)
              go_simp
              obtain ⟨wl, hwl⟩ : ∃ x : World, x = (wa).alloc (.cells #[.int .i64 0] 2) := ⟨_, rfl⟩
              have hbl : Below (wa).heap.size (wa) wl := by rw [hwl]; exact (by (repeat (first | exact Below.refl _ _ | (refine Below.setCell ?_ (by first | (simp; done) | (simp; omega) | omega) _) | (refine Below.alloc ?_ (by first | (simp; done) | (simp; omega) | omega) _) | (refine below_drewN ?_ _) | (refine Below.drew ?_))))
              have A2 : OwI wl wa.heap.size (.slice (some ⟨wa.heap.size, 0, none⟩) 1 1) [0] := by rw [hwl]; exact OwI.lit (wa) [0] (by simp [maxLen])
              have z2 : wa.heap.size < wl.heap.size := by rw [hwl]; simp
              have q2 : w38.heap.size ≤ wa.heap.size := hDc.size
              have hDc := hDc.below hbl
              (try have R8 := R8.below hbl)
              (try have X11 := X11.below hbl (Nat.le_refl _))
              have aR := aR.below hbl
              obtain ⟨⟨f0, f1⟩, -⟩ := fL.below (hDc.out hbL hbd)
              rw [← hwl]
              clear hwl
              clear hHeld
              have hHeld : (fun w' : World => w'.cell? ⟨w1.heap.size, 0, none⟩ = some (.int .i64 mf)) wl := by go_keep
              refine hK.out _ _ (fun _ => hHeld) ?_
              clear hK K
              try simp only [List.getElem_toArray, List.getElem_cons_zero, List.getElem_cons_succ, Act.put, List.setIfInBounds_toArray, List.set_cons_zero, List.set_cons_succ]
              refine wpAnyK_oneL (i := 9) rfl (by as_aux_lemma => kernel_rfl) (fun K hK => ?_)
              have hA2l := A2.lt
              refine stR _ rfl _ _ rfl wa.heap.size (.slice (some ⟨wa.heap.size, 0, none⟩) 1 1) [0] rfl A2 ⟨g8, 0, none⟩ N c8 ys rfl R8.rd (by have := HYS.out.1; simp; omega) (by omega) ?_
              intro o9 c9 w9 hO9 hgr hb9
              rw [show ([(0 : Int)] ++ ys).length = N + 1 by have := HYS.out.1; simp; omega] at hO9 ⊢
              have z9 : wl.heap.size ≤ w9.heap.size := hgr.size
              have hDc := hDc.grown hgr (fun j hj => by have := hA2l j hj; omega)
              (try have X11 := X11.grown hgr (fun e => by have e2 : w8.heap.size = wa.heap.size := (by simpa [Value.ownBlock] using e); omega))
              have aR := aR.grown hgr (fun j hj => .inr (by have := hA2l j hj; omega))
              obtain ⟨⟨f0, f1⟩, -⟩ := fL.below (hDc.out hbL hbd)
              clear hgr hb9
              clear hHeld
              have hHeld : (fun w' : World => w'.cell? ⟨w1.heap.size, 0, none⟩ = some (.int .i64 mf)) w9 := by go_keep
              refine hK.out _ _ (fun _ => hHeld) ?_
              clear hK K
              try simp only [List.getElem_toArray, List.getElem_cons_zero, List.getElem_cons_succ, Act.put, List.setIfInBounds_toArray, List.set_cons_zero, List.set_cons_succ]
              refine' wpAnyK_pureL (i := 10) (v := _) rfl (by as_aux_lemma => kernel_rfl) (by as_aux_lemma => kernel_rfl) (by as_aux_lemma => kernel_rfl) (by as_aux_lemma => kernel_rfl) (fun _ _ _ h => h) (Or.inl ⟨by rfl, ?yT28⟩) ?rT28
              case yT28 => (intro w' _; go_simp; try with_reducible rfl)
              try simp only [List.getElem_toArray, List.getElem_cons_zero, List.getElem_cons_succ, Act.put, List.setIfInBounds_toArray, List.set_cons_zero, List.set_cons_succ]
              refine wpAnyK_oneL (i := 12) rfl (by as_aux_lemma => kernel_rfl) (fun K hK => ?_)
              obtain ⟨⟨z0, z1⟩, zf⟩ := id X11
              go_simp
              (try go_wp2_with fail)
              refine hK.out _ _ (fun h => absurd h (by decide)) ?_
              clear hK K
              try simp only [List.getElem_toArray, List.getElem_cons_zero, List.getElem_cons_succ, Act.put, List.setIfInBounds_toArray, List.set_cons_zero, List.set_cons_succ]
              refine wpAnyK_done (by as_aux_lemma => kernel_rfl) ?_ _
              go_wp2_with fail
              go_meet
              obtain ⟨g9, c9', e9⟩ := row_of hO9 (N := N + 1) (by have := HYS.out.1; simp; omega) (by omega)
              obtain ⟨rfl, rfl⟩ : o9 = some ⟨g9, 0, none⟩ ∧ c9 = c9' := by simpa using e9
              have hne := own_ne hO9 (by have := HYS.out.1; simp; omega) X11.1
              have hO10 := ((hO9.ne (b := w8.heap.size) (k := 0) (fun j hj => by have e : g9 = j := (by simpa [Value.ownBlock] using hj); omega) (.int .i64 mf)).ne (b := w8.heap.size) (k := 1) (fun j hj => by have e : g9 = j := (by simpa [Value.ownBlock] using hj); omega) (.slice (some ⟨g9, 0, none⟩) (N + 1) c9)).mono (B' := w38.heap.size) q2
              have hX10 := (RB2.put X11 (.int .i64 mf) (.slice (some ⟨g9, 0, none⟩) (N + 1) c9)).1
              exact ⟨_, _, _, _, c9, ys, rfl, rfl, rfl, HYS.out, sb_rds hX10 hO10 q11 (by simp; omega), (aR.put (.inr (by omega)) _ _).put (.inr (by omega)) _ _, (hDc.put q11 _ _).put q11 _ _⟩
          · as_aux_lemma =>
            go_simp
            obtain ⟨wa, hwa⟩ : ∃ x : World, x = (w39.alloc (.cells #[.int .i64 0, .slice none 0 0] 26)).drew := ⟨_, rfl⟩
            have hba : Below (w39).heap.size (w39) wa := by rw [hwa]; exact (by (repeat (first | exact Below.refl _ _ | (refine Below.setCell ?_ (by first | (simp; done) | (simp; omega) | omega) _) | (refine Below.alloc ?_ (by first | (simp; done) | (simp; omega) | omega) _) | (refine below_drewN ?_ _) | (refine Below.drew ?_))))
            have X11 : RB2 wa w39.heap.size (.int .i64 0) (.slice none 0 0) := by rw [hwa]; exact RB2.mk1 (w39) _ _ _
            have z11 : w39.heap.size < wa.heap.size := X11.1.lt
            have q11 : w38.heap.size ≤ w39.heap.size := hDc.size
            have hDc := hDc.below hba
            (try have A2 := A2.below hba)
            (try have R8 := R8.below hba)
            (try have hO9 := hO9.below hba)
            have aR := aR.below hba
            obtain ⟨⟨f0, f1⟩, -⟩ := fL.below (hDc.out hbL hbd)
            rw [← hwa]
            clear hwa
            clear hHeld
            have hHeld : (fun w' : World => w'.cell? ⟨w1.heap.size, 0, none⟩ = some (.int .i64 mf)) wa := by go_keep
            refine hK.out _ _ (fun _ => hHeld) ?_
            clear hK K
            try simp only [List.getElem_toArray, List.getElem_cons_zero, List.getElem_cons_succ, Act.put, List.setIfInBounds_toArray, List.set_cons_zero, List.set_cons_succ]
            refine wpAnyK_two (i := 2) (j := 8) rfl rfl (by as_aux_lemma => kernel_rfl) (fun K hK => ?_) (fun K hK => ?_)
            · as_aux_lemma =>
              go_simp
              obtain ⟨wl, hwl⟩ : ∃ x : World, x = (wa).alloc (.cells #[.int .i64 0] 2) := ⟨_, rfl⟩
              have hbl : Below (wa).heap.size (wa) wl := by rw [hwl]; exact (by (repeat (first | exact Below.refl _ _ | (refine Below.setCell ?_ (by first | (simp; done) | (simp; omega) | omega) _) | (refine Below.alloc ?_ (by first | (simp; done) | (simp; omega) | omega) _) | (refine below_drewN ?_ _) | (refine Below.drew ?_))))
              have A2 : OwI wl wa.heap.size (.slice (some ⟨wa.heap.size, 0, none⟩) 1 1) [0] := by rw [hwl]; exact OwI.lit (wa) [0] (by simp [maxLen])
              have z2 : wa.heap.size < wl.heap.size := by rw [hwl]; simp
              have q2 : w38.heap.size ≤ wa.heap.size := hDc.size
              have hDc := hDc.below hbl
              (try have R8 := R8.below hbl)
              (try have X11 := X11.below hbl (Nat.le_refl _))
              have aR := aR.below hbl
              obtain ⟨⟨f0, f1⟩, -⟩ := fL.below (hDc.out hbL hbd)
              rw [← hwl]
              clear hwl
              clear hHeld
              have hHeld : (fun w' : World => w'.cell? ⟨w1.heap.size, 0, none⟩ = some (.int .i64 mf)) wl := by go_keep
              refine hK.out _ _ (fun _ => hHeld) ?_
              clear hK K
              try simp only [List.getElem_toArray, List.getElem_cons_zero, List.getElem_cons_succ, Act.put, List.setIfInBounds_toArray, List.set_cons_zero, List.set_cons_succ]
              refine wpAnyK_oneL (i := 8) rfl (by as_aux_lemma => kernel_rfl) (fun K hK => ?_)
              go_simp
              go_at_call 53
              refine (below5_i w37.heap.size n d mf ((xf.length : Int) - 1) N (wl) (by first | exact hDc.src | exact hDc.drew.src) (by have := HN.out; omega) (by omega) (by have := HN.out; omega)).mono ?_
              rintro e w8 ⟨v8, ys, rfl, R8, hys, hdd⟩
              obtain ⟨g8, c8, rfl⟩ := row_of R8 hys.1 (by omega)
              have HYS := Lib.hid hys
              clear hys
              have hDc : DW w37.heap.size n d w38 w8 := by first | exact hDc.trans hdd | exact hDc.drew.trans hdd
              have z8 : wl.heap.size ≤ w8.heap.size := hdd.size
              (try have A2 := A2.dw hdd (by omega))
              (try have X11 := X11.dw hdd (by omega))
              have aR := (show Rds _ _ (wl) _ from aR).dwS hdd (by omega)
              obtain ⟨⟨f0, f1⟩, -⟩ := fL.below (hDc.out hbL hbd)
              clear hdd
              go_wp2_with fail
              clear hHeld
              have hHeld : (fun w' : World => w'.cell? ⟨w1.heap.size, 0, none⟩ = some (.int .i64 mf)) w8 := by go_keep
              refine hK.out _ _ (fun _ => hHeld) ?_
              clear hK K
              try simp only [List.getElem_toArray, List.getElem_cons_zero, List.getElem_cons_succ, Act.put, List.setIfInBounds_toArray, List.set_cons_zero, List.set_cons_succ]
              refine wpAnyK_oneL (i := 9) rfl (by as_aux_lemma => kernel_rfl) (fun K hK => ?_)
              have hA2l := A2.lt
              refine stR _ rfl _ _ rfl wa.heap.size (.slice (some ⟨wa.heap.size, 0, none⟩) 1 1) [0] rfl A2 ⟨g8, 0, none⟩ N c8 ys rfl R8.rd (by have := HYS.out.1; simp; omega) (by omega) ?_
              intro o9 c9 w9 hO9 hgr hb9
              rw [show ([(0 : Int)] ++ ys).length = N + 1 by have := HYS.out.1; simp; omega] at hO9 ⊢
              have z9 : w8.heap.size ≤ w9.heap.size := hgr.size
              have hDc := hDc.grown hgr (fun j hj => by have := hA2l j hj; omega)
              (try have X11 := X11.grown hgr (fun e => by have e2 : w39.heap.size = wa.heap.size := (by simpa [Value.ownBlock] using e); omega))
              have aR := aR.grown hgr (fun j hj => .inr (by have := hA2l j hj; omega))
              obtain ⟨⟨f0, f1⟩, -⟩ := fL.below (hDc.out hbL hbd)
              clear hgr hb9
              clear hHeld
              have hHeld : (fun w' : World => w'.cell? ⟨w1.heap.size, 0, none⟩ = some (.int .i64 mf)) w9 := by go_keep
              refine hK.out _ _ (fun _ => hHeld) ?_
              clear hK K
              try simp only [List.getElem_toArray, List.getElem_cons_zero, List.getElem_cons_succ, Act.put, List.setIfInBounds_toArray, List.set_cons_zero, List.set_cons_succ]
              refine' wpAnyK_pureL (i := 10) (v := _) rfl (by as_aux_lemma => kernel_rfl) (by as_aux_lemma => kernel_rfl) (by as_aux_lemma => kernel_rfl) (by as_aux_lemma => kernel_rfl) (fun _ _ _ h => h) (Or.inl ⟨by rfl, ?yT29⟩) ?rT29
              case yT29 => (intro w' _; go_simp; try with_reducible rfl)
              try simp only [List.getElem_toArray, List.getElem_cons_zero, List.getElem_cons_succ, Act.put, List.setIfInBounds_toArray, List.set_cons_zero, List.set_cons_succ]
              refine wpAnyK_oneL (i := 12) rfl (by as_aux_lemma => kernel_rfl) (fun K hK => ?_)
              obtain ⟨⟨z0, z1⟩, zf⟩ := id X11
              go_simp
              (try go_wp2_with fail)
              refine hK.out _ _ (fun h => absurd h (by decide)) ?_
              clear hK K
              try simp only [List.getElem_toArray, List.getElem_cons_zero, List.getElem_cons_succ, Act.put, List.setIfInBounds_toArray, List.set_cons_zero, List.set_cons_succ]
              refine wpAnyK_done (by as_aux_lemma => kernel_rfl) ?_ _
              go_wp2_with fail
              go_meet
              obtain ⟨g9, c9', e9⟩ := row_of hO9 (N := N + 1) (by have := HYS.out.1; simp; omega) (by omega)
              obtain ⟨rfl, rfl⟩ : o9 = some ⟨g9, 0, none⟩ ∧ c9 = c9' := by simpa using e9
              have hne := own_ne hO9 (by have := HYS.out.1; simp; omega) X11.1
              have hO10 := ((hO9.ne (b := w39.heap.size) (k := 0) (fun j hj => by have e : g9 = j := (by simpa [Value.ownBlock] using hj); omega) (.int .i64 mf)).ne (b := w39.heap.size) (k := 1) (fun j hj => by have e : g9 = j := (by simpa [Value.ownBlock] using hj); omega) (.slice (some ⟨g9, 0, none⟩) (N + 1) c9)).mono (B' := w38.heap.size) q2
              have hX10 := (RB2.put X11 (.int .i64 mf) (.slice (some ⟨g9, 0, none⟩) (N + 1) c9)).1
              exact ⟨_, _, _, _, c9, ys, rfl, rfl, rfl, HYS.out, sb_rds hX10 hO10 q11 (by simp; omega), (aR.put (.inr (by omega)) _ _).put (.inr (by omega)) _ _, (hDc.put q11 _ _).put q11 _ _⟩
            · as_aux_lemma =>
              go_simp
              go_at_call 53
              refine (below5_i w37.heap.size n d mf ((xf.length : Int) - 1) N (wa) (by first | exact hDc.src | exact hDc.drew.src) (by have := HN.out; omega) (by omega) (by have := HN.out; omega)).mono ?_
              rintro e w8 ⟨v8, ys, rfl, R8, hys, hdd⟩
              obtain ⟨g8, c8, rfl⟩ := row_of R8 hys.1 (by omega)
              have HYS := Lib.hid hys
              clear hys
              have hDc : DW w37.heap.size n d w38 w8 := by first | exact hDc.trans hdd | exact hDc.drew.trans hdd
              have z8 : wa.heap.size ≤ w8.heap.size := hdd.size
              (try have A2 := A2.dw hdd (by omega))
              (try have X11 := X11.dw hdd (by omega))
              have aR := (show Rds _ _ (wa) _ from aR).dwS hdd (by omega)
              obtain ⟨⟨f0, f1⟩, -⟩ := fL.below (hDc.out hbL hbd)
              clear hdd
              go_wp2_with fail
              clear hHeld
              have hHeld : (fun w' : World => w'.cell? ⟨w1.heap.size, 0, none⟩ = some (.int .i64 mf)) w8 := by go_keep
              refine hK.out _ _ (fun _ => hHeld) ?_
              clear hK K
              try simp only [List.getElem_toArray, List.getElem_cons_zero, List.getElem_cons_succ, Act.put, List.setIfInBounds_toArray, List.set_cons_zero, List.set_cons_succ]
              refine wpAnyK_oneL (i := 2) rfl (by as_aux_lemma => kernel_rfl) (fun K hK => ?_)
              go_simp
              obtain ⟨wl, hwl⟩ : ∃ x : World, x = (w8).alloc (.cells #[.int .i64 0] 2) := ⟨_, rfl⟩
              have hbl : Below (w8).heap.size (w8) wl := by rw [hwl]; exact (by (repeat (first | exact Below.refl _ _ | (refine Below.setCell ?_ (by first | (simp; done) | (simp; omega) | omega) _) | (refine Below.alloc ?_ (by first | (simp; done) | (simp; omega) | omega) _) | (refine below_drewN ?_ _) | (refine Below.drew ?_))))
              have A2 : OwI wl w8.heap.size (.slice (some ⟨w8.heap.size, 0, none⟩) 1 1) [0] := by rw [hwl]; exact OwI.lit (w8) [0] (by simp [maxLen])
              have z2 : w8.heap.size < wl.heap.size := by rw [hwl]; simp
              have q2 : w38.heap.size ≤ w8.heap.size := hDc.size
              have hDc := hDc.below hbl
              (try have R8 := R8.below hbl)
              (try have X11 := X11.below hbl (Nat.le_refl _))
              have aR := aR.below hbl
              obtain ⟨⟨f0, f1⟩, -⟩ := fL.below (hDc.out hbL hbd)
              rw [← hwl]
              clear hwl
              clear hHeld
              have hHeld : (fun w' : World => w'.cell? ⟨w1.heap.size, 0, none⟩ = some (.int .i64 mf)) wl := by go_keep
              refine hK.out _ _ (fun _ => hHeld) ?_
              clear hK K
              try simp only [List.getElem_toArray, List.getElem_cons_zero, List.getElem_cons_succ, Act.put, List.setIfInBounds_toArray, List.set_cons_zero, List.set_cons_succ]
              refine wpAnyK_oneL (i := 9) rfl (by as_aux_lemma => kernel_rfl) (fun K hK => ?_)
              have hA2l := A2.lt
              refine stR _ rfl _ _ rfl w8.heap.size (.slice (some ⟨w8.heap.size, 0, none⟩) 1 1) [0] rfl A2 ⟨g8, 0, none⟩ N c8 ys rfl R8.rd (by have := HYS.out.1; simp; omega) (by omega) ?_
              intro o9 c9 w9 hO9 hgr hb9
              rw [show ([(0 : Int)] ++ ys).length = N + 1 by have := HYS.out.1; simp; omega] at hO9 ⊢
              have z9 : wl.heap.size ≤ w9.heap.size := hgr.size
              have hDc := hDc.grown hgr (fun j hj => by have := hA2l j hj; omega)
              (try have X11 := X11.grown hgr (fun e => by have e2 : w39.heap.size = w8.heap.size := (by simpa [Value.ownBlock] using e); omega))
              have aR := aR.grown hgr (fun j hj => .inr (by have := hA2l j hj; omega))
              obtain ⟨⟨f0, f1⟩, -⟩ := fL.below (hDc.out hbL hbd)
              clear hgr hb9
              clear hHeld
              have hHeld : (fun w' : World => w'.cell? ⟨w1.heap.size, 0, none⟩ = some (.int .i64 mf)) w9 := by go_keep
              refine hK.out _ _ (fun _ => hHeld) ?_
              clear hK K
              try simp only [List.getElem_toArray, List.getElem_cons_zero, List.getElem_cons_succ, Act.put, List.setIfInBounds_toArray, List.set_cons_zero, List.set_cons_succ]
              refine' wpAnyK_pureL (i := 10) (v := _) rfl (by as_aux_lemma => kernel_rfl) (by as_aux_lemma => kernel_rfl) (by as_aux_lemma => kernel_rfl) (by as_aux_lemma => kernel_rfl) (fun _ _ _ h => h) (Or.inl ⟨by rfl, ?yT30⟩) ?rT30
              case yT30 => (intro w' _; go_simp; try with_reducible rfl)
              try simp only [List.getElem_toArray, List.getElem_cons_zero, List.getElem_cons_succ, Act.put, List.setIfInBounds_toArray, List.set_cons_zero, List.set_cons_succ]
              refine wpAnyK_oneL (i := 12) rfl (by as_aux_lemma => kernel_rfl) (fun K hK => ?_)
              obtain ⟨⟨z0, z1⟩, zf⟩ := id X11
              go_simp
              (try go_wp2_with fail)
              refine hK.out _ _ (fun h => absurd h (by decide)) ?_
              clear hK K
              try simp only [List.getElem_toArray, List.getElem_cons_zero, List.getElem_cons_succ, Act.put, List.setIfInBounds_toArray, List.set_cons_zero, List.set_cons_succ]
              refine wpAnyK_done (by as_aux_lemma => kernel_rfl) ?_ _
              go_wp2_with fail
              go_meet
              obtain ⟨g9, c9', e9⟩ := row_of hO9 (N := N + 1) (by have := HYS.out.1; simp; omega) (by omega)
              obtain ⟨rfl, rfl⟩ : o9 = some ⟨g9, 0, none⟩ ∧ c9 = c9' := by simpa using e9
              have hne := own_ne hO9 (by have := HYS.out.1; simp; omega) X11.1
              have hO10 := ((hO9.ne (b := w39.heap.size) (k := 0) (fun j hj => by have e : g9 = j := (by simpa [Value.ownBlock] using hj); omega) (.int .i64 mf)).ne (b := w39.heap.size) (k := 1) (fun j hj => by have e : g9 = j := (by simpa [Value.ownBlock] using hj); omega) (.slice (some ⟨g9, 0, none⟩) (N + 1) c9)).mono (B' := w38.heap.size) q2
              have hX10 := (RB2.put X11 (.int .i64 mf) (.slice (some ⟨g9, 0, none⟩) (N + 1) c9)).1
              exact ⟨_, _, _, _, c9, ys, rfl, rfl, rfl, HYS.out, sb_rds hX10 hO10 q11 (by simp; omega), (aR.put (.inr (by omega)) _ _).put (.inr (by omega)) _ _, (hDc.put q11 _ _).put q11 _ _⟩
        case rest =>
          obtain ⟨wz, bb, hib, ob, cb, xb, rfl, rfl, hhi, hysb, bR, aR, hDz⟩ := hcut
          obtain ⟨w40, rfl⟩ : ∃ u, u = wz := ⟨_, rfl⟩
          have hhb : hib ≤ w40.heap.size := by omega
          have hD_40 := hDz
          clear hDz hD_39 hhi
          have hbr := hD_40.out hbL hbd
          have HB40 := HBL.trans (hbr.mono HBL.size)
          have f_40 := fL.below hbr
          have h_40 := hL.below hbr
          have c_40 := cL.below hbr
          have a_40 := aR.now
          have b_40 := bR.now
          obtain ⟨ca1, ca0⟩ := curve_of (n := xf.length) ⟨by omega, by omega⟩ hnf (by have := hysa.1; have := HN.out; omega) hysa.2
          obtain ⟨cb1, cb0⟩ := curve_of (n := xf.length) ⟨by omega, by omega⟩ hnf (by have := hysb.1; have := HN.out; omega) hysb.2
          obtain ⟨U, V, W, e1, e2, e3, e4⟩ := pla_put HF.out HH.out ca1 cb1 ca0 cb0
          rw [ET.out] at e3
          have F1 := Lib.hid e1
          have F2 := Lib.hid e2
          have F3 := Lib.hid e3
          have F4 := Lib.hid e4
          clear e1 e2 e3 e4 ca1 cb1 ca0 cb0 hysa hysb aR bR hbr HBL hbL hbd hsL hD_40 HF HH ET e9 hha hhb fL hL cL
          obtain ⟨⟨qf0, qf1⟩, -⟩ := id f_40
          have lf := f_40.lt
          obtain ⟨⟨qa0, qa1⟩, -⟩ := id a_40
          have la := a_40.lt
          obtain ⟨⟨qb0, qb1⟩, -⟩ := id b_40
          have lb := b_40.lt
          go_wp2_with fail
          clear lf qf0 qf1
          clear la qa0 qa1
          clear lb qb0 qb1
          have hC := SubstituteCurves_c (mf) _ (xf) (mf) _ (0 :: xa) (mf) _ (0 :: xb) w40 f_40.2 a_40.2 b_40.2
          rw [F1.out] at hC
          refine (send3 hC).mono ?_
          clear hC
          rintro e w41 ⟨vu, rfl, hu, hb, hlu⟩
          have f_41 := f_40.below hb
          have h_41 := h_40.below hb
          have c_41 := c_40.below hb
          have a_41 := a_40.below hb
          have b_41 := b_40.below hb
          have HB41 := HB40.trans (hb.mono HB40.size)
          clear f_40 h_40 c_40 a_40 b_40 HB40 hb
          obtain ⟨ou, cu, rfl⟩ := hu.shape
          have ru := hu.rd
          clear hu
          clear hlu
          obtain ⟨⟨qh0, qh1⟩, -⟩ := id h_41
          have lh := h_41.lt
          obtain ⟨⟨qa0, qa1⟩, -⟩ := id a_41
          have la := a_41.lt
          obtain ⟨⟨qb0, qb1⟩, -⟩ := id b_41
          have lb := b_41.lt
          go_wp2_with fail
          clear lh qh0 qh1
          clear la qa0 qa1
          clear lb qb0 qb1
          have u_42 := (SB.mk1 w41 (mf) (.slice ou U.length cu) (U) ru 26).below (w' := w41.alloc (.cells #[.int .i64 mf, .slice ou U.length cu] 26)) (by (repeat (first | exact Below.refl _ _ | (refine Below.setCell ?_ (by first | (simp; done) | (simp; omega) | omega) _) | (refine Below.alloc ?_ (by first | (simp; done) | (simp; omega) | omega) _) | (refine below_drewN ?_ _) | (refine Below.drew ?_))))
          have hbk0 : w41.heap.size = w41.heap.size := by simp
          rw [hbk0] at u_42
          clear hbk0
          have hb : Below w41.heap.size w41 (w41.alloc (.cells #[.int .i64 mf, .slice ou U.length cu] 26)) := (by (repeat (first | exact Below.refl _ _ | (refine Below.setCell ?_ (by first | (simp; done) | (simp; omega) | omega) _) | (refine Below.alloc ?_ (by first | (simp; done) | (simp; omega) | omega) _) | (refine below_drewN ?_ _) | (refine Below.drew ?_))))
          have f_42 := f_41.below hb
          have h_42 := h_41.below hb
          have c_42 := c_41.below hb
          have a_42 := a_41.below hb
          have b_42 := b_41.below hb
          have HB42 := HB41.trans (hb.mono HB41.size)
          clear hb HB41 f_41 h_41 c_41 a_41 b_41
          generalize w41.alloc (.cells #[.int .i64 mf, .slice ou U.length cu] 26) = w42 at f_42 h_42 c_42 a_42 b_42 u_42 HB42 ⊢
          clear ru
          have hC := SubstituteCurves_c (mf) _ (xh) (mf) _ (0 :: xa) (mf) _ (0 :: xb) w42 h_42.2 a_42.2 b_42.2
          rw [F2.out] at hC
          refine (send3 hC).mono ?_
          clear hC
          rintro e w43 ⟨vv, rfl, hv, hb, hlv⟩
          have f_43 := f_42.below hb
          have h_43 := h_42.below hb
          have c_43 := c_42.below hb
          have a_43 := a_42.below hb
          have b_43 := b_42.below hb
          have u_43 := u_42.below hb
          have HB43 := HB42.trans (hb.mono HB42.size)
          clear f_42 h_42 c_42 a_42 b_42 u_42 HB42 hb
          obtain ⟨ov, cv, rfl⟩ := hv.shape
          have rv := hv.rd
          clear hv
          clear hlv
          obtain ⟨⟨qc0, qc1⟩, -⟩ := id c_43
          have lc := c_43.lt
          obtain ⟨⟨qa0, qa1⟩, -⟩ := id a_43
          have la := a_43.lt
          obtain ⟨⟨qb0, qb1⟩, -⟩ := id b_43
          have lb := b_43.lt
          go_wp2_with fail
          clear lc qc0 qc1
          clear la qa0 qa1
          clear lb qb0 qb1
          have v_44 := (SB.mk1 w43 (mf) (.slice ov V.length cv) (V) rv 26).below (w' := w43.alloc (.cells #[.int .i64 mf, .slice ov V.length cv] 26)) (by (repeat (first | exact Below.refl _ _ | (refine Below.setCell ?_ (by first | (simp; done) | (simp; omega) | omega) _) | (refine Below.alloc ?_ (by first | (simp; done) | (simp; omega) | omega) _) | (refine below_drewN ?_ _) | (refine Below.drew ?_))))
          have hbk0 : w43.heap.size = w43.heap.size := by simp
          rw [hbk0] at v_44
          clear hbk0
          have hb : Below w43.heap.size w43 (w43.alloc (.cells #[.int .i64 mf, .slice ov V.length cv] 26)) := (by (repeat (first | exact Below.refl _ _ | (refine Below.setCell ?_ (by first | (simp; done) | (simp; omega) | omega) _) | (refine Below.alloc ?_ (by first | (simp; done) | (simp; omega) | omega) _) | (refine below_drewN ?_ _) | (refine Below.drew ?_))))
          have f_44 := f_43.below hb
          have h_44 := h_43.below hb
          have c_44 := c_43.below hb
          have a_44 := a_43.below hb
          have b_44 := b_43.below hb
          have u_44 := u_43.below hb
          have HB44 := HB43.trans (hb.mono HB43.size)
          clear hb HB43 f_43 h_43 c_43 a_43 b_43 u_43
          generalize w43.alloc (.cells #[.int .i64 mf, .slice ov V.length cv] 26) = w44 at f_44 h_44 c_44 a_44 b_44 u_44 v_44 HB44 ⊢
          clear rv
          have hC := SubstituteCurves_c (mf) _ (T) (mf) _ (0 :: xa) (mf) _ (0 :: xb) w44 c_44.2 a_44.2 b_44.2
          rw [F3.out] at hC
          refine (send3 hC).mono ?_
          clear hC
          rintro e w45 ⟨vw, rfl, hw, hb, hlw⟩
          have f_45 := f_44.below hb
          have h_45 := h_44.below hb
          have c_45 := c_44.below hb
          have a_45 := a_44.below hb
          have b_45 := b_44.below hb
          have u_45 := u_44.below hb
          have v_45 := v_44.below hb
          have HB45 := HB44.trans (hb.mono HB44.size)
          clear f_44 h_44 c_44 a_44 b_44 u_44 v_44 HB44 hb
          obtain ⟨ow, cw, rfl⟩ := hw.shape
          have rw := hw.rd
          clear hw
          clear hlw
          obtain ⟨⟨qu0, qu1⟩, -⟩ := id u_45
          have lu := u_45.lt
          obtain ⟨⟨qv0, qv1⟩, -⟩ := id v_45
          have lv := v_45.lt
          go_wp2_with fail
          clear lu qu0 qu1
          clear lv qv0 qv1
          have w_46 := (SB.mk1 w45 (mf) (.slice ow W.length cw) (W) rw 26).below (w' := w45.alloc (.cells #[.int .i64 mf, .slice ow W.length cw] 26)) (by (repeat (first | exact Below.refl _ _ | (refine Below.setCell ?_ (by first | (simp; done) | (simp; omega) | omega) _) | (refine Below.alloc ?_ (by first | (simp; done) | (simp; omega) | omega) _) | (refine below_drewN ?_ _) | (refine Below.drew ?_))))
          have hbk0 : w45.heap.size = w45.heap.size := by simp
          rw [hbk0] at w_46
          clear hbk0
          have hb : Below w45.heap.size w45 (w45.alloc (.cells #[.int .i64 mf, .slice ow W.length cw] 26)) := (by (repeat (first | exact Below.refl _ _ | (refine Below.setCell ?_ (by first | (simp; done) | (simp; omega) | omega) _) | (refine Below.alloc ?_ (by first | (simp; done) | (simp; omega) | omega) _) | (refine below_drewN ?_ _) | (refine Below.drew ?_))))
          have f_46 := f_45.below hb
          have h_46 := h_45.below hb
          have c_46 := c_45.below hb
          have a_46 := a_45.below hb
          have b_46 := b_45.below hb
          have u_46 := u_45.below hb
          have v_46 := v_45.below hb
          have HB46 := HB45.trans (hb.mono HB45.size)
          clear hb HB45 f_45 h_45 c_45 a_45 b_45 u_45 v_45
          generalize w45.alloc (.cells #[.int .i64 mf, .slice ow W.length cw] 26) = w46 at f_46 h_46 c_46 a_46 b_46 u_46 v_46 w_46 HB46 ⊢
          clear rw
          clear f_46
          clear h_46
          clear c_46
          clear a_46
          clear b_46
          have hC := MultiplySeries_c (mf) _ (U) (mf) _ (V) w46 u_46.2 v_46.2
          rw [F4.out] at hC
          refine (send3 hC).mono ?_
          clear hC
          rintro e w47 ⟨vp, rfl, hp, hb, hlp⟩
          have u_47 := u_46.below hb
          have v_47 := v_46.below hb
          have w_47 := w_46.below hb
          have HB47 := HB46.trans (hb.mono HB46.size)
          clear u_46 v_46 w_46 HB46 hb
          obtain ⟨op, cp, rfl⟩ := hp.shape
          have rp := hp.rd
          clear hp
          clear hlp
          obtain ⟨⟨qw0, qw1⟩, -⟩ := id w_47
          have lw := w_47.lt
          go_wp2_with fail
          clear lw qw0 qw1
          have p_48 := (SB.mk1 w47 (mf) (.slice op W.length cp) (W) rp 26).below (w' := w47.alloc (.cells #[.int .i64 mf, .slice op W.length cp] 26)) (by (repeat (first | exact Below.refl _ _ | (refine Below.setCell ?_ (by first | (simp; done) | (simp; omega) | omega) _) | (refine Below.alloc ?_ (by first | (simp; done) | (simp; omega) | omega) _) | (refine below_drewN ?_ _) | (refine Below.drew ?_))))
          have hbk0 : w47.heap.size = w47.heap.size := by simp
          rw [hbk0] at p_48
          clear hbk0
          have hb : Below w47.heap.size w47 (w47.alloc (.cells #[.int .i64 mf, .slice op W.length cp] 26)) := (by (repeat (first | exact Below.refl _ _ | (refine Below.setCell ?_ (by first | (simp; done) | (simp; omega) | omega) _) | (refine Below.alloc ?_ (by first | (simp; done) | (simp; omega) | omega) _) | (refine below_drewN ?_ _) | (refine Below.drew ?_))))
          have u_48 := u_47.below hb
          have v_48 := v_47.below hb
          have w_48 := w_47.below hb
          have HB48 := HB47.trans (hb.mono HB47.size)
          clear hb HB47 u_47 v_47 w_47
          generalize w47.alloc (.cells #[.int .i64 mf, .slice op W.length cp] 26) = w48 at u_48 v_48 w_48 p_48 HB48 ⊢
          clear rp
          refine (series5_same (mf) _ _ (W) _ p_48.2 w_48.2).mono ?_
          rintro e w49 ⟨rfl, hb⟩
          have u_49 := u_48.below hb
          have v_49 := v_48.below hb
          have w_49 := w_48.below hb
          have p_49 := p_48.below hb
          have HB49 := HB48.trans (hb.mono HB48.size)
          clear u_48 v_48 w_48 p_48 HB48 hb
          go_wp2_with fail
          go_meet
          case rel => exact HB49
  case rest =>
    as_aux_lemma =>
    obtain ⟨w50, rfl⟩ : ∃ u, u = wc := ⟨_, rfl⟩
    clear f_12 h_12 c_12 s_12 HB12
    have HB50 := hcut
    clear hcut
    go_wp2_with fail
    refine (DrawIsSymmetricPlane_d w0.heap.size n _ w50 (HV.out.keep (fun j hj => HB50.block j hj)) HB50.size).mono ?_
    rintro e w51 ⟨my, vy, xy, rfl, ry, hb⟩
    have HB51 := HB50.trans (hb.mono HB50.size)
    clear HB50 hb
    obtain ⟨oy, cy, rfl, -, -⟩ := id ry
    go_wp2_with fail
    have y_52 := (PB.mk1 w51 (my) (.slice oy xy.length cy) (xy) ry 42).below (w' := w51.alloc (.cells #[.int .i64 my, .slice oy xy.length cy] 42)) (by (repeat (first | exact Below.refl _ _ | (refine Below.setCell ?_ (by first | (simp; done) | (simp; omega) | omega) _) | (refine Below.alloc ?_ (by first | (simp; done) | (simp; omega) | omega) _) | (refine below_drewN ?_ _) | (refine Below.drew ?_))))
    have hbk0 : w51.heap.size = w51.heap.size := by simp
    rw [hbk0] at y_52
    clear hbk0
    have hb : Below w51.heap.size w51 (w51.alloc (.cells #[.int .i64 my, .slice oy xy.length cy] 42)) := (by (repeat (first | exact Below.refl _ _ | (refine Below.setCell ?_ (by first | (simp; done) | (simp; omega) | omega) _) | (refine Below.alloc ?_ (by first | (simp; done) | (simp; omega) | omega) _) | (refine below_drewN ?_ _) | (refine Below.drew ?_))))
    have HB52 := HB51.trans (hb.mono HB51.size)
    clear hb HB51 
    generalize w51.alloc (.cells #[.int .i64 my, .slice oy xy.length cy] 42) = w52 at y_52 HB52 ⊢
    clear ry
    obtain ⟨⟨VB, VK⟩, hV⟩ : ∃ r, symC my xy = r := ⟨_, rfl⟩
    have HVV := Lib.hid hV
    clear hV
    have hC := IsSymmetricPlane_c my _ xy w52 y_52.2
    rw [HVV.out] at hC
    refine (bend3 hC).mono ?_
    clear hC
    rintro e w53 ⟨rfl, hb⟩
    have y_53 := y_52.below hb
    have HB53 := HB52.trans (hb.mono HB52.size)
    clear y_52 HB52 hb
    obtain ⟨⟨qy0, qy1⟩, -⟩ := id y_53
    have ly := y_53.lt
    go_wp2_with fail
    clear ly qy0 qy1
    have hC := sIsSymmetricPlane_c my _ xy w53 y_53.2
    rw [HVV.out] at hC
    refine (bend3 hC).mono ?_
    clear hC
    rintro e w54 ⟨rfl, hb⟩
    have y_54 := y_53.below hb
    have HB54 := HB53.trans (hb.mono HB53.size)
    clear y_53 HB53 hb
    go_wp2
    go_ret
    exact ⟨by simp, HB54⟩

open Go.ChangeShapes Go.WideShapes Go.ChangeAt Go.Joins
set_option maxRecDepth 100000 in
theorem Planes_lifted (os : Os) (started : os.Started) (H : Type) (enc : TypeId × Value → H) :
    ReturnsInHanded {} Try.checked os 5 .any (Rows.fnPlanesSpec.pre6 enc Try.prog Try.f5 Rows.fnPlanesRow.domain false) (Rows.fnPlanesSpec.post enc Try.prog Try.f5 false true false false) := by
  refine returnsInHanded_of_change (C := Try.checked) Try.own started (by kernel_rfl) Try.func5
    (ChangeSpec.witness6 (enc := enc) (C := Try.checked) false ⟨#[], #[.slice none 0 0], []⟩ 8 (by kernel_rfl) (by kernel_rfl) (by kernel_rfl) (by kernel_rfl)) ?_
  intro W base args ds gs before hval0 hW _ _
  have hval : ∀ (j : Nat) t v, Try.f5.params[j]? = some t → args[j]? = some v → Value.okWide Try.prog W .any base t v := hval0
  have hW' := hW
  obtain ⟨p, q, hA0, hV, rfl, _, _⟩ := hW
  have hA : DataW.TrodAll enc Try.prog W 0 (fun _ => true) true Try.f5.params.toList args.toList ds p := hA0
  rw [Try.params5] at hA hval
  have hAk := hA
  obtain ⟨rfl, rfl⟩ := trodVars_none hV
  obtain ⟨v0, d0, rfl, rfl, h0⟩ := trodAll_one hA
  obtain ⟨n, r0⟩ := rdB_of_trod (hval 0 22 v0 rfl rfl) h0
  clear hA0 hval0
  simp only [List.append_nil] at hW'
  refine (FnPlanes_c n v0 W r0).mono fun e W' ⟨he, hb⟩ => ?_
  subst he
  refine ⟨_, rfl, _, _, _, [], p, [], hW', ?_, ?_, rfl, hb.frame _, fun h => by cases h⟩
  · exact trodAll_mk1 (shut_bool Try.underlying4 true)
  · exact trodAll_below Try.laidOut (by kernel_rfl) hAk hb (fun x hx => by simpa using hW'.lt x hx)

theorem Planes_holds : Rows.FnPlanesSaid :=
  OpenClaim.holds_of_wide 5 Try.f5 rfl rfl rfl rfl rfl rfl rfl ⟨rfl, rfl, rfl, rfl, rfl⟩ rfl rfl rfl rfl rfl (by kernel_rfl) Try.func5 (by kernel_rfl)
    (of_decide_eq_true (by kernel_rfl)) (by unfold Func.isWrapper; rw [if_neg (of_decide_eq_false (by kernel_rfl))]; exact ⟨rfl, rfl⟩)
    (fun os started H enc _ => Planes_lifted os started H enc)

#print axioms Planes_holds
end Go.Proofs.Ytcjinlfgeljmkaa
