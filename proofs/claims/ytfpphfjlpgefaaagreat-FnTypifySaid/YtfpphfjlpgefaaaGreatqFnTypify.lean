/- Typifying curves have the coefficient 1 at t and lead laws to their typical laws, which are typical; a law is typical exactly if it has parameters. For every code. No condition. -/
import Derived.Test.YtfpphfjlpgefaaaGreatqLwM
import Derived.Test.YtfpphfjlpgefaaaGreatqM43
import Derived.Test.YtfpphfjlpgefaaaGreatqM48
import Derived.Deep.RegionHeld3
import Derived.Deep.DeepCutAuto
set_option maxHeartbeats 16000000
set_option maxRecDepth 100000
set_option linter.unusedSimpArgs false
set_option linter.unusedVariables false
namespace Go.Proofs.YtfpphfjlpgefaaaGreat
open Go.RowKit
def BEndT (w w' : World) (b : Bool) (c : Int) (e : Ending) : Prop := e = .returned (.tuple #[.bool b, .int .i64 c]) ∧ Below w.heap.size w w'
theorem qI8 {P : Program} {f : FuncId} {args : Array Value} {w : World} {b : Bool} {c : Int} (h : Calls P f args w fun e w' => BEnd w w' ⟨b, c⟩ e) : Calls P f args w fun e w' => BEndT w w' b c e := h
theorem qNd (n : Nat) (v : Value) (w0 : World) (hv : RdB w0 w0.heap.size n v) :
  Calls Tryz.prog 4 #[v] w0 fun e w' => e = .returned (.bool true) ∧ Below w0.heap.size w0 w' := by
 obtain ⟨ov, cv, rfl, hmv, hcv⟩ := id hv
 clear hmv hcv
 have HB0 := Below.refl w0.heap.size w0
 have HV := dd hv
 clear hv
 go_enter Tryz.func4, Tryz.ntmps4
 go_wp2_with fail
 refine (big_c w0.heap.size n _ w0 HV.out).mono ?_
 rintro e w' ⟨rfl, rfl⟩
 by_cases hbig : 4096 < n
 ·have hbb : decide (4096 < n) = true := by simpa using hbig
  go_wp2; go_ret; exact ⟨rfl, HB0⟩
 have hbb : decide (4096 < n) = false := by simpa using hbig
 clear hbig
 go_wp2_with fail
 clear hbb
 refine (qOK w0.heap.size n _ w0 (HV.out.keep (fun j hj => HB0.block j hj)) HB0.size).mono ?_
 rintro e w1 ⟨p, mf, vf, xf, rfl, rf, hb⟩
 have HB1 := HB0.trans (hb.mono HB0.size)
 clear HB0 hb
 obtain ⟨of, cf, rfl, -, -⟩ := id rf
 go_wp2_with fail
 obtain ⟨w2, hwn⟩ : ∃ W : World, W = w1.alloc (.cells #[.int .i64 mf, .slice of xf.length cf] 26) := ⟨_, rfl⟩
 have f_2 := (PB.mk1 w1 (mf) (.slice of xf.length cf) (xf) rf 26).below (w' := w2) (bV hwn)
 have hbk0 : w1.heap.size = w1.heap.size := by simp
 rw [hbk0] at f_2
 clear hbk0
 have hb : Below w1.heap.size w1 w2 := bV hwn
 have HB2 := HB1.trans (hb.mono HB1.size)
 clear hb HB1 
 rw [← hwn]
 clear hwn
 clear rf
 obtain ⟨⟨MR1, XR1, CR1⟩, hR1⟩ : ∃ r, qC0 p mf xf = r := ⟨_, rfl⟩
 have HR1 := dd hR1
 clear hR1
 obtain ⟨⟨MR2, XR2, CR2⟩, hR2⟩ : ∃ r, qCZ p mf xf = r := ⟨_, rfl⟩
 have HR2 := dd hR2
 clear hR2
 have hC := qJs p mf _ xf w2 f_2.2
 rw [HR1.out] at hC
 refine (qEe hC).mono ?_
 clear hC
 rintro e w3 ⟨vh, rfl, hh, hb, hlh⟩
 have f_3 := f_2.below hb
 have HB3 := HB2.trans (hb.mono HB2.size)
 clear f_2 HB2 hb
 obtain ⟨oh, ch, rfl⟩ := hh.shape
 have rh := hh.rd
 clear hh
 clear hlh
 obtain ⟨⟨qf0, qf1⟩, -⟩ := id f_3
 have lf := f_3.lt
 go_wp2_with fail
 clear lf qf0 qf1
 obtain ⟨w4, hwn⟩ : ∃ W : World, W = w3.alloc (.cells #[.int .i64 MR1, .slice oh XR1.length ch] 26) := ⟨_, rfl⟩
 have h_4 := (PB.mk1 w3 (MR1) (.slice oh XR1.length ch) (XR1) rh 26).below (w' := w4) (bV hwn)
 have hbk0 : w3.heap.size = w3.heap.size := by simp
 rw [hbk0] at h_4
 clear hbk0
 have hb : Below w3.heap.size w3 w4 := bV hwn
 have f_4 := f_3.below hb
 have HB4 := HB3.trans (hb.mono HB3.size)
 clear hb HB3 f_3
 rw [← hwn]
 clear hwn
 clear rh
 have hC := qNR p mf _ xf w4 f_4.2
 rw [HR1.out] at hC
 refine (qEe hC).mono ?_
 clear hC
 rintro e w5 ⟨vw, rfl, hw, hb, hlw⟩
 have f_5 := f_4.below hb
 have h_5 := h_4.below hb
 have HB5 := HB4.trans (hb.mono HB4.size)
 clear f_4 h_4 HB4 hb
 obtain ⟨ow, cw, rfl⟩ := hw.shape
 have rw := hw.rd
 clear hw
 clear hlw
 obtain ⟨⟨qf0, qf1⟩, -⟩ := id f_5
 have lf := f_5.lt
 go_wp2_with fail
 clear lf qf0 qf1
 obtain ⟨w6, hwn⟩ : ∃ W : World, W = w5.alloc (.cells #[.int .i64 MR1, .slice ow XR1.length cw] 26) := ⟨_, rfl⟩
 have w_6 := (PB.mk1 w5 (MR1) (.slice ow XR1.length cw) (XR1) rw 26).below (w' := w6) (bV hwn)
 have hbk0 : w5.heap.size = w5.heap.size := by simp
 rw [hbk0] at w_6
 clear hbk0
 have hb : Below w5.heap.size w5 w6 := bV hwn
 have f_6 := f_5.below hb
 have h_6 := h_5.below hb
 have HB6 := HB5.trans (hb.mono HB5.size)
 clear hb HB5 f_5 h_5
 rw [← hwn]
 clear hwn
 clear rw
 have hC := qPh p mf _ xf w6 f_6.2
 rw [HR2.out] at hC
 refine (sendL hC).mono ?_
 clear hC
 rintro e w7 ⟨va, rfl, ha, hb, hla⟩
 have f_7 := f_6.below hb
 have h_7 := h_6.below hb
 have w_7 := w_6.below hb
 have HB7 := HB6.trans (hb.mono HB6.size)
 clear f_6 h_6 w_6 HB6 hb
 obtain ⟨oa, ca, rfl⟩ := ha.shape
 have ra := ha.rd
 clear ha
 clear hla
 obtain ⟨⟨qf0, qf1⟩, -⟩ := id f_7
 have lf := f_7.lt
 go_wp2_with fail
 clear lf qf0 qf1
 obtain ⟨w8, hwn⟩ : ∃ W : World, W = w7.alloc (.cells #[.int .i64 MR2, .slice oa XR2.length ca] 34) := ⟨_, rfl⟩
 have a_8 := (SB.mk1 w7 (MR2) (.slice oa XR2.length ca) (XR2) ra 34).below (w' := w8) (bV hwn)
 have hbk0 : w7.heap.size = w7.heap.size := by simp
 rw [hbk0] at a_8
 clear hbk0
 have hb : Below w7.heap.size w7 w8 := bV hwn
 have f_8 := f_7.below hb
 have h_8 := h_7.below hb
 have w_8 := w_7.below hb
 have HB8 := HB7.trans (hb.mono HB7.size)
 clear hb HB7 f_7 h_7 w_7
 rw [← hwn]
 clear hwn
 clear ra
 have hC := qOq p mf _ xf w8 f_8.2
 rw [HR2.out] at hC
 refine (sendL hC).mono ?_
 clear hC
 rintro e w9 ⟨vd, rfl, hd, hb, hld⟩
 have f_9 := f_8.below hb
 have h_9 := h_8.below hb
 have w_9 := w_8.below hb
 have a_9 := a_8.below hb
 have HB9 := HB8.trans (hb.mono HB8.size)
 clear f_8 h_8 w_8 a_8 HB8 hb
 obtain ⟨od, cd, rfl⟩ := hd.shape
 have rd := hd.rd
 clear hd
 clear hld
 have hq1 : (CR1 != CR1) = false := by simp
 have hq2 : (CR2 != CR2) = false := by simp
 obtain ⟨⟨qh0, qh1⟩, -⟩ := id h_9
 have lh := h_9.lt
 obtain ⟨⟨qw0, qw1⟩, -⟩ := id w_9
 have lw := w_9.lt
 go_wp2_with fail
 clear lh qh0 qh1
 clear lw qw0 qw1
 obtain ⟨w10, hwn⟩ : ∃ W : World, W = w9.alloc (.cells #[.int .i64 MR2, .slice od XR2.length cd] 34) := ⟨_, rfl⟩
 have d_10 := (SB.mk1 w9 (MR2) (.slice od XR2.length cd) (XR2) rd 34).below (w' := w10) (bV hwn)
 have hbk0 : w9.heap.size = w9.heap.size := by simp
 rw [hbk0] at d_10
 clear hbk0
 have hb : Below w9.heap.size w9 w10 := bV hwn
 have f_10 := f_9.below hb
 have h_10 := h_9.below hb
 have w_10 := w_9.below hb
 have a_10 := a_9.below hb
 have HB10 := HB9.trans (hb.mono HB9.size)
 clear hb HB9 f_9 h_9 w_9 a_9
 rw [← hwn]
 clear hwn
 clear rd
 refine (qGG (MR1) _ _ (XR1) _ h_10.2 w_10.2).mono ?_
 rintro e w11 ⟨rfl, hb⟩
 have f_11 := f_10.below hb
 have h_11 := h_10.below hb
 have w_11 := w_10.below hb
 have a_11 := a_10.below hb
 have d_11 := d_10.below hb
 have HB11 := HB10.trans (hb.mono HB10.size)
 clear f_10 h_10 w_10 a_10 d_10 HB10 hb
 clear w_11
 obtain ⟨⟨qa0, qa1⟩, -⟩ := id a_11
 have la := a_11.lt
 obtain ⟨⟨qd0, qd1⟩, -⟩ := id d_11
 have ld := d_11.lt
 go_wp2_with fail
 clear la qa0 qa1
 clear ld qd0 qd1
 refine (qPt (MR2) _ _ (XR2) _ a_11.2 d_11.2).mono ?_
 rintro e w12 ⟨rfl, hb⟩
 have f_12 := f_11.below hb
 have h_12 := h_11.below hb
 have a_12 := a_11.below hb
 have d_12 := d_11.below hb
 have HB12 := HB11.trans (hb.mono HB11.size)
 clear f_11 h_11 a_11 d_11 HB11 hb
 clear d_12
 go_upto_if 85 with fail
 go_cut [13, 14, 15, 16, 17, 18, 19, 20] from 86 to 145 (fun s13 s14 s15 s16 s17 s18 s19 s20 u => Below w0.heap.size w0 u)
 case first =>
  as_aux_lemma =>
  by_cases hc : CR1 = 0
  rotate_left
  ·have hc2 : (CR1 == 0) = false := by simpa using hc
   go_wp2_with fail
   go_meet
   case rel => exact HB12
  subst hc
  have h0 : qAs p mf xf = 0 := by
   have h := HR1.out; unfold qC0 at h
   split at h
   ·assumption
   ·exact (PR.mk.inj h).2.2
  obtain ⟨H, T, cv, e1, e2, e3, e4, e5, e6, n1, n2, n3⟩ := qNB h0
  obtain ⟨f1, f2⟩ : mf = MR1 ∧ H = XR1 := by
   have h := HR1.out; rw [e1] at h; exact ⟨(PR.mk.inj h).1, (PR.mk.inj h).2.1⟩
  obtain ⟨f3, f4, f5⟩ : mf = MR2 ∧ cv = XR2 ∧ 0 = CR2 := by
   have h := HR2.out; rw [e2] at h; exact ⟨(SR.mk.inj h).1, (SR.mk.inj h).2.1, (SR.mk.inj h).2.2⟩
  subst f1 f2 f3 f4 f5; have E3 := dd e3; have E4 := dd e4; have E5 := dd e5; have E6 := dd e6; have N3 := dd n3; clear e1 e2 e3 e4 e5 e6 n3 HR1 HR2 h0 hq1 hq2; obtain ⟨⟨qh0, qh1⟩, -⟩ := id h_12; have lh := h_12.lt
  go_wp2_with fail
  clear lh qh0 qh1; have hC := qL_ p mf _ H w12 h_12.2; rw [E3.out] at hC; refine (qI8 hC).mono ?_; clear hC; rintro e w13 ⟨rfl, hb⟩; have f_13 := f_12.below hb; have h_13 := h_12.below hb; have a_13 := a_12.below hb; have HB13 := HB12.trans (hb.mono HB12.size); clear f_12 h_12 a_12 HB12 hb; obtain ⟨⟨qa0, qa1⟩, -⟩ := id a_13; have la := a_13.lt; obtain ⟨⟨qf0, qf1⟩, -⟩ := id f_13; have lf := f_13.lt
  go_wp2_with fail
  clear la qa0 qa1; clear lf qf0 qf1; have hC := qP4 (mf) _ (cv) (mf) _ (xf) w13 a_13.2 f_13.2; rw [E4.out] at hC; refine (qEe hC).mono ?_; clear hC; rintro e w14 ⟨vl, rfl, hl, hb, hll⟩; have f_14 := f_13.below hb; have h_14 := h_13.below hb; have a_14 := a_13.below hb; have HB14 := HB13.trans (hb.mono HB13.size); clear f_13 h_13 a_13 HB13 hb; obtain ⟨ol, cl, rfl⟩ := hl.shape; have rl := hl.rd; clear hl; clear hll; obtain ⟨⟨qh0, qh1⟩, -⟩ := id h_14; have lh := h_14.lt; obtain ⟨⟨qa0, qa1⟩, -⟩ := id a_14; have la := a_14.lt
  go_wp2_with fail
  clear lh qh0 qh1; clear la qa0 qa1; obtain ⟨w15, hwn⟩ : ∃ W : World, W = w14.alloc (.cells #[.int .i64 mf, .slice ol T.length cl] 26) := ⟨_, rfl⟩; have l_15 := (PB.mk1 w14 (mf) (.slice ol T.length cl) (T) rl 26).below (w' := w15) (bV hwn); have hbk0 : w14.heap.size = w14.heap.size := by simp
  rw [hbk0] at l_15; clear hbk0; have hb : Below w14.heap.size w14 w15 := bV hwn; have f_15 := f_14.below hb; have h_15 := h_14.below hb; have a_15 := a_14.below hb; have HB15 := HB14.trans (hb.mono HB14.size); clear hb HB14 f_14 h_14 a_14; rw [← hwn]; clear hwn; clear rl; have hC := qNt (mf) _ (H) (mf) _ (cv) (mf) _ (cv) w15 h_15.2 a_15.2 a_15.2; rw [E5.out] at hC; refine (qEe hC).mono ?_; clear hC; rintro e w16 ⟨vr, rfl, hr, hb, hlr⟩; have f_16 := f_15.below hb; have h_16 := h_15.below hb; have a_16 := a_15.below hb; have l_16 := l_15.below hb; have HB16 := HB15.trans (hb.mono HB15.size); clear f_15 h_15 a_15 l_15 HB15 hb; obtain ⟨or, cr, rfl⟩ := hr.shape; have rr := hr.rd; clear hr; clear hlr; obtain ⟨oA, cA, eA, hmA, hcA⟩ := id a_16.2; obtain ⟨bqA, fA, eB, hcell⟩ := hcA 1 1 N3.out; obtain ⟨rfl, rfl⟩ : oa = oA ∧ ca = cA := by simpa using eA
  subst eB; clear hcA eA; have j1 : (1 : Int) < (cv.length : Int) := Oo; have lcell := qBH hcell; obtain ⟨⟨qa0, qa1⟩, -⟩ := id a_16; have la := a_16.lt; obtain ⟨⟨ql0, ql1⟩, -⟩ := id l_16; have ll := l_16.lt
  go_wp2_with fail
  clear la qa0 qa1; clear ll ql0 ql1; obtain ⟨w17, hwn⟩ : ∃ W : World, W = w16.alloc (.cells #[.int .i64 mf, .slice or T.length cr] 26) := ⟨_, rfl⟩; have r_17 := (PB.mk1 w16 (mf) (.slice or T.length cr) (T) rr 26).below (w' := w17) (bV hwn); have hbk0 : w16.heap.size = w16.heap.size := by simp
  rw [hbk0] at r_17; clear hbk0; have hb : Below w16.heap.size w16 w17 := bV hwn; have f_17 := f_16.below hb; have h_17 := h_16.below hb; have a_17 := a_16.below hb; have l_17 := l_16.below hb; have HB17 := HB16.trans (hb.mono HB16.size); clear hb HB16 f_16 h_16 a_16 l_16; rw [← hwn]; clear hwn; clear rr; clear j1 hcell hmA lcell; refine (qGG (mf) _ _ (T) _ l_17.2 r_17.2).mono ?_; rintro e w18 ⟨rfl, hb⟩; have f_18 := f_17.below hb; have h_18 := h_17.below hb; have a_18 := a_17.below hb; have l_18 := l_17.below hb; have r_18 := r_17.below hb; have HB18 := HB17.trans (hb.mono HB17.size); clear f_17 h_17 a_17 l_17 r_17 HB17 hb; clear l_18; clear r_18; clear a_18; obtain ⟨⟨qh0, qh1⟩, -⟩ := id h_18; have lh := h_18.lt
  go_wp2_with fail
  clear lh qh0 qh1; have hC := qJs p mf _ H w18 h_18.2; rw [E6.out] at hC; refine (qEe hC).mono ?_; clear hC; rintro e w19 ⟨vz, rfl, hz, hb, hlz⟩; have f_19 := f_18.below hb; have h_19 := h_18.below hb; have HB19 := HB18.trans (hb.mono HB18.size); clear f_18 h_18 HB18 hb; obtain ⟨oz, cz, rfl⟩ := hz.shape; have rz := hz.rd; clear hz; clear hlz; obtain ⟨⟨qh0, qh1⟩, -⟩ := id h_19; have lh := h_19.lt
  go_wp2_with fail
  clear lh qh0 qh1; obtain ⟨w20, hwn⟩ : ∃ W : World, W = w19.alloc (.cells #[.int .i64 mf, .slice oz H.length cz] 26) := ⟨_, rfl⟩; have z_20 := (PB.mk1 w19 (mf) (.slice oz H.length cz) (H) rz 26).below (w' := w20) (bV hwn); have hbk0 : w19.heap.size = w19.heap.size := by simp
  rw [hbk0] at z_20; clear hbk0; have hb : Below w19.heap.size w19 w20 := bV hwn; have f_20 := f_19.below hb; have h_20 := h_19.below hb; have HB20 := HB19.trans (hb.mono HB19.size); clear hb HB19 f_19 h_19; rw [← hwn]; clear hwn; clear rz; refine (qGG (mf) _ _ (H) _ z_20.2 h_20.2).mono ?_; rintro e w21 ⟨rfl, hb⟩; have f_21 := f_20.below hb; have h_21 := h_20.below hb; have z_21 := z_20.below hb; have HB21 := HB20.trans (hb.mono HB20.size); clear f_20 h_20 z_20 HB20 hb
  go_wp2_with fail
  go_meet
  case rel => exact HB21
 case rest =>
  as_aux_lemma =>
  obtain ⟨w22, rfl⟩ : ∃ u, u = wc := ⟨_, rfl⟩; clear f_12 h_12 a_12 HB12; have HB22 := hcut; clear hcut
  go_wp2_with fail
  refine (qPf w0.heap.size n _ w22 (HV.out.keep (fun j hj => HB22.block j hj)) HB22.size).mono ?_; rintro e w23 ⟨q, mg, vg, xg, rfl, rg, hb⟩; have HB23 := HB22.trans (hb.mono HB22.size); clear HB22 hb; obtain ⟨og, cg, rfl, -, -⟩ := id rg
  go_wp2_with fail
  obtain ⟨w24, hwn⟩ : ∃ W : World, W = w23.alloc (.cells #[.int .i64 mg, .slice og xg.length cg] 26) := ⟨_, rfl⟩; have g_24 := (PB.mk1 w23 (mg) (.slice og xg.length cg) (xg) rg 26).below (w' := w24) (bV hwn); have hbk0 : w23.heap.size = w23.heap.size := by simp
  rw [hbk0] at g_24; clear hbk0; have hb : Below w23.heap.size w23 w24 := bV hwn; have HB24 := HB23.trans (hb.mono HB23.size); clear hb HB23 ; rw [← hwn]; clear hwn; clear rg; obtain ⟨⟨LX, LC⟩, hL⟩ : ∃ r, qCV q mg xg = r := ⟨_, rfl⟩; obtain ⟨⟨OK, LE⟩, hK⟩ : ∃ r, qCA q mg xg = r := ⟨_, rfl⟩; have HL := dd hL; have HK := dd hK; obtain ⟨pf1, pf2⟩ := qOJ hL hK; have PF1 := dd pf1; have PF2 := dd pf2; clear hL hK pf1 pf2; have hC := qMD q mg _ xg w24 g_24.2; rw [HL.out] at hC; refine (lendL hC).mono ?_; clear hC; rintro e w25 ⟨vx, rfl, hx, hb, hlx⟩; have g_25 := g_24.below hb; have HB25 := HB24.trans (hb.mono HB24.size); clear g_24 HB24 hb; obtain ⟨ox, cx, rfl⟩ := hx.shape; have rx := hx.rd; clear hx; clear hlx; have x_25 := rx; clear rx; obtain ⟨⟨qg0, qg1⟩, -⟩ := id g_25; have lg := g_25.lt
  go_wp2_with fail
  clear lg qg0 qg1; have hC := qQI q mg _ xg w25 g_25.2; rw [HL.out] at hC; refine (lendL hC).mono ?_; clear hC; rintro e w26 ⟨vy, rfl, hy, hb, hly⟩; have g_26 := g_25.below hb; have x_26 := x_25.below hb; have HB26 := HB25.trans (hb.mono HB25.size); clear g_25 x_25 HB25 hb; obtain ⟨oy, cy, rfl⟩ := hy.shape; have ry := hy.rd; clear hy; clear hly; have y_26 := ry; clear ry; obtain ⟨⟨qg0, qg1⟩, -⟩ := id g_26; have lg := g_26.lt
  go_wp2_with fail
  clear lg qg0 qg1; have hC := qL_ q mg _ xg w26 g_26.2; rw [HK.out] at hC; refine (qI8 hC).mono ?_; clear hC; rintro e w27 ⟨rfl, hb⟩; have g_27 := g_26.below hb; have x_27 := x_26.below hb; have y_27 := y_26.below hb; have HB27 := HB26.trans (hb.mono HB26.size); clear g_26 x_26 y_26 HB26 hb; obtain ⟨⟨qg0, qg1⟩, -⟩ := id g_27; have lg := g_27.lt
  go_wp2_with fail
  clear lg qg0 qg1; have hC := qOD q mg _ xg w27 g_27.2; rw [HK.out] at hC; refine (qI8 hC).mono ?_; clear hC; rintro e w28 ⟨rfl, hb⟩; have g_28 := g_27.below hb; have x_28 := x_27.below hb; have y_28 := y_27.below hb; have HB28 := HB27.trans (hb.mono HB27.size); clear g_27 x_27 y_27 HB27 hb; have hq1 : (LC != LC) = false := by simp
  have hq2 : (LE != LE) = false := by simp
  have hq3 : (OK != OK) = false := by simp
  go_wp2_with fail
  refine (qNr _ _ LX _ x_28 y_28).mono ?_; rintro e w29 ⟨rfl, hb⟩; have g_29 := g_28.below hb; have x_29 := x_28.below hb; have y_29 := y_28.below hb; have HB29 := HB28.trans (hb.mono HB28.size); clear g_28 x_28 y_28 HB28 hb; clear y_29
  by_cases hc : LC = 0
  rotate_left
  ·have hc2 : (LC != 0) = true := by simpa using hc
   by_cases h4 : LC = 4
   ·obtain ⟨d1, d2⟩ : LE = 0 ∧ OK = false := by
     rcases PF1.out hc with h | h
     ·exact absurd h4 h
     ·exact h
    subst h4 d1 d2; go_wp2; go_ret; exact ⟨rfl, HB29⟩
   ·have h42 : (LC != 4) = true := by simpa using h4
    go_wp2; go_ret; exact ⟨rfl, HB29⟩
  obtain ⟨d1, d2, ⟨d3, d4⟩, d5⟩ := PF2.out hc; subst hc d1 d2; have D5 := dd d5; have ew : IntKind.i64.wrap ((xg.length : Int) - 1) = (xg.length : Int) - 1 := IntWalk.i64_in _ Oo; clear d5 PF1 PF2 hq1 hq2 hq3; obtain ⟨⟨qg0, qg1⟩, -⟩ := id g_29; have lg := g_29.lt
  go_wp2_with fail
  clear lg qg0 qg1; have hC := qQu q mg ((xg.length : Int) - 1) _ LX w29 x_29; rw [D5.out] at hC; refine (qEe hC).mono ?_; clear hC; rintro e w30 ⟨vb, rfl, hb, hb, hlb⟩; have g_30 := g_29.below hb; have x_30 := x_29.below hb; have HB30 := HB29.trans (hb.mono HB29.size); clear g_29 x_29 HB29 hb; obtain ⟨ob, cb, rfl⟩ := hb.shape; have rb := hb.rd; clear hb; clear hlb; obtain ⟨⟨qg0, qg1⟩, -⟩ := id g_30; have lg := g_30.lt
  go_wp2_with fail
  clear lg qg0 qg1; obtain ⟨w31, hwn⟩ : ∃ W : World, W = w30.alloc (.cells #[.int .i64 mg, .slice ob xg.length cb] 26) := ⟨_, rfl⟩; have b_31 := (PB.mk1 w30 (mg) (.slice ob xg.length cb) (xg) rb 26).below (w' := w31) (bV hwn); have hbk0 : w30.heap.size = w30.heap.size := by simp
  rw [hbk0] at b_31; clear hbk0; have hb : Below w30.heap.size w30 w31 := bV hwn; have g_31 := g_30.below hb; have x_31 := x_30.below hb; have HB31 := HB30.trans (hb.mono HB30.size); clear hb HB30 g_30 x_30; rw [← hwn]; clear hwn; clear rb; refine (qGG (mg) _ _ (xg) _ b_31.2 g_31.2).mono ?_; rintro e w32 ⟨rfl, hb⟩; have g_32 := g_31.below hb; have b_32 := b_31.below hb; have x_32 := x_31.below hb; have HB32 := HB31.trans (hb.mono HB31.size); clear g_31 b_31 x_31 HB31 hb; go_wp2; go_ret; exact ⟨rfl, HB32⟩

open Go.ChangeShapes Go.WideShapes Go.ChangeAt Go.Joins
theorem Typify_lifted (os : Os) (started : os.Started) (H : Type) (enc : TypeId × Value → H) :
  ReturnsInHanded {} Tryz.checked os 4 .any (Rows.fnTypifySpec.pre6 enc Tryz.prog Tryz.f4 Rows.fnTypifyRow.domain false) (Rows.fnTypifySpec.post enc Tryz.prog Tryz.f4 false true false false) := by
 refine returnsInHanded_of_change (C := Tryz.checked) Tryz.own started kr Tryz.func4
  (ChangeSpec.witness6 (enc := enc) (C := Tryz.checked) false ⟨#[], #[.slice none 0 0], []⟩ 8 kr kr kr kr) ?_
 intro W base args ds gs before hval0 hW _ _
 have hval : ∀ (j : Nat) t v, Tryz.f4.params[j]? = some t → args[j]? = some v → Value.okWide Tryz.prog W .any base t v := hval0
 have hW' := hW
 obtain ⟨p, q, hA0, hV, rfl, _, _⟩ := hW
 have hA : DataW.TrodAll enc Tryz.prog W 0 (fun _ => true) true Tryz.f4.params.toList args.toList ds p := hA0
 rw [Tryz.params4] at hA hval
 have hAk := hA
 obtain ⟨rfl, rfl⟩ := trodVars_none hV
 obtain ⟨v0, d0, rfl, rfl, h0⟩ := trodAll_one hA
 obtain ⟨n, r0⟩ := qNM (hval 0 22 v0 rfl rfl) h0
 clear hA0 hval0
 simp only [List.append_nil] at hW'
 refine (qNd n v0 W r0).mono fun e W' ⟨he, hb⟩ => ?_
 subst he
 refine ⟨_, rfl, _, _, _, [], p, [], hW', ?_, ?_, rfl, hb.frame _, fun h => by cases h⟩
 ·exact trodAll_mk1 (shut_bool Tryz.underlying4 true)
 ·exact qJb Tryz.laidOut kr hAk hb (fun x hx => by simpa using hW'.lt x hx)

theorem Typify_holds : Rows.FnTypifySaid :=
 OpenClaim.holds_of_wide 4 Tryz.f4 rfl rfl rfl rfl rfl rfl rfl ⟨rfl, rfl, rfl, rfl, rfl⟩ rfl rfl rfl rfl rfl kr Tryz.func4 kr
  (of_decide_eq_true kr) (by unfold Func.isWrapper; rw [if_neg (of_decide_eq_false kr)]; exact ⟨rfl, rfl⟩)
  (fun os started H enc _ => Typify_lifted os started H enc)

#print axioms Typify_holds
end Go.Proofs.YtfpphfjlpgefaaaGreat
