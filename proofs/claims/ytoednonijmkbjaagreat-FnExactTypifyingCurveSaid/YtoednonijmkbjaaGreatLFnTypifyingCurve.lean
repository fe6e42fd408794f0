/- The law on TypifyingCurve: for every input the program and the reference agree. No condition. -/
import Derived.Test.YtoednonijmkbjaaGreatLM31
import Derived.Test.YtoednonijmkbjaaGreatLG2
import Derived.Deep.RegionHeld3
set_option linter.unusedSimpArgs false
set_option linter.unusedVariables false
namespace Go.Proofs.YtoednonijmkbjaaGreat
open Go.RowKit
open Go.ChangeShapes Go.WideShapes Go.ChangeAt Go.Joins

set_option maxHeartbeats 4000000 in
set_option maxRecDepth 100000 in
theorem FnExactTypifyingCurve_c (a0 : Int) (m1 : Int) (v1 : Value) (xs1 : List (List Int)) (w : World) (hv1 : RdT w v1 xs1) :
    Calls Tryz.prog 3 #[.int .i64 a0, .agg #[.int .i64 m1, v1]] w fun e w' => e = .returned (.bool true) ∧ Below w.heap.size w w' := by
  obtain ⟨o1, c1, rfl, hm1, hz1⟩ := id hv1
  clear hz1
  have HS := Lib.hid (fun (u : World) (u1 : Value) (k1 : RdT u u1 xs1) => sTypifyingCurve_c a0 m1 u1 xs1 u k1)
  have HI := Lib.hid (fun (u : World) (u1 : Value) (k1 : RdT u u1 xs1) => TypifyingCurve_c a0 m1 u1 xs1 u k1)
  generalize tfSR a0 m1 xs1 = r at HS HI
  have HB0 := Below.refl w.heap.size w
  obtain ⟨us1, A1_0⟩ := Lives.rdT hv1
  go_enter Tryz.func3, Tryz.ntmps3
  go_wp2_with fail
  have hb : Below w.heap.size w (w.alloc (.cells #[.int .i64 m1, .slice o1 xs1.length c1] 24)) := (by (repeat (first | exact bR _ _ | (refine bS ?_ _) | (refine bA ?_ _) | (refine bN ?_ _) | (refine bD ?_))))
  have hz : (w.alloc (.cells #[.int .i64 m1, .slice o1 xs1.length c1] 24)).heap.size = w.heap.size + 1 := by simp
  have HB1 := HB0.trans (hb.mono HB0.size)
  have A1_1 := A1_0.below hb
  clear A1_0
  have BA1_0 := Lives.box2 w (.int .i64 m1) (.slice o1 xs1.length c1) 24
  clear hb
  generalize w.alloc (.cells #[.int .i64 m1, .slice o1 xs1.length c1] 24) = w1 at A1_1 BA1_0 hz HB1 ⊢
  have hlt1 : w.heap.size + 0 < w1.heap.size := by omega
  clear hz
  obtain ⟨qBA10, qBA11⟩ := id BA1_0.now
  have qlBA1 : w.heap.size < w1.heap.size := by have := BA1_0.le; omega
  refine (szPlane_c _ _ xs1 1048576 _ A1_1.now.rd (by omega) (by omega)).mono ?_
  rintro e w2 ⟨rfl, hb⟩
  have hs2 := hb.size
  have HB2 := HB1.trans (hb.mono HB1.size)
  have A1_2 := A1_1.below hb
  clear A1_1
  have BA1_1 := BA1_0.below hb
  clear BA1_0
  clear hb
  by_cases hsz1 : szV (sizeT xs1) 1048576 < 0
  · go_wp2
    go_ret
    exact ⟨rfl, HB2⟩
  have hle1 := szT_ok (Int.not_lt.1 hsz1) (by omega)
  obtain ⟨hn1, hl1, hk1⟩ := hle1
  have hnum1 : numT xs1 ≤ 1048576 := by unfold sizeT at hn1; omega
  obtain ⟨qBA10, qBA11⟩ := id BA1_1.now
  have qlBA1 : w.heap.size < w2.heap.size := by have := BA1_1.le; omega
  go_wp2_with fail
  refine (toPlane_c _ _ xs1 _ A1_2.now.rd hn1).mono ?_
  rintro e w3 ⟨vs1, rfl, ho, hb⟩
  have hs3 := hb.size
  have HB3 := HB2.trans (hb.mono HB2.size)
  have A1_3 := A1_2.below hb
  clear A1_2
  have BA1_2 := BA1_1.below hb
  clear BA1_1
  clear hb
  obtain ⟨os1, cs1, rfl⟩ := ho.shape
  have Cs1_0 := Lives.owS ho hs3
  clear ho
  go_wp2_with fail
  refine (HS.out _ _ (Cs1_0.now.rd)).mono ?_
  rintro e w4 ⟨vS, rfl, ho, hb, hlen⟩
  have hs4 := hb.size
  have HB4 := HB3.trans (hb.mono HB3.size)
  have A1_4 := A1_3.below hb
  clear A1_3
  have BA1_3 := BA1_2.below hb
  clear BA1_2
  have Cs1_1 := Cs1_0.below hb
  clear Cs1_0
  clear hb
  obtain ⟨oS, cS, rfl⟩ := ho.shape
  have S_0 := Lives.owR ho hs4
  clear ho
  obtain ⟨qBA10, qBA11⟩ := id BA1_3.now
  have qlBA1 : w.heap.size < w4.heap.size := by have := BA1_3.le; omega
  go_wp2_with fail
  have hb : Below w4.heap.size w4 (w4.alloc (.cells #[.int .i64 r.m, .slice oS r.xs.length cS] 28)) := (by (repeat (first | exact bR _ _ | (refine bS ?_ _) | (refine bA ?_ _) | (refine bN ?_ _) | (refine bD ?_))))
  have hz : (w4.alloc (.cells #[.int .i64 r.m, .slice oS r.xs.length cS] 28)).heap.size = w4.heap.size + 1 := by simp
  have HB5 := HB4.trans (hb.mono HB4.size)
  have A1_5 := A1_4.below hb
  clear A1_4
  have BA1_4 := BA1_3.below hb
  clear BA1_3
  have Cs1_2 := Cs1_1.below hb
  clear Cs1_1
  have S_1 := S_0.below hb
  clear S_0
  have BS_0 := Lives.box2 w4 (.int .i64 r.m) (.slice oS r.xs.length cS) 28
  clear hb
  generalize w4.alloc (.cells #[.int .i64 r.m, .slice oS r.xs.length cS] 28) = w5 at A1_5 BA1_4 Cs1_2 S_1 BS_0 hz HB5 ⊢
  have hlt5 : w4.heap.size < w5.heap.size := by omega
  clear hz
  refine (toPlane_c _ _ xs1 _ A1_5.now.rd hn1).mono ?_
  rintro e w6 ⟨vx1, rfl, ho, hb⟩
  have hs6 := hb.size
  have HB6 := HB5.trans (hb.mono HB5.size)
  have A1_6 := A1_5.below hb
  clear A1_5
  have BA1_5 := BA1_4.below hb
  clear BA1_4
  have S_2 := S_1.below hb
  clear S_1
  have BS_1 := BS_0.below hb
  clear BS_0
  clear hb
  obtain ⟨ox1, cx1, rfl⟩ := ho.shape
  have X1_0 := Lives.owS ho hs6
  clear ho
  go_wp2_with fail
  have hb : Below w6.heap.size w6 (w6.alloc (.cells #[.int .i64 m1, .slice ox1 xs1.length cx1] 31)) := (by (repeat (first | exact bR _ _ | (refine bS ?_ _) | (refine bA ?_ _) | (refine bN ?_ _) | (refine bD ?_))))
  have hz : (w6.alloc (.cells #[.int .i64 m1, .slice ox1 xs1.length cx1] 31)).heap.size = w6.heap.size + 1 := by simp
  have HB7 := HB6.trans (hb.mono HB6.size)
  have A1_7 := A1_6.below hb
  clear A1_6
  have BA1_6 := BA1_5.below hb
  clear BA1_5
  have S_3 := S_2.below hb
  clear S_2
  have BS_2 := BS_1.below hb
  clear BS_1
  have X1_1 := X1_0.below hb
  clear X1_0
  have BX1_0 := Lives.box2 w6 (.int .i64 m1) (.slice ox1 xs1.length cx1) 31
  clear hb
  generalize w6.alloc (.cells #[.int .i64 m1, .slice ox1 xs1.length cx1] 31) = w7 at A1_7 BA1_6 S_3 BS_2 X1_1 BX1_0 hz HB7 ⊢
  have hlt7 : w6.heap.size < w7.heap.size := by omega
  clear hz
  refine (HI.out _ _ (X1_1.now.rd)).mono ?_
  rintro e w8 ⟨vG, rfl, ho, hb, hlen⟩
  have hs8 := hb.size
  have HB8 := HB7.trans (hb.mono HB7.size)
  have A1_8 := A1_7.below hb
  clear A1_7
  have BA1_7 := BA1_6.below hb
  clear BA1_6
  have S_4 := S_3.below hb
  clear S_3
  have BS_3 := BS_2.below hb
  clear BS_2
  have X1_2 := X1_1.below hb
  clear X1_1
  have BX1_1 := BX1_0.below hb
  clear BX1_0
  clear hb
  obtain ⟨oG, cG, rfl⟩ := ho.shape
  have G_0 := Lives.owR ho hs8
  clear ho
  obtain ⟨qBS0, qBS1⟩ := id BS_3.now
  have qlBS : w4.heap.size < w8.heap.size := by have := BS_3.le; omega
  have hq : (r.code != r.code) = false := by simp
  go_wp2_with fail
  clear hq
  have hb : Below w8.heap.size w8 (w8.alloc (.cells #[.int .i64 r.m, .slice oG r.xs.length cG] 28)) := (by (repeat (first | exact bR _ _ | (refine bS ?_ _) | (refine bA ?_ _) | (refine bN ?_ _) | (refine bD ?_))))
  have hz : (w8.alloc (.cells #[.int .i64 r.m, .slice oG r.xs.length cG] 28)).heap.size = w8.heap.size + 1 := by simp
  have HB9 := HB8.trans (hb.mono HB8.size)
  have A1_9 := A1_8.below hb
  clear A1_8
  have BA1_8 := BA1_7.below hb
  clear BA1_7
  have S_5 := S_4.below hb
  clear S_4
  have BS_4 := BS_3.below hb
  clear BS_3
  have X1_3 := X1_2.below hb
  clear X1_2
  have BX1_2 := BX1_1.below hb
  clear BX1_1
  have G_1 := G_0.below hb
  clear G_0
  have BG_0 := Lives.box2 w8 (.int .i64 r.m) (.slice oG r.xs.length cG) 28
  clear hb
  generalize w8.alloc (.cells #[.int .i64 r.m, .slice oG r.xs.length cG] 28) = w9 at A1_9 BA1_8 S_5 BS_4 X1_3 BX1_2 G_1 BG_0 hz HB9 ⊢
  have hlt9 : w8.heap.size < w9.heap.size := by omega
  clear hz
  have hq : (r.code != r.code) = false := by simp
  refine (eqSeries_c _   _   _ _ r.xs r.xs _ G_1.now.1.rd S_5.now.1.rd).mono ?_
  rw [eqSB_self]
  rintro e w10 ⟨rfl, hb⟩
  have hs10 := hb.size
  have HB10 := HB9.trans (hb.mono HB9.size)
  have A1_10 := A1_9.below hb
  clear A1_9
  have BA1_9 := BA1_8.below hb
  clear BA1_8
  have S_6 := S_5.below hb
  clear S_5
  have BS_5 := BS_4.below hb
  clear BS_4
  have X1_4 := X1_3.below hb
  clear X1_3
  have BX1_3 := BX1_2.below hb
  clear BX1_2
  have G_2 := G_1.below hb
  clear G_1
  have BG_1 := BG_0.below hb
  clear BG_0
  clear hb
  go_wp2_with fail
  have hb : Below w10.heap.size w10 w10.drew := (Below.refl _ _).drew
  have HBd1 := HB10.trans (hb.mono HB10.size)
  have hsd1 := hb.size
  have A1_11 := A1_10.below hb
  clear A1_10
  have BA1_10 := BA1_9.below hb
  clear BA1_9
  have S_7 := S_6.below hb
  clear S_6
  have BS_6 := BS_5.below hb
  clear BS_5
  have X1_5 := X1_4.below hb
  clear X1_4
  have BX1_4 := BX1_3.below hb
  clear BX1_3
  have G_3 := G_2.below hb
  clear G_2
  have BG_2 := BG_1.below hb
  clear BG_1
  clear hb
  obtain ⟨qBA10, qBA11⟩ := id BA1_10.now
  have qlBA1 : w.heap.size < w10.heap.size := by have := BA1_10.le; omega
  obtain ⟨qBX10, qBX11⟩ := id BX1_4.now
  have qlBX1 : w6.heap.size < w10.heap.size := by have := BX1_4.le; omega
  go_region_held3 (fun w' => w'.cell? ⟨w.heap.size, 0, none⟩ = some (.int .i64 m1) ∧ w'.cell? ⟨w.heap.size, 1, none⟩ = some (.slice o1 xs1.length c1) ∧ w'.cell? ⟨w6.heap.size, 0, none⟩ = some (.int .i64 m1) ∧ w'.cell? ⟨w6.heap.size, 1, none⟩ = some (.slice ox1 xs1.length cx1)) (go_keep)
    (first
      | (go_at_call 9; refine (toPlane_c _ _ xs1 _ A1_11.now.rd hn1).mono ?_; rintro e w11 ⟨vy1, rfl, ho, hb⟩; have hs11 := hb.size; have HB11 := HBd1.trans (hb.mono HBd1.size); have A1_12 := A1_11.below hb; clear A1_11; have BA1_11 := BA1_10.below hb; clear BA1_10; have S_8 := S_7.below hb; clear S_7; have BS_7 := BS_6.below hb; clear BS_6; have X1_6 := X1_5.below hb; clear X1_5; have BX1_5 := BX1_4.below hb; clear BX1_4; have G_4 := G_3.below hb; clear G_3; have BG_3 := BG_2.below hb; clear BG_2; have Y1_0 := Lives.owS ho hs11; clear ho hb; obtain ⟨qBA10, qBA11⟩ := id BA1_11.now; obtain ⟨qBX10, qBX11⟩ := id BX1_5.now)
      | (go_at_call 12; refine (eqPlane_c _ _ _ _ xs1 xs1 _ X1_6.now.rd Y1_0.now.rd).mono ?_; rw [eqPB_self]; rintro e w12 ⟨rfl, hb⟩; have hs12 := hb.size; have HB12 := HB11.trans (hb.mono HB11.size); have A1_13 := A1_12.below hb; clear A1_12; have BA1_12 := BA1_11.below hb; clear BA1_11; have S_9 := S_8.below hb; clear S_8; have BS_8 := BS_7.below hb; clear BS_7; have X1_7 := X1_6.below hb; clear X1_6; have BX1_6 := BX1_5.below hb; clear BX1_5; have G_5 := G_4.below hb; clear G_4; have BG_4 := BG_3.below hb; clear BG_3; clear hb; obtain ⟨qBA10, qBA11⟩ := id BA1_12.now; obtain ⟨qBX10, qBX11⟩ := id BX1_6.now))
  obtain ⟨qBX10, qBX11⟩ := id BX1_6.now
  have qlBX1 : w6.heap.size < w12.heap.size := by have := BX1_6.le; omega
  go_wp2_with fail
  refine (markPlane_c _ _ xs1 (1) _ _ _ X1_7.now X1_7.le (by omega) (by omega) (by omega)).mono ?_
  rintro e w13 ⟨rfl, ho, hc⟩
  have hs13 := hc.size
  have HB13 := Chg.below HB12 hc (by have := HB12.size; omega) (by have := HB12.size; omega)
  have A1_14 := A1_13.chg hc (by omega)
  clear A1_13
  have BA1_13 := BA1_12.chg hc (by omega)
  clear BA1_12
  have S_10 := S_9.chg hc (by omega)
  clear S_9
  have BS_9 := BS_8.chg hc (by omega)
  clear BS_8
  have BX1_7 := BX1_6.chg hc (by omega)
  clear BX1_6
  have G_6 := G_5.chg hc (by omega)
  clear G_5
  have BG_5 := BG_4.chg hc (by omega)
  clear BG_4
  have X1_8 := Lives.markedT X1_7 ho hc
  clear X1_7 hc ho
  obtain ⟨qBG0, qBG1⟩ := id BG_5.now
  have qlBG : w8.heap.size < w13.heap.size := by have := BG_5.le; omega
  obtain ⟨qBS0, qBS1⟩ := id BS_9.now
  have qlBS : w4.heap.size < w13.heap.size := by have := BS_9.le; omega
  have hq : (r.code != r.code) = false := by simp
  go_wp2_with fail
  clear hq
  have hq : (r.code != r.code) = false := by simp
  refine (eqSeries_c _   _   _ _ r.xs r.xs _ G_6.now.1.rd S_10.now.1.rd).mono ?_
  rw [eqSB_self]
  rintro e w14 ⟨rfl, hb⟩
  have hs14 := hb.size
  have HB14 := HB13.trans (hb.mono HB13.size)
  have A1_15 := A1_14.below hb
  clear A1_14
  have BA1_14 := BA1_13.below hb
  clear BA1_13
  have S_11 := S_10.below hb
  clear S_10
  have BS_10 := BS_9.below hb
  clear BS_9
  have X1_9 := X1_8.below hb
  clear X1_8
  have BX1_8 := BX1_7.below hb
  clear BX1_7
  have G_7 := G_6.below hb
  clear G_6
  have BG_6 := BG_5.below hb
  clear BG_5
  clear hb
  obtain ⟨qBG0, qBG1⟩ := id BG_6.now
  have qlBG : w8.heap.size < w14.heap.size := by have := BG_6.le; omega
  go_wp2_with fail
  have hrow := G_7.now.2
  refine (markSeries_c _ _ r.xs (1) _ _ G_7.now.1 (by omega) (by omega) (by omega)).mono ?_
  rintro e w15 ⟨rfl, ho, hg⟩
  have hc := chg_of_row G_7 hrow hg
  have hs15 := hc.size
  have HB15 := Chg.below HB14 hc (by have := HB14.size; omega) (by have := HB14.size; omega)
  have A1_16 := A1_15.chg hc (by omega)
  clear A1_15
  have BA1_15 := BA1_14.chg hc (by omega)
  clear BA1_14
  have S_12 := S_11.chg hc (by omega)
  clear S_11
  have BS_11 := BS_10.chg hc (by omega)
  clear BS_10
  have X1_10 := X1_9.chg hc (by omega)
  clear X1_9
  have BX1_9 := BX1_8.chg hc (by omega)
  clear BX1_8
  have BG_7 := BG_6.chg hc (by omega)
  clear BG_6
  have G_8 := Lives.marked G_7 ho hc
  clear G_7 hc hg ho hrow
  obtain ⟨qBG0, qBG1⟩ := id BG_7.now
  have qlBG : w8.heap.size < w15.heap.size := by have := BG_7.le; omega
  go_wp2_with fail
  refine (heldSeries_c _ _ _ 1 _ (G_8.now.1.rd) (by omega) (by omega) (by omega)).mono ?_
  rintro e w16 ⟨rfl, hb⟩
  have hs16 := hb.size
  have HB16 := HB15.trans (hb.mono HB15.size)
  have A1_17 := A1_16.below hb
  clear A1_16
  have BA1_16 := BA1_15.below hb
  clear BA1_15
  have S_13 := S_12.below hb
  clear S_12
  have BS_12 := BS_11.below hb
  clear BS_11
  have X1_11 := X1_10.below hb
  clear X1_10
  have BX1_10 := BX1_9.below hb
  clear BX1_9
  have G_9 := G_8.below hb
  clear G_8
  have BG_8 := BG_7.below hb
  clear BG_7
  clear hb
  obtain ⟨qBA10, qBA11⟩ := id BA1_16.now
  have qlBA1 : w.heap.size < w16.heap.size := by have := BA1_16.le; omega
  go_wp2_with fail
  refine (toPlane_c _ _ xs1 _ A1_17.now.rd hn1).mono ?_
  rintro e w17 ⟨vh1, rfl, ho, hb⟩
  have hs17 := hb.size
  have HB17 := HB16.trans (hb.mono HB16.size)
  have A1_18 := A1_17.below hb
  clear A1_17
  have BA1_17 := BA1_16.below hb
  clear BA1_16
  have S_14 := S_13.below hb
  clear S_13
  have BS_13 := BS_12.below hb
  clear BS_12
  have G_10 := G_9.below hb
  clear G_9
  have BG_9 := BG_8.below hb
  clear BG_8
  clear hb
  obtain ⟨oh1, ch1, rfl⟩ := ho.shape
  have Ch1_0 := Lives.owS ho hs17
  clear ho
  go_wp2_with fail
  refine (HI.out _ _ (Ch1_0.now.rd)).mono ?_
  rintro e w18 ⟨vH, rfl, ho, hb, hlen⟩
  have hs18 := hb.size
  have HB18 := HB17.trans (hb.mono HB17.size)
  have A1_19 := A1_18.below hb
  clear A1_18
  have BA1_18 := BA1_17.below hb
  clear BA1_17
  have S_15 := S_14.below hb
  clear S_14
  have BS_14 := BS_13.below hb
  clear BS_13
  have G_11 := G_10.below hb
  clear G_10
  have BG_10 := BG_9.below hb
  clear BG_9
  have Ch1_1 := Ch1_0.below hb
  clear Ch1_0
  clear hb
  obtain ⟨oH, cH, rfl⟩ := ho.shape
  have H_0 := Lives.owR ho hs18
  clear ho
  obtain ⟨qBS0, qBS1⟩ := id BS_14.now
  have qlBS : w4.heap.size < w18.heap.size := by have := BS_14.le; omega
  have hq : (r.code != r.code) = false := by simp
  go_wp2_with fail
  clear hq
  have hb : Below w18.heap.size w18 (w18.alloc (.cells #[.int .i64 r.m, .slice oH r.xs.length cH] 28)) := (by (repeat (first | exact bR _ _ | (refine bS ?_ _) | (refine bA ?_ _) | (refine bN ?_ _) | (refine bD ?_))))
  have hz : (w18.alloc (.cells #[.int .i64 r.m, .slice oH r.xs.length cH] 28)).heap.size = w18.heap.size + 1 := by simp
  have HB19 := HB18.trans (hb.mono HB18.size)
  have A1_20 := A1_19.below hb
  clear A1_19
  have BA1_19 := BA1_18.below hb
  clear BA1_18
  have S_16 := S_15.below hb
  clear S_15
  have BS_15 := BS_14.below hb
  clear BS_14
  have G_12 := G_11.below hb
  clear G_11
  have BG_11 := BG_10.below hb
  clear BG_10
  have Ch1_2 := Ch1_1.below hb
  clear Ch1_1
  have H_1 := H_0.below hb
  clear H_0
  have BH_0 := Lives.box2 w18 (.int .i64 r.m) (.slice oH r.xs.length cH) 28
  clear hb
  generalize w18.alloc (.cells #[.int .i64 r.m, .slice oH r.xs.length cH] 28) = w19 at A1_20 BA1_19 S_16 BS_15 G_12 BG_11 Ch1_2 H_1 BH_0 hz HB19 ⊢
  have hlt19 : w18.heap.size < w19.heap.size := by omega
  clear hz
  have hq : (r.code != r.code) = false := by simp
  refine (eqSeries_c _   _   _ _ r.xs r.xs _ H_1.now.1.rd S_16.now.1.rd).mono ?_
  rw [eqSB_self]
  rintro e w20 ⟨rfl, hb⟩
  have hs20 := hb.size
  have HB20 := HB19.trans (hb.mono HB19.size)
  have A1_21 := A1_20.below hb
  clear A1_20
  have BA1_20 := BA1_19.below hb
  clear BA1_19
  have S_17 := S_16.below hb
  clear S_16
  have BS_16 := BS_15.below hb
  clear BS_15
  have G_13 := G_12.below hb
  clear G_12
  have BG_12 := BG_11.below hb
  clear BG_11
  have H_2 := H_1.below hb
  clear H_1
  have BH_1 := BH_0.below hb
  clear BH_0
  clear hb
  obtain ⟨qBG0, qBG1⟩ := id BG_12.now
  have qlBG : w8.heap.size < w20.heap.size := by have := BG_12.le; omega
  go_wp2_with fail
  refine (heldSeries_c _ _ _ 1 _ (G_13.now.1.rd) (by omega) (by omega) (by omega)).mono ?_
  rintro e w21 ⟨rfl, hb⟩
  have hs21 := hb.size
  have HB21 := HB20.trans (hb.mono HB20.size)
  have A1_22 := A1_21.below hb
  clear A1_21
  have BA1_21 := BA1_20.below hb
  clear BA1_20
  have S_18 := S_17.below hb
  clear S_17
  have BS_17 := BS_16.below hb
  clear BS_16
  have G_14 := G_13.below hb
  clear G_13
  have BG_13 := BG_12.below hb
  clear BG_12
  have H_3 := H_2.below hb
  clear H_2
  have BH_2 := BH_1.below hb
  clear BH_1
  clear hb
  go_wp2
  go_ret
  exact ⟨rfl, HB21⟩

set_option maxRecDepth 100000 in
theorem TypifyingCurve_lifted (os : Os) (started : os.Started) (H : Type) (enc : TypeId × Value → H) :
    ReturnsInHanded {} Tryz.checked os 3 .any (Rows.fnExactTypifyingCurveSpec.pre6 enc Tryz.prog Tryz.f3 Rows.fnExactTypifyingCurveRow.domain false) (Rows.fnExactTypifyingCurveSpec.post enc Tryz.prog Tryz.f3 false true false false) := by
  refine returnsInHanded_of_change (C := Tryz.checked) Tryz.own started (by kernel_rfl) Tryz.func3
    (ChangeSpec.witness6 (enc := enc) (C := Tryz.checked) false ⟨#[], #[.int .i64 0, .agg #[.int .i64 0, .slice none 0 0]], []⟩ 8 (by kernel_rfl) (by kernel_rfl) (by kernel_rfl) (by kernel_rfl)) ?_
  intro W base args ds gs before hval0 hW _ _
  have hval : ∀ (j : Nat) t v, Tryz.f3.params[j]? = some t → args[j]? = some v → Value.okWide Tryz.prog W .any base t v := hval0
  have hW' := hW
  obtain ⟨p, q, hA0, hV, rfl, _, _⟩ := hW
  have hA : DataW.TrodAll enc Tryz.prog W 0 (fun _ => true) true Tryz.f3.params.toList args.toList ds p := hA0
  rw [Tryz.params3] at hA hval
  have hAk := hA
  obtain ⟨rfl, rfl⟩ := trodVars_none hV
  obtain ⟨v0, v1, d0, d1, p0, p1, rfl, rfl, hp, h0, h1⟩ := trodAll_two hA
  obtain ⟨a0, rfl, rfl, hp0, wa0⟩ := open_int Tryz.underlying2 (hval 0 2 v0 rfl rfl) h0
  obtain ⟨m1, u1, xs1, rfl, r1⟩ := open_plane (hval 1 24 v1 rfl rfl) h1
  clear hA0 hval0
  simp only [List.append_nil] at hW'
  refine (FnExactTypifyingCurve_c a0 m1 u1 xs1 W r1).mono fun e W' ⟨he, hb⟩ => ?_
  subst he
  refine ⟨_, rfl, _, _, _, [], p, [], hW', ?_, ?_, rfl, hb.frame _, fun h => by cases h⟩
  · exact trodAll_mk1 (shut_bool Tryz.underlying4 true)
  · exact trodAll_below Tryz.laidOut (by kernel_rfl) hAk hb (fun x hx => by simpa using hW'.lt x hx)

theorem TypifyingCurve_holds : Rows.FnExactTypifyingCurveSaid :=
  OpenClaim.holds_of_wide 3 Tryz.f3 rfl rfl rfl rfl rfl rfl rfl ⟨rfl, rfl, rfl, rfl, rfl⟩ rfl rfl rfl rfl rfl (by kernel_rfl) Tryz.func3 (by kernel_rfl)
    (of_decide_eq_true (by kernel_rfl)) (by unfold Func.isWrapper; rw [if_neg (of_decide_eq_false (by kernel_rfl))]; exact ⟨rfl, rfl⟩)
    (fun os started H enc _ => TypifyingCurve_lifted os started H enc)

#print axioms TypifyingCurve_holds
end Go.Proofs.YtoednonijmkbjaaGreat
