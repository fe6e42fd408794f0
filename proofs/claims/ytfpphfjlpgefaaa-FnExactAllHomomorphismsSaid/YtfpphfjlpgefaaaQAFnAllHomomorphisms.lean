/- The law on AllHomomorphisms: for every input the program and the reference agree. No condition. -/
import Derived.Test.YtfpphfjlpgefaaaQAM18
import Derived.Test.YtfpphfjlpgefaaaQAG2
import Derived.Deep.RegionHeld3
set_option linter.unusedSimpArgs false
set_option linter.unusedVariables false
namespace Go.Proofs.Ytfpphfjlpgefaaa
open Go.RowKit
open Go.ChangeShapes Go.WideShapes Go.ChangeAt Go.Joins

set_option maxHeartbeats 4000000 in
set_option maxRecDepth 100000 in
theorem FnExactAllHomomorphisms_c (m0 : Int) (v0 : Value) (xs0 : List (List Int)) (m1 : Int) (v1 : Value) (xs1 : List (List Int)) (w : World) (hv0 : RdT w v0 xs0) (hv1 : RdT w v1 xs1) :
    Calls Try.prog 3 #[.agg #[.int .i64 m0, v0], .agg #[.int .i64 m1, v1]] w fun e w' => e = .returned (.bool true) ∧ Below w.heap.size w w' := by
  obtain ⟨o0, c0, rfl, hm0, hz0⟩ := id hv0
  clear hz0
  obtain ⟨o1, c1, rfl, hm1, hz1⟩ := id hv1
  clear hz1
  have HS := Lib.hid (fun (u : World) (u0 : Value) (u1 : Value) (k0 : RdT u u0 xs0) (k1 : RdT u u1 xs1) => sAllHomomorphisms_c m0 u0 xs0 m1 u1 xs1 u k0 k1)
  have HI := Lib.hid (fun (u : World) (u0 : Value) (u1 : Value) (k0 : RdT u u0 xs0) (k1 : RdT u u1 xs1) => AllHomomorphisms_c m0 u0 xs0 m1 u1 xs1 u k0 k1)
  generalize allQR m0 xs0 m1 xs1 = r at HS HI
  have HB0 := Below.refl w.heap.size w
  obtain ⟨us0, A0_0⟩ := Lives.rdT hv0
  obtain ⟨us1, A1_0⟩ := Lives.rdT hv1
  go_enter Try.func3, Try.ntmps3
  go_wp2_with fail
  have hb : Below w.heap.size w (w.alloc (.cells #[.int .i64 m0, .slice o0 xs0.length c0] 24)) := (by (repeat (first | exact bR _ _ | (refine bS ?_ _) | (refine bA ?_ _) | (refine bN ?_ _) | (refine bD ?_))))
  have hz : (w.alloc (.cells #[.int .i64 m0, .slice o0 xs0.length c0] 24)).heap.size = w.heap.size + 1 := by simp
  have HB1 := HB0.trans (hb.mono HB0.size)
  have A0_1 := A0_0.below hb
  clear A0_0
  have A1_1 := A1_0.below hb
  clear A1_0
  have BA0_0 := Lives.box2 w (.int .i64 m0) (.slice o0 xs0.length c0) 24
  clear hb
  generalize w.alloc (.cells #[.int .i64 m0, .slice o0 xs0.length c0] 24) = w1 at A0_1 A1_1 BA0_0 hz HB1 ⊢
  have hlt1 : w.heap.size + 0 < w1.heap.size := by omega
  have hy := hz
  clear hz
  have hb : Below w1.heap.size w1 (w1.alloc (.cells #[.int .i64 m1, .slice o1 xs1.length c1] 24)) := (by (repeat (first | exact bR _ _ | (refine bS ?_ _) | (refine bA ?_ _) | (refine bN ?_ _) | (refine bD ?_))))
  have hz : (w1.alloc (.cells #[.int .i64 m1, .slice o1 xs1.length c1] 24)).heap.size = w1.heap.size + 1 := by simp
  have HB2 := HB1.trans (hb.mono HB1.size)
  have A0_2 := A0_1.below hb
  clear A0_1
  have A1_2 := A1_1.below hb
  clear A1_1
  have BA0_1 := BA0_0.below hb
  clear BA0_0
  have BA1_0 := Lives.box2 w1 (.int .i64 m1) (.slice o1 xs1.length c1) 24
  clear hb
  generalize w1.alloc (.cells #[.int .i64 m1, .slice o1 xs1.length c1] 24) = w2 at A0_2 A1_2 BA0_1 BA1_0 hz HB2 ⊢
  rw [hy] at BA1_0
  rw [hy] at hz
  clear hy
  have hlt2 : w.heap.size + 1 < w2.heap.size := by omega
  clear hz
  obtain ⟨qBA00, qBA01⟩ := id BA0_1.now
  have qlBA0 : w.heap.size < w2.heap.size := by have := BA0_1.le; omega
  refine (szPlane_c _ _ xs0 1048576 _ A0_2.now.rd (by omega) (by omega)).mono ?_
  rintro e w3 ⟨rfl, hb⟩
  have hs3 := hb.size
  have HB3 := HB2.trans (hb.mono HB2.size)
  have A0_3 := A0_2.below hb
  clear A0_2
  have A1_3 := A1_2.below hb
  clear A1_2
  have BA0_2 := BA0_1.below hb
  clear BA0_1
  have BA1_1 := BA1_0.below hb
  clear BA1_0
  clear hb
  by_cases hsz0 : szV (sizeT xs0) 1048576 < 0
  · go_wp2
    go_ret
    exact ⟨rfl, HB3⟩
  have hle0 := szT_ok (Int.not_lt.1 hsz0) (by omega)
  obtain ⟨hn0, hl0, hk0⟩ := hle0
  have hnum0 : numT xs0 ≤ 1048576 := by unfold sizeT at hn0; omega
  obtain ⟨qBA10, qBA11⟩ := id BA1_1.now
  have qlBA1 : w.heap.size + 1 < w3.heap.size := by have := BA1_1.le; omega
  go_wp2_with fail
  refine (szPlane_c _ _ xs1 (szV (sizeT xs0) 1048576) _ A1_3.now.rd (by omega) (by omega)).mono ?_
  rintro e w4 ⟨rfl, hb⟩
  have hs4 := hb.size
  have HB4 := HB3.trans (hb.mono HB3.size)
  have A0_4 := A0_3.below hb
  clear A0_3
  have A1_4 := A1_3.below hb
  clear A1_3
  have BA0_3 := BA0_2.below hb
  clear BA0_2
  have BA1_2 := BA1_1.below hb
  clear BA1_1
  clear hb
  by_cases hsz1 : szV (sizeT xs1) (szV (sizeT xs0) 1048576) < 0
  · go_wp2
    go_ret
    exact ⟨rfl, HB4⟩
  have hle1 := szT_ok (Int.not_lt.1 hsz1) (by omega)
  obtain ⟨hn1, hl1, hk1⟩ := hle1
  have hnum1 : numT xs1 ≤ 1048576 := by unfold sizeT at hn1; omega
  obtain ⟨qBA00, qBA01⟩ := id BA0_3.now
  have qlBA0 : w.heap.size < w4.heap.size := by have := BA0_3.le; omega
  obtain ⟨qBA10, qBA11⟩ := id BA1_2.now
  have qlBA1 : w.heap.size + 1 < w4.heap.size := by have := BA1_2.le; omega
  go_wp2_with fail
  have hb : Below w4.heap.size w4 w4.drew := (Below.refl _ _).drew
  have HBeS := HB4.trans (hb.mono HB4.size)
  have hseS := hb.size
  have A0_5 := A0_4.below hb
  clear A0_4
  have A1_5 := A1_4.below hb
  clear A1_4
  have BA0_4 := BA0_3.below hb
  clear BA0_3
  have BA1_3 := BA1_2.below hb
  clear BA1_2
  clear hb
  obtain ⟨qBA00, qBA01⟩ := id BA0_4.now
  have qlBA0 : w.heap.size < w4.heap.size := by have := BA0_4.le; omega
  obtain ⟨qBA10, qBA11⟩ := id BA1_3.now
  have qlBA1 : w.heap.size + 1 < w4.heap.size := by have := BA1_3.le; omega
  go_region_held3 (fun w' => w'.cell? ⟨w.heap.size, 0, none⟩ = some (.int .i64 m0) ∧ w'.cell? ⟨w.heap.size, 1, none⟩ = some (.slice o0 xs0.length c0) ∧ w'.cell? ⟨w.heap.size + 1, 0, none⟩ = some (.int .i64 m1) ∧ w'.cell? ⟨w.heap.size + 1, 1, none⟩ = some (.slice o1 xs1.length c1)) (go_keep)
    (first
      | (go_at_call_of 6 (Value.agg #[.int .i64 m0, .slice o0 xs0.length c0]); refine (toPlane_c _ _ xs0 _ A0_5.now.rd hn0).mono ?_; rintro e w5 ⟨vS0, rfl, ho, hb⟩; obtain ⟨oS0, cS0, rfl⟩ := ho.shape; have hs5 := hb.size; have HB5 := HBeS.trans (hb.mono HBeS.size); have A0_6 := A0_5.below hb; clear A0_5; have A1_6 := A1_5.below hb; clear A1_5; have BA0_5 := BA0_4.below hb; clear BA0_4; have BA1_4 := BA1_3.below hb; clear BA1_3; have Cs0_0 := Lives.owS ho hs5; clear ho hb; obtain ⟨qBA00, qBA01⟩ := id BA0_5.now; obtain ⟨qBA10, qBA11⟩ := id BA1_4.now)
      | (go_at_call_of 6 (Value.agg #[.int .i64 m1, .slice o1 xs1.length c1]); refine (toPlane_c _ _ xs1 _ A1_6.now.rd hn1).mono ?_; rintro e w6 ⟨vS1, rfl, ho, hb⟩; obtain ⟨oS1, cS1, rfl⟩ := ho.shape; have hs6 := hb.size; have HB6 := HB5.trans (hb.mono HB5.size); have A0_7 := A0_6.below hb; clear A0_6; have A1_7 := A1_6.below hb; clear A1_6; have BA0_6 := BA0_5.below hb; clear BA0_5; have BA1_5 := BA1_4.below hb; clear BA1_4; have Cs0_1 := Cs0_0.below hb; clear Cs0_0; have Cs1_0 := Lives.owS ho hs6; clear ho hb; obtain ⟨qBA00, qBA01⟩ := id BA0_6.now; obtain ⟨qBA10, qBA11⟩ := id BA1_5.now)
      | (go_at_call 5; refine (HS.out _ _ _ (Cs0_1.now.rd) (Cs1_0.now.rd)).mono ?_; rintro e w7 ⟨vS, rfl, ho, hb, hlen⟩; obtain ⟨oS, cS, rfl⟩ := ho.shape; have hs7 := hb.size; have HB7 := HB6.trans (hb.mono HB6.size); have A0_8 := A0_7.below hb; clear A0_7; have A1_8 := A1_7.below hb; clear A1_7; have BA0_7 := BA0_6.below hb; clear BA0_6; have BA1_6 := BA1_5.below hb; clear BA1_5; have Cs0_2 := Cs0_1.below hb; clear Cs0_1; have Cs1_1 := Cs1_0.below hb; clear Cs1_0; have S_0 := Lives.rdsM ho; clear ho hb; obtain ⟨qBA00, qBA01⟩ := id BA0_7.now; obtain ⟨qBA10, qBA11⟩ := id BA1_6.now))
  go_wp2_with fail
  refine (toPlane_c _ _ xs0 _ A0_8.now.rd hn0).mono ?_
  rintro e w8 ⟨vx0, rfl, ho, hb⟩
  have hs8 := hb.size
  have HB8 := HB7.trans (hb.mono HB7.size)
  have A0_9 := A0_8.below hb
  clear A0_8
  have A1_9 := A1_8.below hb
  clear A1_8
  have BA0_8 := BA0_7.below hb
  clear BA0_7
  have BA1_7 := BA1_6.below hb
  clear BA1_6
  have S_1 := S_0.below hb
  clear S_0
  clear hb
  obtain ⟨ox0, cx0, rfl⟩ := ho.shape
  have X0_0 := Lives.owS ho hs8
  clear ho
  obtain ⟨qBA10, qBA11⟩ := id BA1_7.now
  have qlBA1 : w.heap.size + 1 < w8.heap.size := by have := BA1_7.le; omega
  go_wp2_with fail
  have hb : Below w8.heap.size w8 (w8.alloc (.cells #[.int .i64 m0, .slice ox0 xs0.length cx0] 29)) := (by (repeat (first | exact bR _ _ | (refine bS ?_ _) | (refine bA ?_ _) | (refine bN ?_ _) | (refine bD ?_))))
  have hz : (w8.alloc (.cells #[.int .i64 m0, .slice ox0 xs0.length cx0] 29)).heap.size = w8.heap.size + 1 := by simp
  have HB9 := HB8.trans (hb.mono HB8.size)
  have A0_10 := A0_9.below hb
  clear A0_9
  have A1_10 := A1_9.below hb
  clear A1_9
  have BA0_9 := BA0_8.below hb
  clear BA0_8
  have BA1_8 := BA1_7.below hb
  clear BA1_7
  have S_2 := S_1.below hb
  clear S_1
  have X0_1 := X0_0.below hb
  clear X0_0
  have BX0_0 := Lives.box2 w8 (.int .i64 m0) (.slice ox0 xs0.length cx0) 29
  clear hb
  generalize w8.alloc (.cells #[.int .i64 m0, .slice ox0 xs0.length cx0] 29) = w9 at A0_10 A1_10 BA0_9 BA1_8 S_2 X0_1 BX0_0 hz HB9 ⊢
  have hlt9 : w8.heap.size < w9.heap.size := by omega
  clear hz
  refine (toPlane_c _ _ xs1 _ A1_10.now.rd hn1).mono ?_
  rintro e w10 ⟨vx1, rfl, ho, hb⟩
  have hs10 := hb.size
  have HB10 := HB9.trans (hb.mono HB9.size)
  have A0_11 := A0_10.below hb
  clear A0_10
  have A1_11 := A1_10.below hb
  clear A1_10
  have BA0_10 := BA0_9.below hb
  clear BA0_9
  have BA1_9 := BA1_8.below hb
  clear BA1_8
  have S_3 := S_2.below hb
  clear S_2
  have X0_2 := X0_1.below hb
  clear X0_1
  have BX0_1 := BX0_0.below hb
  clear BX0_0
  clear hb
  obtain ⟨ox1, cx1, rfl⟩ := ho.shape
  have X1_0 := Lives.owS ho hs10
  clear ho
  obtain ⟨qBX00, qBX01⟩ := id BX0_1.now
  have qlBX0 : w8.heap.size < w10.heap.size := by have := BX0_1.le; omega
  go_wp2_with fail
  have hb : Below w10.heap.size w10 (w10.alloc (.cells #[.int .i64 m1, .slice ox1 xs1.length cx1] 29)) := (by (repeat (first | exact bR _ _ | (refine bS ?_ _) | (refine bA ?_ _) | (refine bN ?_ _) | (refine bD ?_))))
  have hz : (w10.alloc (.cells #[.int .i64 m1, .slice ox1 xs1.length cx1] 29)).heap.size = w10.heap.size + 1 := by simp
  have HB11 := HB10.trans (hb.mono HB10.size)
  have A0_12 := A0_11.below hb
  clear A0_11
  have A1_12 := A1_11.below hb
  clear A1_11
  have BA0_11 := BA0_10.below hb
  clear BA0_10
  have BA1_10 := BA1_9.below hb
  clear BA1_9
  have S_4 := S_3.below hb
  clear S_3
  have X0_3 := X0_2.below hb
  clear X0_2
  have BX0_2 := BX0_1.below hb
  clear BX0_1
  have X1_1 := X1_0.below hb
  clear X1_0
  have BX1_0 := Lives.box2 w10 (.int .i64 m1) (.slice ox1 xs1.length cx1) 29
  clear hb
  generalize w10.alloc (.cells #[.int .i64 m1, .slice ox1 xs1.length cx1] 29) = w11 at A0_12 A1_12 BA0_11 BA1_10 S_4 X0_3 BX0_2 X1_1 BX1_0 hz HB11 ⊢
  have hlt11 : w10.heap.size < w11.heap.size := by omega
  clear hz
  refine (HI.out _ _ _ (X0_3.now.rd) (X1_1.now.rd)).mono ?_
  rintro e w12 ⟨vG, rfl, ho, hb, hlen⟩
  have hs12 := hb.size
  have HB12 := HB11.trans (hb.mono HB11.size)
  have A0_13 := A0_12.below hb
  clear A0_12
  have A1_13 := A1_12.below hb
  clear A1_12
  have BA0_12 := BA0_11.below hb
  clear BA0_11
  have BA1_11 := BA1_10.below hb
  clear BA1_10
  have S_5 := S_4.below hb
  clear S_4
  have X0_4 := X0_3.below hb
  clear X0_3
  have BX0_3 := BX0_2.below hb
  clear BX0_2
  have X1_2 := X1_1.below hb
  clear X1_1
  have BX1_1 := BX1_0.below hb
  clear BX1_0
  clear hb
  obtain ⟨oG, cG, rfl⟩ := ho.shape
  have G_0 := Lives.owP ho hs12
  clear ho
  have hq : (r.code != r.code) = false := by simp
  go_wp2_with fail
  clear hq
  have hq : (r.code != r.code) = false := by simp
  refine (eqSeriesS_c  _ _ r.xs r.xs _ G_0.now.rd S_5.now.rd).mono ?_
  rw [eqQB_self]
  rintro e w13 ⟨rfl, hb⟩
  have hs13 := hb.size
  have HB13 := HB12.trans (hb.mono HB12.size)
  have A0_14 := A0_13.below hb
  clear A0_13
  have A1_14 := A1_13.below hb
  clear A1_13
  have BA0_13 := BA0_12.below hb
  clear BA0_12
  have BA1_12 := BA1_11.below hb
  clear BA1_11
  have S_6 := S_5.below hb
  clear S_5
  have X0_5 := X0_4.below hb
  clear X0_4
  have BX0_4 := BX0_3.below hb
  clear BX0_3
  have X1_3 := X1_2.below hb
  clear X1_2
  have BX1_2 := BX1_1.below hb
  clear BX1_1
  have G_1 := G_0.below hb
  clear G_0
  clear hb
  go_wp2_with fail
  have hb : Below w13.heap.size w13 w13.drew := (Below.refl _ _).drew
  have HBd0 := HB13.trans (hb.mono HB13.size)
  have hsd0 := hb.size
  have A0_15 := A0_14.below hb
  clear A0_14
  have A1_15 := A1_14.below hb
  clear A1_14
  have BA0_14 := BA0_13.below hb
  clear BA0_13
  have BA1_13 := BA1_12.below hb
  clear BA1_12
  have S_7 := S_6.below hb
  clear S_6
  have X0_6 := X0_5.below hb
  clear X0_5
  have BX0_5 := BX0_4.below hb
  clear BX0_4
  have X1_4 := X1_3.below hb
  clear X1_3
  have BX1_3 := BX1_2.below hb
  clear BX1_2
  have G_2 := G_1.below hb
  clear G_1
  clear hb
  obtain ⟨qBA00, qBA01⟩ := id BA0_14.now
  have qlBA0 : w.heap.size < w13.heap.size := by have := BA0_14.le; omega
  obtain ⟨qBX00, qBX01⟩ := id BX0_5.now
  have qlBX0 : w8.heap.size < w13.heap.size := by have := BX0_5.le; omega
  go_region_held3 (fun w' => w'.cell? ⟨w.heap.size, 0, none⟩ = some (.int .i64 m0) ∧ w'.cell? ⟨w.heap.size, 1, none⟩ = some (.slice o0 xs0.length c0) ∧ w'.cell? ⟨w8.heap.size, 0, none⟩ = some (.int .i64 m0) ∧ w'.cell? ⟨w8.heap.size, 1, none⟩ = some (.slice ox0 xs0.length cx0)) (go_keep)
    (first
      | (go_at_call 6; refine (toPlane_c _ _ xs0 _ A0_15.now.rd hn0).mono ?_; rintro e w14 ⟨vy0, rfl, ho, hb⟩; have hs14 := hb.size; have HB14 := HBd0.trans (hb.mono HBd0.size); have A0_16 := A0_15.below hb; clear A0_15; have A1_16 := A1_15.below hb; clear A1_15; have BA0_15 := BA0_14.below hb; clear BA0_14; have BA1_14 := BA1_13.below hb; clear BA1_13; have S_8 := S_7.below hb; clear S_7; have X0_7 := X0_6.below hb; clear X0_6; have BX0_6 := BX0_5.below hb; clear BX0_5; have X1_5 := X1_4.below hb; clear X1_4; have BX1_4 := BX1_3.below hb; clear BX1_3; have G_3 := G_2.below hb; clear G_2; have Y0_0 := Lives.owS ho hs14; clear ho hb; obtain ⟨qBA00, qBA01⟩ := id BA0_15.now; obtain ⟨qBX00, qBX01⟩ := id BX0_6.now)
      | (go_at_call 9; refine (eqPlane_c _ _ _ _ xs0 xs0 _ X0_7.now.rd Y0_0.now.rd).mono ?_; rw [eqPB_self]; rintro e w15 ⟨rfl, hb⟩; have hs15 := hb.size; have HB15 := HB14.trans (hb.mono HB14.size); have A0_17 := A0_16.below hb; clear A0_16; have A1_17 := A1_16.below hb; clear A1_16; have BA0_16 := BA0_15.below hb; clear BA0_15; have BA1_15 := BA1_14.below hb; clear BA1_14; have S_9 := S_8.below hb; clear S_8; have X0_8 := X0_7.below hb; clear X0_7; have BX0_7 := BX0_6.below hb; clear BX0_6; have X1_6 := X1_5.below hb; clear X1_5; have BX1_5 := BX1_4.below hb; clear BX1_4; have G_4 := G_3.below hb; clear G_3; clear hb; obtain ⟨qBA00, qBA01⟩ := id BA0_16.now; obtain ⟨qBX00, qBX01⟩ := id BX0_7.now))
  go_wp2_with fail
  have hb : Below w15.heap.size w15 w15.drew := (Below.refl _ _).drew
  have HBd1 := HB15.trans (hb.mono HB15.size)
  have hsd1 := hb.size
  have A0_18 := A0_17.below hb
  clear A0_17
  have A1_18 := A1_17.below hb
  clear A1_17
  have BA0_17 := BA0_16.below hb
  clear BA0_16
  have BA1_16 := BA1_15.below hb
  clear BA1_15
  have S_10 := S_9.below hb
  clear S_9
  have X0_9 := X0_8.below hb
  clear X0_8
  have BX0_8 := BX0_7.below hb
  clear BX0_7
  have X1_7 := X1_6.below hb
  clear X1_6
  have BX1_6 := BX1_5.below hb
  clear BX1_5
  have G_5 := G_4.below hb
  clear G_4
  clear hb
  obtain ⟨qBA10, qBA11⟩ := id BA1_16.now
  have qlBA1 : w.heap.size + 1 < w15.heap.size := by have := BA1_16.le; omega
  obtain ⟨qBX10, qBX11⟩ := id BX1_6.now
  have qlBX1 : w10.heap.size < w15.heap.size := by have := BX1_6.le; omega
  go_region_held3 (fun w' => w'.cell? ⟨w.heap.size + 1, 0, none⟩ = some (.int .i64 m1) ∧ w'.cell? ⟨w.heap.size + 1, 1, none⟩ = some (.slice o1 xs1.length c1) ∧ w'.cell? ⟨w10.heap.size, 0, none⟩ = some (.int .i64 m1) ∧ w'.cell? ⟨w10.heap.size, 1, none⟩ = some (.slice ox1 xs1.length cx1)) (go_keep)
    (first
      | (go_at_call 6; refine (toPlane_c _ _ xs1 _ A1_18.now.rd hn1).mono ?_; rintro e w16 ⟨vy1, rfl, ho, hb⟩; have hs16 := hb.size; have HB16 := HBd1.trans (hb.mono HBd1.size); have A0_19 := A0_18.below hb; clear A0_18; have A1_19 := A1_18.below hb; clear A1_18; have BA0_18 := BA0_17.below hb; clear BA0_17; have BA1_17 := BA1_16.below hb; clear BA1_16; have S_11 := S_10.below hb; clear S_10; have X0_10 := X0_9.below hb; clear X0_9; have BX0_9 := BX0_8.below hb; clear BX0_8; have X1_8 := X1_7.below hb; clear X1_7; have BX1_7 := BX1_6.below hb; clear BX1_6; have G_6 := G_5.below hb; clear G_5; have Y1_0 := Lives.owS ho hs16; clear ho hb; obtain ⟨qBA10, qBA11⟩ := id BA1_17.now; obtain ⟨qBX10, qBX11⟩ := id BX1_7.now)
      | (go_at_call 9; refine (eqPlane_c _ _ _ _ xs1 xs1 _ X1_8.now.rd Y1_0.now.rd).mono ?_; rw [eqPB_self]; rintro e w17 ⟨rfl, hb⟩; have hs17 := hb.size; have HB17 := HB16.trans (hb.mono HB16.size); have A0_20 := A0_19.below hb; clear A0_19; have A1_20 := A1_19.below hb; clear A1_19; have BA0_19 := BA0_18.below hb; clear BA0_18; have BA1_18 := BA1_17.below hb; clear BA1_17; have S_12 := S_11.below hb; clear S_11; have X0_11 := X0_10.below hb; clear X0_10; have BX0_10 := BX0_9.below hb; clear BX0_9; have X1_9 := X1_8.below hb; clear X1_8; have BX1_8 := BX1_7.below hb; clear BX1_7; have G_7 := G_6.below hb; clear G_6; clear hb; obtain ⟨qBA10, qBA11⟩ := id BA1_18.now; obtain ⟨qBX10, qBX11⟩ := id BX1_8.now))
  obtain ⟨qBX00, qBX01⟩ := id BX0_10.now
  have qlBX0 : w8.heap.size < w17.heap.size := by have := BX0_10.le; omega
  go_wp2_with fail
  refine (markPlane_c _ _ xs0 (1) _ _ _ X0_11.now X0_11.le (by omega) (by omega) (by omega)).mono ?_
  rintro e w18 ⟨rfl, ho, hc⟩
  have hs18 := hc.size
  have HB18 := Chg.below HB17 hc (by have := HB17.size; omega) (by have := HB17.size; omega)
  have A0_21 := A0_20.chg hc (by omega)
  clear A0_20
  have A1_21 := A1_20.chg hc (by omega)
  clear A1_20
  have BA0_20 := BA0_19.chg hc (by omega)
  clear BA0_19
  have BA1_19 := BA1_18.chg hc (by omega)
  clear BA1_18
  have S_13 := S_12.chg hc (by omega)
  clear S_12
  have BX0_11 := BX0_10.chg hc (by omega)
  clear BX0_10
  have X1_10 := X1_9.chg hc (by omega)
  clear X1_9
  have BX1_9 := BX1_8.chg hc (by omega)
  clear BX1_8
  have G_8 := G_7.chg hc (by omega)
  clear G_7
  have X0_12 := Lives.markedT X0_11 ho hc
  clear X0_11 hc ho
  obtain ⟨qBX10, qBX11⟩ := id BX1_9.now
  have qlBX1 : w10.heap.size < w18.heap.size := by have := BX1_9.le; omega
  go_wp2_with fail
  refine (markPlane_c _ _ xs1 (1 + (numT xs0 : Nat)) _ _ _ X1_10.now X1_10.le (by omega) (by omega) (by omega)).mono ?_
  rintro e w19 ⟨rfl, ho, hc⟩
  have hs19 := hc.size
  have HB19 := Chg.below HB18 hc (by have := HB18.size; omega) (by have := HB18.size; omega)
  have A0_22 := A0_21.chg hc (by omega)
  clear A0_21
  have A1_22 := A1_21.chg hc (by omega)
  clear A1_21
  have BA0_21 := BA0_20.chg hc (by omega)
  clear BA0_20
  have BA1_20 := BA1_19.chg hc (by omega)
  clear BA1_19
  have S_14 := S_13.chg hc (by omega)
  clear S_13
  have X0_13 := X0_12.chg hc (by omega)
  clear X0_12
  have BX0_12 := BX0_11.chg hc (by omega)
  clear BX0_11
  have BX1_10 := BX1_9.chg hc (by omega)
  clear BX1_9
  have G_9 := G_8.chg hc (by omega)
  clear G_8
  have X1_11 := Lives.markedT X1_10 ho hc
  clear X1_10 hc ho
  have hq : (r.code != r.code) = false := by simp
  go_wp2_with fail
  clear hq
  have hq : (r.code != r.code) = false := by simp
  refine (eqSeriesS_c  _ _ r.xs r.xs _ G_9.now.rd S_14.now.rd).mono ?_
  rw [eqQB_self]
  rintro e w20 ⟨rfl, hb⟩
  have hs20 := hb.size
  have HB20 := HB19.trans (hb.mono HB19.size)
  have A0_23 := A0_22.below hb
  clear A0_22
  have A1_23 := A1_22.below hb
  clear A1_22
  have BA0_22 := BA0_21.below hb
  clear BA0_21
  have BA1_21 := BA1_20.below hb
  clear BA1_20
  have S_15 := S_14.below hb
  clear S_14
  have X0_14 := X0_13.below hb
  clear X0_13
  have BX0_13 := BX0_12.below hb
  clear BX0_12
  have X1_12 := X1_11.below hb
  clear X1_11
  have BX1_11 := BX1_10.below hb
  clear BX1_10
  have G_10 := G_9.below hb
  clear G_9
  clear hb
  go_wp2_with fail
  refine (markSeriesS_c _ r.xs (1) _ _ _ G_10.now G_10.le (by omega) (by omega) (by omega)).mono ?_
  rintro e w21 ⟨rfl, ho, hc⟩
  have hs21 := hc.size
  have HB21 := Chg.below HB20 hc (by have := HB20.size; omega) (by have := HB20.size; omega)
  have A0_24 := A0_23.chg hc (by omega)
  clear A0_23
  have A1_24 := A1_23.chg hc (by omega)
  clear A1_23
  have BA0_23 := BA0_22.chg hc (by omega)
  clear BA0_22
  have BA1_22 := BA1_21.chg hc (by omega)
  clear BA1_21
  have S_16 := S_15.chg hc (by omega)
  clear S_15
  have X0_15 := X0_14.chg hc (by omega)
  clear X0_14
  have BX0_14 := BX0_13.chg hc (by omega)
  clear BX0_13
  have X1_13 := X1_12.chg hc (by omega)
  clear X1_12
  have BX1_12 := BX1_11.chg hc (by omega)
  clear BX1_11
  have G_11 := Lives.markedP G_10 ho hc
  clear G_10 hc ho
  go_wp2_with fail
  refine (heldSeriesS_c _ r.xs 1 _ (G_11.now.rd) (by omega) (by omega) (by omega)).mono ?_
  rintro e w22 ⟨rfl, hb⟩
  have hs22 := hb.size
  have HB22 := HB21.trans (hb.mono HB21.size)
  have A0_25 := A0_24.below hb
  clear A0_24
  have A1_25 := A1_24.below hb
  clear A1_24
  have BA0_24 := BA0_23.below hb
  clear BA0_23
  have BA1_23 := BA1_22.below hb
  clear BA1_22
  have S_17 := S_16.below hb
  clear S_16
  have X0_16 := X0_15.below hb
  clear X0_15
  have BX0_15 := BX0_14.below hb
  clear BX0_14
  have X1_14 := X1_13.below hb
  clear X1_13
  have BX1_13 := BX1_12.below hb
  clear BX1_12
  have G_12 := G_11.below hb
  clear G_11
  clear hb
  obtain ⟨qBA00, qBA01⟩ := id BA0_24.now
  have qlBA0 : w.heap.size < w22.heap.size := by have := BA0_24.le; omega
  obtain ⟨qBA10, qBA11⟩ := id BA1_23.now
  have qlBA1 : w.heap.size + 1 < w22.heap.size := by have := BA1_23.le; omega
  go_wp2_with fail
  have hb : Below w22.heap.size w22 w22.drew := (Below.refl _ _).drew
  have HBeH := HB22.trans (hb.mono HB22.size)
  have hseH := hb.size
  have A0_26 := A0_25.below hb
  clear A0_25
  have A1_26 := A1_25.below hb
  clear A1_25
  have BA0_25 := BA0_24.below hb
  clear BA0_24
  have BA1_24 := BA1_23.below hb
  clear BA1_23
  have S_18 := S_17.below hb
  clear S_17
  have G_13 := G_12.below hb
  clear G_12
  clear hb
  obtain ⟨qBA00, qBA01⟩ := id BA0_25.now
  have qlBA0 : w.heap.size < w22.heap.size := by have := BA0_25.le; omega
  obtain ⟨qBA10, qBA11⟩ := id BA1_24.now
  have qlBA1 : w.heap.size + 1 < w22.heap.size := by have := BA1_24.le; omega
  go_region_held3 (fun w' => w'.cell? ⟨w.heap.size, 0, none⟩ = some (.int .i64 m0) ∧ w'.cell? ⟨w.heap.size, 1, none⟩ = some (.slice o0 xs0.length c0) ∧ w'.cell? ⟨w.heap.size + 1, 0, none⟩ = some (.int .i64 m1) ∧ w'.cell? ⟨w.heap.size + 1, 1, none⟩ = some (.slice o1 xs1.length c1)) (go_keep)
    (first
      | (go_at_call_of 6 (Value.agg #[.int .i64 m0, .slice o0 xs0.length c0]); refine (toPlane_c _ _ xs0 _ A0_26.now.rd hn0).mono ?_; rintro e w23 ⟨vH0, rfl, ho, hb⟩; obtain ⟨oH0, cH0, rfl⟩ := ho.shape; have hs23 := hb.size; have HB23 := HBeH.trans (hb.mono HBeH.size); have A0_27 := A0_26.below hb; clear A0_26; have A1_27 := A1_26.below hb; clear A1_26; have BA0_26 := BA0_25.below hb; clear BA0_25; have BA1_25 := BA1_24.below hb; clear BA1_24; have S_19 := S_18.below hb; clear S_18; have G_14 := G_13.below hb; clear G_13; have Ch0_0 := Lives.owS ho hs23; clear ho hb; obtain ⟨qBA00, qBA01⟩ := id BA0_26.now; obtain ⟨qBA10, qBA11⟩ := id BA1_25.now)
      | (go_at_call_of 6 (Value.agg #[.int .i64 m1, .slice o1 xs1.length c1]); refine (toPlane_c _ _ xs1 _ A1_27.now.rd hn1).mono ?_; rintro e w24 ⟨vH1, rfl, ho, hb⟩; obtain ⟨oH1, cH1, rfl⟩ := ho.shape; have hs24 := hb.size; have HB24 := HB23.trans (hb.mono HB23.size); have A0_28 := A0_27.below hb; clear A0_27; have A1_28 := A1_27.below hb; clear A1_27; have BA0_27 := BA0_26.below hb; clear BA0_26; have BA1_26 := BA1_25.below hb; clear BA1_25; have S_20 := S_19.below hb; clear S_19; have G_15 := G_14.below hb; clear G_14; have Ch0_1 := Ch0_0.below hb; clear Ch0_0; have Ch1_0 := Lives.owS ho hs24; clear ho hb; obtain ⟨qBA00, qBA01⟩ := id BA0_27.now; obtain ⟨qBA10, qBA11⟩ := id BA1_26.now)
      | (go_at_call 7; refine (HI.out _ _ _ (Ch0_1.now.rd) (Ch1_0.now.rd)).mono ?_; rintro e w25 ⟨vH, rfl, ho, hb, hlen⟩; obtain ⟨oH, cH, rfl⟩ := ho.shape; have hs25 := hb.size; have HB25 := HB24.trans (hb.mono HB24.size); have A0_29 := A0_28.below hb; clear A0_28; have A1_29 := A1_28.below hb; clear A1_28; have BA0_28 := BA0_27.below hb; clear BA0_27; have BA1_27 := BA1_26.below hb; clear BA1_26; have S_21 := S_20.below hb; clear S_20; have G_16 := G_15.below hb; clear G_15; have Ch0_2 := Ch0_1.below hb; clear Ch0_1; have Ch1_1 := Ch1_0.below hb; clear Ch1_0; have H_0 := Lives.owP ho hs25; clear ho hb; obtain ⟨qBA00, qBA01⟩ := id BA0_28.now; obtain ⟨qBA10, qBA11⟩ := id BA1_27.now))
  have hq : (r.code != r.code) = false := by simp
  go_wp2_with fail
  clear hq
  have hq : (r.code != r.code) = false := by simp
  refine (eqSeriesS_c  _ _ r.xs r.xs _ H_0.now.rd S_21.now.rd).mono ?_
  rw [eqQB_self]
  rintro e w26 ⟨rfl, hb⟩
  have hs26 := hb.size
  have HB26 := HB25.trans (hb.mono HB25.size)
  have A0_30 := A0_29.below hb
  clear A0_29
  have A1_30 := A1_29.below hb
  clear A1_29
  have BA0_29 := BA0_28.below hb
  clear BA0_28
  have BA1_28 := BA1_27.below hb
  clear BA1_27
  have S_22 := S_21.below hb
  clear S_21
  have G_17 := G_16.below hb
  clear G_16
  have H_1 := H_0.below hb
  clear H_0
  clear hb
  go_wp2_with fail
  refine (heldSeriesS_c _ r.xs 1 _ (G_17.now.rd) (by omega) (by omega) (by omega)).mono ?_
  rintro e w27 ⟨rfl, hb⟩
  have hs27 := hb.size
  have HB27 := HB26.trans (hb.mono HB26.size)
  have A0_31 := A0_30.below hb
  clear A0_30
  have A1_31 := A1_30.below hb
  clear A1_30
  have BA0_30 := BA0_29.below hb
  clear BA0_29
  have BA1_29 := BA1_28.below hb
  clear BA1_28
  have S_23 := S_22.below hb
  clear S_22
  have G_18 := G_17.below hb
  clear G_17
  have H_2 := H_1.below hb
  clear H_1
  clear hb
  go_wp2
  go_ret
  exact ⟨rfl, HB27⟩

set_option maxRecDepth 100000 in
theorem AllHomomorphisms_lifted (os : Os) (started : os.Started) (H : Type) (enc : TypeId × Value → H) :
    ReturnsInHanded {} Try.checked os 3 .any (Rows.fnExactAllHomomorphismsSpec.pre6 enc Try.prog Try.f3 Rows.fnExactAllHomomorphismsRow.domain false) (Rows.fnExactAllHomomorphismsSpec.post enc Try.prog Try.f3 false true false false) := by
  refine returnsInHanded_of_change (C := Try.checked) Try.own started (by kernel_rfl) Try.func3
    (ChangeSpec.witness6 (enc := enc) (C := Try.checked) false ⟨#[], #[.agg #[.int .i64 0, .slice none 0 0], .agg #[.int .i64 0, .slice none 0 0]], []⟩ 8 (by kernel_rfl) (by kernel_rfl) (by kernel_rfl) (by kernel_rfl)) ?_
  intro W base args ds gs before hval0 hW _ _
  have hval : ∀ (j : Nat) t v, Try.f3.params[j]? = some t → args[j]? = some v → Value.okWide Try.prog W .any base t v := hval0
  have hW' := hW
  obtain ⟨p, q, hA0, hV, rfl, _, _⟩ := hW
  have hA : DataW.TrodAll enc Try.prog W 0 (fun _ => true) true Try.f3.params.toList args.toList ds p := hA0
  rw [Try.params3] at hA hval
  have hAk := hA
  obtain ⟨rfl, rfl⟩ := trodVars_none hV
  obtain ⟨v0, v1, d0, d1, p0, p1, rfl, rfl, hp, h0, h1⟩ := trodAll_two hA
  obtain ⟨m0, u0, xs0, rfl, r0⟩ := open_plane (hval 0 24 v0 rfl rfl) h0
  obtain ⟨m1, u1, xs1, rfl, r1⟩ := open_plane (hval 1 24 v1 rfl rfl) h1
  clear hA0 hval0
  simp only [List.append_nil] at hW'
  refine (FnExactAllHomomorphisms_c m0 u0 xs0 m1 u1 xs1 W r0 r1).mono fun e W' ⟨he, hb⟩ => ?_
  subst he
  refine ⟨_, rfl, _, _, _, [], p, [], hW', ?_, ?_, rfl, hb.frame _, fun h => by cases h⟩
  · exact trodAll_mk1 (shut_bool Try.underlying4 true)
  · exact trodAll_below Try.laidOut (by kernel_rfl) hAk hb (fun x hx => by simpa using hW'.lt x hx)

theorem AllHomomorphisms_holds : Rows.FnExactAllHomomorphismsSaid :=
  OpenClaim.holds_of_wide 3 Try.f3 rfl rfl rfl rfl rfl rfl rfl ⟨rfl, rfl, rfl, rfl, rfl⟩ rfl rfl rfl rfl rfl (by kernel_rfl) Try.func3 (by kernel_rfl)
    (of_decide_eq_true (by kernel_rfl)) (by unfold Func.isWrapper; rw [if_neg (of_decide_eq_false (by kernel_rfl))]; exact ⟨rfl, rfl⟩)
    (fun os started H enc _ => AllHomomorphisms_lifted os started H enc)

#print axioms AllHomomorphisms_holds
end Go.Proofs.Ytfpphfjlpgefaaa
