/- The law on MultipleByLogarithm: for every input the program and the reference agree. No condition. -/
import Derived.Test.YtdnkadlondediaaMul
import Derived.Test.YtdnkadlondediaaG2
import Derived.Test.YtdnkadlondediaaEnd
import Derived.Deep.RegionHeld3
set_option linter.unusedSimpArgs false
set_option linter.unusedVariables false
namespace Go.Proofs.Ytdnkadlondediaa
open Go.RowKit
open Go.ChangeShapes Go.WideShapes Go.ChangeAt Go.Joins

set_option maxHeartbeats 4000000 in
set_option maxRecDepth 100000 in
theorem FnExactMultipleByLogarithm_c (m0 : Int) (v0 : Value) (xs0 : List (List Int)) (a1 : Int) (w : World) (hv0 : RdT w v0 xs0) :
    Calls Try.prog 4 #[.agg #[.int .i64 m0, v0], .int .i64 a1] w fun e w' => e = .returned (.bool true) ∧ Below w.heap.size w w' := by
  obtain ⟨o0, c0, rfl, hm0, hz0⟩ := id hv0
  clear hz0
  have HS := Lib.hid (fun (u : World) (u0 : Value) (k0 : RdT u u0 xs0) => sMultipleByLogarithm_c m0 u0 xs0 a1 u k0)
  have HI := Lib.hid (fun (u : World) (u0 : Value) (k0 : RdT u u0 xs0) => MultipleByLogarithm_c m0 u0 xs0 a1 u k0)
  generalize mulLR m0 xs0 a1 = r at HS HI
  have HB0 := Below.refl w.heap.size w
  obtain ⟨us0, A0_0⟩ := Lives.rdT hv0
  go_enter Try.func4, Try.ntmps4
  go_wp2_with fail
  have hb : Below w.heap.size w (w.alloc (.cells #[.int .i64 m0, .slice o0 xs0.length c0] 24)) := (by (repeat (first | exact Below.refl _ _ | (refine Below.setCell ?_ (by first | (simp; done) | (simp; omega) | omega) _) | (refine Below.alloc ?_ (by first | (simp; done) | (simp; omega) | omega) _) | (refine below_drewN ?_ _) | (refine Below.drew ?_))))
  have hz : (w.alloc (.cells #[.int .i64 m0, .slice o0 xs0.length c0] 24)).heap.size = w.heap.size + 1 := by simp
  have HB1 := HB0.trans (hb.mono HB0.size)
  have A0_1 := A0_0.below hb
  clear A0_0
  have BA0_0 := Lives.box2 w (.int .i64 m0) (.slice o0 xs0.length c0) 24
  clear hb
  generalize w.alloc (.cells #[.int .i64 m0, .slice o0 xs0.length c0] 24) = w1 at A0_1 BA0_0 hz HB1 ⊢
  have hlt1 : w.heap.size + 0 < w1.heap.size := by omega
  clear hz
  obtain ⟨qBA00, qBA01⟩ := id BA0_0.now
  have qlBA0 : w.heap.size < w1.heap.size := by have := BA0_0.le; omega
  refine (szPlane_c _ _ xs0 _ _ A0_1.now.rd (by omega) (by omega)).mono ?_
  rintro e w2 ⟨rfl, hb⟩
  have hs2 := hb.size
  have HB2 := HB1.trans (hb.mono HB1.size)
  have A0_2 := A0_1.below hb
  clear A0_1
  have BA0_1 := BA0_0.below hb
  clear BA0_0
  clear hb
  by_cases hsz0 : szV (sizeT xs0) 1048576 < 0
  · go_wp2
    go_ret
    exact ⟨rfl, HB2⟩
  have hle0 := szT_ok (Int.not_lt.1 hsz0) (by omega)
  obtain ⟨hn0, hl0, hk0⟩ := hle0
  have hnum0 : numT xs0 ≤ 1048576 := by unfold sizeT at hn0; omega
  obtain ⟨qBA00, qBA01⟩ := id BA0_1.now
  have qlBA0 : w.heap.size < w2.heap.size := by have := BA0_1.le; omega
  go_wp2_with fail
  refine (toPlane_c _ _ xs0 _ A0_2.now.rd hn0).mono ?_
  rintro e w3 ⟨vs0, rfl, ho, hb⟩
  have hs3 := hb.size
  have HB3 := HB2.trans (hb.mono HB2.size)
  have A0_3 := A0_2.below hb
  clear A0_2
  have BA0_2 := BA0_1.below hb
  clear BA0_1
  clear hb
  obtain ⟨os0, cs0, rfl⟩ := ho.shape
  have Cs0_0 := Lives.owS ho hs3
  clear ho
  go_wp2_with fail
  refine (HS.out _ _ (Cs0_0.now.rd)).mono ?_
  rintro e w4 ⟨vS, rfl, ho, hb, hlen⟩
  have hs4 := hb.size
  have HB4 := HB3.trans (hb.mono HB3.size)
  have A0_4 := A0_3.below hb
  clear A0_3
  have BA0_3 := BA0_2.below hb
  clear BA0_2
  have Cs0_1 := Cs0_0.below hb
  clear Cs0_0
  clear hb
  obtain ⟨oS, cS, rfl⟩ := ho.shape
  have S_0 := Lives.owR ho hs4
  clear ho
  obtain ⟨qBA00, qBA01⟩ := id BA0_3.now
  have qlBA0 : w.heap.size < w4.heap.size := by have := BA0_3.le; omega
  go_wp2_with fail
  have hb : Below w4.heap.size w4 (w4.alloc (.cells #[.int .i64 r.m, .slice oS r.xs.length cS] 34)) := (by (repeat (first | exact Below.refl _ _ | (refine Below.setCell ?_ (by first | (simp; done) | (simp; omega) | omega) _) | (refine Below.alloc ?_ (by first | (simp; done) | (simp; omega) | omega) _) | (refine below_drewN ?_ _) | (refine Below.drew ?_))))
  have hz : (w4.alloc (.cells #[.int .i64 r.m, .slice oS r.xs.length cS] 34)).heap.size = w4.heap.size + 1 := by simp
  have HB5 := HB4.trans (hb.mono HB4.size)
  have A0_5 := A0_4.below hb
  clear A0_4
  have BA0_4 := BA0_3.below hb
  clear BA0_3
  have Cs0_2 := Cs0_1.below hb
  clear Cs0_1
  have S_1 := S_0.below hb
  clear S_0
  have BS_0 := Lives.box2 w4 (.int .i64 r.m) (.slice oS r.xs.length cS) 34
  clear hb
  generalize w4.alloc (.cells #[.int .i64 r.m, .slice oS r.xs.length cS] 34) = w5 at A0_5 BA0_4 Cs0_2 S_1 BS_0 hz HB5 ⊢
  have hlt5 : w4.heap.size < w5.heap.size := by omega
  clear hz
  refine (toPlane_c _ _ xs0 _ A0_5.now.rd hn0).mono ?_
  rintro e w6 ⟨vx0, rfl, ho, hb⟩
  have hs6 := hb.size
  have HB6 := HB5.trans (hb.mono HB5.size)
  have A0_6 := A0_5.below hb
  clear A0_5
  have BA0_5 := BA0_4.below hb
  clear BA0_4
  have S_2 := S_1.below hb
  clear S_1
  have BS_1 := BS_0.below hb
  clear BS_0
  clear hb
  obtain ⟨ox0, cx0, rfl⟩ := ho.shape
  have X0_0 := Lives.owS ho hs6
  clear ho
  go_wp2_with fail
  have hb : Below w6.heap.size w6 (w6.alloc (.cells #[.int .i64 m0, .slice ox0 xs0.length cx0] 32)) := (by (repeat (first | exact Below.refl _ _ | (refine Below.setCell ?_ (by first | (simp; done) | (simp; omega) | omega) _) | (refine Below.alloc ?_ (by first | (simp; done) | (simp; omega) | omega) _) | (refine below_drewN ?_ _) | (refine Below.drew ?_))))
  have hz : (w6.alloc (.cells #[.int .i64 m0, .slice ox0 xs0.length cx0] 32)).heap.size = w6.heap.size + 1 := by simp
  have HB7 := HB6.trans (hb.mono HB6.size)
  have A0_7 := A0_6.below hb
  clear A0_6
  have BA0_6 := BA0_5.below hb
  clear BA0_5
  have S_3 := S_2.below hb
  clear S_2
  have BS_2 := BS_1.below hb
  clear BS_1
  have X0_1 := X0_0.below hb
  clear X0_0
  have BX0_0 := Lives.box2 w6 (.int .i64 m0) (.slice ox0 xs0.length cx0) 32
  clear hb
  generalize w6.alloc (.cells #[.int .i64 m0, .slice ox0 xs0.length cx0] 32) = w7 at A0_7 BA0_6 S_3 BS_2 X0_1 BX0_0 hz HB7 ⊢
  have hlt7 : w6.heap.size < w7.heap.size := by omega
  clear hz
  refine (HI.out _ _ (X0_1.now.rd)).mono ?_
  rintro e w8 ⟨vG, rfl, ho, hb, hlen⟩
  have hs8 := hb.size
  have HB8 := HB7.trans (hb.mono HB7.size)
  have A0_8 := A0_7.below hb
  clear A0_7
  have BA0_7 := BA0_6.below hb
  clear BA0_6
  have S_4 := S_3.below hb
  clear S_3
  have BS_3 := BS_2.below hb
  clear BS_2
  have X0_2 := X0_1.below hb
  clear X0_1
  have BX0_1 := BX0_0.below hb
  clear BX0_0
  clear hb
  obtain ⟨oG, cG, rfl⟩ := ho.shape
  have G_0 := Lives.owR ho hs8
  clear ho
  obtain ⟨qBS0, qBS1⟩ := id BS_3.now
  have qlBS : w4.heap.size < w8.heap.size := by have := BS_3.le; omega
  have hq : (r.code != r.code) = false := by simp
  go_wp2_with fail
  clear hq
  have hb : Below w8.heap.size w8 (w8.alloc (.cells #[.int .i64 r.m, .slice oG r.xs.length cG] 34)) := (by (repeat (first | exact Below.refl _ _ | (refine Below.setCell ?_ (by first | (simp; done) | (simp; omega) | omega) _) | (refine Below.alloc ?_ (by first | (simp; done) | (simp; omega) | omega) _) | (refine below_drewN ?_ _) | (refine Below.drew ?_))))
  have hz : (w8.alloc (.cells #[.int .i64 r.m, .slice oG r.xs.length cG] 34)).heap.size = w8.heap.size + 1 := by simp
  have HB9 := HB8.trans (hb.mono HB8.size)
  have A0_9 := A0_8.below hb
  clear A0_8
  have BA0_8 := BA0_7.below hb
  clear BA0_7
  have S_5 := S_4.below hb
  clear S_4
  have BS_4 := BS_3.below hb
  clear BS_3
  have X0_3 := X0_2.below hb
  clear X0_2
  have BX0_2 := BX0_1.below hb
  clear BX0_1
  have G_1 := G_0.below hb
  clear G_0
  have BG_0 := Lives.box2 w8 (.int .i64 r.m) (.slice oG r.xs.length cG) 34
  clear hb
  generalize w8.alloc (.cells #[.int .i64 r.m, .slice oG r.xs.length cG] 34) = w9 at A0_9 BA0_8 S_5 BS_4 X0_3 BX0_2 G_1 BG_0 hz HB9 ⊢
  have hlt9 : w8.heap.size < w9.heap.size := by omega
  clear hz
  have hq : (r.code != r.code) = false := by simp
  refine (eqSeries_c _   _   _ _ r.xs r.xs _ G_1.now.1.rd S_5.now.1.rd).mono ?_
  rw [eqSB_self]
  rintro e w10 ⟨rfl, hb⟩
  have hs10 := hb.size
  have HB10 := HB9.trans (hb.mono HB9.size)
  have A0_10 := A0_9.below hb
  clear A0_9
  have BA0_9 := BA0_8.below hb
  clear BA0_8
  have S_6 := S_5.below hb
  clear S_5
  have BS_5 := BS_4.below hb
  clear BS_4
  have X0_4 := X0_3.below hb
  clear X0_3
  have BX0_3 := BX0_2.below hb
  clear BX0_2
  have G_2 := G_1.below hb
  clear G_1
  have BG_1 := BG_0.below hb
  clear BG_0
  clear hb
  go_wp2_with fail
  have hb : Below w10.heap.size w10 w10.drew := (Below.refl _ _).drew
  have HBd0 := HB10.trans (hb.mono HB10.size)
  have hsd0 := hb.size
  have A0_11 := A0_10.below hb
  clear A0_10
  have BA0_10 := BA0_9.below hb
  clear BA0_9
  have S_7 := S_6.below hb
  clear S_6
  have BS_6 := BS_5.below hb
  clear BS_5
  have X0_5 := X0_4.below hb
  clear X0_4
  have BX0_4 := BX0_3.below hb
  clear BX0_3
  have G_3 := G_2.below hb
  clear G_2
  have BG_2 := BG_1.below hb
  clear BG_1
  clear hb
  obtain ⟨qBA00, qBA01⟩ := id BA0_10.now
  have qlBA0 : w.heap.size < w10.heap.size := by have := BA0_10.le; omega
  obtain ⟨qBX00, qBX01⟩ := id BX0_4.now
  have qlBX0 : w6.heap.size < w10.heap.size := by have := BX0_4.le; omega
  go_region_held3 (fun w' => w'.cell? ⟨w.heap.size, 0, none⟩ = some (.int .i64 m0) ∧ w'.cell? ⟨w.heap.size, 1, none⟩ = some (.slice o0 xs0.length c0) ∧ w'.cell? ⟨w6.heap.size, 0, none⟩ = some (.int .i64 m0) ∧ w'.cell? ⟨w6.heap.size, 1, none⟩ = some (.slice ox0 xs0.length cx0)) (go_keep)
    (first
      | (go_at_call 15; refine (toPlane_c _ _ xs0 _ A0_11.now.rd hn0).mono ?_; rintro e w11 ⟨vy0, rfl, ho, hb⟩; have hs11 := hb.size; have HB11 := HBd0.trans (hb.mono HBd0.size); have A0_12 := A0_11.below hb; clear A0_11; have BA0_11 := BA0_10.below hb; clear BA0_10; have S_8 := S_7.below hb; clear S_7; have BS_7 := BS_6.below hb; clear BS_6; have X0_6 := X0_5.below hb; clear X0_5; have BX0_5 := BX0_4.below hb; clear BX0_4; have G_4 := G_3.below hb; clear G_3; have BG_3 := BG_2.below hb; clear BG_2; have Y0_0 := Lives.owS ho hs11; clear ho hb; obtain ⟨qBA00, qBA01⟩ := id BA0_11.now; obtain ⟨qBX00, qBX01⟩ := id BX0_5.now)
      | (go_at_call 18; refine (eqPlane_c _ _ _ _ xs0 xs0 _ X0_6.now.rd Y0_0.now.rd).mono ?_; rw [eqPB_self]; rintro e w12 ⟨rfl, hb⟩; have hs12 := hb.size; have HB12 := HB11.trans (hb.mono HB11.size); have A0_13 := A0_12.below hb; clear A0_12; have BA0_12 := BA0_11.below hb; clear BA0_11; have S_9 := S_8.below hb; clear S_8; have BS_8 := BS_7.below hb; clear BS_7; have X0_7 := X0_6.below hb; clear X0_6; have BX0_6 := BX0_5.below hb; clear BX0_5; have G_5 := G_4.below hb; clear G_4; have BG_4 := BG_3.below hb; clear BG_3; clear hb; obtain ⟨qBA00, qBA01⟩ := id BA0_12.now; obtain ⟨qBX00, qBX01⟩ := id BX0_6.now))
  obtain ⟨qBX00, qBX01⟩ := id BX0_6.now
  have qlBX0 : w6.heap.size < w12.heap.size := by have := BX0_6.le; omega
  go_wp2_with fail
  refine (markPlane_c _ _ xs0 (1) _ _ _ X0_7.now X0_7.le (by omega) (by omega) (by omega)).mono ?_
  rintro e w13 ⟨rfl, ho, hc⟩
  have hs13 := hc.size
  have HB13 := Chg.below HB12 hc (by have := HB12.size; omega) (by have := HB12.size; omega)
  have A0_14 := A0_13.chg hc (by omega)
  clear A0_13
  have BA0_13 := BA0_12.chg hc (by omega)
  clear BA0_12
  have S_10 := S_9.chg hc (by omega)
  clear S_9
  have BS_9 := BS_8.chg hc (by omega)
  clear BS_8
  have BX0_7 := BX0_6.chg hc (by omega)
  clear BX0_6
  have G_6 := G_5.chg hc (by omega)
  clear G_5
  have BG_5 := BG_4.chg hc (by omega)
  clear BG_4
  have X0_8 := Lives.markedT X0_7 ho hc
  clear X0_7 hc ho
  obtain ⟨qBG0, qBG1⟩ := id BG_5.now
  have qlBG : w8.heap.size < w13.heap.size := by have := BG_5.le; omega
  obtain ⟨qBS0, qBS1⟩ := id BS_9.now
  have qlBS : w4.heap.size < w13.heap.size := by have := BS_9.le; omega
  have hq : (r.code != r.code) = false := by simp
  go_wp2_with fail
  clear hq
  have hq : (r.code != r.code) = false := by simp
  refine (eqSeries_c _   _   _ _ r.xs r.xs _ G_6.now.1.rd S_10.now.1.rd).mono ?_
  rw [eqSB_self]
  rintro e w14 ⟨rfl, hb⟩
  have hs14 := hb.size
  have HB14 := HB13.trans (hb.mono HB13.size)
  have A0_15 := A0_14.below hb
  clear A0_14
  have BA0_14 := BA0_13.below hb
  clear BA0_13
  have S_11 := S_10.below hb
  clear S_10
  have BS_10 := BS_9.below hb
  clear BS_9
  have X0_9 := X0_8.below hb
  clear X0_8
  have BX0_8 := BX0_7.below hb
  clear BX0_7
  have G_7 := G_6.below hb
  clear G_6
  have BG_6 := BG_5.below hb
  clear BG_5
  clear hb
  obtain ⟨qBG0, qBG1⟩ := id BG_6.now
  have qlBG : w8.heap.size < w14.heap.size := by have := BG_6.le; omega
  go_wp2_with fail
  have hrow := G_7.now.2
  refine (markSeries_c _ _ r.xs (1) _ _ G_7.now.1 (by omega) (by omega) (by omega)).mono ?_
  rintro e w15 ⟨rfl, ho, hg⟩
  have hc := chg_of_row G_7 hrow hg
  have hs15 := hc.size
  have HB15 := Chg.below HB14 hc (by have := HB14.size; omega) (by have := HB14.size; omega)
  have A0_16 := A0_15.chg hc (by omega)
  clear A0_15
  have BA0_15 := BA0_14.chg hc (by omega)
  clear BA0_14
  have S_12 := S_11.chg hc (by omega)
  clear S_11
  have BS_11 := BS_10.chg hc (by omega)
  clear BS_10
  have X0_10 := X0_9.chg hc (by omega)
  clear X0_9
  have BX0_9 := BX0_8.chg hc (by omega)
  clear BX0_8
  have BG_7 := BG_6.chg hc (by omega)
  clear BG_6
  have G_8 := Lives.marked G_7 ho hc
  clear G_7 hc hg ho hrow
  obtain ⟨qBG0, qBG1⟩ := id BG_7.now
  have qlBG : w8.heap.size < w15.heap.size := by have := BG_7.le; omega
  go_wp2_with fail
  refine (heldSeries_c _ _ _ 1 _ (G_8.now.1.rd) (by omega) (by omega) (by omega)).mono ?_
  rintro e w16 ⟨rfl, hb⟩
  have hs16 := hb.size
  have HB16 := HB15.trans (hb.mono HB15.size)
  have A0_17 := A0_16.below hb
  clear A0_16
  have BA0_16 := BA0_15.below hb
  clear BA0_15
  have S_13 := S_12.below hb
  clear S_12
  have BS_12 := BS_11.below hb
  clear BS_11
  have X0_11 := X0_10.below hb
  clear X0_10
  have BX0_10 := BX0_9.below hb
  clear BX0_9
  have G_9 := G_8.below hb
  clear G_8
  have BG_8 := BG_7.below hb
  clear BG_7
  clear hb
  obtain ⟨qBA00, qBA01⟩ := id BA0_16.now
  have qlBA0 : w.heap.size < w16.heap.size := by have := BA0_16.le; omega
  go_wp2_with fail
  refine (toPlane_c _ _ xs0 _ A0_17.now.rd hn0).mono ?_
  rintro e w17 ⟨vh0, rfl, ho, hb⟩
  have hs17 := hb.size
  have HB17 := HB16.trans (hb.mono HB16.size)
  have A0_18 := A0_17.below hb
  clear A0_17
  have BA0_17 := BA0_16.below hb
  clear BA0_16
  have S_14 := S_13.below hb
  clear S_13
  have BS_13 := BS_12.below hb
  clear BS_12
  have G_10 := G_9.below hb
  clear G_9
  have BG_9 := BG_8.below hb
  clear BG_8
  clear hb
  obtain ⟨oh0, ch0, rfl⟩ := ho.shape
  have Ch0_0 := Lives.owS ho hs17
  clear ho
  go_wp2_with fail
  refine (HI.out _ _ (Ch0_0.now.rd)).mono ?_
  rintro e w18 ⟨vH, rfl, ho, hb, hlen⟩
  have hs18 := hb.size
  have HB18 := HB17.trans (hb.mono HB17.size)
  have A0_19 := A0_18.below hb
  clear A0_18
  have BA0_18 := BA0_17.below hb
  clear BA0_17
  have S_15 := S_14.below hb
  clear S_14
  have BS_14 := BS_13.below hb
  clear BS_13
  have G_11 := G_10.below hb
  clear G_10
  have BG_10 := BG_9.below hb
  clear BG_9
  have Ch0_1 := Ch0_0.below hb
  clear Ch0_0
  clear hb
  obtain ⟨oH, cH, rfl⟩ := ho.shape
  have H_0 := Lives.owR ho hs18
  clear ho
  obtain ⟨qBS0, qBS1⟩ := id BS_14.now
  have qlBS : w4.heap.size < w18.heap.size := by have := BS_14.le; omega
  have hq : (r.code != r.code) = false := by simp
  go_wp2_with fail
  clear hq
  have hb : Below w18.heap.size w18 (w18.alloc (.cells #[.int .i64 r.m, .slice oH r.xs.length cH] 34)) := (by (repeat (first | exact Below.refl _ _ | (refine Below.setCell ?_ (by first | (simp; done) | (simp; omega) | omega) _) | (refine Below.alloc ?_ (by first | (simp; done) | (simp; omega) | omega) _) | (refine below_drewN ?_ _) | (refine Below.drew ?_))))
  have hz : (w18.alloc (.cells #[.int .i64 r.m, .slice oH r.xs.length cH] 34)).heap.size = w18.heap.size + 1 := by simp
  have HB19 := HB18.trans (hb.mono HB18.size)
  have A0_20 := A0_19.below hb
  clear A0_19
  have BA0_19 := BA0_18.below hb
  clear BA0_18
  have S_16 := S_15.below hb
  clear S_15
  have BS_15 := BS_14.below hb
  clear BS_14
  have G_12 := G_11.below hb
  clear G_11
  have BG_11 := BG_10.below hb
  clear BG_10
  have Ch0_2 := Ch0_1.below hb
  clear Ch0_1
  have H_1 := H_0.below hb
  clear H_0
  have BH_0 := Lives.box2 w18 (.int .i64 r.m) (.slice oH r.xs.length cH) 34
  clear hb
  generalize w18.alloc (.cells #[.int .i64 r.m, .slice oH r.xs.length cH] 34) = w19 at A0_20 BA0_19 S_16 BS_15 G_12 BG_11 Ch0_2 H_1 BH_0 hz HB19 ⊢
  have hlt19 : w18.heap.size < w19.heap.size := by omega
  clear hz
  have hq : (r.code != r.code) = false := by simp
  refine (eqSeries_c _   _   _ _ r.xs r.xs _ H_1.now.1.rd S_16.now.1.rd).mono ?_
  rw [eqSB_self]
  rintro e w20 ⟨rfl, hb⟩
  have hs20 := hb.size
  have HB20 := HB19.trans (hb.mono HB19.size)
  have A0_21 := A0_20.below hb
  clear A0_20
  have BA0_20 := BA0_19.below hb
  clear BA0_19
  have S_17 := S_16.below hb
  clear S_16
  have BS_16 := BS_15.below hb
  clear BS_15
  have G_13 := G_12.below hb
  clear G_12
  have BG_12 := BG_11.below hb
  clear BG_11
  have H_2 := H_1.below hb
  clear H_1
  have BH_1 := BH_0.below hb
  clear BH_0
  clear hb
  obtain ⟨qBG0, qBG1⟩ := id BG_12.now
  have qlBG : w8.heap.size < w20.heap.size := by have := BG_12.le; omega
  go_wp2_with fail
  refine (heldSeries_c _ _ _ 1 _ (G_13.now.1.rd) (by omega) (by omega) (by omega)).mono ?_
  rintro e w21 ⟨rfl, hb⟩
  have hs21 := hb.size
  have HB21 := HB20.trans (hb.mono HB20.size)
  have A0_22 := A0_21.below hb
  clear A0_21
  have BA0_21 := BA0_20.below hb
  clear BA0_20
  have S_18 := S_17.below hb
  clear S_17
  have BS_17 := BS_16.below hb
  clear BS_16
  have G_14 := G_13.below hb
  clear G_13
  have BG_13 := BG_12.below hb
  clear BG_12
  have H_3 := H_2.below hb
  clear H_2
  have BH_2 := BH_1.below hb
  clear BH_1
  clear hb
  go_wp2
  go_ret
  exact ⟨rfl, HB21⟩

set_option maxRecDepth 100000 in
theorem MultipleByLogarithm_lifted (os : Os) (started : os.Started) (H : Type) (enc : TypeId × Value → H) :
    ReturnsInHanded {} Try.checked os 4 .any (Rows.fnExactMultipleByLogarithmSpec.pre6 enc Try.prog Try.f4 Rows.fnExactMultipleByLogarithmRow.domain false) (Rows.fnExactMultipleByLogarithmSpec.post enc Try.prog Try.f4 false true false false) := by
  refine returnsInHanded_of_change (C := Try.checked) Try.own started (by kernel_rfl) Try.func4
    (ChangeSpec.witness6 (enc := enc) (C := Try.checked) false ⟨#[], #[.agg #[.int .i64 0, .slice none 0 0], .int .i64 0], []⟩ 8 (by kernel_rfl) (by kernel_rfl) (by kernel_rfl) (by kernel_rfl)) ?_
  intro W base args ds gs before hval0 hW _ _
  have hval : ∀ (j : Nat) t v, Try.f4.params[j]? = some t → args[j]? = some v → Value.okWide Try.prog W .any base t v := hval0
  have hW' := hW
  obtain ⟨p, q, hA0, hV, rfl, _, _⟩ := hW
  have hA : DataW.TrodAll enc Try.prog W 0 (fun _ => true) true Try.f4.params.toList args.toList ds p := hA0
  rw [Try.params4] at hA hval
  have hAk := hA
  obtain ⟨rfl, rfl⟩ := trodVars_none hV
  obtain ⟨v0, v1, d0, d1, p0, p1, rfl, rfl, hp, h0, h1⟩ := trodAll_two hA
  obtain ⟨m0, u0, xs0, rfl, r0⟩ := open_plane (hval 0 24 v0 rfl rfl) h0
  obtain ⟨a1, rfl, rfl, hp1, wa1⟩ := open_int Try.underlying2 (hval 1 2 v1 rfl rfl) h1
  clear hA0 hval0
  simp only [List.append_nil] at hW'
  refine (FnExactMultipleByLogarithm_c m0 u0 xs0 a1 W r0).mono fun e W' ⟨he, hb⟩ => ?_
  subst he
  refine ⟨_, rfl, _, _, _, [], p, [], hW', ?_, ?_, rfl, hb.frame _, fun h => by cases h⟩
  · exact trodAll_mk1 (shut_bool Try.underlying4 true)
  · exact trodAll_below Try.laidOut (by kernel_rfl) hAk hb (fun x hx => by simpa using hW'.lt x hx)

theorem MultipleByLogarithm_holds : Rows.FnExactMultipleByLogarithmSaid :=
  OpenClaim.holds_of_wide 4 Try.f4 rfl rfl rfl rfl rfl rfl rfl ⟨rfl, rfl, rfl, rfl, rfl⟩ rfl rfl rfl rfl rfl (by kernel_rfl) Try.func4 (by kernel_rfl)
    (of_decide_eq_true (by kernel_rfl)) (by unfold Func.isWrapper; rw [if_neg (of_decide_eq_false (by kernel_rfl))]; exact ⟨rfl, rfl⟩)
    (fun os started H enc _ => MultipleByLogarithm_lifted os started H enc)

#print axioms MultipleByLogarithm_holds
end Go.Proofs.Ytdnkadlondediaa
