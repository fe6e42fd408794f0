/- Lemmas of FwIsHomomorphism. -/
import Derived.Test.YtdnkadlondediaaQHom
import Derived.Test.YtdnkadlondediaaQG2
import Derived.Test.YtdnkadlondediaaQEnd
import Derived.Deep.RegionHeld3
set_option linter.unusedSimpArgs false
set_option linter.unusedVariables false
namespace Go.Proofs.Ytdnkadlondediaa
open Go.RowKit
open Go.ChangeShapes Go.WideShapes Go.ChangeAt Go.Joins

set_option maxHeartbeats 4000000 in
set_option maxRecDepth 100000 in
theorem FnExactIsHomomorphism_c (m0 : Int) (v0 : Value) (xs0 : List (List Int)) (m1 : Int) (v1 : Value) (xs1 : List (List Int)) (m2 : Int) (v2 : Value) (xs2 : List Int) (w : World) (hv0 : RdT w v0 xs0) (hv1 : RdT w v1 xs1) (hv2 : RdI w v2 xs2) :
    Calls Try.prog 5 #[.agg #[.int .i64 m0, v0], .agg #[.int .i64 m1, v1], .agg #[.int .i64 m2, v2]] w fun e w' => e = .returned (.bool true) ∧ Below w.heap.size w w' := by
  obtain ⟨o0, c0, rfl, hm0, hz0⟩ := id hv0
  clear hz0
  obtain ⟨o1, c1, rfl, hm1, hz1⟩ := id hv1
  clear hz1
  obtain ⟨o2, c2, rfl, hm2, hz2⟩ := id hv2
  clear hz2
  have HS := Lib.hid (fun (u : World) (u0 : Value) (u1 : Value) (u2 : Value) (k0 : RdT u u0 xs0) (k1 : RdT u u1 xs1) (k2 : RdI u u2 xs2) => sIsHomomorphism_c m0 u0 xs0 m1 u1 xs1 m2 u2 xs2 u k0 k1 k2)
  have HI := Lib.hid (fun (u : World) (u0 : Value) (u1 : Value) (u2 : Value) (k0 : RdT u u0 xs0) (k1 : RdT u u1 xs1) (k2 : RdI u u2 xs2) => IsHomomorphism_c m0 u0 xs0 m1 u1 xs1 m2 u2 xs2 u k0 k1 k2)
  generalize homR m0 xs0 m1 xs1 m2 xs2 = r at HS HI
  have HB0 := Below.refl w.heap.size w
  obtain ⟨us0, A0_0⟩ := Lives.rdT hv0
  obtain ⟨us1, A1_0⟩ := Lives.rdT hv1
  have A2_0 := Lives.rdI hv2
  go_enter Try.func5, Try.ntmps5
  go_wp2_with fail
  have hb : Below w.heap.size w (w.alloc (.cells #[.int .i64 m0, .slice o0 xs0.length c0] 24)) := (by (repeat (first | exact Below.refl _ _ | (refine Below.setCell ?_ (by first | (simp; done) | (simp; omega) | omega) _) | (refine Below.alloc ?_ (by first | (simp; done) | (simp; omega) | omega) _) | (refine below_drewN ?_ _) | (refine Below.drew ?_))))
  have hz : (w.alloc (.cells #[.int .i64 m0, .slice o0 xs0.length c0] 24)).heap.size = w.heap.size + 1 := by simp
  have HB1 := HB0.trans (hb.mono HB0.size)
  have A0_1 := A0_0.below hb
  clear A0_0
  have A1_1 := A1_0.below hb
  clear A1_0
  have A2_1 := A2_0.below hb
  clear A2_0
  have BA0_0 := Lives.box2 w (.int .i64 m0) (.slice o0 xs0.length c0) 24
  clear hb
  generalize w.alloc (.cells #[.int .i64 m0, .slice o0 xs0.length c0] 24) = w1 at A0_1 A1_1 A2_1 BA0_0 hz HB1 ⊢
  have hlt1 : w.heap.size + 0 < w1.heap.size := by omega
  have hy := hz
  clear hz
  have hb : Below w1.heap.size w1 (w1.alloc (.cells #[.int .i64 m1, .slice o1 xs1.length c1] 24)) := (by (repeat (first | exact Below.refl _ _ | (refine Below.setCell ?_ (by first | (simp; done) | (simp; omega) | omega) _) | (refine Below.alloc ?_ (by first | (simp; done) | (simp; omega) | omega) _) | (refine below_drewN ?_ _) | (refine Below.drew ?_))))
  have hz : (w1.alloc (.cells #[.int .i64 m1, .slice o1 xs1.length c1] 24)).heap.size = w1.heap.size + 1 := by simp
  have HB2 := HB1.trans (hb.mono HB1.size)
  have A0_2 := A0_1.below hb
  clear A0_1
  have A1_2 := A1_1.below hb
  clear A1_1
  have A2_2 := A2_1.below hb
  clear A2_1
  have BA0_1 := BA0_0.below hb
  clear BA0_0
  have BA1_0 := Lives.box2 w1 (.int .i64 m1) (.slice o1 xs1.length c1) 24
  clear hb
  generalize w1.alloc (.cells #[.int .i64 m1, .slice o1 xs1.length c1] 24) = w2 at A0_2 A1_2 A2_2 BA0_1 BA1_0 hz HB2 ⊢
  rw [hy] at BA1_0
  rw [hy] at hz
  clear hy
  have hlt2 : w.heap.size + 1 < w2.heap.size := by omega
  have hy := hz
  clear hz
  have hb : Below w2.heap.size w2 (w2.alloc (.cells #[.int .i64 m2, .slice o2 xs2.length c2] 27)) := (by (repeat (first | exact Below.refl _ _ | (refine Below.setCell ?_ (by first | (simp; done) | (simp; omega) | omega) _) | (refine Below.alloc ?_ (by first | (simp; done) | (simp; omega) | omega) _) | (refine below_drewN ?_ _) | (refine Below.drew ?_))))
  have hz : (w2.alloc (.cells #[.int .i64 m2, .slice o2 xs2.length c2] 27)).heap.size = w2.heap.size + 1 := by simp
  have HB3 := HB2.trans (hb.mono HB2.size)
  have A0_3 := A0_2.below hb
  clear A0_2
  have A1_3 := A1_2.below hb
  clear A1_2
  have A2_3 := A2_2.below hb
  clear A2_2
  have BA0_2 := BA0_1.below hb
  clear BA0_1
  have BA1_1 := BA1_0.below hb
  clear BA1_0
  have BA2_0 := Lives.box2 w2 (.int .i64 m2) (.slice o2 xs2.length c2) 27
  clear hb
  generalize w2.alloc (.cells #[.int .i64 m2, .slice o2 xs2.length c2] 27) = w3 at A0_3 A1_3 A2_3 BA0_2 BA1_1 BA2_0 hz HB3 ⊢
  rw [hy] at BA2_0
  rw [hy] at hz
  clear hy
  have hlt3 : w.heap.size + 2 < w3.heap.size := by omega
  clear hz
  obtain ⟨qBA00, qBA01⟩ := id BA0_2.now
  have qlBA0 : w.heap.size < w3.heap.size := by have := BA0_2.le; omega
  refine (szPlane_c _ _ xs0 _ _ A0_3.now.rd (by omega) (by omega)).mono ?_
  rintro e w4 ⟨rfl, hb⟩
  have hs4 := hb.size
  have HB4 := HB3.trans (hb.mono HB3.size)
  have A0_4 := A0_3.below hb
  clear A0_3
  have A1_4 := A1_3.below hb
  clear A1_3
  have A2_4 := A2_3.below hb
  clear A2_3
  have BA0_3 := BA0_2.below hb
  clear BA0_2
  have BA1_2 := BA1_1.below hb
  clear BA1_1
  have BA2_1 := BA2_0.below hb
  clear BA2_0
  clear hb
  by_cases hsz0 : szV (sizeT xs0) 1048576 < 0
  · go_wp2
    go_ret
    exact ⟨rfl, HB4⟩
  have hle0 := szT_ok (Int.not_lt.1 hsz0) (by omega)
  obtain ⟨hn0, hl0, hk0⟩ := hle0
  have hnum0 : numT xs0 ≤ 1048576 := by unfold sizeT at hn0; omega
  obtain ⟨qBA10, qBA11⟩ := id BA1_2.now
  have qlBA1 : w.heap.size + 1 < w4.heap.size := by have := BA1_2.le; omega
  go_wp2_with fail
  refine (szPlane_c _ _ xs1 (szV (sizeT xs0) 1048576) _ A1_4.now.rd (by omega) (by omega)).mono ?_
  rintro e w5 ⟨rfl, hb⟩
  have hs5 := hb.size
  have HB5 := HB4.trans (hb.mono HB4.size)
  have A0_5 := A0_4.below hb
  clear A0_4
  have A1_5 := A1_4.below hb
  clear A1_4
  have A2_5 := A2_4.below hb
  clear A2_4
  have BA0_4 := BA0_3.below hb
  clear BA0_3
  have BA1_3 := BA1_2.below hb
  clear BA1_2
  have BA2_2 := BA2_1.below hb
  clear BA2_1
  clear hb
  by_cases hsz1 : szV (sizeT xs1) (szV (sizeT xs0) 1048576) < 0
  · go_wp2
    go_ret
    exact ⟨rfl, HB5⟩
  have hle1 := szT_ok (Int.not_lt.1 hsz1) (by omega)
  obtain ⟨hn1, hl1, hk1⟩ := hle1
  have hnum1 : numT xs1 ≤ 1048576 := by unfold sizeT at hn1; omega
  obtain ⟨qBA20, qBA21⟩ := id BA2_2.now
  have qlBA2 : w.heap.size + 2 < w5.heap.size := by have := BA2_2.le; omega
  go_wp2_with fail
  refine (szSeries_c _ _ _ _ (szV (sizeT xs1) (szV (sizeT xs0) 1048576)) _ hm2.1 (by omega) (by omega)).mono ?_
  rintro e w6 ⟨rfl, hb⟩
  have hs6 := hb.size
  have HB6 := HB5.trans (hb.mono HB5.size)
  have A0_6 := A0_5.below hb
  clear A0_5
  have A1_6 := A1_5.below hb
  clear A1_5
  have A2_6 := A2_5.below hb
  clear A2_5
  have BA0_5 := BA0_4.below hb
  clear BA0_4
  have BA1_4 := BA1_3.below hb
  clear BA1_3
  have BA2_3 := BA2_2.below hb
  clear BA2_2
  clear hb
  by_cases hsz2 : szV xs2.length (szV (sizeT xs1) (szV (sizeT xs0) 1048576)) < 0
  · go_wp2
    go_ret
    exact ⟨rfl, HB6⟩
  have hle2 := szV_ok (Int.not_lt.1 hsz2) (by omega)
  obtain ⟨hn2, hl2, hk2⟩ := hle2
  obtain ⟨qBA00, qBA01⟩ := id BA0_5.now
  have qlBA0 : w.heap.size < w6.heap.size := by have := BA0_5.le; omega
  obtain ⟨qBA10, qBA11⟩ := id BA1_4.now
  have qlBA1 : w.heap.size + 1 < w6.heap.size := by have := BA1_4.le; omega
  obtain ⟨qBA20, qBA21⟩ := id BA2_3.now
  have qlBA2 : w.heap.size + 2 < w6.heap.size := by have := BA2_3.le; omega
  go_wp2_with fail
  have hb : Below w6.heap.size w6 w6.drew := (Below.refl _ _).drew
  have HBeS := HB6.trans (hb.mono HB6.size)
  have hseS := hb.size
  have A0_7 := A0_6.below hb
  clear A0_6
  have A1_7 := A1_6.below hb
  clear A1_6
  have A2_7 := A2_6.below hb
  clear A2_6
  have BA0_6 := BA0_5.below hb
  clear BA0_5
  have BA1_5 := BA1_4.below hb
  clear BA1_4
  have BA2_4 := BA2_3.below hb
  clear BA2_3
  clear hb
  obtain ⟨qBA00, qBA01⟩ := id BA0_6.now
  have qlBA0 : w.heap.size < w6.heap.size := by have := BA0_6.le; omega
  obtain ⟨qBA10, qBA11⟩ := id BA1_5.now
  have qlBA1 : w.heap.size + 1 < w6.heap.size := by have := BA1_5.le; omega
  obtain ⟨qBA20, qBA21⟩ := id BA2_4.now
  have qlBA2 : w.heap.size + 2 < w6.heap.size := by have := BA2_4.le; omega
  go_region_held3 (fun w' => w'.cell? ⟨w.heap.size, 0, none⟩ = some (.int .i64 m0) ∧ w'.cell? ⟨w.heap.size, 1, none⟩ = some (.slice o0 xs0.length c0) ∧ w'.cell? ⟨w.heap.size + 1, 0, none⟩ = some (.int .i64 m1) ∧ w'.cell? ⟨w.heap.size + 1, 1, none⟩ = some (.slice o1 xs1.length c1) ∧ w'.cell? ⟨w.heap.size + 2, 0, none⟩ = some (.int .i64 m2) ∧ w'.cell? ⟨w.heap.size + 2, 1, none⟩ = some (.slice o2 xs2.length c2)) (go_keep)
    (first
      | (go_at_call_of 15 (Value.agg #[.int .i64 m0, .slice o0 xs0.length c0]); refine (toPlane_c _ _ xs0 _ A0_7.now.rd hn0).mono ?_; rintro e w7 ⟨vS0, rfl, ho, hb⟩; obtain ⟨oS0, cS0, rfl⟩ := ho.shape; have hs7 := hb.size; have HB7 := HBeS.trans (hb.mono HBeS.size); have A0_8 := A0_7.below hb; clear A0_7; have A1_8 := A1_7.below hb; clear A1_7; have A2_8 := A2_7.below hb; clear A2_7; have BA0_7 := BA0_6.below hb; clear BA0_6; have BA1_6 := BA1_5.below hb; clear BA1_5; have BA2_5 := BA2_4.below hb; clear BA2_4; have Cs0_0 := Lives.owS ho hs7; clear ho hb; obtain ⟨qBA00, qBA01⟩ := id BA0_7.now; obtain ⟨qBA10, qBA11⟩ := id BA1_6.now; obtain ⟨qBA20, qBA21⟩ := id BA2_5.now)
      | (go_at_call_of 15 (Value.agg #[.int .i64 m1, .slice o1 xs1.length c1]); refine (toPlane_c _ _ xs1 _ A1_8.now.rd hn1).mono ?_; rintro e w8 ⟨vS1, rfl, ho, hb⟩; obtain ⟨oS1, cS1, rfl⟩ := ho.shape; have hs8 := hb.size; have HB8 := HB7.trans (hb.mono HB7.size); have A0_9 := A0_8.below hb; clear A0_8; have A1_9 := A1_8.below hb; clear A1_8; have A2_9 := A2_8.below hb; clear A2_8; have BA0_8 := BA0_7.below hb; clear BA0_7; have BA1_7 := BA1_6.below hb; clear BA1_6; have BA2_6 := BA2_5.below hb; clear BA2_5; have Cs0_1 := Cs0_0.below hb; clear Cs0_0; have Cs1_0 := Lives.owS ho hs8; clear ho hb; obtain ⟨qBA00, qBA01⟩ := id BA0_8.now; obtain ⟨qBA10, qBA11⟩ := id BA1_7.now; obtain ⟨qBA20, qBA21⟩ := id BA2_6.now)
      | (go_at_call_of 16 (Value.agg #[.int .i64 m2, .slice o2 xs2.length c2]); refine (toSeries_c _ _ xs2 _ A2_9.now hn2).mono ?_; rintro e w9 ⟨vS2, rfl, ho, hb⟩; obtain ⟨oS2, cS2, rfl⟩ := ho.shape; have hs9 := hb.size; have HB9 := HB8.trans (hb.mono HB8.size); have A0_10 := A0_9.below hb; clear A0_9; have A1_10 := A1_9.below hb; clear A1_9; have A2_10 := A2_9.below hb; clear A2_9; have BA0_9 := BA0_8.below hb; clear BA0_8; have BA1_8 := BA1_7.below hb; clear BA1_7; have BA2_7 := BA2_6.below hb; clear BA2_6; have Cs0_2 := Cs0_1.below hb; clear Cs0_1; have Cs1_1 := Cs1_0.below hb; clear Cs1_0; have Cs2_0 := Lives.owR ho hs9; clear ho hb; obtain ⟨qBA00, qBA01⟩ := id BA0_9.now; obtain ⟨qBA10, qBA11⟩ := id BA1_8.now; obtain ⟨qBA20, qBA21⟩ := id BA2_7.now)
      | (go_at_call 25; refine (HS.out _ _ _ _ (Cs0_2.now.rd) (Cs1_1.now.rd) (Cs2_0.now.1.rd)).mono ?_; rintro e w10 ⟨rfl, hb⟩; have hs10 := hb.size; have HB10 := HB9.trans (hb.mono HB9.size); have A0_11 := A0_10.below hb; clear A0_10; have A1_11 := A1_10.below hb; clear A1_10; have A2_11 := A2_10.below hb; clear A2_10; have BA0_10 := BA0_9.below hb; clear BA0_9; have BA1_9 := BA1_8.below hb; clear BA1_8; have BA2_8 := BA2_7.below hb; clear BA2_7; have Cs0_3 := Cs0_2.below hb; clear Cs0_2; have Cs1_2 := Cs1_1.below hb; clear Cs1_1; have Cs2_1 := Cs2_0.below hb; clear Cs2_0; clear hb; obtain ⟨qBA00, qBA01⟩ := id BA0_10.now; obtain ⟨qBA10, qBA11⟩ := id BA1_9.now; obtain ⟨qBA20, qBA21⟩ := id BA2_8.now))
  go_wp2_with fail
  refine (toPlane_c _ _ xs0 _ A0_11.now.rd hn0).mono ?_
  rintro e w11 ⟨vx0, rfl, ho, hb⟩
  have hs11 := hb.size
  have HB11 := HB10.trans (hb.mono HB10.size)
  have A0_12 := A0_11.below hb
  clear A0_11
  have A1_12 := A1_11.below hb
  clear A1_11
  have A2_12 := A2_11.below hb
  clear A2_11
  have BA0_11 := BA0_10.below hb
  clear BA0_10
  have BA1_10 := BA1_9.below hb
  clear BA1_9
  have BA2_9 := BA2_8.below hb
  clear BA2_8
  clear hb
  obtain ⟨ox0, cx0, rfl⟩ := ho.shape
  have X0_0 := Lives.owS ho hs11
  clear ho
  obtain ⟨qBA10, qBA11⟩ := id BA1_10.now
  have qlBA1 : w.heap.size + 1 < w11.heap.size := by have := BA1_10.le; omega
  go_wp2_with fail
  have hb : Below w11.heap.size w11 (w11.alloc (.cells #[.int .i64 m0, .slice ox0 xs0.length cx0] 32)) := (by (repeat (first | exact Below.refl _ _ | (refine Below.setCell ?_ (by first | (simp; done) | (simp; omega) | omega) _) | (refine Below.alloc ?_ (by first | (simp; done) | (simp; omega) | omega) _) | (refine below_drewN ?_ _) | (refine Below.drew ?_))))
  have hz : (w11.alloc (.cells #[.int .i64 m0, .slice ox0 xs0.length cx0] 32)).heap.size = w11.heap.size + 1 := by simp
  have HB12 := HB11.trans (hb.mono HB11.size)
  have A0_13 := A0_12.below hb
  clear A0_12
  have A1_13 := A1_12.below hb
  clear A1_12
  have A2_13 := A2_12.below hb
  clear A2_12
  have BA0_12 := BA0_11.below hb
  clear BA0_11
  have BA1_11 := BA1_10.below hb
  clear BA1_10
  have BA2_10 := BA2_9.below hb
  clear BA2_9
  have X0_1 := X0_0.below hb
  clear X0_0
  have BX0_0 := Lives.box2 w11 (.int .i64 m0) (.slice ox0 xs0.length cx0) 32
  clear hb
  generalize w11.alloc (.cells #[.int .i64 m0, .slice ox0 xs0.length cx0] 32) = w12 at A0_13 A1_13 A2_13 BA0_12 BA1_11 BA2_10 X0_1 BX0_0 hz HB12 ⊢
  have hlt12 : w11.heap.size < w12.heap.size := by omega
  clear hz
  refine (toPlane_c _ _ xs1 _ A1_13.now.rd hn1).mono ?_
  rintro e w13 ⟨vx1, rfl, ho, hb⟩
  have hs13 := hb.size
  have HB13 := HB12.trans (hb.mono HB12.size)
  have A0_14 := A0_13.below hb
  clear A0_13
  have A1_14 := A1_13.below hb
  clear A1_13
  have A2_14 := A2_13.below hb
  clear A2_13
  have BA0_13 := BA0_12.below hb
  clear BA0_12
  have BA1_12 := BA1_11.below hb
  clear BA1_11
  have BA2_11 := BA2_10.below hb
  clear BA2_10
  have X0_2 := X0_1.below hb
  clear X0_1
  have BX0_1 := BX0_0.below hb
  clear BX0_0
  clear hb
  obtain ⟨ox1, cx1, rfl⟩ := ho.shape
  have X1_0 := Lives.owS ho hs13
  clear ho
  obtain ⟨qBX00, qBX01⟩ := id BX0_1.now
  have qlBX0 : w11.heap.size < w13.heap.size := by have := BX0_1.le; omega
  obtain ⟨qBA20, qBA21⟩ := id BA2_11.now
  have qlBA2 : w.heap.size + 2 < w13.heap.size := by have := BA2_11.le; omega
  go_wp2_with fail
  have hb : Below w13.heap.size w13 (w13.alloc (.cells #[.int .i64 m1, .slice ox1 xs1.length cx1] 32)) := (by (repeat (first | exact Below.refl _ _ | (refine Below.setCell ?_ (by first | (simp; done) | (simp; omega) | omega) _) | (refine Below.alloc ?_ (by first | (simp; done) | (simp; omega) | omega) _) | (refine below_drewN ?_ _) | (refine Below.drew ?_))))
  have hz : (w13.alloc (.cells #[.int .i64 m1, .slice ox1 xs1.length cx1] 32)).heap.size = w13.heap.size + 1 := by simp
  have HB14 := HB13.trans (hb.mono HB13.size)
  have A0_15 := A0_14.below hb
  clear A0_14
  have A1_15 := A1_14.below hb
  clear A1_14
  have A2_15 := A2_14.below hb
  clear A2_14
  have BA0_14 := BA0_13.below hb
  clear BA0_13
  have BA1_13 := BA1_12.below hb
  clear BA1_12
  have BA2_12 := BA2_11.below hb
  clear BA2_11
  have X0_3 := X0_2.below hb
  clear X0_2
  have BX0_2 := BX0_1.below hb
  clear BX0_1
  have X1_1 := X1_0.below hb
  clear X1_0
  have BX1_0 := Lives.box2 w13 (.int .i64 m1) (.slice ox1 xs1.length cx1) 32
  clear hb
  generalize w13.alloc (.cells #[.int .i64 m1, .slice ox1 xs1.length cx1] 32) = w14 at A0_15 A1_15 A2_15 BA0_14 BA1_13 BA2_12 X0_3 BX0_2 X1_1 BX1_0 hz HB14 ⊢
  have hlt14 : w13.heap.size < w14.heap.size := by omega
  clear hz
  refine (toSeries_c _ _ xs2 _ A2_15.now hn2).mono ?_
  rintro e w15 ⟨vx2, rfl, ho, hb⟩
  have hs15 := hb.size
  have HB15 := HB14.trans (hb.mono HB14.size)
  have A0_16 := A0_15.below hb
  clear A0_15
  have A1_16 := A1_15.below hb
  clear A1_15
  have A2_16 := A2_15.below hb
  clear A2_15
  have BA0_15 := BA0_14.below hb
  clear BA0_14
  have BA1_14 := BA1_13.below hb
  clear BA1_13
  have BA2_13 := BA2_12.below hb
  clear BA2_12
  have X0_4 := X0_3.below hb
  clear X0_3
  have BX0_3 := BX0_2.below hb
  clear BX0_2
  have X1_2 := X1_1.below hb
  clear X1_1
  have BX1_1 := BX1_0.below hb
  clear BX1_0
  clear hb
  obtain ⟨ox2, cx2, rfl⟩ := ho.shape
  have X2_0 := Lives.owR ho hs15
  clear ho
  obtain ⟨qBX00, qBX01⟩ := id BX0_3.now
  have qlBX0 : w11.heap.size < w15.heap.size := by have := BX0_3.le; omega
  obtain ⟨qBX10, qBX11⟩ := id BX1_1.now
  have qlBX1 : w13.heap.size < w15.heap.size := by have := BX1_1.le; omega
  go_wp2_with fail
  have hb : Below w15.heap.size w15 (w15.alloc (.cells #[.int .i64 m2, .slice ox2 xs2.length cx2] 34)) := (by (repeat (first | exact Below.refl _ _ | (refine Below.setCell ?_ (by first | (simp; done) | (simp; omega) | omega) _) | (refine Below.alloc ?_ (by first | (simp; done) | (simp; omega) | omega) _) | (refine below_drewN ?_ _) | (refine Below.drew ?_))))
  have hz : (w15.alloc (.cells #[.int .i64 m2, .slice ox2 xs2.length cx2] 34)).heap.size = w15.heap.size + 1 := by simp
  have HB16 := HB15.trans (hb.mono HB15.size)
  have A0_17 := A0_16.below hb
  clear A0_16
  have A1_17 := A1_16.below hb
  clear A1_16
  have A2_17 := A2_16.below hb
  clear A2_16
  have BA0_16 := BA0_15.below hb
  clear BA0_15
  have BA1_15 := BA1_14.below hb
  clear BA1_14
  have BA2_14 := BA2_13.below hb
  clear BA2_13
  have X0_5 := X0_4.below hb
  clear X0_4
  have BX0_4 := BX0_3.below hb
  clear BX0_3
  have X1_3 := X1_2.below hb
  clear X1_2
  have BX1_2 := BX1_1.below hb
  clear BX1_1
  have X2_1 := X2_0.below hb
  clear X2_0
  have BX2_0 := Lives.box2 w15 (.int .i64 m2) (.slice ox2 xs2.length cx2) 34
  clear hb
  generalize w15.alloc (.cells #[.int .i64 m2, .slice ox2 xs2.length cx2] 34) = w16 at A0_17 A1_17 A2_17 BA0_16 BA1_15 BA2_14 X0_5 BX0_4 X1_3 BX1_2 X2_1 BX2_0 hz HB16 ⊢
  have hlt16 : w15.heap.size < w16.heap.size := by omega
  clear hz
  refine (HI.out _ _ _ _ (X0_5.now.rd) (X1_3.now.rd) (X2_1.now.1.rd)).mono ?_
  rintro e w17 ⟨rfl, hb⟩
  have hs17 := hb.size
  have HB17 := HB16.trans (hb.mono HB16.size)
  have A0_18 := A0_17.below hb
  clear A0_17
  have A1_18 := A1_17.below hb
  clear A1_17
  have A2_18 := A2_17.below hb
  clear A2_17
  have BA0_17 := BA0_16.below hb
  clear BA0_16
  have BA1_16 := BA1_15.below hb
  clear BA1_15
  have BA2_15 := BA2_14.below hb
  clear BA2_14
  have X0_6 := X0_5.below hb
  clear X0_5
  have BX0_5 := BX0_4.below hb
  clear BX0_4
  have X1_4 := X1_3.below hb
  clear X1_3
  have BX1_3 := BX1_2.below hb
  clear BX1_2
  have X2_2 := X2_1.below hb
  clear X2_1
  have BX2_1 := BX2_0.below hb
  clear BX2_0
  clear hb
  have hq : (r.val != r.val) = false := by simp
  have hq2 : (r.code != r.code) = false := by simp
  go_wp2_with fail
  have hb : Below w17.heap.size w17 w17.drew := (Below.refl _ _).drew
  have HBd0 := HB17.trans (hb.mono HB17.size)
  have hsd0 := hb.size
  have A0_19 := A0_18.below hb
  clear A0_18
  have A1_19 := A1_18.below hb
  clear A1_18
  have A2_19 := A2_18.below hb
  clear A2_18
  have BA0_18 := BA0_17.below hb
  clear BA0_17
  have BA1_17 := BA1_16.below hb
  clear BA1_16
  have BA2_16 := BA2_15.below hb
  clear BA2_15
  have X0_7 := X0_6.below hb
  clear X0_6
  have BX0_6 := BX0_5.below hb
  clear BX0_5
  have X1_5 := X1_4.below hb
  clear X1_4
  have BX1_4 := BX1_3.below hb
  clear BX1_3
  have X2_3 := X2_2.below hb
  clear X2_2
  have BX2_2 := BX2_1.below hb
  clear BX2_1
  clear hb
  obtain ⟨qBA00, qBA01⟩ := id BA0_18.now
  have qlBA0 : w.heap.size < w17.heap.size := by have := BA0_18.le; omega
  obtain ⟨qBX00, qBX01⟩ := id BX0_6.now
  have qlBX0 : w11.heap.size < w17.heap.size := by have := BX0_6.le; omega
  go_region_held3 (fun w' => w'.cell? ⟨w.heap.size, 0, none⟩ = some (.int .i64 m0) ∧ w'.cell? ⟨w.heap.size, 1, none⟩ = some (.slice o0 xs0.length c0) ∧ w'.cell? ⟨w11.heap.size, 0, none⟩ = some (.int .i64 m0) ∧ w'.cell? ⟨w11.heap.size, 1, none⟩ = some (.slice ox0 xs0.length cx0)) (go_keep)
    (first
      | (go_at_call 15; refine (toPlane_c _ _ xs0 _ A0_19.now.rd hn0).mono ?_; rintro e w18 ⟨vy0, rfl, ho, hb⟩; have hs18 := hb.size; have HB18 := HBd0.trans (hb.mono HBd0.size); have A0_20 := A0_19.below hb; clear A0_19; have A1_20 := A1_19.below hb; clear A1_19; have A2_20 := A2_19.below hb; clear A2_19; have BA0_19 := BA0_18.below hb; clear BA0_18; have BA1_18 := BA1_17.below hb; clear BA1_17; have BA2_17 := BA2_16.below hb; clear BA2_16; have X0_8 := X0_7.below hb; clear X0_7; have BX0_7 := BX0_6.below hb; clear BX0_6; have X1_6 := X1_5.below hb; clear X1_5; have BX1_5 := BX1_4.below hb; clear BX1_4; have X2_4 := X2_3.below hb; clear X2_3; have BX2_3 := BX2_2.below hb; clear BX2_2; have Y0_0 := Lives.owS ho hs18; clear ho hb; obtain ⟨qBA00, qBA01⟩ := id BA0_19.now; obtain ⟨qBX00, qBX01⟩ := id BX0_7.now)
      | (go_at_call 18; refine (eqPlane_c _ _ _ _ xs0 xs0 _ X0_8.now.rd Y0_0.now.rd).mono ?_; rw [eqPB_self]; rintro e w19 ⟨rfl, hb⟩; have hs19 := hb.size; have HB19 := HB18.trans (hb.mono HB18.size); have A0_21 := A0_20.below hb; clear A0_20; have A1_21 := A1_20.below hb; clear A1_20; have A2_21 := A2_20.below hb; clear A2_20; have BA0_20 := BA0_19.below hb; clear BA0_19; have BA1_19 := BA1_18.below hb; clear BA1_18; have BA2_18 := BA2_17.below hb; clear BA2_17; have X0_9 := X0_8.below hb; clear X0_8; have BX0_8 := BX0_7.below hb; clear BX0_7; have X1_7 := X1_6.below hb; clear X1_6; have BX1_6 := BX1_5.below hb; clear BX1_5; have X2_5 := X2_4.below hb; clear X2_4; have BX2_4 := BX2_3.below hb; clear BX2_3; clear hb; obtain ⟨qBA00, qBA01⟩ := id BA0_20.now; obtain ⟨qBX00, qBX01⟩ := id BX0_8.now))
  go_wp2_with fail
  have hb : Below w19.heap.size w19 w19.drew := (Below.refl _ _).drew
  have HBd1 := HB19.trans (hb.mono HB19.size)
  have hsd1 := hb.size
  have A0_22 := A0_21.below hb
  clear A0_21
  have A1_22 := A1_21.below hb
  clear A1_21
  have A2_22 := A2_21.below hb
  clear A2_21
  have BA0_21 := BA0_20.below hb
  clear BA0_20
  have BA1_20 := BA1_19.below hb
  clear BA1_19
  have BA2_19 := BA2_18.below hb
  clear BA2_18
  have X0_10 := X0_9.below hb
  clear X0_9
  have BX0_9 := BX0_8.below hb
  clear BX0_8
  have X1_8 := X1_7.below hb
  clear X1_7
  have BX1_7 := BX1_6.below hb
  clear BX1_6
  have X2_6 := X2_5.below hb
  clear X2_5
  have BX2_5 := BX2_4.below hb
  clear BX2_4
  clear hb
  obtain ⟨qBA10, qBA11⟩ := id BA1_20.now
  have qlBA1 : w.heap.size + 1 < w19.heap.size := by have := BA1_20.le; omega
  obtain ⟨qBX10, qBX11⟩ := id BX1_7.now
  have qlBX1 : w13.heap.size < w19.heap.size := by have := BX1_7.le; omega
  go_region_held3 (fun w' => w'.cell? ⟨w.heap.size + 1, 0, none⟩ = some (.int .i64 m1) ∧ w'.cell? ⟨w.heap.size + 1, 1, none⟩ = some (.slice o1 xs1.length c1) ∧ w'.cell? ⟨w13.heap.size, 0, none⟩ = some (.int .i64 m1) ∧ w'.cell? ⟨w13.heap.size, 1, none⟩ = some (.slice ox1 xs1.length cx1)) (go_keep)
    (first
      | (go_at_call 15; refine (toPlane_c _ _ xs1 _ A1_22.now.rd hn1).mono ?_; rintro e w20 ⟨vy1, rfl, ho, hb⟩; have hs20 := hb.size; have HB20 := HBd1.trans (hb.mono HBd1.size); have A0_23 := A0_22.below hb; clear A0_22; have A1_23 := A1_22.below hb; clear A1_22; have A2_23 := A2_22.below hb; clear A2_22; have BA0_22 := BA0_21.below hb; clear BA0_21; have BA1_21 := BA1_20.below hb; clear BA1_20; have BA2_20 := BA2_19.below hb; clear BA2_19; have X0_11 := X0_10.below hb; clear X0_10; have BX0_10 := BX0_9.below hb; clear BX0_9; have X1_9 := X1_8.below hb; clear X1_8; have BX1_8 := BX1_7.below hb; clear BX1_7; have X2_7 := X2_6.below hb; clear X2_6; have BX2_6 := BX2_5.below hb; clear BX2_5; have Y1_0 := Lives.owS ho hs20; clear ho hb; obtain ⟨qBA10, qBA11⟩ := id BA1_21.now; obtain ⟨qBX10, qBX11⟩ := id BX1_8.now)
      | (go_at_call 18; refine (eqPlane_c _ _ _ _ xs1 xs1 _ X1_9.now.rd Y1_0.now.rd).mono ?_; rw [eqPB_self]; rintro e w21 ⟨rfl, hb⟩; have hs21 := hb.size; have HB21 := HB20.trans (hb.mono HB20.size); have A0_24 := A0_23.below hb; clear A0_23; have A1_24 := A1_23.below hb; clear A1_23; have A2_24 := A2_23.below hb; clear A2_23; have BA0_23 := BA0_22.below hb; clear BA0_22; have BA1_22 := BA1_21.below hb; clear BA1_21; have BA2_21 := BA2_20.below hb; clear BA2_20; have X0_12 := X0_11.below hb; clear X0_11; have BX0_11 := BX0_10.below hb; clear BX0_10; have X1_10 := X1_9.below hb; clear X1_9; have BX1_9 := BX1_8.below hb; clear BX1_8; have X2_8 := X2_7.below hb; clear X2_7; have BX2_7 := BX2_6.below hb; clear BX2_6; clear hb; obtain ⟨qBA10, qBA11⟩ := id BA1_22.now; obtain ⟨qBX10, qBX11⟩ := id BX1_9.now))
  go_wp2_with fail
  have hb : Below w21.heap.size w21 w21.drew := (Below.refl _ _).drew
  have HBd2 := HB21.trans (hb.mono HB21.size)
  have hsd2 := hb.size
  have A0_25 := A0_24.below hb
  clear A0_24
  have A1_25 := A1_24.below hb
  clear A1_24
  have A2_25 := A2_24.below hb
  clear A2_24
  have BA0_24 := BA0_23.below hb
  clear BA0_23
  have BA1_23 := BA1_22.below hb
  clear BA1_22
  have BA2_22 := BA2_21.below hb
  clear BA2_21
  have X0_13 := X0_12.below hb
  clear X0_12
  have BX0_12 := BX0_11.below hb
  clear BX0_11
  have X1_11 := X1_10.below hb
  clear X1_10
  have BX1_10 := BX1_9.below hb
  clear BX1_9
  have X2_9 := X2_8.below hb
  clear X2_8
  have BX2_8 := BX2_7.below hb
  clear BX2_7
  clear hb
  obtain ⟨qBA20, qBA21⟩ := id BA2_22.now
  have qlBA2 : w.heap.size + 2 < w21.heap.size := by have := BA2_22.le; omega
  obtain ⟨qBX20, qBX21⟩ := id BX2_8.now
  have qlBX2 : w15.heap.size < w21.heap.size := by have := BX2_8.le; omega
  go_region_held3 (fun w' => w'.cell? ⟨w.heap.size + 2, 0, none⟩ = some (.int .i64 m2) ∧ w'.cell? ⟨w.heap.size + 2, 1, none⟩ = some (.slice o2 xs2.length c2) ∧ w'.cell? ⟨w15.heap.size, 0, none⟩ = some (.int .i64 m2) ∧ w'.cell? ⟨w15.heap.size, 1, none⟩ = some (.slice ox2 xs2.length cx2)) (go_keep)
    (first
      | (go_at_call 16; refine (toSeries_c _ _ xs2 _ A2_25.now hn2).mono ?_; rintro e w22 ⟨vy2, rfl, ho, hb⟩; have hs22 := hb.size; have HB22 := HBd2.trans (hb.mono HBd2.size); have A0_26 := A0_25.below hb; clear A0_25; have A1_26 := A1_25.below hb; clear A1_25; have A2_26 := A2_25.below hb; clear A2_25; have BA0_25 := BA0_24.below hb; clear BA0_24; have BA1_24 := BA1_23.below hb; clear BA1_23; have BA2_23 := BA2_22.below hb; clear BA2_22; have X0_14 := X0_13.below hb; clear X0_13; have BX0_13 := BX0_12.below hb; clear BX0_12; have X1_12 := X1_11.below hb; clear X1_11; have BX1_11 := BX1_10.below hb; clear BX1_10; have X2_10 := X2_9.below hb; clear X2_9; have BX2_9 := BX2_8.below hb; clear BX2_8; have Y2_0 := Lives.owR ho hs22; clear ho hb; obtain ⟨qBA20, qBA21⟩ := id BA2_23.now; obtain ⟨qBX20, qBX21⟩ := id BX2_9.now)
      | (go_at_call 19; refine (eqSeries_c _ _ _ _ xs2 xs2 _ X2_10.now.1.rd Y2_0.now.1.rd).mono ?_; rw [eqSB_self]; rintro e w23 ⟨rfl, hb⟩; have hs23 := hb.size; have HB23 := HB22.trans (hb.mono HB22.size); have A0_27 := A0_26.below hb; clear A0_26; have A1_27 := A1_26.below hb; clear A1_26; have A2_27 := A2_26.below hb; clear A2_26; have BA0_26 := BA0_25.below hb; clear BA0_25; have BA1_25 := BA1_24.below hb; clear BA1_24; have BA2_24 := BA2_23.below hb; clear BA2_23; have X0_15 := X0_14.below hb; clear X0_14; have BX0_14 := BX0_13.below hb; clear BX0_13; have X1_13 := X1_12.below hb; clear X1_12; have BX1_12 := BX1_11.below hb; clear BX1_11; have X2_11 := X2_10.below hb; clear X2_10; have BX2_10 := BX2_9.below hb; clear BX2_9; clear hb; obtain ⟨qBA20, qBA21⟩ := id BA2_24.now; obtain ⟨qBX20, qBX21⟩ := id BX2_10.now))
  go_wp2
  go_ret
  exact ⟨rfl, HB23⟩
end Go.Proofs.Ytdnkadlondediaa
