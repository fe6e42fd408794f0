/- The law on StrictIsomorphism: for every input the program and the reference agree. No condition. -/
import Derived.Test.YtdnkadlondediaaQcHomO
import Derived.Test.YtdnkadlondediaaQcG2
import Derived.Test.YtdnkadlondediaaQcEnd
import Derived.Deep.RegionHeld3
set_option linter.unusedSimpArgs false
set_option linter.unusedVariables false
namespace Go.Proofs.Ytdnkadlondediaa
open Go.RowKit
open Go.ChangeShapes Go.WideShapes Go.ChangeAt Go.Joins

set_option maxHeartbeats 4000000 in
set_option maxRecDepth 100000 in
theorem FnExactStrictIsomorphism_c (m0 : Int) (v0 : Value) (xs0 : List (List Int)) (m1 : Int) (v1 : Value) (xs1 : List (List Int)) (w : World) (hv0 : RdT w v0 xs0) (hv1 : RdT w v1 xs1) :
    Calls Try.prog 11 #[.agg #[.int .i64 m0, v0], .agg #[.int .i64 m1, v1]] w fun e w' => e = .returned (.bool true) ∧ Below w.heap.size w w' := by
  obtain ⟨o0, c0, rfl, hm0, hz0⟩ := id hv0
  clear hz0
  obtain ⟨o1, c1, rfl, hm1, hz1⟩ := id hv1
  clear hz1
  have HS := Lib.hid (fun (u : World) (u0 : Value) (u1 : Value) (k0 : RdT u u0 xs0) (k1 : RdT u u1 xs1) => sStrictIsomorphism_c m0 u0 xs0 m1 u1 xs1 u k0 k1)
  have HI := Lib.hid (fun (u : World) (u0 : Value) (u1 : Value) (k0 : RdT u u0 xs0) (k1 : RdT u u1 xs1) => StrictIsomorphism_c m0 u0 xs0 m1 u1 xs1 u k0 k1)
  generalize strR m0 xs0 m1 xs1 = r at HS HI
  have HB0 := Below.refl w.heap.size w
  obtain ⟨us0, A0_0⟩ := Lives.rdT hv0
  obtain ⟨us1, A1_0⟩ := Lives.rdT hv1
  go_enter Try.func11, Try.ntmps11
  go_wp2_with fail
  have hb : Below w.heap.size w (w.alloc (.cells #[.int .i64 m0, .slice o0 xs0.length c0] 24)) := (by (repeat (first | exact Below.refl _ _ | (refine Below.setCell ?_ (by first | (simp; done) | (simp; omega) | omega) _) | (refine Below.alloc ?_ (by first | (simp; done) | (simp; omega) | omega) _) | (refine below_drewN ?_ _) | (refine Below.drew ?_))))
  have hz : (w.alloc (.cells #[.int .i64 m0, .slice o0 xs0.length c0] 24)).heap.size = w.heap.size + 1 := by simp
  have HB1 := HB0.trans (hb.mono HB0.size)
  have A0_1 := A0_0.below hb
  clear A0_0
  have A1_1 := A1_0.below hb
  clear A1_0
  have BA0_0 := Lives.box2 w (.int .i64 m0) (.slice o0 xs0.length c0) 24
  clear hb
  generalize w.alloc (.cells #[.int .i64 m0, .slice o0 xs0.length c0] 24) = w1 at A0_1 A1_1 BA0_0 hz HB1 ⊢
  have hlt1 : w.heap.size + 0 < w1.heap.size := by omega
  have hy := hz
  clear hz
  have hb : Below w1.heap.size w1 (w1.alloc (.cells #[.int .i64 m1, .slice o1 xs1.length c1] 24)) := (by (repeat (first | exact Below.refl _ _ | (refine Below.setCell ?_ (by first | (simp; done) | (simp; omega) | omega) _) | (refine Below.alloc ?_ (by first | (simp; done) | (simp; omega) | omega) _) | (refine below_drewN ?_ _) | (refine Below.drew ?_))))
  have hz : (w1.alloc (.cells #[.int .i64 m1, .slice o1 xs1.length c1] 24)).heap.size = w1.heap.size + 1 := by simp
  have HB2 := HB1.trans (hb.mono HB1.size)
  have A0_2 := A0_1.below hb
  clear A0_1
  have A1_2 := A1_1.below hb
  clear A1_1
  have BA0_1 := BA0_0.below hb
  clear BA0_0
  have BA1_0 := Lives.box2 w1 (.int .i64 m1) (.slice o1 xs1.length c1) 24
  clear hb
  generalize w1.alloc (.cells #[.int .i64 m1, .slice o1 xs1.length c1] 24) = w2 at A0_2 A1_2 BA0_1 BA1_0 hz HB2 ⊢
  rw [hy] at BA1_0
  rw [hy] at hz
  clear hy
  have hlt2 : w.heap.size + 1 < w2.heap.size := by omega
  clear hz
  obtain ⟨qBA00, qBA01⟩ := id BA0_1.now
  have qlBA0 : w.heap.size < w2.heap.size := by have := BA0_1.le; omega
  refine (szPlane_c _ _ xs0 1048576 _ A0_2.now.rd (by omega) (by omega)).mono ?_
  rintro e w3 ⟨rfl, hb⟩
  have hs3 := hb.size
  have HB3 := HB2.trans (hb.mono HB2.size)
  have A0_3 := A0_2.below hb
  clear A0_2
  have A1_3 := A1_2.below hb
  clear A1_2
  have BA0_2 := BA0_1.below hb
  clear BA0_1
  have BA1_1 := BA1_0.below hb
  clear BA1_0
  clear hb
  by_cases hsz0 : szV (sizeT xs0) 1048576 < 0
  · go_wp2
    go_ret
    exact ⟨rfl, HB3⟩
  have hle0 := szT_ok (Int.not_lt.1 hsz0) (by omega)
  obtain ⟨hn0, hl0, hk0⟩ := hle0
  have hnum0 : numT xs0 ≤ 1048576 := by unfold sizeT at hn0; omega
  obtain ⟨qBA10, qBA11⟩ := id BA1_1.now
  have qlBA1 : w.heap.size + 1 < w3.heap.size := by have := BA1_1.le; omega
  go_wp2_with fail
  refine (szPlane_c _ _ xs1 (szV (sizeT xs0) 1048576) _ A1_3.now.rd (by omega) (by omega)).mono ?_
  rintro e w4 ⟨rfl, hb⟩
  have hs4 := hb.size
  have HB4 := HB3.trans (hb.mono HB3.size)
  have A0_4 := A0_3.below hb
  clear A0_3
  have A1_4 := A1_3.below hb
  clear A1_3
  have BA0_3 := BA0_2.below hb
  clear BA0_2
  have BA1_2 := BA1_1.below hb
  clear BA1_1
  clear hb
  by_cases hsz1 : szV (sizeT xs1) (szV (sizeT xs0) 1048576) < 0
  · go_wp2
    go_ret
    exact ⟨rfl, HB4⟩
  have hle1 := szT_ok (Int.not_lt.1 hsz1) (by omega)
  obtain ⟨hn1, hl1, hk1⟩ := hle1
  have hnum1 : numT xs1 ≤ 1048576 := by unfold sizeT at hn1; omega
  obtain ⟨qBA00, qBA01⟩ := id BA0_3.now
  have qlBA0 : w.heap.size < w4.heap.size := by have := BA0_3.le; omega
  obtain ⟨qBA10, qBA11⟩ := id BA1_2.now
  have qlBA1 : w.heap.size + 1 < w4.heap.size := by have := BA1_2.le; omega
  go_wp2_with fail
  go_cut [6, 7] (fun sb sc u => ∃ (wz : World) (b c : Nat) (o : Option Addr), wz = u ∧ sb = .pointer (some ⟨b, 0, none⟩) ∧ sc = .int .i64 r.code ∧ w4.heap.size ≤ b ∧ Box2 u b (.int .i64 r.m) (.slice o r.xs.length c) ∧ OwI u w4.heap.size (.slice o r.xs.length c) r.xs ∧ r.xs.length ≤ 1048576 ∧ Below w4.heap.size w4 u)
  case first => as_aux_lemma =>
    have hd0 : Below w4.heap.size w4 w4.drew := (Below.refl _ _).drew
    have hsd0 := hd0.size
    have T0 := fun (u : World) (hu : Below w4.heap.size w4 u) => toPlane_c m0 (.slice o0 xs0.length c0) xs0 u ((A0_4.below hu).now.rd) hn0
    have TB0 := fun (u : World) (hu : Below w4.heap.size w4 u) => (BA0_3.below hu).now
    have T1 := fun (u : World) (hu : Below w4.heap.size w4 u) => toPlane_c m1 (.slice o1 xs1.length c1) xs1 u ((A1_4.below hu).now.rd) hn1
    have TB1 := fun (u : World) (hu : Below w4.heap.size w4 u) => (BA1_2.below hu).now
    clear qBA00 qBA01 qBA10 qBA11
    obtain ⟨qd0_0_0, qd0_0_1⟩ := TB0 _ (Below.refl _ _)
    obtain ⟨qd0_1_0, qd0_1_1⟩ := TB1 _ (Below.refl _ _)
    have hne0_0 : w4.heap.size ≠ w.heap.size := by omega
    have hne0_1 : w4.heap.size ≠ w.heap.size + 1 := by omega
    go_region_held3 (fun w' => w'.cell? ⟨w.heap.size, 0, none⟩ = some (.int .i64 m0) ∧ w'.cell? ⟨w.heap.size, 1, none⟩ = some (.slice o0 xs0.length c0) ∧ w'.cell? ⟨w.heap.size + 1, 0, none⟩ = some (.int .i64 m1) ∧ w'.cell? ⟨w.heap.size + 1, 1, none⟩ = some (.slice o1 xs1.length c1)) (go_keep)
      (first
        | (go_at_call_of 15 (Value.agg #[.int .i64 m0, .slice o0 xs0.length c0]); refine (T0 _ (by (repeat (first | exact Below.refl _ _ | (refine Below.setCell ?_ (by first | (simp; done) | (simp; omega) | omega) _) | (refine Below.alloc ?_ (by first | (simp; done) | (simp; omega) | omega) _) | (refine below_drewN ?_ _) | (refine Below.drew ?_))))).mono ?_; rintro e wd1 ⟨vS0, rfl, hod1, hbd1⟩; obtain ⟨oS0, cS0, rfl⟩ := hod1.shape; have hd1 : Below w4.heap.size w4 wd1 := (by (repeat (first | exact Below.refl _ _ | (refine Below.setCell ?_ (by first | (simp; done) | (simp; omega) | omega) _) | (refine Below.alloc ?_ (by first | (simp; done) | (simp; omega) | omega) _) | (refine below_drewN ?_ _) | (refine Below.drew ?_) | (refine Below.trans ?_ (Below.mono hbd1 (by first | (simp; done) | (simp; omega) | omega)))))); have hsd1 := hd1.size; have hsz1_ := hbd1.size; (try simp at hsz1_); obtain ⟨qd1_0_0, qd1_0_1⟩ := TB0 _ hd1; obtain ⟨qd1_1_0, qd1_1_1⟩ := TB1 _ hd1; have hne1_0 : wd1.heap.size ≠ w.heap.size := (by omega); have hne1_1 : wd1.heap.size ≠ w.heap.size + 1 := (by omega); (try (have RZ := RZ.below hbd1 (Nat.le_refl _))); (try (have RZ := (show RB2 (w4.alloc (.cells #[.int .i64 0, .slice none 0 0] 34)).drew w4.heap.size (.int .i64 0) (.slice none 0 0) from RB2.mk1 w4 (.int .i64 0) (.slice none 0 0) _).below hbd1 (Nat.le_refl _))); (try (obtain ⟨⟨z1_0, z1_1⟩, zf1⟩ := id RZ)))
        | (go_at_call_of 15 (Value.agg #[.int .i64 m1, .slice o1 xs1.length c1]); refine (T1 _ (by (repeat (first | exact Below.refl _ _ | (refine Below.setCell ?_ (by first | (simp; done) | (simp; omega) | omega) _) | (refine Below.alloc ?_ (by first | (simp; done) | (simp; omega) | omega) _) | (refine below_drewN ?_ _) | (refine Below.drew ?_) | (refine Below.trans ?_ (Below.mono hbd1 (by first | (simp; done) | (simp; omega) | omega))))))).mono ?_; rintro e wd2 ⟨vS1, rfl, hod2, hbd2⟩; obtain ⟨oS1, cS1, rfl⟩ := hod2.shape; have hd2 : Below w4.heap.size w4 wd2 := (by (repeat (first | exact Below.refl _ _ | (refine Below.setCell ?_ (by first | (simp; done) | (simp; omega) | omega) _) | (refine Below.alloc ?_ (by first | (simp; done) | (simp; omega) | omega) _) | (refine below_drewN ?_ _) | (refine Below.drew ?_) | (refine Below.trans ?_ (Below.mono hbd1 (by first | (simp; done) | (simp; omega) | omega))) | (refine Below.trans ?_ (Below.mono hbd2 (by first | (simp; done) | (simp; omega) | omega)))))); have hsd2 := hd2.size; have hsz2_ := hbd2.size; (try simp at hsz2_); obtain ⟨qd2_0_0, qd2_0_1⟩ := TB0 _ hd2; obtain ⟨qd2_1_0, qd2_1_1⟩ := TB1 _ hd2; have hne2_0 : wd2.heap.size ≠ w.heap.size := (by omega); have hne2_1 : wd2.heap.size ≠ w.heap.size + 1 := (by omega); (try (have RZ := RZ.below hbd2 (Nat.le_refl _))); (try (have RZ := (show RB2 (wd1.alloc (.cells #[.int .i64 0, .slice none 0 0] 34)) wd1.heap.size (.int .i64 0) (.slice none 0 0) from RB2.mk1 wd1 (.int .i64 0) (.slice none 0 0) _).below hbd2 (Nat.le_refl _))); (try (obtain ⟨⟨z2_0, z2_1⟩, zf2⟩ := id RZ)))
        | (go_at_call 45; refine (HS.out _ _ _ (by first | exact hod1.rd | exact (hod1.below hbd2).rd | exact ((hod1.below hbd2).alloc _).rd | exact ((hod1.alloc _).below hbd2).rd | exact (hod1.alloc _).rd | exact (hod1.below (by (repeat (first | exact Below.refl _ _ | (refine Below.setCell ?_ (by first | (simp; done) | (simp; omega) | omega) _) | (refine Below.alloc ?_ (by first | (simp; done) | (simp; omega) | omega) _) | (refine below_drewN ?_ _) | (refine Below.drew ?_) | (refine Below.trans ?_ (Below.mono hbd2 (by first | (simp; done) | (simp; omega) | omega))))))).rd) (by first | exact hod2.rd | exact (hod2.below hbd2).rd | exact ((hod2.below hbd2).alloc _).rd | exact ((hod2.alloc _).below hbd2).rd | exact (hod2.alloc _).rd | exact (hod2.below (by (repeat (first | exact Below.refl _ _ | (refine Below.setCell ?_ (by first | (simp; done) | (simp; omega) | omega) _) | (refine Below.alloc ?_ (by first | (simp; done) | (simp; omega) | omega) _) | (refine below_drewN ?_ _) | (refine Below.drew ?_))))).rd)).mono ?_; rintro e wd3 ⟨vS, rfl, hod3, hbd3, hlen⟩; obtain ⟨oS, cS, rfl⟩ := hod3.shape; have hd3 : Below w4.heap.size w4 wd3 := (by (repeat (first | exact Below.refl _ _ | (refine Below.setCell ?_ (by first | (simp; done) | (simp; omega) | omega) _) | (refine Below.alloc ?_ (by first | (simp; done) | (simp; omega) | omega) _) | (refine below_drewN ?_ _) | (refine Below.drew ?_) | (refine Below.trans ?_ (Below.mono hbd1 (by first | (simp; done) | (simp; omega) | omega))) | (refine Below.trans ?_ (Below.mono hbd2 (by first | (simp; done) | (simp; omega) | omega))) | (refine Below.trans ?_ (Below.mono hbd3 (by first | (simp; done) | (simp; omega) | omega)))))); have hsd3 := hd3.size; have hsz3_ := hbd3.size; (try simp at hsz3_); obtain ⟨qd3_0_0, qd3_0_1⟩ := TB0 _ hd3; obtain ⟨qd3_1_0, qd3_1_1⟩ := TB1 _ hd3; have hne3_0 : wd3.heap.size ≠ w.heap.size := (by omega); have hne3_1 : wd3.heap.size ≠ w.heap.size + 1 := (by omega); (try (have RZ := RZ.below hbd3 (Nat.le_refl _))); (try (have RZ := (show RB2 (wd2.alloc (.cells #[.int .i64 0, .slice none 0 0] 34)) wd2.heap.size (.int .i64 0) (.slice none 0 0) from RB2.mk1 wd2 (.int .i64 0) (.slice none 0 0) _).below hbd3 (Nat.le_refl _))); (try (obtain ⟨⟨z3_0, z3_1⟩, zf3⟩ := id RZ))))
    all_goals
      go_wp2_with fail
      go_meet
      refine ⟨_, _, cS, oS, rfl, rfl, rfl, ?_, ?_, ?_, hlen, ?_⟩
      · first | omega | (simp; done) | (simp; omega)
      · refine ⟨?_, ?_⟩ <;> first | (simp; done) | (simp [go_sem, *]; done)
      · first | exact (hod3.alloc _).mono (by first | (simp; done) | (simp; omega) | omega) | exact ((hod3.low (by first | (simp; done) | (simp; omega) | omega) _).low (by first | (simp; done) | (simp; omega) | omega) _).mono (by first | (simp; done) | (simp; omega) | omega)
      · (repeat (first | exact Below.refl _ _ | (refine Below.setCell ?_ (by first | (simp; done) | (simp; omega) | omega) _) | (refine Below.alloc ?_ (by first | (simp; done) | (simp; omega) | omega) _) | (refine below_drewN ?_ _) | (refine Below.drew ?_) | (refine Below.trans ?_ (Below.mono hbd1 (by first | (simp; done) | (simp; omega) | omega))) | (refine Below.trans ?_ (Below.mono hbd2 (by first | (simp; done) | (simp; omega) | omega))) | (refine Below.trans ?_ (Below.mono hbd3 (by first | (simp; done) | (simp; omega) | omega)))))
  case rest =>
  obtain ⟨w5, bS, cS, oS, rfl, rfl, rfl, hbS_, hX, ho, hlen, hb⟩ := hcut
  have hs5 := hb.size
  have HB5 := HB4.trans (hb.mono HB4.size)
  have A0_5 := A0_4.below hb
  clear A0_4
  have A1_5 := A1_4.below hb
  clear A1_4
  have BA0_4 := BA0_3.below hb
  clear BA0_3
  have BA1_3 := BA1_2.below hb
  clear BA1_2
  clear hb
  have S_0 := Lives.owR ho hs5
  have BS_0 := Lives.ofBox2 hX
  clear ho hX
  have hltS_ := BS_0.le
  obtain ⟨qBS0, qBS1⟩ := id BS_0.now
  have qlBS : bS < w5.heap.size := by have := BS_0.le; omega
  obtain ⟨qBA00, qBA01⟩ := id BA0_4.now
  have qlBA0 : w.heap.size < w5.heap.size := by have := BA0_4.le; omega
  go_wp2_with fail
  refine (toPlane_c _ _ xs0 _ A0_5.now.rd hn0).mono ?_
  rintro e w6 ⟨vx0, rfl, ho, hb⟩
  have hs6 := hb.size
  have HB6 := HB5.trans (hb.mono HB5.size)
  have A0_6 := A0_5.below hb
  clear A0_5
  have A1_6 := A1_5.below hb
  clear A1_5
  have BA0_5 := BA0_4.below hb
  clear BA0_4
  have BA1_4 := BA1_3.below hb
  clear BA1_3
  have S_1 := S_0.below hb
  clear S_0
  have BS_1 := BS_0.below hb
  clear BS_0
  clear hb
  obtain ⟨ox0, cx0, rfl⟩ := ho.shape
  have X0_0 := Lives.owS ho hs6
  clear ho
  obtain ⟨qBA10, qBA11⟩ := id BA1_4.now
  have qlBA1 : w.heap.size + 1 < w6.heap.size := by have := BA1_4.le; omega
  go_wp2_with fail
  have hb : Below w6.heap.size w6 (w6.alloc (.cells #[.int .i64 m0, .slice ox0 xs0.length cx0] 32)) := (by (repeat (first | exact Below.refl _ _ | (refine Below.setCell ?_ (by first | (simp; done) | (simp; omega) | omega) _) | (refine Below.alloc ?_ (by first | (simp; done) | (simp; omega) | omega) _) | (refine below_drewN ?_ _) | (refine Below.drew ?_))))
  have hz : (w6.alloc (.cells #[.int .i64 m0, .slice ox0 xs0.length cx0] 32)).heap.size = w6.heap.size + 1 := by simp
  have HB7 := HB6.trans (hb.mono HB6.size)
  have A0_7 := A0_6.below hb
  clear A0_6
  have A1_7 := A1_6.below hb
  clear A1_6
  have BA0_6 := BA0_5.below hb
  clear BA0_5
  have BA1_5 := BA1_4.below hb
  clear BA1_4
  have S_2 := S_1.below hb
  clear S_1
  have BS_2 := BS_1.below hb
  clear BS_1
  have X0_1 := X0_0.below hb
  clear X0_0
  have BX0_0 := Lives.box2 w6 (.int .i64 m0) (.slice ox0 xs0.length cx0) 32
  clear hb
  generalize w6.alloc (.cells #[.int .i64 m0, .slice ox0 xs0.length cx0] 32) = w7 at A0_7 A1_7 BA0_6 BA1_5 S_2 BS_2 X0_1 BX0_0 hz HB7 ⊢
  have hlt7 : w6.heap.size < w7.heap.size := by omega
  clear hz
  refine (toPlane_c _ _ xs1 _ A1_7.now.rd hn1).mono ?_
  rintro e w8 ⟨vx1, rfl, ho, hb⟩
  have hs8 := hb.size
  have HB8 := HB7.trans (hb.mono HB7.size)
  have A0_8 := A0_7.below hb
  clear A0_7
  have A1_8 := A1_7.below hb
  clear A1_7
  have BA0_7 := BA0_6.below hb
  clear BA0_6
  have BA1_6 := BA1_5.below hb
  clear BA1_5
  have S_3 := S_2.below hb
  clear S_2
  have BS_3 := BS_2.below hb
  clear BS_2
  have X0_2 := X0_1.below hb
  clear X0_1
  have BX0_1 := BX0_0.below hb
  clear BX0_0
  clear hb
  obtain ⟨ox1, cx1, rfl⟩ := ho.shape
  have X1_0 := Lives.owS ho hs8
  clear ho
  obtain ⟨qBX00, qBX01⟩ := id BX0_1.now
  have qlBX0 : w6.heap.size < w8.heap.size := by have := BX0_1.le; omega
  go_wp2_with fail
  have hb : Below w8.heap.size w8 (w8.alloc (.cells #[.int .i64 m1, .slice ox1 xs1.length cx1] 32)) := (by (repeat (first | exact Below.refl _ _ | (refine Below.setCell ?_ (by first | (simp; done) | (simp; omega) | omega) _) | (refine Below.alloc ?_ (by first | (simp; done) | (simp; omega) | omega) _) | (refine below_drewN ?_ _) | (refine Below.drew ?_))))
  have hz : (w8.alloc (.cells #[.int .i64 m1, .slice ox1 xs1.length cx1] 32)).heap.size = w8.heap.size + 1 := by simp
  have HB9 := HB8.trans (hb.mono HB8.size)
  have A0_9 := A0_8.below hb
  clear A0_8
  have A1_9 := A1_8.below hb
  clear A1_8
  have BA0_8 := BA0_7.below hb
  clear BA0_7
  have BA1_7 := BA1_6.below hb
  clear BA1_6
  have S_4 := S_3.below hb
  clear S_3
  have BS_4 := BS_3.below hb
  clear BS_3
  have X0_3 := X0_2.below hb
  clear X0_2
  have BX0_2 := BX0_1.below hb
  clear BX0_1
  have X1_1 := X1_0.below hb
  clear X1_0
  have BX1_0 := Lives.box2 w8 (.int .i64 m1) (.slice ox1 xs1.length cx1) 32
  clear hb
  generalize w8.alloc (.cells #[.int .i64 m1, .slice ox1 xs1.length cx1] 32) = w9 at A0_9 A1_9 BA0_8 BA1_7 S_4 BS_4 X0_3 BX0_2 X1_1 BX1_0 hz HB9 ⊢
  have hlt9 : w8.heap.size < w9.heap.size := by omega
  clear hz
  refine (HI.out _ _ _ (X0_3.now.rd) (X1_1.now.rd)).mono ?_
  rintro e w10 ⟨vG, rfl, ho, hb, hlen⟩
  have hs10 := hb.size
  have HB10 := HB9.trans (hb.mono HB9.size)
  have A0_10 := A0_9.below hb
  clear A0_9
  have A1_10 := A1_9.below hb
  clear A1_9
  have BA0_9 := BA0_8.below hb
  clear BA0_8
  have BA1_8 := BA1_7.below hb
  clear BA1_7
  have S_5 := S_4.below hb
  clear S_4
  have BS_5 := BS_4.below hb
  clear BS_4
  have X0_4 := X0_3.below hb
  clear X0_3
  have BX0_3 := BX0_2.below hb
  clear BX0_2
  have X1_2 := X1_1.below hb
  clear X1_1
  have BX1_1 := BX1_0.below hb
  clear BX1_0
  clear hb
  obtain ⟨oG, cG, rfl⟩ := ho.shape
  have G_0 := Lives.owR ho hs10
  clear ho
  obtain ⟨qBS0, qBS1⟩ := id BS_5.now
  have qlBS : bS < w10.heap.size := by have := BS_5.le; omega
  have hq : (r.code != r.code) = false := by simp
  go_wp2_with fail
  clear hq
  have hb : Below w10.heap.size w10 (w10.alloc (.cells #[.int .i64 r.m, .slice oG r.xs.length cG] 34)) := (by (repeat (first | exact Below.refl _ _ | (refine Below.setCell ?_ (by first | (simp; done) | (simp; omega) | omega) _) | (refine Below.alloc ?_ (by first | (simp; done) | (simp; omega) | omega) _) | (refine below_drewN ?_ _) | (refine Below.drew ?_))))
  have hz : (w10.alloc (.cells #[.int .i64 r.m, .slice oG r.xs.length cG] 34)).heap.size = w10.heap.size + 1 := by simp
  have HB11 := HB10.trans (hb.mono HB10.size)
  have A0_11 := A0_10.below hb
  clear A0_10
  have A1_11 := A1_10.below hb
  clear A1_10
  have BA0_10 := BA0_9.below hb
  clear BA0_9
  have BA1_9 := BA1_8.below hb
  clear BA1_8
  have S_6 := S_5.below hb
  clear S_5
  have BS_6 := BS_5.below hb
  clear BS_5
  have X0_5 := X0_4.below hb
  clear X0_4
  have BX0_4 := BX0_3.below hb
  clear BX0_3
  have X1_3 := X1_2.below hb
  clear X1_2
  have BX1_2 := BX1_1.below hb
  clear BX1_1
  have G_1 := G_0.below hb
  clear G_0
  have BG_0 := Lives.box2 w10 (.int .i64 r.m) (.slice oG r.xs.length cG) 34
  clear hb
  generalize w10.alloc (.cells #[.int .i64 r.m, .slice oG r.xs.length cG] 34) = w11 at A0_11 A1_11 BA0_10 BA1_9 S_6 BS_6 X0_5 BX0_4 X1_3 BX1_2 G_1 BG_0 hz HB11 ⊢
  have hlt11 : w10.heap.size < w11.heap.size := by omega
  clear hz
  have hq : (r.code != r.code) = false := by simp
  refine (eqSeries_c _   _   _ _ r.xs r.xs _ G_1.now.1.rd S_6.now.1.rd).mono ?_
  rw [eqSB_self]
  rintro e w12 ⟨rfl, hb⟩
  have hs12 := hb.size
  have HB12 := HB11.trans (hb.mono HB11.size)
  have A0_12 := A0_11.below hb
  clear A0_11
  have A1_12 := A1_11.below hb
  clear A1_11
  have BA0_11 := BA0_10.below hb
  clear BA0_10
  have BA1_10 := BA1_9.below hb
  clear BA1_9
  have S_7 := S_6.below hb
  clear S_6
  have BS_7 := BS_6.below hb
  clear BS_6
  have X0_6 := X0_5.below hb
  clear X0_5
  have BX0_5 := BX0_4.below hb
  clear BX0_4
  have X1_4 := X1_3.below hb
  clear X1_3
  have BX1_3 := BX1_2.below hb
  clear BX1_2
  have G_2 := G_1.below hb
  clear G_1
  have BG_1 := BG_0.below hb
  clear BG_0
  clear hb
  go_wp2_with fail
  have hb : Below w12.heap.size w12 w12.drew := (Below.refl _ _).drew
  have HBd0 := HB12.trans (hb.mono HB12.size)
  have hsd0 := hb.size
  have A0_13 := A0_12.below hb
  clear A0_12
  have A1_13 := A1_12.below hb
  clear A1_12
  have BA0_12 := BA0_11.below hb
  clear BA0_11
  have BA1_11 := BA1_10.below hb
  clear BA1_10
  have S_8 := S_7.below hb
  clear S_7
  have BS_8 := BS_7.below hb
  clear BS_7
  have X0_7 := X0_6.below hb
  clear X0_6
  have BX0_6 := BX0_5.below hb
  clear BX0_5
  have X1_5 := X1_4.below hb
  clear X1_4
  have BX1_4 := BX1_3.below hb
  clear BX1_3
  have G_3 := G_2.below hb
  clear G_2
  have BG_2 := BG_1.below hb
  clear BG_1
  clear hb
  obtain ⟨qBA00, qBA01⟩ := id BA0_12.now
  have qlBA0 : w.heap.size < w12.heap.size := by have := BA0_12.le; omega
  obtain ⟨qBX00, qBX01⟩ := id BX0_6.now
  have qlBX0 : w6.heap.size < w12.heap.size := by have := BX0_6.le; omega
  go_region_held3 (fun w' => w'.cell? ⟨w.heap.size, 0, none⟩ = some (.int .i64 m0) ∧ w'.cell? ⟨w.heap.size, 1, none⟩ = some (.slice o0 xs0.length c0) ∧ w'.cell? ⟨w6.heap.size, 0, none⟩ = some (.int .i64 m0) ∧ w'.cell? ⟨w6.heap.size, 1, none⟩ = some (.slice ox0 xs0.length cx0)) (go_keep)
    (first
      | (go_at_call 15; refine (toPlane_c _ _ xs0 _ A0_13.now.rd hn0).mono ?_; rintro e w13 ⟨vy0, rfl, ho, hb⟩; have hs13 := hb.size; have HB13 := HBd0.trans (hb.mono HBd0.size); have A0_14 := A0_13.below hb; clear A0_13; have A1_14 := A1_13.below hb; clear A1_13; have BA0_13 := BA0_12.below hb; clear BA0_12; have BA1_12 := BA1_11.below hb; clear BA1_11; have S_9 := S_8.below hb; clear S_8; have BS_9 := BS_8.below hb; clear BS_8; have X0_8 := X0_7.below hb; clear X0_7; have BX0_7 := BX0_6.below hb; clear BX0_6; have X1_6 := X1_5.below hb; clear X1_5; have BX1_5 := BX1_4.below hb; clear BX1_4; have G_4 := G_3.below hb; clear G_3; have BG_3 := BG_2.below hb; clear BG_2; have Y0_0 := Lives.owS ho hs13; clear ho hb; obtain ⟨qBA00, qBA01⟩ := id BA0_13.now; obtain ⟨qBX00, qBX01⟩ := id BX0_7.now)
      | (go_at_call 18; refine (eqPlane_c _ _ _ _ xs0 xs0 _ X0_8.now.rd Y0_0.now.rd).mono ?_; rw [eqPB_self]; rintro e w14 ⟨rfl, hb⟩; have hs14 := hb.size; have HB14 := HB13.trans (hb.mono HB13.size); have A0_15 := A0_14.below hb; clear A0_14; have A1_15 := A1_14.below hb; clear A1_14; have BA0_14 := BA0_13.below hb; clear BA0_13; have BA1_13 := BA1_12.below hb; clear BA1_12; have S_10 := S_9.below hb; clear S_9; have BS_10 := BS_9.below hb; clear BS_9; have X0_9 := X0_8.below hb; clear X0_8; have BX0_8 := BX0_7.below hb; clear BX0_7; have X1_7 := X1_6.below hb; clear X1_6; have BX1_6 := BX1_5.below hb; clear BX1_5; have G_5 := G_4.below hb; clear G_4; have BG_4 := BG_3.below hb; clear BG_3; clear hb; obtain ⟨qBA00, qBA01⟩ := id BA0_14.now; obtain ⟨qBX00, qBX01⟩ := id BX0_8.now))
  go_wp2_with fail
  have hb : Below w14.heap.size w14 w14.drew := (Below.refl _ _).drew
  have HBd1 := HB14.trans (hb.mono HB14.size)
  have hsd1 := hb.size
  have A0_16 := A0_15.below hb
  clear A0_15
  have A1_16 := A1_15.below hb
  clear A1_15
  have BA0_15 := BA0_14.below hb
  clear BA0_14
  have BA1_14 := BA1_13.below hb
  clear BA1_13
  have S_11 := S_10.below hb
  clear S_10
  have BS_11 := BS_10.below hb
  clear BS_10
  have X0_10 := X0_9.below hb
  clear X0_9
  have BX0_9 := BX0_8.below hb
  clear BX0_8
  have X1_8 := X1_7.below hb
  clear X1_7
  have BX1_7 := BX1_6.below hb
  clear BX1_6
  have G_6 := G_5.below hb
  clear G_5
  have BG_5 := BG_4.below hb
  clear BG_4
  clear hb
  obtain ⟨qBA10, qBA11⟩ := id BA1_14.now
  have qlBA1 : w.heap.size + 1 < w14.heap.size := by have := BA1_14.le; omega
  obtain ⟨qBX10, qBX11⟩ := id BX1_7.now
  have qlBX1 : w8.heap.size < w14.heap.size := by have := BX1_7.le; omega
  go_region_held3 (fun w' => w'.cell? ⟨w.heap.size + 1, 0, none⟩ = some (.int .i64 m1) ∧ w'.cell? ⟨w.heap.size + 1, 1, none⟩ = some (.slice o1 xs1.length c1) ∧ w'.cell? ⟨w8.heap.size, 0, none⟩ = some (.int .i64 m1) ∧ w'.cell? ⟨w8.heap.size, 1, none⟩ = some (.slice ox1 xs1.length cx1)) (go_keep)
    (first
      | (go_at_call 15; refine (toPlane_c _ _ xs1 _ A1_16.now.rd hn1).mono ?_; rintro e w15 ⟨vy1, rfl, ho, hb⟩; have hs15 := hb.size; have HB15 := HBd1.trans (hb.mono HBd1.size); have A0_17 := A0_16.below hb; clear A0_16; have A1_17 := A1_16.below hb; clear A1_16; have BA0_16 := BA0_15.below hb; clear BA0_15; have BA1_15 := BA1_14.below hb; clear BA1_14; have S_12 := S_11.below hb; clear S_11; have BS_12 := BS_11.below hb; clear BS_11; have X0_11 := X0_10.below hb; clear X0_10; have BX0_10 := BX0_9.below hb; clear BX0_9; have X1_9 := X1_8.below hb; clear X1_8; have BX1_8 := BX1_7.below hb; clear BX1_7; have G_7 := G_6.below hb; clear G_6; have BG_6 := BG_5.below hb; clear BG_5; have Y1_0 := Lives.owS ho hs15; clear ho hb; obtain ⟨qBA10, qBA11⟩ := id BA1_15.now; obtain ⟨qBX10, qBX11⟩ := id BX1_8.now)
      | (go_at_call 18; refine (eqPlane_c _ _ _ _ xs1 xs1 _ X1_9.now.rd Y1_0.now.rd).mono ?_; rw [eqPB_self]; rintro e w16 ⟨rfl, hb⟩; have hs16 := hb.size; have HB16 := HB15.trans (hb.mono HB15.size); have A0_18 := A0_17.below hb; clear A0_17; have A1_18 := A1_17.below hb; clear A1_17; have BA0_17 := BA0_16.below hb; clear BA0_16; have BA1_16 := BA1_15.below hb; clear BA1_15; have S_13 := S_12.below hb; clear S_12; have BS_13 := BS_12.below hb; clear BS_12; have X0_12 := X0_11.below hb; clear X0_11; have BX0_11 := BX0_10.below hb; clear BX0_10; have X1_10 := X1_9.below hb; clear X1_9; have BX1_9 := BX1_8.below hb; clear BX1_8; have G_8 := G_7.below hb; clear G_7; have BG_7 := BG_6.below hb; clear BG_6; clear hb; obtain ⟨qBA10, qBA11⟩ := id BA1_16.now; obtain ⟨qBX10, qBX11⟩ := id BX1_9.now))
  obtain ⟨qBX00, qBX01⟩ := id BX0_11.now
  have qlBX0 : w6.heap.size < w16.heap.size := by have := BX0_11.le; omega
  go_wp2_with fail
  refine (markPlane_c _ _ xs0 (1) _ _ _ X0_12.now X0_12.le (by omega) (by omega) (by omega)).mono ?_
  rintro e w17 ⟨rfl, ho, hc⟩
  have hs17 := hc.size
  have HB17 := Chg.below HB16 hc (by have := HB16.size; omega) (by have := HB16.size; omega)
  have A0_19 := A0_18.chg hc (by omega)
  clear A0_18
  have A1_19 := A1_18.chg hc (by omega)
  clear A1_18
  have BA0_18 := BA0_17.chg hc (by omega)
  clear BA0_17
  have BA1_17 := BA1_16.chg hc (by omega)
  clear BA1_16
  have S_14 := S_13.chg hc (by omega)
  clear S_13
  have BS_14 := BS_13.chg hc (by omega)
  clear BS_13
  have BX0_12 := BX0_11.chg hc (by omega)
  clear BX0_11
  have X1_11 := X1_10.chg hc (by omega)
  clear X1_10
  have BX1_10 := BX1_9.chg hc (by omega)
  clear BX1_9
  have G_9 := G_8.chg hc (by omega)
  clear G_8
  have BG_8 := BG_7.chg hc (by omega)
  clear BG_7
  have X0_13 := Lives.markedT X0_12 ho hc
  clear X0_12 hc ho
  obtain ⟨qBX10, qBX11⟩ := id BX1_10.now
  have qlBX1 : w8.heap.size < w17.heap.size := by have := BX1_10.le; omega
  go_wp2_with fail
  refine (markPlane_c _ _ xs1 (1 + (numT xs0 : Nat)) _ _ _ X1_11.now X1_11.le (by omega) (by omega) (by omega)).mono ?_
  rintro e w18 ⟨rfl, ho, hc⟩
  have hs18 := hc.size
  have HB18 := Chg.below HB17 hc (by have := HB17.size; omega) (by have := HB17.size; omega)
  have A0_20 := A0_19.chg hc (by omega)
  clear A0_19
  have A1_20 := A1_19.chg hc (by omega)
  clear A1_19
  have BA0_19 := BA0_18.chg hc (by omega)
  clear BA0_18
  have BA1_18 := BA1_17.chg hc (by omega)
  clear BA1_17
  have S_15 := S_14.chg hc (by omega)
  clear S_14
  have BS_15 := BS_14.chg hc (by omega)
  clear BS_14
  have X0_14 := X0_13.chg hc (by omega)
  clear X0_13
  have BX0_13 := BX0_12.chg hc (by omega)
  clear BX0_12
  have BX1_11 := BX1_10.chg hc (by omega)
  clear BX1_10
  have G_10 := G_9.chg hc (by omega)
  clear G_9
  have BG_9 := BG_8.chg hc (by omega)
  clear BG_8
  have X1_12 := Lives.markedT X1_11 ho hc
  clear X1_11 hc ho
  obtain ⟨qBG0, qBG1⟩ := id BG_9.now
  have qlBG : w10.heap.size < w18.heap.size := by have := BG_9.le; omega
  obtain ⟨qBS0, qBS1⟩ := id BS_15.now
  have qlBS : bS < w18.heap.size := by have := BS_15.le; omega
  have hq : (r.code != r.code) = false := by simp
  go_wp2_with fail
  clear hq
  have hq : (r.code != r.code) = false := by simp
  refine (eqSeries_c _   _   _ _ r.xs r.xs _ G_10.now.1.rd S_15.now.1.rd).mono ?_
  rw [eqSB_self]
  rintro e w19 ⟨rfl, hb⟩
  have hs19 := hb.size
  have HB19 := HB18.trans (hb.mono HB18.size)
  have A0_21 := A0_20.below hb
  clear A0_20
  have A1_21 := A1_20.below hb
  clear A1_20
  have BA0_20 := BA0_19.below hb
  clear BA0_19
  have BA1_19 := BA1_18.below hb
  clear BA1_18
  have S_16 := S_15.below hb
  clear S_15
  have BS_16 := BS_15.below hb
  clear BS_15
  have X0_15 := X0_14.below hb
  clear X0_14
  have BX0_14 := BX0_13.below hb
  clear BX0_13
  have X1_13 := X1_12.below hb
  clear X1_12
  have BX1_12 := BX1_11.below hb
  clear BX1_11
  have G_11 := G_10.below hb
  clear G_10
  have BG_10 := BG_9.below hb
  clear BG_9
  clear hb
  obtain ⟨qBG0, qBG1⟩ := id BG_10.now
  have qlBG : w10.heap.size < w19.heap.size := by have := BG_10.le; omega
  go_wp2_with fail
  have hrow := G_11.now.2
  refine (markSeries_c _ _ r.xs (1) _ _ G_11.now.1 (by omega) (by omega) (by omega)).mono ?_
  rintro e w20 ⟨rfl, ho, hg⟩
  have hc := chg_of_row G_11 hrow hg
  have hs20 := hc.size
  have HB20 := Chg.below HB19 hc (by have := HB19.size; omega) (by have := HB19.size; omega)
  have A0_22 := A0_21.chg hc (by omega)
  clear A0_21
  have A1_22 := A1_21.chg hc (by omega)
  clear A1_21
  have BA0_21 := BA0_20.chg hc (by omega)
  clear BA0_20
  have BA1_20 := BA1_19.chg hc (by omega)
  clear BA1_19
  have S_17 := S_16.chg hc (by omega)
  clear S_16
  have BS_17 := BS_16.chg hc (by omega)
  clear BS_16
  have X0_16 := X0_15.chg hc (by omega)
  clear X0_15
  have BX0_15 := BX0_14.chg hc (by omega)
  clear BX0_14
  have X1_14 := X1_13.chg hc (by omega)
  clear X1_13
  have BX1_13 := BX1_12.chg hc (by omega)
  clear BX1_12
  have BG_11 := BG_10.chg hc (by omega)
  clear BG_10
  have G_12 := Lives.marked G_11 ho hc
  clear G_11 hc hg ho hrow
  obtain ⟨qBG0, qBG1⟩ := id BG_11.now
  have qlBG : w10.heap.size < w20.heap.size := by have := BG_11.le; omega
  go_wp2_with fail
  refine (heldSeries_c _ _ _ 1 _ (G_12.now.1.rd) (by omega) (by omega) (by omega)).mono ?_
  rintro e w21 ⟨rfl, hb⟩
  have hs21 := hb.size
  have HB21 := HB20.trans (hb.mono HB20.size)
  have A0_23 := A0_22.below hb
  clear A0_22
  have A1_23 := A1_22.below hb
  clear A1_22
  have BA0_22 := BA0_21.below hb
  clear BA0_21
  have BA1_21 := BA1_20.below hb
  clear BA1_20
  have S_18 := S_17.below hb
  clear S_17
  have BS_18 := BS_17.below hb
  clear BS_17
  have X0_17 := X0_16.below hb
  clear X0_16
  have BX0_16 := BX0_15.below hb
  clear BX0_15
  have X1_15 := X1_14.below hb
  clear X1_14
  have BX1_14 := BX1_13.below hb
  clear BX1_13
  have G_13 := G_12.below hb
  clear G_12
  have BG_12 := BG_11.below hb
  clear BG_11
  clear hb
  obtain ⟨qBA00, qBA01⟩ := id BA0_22.now
  have qlBA0 : w.heap.size < w21.heap.size := by have := BA0_22.le; omega
  obtain ⟨qBA10, qBA11⟩ := id BA1_21.now
  have qlBA1 : w.heap.size + 1 < w21.heap.size := by have := BA1_21.le; omega
  go_wp2_with fail
  go_cut [15, 16] (fun sb sc u => ∃ (wz : World) (b c : Nat) (o : Option Addr), wz = u ∧ sb = .pointer (some ⟨b, 0, none⟩) ∧ sc = .int .i64 r.code ∧ w21.heap.size ≤ b ∧ Box2 u b (.int .i64 r.m) (.slice o r.xs.length c) ∧ OwI u w21.heap.size (.slice o r.xs.length c) r.xs ∧ r.xs.length ≤ 1048576 ∧ Below w21.heap.size w21 u)
  case first => as_aux_lemma =>
    have hd0 : Below w21.heap.size w21 w21.drew := (Below.refl _ _).drew
    have hsd0 := hd0.size
    have T0 := fun (u : World) (hu : Below w21.heap.size w21 u) => toPlane_c m0 (.slice o0 xs0.length c0) xs0 u ((A0_23.below hu).now.rd) hn0
    have TB0 := fun (u : World) (hu : Below w21.heap.size w21 u) => (BA0_22.below hu).now
    have T1 := fun (u : World) (hu : Below w21.heap.size w21 u) => toPlane_c m1 (.slice o1 xs1.length c1) xs1 u ((A1_23.below hu).now.rd) hn1
    have TB1 := fun (u : World) (hu : Below w21.heap.size w21 u) => (BA1_21.below hu).now
    clear qBA00 qBA01 qBA10 qBA11
    obtain ⟨qd0_0_0, qd0_0_1⟩ := TB0 _ (Below.refl _ _)
    obtain ⟨qd0_1_0, qd0_1_1⟩ := TB1 _ (Below.refl _ _)
    have hne0_0 : w21.heap.size ≠ w.heap.size := by omega
    have hne0_1 : w21.heap.size ≠ w.heap.size + 1 := by omega
    go_region_held3 (fun w' => w'.cell? ⟨w.heap.size, 0, none⟩ = some (.int .i64 m0) ∧ w'.cell? ⟨w.heap.size, 1, none⟩ = some (.slice o0 xs0.length c0) ∧ w'.cell? ⟨w.heap.size + 1, 0, none⟩ = some (.int .i64 m1) ∧ w'.cell? ⟨w.heap.size + 1, 1, none⟩ = some (.slice o1 xs1.length c1)) (go_keep)
      (first
        | (go_at_call_of 15 (Value.agg #[.int .i64 m0, .slice o0 xs0.length c0]); refine (T0 _ (by (repeat (first | exact Below.refl _ _ | (refine Below.setCell ?_ (by first | (simp; done) | (simp; omega) | omega) _) | (refine Below.alloc ?_ (by first | (simp; done) | (simp; omega) | omega) _) | (refine below_drewN ?_ _) | (refine Below.drew ?_))))).mono ?_; rintro e wd1 ⟨vH0, rfl, hod1, hbd1⟩; obtain ⟨oH0, cH0, rfl⟩ := hod1.shape; have hd1 : Below w21.heap.size w21 wd1 := (by (repeat (first | exact Below.refl _ _ | (refine Below.setCell ?_ (by first | (simp; done) | (simp; omega) | omega) _) | (refine Below.alloc ?_ (by first | (simp; done) | (simp; omega) | omega) _) | (refine below_drewN ?_ _) | (refine Below.drew ?_) | (refine Below.trans ?_ (Below.mono hbd1 (by first | (simp; done) | (simp; omega) | omega)))))); have hsd1 := hd1.size; have hsz1_ := hbd1.size; (try simp at hsz1_); obtain ⟨qd1_0_0, qd1_0_1⟩ := TB0 _ hd1; obtain ⟨qd1_1_0, qd1_1_1⟩ := TB1 _ hd1; have hne1_0 : wd1.heap.size ≠ w.heap.size := (by omega); have hne1_1 : wd1.heap.size ≠ w.heap.size + 1 := (by omega); (try (have RZ := RZ.below hbd1 (Nat.le_refl _))); (try (have RZ := (show RB2 (w21.alloc (.cells #[.int .i64 0, .slice none 0 0] 34)).drew w21.heap.size (.int .i64 0) (.slice none 0 0) from RB2.mk1 w21 (.int .i64 0) (.slice none 0 0) _).below hbd1 (Nat.le_refl _))); (try (obtain ⟨⟨z1_0, z1_1⟩, zf1⟩ := id RZ)))
        | (go_at_call_of 15 (Value.agg #[.int .i64 m1, .slice o1 xs1.length c1]); refine (T1 _ (by (repeat (first | exact Below.refl _ _ | (refine Below.setCell ?_ (by first | (simp; done) | (simp; omega) | omega) _) | (refine Below.alloc ?_ (by first | (simp; done) | (simp; omega) | omega) _) | (refine below_drewN ?_ _) | (refine Below.drew ?_) | (refine Below.trans ?_ (Below.mono hbd1 (by first | (simp; done) | (simp; omega) | omega))))))).mono ?_; rintro e wd2 ⟨vH1, rfl, hod2, hbd2⟩; obtain ⟨oH1, cH1, rfl⟩ := hod2.shape; have hd2 : Below w21.heap.size w21 wd2 := (by (repeat (first | exact Below.refl _ _ | (refine Below.setCell ?_ (by first | (simp; done) | (simp; omega) | omega) _) | (refine Below.alloc ?_ (by first | (simp; done) | (simp; omega) | omega) _) | (refine below_drewN ?_ _) | (refine Below.drew ?_) | (refine Below.trans ?_ (Below.mono hbd1 (by first | (simp; done) | (simp; omega) | omega))) | (refine Below.trans ?_ (Below.mono hbd2 (by first | (simp; done) | (simp; omega) | omega)))))); have hsd2 := hd2.size; have hsz2_ := hbd2.size; (try simp at hsz2_); obtain ⟨qd2_0_0, qd2_0_1⟩ := TB0 _ hd2; obtain ⟨qd2_1_0, qd2_1_1⟩ := TB1 _ hd2; have hne2_0 : wd2.heap.size ≠ w.heap.size := (by omega); have hne2_1 : wd2.heap.size ≠ w.heap.size + 1 := (by omega); (try (have RZ := RZ.below hbd2 (Nat.le_refl _))); (try (have RZ := (show RB2 (wd1.alloc (.cells #[.int .i64 0, .slice none 0 0] 34)) wd1.heap.size (.int .i64 0) (.slice none 0 0) from RB2.mk1 wd1 (.int .i64 0) (.slice none 0 0) _).below hbd2 (Nat.le_refl _))); (try (obtain ⟨⟨z2_0, z2_1⟩, zf2⟩ := id RZ)))
        | (go_at_call 46; refine (HI.out _ _ _ (by first | exact hod1.rd | exact (hod1.below hbd2).rd | exact ((hod1.below hbd2).alloc _).rd | exact ((hod1.alloc _).below hbd2).rd | exact (hod1.alloc _).rd | exact (hod1.below (by (repeat (first | exact Below.refl _ _ | (refine Below.setCell ?_ (by first | (simp; done) | (simp; omega) | omega) _) | (refine Below.alloc ?_ (by first | (simp; done) | (simp; omega) | omega) _) | (refine below_drewN ?_ _) | (refine Below.drew ?_) | (refine Below.trans ?_ (Below.mono hbd2 (by first | (simp; done) | (simp; omega) | omega))))))).rd) (by first | exact hod2.rd | exact (hod2.below hbd2).rd | exact ((hod2.below hbd2).alloc _).rd | exact ((hod2.alloc _).below hbd2).rd | exact (hod2.alloc _).rd | exact (hod2.below (by (repeat (first | exact Below.refl _ _ | (refine Below.setCell ?_ (by first | (simp; done) | (simp; omega) | omega) _) | (refine Below.alloc ?_ (by first | (simp; done) | (simp; omega) | omega) _) | (refine below_drewN ?_ _) | (refine Below.drew ?_))))).rd)).mono ?_; rintro e wd3 ⟨vH, rfl, hod3, hbd3, hlen⟩; obtain ⟨oH, cH, rfl⟩ := hod3.shape; have hd3 : Below w21.heap.size w21 wd3 := (by (repeat (first | exact Below.refl _ _ | (refine Below.setCell ?_ (by first | (simp; done) | (simp; omega) | omega) _) | (refine Below.alloc ?_ (by first | (simp; done) | (simp; omega) | omega) _) | (refine below_drewN ?_ _) | (refine Below.drew ?_) | (refine Below.trans ?_ (Below.mono hbd1 (by first | (simp; done) | (simp; omega) | omega))) | (refine Below.trans ?_ (Below.mono hbd2 (by first | (simp; done) | (simp; omega) | omega))) | (refine Below.trans ?_ (Below.mono hbd3 (by first | (simp; done) | (simp; omega) | omega)))))); have hsd3 := hd3.size; have hsz3_ := hbd3.size; (try simp at hsz3_); obtain ⟨qd3_0_0, qd3_0_1⟩ := TB0 _ hd3; obtain ⟨qd3_1_0, qd3_1_1⟩ := TB1 _ hd3; have hne3_0 : wd3.heap.size ≠ w.heap.size := (by omega); have hne3_1 : wd3.heap.size ≠ w.heap.size + 1 := (by omega); (try (have RZ := RZ.below hbd3 (Nat.le_refl _))); (try (have RZ := (show RB2 (wd2.alloc (.cells #[.int .i64 0, .slice none 0 0] 34)) wd2.heap.size (.int .i64 0) (.slice none 0 0) from RB2.mk1 wd2 (.int .i64 0) (.slice none 0 0) _).below hbd3 (Nat.le_refl _))); (try (obtain ⟨⟨z3_0, z3_1⟩, zf3⟩ := id RZ))))
    all_goals
      go_wp2_with fail
      go_meet
      refine ⟨_, _, cH, oH, rfl, rfl, rfl, ?_, ?_, ?_, hlen, ?_⟩
      · first | omega | (simp; done) | (simp; omega)
      · refine ⟨?_, ?_⟩ <;> first | (simp; done) | (simp [go_sem, *]; done)
      · first | exact (hod3.alloc _).mono (by first | (simp; done) | (simp; omega) | omega) | exact ((hod3.low (by first | (simp; done) | (simp; omega) | omega) _).low (by first | (simp; done) | (simp; omega) | omega) _).mono (by first | (simp; done) | (simp; omega) | omega)
      · (repeat (first | exact Below.refl _ _ | (refine Below.setCell ?_ (by first | (simp; done) | (simp; omega) | omega) _) | (refine Below.alloc ?_ (by first | (simp; done) | (simp; omega) | omega) _) | (refine below_drewN ?_ _) | (refine Below.drew ?_) | (refine Below.trans ?_ (Below.mono hbd1 (by first | (simp; done) | (simp; omega) | omega))) | (refine Below.trans ?_ (Below.mono hbd2 (by first | (simp; done) | (simp; omega) | omega))) | (refine Below.trans ?_ (Below.mono hbd3 (by first | (simp; done) | (simp; omega) | omega)))))
  case rest =>
  obtain ⟨w22, bH, cH, oH, rfl, rfl, rfl, hbH_, hX, ho, hlen, hb⟩ := hcut
  have hs22 := hb.size
  have HB22 := HB21.trans (hb.mono HB21.size)
  have A0_24 := A0_23.below hb
  clear A0_23
  have A1_24 := A1_23.below hb
  clear A1_23
  have BA0_23 := BA0_22.below hb
  clear BA0_22
  have BA1_22 := BA1_21.below hb
  clear BA1_21
  have S_19 := S_18.below hb
  clear S_18
  have BS_19 := BS_18.below hb
  clear BS_18
  have G_14 := G_13.below hb
  clear G_13
  have BG_13 := BG_12.below hb
  clear BG_12
  clear hb
  have H_0 := Lives.owR ho hs22
  have BH_0 := Lives.ofBox2 hX
  clear ho hX
  have hltH_ := BH_0.le
  obtain ⟨qBH0, qBH1⟩ := id BH_0.now
  have qlBH : bH < w22.heap.size := by have := BH_0.le; omega
  obtain ⟨qBS0, qBS1⟩ := id BS_19.now
  have qlBS : bS < w22.heap.size := by have := BS_19.le; omega
  have hq : (r.code != r.code) = false := by simp
  go_wp2_with fail
  clear hq
  have hq : (r.code != r.code) = false := by simp
  refine (eqSeries_c _   _   _ _ r.xs r.xs _ H_0.now.1.rd S_19.now.1.rd).mono ?_
  rw [eqSB_self]
  rintro e w23 ⟨rfl, hb⟩
  have hs23 := hb.size
  have HB23 := HB22.trans (hb.mono HB22.size)
  have A0_25 := A0_24.below hb
  clear A0_24
  have A1_25 := A1_24.below hb
  clear A1_24
  have BA0_24 := BA0_23.below hb
  clear BA0_23
  have BA1_23 := BA1_22.below hb
  clear BA1_22
  have S_20 := S_19.below hb
  clear S_19
  have BS_20 := BS_19.below hb
  clear BS_19
  have G_15 := G_14.below hb
  clear G_14
  have BG_14 := BG_13.below hb
  clear BG_13
  have H_1 := H_0.below hb
  clear H_0
  have BH_1 := BH_0.below hb
  clear BH_0
  clear hb
  obtain ⟨qBG0, qBG1⟩ := id BG_14.now
  have qlBG : w10.heap.size < w23.heap.size := by have := BG_14.le; omega
  go_wp2_with fail
  refine (heldSeries_c _ _ _ 1 _ (G_15.now.1.rd) (by omega) (by omega) (by omega)).mono ?_
  rintro e w24 ⟨rfl, hb⟩
  have hs24 := hb.size
  have HB24 := HB23.trans (hb.mono HB23.size)
  have A0_26 := A0_25.below hb
  clear A0_25
  have A1_26 := A1_25.below hb
  clear A1_25
  have BA0_25 := BA0_24.below hb
  clear BA0_24
  have BA1_24 := BA1_23.below hb
  clear BA1_23
  have S_21 := S_20.below hb
  clear S_20
  have BS_21 := BS_20.below hb
  clear BS_20
  have G_16 := G_15.below hb
  clear G_15
  have BG_15 := BG_14.below hb
  clear BG_14
  have H_2 := H_1.below hb
  clear H_1
  have BH_2 := BH_1.below hb
  clear BH_1
  clear hb
  go_wp2
  go_ret
  exact ⟨rfl, HB24⟩

set_option maxRecDepth 100000 in
theorem StrictIsomorphism_lifted (os : Os) (started : os.Started) (H : Type) (enc : TypeId × Value → H) :
    ReturnsInHanded {} Try.checked os 11 .any (Rows.fnExactStrictIsomorphismSpec.pre6 enc Try.prog Try.f11 Rows.fnExactStrictIsomorphismRow.domain false) (Rows.fnExactStrictIsomorphismSpec.post enc Try.prog Try.f11 false true false false) := by
  refine returnsInHanded_of_change (C := Try.checked) Try.own started (by kernel_rfl) Try.func11
    (ChangeSpec.witness6 (enc := enc) (C := Try.checked) false ⟨#[], #[.agg #[.int .i64 0, .slice none 0 0], .agg #[.int .i64 0, .slice none 0 0]], []⟩ 8 (by kernel_rfl) (by kernel_rfl) (by kernel_rfl) (by kernel_rfl)) ?_
  intro W base args ds gs before hval0 hW _ _
  have hval : ∀ (j : Nat) t v, Try.f11.params[j]? = some t → args[j]? = some v → Value.okWide Try.prog W .any base t v := hval0
  have hW' := hW
  obtain ⟨p, q, hA0, hV, rfl, _, _⟩ := hW
  have hA : DataW.TrodAll enc Try.prog W 0 (fun _ => true) true Try.f11.params.toList args.toList ds p := hA0
  rw [Try.params11] at hA hval
  have hAk := hA
  obtain ⟨rfl, rfl⟩ := trodVars_none hV
  obtain ⟨v0, v1, d0, d1, p0, p1, rfl, rfl, hp, h0, h1⟩ := trodAll_two hA
  obtain ⟨m0, u0, xs0, rfl, r0⟩ := open_plane (hval 0 24 v0 rfl rfl) h0
  obtain ⟨m1, u1, xs1, rfl, r1⟩ := open_plane (hval 1 24 v1 rfl rfl) h1
  clear hA0 hval0
  simp only [List.append_nil] at hW'
  refine (FnExactStrictIsomorphism_c m0 u0 xs0 m1 u1 xs1 W r0 r1).mono fun e W' ⟨he, hb⟩ => ?_
  subst he
  refine ⟨_, rfl, _, _, _, [], p, [], hW', ?_, ?_, rfl, hb.frame _, fun h => by cases h⟩
  · exact trodAll_mk1 (shut_bool Try.underlying4 true)
  · exact trodAll_below Try.laidOut (by kernel_rfl) hAk hb (fun x hx => by simpa using hW'.lt x hx)

theorem StrictIsomorphism_holds : Rows.FnExactStrictIsomorphismSaid :=
  OpenClaim.holds_of_wide 11 Try.f11 rfl rfl rfl rfl rfl rfl rfl ⟨rfl, rfl, rfl, rfl, rfl⟩ rfl rfl rfl rfl rfl (by kernel_rfl) Try.func11 (by kernel_rfl)
    (of_decide_eq_true (by kernel_rfl)) (by unfold Func.isWrapper; rw [if_neg (of_decide_eq_false (by kernel_rfl))]; exact ⟨rfl, rfl⟩)
    (fun os started H enc _ => StrictIsomorphism_lifted os started H enc)

#print axioms StrictIsomorphism_holds
end Go.Proofs.Ytdnkadlondediaa
