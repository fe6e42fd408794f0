/- The law on DifferenceUnder: for every input the program and the reference agree. No condition. -/
import Derived.Test.YtflebfmkgmhccaaUnd
import Derived.Test.YtflebfmkgmhccaaG2
import Derived.Test.YtflebfmkgmhccaaEnd
import Derived.Deep.RegionHeld3
set_option linter.unusedSimpArgs false
set_option linter.unusedVariables false
namespace Go.Proofs.Ytflebfmkgmhccaa
open Go.RowKit
open Go.ChangeShapes Go.WideShapes Go.ChangeAt Go.Joins

set_option maxHeartbeats 4000000 in
set_option maxRecDepth 100000 in
theorem FnExactDifferenceUnder_c (m0 : Int) (v0 : Value) (xs0 : List (List Int)) (m1 : Int) (v1 : Value) (xs1 : List Int) (m2 : Int) (v2 : Value) (xs2 : List Int) (w : World) (hv0 : RdT w v0 xs0) (hv1 : RdI w v1 xs1) (hv2 : RdI w v2 xs2) :
    Calls Try.prog 9 #[.agg #[.int .i64 m0, v0], .agg #[.int .i64 m1, v1], .agg #[.int .i64 m2, v2]] w fun e w' => e = .returned (.bool true) ∧ Below w.heap.size w w' := by
  obtain ⟨o0, c0, rfl, hm0, hz0⟩ := id hv0
  clear hz0
  obtain ⟨o1, c1, rfl, hm1, hz1⟩ := id hv1
  clear hz1
  obtain ⟨o2, c2, rfl, hm2, hz2⟩ := id hv2
  clear hz2
  have HS := Lib.hid (fun (u : World) (u0 : Value) (u1 : Value) (u2 : Value) (k0 : RdT u u0 xs0) (k1 : RdI u u1 xs1) (k2 : RdI u u2 xs2) => sDifferenceUnder_c m0 u0 xs0 m1 u1 xs1 m2 u2 xs2 u k0 k1 k2)
  have HI := Lib.hid (fun (u : World) (u0 : Value) (u1 : Value) (u2 : Value) (k0 : RdT u u0 xs0) (k1 : RdI u u1 xs1) (k2 : RdI u u2 xs2) => DifferenceUnder_c m0 u0 xs0 m1 u1 xs1 m2 u2 xs2 u k0 k1 k2)
  generalize diffUR m0 xs0 m1 xs1 m2 xs2 = r at HS HI
  have HB0 := Below.refl w.heap.size w
  obtain ⟨us0, A0_0⟩ := Lives.rdT hv0
  have A1_0 := Lives.rdI hv1
  have A2_0 := Lives.rdI hv2
  go_enter Try.func9, Try.ntmps9
  go_wp2_with fail
  have hb : Below w.heap.size w (w.alloc (.cells #[.int .i64 m0, .slice o0 xs0.length c0] 24)) := (by (repeat (first | exact Below.refl _ _ | (refine Below.setCell ?_ (by first | (simp; done) | (simp; omega) | omega) _) | (refine Below.alloc ?_ (by first | (simp; done) | (simp; omega) | omega) _) | (refine below_drewN ?_ _) | (refine Below.drew ?_))))
  have hz : (w.alloc (.cells #[.int .i64 m0, .slice o0 xs0.length c0] 24)).heap.size = w.heap.size + 1 := by simp
  have HB1 := HB0.trans (hb.mono HB0.size)
  have A0_1 := A0_0.below hb
  clear A0_0
  have A1_1 := A1_0.below hb
  clear A1_0
  have A2_1 := A2_0.below hb
  clear A2_0
  have BA0_0 := Lives.box2 w (.int .i64 m0) (.slice o0 xs0.length c0) 24
  clear hb
  generalize w.alloc (.cells #[.int .i64 m0, .slice o0 xs0.length c0] 24) = w1 at A0_1 A1_1 A2_1 BA0_0 hz HB1 ⊢
  have hlt1 : w.heap.size + 0 < w1.heap.size := by omega
  have hy := hz
  clear hz
  have hb : Below w1.heap.size w1 (w1.alloc (.cells #[.int .i64 m1, .slice o1 xs1.length c1] 46)) := (by (repeat (first | exact Below.refl _ _ | (refine Below.setCell ?_ (by first | (simp; done) | (simp; omega) | omega) _) | (refine Below.alloc ?_ (by first | (simp; done) | (simp; omega) | omega) _) | (refine below_drewN ?_ _) | (refine Below.drew ?_))))
  have hz : (w1.alloc (.cells #[.int .i64 m1, .slice o1 xs1.length c1] 46)).heap.size = w1.heap.size + 1 := by simp
  have HB2 := HB1.trans (hb.mono HB1.size)
  have A0_2 := A0_1.below hb
  clear A0_1
  have A1_2 := A1_1.below hb
  clear A1_1
  have A2_2 := A2_1.below hb
  clear A2_1
  have BA0_1 := BA0_0.below hb
  clear BA0_0
  have BA1_0 := Lives.box2 w1 (.int .i64 m1) (.slice o1 xs1.length c1) 46
  clear hb
  generalize w1.alloc (.cells #[.int .i64 m1, .slice o1 xs1.length c1] 46) = w2 at A0_2 A1_2 A2_2 BA0_1 BA1_0 hz HB2 ⊢
  rw [hy] at BA1_0
  rw [hy] at hz
  clear hy
  have hlt2 : w.heap.size + 1 < w2.heap.size := by omega
  have hy := hz
  clear hz
  have hb : Below w2.heap.size w2 (w2.alloc (.cells #[.int .i64 m2, .slice o2 xs2.length c2] 46)) := (by (repeat (first | exact Below.refl _ _ | (refine Below.setCell ?_ (by first | (simp; done) | (simp; omega) | omega) _) | (refine Below.alloc ?_ (by first | (simp; done) | (simp; omega) | omega) _) | (refine below_drewN ?_ _) | (refine Below.drew ?_))))
  have hz : (w2.alloc (.cells #[.int .i64 m2, .slice o2 xs2.length c2] 46)).heap.size = w2.heap.size + 1 := by simp
  have HB3 := HB2.trans (hb.mono HB2.size)
  have A0_3 := A0_2.below hb
  clear A0_2
  have A1_3 := A1_2.below hb
  clear A1_2
  have A2_3 := A2_2.below hb
  clear A2_2
  have BA0_2 := BA0_1.below hb
  clear BA0_1
  have BA1_1 := BA1_0.below hb
  clear BA1_0
  have BA2_0 := Lives.box2 w2 (.int .i64 m2) (.slice o2 xs2.length c2) 46
  clear hb
  generalize w2.alloc (.cells #[.int .i64 m2, .slice o2 xs2.length c2] 46) = w3 at A0_3 A1_3 A2_3 BA0_2 BA1_1 BA2_0 hz HB3 ⊢
  rw [hy] at BA2_0
  rw [hy] at hz
  clear hy
  have hlt3 : w.heap.size + 2 < w3.heap.size := by omega
  clear hz
  obtain ⟨qBA00, qBA01⟩ := id BA0_2.now
  have qlBA0 : w.heap.size < w3.heap.size := by have := BA0_2.le; omega
  refine (szPlane_c _ _ xs0 _ _ A0_3.now.rd (by omega) (by omega)).mono ?_
  rintro e w4 ⟨rfl, hb⟩
  have hs4 := hb.size
  have HB4 := HB3.trans (hb.mono HB3.size)
  have A0_4 := A0_3.below hb
  clear A0_3
  have A1_4 := A1_3.below hb
  clear A1_3
  have A2_4 := A2_3.below hb
  clear A2_3
  have BA0_3 := BA0_2.below hb
  clear BA0_2
  have BA1_2 := BA1_1.below hb
  clear BA1_1
  have BA2_1 := BA2_0.below hb
  clear BA2_0
  clear hb
  by_cases hsz0 : szV (sizeT xs0) 1048576 < 0
  · go_wp2
    go_ret
    exact ⟨rfl, HB4⟩
  have hle0 := szT_ok (Int.not_lt.1 hsz0) (by omega)
  obtain ⟨hn0, hl0, hk0⟩ := hle0
  have hnum0 : numT xs0 ≤ 1048576 := by unfold sizeT at hn0; omega
  obtain ⟨qBA10, qBA11⟩ := id BA1_2.now
  have qlBA1 : w.heap.size + 1 < w4.heap.size := by have := BA1_2.le; omega
  go_wp2_with fail
  refine (szSeries_c _ _ _ _ (szV (sizeT xs0) 1048576) _ hm1.1 (by omega) (by omega)).mono ?_
  rintro e w5 ⟨rfl, hb⟩
  have hs5 := hb.size
  have HB5 := HB4.trans (hb.mono HB4.size)
  have A0_5 := A0_4.below hb
  clear A0_4
  have A1_5 := A1_4.below hb
  clear A1_4
  have A2_5 := A2_4.below hb
  clear A2_4
  have BA0_4 := BA0_3.below hb
  clear BA0_3
  have BA1_3 := BA1_2.below hb
  clear BA1_2
  have BA2_2 := BA2_1.below hb
  clear BA2_1
  clear hb
  by_cases hsz1 : szV xs1.length (szV (sizeT xs0) 1048576) < 0
  · go_wp2
    go_ret
    exact ⟨rfl, HB5⟩
  have hle1 := szV_ok (Int.not_lt.1 hsz1) (by omega)
  obtain ⟨hn1, hl1, hk1⟩ := hle1
  obtain ⟨qBA20, qBA21⟩ := id BA2_2.now
  have qlBA2 : w.heap.size + 2 < w5.heap.size := by have := BA2_2.le; omega
  go_wp2_with fail
  refine (szSeries_c _ _ _ _ (szV xs1.length (szV (sizeT xs0) 1048576)) _ hm2.1 (by omega) (by omega)).mono ?_
  rintro e w6 ⟨rfl, hb⟩
  have hs6 := hb.size
  have HB6 := HB5.trans (hb.mono HB5.size)
  have A0_6 := A0_5.below hb
  clear A0_5
  have A1_6 := A1_5.below hb
  clear A1_5
  have A2_6 := A2_5.below hb
  clear A2_5
  have BA0_5 := BA0_4.below hb
  clear BA0_4
  have BA1_4 := BA1_3.below hb
  clear BA1_3
  have BA2_3 := BA2_2.below hb
  clear BA2_2
  clear hb
  by_cases hsz2 : szV xs2.length (szV xs1.length (szV (sizeT xs0) 1048576)) < 0
  · go_wp2
    go_ret
    exact ⟨rfl, HB6⟩
  have hle2 := szV_ok (Int.not_lt.1 hsz2) (by omega)
  obtain ⟨hn2, hl2, hk2⟩ := hle2
  obtain ⟨qBA00, qBA01⟩ := id BA0_5.now
  have qlBA0 : w.heap.size < w6.heap.size := by have := BA0_5.le; omega
  obtain ⟨qBA10, qBA11⟩ := id BA1_4.now
  have qlBA1 : w.heap.size + 1 < w6.heap.size := by have := BA1_4.le; omega
  obtain ⟨qBA20, qBA21⟩ := id BA2_3.now
  have qlBA2 : w.heap.size + 2 < w6.heap.size := by have := BA2_3.le; omega
  go_wp2_with fail
  go_cut [8, 9] (fun sb sc u => ∃ (wz : World) (b c : Nat) (o : Option Addr), wz = u ∧ sb = .pointer (some ⟨b, 0, none⟩) ∧ sc = .int .i64 r.code ∧ w6.heap.size ≤ b ∧ Box2 u b (.int .i64 r.m) (.slice o r.xs.length c) ∧ OwI u w6.heap.size (.slice o r.xs.length c) r.xs ∧ r.xs.length ≤ 1048576 ∧ Below w6.heap.size w6 u)
  case first => as_aux_lemma =>
    have hd0 : Below w6.heap.size w6 w6.drew := (Below.refl _ _).drew
    have hsd0 := hd0.size
    have T0 := fun (u : World) (hu : Below w6.heap.size w6 u) => toPlane_c m0 (.slice o0 xs0.length c0) xs0 u ((A0_6.below hu).now.rd) hn0
    have TB0 := fun (u : World) (hu : Below w6.heap.size w6 u) => (BA0_5.below hu).now
    have T1 := fun (u : World) (hu : Below w6.heap.size w6 u) => toSeries_c m1 (.slice o1 xs1.length c1) xs1 u ((A1_6.below hu).now) hn1
    have TB1 := fun (u : World) (hu : Below w6.heap.size w6 u) => (BA1_4.below hu).now
    have T2 := fun (u : World) (hu : Below w6.heap.size w6 u) => toSeries_c m2 (.slice o2 xs2.length c2) xs2 u ((A2_6.below hu).now) hn2
    have TB2 := fun (u : World) (hu : Below w6.heap.size w6 u) => (BA2_3.below hu).now
    clear qBA00 qBA01 qBA10 qBA11 qBA20 qBA21
    obtain ⟨qd0_0_0, qd0_0_1⟩ := TB0 _ (Below.refl _ _)
    obtain ⟨qd0_1_0, qd0_1_1⟩ := TB1 _ (Below.refl _ _)
    obtain ⟨qd0_2_0, qd0_2_1⟩ := TB2 _ (Below.refl _ _)
    have hne0_0 : w6.heap.size ≠ w.heap.size := by omega
    have hne0_1 : w6.heap.size ≠ w.heap.size + 1 := by omega
    have hne0_2 : w6.heap.size ≠ w.heap.size + 2 := by omega
    go_region_held3 (fun w' => w'.cell? ⟨w.heap.size, 0, none⟩ = some (.int .i64 m0) ∧ w'.cell? ⟨w.heap.size, 1, none⟩ = some (.slice o0 xs0.length c0) ∧ w'.cell? ⟨w.heap.size + 1, 0, none⟩ = some (.int .i64 m1) ∧ w'.cell? ⟨w.heap.size + 1, 1, none⟩ = some (.slice o1 xs1.length c1) ∧ w'.cell? ⟨w.heap.size + 2, 0, none⟩ = some (.int .i64 m2) ∧ w'.cell? ⟨w.heap.size + 2, 1, none⟩ = some (.slice o2 xs2.length c2)) (go_keep)
      (first
        | (go_at_call_of 17 (Value.agg #[.int .i64 m0, .slice o0 xs0.length c0]); refine (T0 _ (by (repeat (first | exact Below.refl _ _ | (refine Below.setCell ?_ (by first | (simp; done) | (simp; omega) | omega) _) | (refine Below.alloc ?_ (by first | (simp; done) | (simp; omega) | omega) _) | (refine below_drewN ?_ _) | (refine Below.drew ?_))))).mono ?_; rintro e wd1 ⟨vS0, rfl, hod1, hbd1⟩; obtain ⟨oS0, cS0, rfl⟩ := hod1.shape; have hd1 : Below w6.heap.size w6 wd1 := (by (repeat (first | exact Below.refl _ _ | (refine Below.setCell ?_ (by first | (simp; done) | (simp; omega) | omega) _) | (refine Below.alloc ?_ (by first | (simp; done) | (simp; omega) | omega) _) | (refine below_drewN ?_ _) | (refine Below.drew ?_) | (refine Below.trans ?_ (Below.mono hbd1 (by first | (simp; done) | (simp; omega) | omega)))))); have hsd1 := hd1.size; have hsz1_ := hbd1.size; (try simp at hsz1_); obtain ⟨qd1_0_0, qd1_0_1⟩ := TB0 _ hd1; obtain ⟨qd1_1_0, qd1_1_1⟩ := TB1 _ hd1; obtain ⟨qd1_2_0, qd1_2_1⟩ := TB2 _ hd1; have hne1_0 : wd1.heap.size ≠ w.heap.size := (by omega); have hne1_1 : wd1.heap.size ≠ w.heap.size + 1 := (by omega); have hne1_2 : wd1.heap.size ≠ w.heap.size + 2 := (by omega); (try (have RZ := RZ.below hbd1 (Nat.le_refl _))); (try (have RZ := (show RB2 (w6.alloc (.cells #[.int .i64 0, .slice none 0 0] 41)).drew w6.heap.size (.int .i64 0) (.slice none 0 0) from RB2.mk1 w6 (.int .i64 0) (.slice none 0 0) _).below hbd1 (Nat.le_refl _))); (try (obtain ⟨⟨z1_0, z1_1⟩, zf1⟩ := id RZ)))
        | (go_at_call_of 35 (Value.agg #[.int .i64 m1, .slice o1 xs1.length c1]); refine (T1 _ (by (repeat (first | exact Below.refl _ _ | (refine Below.setCell ?_ (by first | (simp; done) | (simp; omega) | omega) _) | (refine Below.alloc ?_ (by first | (simp; done) | (simp; omega) | omega) _) | (refine below_drewN ?_ _) | (refine Below.drew ?_) | (refine Below.trans ?_ (Below.mono hbd1 (by first | (simp; done) | (simp; omega) | omega))))))).mono ?_; rintro e wd2 ⟨vS1, rfl, hod2, hbd2⟩; obtain ⟨oS1, cS1, rfl⟩ := hod2.shape; have hd2 : Below w6.heap.size w6 wd2 := (by (repeat (first | exact Below.refl _ _ | (refine Below.setCell ?_ (by first | (simp; done) | (simp; omega) | omega) _) | (refine Below.alloc ?_ (by first | (simp; done) | (simp; omega) | omega) _) | (refine below_drewN ?_ _) | (refine Below.drew ?_) | (refine Below.trans ?_ (Below.mono hbd1 (by first | (simp; done) | (simp; omega) | omega))) | (refine Below.trans ?_ (Below.mono hbd2 (by first | (simp; done) | (simp; omega) | omega)))))); have hsd2 := hd2.size; have hsz2_ := hbd2.size; (try simp at hsz2_); obtain ⟨qd2_0_0, qd2_0_1⟩ := TB0 _ hd2; obtain ⟨qd2_1_0, qd2_1_1⟩ := TB1 _ hd2; obtain ⟨qd2_2_0, qd2_2_1⟩ := TB2 _ hd2; have hne2_0 : wd2.heap.size ≠ w.heap.size := (by omega); have hne2_1 : wd2.heap.size ≠ w.heap.size + 1 := (by omega); have hne2_2 : wd2.heap.size ≠ w.heap.size + 2 := (by omega); (try (have RZ := RZ.below hbd2 (Nat.le_refl _))); (try (have RZ := (show RB2 (wd1.alloc (.cells #[.int .i64 0, .slice none 0 0] 41)) wd1.heap.size (.int .i64 0) (.slice none 0 0) from RB2.mk1 wd1 (.int .i64 0) (.slice none 0 0) _).below hbd2 (Nat.le_refl _))); (try (obtain ⟨⟨z2_0, z2_1⟩, zf2⟩ := id RZ)))
        | (go_at_call_of 35 (Value.agg #[.int .i64 m2, .slice o2 xs2.length c2]); refine (T2 _ (by (repeat (first | exact Below.refl _ _ | (refine Below.setCell ?_ (by first | (simp; done) | (simp; omega) | omega) _) | (refine Below.alloc ?_ (by first | (simp; done) | (simp; omega) | omega) _) | (refine below_drewN ?_ _) | (refine Below.drew ?_) | (refine Below.trans ?_ (Below.mono hbd1 (by first | (simp; done) | (simp; omega) | omega))) | (refine Below.trans ?_ (Below.mono hbd2 (by first | (simp; done) | (simp; omega) | omega))))))).mono ?_; rintro e wd3 ⟨vS2, rfl, hod3, hbd3⟩; obtain ⟨oS2, cS2, rfl⟩ := hod3.shape; have hd3 : Below w6.heap.size w6 wd3 := (by (repeat (first | exact Below.refl _ _ | (refine Below.setCell ?_ (by first | (simp; done) | (simp; omega) | omega) _) | (refine Below.alloc ?_ (by first | (simp; done) | (simp; omega) | omega) _) | (refine below_drewN ?_ _) | (refine Below.drew ?_) | (refine Below.trans ?_ (Below.mono hbd1 (by first | (simp; done) | (simp; omega) | omega))) | (refine Below.trans ?_ (Below.mono hbd2 (by first | (simp; done) | (simp; omega) | omega))) | (refine Below.trans ?_ (Below.mono hbd3 (by first | (simp; done) | (simp; omega) | omega)))))); have hsd3 := hd3.size; have hsz3_ := hbd3.size; (try simp at hsz3_); obtain ⟨qd3_0_0, qd3_0_1⟩ := TB0 _ hd3; obtain ⟨qd3_1_0, qd3_1_1⟩ := TB1 _ hd3; obtain ⟨qd3_2_0, qd3_2_1⟩ := TB2 _ hd3; have hne3_0 : wd3.heap.size ≠ w.heap.size := (by omega); have hne3_1 : wd3.heap.size ≠ w.heap.size + 1 := (by omega); have hne3_2 : wd3.heap.size ≠ w.heap.size + 2 := (by omega); (try (have RZ := RZ.below hbd3 (Nat.le_refl _))); (try (have RZ := (show RB2 (wd2.alloc (.cells #[.int .i64 0, .slice none 0 0] 41)) wd2.heap.size (.int .i64 0) (.slice none 0 0) from RB2.mk1 wd2 (.int .i64 0) (.slice none 0 0) _).below hbd3 (Nat.le_refl _))); (try (obtain ⟨⟨z3_0, z3_1⟩, zf3⟩ := id RZ)))
        | (go_at_call 39; refine (HS.out _ _ _ _ (by first | exact hod1.rd | exact (hod1.below hbd3).rd | exact ((hod1.below hbd3).alloc _).rd | exact ((hod1.alloc _).below hbd3).rd | exact (hod1.below (by (repeat (first | exact Below.refl _ _ | (refine Below.setCell ?_ (by first | (simp; done) | (simp; omega) | omega) _) | (refine Below.alloc ?_ (by first | (simp; done) | (simp; omega) | omega) _) | (refine below_drewN ?_ _) | (refine Below.drew ?_) | (refine Below.trans ?_ (Below.mono hbd2 (by first | (simp; done) | (simp; omega) | omega))) | (refine Below.trans ?_ (Below.mono hbd3 (by first | (simp; done) | (simp; omega) | omega))))))).rd) (by first | exact hod2.rd | exact (hod2.below hbd3).rd | exact ((hod2.below hbd3).alloc _).rd | exact ((hod2.alloc _).below hbd3).rd | exact (hod2.below (by (repeat (first | exact Below.refl _ _ | (refine Below.setCell ?_ (by first | (simp; done) | (simp; omega) | omega) _) | (refine Below.alloc ?_ (by first | (simp; done) | (simp; omega) | omega) _) | (refine below_drewN ?_ _) | (refine Below.drew ?_) | (refine Below.trans ?_ (Below.mono hbd3 (by first | (simp; done) | (simp; omega) | omega))))))).rd) (by first | exact hod3.rd | exact (hod3.below hbd3).rd | exact ((hod3.below hbd3).alloc _).rd | exact ((hod3.alloc _).below hbd3).rd | exact (hod3.below (by (repeat (first | exact Below.refl _ _ | (refine Below.setCell ?_ (by first | (simp; done) | (simp; omega) | omega) _) | (refine Below.alloc ?_ (by first | (simp; done) | (simp; omega) | omega) _) | (refine below_drewN ?_ _) | (refine Below.drew ?_))))).rd)).mono ?_; rintro e wd4 ⟨vS, rfl, hod4, hbd4, hlen⟩; obtain ⟨oS, cS, rfl⟩ := hod4.shape; have hd4 : Below w6.heap.size w6 wd4 := (by (repeat (first | exact Below.refl _ _ | (refine Below.setCell ?_ (by first | (simp; done) | (simp; omega) | omega) _) | (refine Below.alloc ?_ (by first | (simp; done) | (simp; omega) | omega) _) | (refine below_drewN ?_ _) | (refine Below.drew ?_) | (refine Below.trans ?_ (Below.mono hbd1 (by first | (simp; done) | (simp; omega) | omega))) | (refine Below.trans ?_ (Below.mono hbd2 (by first | (simp; done) | (simp; omega) | omega))) | (refine Below.trans ?_ (Below.mono hbd3 (by first | (simp; done) | (simp; omega) | omega))) | (refine Below.trans ?_ (Below.mono hbd4 (by first | (simp; done) | (simp; omega) | omega)))))); have hsd4 := hd4.size; have hsz4_ := hbd4.size; (try simp at hsz4_); obtain ⟨qd4_0_0, qd4_0_1⟩ := TB0 _ hd4; obtain ⟨qd4_1_0, qd4_1_1⟩ := TB1 _ hd4; obtain ⟨qd4_2_0, qd4_2_1⟩ := TB2 _ hd4; have hne4_0 : wd4.heap.size ≠ w.heap.size := (by omega); have hne4_1 : wd4.heap.size ≠ w.heap.size + 1 := (by omega); have hne4_2 : wd4.heap.size ≠ w.heap.size + 2 := (by omega); (try (have RZ := RZ.below hbd4 (Nat.le_refl _))); (try (have RZ := (show RB2 (wd3.alloc (.cells #[.int .i64 0, .slice none 0 0] 41)) wd3.heap.size (.int .i64 0) (.slice none 0 0) from RB2.mk1 wd3 (.int .i64 0) (.slice none 0 0) _).below hbd4 (Nat.le_refl _))); (try (obtain ⟨⟨z4_0, z4_1⟩, zf4⟩ := id RZ))))
    all_goals
      go_wp2_with fail
      go_meet
      refine ⟨_, _, cS, oS, rfl, rfl, rfl, ?_, ?_, ?_, hlen, ?_⟩
      · first | omega | (simp; done) | (simp; omega)
      · refine ⟨?_, ?_⟩ <;> first | (simp; done) | (simp [go_sem, *]; done)
      · first | exact (hod4.alloc _).mono (by first | (simp; done) | (simp; omega) | omega) | exact ((hod4.low (by first | (simp; done) | (simp; omega) | omega) _).low (by first | (simp; done) | (simp; omega) | omega) _).mono (by first | (simp; done) | (simp; omega) | omega)
      · (repeat (first | exact Below.refl _ _ | (refine Below.setCell ?_ (by first | (simp; done) | (simp; omega) | omega) _) | (refine Below.alloc ?_ (by first | (simp; done) | (simp; omega) | omega) _) | (refine below_drewN ?_ _) | (refine Below.drew ?_) | (refine Below.trans ?_ (Below.mono hbd1 (by first | (simp; done) | (simp; omega) | omega))) | (refine Below.trans ?_ (Below.mono hbd2 (by first | (simp; done) | (simp; omega) | omega))) | (refine Below.trans ?_ (Below.mono hbd3 (by first | (simp; done) | (simp; omega) | omega))) | (refine Below.trans ?_ (Below.mono hbd4 (by first | (simp; done) | (simp; omega) | omega)))))
  case rest =>
  obtain ⟨w7, bS, cS, oS, rfl, rfl, rfl, hbS_, hX, ho, hlen, hb⟩ := hcut
  have hs7 := hb.size
  have HB7 := HB6.trans (hb.mono HB6.size)
  have A0_7 := A0_6.below hb
  clear A0_6
  have A1_7 := A1_6.below hb
  clear A1_6
  have A2_7 := A2_6.below hb
  clear A2_6
  have BA0_6 := BA0_5.below hb
  clear BA0_5
  have BA1_5 := BA1_4.below hb
  clear BA1_4
  have BA2_4 := BA2_3.below hb
  clear BA2_3
  clear hb
  have S_0 := Lives.owR ho hs7
  have BS_0 := Lives.ofBox2 hX
  clear ho hX
  have hltS_ := BS_0.le
  obtain ⟨qBS0, qBS1⟩ := id BS_0.now
  have qlBS : bS < w7.heap.size := by have := BS_0.le; omega
  obtain ⟨qBA00, qBA01⟩ := id BA0_6.now
  have qlBA0 : w.heap.size < w7.heap.size := by have := BA0_6.le; omega
  go_wp2_with fail
  refine (toPlane_c _ _ xs0 _ A0_7.now.rd hn0).mono ?_
  rintro e w8 ⟨vx0, rfl, ho, hb⟩
  have hs8 := hb.size
  have HB8 := HB7.trans (hb.mono HB7.size)
  have A0_8 := A0_7.below hb
  clear A0_7
  have A1_8 := A1_7.below hb
  clear A1_7
  have A2_8 := A2_7.below hb
  clear A2_7
  have BA0_7 := BA0_6.below hb
  clear BA0_6
  have BA1_6 := BA1_5.below hb
  clear BA1_5
  have BA2_5 := BA2_4.below hb
  clear BA2_4
  have S_1 := S_0.below hb
  clear S_0
  have BS_1 := BS_0.below hb
  clear BS_0
  clear hb
  obtain ⟨ox0, cx0, rfl⟩ := ho.shape
  have X0_0 := Lives.owS ho hs8
  clear ho
  obtain ⟨qBA10, qBA11⟩ := id BA1_6.now
  have qlBA1 : w.heap.size + 1 < w8.heap.size := by have := BA1_6.le; omega
  go_wp2_with fail
  have hb : Below w8.heap.size w8 (w8.alloc (.cells #[.int .i64 m0, .slice ox0 xs0.length cx0] 29)) := (by (repeat (first | exact Below.refl _ _ | (refine Below.setCell ?_ (by first | (simp; done) | (simp; omega) | omega) _) | (refine Below.alloc ?_ (by first | (simp; done) | (simp; omega) | omega) _) | (refine below_drewN ?_ _) | (refine Below.drew ?_))))
  have hz : (w8.alloc (.cells #[.int .i64 m0, .slice ox0 xs0.length cx0] 29)).heap.size = w8.heap.size + 1 := by simp
  have HB9 := HB8.trans (hb.mono HB8.size)
  have A0_9 := A0_8.below hb
  clear A0_8
  have A1_9 := A1_8.below hb
  clear A1_8
  have A2_9 := A2_8.below hb
  clear A2_8
  have BA0_8 := BA0_7.below hb
  clear BA0_7
  have BA1_7 := BA1_6.below hb
  clear BA1_6
  have BA2_6 := BA2_5.below hb
  clear BA2_5
  have S_2 := S_1.below hb
  clear S_1
  have BS_2 := BS_1.below hb
  clear BS_1
  have X0_1 := X0_0.below hb
  clear X0_0
  have BX0_0 := Lives.box2 w8 (.int .i64 m0) (.slice ox0 xs0.length cx0) 29
  clear hb
  generalize w8.alloc (.cells #[.int .i64 m0, .slice ox0 xs0.length cx0] 29) = w9 at A0_9 A1_9 A2_9 BA0_8 BA1_7 BA2_6 S_2 BS_2 X0_1 BX0_0 hz HB9 ⊢
  have hlt9 : w8.heap.size < w9.heap.size := by omega
  clear hz
  refine (toSeries_c _ _ xs1 _ A1_9.now hn1).mono ?_
  rintro e w10 ⟨vx1, rfl, ho, hb⟩
  have hs10 := hb.size
  have HB10 := HB9.trans (hb.mono HB9.size)
  have A0_10 := A0_9.below hb
  clear A0_9
  have A1_10 := A1_9.below hb
  clear A1_9
  have A2_10 := A2_9.below hb
  clear A2_9
  have BA0_9 := BA0_8.below hb
  clear BA0_8
  have BA1_8 := BA1_7.below hb
  clear BA1_7
  have BA2_7 := BA2_6.below hb
  clear BA2_6
  have S_3 := S_2.below hb
  clear S_2
  have BS_3 := BS_2.below hb
  clear BS_2
  have X0_2 := X0_1.below hb
  clear X0_1
  have BX0_1 := BX0_0.below hb
  clear BX0_0
  clear hb
  obtain ⟨ox1, cx1, rfl⟩ := ho.shape
  have X1_0 := Lives.owR ho hs10
  clear ho
  obtain ⟨qBX00, qBX01⟩ := id BX0_1.now
  have qlBX0 : w8.heap.size < w10.heap.size := by have := BX0_1.le; omega
  obtain ⟨qBA20, qBA21⟩ := id BA2_7.now
  have qlBA2 : w.heap.size + 2 < w10.heap.size := by have := BA2_7.le; omega
  go_wp2_with fail
  have hb : Below w10.heap.size w10 (w10.alloc (.cells #[.int .i64 m1, .slice ox1 xs1.length cx1] 41)) := (by (repeat (first | exact Below.refl _ _ | (refine Below.setCell ?_ (by first | (simp; done) | (simp; omega) | omega) _) | (refine Below.alloc ?_ (by first | (simp; done) | (simp; omega) | omega) _) | (refine below_drewN ?_ _) | (refine Below.drew ?_))))
  have hz : (w10.alloc (.cells #[.int .i64 m1, .slice ox1 xs1.length cx1] 41)).heap.size = w10.heap.size + 1 := by simp
  have HB11 := HB10.trans (hb.mono HB10.size)
  have A0_11 := A0_10.below hb
  clear A0_10
  have A1_11 := A1_10.below hb
  clear A1_10
  have A2_11 := A2_10.below hb
  clear A2_10
  have BA0_10 := BA0_9.below hb
  clear BA0_9
  have BA1_9 := BA1_8.below hb
  clear BA1_8
  have BA2_8 := BA2_7.below hb
  clear BA2_7
  have S_4 := S_3.below hb
  clear S_3
  have BS_4 := BS_3.below hb
  clear BS_3
  have X0_3 := X0_2.below hb
  clear X0_2
  have BX0_2 := BX0_1.below hb
  clear BX0_1
  have X1_1 := X1_0.below hb
  clear X1_0
  have BX1_0 := Lives.box2 w10 (.int .i64 m1) (.slice ox1 xs1.length cx1) 41
  clear hb
  generalize w10.alloc (.cells #[.int .i64 m1, .slice ox1 xs1.length cx1] 41) = w11 at A0_11 A1_11 A2_11 BA0_10 BA1_9 BA2_8 S_4 BS_4 X0_3 BX0_2 X1_1 BX1_0 hz HB11 ⊢
  have hlt11 : w10.heap.size < w11.heap.size := by omega
  clear hz
  refine (toSeries_c _ _ xs2 _ A2_11.now hn2).mono ?_
  rintro e w12 ⟨vx2, rfl, ho, hb⟩
  have hs12 := hb.size
  have HB12 := HB11.trans (hb.mono HB11.size)
  have A0_12 := A0_11.below hb
  clear A0_11
  have A1_12 := A1_11.below hb
  clear A1_11
  have A2_12 := A2_11.below hb
  clear A2_11
  have BA0_11 := BA0_10.below hb
  clear BA0_10
  have BA1_10 := BA1_9.below hb
  clear BA1_9
  have BA2_9 := BA2_8.below hb
  clear BA2_8
  have S_5 := S_4.below hb
  clear S_4
  have BS_5 := BS_4.below hb
  clear BS_4
  have X0_4 := X0_3.below hb
  clear X0_3
  have BX0_3 := BX0_2.below hb
  clear BX0_2
  have X1_2 := X1_1.below hb
  clear X1_1
  have BX1_1 := BX1_0.below hb
  clear BX1_0
  clear hb
  obtain ⟨ox2, cx2, rfl⟩ := ho.shape
  have X2_0 := Lives.owR ho hs12
  clear ho
  obtain ⟨qBX00, qBX01⟩ := id BX0_3.now
  have qlBX0 : w8.heap.size < w12.heap.size := by have := BX0_3.le; omega
  obtain ⟨qBX10, qBX11⟩ := id BX1_1.now
  have qlBX1 : w10.heap.size < w12.heap.size := by have := BX1_1.le; omega
  go_wp2_with fail
  have hb : Below w12.heap.size w12 (w12.alloc (.cells #[.int .i64 m2, .slice ox2 xs2.length cx2] 41)) := (by (repeat (first | exact Below.refl _ _ | (refine Below.setCell ?_ (by first | (simp; done) | (simp; omega) | omega) _) | (refine Below.alloc ?_ (by first | (simp; done) | (simp; omega) | omega) _) | (refine below_drewN ?_ _) | (refine Below.drew ?_))))
  have hz : (w12.alloc (.cells #[.int .i64 m2, .slice ox2 xs2.length cx2] 41)).heap.size = w12.heap.size + 1 := by simp
  have HB13 := HB12.trans (hb.mono HB12.size)
  have A0_13 := A0_12.below hb
  clear A0_12
  have A1_13 := A1_12.below hb
  clear A1_12
  have A2_13 := A2_12.below hb
  clear A2_12
  have BA0_12 := BA0_11.below hb
  clear BA0_11
  have BA1_11 := BA1_10.below hb
  clear BA1_10
  have BA2_10 := BA2_9.below hb
  clear BA2_9
  have S_6 := S_5.below hb
  clear S_5
  have BS_6 := BS_5.below hb
  clear BS_5
  have X0_5 := X0_4.below hb
  clear X0_4
  have BX0_4 := BX0_3.below hb
  clear BX0_3
  have X1_3 := X1_2.below hb
  clear X1_2
  have BX1_2 := BX1_1.below hb
  clear BX1_1
  have X2_1 := X2_0.below hb
  clear X2_0
  have BX2_0 := Lives.box2 w12 (.int .i64 m2) (.slice ox2 xs2.length cx2) 41
  clear hb
  generalize w12.alloc (.cells #[.int .i64 m2, .slice ox2 xs2.length cx2] 41) = w13 at A0_13 A1_13 A2_13 BA0_12 BA1_11 BA2_10 S_6 BS_6 X0_5 BX0_4 X1_3 BX1_2 X2_1 BX2_0 hz HB13 ⊢
  have hlt13 : w12.heap.size < w13.heap.size := by omega
  clear hz
  refine (HI.out _ _ _ _ (X0_5.now.rd) (X1_3.now.1.rd) (X2_1.now.1.rd)).mono ?_
  rintro e w14 ⟨vG, rfl, ho, hb, hlen⟩
  have hs14 := hb.size
  have HB14 := HB13.trans (hb.mono HB13.size)
  have A0_14 := A0_13.below hb
  clear A0_13
  have A1_14 := A1_13.below hb
  clear A1_13
  have A2_14 := A2_13.below hb
  clear A2_13
  have BA0_13 := BA0_12.below hb
  clear BA0_12
  have BA1_12 := BA1_11.below hb
  clear BA1_11
  have BA2_11 := BA2_10.below hb
  clear BA2_10
  have S_7 := S_6.below hb
  clear S_6
  have BS_7 := BS_6.below hb
  clear BS_6
  have X0_6 := X0_5.below hb
  clear X0_5
  have BX0_5 := BX0_4.below hb
  clear BX0_4
  have X1_4 := X1_3.below hb
  clear X1_3
  have BX1_3 := BX1_2.below hb
  clear BX1_2
  have X2_2 := X2_1.below hb
  clear X2_1
  have BX2_1 := BX2_0.below hb
  clear BX2_0
  clear hb
  obtain ⟨oG, cG, rfl⟩ := ho.shape
  have G_0 := Lives.owR ho hs14
  clear ho
  obtain ⟨qBS0, qBS1⟩ := id BS_7.now
  have qlBS : bS < w14.heap.size := by have := BS_7.le; omega
  have hq : (r.code != r.code) = false := by simp
  go_wp2_with fail
  clear hq
  have hb : Below w14.heap.size w14 (w14.alloc (.cells #[.int .i64 r.m, .slice oG r.xs.length cG] 41)) := (by (repeat (first | exact Below.refl _ _ | (refine Below.setCell ?_ (by first | (simp; done) | (simp; omega) | omega) _) | (refine Below.alloc ?_ (by first | (simp; done) | (simp; omega) | omega) _) | (refine below_drewN ?_ _) | (refine Below.drew ?_))))
  have hz : (w14.alloc (.cells #[.int .i64 r.m, .slice oG r.xs.length cG] 41)).heap.size = w14.heap.size + 1 := by simp
  have HB15 := HB14.trans (hb.mono HB14.size)
  have A0_15 := A0_14.below hb
  clear A0_14
  have A1_15 := A1_14.below hb
  clear A1_14
  have A2_15 := A2_14.below hb
  clear A2_14
  have BA0_14 := BA0_13.below hb
  clear BA0_13
  have BA1_13 := BA1_12.below hb
  clear BA1_12
  have BA2_12 := BA2_11.below hb
  clear BA2_11
  have S_8 := S_7.below hb
  clear S_7
  have BS_8 := BS_7.below hb
  clear BS_7
  have X0_7 := X0_6.below hb
  clear X0_6
  have BX0_6 := BX0_5.below hb
  clear BX0_5
  have X1_5 := X1_4.below hb
  clear X1_4
  have BX1_4 := BX1_3.below hb
  clear BX1_3
  have X2_3 := X2_2.below hb
  clear X2_2
  have BX2_2 := BX2_1.below hb
  clear BX2_1
  have G_1 := G_0.below hb
  clear G_0
  have BG_0 := Lives.box2 w14 (.int .i64 r.m) (.slice oG r.xs.length cG) 41
  clear hb
  generalize w14.alloc (.cells #[.int .i64 r.m, .slice oG r.xs.length cG] 41) = w15 at A0_15 A1_15 A2_15 BA0_14 BA1_13 BA2_12 S_8 BS_8 X0_7 BX0_6 X1_5 BX1_4 X2_3 BX2_2 G_1 BG_0 hz HB15 ⊢
  have hlt15 : w14.heap.size < w15.heap.size := by omega
  clear hz
  have hq : (r.code != r.code) = false := by simp
  refine (eqSeries_c _   _   _ _ r.xs r.xs _ G_1.now.1.rd S_8.now.1.rd).mono ?_
  rw [eqSB_self]
  rintro e w16 ⟨rfl, hb⟩
  have hs16 := hb.size
  have HB16 := HB15.trans (hb.mono HB15.size)
  have A0_16 := A0_15.below hb
  clear A0_15
  have A1_16 := A1_15.below hb
  clear A1_15
  have A2_16 := A2_15.below hb
  clear A2_15
  have BA0_15 := BA0_14.below hb
  clear BA0_14
  have BA1_14 := BA1_13.below hb
  clear BA1_13
  have BA2_13 := BA2_12.below hb
  clear BA2_12
  have S_9 := S_8.below hb
  clear S_8
  have BS_9 := BS_8.below hb
  clear BS_8
  have X0_8 := X0_7.below hb
  clear X0_7
  have BX0_7 := BX0_6.below hb
  clear BX0_6
  have X1_6 := X1_5.below hb
  clear X1_5
  have BX1_5 := BX1_4.below hb
  clear BX1_4
  have X2_4 := X2_3.below hb
  clear X2_3
  have BX2_3 := BX2_2.below hb
  clear BX2_2
  have G_2 := G_1.below hb
  clear G_1
  have BG_1 := BG_0.below hb
  clear BG_0
  clear hb
  go_wp2_with fail
  have hb : Below w16.heap.size w16 w16.drew := (Below.refl _ _).drew
  have HBd0 := HB16.trans (hb.mono HB16.size)
  have hsd0 := hb.size
  have A0_17 := A0_16.below hb
  clear A0_16
  have A1_17 := A1_16.below hb
  clear A1_16
  have A2_17 := A2_16.below hb
  clear A2_16
  have BA0_16 := BA0_15.below hb
  clear BA0_15
  have BA1_15 := BA1_14.below hb
  clear BA1_14
  have BA2_14 := BA2_13.below hb
  clear BA2_13
  have S_10 := S_9.below hb
  clear S_9
  have BS_10 := BS_9.below hb
  clear BS_9
  have X0_9 := X0_8.below hb
  clear X0_8
  have BX0_8 := BX0_7.below hb
  clear BX0_7
  have X1_7 := X1_6.below hb
  clear X1_6
  have BX1_6 := BX1_5.below hb
  clear BX1_5
  have X2_5 := X2_4.below hb
  clear X2_4
  have BX2_4 := BX2_3.below hb
  clear BX2_3
  have G_3 := G_2.below hb
  clear G_2
  have BG_2 := BG_1.below hb
  clear BG_1
  clear hb
  obtain ⟨qBA00, qBA01⟩ := id BA0_16.now
  have qlBA0 : w.heap.size < w16.heap.size := by have := BA0_16.le; omega
  obtain ⟨qBX00, qBX01⟩ := id BX0_8.now
  have qlBX0 : w8.heap.size < w16.heap.size := by have := BX0_8.le; omega
  go_region_held3 (fun w' => w'.cell? ⟨w.heap.size, 0, none⟩ = some (.int .i64 m0) ∧ w'.cell? ⟨w.heap.size, 1, none⟩ = some (.slice o0 xs0.length c0) ∧ w'.cell? ⟨w8.heap.size, 0, none⟩ = some (.int .i64 m0) ∧ w'.cell? ⟨w8.heap.size, 1, none⟩ = some (.slice ox0 xs0.length cx0)) (go_keep)
    (first
      | (go_at_call 17; refine (toPlane_c _ _ xs0 _ A0_17.now.rd hn0).mono ?_; rintro e w17 ⟨vy0, rfl, ho, hb⟩; have hs17 := hb.size; have HB17 := HBd0.trans (hb.mono HBd0.size); have A0_18 := A0_17.below hb; clear A0_17; have A1_18 := A1_17.below hb; clear A1_17; have A2_18 := A2_17.below hb; clear A2_17; have BA0_17 := BA0_16.below hb; clear BA0_16; have BA1_16 := BA1_15.below hb; clear BA1_15; have BA2_15 := BA2_14.below hb; clear BA2_14; have S_11 := S_10.below hb; clear S_10; have BS_11 := BS_10.below hb; clear BS_10; have X0_10 := X0_9.below hb; clear X0_9; have BX0_9 := BX0_8.below hb; clear BX0_8; have X1_8 := X1_7.below hb; clear X1_7; have BX1_7 := BX1_6.below hb; clear BX1_6; have X2_6 := X2_5.below hb; clear X2_5; have BX2_5 := BX2_4.below hb; clear BX2_4; have G_4 := G_3.below hb; clear G_3; have BG_3 := BG_2.below hb; clear BG_2; have Y0_0 := Lives.owS ho hs17; clear ho hb; obtain ⟨qBA00, qBA01⟩ := id BA0_17.now; obtain ⟨qBX00, qBX01⟩ := id BX0_9.now)
      | (go_at_call 20; refine (eqPlane_c _ _ _ _ xs0 xs0 _ X0_10.now.rd Y0_0.now.rd).mono ?_; rw [eqPB_self]; rintro e w18 ⟨rfl, hb⟩; have hs18 := hb.size; have HB18 := HB17.trans (hb.mono HB17.size); have A0_19 := A0_18.below hb; clear A0_18; have A1_19 := A1_18.below hb; clear A1_18; have A2_19 := A2_18.below hb; clear A2_18; have BA0_18 := BA0_17.below hb; clear BA0_17; have BA1_17 := BA1_16.below hb; clear BA1_16; have BA2_16 := BA2_15.below hb; clear BA2_15; have S_12 := S_11.below hb; clear S_11; have BS_12 := BS_11.below hb; clear BS_11; have X0_11 := X0_10.below hb; clear X0_10; have BX0_10 := BX0_9.below hb; clear BX0_9; have X1_9 := X1_8.below hb; clear X1_8; have BX1_8 := BX1_7.below hb; clear BX1_7; have X2_7 := X2_6.below hb; clear X2_6; have BX2_6 := BX2_5.below hb; clear BX2_5; have G_5 := G_4.below hb; clear G_4; have BG_4 := BG_3.below hb; clear BG_3; clear hb; obtain ⟨qBA00, qBA01⟩ := id BA0_18.now; obtain ⟨qBX00, qBX01⟩ := id BX0_10.now))
  go_wp2_with fail
  have hb : Below w18.heap.size w18 w18.drew := (Below.refl _ _).drew
  have HBd1 := HB18.trans (hb.mono HB18.size)
  have hsd1 := hb.size
  have A0_20 := A0_19.below hb
  clear A0_19
  have A1_20 := A1_19.below hb
  clear A1_19
  have A2_20 := A2_19.below hb
  clear A2_19
  have BA0_19 := BA0_18.below hb
  clear BA0_18
  have BA1_18 := BA1_17.below hb
  clear BA1_17
  have BA2_17 := BA2_16.below hb
  clear BA2_16
  have S_13 := S_12.below hb
  clear S_12
  have BS_13 := BS_12.below hb
  clear BS_12
  have X0_12 := X0_11.below hb
  clear X0_11
  have BX0_11 := BX0_10.below hb
  clear BX0_10
  have X1_10 := X1_9.below hb
  clear X1_9
  have BX1_9 := BX1_8.below hb
  clear BX1_8
  have X2_8 := X2_7.below hb
  clear X2_7
  have BX2_7 := BX2_6.below hb
  clear BX2_6
  have G_6 := G_5.below hb
  clear G_5
  have BG_5 := BG_4.below hb
  clear BG_4
  clear hb
  obtain ⟨qBA10, qBA11⟩ := id BA1_18.now
  have qlBA1 : w.heap.size + 1 < w18.heap.size := by have := BA1_18.le; omega
  obtain ⟨qBX10, qBX11⟩ := id BX1_9.now
  have qlBX1 : w10.heap.size < w18.heap.size := by have := BX1_9.le; omega
  go_region_held3 (fun w' => w'.cell? ⟨w.heap.size + 1, 0, none⟩ = some (.int .i64 m1) ∧ w'.cell? ⟨w.heap.size + 1, 1, none⟩ = some (.slice o1 xs1.length c1) ∧ w'.cell? ⟨w10.heap.size, 0, none⟩ = some (.int .i64 m1) ∧ w'.cell? ⟨w10.heap.size, 1, none⟩ = some (.slice ox1 xs1.length cx1)) (go_keep)
    (first
      | (go_at_call 35; refine (toSeries_c _ _ xs1 _ A1_20.now hn1).mono ?_; rintro e w19 ⟨vy1, rfl, ho, hb⟩; have hs19 := hb.size; have HB19 := HBd1.trans (hb.mono HBd1.size); have A0_21 := A0_20.below hb; clear A0_20; have A1_21 := A1_20.below hb; clear A1_20; have A2_21 := A2_20.below hb; clear A2_20; have BA0_20 := BA0_19.below hb; clear BA0_19; have BA1_19 := BA1_18.below hb; clear BA1_18; have BA2_18 := BA2_17.below hb; clear BA2_17; have S_14 := S_13.below hb; clear S_13; have BS_14 := BS_13.below hb; clear BS_13; have X0_13 := X0_12.below hb; clear X0_12; have BX0_12 := BX0_11.below hb; clear BX0_11; have X1_11 := X1_10.below hb; clear X1_10; have BX1_10 := BX1_9.below hb; clear BX1_9; have X2_9 := X2_8.below hb; clear X2_8; have BX2_8 := BX2_7.below hb; clear BX2_7; have G_7 := G_6.below hb; clear G_6; have BG_6 := BG_5.below hb; clear BG_5; have Y1_0 := Lives.owR ho hs19; clear ho hb; obtain ⟨qBA10, qBA11⟩ := id BA1_19.now; obtain ⟨qBX10, qBX11⟩ := id BX1_10.now)
      | (go_at_call 30; refine (eqSeries_c _ _ _ _ xs1 xs1 _ X1_11.now.1.rd Y1_0.now.1.rd).mono ?_; rw [eqSB_self]; rintro e w20 ⟨rfl, hb⟩; have hs20 := hb.size; have HB20 := HB19.trans (hb.mono HB19.size); have A0_22 := A0_21.below hb; clear A0_21; have A1_22 := A1_21.below hb; clear A1_21; have A2_22 := A2_21.below hb; clear A2_21; have BA0_21 := BA0_20.below hb; clear BA0_20; have BA1_20 := BA1_19.below hb; clear BA1_19; have BA2_19 := BA2_18.below hb; clear BA2_18; have S_15 := S_14.below hb; clear S_14; have BS_15 := BS_14.below hb; clear BS_14; have X0_14 := X0_13.below hb; clear X0_13; have BX0_13 := BX0_12.below hb; clear BX0_12; have X1_12 := X1_11.below hb; clear X1_11; have BX1_11 := BX1_10.below hb; clear BX1_10; have X2_10 := X2_9.below hb; clear X2_9; have BX2_9 := BX2_8.below hb; clear BX2_8; have G_8 := G_7.below hb; clear G_7; have BG_7 := BG_6.below hb; clear BG_6; clear hb; obtain ⟨qBA10, qBA11⟩ := id BA1_20.now; obtain ⟨qBX10, qBX11⟩ := id BX1_11.now))
  go_wp2_with fail
  have hb : Below w20.heap.size w20 w20.drew := (Below.refl _ _).drew
  have HBd2 := HB20.trans (hb.mono HB20.size)
  have hsd2 := hb.size
  have A0_23 := A0_22.below hb
  clear A0_22
  have A1_23 := A1_22.below hb
  clear A1_22
  have A2_23 := A2_22.below hb
  clear A2_22
  have BA0_22 := BA0_21.below hb
  clear BA0_21
  have BA1_21 := BA1_20.below hb
  clear BA1_20
  have BA2_20 := BA2_19.below hb
  clear BA2_19
  have S_16 := S_15.below hb
  clear S_15
  have BS_16 := BS_15.below hb
  clear BS_15
  have X0_15 := X0_14.below hb
  clear X0_14
  have BX0_14 := BX0_13.below hb
  clear BX0_13
  have X1_13 := X1_12.below hb
  clear X1_12
  have BX1_12 := BX1_11.below hb
  clear BX1_11
  have X2_11 := X2_10.below hb
  clear X2_10
  have BX2_10 := BX2_9.below hb
  clear BX2_9
  have G_9 := G_8.below hb
  clear G_8
  have BG_8 := BG_7.below hb
  clear BG_7
  clear hb
  obtain ⟨qBA20, qBA21⟩ := id BA2_20.now
  have qlBA2 : w.heap.size + 2 < w20.heap.size := by have := BA2_20.le; omega
  obtain ⟨qBX20, qBX21⟩ := id BX2_10.now
  have qlBX2 : w12.heap.size < w20.heap.size := by have := BX2_10.le; omega
  go_region_held3 (fun w' => w'.cell? ⟨w.heap.size + 2, 0, none⟩ = some (.int .i64 m2) ∧ w'.cell? ⟨w.heap.size + 2, 1, none⟩ = some (.slice o2 xs2.length c2) ∧ w'.cell? ⟨w12.heap.size, 0, none⟩ = some (.int .i64 m2) ∧ w'.cell? ⟨w12.heap.size, 1, none⟩ = some (.slice ox2 xs2.length cx2)) (go_keep)
    (first
      | (go_at_call 35; refine (toSeries_c _ _ xs2 _ A2_23.now hn2).mono ?_; rintro e w21 ⟨vy2, rfl, ho, hb⟩; have hs21 := hb.size; have HB21 := HBd2.trans (hb.mono HBd2.size); have A0_24 := A0_23.below hb; clear A0_23; have A1_24 := A1_23.below hb; clear A1_23; have A2_24 := A2_23.below hb; clear A2_23; have BA0_23 := BA0_22.below hb; clear BA0_22; have BA1_22 := BA1_21.below hb; clear BA1_21; have BA2_21 := BA2_20.below hb; clear BA2_20; have S_17 := S_16.below hb; clear S_16; have BS_17 := BS_16.below hb; clear BS_16; have X0_16 := X0_15.below hb; clear X0_15; have BX0_15 := BX0_14.below hb; clear BX0_14; have X1_14 := X1_13.below hb; clear X1_13; have BX1_13 := BX1_12.below hb; clear BX1_12; have X2_12 := X2_11.below hb; clear X2_11; have BX2_11 := BX2_10.below hb; clear BX2_10; have G_10 := G_9.below hb; clear G_9; have BG_9 := BG_8.below hb; clear BG_8; have Y2_0 := Lives.owR ho hs21; clear ho hb; obtain ⟨qBA20, qBA21⟩ := id BA2_21.now; obtain ⟨qBX20, qBX21⟩ := id BX2_11.now)
      | (go_at_call 30; refine (eqSeries_c _ _ _ _ xs2 xs2 _ X2_12.now.1.rd Y2_0.now.1.rd).mono ?_; rw [eqSB_self]; rintro e w22 ⟨rfl, hb⟩; have hs22 := hb.size; have HB22 := HB21.trans (hb.mono HB21.size); have A0_25 := A0_24.below hb; clear A0_24; have A1_25 := A1_24.below hb; clear A1_24; have A2_25 := A2_24.below hb; clear A2_24; have BA0_24 := BA0_23.below hb; clear BA0_23; have BA1_23 := BA1_22.below hb; clear BA1_22; have BA2_22 := BA2_21.below hb; clear BA2_21; have S_18 := S_17.below hb; clear S_17; have BS_18 := BS_17.below hb; clear BS_17; have X0_17 := X0_16.below hb; clear X0_16; have BX0_16 := BX0_15.below hb; clear BX0_15; have X1_15 := X1_14.below hb; clear X1_14; have BX1_14 := BX1_13.below hb; clear BX1_13; have X2_13 := X2_12.below hb; clear X2_12; have BX2_12 := BX2_11.below hb; clear BX2_11; have G_11 := G_10.below hb; clear G_10; have BG_10 := BG_9.below hb; clear BG_9; clear hb; obtain ⟨qBA20, qBA21⟩ := id BA2_22.now; obtain ⟨qBX20, qBX21⟩ := id BX2_12.now))
  obtain ⟨qBX00, qBX01⟩ := id BX0_16.now
  have qlBX0 : w8.heap.size < w22.heap.size := by have := BX0_16.le; omega
  go_wp2_with fail
  refine (markPlane_c _ _ xs0 (1) _ _ _ X0_17.now X0_17.le (by omega) (by omega) (by omega)).mono ?_
  rintro e w23 ⟨rfl, ho, hc⟩
  have hs23 := hc.size
  have HB23 := Chg.below HB22 hc (by have := HB22.size; omega) (by have := HB22.size; omega)
  have A0_26 := A0_25.chg hc (by omega)
  clear A0_25
  have A1_26 := A1_25.chg hc (by omega)
  clear A1_25
  have A2_26 := A2_25.chg hc (by omega)
  clear A2_25
  have BA0_25 := BA0_24.chg hc (by omega)
  clear BA0_24
  have BA1_24 := BA1_23.chg hc (by omega)
  clear BA1_23
  have BA2_23 := BA2_22.chg hc (by omega)
  clear BA2_22
  have S_19 := S_18.chg hc (by omega)
  clear S_18
  have BS_19 := BS_18.chg hc (by omega)
  clear BS_18
  have BX0_17 := BX0_16.chg hc (by omega)
  clear BX0_16
  have X1_16 := X1_15.chg hc (by omega)
  clear X1_15
  have BX1_15 := BX1_14.chg hc (by omega)
  clear BX1_14
  have X2_14 := X2_13.chg hc (by omega)
  clear X2_13
  have BX2_13 := BX2_12.chg hc (by omega)
  clear BX2_12
  have G_12 := G_11.chg hc (by omega)
  clear G_11
  have BG_11 := BG_10.chg hc (by omega)
  clear BG_10
  have X0_18 := Lives.markedT X0_17 ho hc
  clear X0_17 hc ho
  obtain ⟨qBX10, qBX11⟩ := id BX1_15.now
  have qlBX1 : w10.heap.size < w23.heap.size := by have := BX1_15.le; omega
  go_wp2_with fail
  have hrow := X1_16.now.2
  refine (markSeries_c _ _ xs1 (1 + (numT xs0 : Nat)) _ _ X1_16.now.1 (by omega) (by omega) (by omega)).mono ?_
  rintro e w24 ⟨rfl, ho, hg⟩
  have hc := chg_of_row X1_16 hrow hg
  have hs24 := hc.size
  have HB24 := Chg.below HB23 hc (by have := HB23.size; omega) (by have := HB23.size; omega)
  have A0_27 := A0_26.chg hc (by omega)
  clear A0_26
  have A1_27 := A1_26.chg hc (by omega)
  clear A1_26
  have A2_27 := A2_26.chg hc (by omega)
  clear A2_26
  have BA0_26 := BA0_25.chg hc (by omega)
  clear BA0_25
  have BA1_25 := BA1_24.chg hc (by omega)
  clear BA1_24
  have BA2_24 := BA2_23.chg hc (by omega)
  clear BA2_23
  have S_20 := S_19.chg hc (by omega)
  clear S_19
  have BS_20 := BS_19.chg hc (by omega)
  clear BS_19
  have X0_19 := X0_18.chg hc (by omega)
  clear X0_18
  have BX0_18 := BX0_17.chg hc (by omega)
  clear BX0_17
  have BX1_16 := BX1_15.chg hc (by omega)
  clear BX1_15
  have X2_15 := X2_14.chg hc (by omega)
  clear X2_14
  have BX2_14 := BX2_13.chg hc (by omega)
  clear BX2_13
  have G_13 := G_12.chg hc (by omega)
  clear G_12
  have BG_12 := BG_11.chg hc (by omega)
  clear BG_11
  have X1_17 := Lives.marked X1_16 ho hc
  clear X1_16 hc hg ho hrow
  obtain ⟨qBX20, qBX21⟩ := id BX2_14.now
  have qlBX2 : w12.heap.size < w24.heap.size := by have := BX2_14.le; omega
  go_wp2_with fail
  have hrow := X2_15.now.2
  refine (markSeries_c _ _ xs2 (1 + (numT xs0 : Nat) + (xs1.length : Nat)) _ _ X2_15.now.1 (by omega) (by omega) (by omega)).mono ?_
  rintro e w25 ⟨rfl, ho, hg⟩
  have hc := chg_of_row X2_15 hrow hg
  have hs25 := hc.size
  have HB25 := Chg.below HB24 hc (by have := HB24.size; omega) (by have := HB24.size; omega)
  have A0_28 := A0_27.chg hc (by omega)
  clear A0_27
  have A1_28 := A1_27.chg hc (by omega)
  clear A1_27
  have A2_28 := A2_27.chg hc (by omega)
  clear A2_27
  have BA0_27 := BA0_26.chg hc (by omega)
  clear BA0_26
  have BA1_26 := BA1_25.chg hc (by omega)
  clear BA1_25
  have BA2_25 := BA2_24.chg hc (by omega)
  clear BA2_24
  have S_21 := S_20.chg hc (by omega)
  clear S_20
  have BS_21 := BS_20.chg hc (by omega)
  clear BS_20
  have X0_20 := X0_19.chg hc (by omega)
  clear X0_19
  have BX0_19 := BX0_18.chg hc (by omega)
  clear BX0_18
  have X1_18 := X1_17.chg hc (by omega)
  clear X1_17
  have BX1_17 := BX1_16.chg hc (by omega)
  clear BX1_16
  have BX2_15 := BX2_14.chg hc (by omega)
  clear BX2_14
  have G_14 := G_13.chg hc (by omega)
  clear G_13
  have BG_13 := BG_12.chg hc (by omega)
  clear BG_12
  have X2_16 := Lives.marked X2_15 ho hc
  clear X2_15 hc hg ho hrow
  obtain ⟨qBG0, qBG1⟩ := id BG_13.now
  have qlBG : w14.heap.size < w25.heap.size := by have := BG_13.le; omega
  obtain ⟨qBS0, qBS1⟩ := id BS_21.now
  have qlBS : bS < w25.heap.size := by have := BS_21.le; omega
  have hq : (r.code != r.code) = false := by simp
  go_wp2_with fail
  clear hq
  have hq : (r.code != r.code) = false := by simp
  refine (eqSeries_c _   _   _ _ r.xs r.xs _ G_14.now.1.rd S_21.now.1.rd).mono ?_
  rw [eqSB_self]
  rintro e w26 ⟨rfl, hb⟩
  have hs26 := hb.size
  have HB26 := HB25.trans (hb.mono HB25.size)
  have A0_29 := A0_28.below hb
  clear A0_28
  have A1_29 := A1_28.below hb
  clear A1_28
  have A2_29 := A2_28.below hb
  clear A2_28
  have BA0_28 := BA0_27.below hb
  clear BA0_27
  have BA1_27 := BA1_26.below hb
  clear BA1_26
  have BA2_26 := BA2_25.below hb
  clear BA2_25
  have S_22 := S_21.below hb
  clear S_21
  have BS_22 := BS_21.below hb
  clear BS_21
  have X0_21 := X0_20.below hb
  clear X0_20
  have BX0_20 := BX0_19.below hb
  clear BX0_19
  have X1_19 := X1_18.below hb
  clear X1_18
  have BX1_18 := BX1_17.below hb
  clear BX1_17
  have X2_17 := X2_16.below hb
  clear X2_16
  have BX2_16 := BX2_15.below hb
  clear BX2_15
  have G_15 := G_14.below hb
  clear G_14
  have BG_14 := BG_13.below hb
  clear BG_13
  clear hb
  obtain ⟨qBG0, qBG1⟩ := id BG_14.now
  have qlBG : w14.heap.size < w26.heap.size := by have := BG_14.le; omega
  go_wp2_with fail
  have hrow := G_15.now.2
  refine (markSeries_c _ _ r.xs (1) _ _ G_15.now.1 (by omega) (by omega) (by omega)).mono ?_
  rintro e w27 ⟨rfl, ho, hg⟩
  have hc := chg_of_row G_15 hrow hg
  have hs27 := hc.size
  have HB27 := Chg.below HB26 hc (by have := HB26.size; omega) (by have := HB26.size; omega)
  have A0_30 := A0_29.chg hc (by omega)
  clear A0_29
  have A1_30 := A1_29.chg hc (by omega)
  clear A1_29
  have A2_30 := A2_29.chg hc (by omega)
  clear A2_29
  have BA0_29 := BA0_28.chg hc (by omega)
  clear BA0_28
  have BA1_28 := BA1_27.chg hc (by omega)
  clear BA1_27
  have BA2_27 := BA2_26.chg hc (by omega)
  clear BA2_26
  have S_23 := S_22.chg hc (by omega)
  clear S_22
  have BS_23 := BS_22.chg hc (by omega)
  clear BS_22
  have X0_22 := X0_21.chg hc (by omega)
  clear X0_21
  have BX0_21 := BX0_20.chg hc (by omega)
  clear BX0_20
  have X1_20 := X1_19.chg hc (by omega)
  clear X1_19
  have BX1_19 := BX1_18.chg hc (by omega)
  clear BX1_18
  have X2_18 := X2_17.chg hc (by omega)
  clear X2_17
  have BX2_17 := BX2_16.chg hc (by omega)
  clear BX2_16
  have BG_15 := BG_14.chg hc (by omega)
  clear BG_14
  have G_16 := Lives.marked G_15 ho hc
  clear G_15 hc hg ho hrow
  obtain ⟨qBG0, qBG1⟩ := id BG_15.now
  have qlBG : w14.heap.size < w27.heap.size := by have := BG_15.le; omega
  go_wp2_with fail
  refine (heldSeries_c _ _ _ 1 _ (G_16.now.1.rd) (by omega) (by omega) (by omega)).mono ?_
  rintro e w28 ⟨rfl, hb⟩
  have hs28 := hb.size
  have HB28 := HB27.trans (hb.mono HB27.size)
  have A0_31 := A0_30.below hb
  clear A0_30
  have A1_31 := A1_30.below hb
  clear A1_30
  have A2_31 := A2_30.below hb
  clear A2_30
  have BA0_30 := BA0_29.below hb
  clear BA0_29
  have BA1_29 := BA1_28.below hb
  clear BA1_28
  have BA2_28 := BA2_27.below hb
  clear BA2_27
  have S_24 := S_23.below hb
  clear S_23
  have BS_24 := BS_23.below hb
  clear BS_23
  have X0_23 := X0_22.below hb
  clear X0_22
  have BX0_22 := BX0_21.below hb
  clear BX0_21
  have X1_21 := X1_20.below hb
  clear X1_20
  have BX1_20 := BX1_19.below hb
  clear BX1_19
  have X2_19 := X2_18.below hb
  clear X2_18
  have BX2_18 := BX2_17.below hb
  clear BX2_17
  have G_17 := G_16.below hb
  clear G_16
  have BG_16 := BG_15.below hb
  clear BG_15
  clear hb
  obtain ⟨qBA00, qBA01⟩ := id BA0_30.now
  have qlBA0 : w.heap.size < w28.heap.size := by have := BA0_30.le; omega
  obtain ⟨qBA10, qBA11⟩ := id BA1_29.now
  have qlBA1 : w.heap.size + 1 < w28.heap.size := by have := BA1_29.le; omega
  obtain ⟨qBA20, qBA21⟩ := id BA2_28.now
  have qlBA2 : w.heap.size + 2 < w28.heap.size := by have := BA2_28.le; omega
  go_wp2_with fail
  go_cut [18, 19] (fun sb sc u => ∃ (wz : World) (b c : Nat) (o : Option Addr), wz = u ∧ sb = .pointer (some ⟨b, 0, none⟩) ∧ sc = .int .i64 r.code ∧ w28.heap.size ≤ b ∧ Box2 u b (.int .i64 r.m) (.slice o r.xs.length c) ∧ OwI u w28.heap.size (.slice o r.xs.length c) r.xs ∧ r.xs.length ≤ 1048576 ∧ Below w28.heap.size w28 u)
  case first => as_aux_lemma =>
    have hd0 : Below w28.heap.size w28 w28.drew := (Below.refl _ _).drew
    have hsd0 := hd0.size
    have T0 := fun (u : World) (hu : Below w28.heap.size w28 u) => toPlane_c m0 (.slice o0 xs0.length c0) xs0 u ((A0_31.below hu).now.rd) hn0
    have TB0 := fun (u : World) (hu : Below w28.heap.size w28 u) => (BA0_30.below hu).now
    have T1 := fun (u : World) (hu : Below w28.heap.size w28 u) => toSeries_c m1 (.slice o1 xs1.length c1) xs1 u ((A1_31.below hu).now) hn1
    have TB1 := fun (u : World) (hu : Below w28.heap.size w28 u) => (BA1_29.below hu).now
    have T2 := fun (u : World) (hu : Below w28.heap.size w28 u) => toSeries_c m2 (.slice o2 xs2.length c2) xs2 u ((A2_31.below hu).now) hn2
    have TB2 := fun (u : World) (hu : Below w28.heap.size w28 u) => (BA2_28.below hu).now
    clear qBA00 qBA01 qBA10 qBA11 qBA20 qBA21
    obtain ⟨qd0_0_0, qd0_0_1⟩ := TB0 _ (Below.refl _ _)
    obtain ⟨qd0_1_0, qd0_1_1⟩ := TB1 _ (Below.refl _ _)
    obtain ⟨qd0_2_0, qd0_2_1⟩ := TB2 _ (Below.refl _ _)
    have hne0_0 : w28.heap.size ≠ w.heap.size := by omega
    have hne0_1 : w28.heap.size ≠ w.heap.size + 1 := by omega
    have hne0_2 : w28.heap.size ≠ w.heap.size + 2 := by omega
    go_region_held3 (fun w' => w'.cell? ⟨w.heap.size, 0, none⟩ = some (.int .i64 m0) ∧ w'.cell? ⟨w.heap.size, 1, none⟩ = some (.slice o0 xs0.length c0) ∧ w'.cell? ⟨w.heap.size + 1, 0, none⟩ = some (.int .i64 m1) ∧ w'.cell? ⟨w.heap.size + 1, 1, none⟩ = some (.slice o1 xs1.length c1) ∧ w'.cell? ⟨w.heap.size + 2, 0, none⟩ = some (.int .i64 m2) ∧ w'.cell? ⟨w.heap.size + 2, 1, none⟩ = some (.slice o2 xs2.length c2)) (go_keep)
      (first
        | (go_at_call_of 17 (Value.agg #[.int .i64 m0, .slice o0 xs0.length c0]); refine (T0 _ (by (repeat (first | exact Below.refl _ _ | (refine Below.setCell ?_ (by first | (simp; done) | (simp; omega) | omega) _) | (refine Below.alloc ?_ (by first | (simp; done) | (simp; omega) | omega) _) | (refine below_drewN ?_ _) | (refine Below.drew ?_))))).mono ?_; rintro e wd1 ⟨vH0, rfl, hod1, hbd1⟩; obtain ⟨oH0, cH0, rfl⟩ := hod1.shape; have hd1 : Below w28.heap.size w28 wd1 := (by (repeat (first | exact Below.refl _ _ | (refine Below.setCell ?_ (by first | (simp; done) | (simp; omega) | omega) _) | (refine Below.alloc ?_ (by first | (simp; done) | (simp; omega) | omega) _) | (refine below_drewN ?_ _) | (refine Below.drew ?_) | (refine Below.trans ?_ (Below.mono hbd1 (by first | (simp; done) | (simp; omega) | omega)))))); have hsd1 := hd1.size; have hsz1_ := hbd1.size; (try simp at hsz1_); obtain ⟨qd1_0_0, qd1_0_1⟩ := TB0 _ hd1; obtain ⟨qd1_1_0, qd1_1_1⟩ := TB1 _ hd1; obtain ⟨qd1_2_0, qd1_2_1⟩ := TB2 _ hd1; have hne1_0 : wd1.heap.size ≠ w.heap.size := (by omega); have hne1_1 : wd1.heap.size ≠ w.heap.size + 1 := (by omega); have hne1_2 : wd1.heap.size ≠ w.heap.size + 2 := (by omega); (try (have RZ := RZ.below hbd1 (Nat.le_refl _))); (try (have RZ := (show RB2 (w28.alloc (.cells #[.int .i64 0, .slice none 0 0] 41)).drew w28.heap.size (.int .i64 0) (.slice none 0 0) from RB2.mk1 w28 (.int .i64 0) (.slice none 0 0) _).below hbd1 (Nat.le_refl _))); (try (obtain ⟨⟨z1_0, z1_1⟩, zf1⟩ := id RZ)))
        | (go_at_call_of 35 (Value.agg #[.int .i64 m1, .slice o1 xs1.length c1]); refine (T1 _ (by (repeat (first | exact Below.refl _ _ | (refine Below.setCell ?_ (by first | (simp; done) | (simp; omega) | omega) _) | (refine Below.alloc ?_ (by first | (simp; done) | (simp; omega) | omega) _) | (refine below_drewN ?_ _) | (refine Below.drew ?_) | (refine Below.trans ?_ (Below.mono hbd1 (by first | (simp; done) | (simp; omega) | omega))))))).mono ?_; rintro e wd2 ⟨vH1, rfl, hod2, hbd2⟩; obtain ⟨oH1, cH1, rfl⟩ := hod2.shape; have hd2 : Below w28.heap.size w28 wd2 := (by (repeat (first | exact Below.refl _ _ | (refine Below.setCell ?_ (by first | (simp; done) | (simp; omega) | omega) _) | (refine Below.alloc ?_ (by first | (simp; done) | (simp; omega) | omega) _) | (refine below_drewN ?_ _) | (refine Below.drew ?_) | (refine Below.trans ?_ (Below.mono hbd1 (by first | (simp; done) | (simp; omega) | omega))) | (refine Below.trans ?_ (Below.mono hbd2 (by first | (simp; done) | (simp; omega) | omega)))))); have hsd2 := hd2.size; have hsz2_ := hbd2.size; (try simp at hsz2_); obtain ⟨qd2_0_0, qd2_0_1⟩ := TB0 _ hd2; obtain ⟨qd2_1_0, qd2_1_1⟩ := TB1 _ hd2; obtain ⟨qd2_2_0, qd2_2_1⟩ := TB2 _ hd2; have hne2_0 : wd2.heap.size ≠ w.heap.size := (by omega); have hne2_1 : wd2.heap.size ≠ w.heap.size + 1 := (by omega); have hne2_2 : wd2.heap.size ≠ w.heap.size + 2 := (by omega); (try (have RZ := RZ.below hbd2 (Nat.le_refl _))); (try (have RZ := (show RB2 (wd1.alloc (.cells #[.int .i64 0, .slice none 0 0] 41)) wd1.heap.size (.int .i64 0) (.slice none 0 0) from RB2.mk1 wd1 (.int .i64 0) (.slice none 0 0) _).below hbd2 (Nat.le_refl _))); (try (obtain ⟨⟨z2_0, z2_1⟩, zf2⟩ := id RZ)))
        | (go_at_call_of 35 (Value.agg #[.int .i64 m2, .slice o2 xs2.length c2]); refine (T2 _ (by (repeat (first | exact Below.refl _ _ | (refine Below.setCell ?_ (by first | (simp; done) | (simp; omega) | omega) _) | (refine Below.alloc ?_ (by first | (simp; done) | (simp; omega) | omega) _) | (refine below_drewN ?_ _) | (refine Below.drew ?_) | (refine Below.trans ?_ (Below.mono hbd1 (by first | (simp; done) | (simp; omega) | omega))) | (refine Below.trans ?_ (Below.mono hbd2 (by first | (simp; done) | (simp; omega) | omega))))))).mono ?_; rintro e wd3 ⟨vH2, rfl, hod3, hbd3⟩; obtain ⟨oH2, cH2, rfl⟩ := hod3.shape; have hd3 : Below w28.heap.size w28 wd3 := (by (repeat (first | exact Below.refl _ _ | (refine Below.setCell ?_ (by first | (simp; done) | (simp; omega) | omega) _) | (refine Below.alloc ?_ (by first | (simp; done) | (simp; omega) | omega) _) | (refine below_drewN ?_ _) | (refine Below.drew ?_) | (refine Below.trans ?_ (Below.mono hbd1 (by first | (simp; done) | (simp; omega) | omega))) | (refine Below.trans ?_ (Below.mono hbd2 (by first | (simp; done) | (simp; omega) | omega))) | (refine Below.trans ?_ (Below.mono hbd3 (by first | (simp; done) | (simp; omega) | omega)))))); have hsd3 := hd3.size; have hsz3_ := hbd3.size; (try simp at hsz3_); obtain ⟨qd3_0_0, qd3_0_1⟩ := TB0 _ hd3; obtain ⟨qd3_1_0, qd3_1_1⟩ := TB1 _ hd3; obtain ⟨qd3_2_0, qd3_2_1⟩ := TB2 _ hd3; have hne3_0 : wd3.heap.size ≠ w.heap.size := (by omega); have hne3_1 : wd3.heap.size ≠ w.heap.size + 1 := (by omega); have hne3_2 : wd3.heap.size ≠ w.heap.size + 2 := (by omega); (try (have RZ := RZ.below hbd3 (Nat.le_refl _))); (try (have RZ := (show RB2 (wd2.alloc (.cells #[.int .i64 0, .slice none 0 0] 41)) wd2.heap.size (.int .i64 0) (.slice none 0 0) from RB2.mk1 wd2 (.int .i64 0) (.slice none 0 0) _).below hbd3 (Nat.le_refl _))); (try (obtain ⟨⟨z3_0, z3_1⟩, zf3⟩ := id RZ)))
        | (go_at_call 40; refine (HI.out _ _ _ _ (by first | exact hod1.rd | exact (hod1.below hbd3).rd | exact ((hod1.below hbd3).alloc _).rd | exact ((hod1.alloc _).below hbd3).rd | exact (hod1.below (by (repeat (first | exact Below.refl _ _ | (refine Below.setCell ?_ (by first | (simp; done) | (simp; omega) | omega) _) | (refine Below.alloc ?_ (by first | (simp; done) | (simp; omega) | omega) _) | (refine below_drewN ?_ _) | (refine Below.drew ?_) | (refine Below.trans ?_ (Below.mono hbd2 (by first | (simp; done) | (simp; omega) | omega))) | (refine Below.trans ?_ (Below.mono hbd3 (by first | (simp; done) | (simp; omega) | omega))))))).rd) (by first | exact hod2.rd | exact (hod2.below hbd3).rd | exact ((hod2.below hbd3).alloc _).rd | exact ((hod2.alloc _).below hbd3).rd | exact (hod2.below (by (repeat (first | exact Below.refl _ _ | (refine Below.setCell ?_ (by first | (simp; done) | (simp; omega) | omega) _) | (refine Below.alloc ?_ (by first | (simp; done) | (simp; omega) | omega) _) | (refine below_drewN ?_ _) | (refine Below.drew ?_) | (refine Below.trans ?_ (Below.mono hbd3 (by first | (simp; done) | (simp; omega) | omega))))))).rd) (by first | exact hod3.rd | exact (hod3.below hbd3).rd | exact ((hod3.below hbd3).alloc _).rd | exact ((hod3.alloc _).below hbd3).rd | exact (hod3.below (by (repeat (first | exact Below.refl _ _ | (refine Below.setCell ?_ (by first | (simp; done) | (simp; omega) | omega) _) | (refine Below.alloc ?_ (by first | (simp; done) | (simp; omega) | omega) _) | (refine below_drewN ?_ _) | (refine Below.drew ?_))))).rd)).mono ?_; rintro e wd4 ⟨vH, rfl, hod4, hbd4, hlen⟩; obtain ⟨oH, cH, rfl⟩ := hod4.shape; have hd4 : Below w28.heap.size w28 wd4 := (by (repeat (first | exact Below.refl _ _ | (refine Below.setCell ?_ (by first | (simp; done) | (simp; omega) | omega) _) | (refine Below.alloc ?_ (by first | (simp; done) | (simp; omega) | omega) _) | (refine below_drewN ?_ _) | (refine Below.drew ?_) | (refine Below.trans ?_ (Below.mono hbd1 (by first | (simp; done) | (simp; omega) | omega))) | (refine Below.trans ?_ (Below.mono hbd2 (by first | (simp; done) | (simp; omega) | omega))) | (refine Below.trans ?_ (Below.mono hbd3 (by first | (simp; done) | (simp; omega) | omega))) | (refine Below.trans ?_ (Below.mono hbd4 (by first | (simp; done) | (simp; omega) | omega)))))); have hsd4 := hd4.size; have hsz4_ := hbd4.size; (try simp at hsz4_); obtain ⟨qd4_0_0, qd4_0_1⟩ := TB0 _ hd4; obtain ⟨qd4_1_0, qd4_1_1⟩ := TB1 _ hd4; obtain ⟨qd4_2_0, qd4_2_1⟩ := TB2 _ hd4; have hne4_0 : wd4.heap.size ≠ w.heap.size := (by omega); have hne4_1 : wd4.heap.size ≠ w.heap.size + 1 := (by omega); have hne4_2 : wd4.heap.size ≠ w.heap.size + 2 := (by omega); (try (have RZ := RZ.below hbd4 (Nat.le_refl _))); (try (have RZ := (show RB2 (wd3.alloc (.cells #[.int .i64 0, .slice none 0 0] 41)) wd3.heap.size (.int .i64 0) (.slice none 0 0) from RB2.mk1 wd3 (.int .i64 0) (.slice none 0 0) _).below hbd4 (Nat.le_refl _))); (try (obtain ⟨⟨z4_0, z4_1⟩, zf4⟩ := id RZ))))
    all_goals
      go_wp2_with fail
      go_meet
      refine ⟨_, _, cH, oH, rfl, rfl, rfl, ?_, ?_, ?_, hlen, ?_⟩
      · first | omega | (simp; done) | (simp; omega)
      · refine ⟨?_, ?_⟩ <;> first | (simp; done) | (simp [go_sem, *]; done)
      · first | exact (hod4.alloc _).mono (by first | (simp; done) | (simp; omega) | omega) | exact ((hod4.low (by first | (simp; done) | (simp; omega) | omega) _).low (by first | (simp; done) | (simp; omega) | omega) _).mono (by first | (simp; done) | (simp; omega) | omega)
      · (repeat (first | exact Below.refl _ _ | (refine Below.setCell ?_ (by first | (simp; done) | (simp; omega) | omega) _) | (refine Below.alloc ?_ (by first | (simp; done) | (simp; omega) | omega) _) | (refine below_drewN ?_ _) | (refine Below.drew ?_) | (refine Below.trans ?_ (Below.mono hbd1 (by first | (simp; done) | (simp; omega) | omega))) | (refine Below.trans ?_ (Below.mono hbd2 (by first | (simp; done) | (simp; omega) | omega))) | (refine Below.trans ?_ (Below.mono hbd3 (by first | (simp; done) | (simp; omega) | omega))) | (refine Below.trans ?_ (Below.mono hbd4 (by first | (simp; done) | (simp; omega) | omega)))))
  case rest =>
  obtain ⟨w29, bH, cH, oH, rfl, rfl, rfl, hbH_, hX, ho, hlen, hb⟩ := hcut
  have hs29 := hb.size
  have HB29 := HB28.trans (hb.mono HB28.size)
  have A0_32 := A0_31.below hb
  clear A0_31
  have A1_32 := A1_31.below hb
  clear A1_31
  have A2_32 := A2_31.below hb
  clear A2_31
  have BA0_31 := BA0_30.below hb
  clear BA0_30
  have BA1_30 := BA1_29.below hb
  clear BA1_29
  have BA2_29 := BA2_28.below hb
  clear BA2_28
  have S_25 := S_24.below hb
  clear S_24
  have BS_25 := BS_24.below hb
  clear BS_24
  have G_18 := G_17.below hb
  clear G_17
  have BG_17 := BG_16.below hb
  clear BG_16
  clear hb
  have H_0 := Lives.owR ho hs29
  have BH_0 := Lives.ofBox2 hX
  clear ho hX
  have hltH_ := BH_0.le
  obtain ⟨qBH0, qBH1⟩ := id BH_0.now
  have qlBH : bH < w29.heap.size := by have := BH_0.le; omega
  obtain ⟨qBS0, qBS1⟩ := id BS_25.now
  have qlBS : bS < w29.heap.size := by have := BS_25.le; omega
  have hq : (r.code != r.code) = false := by simp
  go_wp2_with fail
  clear hq
  have hq : (r.code != r.code) = false := by simp
  refine (eqSeries_c _   _   _ _ r.xs r.xs _ H_0.now.1.rd S_25.now.1.rd).mono ?_
  rw [eqSB_self]
  rintro e w30 ⟨rfl, hb⟩
  have hs30 := hb.size
  have HB30 := HB29.trans (hb.mono HB29.size)
  have A0_33 := A0_32.below hb
  clear A0_32
  have A1_33 := A1_32.below hb
  clear A1_32
  have A2_33 := A2_32.below hb
  clear A2_32
  have BA0_32 := BA0_31.below hb
  clear BA0_31
  have BA1_31 := BA1_30.below hb
  clear BA1_30
  have BA2_30 := BA2_29.below hb
  clear BA2_29
  have S_26 := S_25.below hb
  clear S_25
  have BS_26 := BS_25.below hb
  clear BS_25
  have G_19 := G_18.below hb
  clear G_18
  have BG_18 := BG_17.below hb
  clear BG_17
  have H_1 := H_0.below hb
  clear H_0
  have BH_1 := BH_0.below hb
  clear BH_0
  clear hb
  obtain ⟨qBG0, qBG1⟩ := id BG_18.now
  have qlBG : w14.heap.size < w30.heap.size := by have := BG_18.le; omega
  go_wp2_with fail
  refine (heldSeries_c _ _ _ 1 _ (G_19.now.1.rd) (by omega) (by omega) (by omega)).mono ?_
  rintro e w31 ⟨rfl, hb⟩
  have hs31 := hb.size
  have HB31 := HB30.trans (hb.mono HB30.size)
  have A0_34 := A0_33.below hb
  clear A0_33
  have A1_34 := A1_33.below hb
  clear A1_33
  have A2_34 := A2_33.below hb
  clear A2_33
  have BA0_33 := BA0_32.below hb
  clear BA0_32
  have BA1_32 := BA1_31.below hb
  clear BA1_31
  have BA2_31 := BA2_30.below hb
  clear BA2_30
  have S_27 := S_26.below hb
  clear S_26
  have BS_27 := BS_26.below hb
  clear BS_26
  have G_20 := G_19.below hb
  clear G_19
  have BG_19 := BG_18.below hb
  clear BG_18
  have H_2 := H_1.below hb
  clear H_1
  have BH_2 := BH_1.below hb
  clear BH_1
  clear hb
  go_wp2
  go_ret
  exact ⟨rfl, HB31⟩
end Go.Proofs.Ytflebfmkgmhccaa
