/- The law on TypicalParameters: for every input the program and the reference agree. No condition. -/
import Derived.Test.YtoednonijmkbjaaGreatVG22
import Derived.Test.YtoednonijmkbjaaGreatVG2
import Derived.Test.YtoednonijmkbjaaGreatVEnd
import Derived.Deep.RegionHeld3
set_option linter.unusedSimpArgs false
set_option linter.unusedVariables false
namespace Go.Proofs.YtoednonijmkbjaaGreat
open Go.RowKit
open Go.ChangeShapes Go.WideShapes Go.ChangeAt Go.Joins

set_option maxHeartbeats 4000000 in
set_option maxRecDepth 100000 in
theorem FnExactTypicalParameters_c (a0 : Int) (m1 : Int) (v1 : Value) (xs1 : List (List Int)) (w : World) (hv1 : RdT w v1 xs1) :
    Calls Tryz.prog 5 #[.int .i64 a0, .agg #[.int .i64 m1, v1]] w fun e w' => e = .returned (.bool true) ∧ Below w.heap.size w w' := by
  obtain ⟨o1, c1, rfl, hm1, hz1⟩ := id hv1
  clear hz1
  have HS := Lib.hid (fun (u : World) (u1 : Value) (k1 : RdT u u1 xs1) => sTypicalParameters_c a0 m1 u1 xs1 u k1)
  have HI := Lib.hid (fun (u : World) (u1 : Value) (k1 : RdT u u1 xs1) => TypicalParameters_c a0 m1 u1 xs1 u k1)
  generalize tparR a0 m1 xs1 = r at HS HI
  have HB0 := Below.refl w.heap.size w
  obtain ⟨us1, A1_0⟩ := Lives.rdT hv1
  go_enter Tryz.func5, Tryz.ntmps5
  go_wp2_with fail
  have hb : Below w.heap.size w (w.alloc (.cells #[.int .i64 m1, .slice o1 xs1.length c1] 24)) := (by (repeat (first | exact Below.refl _ _ | (refine Below.setCell ?_ (by first | (simp; done) | (simp; omega) | omega) _) | (refine Below.alloc ?_ (by first | (simp; done) | (simp; omega) | omega) _) | (refine below_drewN ?_ _) | (refine Below.drew ?_))))
  have hz : (w.alloc (.cells #[.int .i64 m1, .slice o1 xs1.length c1] 24)).heap.size = w.heap.size + 1 := by simp
  have HB1 := HB0.trans (hb.mono HB0.size)
  have A1_1 := A1_0.below hb
  clear A1_0
  have BA1_0 := Lives.box2 w (.int .i64 m1) (.slice o1 xs1.length c1) 24
  clear hb
  generalize w.alloc (.cells #[.int .i64 m1, .slice o1 xs1.length c1] 24) = w1 at A1_1 BA1_0 hz HB1 ⊢
  have hlt1 : w.heap.size + 0 < w1.heap.size := by omega
  clear hz
  obtain ⟨qBA10, qBA11⟩ := id BA1_0.now
  have qlBA1 : w.heap.size < w1.heap.size := by have := BA1_0.le; omega
  refine (szPlane_c _ _ xs1 1048576 _ A1_1.now.rd (by omega) (by omega)).mono ?_
  rintro e w2 ⟨rfl, hb⟩
  have hs2 := hb.size
  have HB2 := HB1.trans (hb.mono HB1.size)
  have A1_2 := A1_1.below hb
  clear A1_1
  have BA1_1 := BA1_0.below hb
  clear BA1_0
  clear hb
  by_cases hsz1 : szV (sizeT xs1) 1048576 < 0
  · go_wp2
    go_ret
    exact ⟨rfl, HB2⟩
  have hle1 := szT_ok (Int.not_lt.1 hsz1) (by omega)
  obtain ⟨hn1, hl1, hk1⟩ := hle1
  have hnum1 : numT xs1 ≤ 1048576 := by unfold sizeT at hn1; omega
  obtain ⟨qBA10, qBA11⟩ := id BA1_1.now
  have qlBA1 : w.heap.size < w2.heap.size := by have := BA1_1.le; omega
  go_wp2_with fail
  refine (toPlane_c _ _ xs1 _ A1_2.now.rd hn1).mono ?_
  rintro e w3 ⟨vs1, rfl, ho, hb⟩
  have hs3 := hb.size
  have HB3 := HB2.trans (hb.mono HB2.size)
  have A1_3 := A1_2.below hb
  clear A1_2
  have BA1_2 := BA1_1.below hb
  clear BA1_1
  clear hb
  obtain ⟨os1, cs1, rfl⟩ := ho.shape
  have Cs1_0 := Lives.owS ho hs3
  clear ho
  go_wp2_with fail
  refine (HS.out _ _ (Cs1_0.now.rd)).mono ?_
  rintro e w4 ⟨vS, rfl, ho, hb, hlen⟩
  have hs4 := hb.size
  have HB4 := HB3.trans (hb.mono HB3.size)
  have A1_4 := A1_3.below hb
  clear A1_3
  have BA1_3 := BA1_2.below hb
  clear BA1_2
  have Cs1_1 := Cs1_0.below hb
  clear Cs1_0
  clear hb
  obtain ⟨oS, cS, rfl⟩ := ho.shape
  have S_0 := Lives.owR ho hs4
  clear ho
  obtain ⟨qBA10, qBA11⟩ := id BA1_3.now
  have qlBA1 : w.heap.size < w4.heap.size := by have := BA1_3.le; omega
  go_wp2_with fail
  refine (toPlane_c _ _ xs1 _ A1_4.now.rd hn1).mono ?_
  rintro e w5 ⟨vx1, rfl, ho, hb⟩
  have hs5 := hb.size
  have HB5 := HB4.trans (hb.mono HB4.size)
  have A1_5 := A1_4.below hb
  clear A1_4
  have BA1_4 := BA1_3.below hb
  clear BA1_3
  have S_1 := S_0.below hb
  clear S_0
  clear hb
  obtain ⟨ox1, cx1, rfl⟩ := ho.shape
  have X1_0 := Lives.owS ho hs5
  clear ho
  go_wp2_with fail
  have hb : Below w5.heap.size w5 (w5.alloc (.cells #[.int .i64 m1, .slice ox1 xs1.length cx1] 31)) := (by (repeat (first | exact Below.refl _ _ | (refine Below.setCell ?_ (by first | (simp; done) | (simp; omega) | omega) _) | (refine Below.alloc ?_ (by first | (simp; done) | (simp; omega) | omega) _) | (refine below_drewN ?_ _) | (refine Below.drew ?_))))
  have hz : (w5.alloc (.cells #[.int .i64 m1, .slice ox1 xs1.length cx1] 31)).heap.size = w5.heap.size + 1 := by simp
  have HB6 := HB5.trans (hb.mono HB5.size)
  have A1_6 := A1_5.below hb
  clear A1_5
  have BA1_5 := BA1_4.below hb
  clear BA1_4
  have S_2 := S_1.below hb
  clear S_1
  have X1_1 := X1_0.below hb
  clear X1_0
  have BX1_0 := Lives.box2 w5 (.int .i64 m1) (.slice ox1 xs1.length cx1) 31
  clear hb
  generalize w5.alloc (.cells #[.int .i64 m1, .slice ox1 xs1.length cx1] 31) = w6 at A1_6 BA1_5 S_2 X1_1 BX1_0 hz HB6 ⊢
  have hlt6 : w5.heap.size < w6.heap.size := by omega
  clear hz
  refine (HI.out _ _ (X1_1.now.rd)).mono ?_
  rintro e w7 ⟨vG, rfl, ho, hb, hlen⟩
  have hs7 := hb.size
  have HB7 := HB6.trans (hb.mono HB6.size)
  have A1_7 := A1_6.below hb
  clear A1_6
  have BA1_6 := BA1_5.below hb
  clear BA1_5
  have S_3 := S_2.below hb
  clear S_2
  have X1_2 := X1_1.below hb
  clear X1_1
  have BX1_1 := BX1_0.below hb
  clear BX1_0
  clear hb
  obtain ⟨oG, cG, rfl⟩ := ho.shape
  have G_0 := Lives.owR ho hs7
  clear ho
  have hq : (r.code != r.code) = false := by simp
  go_wp2_with fail
  clear hq
  have hq : (r.code != r.code) = false := by simp
  refine (eqInt64S_c  _ _ r.xs r.xs _ G_0.now.1.rd S_3.now.1.rd).mono ?_
  rw [eqLB_self]
  rintro e w8 ⟨rfl, d8, hw⟩
  have hb : Below w7.heap.size w7 w8 := by rw [hw]; exact below_drewN (Below.refl _ _) _
  clear hw
  have hs8 := hb.size
  have HB8 := HB7.trans (hb.mono HB7.size)
  have A1_8 := A1_7.below hb
  clear A1_7
  have BA1_7 := BA1_6.below hb
  clear BA1_6
  have S_4 := S_3.below hb
  clear S_3
  have X1_3 := X1_2.below hb
  clear X1_2
  have BX1_2 := BX1_1.below hb
  clear BX1_1
  have G_1 := G_0.below hb
  clear G_0
  clear hb
  go_wp2_with fail
  have hb : Below w8.heap.size w8 w8.drew := (Below.refl _ _).drew
  have HBd1 := HB8.trans (hb.mono HB8.size)
  have hsd1 := hb.size
  have A1_9 := A1_8.below hb
  clear A1_8
  have BA1_8 := BA1_7.below hb
  clear BA1_7
  have S_5 := S_4.below hb
  clear S_4
  have X1_4 := X1_3.below hb
  clear X1_3
  have BX1_3 := BX1_2.below hb
  clear BX1_2
  have G_2 := G_1.below hb
  clear G_1
  clear hb
  obtain ⟨qBA10, qBA11⟩ := id BA1_8.now
  have qlBA1 : w.heap.size < w8.heap.size := by have := BA1_8.le; omega
  obtain ⟨qBX10, qBX11⟩ := id BX1_3.now
  have qlBX1 : w5.heap.size < w8.heap.size := by have := BX1_3.le; omega
  go_region_held3 (fun w' => w'.cell? ⟨w.heap.size, 0, none⟩ = some (.int .i64 m1) ∧ w'.cell? ⟨w.heap.size, 1, none⟩ = some (.slice o1 xs1.length c1) ∧ w'.cell? ⟨w5.heap.size, 0, none⟩ = some (.int .i64 m1) ∧ w'.cell? ⟨w5.heap.size, 1, none⟩ = some (.slice ox1 xs1.length cx1)) (go_keep)
    (first
      | (go_at_call 9; refine (toPlane_c _ _ xs1 _ A1_9.now.rd hn1).mono ?_; rintro e w9 ⟨vy1, rfl, ho, hb⟩; have hs9 := hb.size; have HB9 := HBd1.trans (hb.mono HBd1.size); have A1_10 := A1_9.below hb; clear A1_9; have BA1_9 := BA1_8.below hb; clear BA1_8; have S_6 := S_5.below hb; clear S_5; have X1_5 := X1_4.below hb; clear X1_4; have BX1_4 := BX1_3.below hb; clear BX1_3; have G_3 := G_2.below hb; clear G_2; have Y1_0 := Lives.owS ho hs9; clear ho hb; obtain ⟨qBA10, qBA11⟩ := id BA1_9.now; obtain ⟨qBX10, qBX11⟩ := id BX1_4.now)
      | (go_at_call 12; refine (eqPlane_c _ _ _ _ xs1 xs1 _ X1_5.now.rd Y1_0.now.rd).mono ?_; rw [eqPB_self]; rintro e w10 ⟨rfl, hb⟩; have hs10 := hb.size; have HB10 := HB9.trans (hb.mono HB9.size); have A1_11 := A1_10.below hb; clear A1_10; have BA1_10 := BA1_9.below hb; clear BA1_9; have S_7 := S_6.below hb; clear S_6; have X1_6 := X1_5.below hb; clear X1_5; have BX1_5 := BX1_4.below hb; clear BX1_4; have G_4 := G_3.below hb; clear G_3; clear hb; obtain ⟨qBA10, qBA11⟩ := id BA1_10.now; obtain ⟨qBX10, qBX11⟩ := id BX1_5.now))
  obtain ⟨qBX10, qBX11⟩ := id BX1_5.now
  have qlBX1 : w5.heap.size < w10.heap.size := by have := BX1_5.le; omega
  go_wp2_with fail
  refine (markPlane_c _ _ xs1 (1) _ _ _ X1_6.now X1_6.le (by omega) (by omega) (by omega)).mono ?_
  rintro e w11 ⟨rfl, ho, hc⟩
  have hs11 := hc.size
  have HB11 := Chg.below HB10 hc (by have := HB10.size; omega) (by have := HB10.size; omega)
  have A1_12 := A1_11.chg hc (by omega)
  clear A1_11
  have BA1_11 := BA1_10.chg hc (by omega)
  clear BA1_10
  have S_8 := S_7.chg hc (by omega)
  clear S_7
  have BX1_6 := BX1_5.chg hc (by omega)
  clear BX1_5
  have G_5 := G_4.chg hc (by omega)
  clear G_4
  have X1_7 := Lives.markedT X1_6 ho hc
  clear X1_6 hc ho
  have hq : (r.code != r.code) = false := by simp
  go_wp2_with fail
  clear hq
  have hq : (r.code != r.code) = false := by simp
  refine (eqInt64S_c  _ _ r.xs r.xs _ G_5.now.1.rd S_8.now.1.rd).mono ?_
  rw [eqLB_self]
  rintro e w12 ⟨rfl, d12, hw⟩
  have hb : Below w11.heap.size w11 w12 := by rw [hw]; exact below_drewN (Below.refl _ _) _
  clear hw
  have hs12 := hb.size
  have HB12 := HB11.trans (hb.mono HB11.size)
  have A1_13 := A1_12.below hb
  clear A1_12
  have BA1_12 := BA1_11.below hb
  clear BA1_11
  have S_9 := S_8.below hb
  clear S_8
  have X1_8 := X1_7.below hb
  clear X1_7
  have BX1_7 := BX1_6.below hb
  clear BX1_6
  have G_6 := G_5.below hb
  clear G_5
  clear hb
  go_wp2_with fail
  have hrow := G_6.now.2
  refine (markInt64S_c _ r.xs (1) _ _ G_6.now.1 (by omega) (by omega) (by omega)).mono ?_
  rintro e w13 ⟨rfl, ho, hg, -⟩
  have hc := chg_of_row G_6 hrow hg
  have hs13 := hc.size
  have HB13 := Chg.below HB12 hc (by have := HB12.size; omega) (by have := HB12.size; omega)
  have A1_14 := A1_13.chg hc (by omega)
  clear A1_13
  have BA1_13 := BA1_12.chg hc (by omega)
  clear BA1_12
  have S_10 := S_9.chg hc (by omega)
  clear S_9
  have X1_9 := X1_8.chg hc (by omega)
  clear X1_8
  have BX1_8 := BX1_7.chg hc (by omega)
  clear BX1_7
  have G_7 := Lives.marked G_6 ho hc
  clear G_6 hc hg ho hrow
  go_wp2_with fail
  refine (heldInt64S_c _ _ 1 _ (G_7.now.1.rd) (by omega) (by omega) (by omega)).mono ?_
  rintro e w14 ⟨rfl, d14, hw⟩
  have hb : Below w13.heap.size w13 w14 := by rw [hw]; exact below_drewN (Below.refl _ _) _
  clear hw
  have hs14 := hb.size
  have HB14 := HB13.trans (hb.mono HB13.size)
  have A1_15 := A1_14.below hb
  clear A1_14
  have BA1_14 := BA1_13.below hb
  clear BA1_13
  have S_11 := S_10.below hb
  clear S_10
  have X1_10 := X1_9.below hb
  clear X1_9
  have BX1_9 := BX1_8.below hb
  clear BX1_8
  have G_8 := G_7.below hb
  clear G_7
  clear hb
  obtain ⟨qBA10, qBA11⟩ := id BA1_14.now
  have qlBA1 : w.heap.size < w14.heap.size := by have := BA1_14.le; omega
  go_wp2_with fail
  refine (toPlane_c _ _ xs1 _ A1_15.now.rd hn1).mono ?_
  rintro e w15 ⟨vh1, rfl, ho, hb⟩
  have hs15 := hb.size
  have HB15 := HB14.trans (hb.mono HB14.size)
  have A1_16 := A1_15.below hb
  clear A1_15
  have BA1_15 := BA1_14.below hb
  clear BA1_14
  have S_12 := S_11.below hb
  clear S_11
  have G_9 := G_8.below hb
  clear G_8
  clear hb
  obtain ⟨oh1, ch1, rfl⟩ := ho.shape
  have Ch1_0 := Lives.owS ho hs15
  clear ho
  go_wp2_with fail
  refine (HI.out _ _ (Ch1_0.now.rd)).mono ?_
  rintro e w16 ⟨vH, rfl, ho, hb, hlen⟩
  have hs16 := hb.size
  have HB16 := HB15.trans (hb.mono HB15.size)
  have A1_17 := A1_16.below hb
  clear A1_16
  have BA1_16 := BA1_15.below hb
  clear BA1_15
  have S_13 := S_12.below hb
  clear S_12
  have G_10 := G_9.below hb
  clear G_9
  have Ch1_1 := Ch1_0.below hb
  clear Ch1_0
  clear hb
  obtain ⟨oH, cH, rfl⟩ := ho.shape
  have H_0 := Lives.owR ho hs16
  clear ho
  have hq : (r.code != r.code) = false := by simp
  go_wp2_with fail
  clear hq
  have hq : (r.code != r.code) = false := by simp
  refine (eqInt64S_c  _ _ r.xs r.xs _ H_0.now.1.rd S_13.now.1.rd).mono ?_
  rw [eqLB_self]
  rintro e w17 ⟨rfl, d17, hw⟩
  have hb : Below w16.heap.size w16 w17 := by rw [hw]; exact below_drewN (Below.refl _ _) _
  clear hw
  have hs17 := hb.size
  have HB17 := HB16.trans (hb.mono HB16.size)
  have A1_18 := A1_17.below hb
  clear A1_17
  have BA1_17 := BA1_16.below hb
  clear BA1_16
  have S_14 := S_13.below hb
  clear S_13
  have G_11 := G_10.below hb
  clear G_10
  have H_1 := H_0.below hb
  clear H_0
  clear hb
  go_wp2_with fail
  refine (heldInt64S_c _ _ 1 _ (G_11.now.1.rd) (by omega) (by omega) (by omega)).mono ?_
  rintro e w18 ⟨rfl, d18, hw⟩
  have hb : Below w17.heap.size w17 w18 := by rw [hw]; exact below_drewN (Below.refl _ _) _
  clear hw
  have hs18 := hb.size
  have HB18 := HB17.trans (hb.mono HB17.size)
  have A1_19 := A1_18.below hb
  clear A1_18
  have BA1_18 := BA1_17.below hb
  clear BA1_17
  have S_15 := S_14.below hb
  clear S_14
  have G_12 := G_11.below hb
  clear G_11
  have H_2 := H_1.below hb
  clear H_1
  clear hb
  go_wp2
  go_ret
  exact ⟨rfl, HB18⟩

set_option maxRecDepth 100000 in
theorem TypicalParameters_lifted (os : Os) (started : os.Started) (H : Type) (enc : TypeId × Value → H) :
    ReturnsInHanded {} Tryz.checked os 5 .any (Rows.fnExactTypicalParametersSpec.pre6 enc Tryz.prog Tryz.f5 Rows.fnExactTypicalParametersRow.domain false) (Rows.fnExactTypicalParametersSpec.post enc Tryz.prog Tryz.f5 false true false false) := by
  refine returnsInHanded_of_change (C := Tryz.checked) Tryz.own started (by kernel_rfl) Tryz.func5
    (ChangeSpec.witness6 (enc := enc) (C := Tryz.checked) false ⟨#[], #[.int .i64 0, .agg #[.int .i64 0, .slice none 0 0]], []⟩ 8 (by kernel_rfl) (by kernel_rfl) (by kernel_rfl) (by kernel_rfl)) ?_
  intro W base args ds gs before hval0 hW _ _
  have hval : ∀ (j : Nat) t v, Tryz.f5.params[j]? = some t → args[j]? = some v → Value.okWide Tryz.prog W .any base t v := hval0
  have hW' := hW
  obtain ⟨p, q, hA0, hV, rfl, _, _⟩ := hW
  have hA : DataW.TrodAll enc Tryz.prog W 0 (fun _ => true) true Tryz.f5.params.toList args.toList ds p := hA0
  rw [Tryz.params5] at hA hval
  have hAk := hA
  obtain ⟨rfl, rfl⟩ := trodVars_none hV
  obtain ⟨v0, v1, d0, d1, p0, p1, rfl, rfl, hp, h0, h1⟩ := trodAll_two hA
  obtain ⟨a0, rfl, rfl, hp0, wa0⟩ := open_int Tryz.underlying2 (hval 0 2 v0 rfl rfl) h0
  obtain ⟨m1, u1, xs1, rfl, r1⟩ := open_plane (hval 1 24 v1 rfl rfl) h1
  clear hA0 hval0
  simp only [List.append_nil] at hW'
  refine (FnExactTypicalParameters_c a0 m1 u1 xs1 W r1).mono fun e W' ⟨he, hb⟩ => ?_
  subst he
  refine ⟨_, rfl, _, _, _, [], p, [], hW', ?_, ?_, rfl, hb.frame _, fun h => by cases h⟩
  · exact trodAll_mk1 (shut_bool Tryz.underlying4 true)
  · exact trodAll_below Tryz.laidOut (by kernel_rfl) hAk hb (fun x hx => by simpa using hW'.lt x hx)

theorem TypicalParameters_holds : Rows.FnExactTypicalParametersSaid :=
  OpenClaim.holds_of_wide 5 Tryz.f5 rfl rfl rfl rfl rfl rfl rfl ⟨rfl, rfl, rfl, rfl, rfl⟩ rfl rfl rfl rfl rfl (by kernel_rfl) Tryz.func5 (by kernel_rfl)
    (of_decide_eq_true (by kernel_rfl)) (by unfold Func.isWrapper; rw [if_neg (of_decide_eq_false (by kernel_rfl))]; exact ⟨rfl, rfl⟩)
    (fun os started H enc _ => TypicalParameters_lifted os started H enc)

#print axioms TypicalParameters_holds
end Go.Proofs.YtoednonijmkbjaaGreat
