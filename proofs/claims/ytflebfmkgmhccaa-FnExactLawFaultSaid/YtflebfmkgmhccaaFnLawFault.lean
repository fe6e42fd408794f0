/- The law on LawFault: for every input the program and the reference agree. No condition. -/
import Derived.Test.YtflebfmkgmhccaaIsL
import Derived.Test.YtflebfmkgmhccaaLawP
import Derived.Test.YtflebfmkgmhccaaLive
import Derived.Test.YtflebfmkgmhccaaEnd
import Derived.Deep.RegionHeld3
set_option linter.unusedSimpArgs false
set_option linter.unusedVariables false
namespace Go.Proofs.Ytflebfmkgmhccaa
open Go.RowKit
open Go.ChangeShapes Go.WideShapes Go.ChangeAt Go.Joins

set_option maxHeartbeats 4000000 in
set_option maxRecDepth 100000 in
theorem FnExactLawFault_c (m0 : Int) (v0 : Value) (xs0 : List (List Int)) (w : World) (hv0 : RdT w v0 xs0) :
    Calls Try.prog 3 #[.agg #[.int .i64 m0, v0]] w fun e w' => e = .returned (.bool true) ∧ Below w.heap.size w w' := by
  obtain ⟨o0, c0, rfl, hm0, hz0⟩ := id hv0
  clear hz0
  have HS := Lib.hid (fun (u : World) (u0 : Value) (k0 : RdT u u0 xs0) => sLawFault_c m0 u0 xs0 u k0)
  have HI := Lib.hid (fun (u : World) (u0 : Value) (k0 : RdT u u0 xs0) => LawFault_c m0 u0 xs0 u k0)
  generalize lawFaultR m0 xs0 = r at HS HI
  have HB0 := Below.refl w.heap.size w
  obtain ⟨us0, A0_0⟩ := Lives.rdT hv0
  go_enter Try.func3, Try.ntmps3
  go_wp2_with fail
  have hb : Below w.heap.size w (w.alloc (.cells #[.int .i64 m0, .slice o0 xs0.length c0] 24)) := (by (repeat (first | exact Below.refl _ _ | (refine Below.setCell ?_ (by first | (simp; done) | (simp; omega) | omega) _) | (refine Below.alloc ?_ (by first | (simp; done) | (simp; omega) | omega) _) | (refine below_drewN ?_ _) | (refine Below.drew ?_))))
  have hz : (w.alloc (.cells #[.int .i64 m0, .slice o0 xs0.length c0] 24)).heap.size = w.heap.size + 1 := by simp
  have HB1 := HB0.trans (hb.mono HB0.size)
  have A0_1 := A0_0.below hb
  clear A0_0
  have BA0_0 := Lives.box2 w (.int .i64 m0) (.slice o0 xs0.length c0) 24
  clear hb
  generalize w.alloc (.cells #[.int .i64 m0, .slice o0 xs0.length c0] 24) = w1 at A0_1 BA0_0 hz HB1 ⊢
  have hlt1 : w.heap.size + 0 < w1.heap.size := by omega
  clear hz
  obtain ⟨qBA00, qBA01⟩ := id BA0_0.now
  have qlBA0 : w.heap.size < w1.heap.size := by have := BA0_0.le; omega
  refine (szPlane_c _ _ xs0 _ _ A0_1.now.rd (by omega) (by omega)).mono ?_
  rintro e w2 ⟨rfl, hb⟩
  have hs2 := hb.size
  have HB2 := HB1.trans (hb.mono HB1.size)
  have A0_2 := A0_1.below hb
  clear A0_1
  have BA0_1 := BA0_0.below hb
  clear BA0_0
  clear hb
  by_cases hsz0 : szV (sizeT xs0) 1048576 < 0
  · go_wp2
    go_ret
    exact ⟨rfl, HB2⟩
  have hle0 := szT_ok (Int.not_lt.1 hsz0) (by omega)
  obtain ⟨hn0, hl0, hk0⟩ := hle0
  have hnum0 : numT xs0 ≤ 1048576 := by unfold sizeT at hn0; omega
  obtain ⟨qBA00, qBA01⟩ := id BA0_1.now
  have qlBA0 : w.heap.size < w2.heap.size := by have := BA0_1.le; omega
  go_wp2_with fail
  refine (toPlane_c _ _ xs0 _ A0_2.now.rd hn0).mono ?_
  rintro e w3 ⟨vs0, rfl, ho, hb⟩
  have hs3 := hb.size
  have HB3 := HB2.trans (hb.mono HB2.size)
  have A0_3 := A0_2.below hb
  clear A0_2
  have BA0_2 := BA0_1.below hb
  clear BA0_1
  clear hb
  obtain ⟨os0, cs0, rfl⟩ := ho.shape
  have Cs0_0 := Lives.owS ho hs3
  clear ho
  go_wp2_with fail
  refine (HS.out _ _ (Cs0_0.now.rd)).mono ?_
  rintro e w4 ⟨vS, rfl, ho, hb, hlen⟩
  have hs4 := hb.size
  have HB4 := HB3.trans (hb.mono HB3.size)
  have A0_4 := A0_3.below hb
  clear A0_3
  have BA0_3 := BA0_2.below hb
  clear BA0_2
  have Cs0_1 := Cs0_0.below hb
  clear Cs0_0
  clear hb
  obtain ⟨oS, cS, rfl⟩ := ho.shape
  have S_0 := Lives.owR ho hs4
  clear ho
  obtain ⟨qBA00, qBA01⟩ := id BA0_3.now
  have qlBA0 : w.heap.size < w4.heap.size := by have := BA0_3.le; omega
  go_wp2_with fail
  refine (toPlane_c _ _ xs0 _ A0_4.now.rd hn0).mono ?_
  rintro e w5 ⟨vx0, rfl, ho, hb⟩
  have hs5 := hb.size
  have HB5 := HB4.trans (hb.mono HB4.size)
  have A0_5 := A0_4.below hb
  clear A0_4
  have BA0_4 := BA0_3.below hb
  clear BA0_3
  have S_1 := S_0.below hb
  clear S_0
  clear hb
  obtain ⟨ox0, cx0, rfl⟩ := ho.shape
  have X0_0 := Lives.owS ho hs5
  clear ho
  go_wp2_with fail
  have hb : Below w5.heap.size w5 (w5.alloc (.cells #[.int .i64 m0, .slice ox0 xs0.length cx0] 29)) := (by (repeat (first | exact Below.refl _ _ | (refine Below.setCell ?_ (by first | (simp; done) | (simp; omega) | omega) _) | (refine Below.alloc ?_ (by first | (simp; done) | (simp; omega) | omega) _) | (refine below_drewN ?_ _) | (refine Below.drew ?_))))
  have hz : (w5.alloc (.cells #[.int .i64 m0, .slice ox0 xs0.length cx0] 29)).heap.size = w5.heap.size + 1 := by simp
  have HB6 := HB5.trans (hb.mono HB5.size)
  have A0_6 := A0_5.below hb
  clear A0_5
  have BA0_5 := BA0_4.below hb
  clear BA0_4
  have S_2 := S_1.below hb
  clear S_1
  have X0_1 := X0_0.below hb
  clear X0_0
  have BX0_0 := Lives.box2 w5 (.int .i64 m0) (.slice ox0 xs0.length cx0) 29
  clear hb
  generalize w5.alloc (.cells #[.int .i64 m0, .slice ox0 xs0.length cx0] 29) = w6 at A0_6 BA0_5 S_2 X0_1 BX0_0 hz HB6 ⊢
  have hlt6 : w5.heap.size < w6.heap.size := by omega
  clear hz
  refine (HI.out _ _ (X0_1.now.rd)).mono ?_
  rintro e w7 ⟨vG, rfl, ho, hb, hlen⟩
  have hs7 := hb.size
  have HB7 := HB6.trans (hb.mono HB6.size)
  have A0_7 := A0_6.below hb
  clear A0_6
  have BA0_6 := BA0_5.below hb
  clear BA0_5
  have S_3 := S_2.below hb
  clear S_2
  have X0_2 := X0_1.below hb
  clear X0_1
  have BX0_1 := BX0_0.below hb
  clear BX0_0
  clear hb
  obtain ⟨oG, cG, rfl⟩ := ho.shape
  have G_0 := Lives.owR ho hs7
  clear ho
  have hq : (r.code != r.code) = false := by simp
  go_wp2_with fail
  clear hq
  have hq : (r.code != r.code) = false := by simp
  refine (eqInt64S_c  _ _ r.xs r.xs _ G_0.now.1.rd S_3.now.1.rd).mono ?_
  rw [eqLB_self]
  rintro e w8 ⟨rfl, d8, hw⟩
  have hb : Below w7.heap.size w7 w8 := by rw [hw]; exact below_drewN (Below.refl _ _) _
  clear hw
  have hs8 := hb.size
  have HB8 := HB7.trans (hb.mono HB7.size)
  have A0_8 := A0_7.below hb
  clear A0_7
  have BA0_7 := BA0_6.below hb
  clear BA0_6
  have S_4 := S_3.below hb
  clear S_3
  have X0_3 := X0_2.below hb
  clear X0_2
  have BX0_2 := BX0_1.below hb
  clear BX0_1
  have G_1 := G_0.below hb
  clear G_0
  clear hb
  go_wp2_with fail
  have hb : Below w8.heap.size w8 w8.drew := (Below.refl _ _).drew
  have HBd0 := HB8.trans (hb.mono HB8.size)
  have hsd0 := hb.size
  have A0_9 := A0_8.below hb
  clear A0_8
  have BA0_8 := BA0_7.below hb
  clear BA0_7
  have S_5 := S_4.below hb
  clear S_4
  have X0_4 := X0_3.below hb
  clear X0_3
  have BX0_3 := BX0_2.below hb
  clear BX0_2
  have G_2 := G_1.below hb
  clear G_1
  clear hb
  obtain ⟨qBA00, qBA01⟩ := id BA0_8.now
  have qlBA0 : w.heap.size < w8.heap.size := by have := BA0_8.le; omega
  obtain ⟨qBX00, qBX01⟩ := id BX0_3.now
  have qlBX0 : w5.heap.size < w8.heap.size := by have := BX0_3.le; omega
  go_region_held3 (fun w' => w'.cell? ⟨w.heap.size, 0, none⟩ = some (.int .i64 m0) ∧ w'.cell? ⟨w.heap.size, 1, none⟩ = some (.slice o0 xs0.length c0) ∧ w'.cell? ⟨w5.heap.size, 0, none⟩ = some (.int .i64 m0) ∧ w'.cell? ⟨w5.heap.size, 1, none⟩ = some (.slice ox0 xs0.length cx0)) (go_keep)
    (first
      | (go_at_call 17; refine (toPlane_c _ _ xs0 _ A0_9.now.rd hn0).mono ?_; rintro e w9 ⟨vy0, rfl, ho, hb⟩; have hs9 := hb.size; have HB9 := HBd0.trans (hb.mono HBd0.size); have A0_10 := A0_9.below hb; clear A0_9; have BA0_9 := BA0_8.below hb; clear BA0_8; have S_6 := S_5.below hb; clear S_5; have X0_5 := X0_4.below hb; clear X0_4; have BX0_4 := BX0_3.below hb; clear BX0_3; have G_3 := G_2.below hb; clear G_2; have Y0_0 := Lives.owS ho hs9; clear ho hb; obtain ⟨qBA00, qBA01⟩ := id BA0_9.now; obtain ⟨qBX00, qBX01⟩ := id BX0_4.now)
      | (go_at_call 20; refine (eqPlane_c _ _ _ _ xs0 xs0 _ X0_5.now.rd Y0_0.now.rd).mono ?_; rw [eqPB_self]; rintro e w10 ⟨rfl, hb⟩; have hs10 := hb.size; have HB10 := HB9.trans (hb.mono HB9.size); have A0_11 := A0_10.below hb; clear A0_10; have BA0_10 := BA0_9.below hb; clear BA0_9; have S_7 := S_6.below hb; clear S_6; have X0_6 := X0_5.below hb; clear X0_5; have BX0_5 := BX0_4.below hb; clear BX0_4; have G_4 := G_3.below hb; clear G_3; clear hb; obtain ⟨qBA00, qBA01⟩ := id BA0_10.now; obtain ⟨qBX00, qBX01⟩ := id BX0_5.now))
  obtain ⟨qBX00, qBX01⟩ := id BX0_5.now
  have qlBX0 : w5.heap.size < w10.heap.size := by have := BX0_5.le; omega
  go_wp2_with fail
  refine (markPlane_c _ _ xs0 (1) _ _ _ X0_6.now X0_6.le (by omega) (by omega) (by omega)).mono ?_
  rintro e w11 ⟨rfl, ho, hc⟩
  have hs11 := hc.size
  have HB11 := Chg.below HB10 hc (by have := HB10.size; omega) (by have := HB10.size; omega)
  have A0_12 := A0_11.chg hc (by omega)
  clear A0_11
  have BA0_11 := BA0_10.chg hc (by omega)
  clear BA0_10
  have S_8 := S_7.chg hc (by omega)
  clear S_7
  have BX0_6 := BX0_5.chg hc (by omega)
  clear BX0_5
  have G_5 := G_4.chg hc (by omega)
  clear G_4
  have X0_7 := Lives.markedT X0_6 ho hc
  clear X0_6 hc ho
  have hq : (r.code != r.code) = false := by simp
  go_wp2_with fail
  clear hq
  have hq : (r.code != r.code) = false := by simp
  refine (eqInt64S_c  _ _ r.xs r.xs _ G_5.now.1.rd S_8.now.1.rd).mono ?_
  rw [eqLB_self]
  rintro e w12 ⟨rfl, d12, hw⟩
  have hb : Below w11.heap.size w11 w12 := by rw [hw]; exact below_drewN (Below.refl _ _) _
  clear hw
  have hs12 := hb.size
  have HB12 := HB11.trans (hb.mono HB11.size)
  have A0_13 := A0_12.below hb
  clear A0_12
  have BA0_12 := BA0_11.below hb
  clear BA0_11
  have S_9 := S_8.below hb
  clear S_8
  have X0_8 := X0_7.below hb
  clear X0_7
  have BX0_7 := BX0_6.below hb
  clear BX0_6
  have G_6 := G_5.below hb
  clear G_5
  clear hb
  go_wp2_with fail
  have hrow := G_6.now.2
  refine (markInt64S_c _ r.xs (1) _ _ G_6.now.1 (by omega) (by omega) (by omega)).mono ?_
  rintro e w13 ⟨rfl, ho, hg, -⟩
  have hc := chg_of_row G_6 hrow hg
  have hs13 := hc.size
  have HB13 := Chg.below HB12 hc (by have := HB12.size; omega) (by have := HB12.size; omega)
  have A0_14 := A0_13.chg hc (by omega)
  clear A0_13
  have BA0_13 := BA0_12.chg hc (by omega)
  clear BA0_12
  have S_10 := S_9.chg hc (by omega)
  clear S_9
  have X0_9 := X0_8.chg hc (by omega)
  clear X0_8
  have BX0_8 := BX0_7.chg hc (by omega)
  clear BX0_7
  have G_7 := Lives.marked G_6 ho hc
  clear G_6 hc hg ho hrow
  go_wp2_with fail
  refine (heldInt64S_c _ _ 1 _ (G_7.now.1.rd) (by omega) (by omega) (by omega)).mono ?_
  rintro e w14 ⟨rfl, d14, hw⟩
  have hb : Below w13.heap.size w13 w14 := by rw [hw]; exact below_drewN (Below.refl _ _) _
  clear hw
  have hs14 := hb.size
  have HB14 := HB13.trans (hb.mono HB13.size)
  have A0_15 := A0_14.below hb
  clear A0_14
  have BA0_14 := BA0_13.below hb
  clear BA0_13
  have S_11 := S_10.below hb
  clear S_10
  have X0_10 := X0_9.below hb
  clear X0_9
  have BX0_9 := BX0_8.below hb
  clear BX0_8
  have G_8 := G_7.below hb
  clear G_7
  clear hb
  obtain ⟨qBA00, qBA01⟩ := id BA0_14.now
  have qlBA0 : w.heap.size < w14.heap.size := by have := BA0_14.le; omega
  go_wp2_with fail
  refine (toPlane_c _ _ xs0 _ A0_15.now.rd hn0).mono ?_
  rintro e w15 ⟨vh0, rfl, ho, hb⟩
  have hs15 := hb.size
  have HB15 := HB14.trans (hb.mono HB14.size)
  have A0_16 := A0_15.below hb
  clear A0_15
  have BA0_15 := BA0_14.below hb
  clear BA0_14
  have S_12 := S_11.below hb
  clear S_11
  have G_9 := G_8.below hb
  clear G_8
  clear hb
  obtain ⟨oh0, ch0, rfl⟩ := ho.shape
  have Ch0_0 := Lives.owS ho hs15
  clear ho
  go_wp2_with fail
  refine (HI.out _ _ (Ch0_0.now.rd)).mono ?_
  rintro e w16 ⟨vH, rfl, ho, hb, hlen⟩
  have hs16 := hb.size
  have HB16 := HB15.trans (hb.mono HB15.size)
  have A0_17 := A0_16.below hb
  clear A0_16
  have BA0_16 := BA0_15.below hb
  clear BA0_15
  have S_13 := S_12.below hb
  clear S_12
  have G_10 := G_9.below hb
  clear G_9
  have Ch0_1 := Ch0_0.below hb
  clear Ch0_0
  clear hb
  obtain ⟨oH, cH, rfl⟩ := ho.shape
  have H_0 := Lives.owR ho hs16
  clear ho
  have hq : (r.code != r.code) = false := by simp
  go_wp2_with fail
  clear hq
  have hq : (r.code != r.code) = false := by simp
  refine (eqInt64S_c  _ _ r.xs r.xs _ H_0.now.1.rd S_13.now.1.rd).mono ?_
  rw [eqLB_self]
  rintro e w17 ⟨rfl, d17, hw⟩
  have hb : Below w16.heap.size w16 w17 := by rw [hw]; exact below_drewN (Below.refl _ _) _
  clear hw
  have hs17 := hb.size
  have HB17 := HB16.trans (hb.mono HB16.size)
  have A0_18 := A0_17.below hb
  clear A0_17
  have BA0_17 := BA0_16.below hb
  clear BA0_16
  have S_14 := S_13.below hb
  clear S_13
  have G_11 := G_10.below hb
  clear G_10
  have H_1 := H_0.below hb
  clear H_0
  clear hb
  go_wp2_with fail
  refine (heldInt64S_c _ _ 1 _ (G_11.now.1.rd) (by omega) (by omega) (by omega)).mono ?_
  rintro e w18 ⟨rfl, d18, hw⟩
  have hb : Below w17.heap.size w17 w18 := by rw [hw]; exact below_drewN (Below.refl _ _) _
  clear hw
  have hs18 := hb.size
  have HB18 := HB17.trans (hb.mono HB17.size)
  have A0_19 := A0_18.below hb
  clear A0_18
  have BA0_18 := BA0_17.below hb
  clear BA0_17
  have S_15 := S_14.below hb
  clear S_14
  have G_12 := G_11.below hb
  clear G_11
  have H_2 := H_1.below hb
  clear H_1
  clear hb
  go_wp2
  go_ret
  exact ⟨rfl, HB18⟩

set_option maxRecDepth 100000 in
theorem LawFault_lifted (os : Os) (started : os.Started) (H : Type) (enc : TypeId × Value → H) :
    ReturnsInHanded {} Try.checked os 3 .any (Rows.fnExactLawFaultSpec.pre6 enc Try.prog Try.f3 Rows.fnExactLawFaultRow.domain false) (Rows.fnExactLawFaultSpec.post enc Try.prog Try.f3 false true false false) := by
  refine returnsInHanded_of_change (C := Try.checked) Try.own started (by kernel_rfl) Try.func3
    (ChangeSpec.witness6 (enc := enc) (C := Try.checked) false ⟨#[], #[.agg #[.int .i64 0, .slice none 0 0]], []⟩ 8 (by kernel_rfl) (by kernel_rfl) (by kernel_rfl) (by kernel_rfl)) ?_
  intro W base args ds gs before hval0 hW _ _
  have hval : ∀ (j : Nat) t v, Try.f3.params[j]? = some t → args[j]? = some v → Value.okWide Try.prog W .any base t v := hval0
  have hW' := hW
  obtain ⟨p, q, hA0, hV, rfl, _, _⟩ := hW
  have hA : DataW.TrodAll enc Try.prog W 0 (fun _ => true) true Try.f3.params.toList args.toList ds p := hA0
  rw [Try.params3] at hA hval
  have hAk := hA
  obtain ⟨rfl, rfl⟩ := trodVars_none hV
  obtain ⟨v0, d0, rfl, rfl, h0⟩ := trodAll_one hA
  obtain ⟨m0, u0, xs0, rfl, r0⟩ := open_plane (hval 0 24 v0 rfl rfl) h0
  clear hA0 hval0
  simp only [List.append_nil] at hW'
  refine (FnExactLawFault_c m0 u0 xs0 W r0).mono fun e W' ⟨he, hb⟩ => ?_
  subst he
  refine ⟨_, rfl, _, _, _, [], p, [], hW', ?_, ?_, rfl, hb.frame _, fun h => by cases h⟩
  · exact trodAll_mk1 (shut_bool Try.underlying4 true)
  · exact trodAll_below Try.laidOut (by kernel_rfl) hAk hb (fun x hx => by simpa using hW'.lt x hx)

theorem LawFault_holds : Rows.FnExactLawFaultSaid :=
  OpenClaim.holds_of_wide 3 Try.f3 rfl rfl rfl rfl rfl rfl rfl ⟨rfl, rfl, rfl, rfl, rfl⟩ rfl rfl rfl rfl rfl (by kernel_rfl) Try.func3 (by kernel_rfl)
    (of_decide_eq_true (by kernel_rfl)) (by unfold Func.isWrapper; rw [if_neg (of_decide_eq_false (by kernel_rfl))]; exact ⟨rfl, rfl⟩)
    (fun os started H enc _ => LawFault_lifted os started H enc)

#print axioms LawFault_holds
end Go.Proofs.Ytflebfmkgmhccaa
