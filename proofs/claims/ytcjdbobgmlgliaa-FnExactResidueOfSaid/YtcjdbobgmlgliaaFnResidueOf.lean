/- The law on ResidueOf: for every input the program and the reference agree. No condition. -/
import Derived.Test.YtcjdbobgmlgliaaWittD
import Derived.Test.YtcjdbobgmlgliaaLive
import Derived.Test.YtcjdbobgmlgliaaEnd
import Derived.Deep.RegionHeld3
set_option linter.unusedSimpArgs false
set_option linter.unusedVariables false
namespace Go.Proofs.Ytcjdbobgmlgliaa
open Go.RowKit
open Go.ChangeShapes Go.WideShapes Go.ChangeAt Go.Joins

set_option maxHeartbeats 4000000 in
set_option maxRecDepth 100000 in
theorem FnExactResidueOf_c (p0 m0 : Int) (v0 : Value) (xs0 : List Int) (w : World) (hv0 : RdI w v0 xs0) :
    Calls Try.prog 9 #[.agg #[.int .i64 p0, .int .i64 m0, v0]] w fun e w' => e = .returned (.bool true) ∧ Below w.heap.size w w' := by
  obtain ⟨o0, c0, rfl, hm0, hz0⟩ := id hv0
  clear hz0
  have HS := Lib.hid (fun (u : World) (u0 : Value) (k0 : RdI u u0 xs0) => sResidueOf_c p0 m0 u0 xs0 u k0)
  have HI := Lib.hid (fun (u : World) (u0 : Value) (k0 : RdI u u0 xs0) => ResidueOf_c p0 m0 u0 xs0 u k0)
  generalize residR p0 m0 xs0 = r at HS HI
  have HB0 := Below.refl w.heap.size w
  have A0_0 := Lives.rdI hv0
  go_enter Try.func9, Try.ntmps9
  go_wp2_with fail
  have hb : Below w.heap.size w (w.alloc (.cells #[.int .i64 p0, .int .i64 m0, .slice o0 xs0.length c0] 30)) := (by (repeat (first | exact Below.refl _ _ | (refine Below.setCell ?_ (by first | (simp; done) | (simp; omega) | omega) _) | (refine Below.alloc ?_ (by first | (simp; done) | (simp; omega) | omega) _) | (refine below_drewN ?_ _) | (refine Below.drew ?_))))
  have hz : (w.alloc (.cells #[.int .i64 p0, .int .i64 m0, .slice o0 xs0.length c0] 30)).heap.size = w.heap.size + 1 := by simp
  have HB1 := HB0.trans (hb.mono HB0.size)
  have A0_1 := A0_0.below hb
  clear A0_0
  have BA0_0 := Lives.box3 w (.int .i64 p0) (.int .i64 m0) (.slice o0 xs0.length c0) 30
  clear hb
  generalize w.alloc (.cells #[.int .i64 p0, .int .i64 m0, .slice o0 xs0.length c0] 30) = w1 at A0_1 BA0_0 hz HB1 ⊢
  have hlt1 : w.heap.size + 0 < w1.heap.size := by omega
  clear hz
  obtain ⟨qBA00, qBA01, qBA02⟩ := id BA0_0.now
  have qlBA0 : w.heap.size < w1.heap.size := by have := BA0_0.le; omega
  refine (szWitt_c _ _ _ _ _ _ _ hm0.1 (by omega) (by omega)).mono ?_
  rintro e w2 ⟨rfl, hb⟩
  have hs2 := hb.size
  have HB2 := HB1.trans (hb.mono HB1.size)
  have A0_2 := A0_1.below hb
  clear A0_1
  have BA0_1 := BA0_0.below hb
  clear BA0_0
  clear hb
  by_cases hsz0 : szV xs0.length 1048576 < 0
  · go_wp2
    go_ret
    exact ⟨rfl, HB2⟩
  have hle0 := szV_ok (Int.not_lt.1 hsz0) (by omega)
  obtain ⟨hn0, hl0, hk0⟩ := hle0
  obtain ⟨qBA00, qBA01, qBA02⟩ := id BA0_1.now
  have qlBA0 : w.heap.size < w2.heap.size := by have := BA0_1.le; omega
  go_wp2_with fail
  refine (toWitt_c _ _ _ xs0 _ A0_2.now hn0).mono ?_
  rintro e w3 ⟨vs0, rfl, ho, hb⟩
  have hs3 := hb.size
  have HB3 := HB2.trans (hb.mono HB2.size)
  have A0_3 := A0_2.below hb
  clear A0_2
  have BA0_2 := BA0_1.below hb
  clear BA0_1
  clear hb
  obtain ⟨os0, cs0, rfl⟩ := ho.shape
  have Cs0_0 := Lives.owR ho hs3
  clear ho
  go_wp2_with fail
  refine (HS.out _ _ (Cs0_0.now.1.rd)).mono ?_
  rintro e w4 ⟨rfl, hb⟩
  have hs4 := hb.size
  have HB4 := HB3.trans (hb.mono HB3.size)
  have A0_4 := A0_3.below hb
  clear A0_3
  have BA0_3 := BA0_2.below hb
  clear BA0_2
  have Cs0_1 := Cs0_0.below hb
  clear Cs0_0
  clear hb
  obtain ⟨qBA00, qBA01, qBA02⟩ := id BA0_3.now
  have qlBA0 : w.heap.size < w4.heap.size := by have := BA0_3.le; omega
  go_wp2_with fail
  refine (toWitt_c _ _ _ xs0 _ A0_4.now hn0).mono ?_
  rintro e w5 ⟨vx0, rfl, ho, hb⟩
  have hs5 := hb.size
  have HB5 := HB4.trans (hb.mono HB4.size)
  have A0_5 := A0_4.below hb
  clear A0_4
  have BA0_4 := BA0_3.below hb
  clear BA0_3
  clear hb
  obtain ⟨ox0, cx0, rfl⟩ := ho.shape
  have X0_0 := Lives.owR ho hs5
  clear ho
  go_wp2_with fail
  have hb : Below w5.heap.size w5 (w5.alloc (.cells #[.int .i64 p0, .int .i64 m0, .slice ox0 xs0.length cx0] 24)) := (by (repeat (first | exact Below.refl _ _ | (refine Below.setCell ?_ (by first | (simp; done) | (simp; omega) | omega) _) | (refine Below.alloc ?_ (by first | (simp; done) | (simp; omega) | omega) _) | (refine below_drewN ?_ _) | (refine Below.drew ?_))))
  have hz : (w5.alloc (.cells #[.int .i64 p0, .int .i64 m0, .slice ox0 xs0.length cx0] 24)).heap.size = w5.heap.size + 1 := by simp
  have HB6 := HB5.trans (hb.mono HB5.size)
  have A0_6 := A0_5.below hb
  clear A0_5
  have BA0_5 := BA0_4.below hb
  clear BA0_4
  have X0_1 := X0_0.below hb
  clear X0_0
  have BX0_0 := Lives.box3 w5 (.int .i64 p0) (.int .i64 m0) (.slice ox0 xs0.length cx0) 24
  clear hb
  generalize w5.alloc (.cells #[.int .i64 p0, .int .i64 m0, .slice ox0 xs0.length cx0] 24) = w6 at A0_6 BA0_5 X0_1 BX0_0 hz HB6 ⊢
  have hlt6 : w5.heap.size < w6.heap.size := by omega
  clear hz
  refine (HI.out _ _ (X0_1.now.1.rd)).mono ?_
  rintro e w7 ⟨rfl, hb⟩
  have hs7 := hb.size
  have HB7 := HB6.trans (hb.mono HB6.size)
  have A0_7 := A0_6.below hb
  clear A0_6
  have BA0_6 := BA0_5.below hb
  clear BA0_5
  have X0_2 := X0_1.below hb
  clear X0_1
  have BX0_1 := BX0_0.below hb
  clear BX0_0
  clear hb
  have hq : (r.val != r.val) = false := by simp
  have hq2 : (r.code != r.code) = false := by simp
  go_wp2_with fail
  have hb : Below w7.heap.size w7 w7.drew := (Below.refl _ _).drew
  have HBd0 := HB7.trans (hb.mono HB7.size)
  have hsd0 := hb.size
  have A0_8 := A0_7.below hb
  clear A0_7
  have BA0_7 := BA0_6.below hb
  clear BA0_6
  have X0_3 := X0_2.below hb
  clear X0_2
  have BX0_2 := BX0_1.below hb
  clear BX0_1
  clear hb
  obtain ⟨qBA00, qBA01, qBA02⟩ := id BA0_7.now
  have qlBA0 : w.heap.size < w7.heap.size := by have := BA0_7.le; omega
  obtain ⟨qBX00, qBX01, qBX02⟩ := id BX0_2.now
  have qlBX0 : w5.heap.size < w7.heap.size := by have := BX0_2.le; omega
  go_region_held3 (fun w' => w'.cell? ⟨w.heap.size, 0, none⟩ = some (.int .i64 p0) ∧ w'.cell? ⟨w.heap.size, 1, none⟩ = some (.int .i64 m0) ∧ w'.cell? ⟨w.heap.size, 2, none⟩ = some (.slice o0 xs0.length c0) ∧ w'.cell? ⟨w5.heap.size, 0, none⟩ = some (.int .i64 p0) ∧ w'.cell? ⟨w5.heap.size, 1, none⟩ = some (.int .i64 m0) ∧ w'.cell? ⟨w5.heap.size, 2, none⟩ = some (.slice ox0 xs0.length cx0)) (go_keep)
    (first
      | (go_at_call 22; refine (toWitt_c _ _ _ xs0 _ A0_8.now hn0).mono ?_; rintro e w8 ⟨vy0, rfl, ho, hb⟩; have hs8 := hb.size; have HB8 := HBd0.trans (hb.mono HBd0.size); have A0_9 := A0_8.below hb; clear A0_8; have BA0_8 := BA0_7.below hb; clear BA0_7; have X0_4 := X0_3.below hb; clear X0_3; have BX0_3 := BX0_2.below hb; clear BX0_2; have Y0_0 := Lives.owR ho hs8; clear ho hb; obtain ⟨qBA00, qBA01, qBA02⟩ := id BA0_8.now; obtain ⟨qBX00, qBX01, qBX02⟩ := id BX0_3.now)
      | (go_at_call 17; refine (eqWitt_c _ _ _ _ _ _ xs0 xs0 _ X0_4.now.1.rd Y0_0.now.1.rd).mono ?_; rw [eqWB_self]; rintro e w9 ⟨rfl, hb⟩; have hs9 := hb.size; have HB9 := HB8.trans (hb.mono HB8.size); have A0_10 := A0_9.below hb; clear A0_9; have BA0_9 := BA0_8.below hb; clear BA0_8; have X0_5 := X0_4.below hb; clear X0_4; have BX0_4 := BX0_3.below hb; clear BX0_3; clear hb; obtain ⟨qBA00, qBA01, qBA02⟩ := id BA0_9.now; obtain ⟨qBX00, qBX01, qBX02⟩ := id BX0_4.now))
  go_wp2
  go_ret
  exact ⟨rfl, HB9⟩

set_option maxRecDepth 100000 in
theorem ResidueOf_lifted (os : Os) (started : os.Started) (H : Type) (enc : TypeId × Value → H) :
    ReturnsInHanded {} Try.checked os 9 .any (Rows.fnExactResidueOfSpec.pre6 enc Try.prog Try.f9 Rows.fnExactResidueOfRow.domain false) (Rows.fnExactResidueOfSpec.post enc Try.prog Try.f9 false true false false) := by
  refine returnsInHanded_of_change (C := Try.checked) Try.own started (by kernel_rfl) Try.func9
    (ChangeSpec.witness6 (enc := enc) (C := Try.checked) false ⟨#[], #[.agg #[.int .i64 0, .int .i64 0, .slice none 0 0]], []⟩ 8 (by kernel_rfl) (by kernel_rfl) (by kernel_rfl) (by kernel_rfl)) ?_
  intro W base args ds gs before hval0 hW _ _
  have hval : ∀ (j : Nat) t v, Try.f9.params[j]? = some t → args[j]? = some v → Value.okWide Try.prog W .any base t v := hval0
  have hW' := hW
  obtain ⟨p, q, hA0, hV, rfl, _, _⟩ := hW
  have hA : DataW.TrodAll enc Try.prog W 0 (fun _ => true) true Try.f9.params.toList args.toList ds p := hA0
  rw [Try.params9] at hA hval
  have hAk := hA
  obtain ⟨rfl, rfl⟩ := trodVars_none hV
  obtain ⟨v0, d0, rfl, rfl, h0⟩ := trodAll_one hA
  obtain ⟨p0, m0, u0, xs0, rfl, r0⟩ := open_witt (hval 0 30 v0 rfl rfl) h0
  clear hA0 hval0
  simp only [List.append_nil] at hW'
  refine (FnExactResidueOf_c p0 m0 u0 xs0 W r0).mono fun e W' ⟨he, hb⟩ => ?_
  subst he
  refine ⟨_, rfl, _, _, _, [], p, [], hW', ?_, ?_, rfl, hb.frame _, fun h => by cases h⟩
  · exact trodAll_mk1 (shut_bool Try.underlying4 true)
  · exact trodAll_below Try.laidOut (by kernel_rfl) hAk hb (fun x hx => by simpa using hW'.lt x hx)

theorem ResidueOf_holds : Rows.FnExactResidueOfSaid :=
  OpenClaim.holds_of_wide 9 Try.f9 rfl rfl rfl rfl rfl rfl rfl ⟨rfl, rfl, rfl, rfl, rfl⟩ rfl rfl rfl rfl rfl (by kernel_rfl) Try.func9 (by kernel_rfl)
    (of_decide_eq_true (by kernel_rfl)) (by unfold Func.isWrapper; rw [if_neg (of_decide_eq_false (by kernel_rfl))]; exact ⟨rfl, rfl⟩)
    (fun os started H enc _ => ResidueOf_lifted os started H enc)

#print axioms ResidueOf_holds
end Go.Proofs.Ytcjdbobgmlgliaa
