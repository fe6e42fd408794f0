/- The law on IsTypicalLaw: for every input the program and the reference agree. No condition. -/
import Derived.Test.YtoednonijmkbjaaGreatVG22
import Derived.Test.YtoednonijmkbjaaGreatVG2
import Derived.Test.YtoednonijmkbjaaGreatVEnd
import Derived.Deep.RegionHeld3
set_option linter.unusedSimpArgs false
set_option linter.unusedVariables false
namespace Go.Proofs.YtoednonijmkbjaaGreat
open Go.RowKit
open Go.ChangeShapes Go.WideShapes Go.ChangeAt Go.Joins

set_option maxHeartbeats 4000000 in
set_option maxRecDepth 100000 in
theorem FnExactIsTypicalLaw_c (a0 : Int) (m1 : Int) (v1 : Value) (xs1 : List (List Int)) (w : World) (hv1 : RdT w v1 xs1) :
    Calls Tryz.prog 4 #[.int .i64 a0, .agg #[.int .i64 m1, v1]] w fun e w' => e = .returned (.bool true) ∧ Below w.heap.size w w' := by
  obtain ⟨o1, c1, rfl, hm1, hz1⟩ := id hv1
  clear hz1
  have HS := Lib.hid (fun (u : World) (u1 : Value) (k1 : RdT u u1 xs1) => sIsTypicalLaw_c a0 m1 u1 xs1 u k1)
  have HI := Lib.hid (fun (u : World) (u1 : Value) (k1 : RdT u u1 xs1) => IsTypicalLaw_c a0 m1 u1 xs1 u k1)
  generalize istR a0 m1 xs1 = r at HS HI
  have HB0 := Below.refl w.heap.size w
  obtain ⟨us1, A1_0⟩ := Lives.rdT hv1
  go_enter Tryz.func4, Tryz.ntmps4
  go_wp2_with fail
  have hb : Below w.heap.size w (w.alloc (.cells #[.int .i64 m1, .slice o1 xs1.length c1] 24)) := (by (repeat (first | exact Below.refl _ _ | (refine Below.setCell ?_ (by first | (simp; done) | (simp; omega) | omega) _) | (refine Below.alloc ?_ (by first | (simp; done) | (simp; omega) | omega) _) | (refine below_drewN ?_ _) | (refine Below.drew ?_))))
  have hz : (w.alloc (.cells #[.int .i64 m1, .slice o1 xs1.length c1] 24)).heap.size = w.heap.size + 1 := by simp
  have HB1 := HB0.trans (hb.mono HB0.size)
  have A1_1 := A1_0.below hb
  clear A1_0
  have BA1_0 := Lives.box2 w (.int .i64 m1) (.slice o1 xs1.length c1) 24
  clear hb
  generalize w.alloc (.cells #[.int .i64 m1, .slice o1 xs1.length c1] 24) = w1 at A1_1 BA1_0 hz HB1 ⊢
  have hlt1 : w.heap.size + 0 < w1.heap.size := by omega
  clear hz
  obtain ⟨qBA10, qBA11⟩ := id BA1_0.now
  have qlBA1 : w.heap.size < w1.heap.size := by have := BA1_0.le; omega
  refine (szPlane_c _ _ xs1 1048576 _ A1_1.now.rd (by omega) (by omega)).mono ?_
  rintro e w2 ⟨rfl, hb⟩
  have hs2 := hb.size
  have HB2 := HB1.trans (hb.mono HB1.size)
  have A1_2 := A1_1.below hb
  clear A1_1
  have BA1_1 := BA1_0.below hb
  clear BA1_0
  clear hb
  by_cases hsz1 : szV (sizeT xs1) 1048576 < 0
  · go_wp2
    go_ret
    exact ⟨rfl, HB2⟩
  have hle1 := szT_ok (Int.not_lt.1 hsz1) (by omega)
  obtain ⟨hn1, hl1, hk1⟩ := hle1
  have hnum1 : numT xs1 ≤ 1048576 := by unfold sizeT at hn1; omega
  obtain ⟨qBA10, qBA11⟩ := id BA1_1.now
  have qlBA1 : w.heap.size < w2.heap.size := by have := BA1_1.le; omega
  go_wp2_with fail
  refine (toPlane_c _ _ xs1 _ A1_2.now.rd hn1).mono ?_
  rintro e w3 ⟨vs1, rfl, ho, hb⟩
  have hs3 := hb.size
  have HB3 := HB2.trans (hb.mono HB2.size)
  have A1_3 := A1_2.below hb
  clear A1_2
  have BA1_2 := BA1_1.below hb
  clear BA1_1
  clear hb
  obtain ⟨os1, cs1, rfl⟩ := ho.shape
  have Cs1_0 := Lives.owS ho hs3
  clear ho
  go_wp2_with fail
  refine (HS.out _ _ (Cs1_0.now.rd)).mono ?_
  rintro e w4 ⟨rfl, hb⟩
  have hs4 := hb.size
  have HB4 := HB3.trans (hb.mono HB3.size)
  have A1_4 := A1_3.below hb
  clear A1_3
  have BA1_3 := BA1_2.below hb
  clear BA1_2
  have Cs1_1 := Cs1_0.below hb
  clear Cs1_0
  clear hb
  obtain ⟨qBA10, qBA11⟩ := id BA1_3.now
  have qlBA1 : w.heap.size < w4.heap.size := by have := BA1_3.le; omega
  go_wp2_with fail
  refine (toPlane_c _ _ xs1 _ A1_4.now.rd hn1).mono ?_
  rintro e w5 ⟨vx1, rfl, ho, hb⟩
  have hs5 := hb.size
  have HB5 := HB4.trans (hb.mono HB4.size)
  have A1_5 := A1_4.below hb
  clear A1_4
  have BA1_4 := BA1_3.below hb
  clear BA1_3
  clear hb
  obtain ⟨ox1, cx1, rfl⟩ := ho.shape
  have X1_0 := Lives.owS ho hs5
  clear ho
  go_wp2_with fail
  have hb : Below w5.heap.size w5 (w5.alloc (.cells #[.int .i64 m1, .slice ox1 xs1.length cx1] 31)) := (by (repeat (first | exact Below.refl _ _ | (refine Below.setCell ?_ (by first | (simp; done) | (simp; omega) | omega) _) | (refine Below.alloc ?_ (by first | (simp; done) | (simp; omega) | omega) _) | (refine below_drewN ?_ _) | (refine Below.drew ?_))))
  have hz : (w5.alloc (.cells #[.int .i64 m1, .slice ox1 xs1.length cx1] 31)).heap.size = w5.heap.size + 1 := by simp
  have HB6 := HB5.trans (hb.mono HB5.size)
  have A1_6 := A1_5.below hb
  clear A1_5
  have BA1_5 := BA1_4.below hb
  clear BA1_4
  have X1_1 := X1_0.below hb
  clear X1_0
  have BX1_0 := Lives.box2 w5 (.int .i64 m1) (.slice ox1 xs1.length cx1) 31
  clear hb
  generalize w5.alloc (.cells #[.int .i64 m1, .slice ox1 xs1.length cx1] 31) = w6 at A1_6 BA1_5 X1_1 BX1_0 hz HB6 ⊢
  have hlt6 : w5.heap.size < w6.heap.size := by omega
  clear hz
  refine (HI.out _ _ (X1_1.now.rd)).mono ?_
  rintro e w7 ⟨rfl, hb⟩
  have hs7 := hb.size
  have HB7 := HB6.trans (hb.mono HB6.size)
  have A1_7 := A1_6.below hb
  clear A1_6
  have BA1_6 := BA1_5.below hb
  clear BA1_5
  have X1_2 := X1_1.below hb
  clear X1_1
  have BX1_1 := BX1_0.below hb
  clear BX1_0
  clear hb
  have hq : (r.val != r.val) = false := by simp
  have hq2 : (r.code != r.code) = false := by simp
  go_wp2_with fail
  have hb : Below w7.heap.size w7 w7.drew := (Below.refl _ _).drew
  have HBd1 := HB7.trans (hb.mono HB7.size)
  have hsd1 := hb.size
  have A1_8 := A1_7.below hb
  clear A1_7
  have BA1_7 := BA1_6.below hb
  clear BA1_6
  have X1_3 := X1_2.below hb
  clear X1_2
  have BX1_2 := BX1_1.below hb
  clear BX1_1
  clear hb
  obtain ⟨qBA10, qBA11⟩ := id BA1_7.now
  have qlBA1 : w.heap.size < w7.heap.size := by have := BA1_7.le; omega
  obtain ⟨qBX10, qBX11⟩ := id BX1_2.now
  have qlBX1 : w5.heap.size < w7.heap.size := by have := BX1_2.le; omega
  go_region_held3 (fun w' => w'.cell? ⟨w.heap.size, 0, none⟩ = some (.int .i64 m1) ∧ w'.cell? ⟨w.heap.size, 1, none⟩ = some (.slice o1 xs1.length c1) ∧ w'.cell? ⟨w5.heap.size, 0, none⟩ = some (.int .i64 m1) ∧ w'.cell? ⟨w5.heap.size, 1, none⟩ = some (.slice ox1 xs1.length cx1)) (go_keep)
    (first
      | (go_at_call 9; refine (toPlane_c _ _ xs1 _ A1_8.now.rd hn1).mono ?_; rintro e w8 ⟨vy1, rfl, ho, hb⟩; have hs8 := hb.size; have HB8 := HBd1.trans (hb.mono HBd1.size); have A1_9 := A1_8.below hb; clear A1_8; have BA1_8 := BA1_7.below hb; clear BA1_7; have X1_4 := X1_3.below hb; clear X1_3; have BX1_3 := BX1_2.below hb; clear BX1_2; have Y1_0 := Lives.owS ho hs8; clear ho hb; obtain ⟨qBA10, qBA11⟩ := id BA1_8.now; obtain ⟨qBX10, qBX11⟩ := id BX1_3.now)
      | (go_at_call 12; refine (eqPlane_c _ _ _ _ xs1 xs1 _ X1_4.now.rd Y1_0.now.rd).mono ?_; rw [eqPB_self]; rintro e w9 ⟨rfl, hb⟩; have hs9 := hb.size; have HB9 := HB8.trans (hb.mono HB8.size); have A1_10 := A1_9.below hb; clear A1_9; have BA1_9 := BA1_8.below hb; clear BA1_8; have X1_5 := X1_4.below hb; clear X1_4; have BX1_4 := BX1_3.below hb; clear BX1_3; clear hb; obtain ⟨qBA10, qBA11⟩ := id BA1_9.now; obtain ⟨qBX10, qBX11⟩ := id BX1_4.now))
  go_wp2
  go_ret
  exact ⟨rfl, HB9⟩

set_option maxRecDepth 100000 in
theorem IsTypicalLaw_lifted (os : Os) (started : os.Started) (H : Type) (enc : TypeId × Value → H) :
    ReturnsInHanded {} Tryz.checked os 4 .any (Rows.fnExactIsTypicalLawSpec.pre6 enc Tryz.prog Tryz.f4 Rows.fnExactIsTypicalLawRow.domain false) (Rows.fnExactIsTypicalLawSpec.post enc Tryz.prog Tryz.f4 false true false false) := by
  refine returnsInHanded_of_change (C := Tryz.checked) Tryz.own started (by kernel_rfl) Tryz.func4
    (ChangeSpec.witness6 (enc := enc) (C := Tryz.checked) false ⟨#[], #[.int .i64 0, .agg #[.int .i64 0, .slice none 0 0]], []⟩ 8 (by kernel_rfl) (by kernel_rfl) (by kernel_rfl) (by kernel_rfl)) ?_
  intro W base args ds gs before hval0 hW _ _
  have hval : ∀ (j : Nat) t v, Tryz.f4.params[j]? = some t → args[j]? = some v → Value.okWide Tryz.prog W .any base t v := hval0
  have hW' := hW
  obtain ⟨p, q, hA0, hV, rfl, _, _⟩ := hW
  have hA : DataW.TrodAll enc Tryz.prog W 0 (fun _ => true) true Tryz.f4.params.toList args.toList ds p := hA0
  rw [Tryz.params4] at hA hval
  have hAk := hA
  obtain ⟨rfl, rfl⟩ := trodVars_none hV
  obtain ⟨v0, v1, d0, d1, p0, p1, rfl, rfl, hp, h0, h1⟩ := trodAll_two hA
  obtain ⟨a0, rfl, rfl, hp0, wa0⟩ := open_int Tryz.underlying2 (hval 0 2 v0 rfl rfl) h0
  obtain ⟨m1, u1, xs1, rfl, r1⟩ := open_plane (hval 1 24 v1 rfl rfl) h1
  clear hA0 hval0
  simp only [List.append_nil] at hW'
  refine (FnExactIsTypicalLaw_c a0 m1 u1 xs1 W r1).mono fun e W' ⟨he, hb⟩ => ?_
  subst he
  refine ⟨_, rfl, _, _, _, [], p, [], hW', ?_, ?_, rfl, hb.frame _, fun h => by cases h⟩
  · exact trodAll_mk1 (shut_bool Tryz.underlying4 true)
  · exact trodAll_below Tryz.laidOut (by kernel_rfl) hAk hb (fun x hx => by simpa using hW'.lt x hx)

theorem IsTypicalLaw_holds : Rows.FnExactIsTypicalLawSaid :=
  OpenClaim.holds_of_wide 4 Tryz.f4 rfl rfl rfl rfl rfl rfl rfl ⟨rfl, rfl, rfl, rfl, rfl⟩ rfl rfl rfl rfl rfl (by kernel_rfl) Tryz.func4 (by kernel_rfl)
    (of_decide_eq_true (by kernel_rfl)) (by unfold Func.isWrapper; rw [if_neg (of_decide_eq_false (by kernel_rfl))]; exact ⟨rfl, rfl⟩)
    (fun os started H enc _ => IsTypicalLaw_lifted os started H enc)

#print axioms IsTypicalLaw_holds
end Go.Proofs.YtoednonijmkbjaaGreat
