/- The law on SizeOfClass: for every input the program and the reference agree. No condition. -/
import Derived.Test.YteijannfbafdpaaGreatDoorSZM26
import Derived.Test.YteijannfbafdpaaGreatDoorSZM30
import Derived.Test.YteijannfbafdpaaGreatDoorSZG2
import Derived.Deep.RegionHeld3
import Derived.Test.YteijannfbafdpaaGreatDoorCards
import Derived.Test.YteijannfbafdpaaGreatDoorTie
import Derived.Deep.DeepHandedRow
import Derived.Lib.LaidTab
import Derived.Stop.LaidErr
set_option linter.unusedSimpArgs false
set_option linter.unusedVariables false
namespace Go.Proofs.YteijannfbafdpaaGreatDoor
open Go.RowKit
open Go.ChangeShapes Go.WideShapes Go.ChangeAt Go.Joins

set_option maxHeartbeats 4000000 in
set_option maxRecDepth 100000 in
theorem FnExactSizeOfClass_c (m0 : Int) (v0 : Value) (xs0 : List (List Int)) (w : World) (hv0 : RdT w v0 xs0) (hten : TenT w) :
    Calls Tryz.prog 3 #[.agg #[.int .i64 m0, v0]] w fun e w' => e = .returned (.bool true) ∧ Below w.heap.size w w' := by
  obtain ⟨o0, c0, rfl, hm0, hz0⟩ := id hv0
  clear hz0
  have HS := Lib.hid (fun (u : World) (u0 : Value) (k0 : RdT u u0 xs0) => sSizeOfClass_c m0 u0 xs0 u k0)
  have HI := Lib.hid (fun (u : World) (u0 : Value) (k0 : RdT u u0 xs0) (kT : TenT u) => SizeOfClass_c m0 u0 xs0 u k0 kT)
  generalize szR m0 xs0 = r at HS HI
  have HB0 := Below.refl w.heap.size w
  obtain ⟨us0, A0_0⟩ := Lives.rdT hv0
  go_enter Tryz.func3, Tryz.ntmps3
  go_wp2_with fail
  have hb : Below w.heap.size w (w.alloc (.cells #[.int .i64 m0, .slice o0 xs0.length c0] 24)) := (by (repeat (first | exact bR _ _ | (refine bS ?_ _) | (refine bA ?_ _) | (refine bN ?_ _) | (refine bD ?_))))
  have hz : (w.alloc (.cells #[.int .i64 m0, .slice o0 xs0.length c0] 24)).heap.size = w.heap.size + 1 := by simp
  have HB1 := HB0.trans (hb.mono HB0.size)
  have A0_1 := A0_0.below hb
  clear A0_0
  have BA0_0 := Lives.box2 w (.int .i64 m0) (.slice o0 xs0.length c0) 24
  clear hb
  generalize w.alloc (.cells #[.int .i64 m0, .slice o0 xs0.length c0] 24) = w1 at A0_1 BA0_0 hz HB1 ⊢
  have hlt1 : w.heap.size + 0 < w1.heap.size := by omega
  clear hz
  obtain ⟨qBA00, qBA01⟩ := id BA0_0.now
  have qlBA0 : w.heap.size < w1.heap.size := by have := BA0_0.le; omega
  refine (szPlane_c _ _ xs0 1048576 _ A0_1.now.rd (by omega) (by omega)).mono ?_
  rintro e w2 ⟨rfl, hb⟩
  have hs2 := hb.size
  have HB2 := HB1.trans (hb.mono HB1.size)
  have A0_2 := A0_1.below hb
  clear A0_1
  have BA0_1 := BA0_0.below hb
  clear BA0_0
  clear hb
  by_cases hsz0 : szV (sizeT xs0) 1048576 < 0
  · go_wp2
    go_ret
    exact ⟨rfl, HB2⟩
  have hle0 := szT_ok (Int.not_lt.1 hsz0) (by omega)
  obtain ⟨hn0, hl0, hk0⟩ := hle0
  have hnum0 : numT xs0 ≤ 1048576 := by unfold sizeT at hn0; omega
  obtain ⟨qBA00, qBA01⟩ := id BA0_1.now
  have qlBA0 : w.heap.size < w2.heap.size := by have := BA0_1.le; omega
  go_wp2_with fail
  refine (toPlane_c _ _ xs0 _ A0_2.now.rd hn0).mono ?_
  rintro e w3 ⟨vs0, rfl, ho, hb⟩
  have hs3 := hb.size
  have HB3 := HB2.trans (hb.mono HB2.size)
  have A0_3 := A0_2.below hb
  clear A0_2
  have BA0_2 := BA0_1.below hb
  clear BA0_1
  clear hb
  obtain ⟨os0, cs0, rfl⟩ := ho.shape
  have Cs0_0 := Lives.owS ho hs3
  clear ho
  go_wp2_with fail
  refine (HS.out _ _ (Cs0_0.now.rd)).mono ?_
  rintro e w4 ⟨rfl, hb⟩
  have hs4 := hb.size
  have HB4 := HB3.trans (hb.mono HB3.size)
  have A0_4 := A0_3.below hb
  clear A0_3
  have BA0_3 := BA0_2.below hb
  clear BA0_2
  have Cs0_1 := Cs0_0.below hb
  clear Cs0_0
  clear hb
  obtain ⟨qBA00, qBA01⟩ := id BA0_3.now
  have qlBA0 : w.heap.size < w4.heap.size := by have := BA0_3.le; omega
  go_wp2_with fail
  refine (toPlane_c _ _ xs0 _ A0_4.now.rd hn0).mono ?_
  rintro e w5 ⟨vx0, rfl, ho, hb⟩
  have hs5 := hb.size
  have HB5 := HB4.trans (hb.mono HB4.size)
  have A0_5 := A0_4.below hb
  clear A0_4
  have BA0_4 := BA0_3.below hb
  clear BA0_3
  clear hb
  obtain ⟨ox0, cx0, rfl⟩ := ho.shape
  have X0_0 := Lives.owS ho hs5
  clear ho
  go_wp2_with fail
  have hb : Below w5.heap.size w5 (w5.alloc (.cells #[.int .i64 m0, .slice ox0 xs0.length cx0] 28)) := (by (repeat (first | exact bR _ _ | (refine bS ?_ _) | (refine bA ?_ _) | (refine bN ?_ _) | (refine bD ?_))))
  have hz : (w5.alloc (.cells #[.int .i64 m0, .slice ox0 xs0.length cx0] 28)).heap.size = w5.heap.size + 1 := by simp
  have HB6 := HB5.trans (hb.mono HB5.size)
  have A0_6 := A0_5.below hb
  clear A0_5
  have BA0_5 := BA0_4.below hb
  clear BA0_4
  have X0_1 := X0_0.below hb
  clear X0_0
  have BX0_0 := Lives.box2 w5 (.int .i64 m0) (.slice ox0 xs0.length cx0) 28
  clear hb
  generalize w5.alloc (.cells #[.int .i64 m0, .slice ox0 xs0.length cx0] 28) = w6 at A0_6 BA0_5 X0_1 BX0_0 hz HB6 ⊢
  have hlt6 : w5.heap.size < w6.heap.size := by omega
  clear hz
  refine (HI.out _ _ (X0_1.now.rd) (hten.below HB6)).mono ?_
  rintro e w7 ⟨rfl, hb⟩
  have hs7 := hb.size
  have HB7 := HB6.trans (hb.mono HB6.size)
  have A0_7 := A0_6.below hb
  clear A0_6
  have BA0_6 := BA0_5.below hb
  clear BA0_5
  have X0_2 := X0_1.below hb
  clear X0_1
  have BX0_1 := BX0_0.below hb
  clear BX0_0
  clear hb
  have hq : (r.val != r.val) = false := by simp
  have hq2 : (r.code != r.code) = false := by simp
  go_wp2_with fail
  have hb : Below w7.heap.size w7 w7.drew := (Below.refl _ _).drew
  have HBd0 := HB7.trans (hb.mono HB7.size)
  have hsd0 := hb.size
  have A0_8 := A0_7.below hb
  clear A0_7
  have BA0_7 := BA0_6.below hb
  clear BA0_6
  have X0_3 := X0_2.below hb
  clear X0_2
  have BX0_2 := BX0_1.below hb
  clear BX0_1
  clear hb
  obtain ⟨qBA00, qBA01⟩ := id BA0_7.now
  have qlBA0 : w.heap.size < w7.heap.size := by have := BA0_7.le; omega
  obtain ⟨qBX00, qBX01⟩ := id BX0_2.now
  have qlBX0 : w5.heap.size < w7.heap.size := by have := BX0_2.le; omega
  go_region_held3 (fun w' => w'.cell? ⟨w.heap.size, 0, none⟩ = some (.int .i64 m0) ∧ w'.cell? ⟨w.heap.size, 1, none⟩ = some (.slice o0 xs0.length c0) ∧ w'.cell? ⟨w5.heap.size, 0, none⟩ = some (.int .i64 m0) ∧ w'.cell? ⟨w5.heap.size, 1, none⟩ = some (.slice ox0 xs0.length cx0)) (go_keep)
    (first
      | (go_at_call 6; refine (toPlane_c _ _ xs0 _ A0_8.now.rd hn0).mono ?_; rintro e w8 ⟨vy0, rfl, ho, hb⟩; have hs8 := hb.size; have HB8 := HBd0.trans (hb.mono HBd0.size); have A0_9 := A0_8.below hb; clear A0_8; have BA0_8 := BA0_7.below hb; clear BA0_7; have X0_4 := X0_3.below hb; clear X0_3; have BX0_3 := BX0_2.below hb; clear BX0_2; have Y0_0 := Lives.owS ho hs8; clear ho hb; obtain ⟨qBA00, qBA01⟩ := id BA0_8.now; obtain ⟨qBX00, qBX01⟩ := id BX0_3.now)
      | (go_at_call 8; refine (eqPlane_c _ _ _ _ xs0 xs0 _ X0_4.now.rd Y0_0.now.rd).mono ?_; rw [eqPB_self]; rintro e w9 ⟨rfl, hb⟩; have hs9 := hb.size; have HB9 := HB8.trans (hb.mono HB8.size); have A0_10 := A0_9.below hb; clear A0_9; have BA0_9 := BA0_8.below hb; clear BA0_8; have X0_5 := X0_4.below hb; clear X0_4; have BX0_4 := BX0_3.below hb; clear BX0_3; clear hb; obtain ⟨qBA00, qBA01⟩ := id BA0_9.now; obtain ⟨qBX00, qBX01⟩ := id BX0_4.now))
  go_wp2
  go_ret
  exact ⟨rfl, HB9⟩

theorem gTen : Tryz.prog.globalNamed "internal/strconv.uint64pow10" = some 2 := by kernel_rfl
theorem gTenT : (Tryz.prog.globals[2]?).map (·.type) = some 134 := by kernel_rfl
theorem cellsTen : Tryz.prog.cellsOf 134 = 20 := by kernel_rfl
theorem cellsU : Tryz.prog.cellsOf 113 = 1 := by kernel_rfl
theorem ten_of_laid {W : World} (h : laidMetH Tryz.prog Rows.fnExactSizeOfClassRow.laid W) : TenT W := by
  have h2 : laidMet Tryz.prog [("math/bits.deBruijn32tab", Rows.laid_math_bits_deBruijn32tab), ("math/bits.deBruijn64tab", Rows.laid_math_bits_deBruijn64tab), ("internal/strconv.uint64pow10", Rows.laid_internal_strconv_uint64pow10)] W := h
  have h3 : laidMet Tryz.prog [("internal/strconv.uint64pow10", Lib.tabData .u64 Lib.pow10Tab)] W := laidMet.tail (laidMet.tail h2)
  exact Lib.tabIs_of_head gTen gTenT Tryz.underlying134 Tryz.underlying113 cellsU cellsTen h3
def putCells (cs : Array Value) : Obj → Obj
  | .cells _ t frozen => .cells cs t frozen
  | o => o
noncomputable def laidWorld (os : Os) : World :=
  { World.holding Tryz.prog os ⟨#[], #[], []⟩ with heap := (((World.holding Tryz.prog os ⟨#[], #[], []⟩).heap.modify 2 (putCells (Lib.pow10Tab.map fun z => Value.int .u64 z).toArray)).modify 4 (putCells #[.int .u8 0, .int .u8 1, .int .u8 28, .int .u8 2, .int .u8 29, .int .u8 14, .int .u8 24, .int .u8 3, .int .u8 30, .int .u8 22, .int .u8 20, .int .u8 15, .int .u8 25, .int .u8 17, .int .u8 4, .int .u8 8, .int .u8 31, .int .u8 27, .int .u8 13, .int .u8 23, .int .u8 21, .int .u8 19, .int .u8 16, .int .u8 7, .int .u8 26, .int .u8 12, .int .u8 18, .int .u8 6, .int .u8 11, .int .u8 5, .int .u8 10, .int .u8 9])).modify 5 (putCells #[.int .u8 0, .int .u8 1, .int .u8 56, .int .u8 2, .int .u8 57, .int .u8 49, .int .u8 28, .int .u8 3, .int .u8 61, .int .u8 58, .int .u8 42, .int .u8 50, .int .u8 38, .int .u8 29, .int .u8 17, .int .u8 4, .int .u8 62, .int .u8 47, .int .u8 59, .int .u8 36, .int .u8 45, .int .u8 43, .int .u8 51, .int .u8 22, .int .u8 53, .int .u8 39, .int .u8 33, .int .u8 30, .int .u8 24, .int .u8 18, .int .u8 12, .int .u8 5, .int .u8 63, .int .u8 55, .int .u8 48, .int .u8 27, .int .u8 60, .int .u8 41, .int .u8 37, .int .u8 16, .int .u8 46, .int .u8 35, .int .u8 44, .int .u8 21, .int .u8 52, .int .u8 32, .int .u8 23, .int .u8 11, .int .u8 54, .int .u8 26, .int .u8 40, .int .u8 15, .int .u8 34, .int .u8 20, .int .u8 31, .int .u8 10, .int .u8 25, .int .u8 14, .int .u8 19, .int .u8 9, .int .u8 13, .int .u8 8, .int .u8 7, .int .u8 6]) }
set_option maxRecDepth 100000 in
theorem laid_met (os : Os) : laidMet Tryz.prog Rows.fnExactSizeOfClassRow.laid ((laidWorld os).forCall (fun _ _ => 0) ⟨#[], #[.agg #[.int .i64 0, .slice none 0 0]], []⟩).memory :=
  laidMet_of_run' 8 (by kernel_rfl) (by kernel_rfl)
set_option maxRecDepth 100000 in
theorem laid_reads (os : Os) {H : Type} (enc : TypeId × Value → H) : ∃ places, DataW.whole enc Tryz.prog ((laidWorld os).forCall (fun _ _ => 0) ⟨#[], #[.agg #[.int .i64 0, .slice none 0 0]], []⟩).memory Tryz.f3.params.toList Rows.fnExactSizeOfClassSpec.vars false #[Value.agg #[.int .i64 0, .slice none 0 0]].toList 8 = some ([.agg [.lit (.int .i64 0), .nil]], [], places) :=
  ⟨[], by kernel_rfl⟩
set_option maxRecDepth 100000 in
theorem SizeOfClass_lifted (os : Os) (started : os.Started) (H : Type) (enc : TypeId × Value → H) (F : Stop.Interp) :
    ReturnsInHanded {} Tryz.checked os 3 .any ((OpenSpec.ofChange Rows.fnExactSizeOfClassSpec).preRow enc Tryz.prog Tryz.f3 Rows.fnExactSizeOfClassRow.domain false Rows.fnExactSizeOfClassRow.laid) (((OpenSpec.ofChange Rows.fnExactSizeOfClassSpec).at F).post enc Tryz.prog Tryz.f3 false true false false) := by
  obtain ⟨places, hx⟩ := laid_reads os enc
  refine returnsInHanded_of_row (C := Tryz.checked) (s := OpenSpec.ofChange Rows.fnExactSizeOfClassSpec) Tryz.own started (by kernel_rfl) Tryz.func3
    (witness_row_at (enc := enc) (C := Tryz.checked) false (laidWorld os) #[.agg #[.int .i64 0, .slice none 0 0]] rfl (by kernel_rfl) (by kernel_rfl) (by kernel_rfl)
      (OpenSpec.preRow_of_cond 8 hx (by kernel_rfl) (fun k hk => by cases hk) (by kernel_rfl) (laid_met os))) ?_
  intro W base args ds gs before hval0 hW _ _ _ hL _ _
  have hval : ∀ (j : Nat) t v, Tryz.f3.params[j]? = some t → args[j]? = some v → Value.okWide Tryz.prog W .any base t v := hval0
  have hW' := hW
  obtain ⟨p, q, hA0, hV, rfl, _, _⟩ := hW
  have hA : DataW.TrodAll enc Tryz.prog W 0 (fun _ => true) true Tryz.f3.params.toList args.toList ds p := hA0
  rw [Tryz.params3] at hA hval
  have hAk := hA
  obtain ⟨rfl, rfl⟩ := trodVars_none hV
  obtain ⟨v0, d0, rfl, rfl, h0⟩ := trodAll_one hA
  obtain ⟨m0, u0, xs0, rfl, r0⟩ := open_plane (hval 0 24 v0 rfl rfl) h0
  clear hA0 hval0
  simp only [List.append_nil] at hW'
  refine (FnExactSizeOfClass_c m0 u0 xs0 W r0 (ten_of_laid hL)).mono fun e W' ⟨he, hb⟩ => ?_
  subst he
  refine ⟨_, rfl, _, _, _, [], p, [], hW', ?_, ?_, rfl, hb.frame _, fun h => by cases h⟩
  · exact trodAll_mk1 (shut_bool Tryz.underlying4 true)
  · exact trodAll_below Tryz.laidOut (by kernel_rfl) hAk hb (fun x hx => by simpa using hW'.lt x hx)

theorem SizeOfClass_said : Rows.FnExactSizeOfClassSaid :=
  OpenClaim.holds_of_cond 3 Tryz.f3 rfl rfl rfl rfl rfl rfl rfl ⟨rfl, rfl, rfl, rfl, rfl⟩ rfl rfl rfl rfl rfl (by kernel_rfl) Tryz.func3 (by kernel_rfl)
    (of_decide_eq_true (by kernel_rfl)) (by unfold Func.isWrapper; first | (rw [if_pos (by decide +kernel)]; kernel_rfl) | (rw [if_neg (by decide +kernel)]; exact ⟨rfl, rfl⟩))
    (fun os started H enc _ F => by rw [OpenClaim.pre_eq_preRow]; exact SizeOfClass_lifted os started H enc F)

theorem card_plain (f : FuncId) (fn : Func) (hf : Tryz.pinned.checked.prog.funcNamed "loop.example/g01152/laws.FnExactSizeOfClass" = some f) (hfn : Tryz.pinned.checked.prog.funcs[f]? = some fn) :
    false = Tryz.pinned.checked.prog.looks [] ∧ ∀ (j : Nat) t, fn.params[j]? = some t → Tryz.pinned.checked.prog.wantsStandIn t = false := by
  obtain rfl : f = 3 := Option.some.inj ((show Tryz.prog.funcNamed "loop.example/g01152/laws.FnExactSizeOfClass" = some 3 by kernel_rfl).symm.trans hf) |>.symm
  obtain rfl : fn = Tryz.f3 := (Option.some.inj (Tryz.func3.symm.trans hfn)).symm
  refine ⟨by kernel_rfl, fun j t ht => ?_⟩
  rw [Tryz.params3] at ht
  obtain rfl : t = 24 := by simpa using Array.mem_of_getElem? ht
  exact (show Tryz.prog.wantsStandIn 24 = false by kernel_rfl)

theorem SizeOfClass_holds : Rows.FnExactSizeOfClassCardSaid :=
  Claim7.holds_tied_plain_at .later [] _ _ _ _ SizeOfClass_said (fun _ h => by cases h) (by kernel_rfl) (fun _ h => by cases h) fnExactSizeOfClass_row_tie rfl ⟨rfl, rfl⟩ (by kernel_rfl) rfl card_plain (by kernel_rfl)

#print axioms SizeOfClass_holds
end Go.Proofs.YteijannfbafdpaaGreatDoor
