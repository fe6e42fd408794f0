/- The law on TypicalLaw: for every input the program and the reference agree. No condition. -/
import Derived.Test.YtoednonijmkbjaaTG16
import Derived.Test.YtoednonijmkbjaaTG2
import Derived.Test.YtoednonijmkbjaaTEnd
import Derived.Deep.RegionHeld3
set_option linter.unusedSimpArgs false
set_option linter.unusedVariables false
namespace Go.Proofs.Ytoednonijmkbjaa
open Go.RowKit
open Go.ChangeShapes Go.WideShapes Go.ChangeAt Go.Joins

set_option maxRecDepth 100000 in
theorem open_list {H : Type} {enc : TypeId × Value → H} {W : World} {sp : Nat → Bool} {r : Reach} {b0 : Nat} {v : Value} {d : DataW H} {ps : List MemPlace}
    (hv : Value.okWide Try.prog W r b0 30 v) (h : DataW.Trod enc Try.prog W 0 sp true 30 v d ps) : ∃ xs : List Int, RdI W v xs := by
  obtain ⟨a, len, cap, rfl⟩ := okWide_slice Try.underlying30 hv
  obtain ⟨fuel, hf⟩ := h
  exact rd_of_trod hf

set_option maxHeartbeats 4000000 in
set_option maxRecDepth 100000 in
theorem FnExactTypicalLaw_c (a0 : Int) (a1 : Int) (a2 : Int) (v3 : Value) (xs3 : List Int) (w : World) (hv3 : RdI w v3 xs3) :
    Calls Try.prog 4 #[.int .i64 a0, .int .i64 a1, .int .i64 a2, v3] w fun e w' => e = .returned (.bool true) ∧ Below w.heap.size w w' := by
  obtain ⟨o3, c3, rfl, hm3, hz3⟩ := id hv3
  clear hz3
  have HS := Lib.hid (fun (u : World) (u3 : Value) (k3 : RdI u u3 xs3) => sTypicalLaw_c a0 a1 a2 u3 xs3 u k3)
  have HI := Lib.hid (fun (u : World) (u3 : Value) (k3 : RdI u u3 xs3) => TypicalLaw_c a0 a1 a2 u3 xs3 u k3)
  generalize typR a0 a1 a2 xs3 = r at HS HI
  have HB0 := Below.refl w.heap.size w
  have A3_0 := Lives.rdI hv3
  go_enter Try.func4, Try.ntmps4
  by_cases hL3 : (1048576 : Int) < (xs3.length : Int)
  · go_wp2
    go_ret
    exact ⟨rfl, (by (repeat (first | exact Below.refl _ _ | (refine Below.setCell ?_ (by first | (simp; done) | (simp; omega) | omega) _) | (refine Below.alloc ?_ (by first | (simp; done) | (simp; omega) | omega) _) | (refine below_drewN ?_ _) | (refine Below.drew ?_))))⟩
  have hn3 : xs3.length ≤ 1048576 := by omega
  go_wp2_with fail
  go_wp2_with fail
  refine (toInt64S_c _ xs3 _ A3_0.now hn3).mono ?_
  rintro e w1 ⟨vs3, rfl, ho, hb⟩
  have hs1 := hb.size
  have HB1 := HB0.trans (hb.mono HB0.size)
  have A3_1 := A3_0.below hb
  clear A3_0
  clear hb
  obtain ⟨os3, cs3, rfl⟩ := ho.shape
  have Cs3_0 := Lives.owR ho hs1
  clear ho
  go_wp2_with fail
  refine (HS.out _ _ (Cs3_0.now.1.rd)).mono ?_
  rintro e w2 ⟨vS, rfl, ho, hb, hlen⟩
  have hs2 := hb.size
  have HB2 := HB1.trans (hb.mono HB1.size)
  have A3_2 := A3_1.below hb
  clear A3_1
  have Cs3_1 := Cs3_0.below hb
  clear Cs3_0
  clear hb
  obtain ⟨oS, cS, rfl⟩ := ho.shape
  have S_0 := Lives.owS ho hs2
  clear ho
  go_wp2_with fail
  have hb : Below w2.heap.size w2 (w2.alloc (.cells #[.int .i64 r.m, .slice oS r.xs.length cS] 24)) := (by (repeat (first | exact Below.refl _ _ | (refine Below.setCell ?_ (by first | (simp; done) | (simp; omega) | omega) _) | (refine Below.alloc ?_ (by first | (simp; done) | (simp; omega) | omega) _) | (refine below_drewN ?_ _) | (refine Below.drew ?_))))
  have hz : (w2.alloc (.cells #[.int .i64 r.m, .slice oS r.xs.length cS] 24)).heap.size = w2.heap.size + 1 := by simp
  have HB3 := HB2.trans (hb.mono HB2.size)
  have A3_3 := A3_2.below hb
  clear A3_2
  have Cs3_2 := Cs3_1.below hb
  clear Cs3_1
  have S_1 := S_0.below hb
  clear S_0
  have BS_0 := Lives.box2 w2 (.int .i64 r.m) (.slice oS r.xs.length cS) 24
  clear hb
  generalize w2.alloc (.cells #[.int .i64 r.m, .slice oS r.xs.length cS] 24) = w3 at A3_3 Cs3_2 S_1 BS_0 hz HB3 ⊢
  have hlt3 : w2.heap.size < w3.heap.size := by omega
  clear hz
  refine (toInt64S_c _ xs3 _ A3_3.now hn3).mono ?_
  rintro e w4 ⟨vx3, rfl, ho, hb⟩
  have hs4 := hb.size
  have HB4 := HB3.trans (hb.mono HB3.size)
  have A3_4 := A3_3.below hb
  clear A3_3
  have S_2 := S_1.below hb
  clear S_1
  have BS_1 := BS_0.below hb
  clear BS_0
  clear hb
  obtain ⟨ox3, cx3, rfl⟩ := ho.shape
  have X3_0 := Lives.owR ho hs4
  clear ho
  go_wp2_with fail
  refine (HI.out _ _ (X3_0.now.1.rd)).mono ?_
  rintro e w5 ⟨vG, rfl, ho, hb, hlen⟩
  have hs5 := hb.size
  have HB5 := HB4.trans (hb.mono HB4.size)
  have A3_5 := A3_4.below hb
  clear A3_4
  have S_3 := S_2.below hb
  clear S_2
  have BS_2 := BS_1.below hb
  clear BS_1
  have X3_1 := X3_0.below hb
  clear X3_0
  clear hb
  obtain ⟨oG, cG, rfl⟩ := ho.shape
  have G_0 := Lives.owS ho hs5
  clear ho
  obtain ⟨qBS0, qBS1⟩ := id BS_2.now
  have qlBS : w2.heap.size < w5.heap.size := by have := BS_2.le; omega
  have hq : (r.code != r.code) = false := by simp
  go_wp2_with fail
  clear hq
  have hb : Below w5.heap.size w5 (w5.alloc (.cells #[.int .i64 r.m, .slice oG r.xs.length cG] 24)) := (by (repeat (first | exact Below.refl _ _ | (refine Below.setCell ?_ (by first | (simp; done) | (simp; omega) | omega) _) | (refine Below.alloc ?_ (by first | (simp; done) | (simp; omega) | omega) _) | (refine below_drewN ?_ _) | (refine Below.drew ?_))))
  have hz : (w5.alloc (.cells #[.int .i64 r.m, .slice oG r.xs.length cG] 24)).heap.size = w5.heap.size + 1 := by simp
  have HB6 := HB5.trans (hb.mono HB5.size)
  have A3_6 := A3_5.below hb
  clear A3_5
  have S_4 := S_3.below hb
  clear S_3
  have BS_3 := BS_2.below hb
  clear BS_2
  have X3_2 := X3_1.below hb
  clear X3_1
  have G_1 := G_0.below hb
  clear G_0
  have BG_0 := Lives.box2 w5 (.int .i64 r.m) (.slice oG r.xs.length cG) 24
  clear hb
  generalize w5.alloc (.cells #[.int .i64 r.m, .slice oG r.xs.length cG] 24) = w6 at A3_6 S_4 BS_3 X3_2 G_1 BG_0 hz HB6 ⊢
  have hlt6 : w5.heap.size < w6.heap.size := by omega
  clear hz
  have hnumr : numT r.xs ≤ 1048576 := by unfold sizeT at hlen; omega
  have hq : (r.code != r.code) = false := by simp
  refine (eqPlane_c _   _   _ _ r.xs r.xs _ G_1.now.rd S_4.now.rd).mono ?_
  rw [eqPB_self]
  rintro e w7 ⟨rfl, hb⟩
  have hs7 := hb.size
  have HB7 := HB6.trans (hb.mono HB6.size)
  have A3_7 := A3_6.below hb
  clear A3_6
  have S_5 := S_4.below hb
  clear S_4
  have BS_4 := BS_3.below hb
  clear BS_3
  have X3_3 := X3_2.below hb
  clear X3_2
  have G_2 := G_1.below hb
  clear G_1
  have BG_1 := BG_0.below hb
  clear BG_0
  clear hb
  go_wp2_with fail
  refine (toInt64S_c _ xs3 _ A3_7.now hn3).mono ?_
  rintro e w8 ⟨vy3, rfl, ho, hb⟩
  have hs8 := hb.size
  have HB8 := HB7.trans (hb.mono HB7.size)
  have A3_8 := A3_7.below hb
  clear A3_7
  have S_6 := S_5.below hb
  clear S_5
  have BS_5 := BS_4.below hb
  clear BS_4
  have X3_4 := X3_3.below hb
  clear X3_3
  have G_3 := G_2.below hb
  clear G_2
  have BG_2 := BG_1.below hb
  clear BG_1
  clear hb
  obtain ⟨oy3, cy3, rfl⟩ := ho.shape
  have Y3_0 := Lives.owR ho hs8
  clear ho
  go_wp2_with fail
  refine (eqInt64S_c _ _ xs3 xs3 _ X3_4.now.1.rd Y3_0.now.1.rd).mono ?_
  rw [eqLB_self]
  rintro e w9 ⟨rfl, d9, hw⟩
  have hb : Below w8.heap.size w8 w9 := by rw [hw]; exact below_drewN (Below.refl _ _) _
  clear hw
  have hs9 := hb.size
  have HB9 := HB8.trans (hb.mono HB8.size)
  have A3_9 := A3_8.below hb
  clear A3_8
  have S_7 := S_6.below hb
  clear S_6
  have BS_6 := BS_5.below hb
  clear BS_5
  have X3_5 := X3_4.below hb
  clear X3_4
  have G_4 := G_3.below hb
  clear G_3
  have BG_3 := BG_2.below hb
  clear BG_2
  have Y3_1 := Y3_0.below hb
  clear Y3_0
  clear hb
  go_wp2_with fail
  have hrow := X3_5.now.2
  refine (markInt64S_c _ xs3 (1) _ _ X3_5.now.1 (by omega) (by omega) (by omega)).mono ?_
  rintro e w10 ⟨rfl, ho, hg, -⟩
  have hc := chg_of_row X3_5 hrow hg
  have hs10 := hc.size
  have HB10 := Chg.below HB9 hc (by have := HB9.size; omega) (by have := HB9.size; omega)
  have A3_10 := A3_9.chg hc (by omega)
  clear A3_9
  have S_8 := S_7.chg hc (by omega)
  clear S_7
  have BS_7 := BS_6.chg hc (by omega)
  clear BS_6
  have G_5 := G_4.chg hc (by omega)
  clear G_4
  have BG_4 := BG_3.chg hc (by omega)
  clear BG_3
  have Y3_2 := Y3_1.chg hc (by omega)
  clear Y3_1
  have X3_6 := Lives.marked X3_5 ho hc
  clear X3_5 hc hg ho hrow
  obtain ⟨qBG0, qBG1⟩ := id BG_4.now
  have qlBG : w5.heap.size < w10.heap.size := by have := BG_4.le; omega
  obtain ⟨qBS0, qBS1⟩ := id BS_7.now
  have qlBS : w2.heap.size < w10.heap.size := by have := BS_7.le; omega
  have hq : (r.code != r.code) = false := by simp
  go_wp2_with fail
  clear hq
  have hq : (r.code != r.code) = false := by simp
  refine (eqPlane_c _   _   _ _ r.xs r.xs _ G_5.now.rd S_8.now.rd).mono ?_
  rw [eqPB_self]
  rintro e w11 ⟨rfl, hb⟩
  have hs11 := hb.size
  have HB11 := HB10.trans (hb.mono HB10.size)
  have A3_11 := A3_10.below hb
  clear A3_10
  have S_9 := S_8.below hb
  clear S_8
  have BS_8 := BS_7.below hb
  clear BS_7
  have X3_7 := X3_6.below hb
  clear X3_6
  have G_6 := G_5.below hb
  clear G_5
  have BG_5 := BG_4.below hb
  clear BG_4
  have Y3_3 := Y3_2.below hb
  clear Y3_2
  clear hb
  obtain ⟨qBG0, qBG1⟩ := id BG_5.now
  have qlBG : w5.heap.size < w11.heap.size := by have := BG_5.le; omega
  go_wp2_with fail
  refine (markPlane_c _ _ r.xs (1) _ _ _ G_6.now G_6.le (by omega) (by omega) (by omega)).mono ?_
  rintro e w12 ⟨rfl, ho, hc⟩
  have hs12 := hc.size
  have HB12 := Chg.below HB11 hc (by have := HB11.size; omega) (by have := HB11.size; omega)
  have A3_12 := A3_11.chg hc (by omega)
  clear A3_11
  have S_10 := S_9.chg hc (by omega)
  clear S_9
  have BS_9 := BS_8.chg hc (by omega)
  clear BS_8
  have X3_8 := X3_7.chg hc (by omega)
  clear X3_7
  have BG_6 := BG_5.chg hc (by omega)
  clear BG_5
  have Y3_4 := Y3_3.chg hc (by omega)
  clear Y3_3
  have G_7 := Lives.markedT G_6 ho hc
  clear G_6 hc ho
  obtain ⟨qBG0, qBG1⟩ := id BG_6.now
  have qlBG : w5.heap.size < w12.heap.size := by have := BG_6.le; omega
  go_wp2_with fail
  refine (heldPlane_c _ _ r.xs 1 _ (G_7.now.rd) (by omega) (by omega) (by omega)).mono ?_
  rintro e w13 ⟨rfl, hb⟩
  have hs13 := hb.size
  have HB13 := HB12.trans (hb.mono HB12.size)
  have A3_13 := A3_12.below hb
  clear A3_12
  have S_11 := S_10.below hb
  clear S_10
  have BS_10 := BS_9.below hb
  clear BS_9
  have X3_9 := X3_8.below hb
  clear X3_8
  have G_8 := G_7.below hb
  clear G_7
  have BG_7 := BG_6.below hb
  clear BG_6
  have Y3_5 := Y3_4.below hb
  clear Y3_4
  clear hb
  go_wp2_with fail
  refine (toInt64S_c _ xs3 _ A3_13.now hn3).mono ?_
  rintro e w14 ⟨vh3, rfl, ho, hb⟩
  have hs14 := hb.size
  have HB14 := HB13.trans (hb.mono HB13.size)
  have A3_14 := A3_13.below hb
  clear A3_13
  have S_12 := S_11.below hb
  clear S_11
  have BS_11 := BS_10.below hb
  clear BS_10
  have G_9 := G_8.below hb
  clear G_8
  have BG_8 := BG_7.below hb
  clear BG_7
  have Y3_6 := Y3_5.below hb
  clear Y3_5
  clear hb
  obtain ⟨oh3, ch3, rfl⟩ := ho.shape
  have Ch3_0 := Lives.owR ho hs14
  clear ho
  go_wp2_with fail
  refine (HI.out _ _ (Ch3_0.now.1.rd)).mono ?_
  rintro e w15 ⟨vH, rfl, ho, hb, hlen⟩
  have hs15 := hb.size
  have HB15 := HB14.trans (hb.mono HB14.size)
  have A3_15 := A3_14.below hb
  clear A3_14
  have S_13 := S_12.below hb
  clear S_12
  have BS_12 := BS_11.below hb
  clear BS_11
  have G_10 := G_9.below hb
  clear G_9
  have BG_9 := BG_8.below hb
  clear BG_8
  have Y3_7 := Y3_6.below hb
  clear Y3_6
  have Ch3_1 := Ch3_0.below hb
  clear Ch3_0
  clear hb
  obtain ⟨oH, cH, rfl⟩ := ho.shape
  have H_0 := Lives.owS ho hs15
  clear ho
  obtain ⟨qBS0, qBS1⟩ := id BS_12.now
  have qlBS : w2.heap.size < w15.heap.size := by have := BS_12.le; omega
  have hq : (r.code != r.code) = false := by simp
  go_wp2_with fail
  clear hq
  have hb : Below w15.heap.size w15 (w15.alloc (.cells #[.int .i64 r.m, .slice oH r.xs.length cH] 24)) := (by (repeat (first | exact Below.refl _ _ | (refine Below.setCell ?_ (by first | (simp; done) | (simp; omega) | omega) _) | (refine Below.alloc ?_ (by first | (simp; done) | (simp; omega) | omega) _) | (refine below_drewN ?_ _) | (refine Below.drew ?_))))
  have hz : (w15.alloc (.cells #[.int .i64 r.m, .slice oH r.xs.length cH] 24)).heap.size = w15.heap.size + 1 := by simp
  have HB16 := HB15.trans (hb.mono HB15.size)
  have A3_16 := A3_15.below hb
  clear A3_15
  have S_14 := S_13.below hb
  clear S_13
  have BS_13 := BS_12.below hb
  clear BS_12
  have G_11 := G_10.below hb
  clear G_10
  have BG_10 := BG_9.below hb
  clear BG_9
  have Y3_8 := Y3_7.below hb
  clear Y3_7
  have Ch3_2 := Ch3_1.below hb
  clear Ch3_1
  have H_1 := H_0.below hb
  clear H_0
  have BH_0 := Lives.box2 w15 (.int .i64 r.m) (.slice oH r.xs.length cH) 24
  clear hb
  generalize w15.alloc (.cells #[.int .i64 r.m, .slice oH r.xs.length cH] 24) = w16 at A3_16 S_14 BS_13 G_11 BG_10 Y3_8 Ch3_2 H_1 BH_0 hz HB16 ⊢
  have hlt16 : w15.heap.size < w16.heap.size := by omega
  clear hz
  have hq : (r.code != r.code) = false := by simp
  refine (eqPlane_c _   _   _ _ r.xs r.xs _ H_1.now.rd S_14.now.rd).mono ?_
  rw [eqPB_self]
  rintro e w17 ⟨rfl, hb⟩
  have hs17 := hb.size
  have HB17 := HB16.trans (hb.mono HB16.size)
  have A3_17 := A3_16.below hb
  clear A3_16
  have S_15 := S_14.below hb
  clear S_14
  have BS_14 := BS_13.below hb
  clear BS_13
  have G_12 := G_11.below hb
  clear G_11
  have BG_11 := BG_10.below hb
  clear BG_10
  have Y3_9 := Y3_8.below hb
  clear Y3_8
  have H_2 := H_1.below hb
  clear H_1
  have BH_1 := BH_0.below hb
  clear BH_0
  clear hb
  obtain ⟨qBG0, qBG1⟩ := id BG_11.now
  have qlBG : w5.heap.size < w17.heap.size := by have := BG_11.le; omega
  go_wp2_with fail
  refine (heldPlane_c _ _ r.xs 1 _ (G_12.now.rd) (by omega) (by omega) (by omega)).mono ?_
  rintro e w18 ⟨rfl, hb⟩
  have hs18 := hb.size
  have HB18 := HB17.trans (hb.mono HB17.size)
  have A3_18 := A3_17.below hb
  clear A3_17
  have S_16 := S_15.below hb
  clear S_15
  have BS_15 := BS_14.below hb
  clear BS_14
  have G_13 := G_12.below hb
  clear G_12
  have BG_12 := BG_11.below hb
  clear BG_11
  have Y3_10 := Y3_9.below hb
  clear Y3_9
  have H_3 := H_2.below hb
  clear H_2
  have BH_2 := BH_1.below hb
  clear BH_1
  clear hb
  go_wp2
  go_ret
  exact ⟨rfl, HB18⟩

set_option maxRecDepth 100000 in
theorem TypicalLaw_lifted (os : Os) (started : os.Started) (H : Type) (enc : TypeId × Value → H) :
    ReturnsInHanded {} Try.checked os 4 .any (Rows.fnExactTypicalLawSpec.pre6 enc Try.prog Try.f4 Rows.fnExactTypicalLawRow.domain false) (Rows.fnExactTypicalLawSpec.post enc Try.prog Try.f4 false true false false) := by
  refine returnsInHanded_of_change (C := Try.checked) Try.own started (by kernel_rfl) Try.func4
    (ChangeSpec.witness6 (enc := enc) (C := Try.checked) false ⟨#[], #[.int .i64 0, .int .i64 0, .int .i64 0, .slice none 0 0], []⟩ 8 (by kernel_rfl) (by kernel_rfl) (by kernel_rfl) (by kernel_rfl)) ?_
  intro W base args ds gs before hval0 hW _ _
  have hval : ∀ (j : Nat) t v, Try.f4.params[j]? = some t → args[j]? = some v → Value.okWide Try.prog W .any base t v := hval0
  have hW' := hW
  obtain ⟨p, q, hA0, hV, rfl, _, _⟩ := hW
  have hA : DataW.TrodAll enc Try.prog W 0 (fun _ => true) true Try.f4.params.toList args.toList ds p := hA0
  rw [Try.params4] at hA hval
  have hAk := hA
  obtain ⟨rfl, rfl⟩ := trodVars_none hV
  obtain ⟨v0, v1, v2, v3, d0, d1, d2, d3, p0, p1, p2, p3, rfl, rfl, hp, h0, h1, h2, h3⟩ := trodAll_four hA
  obtain ⟨a0, rfl, rfl, hp0, wa0⟩ := open_int Try.underlying2 (hval 0 2 v0 rfl rfl) h0
  obtain ⟨a1, rfl, rfl, hp1, wa1⟩ := open_int Try.underlying2 (hval 1 2 v1 rfl rfl) h1
  obtain ⟨a2, rfl, rfl, hp2, wa2⟩ := open_int Try.underlying2 (hval 2 2 v2 rfl rfl) h2
  obtain ⟨xs3, r3⟩ := open_list (hval 3 30 v3 rfl rfl) h3
  clear hA0 hval0
  simp only [List.append_nil] at hW'
  refine (FnExactTypicalLaw_c a0 a1 a2 v3 xs3 W r3).mono fun e W' ⟨he, hb⟩ => ?_
  subst he
  refine ⟨_, rfl, _, _, _, [], p, [], hW', ?_, ?_, rfl, hb.frame _, fun h => by cases h⟩
  · exact trodAll_mk1 (shut_bool Try.underlying4 true)
  · exact trodAll_below Try.laidOut (by kernel_rfl) hAk hb (fun x hx => by simpa using hW'.lt x hx)

theorem TypicalLaw_holds : Rows.FnExactTypicalLawSaid :=
  OpenClaim.holds_of_wide 4 Try.f4 rfl rfl rfl rfl rfl rfl rfl ⟨rfl, rfl, rfl, rfl, rfl⟩ rfl rfl rfl rfl rfl (by kernel_rfl) Try.func4 (by kernel_rfl)
    (of_decide_eq_true (by kernel_rfl)) (by unfold Func.isWrapper; rw [if_neg (of_decide_eq_false (by kernel_rfl))]; exact ⟨rfl, rfl⟩)
    (fun os started H enc _ => TypicalLaw_lifted os started H enc)

#print axioms TypicalLaw_holds
end Go.Proofs.Ytoednonijmkbjaa
