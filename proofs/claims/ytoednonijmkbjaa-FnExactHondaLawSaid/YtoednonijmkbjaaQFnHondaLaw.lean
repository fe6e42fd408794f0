/- The law on HondaLaw: for every input the program and the reference agree. No condition. -/
import Derived.Test.YtoednonijmkbjaaQTyV
import Derived.Test.YtoednonijmkbjaaQG2
import Derived.Test.YtoednonijmkbjaaQEnd
import Derived.Deep.RegionHeld3
set_option linter.unusedSimpArgs false
set_option linter.unusedVariables false
namespace Go.Proofs.Ytoednonijmkbjaa
open Go.RowKit
open Go.ChangeShapes Go.WideShapes Go.ChangeAt Go.Joins

set_option maxHeartbeats 4000000 in
set_option maxRecDepth 100000 in
theorem FnExactHondaLaw_c (a0 : Int) (a1 : Int) (a2 : Int) (w : World)  :
    Calls Try.prog 3 #[.int .i64 a0, .int .i64 a1, .int .i64 a2] w fun e w' => e = .returned (.bool true) ∧ Below w.heap.size w w' := by
  have HS := Lib.hid (fun (u : World) => sHondaLaw_c a0 a1 a2 u)
  have HI := Lib.hid (fun (u : World) => HondaLaw_c a0 a1 a2 u)
  generalize hondaR a0 a1 a2 = r at HS HI
  have HB0 := Below.refl w.heap.size w
  go_enter Try.func3, Try.ntmps3
  go_wp2_with fail
  go_wp2_with fail
  refine (HS.out _ ).mono ?_
  rintro e w1 ⟨vS, rfl, ho, hb, hlen⟩
  have hs1 := hb.size
  have HB1 := HB0.trans (hb.mono HB0.size)
  clear hb
  obtain ⟨oS, cS, rfl⟩ := ho.shape
  have S_0 := Lives.owS ho hs1
  clear ho
  go_wp2_with fail
  have hb : Below w1.heap.size w1 (w1.alloc (.cells #[.int .i64 r.m, .slice oS r.xs.length cS] 24)) := (by (repeat (first | exact Below.refl _ _ | (refine Below.setCell ?_ (by first | (simp; done) | (simp; omega) | omega) _) | (refine Below.alloc ?_ (by first | (simp; done) | (simp; omega) | omega) _) | (refine below_drewN ?_ _) | (refine Below.drew ?_))))
  have hz : (w1.alloc (.cells #[.int .i64 r.m, .slice oS r.xs.length cS] 24)).heap.size = w1.heap.size + 1 := by simp
  have HB2 := HB1.trans (hb.mono HB1.size)
  have S_1 := S_0.below hb
  clear S_0
  have BS_0 := Lives.box2 w1 (.int .i64 r.m) (.slice oS r.xs.length cS) 24
  clear hb
  generalize w1.alloc (.cells #[.int .i64 r.m, .slice oS r.xs.length cS] 24) = w2 at S_1 BS_0 hz HB2 ⊢
  have hlt2 : w1.heap.size < w2.heap.size := by omega
  clear hz
  refine (HI.out _ ).mono ?_
  rintro e w3 ⟨vG, rfl, ho, hb, hlen⟩
  have hs3 := hb.size
  have HB3 := HB2.trans (hb.mono HB2.size)
  have S_2 := S_1.below hb
  clear S_1
  have BS_1 := BS_0.below hb
  clear BS_0
  clear hb
  obtain ⟨oG, cG, rfl⟩ := ho.shape
  have G_0 := Lives.owS ho hs3
  clear ho
  obtain ⟨qBS0, qBS1⟩ := id BS_1.now
  have qlBS : w1.heap.size < w3.heap.size := by have := BS_1.le; omega
  have hq : (r.code != r.code) = false := by simp
  go_wp2_with fail
  clear hq
  have hb : Below w3.heap.size w3 (w3.alloc (.cells #[.int .i64 r.m, .slice oG r.xs.length cG] 24)) := (by (repeat (first | exact Below.refl _ _ | (refine Below.setCell ?_ (by first | (simp; done) | (simp; omega) | omega) _) | (refine Below.alloc ?_ (by first | (simp; done) | (simp; omega) | omega) _) | (refine below_drewN ?_ _) | (refine Below.drew ?_))))
  have hz : (w3.alloc (.cells #[.int .i64 r.m, .slice oG r.xs.length cG] 24)).heap.size = w3.heap.size + 1 := by simp
  have HB4 := HB3.trans (hb.mono HB3.size)
  have S_3 := S_2.below hb
  clear S_2
  have BS_2 := BS_1.below hb
  clear BS_1
  have G_1 := G_0.below hb
  clear G_0
  have BG_0 := Lives.box2 w3 (.int .i64 r.m) (.slice oG r.xs.length cG) 24
  clear hb
  generalize w3.alloc (.cells #[.int .i64 r.m, .slice oG r.xs.length cG] 24) = w4 at S_3 BS_2 G_1 BG_0 hz HB4 ⊢
  have hlt4 : w3.heap.size < w4.heap.size := by omega
  clear hz
  have hnumr : numT r.xs ≤ 1048576 := by unfold sizeT at hlen; omega
  have hq : (r.code != r.code) = false := by simp
  refine (eqPlane_c _   _   _ _ r.xs r.xs _ G_1.now.rd S_3.now.rd).mono ?_
  rw [eqPB_self]
  rintro e w5 ⟨rfl, hb⟩
  have hs5 := hb.size
  have HB5 := HB4.trans (hb.mono HB4.size)
  have S_4 := S_3.below hb
  clear S_3
  have BS_3 := BS_2.below hb
  clear BS_2
  have G_2 := G_1.below hb
  clear G_1
  have BG_1 := BG_0.below hb
  clear BG_0
  clear hb
  obtain ⟨qBG0, qBG1⟩ := id BG_1.now
  have qlBG : w3.heap.size < w5.heap.size := by have := BG_1.le; omega
  go_wp2_with fail
  refine (markPlane_c _ _ r.xs (1) _ _ _ G_2.now G_2.le (by omega) (by omega) (by omega)).mono ?_
  rintro e w6 ⟨rfl, ho, hc⟩
  have hs6 := hc.size
  have HB6 := Chg.below HB5 hc (by have := HB5.size; omega) (by have := HB5.size; omega)
  have S_5 := S_4.chg hc (by omega)
  clear S_4
  have BS_4 := BS_3.chg hc (by omega)
  clear BS_3
  have BG_2 := BG_1.chg hc (by omega)
  clear BG_1
  have G_3 := Lives.markedT G_2 ho hc
  clear G_2 hc ho
  obtain ⟨qBG0, qBG1⟩ := id BG_2.now
  have qlBG : w3.heap.size < w6.heap.size := by have := BG_2.le; omega
  go_wp2_with fail
  refine (heldPlane_c _ _ r.xs 1 _ (G_3.now.rd) (by omega) (by omega) (by omega)).mono ?_
  rintro e w7 ⟨rfl, hb⟩
  have hs7 := hb.size
  have HB7 := HB6.trans (hb.mono HB6.size)
  have S_6 := S_5.below hb
  clear S_5
  have BS_5 := BS_4.below hb
  clear BS_4
  have G_4 := G_3.below hb
  clear G_3
  have BG_3 := BG_2.below hb
  clear BG_2
  clear hb
  go_wp2_with fail
  refine (HI.out _ ).mono ?_
  rintro e w8 ⟨vH, rfl, ho, hb, hlen⟩
  have hs8 := hb.size
  have HB8 := HB7.trans (hb.mono HB7.size)
  have S_7 := S_6.below hb
  clear S_6
  have BS_6 := BS_5.below hb
  clear BS_5
  have G_5 := G_4.below hb
  clear G_4
  have BG_4 := BG_3.below hb
  clear BG_3
  clear hb
  obtain ⟨oH, cH, rfl⟩ := ho.shape
  have H_0 := Lives.owS ho hs8
  clear ho
  obtain ⟨qBS0, qBS1⟩ := id BS_6.now
  have qlBS : w1.heap.size < w8.heap.size := by have := BS_6.le; omega
  have hq : (r.code != r.code) = false := by simp
  go_wp2_with fail
  clear hq
  have hb : Below w8.heap.size w8 (w8.alloc (.cells #[.int .i64 r.m, .slice oH r.xs.length cH] 24)) := (by (repeat (first | exact Below.refl _ _ | (refine Below.setCell ?_ (by first | (simp; done) | (simp; omega) | omega) _) | (refine Below.alloc ?_ (by first | (simp; done) | (simp; omega) | omega) _) | (refine below_drewN ?_ _) | (refine Below.drew ?_))))
  have hz : (w8.alloc (.cells #[.int .i64 r.m, .slice oH r.xs.length cH] 24)).heap.size = w8.heap.size + 1 := by simp
  have HB9 := HB8.trans (hb.mono HB8.size)
  have S_8 := S_7.below hb
  clear S_7
  have BS_7 := BS_6.below hb
  clear BS_6
  have G_6 := G_5.below hb
  clear G_5
  have BG_5 := BG_4.below hb
  clear BG_4
  have H_1 := H_0.below hb
  clear H_0
  have BH_0 := Lives.box2 w8 (.int .i64 r.m) (.slice oH r.xs.length cH) 24
  clear hb
  generalize w8.alloc (.cells #[.int .i64 r.m, .slice oH r.xs.length cH] 24) = w9 at S_8 BS_7 G_6 BG_5 H_1 BH_0 hz HB9 ⊢
  have hlt9 : w8.heap.size < w9.heap.size := by omega
  clear hz
  have hq : (r.code != r.code) = false := by simp
  refine (eqPlane_c _   _   _ _ r.xs r.xs _ H_1.now.rd S_8.now.rd).mono ?_
  rw [eqPB_self]
  rintro e w10 ⟨rfl, hb⟩
  have hs10 := hb.size
  have HB10 := HB9.trans (hb.mono HB9.size)
  have S_9 := S_8.below hb
  clear S_8
  have BS_8 := BS_7.below hb
  clear BS_7
  have G_7 := G_6.below hb
  clear G_6
  have BG_6 := BG_5.below hb
  clear BG_5
  have H_2 := H_1.below hb
  clear H_1
  have BH_1 := BH_0.below hb
  clear BH_0
  clear hb
  obtain ⟨qBG0, qBG1⟩ := id BG_6.now
  have qlBG : w3.heap.size < w10.heap.size := by have := BG_6.le; omega
  go_wp2_with fail
  refine (heldPlane_c _ _ r.xs 1 _ (G_7.now.rd) (by omega) (by omega) (by omega)).mono ?_
  rintro e w11 ⟨rfl, hb⟩
  have hs11 := hb.size
  have HB11 := HB10.trans (hb.mono HB10.size)
  have S_10 := S_9.below hb
  clear S_9
  have BS_9 := BS_8.below hb
  clear BS_8
  have G_8 := G_7.below hb
  clear G_7
  have BG_7 := BG_6.below hb
  clear BG_6
  have H_3 := H_2.below hb
  clear H_2
  have BH_2 := BH_1.below hb
  clear BH_1
  clear hb
  go_wp2
  go_ret
  exact ⟨rfl, HB11⟩

set_option maxRecDepth 100000 in
theorem HondaLaw_lifted (os : Os) (started : os.Started) (H : Type) (enc : TypeId × Value → H) :
    ReturnsInHanded {} Try.checked os 3 .any (Rows.fnExactHondaLawSpec.pre6 enc Try.prog Try.f3 Rows.fnExactHondaLawRow.domain false) (Rows.fnExactHondaLawSpec.post enc Try.prog Try.f3 false true false false) := by
  refine returnsInHanded_of_change (C := Try.checked) Try.own started (by kernel_rfl) Try.func3
    (ChangeSpec.witness6 (enc := enc) (C := Try.checked) false ⟨#[], #[.int .i64 0, .int .i64 0, .int .i64 0], []⟩ 8 (by kernel_rfl) (by kernel_rfl) (by kernel_rfl) (by kernel_rfl)) ?_
  intro W base args ds gs before hval0 hW _ _
  have hval : ∀ (j : Nat) t v, Try.f3.params[j]? = some t → args[j]? = some v → Value.okWide Try.prog W .any base t v := hval0
  have hW' := hW
  obtain ⟨p, q, hA0, hV, rfl, _, _⟩ := hW
  have hA : DataW.TrodAll enc Try.prog W 0 (fun _ => true) true Try.f3.params.toList args.toList ds p := hA0
  rw [Try.params3] at hA hval
  have hAk := hA
  obtain ⟨rfl, rfl⟩ := trodVars_none hV
  obtain ⟨v0, v1, v2, d0, d1, d2, p0, p1, p2, rfl, rfl, hp, h0, h1, h2⟩ := trodAll_three hA
  obtain ⟨a0, rfl, rfl, hp0, wa0⟩ := open_int Try.underlying2 (hval 0 2 v0 rfl rfl) h0
  obtain ⟨a1, rfl, rfl, hp1, wa1⟩ := open_int Try.underlying2 (hval 1 2 v1 rfl rfl) h1
  obtain ⟨a2, rfl, rfl, hp2, wa2⟩ := open_int Try.underlying2 (hval 2 2 v2 rfl rfl) h2
  clear hA0 hval0
  simp only [List.append_nil] at hW'
  refine (FnExactHondaLaw_c a0 a1 a2 W ).mono fun e W' ⟨he, hb⟩ => ?_
  subst he
  refine ⟨_, rfl, _, _, _, [], p, [], hW', ?_, ?_, rfl, hb.frame _, fun h => by cases h⟩
  · exact trodAll_mk1 (shut_bool Try.underlying4 true)
  · exact trodAll_below Try.laidOut (by kernel_rfl) hAk hb (fun x hx => by simpa using hW'.lt x hx)

theorem HondaLaw_holds : Rows.FnExactHondaLawSaid :=
  OpenClaim.holds_of_wide 3 Try.f3 rfl rfl rfl rfl rfl rfl rfl ⟨rfl, rfl, rfl, rfl, rfl⟩ rfl rfl rfl rfl rfl (by kernel_rfl) Try.func3 (by kernel_rfl)
    (of_decide_eq_true (by kernel_rfl)) (by unfold Func.isWrapper; rw [if_neg (of_decide_eq_false (by kernel_rfl))]; exact ⟨rfl, rfl⟩)
    (fun os started H enc _ => HondaLaw_lifted os started H enc)

#print axioms HondaLaw_holds
end Go.Proofs.Ytoednonijmkbjaa
