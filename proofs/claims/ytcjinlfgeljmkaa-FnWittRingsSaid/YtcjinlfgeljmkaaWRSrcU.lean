/- Lemmas of SrcU. -/
import Derived.Test.YtcjinlfgeljmkaaWRSrcV
set_option linter.unusedSimpArgs false
set_option linter.unusedVariables false
namespace Go.Proofs.Ytcjinlfgeljmkaa
open Go.RowKit

def W1Dr (w w' : World) (e : Ending) : Prop := ∃ p m v xs, e = .returned (.agg #[.int .i64 p, .int .i64 m, v]) ∧ OwI w' w.heap.size v xs ∧ Below w.heap.size w w'
set_option maxHeartbeats 400000 in
set_option maxRecDepth 100000 in
theorem DrawIsWitt_d (B n : Nat) (v : Value) (w : World) (hv : RdB w B n v) (hB : B ≤ w.heap.size) :
    Calls Try.prog 180 #[v] w fun e w' => W1Dr w w' e := by
  obtain ⟨ov, cv, rfl, hmv, hcv⟩ := id hv
  clear hmv hcv
  go_enter Try.func180, Try.ntmps180
  go_wp2_with fail
  have hR0 := RB3.mk1 w (.int .i64 0) (.int .i64 0) (.slice none 0 0) 59
  have hb0 : Below w.heap.size w (w.alloc (.cells #[.int .i64 0, .int .i64 0, .slice none 0 0] 59)) := (by (repeat (first | exact Below.refl _ _ | (refine Below.setCell ?_ (by first | (simp; done) | (simp; omega) | omega) _) | (refine Below.alloc ?_ (by first | (simp; done) | (simp; omega) | omega) _) | (refine below_drewN ?_ _) | (refine Below.drew ?_))))
  generalize w.alloc (.cells #[.int .i64 0, .int .i64 0, .slice none 0 0] 59) = w0 at hR0 hb0 ⊢
  have hv0 := hv.keep (w' := w0) (fun k hk => hb0.block k (by omega))
  have hl0 := hR0.1.lt
  refine (l01From_c B n _ w0 hv0 (by omega)).mono ?_
  rintro e w1 ⟨b, rfl, hs1, hb1⟩
  have hbl := hs1.1
  have hlt := hs1.lt
  have hR1 := hR0.below hb1 (Nat.le_refl _)
  have hb1 := hb0.trans (hb1.mono hb0.size)
  clear hR0 hb0 hv0
  go_wp2_with fail
  refine (l13Spoil_d _ n b w1 hs1).mono ?_
  rintro e w2 ⟨p, m, v, xs, rfl, hO2, hx, hd2⟩
  obtain ⟨o, c, rfl⟩ := hO2.shape
  have hR2 := hR1.chg hd2.chg (.inl (by omega))
  obtain ⟨⟨r0, r1, r2⟩, rf⟩ := id hR2
  go_wp2_with fail
  refine bodyPost_ret (v := .agg #[.int .i64 p, .int .i64 m, .slice o xs.length c]) (by simp [results, Try.results180, go_sem, r0, r1, r2]) rfl ⟨_, _, _, xs, rfl, ?_, ?_⟩
  · exact (((hO2.low (by simp; omega) _).low (by simp; omega) _).low (by simp; omega) _).mono (by omega)
  · exact below_put (below_put (below_put (hd2.out hb1 (by omega)) (Nat.le_refl _) _) (Nat.le_refl _) _) (Nat.le_refl _) _

set_option maxHeartbeats 400000 in
set_option maxRecDepth 100000 in
theorem DrawNegateWitt_d (B n : Nat) (v : Value) (w : World) (hv : RdB w B n v) (hB : B ≤ w.heap.size) :
    Calls Try.prog 67 #[v] w fun e w' => W1Dr w w' e := by
  obtain ⟨ov, cv, rfl, hmv, hcv⟩ := id hv
  clear hmv hcv
  go_enter Try.func67, Try.ntmps67
  go_wp2_with fail
  have hR0 := RB3.mk1 w (.int .i64 0) (.int .i64 0) (.slice none 0 0) 59
  have hb0 : Below w.heap.size w (w.alloc (.cells #[.int .i64 0, .int .i64 0, .slice none 0 0] 59)) := (by (repeat (first | exact Below.refl _ _ | (refine Below.setCell ?_ (by first | (simp; done) | (simp; omega) | omega) _) | (refine Below.alloc ?_ (by first | (simp; done) | (simp; omega) | omega) _) | (refine below_drewN ?_ _) | (refine Below.drew ?_))))
  generalize w.alloc (.cells #[.int .i64 0, .int .i64 0, .slice none 0 0] 59) = w0 at hR0 hb0 ⊢
  have hv0 := hv.keep (w' := w0) (fun k hk => hb0.block k (by omega))
  have hl0 := hR0.1.lt
  refine (DrawIsWitt_d B n _ w0 hv0 (by omega)).mono ?_
  rintro e w1 ⟨p, m, v, xs, rfl, hO1, hb1⟩
  obtain ⟨o, c, rfl⟩ := hO1.shape
  have hR1 := hR0.below hb1 (Nat.le_refl _)
  have hb1 := hb0.trans (hb1.mono hb0.size)
  obtain ⟨⟨r0, r1, r2⟩, rf⟩ := id hR1
  go_wp2_with fail
  refine bodyPost_ret (v := .agg #[.int .i64 p, .int .i64 m, .slice o xs.length c]) (by simp [results, Try.results67, go_sem, r0, r1, r2]) rfl ⟨_, _, _, xs, rfl, ?_, ?_⟩
  · exact (((hO1.low (by simp; omega) _).low (by simp; omega) _).low (by simp; omega) _).mono (by omega)
  · exact below_put (below_put (below_put hb1 (Nat.le_refl _) _) (Nat.le_refl _) _) (Nat.le_refl _) _
set_option maxHeartbeats 400000 in
set_option maxRecDepth 100000 in
theorem DrawMultiplyWitt_d (B n : Nat) (v : Value) (w : World) (hv : RdB w B n v) (hB : B ≤ w.heap.size) :
    Calls Try.prog 58 #[v] w fun e w' => W2Dr w w' e := by
  obtain ⟨ov, cv, rfl, hmv, hcv⟩ := id hv
  clear hmv hcv
  go_enter Try.func58, Try.ntmps58
  go_wp2_with fail
  have hR0 := (RB3.mk1 w (.int .i64 0) (.int .i64 0) (.slice none 0 0) 59).below (w' := (w.alloc (.cells #[.int .i64 0, .int .i64 0, .slice none 0 0] 59)).alloc (.cells #[.int .i64 0, .int .i64 0, .slice none 0 0] 59)) (by (repeat (first | exact Below.refl _ _ | (refine Below.setCell ?_ (by first | (simp; done) | (simp; omega) | omega) _) | (refine Below.alloc ?_ (by first | (simp; done) | (simp; omega) | omega) _) | (refine below_drewN ?_ _) | (refine Below.drew ?_)))) (Nat.le_refl _)
  have hS0 := RB3.mk2 w (.cells #[.int .i64 0, .int .i64 0, .slice none 0 0] 59) (.int .i64 0) (.int .i64 0) (.slice none 0 0) 59
  have hb0 : Below w.heap.size w ((w.alloc (.cells #[.int .i64 0, .int .i64 0, .slice none 0 0] 59)).alloc (.cells #[.int .i64 0, .int .i64 0, .slice none 0 0] 59)) := (by (repeat (first | exact Below.refl _ _ | (refine Below.setCell ?_ (by first | (simp; done) | (simp; omega) | omega) _) | (refine Below.alloc ?_ (by first | (simp; done) | (simp; omega) | omega) _) | (refine below_drewN ?_ _) | (refine Below.drew ?_))))
  generalize (w.alloc (.cells #[.int .i64 0, .int .i64 0, .slice none 0 0] 59)).alloc (.cells #[.int .i64 0, .int .i64 0, .slice none 0 0] 59) = w0 at hR0 hS0 hb0 ⊢
  have hv0 := hv.keep (w' := w0) (fun k hk => hb0.block k (by omega))
  have hl0 := hS0.1.lt
  refine (l13Two_d B n _ w0 hv0 (by omega)).mono ?_
  rintro e w1 ⟨p, m, v, xs, q, l, u, ys, rfl, hO1, hU1, hb1⟩
  obtain ⟨o, c, rfl⟩ := hO1.shape
  obtain ⟨o', c', rfl⟩ := hU1.shape
  have hR1 := hR0.below hb1 (Nat.le_refl _)
  have hS1 := hS0.below hb1 (Nat.le_refl _)
  have hb1 := hb0.trans (hb1.mono hb0.size)
  obtain ⟨⟨r0, r1, r2⟩, rf⟩ := id hR1
  obtain ⟨⟨s0, s1, s2⟩, sf⟩ := id hS1
  go_wp2_with fail
  refine bodyPost_ret (v := .tuple #[.agg #[.int .i64 p, .int .i64 m, .slice o xs.length c], .agg #[.int .i64 q, .int .i64 l, .slice o' ys.length c']]) (by simp [results, Try.results58, go_sem, r0, r1, r2, s0, s1, s2]) rfl ⟨_, _, _, xs, _, _, _, ys, rfl, ?_, ?_, ?_⟩
  · exact ((((((hO1.low (by simp; omega) _).low (by simp; omega) _).low (by simp; omega) _).low (by simp; omega) _).low (by simp; omega) _).low (by simp; omega) _).mono (by omega)
  · exact ((((((hU1.low (by simp; omega) _).low (by simp; omega) _).low (by simp; omega) _).low (by simp; omega) _).low (by simp; omega) _).low (by simp; omega) _).mono (by omega)
  · exact below_put (below_put (below_put (below_put (below_put (below_put hb1 (by omega) _) (by omega) _) (by omega) _) (by omega) _) (by omega) _) (by omega) _
set_option maxHeartbeats 400000 in
set_option maxRecDepth 100000 in
theorem DrawAddWitt_d (B n : Nat) (v : Value) (w : World) (hv : RdB w B n v) (hB : B ≤ w.heap.size) :
    Calls Try.prog 64 #[v] w fun e w' => W2Dr w w' e := by
  obtain ⟨ov, cv, rfl, hmv, hcv⟩ := id hv
  clear hmv hcv
  go_enter Try.func64, Try.ntmps64
  go_wp2_with fail
  have hR0 := (RB3.mk1 w (.int .i64 0) (.int .i64 0) (.slice none 0 0) 59).below (w' := (w.alloc (.cells #[.int .i64 0, .int .i64 0, .slice none 0 0] 59)).alloc (.cells #[.int .i64 0, .int .i64 0, .slice none 0 0] 59)) (by (repeat (first | exact Below.refl _ _ | (refine Below.setCell ?_ (by first | (simp; done) | (simp; omega) | omega) _) | (refine Below.alloc ?_ (by first | (simp; done) | (simp; omega) | omega) _) | (refine below_drewN ?_ _) | (refine Below.drew ?_)))) (Nat.le_refl _)
  have hS0 := RB3.mk2 w (.cells #[.int .i64 0, .int .i64 0, .slice none 0 0] 59) (.int .i64 0) (.int .i64 0) (.slice none 0 0) 59
  have hb0 : Below w.heap.size w ((w.alloc (.cells #[.int .i64 0, .int .i64 0, .slice none 0 0] 59)).alloc (.cells #[.int .i64 0, .int .i64 0, .slice none 0 0] 59)) := (by (repeat (first | exact Below.refl _ _ | (refine Below.setCell ?_ (by first | (simp; done) | (simp; omega) | omega) _) | (refine Below.alloc ?_ (by first | (simp; done) | (simp; omega) | omega) _) | (refine below_drewN ?_ _) | (refine Below.drew ?_))))
  generalize (w.alloc (.cells #[.int .i64 0, .int .i64 0, .slice none 0 0] 59)).alloc (.cells #[.int .i64 0, .int .i64 0, .slice none 0 0] 59) = w0 at hR0 hS0 hb0 ⊢
  have hv0 := hv.keep (w' := w0) (fun k hk => hb0.block k (by omega))
  have hl0 := hS0.1.lt
  refine (l13Two_d B n _ w0 hv0 (by omega)).mono ?_
  rintro e w1 ⟨p, m, v, xs, q, l, u, ys, rfl, hO1, hU1, hb1⟩
  obtain ⟨o, c, rfl⟩ := hO1.shape
  obtain ⟨o', c', rfl⟩ := hU1.shape
  have hR1 := hR0.below hb1 (Nat.le_refl _)
  have hS1 := hS0.below hb1 (Nat.le_refl _)
  have hb1 := hb0.trans (hb1.mono hb0.size)
  obtain ⟨⟨r0, r1, r2⟩, rf⟩ := id hR1
  obtain ⟨⟨s0, s1, s2⟩, sf⟩ := id hS1
  go_wp2_with fail
  refine bodyPost_ret (v := .tuple #[.agg #[.int .i64 p, .int .i64 m, .slice o xs.length c], .agg #[.int .i64 q, .int .i64 l, .slice o' ys.length c']]) (by simp [results, Try.results64, go_sem, r0, r1, r2, s0, s1, s2]) rfl ⟨_, _, _, xs, _, _, _, ys, rfl, ?_, ?_, ?_⟩
  · exact ((((((hO1.low (by simp; omega) _).low (by simp; omega) _).low (by simp; omega) _).low (by simp; omega) _).low (by simp; omega) _).low (by simp; omega) _).mono (by omega)
  · exact ((((((hU1.low (by simp; omega) _).low (by simp; omega) _).low (by simp; omega) _).low (by simp; omega) _).low (by simp; omega) _).low (by simp; omega) _).mono (by omega)
  · exact below_put (below_put (below_put (below_put (below_put (below_put hb1 (by omega) _) (by omega) _) (by omega) _) (by omega) _) (by omega) _) (by omega) _

end Go.Proofs.Ytcjinlfgeljmkaa
