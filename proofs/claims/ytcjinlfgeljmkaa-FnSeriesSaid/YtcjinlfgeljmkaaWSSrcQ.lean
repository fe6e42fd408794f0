/- Lemmas of SrcQ. -/
import Derived.Test.YtcjinlfgeljmkaaWSSrcR
set_option linter.unusedSimpArgs false
set_option linter.unusedVariables false
namespace Go.Proofs.Ytcjinlfgeljmkaa
open Go.RowKit

def S1Dr (w w' : World) (e : Ending) : Prop := ∃ m v xs, e = .returned (.agg #[.int .i64 m, v]) ∧ RdI w' v xs ∧ (1 ≤ xs.length ∧ xs.length ≤ 30) ∧ Below w.heap.size w w'
def SSDr (w w' : World) (e : Ending) : Prop := ∃ m v xs q u zs, e = .returned (.tuple #[.agg #[.int .i64 m, v], .agg #[.int .i64 q, u]]) ∧ RdI w' v xs ∧ RdI w' u zs ∧ (1 ≤ xs.length ∧ xs.length ≤ 30) ∧ zs.length ≤ 30 ∧ Below w.heap.size w w'
theorem OwI.drew2 {w : World} {B : Nat} {v : Value} {xs : List Int} (h : OwI w B v xs) : OwI w.drew B v xs := h
theorem rd_put {w : World} {v : Value} {xs : List Int} {B : Nat} (h : OwI w B v xs) {g k : Nat} (hg : g < B) (u : Value) : OwI (w.setCell ⟨g, k, none⟩ u) B v xs := h.low hg u

set_option maxHeartbeats 1000000 in
set_option maxRecDepth 100000 in
theorem DrawInverseOfSeries_d (B n : Nat) (v : Value) (w : World) (hv : RdB w B n v) (hB : B ≤ w.heap.size) :
    Calls Try.prog 20 #[v] w fun e w' => S1Dr w w' e := by
  obtain ⟨ov, cv, rfl, hmv, hcv⟩ := id hv
  clear hmv hcv
  go_enter Try.func20, Try.ntmps20
  go_wp2_with fail
  have hR0 := RB2.mk1 w (.int .i64 0) (.slice none 0 0) 26
  have hb0 : Below w.heap.size w (w.alloc (.cells #[.int .i64 0, .slice none 0 0] 26)) := (by (repeat (first | exact Below.refl _ _ | (refine Below.setCell ?_ (by first | (simp; done) | (simp; omega) | omega) _) | (refine Below.alloc ?_ (by first | (simp; done) | (simp; omega) | omega) _) | (refine below_drewN ?_ _) | (refine Below.drew ?_))))
  generalize w.alloc (.cells #[.int .i64 0, .slice none 0 0] 26) = w0 at hR0 hb0 ⊢
  have hv0 := hv.keep (w' := w0) (fun k hk => hb0.block k (by omega))
  have hl0 := hR0.1.lt
  refine (l01From_c B n _ w0 hv0 (by omega)).mono ?_
  rintro e w1 ⟨b, rfl, hs1, hb1⟩
  have hbl := hs1.1
  have hlt := hs1.lt
  have hR1 := hR0.below hb1 (Nat.le_refl _)
  have hb1 := hb0.trans (hb1.mono hb0.size)
  clear hR0 hb0 hv0
  go_wp2_with fail
  refine (l02Spoil_d _ n b w1 hs1).mono ?_
  rintro e w2 ⟨m, g, c, ys, k, rfl, hO2, ⟨hk1, hk2, hk3⟩, hd2⟩
  have hg : w1.heap.size ≤ g ∧ g < w2.heap.size := by
    obtain ⟨g', e, h1, h2⟩ := hO2.row (by omega)
    have : g = g' := by simpa using e
    omega
  obtain ⟨hg0, hg1⟩ := hg
  have hz2 := hd2.size
  have hR2 := hR1.chg hd2.chg (.inl (by omega))
  clear hR1
  go_wp2_with fail
  have hX3 := RB2.mk1 w2 (.int .i64 m) (.slice (some ⟨g, 0, none⟩) k c) 26
  have hR3 := hR2.below (w' := w2.alloc (.cells #[.int .i64 m, .slice (some ⟨g, 0, none⟩) k c] 26)) (by (repeat (first | exact Below.refl _ _ | (refine Below.setCell ?_ (by first | (simp; done) | (simp; omega) | omega) _) | (refine Below.alloc ?_ (by first | (simp; done) | (simp; omega) | omega) _) | (refine below_drewN ?_ _) | (refine Below.drew ?_)))) (Nat.le_refl _)
  have hO3 := hO2.alloc (.cells #[.int .i64 m, .slice (some ⟨g, 0, none⟩) k c] 26)
  have hd3 := hd2.alloc (.cells #[.int .i64 m, .slice (some ⟨g, 0, none⟩) k c] 26)
  have hlx := hX3.1.lt
  clear hR2 hO2 hd2
  generalize w2.alloc (.cells #[.int .i64 m, .slice (some ⟨g, 0, none⟩) k c] 26) = w3 at hX3 hR3 hO3 hd3 hlx ⊢
  refine (next_d _ n b _ w3 hd3.src).mono ?_
  rintro e w4 ⟨t, rfl, t0, t1, t2, hd4, hz4⟩
  have hR4 := hR3.chg hd4.chg (.inl (by omega))
  have hO4 := hO3.dw hd4 (by omega)
  have hX4 := hX3.dw hd4 (by omega)
  have hd4 := hd3.trans hd4
  clear t1 t2 hz4
  by_cases h0 : t = 0
  · subst h0
    have hcg := hO4.cell (k := 0) (List.getElem?_eq_getElem (show 0 < ys.length by omega))
    have hfg := hO4.fz 0
    have i0 : (0 : Int) < (k : Int) := by omega
    obtain ⟨⟨x0, x1⟩, xf⟩ := id hX4
    obtain ⟨⟨r0, r1⟩, rf⟩ := id hR4
    have n1 : g ≠ w2.heap.size := by omega
    have n2 : g ≠ w.heap.size := by omega
    have n3 : w2.heap.size ≠ g := by omega
    have n4 : w.heap.size ≠ g := by omega
    go_wp2_with fail
    refine bodyPost_ret (v := .agg #[.int .i64 m, .slice (some ⟨g, 0, none⟩) k c]) (by simp [results, Try.results20, go_sem, r0, r1]) rfl ⟨m, _, _, rfl, ((rd_put (rd_put (show OwI _ w1.heap.size (.slice (some ⟨g, 0, none⟩) (ys.set 0 1).length c) _ from by rw [show (ys.set 0 1).length = ys.length by simp]; exact hO4.put 0 1) (by omega) _) (by omega) _).rd).take k (by simp; omega), by simp; omega, ?_⟩
    exact below_put (below_put (below_put (hd4.out hb1 (by omega)) (by omega) _) (Nat.le_refl _) _) (Nat.le_refl _) _
  have h0' : ¬ t = 0 := h0
  obtain ⟨⟨x0, x1⟩, xf⟩ := id hX4
  obtain ⟨⟨r0, r1⟩, rf⟩ := id hR4
  go_wp2_with fail
  refine bodyPost_ret (v := .agg #[.int .i64 m, .slice (some ⟨g, 0, none⟩) k c]) (by simp [results, Try.results20, go_sem, r0, r1]) rfl ⟨m, _, _, rfl, ((rd_put (rd_put hO4 (by omega) _) (by omega) _).rd).take k hk2, by simp; omega, ?_⟩
  exact below_put (below_put (hd4.out hb1 (by omega)) (Nat.le_refl _) _) (Nat.le_refl _) _
set_option maxHeartbeats 1000000 in
set_option maxRecDepth 100000 in
theorem DrawReverseSeries_d (B n : Nat) (v : Value) (w : World) (hv : RdB w B n v) (hB : B ≤ w.heap.size) :
    Calls Try.prog 24 #[v] w fun e w' => S1Dr w w' e := by
  obtain ⟨ov, cv, rfl, hmv, hcv⟩ := id hv
  clear hmv hcv
  go_enter Try.func24, Try.ntmps24
  go_wp2_with fail
  have hR0 := RB2.mk1 w (.int .i64 0) (.slice none 0 0) 26
  have hb0 : Below w.heap.size w (w.alloc (.cells #[.int .i64 0, .slice none 0 0] 26)) := (by (repeat (first | exact Below.refl _ _ | (refine Below.setCell ?_ (by first | (simp; done) | (simp; omega) | omega) _) | (refine Below.alloc ?_ (by first | (simp; done) | (simp; omega) | omega) _) | (refine below_drewN ?_ _) | (refine Below.drew ?_))))
  generalize w.alloc (.cells #[.int .i64 0, .slice none 0 0] 26) = w0 at hR0 hb0 ⊢
  have hv0 := hv.keep (w' := w0) (fun k hk => hb0.block k (by omega))
  have hl0 := hR0.1.lt
  refine (l01From_c B n _ w0 hv0 (by omega)).mono ?_
  rintro e w1 ⟨b, rfl, hs1, hb1⟩
  have hbl := hs1.1
  have hlt := hs1.lt
  have hR1 := hR0.below hb1 (Nat.le_refl _)
  have hb1 := hb0.trans (hb1.mono hb0.size)
  clear hR0 hb0 hv0
  go_wp2_with fail
  refine (l02Spoil_d _ n b w1 hs1).mono ?_
  rintro e w2 ⟨m, g, c, ys, k, rfl, hO2, ⟨hk1, hk2, hk3⟩, hd2⟩
  have hg : w1.heap.size ≤ g ∧ g < w2.heap.size := by
    obtain ⟨g', e, h1, h2⟩ := hO2.row (by omega)
    have : g = g' := by simpa using e
    omega
  obtain ⟨hg0, hg1⟩ := hg
  have hz2 := hd2.size
  have hR2 := hR1.chg hd2.chg (.inl (by omega))
  clear hR1
  by_cases hk : 1 < k
  · have i1 : (1 : Int) < (k : Int) := by omega
    have i2 : 1 < k := hk
    go_wp2_with fail
    have hX3 := RB2.mk1 w2 (.int .i64 m) (.slice (some ⟨g, 0, none⟩) k c) 26
    have hR3 := hR2.below (w' := w2.alloc (.cells #[.int .i64 m, .slice (some ⟨g, 0, none⟩) k c] 26)) (by (repeat (first | exact Below.refl _ _ | (refine Below.setCell ?_ (by first | (simp; done) | (simp; omega) | omega) _) | (refine Below.alloc ?_ (by first | (simp; done) | (simp; omega) | omega) _) | (refine below_drewN ?_ _) | (refine Below.drew ?_)))) (Nat.le_refl _)
    have hO3 := hO2.alloc (.cells #[.int .i64 m, .slice (some ⟨g, 0, none⟩) k c] 26)
    have hd3 := hd2.alloc (.cells #[.int .i64 m, .slice (some ⟨g, 0, none⟩) k c] 26)
    have hlx := hX3.1.lt
    clear hR2 hO2 hd2
    generalize w2.alloc (.cells #[.int .i64 m, .slice (some ⟨g, 0, none⟩) k c] 26) = w3 at hX3 hR3 hO3 hd3 hlx ⊢
    refine (next_d _ n b _ w3 hd3.src).mono ?_
    rintro e w4 ⟨t, rfl, t0, t1, t2, hd4, hz4⟩
    have hR4 := hR3.chg hd4.chg (.inl (by omega))
    have hO4 := hO3.dw hd4 (by omega)
    have hX4 := hX3.dw hd4 (by omega)
    have hd4 := hd3.trans hd4
    clear t1 t2 hz4
    have hl4 := hX4.1.lt
    by_cases ht : 0 < t
    · obtain ⟨⟨x0, x1⟩, xf⟩ := id hX4
      go_wp2_with fail
      refine (l02Turn_d _ n b m _ (ys.take k) w4 hd4.src (hO4.rd.take k hk2) (by simp; omega) (by simp; omega)).mono ?_
      rintro e w5 ⟨u, zs, rfl, hO5, hl5, hd5⟩
      obtain ⟨o5, c5, rfl⟩ := hO5.shape
      have hR5 := hR4.chg hd5.chg (.inl (by omega))
      have hd5 := hd4.trans hd5
      have HL := Lib.hid (show 1 ≤ zs.length ∧ zs.length ≤ 30 by simp at hl5; omega)
      clear hl5
      obtain ⟨⟨r0, r1⟩, rf⟩ := id hR5
      go_wp2_with fail
      refine bodyPost_ret (v := .agg #[.int .i64 m, .slice o5 zs.length c5]) (by simp [results, Try.results24, go_sem, r0, r1]) rfl ⟨m, _, zs, rfl, (rd_put (rd_put hO5 (by omega) _) (by omega) _).rd, HL.out, ?_⟩
      exact below_put (below_put (hd5.out hb1 (by omega)) (Nat.le_refl _) _) (Nat.le_refl _) _
    · have ht' : ¬ 0 < t := ht
      obtain ⟨⟨x0, x1⟩, xf⟩ := id hX4
      obtain ⟨⟨r0, r1⟩, rf⟩ := id hR4
      go_wp2_with fail
      refine bodyPost_ret (v := .agg #[.int .i64 m, .slice (some ⟨g, 0, none⟩) k c]) (by simp [results, Try.results24, go_sem, r0, r1]) rfl ⟨m, _, _, rfl, ((rd_put (rd_put hO4 (by omega) _) (by omega) _).rd).take k hk2, by simp; omega, ?_⟩
      exact below_put (below_put (hd4.out hb1 (by omega)) (Nat.le_refl _) _) (Nat.le_refl _) _
  · have i1 : ¬ (1 : Int) < (k : Int) := by omega
    have i2 : decide (1 < k) = false := by simpa using hk
    have i3 : decide ((1 : Int) < (k : Int)) = false := by simpa using i1
    obtain ⟨⟨r0, r1⟩, rf⟩ := id hR2
    have hlR := hR2.1.lt
    have n1 : w.heap.size ≠ w2.heap.size := by omega
    clear i1
    go_wp2_with fail
    refine bodyPost_ret (v := .agg #[.int .i64 m, .slice (some ⟨g, 0, none⟩) k c]) (by simp [results, Try.results24, go_sem, r0, r1, n1, hlR]) rfl ⟨m, _, _, rfl, (((rd_put (rd_put hO2 (by omega) _) (by omega) _).alloc _).rd).take k hk2, by simp; omega, ?_⟩
    exact (below_put (below_put (hd2.out hb1 (by omega)) (Nat.le_refl _) _) (Nat.le_refl _) _).alloc (by simp; omega) _
set_option maxHeartbeats 1000000 in
set_option maxRecDepth 100000 in
theorem DrawMultiplySeries_d (B n : Nat) (v : Value) (w : World) (hv : RdB w B n v) (hB : B ≤ w.heap.size) :
    Calls Try.prog 10 #[v] w fun e w' => SSDr w w' e := by
  obtain ⟨ov, cv, rfl, hmv, hcv⟩ := id hv
  clear hmv hcv
  go_enter Try.func10, Try.ntmps10
  go_wp2_with fail
  have hR0 := (RB2.mk1 w (.int .i64 0) (.slice none 0 0) 26).below (w' := (w.alloc (.cells #[.int .i64 0, .slice none 0 0] 26)).alloc (.cells #[.int .i64 0, .slice none 0 0] 26)) (by (repeat (first | exact Below.refl _ _ | (refine Below.setCell ?_ (by first | (simp; done) | (simp; omega) | omega) _) | (refine Below.alloc ?_ (by first | (simp; done) | (simp; omega) | omega) _) | (refine below_drewN ?_ _) | (refine Below.drew ?_)))) (Nat.le_refl _)
  have hS0 := RB2.mk2 w (.cells #[.int .i64 0, .slice none 0 0] 26) (.int .i64 0) (.slice none 0 0) 26
  have hb0 : Below w.heap.size w ((w.alloc (.cells #[.int .i64 0, .slice none 0 0] 26)).alloc (.cells #[.int .i64 0, .slice none 0 0] 26)) := (by (repeat (first | exact Below.refl _ _ | (refine Below.setCell ?_ (by first | (simp; done) | (simp; omega) | omega) _) | (refine Below.alloc ?_ (by first | (simp; done) | (simp; omega) | omega) _) | (refine below_drewN ?_ _) | (refine Below.drew ?_))))
  generalize (w.alloc (.cells #[.int .i64 0, .slice none 0 0] 26)).alloc (.cells #[.int .i64 0, .slice none 0 0] 26) = w0 at hR0 hS0 hb0 ⊢
  have hv0 := hv.keep (w' := w0) (fun k hk => hb0.block k (by omega))
  have hl0 := hS0.1.lt
  refine (l02Two_d B n _ w0 hv0 (by omega)).mono ?_
  rintro e w1 ⟨m, g, c, ys, k, q, u, zs, rfl, hO1, ⟨hk1, hk2, hk3⟩, hU1, hzl, hb1⟩
  obtain ⟨o', c', rfl⟩ := hU1.shape
  have hR1 := hR0.below hb1 (Nat.le_refl _)
  have hS1 := hS0.below hb1 (Nat.le_refl _)
  have hb1 := hb0.trans (hb1.mono hb0.size)
  go_wp2_with fail
  have hlS := hS1.1.lt
  have hlR := hR1.1.lt
  have hbs := hb1.size
  have hX2 := (RB2.mk1 w1 (.int .i64 m) (.slice (some ⟨g, 0, none⟩) k c) 26).below (w' := ((w1.alloc (.cells #[.int .i64 m, .slice (some ⟨g, 0, none⟩) k c] 26)).alloc (.cells #[.int .i64 q, .slice o' zs.length c'] 26))) (by (repeat (first | exact Below.refl _ _ | (refine Below.setCell ?_ (by first | (simp; done) | (simp; omega) | omega) _) | (refine Below.alloc ?_ (by first | (simp; done) | (simp; omega) | omega) _) | (refine below_drewN ?_ _) | (refine Below.drew ?_)))) (Nat.le_refl _)
  have hY2 := RB2.mk2 w1 (.cells #[.int .i64 m, .slice (some ⟨g, 0, none⟩) k c] 26) (.int .i64 q) (.slice o' zs.length c') 26
  have hR2 := hR1.below (w' := ((w1.alloc (.cells #[.int .i64 m, .slice (some ⟨g, 0, none⟩) k c] 26)).alloc (.cells #[.int .i64 q, .slice o' zs.length c'] 26))) (by (repeat (first | exact Below.refl _ _ | (refine Below.setCell ?_ (by first | (simp; done) | (simp; omega) | omega) _) | (refine Below.alloc ?_ (by first | (simp; done) | (simp; omega) | omega) _) | (refine below_drewN ?_ _) | (refine Below.drew ?_)))) (Nat.le_refl _)
  have hS2 := hS1.below (w' := ((w1.alloc (.cells #[.int .i64 m, .slice (some ⟨g, 0, none⟩) k c] 26)).alloc (.cells #[.int .i64 q, .slice o' zs.length c'] 26))) (by (repeat (first | exact Below.refl _ _ | (refine Below.setCell ?_ (by first | (simp; done) | (simp; omega) | omega) _) | (refine Below.alloc ?_ (by first | (simp; done) | (simp; omega) | omega) _) | (refine below_drewN ?_ _) | (refine Below.drew ?_)))) (Nat.le_refl _)
  have hO2 := (hO1.alloc (.cells #[.int .i64 m, .slice (some ⟨g, 0, none⟩) k c] 26)).alloc (.cells #[.int .i64 q, .slice o' zs.length c'] 26)
  have hU2 := (hU1.alloc (.cells #[.int .i64 m, .slice (some ⟨g, 0, none⟩) k c] 26)).alloc (.cells #[.int .i64 q, .slice o' zs.length c'] 26)
  have hb2 : Below w.heap.size w ((w1.alloc (.cells #[.int .i64 m, .slice (some ⟨g, 0, none⟩) k c] 26)).alloc (.cells #[.int .i64 q, .slice o' zs.length c'] 26)) := (hb1.alloc (by omega) _).alloc (by simp; omega) _
  clear hR1 hS1 hO1 hU1 hb1
  generalize ((w1.alloc (.cells #[.int .i64 m, .slice (some ⟨g, 0, none⟩) k c] 26)).alloc (.cells #[.int .i64 q, .slice o' zs.length c'] 26)) = w2 at hX2 hY2 hR2 hS2 hO2 hU2 hb2 ⊢
  obtain ⟨⟨x0, x1⟩, -⟩ := id hX2
  obtain ⟨⟨y0, y1⟩, -⟩ := id hY2
  obtain ⟨⟨r0, r1⟩, rf⟩ := id hR2
  obtain ⟨⟨s0, s1⟩, sf⟩ := id hS2
  have n1 : w1.heap.size ≠ w.heap.size := by omega
  have n2 : w1.heap.size ≠ w.heap.size + 1 := by omega
  have n3 : w1.heap.size + 1 ≠ w.heap.size := by omega
  go_region
  go_wp2_with fail
  refine bodyPost_ret (v := .tuple #[.agg #[.int .i64 m, .slice (some ⟨g, 0, none⟩) k c], .agg #[.int .i64 q, .slice o' zs.length c']]) (by simp [results, Try.results10, go_sem, r0, r1, s0, s1]) rfl ⟨m, _, ys.take k, q, _, zs, rfl, ?_, ?_, by simp; omega, hzl, ?_⟩
  · exact (OwI.drew2 (rd_put (rd_put (rd_put (rd_put hO2 (by omega) _) (by omega) _) (by omega) _) (by omega) _)).rd.take k hk2
  · exact (OwI.drew2 (rd_put (rd_put (rd_put (rd_put hU2 (by omega) _) (by omega) _) (by omega) _) (by omega) _)).rd
  · refine Below.drew ?_
    exact below_put (below_put (below_put (below_put hb2 (by omega) _) (by omega) _) (by omega) _) (by omega) _
end Go.Proofs.Ytcjinlfgeljmkaa
