/- Lemmas of SrcQ. -/
import Derived.Test.YtcjinlfgeljmkaaWSSrcR
set_option linter.unusedSimpArgs false
set_option linter.unusedVariables false
namespace Go.Proofs.Ytcjinlfgeljmkaa
open Go.RowKit

def S1Dr (w w' : World) (e : Ending) : Prop := ∃ m v xs, e = .returned (.agg #[.int .i64 m, v]) ∧ RdI w' v xs ∧ (1 ≤ xs.length ∧ xs.length ≤ 30) ∧ Below w.heap.size w w'
def SIDr (w w' : World) (e : Ending) : Prop := ∃ m v xs k, e = .returned (.tuple #[.agg #[.int .i64 m, v], .int .i64 k]) ∧ RdI w' v xs ∧ (1 ≤ xs.length ∧ xs.length ≤ 30) ∧ Below w.heap.size w w'
def SSDr (w w' : World) (e : Ending) : Prop := ∃ m v xs q u zs, e = .returned (.tuple #[.agg #[.int .i64 m, v], .agg #[.int .i64 q, u]]) ∧ RdI w' v xs ∧ RdI w' u zs ∧ (1 ≤ xs.length ∧ xs.length ≤ 30) ∧ zs.length ≤ 30 ∧ Below w.heap.size w w'
theorem OwI.drew2 {w : World} {B : Nat} {v : Value} {xs : List Int} (h : OwI w B v xs) : OwI w.drew B v xs := h
theorem rd_put {w : World} {v : Value} {xs : List Int} {B : Nat} (h : OwI w B v xs) {g k : Nat} (hg : g < B) (u : Value) : OwI (w.setCell ⟨g, k, none⟩ u) B v xs := h.low hg u

set_option maxHeartbeats 1000000 in
set_option maxRecDepth 100000 in
theorem DrawMultiplySeries_d (B n : Nat) (v : Value) (w : World) (hv : RdB w B n v) (hB : B ≤ w.heap.size) :
    Calls Try.prog 10 #[v] w fun e w' => SSDr w w' e := by
  obtain ⟨ov, cv, rfl, hmv, hcv⟩ := id hv
  clear hmv hcv
  go_enter Try.func10, Try.ntmps10
  go_wp2_with fail
  have hR0 := (RB2.mk1 w (.int .i64 0) (.slice none 0 0) 26).below (w' := (w.alloc (.cells #[.int .i64 0, .slice none 0 0] 26)).alloc (.cells #[.int .i64 0, .slice none 0 0] 26)) (by (repeat (first | exact Below.refl _ _ | (refine Below.setCell ?_ (by first | (simp; done) | (simp; omega) | omega) _) | (refine Below.alloc ?_ (by first | (simp; done) | (simp; omega) | omega) _) | (refine below_drewN ?_ _) | (refine Below.drew ?_)))) (Nat.le_refl _)
  have hS0 := RB2.mk2 w (.cells #[.int .i64 0, .slice none 0 0] 26) (.int .i64 0) (.slice none 0 0) 26
  have hb0 : Below w.heap.size w ((w.alloc (.cells #[.int .i64 0, .slice none 0 0] 26)).alloc (.cells #[.int .i64 0, .slice none 0 0] 26)) := (by (repeat (first | exact Below.refl _ _ | (refine Below.setCell ?_ (by first | (simp; done) | (simp; omega) | omega) _) | (refine Below.alloc ?_ (by first | (simp; done) | (simp; omega) | omega) _) | (refine below_drewN ?_ _) | (refine Below.drew ?_))))
  generalize (w.alloc (.cells #[.int .i64 0, .slice none 0 0] 26)).alloc (.cells #[.int .i64 0, .slice none 0 0] 26) = w0 at hR0 hS0 hb0 ⊢
  have hv0 := hv.keep (w' := w0) (fun k hk => hb0.block k (by omega))
  have hl0 := hS0.1.lt
  refine (l02Two_d B n _ w0 hv0 (by omega)).mono ?_
  rintro e w1 ⟨m, g, c, ys, k, q, u, zs, rfl, hO1, ⟨hk1, hk2, hk3⟩, hU1, hzl, hb1⟩
  obtain ⟨o', c', rfl⟩ := hU1.shape
  have hR1 := hR0.below hb1 (Nat.le_refl _)
  have hS1 := hS0.below hb1 (Nat.le_refl _)
  have hb1 := hb0.trans (hb1.mono hb0.size)
  go_wp2_with fail
  have hlS := hS1.1.lt
  have hlR := hR1.1.lt
  have hbs := hb1.size
  have hX2 := (RB2.mk1 w1 (.int .i64 m) (.slice (some ⟨g, 0, none⟩) k c) 26).below (w' := ((w1.alloc (.cells #[.int .i64 m, .slice (some ⟨g, 0, none⟩) k c] 26)).alloc (.cells #[.int .i64 q, .slice o' zs.length c'] 26))) (by (repeat (first | exact Below.refl _ _ | (refine Below.setCell ?_ (by first | (simp; done) | (simp; omega) | omega) _) | (refine Below.alloc ?_ (by first | (simp; done) | (simp; omega) | omega) _) | (refine below_drewN ?_ _) | (refine Below.drew ?_)))) (Nat.le_refl _)
  have hY2 := RB2.mk2 w1 (.cells #[.int .i64 m, .slice (some ⟨g, 0, none⟩) k c] 26) (.int .i64 q) (.slice o' zs.length c') 26
  have hR2 := hR1.below (w' := ((w1.alloc (.cells #[.int .i64 m, .slice (some ⟨g, 0, none⟩) k c] 26)).alloc (.cells #[.int .i64 q, .slice o' zs.length c'] 26))) (by (repeat (first | exact Below.refl _ _ | (refine Below.setCell ?_ (by first | (simp; done) | (simp; omega) | omega) _) | (refine Below.alloc ?_ (by first | (simp; done) | (simp; omega) | omega) _) | (refine below_drewN ?_ _) | (refine Below.drew ?_)))) (Nat.le_refl _)
  have hS2 := hS1.below (w' := ((w1.alloc (.cells #[.int .i64 m, .slice (some ⟨g, 0, none⟩) k c] 26)).alloc (.cells #[.int .i64 q, .slice o' zs.length c'] 26))) (by (repeat (first | exact Below.refl _ _ | (refine Below.setCell ?_ (by first | (simp; done) | (simp; omega) | omega) _) | (refine Below.alloc ?_ (by first | (simp; done) | (simp; omega) | omega) _) | (refine below_drewN ?_ _) | (refine Below.drew ?_)))) (Nat.le_refl _)
  have hO2 := (hO1.alloc (.cells #[.int .i64 m, .slice (some ⟨g, 0, none⟩) k c] 26)).alloc (.cells #[.int .i64 q, .slice o' zs.length c'] 26)
  have hU2 := (hU1.alloc (.cells #[.int .i64 m, .slice (some ⟨g, 0, none⟩) k c] 26)).alloc (.cells #[.int .i64 q, .slice o' zs.length c'] 26)
  have hb2 : Below w.heap.size w ((w1.alloc (.cells #[.int .i64 m, .slice (some ⟨g, 0, none⟩) k c] 26)).alloc (.cells #[.int .i64 q, .slice o' zs.length c'] 26)) := (hb1.alloc (by omega) _).alloc (by simp; omega) _
  clear hR1 hS1 hO1 hU1 hb1
  generalize ((w1.alloc (.cells #[.int .i64 m, .slice (some ⟨g, 0, none⟩) k c] 26)).alloc (.cells #[.int .i64 q, .slice o' zs.length c'] 26)) = w2 at hX2 hY2 hR2 hS2 hO2 hU2 hb2 ⊢
  obtain ⟨⟨x0, x1⟩, -⟩ := id hX2
  obtain ⟨⟨y0, y1⟩, -⟩ := id hY2
  obtain ⟨⟨r0, r1⟩, rf⟩ := id hR2
  obtain ⟨⟨s0, s1⟩, sf⟩ := id hS2
  have n1 : w1.heap.size ≠ w.heap.size := by omega
  have n2 : w1.heap.size ≠ w.heap.size + 1 := by omega
  have n3 : w1.heap.size + 1 ≠ w.heap.size := by omega
  go_region
  go_wp2_with fail
  refine bodyPost_ret (v := .tuple #[.agg #[.int .i64 m, .slice (some ⟨g, 0, none⟩) k c], .agg #[.int .i64 q, .slice o' zs.length c']]) (by simp [results, Try.results10, go_sem, r0, r1, s0, s1]) rfl ⟨m, _, ys.take k, q, _, zs, rfl, ?_, ?_, by simp; omega, hzl, ?_⟩
  · exact (OwI.drew2 (rd_put (rd_put (rd_put (rd_put hO2 (by omega) _) (by omega) _) (by omega) _) (by omega) _)).rd.take k hk2
  · exact (OwI.drew2 (rd_put (rd_put (rd_put (rd_put hU2 (by omega) _) (by omega) _) (by omega) _) (by omega) _)).rd
  · refine Below.drew ?_
    exact below_put (below_put (below_put (below_put hb2 (by omega) _) (by omega) _) (by omega) _) (by omega) _
end Go.Proofs.Ytcjinlfgeljmkaa
