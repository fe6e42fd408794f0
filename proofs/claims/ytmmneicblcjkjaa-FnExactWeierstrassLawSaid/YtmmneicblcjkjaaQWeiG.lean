/- Lemmas of WeiG. -/
import Derived.Test.YtmmneicblcjkjaaQWeiE
import Derived.Test.YtmmneicblcjkjaaQWeiF
import Derived.Test.YtmmneicblcjkjaaQAx
set_option linter.unusedSimpArgs false
set_option linter.unusedVariables false
namespace Go.Proofs.Ytmmneicblcjkjaa
open Go.RowKit

set_option maxHeartbeats 4000000 in
set_option maxRecDepth 100000 in
theorem variables_c (m d : Int) (n : Nat) (w : World) (hd : d + 1 = (n : Int)) (h2 : 2 ≤ n) (hn : n ≤ 1000) (hm : 2 ≤ m) (hm' : m ≤ 10000) :
    Calls Try.prog 32 #[.int .i64 m, .int .i64 d] w fun e w' => ∃ v1 v2, e = .returned (.tuple #[.agg #[.int .i64 m, v1], .agg #[.int .i64 m, v2]]) ∧ RdT w' v1 (xT n) ∧ RdT w' v2 (yT n) ∧ Below w.heap.size w w' := by
  have hd1 : d = (n : Int) - 1 := by omega
  subst hd1
  clear hd
  go_enter Try.func32, Try.ntmps32
  go_wp2_with fail
  (have R0 := ((RB2.mk1 w  (.int .i64 0) (.slice none 0 0) 25)).below (w' := ((w.alloc (.cells #[.int .i64 0, .slice none 0 0] 25)).alloc (.cells #[.int .i64 0, .slice none 0 0] 25))) (by (repeat (first | exact Below.refl _ _ | (refine Below.setCell ?_ (by first | (simp; done) | (simp; omega) | omega) _) | (refine Below.alloc ?_ (by first | (simp; done) | (simp; omega) | omega) _) | (refine below_drewN ?_ _) | (refine Below.drew ?_)))) (Nat.le_refl _); have RY0 := ((RB2.mk2 w (.cells #[.int .i64 0, .slice none 0 0] 25) (.int .i64 0) (.slice none 0 0) 25)).below (w' := ((w.alloc (.cells #[.int .i64 0, .slice none 0 0] 25)).alloc (.cells #[.int .i64 0, .slice none 0 0] 25))) (by (repeat (first | exact Below.refl _ _ | (refine Below.setCell ?_ (by first | (simp; done) | (simp; omega) | omega) _) | (refine Below.alloc ?_ (by first | (simp; done) | (simp; omega) | omega) _) | (refine below_drewN ?_ _) | (refine Below.drew ?_)))) (Nat.le_refl _); have B0 : Below w.heap.size w ((w.alloc (.cells #[.int .i64 0, .slice none 0 0] 25)).alloc (.cells #[.int .i64 0, .slice none 0 0] 25)) := (by (repeat (first | exact Below.refl _ _ | (refine Below.setCell ?_ (by first | (simp; done) | (simp; omega) | omega) _) | (refine Below.alloc ?_ (by first | (simp; done) | (simp; omega) | omega) _) | (refine below_drewN ?_ _) | (refine Below.drew ?_)))); generalize (w.alloc (.cells #[.int .i64 0, .slice none 0 0] 25)).alloc (.cells #[.int .i64 0, .slice none 0 0] 25) = w0 at R0 RY0 B0  ⊢)
  refine (variable_c m _ n _ (by omega) h2 (by omega)).mono ?_
  rintro e w1 ⟨v1, rfl, h1, hb⟩
  obtain ⟨oz, cz, rfl⟩ := h1.shapeN (n := n) (varL_len _)
  (have R1 := R0.below hb (Nat.le_refl _); have RY1 := RY0.below hb (Nat.le_refl _); have B1 := B0.trans (hb.mono B0.size); clear R0 RY0 B0)
  have Z1 := h1.rd
  have lR1 := R1.1.lt
  have lY1 := RY1.1.lt
  have hn1 : w.heap.size ≠ w1.heap.size := by omega
  have hn2 : w.heap.size + 1 ≠ w1.heap.size := by omega
  clear h1 hb
  go_wp2_with fail
  (have hb : Below w1.heap.size w1 (w1.alloc (.cells #[.int .i64 m, .slice oz n cz] 51)) := (by (repeat (first | exact Below.refl _ _ | (refine Below.setCell ?_ (by first | (simp; done) | (simp; omega) | omega) _) | (refine Below.alloc ?_ (by first | (simp; done) | (simp; omega) | omega) _) | (refine below_drewN ?_ _) | (refine Below.drew ?_)))); have R2 := R1.below hb (Nat.le_refl _); have RY2 := RY1.below hb (Nat.le_refl _); have Z2 := Z1.below hb (Nat.le_refl _); have B2 := B1.trans (hb.mono B1.size); clear R1 RY1 Z1 B1; have TB2 := RB2.mk1 w1 (.int .i64 m) (.slice oz n cz) 51; have hl_w2 := hb.size; clear hb; generalize w1.alloc (.cells #[.int .i64 m, .slice oz n cz] 51) = w2 at TB2 B2 hl_w2 R2 RY2 Z2  ⊢)
  have lR := R2.1.lt
  have lY := RY2.1.lt
  have lT := TB2.1.lt
  have hne1 : w.heap.size ≠ w.heap.size + 1 := by omega
  have hne2 : w.heap.size + 1 ≠ w.heap.size := by omega
  have hd0 : Below w2.heap.size w2 w2.drew := (Below.refl _ _).drew
  have hBs := B2.size
  obtain ⟨⟨t0, t1⟩, -⟩ := id TB2
  obtain ⟨⟨r0, r1⟩, rf⟩ := id R2
  obtain ⟨⟨s0, s1⟩, sf⟩ := id RY2
  go_region_held3 (fun w' => w'.cell? ⟨w1.heap.size, 0, none⟩ = some (.int .i64 m) ∧ w'.cell? ⟨w1.heap.size, 1, none⟩ = some (.slice oz n cz)) (go_keep)
    (first
      | (have hq := hb3; go_at_call 36; refine (onAxis1_c m n _ (varL n) _ (Z2.below (by (repeat (first | exact Below.refl _ _ | (refine Below.setCell ?_ (by first | (simp; done) | (simp; omega) | omega) _) | (refine Below.alloc ?_ (by first | (simp; done) | (simp; omega) | omega) _) | (refine below_drewN ?_ _) | (refine Below.drew ?_) | (refine Below.trans ?_ (Below.mono hb3 (by first | (simp; done) | (simp; omega) | omega)))))) (Nat.le_refl _)) (varL_len _) (by omega) hn).mono ?_; rintro e w4 ⟨v4, rfl, h4, hb4⟩; obtain ⟨o4, c4, rfl⟩ := h4.shapeN (n := n) (tri_len _ _); have hd4 : Below w2.heap.size w2 w4 := (by (repeat (first | exact Below.refl _ _ | (refine Below.setCell ?_ (by first | (simp; done) | (simp; omega) | omega) _) | (refine Below.alloc ?_ (by first | (simp; done) | (simp; omega) | omega) _) | (refine below_drewN ?_ _) | (refine Below.drew ?_) | (refine Below.trans ?_ (Below.mono hb3 (by first | (simp; done) | (simp; omega) | omega))) | (refine Below.trans ?_ (Below.mono hb4 (by first | (simp; done) | (simp; omega) | omega)))))); have hs4 := hd4.size; have hs34 := hb4.size; obtain ⟨⟨t0, t1⟩, -⟩ := TB2.below hd4 (Nat.le_refl _); obtain ⟨⟨r0, r1⟩, rf⟩ := R2.below hd4 (Nat.le_refl _); obtain ⟨⟨s0, s1⟩, sf⟩ := RY2.below hd4 (Nat.le_refl _))
      | (go_at_call 36; refine (onAxis0_c m n _ (varL n) _ (Z2.below (by (repeat (first | exact Below.refl _ _ | (refine Below.setCell ?_ (by first | (simp; done) | (simp; omega) | omega) _) | (refine Below.alloc ?_ (by first | (simp; done) | (simp; omega) | omega) _) | (refine below_drewN ?_ _) | (refine Below.drew ?_)))) (Nat.le_refl _)) (varL_len _) (by omega) hn).mono ?_; rintro e w3 ⟨v3, rfl, h3, hb3⟩; obtain ⟨o3, c3, rfl⟩ := h3.shapeN (n := n) (tri_len _ _); have hd3 : Below w2.heap.size w2 w3 := (by (repeat (first | exact Below.refl _ _ | (refine Below.setCell ?_ (by first | (simp; done) | (simp; omega) | omega) _) | (refine Below.alloc ?_ (by first | (simp; done) | (simp; omega) | omega) _) | (refine below_drewN ?_ _) | (refine Below.drew ?_) | (refine Below.trans ?_ (Below.mono hb3 (by first | (simp; done) | (simp; omega) | omega)))))); have hs3 := hd3.size; obtain ⟨⟨t0, t1⟩, -⟩ := TB2.below hd3 (Nat.le_refl _); obtain ⟨⟨r0, r1⟩, rf⟩ := R2.below hd3 (Nat.le_refl _); obtain ⟨⟨s0, s1⟩, sf⟩ := RY2.below hd3 (Nat.le_refl _)))
  all_goals
    have r0f := rf 0
    have r1f := rf 1
    have s0f := sf 0
    have s1f := sf 1
    go_wp2
    refine bodyPost_ret (v := .tuple #[.agg #[.int .i64 m, .slice o3 n c3], .agg #[.int .i64 m, .slice o4 n c4]]) (by simp [results, Try.results32, go_sem, r0, r1, s0, s1, hne1, hne2]) rfl ⟨_, _, rfl, ?_, ?_, ?_⟩
    · rw [← axT_x n h2]
      exact (((((h3.below hb4).low (B := w2.heap.size) (by omega) _).low (by omega) _).low (by omega) _).low (by omega) _).rd
    · rw [← axT_y n h2]
      exact ((((h4.low (B := w3.heap.size) (by omega) _).low (by omega) _).low (by omega) _).low (by omega) _).rd
    · have hd5 := B2.trans (hd4.mono hBs)
      (repeat (first | exact Below.refl _ _ | (refine Below.setCell ?_ (by first | (simp; done) | (simp; omega) | omega) _) | (refine Below.alloc ?_ (by first | (simp; done) | (simp; omega) | omega) _) | (refine below_drewN ?_ _) | (refine Below.drew ?_) | (refine Below.trans ?_ (Below.mono hd5 (by first | (simp; done) | (simp; omega) | omega)))))

set_option maxHeartbeats 1000000 in
theorem wclos_c (i j b : Nat) (m : Int) (v : Value) (xs : List Int) (w : World) (X : Box2 w b (.int .i64 m) v) (hv : RdI w v xs) (hij : i + j + 1 < xs.length) :
    Calls Try.prog 35 #[.int .i64 i, .int .i64 j, .pointer (some ⟨b, 0, none⟩)] w fun e w' => e = .returned (.int .i64 (at0 xs (i + j + 1))) ∧ ∃ d, w' = w.drewN d := by
  obtain ⟨o, c, rfl, hmx, -⟩ := id hv
  have hml := hmx.1
  unfold maxLen at hml
  obtain ⟨bx, fx, rfl, hcx⟩ := hv.cells (by omega)
  have cx := hcx (i + j + 1) _ (some_at0 hij)
  obtain ⟨x0, x1⟩ := X
  have e1 : IntKind.i64.wrap ((i : Int) + (j : Int)) = (i : Int) + (j : Int) := IntWalk.i64_in _ (by omega)
  have e2 : IntKind.i64.wrap ((i : Int) + (j : Int) + 1) = (i : Int) + (j : Int) + 1 := IntWalk.i64_in _ (by omega)
  have e3 : ((i : Int) + (j : Int) + 1).toNat = i + j + 1 := by omega
  have i0 : (0 : Int) ≤ (i : Int) + (j : Int) + 1 := by omega
  have i1 : (i : Int) + (j : Int) + 1 < (xs.length : Int) := by omega
  clear hcx hmx
  go_enter Try.func35, Try.ntmps35
  go_wp2
  first
    | (go_ret; exact ⟨rfl, 0, rfl⟩)
    | (go_quiet (fail); go_wp2; go_ret; exact ⟨rfl, _, rfl⟩)
theorem wclos_callable : Callable 35 := fun args w => Try.call35 args w
end Go.Proofs.Ytmmneicblcjkjaa
