/- Whether two planes are alike. -/
import Derived.Test.YtjfobjmpjboniaaPlaA
set_option linter.unusedSimpArgs false
set_option linter.unusedVariables false
namespace Go.Proofs.Ytjfobjmpjboniaa
open Go.RowKit

set_option maxHeartbeats 1000000 in
theorem alikeP_c (m n : Int) (v u : Value) (xs ys : List (List Int)) (w : World) (hv : RdT w v xs) (hu : RdT w u ys) :
    Calls Try.prog 170 #[.agg #[.int .i64 m, v], .agg #[.int .i64 n, u]] w fun e w' => e = .returned (.bool (alikeP m xs n ys)) ∧ Below w.heap.size w w' := by
  obtain ⟨o, c, rfl, hm, -⟩ := id hv
  obtain ⟨o', c', rfl, hm', -⟩ := id hu
  have hl1 := hm.1
  have hl2 := hm'.1
  unfold maxLen at hm hm'
  have e2 : ((xs.length : Int) - 1 == (ys.length : Int) - 1) = ((xs.length : Int) == (ys.length : Int)) := by
    rw [Bool.eq_iff_iff]; simp only [beq_iff_eq]; omega
  cases h1 : (m == n)
  · go_enter Try.func170, Try.ntmps170
    go_wp2_with fail
    (have X0 := ((RB2.mk1 w  (.int .i64 m) (.slice o xs.length c) 37).1).below (w' := ((w.alloc (.cells #[.int .i64 m, .slice o xs.length c] 37)).alloc (.cells #[.int .i64 n, .slice o' ys.length c'] 37))) (by (repeat (first | exact Below.refl _ _ | (refine Below.setCell ?_ (by first | (simp; done) | (simp; omega) | omega) _) | (refine Below.alloc ?_ (by first | (simp; done) | (simp; omega) | omega) _) | (refine below_drewN ?_ _) | (refine Below.drew ?_)))) (Nat.le_refl _); have Y0 := ((RB2.mk2 w (.cells #[.int .i64 m, .slice o xs.length c] 37) (.int .i64 n) (.slice o' ys.length c') 37).1).below (w' := ((w.alloc (.cells #[.int .i64 m, .slice o xs.length c] 37)).alloc (.cells #[.int .i64 n, .slice o' ys.length c'] 37))) (by (repeat (first | exact Below.refl _ _ | (refine Below.setCell ?_ (by first | (simp; done) | (simp; omega) | omega) _) | (refine Below.alloc ?_ (by first | (simp; done) | (simp; omega) | omega) _) | (refine below_drewN ?_ _) | (refine Below.drew ?_)))) (Nat.le_refl _); have B0 : Below w.heap.size w ((w.alloc (.cells #[.int .i64 m, .slice o xs.length c] 37)).alloc (.cells #[.int .i64 n, .slice o' ys.length c'] 37)) := (by (repeat (first | exact Below.refl _ _ | (refine Below.setCell ?_ (by first | (simp; done) | (simp; omega) | omega) _) | (refine Below.alloc ?_ (by first | (simp; done) | (simp; omega) | omega) _) | (refine below_drewN ?_ _) | (refine Below.drew ?_)))); have hv0 := hv.below (w' := ((w.alloc (.cells #[.int .i64 m, .slice o xs.length c] 37)).alloc (.cells #[.int .i64 n, .slice o' ys.length c'] 37))) (by (repeat (first | exact Below.refl _ _ | (refine Below.setCell ?_ (by first | (simp; done) | (simp; omega) | omega) _) | (refine Below.alloc ?_ (by first | (simp; done) | (simp; omega) | omega) _) | (refine below_drewN ?_ _) | (refine Below.drew ?_)))) (Nat.le_refl _); have hu0 := hu.below (w' := ((w.alloc (.cells #[.int .i64 m, .slice o xs.length c] 37)).alloc (.cells #[.int .i64 n, .slice o' ys.length c'] 37))) (by (repeat (first | exact Below.refl _ _ | (refine Below.setCell ?_ (by first | (simp; done) | (simp; omega) | omega) _) | (refine Below.alloc ?_ (by first | (simp; done) | (simp; omega) | omega) _) | (refine below_drewN ?_ _) | (refine Below.drew ?_)))) (Nat.le_refl _); generalize (w.alloc (.cells #[.int .i64 m, .slice o xs.length c] 37)).alloc (.cells #[.int .i64 n, .slice o' ys.length c'] 37) = w0 at X0 Y0 B0 hv0 hu0 ⊢)
    obtain ⟨x0, x1⟩ := id X0
    obtain ⟨y0, y1⟩ := id Y0
    go_quiet (fail)
    go_wp2
    go_ret
    exact ⟨by simp only [alikeP, h1]; rfl, below_drewN B0 _⟩
  · have E1 := Lib.hid e2
    clear e2
    go_enter Try.func170, Try.ntmps170
    go_wp2_with fail
    (have X0 := ((RB2.mk1 w  (.int .i64 m) (.slice o xs.length c) 37).1).below (w' := ((w.alloc (.cells #[.int .i64 m, .slice o xs.length c] 37)).alloc (.cells #[.int .i64 n, .slice o' ys.length c'] 37))) (by (repeat (first | exact Below.refl _ _ | (refine Below.setCell ?_ (by first | (simp; done) | (simp; omega) | omega) _) | (refine Below.alloc ?_ (by first | (simp; done) | (simp; omega) | omega) _) | (refine below_drewN ?_ _) | (refine Below.drew ?_)))) (Nat.le_refl _); have Y0 := ((RB2.mk2 w (.cells #[.int .i64 m, .slice o xs.length c] 37) (.int .i64 n) (.slice o' ys.length c') 37).1).below (w' := ((w.alloc (.cells #[.int .i64 m, .slice o xs.length c] 37)).alloc (.cells #[.int .i64 n, .slice o' ys.length c'] 37))) (by (repeat (first | exact Below.refl _ _ | (refine Below.setCell ?_ (by first | (simp; done) | (simp; omega) | omega) _) | (refine Below.alloc ?_ (by first | (simp; done) | (simp; omega) | omega) _) | (refine below_drewN ?_ _) | (refine Below.drew ?_)))) (Nat.le_refl _); have B0 : Below w.heap.size w ((w.alloc (.cells #[.int .i64 m, .slice o xs.length c] 37)).alloc (.cells #[.int .i64 n, .slice o' ys.length c'] 37)) := (by (repeat (first | exact Below.refl _ _ | (refine Below.setCell ?_ (by first | (simp; done) | (simp; omega) | omega) _) | (refine Below.alloc ?_ (by first | (simp; done) | (simp; omega) | omega) _) | (refine below_drewN ?_ _) | (refine Below.drew ?_)))); have hv0 := hv.below (w' := ((w.alloc (.cells #[.int .i64 m, .slice o xs.length c] 37)).alloc (.cells #[.int .i64 n, .slice o' ys.length c'] 37))) (by (repeat (first | exact Below.refl _ _ | (refine Below.setCell ?_ (by first | (simp; done) | (simp; omega) | omega) _) | (refine Below.alloc ?_ (by first | (simp; done) | (simp; omega) | omega) _) | (refine below_drewN ?_ _) | (refine Below.drew ?_)))) (Nat.le_refl _); have hu0 := hu.below (w' := ((w.alloc (.cells #[.int .i64 m, .slice o xs.length c] 37)).alloc (.cells #[.int .i64 n, .slice o' ys.length c'] 37))) (by (repeat (first | exact Below.refl _ _ | (refine Below.setCell ?_ (by first | (simp; done) | (simp; omega) | omega) _) | (refine Below.alloc ?_ (by first | (simp; done) | (simp; omega) | omega) _) | (refine below_drewN ?_ _) | (refine Below.drew ?_)))) (Nat.le_refl _); generalize (w.alloc (.cells #[.int .i64 m, .slice o xs.length c] 37)).alloc (.cells #[.int .i64 n, .slice o' ys.length c'] 37) = w0 at X0 Y0 B0 hv0 hu0 ⊢)
    obtain ⟨x0, x1⟩ := id X0
    obtain ⟨y0, y1⟩ := id Y0
    have hX := X0
    have hY := Y0
    go_region_held3 (fun w' => w'.cell? ⟨w.heap.size, 0, none⟩ = some (.int .i64 m) ∧ w'.cell? ⟨w.heap.size, 1, none⟩ = some (.slice o xs.length c) ∧ w'.cell? ⟨w.heap.size + 1, 0, none⟩ = some (.int .i64 n) ∧ w'.cell? ⟨w.heap.size + 1, 1, none⟩ = some (.slice o' ys.length c')) (go_keep)
      (first
        | (go_at_call_of 158 (Value.agg #[.int .i64 m, .slice o xs.length c]); refine (degreeP_c m o xs.length c _ hl1).mono ?_; rintro e w1 ⟨rfl, hb1⟩; have hX1 := (show Box2 w0.drew _ _ _ from hX).below hb1 (Nat.le_refl _); have hY1 := (show Box2 w0.drew _ _ _ from hY).below hb1 (Nat.le_refl _); obtain ⟨a1, a2⟩ := id hX1; obtain ⟨b1, b2⟩ := id hY1)
        | (go_at_call_of 158 (Value.agg #[.int .i64 n, .slice o' ys.length c']); refine (degreeP_c n o' ys.length c' _ hl2).mono ?_; rintro e w2 ⟨rfl, hb2⟩; obtain ⟨a3, a4⟩ := hX1.below hb2 (Nat.le_refl _); obtain ⟨b3, b4⟩ := hY1.below hb2 (Nat.le_refl _)))
    have s0 := B0.size
    have s1 := hb1.size
    have s2 := hb2.size
    simp at s1
    go_wp2
    go_ret
    exact ⟨by rw [E1.out]; simp only [alikeP, h1]; rfl, (by (repeat (first | exact Below.refl _ _ | (refine Below.setCell ?_ (by first | (simp; done) | (simp; omega) | omega) _) | (refine Below.alloc ?_ (by first | (simp; done) | (simp; omega) | omega) _) | (refine below_drewN ?_ _) | (refine Below.drew ?_) | (refine Below.trans ?_ (Below.mono hb2 (by first | (simp; done) | (simp; omega) | omega))) | (refine Below.trans ?_ (Below.mono hb1 (by first | (simp; done) | (simp; omega) | omega))) | (refine Below.trans ?_ (Below.mono B0 (by first | (simp; done) | (simp; omega) | omega))))))⟩

set_option maxHeartbeats 1000000 in
theorem bothPlanes_c (m n : Int) (v u : Value) (xs ys : List (List Int)) (w : World) (hv : RdT w v xs) (hu : RdT w u ys) :
    Calls Try.prog 93 #[.agg #[.int .i64 m, v], .agg #[.int .i64 n, u]] w fun e w' => e = .returned (.int .i64 (twoP m xs n ys)) ∧ Below w.heap.size w w' := by
  obtain ⟨o, c, rfl, -, -⟩ := id hv
  obtain ⟨o', c', rfl, -, -⟩ := id hu
  cases h1 : plaB m xs
  · have hR : twoP m xs n ys = 1 := by simp [twoP, h1]
    rw [hR]
    go_enter Try.func93, Try.ntmps93
    go_wp2_with fail
    (have X0 := ((RB2.mk1 w  (.int .i64 m) (.slice o xs.length c) 37).1).below (w' := ((w.alloc (.cells #[.int .i64 m, .slice o xs.length c] 37)).alloc (.cells #[.int .i64 n, .slice o' ys.length c'] 37))) (by (repeat (first | exact Below.refl _ _ | (refine Below.setCell ?_ (by first | (simp; done) | (simp; omega) | omega) _) | (refine Below.alloc ?_ (by first | (simp; done) | (simp; omega) | omega) _) | (refine below_drewN ?_ _) | (refine Below.drew ?_)))) (Nat.le_refl _); have Y0 := ((RB2.mk2 w (.cells #[.int .i64 m, .slice o xs.length c] 37) (.int .i64 n) (.slice o' ys.length c') 37).1).below (w' := ((w.alloc (.cells #[.int .i64 m, .slice o xs.length c] 37)).alloc (.cells #[.int .i64 n, .slice o' ys.length c'] 37))) (by (repeat (first | exact Below.refl _ _ | (refine Below.setCell ?_ (by first | (simp; done) | (simp; omega) | omega) _) | (refine Below.alloc ?_ (by first | (simp; done) | (simp; omega) | omega) _) | (refine below_drewN ?_ _) | (refine Below.drew ?_)))) (Nat.le_refl _); have B0 : Below w.heap.size w ((w.alloc (.cells #[.int .i64 m, .slice o xs.length c] 37)).alloc (.cells #[.int .i64 n, .slice o' ys.length c'] 37)) := (by (repeat (first | exact Below.refl _ _ | (refine Below.setCell ?_ (by first | (simp; done) | (simp; omega) | omega) _) | (refine Below.alloc ?_ (by first | (simp; done) | (simp; omega) | omega) _) | (refine below_drewN ?_ _) | (refine Below.drew ?_)))); have hv0 := hv.below (w' := ((w.alloc (.cells #[.int .i64 m, .slice o xs.length c] 37)).alloc (.cells #[.int .i64 n, .slice o' ys.length c'] 37))) (by (repeat (first | exact Below.refl _ _ | (refine Below.setCell ?_ (by first | (simp; done) | (simp; omega) | omega) _) | (refine Below.alloc ?_ (by first | (simp; done) | (simp; omega) | omega) _) | (refine below_drewN ?_ _) | (refine Below.drew ?_)))) (Nat.le_refl _); have hu0 := hu.below (w' := ((w.alloc (.cells #[.int .i64 m, .slice o xs.length c] 37)).alloc (.cells #[.int .i64 n, .slice o' ys.length c'] 37))) (by (repeat (first | exact Below.refl _ _ | (refine Below.setCell ?_ (by first | (simp; done) | (simp; omega) | omega) _) | (refine Below.alloc ?_ (by first | (simp; done) | (simp; omega) | omega) _) | (refine below_drewN ?_ _) | (refine Below.drew ?_)))) (Nat.le_refl _); generalize (w.alloc (.cells #[.int .i64 m, .slice o xs.length c] 37)).alloc (.cells #[.int .i64 n, .slice o' ys.length c'] 37) = w0 at X0 Y0 B0 hv0 hu0 ⊢)
    refine (IsPlane_c m _ xs _ hv0).mono ?_
    rw [h1]
    rintro e w1 ⟨rfl, hb⟩
    (have X1 := X0.below hb (Nat.le_refl _); have B1 := B0.trans (hb.mono B0.size))
    go_wp2
    go_ret
    exact ⟨rfl, B1⟩
  · cases h2 : plaB n ys
    · have hR : twoP m xs n ys = 1 := by simp [twoP, h2]
      rw [hR]
      go_enter Try.func93, Try.ntmps93
      go_wp2_with fail
      (have X0 := ((RB2.mk1 w  (.int .i64 m) (.slice o xs.length c) 37).1).below (w' := ((w.alloc (.cells #[.int .i64 m, .slice o xs.length c] 37)).alloc (.cells #[.int .i64 n, .slice o' ys.length c'] 37))) (by (repeat (first | exact Below.refl _ _ | (refine Below.setCell ?_ (by first | (simp; done) | (simp; omega) | omega) _) | (refine Below.alloc ?_ (by first | (simp; done) | (simp; omega) | omega) _) | (refine below_drewN ?_ _) | (refine Below.drew ?_)))) (Nat.le_refl _); have Y0 := ((RB2.mk2 w (.cells #[.int .i64 m, .slice o xs.length c] 37) (.int .i64 n) (.slice o' ys.length c') 37).1).below (w' := ((w.alloc (.cells #[.int .i64 m, .slice o xs.length c] 37)).alloc (.cells #[.int .i64 n, .slice o' ys.length c'] 37))) (by (repeat (first | exact Below.refl _ _ | (refine Below.setCell ?_ (by first | (simp; done) | (simp; omega) | omega) _) | (refine Below.alloc ?_ (by first | (simp; done) | (simp; omega) | omega) _) | (refine below_drewN ?_ _) | (refine Below.drew ?_)))) (Nat.le_refl _); have B0 : Below w.heap.size w ((w.alloc (.cells #[.int .i64 m, .slice o xs.length c] 37)).alloc (.cells #[.int .i64 n, .slice o' ys.length c'] 37)) := (by (repeat (first | exact Below.refl _ _ | (refine Below.setCell ?_ (by first | (simp; done) | (simp; omega) | omega) _) | (refine Below.alloc ?_ (by first | (simp; done) | (simp; omega) | omega) _) | (refine below_drewN ?_ _) | (refine Below.drew ?_)))); have hv0 := hv.below (w' := ((w.alloc (.cells #[.int .i64 m, .slice o xs.length c] 37)).alloc (.cells #[.int .i64 n, .slice o' ys.length c'] 37))) (by (repeat (first | exact Below.refl _ _ | (refine Below.setCell ?_ (by first | (simp; done) | (simp; omega) | omega) _) | (refine Below.alloc ?_ (by first | (simp; done) | (simp; omega) | omega) _) | (refine below_drewN ?_ _) | (refine Below.drew ?_)))) (Nat.le_refl _); have hu0 := hu.below (w' := ((w.alloc (.cells #[.int .i64 m, .slice o xs.length c] 37)).alloc (.cells #[.int .i64 n, .slice o' ys.length c'] 37))) (by (repeat (first | exact Below.refl _ _ | (refine Below.setCell ?_ (by first | (simp; done) | (simp; omega) | omega) _) | (refine Below.alloc ?_ (by first | (simp; done) | (simp; omega) | omega) _) | (refine below_drewN ?_ _) | (refine Below.drew ?_)))) (Nat.le_refl _); generalize (w.alloc (.cells #[.int .i64 m, .slice o xs.length c] 37)).alloc (.cells #[.int .i64 n, .slice o' ys.length c'] 37) = w0 at X0 Y0 B0 hv0 hu0 ⊢)
      refine (IsPlane_c m _ xs _ hv0).mono ?_
      rw [h1]
      rintro e w1 ⟨rfl, hb⟩
      (have X1 := X0.below hb (Nat.le_refl _); have Y1 := Y0.below hb (Nat.le_refl _); have hv1 := hv0.below hb (Nat.le_refl _); have hu1 := hu0.below hb (Nat.le_refl _); have B1 := B0.trans (hb.mono B0.size))
      obtain ⟨y0, y1⟩ := id Y1
      go_wp2_with fail
      refine (IsPlane_c n _ ys _ hu1).mono ?_
      rw [h2]
      rintro e w2 ⟨rfl, hb2⟩
      (have X2 := X1.below hb2 (Nat.le_refl _); have B2 := B1.trans (hb2.mono B1.size))
      go_wp2
      go_ret
      exact ⟨rfl, B2⟩
    · cases h3 : alikeP m xs n ys
      all_goals
        go_enter Try.func93, Try.ntmps93
        go_wp2_with fail
        (have X0 := ((RB2.mk1 w  (.int .i64 m) (.slice o xs.length c) 37).1).below (w' := ((w.alloc (.cells #[.int .i64 m, .slice o xs.length c] 37)).alloc (.cells #[.int .i64 n, .slice o' ys.length c'] 37))) (by (repeat (first | exact Below.refl _ _ | (refine Below.setCell ?_ (by first | (simp; done) | (simp; omega) | omega) _) | (refine Below.alloc ?_ (by first | (simp; done) | (simp; omega) | omega) _) | (refine below_drewN ?_ _) | (refine Below.drew ?_)))) (Nat.le_refl _); have Y0 := ((RB2.mk2 w (.cells #[.int .i64 m, .slice o xs.length c] 37) (.int .i64 n) (.slice o' ys.length c') 37).1).below (w' := ((w.alloc (.cells #[.int .i64 m, .slice o xs.length c] 37)).alloc (.cells #[.int .i64 n, .slice o' ys.length c'] 37))) (by (repeat (first | exact Below.refl _ _ | (refine Below.setCell ?_ (by first | (simp; done) | (simp; omega) | omega) _) | (refine Below.alloc ?_ (by first | (simp; done) | (simp; omega) | omega) _) | (refine below_drewN ?_ _) | (refine Below.drew ?_)))) (Nat.le_refl _); have B0 : Below w.heap.size w ((w.alloc (.cells #[.int .i64 m, .slice o xs.length c] 37)).alloc (.cells #[.int .i64 n, .slice o' ys.length c'] 37)) := (by (repeat (first | exact Below.refl _ _ | (refine Below.setCell ?_ (by first | (simp; done) | (simp; omega) | omega) _) | (refine Below.alloc ?_ (by first | (simp; done) | (simp; omega) | omega) _) | (refine below_drewN ?_ _) | (refine Below.drew ?_)))); have hv0 := hv.below (w' := ((w.alloc (.cells #[.int .i64 m, .slice o xs.length c] 37)).alloc (.cells #[.int .i64 n, .slice o' ys.length c'] 37))) (by (repeat (first | exact Below.refl _ _ | (refine Below.setCell ?_ (by first | (simp; done) | (simp; omega) | omega) _) | (refine Below.alloc ?_ (by first | (simp; done) | (simp; omega) | omega) _) | (refine below_drewN ?_ _) | (refine Below.drew ?_)))) (Nat.le_refl _); have hu0 := hu.below (w' := ((w.alloc (.cells #[.int .i64 m, .slice o xs.length c] 37)).alloc (.cells #[.int .i64 n, .slice o' ys.length c'] 37))) (by (repeat (first | exact Below.refl _ _ | (refine Below.setCell ?_ (by first | (simp; done) | (simp; omega) | omega) _) | (refine Below.alloc ?_ (by first | (simp; done) | (simp; omega) | omega) _) | (refine below_drewN ?_ _) | (refine Below.drew ?_)))) (Nat.le_refl _); generalize (w.alloc (.cells #[.int .i64 m, .slice o xs.length c] 37)).alloc (.cells #[.int .i64 n, .slice o' ys.length c'] 37) = w0 at X0 Y0 B0 hv0 hu0 ⊢)
        refine (IsPlane_c m _ xs _ hv0).mono ?_
        rw [h1]
        rintro e w1 ⟨rfl, hb⟩
        (have X1 := X0.below hb (Nat.le_refl _); have Y1 := Y0.below hb (Nat.le_refl _); have hv1 := hv0.below hb (Nat.le_refl _); have hu1 := hu0.below hb (Nat.le_refl _); have B1 := B0.trans (hb.mono B0.size))
        obtain ⟨y0, y1⟩ := id Y1
        go_wp2_with fail
        refine (IsPlane_c n _ ys _ hu1).mono ?_
        rw [h2]
        rintro e w2 ⟨rfl, hb2⟩
        (have X2 := X1.below hb2 (Nat.le_refl _); have Y2 := Y1.below hb2 (Nat.le_refl _); have hv2 := hv1.below hb2 (Nat.le_refl _); have hu2 := hu1.below hb2 (Nat.le_refl _); have B2 := B1.trans (hb2.mono B1.size))
        clear y0 y1
        obtain ⟨y0, y1⟩ := id Y2
        obtain ⟨x0, x1⟩ := id X2
        go_wp2_with fail
        refine (alikeP_c m n _ _ xs ys _ hv2 hu2).mono ?_
        rw [h3]
        rintro e w3 ⟨rfl, hb3⟩
        (have X3 := X2.below hb3 (Nat.le_refl _); have B3 := B2.trans (hb3.mono B2.size))
        go_wp2
        go_ret
        exact ⟨by simp [twoP, h1, h2, h3], B3⟩

set_option maxHeartbeats 2000000 in
theorem l03Alike_c (m n : Int) (v u : Value) (xs ys : List (List Int)) (w : World) (hv : RdT w v xs) (hu : RdT w u ys) :
    Calls Try.prog 89 #[.agg #[.int .i64 m, v], .agg #[.int .i64 n, u]] w fun e w' => e = .returned (.int .i64 (twoP m xs n ys)) ∧ Below w.heap.size w w' := by
  obtain ⟨o, c, rfl, hm, -⟩ := id hv
  obtain ⟨o', c', rfl, hm', -⟩ := id hu
  unfold maxLen at hm hm'
  cases h1 : plaB m xs
  · have hR : twoP m xs n ys = 1 := by simp [twoP, h1]
    rw [hR]
    go_enter Try.func89, Try.ntmps89
    go_wp2_with fail
    (have X0 := ((RB2.mk1 w  (.int .i64 m) (.slice o xs.length c) 37).1).below (w' := ((w.alloc (.cells #[.int .i64 m, .slice o xs.length c] 37)).alloc (.cells #[.int .i64 n, .slice o' ys.length c'] 37))) (by (repeat (first | exact Below.refl _ _ | (refine Below.setCell ?_ (by first | (simp; done) | (simp; omega) | omega) _) | (refine Below.alloc ?_ (by first | (simp; done) | (simp; omega) | omega) _) | (refine below_drewN ?_ _) | (refine Below.drew ?_)))) (Nat.le_refl _); have Y0 := ((RB2.mk2 w (.cells #[.int .i64 m, .slice o xs.length c] 37) (.int .i64 n) (.slice o' ys.length c') 37).1).below (w' := ((w.alloc (.cells #[.int .i64 m, .slice o xs.length c] 37)).alloc (.cells #[.int .i64 n, .slice o' ys.length c'] 37))) (by (repeat (first | exact Below.refl _ _ | (refine Below.setCell ?_ (by first | (simp; done) | (simp; omega) | omega) _) | (refine Below.alloc ?_ (by first | (simp; done) | (simp; omega) | omega) _) | (refine below_drewN ?_ _) | (refine Below.drew ?_)))) (Nat.le_refl _); have B0 : Below w.heap.size w ((w.alloc (.cells #[.int .i64 m, .slice o xs.length c] 37)).alloc (.cells #[.int .i64 n, .slice o' ys.length c'] 37)) := (by (repeat (first | exact Below.refl _ _ | (refine Below.setCell ?_ (by first | (simp; done) | (simp; omega) | omega) _) | (refine Below.alloc ?_ (by first | (simp; done) | (simp; omega) | omega) _) | (refine below_drewN ?_ _) | (refine Below.drew ?_)))); have hv0 := hv.below (w' := ((w.alloc (.cells #[.int .i64 m, .slice o xs.length c] 37)).alloc (.cells #[.int .i64 n, .slice o' ys.length c'] 37))) (by (repeat (first | exact Below.refl _ _ | (refine Below.setCell ?_ (by first | (simp; done) | (simp; omega) | omega) _) | (refine Below.alloc ?_ (by first | (simp; done) | (simp; omega) | omega) _) | (refine below_drewN ?_ _) | (refine Below.drew ?_)))) (Nat.le_refl _); have hu0 := hu.below (w' := ((w.alloc (.cells #[.int .i64 m, .slice o xs.length c] 37)).alloc (.cells #[.int .i64 n, .slice o' ys.length c'] 37))) (by (repeat (first | exact Below.refl _ _ | (refine Below.setCell ?_ (by first | (simp; done) | (simp; omega) | omega) _) | (refine Below.alloc ?_ (by first | (simp; done) | (simp; omega) | omega) _) | (refine below_drewN ?_ _) | (refine Below.drew ?_)))) (Nat.le_refl _); generalize (w.alloc (.cells #[.int .i64 m, .slice o xs.length c] 37)).alloc (.cells #[.int .i64 n, .slice o' ys.length c'] 37) = w0 at X0 Y0 B0 hv0 hu0 ⊢)
    refine (l03Is_c m _ xs _ hv0).mono ?_
    rw [h1]
    rintro e w1 ⟨rfl, hb⟩
    (have X1 := X0.below hb (Nat.le_refl _); have B1 := B0.trans (hb.mono B0.size))
    go_wp2
    go_ret
    exact ⟨rfl, B1⟩
  · cases h2 : plaB n ys
    · have hR : twoP m xs n ys = 1 := by simp [twoP, h2]
      rw [hR]
      go_enter Try.func89, Try.ntmps89
      go_wp2_with fail
      (have X0 := ((RB2.mk1 w  (.int .i64 m) (.slice o xs.length c) 37).1).below (w' := ((w.alloc (.cells #[.int .i64 m, .slice o xs.length c] 37)).alloc (.cells #[.int .i64 n, .slice o' ys.length c'] 37))) (by (repeat (first | exact Below.refl _ _ | (refine Below.setCell ?_ (by first | (simp; done) | (simp; omega) | omega) _) | (refine Below.alloc ?_ (by first | (simp; done) | (simp; omega) | omega) _) | (refine below_drewN ?_ _) | (refine Below.drew ?_)))) (Nat.le_refl _); have Y0 := ((RB2.mk2 w (.cells #[.int .i64 m, .slice o xs.length c] 37) (.int .i64 n) (.slice o' ys.length c') 37).1).below (w' := ((w.alloc (.cells #[.int .i64 m, .slice o xs.length c] 37)).alloc (.cells #[.int .i64 n, .slice o' ys.length c'] 37))) (by (repeat (first | exact Below.refl _ _ | (refine Below.setCell ?_ (by first | (simp; done) | (simp; omega) | omega) _) | (refine Below.alloc ?_ (by first | (simp; done) | (simp; omega) | omega) _) | (refine below_drewN ?_ _) | (refine Below.drew ?_)))) (Nat.le_refl _); have B0 : Below w.heap.size w ((w.alloc (.cells #[.int .i64 m, .slice o xs.length c] 37)).alloc (.cells #[.int .i64 n, .slice o' ys.length c'] 37)) := (by (repeat (first | exact Below.refl _ _ | (refine Below.setCell ?_ (by first | (simp; done) | (simp; omega) | omega) _) | (refine Below.alloc ?_ (by first | (simp; done) | (simp; omega) | omega) _) | (refine below_drewN ?_ _) | (refine Below.drew ?_)))); have hv0 := hv.below (w' := ((w.alloc (.cells #[.int .i64 m, .slice o xs.length c] 37)).alloc (.cells #[.int .i64 n, .slice o' ys.length c'] 37))) (by (repeat (first | exact Below.refl _ _ | (refine Below.setCell ?_ (by first | (simp; done) | (simp; omega) | omega) _) | (refine Below.alloc ?_ (by first | (simp; done) | (simp; omega) | omega) _) | (refine below_drewN ?_ _) | (refine Below.drew ?_)))) (Nat.le_refl _); have hu0 := hu.below (w' := ((w.alloc (.cells #[.int .i64 m, .slice o xs.length c] 37)).alloc (.cells #[.int .i64 n, .slice o' ys.length c'] 37))) (by (repeat (first | exact Below.refl _ _ | (refine Below.setCell ?_ (by first | (simp; done) | (simp; omega) | omega) _) | (refine Below.alloc ?_ (by first | (simp; done) | (simp; omega) | omega) _) | (refine below_drewN ?_ _) | (refine Below.drew ?_)))) (Nat.le_refl _); generalize (w.alloc (.cells #[.int .i64 m, .slice o xs.length c] 37)).alloc (.cells #[.int .i64 n, .slice o' ys.length c'] 37) = w0 at X0 Y0 B0 hv0 hu0 ⊢)
      refine (l03Is_c m _ xs _ hv0).mono ?_
      rw [h1]
      rintro e w1 ⟨rfl, hb⟩
      (have X1 := X0.below hb (Nat.le_refl _); have Y1 := Y0.below hb (Nat.le_refl _); have hv1 := hv0.below hb (Nat.le_refl _); have hu1 := hu0.below hb (Nat.le_refl _); have B1 := B0.trans (hb.mono B0.size))
      obtain ⟨y0, y1⟩ := id Y1
      go_wp2_with fail
      refine (l03Is_c n _ ys _ hu1).mono ?_
      rw [h2]
      rintro e w2 ⟨rfl, hb2⟩
      (have X2 := X1.below hb2 (Nat.le_refl _); have B2 := B1.trans (hb2.mono B1.size))
      go_wp2
      go_ret
      exact ⟨rfl, B2⟩
    · cases h4 : (m != n) <;> cases h5 : ((xs.length : Int) != (ys.length : Int))
      all_goals
        have e4 : (m == n) = !(m != n) := by rw [bne, Bool.not_not]
        have e5 : ((xs.length : Int) == (ys.length : Int)) = !((xs.length : Int) != (ys.length : Int)) := by rw [bne, Bool.not_not]
        rw [h4] at e4
        rw [h5] at e5
        have HC := Lib.hid (show twoP m xs n ys = _ by simp only [twoP, alikeP, h1, h2, e4, e5]; rfl)
        clear e4 e5
        go_enter Try.func89, Try.ntmps89
        go_wp2_with fail
        (have X0 := ((RB2.mk1 w  (.int .i64 m) (.slice o xs.length c) 37).1).below (w' := ((w.alloc (.cells #[.int .i64 m, .slice o xs.length c] 37)).alloc (.cells #[.int .i64 n, .slice o' ys.length c'] 37))) (by (repeat (first | exact Below.refl _ _ | (refine Below.setCell ?_ (by first | (simp; done) | (simp; omega) | omega) _) | (refine Below.alloc ?_ (by first | (simp; done) | (simp; omega) | omega) _) | (refine below_drewN ?_ _) | (refine Below.drew ?_)))) (Nat.le_refl _); have Y0 := ((RB2.mk2 w (.cells #[.int .i64 m, .slice o xs.length c] 37) (.int .i64 n) (.slice o' ys.length c') 37).1).below (w' := ((w.alloc (.cells #[.int .i64 m, .slice o xs.length c] 37)).alloc (.cells #[.int .i64 n, .slice o' ys.length c'] 37))) (by (repeat (first | exact Below.refl _ _ | (refine Below.setCell ?_ (by first | (simp; done) | (simp; omega) | omega) _) | (refine Below.alloc ?_ (by first | (simp; done) | (simp; omega) | omega) _) | (refine below_drewN ?_ _) | (refine Below.drew ?_)))) (Nat.le_refl _); have B0 : Below w.heap.size w ((w.alloc (.cells #[.int .i64 m, .slice o xs.length c] 37)).alloc (.cells #[.int .i64 n, .slice o' ys.length c'] 37)) := (by (repeat (first | exact Below.refl _ _ | (refine Below.setCell ?_ (by first | (simp; done) | (simp; omega) | omega) _) | (refine Below.alloc ?_ (by first | (simp; done) | (simp; omega) | omega) _) | (refine below_drewN ?_ _) | (refine Below.drew ?_)))); have hv0 := hv.below (w' := ((w.alloc (.cells #[.int .i64 m, .slice o xs.length c] 37)).alloc (.cells #[.int .i64 n, .slice o' ys.length c'] 37))) (by (repeat (first | exact Below.refl _ _ | (refine Below.setCell ?_ (by first | (simp; done) | (simp; omega) | omega) _) | (refine Below.alloc ?_ (by first | (simp; done) | (simp; omega) | omega) _) | (refine below_drewN ?_ _) | (refine Below.drew ?_)))) (Nat.le_refl _); have hu0 := hu.below (w' := ((w.alloc (.cells #[.int .i64 m, .slice o xs.length c] 37)).alloc (.cells #[.int .i64 n, .slice o' ys.length c'] 37))) (by (repeat (first | exact Below.refl _ _ | (refine Below.setCell ?_ (by first | (simp; done) | (simp; omega) | omega) _) | (refine Below.alloc ?_ (by first | (simp; done) | (simp; omega) | omega) _) | (refine below_drewN ?_ _) | (refine Below.drew ?_)))) (Nat.le_refl _); generalize (w.alloc (.cells #[.int .i64 m, .slice o xs.length c] 37)).alloc (.cells #[.int .i64 n, .slice o' ys.length c'] 37) = w0 at X0 Y0 B0 hv0 hu0 ⊢)
        refine (l03Is_c m _ xs _ hv0).mono ?_
        rw [h1]
        rintro e w1 ⟨rfl, hb⟩
        (have X1 := X0.below hb (Nat.le_refl _); have Y1 := Y0.below hb (Nat.le_refl _); have hv1 := hv0.below hb (Nat.le_refl _); have hu1 := hu0.below hb (Nat.le_refl _); have B1 := B0.trans (hb.mono B0.size))
        obtain ⟨y0, y1⟩ := id Y1
        go_wp2_with fail
        refine (l03Is_c n _ ys _ hu1).mono ?_
        rw [h2]
        rintro e w2 ⟨rfl, hb2⟩
        (have X2 := X1.below hb2 (Nat.le_refl _); have Y2 := Y1.below hb2 (Nat.le_refl _); have hv2 := hv1.below hb2 (Nat.le_refl _); have hu2 := hu1.below hb2 (Nat.le_refl _); have B2 := B1.trans (hb2.mono B1.size))
        clear y0 y1
        obtain ⟨y0, y1⟩ := id Y2
        obtain ⟨x0, x1⟩ := id X2
        go_wp2
        go_ret
        exact ⟨by rw [HC.out]; rfl, B2⟩

end Go.Proofs.Ytjfobjmpjboniaa
