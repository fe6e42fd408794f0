/- Lemmas of WittE. -/
import Derived.Test.YtcjinlfgeljmkaaWSInt
set_option linter.unusedSimpArgs false
set_option linter.unusedVariables false
namespace Go.Proofs.Ytcjinlfgeljmkaa
open Go.RowKit

def alikeB (p m : Int) (xs : List Int) (q n : Int) (ys : List Int) : Bool := (p == q) && (m == n) && ((xs.length : Int) == (ys.length : Int))
def twoC (p m : Int) (xs : List Int) (q n : Int) (ys : List Int) : Int := if wittB p m xs && wittB q n ys then (if alikeB p m xs q n ys then 0 else 2) else 1

set_option maxHeartbeats 1000000 in
set_option maxRecDepth 100000 in
theorem alikeW_c (p m q n : Int) (v u : Value) (xs ys : List Int) (w : World) (hv : RdI w v xs) (hu : RdI w u ys) :
    Calls Try.prog 227 #[.agg #[.int .i64 p, .int .i64 m, v], .agg #[.int .i64 q, .int .i64 n, u]] w fun e w' => e = .returned (.bool (alikeB p m xs q n ys)) ∧ Below w.heap.size w w' := by
  obtain ⟨o, c, rfl, hm, -⟩ := hv
  obtain ⟨o', c', rfl, hm', -⟩ := hu
  unfold maxLen at hm hm'
  cases h1 : (p == q) <;> cases h2 : (m == n) <;> cases h3 : ((xs.length : Int) == (ys.length : Int))
  all_goals
    go_enter Try.func227, Try.ntmps227
    go_wp2
    go_ret
    exact ⟨by simp only [alikeB, h1, h2, h3]; rfl, (by (repeat (first | exact Below.refl _ _ | (refine Below.setCell ?_ (by first | (simp; done) | (simp; omega) | omega) _) | (refine Below.alloc ?_ (by first | (simp; done) | (simp; omega) | omega) _) | (refine below_drewN ?_ _) | (refine Below.drew ?_))))⟩

set_option maxHeartbeats 1000000 in
set_option maxRecDepth 100000 in
theorem twoWitt_c (p m q n : Int) (v u : Value) (xs ys : List Int) (w : World) (hv : RdI w v xs) (hu : RdI w u ys) :
    Calls Try.prog 169 #[.agg #[.int .i64 p, .int .i64 m, v], .agg #[.int .i64 q, .int .i64 n, u]] w fun e w' => e = .returned (.int .i64 (twoC p m xs q n ys)) ∧ Below w.heap.size w w' := by
  obtain ⟨o, c, rfl, -, -⟩ := id hv
  obtain ⟨o', c', rfl, -, -⟩ := id hu
  cases h1 : wittB p m xs
  · have hR : twoC p m xs q n ys = 1 := by simp [twoC, h1]
    rw [hR]
    go_enter Try.func169, Try.ntmps169
    go_wp2_with fail
    (have X0 := ((RB3.mk1 w  (.int .i64 p) (.int .i64 m) (.slice o xs.length c) 59).1).below (w' := ((w.alloc (.cells #[.int .i64 p, .int .i64 m, .slice o xs.length c] 59)).alloc (.cells #[.int .i64 q, .int .i64 n, .slice o' ys.length c'] 59))) (by (repeat (first | exact Below.refl _ _ | (refine Below.setCell ?_ (by first | (simp; done) | (simp; omega) | omega) _) | (refine Below.alloc ?_ (by first | (simp; done) | (simp; omega) | omega) _) | (refine below_drewN ?_ _) | (refine Below.drew ?_)))) (Nat.le_refl _); have Y0 := ((RB3.mk2 w (.cells #[.int .i64 p, .int .i64 m, .slice o xs.length c] 59) (.int .i64 q) (.int .i64 n) (.slice o' ys.length c') 59).1).below (w' := ((w.alloc (.cells #[.int .i64 p, .int .i64 m, .slice o xs.length c] 59)).alloc (.cells #[.int .i64 q, .int .i64 n, .slice o' ys.length c'] 59))) (by (repeat (first | exact Below.refl _ _ | (refine Below.setCell ?_ (by first | (simp; done) | (simp; omega) | omega) _) | (refine Below.alloc ?_ (by first | (simp; done) | (simp; omega) | omega) _) | (refine below_drewN ?_ _) | (refine Below.drew ?_)))) (Nat.le_refl _); have B0 : Below w.heap.size w ((w.alloc (.cells #[.int .i64 p, .int .i64 m, .slice o xs.length c] 59)).alloc (.cells #[.int .i64 q, .int .i64 n, .slice o' ys.length c'] 59)) := (by (repeat (first | exact Below.refl _ _ | (refine Below.setCell ?_ (by first | (simp; done) | (simp; omega) | omega) _) | (refine Below.alloc ?_ (by first | (simp; done) | (simp; omega) | omega) _) | (refine below_drewN ?_ _) | (refine Below.drew ?_)))); have hv0 := hv.below (w' := ((w.alloc (.cells #[.int .i64 p, .int .i64 m, .slice o xs.length c] 59)).alloc (.cells #[.int .i64 q, .int .i64 n, .slice o' ys.length c'] 59))) (by (repeat (first | exact Below.refl _ _ | (refine Below.setCell ?_ (by first | (simp; done) | (simp; omega) | omega) _) | (refine Below.alloc ?_ (by first | (simp; done) | (simp; omega) | omega) _) | (refine below_drewN ?_ _) | (refine Below.drew ?_)))) (Nat.le_refl _); have hu0 := hu.below (w' := ((w.alloc (.cells #[.int .i64 p, .int .i64 m, .slice o xs.length c] 59)).alloc (.cells #[.int .i64 q, .int .i64 n, .slice o' ys.length c'] 59))) (by (repeat (first | exact Below.refl _ _ | (refine Below.setCell ?_ (by first | (simp; done) | (simp; omega) | omega) _) | (refine Below.alloc ?_ (by first | (simp; done) | (simp; omega) | omega) _) | (refine below_drewN ?_ _) | (refine Below.drew ?_)))) (Nat.le_refl _); generalize (w.alloc (.cells #[.int .i64 p, .int .i64 m, .slice o xs.length c] 59)).alloc (.cells #[.int .i64 q, .int .i64 n, .slice o' ys.length c'] 59) = w0 at X0 Y0 B0 hv0 hu0 ⊢)
    refine (IsWitt_c p m _ xs _ hv0).mono ?_
    rw [h1]
    rintro e w1 ⟨rfl, hb⟩
    (have X1 := X0.below hb (Nat.le_refl _); have B1 := B0.trans (hb.mono B0.size))
    go_wp2
    go_ret
    exact ⟨rfl, B1⟩
  · cases h2 : wittB q n ys
    · have hR : twoC p m xs q n ys = 1 := by simp [twoC, h2]
      rw [hR]
      go_enter Try.func169, Try.ntmps169
      go_wp2_with fail
      (have X0 := ((RB3.mk1 w  (.int .i64 p) (.int .i64 m) (.slice o xs.length c) 59).1).below (w' := ((w.alloc (.cells #[.int .i64 p, .int .i64 m, .slice o xs.length c] 59)).alloc (.cells #[.int .i64 q, .int .i64 n, .slice o' ys.length c'] 59))) (by (repeat (first | exact Below.refl _ _ | (refine Below.setCell ?_ (by first | (simp; done) | (simp; omega) | omega) _) | (refine Below.alloc ?_ (by first | (simp; done) | (simp; omega) | omega) _) | (refine below_drewN ?_ _) | (refine Below.drew ?_)))) (Nat.le_refl _); have Y0 := ((RB3.mk2 w (.cells #[.int .i64 p, .int .i64 m, .slice o xs.length c] 59) (.int .i64 q) (.int .i64 n) (.slice o' ys.length c') 59).1).below (w' := ((w.alloc (.cells #[.int .i64 p, .int .i64 m, .slice o xs.length c] 59)).alloc (.cells #[.int .i64 q, .int .i64 n, .slice o' ys.length c'] 59))) (by (repeat (first | exact Below.refl _ _ | (refine Below.setCell ?_ (by first | (simp; done) | (simp; omega) | omega) _) | (refine Below.alloc ?_ (by first | (simp; done) | (simp; omega) | omega) _) | (refine below_drewN ?_ _) | (refine Below.drew ?_)))) (Nat.le_refl _); have B0 : Below w.heap.size w ((w.alloc (.cells #[.int .i64 p, .int .i64 m, .slice o xs.length c] 59)).alloc (.cells #[.int .i64 q, .int .i64 n, .slice o' ys.length c'] 59)) := (by (repeat (first | exact Below.refl _ _ | (refine Below.setCell ?_ (by first | (simp; done) | (simp; omega) | omega) _) | (refine Below.alloc ?_ (by first | (simp; done) | (simp; omega) | omega) _) | (refine below_drewN ?_ _) | (refine Below.drew ?_)))); have hv0 := hv.below (w' := ((w.alloc (.cells #[.int .i64 p, .int .i64 m, .slice o xs.length c] 59)).alloc (.cells #[.int .i64 q, .int .i64 n, .slice o' ys.length c'] 59))) (by (repeat (first | exact Below.refl _ _ | (refine Below.setCell ?_ (by first | (simp; done) | (simp; omega) | omega) _) | (refine Below.alloc ?_ (by first | (simp; done) | (simp; omega) | omega) _) | (refine below_drewN ?_ _) | (refine Below.drew ?_)))) (Nat.le_refl _); have hu0 := hu.below (w' := ((w.alloc (.cells #[.int .i64 p, .int .i64 m, .slice o xs.length c] 59)).alloc (.cells #[.int .i64 q, .int .i64 n, .slice o' ys.length c'] 59))) (by (repeat (first | exact Below.refl _ _ | (refine Below.setCell ?_ (by first | (simp; done) | (simp; omega) | omega) _) | (refine Below.alloc ?_ (by first | (simp; done) | (simp; omega) | omega) _) | (refine below_drewN ?_ _) | (refine Below.drew ?_)))) (Nat.le_refl _); generalize (w.alloc (.cells #[.int .i64 p, .int .i64 m, .slice o xs.length c] 59)).alloc (.cells #[.int .i64 q, .int .i64 n, .slice o' ys.length c'] 59) = w0 at X0 Y0 B0 hv0 hu0 ⊢)
      refine (IsWitt_c p m _ xs _ hv0).mono ?_
      rw [h1]
      rintro e w1 ⟨rfl, hb⟩
      (have X1 := X0.below hb (Nat.le_refl _); have Y1 := Y0.below hb (Nat.le_refl _); have hv1 := hv0.below hb (Nat.le_refl _); have hu1 := hu0.below hb (Nat.le_refl _); have B1 := B0.trans (hb.mono B0.size))
      obtain ⟨y0, y1, y2⟩ := id Y1
      go_wp2_with fail
      refine (IsWitt_c q n _ ys _ hu1).mono ?_
      rw [h2]
      rintro e w2 ⟨rfl, hb2⟩
      (have X2 := X1.below hb2 (Nat.le_refl _); have B2 := B1.trans (hb2.mono B1.size))
      go_wp2
      go_ret
      exact ⟨rfl, B2⟩
    · cases h3 : alikeB p m xs q n ys
      all_goals
        go_enter Try.func169, Try.ntmps169
        go_wp2_with fail
        (have X0 := ((RB3.mk1 w  (.int .i64 p) (.int .i64 m) (.slice o xs.length c) 59).1).below (w' := ((w.alloc (.cells #[.int .i64 p, .int .i64 m, .slice o xs.length c] 59)).alloc (.cells #[.int .i64 q, .int .i64 n, .slice o' ys.length c'] 59))) (by (repeat (first | exact Below.refl _ _ | (refine Below.setCell ?_ (by first | (simp; done) | (simp; omega) | omega) _) | (refine Below.alloc ?_ (by first | (simp; done) | (simp; omega) | omega) _) | (refine below_drewN ?_ _) | (refine Below.drew ?_)))) (Nat.le_refl _); have Y0 := ((RB3.mk2 w (.cells #[.int .i64 p, .int .i64 m, .slice o xs.length c] 59) (.int .i64 q) (.int .i64 n) (.slice o' ys.length c') 59).1).below (w' := ((w.alloc (.cells #[.int .i64 p, .int .i64 m, .slice o xs.length c] 59)).alloc (.cells #[.int .i64 q, .int .i64 n, .slice o' ys.length c'] 59))) (by (repeat (first | exact Below.refl _ _ | (refine Below.setCell ?_ (by first | (simp; done) | (simp; omega) | omega) _) | (refine Below.alloc ?_ (by first | (simp; done) | (simp; omega) | omega) _) | (refine below_drewN ?_ _) | (refine Below.drew ?_)))) (Nat.le_refl _); have B0 : Below w.heap.size w ((w.alloc (.cells #[.int .i64 p, .int .i64 m, .slice o xs.length c] 59)).alloc (.cells #[.int .i64 q, .int .i64 n, .slice o' ys.length c'] 59)) := (by (repeat (first | exact Below.refl _ _ | (refine Below.setCell ?_ (by first | (simp; done) | (simp; omega) | omega) _) | (refine Below.alloc ?_ (by first | (simp; done) | (simp; omega) | omega) _) | (refine below_drewN ?_ _) | (refine Below.drew ?_)))); have hv0 := hv.below (w' := ((w.alloc (.cells #[.int .i64 p, .int .i64 m, .slice o xs.length c] 59)).alloc (.cells #[.int .i64 q, .int .i64 n, .slice o' ys.length c'] 59))) (by (repeat (first | exact Below.refl _ _ | (refine Below.setCell ?_ (by first | (simp; done) | (simp; omega) | omega) _) | (refine Below.alloc ?_ (by first | (simp; done) | (simp; omega) | omega) _) | (refine below_drewN ?_ _) | (refine Below.drew ?_)))) (Nat.le_refl _); have hu0 := hu.below (w' := ((w.alloc (.cells #[.int .i64 p, .int .i64 m, .slice o xs.length c] 59)).alloc (.cells #[.int .i64 q, .int .i64 n, .slice o' ys.length c'] 59))) (by (repeat (first | exact Below.refl _ _ | (refine Below.setCell ?_ (by first | (simp; done) | (simp; omega) | omega) _) | (refine Below.alloc ?_ (by first | (simp; done) | (simp; omega) | omega) _) | (refine below_drewN ?_ _) | (refine Below.drew ?_)))) (Nat.le_refl _); generalize (w.alloc (.cells #[.int .i64 p, .int .i64 m, .slice o xs.length c] 59)).alloc (.cells #[.int .i64 q, .int .i64 n, .slice o' ys.length c'] 59) = w0 at X0 Y0 B0 hv0 hu0 ⊢)
        refine (IsWitt_c p m _ xs _ hv0).mono ?_
        rw [h1]
        rintro e w1 ⟨rfl, hb⟩
        (have X1 := X0.below hb (Nat.le_refl _); have Y1 := Y0.below hb (Nat.le_refl _); have hv1 := hv0.below hb (Nat.le_refl _); have hu1 := hu0.below hb (Nat.le_refl _); have B1 := B0.trans (hb.mono B0.size))
        obtain ⟨y0, y1, y2⟩ := id Y1
        go_wp2_with fail
        refine (IsWitt_c q n _ ys _ hu1).mono ?_
        rw [h2]
        rintro e w2 ⟨rfl, hb2⟩
        (have X2 := X1.below hb2 (Nat.le_refl _); have Y2 := Y1.below hb2 (Nat.le_refl _); have hv2 := hv1.below hb2 (Nat.le_refl _); have hu2 := hu1.below hb2 (Nat.le_refl _); have B2 := B1.trans (hb2.mono B1.size))
        clear y0 y1 y2
        obtain ⟨y0, y1, y2⟩ := id Y2
        obtain ⟨x0, x1, x2⟩ := id X2
        go_wp2_with fail
        refine (alikeW_c p m q n _ _ xs ys _ hv2 hu2).mono ?_
        rw [h3]
        rintro e w3 ⟨rfl, hb3⟩
        (have X3 := X2.below hb3 (Nat.le_refl _); have B3 := B2.trans (hb3.mono B2.size))
        go_wp2
        go_ret
        exact ⟨by simp [twoC, h1, h2, h3], B3⟩

end Go.Proofs.Ytcjinlfgeljmkaa
