/- Lemmas of Op. -/
import Derived.Test.YtcjinlfgeljmkaaWRDo
set_option linter.unusedSimpArgs false
set_option linter.unusedVariables false
namespace Go.Proofs.Ytcjinlfgeljmkaa
open Go.RowKit

def opR (t : Bool) (p m : Int) (xs : List Int) (q n : Int) (ys : List Int) : WR :=
  if twoC p m xs q n ys = 0 then ⟨p, m, opL p.toNat m xs ys t, 0⟩ else WR.bad (twoC p m xs q n ys)

theorem twoC_0 {p m : Int} {xs : List Int} {q n : Int} {ys : List Int} (h : twoC p m xs q n ys = 0) :
    wittB p m xs = true ∧ wittB q n ys = true ∧ q = p ∧ n = m ∧ ys.length = xs.length := by
  unfold twoC at h
  split at h
  · rename_i h1
    split at h
    · rename_i h2
      simp only [Bool.and_eq_true, alikeB, beq_iff_eq] at h1 h2
      obtain ⟨h1, h1'⟩ := h1
      refine ⟨h1, h1', ?_, ?_, ?_⟩ <;> omega
    · simp at h
  · simp at h

theorem witt_P4 {p m : Int} {xs : List Int} (h : wittB p m xs = true) : P4 p.toNat ∧ (p.toNat : Int) = p := by
  rcases witt_p h with rfl | rfl | rfl | rfl <;> simp [P4]

set_option maxHeartbeats 1000000 in
set_option maxRecDepth 100000 in
theorem sAddWitt_c (p m : Int) (v : Value) (xs : List Int) (q n : Int) (u : Value) (ys : List Int) (w : World) (hv : RdI w v xs) (hu : RdI w u ys) :
    Calls Try.prog 66 #[.agg #[.int .i64 p, .int .i64 m, v], .agg #[.int .i64 q, .int .i64 n, u]] w fun e w' => WEnd w w' (opR false p m xs q n ys) e := by
  obtain ⟨o, c, rfl, hmx, -⟩ := id hv
  obtain ⟨o', c', rfl, hmy, -⟩ := id hu
  by_cases hc : twoC p m xs q n ys = 0
  · obtain ⟨h1, h2, rfl, rfl, hl⟩ := twoC_0 hc
    have hR : opR false q n xs q n ys = ⟨q, n, opL q.toNat n xs ys false, 0⟩ := by simp [opR, hc]
    rw [hR]
    obtain ⟨hp, hpe⟩ := witt_P4 h1
    have hn := witt_len h1
    have hm := witt_m h1
    have hx := witt_x h1
    have hy := witt_x h2
    have HL := Lib.hid hl
    have Hop : Hid ((opL q.toNat n xs ys false).length = xs.length) := Lib.hid (opL_len _ _ _ _ _)
    generalize q.toNat = k at hp hpe Hop ⊢
    subst hpe
    clear hl
    go_enter Try.func66, Try.ntmps66
    go_wp2_with fail
    (have X0 := ((RB3.mk1 w  (.int .i64 k) (.int .i64 n) (.slice o xs.length c) 59).1).below (w' := (((w.alloc (.cells #[.int .i64 k, .int .i64 n, .slice o xs.length c] 59)).alloc (.cells #[.int .i64 k, .int .i64 n, .slice o' ys.length c'] 59)).alloc (.cells #[.int .i64 0, .int .i64 0, .slice none 0 0] 59))) (by (repeat (first | exact Below.refl _ _ | (refine Below.setCell ?_ (by first | (simp; done) | (simp; omega) | omega) _) | (refine Below.alloc ?_ (by first | (simp; done) | (simp; omega) | omega) _) | (refine below_drewN ?_ _) | (refine Below.drew ?_)))) (Nat.le_refl _); have Y0 := ((RB3.mk2 w (.cells #[.int .i64 k, .int .i64 n, .slice o xs.length c] 59) (.int .i64 k) (.int .i64 n) (.slice o' ys.length c') 59).1).below (w' := (((w.alloc (.cells #[.int .i64 k, .int .i64 n, .slice o xs.length c] 59)).alloc (.cells #[.int .i64 k, .int .i64 n, .slice o' ys.length c'] 59)).alloc (.cells #[.int .i64 0, .int .i64 0, .slice none 0 0] 59))) (by (repeat (first | exact Below.refl _ _ | (refine Below.setCell ?_ (by first | (simp; done) | (simp; omega) | omega) _) | (refine Below.alloc ?_ (by first | (simp; done) | (simp; omega) | omega) _) | (refine below_drewN ?_ _) | (refine Below.drew ?_)))) (Nat.le_refl _); have R0 := ((RB3.mk3 w (.cells #[.int .i64 k, .int .i64 n, .slice o xs.length c] 59) (.cells #[.int .i64 k, .int .i64 n, .slice o' ys.length c'] 59) (.int .i64 0) (.int .i64 0) (.slice none 0 0) 59)).below (w' := (((w.alloc (.cells #[.int .i64 k, .int .i64 n, .slice o xs.length c] 59)).alloc (.cells #[.int .i64 k, .int .i64 n, .slice o' ys.length c'] 59)).alloc (.cells #[.int .i64 0, .int .i64 0, .slice none 0 0] 59))) (by (repeat (first | exact Below.refl _ _ | (refine Below.setCell ?_ (by first | (simp; done) | (simp; omega) | omega) _) | (refine Below.alloc ?_ (by first | (simp; done) | (simp; omega) | omega) _) | (refine below_drewN ?_ _) | (refine Below.drew ?_)))) (Nat.le_refl _); have B0 : Below w.heap.size w (((w.alloc (.cells #[.int .i64 k, .int .i64 n, .slice o xs.length c] 59)).alloc (.cells #[.int .i64 k, .int .i64 n, .slice o' ys.length c'] 59)).alloc (.cells #[.int .i64 0, .int .i64 0, .slice none 0 0] 59)) := (by (repeat (first | exact Below.refl _ _ | (refine Below.setCell ?_ (by first | (simp; done) | (simp; omega) | omega) _) | (refine Below.alloc ?_ (by first | (simp; done) | (simp; omega) | omega) _) | (refine below_drewN ?_ _) | (refine Below.drew ?_)))); have hv0 := hv.below (w' := (((w.alloc (.cells #[.int .i64 k, .int .i64 n, .slice o xs.length c] 59)).alloc (.cells #[.int .i64 k, .int .i64 n, .slice o' ys.length c'] 59)).alloc (.cells #[.int .i64 0, .int .i64 0, .slice none 0 0] 59))) (by (repeat (first | exact Below.refl _ _ | (refine Below.setCell ?_ (by first | (simp; done) | (simp; omega) | omega) _) | (refine Below.alloc ?_ (by first | (simp; done) | (simp; omega) | omega) _) | (refine below_drewN ?_ _) | (refine Below.drew ?_)))) (Nat.le_refl _); have hu0 := hu.below (w' := (((w.alloc (.cells #[.int .i64 k, .int .i64 n, .slice o xs.length c] 59)).alloc (.cells #[.int .i64 k, .int .i64 n, .slice o' ys.length c'] 59)).alloc (.cells #[.int .i64 0, .int .i64 0, .slice none 0 0] 59))) (by (repeat (first | exact Below.refl _ _ | (refine Below.setCell ?_ (by first | (simp; done) | (simp; omega) | omega) _) | (refine Below.alloc ?_ (by first | (simp; done) | (simp; omega) | omega) _) | (refine below_drewN ?_ _) | (refine Below.drew ?_)))) (Nat.le_refl _); generalize ((w.alloc (.cells #[.int .i64 k, .int .i64 n, .slice o xs.length c] 59)).alloc (.cells #[.int .i64 k, .int .i64 n, .slice o' ys.length c'] 59)).alloc (.cells #[.int .i64 0, .int .i64 0, .slice none 0 0] 59) = w0 at X0 Y0 R0 B0 hv0 hu0 ⊢)
    obtain ⟨k0, k1, k2⟩ := id X0
    obtain ⟨y0, y1, y2⟩ := id Y0
    go_wp2_with fail
    refine (l13Alike_c k n k n _ _ xs ys _ hv0 hu0).mono ?_
    rw [hc]
    rintro e w1 ⟨rfl, hb⟩
    (have X1 := X0.below hb (Nat.le_refl _); have Y1 := Y0.below hb (Nat.le_refl _); have R1 := R0.below hb (Nat.le_refl _); have hv1 := hv0.below hb (Nat.le_refl _); have hu1 := hu0.below hb (Nat.le_refl _); have B1 := B0.trans (hb.mono B0.size))
    clear k0 k1 k2 y0 y1 y2
    obtain ⟨k0, k1, k2⟩ := id X1
    obtain ⟨y0, y1, y2⟩ := id Y1
    go_wp2_with fail
    refine (l13Do_c k n _ _ xs ys false _ hp hv1 hu1 (by omega) (by omega) HL.out (by omega) (by omega) (fun x h => by have := hx x h; omega) (fun x h => by have := hy x h; omega) k n).mono ?_
    rintro e w2 ⟨v2, rfl, how, hb2⟩
    obtain ⟨o2, c2, rfl⟩ := how.shapeN (n := xs.length) Hop.out
    have hz := R1.1.lt
    have hB1 := B1.size
    (have R2 := R1.below hb2 (Nat.le_refl _); have B2 := B1.trans (hb2.mono B1.size))
    obtain ⟨⟨r0, r1, r2⟩, rf⟩ := id R2
    go_wp2
    refine bodyPost_ret (v := .tuple #[.agg #[.int .i64 k, .int .i64 n, .slice o2 xs.length c2], .int .i64 0]) (by simp [results, Try.results66, go_sem, r0, r1, r2]) rfl ⟨_, rfl, ?_, ?_, by show (opL k n xs ys false).length ≤ 1048576; rw [Hop.out]; omega⟩
    · exact ((((how.low hz _).low hz _).low hz _)).mono hB1
    · (repeat (first | exact Below.refl _ _ | (refine Below.setCell ?_ (by first | (simp; done) | (simp; omega) | omega) _) | (refine Below.alloc ?_ (by first | (simp; done) | (simp; omega) | omega) _) | (refine below_drewN ?_ _) | (refine Below.drew ?_) | (refine Below.trans ?_ (Below.mono B2 (by first | (simp; done) | (simp; omega) | omega)))))
  · have hR : opR false p m xs q n ys = WR.bad (twoC p m xs q n ys) := by simp [opR, hc]
    rw [hR]
    obtain ⟨cc, hcc0⟩ : ∃ cc, twoC p m xs q n ys = cc := ⟨_, rfl⟩
    rw [hcc0] at hc ⊢
    have HC := Lib.hid hcc0
    clear hcc0 hR
    have hcc : (cc == 0) = false := by simp; exact hc
    go_enter Try.func66, Try.ntmps66
    go_wp2_with fail
    (have X0 := ((RB3.mk1 w  (.int .i64 p) (.int .i64 m) (.slice o xs.length c) 59).1).below (w' := (((w.alloc (.cells #[.int .i64 p, .int .i64 m, .slice o xs.length c] 59)).alloc (.cells #[.int .i64 q, .int .i64 n, .slice o' ys.length c'] 59)).alloc (.cells #[.int .i64 0, .int .i64 0, .slice none 0 0] 59))) (by (repeat (first | exact Below.refl _ _ | (refine Below.setCell ?_ (by first | (simp; done) | (simp; omega) | omega) _) | (refine Below.alloc ?_ (by first | (simp; done) | (simp; omega) | omega) _) | (refine below_drewN ?_ _) | (refine Below.drew ?_)))) (Nat.le_refl _); have Y0 := ((RB3.mk2 w (.cells #[.int .i64 p, .int .i64 m, .slice o xs.length c] 59) (.int .i64 q) (.int .i64 n) (.slice o' ys.length c') 59).1).below (w' := (((w.alloc (.cells #[.int .i64 p, .int .i64 m, .slice o xs.length c] 59)).alloc (.cells #[.int .i64 q, .int .i64 n, .slice o' ys.length c'] 59)).alloc (.cells #[.int .i64 0, .int .i64 0, .slice none 0 0] 59))) (by (repeat (first | exact Below.refl _ _ | (refine Below.setCell ?_ (by first | (simp; done) | (simp; omega) | omega) _) | (refine Below.alloc ?_ (by first | (simp; done) | (simp; omega) | omega) _) | (refine below_drewN ?_ _) | (refine Below.drew ?_)))) (Nat.le_refl _); have R0 := ((RB3.mk3 w (.cells #[.int .i64 p, .int .i64 m, .slice o xs.length c] 59) (.cells #[.int .i64 q, .int .i64 n, .slice o' ys.length c'] 59) (.int .i64 0) (.int .i64 0) (.slice none 0 0) 59)).below (w' := (((w.alloc (.cells #[.int .i64 p, .int .i64 m, .slice o xs.length c] 59)).alloc (.cells #[.int .i64 q, .int .i64 n, .slice o' ys.length c'] 59)).alloc (.cells #[.int .i64 0, .int .i64 0, .slice none 0 0] 59))) (by (repeat (first | exact Below.refl _ _ | (refine Below.setCell ?_ (by first | (simp; done) | (simp; omega) | omega) _) | (refine Below.alloc ?_ (by first | (simp; done) | (simp; omega) | omega) _) | (refine below_drewN ?_ _) | (refine Below.drew ?_)))) (Nat.le_refl _); have B0 : Below w.heap.size w (((w.alloc (.cells #[.int .i64 p, .int .i64 m, .slice o xs.length c] 59)).alloc (.cells #[.int .i64 q, .int .i64 n, .slice o' ys.length c'] 59)).alloc (.cells #[.int .i64 0, .int .i64 0, .slice none 0 0] 59)) := (by (repeat (first | exact Below.refl _ _ | (refine Below.setCell ?_ (by first | (simp; done) | (simp; omega) | omega) _) | (refine Below.alloc ?_ (by first | (simp; done) | (simp; omega) | omega) _) | (refine below_drewN ?_ _) | (refine Below.drew ?_)))); have hv0 := hv.below (w' := (((w.alloc (.cells #[.int .i64 p, .int .i64 m, .slice o xs.length c] 59)).alloc (.cells #[.int .i64 q, .int .i64 n, .slice o' ys.length c'] 59)).alloc (.cells #[.int .i64 0, .int .i64 0, .slice none 0 0] 59))) (by (repeat (first | exact Below.refl _ _ | (refine Below.setCell ?_ (by first | (simp; done) | (simp; omega) | omega) _) | (refine Below.alloc ?_ (by first | (simp; done) | (simp; omega) | omega) _) | (refine below_drewN ?_ _) | (refine Below.drew ?_)))) (Nat.le_refl _); have hu0 := hu.below (w' := (((w.alloc (.cells #[.int .i64 p, .int .i64 m, .slice o xs.length c] 59)).alloc (.cells #[.int .i64 q, .int .i64 n, .slice o' ys.length c'] 59)).alloc (.cells #[.int .i64 0, .int .i64 0, .slice none 0 0] 59))) (by (repeat (first | exact Below.refl _ _ | (refine Below.setCell ?_ (by first | (simp; done) | (simp; omega) | omega) _) | (refine Below.alloc ?_ (by first | (simp; done) | (simp; omega) | omega) _) | (refine below_drewN ?_ _) | (refine Below.drew ?_)))) (Nat.le_refl _); generalize ((w.alloc (.cells #[.int .i64 p, .int .i64 m, .slice o xs.length c] 59)).alloc (.cells #[.int .i64 q, .int .i64 n, .slice o' ys.length c'] 59)).alloc (.cells #[.int .i64 0, .int .i64 0, .slice none 0 0] 59) = w0 at X0 Y0 R0 B0 hv0 hu0 ⊢)
    obtain ⟨k0, k1, k2⟩ := id X0
    obtain ⟨y0, y1, y2⟩ := id Y0
    go_wp2_with fail
    refine (l13Alike_c p m q n _ _ xs ys _ hv0 hu0).mono ?_
    rw [HC.out]
    rintro e w1 ⟨rfl, hb⟩
    (have R1 := R0.below hb (Nat.le_refl _); have B1 := B0.trans (hb.mono B0.size))
    obtain ⟨⟨r0, r1, r2⟩, rf⟩ := id R1
    go_wp2
    exact bodyPost_ret (v := .tuple #[.agg #[.int .i64 0, .int .i64 0, .slice none 0 0], .int .i64 cc]) (by simp [results, Try.results66, go_sem, r0, r1, r2]) rfl ⟨_, rfl, OwI.nil _ _, (by (repeat (first | exact Below.refl _ _ | (refine Below.setCell ?_ (by first | (simp; done) | (simp; omega) | omega) _) | (refine Below.alloc ?_ (by first | (simp; done) | (simp; omega) | omega) _) | (refine below_drewN ?_ _) | (refine Below.drew ?_) | (refine Below.trans ?_ (Below.mono B1 (by first | (simp; done) | (simp; omega) | omega)))))), by simp [WR.bad]⟩

set_option maxHeartbeats 1000000 in
set_option maxRecDepth 100000 in
theorem sMultiplyWitt_c (p m : Int) (v : Value) (xs : List Int) (q n : Int) (u : Value) (ys : List Int) (w : World) (hv : RdI w v xs) (hu : RdI w u ys) :
    Calls Try.prog 60 #[.agg #[.int .i64 p, .int .i64 m, v], .agg #[.int .i64 q, .int .i64 n, u]] w fun e w' => WEnd w w' (opR true p m xs q n ys) e := by
  obtain ⟨o, c, rfl, hmx, -⟩ := id hv
  obtain ⟨o', c', rfl, hmy, -⟩ := id hu
  by_cases hc : twoC p m xs q n ys = 0
  · obtain ⟨h1, h2, rfl, rfl, hl⟩ := twoC_0 hc
    have hR : opR true q n xs q n ys = ⟨q, n, opL q.toNat n xs ys true, 0⟩ := by simp [opR, hc]
    rw [hR]
    obtain ⟨hp, hpe⟩ := witt_P4 h1
    have hn := witt_len h1
    have hm := witt_m h1
    have hx := witt_x h1
    have hy := witt_x h2
    have HL := Lib.hid hl
    have Hop : Hid ((opL q.toNat n xs ys true).length = xs.length) := Lib.hid (opL_len _ _ _ _ _)
    generalize q.toNat = k at hp hpe Hop ⊢
    subst hpe
    clear hl
    go_enter Try.func60, Try.ntmps60
    go_wp2_with fail
    (have X0 := ((RB3.mk1 w  (.int .i64 k) (.int .i64 n) (.slice o xs.length c) 59).1).below (w' := (((w.alloc (.cells #[.int .i64 k, .int .i64 n, .slice o xs.length c] 59)).alloc (.cells #[.int .i64 k, .int .i64 n, .slice o' ys.length c'] 59)).alloc (.cells #[.int .i64 0, .int .i64 0, .slice none 0 0] 59))) (by (repeat (first | exact Below.refl _ _ | (refine Below.setCell ?_ (by first | (simp; done) | (simp; omega) | omega) _) | (refine Below.alloc ?_ (by first | (simp; done) | (simp; omega) | omega) _) | (refine below_drewN ?_ _) | (refine Below.drew ?_)))) (Nat.le_refl _); have Y0 := ((RB3.mk2 w (.cells #[.int .i64 k, .int .i64 n, .slice o xs.length c] 59) (.int .i64 k) (.int .i64 n) (.slice o' ys.length c') 59).1).below (w' := (((w.alloc (.cells #[.int .i64 k, .int .i64 n, .slice o xs.length c] 59)).alloc (.cells #[.int .i64 k, .int .i64 n, .slice o' ys.length c'] 59)).alloc (.cells #[.int .i64 0, .int .i64 0, .slice none 0 0] 59))) (by (repeat (first | exact Below.refl _ _ | (refine Below.setCell ?_ (by first | (simp; done) | (simp; omega) | omega) _) | (refine Below.alloc ?_ (by first | (simp; done) | (simp; omega) | omega) _) | (refine below_drewN ?_ _) | (refine Below.drew ?_)))) (Nat.le_refl _); have R0 := ((RB3.mk3 w (.cells #[.int .i64 k, .int .i64 n, .slice o xs.length c] 59) (.cells #[.int .i64 k, .int .i64 n, .slice o' ys.length c'] 59) (.int .i64 0) (.int .i64 0) (.slice none 0 0) 59)).below (w' := (((w.alloc (.cells #[.int .i64 k, .int .i64 n, .slice o xs.length c] 59)).alloc (.cells #[.int .i64 k, .int .i64 n, .slice o' ys.length c'] 59)).alloc (.cells #[.int .i64 0, .int .i64 0, .slice none 0 0] 59))) (by (repeat (first | exact Below.refl _ _ | (refine Below.setCell ?_ (by first | (simp; done) | (simp; omega) | omega) _) | (refine Below.alloc ?_ (by first | (simp; done) | (simp; omega) | omega) _) | (refine below_drewN ?_ _) | (refine Below.drew ?_)))) (Nat.le_refl _); have B0 : Below w.heap.size w (((w.alloc (.cells #[.int .i64 k, .int .i64 n, .slice o xs.length c] 59)).alloc (.cells #[.int .i64 k, .int .i64 n, .slice o' ys.length c'] 59)).alloc (.cells #[.int .i64 0, .int .i64 0, .slice none 0 0] 59)) := (by (repeat (first | exact Below.refl _ _ | (refine Below.setCell ?_ (by first | (simp; done) | (simp; omega) | omega) _) | (refine Below.alloc ?_ (by first | (simp; done) | (simp; omega) | omega) _) | (refine below_drewN ?_ _) | (refine Below.drew ?_)))); have hv0 := hv.below (w' := (((w.alloc (.cells #[.int .i64 k, .int .i64 n, .slice o xs.length c] 59)).alloc (.cells #[.int .i64 k, .int .i64 n, .slice o' ys.length c'] 59)).alloc (.cells #[.int .i64 0, .int .i64 0, .slice none 0 0] 59))) (by (repeat (first | exact Below.refl _ _ | (refine Below.setCell ?_ (by first | (simp; done) | (simp; omega) | omega) _) | (refine Below.alloc ?_ (by first | (simp; done) | (simp; omega) | omega) _) | (refine below_drewN ?_ _) | (refine Below.drew ?_)))) (Nat.le_refl _); have hu0 := hu.below (w' := (((w.alloc (.cells #[.int .i64 k, .int .i64 n, .slice o xs.length c] 59)).alloc (.cells #[.int .i64 k, .int .i64 n, .slice o' ys.length c'] 59)).alloc (.cells #[.int .i64 0, .int .i64 0, .slice none 0 0] 59))) (by (repeat (first | exact Below.refl _ _ | (refine Below.setCell ?_ (by first | (simp; done) | (simp; omega) | omega) _) | (refine Below.alloc ?_ (by first | (simp; done) | (simp; omega) | omega) _) | (refine below_drewN ?_ _) | (refine Below.drew ?_)))) (Nat.le_refl _); generalize ((w.alloc (.cells #[.int .i64 k, .int .i64 n, .slice o xs.length c] 59)).alloc (.cells #[.int .i64 k, .int .i64 n, .slice o' ys.length c'] 59)).alloc (.cells #[.int .i64 0, .int .i64 0, .slice none 0 0] 59) = w0 at X0 Y0 R0 B0 hv0 hu0 ⊢)
    obtain ⟨k0, k1, k2⟩ := id X0
    obtain ⟨y0, y1, y2⟩ := id Y0
    go_wp2_with fail
    refine (l13Alike_c k n k n _ _ xs ys _ hv0 hu0).mono ?_
    rw [hc]
    rintro e w1 ⟨rfl, hb⟩
    (have X1 := X0.below hb (Nat.le_refl _); have Y1 := Y0.below hb (Nat.le_refl _); have R1 := R0.below hb (Nat.le_refl _); have hv1 := hv0.below hb (Nat.le_refl _); have hu1 := hu0.below hb (Nat.le_refl _); have B1 := B0.trans (hb.mono B0.size))
    clear k0 k1 k2 y0 y1 y2
    obtain ⟨k0, k1, k2⟩ := id X1
    obtain ⟨y0, y1, y2⟩ := id Y1
    go_wp2_with fail
    refine (l13Do_c k n _ _ xs ys true _ hp hv1 hu1 (by omega) (by omega) HL.out (by omega) (by omega) (fun x h => by have := hx x h; omega) (fun x h => by have := hy x h; omega) k n).mono ?_
    rintro e w2 ⟨v2, rfl, how, hb2⟩
    obtain ⟨o2, c2, rfl⟩ := how.shapeN (n := xs.length) Hop.out
    have hz := R1.1.lt
    have hB1 := B1.size
    (have R2 := R1.below hb2 (Nat.le_refl _); have B2 := B1.trans (hb2.mono B1.size))
    obtain ⟨⟨r0, r1, r2⟩, rf⟩ := id R2
    go_wp2
    refine bodyPost_ret (v := .tuple #[.agg #[.int .i64 k, .int .i64 n, .slice o2 xs.length c2], .int .i64 0]) (by simp [results, Try.results60, go_sem, r0, r1, r2]) rfl ⟨_, rfl, ?_, ?_, by show (opL k n xs ys true).length ≤ 1048576; rw [Hop.out]; omega⟩
    · exact ((((how.low hz _).low hz _).low hz _)).mono hB1
    · (repeat (first | exact Below.refl _ _ | (refine Below.setCell ?_ (by first | (simp; done) | (simp; omega) | omega) _) | (refine Below.alloc ?_ (by first | (simp; done) | (simp; omega) | omega) _) | (refine below_drewN ?_ _) | (refine Below.drew ?_) | (refine Below.trans ?_ (Below.mono B2 (by first | (simp; done) | (simp; omega) | omega)))))
  · have hR : opR true p m xs q n ys = WR.bad (twoC p m xs q n ys) := by simp [opR, hc]
    rw [hR]
    obtain ⟨cc, hcc0⟩ : ∃ cc, twoC p m xs q n ys = cc := ⟨_, rfl⟩
    rw [hcc0] at hc ⊢
    have HC := Lib.hid hcc0
    clear hcc0 hR
    have hcc : (cc == 0) = false := by simp; exact hc
    go_enter Try.func60, Try.ntmps60
    go_wp2_with fail
    (have X0 := ((RB3.mk1 w  (.int .i64 p) (.int .i64 m) (.slice o xs.length c) 59).1).below (w' := (((w.alloc (.cells #[.int .i64 p, .int .i64 m, .slice o xs.length c] 59)).alloc (.cells #[.int .i64 q, .int .i64 n, .slice o' ys.length c'] 59)).alloc (.cells #[.int .i64 0, .int .i64 0, .slice none 0 0] 59))) (by (repeat (first | exact Below.refl _ _ | (refine Below.setCell ?_ (by first | (simp; done) | (simp; omega) | omega) _) | (refine Below.alloc ?_ (by first | (simp; done) | (simp; omega) | omega) _) | (refine below_drewN ?_ _) | (refine Below.drew ?_)))) (Nat.le_refl _); have Y0 := ((RB3.mk2 w (.cells #[.int .i64 p, .int .i64 m, .slice o xs.length c] 59) (.int .i64 q) (.int .i64 n) (.slice o' ys.length c') 59).1).below (w' := (((w.alloc (.cells #[.int .i64 p, .int .i64 m, .slice o xs.length c] 59)).alloc (.cells #[.int .i64 q, .int .i64 n, .slice o' ys.length c'] 59)).alloc (.cells #[.int .i64 0, .int .i64 0, .slice none 0 0] 59))) (by (repeat (first | exact Below.refl _ _ | (refine Below.setCell ?_ (by first | (simp; done) | (simp; omega) | omega) _) | (refine Below.alloc ?_ (by first | (simp; done) | (simp; omega) | omega) _) | (refine below_drewN ?_ _) | (refine Below.drew ?_)))) (Nat.le_refl _); have R0 := ((RB3.mk3 w (.cells #[.int .i64 p, .int .i64 m, .slice o xs.length c] 59) (.cells #[.int .i64 q, .int .i64 n, .slice o' ys.length c'] 59) (.int .i64 0) (.int .i64 0) (.slice none 0 0) 59)).below (w' := (((w.alloc (.cells #[.int .i64 p, .int .i64 m, .slice o xs.length c] 59)).alloc (.cells #[.int .i64 q, .int .i64 n, .slice o' ys.length c'] 59)).alloc (.cells #[.int .i64 0, .int .i64 0, .slice none 0 0] 59))) (by (repeat (first | exact Below.refl _ _ | (refine Below.setCell ?_ (by first | (simp; done) | (simp; omega) | omega) _) | (refine Below.alloc ?_ (by first | (simp; done) | (simp; omega) | omega) _) | (refine below_drewN ?_ _) | (refine Below.drew ?_)))) (Nat.le_refl _); have B0 : Below w.heap.size w (((w.alloc (.cells #[.int .i64 p, .int .i64 m, .slice o xs.length c] 59)).alloc (.cells #[.int .i64 q, .int .i64 n, .slice o' ys.length c'] 59)).alloc (.cells #[.int .i64 0, .int .i64 0, .slice none 0 0] 59)) := (by (repeat (first | exact Below.refl _ _ | (refine Below.setCell ?_ (by first | (simp; done) | (simp; omega) | omega) _) | (refine Below.alloc ?_ (by first | (simp; done) | (simp; omega) | omega) _) | (refine below_drewN ?_ _) | (refine Below.drew ?_)))); have hv0 := hv.below (w' := (((w.alloc (.cells #[.int .i64 p, .int .i64 m, .slice o xs.length c] 59)).alloc (.cells #[.int .i64 q, .int .i64 n, .slice o' ys.length c'] 59)).alloc (.cells #[.int .i64 0, .int .i64 0, .slice none 0 0] 59))) (by (repeat (first | exact Below.refl _ _ | (refine Below.setCell ?_ (by first | (simp; done) | (simp; omega) | omega) _) | (refine Below.alloc ?_ (by first | (simp; done) | (simp; omega) | omega) _) | (refine below_drewN ?_ _) | (refine Below.drew ?_)))) (Nat.le_refl _); have hu0 := hu.below (w' := (((w.alloc (.cells #[.int .i64 p, .int .i64 m, .slice o xs.length c] 59)).alloc (.cells #[.int .i64 q, .int .i64 n, .slice o' ys.length c'] 59)).alloc (.cells #[.int .i64 0, .int .i64 0, .slice none 0 0] 59))) (by (repeat (first | exact Below.refl _ _ | (refine Below.setCell ?_ (by first | (simp; done) | (simp; omega) | omega) _) | (refine Below.alloc ?_ (by first | (simp; done) | (simp; omega) | omega) _) | (refine below_drewN ?_ _) | (refine Below.drew ?_)))) (Nat.le_refl _); generalize ((w.alloc (.cells #[.int .i64 p, .int .i64 m, .slice o xs.length c] 59)).alloc (.cells #[.int .i64 q, .int .i64 n, .slice o' ys.length c'] 59)).alloc (.cells #[.int .i64 0, .int .i64 0, .slice none 0 0] 59) = w0 at X0 Y0 R0 B0 hv0 hu0 ⊢)
    obtain ⟨k0, k1, k2⟩ := id X0
    obtain ⟨y0, y1, y2⟩ := id Y0
    go_wp2_with fail
    refine (l13Alike_c p m q n _ _ xs ys _ hv0 hu0).mono ?_
    rw [HC.out]
    rintro e w1 ⟨rfl, hb⟩
    (have R1 := R0.below hb (Nat.le_refl _); have B1 := B0.trans (hb.mono B0.size))
    obtain ⟨⟨r0, r1, r2⟩, rf⟩ := id R1
    go_wp2
    exact bodyPost_ret (v := .tuple #[.agg #[.int .i64 0, .int .i64 0, .slice none 0 0], .int .i64 cc]) (by simp [results, Try.results60, go_sem, r0, r1, r2]) rfl ⟨_, rfl, OwI.nil _ _, (by (repeat (first | exact Below.refl _ _ | (refine Below.setCell ?_ (by first | (simp; done) | (simp; omega) | omega) _) | (refine Below.alloc ?_ (by first | (simp; done) | (simp; omega) | omega) _) | (refine below_drewN ?_ _) | (refine Below.drew ?_) | (refine Below.trans ?_ (Below.mono B1 (by first | (simp; done) | (simp; omega) | omega)))))), by simp [WR.bad]⟩

end Go.Proofs.Ytcjinlfgeljmkaa
