/- Lemmas of WittQ. -/
import Derived.Test.YtcjinlfgeljmkaaWSWittP
set_option linter.unusedSimpArgs false
set_option linter.unusedVariables false
namespace Go.Proofs.Ytcjinlfgeljmkaa
open Go.RowKit

def Box1 (w : World) (b : Nat) (x : Value) : Prop := w.cell? ⟨b, 0, none⟩ = some x
theorem Box1.below {B : Nat} {w w' : World} {b : Nat} {x : Value} (h : Box1 w b x) (hb : Below B w w') (hB : w.heap.size ≤ B) : Box1 w' b x := keep_cell hb hB h
theorem Box1.lt {w : World} {b : Nat} {x : Value} (h : Box1 w b x) : b < w.heap.size := cell_lt h
def RB1 (w : World) (b : Nat) (x : Value) : Prop := Box1 w b x ∧ ∀ k, w.frozen? ⟨b, k, none⟩ = false
theorem RB1.below {B : Nat} {w w' : World} {b : Nat} {x : Value} (h : RB1 w b x) (hb : Below B w w') (hB : w.heap.size ≤ B) : RB1 w' b x :=
  ⟨h.1.below hb hB, fun k => (hb.frozen (p := ⟨b, k, none⟩) (Nat.lt_of_lt_of_le h.1.lt hB)).trans (h.2 k)⟩
theorem RB1.mk1 (w : World) (x : Value) (t : TypeId) : RB1 (w.alloc (.cells #[x] t)) w.heap.size x := ⟨by unfold Box1; simp, frozen_new w _ t⟩
theorem RB1.mk2 (w : World) (o : Obj) (x : Value) (t : TypeId) : RB1 ((w.alloc o).alloc (.cells #[x] t)) (w.heap.size + 1) x := by
  have := RB1.mk1 (w.alloc o) x t
  simpa using this
def powR (p m : Int) (xs : List Int) (k : Int) : WR := if wittB p m xs then (if inB k 0 1000000 then ⟨p, m, powWL p.toNat m xs k.toNat, 0⟩ else WR.bad 2) else WR.bad 1
theorem pow_mod' (a W : Int) (k : Nat) : (a % W) ^ k % W % W = a ^ k % W := by rw [pow_mod, Int.emod_emod_of_dvd _ (Int.dvd_refl W)]

set_option maxHeartbeats 1000000 in
set_option maxRecDepth 100000 in
theorem sPowerOfWitt_c (p m : Int) (v : Value) (xs : List Int) (e : Int) (w : World) (hv : RdI w v xs) :
    Calls Try.prog 91 #[.agg #[.int .i64 p, .int .i64 m, v], .int .i64 e] w fun x w' => WEnd w w' (powR p m xs e) x := by
  obtain ⟨o, c, rfl, hmx, hh⟩ := id hv
  clear hh
  cases hs : wittB p m xs
  · have hR : powR p m xs e = WR.bad 1 := by simp [powR, hs]
    rw [hR]
    go_enter Try.func91, Try.ntmps91
    go_wp2_with fail
    (have X0 := (Box3.mk' w (.int .i64 p) (.int .i64 m) (.slice o xs.length c) 59).below (w' := (w.alloc (.cells #[.int .i64 p, .int .i64 m, .slice o xs.length c] 59)).alloc (.cells #[.int .i64 0, .int .i64 0, .slice none 0 0] 59)) (by (repeat (first | exact Below.refl _ _ | (refine Below.setCell ?_ (by first | (simp; done) | (simp; omega) | omega) _) | (refine Below.alloc ?_ (by first | (simp; done) | (simp; omega) | omega) _) | (refine below_drewN ?_ _) | (refine Below.drew ?_)))) (Nat.le_refl _); have R0 := RB3.mk2 w (.cells #[.int .i64 p, .int .i64 m, .slice o xs.length c] 59) (.int .i64 0) (.int .i64 0) (.slice none 0 0) 59; have B0 : Below w.heap.size w ((w.alloc (.cells #[.int .i64 p, .int .i64 m, .slice o xs.length c] 59)).alloc (.cells #[.int .i64 0, .int .i64 0, .slice none 0 0] 59)) := (by (repeat (first | exact Below.refl _ _ | (refine Below.setCell ?_ (by first | (simp; done) | (simp; omega) | omega) _) | (refine Below.alloc ?_ (by first | (simp; done) | (simp; omega) | omega) _) | (refine below_drewN ?_ _) | (refine Below.drew ?_)))); have hv0 := hv.below (w' := (w.alloc (.cells #[.int .i64 p, .int .i64 m, .slice o xs.length c] 59)).alloc (.cells #[.int .i64 0, .int .i64 0, .slice none 0 0] 59)) (by (repeat (first | exact Below.refl _ _ | (refine Below.setCell ?_ (by first | (simp; done) | (simp; omega) | omega) _) | (refine Below.alloc ?_ (by first | (simp; done) | (simp; omega) | omega) _) | (refine below_drewN ?_ _) | (refine Below.drew ?_)))) (Nat.le_refl _); generalize (w.alloc (.cells #[.int .i64 p, .int .i64 m, .slice o xs.length c] 59)).alloc (.cells #[.int .i64 0, .int .i64 0, .slice none 0 0] 59) = w0 at X0 R0 B0 hv0 ⊢)
    refine (l13Is_c p m _ xs _ hv0).mono ?_
    rw [hs]
    rintro e w1 ⟨rfl, hb⟩
    (have R1 := R0.below hb (Nat.le_refl _); have B1 := B0.trans (hb.mono B0.size))
    obtain ⟨⟨r0, r1, r2⟩, rf⟩ := id R1
    go_wp2
    exact bodyPost_ret (v := .tuple #[.agg #[.int .i64 0, .int .i64 0, .slice none 0 0], .int .i64 1]) (by simp [results, Try.results91, go_sem, r0, r1, r2]) rfl ⟨_, rfl, OwI.nil _ _, (by (repeat (first | exact Below.refl _ _ | (refine Below.setCell ?_ (by first | (simp; done) | (simp; omega) | omega) _) | (refine Below.alloc ?_ (by first | (simp; done) | (simp; omega) | omega) _) | (refine below_drewN ?_ _) | (refine Below.drew ?_) | (refine Below.trans ?_ (Below.mono B1 (by first | (simp; done) | (simp; omega) | omega)))))), by simp [WR.bad]⟩
  · have hn := witt_len hs
    have hm := witt_m hs
    have hx := witt_x hs
    cases hk : inB e 0 1000000
    · have hR : powR p m xs e = WR.bad 2 := by simp only [powR, hs, hk]; rfl
      rw [hR]
      go_enter Try.func91, Try.ntmps91
      go_wp2_with fail
      (have X0 := (Box3.mk' w (.int .i64 p) (.int .i64 m) (.slice o xs.length c) 59).below (w' := (w.alloc (.cells #[.int .i64 p, .int .i64 m, .slice o xs.length c] 59)).alloc (.cells #[.int .i64 0, .int .i64 0, .slice none 0 0] 59)) (by (repeat (first | exact Below.refl _ _ | (refine Below.setCell ?_ (by first | (simp; done) | (simp; omega) | omega) _) | (refine Below.alloc ?_ (by first | (simp; done) | (simp; omega) | omega) _) | (refine below_drewN ?_ _) | (refine Below.drew ?_)))) (Nat.le_refl _); have R0 := RB3.mk2 w (.cells #[.int .i64 p, .int .i64 m, .slice o xs.length c] 59) (.int .i64 0) (.int .i64 0) (.slice none 0 0) 59; have B0 : Below w.heap.size w ((w.alloc (.cells #[.int .i64 p, .int .i64 m, .slice o xs.length c] 59)).alloc (.cells #[.int .i64 0, .int .i64 0, .slice none 0 0] 59)) := (by (repeat (first | exact Below.refl _ _ | (refine Below.setCell ?_ (by first | (simp; done) | (simp; omega) | omega) _) | (refine Below.alloc ?_ (by first | (simp; done) | (simp; omega) | omega) _) | (refine below_drewN ?_ _) | (refine Below.drew ?_)))); have hv0 := hv.below (w' := (w.alloc (.cells #[.int .i64 p, .int .i64 m, .slice o xs.length c] 59)).alloc (.cells #[.int .i64 0, .int .i64 0, .slice none 0 0] 59)) (by (repeat (first | exact Below.refl _ _ | (refine Below.setCell ?_ (by first | (simp; done) | (simp; omega) | omega) _) | (refine Below.alloc ?_ (by first | (simp; done) | (simp; omega) | omega) _) | (refine below_drewN ?_ _) | (refine Below.drew ?_)))) (Nat.le_refl _); generalize (w.alloc (.cells #[.int .i64 p, .int .i64 m, .slice o xs.length c] 59)).alloc (.cells #[.int .i64 0, .int .i64 0, .slice none 0 0] 59) = w0 at X0 R0 B0 hv0 ⊢)
      refine (l13Is_c p m _ xs _ hv0).mono ?_
      rw [hs]
      rintro e w1 ⟨rfl, hb⟩
      (have R1 := R0.below hb (Nat.le_refl _); have B1 := B0.trans (hb.mono B0.size))
      obtain ⟨⟨r0, r1, r2⟩, rf⟩ := id R1
      go_wp2_with (go_at_call 141; refine (l01In_c _ _ _ _).mono ?_; rw [hk]; rintro e w' ⟨rfl, rfl⟩)
      exact bodyPost_ret (v := .tuple #[.agg #[.int .i64 0, .int .i64 0, .slice none 0 0], .int .i64 2]) (by simp [results, Try.results91, go_sem, r0, r1, r2]) rfl ⟨_, rfl, OwI.nil _ _, (by (repeat (first | exact Below.refl _ _ | (refine Below.setCell ?_ (by first | (simp; done) | (simp; omega) | omega) _) | (refine Below.alloc ?_ (by first | (simp; done) | (simp; omega) | omega) _) | (refine below_drewN ?_ _) | (refine Below.drew ?_) | (refine Below.trans ?_ (Below.mono B1 (by first | (simp; done) | (simp; omega) | omega)))))), by simp [WR.bad]⟩
    · have hR : powR p m xs e = ⟨p, m, powWL p.toNat m xs e.toNat, 0⟩ := by simp only [powR, hs, hk]; rfl
      rw [hR]
      clear hR
      obtain ⟨hp, hpe⟩ := witt_P4 hs
      generalize p.toNat = k at hp hpe ⊢
      subst hpe
      have hkb := inB_t hk
      obtain ⟨e, rfl⟩ := Int.eq_ofNat_of_zero_le hkb.1
      rw [Int.toNat_natCast]
      have Hop : Hid ((powWL k m xs e).length = xs.length) := Lib.hid (powWL_len _ _ _ _)
      go_enter Try.func91, Try.ntmps91
      go_wp2_with fail
      (have X0 := (Box3.mk' w (.int .i64 k) (.int .i64 m) (.slice o xs.length c) 59).below (w' := (w.alloc (.cells #[.int .i64 k, .int .i64 m, .slice o xs.length c] 59)).alloc (.cells #[.int .i64 0, .int .i64 0, .slice none 0 0] 59)) (by (repeat (first | exact Below.refl _ _ | (refine Below.setCell ?_ (by first | (simp; done) | (simp; omega) | omega) _) | (refine Below.alloc ?_ (by first | (simp; done) | (simp; omega) | omega) _) | (refine below_drewN ?_ _) | (refine Below.drew ?_)))) (Nat.le_refl _); have R0 := RB3.mk2 w (.cells #[.int .i64 k, .int .i64 m, .slice o xs.length c] 59) (.int .i64 0) (.int .i64 0) (.slice none 0 0) 59; have B0 : Below w.heap.size w ((w.alloc (.cells #[.int .i64 k, .int .i64 m, .slice o xs.length c] 59)).alloc (.cells #[.int .i64 0, .int .i64 0, .slice none 0 0] 59)) := (by (repeat (first | exact Below.refl _ _ | (refine Below.setCell ?_ (by first | (simp; done) | (simp; omega) | omega) _) | (refine Below.alloc ?_ (by first | (simp; done) | (simp; omega) | omega) _) | (refine below_drewN ?_ _) | (refine Below.drew ?_)))); have hv0 := hv.below (w' := (w.alloc (.cells #[.int .i64 k, .int .i64 m, .slice o xs.length c] 59)).alloc (.cells #[.int .i64 0, .int .i64 0, .slice none 0 0] 59)) (by (repeat (first | exact Below.refl _ _ | (refine Below.setCell ?_ (by first | (simp; done) | (simp; omega) | omega) _) | (refine Below.alloc ?_ (by first | (simp; done) | (simp; omega) | omega) _) | (refine below_drewN ?_ _) | (refine Below.drew ?_)))) (Nat.le_refl _); generalize (w.alloc (.cells #[.int .i64 k, .int .i64 m, .slice o xs.length c] 59)).alloc (.cells #[.int .i64 0, .int .i64 0, .slice none 0 0] 59) = w0 at X0 R0 B0 hv0 ⊢)
      refine (l13Is_c k m _ xs _ hv0).mono ?_
      rw [hs]
      rintro e w1 ⟨rfl, hb⟩
      (have X1 := X0.below hb (Nat.le_refl _); have R1 := R0.below hb (Nat.le_refl _); have hv1 := hv0.below hb (Nat.le_refl _); have B1 := B0.trans (hb.mono B0.size))
      obtain ⟨k0, k1, k2⟩ := id X1
      go_wp2_with (go_at_call 141; refine (l01In_c _ _ _ _).mono ?_; rw [hk]; rintro e w' ⟨rfl, rfl⟩)
      refine (l13Times_c k m _ xs e xs.length _ hp hv1 rfl (by omega) (by omega) (by omega) (by omega) (fun x h => by have := hx x h; omega) (by omega)).mono ?_
      rintro e w2 ⟨v2, rfl, how, hb2⟩
      obtain ⟨o2, c2, rfl⟩ := how.shapeN (n := xs.length) Hop.out
      have hz := R1.1.lt
      have hB1 := B1.size
      (have R2 := R1.below hb2 (Nat.le_refl _); have B2 := B1.trans (hb2.mono B1.size))
      obtain ⟨⟨r0, r1, r2⟩, rf⟩ := id R2
      go_wp2
      refine bodyPost_ret (v := .tuple #[.agg #[.int .i64 k, .int .i64 m, .slice o2 xs.length c2], .int .i64 0]) (by simp [results, Try.results91, go_sem, r0, r1, r2]) rfl ⟨_, rfl, ?_, ?_, by show (powWL k m xs _).length ≤ 1048576; rw [Hop.out]; omega⟩
      · exact ((((how.low hz _).low hz _).low hz _)).mono hB1
      · (repeat (first | exact Below.refl _ _ | (refine Below.setCell ?_ (by first | (simp; done) | (simp; omega) | omega) _) | (refine Below.alloc ?_ (by first | (simp; done) | (simp; omega) | omega) _) | (refine below_drewN ?_ _) | (refine Below.drew ?_) | (refine Below.trans ?_ (Below.mono B2 (by first | (simp; done) | (simp; omega) | omega)))))

set_option maxHeartbeats 1000000 in
set_option maxRecDepth 100000 in
theorem PowerOfWitt_c (p m : Int) (v : Value) (xs : List Int) (e : Int) (w : World) (hv : RdI w v xs) :
    Calls Try.prog 90 #[.agg #[.int .i64 p, .int .i64 m, v], .int .i64 e] w fun x w' => WEnd w w' (powR p m xs e) x := by
  obtain ⟨o, c, rfl, hmx, hh⟩ := id hv
  clear hh
  cases hs : wittB p m xs
  · have hR : powR p m xs e = WR.bad 1 := by simp [powR, hs]
    rw [hR]
    go_enter Try.func90, Try.ntmps90
    go_wp2_with fail
    (have X0 := ((RB3.mk1 w  (.int .i64 p) (.int .i64 m) (.slice o xs.length c) 59).1).below (w' := (((w.alloc (.cells #[.int .i64 p, .int .i64 m, .slice o xs.length c] 59)).alloc (.cells #[.int .i64 e] 2)).alloc (.cells #[.int .i64 0, .int .i64 0, .slice none 0 0] 59))) (by (repeat (first | exact Below.refl _ _ | (refine Below.setCell ?_ (by first | (simp; done) | (simp; omega) | omega) _) | (refine Below.alloc ?_ (by first | (simp; done) | (simp; omega) | omega) _) | (refine below_drewN ?_ _) | (refine Below.drew ?_)))) (Nat.le_refl _); have K0 := ((RB1.mk2 w (.cells #[.int .i64 p, .int .i64 m, .slice o xs.length c] 59) (.int .i64 e) 2).1).below (w' := (((w.alloc (.cells #[.int .i64 p, .int .i64 m, .slice o xs.length c] 59)).alloc (.cells #[.int .i64 e] 2)).alloc (.cells #[.int .i64 0, .int .i64 0, .slice none 0 0] 59))) (by (repeat (first | exact Below.refl _ _ | (refine Below.setCell ?_ (by first | (simp; done) | (simp; omega) | omega) _) | (refine Below.alloc ?_ (by first | (simp; done) | (simp; omega) | omega) _) | (refine below_drewN ?_ _) | (refine Below.drew ?_)))) (Nat.le_refl _); have R0 := ((RB3.mk3 w (.cells #[.int .i64 p, .int .i64 m, .slice o xs.length c] 59) (.cells #[.int .i64 e] 2) (.int .i64 0) (.int .i64 0) (.slice none 0 0) 59)).below (w' := (((w.alloc (.cells #[.int .i64 p, .int .i64 m, .slice o xs.length c] 59)).alloc (.cells #[.int .i64 e] 2)).alloc (.cells #[.int .i64 0, .int .i64 0, .slice none 0 0] 59))) (by (repeat (first | exact Below.refl _ _ | (refine Below.setCell ?_ (by first | (simp; done) | (simp; omega) | omega) _) | (refine Below.alloc ?_ (by first | (simp; done) | (simp; omega) | omega) _) | (refine below_drewN ?_ _) | (refine Below.drew ?_)))) (Nat.le_refl _); have B0 : Below w.heap.size w (((w.alloc (.cells #[.int .i64 p, .int .i64 m, .slice o xs.length c] 59)).alloc (.cells #[.int .i64 e] 2)).alloc (.cells #[.int .i64 0, .int .i64 0, .slice none 0 0] 59)) := (by (repeat (first | exact Below.refl _ _ | (refine Below.setCell ?_ (by first | (simp; done) | (simp; omega) | omega) _) | (refine Below.alloc ?_ (by first | (simp; done) | (simp; omega) | omega) _) | (refine below_drewN ?_ _) | (refine Below.drew ?_)))); have hv0 := hv.below (w' := (((w.alloc (.cells #[.int .i64 p, .int .i64 m, .slice o xs.length c] 59)).alloc (.cells #[.int .i64 e] 2)).alloc (.cells #[.int .i64 0, .int .i64 0, .slice none 0 0] 59))) (by (repeat (first | exact Below.refl _ _ | (refine Below.setCell ?_ (by first | (simp; done) | (simp; omega) | omega) _) | (refine Below.alloc ?_ (by first | (simp; done) | (simp; omega) | omega) _) | (refine below_drewN ?_ _) | (refine Below.drew ?_)))) (Nat.le_refl _); generalize ((w.alloc (.cells #[.int .i64 p, .int .i64 m, .slice o xs.length c] 59)).alloc (.cells #[.int .i64 e] 2)).alloc (.cells #[.int .i64 0, .int .i64 0, .slice none 0 0] 59) = w0 at X0 K0 R0 B0 hv0 ⊢)
    obtain ⟨k0, k1, k2⟩ := id X0
    go_wp2_with fail
    refine (IsWitt_c p m _ xs _ hv0).mono ?_
    rw [hs]
    rintro e w1 ⟨rfl, hb⟩
    (have R1 := R0.below hb (Nat.le_refl _); have B1 := B0.trans (hb.mono B0.size))
    obtain ⟨⟨r0, r1, r2⟩, rf⟩ := id R1
    go_wp2
    exact bodyPost_ret (v := .tuple #[.agg #[.int .i64 0, .int .i64 0, .slice none 0 0], .int .i64 1]) (by simp [results, Try.results90, go_sem, r0, r1, r2]) rfl ⟨_, rfl, OwI.nil _ _, (by (repeat (first | exact Below.refl _ _ | (refine Below.setCell ?_ (by first | (simp; done) | (simp; omega) | omega) _) | (refine Below.alloc ?_ (by first | (simp; done) | (simp; omega) | omega) _) | (refine below_drewN ?_ _) | (refine Below.drew ?_) | (refine Below.trans ?_ (Below.mono B1 (by first | (simp; done) | (simp; omega) | omega)))))), by simp [WR.bad]⟩
  · have hn := witt_len hs
    have hm := witt_m hs
    have hx := witt_x hs
    cases hk : inB e 0 1000000
    · have hR : powR p m xs e = WR.bad 2 := by simp only [powR, hs, hk]; rfl
      rw [hR]
      go_enter Try.func90, Try.ntmps90
      go_wp2_with fail
      (have X0 := ((RB3.mk1 w  (.int .i64 p) (.int .i64 m) (.slice o xs.length c) 59).1).below (w' := (((w.alloc (.cells #[.int .i64 p, .int .i64 m, .slice o xs.length c] 59)).alloc (.cells #[.int .i64 e] 2)).alloc (.cells #[.int .i64 0, .int .i64 0, .slice none 0 0] 59))) (by (repeat (first | exact Below.refl _ _ | (refine Below.setCell ?_ (by first | (simp; done) | (simp; omega) | omega) _) | (refine Below.alloc ?_ (by first | (simp; done) | (simp; omega) | omega) _) | (refine below_drewN ?_ _) | (refine Below.drew ?_)))) (Nat.le_refl _); have K0 := ((RB1.mk2 w (.cells #[.int .i64 p, .int .i64 m, .slice o xs.length c] 59) (.int .i64 e) 2).1).below (w' := (((w.alloc (.cells #[.int .i64 p, .int .i64 m, .slice o xs.length c] 59)).alloc (.cells #[.int .i64 e] 2)).alloc (.cells #[.int .i64 0, .int .i64 0, .slice none 0 0] 59))) (by (repeat (first | exact Below.refl _ _ | (refine Below.setCell ?_ (by first | (simp; done) | (simp; omega) | omega) _) | (refine Below.alloc ?_ (by first | (simp; done) | (simp; omega) | omega) _) | (refine below_drewN ?_ _) | (refine Below.drew ?_)))) (Nat.le_refl _); have R0 := ((RB3.mk3 w (.cells #[.int .i64 p, .int .i64 m, .slice o xs.length c] 59) (.cells #[.int .i64 e] 2) (.int .i64 0) (.int .i64 0) (.slice none 0 0) 59)).below (w' := (((w.alloc (.cells #[.int .i64 p, .int .i64 m, .slice o xs.length c] 59)).alloc (.cells #[.int .i64 e] 2)).alloc (.cells #[.int .i64 0, .int .i64 0, .slice none 0 0] 59))) (by (repeat (first | exact Below.refl _ _ | (refine Below.setCell ?_ (by first | (simp; done) | (simp; omega) | omega) _) | (refine Below.alloc ?_ (by first | (simp; done) | (simp; omega) | omega) _) | (refine below_drewN ?_ _) | (refine Below.drew ?_)))) (Nat.le_refl _); have B0 : Below w.heap.size w (((w.alloc (.cells #[.int .i64 p, .int .i64 m, .slice o xs.length c] 59)).alloc (.cells #[.int .i64 e] 2)).alloc (.cells #[.int .i64 0, .int .i64 0, .slice none 0 0] 59)) := (by (repeat (first | exact Below.refl _ _ | (refine Below.setCell ?_ (by first | (simp; done) | (simp; omega) | omega) _) | (refine Below.alloc ?_ (by first | (simp; done) | (simp; omega) | omega) _) | (refine below_drewN ?_ _) | (refine Below.drew ?_)))); have hv0 := hv.below (w' := (((w.alloc (.cells #[.int .i64 p, .int .i64 m, .slice o xs.length c] 59)).alloc (.cells #[.int .i64 e] 2)).alloc (.cells #[.int .i64 0, .int .i64 0, .slice none 0 0] 59))) (by (repeat (first | exact Below.refl _ _ | (refine Below.setCell ?_ (by first | (simp; done) | (simp; omega) | omega) _) | (refine Below.alloc ?_ (by first | (simp; done) | (simp; omega) | omega) _) | (refine below_drewN ?_ _) | (refine Below.drew ?_)))) (Nat.le_refl _); generalize ((w.alloc (.cells #[.int .i64 p, .int .i64 m, .slice o xs.length c] 59)).alloc (.cells #[.int .i64 e] 2)).alloc (.cells #[.int .i64 0, .int .i64 0, .slice none 0 0] 59) = w0 at X0 K0 R0 B0 hv0 ⊢)
      obtain ⟨k0, k1, k2⟩ := id X0
      go_wp2_with fail
      refine (IsWitt_c p m _ xs _ hv0).mono ?_
      rw [hs]
      rintro e' w1 ⟨rfl, hb⟩
      (have R1 := R0.below hb (Nat.le_refl _); have K1 := K0.below hb (Nat.le_refl _); have B1 := B0.trans (hb.mono B0.size))
      obtain ⟨⟨r0, r1, r2⟩, rf⟩ := id R1
      have q0 : w1.cell? ⟨w.heap.size + 1, 0, none⟩ = some (.int .i64 e) := K1
      go_wp2_with (go_at_call 107; refine (in_c _ _ _ _).mono ?_; rw [hk]; rintro e w' ⟨rfl, rfl⟩)
      exact bodyPost_ret (v := .tuple #[.agg #[.int .i64 0, .int .i64 0, .slice none 0 0], .int .i64 2]) (by simp [results, Try.results90, go_sem, r0, r1, r2]) rfl ⟨_, rfl, OwI.nil _ _, (by (repeat (first | exact Below.refl _ _ | (refine Below.setCell ?_ (by first | (simp; done) | (simp; omega) | omega) _) | (refine Below.alloc ?_ (by first | (simp; done) | (simp; omega) | omega) _) | (refine below_drewN ?_ _) | (refine Below.drew ?_) | (refine Below.trans ?_ (Below.mono B1 (by first | (simp; done) | (simp; omega) | omega)))))), by simp [WR.bad]⟩
    · have hR : powR p m xs e = ⟨p, m, powWL p.toNat m xs e.toNat, 0⟩ := by simp only [powR, hs, hk]; rfl
      rw [hR]
      clear hR
      obtain ⟨hp, hpe⟩ := witt_P4 hs
      generalize p.toNat = k at hp hpe ⊢
      subst hpe
      have hkb := inB_t hk
      obtain ⟨e, rfl⟩ := Int.eq_ofNat_of_zero_le hkb.1
      rw [Int.toNat_natCast]
      have hWb := (wide_bounds hp (show 2 ≤ m by omega) (show m ≤ 10000 by omega) (show 4 ≤ 4 by omega))
      have HJ := Lib.hid (show _ = powWL k m xs e from jL_FL (f := fun a b => a ^ e % (m * (k : Int) ^ 4)) hp (show 0 < m by omega) xs xs (G := fun j => gh k (at0 xs) j ^ e) (by omega) (pow_ex hp _ _ _) (fun j _ => pow_mod' _ _ _))
      have Hop : Hid ((powWL k m xs e).length = xs.length) := Lib.hid (powWL_len _ _ _ _)
      go_enter Try.func90, Try.ntmps90
      go_wp2_with fail
      (have X0 := ((RB3.mk1 w  (.int .i64 k) (.int .i64 m) (.slice o xs.length c) 59).1).below (w' := (((w.alloc (.cells #[.int .i64 k, .int .i64 m, .slice o xs.length c] 59)).alloc (.cells #[.int .i64 e] 2)).alloc (.cells #[.int .i64 0, .int .i64 0, .slice none 0 0] 59))) (by (repeat (first | exact Below.refl _ _ | (refine Below.setCell ?_ (by first | (simp; done) | (simp; omega) | omega) _) | (refine Below.alloc ?_ (by first | (simp; done) | (simp; omega) | omega) _) | (refine below_drewN ?_ _) | (refine Below.drew ?_)))) (Nat.le_refl _); have K0 := ((RB1.mk2 w (.cells #[.int .i64 k, .int .i64 m, .slice o xs.length c] 59) (.int .i64 e) 2).1).below (w' := (((w.alloc (.cells #[.int .i64 k, .int .i64 m, .slice o xs.length c] 59)).alloc (.cells #[.int .i64 e] 2)).alloc (.cells #[.int .i64 0, .int .i64 0, .slice none 0 0] 59))) (by (repeat (first | exact Below.refl _ _ | (refine Below.setCell ?_ (by first | (simp; done) | (simp; omega) | omega) _) | (refine Below.alloc ?_ (by first | (simp; done) | (simp; omega) | omega) _) | (refine below_drewN ?_ _) | (refine Below.drew ?_)))) (Nat.le_refl _); have R0 := ((RB3.mk3 w (.cells #[.int .i64 k, .int .i64 m, .slice o xs.length c] 59) (.cells #[.int .i64 e] 2) (.int .i64 0) (.int .i64 0) (.slice none 0 0) 59)).below (w' := (((w.alloc (.cells #[.int .i64 k, .int .i64 m, .slice o xs.length c] 59)).alloc (.cells #[.int .i64 e] 2)).alloc (.cells #[.int .i64 0, .int .i64 0, .slice none 0 0] 59))) (by (repeat (first | exact Below.refl _ _ | (refine Below.setCell ?_ (by first | (simp; done) | (simp; omega) | omega) _) | (refine Below.alloc ?_ (by first | (simp; done) | (simp; omega) | omega) _) | (refine below_drewN ?_ _) | (refine Below.drew ?_)))) (Nat.le_refl _); have B0 : Below w.heap.size w (((w.alloc (.cells #[.int .i64 k, .int .i64 m, .slice o xs.length c] 59)).alloc (.cells #[.int .i64 e] 2)).alloc (.cells #[.int .i64 0, .int .i64 0, .slice none 0 0] 59)) := (by (repeat (first | exact Below.refl _ _ | (refine Below.setCell ?_ (by first | (simp; done) | (simp; omega) | omega) _) | (refine Below.alloc ?_ (by first | (simp; done) | (simp; omega) | omega) _) | (refine below_drewN ?_ _) | (refine Below.drew ?_)))); have hv0 := hv.below (w' := (((w.alloc (.cells #[.int .i64 k, .int .i64 m, .slice o xs.length c] 59)).alloc (.cells #[.int .i64 e] 2)).alloc (.cells #[.int .i64 0, .int .i64 0, .slice none 0 0] 59))) (by (repeat (first | exact Below.refl _ _ | (refine Below.setCell ?_ (by first | (simp; done) | (simp; omega) | omega) _) | (refine Below.alloc ?_ (by first | (simp; done) | (simp; omega) | omega) _) | (refine below_drewN ?_ _) | (refine Below.drew ?_)))) (Nat.le_refl _); generalize ((w.alloc (.cells #[.int .i64 k, .int .i64 m, .slice o xs.length c] 59)).alloc (.cells #[.int .i64 e] 2)).alloc (.cells #[.int .i64 0, .int .i64 0, .slice none 0 0] 59) = w0 at X0 K0 R0 B0 hv0 ⊢)
      obtain ⟨k0, k1, k2⟩ := id X0
      go_wp2_with fail
      refine (IsWitt_c k m _ xs _ hv0).mono ?_
      rw [hs]
      rintro e' w1 ⟨rfl, hb⟩
      (have X1 := X0.below hb (Nat.le_refl _); have R1 := R0.below hb (Nat.le_refl _); have K1 := K0.below hb (Nat.le_refl _); have hv1 := hv0.below hb (Nat.le_refl _); have B1 := B0.trans (hb.mono B0.size))
      clear k0 k1 k2
      obtain ⟨k0, k1, k2⟩ := id X1
      have q0 : w1.cell? ⟨w.heap.size + 1, 0, none⟩ = some (.int .i64 e) := K1
      go_wp2_with (go_at_call 107; refine (in_c _ _ _ _).mono ?_; rw [hk]; rintro e w' ⟨rfl, rfl⟩)
      refine (wide_c k m o xs.length c _ hp (by omega) (by omega)).mono ?_
      rintro e' w2 ⟨rfl, hb2⟩
      (have X2 := X1.below hb2 (Nat.le_refl _); have R2 := R1.below hb2 (Nat.le_refl _); have K2 := K1.below hb2 (Nat.le_refl _); have hv2 := hv1.below hb2 (Nat.le_refl _); have B2 := B1.trans (hb2.mono B1.size))
      obtain ⟨W, hWe⟩ : ∃ W, m * (k : Int) ^ 4 = W := ⟨_, rfl⟩
      rw [hWe] at hWb HJ ⊢
      have HWe := Lib.hid hWe
      clear k0 k1 k2 hWe hb2 q0
      obtain ⟨k0, k1, k2⟩ := id X2
      have hl0 := X2.lt
      have hl1 := K2.lt
      go_wp2_with fail
      have hbW : Below w2.heap.size w2 (w2.alloc (.cells #[.int .i64 W] 2)) := (by (repeat (first | exact Below.refl _ _ | (refine Below.setCell ?_ (by first | (simp; done) | (simp; omega) | omega) _) | (refine Below.alloc ?_ (by first | (simp; done) | (simp; omega) | omega) _) | (refine below_drewN ?_ _) | (refine Below.drew ?_))))
      have hcW : (w2.alloc (.cells #[.int .i64 W] 2)).cell? ⟨w2.heap.size, 0, none⟩ = some (.int .i64 W) := by simp
      (have X3 := X2.below hbW (Nat.le_refl _); have R3 := R2.below hbW (Nat.le_refl _); have K3 := K2.below hbW (Nat.le_refl _); have hv3 := hv2.below hbW (Nat.le_refl _); have B3 := B2.trans (hbW.mono B2.size))
      clear k0 k1 k2
      generalize w2.alloc (.cells #[.int .i64 W] 2) = w3 at hcW X3 R3 K3 hv3 B3 ⊢
      clear hbW
      refine (joined2_c 196 _ _ (fun a b => a ^ e % W) k m _ _ xs xs _ hp hv3 hv3 (by omega) rfl (by omega) (by omega) (fun x h => by have := hx x h; omega) (fun x h => by have := hx x h; omega) opPower_callable
        (fun a b h1 h2 h3 h4 => by have := mod_lt' (a := a ^ e) (show 0 < W by omega); omega)
        (fun a b w1 h1 h2 h3 h4 hb => by rw [HWe.out] at h2; exact opPower_c a b W e w2.heap.size (w.heap.size + 1) w1 (keep_cell hb (Nat.le_refl _) hcW) (keep_cell hb (Nat.le_refl _) K3) (by omega) (by omega) h1 h2 (by omega))).mono ?_
      rw [HWe.out]
      rw [HJ.out]
      rintro e' w4 ⟨v2, rfl, how, hb4⟩
      obtain ⟨o2, c2, rfl⟩ := how.shapeN (n := xs.length) Hop.out
      have hz := R3.1.lt
      have hB1 := B3.size
      (have R4 := R3.below hb4 (Nat.le_refl _); have B4 := B3.trans (hb4.mono B3.size))
      obtain ⟨⟨r0, r1, r2⟩, rf⟩ := id R4
      go_wp2
      refine bodyPost_ret (v := .tuple #[.agg #[.int .i64 k, .int .i64 m, .slice o2 xs.length c2], .int .i64 0]) (by simp [results, Try.results90, go_sem, r0, r1, r2]) rfl ⟨_, rfl, ?_, ?_, by show (powWL k m xs e).length ≤ 1048576; rw [Hop.out]; omega⟩
      · exact ((((how.low hz _).low hz _).low hz _)).mono hB1
      · (repeat (first | exact Below.refl _ _ | (refine Below.setCell ?_ (by first | (simp; done) | (simp; omega) | omega) _) | (refine Below.alloc ?_ (by first | (simp; done) | (simp; omega) | omega) _) | (refine below_drewN ?_ _) | (refine Below.drew ?_) | (refine Below.trans ?_ (Below.mono B4 (by first | (simp; done) | (simp; omega) | omega)))))

end Go.Proofs.Ytcjinlfgeljmkaa
