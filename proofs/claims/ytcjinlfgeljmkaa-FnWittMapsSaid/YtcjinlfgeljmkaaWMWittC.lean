/- Lemmas of WittC. -/
import Derived.Test.YtcjinlfgeljmkaaWMWittB
set_option linter.unusedSimpArgs false
set_option linter.unusedVariables false
namespace Go.Proofs.Ytcjinlfgeljmkaa
open Go.RowKit

theorem witt_len {p m : Int} {xs : List Int} (h : wittB p m xs = true) : 1 ≤ xs.length ∧ xs.length ≤ 4 := by
  simp only [wittB, Bool.and_eq_true] at h
  have := shape_n h.1
  omega
theorem witt_m {p m : Int} {xs : List Int} (h : wittB p m xs = true) : 2 ≤ m ∧ m ≤ 10000 := by
  simp only [wittB, Bool.and_eq_true] at h
  exact shape_m h.1
theorem witt_p {p m : Int} {xs : List Int} (h : wittB p m xs = true) : p = 2 ∨ p = 3 ∨ p = 5 ∨ p = 7 := by
  simp only [wittB, Bool.and_eq_true] at h
  exact shape_p h.1
theorem witt_x {p m : Int} {xs : List Int} (h : wittB p m xs = true) : ∀ x ∈ xs, 0 ≤ x ∧ x < m := by
  simp only [wittB, Bool.and_eq_true, List.all_eq_true] at h
  intro x hx
  have := inB_t (h.2 x hx)
  omega
theorem RdI.some {w : World} {o : Option Addr} {n c : Nat} {xs : List Int} (h : RdI w (.slice o n c) xs) (hx : 1 ≤ xs.length) : ∃ b off, o = .some ⟨b, off, none⟩ := by
  obtain ⟨o', c', heq, hm, hc⟩ := h
  obtain ⟨b, off, hb, _⟩ := hc 0 (xs[0]'(by omega)) (by simp)
  have : o = o' := by simpa using (Value.slice.inj heq).1
  exact ⟨b, off, this.trans hb⟩

set_option maxHeartbeats 400000 in
set_option maxRecDepth 100000 in
theorem l13With_c (p m : Int) (o' : Option Addr) (n' c' : Nat) (o : Option Addr) (n c : Nat) (w : World) :
    Calls Try.prog 182 #[.agg #[.int .i64 p, .int .i64 m, .slice o' n' c'], .slice o n c] w fun e w' => e = .returned (.agg #[.int .i64 p, .int .i64 m, .slice o n c]) ∧ Below w.heap.size w w' := by
  go_enter Try.func182, Try.ntmps182
  go_wp2
  exact bodyPost_ret (v := .agg #[.int .i64 p, .int .i64 m, .slice o n c]) (by simp [results, Try.results182, go_sem]) rfl ⟨rfl, (by (repeat (first | exact Below.refl _ _ | (refine Below.setCell ?_ (by first | (simp; done) | (simp; omega) | omega) _) | (refine Below.alloc ?_ (by first | (simp; done) | (simp; omega) | omega) _) | (refine below_drewN ?_ _) | (refine Below.drew ?_))))⟩

def shiftR (p m : Int) (xs : List Int) : WR := if wittB p m xs then ⟨p, m, [0] ++ xs.take (xs.length - 1), 0⟩ else WR.bad 1

set_option maxHeartbeats 1000000 in
set_option maxRecDepth 100000 in
theorem ShiftWitt_c (p m : Int) (v : Value) (xs : List Int) (w : World) (hv : RdI w v xs) :
    Calls Try.prog 75 #[.agg #[.int .i64 p, .int .i64 m, v]] w fun e w' => WEnd w w' (shiftR p m xs) e := by
  obtain ⟨o, c, rfl, hm, hh⟩ := id hv
  clear hh
  cases hs : wittB p m xs
  · have hR : shiftR p m xs = WR.bad 1 := by simp [shiftR, hs]
    rw [hR]
    go_enter Try.func75, Try.ntmps75
    go_wp2_with fail
    (have X0 := (Box3.mk' w (.int .i64 p) (.int .i64 m) (.slice o xs.length c) 59).below (w' := (w.alloc (.cells #[.int .i64 p, .int .i64 m, .slice o xs.length c] 59)).alloc (.cells #[.int .i64 0, .int .i64 0, .slice none 0 0] 59)) (by (repeat (first | exact Below.refl _ _ | (refine Below.setCell ?_ (by first | (simp; done) | (simp; omega) | omega) _) | (refine Below.alloc ?_ (by first | (simp; done) | (simp; omega) | omega) _) | (refine below_drewN ?_ _) | (refine Below.drew ?_)))) (Nat.le_refl _); have R0 := RB3.mk2 w (.cells #[.int .i64 p, .int .i64 m, .slice o xs.length c] 59) (.int .i64 0) (.int .i64 0) (.slice none 0 0) 59; have B0 : Below w.heap.size w ((w.alloc (.cells #[.int .i64 p, .int .i64 m, .slice o xs.length c] 59)).alloc (.cells #[.int .i64 0, .int .i64 0, .slice none 0 0] 59)) := (by (repeat (first | exact Below.refl _ _ | (refine Below.setCell ?_ (by first | (simp; done) | (simp; omega) | omega) _) | (refine Below.alloc ?_ (by first | (simp; done) | (simp; omega) | omega) _) | (refine below_drewN ?_ _) | (refine Below.drew ?_)))); have hv0 := hv.below (w' := (w.alloc (.cells #[.int .i64 p, .int .i64 m, .slice o xs.length c] 59)).alloc (.cells #[.int .i64 0, .int .i64 0, .slice none 0 0] 59)) (by (repeat (first | exact Below.refl _ _ | (refine Below.setCell ?_ (by first | (simp; done) | (simp; omega) | omega) _) | (refine Below.alloc ?_ (by first | (simp; done) | (simp; omega) | omega) _) | (refine below_drewN ?_ _) | (refine Below.drew ?_)))) (Nat.le_refl _); generalize (w.alloc (.cells #[.int .i64 p, .int .i64 m, .slice o xs.length c] 59)).alloc (.cells #[.int .i64 0, .int .i64 0, .slice none 0 0] 59) = w0 at X0 R0 B0 hv0 ⊢)
    refine (IsWitt_c p m _ xs _ hv0).mono ?_
    rw [hs]
    rintro e w1 ⟨rfl, hb⟩
    (have R1 := R0.below hb (Nat.le_refl _); have B1 := B0.trans (hb.mono B0.size))
    obtain ⟨⟨r0, r1, r2⟩, rf⟩ := id R1
    go_wp2
    exact bodyPost_ret (v := .tuple #[.agg #[.int .i64 0, .int .i64 0, .slice none 0 0], .int .i64 1]) (by simp [results, Try.results75, go_sem, r0, r1, r2]) rfl ⟨_, rfl, OwI.nil _ _, (by (repeat (first | exact Below.refl _ _ | (refine Below.setCell ?_ (by first | (simp; done) | (simp; omega) | omega) _) | (refine Below.alloc ?_ (by first | (simp; done) | (simp; omega) | omega) _) | (refine below_drewN ?_ _) | (refine Below.drew ?_) | (refine Below.trans ?_ (Below.mono B1 (by first | (simp; done) | (simp; omega) | omega)))))), by simp [WR.bad]⟩
  · have hn := witt_len hs
    obtain ⟨b, off, rfl⟩ := RdI.some hv hn.1
    have hR : shiftR p m xs = ⟨p, m, [0] ++ xs.take (xs.length - 1), 0⟩ := by simp [shiftR, hs]
    rw [hR]
    go_enter Try.func75, Try.ntmps75
    go_wp2_with fail
    (have X0 := (Box3.mk' w (.int .i64 p) (.int .i64 m) (.slice (.some ⟨b, off, none⟩) xs.length c) 59).below (w' := (w.alloc (.cells #[.int .i64 p, .int .i64 m, .slice (.some ⟨b, off, none⟩) xs.length c] 59)).alloc (.cells #[.int .i64 0, .int .i64 0, .slice none 0 0] 59)) (by (repeat (first | exact Below.refl _ _ | (refine Below.setCell ?_ (by first | (simp; done) | (simp; omega) | omega) _) | (refine Below.alloc ?_ (by first | (simp; done) | (simp; omega) | omega) _) | (refine below_drewN ?_ _) | (refine Below.drew ?_)))) (Nat.le_refl _); have R0 := RB3.mk2 w (.cells #[.int .i64 p, .int .i64 m, .slice (.some ⟨b, off, none⟩) xs.length c] 59) (.int .i64 0) (.int .i64 0) (.slice none 0 0) 59; have B0 : Below w.heap.size w ((w.alloc (.cells #[.int .i64 p, .int .i64 m, .slice (.some ⟨b, off, none⟩) xs.length c] 59)).alloc (.cells #[.int .i64 0, .int .i64 0, .slice none 0 0] 59)) := (by (repeat (first | exact Below.refl _ _ | (refine Below.setCell ?_ (by first | (simp; done) | (simp; omega) | omega) _) | (refine Below.alloc ?_ (by first | (simp; done) | (simp; omega) | omega) _) | (refine below_drewN ?_ _) | (refine Below.drew ?_)))); have hv0 := hv.below (w' := (w.alloc (.cells #[.int .i64 p, .int .i64 m, .slice (.some ⟨b, off, none⟩) xs.length c] 59)).alloc (.cells #[.int .i64 0, .int .i64 0, .slice none 0 0] 59)) (by (repeat (first | exact Below.refl _ _ | (refine Below.setCell ?_ (by first | (simp; done) | (simp; omega) | omega) _) | (refine Below.alloc ?_ (by first | (simp; done) | (simp; omega) | omega) _) | (refine below_drewN ?_ _) | (refine Below.drew ?_)))) (Nat.le_refl _); generalize (w.alloc (.cells #[.int .i64 p, .int .i64 m, .slice (.some ⟨b, off, none⟩) xs.length c] 59)).alloc (.cells #[.int .i64 0, .int .i64 0, .slice none 0 0] 59) = w0 at X0 R0 B0 hv0 ⊢)
    refine (IsWitt_c p m _ xs _ hv0).mono ?_
    rw [hs]
    rintro e w1 ⟨rfl, hb⟩
    (have X1 := X0.below hb (Nat.le_refl _); have R1 := R0.below hb (Nat.le_refl _); have hv1 := hv0.below hb (Nat.le_refl _); have B1 := B0.trans (hb.mono B0.size))
    obtain ⟨k0, k1, k2⟩ := id X1
    have hz := R1.1.lt
    go_wp2_with fail
    have hw : IntKind.i64.wrap ((xs.length : Int) - 1) = (xs.length : Int) - 1 := IntWalk.i64_in _ (by omega)
    have hw0 : (0 : Int) ≤ (xs.length : Int) - 1 := by omega
    have hw1 : (xs.length : Int) - 1 ≤ (c : Int) := by omega
    have hw3 : (1 : Int) ≤ (xs.length : Int) := by omega
    have hw4 : ((xs.length : Int) ≤ (c : Int) + 1) := by omega
    have hw2 : ((xs.length : Int) - 1).toNat = xs.length - 1 := by omega
    have HL := Lib.hid (show ([0] ++ xs.take (xs.length - 1)).length = xs.length by simp; omega)
    go_region_held3 (fun w' => w'.cell? ⟨w.heap.size, 0, none⟩ = .some (.int .i64 p) ∧ w'.cell? ⟨w.heap.size, 1, none⟩ = .some (.int .i64 m) ∧ w'.cell? ⟨w.heap.size, 2, none⟩ = .some (.slice (.some ⟨b, off, none⟩) xs.length c)) (go_keep)
      (first
        | ((refine stR _ rfl _ _ rfl w1.heap.size _ [0] rfl (OwI.lit w1 [0] (by decide)) ⟨b, off, none⟩ (xs.length - 1) c (xs.take (xs.length - 1)) rfl ((hv1.below ((by (repeat (first | exact Below.refl _ _ | (refine Below.setCell ?_ (by first | (simp; done) | (simp; omega) | omega) _) | (refine Below.alloc ?_ (by first | (simp; done) | (simp; omega) | omega) _) | (refine below_drewN ?_ _) | (refine Below.drew ?_))))) (Nat.le_refl _)).take _ (by omega)) (by simp; omega) (by simp) ?_; intro o1 c1 w2 how hgr hb2; clear hgr; rw [HL.out] at how ⊢; have hb3 := Below.trans (a := w1) (B := w1.heap.size) ((by (repeat (first | exact Below.refl _ _ | (refine Below.setCell ?_ (by first | (simp; done) | (simp; omega) | omega) _) | (refine Below.alloc ?_ (by first | (simp; done) | (simp; omega) | omega) _) | (refine below_drewN ?_ _) | (refine Below.drew ?_))))) hb2; clear hb2; (have X2 := X1.below hb3 (Nat.le_refl _); have R2 := R1.below hb3 (Nat.le_refl _); have B2 := B1.trans (hb3.mono B1.size)); obtain ⟨k0, k1, k2⟩ := id X2; obtain ⟨⟨r0, r1, r2⟩, rf⟩ := id R2)))
    go_wp2
    refine bodyPost_ret (v := .tuple #[.agg #[.int .i64 p, .int .i64 m, .slice o1 xs.length c1], .int .i64 0]) (by simp [results, Try.results75, go_sem, r0, r1, r2]) rfl ⟨_, rfl, ?_, ?_, by simp; omega⟩
    · exact (((how.low (by first | (simp; done) | (simp; omega) | omega) _).low (by first | (simp; done) | (simp; omega) | omega) _).low (by first | (simp; done) | (simp; omega) | omega) _).mono (by first | (simp; done) | (simp; omega) | omega)
    · (repeat (first | exact Below.refl _ _ | (refine Below.setCell ?_ (by first | (simp; done) | (simp; omega) | omega) _) | (refine Below.alloc ?_ (by first | (simp; done) | (simp; omega) | omega) _) | (refine below_drewN ?_ _) | (refine Below.drew ?_) | (refine Below.trans ?_ (Below.mono B2 (by first | (simp; done) | (simp; omega) | omega)))))

set_option maxHeartbeats 1000000 in
set_option maxRecDepth 100000 in
theorem sShiftWitt_c (p m : Int) (v : Value) (xs : List Int) (w : World) (hv : RdI w v xs) :
    Calls Try.prog 76 #[.agg #[.int .i64 p, .int .i64 m, v]] w fun e w' => WEnd w w' (shiftR p m xs) e := by
  obtain ⟨o, c, rfl, hm, hh⟩ := id hv
  clear hh
  cases hs : wittB p m xs
  · have hR : shiftR p m xs = WR.bad 1 := by simp [shiftR, hs]
    rw [hR]
    go_enter Try.func76, Try.ntmps76
    go_wp2_with fail
    (have X0 := (Box3.mk' w (.int .i64 p) (.int .i64 m) (.slice o xs.length c) 59).below (w' := (w.alloc (.cells #[.int .i64 p, .int .i64 m, .slice o xs.length c] 59)).alloc (.cells #[.int .i64 0, .int .i64 0, .slice none 0 0] 59)) (by (repeat (first | exact Below.refl _ _ | (refine Below.setCell ?_ (by first | (simp; done) | (simp; omega) | omega) _) | (refine Below.alloc ?_ (by first | (simp; done) | (simp; omega) | omega) _) | (refine below_drewN ?_ _) | (refine Below.drew ?_)))) (Nat.le_refl _); have R0 := RB3.mk2 w (.cells #[.int .i64 p, .int .i64 m, .slice o xs.length c] 59) (.int .i64 0) (.int .i64 0) (.slice none 0 0) 59; have B0 : Below w.heap.size w ((w.alloc (.cells #[.int .i64 p, .int .i64 m, .slice o xs.length c] 59)).alloc (.cells #[.int .i64 0, .int .i64 0, .slice none 0 0] 59)) := (by (repeat (first | exact Below.refl _ _ | (refine Below.setCell ?_ (by first | (simp; done) | (simp; omega) | omega) _) | (refine Below.alloc ?_ (by first | (simp; done) | (simp; omega) | omega) _) | (refine below_drewN ?_ _) | (refine Below.drew ?_)))); have hv0 := hv.below (w' := (w.alloc (.cells #[.int .i64 p, .int .i64 m, .slice o xs.length c] 59)).alloc (.cells #[.int .i64 0, .int .i64 0, .slice none 0 0] 59)) (by (repeat (first | exact Below.refl _ _ | (refine Below.setCell ?_ (by first | (simp; done) | (simp; omega) | omega) _) | (refine Below.alloc ?_ (by first | (simp; done) | (simp; omega) | omega) _) | (refine below_drewN ?_ _) | (refine Below.drew ?_)))) (Nat.le_refl _); generalize (w.alloc (.cells #[.int .i64 p, .int .i64 m, .slice o xs.length c] 59)).alloc (.cells #[.int .i64 0, .int .i64 0, .slice none 0 0] 59) = w0 at X0 R0 B0 hv0 ⊢)
    refine (l13Is_c p m _ xs _ hv0).mono ?_
    rw [hs]
    rintro e w1 ⟨rfl, hb⟩
    (have R1 := R0.below hb (Nat.le_refl _); have B1 := B0.trans (hb.mono B0.size))
    obtain ⟨⟨r0, r1, r2⟩, rf⟩ := id R1
    go_wp2
    exact bodyPost_ret (v := .tuple #[.agg #[.int .i64 0, .int .i64 0, .slice none 0 0], .int .i64 1]) (by simp [results, Try.results76, go_sem, r0, r1, r2]) rfl ⟨_, rfl, OwI.nil _ _, (by (repeat (first | exact Below.refl _ _ | (refine Below.setCell ?_ (by first | (simp; done) | (simp; omega) | omega) _) | (refine Below.alloc ?_ (by first | (simp; done) | (simp; omega) | omega) _) | (refine below_drewN ?_ _) | (refine Below.drew ?_) | (refine Below.trans ?_ (Below.mono B1 (by first | (simp; done) | (simp; omega) | omega)))))), by simp [WR.bad]⟩
  · have hn := witt_len hs
    obtain ⟨b, off, rfl⟩ := RdI.some hv hn.1
    have hR : shiftR p m xs = ⟨p, m, [0] ++ xs.take (xs.length - 1), 0⟩ := by simp [shiftR, hs]
    rw [hR]
    go_enter Try.func76, Try.ntmps76
    go_wp2_with fail
    (have X0 := (Box3.mk' w (.int .i64 p) (.int .i64 m) (.slice (.some ⟨b, off, none⟩) xs.length c) 59).below (w' := (w.alloc (.cells #[.int .i64 p, .int .i64 m, .slice (.some ⟨b, off, none⟩) xs.length c] 59)).alloc (.cells #[.int .i64 0, .int .i64 0, .slice none 0 0] 59)) (by (repeat (first | exact Below.refl _ _ | (refine Below.setCell ?_ (by first | (simp; done) | (simp; omega) | omega) _) | (refine Below.alloc ?_ (by first | (simp; done) | (simp; omega) | omega) _) | (refine below_drewN ?_ _) | (refine Below.drew ?_)))) (Nat.le_refl _); have R0 := RB3.mk2 w (.cells #[.int .i64 p, .int .i64 m, .slice (.some ⟨b, off, none⟩) xs.length c] 59) (.int .i64 0) (.int .i64 0) (.slice none 0 0) 59; have B0 : Below w.heap.size w ((w.alloc (.cells #[.int .i64 p, .int .i64 m, .slice (.some ⟨b, off, none⟩) xs.length c] 59)).alloc (.cells #[.int .i64 0, .int .i64 0, .slice none 0 0] 59)) := (by (repeat (first | exact Below.refl _ _ | (refine Below.setCell ?_ (by first | (simp; done) | (simp; omega) | omega) _) | (refine Below.alloc ?_ (by first | (simp; done) | (simp; omega) | omega) _) | (refine below_drewN ?_ _) | (refine Below.drew ?_)))); have hv0 := hv.below (w' := (w.alloc (.cells #[.int .i64 p, .int .i64 m, .slice (.some ⟨b, off, none⟩) xs.length c] 59)).alloc (.cells #[.int .i64 0, .int .i64 0, .slice none 0 0] 59)) (by (repeat (first | exact Below.refl _ _ | (refine Below.setCell ?_ (by first | (simp; done) | (simp; omega) | omega) _) | (refine Below.alloc ?_ (by first | (simp; done) | (simp; omega) | omega) _) | (refine below_drewN ?_ _) | (refine Below.drew ?_)))) (Nat.le_refl _); generalize (w.alloc (.cells #[.int .i64 p, .int .i64 m, .slice (.some ⟨b, off, none⟩) xs.length c] 59)).alloc (.cells #[.int .i64 0, .int .i64 0, .slice none 0 0] 59) = w0 at X0 R0 B0 hv0 ⊢)
    refine (l13Is_c p m _ xs _ hv0).mono ?_
    rw [hs]
    rintro e w1 ⟨rfl, hb⟩
    (have X1 := X0.below hb (Nat.le_refl _); have R1 := R0.below hb (Nat.le_refl _); have hv1 := hv0.below hb (Nat.le_refl _); have B1 := B0.trans (hb.mono B0.size))
    obtain ⟨k0, k1, k2⟩ := id X1
    have hz := R1.1.lt
    go_wp2_with fail
    have hw : IntKind.i64.wrap ((xs.length : Int) - 1) = (xs.length : Int) - 1 := IntWalk.i64_in _ (by omega)
    have hw0 : (0 : Int) ≤ (xs.length : Int) - 1 := by omega
    have hw1 : (xs.length : Int) - 1 ≤ (c : Int) := by omega
    have hw3 : (1 : Int) ≤ (xs.length : Int) := by omega
    have hw4 : ((xs.length : Int) ≤ (c : Int) + 1) := by omega
    have hw2 : ((xs.length : Int) - 1).toNat = xs.length - 1 := by omega
    have HL := Lib.hid (show ([0] ++ xs.take (xs.length - 1)).length = xs.length by simp; omega)
    go_region_held3 (fun w' => w'.cell? ⟨w.heap.size, 0, none⟩ = .some (.int .i64 p) ∧ w'.cell? ⟨w.heap.size, 1, none⟩ = .some (.int .i64 m) ∧ w'.cell? ⟨w.heap.size, 2, none⟩ = .some (.slice (.some ⟨b, off, none⟩) xs.length c)) (go_keep)
      (first
        | ((refine stR _ rfl _ _ rfl w1.heap.size _ [0] rfl (OwI.lit w1 [0] (by decide)) ⟨b, off, none⟩ (xs.length - 1) c (xs.take (xs.length - 1)) rfl ((hv1.below ((by (repeat (first | exact Below.refl _ _ | (refine Below.setCell ?_ (by first | (simp; done) | (simp; omega) | omega) _) | (refine Below.alloc ?_ (by first | (simp; done) | (simp; omega) | omega) _) | (refine below_drewN ?_ _) | (refine Below.drew ?_))))) (Nat.le_refl _)).take _ (by omega)) (by simp; omega) (by simp) ?_; intro o1 c1 w2 how hgr hb2; clear hgr; rw [HL.out] at how ⊢; have hb3 := Below.trans (a := w1) (B := w1.heap.size) ((by (repeat (first | exact Below.refl _ _ | (refine Below.setCell ?_ (by first | (simp; done) | (simp; omega) | omega) _) | (refine Below.alloc ?_ (by first | (simp; done) | (simp; omega) | omega) _) | (refine below_drewN ?_ _) | (refine Below.drew ?_))))) hb2; clear hb2; (have X2 := X1.below hb3 (Nat.le_refl _); have R2 := R1.below hb3 (Nat.le_refl _); have B2 := B1.trans (hb3.mono B1.size)); obtain ⟨k0, k1, k2⟩ := id X2; obtain ⟨⟨r0, r1, r2⟩, rf⟩ := id R2))
        | (go_at_call 182; (refine (l13With_c p m _ _ _ _ _ _ _).mono ?_; rintro e w3 ⟨rfl, hb4⟩; (have X3 := X2.below hb4 (Nat.le_refl _); have R3 := R2.below hb4 (Nat.le_refl _); have B3 := B2.trans (hb4.mono B2.size)); obtain ⟨k0, k1, k2⟩ := id X3; obtain ⟨⟨r0, r1, r2⟩, rf⟩ := id R3; have how3 := how.below hb4)))
    go_wp2
    refine bodyPost_ret (v := .tuple #[.agg #[.int .i64 p, .int .i64 m, .slice o1 xs.length c1], .int .i64 0]) (by simp [results, Try.results76, go_sem, r0, r1, r2]) rfl ⟨_, rfl, ?_, ?_, by simp; omega⟩
    · exact (((how3.low (by first | (simp; done) | (simp; omega) | omega) _).low (by first | (simp; done) | (simp; omega) | omega) _).low (by first | (simp; done) | (simp; omega) | omega) _).mono (by first | (simp; done) | (simp; omega) | omega)
    · (repeat (first | exact Below.refl _ _ | (refine Below.setCell ?_ (by first | (simp; done) | (simp; omega) | omega) _) | (refine Below.alloc ?_ (by first | (simp; done) | (simp; omega) | omega) _) | (refine below_drewN ?_ _) | (refine Below.drew ?_) | (refine Below.trans ?_ (Below.mono B3 (by first | (simp; done) | (simp; omega) | omega)))))

def cutR (p m : Int) (xs : List Int) (n : Int) : WR := if wittB p m xs then (if inB n 1 xs.length then ⟨p, m, xs.take n.toNat, 0⟩ else WR.bad 2) else WR.bad 1

set_option maxHeartbeats 1000000 in
set_option maxRecDepth 100000 in
theorem CutWitt_c (p m : Int) (v : Value) (xs : List Int) (n : Int) (w : World) (hv : RdI w v xs) :
    Calls Try.prog 78 #[.agg #[.int .i64 p, .int .i64 m, v], .int .i64 n] w fun e w' => WEnd w w' (cutR p m xs n) e := by
  obtain ⟨o, c, rfl, hm, hh⟩ := id hv
  clear hh
  unfold maxLen at hm
  cases hs : wittB p m xs
  · have hR : cutR p m xs n = WR.bad 1 := by simp [cutR, hs]
    rw [hR]
    go_enter Try.func78, Try.ntmps78
    go_wp2_with fail
    (have X0 := (Box3.mk' w (.int .i64 p) (.int .i64 m) (.slice o xs.length c) 59).below (w' := (w.alloc (.cells #[.int .i64 p, .int .i64 m, .slice o xs.length c] 59)).alloc (.cells #[.int .i64 0, .int .i64 0, .slice none 0 0] 59)) (by (repeat (first | exact Below.refl _ _ | (refine Below.setCell ?_ (by first | (simp; done) | (simp; omega) | omega) _) | (refine Below.alloc ?_ (by first | (simp; done) | (simp; omega) | omega) _) | (refine below_drewN ?_ _) | (refine Below.drew ?_)))) (Nat.le_refl _); have R0 := RB3.mk2 w (.cells #[.int .i64 p, .int .i64 m, .slice o xs.length c] 59) (.int .i64 0) (.int .i64 0) (.slice none 0 0) 59; have B0 : Below w.heap.size w ((w.alloc (.cells #[.int .i64 p, .int .i64 m, .slice o xs.length c] 59)).alloc (.cells #[.int .i64 0, .int .i64 0, .slice none 0 0] 59)) := (by (repeat (first | exact Below.refl _ _ | (refine Below.setCell ?_ (by first | (simp; done) | (simp; omega) | omega) _) | (refine Below.alloc ?_ (by first | (simp; done) | (simp; omega) | omega) _) | (refine below_drewN ?_ _) | (refine Below.drew ?_)))); have hv0 := hv.below (w' := (w.alloc (.cells #[.int .i64 p, .int .i64 m, .slice o xs.length c] 59)).alloc (.cells #[.int .i64 0, .int .i64 0, .slice none 0 0] 59)) (by (repeat (first | exact Below.refl _ _ | (refine Below.setCell ?_ (by first | (simp; done) | (simp; omega) | omega) _) | (refine Below.alloc ?_ (by first | (simp; done) | (simp; omega) | omega) _) | (refine below_drewN ?_ _) | (refine Below.drew ?_)))) (Nat.le_refl _); generalize (w.alloc (.cells #[.int .i64 p, .int .i64 m, .slice o xs.length c] 59)).alloc (.cells #[.int .i64 0, .int .i64 0, .slice none 0 0] 59) = w0 at X0 R0 B0 hv0 ⊢)
    refine (IsWitt_c p m _ xs _ hv0).mono ?_
    rw [hs]
    rintro e w1 ⟨rfl, hb⟩
    (have R1 := R0.below hb (Nat.le_refl _); have B1 := B0.trans (hb.mono B0.size))
    obtain ⟨⟨r0, r1, r2⟩, rf⟩ := id R1
    go_wp2
    exact bodyPost_ret (v := .tuple #[.agg #[.int .i64 0, .int .i64 0, .slice none 0 0], .int .i64 1]) (by simp [results, Try.results78, go_sem, r0, r1, r2]) rfl ⟨_, rfl, OwI.nil _ _, (by (repeat (first | exact Below.refl _ _ | (refine Below.setCell ?_ (by first | (simp; done) | (simp; omega) | omega) _) | (refine Below.alloc ?_ (by first | (simp; done) | (simp; omega) | omega) _) | (refine below_drewN ?_ _) | (refine Below.drew ?_) | (refine Below.trans ?_ (Below.mono B1 (by first | (simp; done) | (simp; omega) | omega)))))), by simp [WR.bad]⟩
  · cases hq : inB n 1 xs.length
    · have hR : cutR p m xs n = WR.bad 2 := by simp [cutR, hs, hq]
      rw [hR]
      go_enter Try.func78, Try.ntmps78
      go_wp2_with fail
      (have X0 := (Box3.mk' w (.int .i64 p) (.int .i64 m) (.slice o xs.length c) 59).below (w' := (w.alloc (.cells #[.int .i64 p, .int .i64 m, .slice o xs.length c] 59)).alloc (.cells #[.int .i64 0, .int .i64 0, .slice none 0 0] 59)) (by (repeat (first | exact Below.refl _ _ | (refine Below.setCell ?_ (by first | (simp; done) | (simp; omega) | omega) _) | (refine Below.alloc ?_ (by first | (simp; done) | (simp; omega) | omega) _) | (refine below_drewN ?_ _) | (refine Below.drew ?_)))) (Nat.le_refl _); have R0 := RB3.mk2 w (.cells #[.int .i64 p, .int .i64 m, .slice o xs.length c] 59) (.int .i64 0) (.int .i64 0) (.slice none 0 0) 59; have B0 : Below w.heap.size w ((w.alloc (.cells #[.int .i64 p, .int .i64 m, .slice o xs.length c] 59)).alloc (.cells #[.int .i64 0, .int .i64 0, .slice none 0 0] 59)) := (by (repeat (first | exact Below.refl _ _ | (refine Below.setCell ?_ (by first | (simp; done) | (simp; omega) | omega) _) | (refine Below.alloc ?_ (by first | (simp; done) | (simp; omega) | omega) _) | (refine below_drewN ?_ _) | (refine Below.drew ?_)))); have hv0 := hv.below (w' := (w.alloc (.cells #[.int .i64 p, .int .i64 m, .slice o xs.length c] 59)).alloc (.cells #[.int .i64 0, .int .i64 0, .slice none 0 0] 59)) (by (repeat (first | exact Below.refl _ _ | (refine Below.setCell ?_ (by first | (simp; done) | (simp; omega) | omega) _) | (refine Below.alloc ?_ (by first | (simp; done) | (simp; omega) | omega) _) | (refine below_drewN ?_ _) | (refine Below.drew ?_)))) (Nat.le_refl _); generalize (w.alloc (.cells #[.int .i64 p, .int .i64 m, .slice o xs.length c] 59)).alloc (.cells #[.int .i64 0, .int .i64 0, .slice none 0 0] 59) = w0 at X0 R0 B0 hv0 ⊢)
      refine (IsWitt_c p m _ xs _ hv0).mono ?_
      rw [hs]
      rintro e w1 ⟨rfl, hb⟩
      (have X1 := X0.below hb (Nat.le_refl _); have R1 := R0.below hb (Nat.le_refl _); have hv1 := hv0.below hb (Nat.le_refl _); have B1 := B0.trans (hb.mono B0.size))
      obtain ⟨k0, k1, k2⟩ := id X1
      obtain ⟨⟨r0, r1, r2⟩, rf⟩ := id R1
      go_wp2_with (go_at_call 107; refine (in_c _ _ _ _).mono ?_; rw [hq]; rintro e w' ⟨rfl, rfl⟩)
      exact bodyPost_ret (v := .tuple #[.agg #[.int .i64 0, .int .i64 0, .slice none 0 0], .int .i64 2]) (by simp [results, Try.results78, go_sem, r0, r1, r2]) rfl ⟨_, rfl, OwI.nil _ _, (by (repeat (first | exact Below.refl _ _ | (refine Below.setCell ?_ (by first | (simp; done) | (simp; omega) | omega) _) | (refine Below.alloc ?_ (by first | (simp; done) | (simp; omega) | omega) _) | (refine below_drewN ?_ _) | (refine Below.drew ?_) | (refine Below.trans ?_ (Below.mono B1 (by first | (simp; done) | (simp; omega) | omega)))))), by simp [WR.bad]⟩
    · have hn := witt_len hs
      have hk := inB_t hq
      obtain ⟨n, rfl⟩ := Int.eq_ofNat_of_zero_le (show 0 ≤ n by omega)
      obtain ⟨b, off, rfl⟩ := RdI.some hv hn.1
      have hR : cutR p m xs n = ⟨p, m, xs.take n, 0⟩ := by simp [cutR, hs, hq]
      rw [hR]
      go_enter Try.func78, Try.ntmps78
      go_wp2_with fail
      (have X0 := (Box3.mk' w (.int .i64 p) (.int .i64 m) (.slice (.some ⟨b, off, none⟩) xs.length c) 59).below (w' := (w.alloc (.cells #[.int .i64 p, .int .i64 m, .slice (.some ⟨b, off, none⟩) xs.length c] 59)).alloc (.cells #[.int .i64 0, .int .i64 0, .slice none 0 0] 59)) (by (repeat (first | exact Below.refl _ _ | (refine Below.setCell ?_ (by first | (simp; done) | (simp; omega) | omega) _) | (refine Below.alloc ?_ (by first | (simp; done) | (simp; omega) | omega) _) | (refine below_drewN ?_ _) | (refine Below.drew ?_)))) (Nat.le_refl _); have R0 := RB3.mk2 w (.cells #[.int .i64 p, .int .i64 m, .slice (.some ⟨b, off, none⟩) xs.length c] 59) (.int .i64 0) (.int .i64 0) (.slice none 0 0) 59; have B0 : Below w.heap.size w ((w.alloc (.cells #[.int .i64 p, .int .i64 m, .slice (.some ⟨b, off, none⟩) xs.length c] 59)).alloc (.cells #[.int .i64 0, .int .i64 0, .slice none 0 0] 59)) := (by (repeat (first | exact Below.refl _ _ | (refine Below.setCell ?_ (by first | (simp; done) | (simp; omega) | omega) _) | (refine Below.alloc ?_ (by first | (simp; done) | (simp; omega) | omega) _) | (refine below_drewN ?_ _) | (refine Below.drew ?_)))); have hv0 := hv.below (w' := (w.alloc (.cells #[.int .i64 p, .int .i64 m, .slice (.some ⟨b, off, none⟩) xs.length c] 59)).alloc (.cells #[.int .i64 0, .int .i64 0, .slice none 0 0] 59)) (by (repeat (first | exact Below.refl _ _ | (refine Below.setCell ?_ (by first | (simp; done) | (simp; omega) | omega) _) | (refine Below.alloc ?_ (by first | (simp; done) | (simp; omega) | omega) _) | (refine below_drewN ?_ _) | (refine Below.drew ?_)))) (Nat.le_refl _); generalize (w.alloc (.cells #[.int .i64 p, .int .i64 m, .slice (.some ⟨b, off, none⟩) xs.length c] 59)).alloc (.cells #[.int .i64 0, .int .i64 0, .slice none 0 0] 59) = w0 at X0 R0 B0 hv0 ⊢)
      refine (IsWitt_c p m _ xs _ hv0).mono ?_
      rw [hs]
      rintro e w1 ⟨rfl, hb⟩
      (have X1 := X0.below hb (Nat.le_refl _); have R1 := R0.below hb (Nat.le_refl _); have hv1 := hv0.below hb (Nat.le_refl _); have B1 := B0.trans (hb.mono B0.size))
      obtain ⟨k0, k1, k2⟩ := id X1
      have hz := R1.1.lt
      go_wp2_with (go_at_call 107; refine (in_c _ _ _ _).mono ?_; rw [hq]; rintro e w' ⟨rfl, rfl⟩)
      have hw1 : (n : Int) ≤ (c : Int) := by omega
      have hw3 : (0 : Int) ≤ (n : Int) := by omega
      have HL : (xs.take n).length = n := by simp; omega
      have HL' := Lib.hid HL
      clear HL
      go_region_held3 (fun w' => w'.cell? ⟨w.heap.size, 0, none⟩ = .some (.int .i64 p) ∧ w'.cell? ⟨w.heap.size, 1, none⟩ = .some (.int .i64 m) ∧ w'.cell? ⟨w.heap.size, 2, none⟩ = .some (.slice (.some ⟨b, off, none⟩) xs.length c)) (go_keep)
        (first
          | (go_at_call 129; (refine (copyOfI_c ⟨b, off, none⟩ n c (xs.take n) _ ((hv1.below ((by (repeat (first | exact Below.refl _ _ | (refine Below.setCell ?_ (by first | (simp; done) | (simp; omega) | omega) _) | (refine Below.alloc ?_ (by first | (simp; done) | (simp; omega) | omega) _) | (refine below_drewN ?_ _) | (refine Below.drew ?_))))) (Nat.le_refl _)).take _ (by omega)) (by rw [HL'.out]; omega)).mono ?_; rintro e w2 ⟨v2, rfl, how, hb2⟩; obtain ⟨o1, c1, rfl⟩ := how.shape; rw [HL'.out] at how ⊢; have hb3 := Below.trans (a := w1) (B := w1.heap.size) ((by (repeat (first | exact Below.refl _ _ | (refine Below.setCell ?_ (by first | (simp; done) | (simp; omega) | omega) _) | (refine Below.alloc ?_ (by first | (simp; done) | (simp; omega) | omega) _) | (refine below_drewN ?_ _) | (refine Below.drew ?_))))) hb2; clear hb2; (have X2 := X1.below hb3 (Nat.le_refl _); have R2 := R1.below hb3 (Nat.le_refl _); have B2 := B1.trans (hb3.mono B1.size)); obtain ⟨k0, k1, k2⟩ := id X2; obtain ⟨⟨r0, r1, r2⟩, rf⟩ := id R2)))
      go_wp2
      refine bodyPost_ret (v := .tuple #[.agg #[.int .i64 p, .int .i64 m, .slice o1 n c1], .int .i64 0]) (by simp [results, Try.results78, go_sem, r0, r1, r2]) rfl ⟨_, rfl, ?_, ?_, by simp; omega⟩
      · exact (((how.low (by first | (simp; done) | (simp; omega) | omega) _).low (by first | (simp; done) | (simp; omega) | omega) _).low (by first | (simp; done) | (simp; omega) | omega) _).mono (by first | (simp; done) | (simp; omega) | omega)
      · (repeat (first | exact Below.refl _ _ | (refine Below.setCell ?_ (by first | (simp; done) | (simp; omega) | omega) _) | (refine Below.alloc ?_ (by first | (simp; done) | (simp; omega) | omega) _) | (refine below_drewN ?_ _) | (refine Below.drew ?_) | (refine Below.trans ?_ (Below.mono B2 (by first | (simp; done) | (simp; omega) | omega)))))

set_option maxHeartbeats 1000000 in
set_option maxRecDepth 100000 in
theorem sCutWitt_c (p m : Int) (v : Value) (xs : List Int) (n : Int) (w : World) (hv : RdI w v xs) :
    Calls Try.prog 79 #[.agg #[.int .i64 p, .int .i64 m, v], .int .i64 n] w fun e w' => WEnd w w' (cutR p m xs n) e := by
  obtain ⟨o, c, rfl, hm, hh⟩ := id hv
  clear hh
  unfold maxLen at hm
  cases hs : wittB p m xs
  · have hR : cutR p m xs n = WR.bad 1 := by simp [cutR, hs]
    rw [hR]
    go_enter Try.func79, Try.ntmps79
    go_wp2_with fail
    (have X0 := (Box3.mk' w (.int .i64 p) (.int .i64 m) (.slice o xs.length c) 59).below (w' := (w.alloc (.cells #[.int .i64 p, .int .i64 m, .slice o xs.length c] 59)).alloc (.cells #[.int .i64 0, .int .i64 0, .slice none 0 0] 59)) (by (repeat (first | exact Below.refl _ _ | (refine Below.setCell ?_ (by first | (simp; done) | (simp; omega) | omega) _) | (refine Below.alloc ?_ (by first | (simp; done) | (simp; omega) | omega) _) | (refine below_drewN ?_ _) | (refine Below.drew ?_)))) (Nat.le_refl _); have R0 := RB3.mk2 w (.cells #[.int .i64 p, .int .i64 m, .slice o xs.length c] 59) (.int .i64 0) (.int .i64 0) (.slice none 0 0) 59; have B0 : Below w.heap.size w ((w.alloc (.cells #[.int .i64 p, .int .i64 m, .slice o xs.length c] 59)).alloc (.cells #[.int .i64 0, .int .i64 0, .slice none 0 0] 59)) := (by (repeat (first | exact Below.refl _ _ | (refine Below.setCell ?_ (by first | (simp; done) | (simp; omega) | omega) _) | (refine Below.alloc ?_ (by first | (simp; done) | (simp; omega) | omega) _) | (refine below_drewN ?_ _) | (refine Below.drew ?_)))); have hv0 := hv.below (w' := (w.alloc (.cells #[.int .i64 p, .int .i64 m, .slice o xs.length c] 59)).alloc (.cells #[.int .i64 0, .int .i64 0, .slice none 0 0] 59)) (by (repeat (first | exact Below.refl _ _ | (refine Below.setCell ?_ (by first | (simp; done) | (simp; omega) | omega) _) | (refine Below.alloc ?_ (by first | (simp; done) | (simp; omega) | omega) _) | (refine below_drewN ?_ _) | (refine Below.drew ?_)))) (Nat.le_refl _); generalize (w.alloc (.cells #[.int .i64 p, .int .i64 m, .slice o xs.length c] 59)).alloc (.cells #[.int .i64 0, .int .i64 0, .slice none 0 0] 59) = w0 at X0 R0 B0 hv0 ⊢)
    refine (l13Is_c p m _ xs _ hv0).mono ?_
    rw [hs]
    rintro e w1 ⟨rfl, hb⟩
    (have R1 := R0.below hb (Nat.le_refl _); have B1 := B0.trans (hb.mono B0.size))
    obtain ⟨⟨r0, r1, r2⟩, rf⟩ := id R1
    go_wp2
    exact bodyPost_ret (v := .tuple #[.agg #[.int .i64 0, .int .i64 0, .slice none 0 0], .int .i64 1]) (by simp [results, Try.results79, go_sem, r0, r1, r2]) rfl ⟨_, rfl, OwI.nil _ _, (by (repeat (first | exact Below.refl _ _ | (refine Below.setCell ?_ (by first | (simp; done) | (simp; omega) | omega) _) | (refine Below.alloc ?_ (by first | (simp; done) | (simp; omega) | omega) _) | (refine below_drewN ?_ _) | (refine Below.drew ?_) | (refine Below.trans ?_ (Below.mono B1 (by first | (simp; done) | (simp; omega) | omega)))))), by simp [WR.bad]⟩
  · cases hq : inB n 1 xs.length
    · have hR : cutR p m xs n = WR.bad 2 := by simp [cutR, hs, hq]
      rw [hR]
      go_enter Try.func79, Try.ntmps79
      go_wp2_with fail
      (have X0 := (Box3.mk' w (.int .i64 p) (.int .i64 m) (.slice o xs.length c) 59).below (w' := (w.alloc (.cells #[.int .i64 p, .int .i64 m, .slice o xs.length c] 59)).alloc (.cells #[.int .i64 0, .int .i64 0, .slice none 0 0] 59)) (by (repeat (first | exact Below.refl _ _ | (refine Below.setCell ?_ (by first | (simp; done) | (simp; omega) | omega) _) | (refine Below.alloc ?_ (by first | (simp; done) | (simp; omega) | omega) _) | (refine below_drewN ?_ _) | (refine Below.drew ?_)))) (Nat.le_refl _); have R0 := RB3.mk2 w (.cells #[.int .i64 p, .int .i64 m, .slice o xs.length c] 59) (.int .i64 0) (.int .i64 0) (.slice none 0 0) 59; have B0 : Below w.heap.size w ((w.alloc (.cells #[.int .i64 p, .int .i64 m, .slice o xs.length c] 59)).alloc (.cells #[.int .i64 0, .int .i64 0, .slice none 0 0] 59)) := (by (repeat (first | exact Below.refl _ _ | (refine Below.setCell ?_ (by first | (simp; done) | (simp; omega) | omega) _) | (refine Below.alloc ?_ (by first | (simp; done) | (simp; omega) | omega) _) | (refine below_drewN ?_ _) | (refine Below.drew ?_)))); have hv0 := hv.below (w' := (w.alloc (.cells #[.int .i64 p, .int .i64 m, .slice o xs.length c] 59)).alloc (.cells #[.int .i64 0, .int .i64 0, .slice none 0 0] 59)) (by (repeat (first | exact Below.refl _ _ | (refine Below.setCell ?_ (by first | (simp; done) | (simp; omega) | omega) _) | (refine Below.alloc ?_ (by first | (simp; done) | (simp; omega) | omega) _) | (refine below_drewN ?_ _) | (refine Below.drew ?_)))) (Nat.le_refl _); generalize (w.alloc (.cells #[.int .i64 p, .int .i64 m, .slice o xs.length c] 59)).alloc (.cells #[.int .i64 0, .int .i64 0, .slice none 0 0] 59) = w0 at X0 R0 B0 hv0 ⊢)
      refine (l13Is_c p m _ xs _ hv0).mono ?_
      rw [hs]
      rintro e w1 ⟨rfl, hb⟩
      (have X1 := X0.below hb (Nat.le_refl _); have R1 := R0.below hb (Nat.le_refl _); have hv1 := hv0.below hb (Nat.le_refl _); have B1 := B0.trans (hb.mono B0.size))
      obtain ⟨k0, k1, k2⟩ := id X1
      obtain ⟨⟨r0, r1, r2⟩, rf⟩ := id R1
      go_wp2_with (go_at_call 141; refine (l01In_c _ _ _ _).mono ?_; rw [hq]; rintro e w' ⟨rfl, rfl⟩)
      exact bodyPost_ret (v := .tuple #[.agg #[.int .i64 0, .int .i64 0, .slice none 0 0], .int .i64 2]) (by simp [results, Try.results79, go_sem, r0, r1, r2]) rfl ⟨_, rfl, OwI.nil _ _, (by (repeat (first | exact Below.refl _ _ | (refine Below.setCell ?_ (by first | (simp; done) | (simp; omega) | omega) _) | (refine Below.alloc ?_ (by first | (simp; done) | (simp; omega) | omega) _) | (refine below_drewN ?_ _) | (refine Below.drew ?_) | (refine Below.trans ?_ (Below.mono B1 (by first | (simp; done) | (simp; omega) | omega)))))), by simp [WR.bad]⟩
    · have hn := witt_len hs
      have hk := inB_t hq
      obtain ⟨n, rfl⟩ := Int.eq_ofNat_of_zero_le (show 0 ≤ n by omega)
      obtain ⟨b, off, rfl⟩ := RdI.some hv hn.1
      have hR : cutR p m xs n = ⟨p, m, xs.take n, 0⟩ := by simp [cutR, hs, hq]
      rw [hR]
      go_enter Try.func79, Try.ntmps79
      go_wp2_with fail
      (have X0 := (Box3.mk' w (.int .i64 p) (.int .i64 m) (.slice (.some ⟨b, off, none⟩) xs.length c) 59).below (w' := (w.alloc (.cells #[.int .i64 p, .int .i64 m, .slice (.some ⟨b, off, none⟩) xs.length c] 59)).alloc (.cells #[.int .i64 0, .int .i64 0, .slice none 0 0] 59)) (by (repeat (first | exact Below.refl _ _ | (refine Below.setCell ?_ (by first | (simp; done) | (simp; omega) | omega) _) | (refine Below.alloc ?_ (by first | (simp; done) | (simp; omega) | omega) _) | (refine below_drewN ?_ _) | (refine Below.drew ?_)))) (Nat.le_refl _); have R0 := RB3.mk2 w (.cells #[.int .i64 p, .int .i64 m, .slice (.some ⟨b, off, none⟩) xs.length c] 59) (.int .i64 0) (.int .i64 0) (.slice none 0 0) 59; have B0 : Below w.heap.size w ((w.alloc (.cells #[.int .i64 p, .int .i64 m, .slice (.some ⟨b, off, none⟩) xs.length c] 59)).alloc (.cells #[.int .i64 0, .int .i64 0, .slice none 0 0] 59)) := (by (repeat (first | exact Below.refl _ _ | (refine Below.setCell ?_ (by first | (simp; done) | (simp; omega) | omega) _) | (refine Below.alloc ?_ (by first | (simp; done) | (simp; omega) | omega) _) | (refine below_drewN ?_ _) | (refine Below.drew ?_)))); have hv0 := hv.below (w' := (w.alloc (.cells #[.int .i64 p, .int .i64 m, .slice (.some ⟨b, off, none⟩) xs.length c] 59)).alloc (.cells #[.int .i64 0, .int .i64 0, .slice none 0 0] 59)) (by (repeat (first | exact Below.refl _ _ | (refine Below.setCell ?_ (by first | (simp; done) | (simp; omega) | omega) _) | (refine Below.alloc ?_ (by first | (simp; done) | (simp; omega) | omega) _) | (refine below_drewN ?_ _) | (refine Below.drew ?_)))) (Nat.le_refl _); generalize (w.alloc (.cells #[.int .i64 p, .int .i64 m, .slice (.some ⟨b, off, none⟩) xs.length c] 59)).alloc (.cells #[.int .i64 0, .int .i64 0, .slice none 0 0] 59) = w0 at X0 R0 B0 hv0 ⊢)
      refine (l13Is_c p m _ xs _ hv0).mono ?_
      rw [hs]
      rintro e w1 ⟨rfl, hb⟩
      (have X1 := X0.below hb (Nat.le_refl _); have R1 := R0.below hb (Nat.le_refl _); have hv1 := hv0.below hb (Nat.le_refl _); have B1 := B0.trans (hb.mono B0.size))
      obtain ⟨k0, k1, k2⟩ := id X1
      have hz := R1.1.lt
      go_wp2_with (go_at_call 141; refine (l01In_c _ _ _ _).mono ?_; rw [hq]; rintro e w' ⟨rfl, rfl⟩)
      have hw1 : (n : Int) ≤ (c : Int) := by omega
      have hw3 : (0 : Int) ≤ (n : Int) := by omega
      have HL : (xs.take n).length = n := by simp; omega
      have HL' := Lib.hid HL
      clear HL
      go_region_held3 (fun w' => w'.cell? ⟨w.heap.size, 0, none⟩ = .some (.int .i64 p) ∧ w'.cell? ⟨w.heap.size, 1, none⟩ = .some (.int .i64 m) ∧ w'.cell? ⟨w.heap.size, 2, none⟩ = .some (.slice (.some ⟨b, off, none⟩) xs.length c)) (go_keep)
        (first
          | (go_at_call 188; (refine (l01Own_c ⟨b, off, none⟩ n c (xs.take n) _ ((hv1.below ((by (repeat (first | exact Below.refl _ _ | (refine Below.setCell ?_ (by first | (simp; done) | (simp; omega) | omega) _) | (refine Below.alloc ?_ (by first | (simp; done) | (simp; omega) | omega) _) | (refine below_drewN ?_ _) | (refine Below.drew ?_))))) (Nat.le_refl _)).take _ (by omega)) (by rw [HL'.out]; omega)).mono ?_; rintro e w2 ⟨v2, rfl, how, hb2⟩; obtain ⟨o1, c1, rfl⟩ := how.shape; rw [HL'.out] at how ⊢; have hb3 := Below.trans (a := w1) (B := w1.heap.size) ((by (repeat (first | exact Below.refl _ _ | (refine Below.setCell ?_ (by first | (simp; done) | (simp; omega) | omega) _) | (refine Below.alloc ?_ (by first | (simp; done) | (simp; omega) | omega) _) | (refine below_drewN ?_ _) | (refine Below.drew ?_))))) hb2; clear hb2; (have X2 := X1.below hb3 (Nat.le_refl _); have R2 := R1.below hb3 (Nat.le_refl _); have B2 := B1.trans (hb3.mono B1.size)); obtain ⟨k0, k1, k2⟩ := id X2; obtain ⟨⟨r0, r1, r2⟩, rf⟩ := id R2))
          | (go_at_call 182; (refine (l13With_c p m _ _ _ _ _ _ _).mono ?_; rintro e w3 ⟨rfl, hb4⟩; (have X3 := X2.below hb4 (Nat.le_refl _); have R3 := R2.below hb4 (Nat.le_refl _); have B3 := B2.trans (hb4.mono B2.size)); obtain ⟨k0, k1, k2⟩ := id X3; obtain ⟨⟨r0, r1, r2⟩, rf⟩ := id R3; have how3 := how.below hb4)))
      go_wp2
      refine bodyPost_ret (v := .tuple #[.agg #[.int .i64 p, .int .i64 m, .slice o1 n c1], .int .i64 0]) (by simp [results, Try.results79, go_sem, r0, r1, r2]) rfl ⟨_, rfl, ?_, ?_, by simp; omega⟩
      · exact (((how3.low (by first | (simp; done) | (simp; omega) | omega) _).low (by first | (simp; done) | (simp; omega) | omega) _).low (by first | (simp; done) | (simp; omega) | omega) _).mono (by first | (simp; done) | (simp; omega) | omega)
      · (repeat (first | exact Below.refl _ _ | (refine Below.setCell ?_ (by first | (simp; done) | (simp; omega) | omega) _) | (refine Below.alloc ?_ (by first | (simp; done) | (simp; omega) | omega) _) | (refine below_drewN ?_ _) | (refine Below.drew ?_) | (refine Below.trans ?_ (Below.mono B3 (by first | (simp; done) | (simp; omega) | omega)))))

end Go.Proofs.Ytcjinlfgeljmkaa
