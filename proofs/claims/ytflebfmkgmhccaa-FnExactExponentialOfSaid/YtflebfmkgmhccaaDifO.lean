/- Differentials, logarithms and exponentials of laws: the functions that are called. -/
import Derived.Test.YtflebfmkgmhccaaDif
set_option linter.unusedSimpArgs false
set_option linter.unusedVariables false
namespace Go.Proofs.Ytflebfmkgmhccaa
open Go.RowKit

theorem reverseS_d (m : Int) (n : Nat) (v : Value) (xs : List Int) (w : World) (hl : xs.length = n) (hv : RdI w v xs) (h1 : 2 ≤ n) (hn : n ≤ 1000) (hm : 2 ≤ m) (hm' : m ≤ 10000) (hx : ∀ x ∈ xs, 0 ≤ x ∧ x < m) :
    Calls Try.prog 101 #[.agg #[.int .i64 m, v]] w fun e w' => SVEnd w w' m (revL m n xs) e := by
  subst hl; exact reverseS_c m v xs w hv h1 hn hm hm' hx

set_option maxHeartbeats 2000000 in
set_option maxRecDepth 100000 in
theorem DifferentialOf_c (m : Int) (v : Value) (t : List (List Int)) (w : World) (hv : RdT w v t) :
    Calls Try.prog 47 #[.agg #[.int .i64 m, v]] w fun e w' => SEnd w w' (difR m t) e := by
  obtain ⟨o, c, rfl, hmt, -⟩ := id hv
  have hml := hmt.1
  cases h1 : lawB m t
  · have hR : difR m t = SR.bad 1 := by simp [difR, h1]
    rw [hR]
    go_enter Try.func47, Try.ntmps47
    go_wp2_with fail
    (have X0 := ((RB2.mk1 w  (.int .i64 m) (.slice o t.length c) 29).1).below (w' := ((w.alloc (.cells #[.int .i64 m, .slice o t.length c] 29)).alloc (.cells #[.int .i64 0, .slice none 0 0] 41))) (by (repeat (first | exact Below.refl _ _ | (refine Below.setCell ?_ (by first | (simp; done) | (simp; omega) | omega) _) | (refine Below.alloc ?_ (by first | (simp; done) | (simp; omega) | omega) _) | (refine below_drewN ?_ _) | (refine Below.drew ?_)))) (Nat.le_refl _); have R0 := ((RB2.mk2 w (.cells #[.int .i64 m, .slice o t.length c] 29) (.int .i64 0) (.slice none 0 0) 41)).below (w' := ((w.alloc (.cells #[.int .i64 m, .slice o t.length c] 29)).alloc (.cells #[.int .i64 0, .slice none 0 0] 41))) (by (repeat (first | exact Below.refl _ _ | (refine Below.setCell ?_ (by first | (simp; done) | (simp; omega) | omega) _) | (refine Below.alloc ?_ (by first | (simp; done) | (simp; omega) | omega) _) | (refine below_drewN ?_ _) | (refine Below.drew ?_)))) (Nat.le_refl _); have B0 : Below w.heap.size w ((w.alloc (.cells #[.int .i64 m, .slice o t.length c] 29)).alloc (.cells #[.int .i64 0, .slice none 0 0] 41)) := (by (repeat (first | exact Below.refl _ _ | (refine Below.setCell ?_ (by first | (simp; done) | (simp; omega) | omega) _) | (refine Below.alloc ?_ (by first | (simp; done) | (simp; omega) | omega) _) | (refine below_drewN ?_ _) | (refine Below.drew ?_)))); have hv0 := hv.below (w' := ((w.alloc (.cells #[.int .i64 m, .slice o t.length c] 29)).alloc (.cells #[.int .i64 0, .slice none 0 0] 41))) (by (repeat (first | exact Below.refl _ _ | (refine Below.setCell ?_ (by first | (simp; done) | (simp; omega) | omega) _) | (refine Below.alloc ?_ (by first | (simp; done) | (simp; omega) | omega) _) | (refine below_drewN ?_ _) | (refine Below.drew ?_)))) (Nat.le_refl _); generalize (w.alloc (.cells #[.int .i64 m, .slice o t.length c] 29)).alloc (.cells #[.int .i64 0, .slice none 0 0] 41) = w0 at X0 R0 B0 hv0 ⊢)
    (obtain ⟨gqX0, gqX1⟩ := id X0; go_wp2_with fail; refine (IsLaw_c m _ t _ hv0).mono ?_; rw [h1]; rintro e w1 ⟨rfl, hb⟩; (have X1 := X0.below hb (Nat.le_refl _); have R1 := R0.below hb (Nat.le_refl _); have B1 := B0.trans (hb.mono B0.size)); clear gqX0 gqX1; clear hb)
    (obtain ⟨⟨r0, r1⟩, rf⟩ := id R1; go_wp2; exact bodyPost_ret (v := .tuple #[.agg #[.int .i64 0, .slice none 0 0], .int .i64 1]) (by simp [results, Try.results47, go_sem, r0, r1]) rfl ⟨_, rfl, OwI.nil _ _, (by (repeat (first | exact Below.refl _ _ | (refine Below.setCell ?_ (by first | (simp; done) | (simp; omega) | omega) _) | (refine Below.alloc ?_ (by first | (simp; done) | (simp; omega) | omega) _) | (refine below_drewN ?_ _) | (refine Below.drew ?_) | (refine Below.trans ?_ (Below.mono B1 (by first | (simp; done) | (simp; omega) | omega)))))), by simp [SR.bad]⟩)
  · have hp := (lawB_t h1).1
    have hm := pla_m hp
    have hn := pla_n hp
    have HT := Lib.hid (show PlaT m t.length t from ⟨rfl, pla_row hp⟩)
    clear hp
    unfold maxLen at hmt
    by_cases h2 : t.length = 2
    · have hR : difR m t = SR.bad 5 := by simp [difR, h1, h2]
      rw [hR]
      have hcc : ((t.length : Int) - 1 == 1) = true := by simp; omega
      have hcd : ((t.length : Int) == 2) = true := by simp; omega
      clear h2
      go_enter Try.func47, Try.ntmps47
      go_wp2_with fail
      (have X0 := ((RB2.mk1 w  (.int .i64 m) (.slice o t.length c) 29).1).below (w' := ((w.alloc (.cells #[.int .i64 m, .slice o t.length c] 29)).alloc (.cells #[.int .i64 0, .slice none 0 0] 41))) (by (repeat (first | exact Below.refl _ _ | (refine Below.setCell ?_ (by first | (simp; done) | (simp; omega) | omega) _) | (refine Below.alloc ?_ (by first | (simp; done) | (simp; omega) | omega) _) | (refine below_drewN ?_ _) | (refine Below.drew ?_)))) (Nat.le_refl _); have R0 := ((RB2.mk2 w (.cells #[.int .i64 m, .slice o t.length c] 29) (.int .i64 0) (.slice none 0 0) 41)).below (w' := ((w.alloc (.cells #[.int .i64 m, .slice o t.length c] 29)).alloc (.cells #[.int .i64 0, .slice none 0 0] 41))) (by (repeat (first | exact Below.refl _ _ | (refine Below.setCell ?_ (by first | (simp; done) | (simp; omega) | omega) _) | (refine Below.alloc ?_ (by first | (simp; done) | (simp; omega) | omega) _) | (refine below_drewN ?_ _) | (refine Below.drew ?_)))) (Nat.le_refl _); have B0 : Below w.heap.size w ((w.alloc (.cells #[.int .i64 m, .slice o t.length c] 29)).alloc (.cells #[.int .i64 0, .slice none 0 0] 41)) := (by (repeat (first | exact Below.refl _ _ | (refine Below.setCell ?_ (by first | (simp; done) | (simp; omega) | omega) _) | (refine Below.alloc ?_ (by first | (simp; done) | (simp; omega) | omega) _) | (refine below_drewN ?_ _) | (refine Below.drew ?_)))); have hv0 := hv.below (w' := ((w.alloc (.cells #[.int .i64 m, .slice o t.length c] 29)).alloc (.cells #[.int .i64 0, .slice none 0 0] 41))) (by (repeat (first | exact Below.refl _ _ | (refine Below.setCell ?_ (by first | (simp; done) | (simp; omega) | omega) _) | (refine Below.alloc ?_ (by first | (simp; done) | (simp; omega) | omega) _) | (refine below_drewN ?_ _) | (refine Below.drew ?_)))) (Nat.le_refl _); generalize (w.alloc (.cells #[.int .i64 m, .slice o t.length c] 29)).alloc (.cells #[.int .i64 0, .slice none 0 0] 41) = w0 at X0 R0 B0 hv0 ⊢)
      (obtain ⟨gqX0, gqX1⟩ := id X0; go_wp2_with fail; refine (IsLaw_c m _ t _ hv0).mono ?_; rw [h1]; rintro e w1 ⟨rfl, hb⟩; (have X1 := X0.below hb (Nat.le_refl _); have R1 := R0.below hb (Nat.le_refl _); have B1 := B0.trans (hb.mono B0.size)); clear gqX0 gqX1; clear hb)
      (obtain ⟨gqX0, gqX1⟩ := id X1; go_wp2_with fail; refine (degreeP_c m o t.length c _ hml).mono ?_; rintro e w2 ⟨rfl, hb⟩; (have X2 := X1.below hb (Nat.le_refl _); have R2 := R1.below hb (Nat.le_refl _); have B2 := B1.trans (hb.mono B1.size)); clear gqX0 gqX1; clear hb)
      (obtain ⟨⟨r0, r1⟩, rf⟩ := id R2; go_wp2; exact bodyPost_ret (v := .tuple #[.agg #[.int .i64 0, .slice none 0 0], .int .i64 5]) (by simp [results, Try.results47, go_sem, r0, r1]) rfl ⟨_, rfl, OwI.nil _ _, (by (repeat (first | exact Below.refl _ _ | (refine Below.setCell ?_ (by first | (simp; done) | (simp; omega) | omega) _) | (refine Below.alloc ?_ (by first | (simp; done) | (simp; omega) | omega) _) | (refine below_drewN ?_ _) | (refine Below.drew ?_) | (refine Below.trans ?_ (Below.mono B2 (by first | (simp; done) | (simp; omega) | omega)))))), by simp [SR.bad]⟩)
    · have hR : difR m t = ⟨m, difL m t, 0⟩ := by simp [difR, h1, h2]
      rw [hR]
      have hcc : ((t.length : Int) - 1 == 1) = false := by simp; omega
      have hcd : ((t.length : Int) == 2) = false := by simp; omega
      have hDl := difL_len (m := m) (show 2 ≤ t.length by omega)
      have HDL := Lib.hid hDl
      have hlen : (difL m t).length ≤ 1048576 := by omega
      clear h2 hR hDl
      go_enter Try.func47, Try.ntmps47
      go_wp2_with fail
      (have X0 := ((RB2.mk1 w  (.int .i64 m) (.slice o t.length c) 29).1).below (w' := ((w.alloc (.cells #[.int .i64 m, .slice o t.length c] 29)).alloc (.cells #[.int .i64 0, .slice none 0 0] 41))) (by (repeat (first | exact Below.refl _ _ | (refine Below.setCell ?_ (by first | (simp; done) | (simp; omega) | omega) _) | (refine Below.alloc ?_ (by first | (simp; done) | (simp; omega) | omega) _) | (refine below_drewN ?_ _) | (refine Below.drew ?_)))) (Nat.le_refl _); have R0 := ((RB2.mk2 w (.cells #[.int .i64 m, .slice o t.length c] 29) (.int .i64 0) (.slice none 0 0) 41)).below (w' := ((w.alloc (.cells #[.int .i64 m, .slice o t.length c] 29)).alloc (.cells #[.int .i64 0, .slice none 0 0] 41))) (by (repeat (first | exact Below.refl _ _ | (refine Below.setCell ?_ (by first | (simp; done) | (simp; omega) | omega) _) | (refine Below.alloc ?_ (by first | (simp; done) | (simp; omega) | omega) _) | (refine below_drewN ?_ _) | (refine Below.drew ?_)))) (Nat.le_refl _); have B0 : Below w.heap.size w ((w.alloc (.cells #[.int .i64 m, .slice o t.length c] 29)).alloc (.cells #[.int .i64 0, .slice none 0 0] 41)) := (by (repeat (first | exact Below.refl _ _ | (refine Below.setCell ?_ (by first | (simp; done) | (simp; omega) | omega) _) | (refine Below.alloc ?_ (by first | (simp; done) | (simp; omega) | omega) _) | (refine below_drewN ?_ _) | (refine Below.drew ?_)))); have hv0 := hv.below (w' := ((w.alloc (.cells #[.int .i64 m, .slice o t.length c] 29)).alloc (.cells #[.int .i64 0, .slice none 0 0] 41))) (by (repeat (first | exact Below.refl _ _ | (refine Below.setCell ?_ (by first | (simp; done) | (simp; omega) | omega) _) | (refine Below.alloc ?_ (by first | (simp; done) | (simp; omega) | omega) _) | (refine below_drewN ?_ _) | (refine Below.drew ?_)))) (Nat.le_refl _); generalize (w.alloc (.cells #[.int .i64 m, .slice o t.length c] 29)).alloc (.cells #[.int .i64 0, .slice none 0 0] 41) = w0 at X0 R0 B0 hv0 ⊢)
      (obtain ⟨gqX0, gqX1⟩ := id X0; go_wp2_with fail; refine (IsLaw_c m _ t _ hv0).mono ?_; rw [h1]; rintro e w1 ⟨rfl, hb⟩; (have X1 := X0.below hb (Nat.le_refl _); have R1 := R0.below hb (Nat.le_refl _); have hv1 := hv0.below hb (Nat.le_refl _); have B1 := B0.trans (hb.mono B0.size)); clear gqX0 gqX1; clear hb)
      (obtain ⟨gqX0, gqX1⟩ := id X1; go_wp2_with fail; refine (degreeP_c m o t.length c _ hml).mono ?_; rintro e w2 ⟨rfl, hb⟩; (have X2 := X1.below hb (Nat.le_refl _); have R2 := R1.below hb (Nat.le_refl _); have hv2 := hv1.below hb (Nat.le_refl _); have B2 := B1.trans (hb.mono B1.size)); clear gqX0 gqX1; clear hb)
      (obtain ⟨gqX0, gqX1⟩ := id X2; go_wp2_with fail; refine (differential_c m t.length _ t _ hv2 (by omega) (by omega) (by omega) (by omega) HT.out).mono ?_; rintro e w3 ⟨vR, rfl, how, hb⟩; obtain ⟨oV, cV, rfl⟩ := how.shapeN (n := t.length - 1) (HDL.out); have hz := R2.1.lt; have hB := B2.size; (have R3 := R2.below hb (Nat.le_refl _); have B3 := B2.trans (hb.mono B2.size)); obtain ⟨⟨r0, r1⟩, rf⟩ := id R3; go_wp2; exact bodyPost_ret (v := .tuple #[.agg #[.int .i64 m, .slice oV (t.length - 1) cV], .int .i64 0]) (by simp [results, Try.results47, go_sem, r0, r1]) rfl ⟨_, rfl, ((how.low hz _).low hz _).mono hB, (by (repeat (first | exact Below.refl _ _ | (refine Below.setCell ?_ (by first | (simp; done) | (simp; omega) | omega) _) | (refine Below.alloc ?_ (by first | (simp; done) | (simp; omega) | omega) _) | (refine below_drewN ?_ _) | (refine Below.drew ?_) | (refine Below.trans ?_ (Below.mono B3 (by first | (simp; done) | (simp; omega) | omega)))))), hlen⟩)

set_option maxHeartbeats 2000000 in
set_option maxRecDepth 100000 in
theorem LogarithmOf_c (m : Int) (v : Value) (t : List (List Int)) (w : World) (hv : RdT w v t) :
    Calls Try.prog 49 #[.agg #[.int .i64 m, v]] w fun e w' => SEnd w w' (logR m t) e := by
  obtain ⟨o, c, rfl, hmt, -⟩ := id hv
  have hml := hmt.1
  by_cases hc : logC m t = 0
  · have h1 := (logC_0 hc).1
    have hR : logR m t = ⟨m, logL m t, 0⟩ := by simp [logR, hc]
    rw [hR]
    have hp := (lawB_t h1).1
    have hm := pla_m hp
    have hn := pla_n hp
    have h10 : atT t 1 0 = 1 := fauL_due (lawB_t h1).2 1 (by omega)
    have HT := Lib.hid (show PlaT m t.length t from ⟨rfl, pla_row hp⟩)
    have HC := Lib.hid hc
    have HLL := Lib.hid (logL_len (m := m) (show 2 ≤ t.length by omega))
    have HLR := Lib.hid (logL_range (m := m) (show 0 < m by omega) t)
    have H10 := Lib.hid h10
    have HVL := Lib.hid (show (logL m t).length = t.length from logL_len (show 2 ≤ t.length by omega))
    have hlen : (logL m t).length ≤ 1048576 := by rw [HVL.out]; omega
    have hcc : ((0 : Int) != 0) = false := by simp
    clear hp h1 hc hR h10
    unfold maxLen at hmt
    go_enter Try.func49, Try.ntmps49
    go_wp2_with fail
    (have X0 := ((RB2.mk1 w  (.int .i64 m) (.slice o t.length c) 29).1).below (w' := ((w.alloc (.cells #[.int .i64 m, .slice o t.length c] 29)).alloc (.cells #[.int .i64 0, .slice none 0 0] 41))) (by (repeat (first | exact Below.refl _ _ | (refine Below.setCell ?_ (by first | (simp; done) | (simp; omega) | omega) _) | (refine Below.alloc ?_ (by first | (simp; done) | (simp; omega) | omega) _) | (refine below_drewN ?_ _) | (refine Below.drew ?_)))) (Nat.le_refl _); have R0 := ((RB2.mk2 w (.cells #[.int .i64 m, .slice o t.length c] 29) (.int .i64 0) (.slice none 0 0) 41)).below (w' := ((w.alloc (.cells #[.int .i64 m, .slice o t.length c] 29)).alloc (.cells #[.int .i64 0, .slice none 0 0] 41))) (by (repeat (first | exact Below.refl _ _ | (refine Below.setCell ?_ (by first | (simp; done) | (simp; omega) | omega) _) | (refine Below.alloc ?_ (by first | (simp; done) | (simp; omega) | omega) _) | (refine below_drewN ?_ _) | (refine Below.drew ?_)))) (Nat.le_refl _); have B0 : Below w.heap.size w ((w.alloc (.cells #[.int .i64 m, .slice o t.length c] 29)).alloc (.cells #[.int .i64 0, .slice none 0 0] 41)) := (by (repeat (first | exact Below.refl _ _ | (refine Below.setCell ?_ (by first | (simp; done) | (simp; omega) | omega) _) | (refine Below.alloc ?_ (by first | (simp; done) | (simp; omega) | omega) _) | (refine below_drewN ?_ _) | (refine Below.drew ?_)))); have hv0 := hv.below (w' := ((w.alloc (.cells #[.int .i64 m, .slice o t.length c] 29)).alloc (.cells #[.int .i64 0, .slice none 0 0] 41))) (by (repeat (first | exact Below.refl _ _ | (refine Below.setCell ?_ (by first | (simp; done) | (simp; omega) | omega) _) | (refine Below.alloc ?_ (by first | (simp; done) | (simp; omega) | omega) _) | (refine below_drewN ?_ _) | (refine Below.drew ?_)))) (Nat.le_refl _); generalize (w.alloc (.cells #[.int .i64 m, .slice o t.length c] 29)).alloc (.cells #[.int .i64 0, .slice none 0 0] 41) = w0 at X0 R0 B0 hv0 ⊢)
    (obtain ⟨gqX0, gqX1⟩ := id X0; go_wp2_with fail; refine (logarithmic_c m _ t _ hv0).mono ?_; rw [HC.out]; rintro e w1 ⟨rfl, hb⟩; (have X1 := X0.below hb (Nat.le_refl _); have R1 := R0.below hb (Nat.le_refl _); have hv1 := hv0.below hb (Nat.le_refl _); have B1 := B0.trans (hb.mono B0.size)); clear gqX0 gqX1; clear hb)
    (obtain ⟨gqX0, gqX1⟩ := id X1; go_wp2_with fail; refine (logarithm_c m t.length _ t _ hv1 (by omega) (by omega) (by omega) (by omega) HT.out H10.out).mono ?_; rintro e w2 ⟨vR, rfl, how, hb⟩; obtain ⟨oV, cV, rfl⟩ := how.shapeN (n := t.length) (HVL.out); have hz := R1.1.lt; have hB := B1.size; (have R2 := R1.below hb (Nat.le_refl _); have B2 := B1.trans (hb.mono B1.size)); obtain ⟨⟨r0, r1⟩, rf⟩ := id R2; go_wp2; exact bodyPost_ret (v := .tuple #[.agg #[.int .i64 m, .slice oV t.length cV], .int .i64 0]) (by simp [results, Try.results49, go_sem, r0, r1]) rfl ⟨_, rfl, ((how.low hz _).low hz _).mono hB, (by (repeat (first | exact Below.refl _ _ | (refine Below.setCell ?_ (by first | (simp; done) | (simp; omega) | omega) _) | (refine Below.alloc ?_ (by first | (simp; done) | (simp; omega) | omega) _) | (refine below_drewN ?_ _) | (refine Below.drew ?_) | (refine Below.trans ?_ (Below.mono B2 (by first | (simp; done) | (simp; omega) | omega)))))), hlen⟩)
  · have hR : logR m t = SR.bad (logC m t) := by simp [logR, hc]
    rw [hR]
    clear hR
    obtain ⟨cc, hcc0⟩ : ∃ cc, logC m t = cc := ⟨_, rfl⟩
    rw [hcc0] at hc ⊢
    have HC := Lib.hid hcc0
    clear hcc0
    have hcc : (cc != 0) = true := by simpa using hc
    clear hc
    go_enter Try.func49, Try.ntmps49
    go_wp2_with fail
    (have X0 := ((RB2.mk1 w  (.int .i64 m) (.slice o t.length c) 29).1).below (w' := ((w.alloc (.cells #[.int .i64 m, .slice o t.length c] 29)).alloc (.cells #[.int .i64 0, .slice none 0 0] 41))) (by (repeat (first | exact Below.refl _ _ | (refine Below.setCell ?_ (by first | (simp; done) | (simp; omega) | omega) _) | (refine Below.alloc ?_ (by first | (simp; done) | (simp; omega) | omega) _) | (refine below_drewN ?_ _) | (refine Below.drew ?_)))) (Nat.le_refl _); have R0 := ((RB2.mk2 w (.cells #[.int .i64 m, .slice o t.length c] 29) (.int .i64 0) (.slice none 0 0) 41)).below (w' := ((w.alloc (.cells #[.int .i64 m, .slice o t.length c] 29)).alloc (.cells #[.int .i64 0, .slice none 0 0] 41))) (by (repeat (first | exact Below.refl _ _ | (refine Below.setCell ?_ (by first | (simp; done) | (simp; omega) | omega) _) | (refine Below.alloc ?_ (by first | (simp; done) | (simp; omega) | omega) _) | (refine below_drewN ?_ _) | (refine Below.drew ?_)))) (Nat.le_refl _); have B0 : Below w.heap.size w ((w.alloc (.cells #[.int .i64 m, .slice o t.length c] 29)).alloc (.cells #[.int .i64 0, .slice none 0 0] 41)) := (by (repeat (first | exact Below.refl _ _ | (refine Below.setCell ?_ (by first | (simp; done) | (simp; omega) | omega) _) | (refine Below.alloc ?_ (by first | (simp; done) | (simp; omega) | omega) _) | (refine below_drewN ?_ _) | (refine Below.drew ?_)))); have hv0 := hv.below (w' := ((w.alloc (.cells #[.int .i64 m, .slice o t.length c] 29)).alloc (.cells #[.int .i64 0, .slice none 0 0] 41))) (by (repeat (first | exact Below.refl _ _ | (refine Below.setCell ?_ (by first | (simp; done) | (simp; omega) | omega) _) | (refine Below.alloc ?_ (by first | (simp; done) | (simp; omega) | omega) _) | (refine below_drewN ?_ _) | (refine Below.drew ?_)))) (Nat.le_refl _); generalize (w.alloc (.cells #[.int .i64 m, .slice o t.length c] 29)).alloc (.cells #[.int .i64 0, .slice none 0 0] 41) = w0 at X0 R0 B0 hv0 ⊢)
    (obtain ⟨gqX0, gqX1⟩ := id X0; go_wp2_with fail; refine (logarithmic_c m _ t _ hv0).mono ?_; rw [HC.out]; rintro e w1 ⟨rfl, hb⟩; (have R1 := R0.below hb (Nat.le_refl _); have B1 := B0.trans (hb.mono B0.size)); clear gqX0 gqX1; clear hb)
    (obtain ⟨⟨r0, r1⟩, rf⟩ := id R1; go_wp2; exact bodyPost_ret (v := .tuple #[.agg #[.int .i64 0, .slice none 0 0], .int .i64 cc]) (by simp [results, Try.results49, go_sem, r0, r1]) rfl ⟨_, rfl, OwI.nil _ _, (by (repeat (first | exact Below.refl _ _ | (refine Below.setCell ?_ (by first | (simp; done) | (simp; omega) | omega) _) | (refine Below.alloc ?_ (by first | (simp; done) | (simp; omega) | omega) _) | (refine below_drewN ?_ _) | (refine Below.drew ?_) | (refine Below.trans ?_ (Below.mono B1 (by first | (simp; done) | (simp; omega) | omega)))))), by simp [SR.bad]⟩)

set_option maxHeartbeats 2000000 in
set_option maxRecDepth 100000 in
theorem ExponentialOf_c (m : Int) (v : Value) (t : List (List Int)) (w : World) (hv : RdT w v t) :
    Calls Try.prog 51 #[.agg #[.int .i64 m, v]] w fun e w' => SEnd w w' (expR m t) e := by
  obtain ⟨o, c, rfl, hmt, -⟩ := id hv
  have hml := hmt.1
  by_cases hc : logC m t = 0
  · have h1 := (logC_0 hc).1
    have hR : expR m t = ⟨m, revL m t.length (logL m t), 0⟩ := by simp [expR, hc]
    rw [hR]
    have hp := (lawB_t h1).1
    have hm := pla_m hp
    have hn := pla_n hp
    have h10 : atT t 1 0 = 1 := fauL_due (lawB_t h1).2 1 (by omega)
    have HT := Lib.hid (show PlaT m t.length t from ⟨rfl, pla_row hp⟩)
    have HC := Lib.hid hc
    have HLL := Lib.hid (logL_len (m := m) (show 2 ≤ t.length by omega))
    have HLR := Lib.hid (logL_range (m := m) (show 0 < m by omega) t)
    have H10 := Lib.hid h10
    have HVL := Lib.hid (show (revL m t.length (logL m t)).length = t.length from revL_len _ _ _)
    have hlen : (revL m t.length (logL m t)).length ≤ 1048576 := by rw [HVL.out]; omega
    have hcc : ((0 : Int) != 0) = false := by simp
    clear hp h1 hc hR h10
    unfold maxLen at hmt
    go_enter Try.func51, Try.ntmps51
    go_wp2_with fail
    (have X0 := ((RB2.mk1 w  (.int .i64 m) (.slice o t.length c) 29).1).below (w' := ((w.alloc (.cells #[.int .i64 m, .slice o t.length c] 29)).alloc (.cells #[.int .i64 0, .slice none 0 0] 41))) (by (repeat (first | exact Below.refl _ _ | (refine Below.setCell ?_ (by first | (simp; done) | (simp; omega) | omega) _) | (refine Below.alloc ?_ (by first | (simp; done) | (simp; omega) | omega) _) | (refine below_drewN ?_ _) | (refine Below.drew ?_)))) (Nat.le_refl _); have R0 := ((RB2.mk2 w (.cells #[.int .i64 m, .slice o t.length c] 29) (.int .i64 0) (.slice none 0 0) 41)).below (w' := ((w.alloc (.cells #[.int .i64 m, .slice o t.length c] 29)).alloc (.cells #[.int .i64 0, .slice none 0 0] 41))) (by (repeat (first | exact Below.refl _ _ | (refine Below.setCell ?_ (by first | (simp; done) | (simp; omega) | omega) _) | (refine Below.alloc ?_ (by first | (simp; done) | (simp; omega) | omega) _) | (refine below_drewN ?_ _) | (refine Below.drew ?_)))) (Nat.le_refl _); have B0 : Below w.heap.size w ((w.alloc (.cells #[.int .i64 m, .slice o t.length c] 29)).alloc (.cells #[.int .i64 0, .slice none 0 0] 41)) := (by (repeat (first | exact Below.refl _ _ | (refine Below.setCell ?_ (by first | (simp; done) | (simp; omega) | omega) _) | (refine Below.alloc ?_ (by first | (simp; done) | (simp; omega) | omega) _) | (refine below_drewN ?_ _) | (refine Below.drew ?_)))); have hv0 := hv.below (w' := ((w.alloc (.cells #[.int .i64 m, .slice o t.length c] 29)).alloc (.cells #[.int .i64 0, .slice none 0 0] 41))) (by (repeat (first | exact Below.refl _ _ | (refine Below.setCell ?_ (by first | (simp; done) | (simp; omega) | omega) _) | (refine Below.alloc ?_ (by first | (simp; done) | (simp; omega) | omega) _) | (refine below_drewN ?_ _) | (refine Below.drew ?_)))) (Nat.le_refl _); generalize (w.alloc (.cells #[.int .i64 m, .slice o t.length c] 29)).alloc (.cells #[.int .i64 0, .slice none 0 0] 41) = w0 at X0 R0 B0 hv0 ⊢)
    (obtain ⟨gqX0, gqX1⟩ := id X0; go_wp2_with fail; refine (logarithmic_c m _ t _ hv0).mono ?_; rw [HC.out]; rintro e w1 ⟨rfl, hb⟩; (have X1 := X0.below hb (Nat.le_refl _); have R1 := R0.below hb (Nat.le_refl _); have hv1 := hv0.below hb (Nat.le_refl _); have B1 := B0.trans (hb.mono B0.size)); clear gqX0 gqX1; clear hb)
    obtain ⟨x0, x1⟩ := id X1
    go_wp2_with fail
    refine (logarithm_c m t.length _ t _ hv1 (by omega) (by omega) (by omega) (by omega) HT.out H10.out).mono ?_
    rintro e w2 ⟨vl, rfl, hol, hb⟩
    clear x0 x1
    obtain ⟨ol, cl, rfl⟩ := hol.shapeN (n := t.length) HLL.out
    (have X2 := X1.below hb (Nat.le_refl _); have R2 := R1.below hb (Nat.le_refl _); have B2 := B1.trans (hb.mono B1.size))
    have hol2 := hol
    (go_wp2_with fail; refine (reverseS_d m t.length _ (logL m t) _ HLL.out hol2.rd (by omega) (by omega) (by omega) (by omega) HLR.out).mono ?_; rintro e w3 ⟨vR, rfl, how, hb⟩; obtain ⟨oV, cV, rfl⟩ := how.shapeN (n := t.length) (HVL.out); have hz := R2.1.lt; have hB := B2.size; (have R3 := R2.below hb (Nat.le_refl _); have B3 := B2.trans (hb.mono B2.size)); obtain ⟨⟨r0, r1⟩, rf⟩ := id R3; go_wp2; exact bodyPost_ret (v := .tuple #[.agg #[.int .i64 m, .slice oV t.length cV], .int .i64 0]) (by simp [results, Try.results51, go_sem, r0, r1]) rfl ⟨_, rfl, ((how.low hz _).low hz _).mono hB, (by (repeat (first | exact Below.refl _ _ | (refine Below.setCell ?_ (by first | (simp; done) | (simp; omega) | omega) _) | (refine Below.alloc ?_ (by first | (simp; done) | (simp; omega) | omega) _) | (refine below_drewN ?_ _) | (refine Below.drew ?_) | (refine Below.trans ?_ (Below.mono B3 (by first | (simp; done) | (simp; omega) | omega)))))), hlen⟩)
  · have hR : expR m t = SR.bad (logC m t) := by simp [expR, hc]
    rw [hR]
    clear hR
    obtain ⟨cc, hcc0⟩ : ∃ cc, logC m t = cc := ⟨_, rfl⟩
    rw [hcc0] at hc ⊢
    have HC := Lib.hid hcc0
    clear hcc0
    have hcc : (cc != 0) = true := by simpa using hc
    clear hc
    go_enter Try.func51, Try.ntmps51
    go_wp2_with fail
    (have X0 := ((RB2.mk1 w  (.int .i64 m) (.slice o t.length c) 29).1).below (w' := ((w.alloc (.cells #[.int .i64 m, .slice o t.length c] 29)).alloc (.cells #[.int .i64 0, .slice none 0 0] 41))) (by (repeat (first | exact Below.refl _ _ | (refine Below.setCell ?_ (by first | (simp; done) | (simp; omega) | omega) _) | (refine Below.alloc ?_ (by first | (simp; done) | (simp; omega) | omega) _) | (refine below_drewN ?_ _) | (refine Below.drew ?_)))) (Nat.le_refl _); have R0 := ((RB2.mk2 w (.cells #[.int .i64 m, .slice o t.length c] 29) (.int .i64 0) (.slice none 0 0) 41)).below (w' := ((w.alloc (.cells #[.int .i64 m, .slice o t.length c] 29)).alloc (.cells #[.int .i64 0, .slice none 0 0] 41))) (by (repeat (first | exact Below.refl _ _ | (refine Below.setCell ?_ (by first | (simp; done) | (simp; omega) | omega) _) | (refine Below.alloc ?_ (by first | (simp; done) | (simp; omega) | omega) _) | (refine below_drewN ?_ _) | (refine Below.drew ?_)))) (Nat.le_refl _); have B0 : Below w.heap.size w ((w.alloc (.cells #[.int .i64 m, .slice o t.length c] 29)).alloc (.cells #[.int .i64 0, .slice none 0 0] 41)) := (by (repeat (first | exact Below.refl _ _ | (refine Below.setCell ?_ (by first | (simp; done) | (simp; omega) | omega) _) | (refine Below.alloc ?_ (by first | (simp; done) | (simp; omega) | omega) _) | (refine below_drewN ?_ _) | (refine Below.drew ?_)))); have hv0 := hv.below (w' := ((w.alloc (.cells #[.int .i64 m, .slice o t.length c] 29)).alloc (.cells #[.int .i64 0, .slice none 0 0] 41))) (by (repeat (first | exact Below.refl _ _ | (refine Below.setCell ?_ (by first | (simp; done) | (simp; omega) | omega) _) | (refine Below.alloc ?_ (by first | (simp; done) | (simp; omega) | omega) _) | (refine below_drewN ?_ _) | (refine Below.drew ?_)))) (Nat.le_refl _); generalize (w.alloc (.cells #[.int .i64 m, .slice o t.length c] 29)).alloc (.cells #[.int .i64 0, .slice none 0 0] 41) = w0 at X0 R0 B0 hv0 ⊢)
    (obtain ⟨gqX0, gqX1⟩ := id X0; go_wp2_with fail; refine (logarithmic_c m _ t _ hv0).mono ?_; rw [HC.out]; rintro e w1 ⟨rfl, hb⟩; (have R1 := R0.below hb (Nat.le_refl _); have B1 := B0.trans (hb.mono B0.size)); clear gqX0 gqX1; clear hb)
    (obtain ⟨⟨r0, r1⟩, rf⟩ := id R1; go_wp2; exact bodyPost_ret (v := .tuple #[.agg #[.int .i64 0, .slice none 0 0], .int .i64 cc]) (by simp [results, Try.results51, go_sem, r0, r1]) rfl ⟨_, rfl, OwI.nil _ _, (by (repeat (first | exact Below.refl _ _ | (refine Below.setCell ?_ (by first | (simp; done) | (simp; omega) | omega) _) | (refine Below.alloc ?_ (by first | (simp; done) | (simp; omega) | omega) _) | (refine below_drewN ?_ _) | (refine Below.drew ?_) | (refine Below.trans ?_ (Below.mono B1 (by first | (simp; done) | (simp; omega) | omega)))))), by simp [SR.bad]⟩)

set_option maxHeartbeats 2000000 in
set_option maxRecDepth 100000 in
theorem sDifferentialOf_c (m : Int) (v : Value) (t : List (List Int)) (w : World) (hv : RdT w v t) :
    Calls Try.prog 46 #[.agg #[.int .i64 m, v]] w fun e w' => SEnd w w' (difR m t) e := by
  obtain ⟨o, c, rfl, hmt, -⟩ := id hv
  have hml := hmt.1
  cases h1 : lawB m t
  · have hR : difR m t = SR.bad 1 := by simp [difR, h1]
    rw [hR]
    go_enter Try.func46, Try.ntmps46
    go_wp2_with fail
    (have X0 := ((RB2.mk1 w  (.int .i64 m) (.slice o t.length c) 29).1).below (w' := ((w.alloc (.cells #[.int .i64 m, .slice o t.length c] 29)).alloc (.cells #[.int .i64 0, .slice none 0 0] 41))) (by (repeat (first | exact Below.refl _ _ | (refine Below.setCell ?_ (by first | (simp; done) | (simp; omega) | omega) _) | (refine Below.alloc ?_ (by first | (simp; done) | (simp; omega) | omega) _) | (refine below_drewN ?_ _) | (refine Below.drew ?_)))) (Nat.le_refl _); have R0 := ((RB2.mk2 w (.cells #[.int .i64 m, .slice o t.length c] 29) (.int .i64 0) (.slice none 0 0) 41)).below (w' := ((w.alloc (.cells #[.int .i64 m, .slice o t.length c] 29)).alloc (.cells #[.int .i64 0, .slice none 0 0] 41))) (by (repeat (first | exact Below.refl _ _ | (refine Below.setCell ?_ (by first | (simp; done) | (simp; omega) | omega) _) | (refine Below.alloc ?_ (by first | (simp; done) | (simp; omega) | omega) _) | (refine below_drewN ?_ _) | (refine Below.drew ?_)))) (Nat.le_refl _); have B0 : Below w.heap.size w ((w.alloc (.cells #[.int .i64 m, .slice o t.length c] 29)).alloc (.cells #[.int .i64 0, .slice none 0 0] 41)) := (by (repeat (first | exact Below.refl _ _ | (refine Below.setCell ?_ (by first | (simp; done) | (simp; omega) | omega) _) | (refine Below.alloc ?_ (by first | (simp; done) | (simp; omega) | omega) _) | (refine below_drewN ?_ _) | (refine Below.drew ?_)))); have hv0 := hv.below (w' := ((w.alloc (.cells #[.int .i64 m, .slice o t.length c] 29)).alloc (.cells #[.int .i64 0, .slice none 0 0] 41))) (by (repeat (first | exact Below.refl _ _ | (refine Below.setCell ?_ (by first | (simp; done) | (simp; omega) | omega) _) | (refine Below.alloc ?_ (by first | (simp; done) | (simp; omega) | omega) _) | (refine below_drewN ?_ _) | (refine Below.drew ?_)))) (Nat.le_refl _); generalize (w.alloc (.cells #[.int .i64 m, .slice o t.length c] 29)).alloc (.cells #[.int .i64 0, .slice none 0 0] 41) = w0 at X0 R0 B0 hv0 ⊢)
    (obtain ⟨gqX0, gqX1⟩ := id X0; go_wp2_with fail; refine (l04Is_c m _ t _ hv0).mono ?_; rw [h1]; rintro e w1 ⟨rfl, hb⟩; (have X1 := X0.below hb (Nat.le_refl _); have R1 := R0.below hb (Nat.le_refl _); have B1 := B0.trans (hb.mono B0.size)); clear gqX0 gqX1; clear hb)
    (obtain ⟨⟨r0, r1⟩, rf⟩ := id R1; go_wp2; exact bodyPost_ret (v := .tuple #[.agg #[.int .i64 0, .slice none 0 0], .int .i64 1]) (by simp [results, Try.results46, go_sem, r0, r1]) rfl ⟨_, rfl, OwI.nil _ _, (by (repeat (first | exact Below.refl _ _ | (refine Below.setCell ?_ (by first | (simp; done) | (simp; omega) | omega) _) | (refine Below.alloc ?_ (by first | (simp; done) | (simp; omega) | omega) _) | (refine below_drewN ?_ _) | (refine Below.drew ?_) | (refine Below.trans ?_ (Below.mono B1 (by first | (simp; done) | (simp; omega) | omega)))))), by simp [SR.bad]⟩)
  · have hp := (lawB_t h1).1
    have hm := pla_m hp
    have hn := pla_n hp
    have HT := Lib.hid (show PlaT m t.length t from ⟨rfl, pla_row hp⟩)
    clear hp
    unfold maxLen at hmt
    by_cases h2 : t.length = 2
    · have hR : difR m t = SR.bad 5 := by simp [difR, h1, h2]
      rw [hR]
      have hcc : ((t.length : Int) - 1 == 1) = true := by simp; omega
      have hcd : ((t.length : Int) == 2) = true := by simp; omega
      clear h2
      go_enter Try.func46, Try.ntmps46
      go_wp2_with fail
      (have X0 := ((RB2.mk1 w  (.int .i64 m) (.slice o t.length c) 29).1).below (w' := ((w.alloc (.cells #[.int .i64 m, .slice o t.length c] 29)).alloc (.cells #[.int .i64 0, .slice none 0 0] 41))) (by (repeat (first | exact Below.refl _ _ | (refine Below.setCell ?_ (by first | (simp; done) | (simp; omega) | omega) _) | (refine Below.alloc ?_ (by first | (simp; done) | (simp; omega) | omega) _) | (refine below_drewN ?_ _) | (refine Below.drew ?_)))) (Nat.le_refl _); have R0 := ((RB2.mk2 w (.cells #[.int .i64 m, .slice o t.length c] 29) (.int .i64 0) (.slice none 0 0) 41)).below (w' := ((w.alloc (.cells #[.int .i64 m, .slice o t.length c] 29)).alloc (.cells #[.int .i64 0, .slice none 0 0] 41))) (by (repeat (first | exact Below.refl _ _ | (refine Below.setCell ?_ (by first | (simp; done) | (simp; omega) | omega) _) | (refine Below.alloc ?_ (by first | (simp; done) | (simp; omega) | omega) _) | (refine below_drewN ?_ _) | (refine Below.drew ?_)))) (Nat.le_refl _); have B0 : Below w.heap.size w ((w.alloc (.cells #[.int .i64 m, .slice o t.length c] 29)).alloc (.cells #[.int .i64 0, .slice none 0 0] 41)) := (by (repeat (first | exact Below.refl _ _ | (refine Below.setCell ?_ (by first | (simp; done) | (simp; omega) | omega) _) | (refine Below.alloc ?_ (by first | (simp; done) | (simp; omega) | omega) _) | (refine below_drewN ?_ _) | (refine Below.drew ?_)))); have hv0 := hv.below (w' := ((w.alloc (.cells #[.int .i64 m, .slice o t.length c] 29)).alloc (.cells #[.int .i64 0, .slice none 0 0] 41))) (by (repeat (first | exact Below.refl _ _ | (refine Below.setCell ?_ (by first | (simp; done) | (simp; omega) | omega) _) | (refine Below.alloc ?_ (by first | (simp; done) | (simp; omega) | omega) _) | (refine below_drewN ?_ _) | (refine Below.drew ?_)))) (Nat.le_refl _); generalize (w.alloc (.cells #[.int .i64 m, .slice o t.length c] 29)).alloc (.cells #[.int .i64 0, .slice none 0 0] 41) = w0 at X0 R0 B0 hv0 ⊢)
      (obtain ⟨gqX0, gqX1⟩ := id X0; go_wp2_with fail; refine (l04Is_c m _ t _ hv0).mono ?_; rw [h1]; rintro e w1 ⟨rfl, hb⟩; (have X1 := X0.below hb (Nat.le_refl _); have R1 := R0.below hb (Nat.le_refl _); have B1 := B0.trans (hb.mono B0.size)); clear gqX0 gqX1; clear hb)
      obtain ⟨x0, x1⟩ := id X1
      (obtain ⟨⟨r0, r1⟩, rf⟩ := id R1; go_wp2; exact bodyPost_ret (v := .tuple #[.agg #[.int .i64 0, .slice none 0 0], .int .i64 5]) (by simp [results, Try.results46, go_sem, r0, r1]) rfl ⟨_, rfl, OwI.nil _ _, (by (repeat (first | exact Below.refl _ _ | (refine Below.setCell ?_ (by first | (simp; done) | (simp; omega) | omega) _) | (refine Below.alloc ?_ (by first | (simp; done) | (simp; omega) | omega) _) | (refine below_drewN ?_ _) | (refine Below.drew ?_) | (refine Below.trans ?_ (Below.mono B1 (by first | (simp; done) | (simp; omega) | omega)))))), by simp [SR.bad]⟩)
    · have hR : difR m t = ⟨m, difL m t, 0⟩ := by simp [difR, h1, h2]
      rw [hR]
      have hcc : ((t.length : Int) - 1 == 1) = false := by simp; omega
      have hcd : ((t.length : Int) == 2) = false := by simp; omega
      have hDl := difL_len (m := m) (show 2 ≤ t.length by omega)
      have HDL := Lib.hid hDl
      have hlen : (difL m t).length ≤ 1048576 := by omega
      clear h2 hR hDl
      go_enter Try.func46, Try.ntmps46
      go_wp2_with fail
      (have X0 := ((RB2.mk1 w  (.int .i64 m) (.slice o t.length c) 29).1).below (w' := ((w.alloc (.cells #[.int .i64 m, .slice o t.length c] 29)).alloc (.cells #[.int .i64 0, .slice none 0 0] 41))) (by (repeat (first | exact Below.refl _ _ | (refine Below.setCell ?_ (by first | (simp; done) | (simp; omega) | omega) _) | (refine Below.alloc ?_ (by first | (simp; done) | (simp; omega) | omega) _) | (refine below_drewN ?_ _) | (refine Below.drew ?_)))) (Nat.le_refl _); have R0 := ((RB2.mk2 w (.cells #[.int .i64 m, .slice o t.length c] 29) (.int .i64 0) (.slice none 0 0) 41)).below (w' := ((w.alloc (.cells #[.int .i64 m, .slice o t.length c] 29)).alloc (.cells #[.int .i64 0, .slice none 0 0] 41))) (by (repeat (first | exact Below.refl _ _ | (refine Below.setCell ?_ (by first | (simp; done) | (simp; omega) | omega) _) | (refine Below.alloc ?_ (by first | (simp; done) | (simp; omega) | omega) _) | (refine below_drewN ?_ _) | (refine Below.drew ?_)))) (Nat.le_refl _); have B0 : Below w.heap.size w ((w.alloc (.cells #[.int .i64 m, .slice o t.length c] 29)).alloc (.cells #[.int .i64 0, .slice none 0 0] 41)) := (by (repeat (first | exact Below.refl _ _ | (refine Below.setCell ?_ (by first | (simp; done) | (simp; omega) | omega) _) | (refine Below.alloc ?_ (by first | (simp; done) | (simp; omega) | omega) _) | (refine below_drewN ?_ _) | (refine Below.drew ?_)))); have hv0 := hv.below (w' := ((w.alloc (.cells #[.int .i64 m, .slice o t.length c] 29)).alloc (.cells #[.int .i64 0, .slice none 0 0] 41))) (by (repeat (first | exact Below.refl _ _ | (refine Below.setCell ?_ (by first | (simp; done) | (simp; omega) | omega) _) | (refine Below.alloc ?_ (by first | (simp; done) | (simp; omega) | omega) _) | (refine below_drewN ?_ _) | (refine Below.drew ?_)))) (Nat.le_refl _); generalize (w.alloc (.cells #[.int .i64 m, .slice o t.length c] 29)).alloc (.cells #[.int .i64 0, .slice none 0 0] 41) = w0 at X0 R0 B0 hv0 ⊢)
      (obtain ⟨gqX0, gqX1⟩ := id X0; go_wp2_with fail; refine (l04Is_c m _ t _ hv0).mono ?_; rw [h1]; rintro e w1 ⟨rfl, hb⟩; (have X1 := X0.below hb (Nat.le_refl _); have R1 := R0.below hb (Nat.le_refl _); have hv1 := hv0.below hb (Nat.le_refl _); have B1 := B0.trans (hb.mono B0.size)); clear gqX0 gqX1; clear hb)
      obtain ⟨x0, x1⟩ := id X1
      go_wp2_with fail
      clear x0 x1
      have hd0 : Below w1.heap.size w1 w1.drew := (Below.refl _ _).drew
      have hsd0 := hd0.size
      have hrl := R1.1.lt
      have hneR_X1 : w.heap.size + 1 ≠ w.heap.size := by omega
      obtain ⟨⟨q0_R_0, q0_R_1⟩, qf0_R⟩ := R1.below (Below.refl w1.heap.size w1) (Nat.le_refl _)
      obtain ⟨q0_X1_0, q0_X1_1⟩ := X1.below (Below.refl w1.heap.size w1) (Nat.le_refl _)
      go_region_held3 (fun w' => w'.cell? ⟨w.heap.size, 0, none⟩ = some (.int .i64 m) ∧ w'.cell? ⟨w.heap.size, 1, none⟩ = some (.slice o t.length c)) (go_keep)
        (first
          | (go_at_call 94; refine (l05Differential_c m t.length _ t _ ((hv1).below (by (repeat (first | exact Below.refl _ _ | (refine Below.setCell ?_ (by first | (simp; done) | (simp; omega) | omega) _) | (refine Below.alloc ?_ (by first | (simp; done) | (simp; omega) | omega) _) | (refine below_drewN ?_ _) | (refine Below.drew ?_)))) (Nat.le_refl _)) (by omega) (by omega) (by omega) (by omega) HT.out).mono ?_; rintro e wd1 ⟨va1, rfl, hod1, hbd1⟩; obtain ⟨oa, ca, rfl⟩ := hod1.shapeN (n := t.length - 1) HDL.out; have hd1 : Below w1.heap.size w1 wd1 := (by (repeat (first | exact Below.refl _ _ | (refine Below.setCell ?_ (by first | (simp; done) | (simp; omega) | omega) _) | (refine Below.alloc ?_ (by first | (simp; done) | (simp; omega) | omega) _) | (refine below_drewN ?_ _) | (refine Below.drew ?_) | (refine Below.trans ?_ (Below.mono hbd1 (by first | (simp; done) | (simp; omega) | omega)))))); have hsd1 := hd1.size; have hsz1_ := hbd1.size; (try simp at hsz1_); obtain ⟨⟨q1_R_0, q1_R_1⟩, qf1_R⟩ := R1.below hd1 (Nat.le_refl _); obtain ⟨q1_X1_0, q1_X1_1⟩ := X1.below hd1 (Nat.le_refl _))
          | (go_at_call 67; refine (l02Make_c m _ _ _ _).mono ?_; rintro e wd2 ⟨rfl, hbd2⟩; have hd2 : Below w1.heap.size w1 wd2 := (by (repeat (first | exact Below.refl _ _ | (refine Below.setCell ?_ (by first | (simp; done) | (simp; omega) | omega) _) | (refine Below.alloc ?_ (by first | (simp; done) | (simp; omega) | omega) _) | (refine below_drewN ?_ _) | (refine Below.drew ?_) | (refine Below.trans ?_ (Below.mono hbd1 (by first | (simp; done) | (simp; omega) | omega))) | (refine Below.trans ?_ (Below.mono hbd2 (by first | (simp; done) | (simp; omega) | omega)))))); have hsd2 := hd2.size; have hsz2_ := hbd2.size; (try simp at hsz2_); obtain ⟨⟨q2_R_0, q2_R_1⟩, qf2_R⟩ := R1.below hd2 (Nat.le_refl _); obtain ⟨q2_X1_0, q2_X1_1⟩ := X1.below hd2 (Nat.le_refl _)))
      go_wp2
      refine bodyPost_ret (v := .tuple #[.agg #[.int .i64 m, .slice oa (t.length - 1) ca], .int .i64 0]) (by simp [results, Try.results46, go_sem, q2_R_0, q2_R_1]) rfl ⟨_, rfl, ?_, ?_, hlen⟩
      · have hbsz := B1.size
        exact (((hod1.below (by (repeat (first | exact Below.refl _ _ | (refine Below.setCell ?_ (by first | (simp; done) | (simp; omega) | omega) _) | (refine Below.alloc ?_ (by first | (simp; done) | (simp; omega) | omega) _) | (refine below_drewN ?_ _) | (refine Below.drew ?_) | (refine Below.trans ?_ (Below.mono hbd2 (by first | (simp; done) | (simp; omega) | omega))))))).low (by first | (simp; done) | (simp; omega) | omega) _).low (by first | (simp; done) | (simp; omega) | omega) _).mono (by first | (simp; done) | (simp; omega) | omega)
      · have hbsz := B1.size
        (repeat (first | exact Below.refl _ _ | (refine Below.setCell ?_ (by first | (simp; done) | (simp; omega) | omega) _) | (refine Below.alloc ?_ (by first | (simp; done) | (simp; omega) | omega) _) | (refine below_drewN ?_ _) | (refine Below.drew ?_) | (refine Below.trans ?_ (Below.mono hbd1 (by first | (simp; done) | (simp; omega) | omega))) | (refine Below.trans ?_ (Below.mono hbd2 (by first | (simp; done) | (simp; omega) | omega))) | (refine Below.trans ?_ (Below.mono B1 (by first | (simp; done) | (simp; omega) | omega)))))

set_option maxHeartbeats 2000000 in
set_option maxRecDepth 100000 in
theorem sLogarithmOf_c (m : Int) (v : Value) (t : List (List Int)) (w : World) (hv : RdT w v t) :
    Calls Try.prog 48 #[.agg #[.int .i64 m, v]] w fun e w' => SEnd w w' (logR m t) e := by
  obtain ⟨o, c, rfl, hmt, -⟩ := id hv
  have hml := hmt.1
  by_cases hc : logC m t = 0
  · have h1 := (logC_0 hc).1
    have hR : logR m t = ⟨m, logL m t, 0⟩ := by simp [logR, hc]
    rw [hR]
    have hp := (lawB_t h1).1
    have hm := pla_m hp
    have hn := pla_n hp
    have h10 : atT t 1 0 = 1 := fauL_due (lawB_t h1).2 1 (by omega)
    have HT := Lib.hid (show PlaT m t.length t from ⟨rfl, pla_row hp⟩)
    have HC := Lib.hid hc
    have HLL := Lib.hid (logL_len (m := m) (show 2 ≤ t.length by omega))
    have HLR := Lib.hid (logL_range (m := m) (show 0 < m by omega) t)
    have H10 := Lib.hid h10
    have HVL := Lib.hid (show (logL m t).length = t.length from logL_len (show 2 ≤ t.length by omega))
    have hlen : (logL m t).length ≤ 1048576 := by rw [HVL.out]; omega
    have hcc : ((0 : Int) != 0) = false := by simp
    clear hp h1 hc hR h10
    unfold maxLen at hmt
    go_enter Try.func48, Try.ntmps48
    go_wp2_with fail
    (have X0 := ((RB2.mk1 w  (.int .i64 m) (.slice o t.length c) 29).1).below (w' := ((w.alloc (.cells #[.int .i64 m, .slice o t.length c] 29)).alloc (.cells #[.int .i64 0, .slice none 0 0] 41))) (by (repeat (first | exact Below.refl _ _ | (refine Below.setCell ?_ (by first | (simp; done) | (simp; omega) | omega) _) | (refine Below.alloc ?_ (by first | (simp; done) | (simp; omega) | omega) _) | (refine below_drewN ?_ _) | (refine Below.drew ?_)))) (Nat.le_refl _); have R0 := ((RB2.mk2 w (.cells #[.int .i64 m, .slice o t.length c] 29) (.int .i64 0) (.slice none 0 0) 41)).below (w' := ((w.alloc (.cells #[.int .i64 m, .slice o t.length c] 29)).alloc (.cells #[.int .i64 0, .slice none 0 0] 41))) (by (repeat (first | exact Below.refl _ _ | (refine Below.setCell ?_ (by first | (simp; done) | (simp; omega) | omega) _) | (refine Below.alloc ?_ (by first | (simp; done) | (simp; omega) | omega) _) | (refine below_drewN ?_ _) | (refine Below.drew ?_)))) (Nat.le_refl _); have B0 : Below w.heap.size w ((w.alloc (.cells #[.int .i64 m, .slice o t.length c] 29)).alloc (.cells #[.int .i64 0, .slice none 0 0] 41)) := (by (repeat (first | exact Below.refl _ _ | (refine Below.setCell ?_ (by first | (simp; done) | (simp; omega) | omega) _) | (refine Below.alloc ?_ (by first | (simp; done) | (simp; omega) | omega) _) | (refine below_drewN ?_ _) | (refine Below.drew ?_)))); have hv0 := hv.below (w' := ((w.alloc (.cells #[.int .i64 m, .slice o t.length c] 29)).alloc (.cells #[.int .i64 0, .slice none 0 0] 41))) (by (repeat (first | exact Below.refl _ _ | (refine Below.setCell ?_ (by first | (simp; done) | (simp; omega) | omega) _) | (refine Below.alloc ?_ (by first | (simp; done) | (simp; omega) | omega) _) | (refine below_drewN ?_ _) | (refine Below.drew ?_)))) (Nat.le_refl _); generalize (w.alloc (.cells #[.int .i64 m, .slice o t.length c] 29)).alloc (.cells #[.int .i64 0, .slice none 0 0] 41) = w0 at X0 R0 B0 hv0 ⊢)
    (obtain ⟨gqX0, gqX1⟩ := id X0; go_wp2_with fail; refine (l05Code_c m _ t _ hv0).mono ?_; rw [HC.out]; rintro e w1 ⟨rfl, hb⟩; (have X1 := X0.below hb (Nat.le_refl _); have R1 := R0.below hb (Nat.le_refl _); have hv1 := hv0.below hb (Nat.le_refl _); have B1 := B0.trans (hb.mono B0.size)); clear gqX0 gqX1; clear hb)
    go_wp2_with fail
    have hd0 : Below w1.heap.size w1 w1.drew := (Below.refl _ _).drew
    have hsd0 := hd0.size
    have hrl := R1.1.lt
    have hneR_X1 : w.heap.size + 1 ≠ w.heap.size := by omega
    have e00 : IntKind.i64.wrap (t.length : Int) = (t.length : Int) := IntWalk.i64_in _ (by omega)
    have e01 : IntKind.i64.wrap ((t.length : Int) - 1) = (t.length : Int) - 1 := IntWalk.i64_in _ (by omega)
    obtain ⟨⟨q0_R_0, q0_R_1⟩, qf0_R⟩ := R1.below (Below.refl w1.heap.size w1) (Nat.le_refl _)
    obtain ⟨q0_X1_0, q0_X1_1⟩ := X1.below (Below.refl w1.heap.size w1) (Nat.le_refl _)
    go_region_held3 (fun w' => w'.cell? ⟨w.heap.size, 0, none⟩ = some (.int .i64 m) ∧ w'.cell? ⟨w.heap.size, 1, none⟩ = some (.slice o t.length c)) (go_keep)
      (first
        | (go_at_call 97; refine (l05Logarithm_c m t.length _ t _ ((hv1).below (by (repeat (first | exact Below.refl _ _ | (refine Below.setCell ?_ (by first | (simp; done) | (simp; omega) | omega) _) | (refine Below.alloc ?_ (by first | (simp; done) | (simp; omega) | omega) _) | (refine below_drewN ?_ _) | (refine Below.drew ?_)))) (Nat.le_refl _)) (by omega) (by omega) (by omega) (by omega) HT.out).mono ?_; rintro e wd1 ⟨va1, rfl, hod1, hbd1⟩; obtain ⟨oa, ca, rfl⟩ := hod1.shapeN (n := t.length) HLL.out; have hd1 : Below w1.heap.size w1 wd1 := (by (repeat (first | exact Below.refl _ _ | (refine Below.setCell ?_ (by first | (simp; done) | (simp; omega) | omega) _) | (refine Below.alloc ?_ (by first | (simp; done) | (simp; omega) | omega) _) | (refine below_drewN ?_ _) | (refine Below.drew ?_) | (refine Below.trans ?_ (Below.mono hbd1 (by first | (simp; done) | (simp; omega) | omega)))))); have hsd1 := hd1.size; have hsz1_ := hbd1.size; (try simp at hsz1_); obtain ⟨⟨q1_R_0, q1_R_1⟩, qf1_R⟩ := R1.below hd1 (Nat.le_refl _); obtain ⟨q1_X1_0, q1_X1_1⟩ := X1.below hd1 (Nat.le_refl _))
        | (go_at_call 67; refine (l02Make_c m _ _ _ _).mono ?_; rintro e wd2 ⟨rfl, hbd2⟩; have hd2 : Below w1.heap.size w1 wd2 := (by (repeat (first | exact Below.refl _ _ | (refine Below.setCell ?_ (by first | (simp; done) | (simp; omega) | omega) _) | (refine Below.alloc ?_ (by first | (simp; done) | (simp; omega) | omega) _) | (refine below_drewN ?_ _) | (refine Below.drew ?_) | (refine Below.trans ?_ (Below.mono hbd1 (by first | (simp; done) | (simp; omega) | omega))) | (refine Below.trans ?_ (Below.mono hbd2 (by first | (simp; done) | (simp; omega) | omega)))))); have hsd2 := hd2.size; have hsz2_ := hbd2.size; (try simp at hsz2_); obtain ⟨⟨q2_R_0, q2_R_1⟩, qf2_R⟩ := R1.below hd2 (Nat.le_refl _); obtain ⟨q2_X1_0, q2_X1_1⟩ := X1.below hd2 (Nat.le_refl _)))
    go_wp2
    refine bodyPost_ret (v := .tuple #[.agg #[.int .i64 m, .slice oa t.length ca], .int .i64 0]) (by simp [results, Try.results48, go_sem, q2_R_0, q2_R_1]) rfl ⟨_, rfl, ?_, ?_, hlen⟩
    · have hbsz := B1.size
      exact (((hod1.below (by (repeat (first | exact Below.refl _ _ | (refine Below.setCell ?_ (by first | (simp; done) | (simp; omega) | omega) _) | (refine Below.alloc ?_ (by first | (simp; done) | (simp; omega) | omega) _) | (refine below_drewN ?_ _) | (refine Below.drew ?_) | (refine Below.trans ?_ (Below.mono hbd2 (by first | (simp; done) | (simp; omega) | omega))))))).low (by first | (simp; done) | (simp; omega) | omega) _).low (by first | (simp; done) | (simp; omega) | omega) _).mono (by first | (simp; done) | (simp; omega) | omega)
    · have hbsz := B1.size
      (repeat (first | exact Below.refl _ _ | (refine Below.setCell ?_ (by first | (simp; done) | (simp; omega) | omega) _) | (refine Below.alloc ?_ (by first | (simp; done) | (simp; omega) | omega) _) | (refine below_drewN ?_ _) | (refine Below.drew ?_) | (refine Below.trans ?_ (Below.mono hbd1 (by first | (simp; done) | (simp; omega) | omega))) | (refine Below.trans ?_ (Below.mono hbd2 (by first | (simp; done) | (simp; omega) | omega))) | (refine Below.trans ?_ (Below.mono B1 (by first | (simp; done) | (simp; omega) | omega)))))
  · have hR : logR m t = SR.bad (logC m t) := by simp [logR, hc]
    rw [hR]
    clear hR
    obtain ⟨cc, hcc0⟩ : ∃ cc, logC m t = cc := ⟨_, rfl⟩
    rw [hcc0] at hc ⊢
    have HC := Lib.hid hcc0
    clear hcc0
    have hcc : (cc != 0) = true := by simpa using hc
    clear hc
    go_enter Try.func48, Try.ntmps48
    go_wp2_with fail
    (have X0 := ((RB2.mk1 w  (.int .i64 m) (.slice o t.length c) 29).1).below (w' := ((w.alloc (.cells #[.int .i64 m, .slice o t.length c] 29)).alloc (.cells #[.int .i64 0, .slice none 0 0] 41))) (by (repeat (first | exact Below.refl _ _ | (refine Below.setCell ?_ (by first | (simp; done) | (simp; omega) | omega) _) | (refine Below.alloc ?_ (by first | (simp; done) | (simp; omega) | omega) _) | (refine below_drewN ?_ _) | (refine Below.drew ?_)))) (Nat.le_refl _); have R0 := ((RB2.mk2 w (.cells #[.int .i64 m, .slice o t.length c] 29) (.int .i64 0) (.slice none 0 0) 41)).below (w' := ((w.alloc (.cells #[.int .i64 m, .slice o t.length c] 29)).alloc (.cells #[.int .i64 0, .slice none 0 0] 41))) (by (repeat (first | exact Below.refl _ _ | (refine Below.setCell ?_ (by first | (simp; done) | (simp; omega) | omega) _) | (refine Below.alloc ?_ (by first | (simp; done) | (simp; omega) | omega) _) | (refine below_drewN ?_ _) | (refine Below.drew ?_)))) (Nat.le_refl _); have B0 : Below w.heap.size w ((w.alloc (.cells #[.int .i64 m, .slice o t.length c] 29)).alloc (.cells #[.int .i64 0, .slice none 0 0] 41)) := (by (repeat (first | exact Below.refl _ _ | (refine Below.setCell ?_ (by first | (simp; done) | (simp; omega) | omega) _) | (refine Below.alloc ?_ (by first | (simp; done) | (simp; omega) | omega) _) | (refine below_drewN ?_ _) | (refine Below.drew ?_)))); have hv0 := hv.below (w' := ((w.alloc (.cells #[.int .i64 m, .slice o t.length c] 29)).alloc (.cells #[.int .i64 0, .slice none 0 0] 41))) (by (repeat (first | exact Below.refl _ _ | (refine Below.setCell ?_ (by first | (simp; done) | (simp; omega) | omega) _) | (refine Below.alloc ?_ (by first | (simp; done) | (simp; omega) | omega) _) | (refine below_drewN ?_ _) | (refine Below.drew ?_)))) (Nat.le_refl _); generalize (w.alloc (.cells #[.int .i64 m, .slice o t.length c] 29)).alloc (.cells #[.int .i64 0, .slice none 0 0] 41) = w0 at X0 R0 B0 hv0 ⊢)
    (obtain ⟨gqX0, gqX1⟩ := id X0; go_wp2_with fail; refine (l05Code_c m _ t _ hv0).mono ?_; rw [HC.out]; rintro e w1 ⟨rfl, hb⟩; (have R1 := R0.below hb (Nat.le_refl _); have B1 := B0.trans (hb.mono B0.size)); clear gqX0 gqX1; clear hb)
    (obtain ⟨⟨r0, r1⟩, rf⟩ := id R1; go_wp2; exact bodyPost_ret (v := .tuple #[.agg #[.int .i64 0, .slice none 0 0], .int .i64 cc]) (by simp [results, Try.results48, go_sem, r0, r1]) rfl ⟨_, rfl, OwI.nil _ _, (by (repeat (first | exact Below.refl _ _ | (refine Below.setCell ?_ (by first | (simp; done) | (simp; omega) | omega) _) | (refine Below.alloc ?_ (by first | (simp; done) | (simp; omega) | omega) _) | (refine below_drewN ?_ _) | (refine Below.drew ?_) | (refine Below.trans ?_ (Below.mono B1 (by first | (simp; done) | (simp; omega) | omega)))))), by simp [SR.bad]⟩)

set_option maxHeartbeats 2000000 in
set_option maxRecDepth 100000 in
theorem sExponentialOf_c (m : Int) (v : Value) (t : List (List Int)) (w : World) (hv : RdT w v t) :
    Calls Try.prog 50 #[.agg #[.int .i64 m, v]] w fun e w' => SEnd w w' (expR m t) e := by
  obtain ⟨o, c, rfl, hmt, -⟩ := id hv
  have hml := hmt.1
  by_cases hc : logC m t = 0
  · have h1 := (logC_0 hc).1
    have hR : expR m t = ⟨m, revL m t.length (logL m t), 0⟩ := by simp [expR, hc]
    rw [hR]
    have hp := (lawB_t h1).1
    have hm := pla_m hp
    have hn := pla_n hp
    have h10 : atT t 1 0 = 1 := fauL_due (lawB_t h1).2 1 (by omega)
    have HT := Lib.hid (show PlaT m t.length t from ⟨rfl, pla_row hp⟩)
    have HC := Lib.hid hc
    have HLL := Lib.hid (logL_len (m := m) (show 2 ≤ t.length by omega))
    have HLR := Lib.hid (logL_range (m := m) (show 0 < m by omega) t)
    have H10 := Lib.hid h10
    have HVL := Lib.hid (show (revL m t.length (logL m t)).length = t.length from revL_len _ _ _)
    have hlen : (revL m t.length (logL m t)).length ≤ 1048576 := by rw [HVL.out]; omega
    have hcc : ((0 : Int) != 0) = false := by simp
    clear hp h1 hc hR h10
    unfold maxLen at hmt
    go_enter Try.func50, Try.ntmps50
    go_wp2_with fail
    (have X0 := ((RB2.mk1 w  (.int .i64 m) (.slice o t.length c) 29).1).below (w' := ((w.alloc (.cells #[.int .i64 m, .slice o t.length c] 29)).alloc (.cells #[.int .i64 0, .slice none 0 0] 41))) (by (repeat (first | exact Below.refl _ _ | (refine Below.setCell ?_ (by first | (simp; done) | (simp; omega) | omega) _) | (refine Below.alloc ?_ (by first | (simp; done) | (simp; omega) | omega) _) | (refine below_drewN ?_ _) | (refine Below.drew ?_)))) (Nat.le_refl _); have R0 := ((RB2.mk2 w (.cells #[.int .i64 m, .slice o t.length c] 29) (.int .i64 0) (.slice none 0 0) 41)).below (w' := ((w.alloc (.cells #[.int .i64 m, .slice o t.length c] 29)).alloc (.cells #[.int .i64 0, .slice none 0 0] 41))) (by (repeat (first | exact Below.refl _ _ | (refine Below.setCell ?_ (by first | (simp; done) | (simp; omega) | omega) _) | (refine Below.alloc ?_ (by first | (simp; done) | (simp; omega) | omega) _) | (refine below_drewN ?_ _) | (refine Below.drew ?_)))) (Nat.le_refl _); have B0 : Below w.heap.size w ((w.alloc (.cells #[.int .i64 m, .slice o t.length c] 29)).alloc (.cells #[.int .i64 0, .slice none 0 0] 41)) := (by (repeat (first | exact Below.refl _ _ | (refine Below.setCell ?_ (by first | (simp; done) | (simp; omega) | omega) _) | (refine Below.alloc ?_ (by first | (simp; done) | (simp; omega) | omega) _) | (refine below_drewN ?_ _) | (refine Below.drew ?_)))); have hv0 := hv.below (w' := ((w.alloc (.cells #[.int .i64 m, .slice o t.length c] 29)).alloc (.cells #[.int .i64 0, .slice none 0 0] 41))) (by (repeat (first | exact Below.refl _ _ | (refine Below.setCell ?_ (by first | (simp; done) | (simp; omega) | omega) _) | (refine Below.alloc ?_ (by first | (simp; done) | (simp; omega) | omega) _) | (refine below_drewN ?_ _) | (refine Below.drew ?_)))) (Nat.le_refl _); generalize (w.alloc (.cells #[.int .i64 m, .slice o t.length c] 29)).alloc (.cells #[.int .i64 0, .slice none 0 0] 41) = w0 at X0 R0 B0 hv0 ⊢)
    (obtain ⟨gqX0, gqX1⟩ := id X0; go_wp2_with fail; refine (l05Code_c m _ t _ hv0).mono ?_; rw [HC.out]; rintro e w1 ⟨rfl, hb⟩; (have X1 := X0.below hb (Nat.le_refl _); have R1 := R0.below hb (Nat.le_refl _); have hv1 := hv0.below hb (Nat.le_refl _); have B1 := B0.trans (hb.mono B0.size)); clear gqX0 gqX1; clear hb)
    go_wp2_with fail
    have hd0 : Below w1.heap.size w1 w1.drew := (Below.refl _ _).drew
    have hsd0 := hd0.size
    have hrl := R1.1.lt
    have hneR_X1 : w.heap.size + 1 ≠ w.heap.size := by omega
    have e00 : IntKind.i64.wrap (t.length : Int) = (t.length : Int) := IntWalk.i64_in _ (by omega)
    have e01 : IntKind.i64.wrap ((t.length : Int) - 1) = (t.length : Int) - 1 := IntWalk.i64_in _ (by omega)
    obtain ⟨⟨q0_R_0, q0_R_1⟩, qf0_R⟩ := R1.below (Below.refl w1.heap.size w1) (Nat.le_refl _)
    obtain ⟨q0_X1_0, q0_X1_1⟩ := X1.below (Below.refl w1.heap.size w1) (Nat.le_refl _)
    go_region_held3 (fun w' => w'.cell? ⟨w.heap.size, 0, none⟩ = some (.int .i64 m) ∧ w'.cell? ⟨w.heap.size, 1, none⟩ = some (.slice o t.length c)) (go_keep)
      (first
        | (go_at_call 97; refine (l05Logarithm_c m t.length _ t _ ((hv1).below (by (repeat (first | exact Below.refl _ _ | (refine Below.setCell ?_ (by first | (simp; done) | (simp; omega) | omega) _) | (refine Below.alloc ?_ (by first | (simp; done) | (simp; omega) | omega) _) | (refine below_drewN ?_ _) | (refine Below.drew ?_)))) (Nat.le_refl _)) (by omega) (by omega) (by omega) (by omega) HT.out).mono ?_; rintro e wd1 ⟨va1, rfl, hod1, hbd1⟩; obtain ⟨oa, ca, rfl⟩ := hod1.shapeN (n := t.length) HLL.out; have hd1 : Below w1.heap.size w1 wd1 := (by (repeat (first | exact Below.refl _ _ | (refine Below.setCell ?_ (by first | (simp; done) | (simp; omega) | omega) _) | (refine Below.alloc ?_ (by first | (simp; done) | (simp; omega) | omega) _) | (refine below_drewN ?_ _) | (refine Below.drew ?_) | (refine Below.trans ?_ (Below.mono hbd1 (by first | (simp; done) | (simp; omega) | omega)))))); have hsd1 := hd1.size; have hsz1_ := hbd1.size; (try simp at hsz1_); obtain ⟨⟨q1_R_0, q1_R_1⟩, qf1_R⟩ := R1.below hd1 (Nat.le_refl _); obtain ⟨q1_X1_0, q1_X1_1⟩ := X1.below hd1 (Nat.le_refl _))
        | (go_at_call 100; refine (l02Reverse_c m ((t.length : Int) - 1) t.length _ (logL m t) _ (by omega) (((hod1.below (by (repeat (first | exact Below.refl _ _ | (refine Below.setCell ?_ (by first | (simp; done) | (simp; omega) | omega) _) | (refine Below.alloc ?_ (by first | (simp; done) | (simp; omega) | omega) _) | (refine below_drewN ?_ _) | (refine Below.drew ?_)))))).rd) HLL.out (by omega) (by omega) (by omega) (by omega) HLR.out).mono ?_; rintro e wd2 ⟨vr2, rfl, hod2, hbd2⟩; obtain ⟨or, cr, rfl⟩ := hod2.shapeN (n := t.length) HVL.out; have hd2 : Below w1.heap.size w1 wd2 := (by (repeat (first | exact Below.refl _ _ | (refine Below.setCell ?_ (by first | (simp; done) | (simp; omega) | omega) _) | (refine Below.alloc ?_ (by first | (simp; done) | (simp; omega) | omega) _) | (refine below_drewN ?_ _) | (refine Below.drew ?_) | (refine Below.trans ?_ (Below.mono hbd1 (by first | (simp; done) | (simp; omega) | omega))) | (refine Below.trans ?_ (Below.mono hbd2 (by first | (simp; done) | (simp; omega) | omega)))))); have hsd2 := hd2.size; have hsz2_ := hbd2.size; (try simp at hsz2_); obtain ⟨⟨q2_R_0, q2_R_1⟩, qf2_R⟩ := R1.below hd2 (Nat.le_refl _); obtain ⟨q2_X1_0, q2_X1_1⟩ := X1.below hd2 (Nat.le_refl _))
        | (go_at_call 67; refine (l02Make_c m _ _ _ _).mono ?_; rintro e wd3 ⟨rfl, hbd3⟩; have hd3 : Below w1.heap.size w1 wd3 := (by (repeat (first | exact Below.refl _ _ | (refine Below.setCell ?_ (by first | (simp; done) | (simp; omega) | omega) _) | (refine Below.alloc ?_ (by first | (simp; done) | (simp; omega) | omega) _) | (refine below_drewN ?_ _) | (refine Below.drew ?_) | (refine Below.trans ?_ (Below.mono hbd1 (by first | (simp; done) | (simp; omega) | omega))) | (refine Below.trans ?_ (Below.mono hbd2 (by first | (simp; done) | (simp; omega) | omega))) | (refine Below.trans ?_ (Below.mono hbd3 (by first | (simp; done) | (simp; omega) | omega)))))); have hsd3 := hd3.size; have hsz3_ := hbd3.size; (try simp at hsz3_); obtain ⟨⟨q3_R_0, q3_R_1⟩, qf3_R⟩ := R1.below hd3 (Nat.le_refl _); obtain ⟨q3_X1_0, q3_X1_1⟩ := X1.below hd3 (Nat.le_refl _)))
    go_wp2
    refine bodyPost_ret (v := .tuple #[.agg #[.int .i64 m, .slice or t.length cr], .int .i64 0]) (by simp [results, Try.results50, go_sem, q3_R_0, q3_R_1]) rfl ⟨_, rfl, ?_, ?_, hlen⟩
    · have hbsz := B1.size
      exact (((hod2.below (by (repeat (first | exact Below.refl _ _ | (refine Below.setCell ?_ (by first | (simp; done) | (simp; omega) | omega) _) | (refine Below.alloc ?_ (by first | (simp; done) | (simp; omega) | omega) _) | (refine below_drewN ?_ _) | (refine Below.drew ?_) | (refine Below.trans ?_ (Below.mono hbd3 (by first | (simp; done) | (simp; omega) | omega))))))).low (by first | (simp; done) | (simp; omega) | omega) _).low (by first | (simp; done) | (simp; omega) | omega) _).mono (by first | (simp; done) | (simp; omega) | omega)
    · have hbsz := B1.size
      (repeat (first | exact Below.refl _ _ | (refine Below.setCell ?_ (by first | (simp; done) | (simp; omega) | omega) _) | (refine Below.alloc ?_ (by first | (simp; done) | (simp; omega) | omega) _) | (refine below_drewN ?_ _) | (refine Below.drew ?_) | (refine Below.trans ?_ (Below.mono hbd1 (by first | (simp; done) | (simp; omega) | omega))) | (refine Below.trans ?_ (Below.mono hbd2 (by first | (simp; done) | (simp; omega) | omega))) | (refine Below.trans ?_ (Below.mono hbd3 (by first | (simp; done) | (simp; omega) | omega))) | (refine Below.trans ?_ (Below.mono B1 (by first | (simp; done) | (simp; omega) | omega)))))
  · have hR : expR m t = SR.bad (logC m t) := by simp [expR, hc]
    rw [hR]
    clear hR
    obtain ⟨cc, hcc0⟩ : ∃ cc, logC m t = cc := ⟨_, rfl⟩
    rw [hcc0] at hc ⊢
    have HC := Lib.hid hcc0
    clear hcc0
    have hcc : (cc != 0) = true := by simpa using hc
    clear hc
    go_enter Try.func50, Try.ntmps50
    go_wp2_with fail
    (have X0 := ((RB2.mk1 w  (.int .i64 m) (.slice o t.length c) 29).1).below (w' := ((w.alloc (.cells #[.int .i64 m, .slice o t.length c] 29)).alloc (.cells #[.int .i64 0, .slice none 0 0] 41))) (by (repeat (first | exact Below.refl _ _ | (refine Below.setCell ?_ (by first | (simp; done) | (simp; omega) | omega) _) | (refine Below.alloc ?_ (by first | (simp; done) | (simp; omega) | omega) _) | (refine below_drewN ?_ _) | (refine Below.drew ?_)))) (Nat.le_refl _); have R0 := ((RB2.mk2 w (.cells #[.int .i64 m, .slice o t.length c] 29) (.int .i64 0) (.slice none 0 0) 41)).below (w' := ((w.alloc (.cells #[.int .i64 m, .slice o t.length c] 29)).alloc (.cells #[.int .i64 0, .slice none 0 0] 41))) (by (repeat (first | exact Below.refl _ _ | (refine Below.setCell ?_ (by first | (simp; done) | (simp; omega) | omega) _) | (refine Below.alloc ?_ (by first | (simp; done) | (simp; omega) | omega) _) | (refine below_drewN ?_ _) | (refine Below.drew ?_)))) (Nat.le_refl _); have B0 : Below w.heap.size w ((w.alloc (.cells #[.int .i64 m, .slice o t.length c] 29)).alloc (.cells #[.int .i64 0, .slice none 0 0] 41)) := (by (repeat (first | exact Below.refl _ _ | (refine Below.setCell ?_ (by first | (simp; done) | (simp; omega) | omega) _) | (refine Below.alloc ?_ (by first | (simp; done) | (simp; omega) | omega) _) | (refine below_drewN ?_ _) | (refine Below.drew ?_)))); have hv0 := hv.below (w' := ((w.alloc (.cells #[.int .i64 m, .slice o t.length c] 29)).alloc (.cells #[.int .i64 0, .slice none 0 0] 41))) (by (repeat (first | exact Below.refl _ _ | (refine Below.setCell ?_ (by first | (simp; done) | (simp; omega) | omega) _) | (refine Below.alloc ?_ (by first | (simp; done) | (simp; omega) | omega) _) | (refine below_drewN ?_ _) | (refine Below.drew ?_)))) (Nat.le_refl _); generalize (w.alloc (.cells #[.int .i64 m, .slice o t.length c] 29)).alloc (.cells #[.int .i64 0, .slice none 0 0] 41) = w0 at X0 R0 B0 hv0 ⊢)
    (obtain ⟨gqX0, gqX1⟩ := id X0; go_wp2_with fail; refine (l05Code_c m _ t _ hv0).mono ?_; rw [HC.out]; rintro e w1 ⟨rfl, hb⟩; (have R1 := R0.below hb (Nat.le_refl _); have B1 := B0.trans (hb.mono B0.size)); clear gqX0 gqX1; clear hb)
    (obtain ⟨⟨r0, r1⟩, rf⟩ := id R1; go_wp2; exact bodyPost_ret (v := .tuple #[.agg #[.int .i64 0, .slice none 0 0], .int .i64 cc]) (by simp [results, Try.results50, go_sem, r0, r1]) rfl ⟨_, rfl, OwI.nil _ _, (by (repeat (first | exact Below.refl _ _ | (refine Below.setCell ?_ (by first | (simp; done) | (simp; omega) | omega) _) | (refine Below.alloc ?_ (by first | (simp; done) | (simp; omega) | omega) _) | (refine below_drewN ?_ _) | (refine Below.drew ?_) | (refine Below.trans ?_ (Below.mono B1 (by first | (simp; done) | (simp; omega) | omega)))))), by simp [SR.bad]⟩)

end Go.Proofs.Ytflebfmkgmhccaa
