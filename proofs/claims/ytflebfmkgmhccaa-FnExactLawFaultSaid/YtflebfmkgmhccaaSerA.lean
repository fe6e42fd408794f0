/- Whether something is a series, a curve; whether two are alike: the program's answers and the reference's. -/
import Derived.Test.YtflebfmkgmhccaaAll
import Derived.Test.YtflebfmkgmhccaaLawS
import Derived.Test.YtflebfmkgmhccaaSer
import Derived.Test.YtflebfmkgmhccaaMemB
import Derived.Deep.RegionHeld3
set_option linter.unusedSimpArgs false
set_option linter.unusedVariables false
namespace Go.Proofs.Ytflebfmkgmhccaa
open Go.RowKit

def numsB (m : Int) (xs : List Int) : Bool := xs.all (fun x => inB x 0 (m - 1))
def serB (m : Int) (xs : List Int) : Bool := modB m && inB ((xs.length : Int) - 1) 1 10 && numsB m xs
theorem ser_m {m : Int} {xs : List Int} (h : serB m xs = true) : 2 ≤ m ∧ m ≤ 10000 := by simp [serB] at h; exact modB_t h.1.1
theorem ser_n {m : Int} {xs : List Int} (h : serB m xs = true) : 2 ≤ xs.length ∧ xs.length ≤ 11 := by simp [serB] at h; have := inB_t h.1.2; omega
theorem nums_x {m : Int} {xs : List Int} (h : numsB m xs = true) : ∀ x ∈ xs, 0 ≤ x ∧ x < m := by
  intro x hx
  have := inB_t (List.all_eq_true.1 h x hx)
  omega
theorem ser_x {m : Int} {xs : List Int} (h : serB m xs = true) : ∀ x ∈ xs, 0 ≤ x ∧ x < m := by
  simp only [serB, Bool.and_eq_true] at h; exact nums_x h.2

def curB (m : Int) (xs : List Int) : Bool := serB m xs && (at0 xs 0 == 0)
theorem cur_ser {m : Int} {xs : List Int} (h : curB m xs = true) : serB m xs = true ∧ at0 xs 0 = 0 := by simpa [curB] using h
def alikeS (m : Int) (xs : List Int) (n : Int) (ys : List Int) : Bool := (m == n) && ((xs.length : Int) == (ys.length : Int))
def twoS (m : Int) (xs : List Int) (n : Int) (ys : List Int) : Int := if serB m xs && serB n ys then (if alikeS m xs n ys then 0 else 2) else 1
theorem twoS_0 {m : Int} {xs : List Int} {n : Int} {ys : List Int} (h : twoS m xs n ys = 0) : serB m xs = true ∧ serB n ys = true ∧ n = m ∧ ys.length = xs.length := by
  unfold twoS at h
  split at h
  · rename_i h1
    split at h
    · rename_i h2
      simp only [Bool.and_eq_true, alikeS, beq_iff_eq] at h1 h2
      obtain ⟨h1, h1'⟩ := h1
      refine ⟨h1, h1', ?_, ?_⟩ <;> omega
    · simp at h
  · simp at h

set_option maxHeartbeats 400000 in
theorem degreeS_c (m : Int) (o : Option Addr) (n c : Nat) (w : World) (hn : n ≤ maxLen) :
    Calls Try.prog 91 #[.agg #[.int .i64 m, .slice o n c]] w fun e w' => e = .returned (.int .i64 ((n : Int) - 1)) ∧ Below w.heap.size w w' := by
  unfold maxLen at hn
  go_enter Try.func91, Try.ntmps91
  go_wp2
  go_ret
  exact ⟨rfl, (by (repeat (first | exact Below.refl _ _ | (refine Below.setCell ?_ (by first | (simp; done) | (simp; omega) | omega) _) | (refine Below.alloc ?_ (by first | (simp; done) | (simp; omega) | omega) _) | (refine below_drewN ?_ _) | (refine Below.drew ?_))))⟩

set_option maxHeartbeats 400000 in
theorem IsSeries1_c (m x : Int) (b : Nat) (w : World) (hm : -9223372036854775808 < m) (hm' : m ≤ 9223372036854775807)
    (h1 : w.cell? ⟨b, 0, none⟩ = some (.int .i64 m)) :
    Calls Try.prog 131 #[.int .i64 x, .pointer (some ⟨b, 0, none⟩)] w fun e w' => e = .returned (.bool (inB x 0 (m - 1))) ∧ w = w' := by
  go_enter Try.func131, Try.ntmps131
  go_wp2_with (go_at_call 110; refine (isNumber_c _ _ _ hm hm').mono ?_; rintro e w' ⟨rfl, rfl⟩)
  go_ret
  exact ⟨rfl, rfl⟩
theorem IsSeries1_callable : Callable 131 := fun args w => Try.call131 args w

set_option maxHeartbeats 400000 in
theorem IsSeries_c (m : Int) (v : Value) (xs : List Int) (w : World) (hv : RdI w v xs) :
    Calls Try.prog 84 #[.agg #[.int .i64 m, v]] w fun e w' => e = .returned (.bool (serB m xs)) ∧ Below w.heap.size w w' := by
  obtain ⟨o, c, rfl, hm, -⟩ := id hv
  have hml := hm.1
  have hmx := hm.1
  unfold maxLen at hm
  cases hs : modB m
  · go_enter Try.func84, Try.ntmps84
    go_wp2_with (go_at_call 106; refine (IsModulus_c _ _).mono ?_; rw [hs]; rintro e w' ⟨rfl, rfl⟩)
    go_ret
    exact ⟨by simp [serB, hs], (by (repeat (first | exact Below.refl _ _ | (refine Below.setCell ?_ (by first | (simp; done) | (simp; omega) | omega) _) | (refine Below.alloc ?_ (by first | (simp; done) | (simp; omega) | omega) _) | (refine below_drewN ?_ _) | (refine Below.drew ?_))))⟩
  · have hm1 := modB_t hs
    cases ht : inB ((xs.length : Int) - 1) 1 10
    all_goals
      go_enter Try.func84, Try.ntmps84
      go_wp2_with (go_at_call 106; refine (IsModulus_c _ _).mono ?_; rw [hs]; rintro e w' ⟨rfl, rfl⟩)
      (have X0 := ((RB2.mk1 w  (.int .i64 m) (.slice o xs.length c) 41).1).below (w' := (w.alloc (.cells #[.int .i64 m, .slice o xs.length c] 41))) (by (repeat (first | exact Below.refl _ _ | (refine Below.setCell ?_ (by first | (simp; done) | (simp; omega) | omega) _) | (refine Below.alloc ?_ (by first | (simp; done) | (simp; omega) | omega) _) | (refine below_drewN ?_ _) | (refine Below.drew ?_)))) (Nat.le_refl _); have B0 : Below w.heap.size w (w.alloc (.cells #[.int .i64 m, .slice o xs.length c] 41)) := (by (repeat (first | exact Below.refl _ _ | (refine Below.setCell ?_ (by first | (simp; done) | (simp; omega) | omega) _) | (refine Below.alloc ?_ (by first | (simp; done) | (simp; omega) | omega) _) | (refine below_drewN ?_ _) | (refine Below.drew ?_)))); have hv0 := hv.below (w' := (w.alloc (.cells #[.int .i64 m, .slice o xs.length c] 41))) (by (repeat (first | exact Below.refl _ _ | (refine Below.setCell ?_ (by first | (simp; done) | (simp; omega) | omega) _) | (refine Below.alloc ?_ (by first | (simp; done) | (simp; omega) | omega) _) | (refine below_drewN ?_ _) | (refine Below.drew ?_)))) (Nat.le_refl _); generalize w.alloc (.cells #[.int .i64 m, .slice o xs.length c] 41) = w0 at X0 B0 hv0 ⊢)
      obtain ⟨x0, x1⟩ := id X0
      go_wp2_with fail
      refine (degreeS_c m o xs.length c _ hml).mono ?_
      rintro e w1 ⟨rfl, hb⟩
      (have X1 := X0.below hb (Nat.le_refl _); have hv1 := hv0.below hb (Nat.le_refl _); have B1 := B0.trans (hb.mono B0.size))
      obtain ⟨y0, y1⟩ := id X1
      go_wp2_with (go_at_call 107; refine (in_c _ _ _ _).mono ?_; rw [ht]; rintro e w' ⟨rfl, rfl⟩)
    · go_ret
      exact ⟨by simp [serB, ht], (by (repeat (first | exact Below.refl _ _ | (refine Below.setCell ?_ (by first | (simp; done) | (simp; omega) | omega) _) | (refine Below.alloc ?_ (by first | (simp; done) | (simp; omega) | omega) _) | (refine below_drewN ?_ _) | (refine Below.drew ?_) | (refine Below.trans ?_ (Below.mono B1 (by first | (simp; done) | (simp; omega) | omega))))))⟩
    · refine (allI_c 131 _ (fun x => inB x 0 (m - 1)) _ xs _ hv1 IsSeries1_callable (fun x hx w1 hb => IsSeries1_c m x _ _ (by omega) (by omega) (keep_cell hb (Nat.le_refl _) y0))).mono ?_
      rintro e w2 ⟨rfl, hb2⟩
      have B2 := B1.trans (hb2.mono B1.size)
      go_wp2
      go_ret
      exact ⟨by simp [serB, hs, ht, numsB], B2⟩



set_option maxHeartbeats 400000 in
theorem l01Numbers_c (m : Int) (v : Value) (xs : List Int) (w : World) (hv : RdI w v xs) (hm : -9223372036854775808 < m) (hm' : m ≤ 9223372036854775807) :
    Calls Try.prog 103 #[.int .i64 m, v] w fun e w' => e = .returned (.bool (numsB m xs)) ∧ w = w' := by
  obtain ⟨o, c, rfl, hmx, hc⟩ := hv
  unfold maxLen at hmx
  go_enter Try.func103, Try.ntmps103
  go_wp2_with fail
  go_loop [5] (fun i => ∃ k : Nat, k ≤ xs.length ∧ i = .int .i64 k ∧ Hid (∀ j (hj : j < xs.length), j < k → inB xs[j] 0 (m - 1) = true)) (fun i => xs.length - (intOf i).toNat)
  case atStart => exact ⟨0, Nat.zero_le _, rfl, Lib.hid (fun j hj h => by omega)⟩
  case round =>
    obtain ⟨k, hk, rfl, HQ⟩ := hrel
    by_cases hlt : k < xs.length
    · obtain ⟨b, off, rfl, hx⟩ := hc k (xs[k]) (by simp [hlt])
      cases hq : inB xs[k] 0 (m - 1)
      · go_wp2_with (go_at_call 128; refine (l01In_c _ _ _ _).mono ?_; rw [hq]; rintro e w' ⟨rfl, rfl⟩)
        go_ret
        exact ⟨by unfold numsB; rw [List.all_eq_false.2 ⟨xs[k], by simp, by simp [hq]⟩]; rfl, rfl⟩
      · go_wp2_with (go_at_call 128; refine (l01In_c _ _ _ _).mono ?_; rw [hq]; rintro e w' ⟨rfl, rfl⟩)
        exact ⟨⟨k + 1, by omega, by go_num, Lib.hid (fun j hj h => by
          rcases Nat.lt_or_ge j k with h1 | h1
          · exact HQ.out j hj h1
          · obtain rfl : j = k := by omega
            exact hq)⟩, by simp [intOf]; omega⟩
    · go_wp2
      go_ret
      exact ⟨by unfold numsB; rw [List.all_eq_true.2 (fun x hx => by obtain ⟨j, hj, rfl⟩ := List.getElem_of_mem hx; exact HQ.out j hj (by omega))]; rfl, rfl⟩


set_option maxHeartbeats 400000 in
theorem l01Modulus_c (m : Int) (w : World) :
    Calls Try.prog 102 #[.int .i64 m] w fun e w' => e = .returned (.bool (modB m)) ∧ w = w' := by
  go_enter Try.func102, Try.ntmps102
  go_wp2_with (go_at_call 128; refine (l01In_c _ _ _ _).mono ?_; rintro e w' ⟨rfl, rfl⟩)
  go_ret
  exact ⟨rfl, rfl⟩

set_option maxHeartbeats 400000 in
theorem l02Is_c (m : Int) (v : Value) (xs : List Int) (w : World) (hv : RdI w v xs) :
    Calls Try.prog 79 #[.agg #[.int .i64 m, v]] w fun e w' => e = .returned (.bool (serB m xs)) ∧ Below w.heap.size w w' := by
  obtain ⟨o, c, rfl, hm, -⟩ := id hv
  unfold maxLen at hm
  have e2 : inB (xs.length : Int) 2 11 = inB ((xs.length : Int) - 1) 1 10 := by
    rw [Bool.eq_iff_iff]; simp only [inB, decide_eq_true_eq]; omega
  have E1 := Lib.hid e2
  clear e2
  cases hs : modB m
  · go_enter Try.func79, Try.ntmps79
    go_wp2_with (go_at_call 102; refine (l01Modulus_c _ _).mono ?_; rw [hs]; rintro e w' ⟨rfl, rfl⟩)
    go_ret
    exact ⟨by simp [serB, hs], (by (repeat (first | exact Below.refl _ _ | (refine Below.setCell ?_ (by first | (simp; done) | (simp; omega) | omega) _) | (refine Below.alloc ?_ (by first | (simp; done) | (simp; omega) | omega) _) | (refine below_drewN ?_ _) | (refine Below.drew ?_))))⟩
  · have hm1 := modB_t hs
    cases ht : inB (xs.length : Int) 2 11
    · go_enter Try.func79, Try.ntmps79
      go_wp2_with (first | (go_at_call 102; refine (l01Modulus_c _ _).mono ?_; rw [hs]; rintro e w' ⟨rfl, rfl⟩) | (go_at_call 128; refine (l01In_c _ _ _ _).mono ?_; rw [ht]; rintro e w' ⟨rfl, rfl⟩))
      go_ret
      exact ⟨by have := E1.out; rw [ht] at this; simp [serB, ← this], (by (repeat (first | exact Below.refl _ _ | (refine Below.setCell ?_ (by first | (simp; done) | (simp; omega) | omega) _) | (refine Below.alloc ?_ (by first | (simp; done) | (simp; omega) | omega) _) | (refine below_drewN ?_ _) | (refine Below.drew ?_))))⟩
    · cases hq : numsB m xs
      all_goals
        go_enter Try.func79, Try.ntmps79
        go_wp2_with (first | (go_at_call 102; refine (l01Modulus_c _ _).mono ?_; rw [hs]; rintro e w' ⟨rfl, rfl⟩) | (go_at_call 128; refine (l01In_c _ _ _ _).mono ?_; rw [ht]; rintro e w' ⟨rfl, rfl⟩) | (go_at_call 103; refine (l01Numbers_c m _ xs _ (hv.below (by (repeat (first | exact Below.refl _ _ | (refine Below.setCell ?_ (by first | (simp; done) | (simp; omega) | omega) _) | (refine Below.alloc ?_ (by first | (simp; done) | (simp; omega) | omega) _) | (refine below_drewN ?_ _) | (refine Below.drew ?_)))) (Nat.le_refl _)) (by omega) (by omega)).mono ?_; rw [hq]; rintro e w' ⟨rfl, rfl⟩))
        go_ret
        exact ⟨by have := E1.out; rw [ht] at this; simp [serB, ← this, hs, hq], (by (repeat (first | exact Below.refl _ _ | (refine Below.setCell ?_ (by first | (simp; done) | (simp; omega) | omega) _) | (refine Below.alloc ?_ (by first | (simp; done) | (simp; omega) | omega) _) | (refine below_drewN ?_ _) | (refine Below.drew ?_))))⟩

set_option maxHeartbeats 400000 in
theorem l02Curve_c (m : Int) (v : Value) (xs : List Int) (w : World) (hv : RdI w v xs) :
    Calls Try.prog 80 #[.agg #[.int .i64 m, v]] w fun e w' => e = .returned (.bool (curB m xs)) ∧ Below w.heap.size w w' := by
  obtain ⟨o, c, rfl, -, -⟩ := id hv
  cases hs : serB m xs
  · go_enter Try.func80, Try.ntmps80
    go_wp2_with fail
    (have X0 := ((RB2.mk1 w  (.int .i64 m) (.slice o xs.length c) 41).1).below (w' := (w.alloc (.cells #[.int .i64 m, .slice o xs.length c] 41))) (by (repeat (first | exact Below.refl _ _ | (refine Below.setCell ?_ (by first | (simp; done) | (simp; omega) | omega) _) | (refine Below.alloc ?_ (by first | (simp; done) | (simp; omega) | omega) _) | (refine below_drewN ?_ _) | (refine Below.drew ?_)))) (Nat.le_refl _); have B0 : Below w.heap.size w (w.alloc (.cells #[.int .i64 m, .slice o xs.length c] 41)) := (by (repeat (first | exact Below.refl _ _ | (refine Below.setCell ?_ (by first | (simp; done) | (simp; omega) | omega) _) | (refine Below.alloc ?_ (by first | (simp; done) | (simp; omega) | omega) _) | (refine below_drewN ?_ _) | (refine Below.drew ?_)))); have hv0 := hv.below (w' := (w.alloc (.cells #[.int .i64 m, .slice o xs.length c] 41))) (by (repeat (first | exact Below.refl _ _ | (refine Below.setCell ?_ (by first | (simp; done) | (simp; omega) | omega) _) | (refine Below.alloc ?_ (by first | (simp; done) | (simp; omega) | omega) _) | (refine below_drewN ?_ _) | (refine Below.drew ?_)))) (Nat.le_refl _); generalize w.alloc (.cells #[.int .i64 m, .slice o xs.length c] 41) = w0 at X0 B0 hv0 ⊢)
    refine (l02Is_c m _ xs _ hv0).mono ?_
    rw [hs]
    rintro e w1 ⟨rfl, hb⟩
    (have X1 := X0.below hb (Nat.le_refl _); have B1 := B0.trans (hb.mono B0.size))
    go_wp2
    go_ret
    exact ⟨by simp [curB, hs], B1⟩
  · have hn := ser_n hs
    have hx := ser_x hs
    cases hq : (at0 xs 0 == 0)
    all_goals
      go_enter Try.func80, Try.ntmps80
      go_wp2_with fail
      (have X0 := ((RB2.mk1 w  (.int .i64 m) (.slice o xs.length c) 41).1).below (w' := (w.alloc (.cells #[.int .i64 m, .slice o xs.length c] 41))) (by (repeat (first | exact Below.refl _ _ | (refine Below.setCell ?_ (by first | (simp; done) | (simp; omega) | omega) _) | (refine Below.alloc ?_ (by first | (simp; done) | (simp; omega) | omega) _) | (refine below_drewN ?_ _) | (refine Below.drew ?_)))) (Nat.le_refl _); have B0 : Below w.heap.size w (w.alloc (.cells #[.int .i64 m, .slice o xs.length c] 41)) := (by (repeat (first | exact Below.refl _ _ | (refine Below.setCell ?_ (by first | (simp; done) | (simp; omega) | omega) _) | (refine Below.alloc ?_ (by first | (simp; done) | (simp; omega) | omega) _) | (refine below_drewN ?_ _) | (refine Below.drew ?_)))); have hv0 := hv.below (w' := (w.alloc (.cells #[.int .i64 m, .slice o xs.length c] 41))) (by (repeat (first | exact Below.refl _ _ | (refine Below.setCell ?_ (by first | (simp; done) | (simp; omega) | omega) _) | (refine Below.alloc ?_ (by first | (simp; done) | (simp; omega) | omega) _) | (refine below_drewN ?_ _) | (refine Below.drew ?_)))) (Nat.le_refl _); generalize w.alloc (.cells #[.int .i64 m, .slice o xs.length c] 41) = w0 at X0 B0 hv0 ⊢)
      refine (l02Is_c m _ xs _ hv0).mono ?_
      rw [hs]
      rintro e w1 ⟨rfl, hb⟩
      (have X1 := X0.below hb (Nat.le_refl _); have hv1 := hv0.below hb (Nat.le_refl _); have B1 := B0.trans (hb.mono B0.size))
      obtain ⟨x0, x1⟩ := id X1
      obtain ⟨b, off, rfl, hc⟩ := hv1.cells (by omega)
      have hc0 := hc 0 _ (some_at0 (by omega))
      rw [Nat.add_zero] at hc0
      clear hc
      go_wp2
      go_ret
      exact ⟨by simp only [curB, hs, hq]; rfl, B1⟩


end Go.Proofs.Ytflebfmkgmhccaa
