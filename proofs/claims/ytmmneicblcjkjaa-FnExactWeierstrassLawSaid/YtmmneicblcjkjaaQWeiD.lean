/- Lemmas of WeiD. -/
import Derived.Test.YtmmneicblcjkjaaQG2
set_option linter.unusedSimpArgs false
set_option linter.unusedVariables false
namespace Go.Proofs.Ytmmneicblcjkjaa
open Go.RowKit

def stdB (m d : Int) (l : List Int) : Bool := modB m && inB d 1 10 && l.all (fun x => inB x 0 (m - 1))
def fiveB (m d : Int) (l : List Int) : Bool := (l.length == 5) && stdB m d l
theorem fiveB_t {m d : Int} {l : List Int} (h : fiveB m d l = true) : l.length = 5 ∧ 2 ≤ m ∧ m ≤ 10000 ∧ 1 ≤ d ∧ d ≤ 10 ∧ ∀ x ∈ l, 0 ≤ x ∧ x < m := by
  unfold fiveB stdB at h
  simp only [Bool.and_eq_true, beq_iff_eq] at h
  obtain ⟨h1, ⟨h2, h3⟩, h4⟩ := h
  have a := modB_t h2
  have b := inB_t h3
  refine ⟨h1, a.1, a.2, b.1, b.2, fun x hx => ?_⟩
  have := inB_t (List.all_eq_true.1 h4 x hx)
  omega

set_option maxHeartbeats 400000 in
theorem std1_c (m x : Int) (b : Nat) (w : World) (hm : -9223372036854775808 < m) (hm' : m ≤ 9223372036854775807)
    (h1 : w.cell? ⟨b, 0, none⟩ = some (.int .i64 m)) :
    Calls Try.prog 52 #[.int .i64 x, .pointer (some ⟨b, 0, none⟩)] w fun e w' => e = .returned (.bool (inB x 0 (m - 1))) ∧ w = w' := by
  go_enter Try.func52, Try.ntmps52
  go_wp2_with (go_at_call 53; refine (isNumber_c _ _ _ hm hm').mono ?_; rintro e w' ⟨rfl, rfl⟩)
  go_ret
  exact ⟨rfl, rfl⟩
theorem std1_callable : Callable 52 := fun args w => Try.call52 args w

set_option maxHeartbeats 400000 in
theorem standard_c (m d : Int) (v : Value) (xs : List Int) (w : World) (hv : RdI w v xs) :
    Calls Try.prog 30 #[.int .i64 m, .int .i64 d, v] w fun e w' => e = .returned (.int .i64 (if stdB m d xs then 0 else 2)) ∧ Below w.heap.size w w' := by
  obtain ⟨o, c, rfl, hmx, -⟩ := id hv
  clear hmx
  cases hs : modB m
  · have hR : stdB m d xs = false := by simp [stdB, hs]
    rw [hR]
    cases ht : inB d 1 10
    all_goals
      go_enter Try.func30, Try.ntmps30
      go_wp2_with (first | (go_at_call 49; refine (IsModulus_c _ _).mono ?_; rw [hs]; rintro e w' ⟨rfl, rfl⟩) | (go_at_call 50; refine (in_c _ _ _ _).mono ?_; rw [ht]; rintro e w' ⟨rfl, rfl⟩))
      go_ret
      exact ⟨rfl, (by (repeat (first | exact Below.refl _ _ | (refine Below.setCell ?_ (by first | (simp; done) | (simp; omega) | omega) _) | (refine Below.alloc ?_ (by first | (simp; done) | (simp; omega) | omega) _) | (refine below_drewN ?_ _) | (refine Below.drew ?_))))⟩
  · have hm1 := modB_t hs
    cases ht : inB d 1 10
    · have hR : stdB m d xs = false := by simp [stdB, ht]
      rw [hR]
      go_enter Try.func30, Try.ntmps30
      go_wp2_with (first | (go_at_call 49; refine (IsModulus_c _ _).mono ?_; rw [hs]; rintro e w' ⟨rfl, rfl⟩) | (go_at_call 50; refine (in_c _ _ _ _).mono ?_; rw [ht]; rintro e w' ⟨rfl, rfl⟩))
      go_ret
      exact ⟨rfl, (by (repeat (first | exact Below.refl _ _ | (refine Below.setCell ?_ (by first | (simp; done) | (simp; omega) | omega) _) | (refine Below.alloc ?_ (by first | (simp; done) | (simp; omega) | omega) _) | (refine below_drewN ?_ _) | (refine Below.drew ?_))))⟩
    · cases hq : xs.all (fun x => inB x 0 (m - 1))
      all_goals
        have hR : stdB m d xs = xs.all (fun x => inB x 0 (m - 1)) := by simp only [stdB, hs, ht]; rfl
        rw [hR, hq]
        go_enter Try.func30, Try.ntmps30
        go_wp2_with (first | (go_at_call 49; refine (IsModulus_c _ _).mono ?_; rw [hs]; rintro e w' ⟨rfl, rfl⟩) | (go_at_call 50; refine (in_c _ _ _ _).mono ?_; rw [ht]; rintro e w' ⟨rfl, rfl⟩))
        refine (allI_c 52 _ (fun x => inB x 0 (m - 1)) _ xs _ (hv.below (by (repeat (first | exact Below.refl _ _ | (refine Below.setCell ?_ (by first | (simp; done) | (simp; omega) | omega) _) | (refine Below.alloc ?_ (by first | (simp; done) | (simp; omega) | omega) _) | (refine below_drewN ?_ _) | (refine Below.drew ?_)))) (Nat.le_refl _)) std1_callable (fun x hx w1 hb => std1_c m x _ _ (by omega) (by omega) (keep_cell hb (Nat.le_refl _) (by simp)))).mono ?_
        rw [hq]
        rintro e w2 ⟨rfl, hb2⟩
        have hbz := hb2.size
        simp at hbz
        go_wp2
        go_ret
        exact ⟨rfl, (by (repeat (first | exact Below.refl _ _ | (refine Below.setCell ?_ (by first | (simp; done) | (simp; omega) | omega) _) | (refine Below.alloc ?_ (by first | (simp; done) | (simp; omega) | omega) _) | (refine below_drewN ?_ _) | (refine Below.drew ?_) | (refine Below.trans ?_ (Below.mono hb2 (by first | (simp; done) | (simp; omega) | omega))))))⟩

set_option maxHeartbeats 400000 in
theorem fived_c (m d : Int) (v : Value) (xs : List Int) (w : World) (hv : RdI w v xs) :
    Calls Try.prog 15 #[.int .i64 m, .int .i64 d, v] w fun e w' => e = .returned (.int .i64 (if fiveB m d xs then 0 else 2)) ∧ Below w.heap.size w w' := by
  obtain ⟨o, c, rfl, hmx, -⟩ := id hv
  have hml := hmx.1
  unfold maxLen at hml
  clear hmx
  by_cases h5 : xs.length = 5
  · have hR : fiveB m d xs = stdB m d xs := by simp [fiveB, h5]
    have h5' : ((xs.length : Int) != 5) = false := by rw [bne_eq_false_iff_eq]; omega
    rw [hR]
    clear h5 hR
    cases hS : stdB m d xs
    all_goals
      go_enter Try.func15, Try.ntmps15
      go_wp2_with fail
      refine (standard_c m d _ xs _ hv).mono ?_
      rw [hS]
      rintro e w2 ⟨rfl, hb2⟩
      go_wp2
      go_ret
      exact ⟨rfl, hb2⟩
  · have hR : fiveB m d xs = false := by simp [fiveB, h5]
    have h5' : ((xs.length : Int) != 5) = true := by rw [bne_iff_ne]; omega
    rw [hR]
    clear h5 hR
    go_enter Try.func15, Try.ntmps15
    go_wp2
    go_ret
    exact ⟨rfl, (by (repeat (first | exact Below.refl _ _ | (refine Below.setCell ?_ (by first | (simp; done) | (simp; omega) | omega) _) | (refine Below.alloc ?_ (by first | (simp; done) | (simp; omega) | omega) _) | (refine below_drewN ?_ _) | (refine Below.drew ?_))))⟩

set_option maxHeartbeats 400000 in
theorem l08Kind_c (m d : Int) (v : Value) (xs : List Int) (w : World) (hv : RdI w v xs) :
    Calls Try.prog 20 #[.int .i64 m, .int .i64 d, v] w fun e w' => e = .returned (.bool (stdB m d xs)) ∧ w = w' := by
  obtain ⟨o, c, rfl, hmx, -⟩ := id hv
  have hml := hmx.1
  unfold maxLen at hml
  clear hmx
  cases hs : inB m 2 10000
  · have hR : stdB m d xs = false := by simp [stdB, modB, hs]
    rw [hR]
    go_enter Try.func20, Try.ntmps20
    go_wp2_with (go_at_call 45; refine (l01In_c _ _ _ _).mono ?_; rw [hs]; rintro e w' ⟨rfl, rfl⟩)
    go_ret
    exact ⟨rfl, rfl⟩
  · have hm1 := inB_t hs
    cases ht : inB d 1 10
    · have hR : stdB m d xs = false := by simp [stdB, ht]
      rw [hR]
      go_enter Try.func20, Try.ntmps20
      go_wp2_with (go_at_call 45; refine (l01In_c _ _ _ _).mono ?_; (first | rw [hs] | rw [ht]); rintro e w' ⟨rfl, rfl⟩)
      go_ret
      exact ⟨rfl, rfl⟩
    · have hR : stdB m d xs = xs.all (fun x => inB x 0 (m - 1)) := by simp only [stdB, modB, hs, ht]; rfl
      have HR := Lib.hid hR
      have HS := Lib.hid hs
      have HT := Lib.hid ht
      clear hR hs ht
      go_enter Try.func20, Try.ntmps20
      go_wp2_with (go_at_call 45; refine (l01In_c _ _ _ _).mono ?_; (first | rw [HS.out] | rw [HT.out]); rintro e w' ⟨rfl, rfl⟩)
      go_loopw [7] (fun s w2 => ∃ k : Nat, k ≤ xs.length ∧ s = .int .i64 k ∧ Hid (∀ j (hj : j < xs.length), j < k → inB xs[j] 0 (m - 1) = true) ∧ w2 = w) (fun i _ => xs.length - (intOf i).toNat)
      case atStart => exact ⟨0, Nat.zero_le _, rfl, Lib.hid (fun j hj h => by omega), rfl⟩
      case round =>
        obtain ⟨k, hk, rfl, HQ, rfl⟩ := hrel
        have i0 : (0 : Int) ≤ (k : Int) := by omega
        by_cases hlt : k < xs.length
        · have i1 : (k : Int) < (xs.length : Int) := by omega
          obtain ⟨bx, fx, rfl, hcx⟩ := hv.cells (by omega)
          have hc := hcx k _ (List.getElem?_eq_getElem hlt)
          clear hcx
          cases hq : inB xs[k] 0 (m - 1)
          · have hA : xs.all (fun x => inB x 0 (m - 1)) = false := List.all_eq_false.2 ⟨xs[k], List.getElem_mem _, by simp [hq]⟩
            have HA := Lib.hid (HR.out.trans hA)
            clear hA
            go_wp2_with (go_at_call 45; refine (l01In_c _ _ _ _).mono ?_; rw [hq]; rintro e w' ⟨rfl, rfl⟩)
            go_ret
            exact ⟨by rw [HA.out]; rfl, rfl⟩
          · go_wp2_with (go_at_call 45; refine (l01In_c _ _ _ _).mono ?_; rw [hq]; rintro e w' ⟨rfl, rfl⟩)
            exact ⟨⟨k + 1, by omega, by go_num, Lib.hid (fun j hj h => by
              rcases Nat.lt_or_ge j k with h1 | h1
              · exact HQ.out j hj h1
              · obtain rfl : j = k := by omega
                exact hq), (by trivial)⟩, by simp [intOf]; omega⟩
        · have i1 : ¬ (k : Int) < (xs.length : Int) := by omega
          have hall : xs.all (fun x => inB x 0 (m - 1)) = true := by
            rw [List.all_eq_true]
            intro p hp
            obtain ⟨j, hj, rfl⟩ := List.getElem_of_mem hp
            exact HQ.out j hj (by omega)
          have HA := Lib.hid (HR.out.trans hall)
          clear hall
          go_wp2
          go_ret
          exact ⟨by rw [HA.out]; rfl, rfl⟩

set_option maxHeartbeats 400000 in
theorem l08List_c (m d : Int) (v : Value) (xs : List Int) (w : World) (hv : RdI w v xs) :
    Calls Try.prog 12 #[.int .i64 m, .int .i64 d, v] w fun e w' => e = .returned (.bool (fiveB m d xs)) ∧ w = w' := by
  obtain ⟨o, c, rfl, hmx, -⟩ := id hv
  have hml := hmx.1
  unfold maxLen at hml
  clear hmx
  by_cases h5 : xs.length = 5
  · have hR : fiveB m d xs = stdB m d xs := by simp [fiveB, h5]
    have h5' : ((xs.length : Int) == 5) = true := by rw [beq_iff_eq]; omega
    rw [hR]
    clear h5 hR
    go_enter Try.func12, Try.ntmps12
    go_wp2_with fail
    refine (l08Kind_c m d _ xs _ hv).mono ?_
    rintro e w2 ⟨rfl, rfl⟩
    go_wp2
    go_ret
    exact ⟨rfl, rfl⟩
  · have hR : fiveB m d xs = false := by simp [fiveB, h5]
    have h5' : ((xs.length : Int) == 5) = false := by rw [beq_eq_false_iff_ne]; omega
    rw [hR]
    clear h5 hR
    go_enter Try.func12, Try.ntmps12
    go_wp2
    go_ret
    exact ⟨rfl, rfl⟩
end Go.Proofs.Ytmmneicblcjkjaa
