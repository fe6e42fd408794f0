/- Lemmas. -/
import Derived.Test.YteijannfbafdpaaGreatDoorSZG2
import Derived.Test.YteijannfbafdpaaGreatDoorSZG1
import Derived.Deep.RegionHeld3
import Derived.Deep.DeepCutAuto
import Derived.StillTailTactics
/- Whether something is a series, a curve; whether two are alike: the program's answers and the reference's. -/
set_option linter.unusedSimpArgs false
set_option linter.unusedVariables false
namespace Go.Proofs.YteijannfbafdpaaGreatDoor
open Go.RowKit

def numsB (m : Int) (xs : List Int) : Bool := xs.all (fun x => inB x 0 (m - 1))
theorem nums_x {m : Int} {xs : List Int} (h : numsB m xs = true) : ∀ x ∈ xs, 0 ≤ x ∧ x < m := by
  intro x hx
  have := inB_t (List.all_eq_true.1 h x hx)
  omega
set_option maxHeartbeats 400000 in
theorem degreeS_c (m : Int) (o : Option Addr) (n c : Nat) (w : World) (hn : n ≤ maxLen) :
    Calls Tryz.prog 84 #[.agg #[.int .i64 m, .slice o n c]] w fun e w' => e = .returned (.int .i64 ((n : Int) - 1)) ∧ Below w.heap.size w w' := by
  unfold maxLen at hn
  go_enter Tryz.func84, Tryz.ntmps84
  go_wp2
  go_ret
  exact ⟨rfl, (by (repeat (first | exact bR _ _ | (refine bS ?_ _) | (refine bA ?_ _) | (refine bN ?_ _) | (refine bD ?_))))⟩

set_option maxHeartbeats 400000 in
theorem l01Numbers_c (m : Int) (v : Value) (xs : List Int) (w : World) (hv : RdI w v xs) (hm : -9223372036854775808 < m) (hm' : m ≤ 9223372036854775807) :
    Calls Tryz.prog 65 #[.int .i64 m, v] w fun e w' => e = .returned (.bool (numsB m xs)) ∧ w = w' := by
  obtain ⟨o, c, rfl, hmx, hc⟩ := hv
  unfold maxLen at hmx
  go_enter Tryz.func65, Tryz.ntmps65
  go_wp2_with fail
  go_loop [5] (fun i => ∃ k : Nat, k ≤ xs.length ∧ i = .int .i64 k ∧ Hid (∀ j (hj : j < xs.length), j < k → inB xs[j] 0 (m - 1) = true)) (fun i => xs.length - (intOf i).toNat)
  case atStart => exact ⟨0, Nat.zero_le _, rfl, Lib.hid (fun j hj h => by omega)⟩
  case round =>
    obtain ⟨k, hk, rfl, HQ⟩ := hrel
    by_cases hlt : k < xs.length
    · obtain ⟨b, off, rfl, hx⟩ := hc k (xs[k]) (by simp [hlt])
      cases hq : inB xs[k] 0 (m - 1)
      · go_wp2_with (go_at_call 95; refine (l01In_c _ _ _ _).mono ?_; rw [hq]; rintro e w' ⟨rfl, rfl⟩)
        go_ret
        exact ⟨by unfold numsB; rw [List.all_eq_false.2 ⟨xs[k], by simp, by simp [hq]⟩]; rfl, rfl⟩
      · go_wp2_with (go_at_call 95; refine (l01In_c _ _ _ _).mono ?_; rw [hq]; rintro e w' ⟨rfl, rfl⟩)
        exact ⟨⟨k + 1, by omega, by go_num, Lib.hid (fun j hj h => by
          rcases Nat.lt_or_ge j k with h1 | h1
          · exact HQ.out j hj h1
          · obtain rfl : j = k := by omega
            exact hq)⟩, by simp [intOf]; omega⟩
    · go_wp2
      go_ret
      exact ⟨by unfold numsB; rw [List.all_eq_true.2 (fun x hx => by obtain ⟨j, hj, rfl⟩ := List.getElem_of_mem hx; exact HQ.out j hj (by omega))]; rfl, rfl⟩

set_option maxHeartbeats 400000 in
theorem l01Modulus_c (m : Int) (w : World) :
    Calls Tryz.prog 64 #[.int .i64 m] w fun e w' => e = .returned (.bool (modB m)) ∧ w = w' := by
  go_enter Tryz.func64, Tryz.ntmps64
  go_wp2_with (go_at_call 95; refine (l01In_c _ _ _ _).mono ?_; rintro e w' ⟨rfl, rfl⟩)
  go_ret
  exact ⟨rfl, rfl⟩

end Go.Proofs.YteijannfbafdpaaGreatDoor

/- Whether something is a plane; whether two are alike: the program's answers and the reference's. -/
set_option linter.unusedSimpArgs false
set_option linter.unusedVariables false
namespace Go.Proofs.YteijannfbafdpaaGreatDoor
open Go.RowKit

def rowB (m : Int) (n j : Nat) (row : List Int) : Bool := decide (row.length = n - j) && numsB m row
def rowsB (m : Int) (xss : List (List Int)) : Bool := (List.range xss.length).all (fun j => rowB m xss.length j (xss.getD j []))
def plaB (m : Int) (xss : List (List Int)) : Bool := modB m && inB ((xss.length : Int) - 1) 1 10 && rowsB m xss
theorem getD_at {xss : List (List Int)} {j : Nat} (h : j < xss.length) : xss.getD j [] = xss[j] := by simp [List.getD, h]
theorem rowsB_t {m : Int} {xss : List (List Int)} (h : ∀ j (hj : j < xss.length), rowB m xss.length j xss[j] = true) : rowsB m xss = true := by
  unfold rowsB
  rw [List.all_eq_true]
  intro j hj
  have hj' := List.mem_range.1 hj
  rw [getD_at hj']; exact h j hj'
theorem rowsB_f {m : Int} {xss : List (List Int)} {j : Nat} (hj : j < xss.length) (h : rowB m xss.length j xss[j] = false) : rowsB m xss = false := by
  unfold rowsB
  rw [List.all_eq_false]
  exact ⟨j, List.mem_range.2 hj, by rw [getD_at hj, h]; simp⟩
theorem pla_m {m : Int} {xss : List (List Int)} (h : plaB m xss = true) : 2 ≤ m ∧ m ≤ 10000 := by simp [plaB] at h; exact modB_t h.1.1
theorem pla_n {m : Int} {xss : List (List Int)} (h : plaB m xss = true) : 2 ≤ xss.length ∧ xss.length ≤ 11 := by simp [plaB] at h; have := inB_t h.1.2; omega
theorem pla_row {m : Int} {xss : List (List Int)} (h : plaB m xss = true) (j : Nat) (hj : j < xss.length) : xss[j].length = xss.length - j ∧ ∀ x ∈ xss[j], 0 ≤ x ∧ x < m := by
  simp only [plaB, Bool.and_eq_true, rowsB, List.all_eq_true] at h
  have := h.2 j (List.mem_range.2 hj)
  rw [getD_at hj] at this
  simp only [rowB, Bool.and_eq_true, decide_eq_true_eq] at this
  exact ⟨this.1, nums_x this.2⟩
set_option maxHeartbeats 400000 in
theorem degreeP_c (m : Int) (o : Option Addr) (n c : Nat) (w : World) (hn : n ≤ maxLen) :
    Calls Tryz.prog 31 #[.agg #[.int .i64 m, .slice o n c]] w fun e w' => e = .returned (.int .i64 ((n : Int) - 1)) ∧ Below w.heap.size w w' := by
  unfold maxLen at hn
  go_enter Tryz.func31, Tryz.ntmps31
  go_wp2
  go_ret
  exact ⟨rfl, (by (repeat (first | exact bR _ _ | (refine bS ?_ _) | (refine bA ?_ _) | (refine bN ?_ _) | (refine bD ?_))))⟩

set_option maxHeartbeats 400000 in
theorem IsPlane1_c (m x : Int) (b : Nat) (w : World) (hm : -9223372036854775808 < m) (hm' : m ≤ 9223372036854775807)
    (h1 : w.cell? ⟨b, 0, none⟩ = some (.int .i64 m)) :
    Calls Tryz.prog 76 #[.int .i64 x, .pointer (some ⟨b, 0, none⟩)] w fun e w' => e = .returned (.bool (inB x 0 (m - 1))) ∧ w = w' := by
  go_enter Tryz.func76, Tryz.ntmps76
  go_wp2_with (go_at_call 77; refine (isNumber_c _ _ _ hm hm').mono ?_; rintro e w' ⟨rfl, rfl⟩)
  go_ret
  exact ⟨rfl, rfl⟩
theorem IsPlane1_callable : Callable 76 := fun args w => Tryz.call76 args w

set_option maxHeartbeats 1000000 in
theorem IsPlane_c (m : Int) (v : Value) (xss : List (List Int)) (w : World) (hv : RdT w v xss) :
    Calls Tryz.prog 53 #[.agg #[.int .i64 m, v]] w fun e w' => e = .returned (.bool (plaB m xss)) ∧ Below w.heap.size w w' := by
  obtain ⟨o, c, rfl, hm, -⟩ := id hv
  have hml := hm.1
  unfold maxLen at hm
  cases hs : modB m
  · go_enter Tryz.func53, Tryz.ntmps53
    go_wp2_with (go_at_call 55; refine (IsModulus_c _ _).mono ?_; rw [hs]; rintro e w' ⟨rfl, rfl⟩)
    go_ret
    exact ⟨by simp [plaB, hs], (by (repeat (first | exact bR _ _ | (refine bS ?_ _) | (refine bA ?_ _) | (refine bN ?_ _) | (refine bD ?_))))⟩
  · have hm1 := modB_t hs
    cases ht : inB ((xss.length : Int) - 1) 1 10
    all_goals
      go_enter Tryz.func53, Tryz.ntmps53
      go_wp2_with (go_at_call 55; refine (IsModulus_c _ _).mono ?_; rw [hs]; rintro e w' ⟨rfl, rfl⟩)
      (obtain ⟨w0, hw0⟩ : ∃ W : World, W = (w.alloc (.cells #[.int .i64 m, .slice o xss.length c] 28)) := ⟨_, rfl⟩; have X0 := (RB2.mk1 w  (.int .i64 m) (.slice o xss.length c) 28).1.below (w' := w0) (by rw [hw0]; (repeat (first | exact bR _ _ | (refine bS ?_ _) | (refine bA ?_ _) | (refine bN ?_ _) | (refine bD ?_)))) (Nat.le_refl _); have B0 : Below w.heap.size w w0 := (by rw [hw0]; (repeat (first | exact bR _ _ | (refine bS ?_ _) | (refine bA ?_ _) | (refine bN ?_ _) | (refine bD ?_)))); have hv0 := hv.below (w' := w0) (by rw [hw0]; (repeat (first | exact bR _ _ | (refine bS ?_ _) | (refine bA ?_ _) | (refine bN ?_ _) | (refine bD ?_)))) (Nat.le_refl _); rw [← hw0]; clear hw0)
      obtain ⟨x0, x1⟩ := id X0
      go_wp2_with fail
      refine (degreeP_c m o xss.length c _ hml).mono ?_
      rintro e w1 ⟨rfl, hb⟩
      (have X1 := X0.below hb (Nat.le_refl _); have hv1 := hv0.below hb (Nat.le_refl _); have B1 := B0.trans (hb.mono B0.size))
      clear x0 x1
      obtain ⟨x0, x1⟩ := id X1
      go_wp2_with (go_at_call 56; refine (in_c _ _ _ _).mono ?_; rw [ht]; rintro e w' ⟨rfl, rfl⟩)
    · go_ret
      exact ⟨by simp [plaB, ht], (by (repeat (first | exact bR _ _ | (refine bS ?_ _) | (refine bA ?_ _) | (refine bN ?_ _) | (refine bD ?_) | (refine bT ?_ B1))))⟩
    · clear x0 x1
      have hB1s := B1.size
      go_loopw [18] (fun i wr => ∃ k : Nat, k ≤ xss.length ∧ i = .int .i64 k ∧ Hid (∀ j (hj : j < xss.length), j < k → rowB m xss.length j xss[j] = true) ∧ Below w1.heap.size w1 wr) (fun i _ => xss.length - (intOf i).toNat)
      case atStart => exact ⟨0, Nat.zero_le _, rfl, Lib.hid (fun j hj h => by omega), Below.refl _ _⟩
      case round =>
        obtain ⟨k, hk, rfl, HQ, hbr⟩ := hrel
        have hvr := hv1.below hbr (Nat.le_refl _)
        obtain ⟨x0, x1⟩ := X1.below hbr (Nat.le_refl _)
        have hbs := hbr.size
        by_cases hlt : k < xss.length
        · obtain ⟨b, off, rfl, -⟩ := hvr.rows (by omega)
          obtain ⟨o', c', hx, hr⟩ := hvr.row (show xss[k]? = some xss[k] by simp [hlt])
          have hrl := hr.len.2.1
          unfold maxLen at hrl
          cases hq : ((xss[k].length : Int) != (xss.length : Int) - (k : Int))
          · have hlen : xss[k].length = xss.length - k := by simp at hq; omega
            have HLEN := Lib.hid hlen
            clear hlen
            cases hn : numsB m xss[k]
            all_goals
              go_wp2_with fail
              refine (allI_c 76 _ (fun x => inB x 0 (m - 1)) _ xss[k] _ hr IsPlane1_callable (fun x hx w1 hb => IsPlane1_c m x _ _ (by omega) (by omega) (keep_cell hb (Nat.le_refl _) x0))).mono ?_
              rw [show xss[k].all (fun x => inB x 0 (m - 1)) = _ from hn]
              rintro e w2 ⟨rfl, hb2⟩
              have hb3 := hbr.trans (hb2.mono hbs)
              clear x0 x1
              obtain ⟨x0, x1⟩ := X1.below hb3 (Nat.le_refl _)
              go_wp2
            · go_ret
              exact ⟨by rw [show plaB m xss = false by simp [plaB, rowsB_f hlt (show rowB m xss.length k xss[k] = false by simp [rowB, hn])]]; rfl, B1.trans (hb3.mono hB1s)⟩
            · exact ⟨⟨k + 1, by omega, by go_num, Lib.hid (fun j hj h => by
                rcases Nat.lt_or_ge j k with h1 | h1
                · exact HQ.out j hj h1
                · obtain rfl : j = k := by omega
                  simp [rowB, hn, HLEN.out]), hb3⟩, by simp [intOf]; omega⟩
          · have hlen : ¬ xss[k].length = xss.length - k := by simp at hq; omega
            have HLEN := Lib.hid hlen
            clear hlen
            go_wp2
            go_ret
            exact ⟨by rw [show plaB m xss = false by simp [plaB, rowsB_f hlt (show rowB m xss.length k xss[k] = false by simp [rowB, HLEN.out])]]; rfl, B1.trans (hbr.mono hB1s)⟩
        · go_wp2
          go_ret
          exact ⟨by rw [show plaB m xss = true by simp [plaB, hs, ht, rowsB_t (fun j hj => HQ.out j hj (by omega))]]; rfl, B1.trans (hbr.mono hB1s)⟩

set_option maxHeartbeats 1000000 in
theorem l03Is_c (m : Int) (v : Value) (xss : List (List Int)) (w : World) (hv : RdT w v xss) :
    Calls Tryz.prog 38 #[.agg #[.int .i64 m, v]] w fun e w' => e = .returned (.bool (plaB m xss)) ∧ Below w.heap.size w w' := by
  obtain ⟨o, c, rfl, hm, -⟩ := id hv
  have hml := hm.1
  unfold maxLen at hm
  cases hs : modB m
  · go_enter Tryz.func38, Tryz.ntmps38
    go_wp2_with (go_at_call 64; refine (l01Modulus_c _ _).mono ?_; rw [hs]; rintro e w' ⟨rfl, rfl⟩)
    go_ret
    exact ⟨by simp [plaB, hs], (by (repeat (first | exact bR _ _ | (refine bS ?_ _) | (refine bA ?_ _) | (refine bN ?_ _) | (refine bD ?_))))⟩
  · have hm1 := modB_t hs
    cases ht : inB ((xss.length : Int) - 1) 1 10
    · have hno := inB_f ht
      have HT := Lib.hid ht
      clear ht
      by_cases h2 : (xss.length : Int) < 2
      · go_enter Tryz.func38, Tryz.ntmps38
        go_wp2_with (go_at_call 64; refine (l01Modulus_c _ _).mono ?_; rw [hs]; rintro e w' ⟨rfl, rfl⟩)
        go_ret
        exact ⟨by simp [plaB, HT.out], (by (repeat (first | exact bR _ _ | (refine bS ?_ _) | (refine bA ?_ _) | (refine bN ?_ _) | (refine bD ?_))))⟩
      · have h3 : (11 : Int) < (xss.length : Int) := by omega
        clear hno
        go_enter Tryz.func38, Tryz.ntmps38
        go_wp2_with (go_at_call 64; refine (l01Modulus_c _ _).mono ?_; rw [hs]; rintro e w' ⟨rfl, rfl⟩)
        go_ret
        exact ⟨by simp [plaB, HT.out], (by (repeat (first | exact bR _ _ | (refine bS ?_ _) | (refine bA ?_ _) | (refine bN ?_ _) | (refine bD ?_))))⟩
    · have hyes := inB_t ht
      have HT := Lib.hid ht
      clear ht
      have h2 : ¬ (xss.length : Int) < 2 := by omega
      have h3 : ¬ (11 : Int) < (xss.length : Int) := by omega
      clear hyes
      obtain ⟨b, off, rfl, -⟩ := hv.rows (by omega)
      go_enter Tryz.func38, Tryz.ntmps38
      go_wp2_with (go_at_call 64; refine (l01Modulus_c _ _).mono ?_; rw [hs]; rintro e w' ⟨rfl, rfl⟩)
      (obtain ⟨w0, hw0⟩ : ∃ W : World, W = (w.alloc (.cells #[.int .i64 m, .slice (some ⟨b, off, none⟩) xss.length c] 28)) := ⟨_, rfl⟩; have X0 := (RB2.mk1 w  (.int .i64 m) (.slice (some ⟨b, off, none⟩) xss.length c) 28).1.below (w' := w0) (by rw [hw0]; (repeat (first | exact bR _ _ | (refine bS ?_ _) | (refine bA ?_ _) | (refine bN ?_ _) | (refine bD ?_)))) (Nat.le_refl _); have B0 : Below w.heap.size w w0 := (by rw [hw0]; (repeat (first | exact bR _ _ | (refine bS ?_ _) | (refine bA ?_ _) | (refine bN ?_ _) | (refine bD ?_)))); have hv0 := hv.below (w' := w0) (by rw [hw0]; (repeat (first | exact bR _ _ | (refine bS ?_ _) | (refine bA ?_ _) | (refine bN ?_ _) | (refine bD ?_)))) (Nat.le_refl _); rw [← hw0]; clear hw0)
      go_loopw [4] (fun i wr => ∃ k : Nat, k ≤ xss.length ∧ i = .int .i64 k ∧ Hid (∀ j (hj : j < xss.length), j < k → rowB m xss.length j xss[j] = true) ∧ ∃ d, wr = w0.drewN d) (fun i _ => xss.length - (intOf i).toNat)
      case atStart => exact ⟨0, Nat.zero_le _, rfl, Lib.hid (fun j hj h => by omega), 0, rfl⟩
      case round =>
        obtain ⟨k, hk, rfl, HQ, d, rfl⟩ := hrel
        obtain ⟨x0, x1⟩ := id X0
        by_cases hlt : k < xss.length
        · obtain ⟨o', c', hx, hr⟩ := hv0.row (show xss[k]? = some xss[k] by simp [hlt])
          have hrl := hr.len.2.1
          unfold maxLen at hrl
          have i0 : (0 : Int) ≤ (k : Int) := by omega
          have i1 : (k : Int) < (xss.length : Int) := by omega
          have hw : IntKind.i64.wrap ((xss.length : Int) - (k : Int)) = (xss.length : Int) - (k : Int) := IntWalk.i64_in _ (by omega)
          cases hq : ((xss[k].length : Int) != (xss.length : Int) - (k : Int))
          · have hlen : xss[k].length = xss.length - k := by simp at hq; omega
            have HLEN := Lib.hid hlen
            clear hlen
            cases hn : numsB m xss[k]
            all_goals
              go_wp2_with fail
              go_quiet ((go_at_call 65; (first | exact quietA (by rw [hn]) (l01Numbers_c m _ xss[k] _ hr (by omega) (by omega)) | exact quietB (by rw [hn]) (l01Numbers_c m _ xss[k] _ hr (by omega) (by omega)) | exact quietC (by rw [hn]) (l01Numbers_c m _ xss[k] _ hr (by omega) (by omega)) | exact quietD (by rw [hn]) (l01Numbers_c m _ xss[k] _ hr (by omega) (by omega)))))
              clear hw
              go_wp2
            · go_ret
              exact ⟨by rw [show plaB m xss = false by simp [plaB, rowsB_f hlt (show rowB m xss.length k xss[k] = false by simp [rowB, hn])]]; rfl, (by (repeat (first | exact bR _ _ | (refine bS ?_ _) | (refine bA ?_ _) | (refine bN ?_ _) | (refine bD ?_) | (refine bT ?_ B0))))⟩
            · exact ⟨⟨k + 1, by omega, by go_num, Lib.hid (fun j hj h => by
                rcases Nat.lt_or_ge j k with h1 | h1
                · exact HQ.out j hj h1
                · obtain rfl : j = k := by omega
                  simp [rowB, hn, HLEN.out]), _, rfl⟩, by simp [intOf]; omega⟩
          · have hlen : ¬ xss[k].length = xss.length - k := by simp at hq; omega
            have HLEN := Lib.hid hlen
            clear hlen
            go_wp2_with fail
            go_quiet (fail)
            clear hw
            go_wp2
            go_ret
            exact ⟨by rw [show plaB m xss = false by simp [plaB, rowsB_f hlt (show rowB m xss.length k xss[k] = false by simp [rowB, HLEN.out])]]; rfl, (by (repeat (first | exact bR _ _ | (refine bS ?_ _) | (refine bA ?_ _) | (refine bN ?_ _) | (refine bD ?_) | (refine bT ?_ B0))))⟩
        · go_wp2
          go_ret
          exact ⟨by rw [show plaB m xss = true by simp [plaB, hs, HT.out, rowsB_t (fun j hj => HQ.out j hj (by omega))]]; rfl, (by (repeat (first | exact bR _ _ | (refine bS ?_ _) | (refine bA ?_ _) | (refine bN ?_ _) | (refine bD ?_) | (refine bT ?_ B0))))⟩

end Go.Proofs.YteijannfbafdpaaGreatDoor

/- Whether two planes are alike. -/
set_option linter.unusedSimpArgs false
set_option linter.unusedVariables false
namespace Go.Proofs.YteijannfbafdpaaGreatDoor
open Go.RowKit

end Go.Proofs.YteijannfbafdpaaGreatDoor

/- Arithmetic modulo a number: the program's functions and the reference's. -/
set_option linter.unusedSimpArgs false
set_option linter.unusedVariables false
namespace Go.Proofs.YteijannfbafdpaaGreatDoor
open Go.RowKit

set_option maxHeartbeats 400000 in
theorem mod_c (n m : Int) (w : World) (hm : 0 < m) (hm' : m ≤ 1000000000000000000) (h1 : -9000000000000000000 ≤ n) (h2 : n ≤ 9000000000000000000) :
    Calls Tryz.prog 87 #[.int .i64 n, .int .i64 m] w fun e w' => e = .returned (.int .i64 (n % m)) ∧ w = w' := by
  have h3 : -m < n.tmod m := Int.lt_tmod_of_pos _ hm
  have h4 : n.tmod m < m := Int.tmod_lt_of_pos _ hm
  have HE := Lib.hid (tmod_mod (n := n) (m := m))
  go_enter Tryz.func87, Tryz.ntmps87
  go_wp2
  go_ret
  exact ⟨by rw [← HE.out]; rfl, rfl⟩

set_option maxHeartbeats 400000 in
theorem mul_c (m a b : Int) (w : World) (hm : 1 ≤ m) (hm' : m ≤ 3000000000) (ha : 0 ≤ a) (hb : 0 ≤ b) (ha' : a < m) (hb' : b < m) :
    Calls Tryz.prog 88 #[.int .i64 m, .int .i64 a, .int .i64 b] w fun e w' => e = .returned (.int .i64 (a * b % m)) ∧ w = w' := by
  obtain ⟨h1, h2⟩ := prod_fits ha hb ha' hb' hm'
  go_enter Tryz.func88, Tryz.ntmps88
  go_wp2
  go_ret
  exact ⟨rfl, rfl⟩

end Go.Proofs.YteijannfbafdpaaGreatDoor

/- Series: the program's sums, products and compositions. -/
set_option linter.unusedSimpArgs false
set_option linter.unusedVariables false
namespace Go.Proofs.YteijannfbafdpaaGreatDoor
open Go.RowKit

structure SR where
  m : Int
  xs : List Int
  code : Int
def SVEnd (w w' : World) (m : Int) (xs : List Int) (e : Ending) : Prop :=
  ∃ v', e = .returned (.agg #[.int .i64 m, v']) ∧ OwI w' w.heap.size v' xs ∧ Below w.heap.size w w'

set_option maxRecDepth 100000 in
set_option maxHeartbeats 400000 in
theorem zero_c (m d : Int) (n : Nat) (w : World) (hd : d + 1 = n) (hn : n ≤ 1048576) :
    Calls Tryz.prog 80 #[.int .i64 m, .int .i64 d] w fun e w' => SVEnd w w' m (List.replicate n 0) e := by
  go_enter Tryz.func80, Tryz.ntmps80
  go_wp2_with (at_make; go_loud (refine mkI _ rfl _ _ rfl _ _ _ n rfl rfl rfl (by omega) ?_; intro w1 hown hb hs1; simp at hown hs1; obtain ⟨hcc, hff⟩ := bcell hb; have hz : w.heap.size < w1.heap.size := (by omega); have Hown := Lib.hid hown; clear hown; have Hs1 := Lib.hid hs1; clear hs1))
  refine bodyPost_ret (v := .agg #[.int .i64 m, .slice (some ⟨w.heap.size + 1, 0, none⟩) n n]) (by simp [results, Tryz.results80, go_sem, hcc, hz]) rfl ⟨_, rfl, ?_, ?_⟩
  · exact ((Hown.out.low (by first | (simp; done) | (simp; omega) | omega) _).low (by first | (simp; done) | (simp; omega) | omega) _).mono (by first | (simp; done) | (simp; omega) | omega)
  · (repeat (first | exact bR _ _ | (refine bS ?_ _) | (refine bA ?_ _) | (refine bN ?_ _) | (refine bD ?_) | (refine bT ?_ hb)))

set_option maxHeartbeats 1000000 in
set_option maxRecDepth 100000 in
theorem plus_c (m m' : Int) (v u : Value) (xs ys : List Int) (w : World) (hv : RdI w v xs) (hu : RdI w u ys) (hl : ys.length = xs.length) (h1 : 1 ≤ xs.length) (hn : xs.length ≤ 1048576) (hm : 2 ≤ m) (hm' : m ≤ 1000000000000)
    (hx : ∀ x ∈ xs, 0 ≤ x ∧ x < m) (hy : ∀ x ∈ ys, 0 ≤ x ∧ x < m) :
    Calls Tryz.prog 108 #[.agg #[.int .i64 m, v], .agg #[.int .i64 m', u]] w fun e w' => SVEnd w w' m (addL m xs.length xs ys) e := by
  obtain ⟨o, c, rfl, hmx, -⟩ := id hv
  obtain ⟨o', c', rfl, hmy, -⟩ := id hu
  have hml := hmx.1
  unfold maxLen at hmx hmy
  have HL := Lib.hid hl
  clear hl
  go_enter Tryz.func108, Tryz.ntmps108
  go_wp2_with fail
  (obtain ⟨w0, hw0⟩ : ∃ W : World, W = (((w.alloc (.cells #[.int .i64 m, .slice o xs.length c] 57)).alloc (.cells #[.int .i64 m', .slice o' ys.length c'] 57)).alloc (.cells #[.int .i64 0, .slice none 0 0] 57)) := ⟨_, rfl⟩; have X0 := (RB2.mk1 w  (.int .i64 m) (.slice o xs.length c) 57).1.below (w' := w0) (by rw [hw0]; (repeat (first | exact bR _ _ | (refine bS ?_ _) | (refine bA ?_ _) | (refine bN ?_ _) | (refine bD ?_)))) (Nat.le_refl _); have Y0 := (RB2.mk2 w (.cells #[.int .i64 m, .slice o xs.length c] 57) (.int .i64 m') (.slice o' ys.length c') 57).1.below (w' := w0) (by rw [hw0]; (repeat (first | exact bR _ _ | (refine bS ?_ _) | (refine bA ?_ _) | (refine bN ?_ _) | (refine bD ?_)))) (Nat.le_refl _); have R0 := (RB2.mk3 w (.cells #[.int .i64 m, .slice o xs.length c] 57) (.cells #[.int .i64 m', .slice o' ys.length c'] 57) (.int .i64 0) (.slice none 0 0) 57).below (w' := w0) (by rw [hw0]; (repeat (first | exact bR _ _ | (refine bS ?_ _) | (refine bA ?_ _) | (refine bN ?_ _) | (refine bD ?_)))) (Nat.le_refl _); have B0 : Below w.heap.size w w0 := (by rw [hw0]; (repeat (first | exact bR _ _ | (refine bS ?_ _) | (refine bA ?_ _) | (refine bN ?_ _) | (refine bD ?_)))); have hv0 := hv.below (w' := w0) (by rw [hw0]; (repeat (first | exact bR _ _ | (refine bS ?_ _) | (refine bA ?_ _) | (refine bN ?_ _) | (refine bD ?_)))) (Nat.le_refl _); have hu0 := hu.below (w' := w0) (by rw [hw0]; (repeat (first | exact bR _ _ | (refine bS ?_ _) | (refine bA ?_ _) | (refine bN ?_ _) | (refine bD ?_)))) (Nat.le_refl _); rw [← hw0]; clear hw0)
  have hzl : w.heap.size + 2 < w0.heap.size := R0.1.lt
  go_cut [5] (fun sb u => ∃ (wz : World) (b : Nat) (oz : Option Addr) (cz : Nat), wz = u ∧ sb = .pointer (some ⟨b, 0, none⟩) ∧ w0.heap.size ≤ b ∧ RB2 u b (.int .i64 m) (.slice oz xs.length cz) ∧ OwI u w0.heap.size (.slice oz xs.length cz) (List.replicate xs.length 0) ∧ (∀ k, (Value.slice oz xs.length cz).ownBlock = some k → k ≠ b) ∧ Below w0.heap.size w0 u)
  case first =>
    have hd0 : Below w0.heap.size w0 w0.drew := (Below.refl _ _).drew
    have hsd0 := hd0.size
    have hlb_X0 := X0.lt
    obtain ⟨q0_X0_0, q0_X0_1⟩ := X0.below (Below.refl w0.heap.size w0) (Nat.le_refl _)
    have hne0_X0 : w0.heap.size ≠ w.heap.size := by omega
    go_region_held3 (fun w' => w'.cell? ⟨w.heap.size, 0, none⟩ = some (.int .i64 m) ∧ w'.cell? ⟨w.heap.size, 1, none⟩ = some (.slice o xs.length c)) (go_keep)
      (first
        | (go_at_call 84; refine (degreeS_c m o xs.length c _ hml).mono ?_; rintro e wd1 ⟨rfl, hbd1⟩; have hd1 : Below w0.heap.size w0 wd1 := (by (repeat (first | exact bR _ _ | (refine bS ?_ _) | (refine bA ?_ _) | (refine bN ?_ _) | (refine bD ?_) | (refine bT ?_ hbd1)))); have hsd1 := hd1.size; have hsz1_ := hbd1.size; (try simp at hsz1_); obtain ⟨q1_X0_0, q1_X0_1⟩ := X0.below hd1 (Nat.le_refl _); have hne1_X0 : wd1.heap.size ≠ w.heap.size := (by omega); (try (have RZ := RZ.below hbd1 (Nat.le_refl _))); (try (have RZ := (show RB2 (w0.alloc (.cells #[.int .i64 0, .slice none 0 0] 57)).drew w0.heap.size (.int .i64 0) (.slice none 0 0) from RB2.mk1 w0 (.int .i64 0) (.slice none 0 0) _).below hbd1 (Nat.le_refl _))); (try (obtain ⟨⟨z1_0, z1_1⟩, zf1⟩ := id RZ)))
        | (go_at_call 80; refine (zero_c m ((xs.length : Int) - 1) xs.length _ (by omega) (by omega)).mono ?_; rintro e wd2 ⟨vz2, rfl, hod2, hbd2⟩; obtain ⟨oz, cz, rfl⟩ := hod2.shapeN (n := xs.length) (by simp); have hd2 : Below w0.heap.size w0 wd2 := (by (repeat (first | exact bR _ _ | (refine bS ?_ _) | (refine bA ?_ _) | (refine bN ?_ _) | (refine bD ?_) | (refine bT ?_ hbd1) | (refine bT ?_ hbd2)))); have hsd2 := hd2.size; have hsz2_ := hbd2.size; (try simp at hsz2_); obtain ⟨q2_X0_0, q2_X0_1⟩ := X0.below hd2 (Nat.le_refl _); have hne2_X0 : wd2.heap.size ≠ w.heap.size := (by omega); (try (have RZ := RZ.below hbd2 (Nat.le_refl _))); (try (have RZ := (show RB2 (wd1.alloc (.cells #[.int .i64 0, .slice none 0 0] 57)) wd1.heap.size (.int .i64 0) (.slice none 0 0) from RB2.mk1 wd1 (.int .i64 0) (.slice none 0 0) _).below hbd2 (Nat.le_refl _))); (try (obtain ⟨⟨z2_0, z2_1⟩, zf2⟩ := id RZ))))
    all_goals
      go_wp2_with fail
      go_meet
      have hL := hod2.lt
      refine ⟨_, _, oz, cz, rfl, rfl, ?_, ?_, ?_, ?_, ?_⟩
      · first | omega | (simp; done) | (simp; omega)
      · first | exact RB2.mk1 _ _ _ _ | exact RB2.put RZ _ _
      · first | exact (hod2.alloc _).mono (by first | (simp; done) | (simp; omega) | omega) | exact ((hod2.low (by first | (simp; done) | (simp; omega) | omega) _).low (by first | (simp; done) | (simp; omega) | omega) _).mono (by first | (simp; done) | (simp; omega) | omega)
      · intro k hk; have hq := hL k hk; first | omega | (simp at hq; omega)
      · (repeat (first | exact bR _ _ | (refine bS ?_ _) | (refine bA ?_ _) | (refine bN ?_ _) | (refine bD ?_) | (refine bT ?_ hbd1) | (refine bT ?_ hbd2)))
  case rest =>
  obtain ⟨w1, b, oz, cz, rfl, rfl, hbW, O, how, hneb, hb⟩ := hcut
  (have X1 := X0.below hb (Nat.le_refl _); have Y1 := Y0.below hb (Nat.le_refl _); have R1 := R0.below hb (Nat.le_refl _); have hv1 := hv0.below hb (Nat.le_refl _); have hu1 := hu0.below hb (Nat.le_refl _); have B1 := B0.trans (hb.mono B0.size))
  rw [addTo_0 m _ xs ys] at how
  obtain ⟨g, cap, hsl, hgl, hgl', -, -, -⟩ := how.opn (by rw [addTo_len]; omega)
  obtain ⟨rfl, rfl⟩ : oz = some ⟨g, 0, none⟩ ∧ cz = cap := by simp at hsl; exact ⟨hsl.1, hsl.2.2⟩
  clear hsl
  have hgb := hneb g rfl
  clear hneb
  obtain ⟨bx, fx, rfl, hcx⟩ := hv.cells h1
  obtain ⟨by', fy, rfl, hcy⟩ := hu.cells (by have := HL.out; omega)
  clear hcx hcy
  have B1s := B1.size
  obtain ⟨⟨q0, q1⟩, qf⟩ := id O
  go_wp2_with fail
  go_loopw [15] (fun i wr => ∃ k : Nat, k ≤ xs.length ∧ i = .int .i64 k ∧ OwI wr w0.heap.size (.slice (some ⟨g, 0, none⟩) xs.length cz) (addTo m xs.length xs ys k) ∧ w1.grownBy wr (some g)) (fun i _ => xs.length - (intOf i).toNat)
  case atStart => exact ⟨0, Nat.zero_le _, rfl, how, World.grownBy.refl _ _⟩
  case round =>
    obtain ⟨k, hk, rfl, hO, hg⟩ := hrel
    clear q0 q1 qf
    have Br := below_gr B1 hg (by omega) B1s
    by_cases hlt : k < xs.length
    · have hly : k < ys.length := by have := HL.out; omega
      obtain ⟨x0, x1⟩ := X1.grown hg (by simp; omega)
      obtain ⟨y0, y1⟩ := Y1.grown hg (by simp; omega)
      obtain ⟨⟨z0, z1⟩, zf⟩ := O.grown hg (by simp; omega)
      have cx := (hv.below Br (Nat.le_refl _)).cell0 (some_at0 hlt)
      have cy := (hu.below Br (Nat.le_refl _)).cell0 (some_at0 hly)
      have hxk := at0_range (by omega) hx k
      have hyk := at0_range (by omega) hy k
      have hc0 := hO.cell (k := k) (mk_get hlt)
      have hf0 := hO.fz k
      have hMod := mod_lt' (a := at0 xs k + at0 ys k) (show 0 < m by omega)
      have Hn := Lib.hid hO
      clear hO
      go_wp2_with fail
      have e1 : IntKind.i64.wrap (at0 xs k + at0 ys k) = at0 xs k + at0 ys k := IntWalk.i64_in _ (by omega)
      have e2 : (at0 xs k + at0 ys k).tmod m = (at0 xs k + at0 ys k) % m := Int.tmod_eq_emod_of_nonneg (by omega)
      have l1 := cell_lt (hv.cell0 (some_at0 hlt))
      have l2 := cell_lt (hu.cell0 (some_at0 hly))
      have n1 : g ≠ w.heap.size := by omega
      have n2 : g ≠ w.heap.size + 1 := by omega
      have n3 : g ≠ bx := by omega
      have n4 : g ≠ by' := by omega
      clear l1 l2
      have i0 : (0 : Int) ≤ (k : Int) := by omega
      have m0 : (m == 0) = false := by simp; omega
      have m1 : ¬ m = 0 := by omega
      have i1 : (k : Int) < (xs.length : Int) := by omega
      have i2 : (k : Int) < (ys.length : Int) := by omega
      go_region_held3 (fun w' => w'.cell? ⟨w.heap.size, 0, none⟩ = some (.int .i64 m) ∧ w'.cell? ⟨w.heap.size, 1, none⟩ = some (.slice (some ⟨bx, fx, none⟩) xs.length c) ∧ w'.cell? ⟨w.heap.size + 1, 1, none⟩ = some (.slice (some ⟨by', fy, none⟩) ys.length c') ∧ w'.cell? ⟨b, 1, none⟩ = some (.slice (some ⟨g, 0, none⟩) xs.length cz) ∧ w'.cell? ⟨bx, fx + k, none⟩ = some (.int .i64 (at0 xs k)) ∧ w'.cell? ⟨by', fy + k, none⟩ = some (.int .i64 (at0 ys k))) (go_keep) (fail)
      go_wp2
      have h2 := OwI.put Hn.out k ((at0 xs k + at0 ys k) % m)
      rw [addTo_set rfl rfl] at h2
      exact ⟨⟨k + 1, by omega, by go_num, h2, gr_drew (gr_put hg _ _)⟩, by simp [intOf]; omega⟩
    · obtain rfl : k = xs.length := by omega
      rw [addTo_all (Nat.le_refl _)] at hO
      obtain ⟨⟨z0, z1⟩, zf⟩ := O.grown hg (by simp; omega)
      obtain ⟨⟨r0, r1⟩, rf⟩ := R1.grown hg (by simp; omega)
      go_wp2
      refine bodyPost_ret (v := .agg #[.int .i64 m, .slice (some ⟨g, 0, none⟩) xs.length cz]) (by simp [results, Tryz.results108, go_sem, r0, r1]) rfl ⟨_, rfl, ?_, ?_⟩
      · exact ((hO.low (by first | (simp; done) | (simp; omega) | omega) _).low (by first | (simp; done) | (simp; omega) | omega) _).mono (by first | (simp; done) | (simp; omega) | omega)
      · (repeat (first | exact bR _ _ | (refine bS ?_ _) | (refine bA ?_ _) | (refine bN ?_ _) | (refine bD ?_) | (refine bT ?_ Br)))

end Go.Proofs.YteijannfbafdpaaGreatDoor

/- Series: the program's products. -/
set_option linter.unusedSimpArgs false
set_option linter.unusedVariables false
namespace Go.Proofs.YteijannfbafdpaaGreatDoor
open Go.RowKit

set_option maxHeartbeats 2000000 in
set_option maxRecDepth 100000 in
theorem times_c (m m' : Int) (v u : Value) (xs ys : List Int) (w : World) (hv : RdI w v xs) (hu : RdI w u ys) (hl : ys.length = xs.length) (h1 : 1 ≤ xs.length) (hn : xs.length ≤ 1048576) (hm : 2 ≤ m) (hm' : m ≤ 3000000000)
    (hx : ∀ x ∈ xs, 0 ≤ x ∧ x < m) (hy : ∀ x ∈ ys, 0 ≤ x ∧ x < m) :
    Calls Tryz.prog 107 #[.agg #[.int .i64 m, v], .agg #[.int .i64 m', u]] w fun e w' => SVEnd w w' m (timesL m xs.length xs ys) e := by
  obtain ⟨o, c, rfl, hmx, -⟩ := id hv
  obtain ⟨o', c', rfl, hmy, -⟩ := id hu
  have hml := hmx.1
  unfold maxLen at hmx hmy
  have HL := Lib.hid hl
  clear hl
  go_enter Tryz.func107, Tryz.ntmps107
  go_wp2_with fail
  (obtain ⟨w0, hw0⟩ : ∃ W : World, W = (((w.alloc (.cells #[.int .i64 m, .slice o xs.length c] 57)).alloc (.cells #[.int .i64 m', .slice o' ys.length c'] 57)).alloc (.cells #[.int .i64 0, .slice none 0 0] 57)) := ⟨_, rfl⟩; have X0 := (RB2.mk1 w  (.int .i64 m) (.slice o xs.length c) 57).1.below (w' := w0) (by rw [hw0]; (repeat (first | exact bR _ _ | (refine bS ?_ _) | (refine bA ?_ _) | (refine bN ?_ _) | (refine bD ?_)))) (Nat.le_refl _); have Y0 := (RB2.mk2 w (.cells #[.int .i64 m, .slice o xs.length c] 57) (.int .i64 m') (.slice o' ys.length c') 57).1.below (w' := w0) (by rw [hw0]; (repeat (first | exact bR _ _ | (refine bS ?_ _) | (refine bA ?_ _) | (refine bN ?_ _) | (refine bD ?_)))) (Nat.le_refl _); have R0 := (RB2.mk3 w (.cells #[.int .i64 m, .slice o xs.length c] 57) (.cells #[.int .i64 m', .slice o' ys.length c'] 57) (.int .i64 0) (.slice none 0 0) 57).below (w' := w0) (by rw [hw0]; (repeat (first | exact bR _ _ | (refine bS ?_ _) | (refine bA ?_ _) | (refine bN ?_ _) | (refine bD ?_)))) (Nat.le_refl _); have B0 : Below w.heap.size w w0 := (by rw [hw0]; (repeat (first | exact bR _ _ | (refine bS ?_ _) | (refine bA ?_ _) | (refine bN ?_ _) | (refine bD ?_)))); have hv0 := hv.below (w' := w0) (by rw [hw0]; (repeat (first | exact bR _ _ | (refine bS ?_ _) | (refine bA ?_ _) | (refine bN ?_ _) | (refine bD ?_)))) (Nat.le_refl _); have hu0 := hu.below (w' := w0) (by rw [hw0]; (repeat (first | exact bR _ _ | (refine bS ?_ _) | (refine bA ?_ _) | (refine bN ?_ _) | (refine bD ?_)))) (Nat.le_refl _); rw [← hw0]; clear hw0)
  have hzl : w.heap.size + 2 < w0.heap.size := R0.1.lt
  go_cut [5] (fun sb u => ∃ (wz : World) (b : Nat) (oz : Option Addr) (cz : Nat), wz = u ∧ sb = .pointer (some ⟨b, 0, none⟩) ∧ w0.heap.size ≤ b ∧ RB2 u b (.int .i64 m) (.slice oz xs.length cz) ∧ OwI u w0.heap.size (.slice oz xs.length cz) (List.replicate xs.length 0) ∧ (∀ k, (Value.slice oz xs.length cz).ownBlock = some k → k ≠ b) ∧ Below w0.heap.size w0 u)
  case first =>
    have hd0 : Below w0.heap.size w0 w0.drew := (Below.refl _ _).drew
    have hsd0 := hd0.size
    have hlb_X0 := X0.lt
    obtain ⟨q0_X0_0, q0_X0_1⟩ := X0.below (Below.refl w0.heap.size w0) (Nat.le_refl _)
    have hne0_X0 : w0.heap.size ≠ w.heap.size := by omega
    go_region_held3 (fun w' => w'.cell? ⟨w.heap.size, 0, none⟩ = some (.int .i64 m) ∧ w'.cell? ⟨w.heap.size, 1, none⟩ = some (.slice o xs.length c)) (go_keep)
      (first
        | (go_at_call 84; refine (degreeS_c m o xs.length c _ hml).mono ?_; rintro e wd1 ⟨rfl, hbd1⟩; have hd1 : Below w0.heap.size w0 wd1 := (by (repeat (first | exact bR _ _ | (refine bS ?_ _) | (refine bA ?_ _) | (refine bN ?_ _) | (refine bD ?_) | (refine bT ?_ hbd1)))); have hsd1 := hd1.size; have hsz1_ := hbd1.size; (try simp at hsz1_); obtain ⟨q1_X0_0, q1_X0_1⟩ := X0.below hd1 (Nat.le_refl _); have hne1_X0 : wd1.heap.size ≠ w.heap.size := (by omega); (try (have RZ := RZ.below hbd1 (Nat.le_refl _))); (try (have RZ := (show RB2 (w0.alloc (.cells #[.int .i64 0, .slice none 0 0] 57)).drew w0.heap.size (.int .i64 0) (.slice none 0 0) from RB2.mk1 w0 (.int .i64 0) (.slice none 0 0) _).below hbd1 (Nat.le_refl _))); (try (obtain ⟨⟨z1_0, z1_1⟩, zf1⟩ := id RZ)))
        | (go_at_call 80; refine (zero_c m ((xs.length : Int) - 1) xs.length _ (by omega) (by omega)).mono ?_; rintro e wd2 ⟨vz2, rfl, hod2, hbd2⟩; obtain ⟨oz, cz, rfl⟩ := hod2.shapeN (n := xs.length) (by simp); have hd2 : Below w0.heap.size w0 wd2 := (by (repeat (first | exact bR _ _ | (refine bS ?_ _) | (refine bA ?_ _) | (refine bN ?_ _) | (refine bD ?_) | (refine bT ?_ hbd1) | (refine bT ?_ hbd2)))); have hsd2 := hd2.size; have hsz2_ := hbd2.size; (try simp at hsz2_); obtain ⟨q2_X0_0, q2_X0_1⟩ := X0.below hd2 (Nat.le_refl _); have hne2_X0 : wd2.heap.size ≠ w.heap.size := (by omega); (try (have RZ := RZ.below hbd2 (Nat.le_refl _))); (try (have RZ := (show RB2 (wd1.alloc (.cells #[.int .i64 0, .slice none 0 0] 57)) wd1.heap.size (.int .i64 0) (.slice none 0 0) from RB2.mk1 wd1 (.int .i64 0) (.slice none 0 0) _).below hbd2 (Nat.le_refl _))); (try (obtain ⟨⟨z2_0, z2_1⟩, zf2⟩ := id RZ))))
    all_goals
      go_wp2_with fail
      go_meet
      have hL := hod2.lt
      refine ⟨_, _, oz, cz, rfl, rfl, ?_, ?_, ?_, ?_, ?_⟩
      · first | omega | (simp; done) | (simp; omega)
      · first | exact RB2.mk1 _ _ _ _ | exact RB2.put RZ _ _
      · first | exact (hod2.alloc _).mono (by first | (simp; done) | (simp; omega) | omega) | exact ((hod2.low (by first | (simp; done) | (simp; omega) | omega) _).low (by first | (simp; done) | (simp; omega) | omega) _).mono (by first | (simp; done) | (simp; omega) | omega)
      · intro k hk; have hq := hL k hk; first | omega | (simp at hq; omega)
      · (repeat (first | exact bR _ _ | (refine bS ?_ _) | (refine bA ?_ _) | (refine bN ?_ _) | (refine bD ?_) | (refine bT ?_ hbd1) | (refine bT ?_ hbd2)))
  case rest =>
  obtain ⟨w1, b, oz, cz, rfl, rfl, hbW, O, how, hneb, hb⟩ := hcut
  (have X1 := X0.below hb (Nat.le_refl _); have Y1 := Y0.below hb (Nat.le_refl _); have R1 := R0.below hb (Nat.le_refl _); have hv1 := hv0.below hb (Nat.le_refl _); have hu1 := hu0.below hb (Nat.le_refl _); have B1 := B0.trans (hb.mono B0.size))
  rw [tmS_0 m _ xs ys] at how
  obtain ⟨g, cap, hsl, hgl, hgl', -, -, -⟩ := how.opn (by rw [tmS_len]; omega)
  obtain ⟨rfl, rfl⟩ : oz = some ⟨g, 0, none⟩ ∧ cz = cap := by simp at hsl; exact ⟨hsl.1, hsl.2.2⟩
  clear hsl
  have hgb := hneb g rfl
  clear hneb
  obtain ⟨bx, fx, rfl, hcx⟩ := hv.cells h1
  obtain ⟨by', fy, rfl, hcy⟩ := hu.cells (by have := HL.out; omega)
  have l1 := cell_lt (hcx 0 _ (some_at0 (by omega)))
  have l2 := cell_lt (hcy 0 _ (some_at0 (by have := HL.out; omega)))
  clear hcx hcy
  have n1 : g ≠ w.heap.size := by omega
  have n2 : g ≠ w.heap.size + 1 := by omega
  have n3 : g ≠ bx := by omega
  have n4 : g ≠ by' := by omega
  have B1s := B1.size
  have m0 : (m == 0) = false := by simp; omega
  have m1 : ¬ m = 0 := by omega
  obtain ⟨x0, x1⟩ := id X1
  go_wp2_with fail
  clear x0 x1
  go_loopw [18] (fun i wr => ∃ k : Nat, k ≤ xs.length ∧ i = .int .i64 k ∧ OwI wr w0.heap.size (.slice (some ⟨g, 0, none⟩) xs.length cz) (tmS m xs.length xs ys k 0) ∧ w1.grownBy wr (some g)) (fun i _ => xs.length - (intOf i).toNat)
  case atStart => exact ⟨0, Nat.zero_le _, rfl, how, World.grownBy.refl _ _⟩
  case round =>
    obtain ⟨k, hk, rfl, hO, hg⟩ := hrel
    obtain ⟨wo, rfl⟩ : ∃ wo : World, wo = wr := ⟨_, rfl⟩
    have Br := below_gr B1 hg (by omega) B1s
    by_cases hlt : k < xs.length
    · have hly : k < ys.length := by have := HL.out; omega
      obtain ⟨y0, y1⟩ := Y1.grown hg (by simp; omega)
      have cx := (hv.below Br (Nat.le_refl _)).cell0 (some_at0 hlt)
      have hxk := at0_range (by omega) hx k
      have i0 : (0 : Int) ≤ (k : Int) := by omega
      have i1 : (k : Int) < (xs.length : Int) := by omega
      have i2 : (0 : Int) ≤ (ys.length : Int) - (k : Int) := by omega
      have i3 : (ys.length : Int) - (k : Int) ≤ (c' : Int) := by omega
      have i4 : ((ys.length : Int) - (k : Int)).toNat = ys.length - k := by omega
      go_wp2_with fail
      clear y0 y1
      go_loopw [32] (fun i w2 => ∃ j : Nat, j ≤ ys.length - k ∧ i = .int .i64 j ∧ OwI w2 w0.heap.size (.slice (some ⟨g, 0, none⟩) xs.length cz) (tmS m xs.length xs ys k j) ∧ w1.grownBy w2 (some g)) (fun i _ => ys.length - k - (intOf i).toNat)
      case atStart => exact ⟨0, Nat.zero_le _, rfl, hO, hg⟩
      case round =>
        obtain ⟨j, hj, rfl, hO2, hg2⟩ := hrel
        have Br2 := below_gr B1 hg2 (by omega) B1s
        by_cases hjl : j < ys.length - k
        · have hkj : k + j < xs.length := by have := HL.out; omega
          obtain ⟨x0, x1⟩ := X1.grown hg2 (by simp; omega)
          obtain ⟨⟨z0, z1⟩, zf⟩ := O.grown hg2 (by simp; omega)
          have cy := (hu.below Br2 (Nat.le_refl _)).cell0 (some_at0 (show j < ys.length by omega))
          have hyk := at0_range (by omega) hy j
          have hc0 := hO2.cell (k := k + j) (mk_get hkj)
          have hf0 := hO2.fz (k + j)
          have hM := mod_lt' (a := at0 xs k * at0 ys j) (show 0 < m by omega)
          have hC := mod_lt' (a := convP (at0 xs) (at0 ys) k j (k + j)) (show 0 < m by omega)
          have hMod := mod_lt' (a := convP (at0 xs) (at0 ys) k j (k + j) % m + at0 xs k * at0 ys j % m) (show 0 < m by omega)
          have Hn := Lib.hid hO2
          clear hO2
          have j0 : (0 : Int) ≤ (j : Int) := by omega
          have j1 : (j : Int) < (ys.length : Int) - (k : Int) := by omega
          have j2 : (0 : Int) ≤ (k : Int) + (j : Int) := by omega
          have j3 : (k : Int) + (j : Int) < (xs.length : Int) := by omega
          have j4 : ((k : Int) + (j : Int)).toNat = k + j := by omega
          go_wp2_with fail
          have e0 : IntKind.i64.wrap ((k : Int) + (j : Int)) = (k : Int) + (j : Int) := IntWalk.i64_in _ (by omega)
          have e1 : IntKind.i64.wrap (convP (at0 xs) (at0 ys) k j (k + j) % m + at0 xs k * at0 ys j % m) = convP (at0 xs) (at0 ys) k j (k + j) % m + at0 xs k * at0 ys j % m := IntWalk.i64_in _ (by omega)
          have e2 : (convP (at0 xs) (at0 ys) k j (k + j) % m + at0 xs k * at0 ys j % m).tmod m = (convP (at0 xs) (at0 ys) k j (k + j) % m + at0 xs k * at0 ys j % m) % m := Int.tmod_eq_emod_of_nonneg (by omega)
          go_still_tail 22, (by kernel_rfl)
          still_call (stillC (mul_c _ _ _ _ (by omega) hm' (by omega) (by omega) (by omega) (by omega)))
          repeat still_step
          refine wpStill_nil ?_
          change wpList _ _ _ _ _ wr.drew
          go_wp2
          have h2 := OwI.put Hn.out (k + j) ((convP (at0 xs) (at0 ys) k j (k + j) + at0 xs k * at0 ys j) % m)
          rw [tmS_set2 rfl rfl] at h2
          exact ⟨⟨j + 1, by omega, by go_num, h2, gr_drew (gr_put hg2 _ _)⟩, by simp [intOf]; omega⟩
        · obtain rfl : j = ys.length - k := by omega
          rw [tmS_row (.inl (by have := HL.out; omega))] at hO2
          go_wp2
          exact ⟨⟨k + 1, by omega, by go_num, hO2, hg2⟩, by simp [intOf]; omega⟩
    · obtain rfl : k = xs.length := by omega
      rw [tmS_all (.inl (Nat.le_refl _))] at hO
      obtain ⟨⟨z0, z1⟩, zf⟩ := O.grown hg (by simp; omega)
      obtain ⟨⟨r0, r1⟩, rf⟩ := R1.grown hg (by simp; omega)
      go_wp2
      refine bodyPost_ret (v := .agg #[.int .i64 m, .slice (some ⟨g, 0, none⟩) xs.length cz]) (by simp [results, Tryz.results107, go_sem, r0, r1]) rfl ⟨_, rfl, ?_, ?_⟩
      · exact ((hO.low (by first | (simp; done) | (simp; omega) | omega) _).low (by first | (simp; done) | (simp; omega) | omega) _).mono (by first | (simp; done) | (simp; omega) | omega)
      · (repeat (first | exact bR _ _ | (refine bS ?_ _) | (refine bA ?_ _) | (refine bN ?_ _) | (refine bD ?_) | (refine bT ?_ Br)))

end Go.Proofs.YteijannfbafdpaaGreatDoor

/- Series: the program's compositions. -/
set_option linter.unusedSimpArgs false
set_option linter.unusedVariables false
namespace Go.Proofs.YteijannfbafdpaaGreatDoor
open Go.RowKit

def constL (m c : Int) (n : Nat) : List Int := (List.replicate n 0).set 0 (c % m)
theorem constL_len (m c : Int) (n : Nat) : (constL m c n).length = n := by simp [constL]
theorem constL_range {m : Int} (hm : 0 < m) (c : Int) (n : Nat) : ∀ x ∈ constL m c n, 0 ≤ x ∧ x < m := by
  intro x hx
  rcases List.mem_or_eq_of_mem_set hx with h | rfl
  · simp at h; omega
  · exact mod_lt' hm
theorem constL_0 (m : Int) (n : Nat) : constL m 0 n = List.replicate n 0 := by
  unfold constL
  cases n <;> simp [List.replicate_succ]
theorem horn_step {m : Int} (hm : 0 < m) {n : Nat} (h1 : 1 ≤ n) (l : List Int) (c : Int) (hc : 0 ≤ c ∧ c < m) (hl : l.length = n) (hr : ∀ x ∈ l, 0 ≤ x ∧ x < m) :
    addL m n l (constL m c n) = addc m c l := by
  have e : addc m c l = mk n (fun k => if k = 0 then (at0 l 0 + c) % m else at0 l k) := by
    unfold addc
    conv => lhs; rw [eq_mk l, hl]
    rw [mk_set, mk_at (by omega)]
  rw [e]
  refine mk_ext fun k hk => ?_
  have hk' : at0 (constL m c n) k = if k = 0 then c else 0 := by
    unfold constL at0 List.getD
    rw [List.getElem?_set]
    by_cases h : k = 0
    · subst h; simp; rw [if_pos (by omega)]; simp [Int.emod_eq_of_lt hc.1 hc.2]
    · rw [if_neg (by omega), if_neg h]; simp [hk]
  rw [hk']
  by_cases h : k = 0
  · subst h; simp
  · rw [if_neg h, if_neg h, Int.add_zero]
    have := at0_range hm hr k
    exact Int.emod_eq_of_lt this.1 this.2

set_option maxHeartbeats 1000000 in
set_option maxRecDepth 100000 in
theorem constant_c (m a : Int) (v : Value) (xs : List Int) (w : World) (hv : RdI w v xs) (h1 : 1 ≤ xs.length) (hn : xs.length ≤ 1048576) (hm : 2 ≤ m) (hm' : m ≤ 1000000000000) (ha : -9000000000000000000 ≤ a) (ha' : a ≤ 9000000000000000000) :
    Calls Tryz.prog 106 #[.agg #[.int .i64 m, v], .int .i64 a] w fun e w' => SVEnd w w' m (constL m a xs.length) e := by
  obtain ⟨o, c, rfl, hmx, -⟩ := id hv
  have hml := hmx.1
  unfold maxLen at hmx
  go_enter Tryz.func106, Tryz.ntmps106
  go_wp2_with fail
  (obtain ⟨w0, hw0⟩ : ∃ W : World, W = ((w.alloc (.cells #[.int .i64 m, .slice o xs.length c] 57)).alloc (.cells #[.int .i64 0, .slice none 0 0] 57)) := ⟨_, rfl⟩; have X0 := (RB2.mk1 w  (.int .i64 m) (.slice o xs.length c) 57).1.below (w' := w0) (by rw [hw0]; (repeat (first | exact bR _ _ | (refine bS ?_ _) | (refine bA ?_ _) | (refine bN ?_ _) | (refine bD ?_)))) (Nat.le_refl _); have R0 := (RB2.mk2 w (.cells #[.int .i64 m, .slice o xs.length c] 57) (.int .i64 0) (.slice none 0 0) 57).below (w' := w0) (by rw [hw0]; (repeat (first | exact bR _ _ | (refine bS ?_ _) | (refine bA ?_ _) | (refine bN ?_ _) | (refine bD ?_)))) (Nat.le_refl _); have B0 : Below w.heap.size w w0 := (by rw [hw0]; (repeat (first | exact bR _ _ | (refine bS ?_ _) | (refine bA ?_ _) | (refine bN ?_ _) | (refine bD ?_)))); have hv0 := hv.below (w' := w0) (by rw [hw0]; (repeat (first | exact bR _ _ | (refine bS ?_ _) | (refine bA ?_ _) | (refine bN ?_ _) | (refine bD ?_)))) (Nat.le_refl _); rw [← hw0]; clear hw0)
  have hzl : w.heap.size + 1 < w0.heap.size := R0.1.lt
  go_cut [5] (fun sb u => ∃ (wz : World) (b : Nat) (oz : Option Addr) (cz : Nat), wz = u ∧ sb = .pointer (some ⟨b, 0, none⟩) ∧ w0.heap.size ≤ b ∧ RB2 u b (.int .i64 m) (.slice oz xs.length cz) ∧ OwI u w0.heap.size (.slice oz xs.length cz) (List.replicate xs.length 0) ∧ (∀ k, (Value.slice oz xs.length cz).ownBlock = some k → k ≠ b) ∧ Below w0.heap.size w0 u)
  case first =>
    have hd0 : Below w0.heap.size w0 w0.drew := (Below.refl _ _).drew
    have hsd0 := hd0.size
    have hlb_X0 := X0.lt
    obtain ⟨q0_X0_0, q0_X0_1⟩ := X0.below (Below.refl w0.heap.size w0) (Nat.le_refl _)
    have hne0_X0 : w0.heap.size ≠ w.heap.size := by omega
    go_region_held3 (fun w' => w'.cell? ⟨w.heap.size, 0, none⟩ = some (.int .i64 m) ∧ w'.cell? ⟨w.heap.size, 1, none⟩ = some (.slice o xs.length c)) (go_keep)
      (first
        | (go_at_call 84; refine (degreeS_c m o xs.length c _ hml).mono ?_; rintro e wd1 ⟨rfl, hbd1⟩; have hd1 : Below w0.heap.size w0 wd1 := (by (repeat (first | exact bR _ _ | (refine bS ?_ _) | (refine bA ?_ _) | (refine bN ?_ _) | (refine bD ?_) | (refine bT ?_ hbd1)))); have hsd1 := hd1.size; have hsz1_ := hbd1.size; (try simp at hsz1_); obtain ⟨q1_X0_0, q1_X0_1⟩ := X0.below hd1 (Nat.le_refl _); have hne1_X0 : wd1.heap.size ≠ w.heap.size := (by omega); (try (have RZ := RZ.below hbd1 (Nat.le_refl _))); (try (have RZ := (show RB2 (w0.alloc (.cells #[.int .i64 0, .slice none 0 0] 57)).drew w0.heap.size (.int .i64 0) (.slice none 0 0) from RB2.mk1 w0 (.int .i64 0) (.slice none 0 0) _).below hbd1 (Nat.le_refl _))); (try (obtain ⟨⟨z1_0, z1_1⟩, zf1⟩ := id RZ)))
        | (go_at_call 80; refine (zero_c m ((xs.length : Int) - 1) xs.length _ (by omega) (by omega)).mono ?_; rintro e wd2 ⟨vz2, rfl, hod2, hbd2⟩; obtain ⟨oz, cz, rfl⟩ := hod2.shapeN (n := xs.length) (by simp); have hd2 : Below w0.heap.size w0 wd2 := (by (repeat (first | exact bR _ _ | (refine bS ?_ _) | (refine bA ?_ _) | (refine bN ?_ _) | (refine bD ?_) | (refine bT ?_ hbd1) | (refine bT ?_ hbd2)))); have hsd2 := hd2.size; have hsz2_ := hbd2.size; (try simp at hsz2_); obtain ⟨q2_X0_0, q2_X0_1⟩ := X0.below hd2 (Nat.le_refl _); have hne2_X0 : wd2.heap.size ≠ w.heap.size := (by omega); (try (have RZ := RZ.below hbd2 (Nat.le_refl _))); (try (have RZ := (show RB2 (wd1.alloc (.cells #[.int .i64 0, .slice none 0 0] 57)) wd1.heap.size (.int .i64 0) (.slice none 0 0) from RB2.mk1 wd1 (.int .i64 0) (.slice none 0 0) _).below hbd2 (Nat.le_refl _))); (try (obtain ⟨⟨z2_0, z2_1⟩, zf2⟩ := id RZ))))
    all_goals
      go_wp2_with fail
      go_meet
      have hL := hod2.lt
      refine ⟨_, _, oz, cz, rfl, rfl, ?_, ?_, ?_, ?_, ?_⟩
      · first | omega | (simp; done) | (simp; omega)
      · first | exact RB2.mk1 _ _ _ _ | exact RB2.put RZ _ _
      · first | exact (hod2.alloc _).mono (by first | (simp; done) | (simp; omega) | omega) | exact ((hod2.low (by first | (simp; done) | (simp; omega) | omega) _).low (by first | (simp; done) | (simp; omega) | omega) _).mono (by first | (simp; done) | (simp; omega) | omega)
      · intro k hk; have hq := hL k hk; first | omega | (simp at hq; omega)
      · (repeat (first | exact bR _ _ | (refine bS ?_ _) | (refine bA ?_ _) | (refine bN ?_ _) | (refine bD ?_) | (refine bT ?_ hbd1) | (refine bT ?_ hbd2)))
  case rest =>
  obtain ⟨w1, b, oz, cz, rfl, rfl, hbW, O, how, hneb, hb⟩ := hcut
  (have X1 := X0.below hb (Nat.le_refl _); have R1 := R0.below hb (Nat.le_refl _); have B1 := B0.trans (hb.mono B0.size))
  obtain ⟨g, rfl, hgl, hgl'⟩ := how.row h1
  have hgb := hneb g rfl
  clear hneb
  obtain ⟨x0, x1⟩ := id X1
  obtain ⟨⟨z0, z1⟩, zf⟩ := id O
  have hc0 := how.cell (k := 0) (rep_get xs.length 0 0 (by omega))
  have hf0 := how.fz 0
  have B1s := B1.size
  have Hn := Lib.hid how
  clear how
  go_wp2_with fail
  have i1 : 0 < xs.length := h1
  have i2 : (0 : Int) < (xs.length : Int) := by omega
  go_still_tail 7, (by kernel_rfl)
  still_call (stillC (mod_c _ _ _ (by omega) (by omega) (by omega) (by omega)))
  repeat still_step
  refine wpStill_nil ?_
  change wpList _ _ _ _ _ w1.drew
  have g0 := gr_put (World.grownBy.refl w1 (some g)) 0 (.int .i64 (a % m))
  have Og := O.grown g0 (by simp; omega)
  have Rg := R1.grown g0 (by simp; omega)
  obtain ⟨⟨p0, p1⟩, pf⟩ := id Og
  obtain ⟨⟨r0, r1⟩, rf⟩ := id Rg
  go_wp2
  refine bodyPost_ret (v := .agg #[.int .i64 m, .slice (some ⟨g, 0, none⟩) xs.length cz]) (by simp [results, Tryz.results106, go_sem, r0, r1]) rfl ⟨_, rfl, ?_, ?_⟩
  · exact (((Hn.out.put 0 (a % m)).low (by first | (simp; done) | (simp; omega) | omega) _).low (by first | (simp; done) | (simp; omega) | omega) _).mono (by first | (simp; done) | (simp; omega) | omega)
  · (repeat (first | exact bR _ _ | (refine bS ?_ _) | (refine bA ?_ _) | (refine bN ?_ _) | (refine bD ?_) | (refine bT ?_ B1)))

set_option maxHeartbeats 2000000 in
set_option maxRecDepth 100000 in
theorem compose_c (m m' : Int) (v u : Value) (xs fs : List Int) (w : World) (hv : RdI w v xs) (hu : RdI w u fs) (hl : fs.length = xs.length) (h1 : 1 ≤ xs.length) (hn : xs.length ≤ 1048576) (hm : 2 ≤ m) (hm' : m ≤ 3000000000)
    (hx : ∀ x ∈ xs, 0 ≤ x ∧ x < m) (hf : ∀ x ∈ fs, 0 ≤ x ∧ x < m) :
    Calls Tryz.prog 86 #[.agg #[.int .i64 m, v], .agg #[.int .i64 m', u]] w fun e w' => SVEnd w w' m (horn m xs.length fs xs) e := by
  obtain ⟨o, c, rfl, hmx, -⟩ := id hv
  obtain ⟨o', c', rfl, hmy, -⟩ := id hu
  have hml := hmx.1
  unfold maxLen at hmx hmy
  have HL := Lib.hid hl
  clear hl
  go_enter Tryz.func86, Tryz.ntmps86
  go_wp2_with fail
  (obtain ⟨w0, hw0⟩ : ∃ W : World, W = (((w.alloc (.cells #[.int .i64 m, .slice o xs.length c] 57)).alloc (.cells #[.int .i64 m', .slice o' fs.length c'] 57)).alloc (.cells #[.int .i64 0, .slice none 0 0] 57)) := ⟨_, rfl⟩; have X0 := (RB2.mk1 w  (.int .i64 m) (.slice o xs.length c) 57).1.below (w' := w0) (by rw [hw0]; (repeat (first | exact bR _ _ | (refine bS ?_ _) | (refine bA ?_ _) | (refine bN ?_ _) | (refine bD ?_)))) (Nat.le_refl _); have Y0 := (RB2.mk2 w (.cells #[.int .i64 m, .slice o xs.length c] 57) (.int .i64 m') (.slice o' fs.length c') 57).1.below (w' := w0) (by rw [hw0]; (repeat (first | exact bR _ _ | (refine bS ?_ _) | (refine bA ?_ _) | (refine bN ?_ _) | (refine bD ?_)))) (Nat.le_refl _); have R0 := (RB2.mk3 w (.cells #[.int .i64 m, .slice o xs.length c] 57) (.cells #[.int .i64 m', .slice o' fs.length c'] 57) (.int .i64 0) (.slice none 0 0) 57).below (w' := w0) (by rw [hw0]; (repeat (first | exact bR _ _ | (refine bS ?_ _) | (refine bA ?_ _) | (refine bN ?_ _) | (refine bD ?_)))) (Nat.le_refl _); have B0 : Below w.heap.size w w0 := (by rw [hw0]; (repeat (first | exact bR _ _ | (refine bS ?_ _) | (refine bA ?_ _) | (refine bN ?_ _) | (refine bD ?_)))); have hv0 := hv.below (w' := w0) (by rw [hw0]; (repeat (first | exact bR _ _ | (refine bS ?_ _) | (refine bA ?_ _) | (refine bN ?_ _) | (refine bD ?_)))) (Nat.le_refl _); have hu0 := hu.below (w' := w0) (by rw [hw0]; (repeat (first | exact bR _ _ | (refine bS ?_ _) | (refine bA ?_ _) | (refine bN ?_ _) | (refine bD ?_)))) (Nat.le_refl _); rw [← hw0]; clear hw0)
  obtain ⟨x0, x1⟩ := id X0
  have hzl : w.heap.size + 2 < w0.heap.size := R0.1.lt
  go_wp2_with fail
  refine (constant_c m 0 _ xs _ hv0 h1 hn hm (by omega) (by omega) (by omega)).mono ?_
  rintro e w1 ⟨vz, rfl, how, hb⟩
  obtain ⟨oz, cz, rfl⟩ := how.shapeN (n := xs.length) (constL_len _ _ _)
  rw [constL_0] at how
  (have X1 := X0.below hb (Nat.le_refl _); have Y1 := Y0.below hb (Nat.le_refl _); have R1 := R0.below hb (Nat.le_refl _); have hv1 := hv0.below hb (Nat.le_refl _); have hu1 := hu0.below hb (Nat.le_refl _); have B1 := B0.trans (hb.mono B0.size))
  clear x0 x1
  obtain ⟨x0, x1⟩ := id X1
  have hb1 := hb.size
  have lX := X1.lt
  have lR := R1.1.lt
  go_wp2_with fail
  clear x0 x1
  (have hb : Below w1.heap.size w1 (w1.alloc (.cells #[.int .i64 m, .slice oz xs.length cz] 57)) := (by (repeat (first | exact bR _ _ | (refine bS ?_ _) | (refine bA ?_ _) | (refine bN ?_ _) | (refine bD ?_)))); have X2 := X1.below hb (Nat.le_refl _); have Y2 := Y1.below hb (Nat.le_refl _); have R2 := R1.below hb (Nat.le_refl _); have hv2 := hv1.below hb (Nat.le_refl _); have hu2 := hu1.below hb (Nat.le_refl _); have how := how.alloc (.cells #[.int .i64 m, .slice oz xs.length cz] 57); have B2 := B1.trans (hb.mono B1.size); have O := RB2.mk1 w1 (.int .i64 m) (.slice oz xs.length cz) 57; have hl_w2 := hb.size; clear hb; generalize w1.alloc (.cells #[.int .i64 m, .slice oz xs.length cz] 57) = w2 at O B2 hl_w2 X2 Y2 R2 hv2 hu2 how ⊢)
  refine (degreeS_c m o xs.length c _ hml).mono ?_
  rintro e w3 ⟨rfl, hb⟩
  (have X3 := X2.below hb (Nat.le_refl _); have Y3 := Y2.below hb (Nat.le_refl _); have R3 := R2.below hb (Nat.le_refl _); have hv3 := hv2.below hb (Nat.le_refl _); have hu3 := hu2.below hb (Nat.le_refl _); have B3 := B2.trans (hb.mono B2.size))
  have O3 := O.below hb (Nat.le_refl _)
  have how3 := how.below hb
  have hb3 := hb.size
  clear hb how O lX lR
  have lX := X3.lt
  have lR := R3.1.lt
  have B3s := B3.size
  obtain ⟨bx, fx, rfl, hcx⟩ := hv.cells h1
  have lx := cell_lt (hcx 0 _ (some_at0 (by omega)))
  clear hcx
  go_wp2_with fail
  go_loopw [6] (fun i wr => ∃ (j : Nat) (ov : Option Addr) (cv : Nat), j ≤ xs.length ∧ i = .int .i64 ((j : Int) - 1) ∧ OwI wr w0.heap.size (.slice ov xs.length cv) (horn m xs.length fs (xs.drop j)) ∧ RB2 wr w1.heap.size (.int .i64 m) (.slice ov xs.length cv) ∧ w3.grownBy wr (some w1.heap.size)) (fun i _ => ((intOf i) + 1).toNat)
  case atStart => exact ⟨xs.length, oz, cz, Nat.le_refl _, rfl, by rw [List.drop_length]; exact how3.mono (by omega), O3, World.grownBy.refl _ _⟩
  case round =>
    obtain ⟨j, ov, cv, hj, rfl, hO, OO, hg⟩ := hrel
    have Br := below_gr B3 hg (by omega) B3s
    have Xr := X3.grown hg (by simp; omega)
    have Yr := Y3.grown hg (by simp; omega)
    have hvr := hv.below Br (Nat.le_refl _)
    have hur := hu.below Br (Nat.le_refl _)
    have hgs := hg.size
    by_cases hlt : 0 < j
    · obtain ⟨k, rfl⟩ : ∃ k, j = k + 1 := ⟨j - 1, by omega⟩
      have ek : (((k + 1 : Nat) : Int)) - 1 = (k : Int) := by omega
      rw [ek]
      clear ek
      have HS := Lib.hid (horn_drop (m := m) (n := xs.length) (f := fs) (some_at0 (show k < xs.length by omega)))
      have HLl := Lib.hid (horn_len m xs.length fs (xs.drop (k + 1)))
      have HRl := Lib.hid (horn_range (m := m) (show 0 < m by omega) (n := xs.length) (f := fs) (cs := xs.drop (k + 1)))
      generalize horn m xs.length fs (xs.drop (k + 1)) = l at hO HS HLl HRl
      have hkx := at0_range (by omega) hx k
      have i0 : (0 : Int) ≤ (k : Int) := by omega
      have i1 : (k : Int) < (xs.length : Int) := by omega
      go_wp2_with fail
      have hd0 : Below wr.heap.size wr wr.drew := (Below.refl _ _).drew
      have hsd0 := hd0.size
      have hlb_OO := OO.1.lt
      obtain ⟨⟨q0_OO_0, q0_OO_1⟩, qf0_OO⟩ := OO.below (Below.refl wr.heap.size wr) (Nat.le_refl _)
      obtain ⟨q0_Xr_0, q0_Xr_1⟩ := Xr.below (Below.refl wr.heap.size wr) (Nat.le_refl _)
      obtain ⟨q0_Yr_0, q0_Yr_1⟩ := Yr.below (Below.refl wr.heap.size wr) (Nat.le_refl _)
      have q0_cx := (((hvr).below (Below.refl wr.heap.size wr) (Nat.le_refl _))).cell0 (some_at0 (show k < xs.length by omega))
      refine wp_region_S (S := fun w' => w'.cell? ⟨w1.heap.size , 0, none⟩ = some (.int .i64 m) ∧ w'.cell? ⟨w1.heap.size , 1, none⟩ = some (.slice ov xs.length cv) ∧ w'.cell? ⟨w.heap.size, 0, none⟩ = some (.int .i64 m) ∧ w'.cell? ⟨w.heap.size, 1, none⟩ = some (.slice (some ⟨bx, fx, none⟩) xs.length c) ∧ w'.cell? ⟨w.heap.size + 1, 0, none⟩ = some (.int .i64 m') ∧ w'.cell? ⟨w.heap.size + 1, 1, none⟩ = some (.slice o' fs.length c') ∧ w'.cell? ⟨bx, fx + k, none⟩ = some (.int .i64 (at0 xs k))) 11 (by kernel_rfl) ?_
      have hHeld : (fun w' : World => w'.cell? ⟨w1.heap.size , 0, none⟩ = some (.int .i64 m) ∧ w'.cell? ⟨w1.heap.size , 1, none⟩ = some (.slice ov xs.length cv) ∧ w'.cell? ⟨w.heap.size, 0, none⟩ = some (.int .i64 m) ∧ w'.cell? ⟨w.heap.size, 1, none⟩ = some (.slice (some ⟨bx, fx, none⟩) xs.length c) ∧ w'.cell? ⟨w.heap.size + 1, 0, none⟩ = some (.int .i64 m') ∧ w'.cell? ⟨w.heap.size + 1, 1, none⟩ = some (.slice o' fs.length c') ∧ w'.cell? ⟨bx, fx + k, none⟩ = some (.int .i64 (at0 xs k))) wr.drew := by go_keep
      refine' wpAnyS_takeL (i := 0) (v := _) rfl (by kernel_rfl) (by kernel_rfl) (by kernel_rfl) (by kernel_rfl) (fun _ _ _ h => h) (Or.inl ⟨by rfl, ?yT1⟩) hHeld ?rT1
      case yT1 => (intro w' hSw; (try dsimp only at hSw); go_simp; try with_reducible rfl)
      try simp only [List.getElem_toArray, List.getElem_cons_zero, List.getElem_cons_succ, Act.put, List.setIfInBounds_toArray, List.set_cons_zero, List.set_cons_succ]
      refine' wpAnyS_takeL (i := 1) (v := _) rfl (by kernel_rfl) (by kernel_rfl) (by kernel_rfl) (by kernel_rfl) (fun _ _ _ h => h) (Or.inl ⟨by rfl, ?yT2⟩) hHeld ?rT2
      case yT2 => (intro w' hSw; (try dsimp only at hSw); go_simp; try with_reducible rfl)
      try simp only [List.getElem_toArray, List.getElem_cons_zero, List.getElem_cons_succ, Act.put, List.setIfInBounds_toArray, List.set_cons_zero, List.set_cons_succ]
      refine' wpAnyS_takeL (i := 3) (v := _) rfl (by kernel_rfl) (by kernel_rfl) (by kernel_rfl) (by kernel_rfl) (fun _ _ _ h => h) (Or.inl ⟨by rfl, ?yT3⟩) hHeld ?rT3
      case yT3 => (intro w' hSw; (try dsimp only at hSw); go_simp; try with_reducible rfl)
      try simp only [List.getElem_toArray, List.getElem_cons_zero, List.getElem_cons_succ, Act.put, List.setIfInBounds_toArray, List.set_cons_zero, List.set_cons_succ]
      refine' wpAnyS_takeL (i := 4) (v := _) rfl (by kernel_rfl) (by kernel_rfl) (by kernel_rfl) (by kernel_rfl) (fun _ _ _ h => h) (Or.inl ⟨by rfl, ?yT4⟩) hHeld ?rT4
      case yT4 => (intro w' hSw; (try dsimp only at hSw); go_simp; try with_reducible rfl)
      try simp only [List.getElem_toArray, List.getElem_cons_zero, List.getElem_cons_succ, Act.put, List.setIfInBounds_toArray, List.set_cons_zero, List.set_cons_succ]
      refine' wpAnyS_takeL (i := 5) (v := _) rfl (by kernel_rfl) (by kernel_rfl) (by kernel_rfl) (by kernel_rfl) (fun _ _ _ h => h) (Or.inl ⟨by rfl, ?yT5⟩) hHeld ?rT5
      case yT5 => (intro w' hSw; (try dsimp only at hSw); go_simp; try with_reducible rfl)
      try simp only [List.getElem_toArray, List.getElem_cons_zero, List.getElem_cons_succ, Act.put, List.setIfInBounds_toArray, List.set_cons_zero, List.set_cons_succ]
      refine' wpAnyS_takeL (i := 6) (v := _) rfl (by kernel_rfl) (by kernel_rfl) (by kernel_rfl) (by kernel_rfl) (fun _ _ _ h => h) (Or.inl ⟨by rfl, ?yT6⟩) hHeld ?rT6
      case yT6 => (intro w' hSw; (try dsimp only at hSw); go_simp; try with_reducible rfl)
      try simp only [List.getElem_toArray, List.getElem_cons_zero, List.getElem_cons_succ, Act.put, List.setIfInBounds_toArray, List.set_cons_zero, List.set_cons_succ]
      refine' wpAnyS_takeL (i := 7) (v := _) rfl (by kernel_rfl) (by kernel_rfl) (by kernel_rfl) (by kernel_rfl) (fun _ _ _ h => h) (Or.inl ⟨by rfl, ?yT7⟩) hHeld ?rT7
      case yT7 => (intro w' hSw; (try dsimp only at hSw); go_simp; try with_reducible rfl)
      try simp only [List.getElem_toArray, List.getElem_cons_zero, List.getElem_cons_succ, Act.put, List.setIfInBounds_toArray, List.set_cons_zero, List.set_cons_succ]
      refine' wpAnyS_takeL (i := 8) (v := _) rfl (by kernel_rfl) (by kernel_rfl) (by kernel_rfl) (by kernel_rfl) (fun _ _ _ h => h) (Or.inl ⟨by rfl, ?yT8⟩) hHeld ?rT8
      case yT8 => (intro w' hSw; (try dsimp only at hSw); go_simp; try with_reducible rfl)
      try simp only [List.getElem_toArray, List.getElem_cons_zero, List.getElem_cons_succ, Act.put, List.setIfInBounds_toArray, List.set_cons_zero, List.set_cons_succ]
      refine wpAnyS_oneL (i := 2) rfl (by kernel_rfl) (fun K hK => ?_)
      go_simp
      go_at_call 107
      refine (times_c m m' _ _ l fs _ ((hO.rd).below (by (repeat (first | exact bR _ _ | (refine bS ?_ _) | (refine bA ?_ _) | (refine bN ?_ _) | (refine bD ?_)))) (Nat.le_refl _)) ((hur).below (by (repeat (first | exact bR _ _ | (refine bS ?_ _) | (refine bA ?_ _) | (refine bN ?_ _) | (refine bD ?_)))) (Nat.le_refl _)) (by rw [HL.out, HLl.out]) (by rw [HLl.out]; omega) (by rw [HLl.out]; omega) hm (by omega) HRl.out hf).mono ?_
      rintro e wd1 ⟨vt1, rfl, hod1, hbd1⟩
      rw [HLl.out] at hod1; obtain ⟨ot, ct, rfl⟩ := hod1.shapeN (n := xs.length) (timesL_len _ _ _ _)
      have hd1 : Below wr.heap.size wr wd1 := (by (repeat (first | exact bR _ _ | (refine bS ?_ _) | (refine bA ?_ _) | (refine bN ?_ _) | (refine bD ?_) | (refine bT ?_ hbd1))))
      have hsd1 := hd1.size
      obtain ⟨⟨q1_OO_0, q1_OO_1⟩, qf1_OO⟩ := OO.below hd1 (Nat.le_refl _)
      obtain ⟨q1_Xr_0, q1_Xr_1⟩ := Xr.below hd1 (Nat.le_refl _)
      obtain ⟨q1_Yr_0, q1_Yr_1⟩ := Yr.below hd1 (Nat.le_refl _)
      have q1_cx := (((hvr).below hd1 (Nat.le_refl _))).cell0 (some_at0 (show k < xs.length by omega))
      go_wp2_with fail
      clear hHeld
      have hHeld : (fun w' : World => w'.cell? ⟨w1.heap.size , 0, none⟩ = some (.int .i64 m) ∧ w'.cell? ⟨w1.heap.size , 1, none⟩ = some (.slice ov xs.length cv) ∧ w'.cell? ⟨w.heap.size, 0, none⟩ = some (.int .i64 m) ∧ w'.cell? ⟨w.heap.size, 1, none⟩ = some (.slice (some ⟨bx, fx, none⟩) xs.length c) ∧ w'.cell? ⟨w.heap.size + 1, 0, none⟩ = some (.int .i64 m') ∧ w'.cell? ⟨w.heap.size + 1, 1, none⟩ = some (.slice o' fs.length c') ∧ w'.cell? ⟨bx, fx + k, none⟩ = some (.int .i64 (at0 xs k))) wd1 := by go_keep
      refine hK.out _ _ (fun _ => hHeld) ?_
      clear hK K
      try simp only [List.getElem_toArray, List.getElem_cons_zero, List.getElem_cons_succ, Act.put, List.setIfInBounds_toArray, List.set_cons_zero, List.set_cons_succ]
      refine wpAnyS_oneL (i := 9) rfl (by kernel_rfl) (fun K hK => ?_)
      go_simp
      go_at_call 106
      refine (constant_c m (at0 xs k) _ xs _ ((hvr).below (by (repeat (first | exact bR _ _ | (refine bS ?_ _) | (refine bA ?_ _) | (refine bN ?_ _) | (refine bD ?_) | (refine bT ?_ hbd1)))) (Nat.le_refl _)) h1 hn hm (by omega) (by omega) (by omega)).mono ?_
      rintro e wd2 ⟨vc2, rfl, hod2, hbd2⟩
      obtain ⟨oc, cc, rfl⟩ := hod2.shapeN (n := xs.length) (constL_len _ _ _)
      have hd2 : Below wr.heap.size wr wd2 := (by (repeat (first | exact bR _ _ | (refine bS ?_ _) | (refine bA ?_ _) | (refine bN ?_ _) | (refine bD ?_) | (refine bT ?_ hbd1) | (refine bT ?_ hbd2))))
      have hsd2 := hd2.size
      obtain ⟨⟨q2_OO_0, q2_OO_1⟩, qf2_OO⟩ := OO.below hd2 (Nat.le_refl _)
      obtain ⟨q2_Xr_0, q2_Xr_1⟩ := Xr.below hd2 (Nat.le_refl _)
      obtain ⟨q2_Yr_0, q2_Yr_1⟩ := Yr.below hd2 (Nat.le_refl _)
      have q2_cx := (((hvr).below hd2 (Nat.le_refl _))).cell0 (some_at0 (show k < xs.length by omega))
      go_wp2_with fail
      clear hHeld
      have hHeld : (fun w' : World => w'.cell? ⟨w1.heap.size , 0, none⟩ = some (.int .i64 m) ∧ w'.cell? ⟨w1.heap.size , 1, none⟩ = some (.slice ov xs.length cv) ∧ w'.cell? ⟨w.heap.size, 0, none⟩ = some (.int .i64 m) ∧ w'.cell? ⟨w.heap.size, 1, none⟩ = some (.slice (some ⟨bx, fx, none⟩) xs.length c) ∧ w'.cell? ⟨w.heap.size + 1, 0, none⟩ = some (.int .i64 m') ∧ w'.cell? ⟨w.heap.size + 1, 1, none⟩ = some (.slice o' fs.length c') ∧ w'.cell? ⟨bx, fx + k, none⟩ = some (.int .i64 (at0 xs k))) wd2 := by go_keep
      refine hK.out _ _ (fun _ => hHeld) ?_
      clear hK K
      try simp only [List.getElem_toArray, List.getElem_cons_zero, List.getElem_cons_succ, Act.put, List.setIfInBounds_toArray, List.set_cons_zero, List.set_cons_succ]
      refine wpAnyS_oneL (i := 10) rfl (by kernel_rfl) (fun K hK => ?_)
      go_simp
      go_at_call 108
      refine (plus_c m m _ _ (timesL m xs.length l fs) (constL m (at0 xs k) xs.length) _ ((hod1.below (by (repeat (first | exact bR _ _ | (refine bS ?_ _) | (refine bA ?_ _) | (refine bN ?_ _) | (refine bD ?_) | (refine bT ?_ hbd2)))))).rd ((hod2.below (by (repeat (first | exact bR _ _ | (refine bS ?_ _) | (refine bA ?_ _) | (refine bN ?_ _) | (refine bD ?_)))))).rd (by rw [constL_len, timesL_len]) (by rw [timesL_len]; omega) (by rw [timesL_len]; omega) hm (by omega) (timesL_range (by omega)) (constL_range (by omega) _ _)).mono ?_
      rintro e wd3 ⟨vp3, rfl, hod3, hbd3⟩
      rw [timesL_len] at hod3; obtain ⟨op, cp, rfl⟩ := hod3.shapeN (n := xs.length) (addL_len _ _ _ _)
      have hd3 : Below wr.heap.size wr wd3 := (by (repeat (first | exact bR _ _ | (refine bS ?_ _) | (refine bA ?_ _) | (refine bN ?_ _) | (refine bD ?_) | (refine bT ?_ hbd1) | (refine bT ?_ hbd2) | (refine bT ?_ hbd3))))
      have hsd3 := hd3.size
      obtain ⟨⟨q3_OO_0, q3_OO_1⟩, qf3_OO⟩ := OO.below hd3 (Nat.le_refl _)
      obtain ⟨q3_Xr_0, q3_Xr_1⟩ := Xr.below hd3 (Nat.le_refl _)
      obtain ⟨q3_Yr_0, q3_Yr_1⟩ := Yr.below hd3 (Nat.le_refl _)
      have q3_cx := (((hvr).below hd3 (Nat.le_refl _))).cell0 (some_at0 (show k < xs.length by omega))
      go_wp2_with fail
      clear hHeld
      have hHeld : (fun w' : World => w'.cell? ⟨w1.heap.size , 0, none⟩ = some (.int .i64 m) ∧ w'.cell? ⟨w1.heap.size , 1, none⟩ = some (.slice ov xs.length cv) ∧ w'.cell? ⟨w.heap.size, 0, none⟩ = some (.int .i64 m) ∧ w'.cell? ⟨w.heap.size, 1, none⟩ = some (.slice (some ⟨bx, fx, none⟩) xs.length c) ∧ w'.cell? ⟨w.heap.size + 1, 0, none⟩ = some (.int .i64 m') ∧ w'.cell? ⟨w.heap.size + 1, 1, none⟩ = some (.slice o' fs.length c') ∧ w'.cell? ⟨bx, fx + k, none⟩ = some (.int .i64 (at0 xs k))) wd3 := by go_keep
      refine hK.out _ _ (fun _ => hHeld) ?_
      clear hK K
      try simp only [List.getElem_toArray, List.getElem_cons_zero, List.getElem_cons_succ, Act.put, List.setIfInBounds_toArray, List.set_cons_zero, List.set_cons_succ]
      refine wpAnyS_oneL (i := 11) rfl (by kernel_rfl) (fun K hK => ?_)
      go_simp
      (try go_wp2_with fail)
      refine hK.out _ _ (fun h => absurd h (by decide)) ?_
      clear hK K
      try simp only [List.getElem_toArray, List.getElem_cons_zero, List.getElem_cons_succ, Act.put, List.setIfInBounds_toArray, List.set_cons_zero, List.set_cons_succ]
      refine wpAnyS_done (by kernel_rfl) ?_ _
      have hOn := OO.below hd3 (Nat.le_refl _)
      go_wp2_with fail
      have hgZ : wr.grownBy ((wd3.setCell ⟨w1.heap.size , 0, none⟩ (.int .i64 m)).setCell ⟨w1.heap.size , 1, none⟩ (.slice op xs.length cp)) (some w1.heap.size ) := (gr_put (gr_put (show wr.grownBy wd3 (some w1.heap.size ) from World.grownBy.mk hd3.os hd3.tape hd3.output hd3.size (fun k hk _ => hd3.block k hk)) _ _) _ _)
      have hOZ : RB2 ((wd3.setCell ⟨w1.heap.size , 0, none⟩ (.int .i64 m)).setCell ⟨w1.heap.size , 1, none⟩ (.slice op xs.length cp)) w1.heap.size  (.int .i64 m) (.slice op xs.length cp) := RB2.put hOn _ _
      have hRZ : OwI ((wd3.setCell ⟨w1.heap.size , 0, none⟩ (.int .i64 m)).setCell ⟨w1.heap.size , 1, none⟩ (.slice op xs.length cp)) wr.heap.size (.slice op xs.length cp) (addL m xs.length (timesL m xs.length l fs) (constL m (at0 xs k) xs.length)) := ((hod3.low (by first | (simp; done) | (simp; omega) | omega) _).low (by first | (simp; done) | (simp; omega) | omega) _).mono (by first | (simp; done) | (simp; omega) | omega)
      rw [horn_step (by omega) h1 _ _ hkx (timesL_len _ _ _ _) (timesL_range (by omega)), ← HS.out] at hRZ
      exact ⟨⟨k, op, cp, by omega, by go_num, hRZ.mono (by omega), hOZ, hg.trans hgZ⟩, by simp [intOf]⟩
    · obtain rfl : j = 0 := by omega
      rw [List.drop_zero] at hO
      obtain ⟨⟨z0, z1⟩, zf⟩ := id OO
      obtain ⟨⟨r0, r1⟩, rf⟩ := R3.grown hg (by simp; omega)
      go_wp2
      refine bodyPost_ret (v := .agg #[.int .i64 m, .slice ov xs.length cv]) (by simp [results, Tryz.results86, go_sem, r0, r1]) rfl ⟨_, rfl, ?_, ?_⟩
      · exact ((hO.low (by first | (simp; done) | (simp; omega) | omega) _).low (by first | (simp; done) | (simp; omega) | omega) _).mono (by first | (simp; done) | (simp; omega) | omega)
      · (repeat (first | exact bR _ _ | (refine bS ?_ _) | (refine bA ?_ _) | (refine bN ?_ _) | (refine bD ?_) | (refine bT ?_ Br)))

end Go.Proofs.YteijannfbafdpaaGreatDoor

/- Series: the reference's sums, products and compositions. -/
set_option linter.unusedSimpArgs false
set_option linter.unusedVariables false
namespace Go.Proofs.YteijannfbafdpaaGreatDoor
open Go.RowKit

set_option maxHeartbeats 1000000 in
set_option maxRecDepth 100000 in
theorem l02Add_c (m : Int) (v u : Value) (xs ys : List Int) (w : World) (hv : RdI w v xs) (hu : RdI w u ys) (hl : xs.length ≤ ys.length) (hn : xs.length ≤ 1048576) (hm : 2 ≤ m) (hm' : m ≤ 1000000000000)
    (hx : ∀ x ∈ xs, 0 ≤ x ∧ x < m) (hy : ∀ x ∈ ys, 0 ≤ x ∧ x < m) :
    Calls Tryz.prog 51 #[.int .i64 m, v, u] w fun e w' => ∃ v', e = .returned v' ∧ OwI w' w.heap.size v' (addL m xs.length xs ys) ∧ Below w.heap.size w w' := by
  obtain ⟨o, c, rfl, hmx, -⟩ := id hv
  obtain ⟨o', c', rfl, hmy, -⟩ := id hu
  have hml := hmx.1
  unfold maxLen at hmx hmy
  have m0 : (m == 0) = false := by simp; omega
  have m1 : ¬ m = 0 := by omega
  go_enter Tryz.func51, Tryz.ntmps51
  go_wp2_with fail
  have O1 := OwI.lit w [] (by decide)
  have B1 : Below w.heap.size w (w.alloc (.cells #[] 2)) := (by (repeat (first | exact bR _ _ | (refine bS ?_ _) | (refine bA ?_ _) | (refine bN ?_ _) | (refine bD ?_))))
  simp at O1
  generalize w.alloc (.cells #[] 2) = w1 at O1 B1 ⊢
  go_loopw [7, 8] (fun s i wr => ∃ k : Nat, k ≤ xs.length ∧ i = .int .i64 k ∧ OwI wr w.heap.size s (mk k (fun j => (at0 xs j + at0 ys j) % m)) ∧ Below w.heap.size w wr) (fun _ i _ => xs.length - (intOf i).toNat)
  case atStart => exact ⟨0, Nat.zero_le _, rfl, O1, B1⟩
  case round =>
    obtain ⟨k, hk, rfl, hO, hB⟩ := hrel
    obtain ⟨ov, cv, rfl⟩ := hO.shapeN (n := k) (mk_len _ _)
    by_cases hlt : k < xs.length
    · obtain ⟨bx, fx, rfl, -⟩ := hv.cells (by omega)
      obtain ⟨by', fy, rfl, -⟩ := hu.cells (by omega)
      have cx := (hv.below hB (Nat.le_refl _)).cell0 (some_at0 hlt)
      have cy := (hu.below hB (Nat.le_refl _)).cell0 (some_at0 (show k < ys.length by omega))
      have hxk := at0_range (by omega) hx k
      have hyk := at0_range (by omega) hy k
      have hMod := mod_lt' (a := at0 xs k + at0 ys k) (show 0 < m by omega)
      have HS := Lib.hid (mk_snoc k (fun j => (at0 xs j + at0 ys j) % m))
      have hBs := hB.size
      have i0 : (0 : Int) ≤ (k : Int) := by omega
      have i1 : (k : Int) < (xs.length : Int) := by omega
      have i2 : (k : Int) < (ys.length : Int) := by omega
      go_wp2_with fail
      have e1 : IntKind.i64.wrap (at0 xs k + at0 ys k) = at0 xs k + at0 ys k := IntWalk.i64_in _ (by omega)
      have e2 : (at0 xs k + at0 ys k).tmod m = (at0 xs k + at0 ys k) % m := Int.tmod_eq_emod_of_nonneg (by omega)
      go_region_held3 (fun w' => w'.cell? ⟨bx, fx + k, none⟩ = some (.int .i64 (at0 xs k)) ∧ w'.cell? ⟨by', fy + k, none⟩ = some (.int .i64 (at0 ys k))) (go_keep)
        ((refine stI wr rfl _ _ rfl w.heap.size (.slice ov k cv) _ rfl hO _ rfl (by rw [mk_len]; omega) (by omega) ?_; intro v' w4 hO3 hb3; have cx2 := (hv.below (hB.trans hb3) (Nat.le_refl _)).cell0 (some_at0 hlt); have cy2 := (hu.below (hB.trans hb3) (Nat.le_refl _)).cell0 (some_at0 (show k < ys.length by omega))))
      rw [← HS.out] at hO3
      go_wp2
      exact ⟨⟨k + 1, by omega, by go_num, hO3, hB.trans hb3⟩, by simp [intOf]; omega⟩
    · obtain rfl : k = xs.length := by omega
      go_wp2
      go_ret
      exact ⟨_, rfl, hO, hB⟩

set_option maxHeartbeats 2000000 in
set_option maxRecDepth 100000 in
theorem l02Times_c (m d : Int) (n : Nat) (v u : Value) (xs ys : List Int) (w : World) (hd : d = (n : Int) - 1) (hv : RdI w v xs) (hu : RdI w u ys) (h1 : 1 ≤ n) (hn : n ≤ 1048576) (hm : 2 ≤ m) (hm' : m ≤ 3000000000)
    (hx : ∀ x ∈ xs, 0 ≤ x ∧ x < m) (hy : ∀ x ∈ ys, 0 ≤ x ∧ x < m) :
    Calls Tryz.prog 96 #[.int .i64 m, v, u, .int .i64 d] w fun e w' => ∃ v', e = .returned v' ∧ OwI w' w.heap.size v' (timesL m n xs ys) ∧ Below w.heap.size w w' := by
  subst hd
  obtain ⟨o, c, rfl, hmx, -⟩ := id hv
  obtain ⟨o', c', rfl, hmy, -⟩ := id hu
  unfold maxLen at hmx hmy
  have m0 : (m == 0) = false := by simp; omega
  have m1 : ¬ m = 0 := by omega
  go_enter Tryz.func96, Tryz.ntmps96
  go_wp2_with (at_make; refine mkI _ rfl _ _ rfl _ _ _ n rfl rfl (by omega) (by omega) ?_; intro w1 hown hb hs1)
  rw [tmS_0 m _ xs ys] at hown
  have hz : w.heap.size < w1.heap.size := by omega
  clear hs1
  go_loopw [10] (fun i wr => ∃ k : Nat, k ≤ n ∧ i = .int .i64 k ∧ OwI wr w.heap.size (.slice (some ⟨w.heap.size, 0, none⟩) n n) (tmS m n xs ys k 0) ∧ Below w.heap.size w wr) (fun i _ => n - (intOf i).toNat)
  case atStart => exact ⟨0, Nat.zero_le _, rfl, hown, hb⟩
  case round =>
    obtain ⟨k, hk, rfl, hO, hB⟩ := hrel
    obtain ⟨wo, rfl⟩ : ∃ wo : World, wo = wr := ⟨_, rfl⟩
    by_cases hlt : k < xs.length ∧ k < n
    · obtain ⟨hlt, hkn⟩ := hlt
      obtain ⟨bx, fx, rfl, -⟩ := hv.cells (by omega)
      have hxk := at0_range (by omega) hx k
      have i0 : (0 : Int) ≤ (k : Int) := by omega
      have i1 : (k : Int) < (xs.length : Int) := by omega
      have i2 : (k : Int) ≤ (n : Int) - 1 := by omega
      go_wp2_with fail
      go_loopw [11] (fun i w2 => ∃ j : Nat, j ≤ n - k ∧ i = .int .i64 j ∧ OwI w2 w.heap.size (.slice (some ⟨w.heap.size, 0, none⟩) n n) (tmS m n xs ys k j) ∧ Below w.heap.size w w2) (fun i _ => n - k - (intOf i).toNat)
      case atStart => exact ⟨0, Nat.zero_le _, rfl, hO, hB⟩
      case round =>
        obtain ⟨j, hj, rfl, hO2, hB2⟩ := hrel
        have cx := (hv.below hB2 (Nat.le_refl _)).cell0 (some_at0 hlt)
        by_cases hjl : j < ys.length ∧ k + j < n ∧ ¬ at0 xs k = 0
        · obtain ⟨hjl, hkj, hne⟩ := hjl
          have hne' : (at0 xs k != 0) = true := by simpa using hne
          obtain ⟨by', fy, rfl, -⟩ := hu.cells (by omega)
          have cy := (hu.below hB2 (Nat.le_refl _)).cell0 (some_at0 hjl)
          have hyk := at0_range (by omega) hy j
          have hc0 := hO2.cell (k := k + j) (mk_get hkj)
          have hf0 := hO2.fz (k + j)
          obtain ⟨hM0, hM1⟩ := prod_fits hxk.1 hyk.1 hxk.2 hyk.2 hm'
          have hC := mod_lt' (a := convP (at0 xs) (at0 ys) k j (k + j)) (show 0 < m by omega)
          have hMod := mod_lt' (a := convP (at0 xs) (at0 ys) k j (k + j) % m + at0 xs k * at0 ys j) (show 0 < m by omega)
          have Hn := Lib.hid hO2
          clear hO2
          have j0 : (0 : Int) ≤ (j : Int) := by omega
          have j1 : (j : Int) < (ys.length : Int) := by omega
          have j2 : (0 : Int) ≤ (k : Int) + (j : Int) := by omega
          have j3 : (k : Int) + (j : Int) < (n : Int) := by omega
          have j5 : (k : Int) + (j : Int) ≤ (n : Int) - 1 := by omega
          have j4 : ((k : Int) + (j : Int)).toNat = k + j := by omega
          have Hne := Lib.hid hne
          clear hne
          go_wp2_with fail
          have e0 : IntKind.i64.wrap ((k : Int) + (j : Int)) = (k : Int) + (j : Int) := IntWalk.i64_in _ (by omega)
          have e3 : IntKind.i64.wrap (at0 xs k * at0 ys j) = at0 xs k * at0 ys j := IntWalk.i64_in _ (by omega)
          have e1 : IntKind.i64.wrap (convP (at0 xs) (at0 ys) k j (k + j) % m + at0 xs k * at0 ys j) = convP (at0 xs) (at0 ys) k j (k + j) % m + at0 xs k * at0 ys j := IntWalk.i64_in _ (by omega)
          have e2 : (convP (at0 xs) (at0 ys) k j (k + j) % m + at0 xs k * at0 ys j).tmod m = (convP (at0 xs) (at0 ys) k j (k + j) % m + at0 xs k * at0 ys j) % m := Int.tmod_eq_emod_of_nonneg (by omega)
          go_still_tail 23, (by kernel_rfl)
          change wpList _ _ _ _ _ wr.drew
          go_wp2
          have h2 := OwI.put Hn.out (k + j) ((convP (at0 xs) (at0 ys) k j (k + j) + at0 xs k * at0 ys j) % m)
          rw [tmS_set2 rfl rfl] at h2
          exact ⟨⟨j + 1, by omega, by go_num, h2, (below_put hB2 (Nat.le_refl _) _).drew⟩, by simp [intOf]; omega⟩
        · have hrow : tmS m n xs ys k j = tmS m n xs ys (k + 1) 0 := tmS_row (by
            by_cases h1 : j < ys.length
            · by_cases h2 : k + j < n
              · exact .inr (.inr (Classical.byContradiction fun h3 => hjl ⟨h1, h2, h3⟩))
              · exact .inl (by omega)
            · exact .inr (.inl (by omega)))
          rw [hrow] at hO2
          clear hrow
          have i3 : ((k : Int) + (j : Int)) ≤ 2097152 := by omega
          by_cases h1 : j < ys.length
          · by_cases h2 : k + j < n
            · have h3 : at0 xs k = 0 := Classical.byContradiction fun h3 => hjl ⟨h1, h2, h3⟩
              have h3' : (at0 xs k != 0) = false := by simpa using h3
              have j5 : (k : Int) + (j : Int) ≤ (n : Int) - 1 := by omega
              clear hjl h3
              go_wp2
              exact ⟨⟨k + 1, by omega, by go_num, hO2, hB2⟩, by simp [intOf]; omega⟩
            · have j5 : ¬ (k : Int) + (j : Int) ≤ (n : Int) - 1 := by omega
              clear hjl
              go_wp2
              exact ⟨⟨k + 1, by omega, by go_num, hO2, hB2⟩, by simp [intOf]; omega⟩
          · clear hjl
            go_wp2
            exact ⟨⟨k + 1, by omega, by go_num, hO2, hB2⟩, by simp [intOf]; omega⟩
    · rw [tmS_all (by omega)] at hO
      by_cases h1 : k < xs.length
      · have h2 : ¬ (k : Int) ≤ (n : Int) - 1 := by omega
        clear hlt
        go_wp2
        go_ret
        exact ⟨_, rfl, hO, hB⟩
      · clear hlt
        go_wp2
        go_ret
        exact ⟨_, rfl, hO, hB⟩

end Go.Proofs.YteijannfbafdpaaGreatDoor

/- Series: the product with a number, in the program and in the reference. -/
set_option linter.unusedSimpArgs false
set_option linter.unusedVariables false
namespace Go.Proofs.YteijannfbafdpaaGreatDoor
open Go.RowKit

def sclTo (m c : Int) (xs : List Int) (i : Nat) : List Int := mk xs.length (fun k => if k < i then c * at0 xs k % m else 0)
theorem sclTo_len (m c : Int) (xs : List Int) (i : Nat) : (sclTo m c xs i).length = xs.length := mk_len _ _
theorem sclTo_0 (m c : Int) (xs : List Int) : List.replicate xs.length (0 : Int) = sclTo m c xs 0 := by
  rw [mk_zero]; exact mk_ext (fun k _ => by simp)
theorem sclTo_set {m c : Int} {xs : List Int} {i : Nat} : (sclTo m c xs i).set i (c * at0 xs i % m) = sclTo m c xs (i + 1) := by
  unfold sclTo
  rw [mk_set]
  refine mk_ext fun k hk => ?_
  by_cases h : k = i
  · subst h; simp
  · rw [if_neg h]
    by_cases h1 : k < i
    · rw [if_pos h1, if_pos (by omega)]
    · rw [if_neg h1, if_neg (by omega)]
theorem scaleL_mk (m c : Int) (xs : List Int) : scaleL m c xs = mk xs.length (fun k => c * at0 xs k % m) := by
  conv => lhs; rw [eq_mk (scaleL m c xs), scaleL_len]
  exact mk_ext fun k hk => scaleL_at hk
theorem sclTo_all {m c : Int} {xs : List Int} : sclTo m c xs xs.length = scaleL m c xs := by
  rw [scaleL_mk]; exact mk_ext fun k hk => by rw [if_pos hk]
theorem scaleL_mod (m c : Int) (xs : List Int) : scaleL m (c % m) xs = scaleL m c xs := by
  rw [scaleL_mk, scaleL_mk]; exact mk_ext fun k _ => emod_congr_mul (emod_idem _ _) rfl

set_option maxHeartbeats 1000000 in
set_option maxRecDepth 100000 in
theorem scaled_c (m a : Int) (v : Value) (xs : List Int) (w : World) (hv : RdI w v xs) (h1 : 1 ≤ xs.length) (hn : xs.length ≤ 1048576) (hm : 2 ≤ m) (hm' : m ≤ 3000000000)
    (hx : ∀ x ∈ xs, 0 ≤ x ∧ x < m) (ha : -9000000000000000000 ≤ a) (ha' : a ≤ 9000000000000000000) :
    Calls Tryz.prog 94 #[.agg #[.int .i64 m, v], .int .i64 a] w fun e w' => SVEnd w w' m (scaleL m a xs) e := by
  obtain ⟨o, c, rfl, hmx, -⟩ := id hv
  have hml := hmx.1
  unfold maxLen at hmx
  rw [← scaleL_mod]
  have hA := mod_lt' (a := a) (show 0 < m by omega)
  go_enter Tryz.func94, Tryz.ntmps94
  go_wp2_with fail
  (obtain ⟨w0, hw0⟩ : ∃ W : World, W = ((w.alloc (.cells #[.int .i64 m, .slice o xs.length c] 57)).alloc (.cells #[.int .i64 0, .slice none 0 0] 57)) := ⟨_, rfl⟩; have X0 := (RB2.mk1 w  (.int .i64 m) (.slice o xs.length c) 57).1.below (w' := w0) (by rw [hw0]; (repeat (first | exact bR _ _ | (refine bS ?_ _) | (refine bA ?_ _) | (refine bN ?_ _) | (refine bD ?_)))) (Nat.le_refl _); have R0 := (RB2.mk2 w (.cells #[.int .i64 m, .slice o xs.length c] 57) (.int .i64 0) (.slice none 0 0) 57).below (w' := w0) (by rw [hw0]; (repeat (first | exact bR _ _ | (refine bS ?_ _) | (refine bA ?_ _) | (refine bN ?_ _) | (refine bD ?_)))) (Nat.le_refl _); have B0 : Below w.heap.size w w0 := (by rw [hw0]; (repeat (first | exact bR _ _ | (refine bS ?_ _) | (refine bA ?_ _) | (refine bN ?_ _) | (refine bD ?_)))); have hv0 := hv.below (w' := w0) (by rw [hw0]; (repeat (first | exact bR _ _ | (refine bS ?_ _) | (refine bA ?_ _) | (refine bN ?_ _) | (refine bD ?_)))) (Nat.le_refl _); rw [← hw0]; clear hw0)
  have hzl : w.heap.size + 1 < w0.heap.size := R0.1.lt
  go_cut [5] (fun sb u => ∃ (wz : World) (b : Nat) (oz : Option Addr) (cz : Nat), wz = u ∧ sb = .pointer (some ⟨b, 0, none⟩) ∧ w0.heap.size ≤ b ∧ RB2 u b (.int .i64 m) (.slice oz xs.length cz) ∧ OwI u w0.heap.size (.slice oz xs.length cz) (List.replicate xs.length 0) ∧ (∀ k, (Value.slice oz xs.length cz).ownBlock = some k → k ≠ b) ∧ Below w0.heap.size w0 u)
  case first =>
    have hd0 : Below w0.heap.size w0 w0.drew := (Below.refl _ _).drew
    have hsd0 := hd0.size
    have hlb_X0 := X0.lt
    obtain ⟨q0_X0_0, q0_X0_1⟩ := X0.below (Below.refl w0.heap.size w0) (Nat.le_refl _)
    have hne0_X0 : w0.heap.size ≠ w.heap.size := by omega
    go_region_held3 (fun w' => w'.cell? ⟨w.heap.size, 0, none⟩ = some (.int .i64 m) ∧ w'.cell? ⟨w.heap.size, 1, none⟩ = some (.slice o xs.length c)) (go_keep)
      (first
        | (go_at_call 84; refine (degreeS_c m o xs.length c _ hml).mono ?_; rintro e wd1 ⟨rfl, hbd1⟩; have hd1 : Below w0.heap.size w0 wd1 := (by (repeat (first | exact bR _ _ | (refine bS ?_ _) | (refine bA ?_ _) | (refine bN ?_ _) | (refine bD ?_) | (refine bT ?_ hbd1)))); have hsd1 := hd1.size; have hsz1_ := hbd1.size; (try simp at hsz1_); obtain ⟨q1_X0_0, q1_X0_1⟩ := X0.below hd1 (Nat.le_refl _); have hne1_X0 : wd1.heap.size ≠ w.heap.size := (by omega); (try (have RZ := RZ.below hbd1 (Nat.le_refl _))); (try (have RZ := (show RB2 (w0.alloc (.cells #[.int .i64 0, .slice none 0 0] 57)).drew w0.heap.size (.int .i64 0) (.slice none 0 0) from RB2.mk1 w0 (.int .i64 0) (.slice none 0 0) _).below hbd1 (Nat.le_refl _))); (try (obtain ⟨⟨z1_0, z1_1⟩, zf1⟩ := id RZ)))
        | (go_at_call 80; refine (zero_c m ((xs.length : Int) - 1) xs.length _ (by omega) (by omega)).mono ?_; rintro e wd2 ⟨vz2, rfl, hod2, hbd2⟩; obtain ⟨oz, cz, rfl⟩ := hod2.shapeN (n := xs.length) (by simp); have hd2 : Below w0.heap.size w0 wd2 := (by (repeat (first | exact bR _ _ | (refine bS ?_ _) | (refine bA ?_ _) | (refine bN ?_ _) | (refine bD ?_) | (refine bT ?_ hbd1) | (refine bT ?_ hbd2)))); have hsd2 := hd2.size; have hsz2_ := hbd2.size; (try simp at hsz2_); obtain ⟨q2_X0_0, q2_X0_1⟩ := X0.below hd2 (Nat.le_refl _); have hne2_X0 : wd2.heap.size ≠ w.heap.size := (by omega); (try (have RZ := RZ.below hbd2 (Nat.le_refl _))); (try (have RZ := (show RB2 (wd1.alloc (.cells #[.int .i64 0, .slice none 0 0] 57)) wd1.heap.size (.int .i64 0) (.slice none 0 0) from RB2.mk1 wd1 (.int .i64 0) (.slice none 0 0) _).below hbd2 (Nat.le_refl _))); (try (obtain ⟨⟨z2_0, z2_1⟩, zf2⟩ := id RZ))))
    all_goals
      go_wp2_with fail
      go_meet
      have hL := hod2.lt
      refine ⟨_, _, oz, cz, rfl, rfl, ?_, ?_, ?_, ?_, ?_⟩
      · first | omega | (simp; done) | (simp; omega)
      · first | exact RB2.mk1 _ _ _ _ | exact RB2.put RZ _ _
      · first | exact (hod2.alloc _).mono (by first | (simp; done) | (simp; omega) | omega) | exact ((hod2.low (by first | (simp; done) | (simp; omega) | omega) _).low (by first | (simp; done) | (simp; omega) | omega) _).mono (by first | (simp; done) | (simp; omega) | omega)
      · intro k hk; have hq := hL k hk; first | omega | (simp at hq; omega)
      · (repeat (first | exact bR _ _ | (refine bS ?_ _) | (refine bA ?_ _) | (refine bN ?_ _) | (refine bD ?_) | (refine bT ?_ hbd1) | (refine bT ?_ hbd2)))
  case rest =>
  obtain ⟨w1, b, oz, cz, rfl, rfl, hbW, O, how, hneb, hb⟩ := hcut
  (have X1 := X0.below hb (Nat.le_refl _); have R1 := R0.below hb (Nat.le_refl _); have hv1 := hv0.below hb (Nat.le_refl _); have B1 := B0.trans (hb.mono B0.size))
  rw [sclTo_0 m (a % m) xs] at how
  obtain ⟨g, cap, hsl, hgl, hgl', -, -, -⟩ := how.opn (by rw [sclTo_len]; omega)
  obtain ⟨rfl, rfl⟩ : oz = some ⟨g, 0, none⟩ ∧ cz = cap := by simp at hsl; exact ⟨hsl.1, hsl.2.2⟩
  clear hsl
  have hgb := hneb g rfl
  clear hneb
  obtain ⟨bx, fx, rfl, hcx⟩ := hv.cells h1
  clear hcx
  have B1s := B1.size
  obtain ⟨x0, x1⟩ := id X1
  go_wp2_with fail
  clear x0 x1
  go_loopw [16] (fun i wr => ∃ k : Nat, k ≤ xs.length ∧ i = .int .i64 k ∧ OwI wr w0.heap.size (.slice (some ⟨g, 0, none⟩) xs.length cz) (sclTo m (a % m) xs k) ∧ w1.grownBy wr (some g)) (fun i _ => xs.length - (intOf i).toNat)
  case atStart => exact ⟨0, Nat.zero_le _, rfl, how, World.grownBy.refl _ _⟩
  case round =>
    obtain ⟨k, hk, rfl, hO, hg⟩ := hrel
    have Br := below_gr B1 hg (by omega) B1s
    by_cases hlt : k < xs.length
    · obtain ⟨x0, x1⟩ := X1.grown hg (by simp; omega)
      obtain ⟨⟨z0, z1⟩, zf⟩ := O.grown hg (by simp; omega)
      have cx := (hv.below Br (Nat.le_refl _)).cell0 (some_at0 hlt)
      have hxk := at0_range (by omega) hx k
      have hc0 := hO.cell (k := k) (mk_get hlt)
      have hf0 := hO.fz k
      have Hn := Lib.hid hO
      clear hO
      have i0 : (0 : Int) ≤ (k : Int) := by omega
      have i1 : (k : Int) < (xs.length : Int) := by omega
      go_wp2_with fail
      go_still_tail 12, (by kernel_rfl)
      still_call (stillC (mod_c _ _ _ (by omega) (by omega) (by omega) (by omega)))
      repeat still_step
      still_call (stillC (mul_c _ _ _ _ (by omega) hm' (by omega) (by omega) (by omega) (by omega)))
      repeat still_step
      refine wpStill_nil ?_
      change wpList _ _ _ _ _ wr.drew
      go_wp2
      have h2 := OwI.put Hn.out k (a % m * at0 xs k % m)
      rw [sclTo_set] at h2
      exact ⟨⟨k + 1, by omega, by go_num, h2, gr_drew (gr_put hg _ _)⟩, by simp [intOf]; omega⟩
    · obtain rfl : k = xs.length := by omega
      rw [sclTo_all] at hO
      obtain ⟨⟨z0, z1⟩, zf⟩ := O.grown hg (by simp; omega)
      obtain ⟨⟨r0, r1⟩, rf⟩ := R1.grown hg (by simp; omega)
      go_wp2
      refine bodyPost_ret (v := .agg #[.int .i64 m, .slice (some ⟨g, 0, none⟩) xs.length cz]) (by simp [results, Tryz.results94, go_sem, r0, r1]) rfl ⟨_, rfl, ?_, ?_⟩
      · exact ((hO.low (by first | (simp; done) | (simp; omega) | omega) _).low (by first | (simp; done) | (simp; omega) | omega) _).mono (by first | (simp; done) | (simp; omega) | omega)
      · (repeat (first | exact bR _ _ | (refine bS ?_ _) | (refine bA ?_ _) | (refine bN ?_ _) | (refine bD ?_) | (refine bT ?_ Br)))

set_option maxHeartbeats 1000000 in
set_option maxRecDepth 100000 in
theorem l02Scale_c (m a : Int) (v : Value) (xs : List Int) (w : World) (hv : RdI w v xs) (hn : xs.length ≤ 1048576) (hm : 2 ≤ m) (hm' : m ≤ 3000000000) (ha : 0 ≤ a) (ha' : a < m)
    (hx : ∀ x ∈ xs, 0 ≤ x ∧ x < m) :
    Calls Tryz.prog 52 #[.int .i64 m, .int .i64 a, v] w fun e w' => ∃ v', e = .returned v' ∧ OwI w' w.heap.size v' (scaleL m a xs) ∧ Below w.heap.size w w' := by
  obtain ⟨o, c, rfl, hmx, -⟩ := id hv
  have hml := hmx.1
  unfold maxLen at hmx
  have m0 : (m == 0) = false := by simp; omega
  have m1 : ¬ m = 0 := by omega
  rw [scaleL_mk]
  go_enter Tryz.func52, Tryz.ntmps52
  go_wp2_with fail
  have O1 := OwI.lit w [] (by decide)
  have B1 : Below w.heap.size w (w.alloc (.cells #[] 2)) := (by (repeat (first | exact bR _ _ | (refine bS ?_ _) | (refine bA ?_ _) | (refine bN ?_ _) | (refine bD ?_))))
  simp at O1
  generalize w.alloc (.cells #[] 2) = w1 at O1 B1 ⊢
  go_loopw [7, 8] (fun s i wr => ∃ k : Nat, k ≤ xs.length ∧ i = .int .i64 k ∧ OwI wr w.heap.size s (mk k (fun j => a * at0 xs j % m)) ∧ Below w.heap.size w wr) (fun _ i _ => xs.length - (intOf i).toNat)
  case atStart => exact ⟨0, Nat.zero_le _, rfl, O1, B1⟩
  case round =>
    obtain ⟨k, hk, rfl, hO, hB⟩ := hrel
    obtain ⟨ov, cv, rfl⟩ := hO.shapeN (n := k) (mk_len _ _)
    by_cases hlt : k < xs.length
    · obtain ⟨bx, fx, rfl, -⟩ := hv.cells (by omega)
      have cx := (hv.below hB (Nat.le_refl _)).cell0 (some_at0 hlt)
      have hxk := at0_range (by omega) hx k
      have hpf := prod_fits ha hxk.1 ha' hxk.2 (by omega)
      have HS := Lib.hid (mk_snoc k (fun j => a * at0 xs j % m))
      have hBs := hB.size
      have i0 : (0 : Int) ≤ (k : Int) := by omega
      have i1 : (k : Int) < (xs.length : Int) := by omega
      have e1 : IntKind.i64.wrap (a * at0 xs k) = a * at0 xs k := IntWalk.i64_in _ (by omega)
      have e2 : (a * at0 xs k).tmod m = (a * at0 xs k) % m := Int.tmod_eq_emod_of_nonneg (by omega)
      go_wp2_with (at_builtin; refine apI wr rfl _ _ rfl w.heap.size (.slice ov k cv) _ rfl hO (a * at0 xs k % m) (by go_simp) (by rw [mk_len]; omega) (by omega) ?_; intro v' w4 hO3 hgr hb3 hlt3; clear hgr)
      rw [← HS.out] at hO3
      go_wp2
      exact ⟨⟨k + 1, by omega, by go_num, hO3, hB.trans hb3⟩, by simp [intOf]; omega⟩
    · obtain rfl : k = xs.length := by omega
      go_wp2
      go_ret
      exact ⟨_, rfl, hO, hB⟩

end Go.Proofs.YteijannfbafdpaaGreatDoor
