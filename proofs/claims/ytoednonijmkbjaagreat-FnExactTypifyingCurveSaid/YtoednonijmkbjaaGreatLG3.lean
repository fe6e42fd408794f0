/- Lemmas. -/
import Derived.Test.YtoednonijmkbjaaGreatLG2
import Derived.Test.YtoednonijmkbjaaGreatLG1
import Derived.Deep.RegionHeld3
import Derived.Deep.DeepCutAuto
/- Whether something is a series, a curve; whether two are alike: the program's answers and the reference's. -/
set_option linter.unusedSimpArgs false
set_option linter.unusedVariables false
namespace Go.Proofs.YtoednonijmkbjaaGreat
open Go.RowKit

def numsB (m : Int) (xs : List Int) : Bool := xs.all (fun x => inB x 0 (m - 1))
theorem nums_x {m : Int} {xs : List Int} (h : numsB m xs = true) : ∀ x ∈ xs, 0 ≤ x ∧ x < m := by
  intro x hx
  have := inB_t (List.all_eq_true.1 h x hx)
  omega
set_option maxHeartbeats 400000 in
theorem degreeS_c (m : Int) (o : Option Addr) (n c : Nat) (w : World) (hn : n ≤ maxLen) :
    Calls Tryz.prog 109 #[.agg #[.int .i64 m, .slice o n c]] w fun e w' => e = .returned (.int .i64 ((n : Int) - 1)) ∧ Below w.heap.size w w' := by
  unfold maxLen at hn
  go_enter Tryz.func109, Tryz.ntmps109
  go_wp2
  go_ret
  exact ⟨rfl, (by (repeat (first | exact bR _ _ | (refine bS ?_ _) | (refine bA ?_ _) | (refine bN ?_ _) | (refine bD ?_))))⟩

set_option maxHeartbeats 400000 in
theorem l01Numbers_c (m : Int) (v : Value) (xs : List Int) (w : World) (hv : RdI w v xs) (hm : -9223372036854775808 < m) (hm' : m ≤ 9223372036854775807) :
    Calls Tryz.prog 137 #[.int .i64 m, v] w fun e w' => e = .returned (.bool (numsB m xs)) ∧ w = w' := by
  obtain ⟨o, c, rfl, hmx, hc⟩ := hv
  unfold maxLen at hmx
  go_enter Tryz.func137, Tryz.ntmps137
  go_wp2_with fail
  go_loop [5] (fun i => ∃ k : Nat, k ≤ xs.length ∧ i = .int .i64 k ∧ Hid (∀ j (hj : j < xs.length), j < k → inB xs[j] 0 (m - 1) = true)) (fun i => xs.length - (intOf i).toNat)
  case atStart => exact ⟨0, Nat.zero_le _, rfl, Lib.hid (fun j hj h => by omega)⟩
  case round =>
    obtain ⟨k, hk, rfl, HQ⟩ := hrel
    by_cases hlt : k < xs.length
    · obtain ⟨b, off, rfl, hx⟩ := hc k (xs[k]) (by simp [hlt])
      cases hq : inB xs[k] 0 (m - 1)
      · go_wp2_with (go_at_call 148; refine (l01In_c _ _ _ _).mono ?_; rw [hq]; rintro e w' ⟨rfl, rfl⟩)
        go_ret
        exact ⟨by unfold numsB; rw [List.all_eq_false.2 ⟨xs[k], by simp, by simp [hq]⟩]; rfl, rfl⟩
      · go_wp2_with (go_at_call 148; refine (l01In_c _ _ _ _).mono ?_; rw [hq]; rintro e w' ⟨rfl, rfl⟩)
        exact ⟨⟨k + 1, by omega, by go_num, Lib.hid (fun j hj h => by
          rcases Nat.lt_or_ge j k with h1 | h1
          · exact HQ.out j hj h1
          · obtain rfl : j = k := by omega
            exact hq)⟩, by simp [intOf]; omega⟩
    · go_wp2
      go_ret
      exact ⟨by unfold numsB; rw [List.all_eq_true.2 (fun x hx => by obtain ⟨j, hj, rfl⟩ := List.getElem_of_mem hx; exact HQ.out j hj (by omega))]; rfl, rfl⟩

set_option maxHeartbeats 400000 in
theorem l01Modulus_c (m : Int) (w : World) :
    Calls Tryz.prog 136 #[.int .i64 m] w fun e w' => e = .returned (.bool (modB m)) ∧ w = w' := by
  go_enter Tryz.func136, Tryz.ntmps136
  go_wp2_with (go_at_call 148; refine (l01In_c _ _ _ _).mono ?_; rintro e w' ⟨rfl, rfl⟩)
  go_ret
  exact ⟨rfl, rfl⟩

end Go.Proofs.YtoednonijmkbjaaGreat

/- Whether something is a plane; whether two are alike: the program's answers and the reference's. -/
set_option linter.unusedSimpArgs false
set_option linter.unusedVariables false
namespace Go.Proofs.YtoednonijmkbjaaGreat
open Go.RowKit

def rowB (m : Int) (n j : Nat) (row : List Int) : Bool := decide (row.length = n - j) && numsB m row
def rowsB (m : Int) (xss : List (List Int)) : Bool := (List.range xss.length).all (fun j => rowB m xss.length j (xss.getD j []))
def plaB (m : Int) (xss : List (List Int)) : Bool := modB m && inB ((xss.length : Int) - 1) 1 10 && rowsB m xss
theorem getD_at {xss : List (List Int)} {j : Nat} (h : j < xss.length) : xss.getD j [] = xss[j] := by simp [List.getD, h]
theorem rowsB_t {m : Int} {xss : List (List Int)} (h : ∀ j (hj : j < xss.length), rowB m xss.length j xss[j] = true) : rowsB m xss = true := by
  unfold rowsB
  rw [List.all_eq_true]
  intro j hj
  have hj' := List.mem_range.1 hj
  rw [getD_at hj']; exact h j hj'
theorem rowsB_f {m : Int} {xss : List (List Int)} {j : Nat} (hj : j < xss.length) (h : rowB m xss.length j xss[j] = false) : rowsB m xss = false := by
  unfold rowsB
  rw [List.all_eq_false]
  exact ⟨j, List.mem_range.2 hj, by rw [getD_at hj, h]; simp⟩
theorem pla_m {m : Int} {xss : List (List Int)} (h : plaB m xss = true) : 2 ≤ m ∧ m ≤ 10000 := by simp [plaB] at h; exact modB_t h.1.1
theorem pla_n {m : Int} {xss : List (List Int)} (h : plaB m xss = true) : 2 ≤ xss.length ∧ xss.length ≤ 11 := by simp [plaB] at h; have := inB_t h.1.2; omega
theorem pla_row {m : Int} {xss : List (List Int)} (h : plaB m xss = true) (j : Nat) (hj : j < xss.length) : xss[j].length = xss.length - j ∧ ∀ x ∈ xss[j], 0 ≤ x ∧ x < m := by
  simp only [plaB, Bool.and_eq_true, rowsB, List.all_eq_true] at h
  have := h.2 j (List.mem_range.2 hj)
  rw [getD_at hj] at this
  simp only [rowB, Bool.and_eq_true, decide_eq_true_eq] at this
  exact ⟨this.1, nums_x this.2⟩
set_option maxHeartbeats 400000 in
theorem degreeP_c (m : Int) (o : Option Addr) (n c : Nat) (w : World) (hn : n ≤ maxLen) :
    Calls Tryz.prog 54 #[.agg #[.int .i64 m, .slice o n c]] w fun e w' => e = .returned (.int .i64 ((n : Int) - 1)) ∧ Below w.heap.size w w' := by
  unfold maxLen at hn
  go_enter Tryz.func54, Tryz.ntmps54
  go_wp2
  go_ret
  exact ⟨rfl, (by (repeat (first | exact bR _ _ | (refine bS ?_ _) | (refine bA ?_ _) | (refine bN ?_ _) | (refine bD ?_))))⟩

set_option maxHeartbeats 400000 in
theorem IsPlane1_c (m x : Int) (b : Nat) (w : World) (hm : -9223372036854775808 < m) (hm' : m ≤ 9223372036854775807)
    (h1 : w.cell? ⟨b, 0, none⟩ = some (.int .i64 m)) :
    Calls Tryz.prog 142 #[.int .i64 x, .pointer (some ⟨b, 0, none⟩)] w fun e w' => e = .returned (.bool (inB x 0 (m - 1))) ∧ w = w' := by
  go_enter Tryz.func142, Tryz.ntmps142
  go_wp2_with (go_at_call 143; refine (isNumber_c _ _ _ hm hm').mono ?_; rintro e w' ⟨rfl, rfl⟩)
  go_ret
  exact ⟨rfl, rfl⟩
theorem IsPlane1_callable : Callable 142 := fun args w => Tryz.call142 args w

set_option maxHeartbeats 1000000 in
theorem IsPlane_c (m : Int) (v : Value) (xss : List (List Int)) (w : World) (hv : RdT w v xss) :
    Calls Tryz.prog 115 #[.agg #[.int .i64 m, v]] w fun e w' => e = .returned (.bool (plaB m xss)) ∧ Below w.heap.size w w' := by
  obtain ⟨o, c, rfl, hm, -⟩ := id hv
  have hml := hm.1
  unfold maxLen at hm
  cases hs : modB m
  · go_enter Tryz.func115, Tryz.ntmps115
    go_wp2_with (go_at_call 139; refine (IsModulus_c _ _).mono ?_; rw [hs]; rintro e w' ⟨rfl, rfl⟩)
    go_ret
    exact ⟨by simp [plaB, hs], (by (repeat (first | exact bR _ _ | (refine bS ?_ _) | (refine bA ?_ _) | (refine bN ?_ _) | (refine bD ?_))))⟩
  · have hm1 := modB_t hs
    cases ht : inB ((xss.length : Int) - 1) 1 10
    all_goals
      go_enter Tryz.func115, Tryz.ntmps115
      go_wp2_with (go_at_call 139; refine (IsModulus_c _ _).mono ?_; rw [hs]; rintro e w' ⟨rfl, rfl⟩)
      (have X0 := ((RB2.mk1 w  (.int .i64 m) (.slice o xss.length c) 31).1).below (w' := (w.alloc (.cells #[.int .i64 m, .slice o xss.length c] 31))) (by (repeat (first | exact bR _ _ | (refine bS ?_ _) | (refine bA ?_ _) | (refine bN ?_ _) | (refine bD ?_)))) (Nat.le_refl _); have B0 : Below w.heap.size w (w.alloc (.cells #[.int .i64 m, .slice o xss.length c] 31)) := (by (repeat (first | exact bR _ _ | (refine bS ?_ _) | (refine bA ?_ _) | (refine bN ?_ _) | (refine bD ?_)))); have hv0 := hv.below (w' := (w.alloc (.cells #[.int .i64 m, .slice o xss.length c] 31))) (by (repeat (first | exact bR _ _ | (refine bS ?_ _) | (refine bA ?_ _) | (refine bN ?_ _) | (refine bD ?_)))) (Nat.le_refl _); generalize w.alloc (.cells #[.int .i64 m, .slice o xss.length c] 31) = w0 at X0 B0 hv0 ⊢)
      obtain ⟨x0, x1⟩ := id X0
      go_wp2_with fail
      refine (degreeP_c m o xss.length c _ hml).mono ?_
      rintro e w1 ⟨rfl, hb⟩
      (have X1 := X0.below hb (Nat.le_refl _); have hv1 := hv0.below hb (Nat.le_refl _); have B1 := B0.trans (hb.mono B0.size))
      clear x0 x1
      obtain ⟨x0, x1⟩ := id X1
      go_wp2_with (go_at_call 140; refine (in_c _ _ _ _).mono ?_; rw [ht]; rintro e w' ⟨rfl, rfl⟩)
    · go_ret
      exact ⟨by simp [plaB, ht], (by (repeat (first | exact bR _ _ | (refine bS ?_ _) | (refine bA ?_ _) | (refine bN ?_ _) | (refine bD ?_) | (refine bT ?_ B1))))⟩
    · clear x0 x1
      have hB1s := B1.size
      go_loopw [18] (fun i wr => ∃ k : Nat, k ≤ xss.length ∧ i = .int .i64 k ∧ Hid (∀ j (hj : j < xss.length), j < k → rowB m xss.length j xss[j] = true) ∧ Below w1.heap.size w1 wr) (fun i _ => xss.length - (intOf i).toNat)
      case atStart => exact ⟨0, Nat.zero_le _, rfl, Lib.hid (fun j hj h => by omega), Below.refl _ _⟩
      case round =>
        obtain ⟨k, hk, rfl, HQ, hbr⟩ := hrel
        have hvr := hv1.below hbr (Nat.le_refl _)
        obtain ⟨x0, x1⟩ := X1.below hbr (Nat.le_refl _)
        have hbs := hbr.size
        by_cases hlt : k < xss.length
        · obtain ⟨b, off, rfl, -⟩ := hvr.rows (by omega)
          obtain ⟨o', c', hx, hr⟩ := hvr.row (show xss[k]? = some xss[k] by simp [hlt])
          have hrl := hr.len.2.1
          unfold maxLen at hrl
          cases hq : ((xss[k].length : Int) != (xss.length : Int) - (k : Int))
          · have hlen : xss[k].length = xss.length - k := by simp at hq; omega
            have HLEN := Lib.hid hlen
            clear hlen
            cases hn : numsB m xss[k]
            all_goals
              go_wp2_with fail
              refine (allI_c 142 _ (fun x => inB x 0 (m - 1)) _ xss[k] _ hr IsPlane1_callable (fun x hx w1 hb => IsPlane1_c m x _ _ (by omega) (by omega) (keep_cell hb (Nat.le_refl _) x0))).mono ?_
              rw [show xss[k].all (fun x => inB x 0 (m - 1)) = _ from hn]
              rintro e w2 ⟨rfl, hb2⟩
              have hb3 := hbr.trans (hb2.mono hbs)
              clear x0 x1
              obtain ⟨x0, x1⟩ := X1.below hb3 (Nat.le_refl _)
              go_wp2
            · go_ret
              exact ⟨by rw [show plaB m xss = false by simp [plaB, rowsB_f hlt (show rowB m xss.length k xss[k] = false by simp [rowB, hn])]]; rfl, B1.trans (hb3.mono hB1s)⟩
            · exact ⟨⟨k + 1, by omega, by go_num, Lib.hid (fun j hj h => by
                rcases Nat.lt_or_ge j k with h1 | h1
                · exact HQ.out j hj h1
                · obtain rfl : j = k := by omega
                  simp [rowB, hn, HLEN.out]), hb3⟩, by simp [intOf]; omega⟩
          · have hlen : ¬ xss[k].length = xss.length - k := by simp at hq; omega
            have HLEN := Lib.hid hlen
            clear hlen
            go_wp2
            go_ret
            exact ⟨by rw [show plaB m xss = false by simp [plaB, rowsB_f hlt (show rowB m xss.length k xss[k] = false by simp [rowB, HLEN.out])]]; rfl, B1.trans (hbr.mono hB1s)⟩
        · go_wp2
          go_ret
          exact ⟨by rw [show plaB m xss = true by simp [plaB, hs, ht, rowsB_t (fun j hj => HQ.out j hj (by omega))]]; rfl, B1.trans (hbr.mono hB1s)⟩

set_option maxHeartbeats 1000000 in
theorem l03Is_c (m : Int) (v : Value) (xss : List (List Int)) (w : World) (hv : RdT w v xss) :
    Calls Tryz.prog 112 #[.agg #[.int .i64 m, v]] w fun e w' => e = .returned (.bool (plaB m xss)) ∧ Below w.heap.size w w' := by
  obtain ⟨o, c, rfl, hm, -⟩ := id hv
  have hml := hm.1
  unfold maxLen at hm
  cases hs : modB m
  · go_enter Tryz.func112, Tryz.ntmps112
    go_wp2_with (go_at_call 136; refine (l01Modulus_c _ _).mono ?_; rw [hs]; rintro e w' ⟨rfl, rfl⟩)
    go_ret
    exact ⟨by simp [plaB, hs], (by (repeat (first | exact bR _ _ | (refine bS ?_ _) | (refine bA ?_ _) | (refine bN ?_ _) | (refine bD ?_))))⟩
  · have hm1 := modB_t hs
    cases ht : inB ((xss.length : Int) - 1) 1 10
    · have hno := inB_f ht
      have HT := Lib.hid ht
      clear ht
      by_cases h2 : (xss.length : Int) < 2
      · go_enter Tryz.func112, Tryz.ntmps112
        go_wp2_with (go_at_call 136; refine (l01Modulus_c _ _).mono ?_; rw [hs]; rintro e w' ⟨rfl, rfl⟩)
        go_ret
        exact ⟨by simp [plaB, HT.out], (by (repeat (first | exact bR _ _ | (refine bS ?_ _) | (refine bA ?_ _) | (refine bN ?_ _) | (refine bD ?_))))⟩
      · have h3 : (11 : Int) < (xss.length : Int) := by omega
        clear hno
        go_enter Tryz.func112, Tryz.ntmps112
        go_wp2_with (go_at_call 136; refine (l01Modulus_c _ _).mono ?_; rw [hs]; rintro e w' ⟨rfl, rfl⟩)
        go_ret
        exact ⟨by simp [plaB, HT.out], (by (repeat (first | exact bR _ _ | (refine bS ?_ _) | (refine bA ?_ _) | (refine bN ?_ _) | (refine bD ?_))))⟩
    · have hyes := inB_t ht
      have HT := Lib.hid ht
      clear ht
      have h2 : ¬ (xss.length : Int) < 2 := by omega
      have h3 : ¬ (11 : Int) < (xss.length : Int) := by omega
      clear hyes
      obtain ⟨b, off, rfl, -⟩ := hv.rows (by omega)
      go_enter Tryz.func112, Tryz.ntmps112
      go_wp2_with (go_at_call 136; refine (l01Modulus_c _ _).mono ?_; rw [hs]; rintro e w' ⟨rfl, rfl⟩)
      (have X0 := ((RB2.mk1 w  (.int .i64 m) (.slice (some ⟨b, off, none⟩) xss.length c) 31).1).below (w' := (w.alloc (.cells #[.int .i64 m, .slice (some ⟨b, off, none⟩) xss.length c] 31))) (by (repeat (first | exact bR _ _ | (refine bS ?_ _) | (refine bA ?_ _) | (refine bN ?_ _) | (refine bD ?_)))) (Nat.le_refl _); have B0 : Below w.heap.size w (w.alloc (.cells #[.int .i64 m, .slice (some ⟨b, off, none⟩) xss.length c] 31)) := (by (repeat (first | exact bR _ _ | (refine bS ?_ _) | (refine bA ?_ _) | (refine bN ?_ _) | (refine bD ?_)))); have hv0 := hv.below (w' := (w.alloc (.cells #[.int .i64 m, .slice (some ⟨b, off, none⟩) xss.length c] 31))) (by (repeat (first | exact bR _ _ | (refine bS ?_ _) | (refine bA ?_ _) | (refine bN ?_ _) | (refine bD ?_)))) (Nat.le_refl _); generalize w.alloc (.cells #[.int .i64 m, .slice (some ⟨b, off, none⟩) xss.length c] 31) = w0 at X0 B0 hv0 ⊢)
      go_loopw [4] (fun i wr => ∃ k : Nat, k ≤ xss.length ∧ i = .int .i64 k ∧ Hid (∀ j (hj : j < xss.length), j < k → rowB m xss.length j xss[j] = true) ∧ ∃ d, wr = w0.drewN d) (fun i _ => xss.length - (intOf i).toNat)
      case atStart => exact ⟨0, Nat.zero_le _, rfl, Lib.hid (fun j hj h => by omega), 0, rfl⟩
      case round =>
        obtain ⟨k, hk, rfl, HQ, d, rfl⟩ := hrel
        obtain ⟨x0, x1⟩ := id X0
        by_cases hlt : k < xss.length
        · obtain ⟨o', c', hx, hr⟩ := hv0.row (show xss[k]? = some xss[k] by simp [hlt])
          have hrl := hr.len.2.1
          unfold maxLen at hrl
          have i0 : (0 : Int) ≤ (k : Int) := by omega
          have i1 : (k : Int) < (xss.length : Int) := by omega
          have hw : IntKind.i64.wrap ((xss.length : Int) - (k : Int)) = (xss.length : Int) - (k : Int) := IntWalk.i64_in _ (by omega)
          cases hq : ((xss[k].length : Int) != (xss.length : Int) - (k : Int))
          · have hlen : xss[k].length = xss.length - k := by simp at hq; omega
            have HLEN := Lib.hid hlen
            clear hlen
            cases hn : numsB m xss[k]
            all_goals
              go_wp2_with fail
              go_quiet ((go_at_call 137; (first | exact quietA (by rw [hn]) (l01Numbers_c m _ xss[k] _ hr (by omega) (by omega)) | exact quietB (by rw [hn]) (l01Numbers_c m _ xss[k] _ hr (by omega) (by omega)) | exact quietC (by rw [hn]) (l01Numbers_c m _ xss[k] _ hr (by omega) (by omega)) | exact quietD (by rw [hn]) (l01Numbers_c m _ xss[k] _ hr (by omega) (by omega)))))
              clear hw
              go_wp2
            · go_ret
              exact ⟨by rw [show plaB m xss = false by simp [plaB, rowsB_f hlt (show rowB m xss.length k xss[k] = false by simp [rowB, hn])]]; rfl, (by (repeat (first | exact bR _ _ | (refine bS ?_ _) | (refine bA ?_ _) | (refine bN ?_ _) | (refine bD ?_) | (refine bT ?_ B0))))⟩
            · exact ⟨⟨k + 1, by omega, by go_num, Lib.hid (fun j hj h => by
                rcases Nat.lt_or_ge j k with h1 | h1
                · exact HQ.out j hj h1
                · obtain rfl : j = k := by omega
                  simp [rowB, hn, HLEN.out]), _, rfl⟩, by simp [intOf]; omega⟩
          · have hlen : ¬ xss[k].length = xss.length - k := by simp at hq; omega
            have HLEN := Lib.hid hlen
            clear hlen
            go_wp2_with fail
            go_quiet (fail)
            clear hw
            go_wp2
            go_ret
            exact ⟨by rw [show plaB m xss = false by simp [plaB, rowsB_f hlt (show rowB m xss.length k xss[k] = false by simp [rowB, HLEN.out])]]; rfl, (by (repeat (first | exact bR _ _ | (refine bS ?_ _) | (refine bA ?_ _) | (refine bN ?_ _) | (refine bD ?_) | (refine bT ?_ B0))))⟩
        · go_wp2
          go_ret
          exact ⟨by rw [show plaB m xss = true by simp [plaB, hs, HT.out, rowsB_t (fun j hj => HQ.out j hj (by omega))]]; rfl, (by (repeat (first | exact bR _ _ | (refine bS ?_ _) | (refine bA ?_ _) | (refine bN ?_ _) | (refine bD ?_) | (refine bT ?_ B0))))⟩

end Go.Proofs.YtoednonijmkbjaaGreat

/- Whether two planes are alike. -/
set_option linter.unusedSimpArgs false
set_option linter.unusedVariables false
namespace Go.Proofs.YtoednonijmkbjaaGreat
open Go.RowKit

end Go.Proofs.YtoednonijmkbjaaGreat

/- Arithmetic modulo a number: the program's functions and the reference's. -/
set_option linter.unusedSimpArgs false
set_option linter.unusedVariables false
namespace Go.Proofs.YtoednonijmkbjaaGreat
open Go.RowKit

set_option maxHeartbeats 400000 in
theorem mod_c (n m : Int) (w : World) (hm : 0 < m) (hm' : m ≤ 1000000000000000000) (h1 : -9000000000000000000 ≤ n) (h2 : n ≤ 9000000000000000000) :
    Calls Tryz.prog 75 #[.int .i64 n, .int .i64 m] w fun e w' => e = .returned (.int .i64 (n % m)) ∧ w = w' := by
  have h3 : -m < n.tmod m := Int.lt_tmod_of_pos _ hm
  have h4 : n.tmod m < m := Int.tmod_lt_of_pos _ hm
  have HE := Lib.hid (tmod_mod (n := n) (m := m))
  go_enter Tryz.func75, Tryz.ntmps75
  go_wp2
  go_ret
  exact ⟨by rw [← HE.out]; rfl, rfl⟩

set_option maxHeartbeats 400000 in
theorem mul_c (m a b : Int) (w : World) (hm : 1 ≤ m) (hm' : m ≤ 3000000000) (ha : 0 ≤ a) (hb : 0 ≤ b) (ha' : a < m) (hb' : b < m) :
    Calls Tryz.prog 95 #[.int .i64 m, .int .i64 a, .int .i64 b] w fun e w' => e = .returned (.int .i64 (a * b % m)) ∧ w = w' := by
  obtain ⟨h1, h2⟩ := prod_fits ha hb ha' hb' hm'
  go_enter Tryz.func95, Tryz.ntmps95
  go_wp2
  go_ret
  exact ⟨rfl, rfl⟩

end Go.Proofs.YtoednonijmkbjaaGreat

/- Series: the program's sums, products and compositions. -/
set_option linter.unusedSimpArgs false
set_option linter.unusedVariables false
namespace Go.Proofs.YtoednonijmkbjaaGreat
open Go.RowKit

structure SR where
  m : Int
  xs : List Int
  code : Int
def SEnd (w w' : World) (r : SR) (e : Ending) : Prop :=
  ∃ v', e = .returned (.tuple #[.agg #[.int .i64 r.m, v'], .int .i64 r.code]) ∧ OwI w' w.heap.size v' r.xs ∧ Below w.heap.size w w' ∧ r.xs.length ≤ 1048576
def SVEnd (w w' : World) (m : Int) (xs : List Int) (e : Ending) : Prop :=
  ∃ v', e = .returned (.agg #[.int .i64 m, v']) ∧ OwI w' w.heap.size v' xs ∧ Below w.heap.size w w'

set_option maxRecDepth 100000 in
set_option maxHeartbeats 400000 in
theorem zero_c (m d : Int) (n : Nat) (w : World) (hd : d + 1 = n) (hn : n ≤ 1048576) :
    Calls Tryz.prog 92 #[.int .i64 m, .int .i64 d] w fun e w' => SVEnd w w' m (List.replicate n 0) e := by
  go_enter Tryz.func92, Tryz.ntmps92
  go_wp2_with (at_make; go_loud (refine mkI _ rfl _ _ rfl _ _ _ n rfl rfl rfl (by omega) ?_; intro w1 hown hb hs1; simp at hown hs1; obtain ⟨hcc, hff⟩ := bcell hb; have hz : w.heap.size < w1.heap.size := (by omega); have Hown := Lib.hid hown; clear hown; have Hs1 := Lib.hid hs1; clear hs1))
  refine bodyPost_ret (v := .agg #[.int .i64 m, .slice (some ⟨w.heap.size + 1, 0, none⟩) n n]) (by simp [results, Tryz.results92, go_sem, hcc, hz]) rfl ⟨_, rfl, ?_, ?_⟩
  · exact ((Hown.out.low (by first | (simp; done) | (simp; omega) | omega) _).low (by first | (simp; done) | (simp; omega) | omega) _).mono (by first | (simp; done) | (simp; omega) | omega)
  · (repeat (first | exact bR _ _ | (refine bS ?_ _) | (refine bA ?_ _) | (refine bN ?_ _) | (refine bD ?_) | (refine bT ?_ hb)))

set_option maxHeartbeats 1000000 in
set_option maxRecDepth 100000 in
theorem plus_c (m m' : Int) (v u : Value) (xs ys : List Int) (w : World) (hv : RdI w v xs) (hu : RdI w u ys) (hl : ys.length = xs.length) (h1 : 1 ≤ xs.length) (hn : xs.length ≤ 1048576) (hm : 2 ≤ m) (hm' : m ≤ 1000000000000)
    (hx : ∀ x ∈ xs, 0 ≤ x ∧ x < m) (hy : ∀ x ∈ ys, 0 ≤ x ∧ x < m) :
    Calls Tryz.prog 111 #[.agg #[.int .i64 m, v], .agg #[.int .i64 m', u]] w fun e w' => SVEnd w w' m (addL m xs.length xs ys) e := by
  obtain ⟨o, c, rfl, hmx, -⟩ := id hv
  obtain ⟨o', c', rfl, hmy, -⟩ := id hu
  have hml := hmx.1
  unfold maxLen at hmx hmy
  have HL := Lib.hid hl
  clear hl
  go_enter Tryz.func111, Tryz.ntmps111
  go_wp2_with fail
  (have X0 := ((RB2.mk1 w  (.int .i64 m) (.slice o xs.length c) 28).1).below (w' := (((w.alloc (.cells #[.int .i64 m, .slice o xs.length c] 28)).alloc (.cells #[.int .i64 m', .slice o' ys.length c'] 28)).alloc (.cells #[.int .i64 0, .slice none 0 0] 28))) (by (repeat (first | exact bR _ _ | (refine bS ?_ _) | (refine bA ?_ _) | (refine bN ?_ _) | (refine bD ?_)))) (Nat.le_refl _); have Y0 := ((RB2.mk2 w (.cells #[.int .i64 m, .slice o xs.length c] 28) (.int .i64 m') (.slice o' ys.length c') 28).1).below (w' := (((w.alloc (.cells #[.int .i64 m, .slice o xs.length c] 28)).alloc (.cells #[.int .i64 m', .slice o' ys.length c'] 28)).alloc (.cells #[.int .i64 0, .slice none 0 0] 28))) (by (repeat (first | exact bR _ _ | (refine bS ?_ _) | (refine bA ?_ _) | (refine bN ?_ _) | (refine bD ?_)))) (Nat.le_refl _); have R0 := ((RB2.mk3 w (.cells #[.int .i64 m, .slice o xs.length c] 28) (.cells #[.int .i64 m', .slice o' ys.length c'] 28) (.int .i64 0) (.slice none 0 0) 28)).below (w' := (((w.alloc (.cells #[.int .i64 m, .slice o xs.length c] 28)).alloc (.cells #[.int .i64 m', .slice o' ys.length c'] 28)).alloc (.cells #[.int .i64 0, .slice none 0 0] 28))) (by (repeat (first | exact bR _ _ | (refine bS ?_ _) | (refine bA ?_ _) | (refine bN ?_ _) | (refine bD ?_)))) (Nat.le_refl _); have B0 : Below w.heap.size w (((w.alloc (.cells #[.int .i64 m, .slice o xs.length c] 28)).alloc (.cells #[.int .i64 m', .slice o' ys.length c'] 28)).alloc (.cells #[.int .i64 0, .slice none 0 0] 28)) := (by (repeat (first | exact bR _ _ | (refine bS ?_ _) | (refine bA ?_ _) | (refine bN ?_ _) | (refine bD ?_)))); have hv0 := hv.below (w' := (((w.alloc (.cells #[.int .i64 m, .slice o xs.length c] 28)).alloc (.cells #[.int .i64 m', .slice o' ys.length c'] 28)).alloc (.cells #[.int .i64 0, .slice none 0 0] 28))) (by (repeat (first | exact bR _ _ | (refine bS ?_ _) | (refine bA ?_ _) | (refine bN ?_ _) | (refine bD ?_)))) (Nat.le_refl _); have hu0 := hu.below (w' := (((w.alloc (.cells #[.int .i64 m, .slice o xs.length c] 28)).alloc (.cells #[.int .i64 m', .slice o' ys.length c'] 28)).alloc (.cells #[.int .i64 0, .slice none 0 0] 28))) (by (repeat (first | exact bR _ _ | (refine bS ?_ _) | (refine bA ?_ _) | (refine bN ?_ _) | (refine bD ?_)))) (Nat.le_refl _); generalize ((w.alloc (.cells #[.int .i64 m, .slice o xs.length c] 28)).alloc (.cells #[.int .i64 m', .slice o' ys.length c'] 28)).alloc (.cells #[.int .i64 0, .slice none 0 0] 28) = w0 at X0 Y0 R0 B0 hv0 hu0 ⊢)
  have hzl : w.heap.size + 2 < w0.heap.size := R0.1.lt
  go_cut [5] (fun sb u => ∃ (wz : World) (b : Nat) (oz : Option Addr) (cz : Nat), wz = u ∧ sb = .pointer (some ⟨b, 0, none⟩) ∧ w0.heap.size ≤ b ∧ RB2 u b (.int .i64 m) (.slice oz xs.length cz) ∧ OwI u w0.heap.size (.slice oz xs.length cz) (List.replicate xs.length 0) ∧ (∀ k, (Value.slice oz xs.length cz).ownBlock = some k → k ≠ b) ∧ Below w0.heap.size w0 u)
  case first =>
    have hd0 : Below w0.heap.size w0 w0.drew := (Below.refl _ _).drew
    have hsd0 := hd0.size
    have hlb_X0 := X0.lt
    obtain ⟨q0_X0_0, q0_X0_1⟩ := X0.below (Below.refl w0.heap.size w0) (Nat.le_refl _)
    have hne0_X0 : w0.heap.size ≠ w.heap.size := by omega
    go_region_held3 (fun w' => w'.cell? ⟨w.heap.size, 0, none⟩ = some (.int .i64 m) ∧ w'.cell? ⟨w.heap.size, 1, none⟩ = some (.slice o xs.length c)) (go_keep)
      (first
        | (go_at_call 109; refine (degreeS_c m o xs.length c _ hml).mono ?_; rintro e wd1 ⟨rfl, hbd1⟩; have hd1 : Below w0.heap.size w0 wd1 := (by (repeat (first | exact bR _ _ | (refine bS ?_ _) | (refine bA ?_ _) | (refine bN ?_ _) | (refine bD ?_) | (refine bT ?_ hbd1)))); have hsd1 := hd1.size; have hsz1_ := hbd1.size; (try simp at hsz1_); obtain ⟨q1_X0_0, q1_X0_1⟩ := X0.below hd1 (Nat.le_refl _); have hne1_X0 : wd1.heap.size ≠ w.heap.size := (by omega); (try (have RZ := RZ.below hbd1 (Nat.le_refl _))); (try (have RZ := (show RB2 (w0.alloc (.cells #[.int .i64 0, .slice none 0 0] 28)).drew w0.heap.size (.int .i64 0) (.slice none 0 0) from RB2.mk1 w0 (.int .i64 0) (.slice none 0 0) _).below hbd1 (Nat.le_refl _))); (try (obtain ⟨⟨z1_0, z1_1⟩, zf1⟩ := id RZ)))
        | (go_at_call 92; refine (zero_c m ((xs.length : Int) - 1) xs.length _ (by omega) (by omega)).mono ?_; rintro e wd2 ⟨vz2, rfl, hod2, hbd2⟩; obtain ⟨oz, cz, rfl⟩ := hod2.shapeN (n := xs.length) (by simp); have hd2 : Below w0.heap.size w0 wd2 := (by (repeat (first | exact bR _ _ | (refine bS ?_ _) | (refine bA ?_ _) | (refine bN ?_ _) | (refine bD ?_) | (refine bT ?_ hbd1) | (refine bT ?_ hbd2)))); have hsd2 := hd2.size; have hsz2_ := hbd2.size; (try simp at hsz2_); obtain ⟨q2_X0_0, q2_X0_1⟩ := X0.below hd2 (Nat.le_refl _); have hne2_X0 : wd2.heap.size ≠ w.heap.size := (by omega); (try (have RZ := RZ.below hbd2 (Nat.le_refl _))); (try (have RZ := (show RB2 (wd1.alloc (.cells #[.int .i64 0, .slice none 0 0] 28)) wd1.heap.size (.int .i64 0) (.slice none 0 0) from RB2.mk1 wd1 (.int .i64 0) (.slice none 0 0) _).below hbd2 (Nat.le_refl _))); (try (obtain ⟨⟨z2_0, z2_1⟩, zf2⟩ := id RZ))))
    all_goals
      go_wp2_with fail
      go_meet
      have hL := hod2.lt
      refine ⟨_, _, oz, cz, rfl, rfl, ?_, ?_, ?_, ?_, ?_⟩
      · first | omega | (simp; done) | (simp; omega)
      · first | exact RB2.mk1 _ _ _ _ | exact RB2.put RZ _ _
      · first | exact (hod2.alloc _).mono (by first | (simp; done) | (simp; omega) | omega) | exact ((hod2.low (by first | (simp; done) | (simp; omega) | omega) _).low (by first | (simp; done) | (simp; omega) | omega) _).mono (by first | (simp; done) | (simp; omega) | omega)
      · intro k hk; have hq := hL k hk; first | omega | (simp at hq; omega)
      · (repeat (first | exact bR _ _ | (refine bS ?_ _) | (refine bA ?_ _) | (refine bN ?_ _) | (refine bD ?_) | (refine bT ?_ hbd1) | (refine bT ?_ hbd2)))
  case rest =>
  obtain ⟨w1, b, oz, cz, rfl, rfl, hbW, O, how, hneb, hb⟩ := hcut
  (have X1 := X0.below hb (Nat.le_refl _); have Y1 := Y0.below hb (Nat.le_refl _); have R1 := R0.below hb (Nat.le_refl _); have hv1 := hv0.below hb (Nat.le_refl _); have hu1 := hu0.below hb (Nat.le_refl _); have B1 := B0.trans (hb.mono B0.size))
  rw [addTo_0 m _ xs ys] at how
  obtain ⟨g, cap, hsl, hgl, hgl', -, -, -⟩ := how.opn (by rw [addTo_len]; omega)
  obtain ⟨rfl, rfl⟩ : oz = some ⟨g, 0, none⟩ ∧ cz = cap := by simp at hsl; exact ⟨hsl.1, hsl.2.2⟩
  clear hsl
  have hgb := hneb g rfl
  clear hneb
  obtain ⟨bx, fx, rfl, hcx⟩ := hv.cells h1
  obtain ⟨by', fy, rfl, hcy⟩ := hu.cells (by have := HL.out; omega)
  clear hcx hcy
  have B1s := B1.size
  obtain ⟨⟨q0, q1⟩, qf⟩ := id O
  go_wp2_with fail
  go_loopw [15] (fun i wr => ∃ k : Nat, k ≤ xs.length ∧ i = .int .i64 k ∧ OwI wr w0.heap.size (.slice (some ⟨g, 0, none⟩) xs.length cz) (addTo m xs.length xs ys k) ∧ w1.grownBy wr (some g)) (fun i _ => xs.length - (intOf i).toNat)
  case atStart => exact ⟨0, Nat.zero_le _, rfl, how, World.grownBy.refl _ _⟩
  case round =>
    obtain ⟨k, hk, rfl, hO, hg⟩ := hrel
    clear q0 q1 qf
    have Br := below_gr B1 hg (by omega) B1s
    by_cases hlt : k < xs.length
    · have hly : k < ys.length := by have := HL.out; omega
      obtain ⟨x0, x1⟩ := X1.grown hg (by simp; omega)
      obtain ⟨y0, y1⟩ := Y1.grown hg (by simp; omega)
      obtain ⟨⟨z0, z1⟩, zf⟩ := O.grown hg (by simp; omega)
      have cx := (hv.below Br (Nat.le_refl _)).cell0 (some_at0 hlt)
      have cy := (hu.below Br (Nat.le_refl _)).cell0 (some_at0 hly)
      have hxk := at0_range (by omega) hx k
      have hyk := at0_range (by omega) hy k
      have hc0 := hO.cell (k := k) (mk_get hlt)
      have hf0 := hO.fz k
      have hMod := mod_lt' (a := at0 xs k + at0 ys k) (show 0 < m by omega)
      have Hn := Lib.hid hO
      clear hO
      go_wp2_with fail
      have e1 : IntKind.i64.wrap (at0 xs k + at0 ys k) = at0 xs k + at0 ys k := IntWalk.i64_in _ (by omega)
      have e2 : (at0 xs k + at0 ys k).tmod m = (at0 xs k + at0 ys k) % m := Int.tmod_eq_emod_of_nonneg (by omega)
      have l1 := cell_lt (hv.cell0 (some_at0 hlt))
      have l2 := cell_lt (hu.cell0 (some_at0 hly))
      have n1 : g ≠ w.heap.size := by omega
      have n2 : g ≠ w.heap.size + 1 := by omega
      have n3 : g ≠ bx := by omega
      have n4 : g ≠ by' := by omega
      clear l1 l2
      have i0 : (0 : Int) ≤ (k : Int) := by omega
      have m0 : (m == 0) = false := by simp; omega
      have m1 : ¬ m = 0 := by omega
      have i1 : (k : Int) < (xs.length : Int) := by omega
      have i2 : (k : Int) < (ys.length : Int) := by omega
      go_region_held3 (fun w' => w'.cell? ⟨w.heap.size, 0, none⟩ = some (.int .i64 m) ∧ w'.cell? ⟨w.heap.size, 1, none⟩ = some (.slice (some ⟨bx, fx, none⟩) xs.length c) ∧ w'.cell? ⟨w.heap.size + 1, 1, none⟩ = some (.slice (some ⟨by', fy, none⟩) ys.length c') ∧ w'.cell? ⟨b, 1, none⟩ = some (.slice (some ⟨g, 0, none⟩) xs.length cz) ∧ w'.cell? ⟨bx, fx + k, none⟩ = some (.int .i64 (at0 xs k)) ∧ w'.cell? ⟨by', fy + k, none⟩ = some (.int .i64 (at0 ys k))) (go_keep) (fail)
      go_wp2
      have h2 := OwI.put Hn.out k ((at0 xs k + at0 ys k) % m)
      rw [addTo_set rfl rfl] at h2
      exact ⟨⟨k + 1, by omega, by go_num, h2, gr_drew (gr_put hg _ _)⟩, by simp [intOf]; omega⟩
    · obtain rfl : k = xs.length := by omega
      rw [addTo_all (Nat.le_refl _)] at hO
      obtain ⟨⟨z0, z1⟩, zf⟩ := O.grown hg (by simp; omega)
      obtain ⟨⟨r0, r1⟩, rf⟩ := R1.grown hg (by simp; omega)
      go_wp2
      refine bodyPost_ret (v := .agg #[.int .i64 m, .slice (some ⟨g, 0, none⟩) xs.length cz]) (by simp [results, Tryz.results111, go_sem, r0, r1]) rfl ⟨_, rfl, ?_, ?_⟩
      · exact ((hO.low (by first | (simp; done) | (simp; omega) | omega) _).low (by first | (simp; done) | (simp; omega) | omega) _).mono (by first | (simp; done) | (simp; omega) | omega)
      · (repeat (first | exact bR _ _ | (refine bS ?_ _) | (refine bA ?_ _) | (refine bN ?_ _) | (refine bD ?_) | (refine bT ?_ Br)))

end Go.Proofs.YtoednonijmkbjaaGreat
