/- Lemmas. -/
import Derived.Test.YtfpphfjlpgefaaaQAG2
import Derived.Test.YtfpphfjlpgefaaaQAG1
import Derived.Deep.RegionHeld3
import Derived.Deep.DeepCutAuto
import Derived.StillTailTactics
/- Whether something is a series, a curve; whether two are alike: the program's answers and the reference's. -/
set_option linter.unusedSimpArgs false
set_option linter.unusedVariables false
namespace Go.Proofs.Ytfpphfjlpgefaaa
open Go.RowKit

def numsB (m : Int) (xs : List Int) : Bool := xs.all (fun x => inB x 0 (m - 1))
theorem nums_x {m : Int} {xs : List Int} (h : numsB m xs = true) : ∀ x ∈ xs, 0 ≤ x ∧ x < m := by
  intro x hx
  have := inB_t (List.all_eq_true.1 h x hx)
  omega
set_option maxHeartbeats 400000 in
theorem degreeS_c (m : Int) (o : Option Addr) (n c : Nat) (w : World) (hn : n ≤ maxLen) :
    Calls Try.prog 60 #[.agg #[.int .i64 m, .slice o n c]] w fun e w' => e = .returned (.int .i64 ((n : Int) - 1)) ∧ Below w.heap.size w w' := by
  unfold maxLen at hn
  go_enter Try.func60, Try.ntmps60
  go_wp2
  go_ret
  exact ⟨rfl, (by (repeat (first | exact bR _ _ | (refine bS ?_ _) | (refine bA ?_ _) | (refine bN ?_ _) | (refine bD ?_))))⟩

set_option maxHeartbeats 400000 in
theorem l01Numbers_c (m : Int) (v : Value) (xs : List Int) (w : World) (hv : RdI w v xs) (hm : -9223372036854775808 < m) (hm' : m ≤ 9223372036854775807) :
    Calls Try.prog 70 #[.int .i64 m, v] w fun e w' => e = .returned (.bool (numsB m xs)) ∧ w = w' := by
  obtain ⟨o, c, rfl, hmx, hc⟩ := hv
  unfold maxLen at hmx
  go_enter Try.func70, Try.ntmps70
  go_wp2_with fail
  go_loop [5] (fun i => ∃ k : Nat, k ≤ xs.length ∧ i = .int .i64 k ∧ Hid (∀ j (hj : j < xs.length), j < k → inB xs[j] 0 (m - 1) = true)) (fun i => xs.length - (intOf i).toNat)
  case atStart => exact ⟨0, Nat.zero_le _, rfl, Lib.hid (fun j hj h => by omega)⟩
  case round =>
    obtain ⟨k, hk, rfl, HQ⟩ := hrel
    by_cases hlt : k < xs.length
    · obtain ⟨b, off, rfl, hx⟩ := hc k (xs[k]) (by simp [hlt])
      cases hq : inB xs[k] 0 (m - 1)
      · go_wp2_with (go_at_call 86; refine (l01In_c _ _ _ _).mono ?_; rw [hq]; rintro e w' ⟨rfl, rfl⟩)
        go_ret
        exact ⟨by unfold numsB; rw [List.all_eq_false.2 ⟨xs[k], by simp, by simp [hq]⟩]; rfl, rfl⟩
      · go_wp2_with (go_at_call 86; refine (l01In_c _ _ _ _).mono ?_; rw [hq]; rintro e w' ⟨rfl, rfl⟩)
        exact ⟨⟨k + 1, by omega, by go_num, Lib.hid (fun j hj h => by
          rcases Nat.lt_or_ge j k with h1 | h1
          · exact HQ.out j hj h1
          · obtain rfl : j = k := by omega
            exact hq)⟩, by simp [intOf]; omega⟩
    · go_wp2
      go_ret
      exact ⟨by unfold numsB; rw [List.all_eq_true.2 (fun x hx => by obtain ⟨j, hj, rfl⟩ := List.getElem_of_mem hx; exact HQ.out j hj (by omega))]; rfl, rfl⟩

set_option maxHeartbeats 400000 in
theorem l01Modulus_c (m : Int) (w : World) :
    Calls Try.prog 69 #[.int .i64 m] w fun e w' => e = .returned (.bool (modB m)) ∧ w = w' := by
  go_enter Try.func69, Try.ntmps69
  go_wp2_with (go_at_call 86; refine (l01In_c _ _ _ _).mono ?_; rintro e w' ⟨rfl, rfl⟩)
  go_ret
  exact ⟨rfl, rfl⟩

end Go.Proofs.Ytfpphfjlpgefaaa

/- Whether something is a plane; whether two are alike: the program's answers and the reference's. -/
set_option linter.unusedSimpArgs false
set_option linter.unusedVariables false
namespace Go.Proofs.Ytfpphfjlpgefaaa
open Go.RowKit

def rowB (m : Int) (n j : Nat) (row : List Int) : Bool := decide (row.length = n - j) && numsB m row
def rowsB (m : Int) (xss : List (List Int)) : Bool := (List.range xss.length).all (fun j => rowB m xss.length j (xss.getD j []))
def plaB (m : Int) (xss : List (List Int)) : Bool := modB m && inB ((xss.length : Int) - 1) 1 10 && rowsB m xss
theorem getD_at {xss : List (List Int)} {j : Nat} (h : j < xss.length) : xss.getD j [] = xss[j] := by simp [List.getD, h]
theorem rowsB_t {m : Int} {xss : List (List Int)} (h : ∀ j (hj : j < xss.length), rowB m xss.length j xss[j] = true) : rowsB m xss = true := by
  unfold rowsB
  rw [List.all_eq_true]
  intro j hj
  have hj' := List.mem_range.1 hj
  rw [getD_at hj']; exact h j hj'
theorem rowsB_f {m : Int} {xss : List (List Int)} {j : Nat} (hj : j < xss.length) (h : rowB m xss.length j xss[j] = false) : rowsB m xss = false := by
  unfold rowsB
  rw [List.all_eq_false]
  exact ⟨j, List.mem_range.2 hj, by rw [getD_at hj, h]; simp⟩
theorem pla_m {m : Int} {xss : List (List Int)} (h : plaB m xss = true) : 2 ≤ m ∧ m ≤ 10000 := by simp [plaB] at h; exact modB_t h.1.1
theorem pla_n {m : Int} {xss : List (List Int)} (h : plaB m xss = true) : 2 ≤ xss.length ∧ xss.length ≤ 11 := by simp [plaB] at h; have := inB_t h.1.2; omega
theorem pla_row {m : Int} {xss : List (List Int)} (h : plaB m xss = true) (j : Nat) (hj : j < xss.length) : xss[j].length = xss.length - j ∧ ∀ x ∈ xss[j], 0 ≤ x ∧ x < m := by
  simp only [plaB, Bool.and_eq_true, rowsB, List.all_eq_true] at h
  have := h.2 j (List.mem_range.2 hj)
  rw [getD_at hj] at this
  simp only [rowB, Bool.and_eq_true, decide_eq_true_eq] at this
  exact ⟨this.1, nums_x this.2⟩
def alikeP (m : Int) (xss : List (List Int)) (n : Int) (yss : List (List Int)) : Bool := (m == n) && ((xss.length : Int) == (yss.length : Int))
set_option maxHeartbeats 400000 in
theorem degreeP_c (m : Int) (o : Option Addr) (n c : Nat) (w : World) (hn : n ≤ maxLen) :
    Calls Try.prog 18 #[.agg #[.int .i64 m, .slice o n c]] w fun e w' => e = .returned (.int .i64 ((n : Int) - 1)) ∧ Below w.heap.size w w' := by
  unfold maxLen at hn
  go_enter Try.func18, Try.ntmps18
  go_wp2
  go_ret
  exact ⟨rfl, (by (repeat (first | exact bR _ _ | (refine bS ?_ _) | (refine bA ?_ _) | (refine bN ?_ _) | (refine bD ?_))))⟩

set_option maxHeartbeats 400000 in
theorem IsPlane1_c (m x : Int) (b : Nat) (w : World) (hm : -9223372036854775808 < m) (hm' : m ≤ 9223372036854775807)
    (h1 : w.cell? ⟨b, 0, none⟩ = some (.int .i64 m)) :
    Calls Try.prog 76 #[.int .i64 x, .pointer (some ⟨b, 0, none⟩)] w fun e w' => e = .returned (.bool (inB x 0 (m - 1))) ∧ w = w' := by
  go_enter Try.func76, Try.ntmps76
  go_wp2_with (go_at_call 77; refine (isNumber_c _ _ _ hm hm').mono ?_; rintro e w' ⟨rfl, rfl⟩)
  go_ret
  exact ⟨rfl, rfl⟩
theorem IsPlane1_callable : Callable 76 := fun args w => Try.call76 args w

set_option maxHeartbeats 1000000 in
theorem IsPlane_c (m : Int) (v : Value) (xss : List (List Int)) (w : World) (hv : RdT w v xss) :
    Calls Try.prog 57 #[.agg #[.int .i64 m, v]] w fun e w' => e = .returned (.bool (plaB m xss)) ∧ Below w.heap.size w w' := by
  obtain ⟨o, c, rfl, hm, -⟩ := id hv
  have hml := hm.1
  unfold maxLen at hm
  cases hs : modB m
  · go_enter Try.func57, Try.ntmps57
    go_wp2_with (go_at_call 73; refine (IsModulus_c _ _).mono ?_; rw [hs]; rintro e w' ⟨rfl, rfl⟩)
    go_ret
    exact ⟨by simp [plaB, hs], (by (repeat (first | exact bR _ _ | (refine bS ?_ _) | (refine bA ?_ _) | (refine bN ?_ _) | (refine bD ?_))))⟩
  · have hm1 := modB_t hs
    cases ht : inB ((xss.length : Int) - 1) 1 10
    all_goals
      go_enter Try.func57, Try.ntmps57
      go_wp2_with (go_at_call 73; refine (IsModulus_c _ _).mono ?_; rw [hs]; rintro e w' ⟨rfl, rfl⟩)
      (have X0 := ((RB2.mk1 w  (.int .i64 m) (.slice o xss.length c) 29).1).below (w' := (w.alloc (.cells #[.int .i64 m, .slice o xss.length c] 29))) (by (repeat (first | exact bR _ _ | (refine bS ?_ _) | (refine bA ?_ _) | (refine bN ?_ _) | (refine bD ?_)))) (Nat.le_refl _); have B0 : Below w.heap.size w (w.alloc (.cells #[.int .i64 m, .slice o xss.length c] 29)) := (by (repeat (first | exact bR _ _ | (refine bS ?_ _) | (refine bA ?_ _) | (refine bN ?_ _) | (refine bD ?_)))); have hv0 := hv.below (w' := (w.alloc (.cells #[.int .i64 m, .slice o xss.length c] 29))) (by (repeat (first | exact bR _ _ | (refine bS ?_ _) | (refine bA ?_ _) | (refine bN ?_ _) | (refine bD ?_)))) (Nat.le_refl _); generalize w.alloc (.cells #[.int .i64 m, .slice o xss.length c] 29) = w0 at X0 B0 hv0 ⊢)
      obtain ⟨x0, x1⟩ := id X0
      go_wp2_with fail
      refine (degreeP_c m o xss.length c _ hml).mono ?_
      rintro e w1 ⟨rfl, hb⟩
      (have X1 := X0.below hb (Nat.le_refl _); have hv1 := hv0.below hb (Nat.le_refl _); have B1 := B0.trans (hb.mono B0.size))
      clear x0 x1
      obtain ⟨x0, x1⟩ := id X1
      go_wp2_with (go_at_call 74; refine (in_c _ _ _ _).mono ?_; rw [ht]; rintro e w' ⟨rfl, rfl⟩)
    · go_ret
      exact ⟨by simp [plaB, ht], (by (repeat (first | exact bR _ _ | (refine bS ?_ _) | (refine bA ?_ _) | (refine bN ?_ _) | (refine bD ?_) | (refine bT ?_ B1))))⟩
    · clear x0 x1
      have hB1s := B1.size
      go_loopw [18] (fun i wr => ∃ k : Nat, k ≤ xss.length ∧ i = .int .i64 k ∧ Hid (∀ j (hj : j < xss.length), j < k → rowB m xss.length j xss[j] = true) ∧ Below w1.heap.size w1 wr) (fun i _ => xss.length - (intOf i).toNat)
      case atStart => exact ⟨0, Nat.zero_le _, rfl, Lib.hid (fun j hj h => by omega), Below.refl _ _⟩
      case round =>
        obtain ⟨k, hk, rfl, HQ, hbr⟩ := hrel
        have hvr := hv1.below hbr (Nat.le_refl _)
        obtain ⟨x0, x1⟩ := X1.below hbr (Nat.le_refl _)
        have hbs := hbr.size
        by_cases hlt : k < xss.length
        · obtain ⟨b, off, rfl, -⟩ := hvr.rows (by omega)
          obtain ⟨o', c', hx, hr⟩ := hvr.row (show xss[k]? = some xss[k] by simp [hlt])
          have hrl := hr.len.2.1
          unfold maxLen at hrl
          cases hq : ((xss[k].length : Int) != (xss.length : Int) - (k : Int))
          · have hlen : xss[k].length = xss.length - k := by simp at hq; omega
            have HLEN := Lib.hid hlen
            clear hlen
            cases hn : numsB m xss[k]
            all_goals
              go_wp2_with fail
              refine (allI_c 76 _ (fun x => inB x 0 (m - 1)) _ xss[k] _ hr IsPlane1_callable (fun x hx w1 hb => IsPlane1_c m x _ _ (by omega) (by omega) (keep_cell hb (Nat.le_refl _) x0))).mono ?_
              rw [show xss[k].all (fun x => inB x 0 (m - 1)) = _ from hn]
              rintro e w2 ⟨rfl, hb2⟩
              have hb3 := hbr.trans (hb2.mono hbs)
              clear x0 x1
              obtain ⟨x0, x1⟩ := X1.below hb3 (Nat.le_refl _)
              go_wp2
            · go_ret
              exact ⟨by rw [show plaB m xss = false by simp [plaB, rowsB_f hlt (show rowB m xss.length k xss[k] = false by simp [rowB, hn])]]; rfl, B1.trans (hb3.mono hB1s)⟩
            · exact ⟨⟨k + 1, by omega, by go_num, Lib.hid (fun j hj h => by
                rcases Nat.lt_or_ge j k with h1 | h1
                · exact HQ.out j hj h1
                · obtain rfl : j = k := by omega
                  simp [rowB, hn, HLEN.out]), hb3⟩, by simp [intOf]; omega⟩
          · have hlen : ¬ xss[k].length = xss.length - k := by simp at hq; omega
            have HLEN := Lib.hid hlen
            clear hlen
            go_wp2
            go_ret
            exact ⟨by rw [show plaB m xss = false by simp [plaB, rowsB_f hlt (show rowB m xss.length k xss[k] = false by simp [rowB, HLEN.out])]]; rfl, B1.trans (hbr.mono hB1s)⟩
        · go_wp2
          go_ret
          exact ⟨by rw [show plaB m xss = true by simp [plaB, hs, ht, rowsB_t (fun j hj => HQ.out j hj (by omega))]]; rfl, B1.trans (hbr.mono hB1s)⟩

set_option maxHeartbeats 1000000 in
theorem l03Is_c (m : Int) (v : Value) (xss : List (List Int)) (w : World) (hv : RdT w v xss) :
    Calls Try.prog 51 #[.agg #[.int .i64 m, v]] w fun e w' => e = .returned (.bool (plaB m xss)) ∧ Below w.heap.size w w' := by
  obtain ⟨o, c, rfl, hm, -⟩ := id hv
  have hml := hm.1
  unfold maxLen at hm
  cases hs : modB m
  · go_enter Try.func51, Try.ntmps51
    go_wp2_with (go_at_call 69; refine (l01Modulus_c _ _).mono ?_; rw [hs]; rintro e w' ⟨rfl, rfl⟩)
    go_ret
    exact ⟨by simp [plaB, hs], (by (repeat (first | exact bR _ _ | (refine bS ?_ _) | (refine bA ?_ _) | (refine bN ?_ _) | (refine bD ?_))))⟩
  · have hm1 := modB_t hs
    cases ht : inB ((xss.length : Int) - 1) 1 10
    · have hno := inB_f ht
      have HT := Lib.hid ht
      clear ht
      by_cases h2 : (xss.length : Int) < 2
      · go_enter Try.func51, Try.ntmps51
        go_wp2_with (go_at_call 69; refine (l01Modulus_c _ _).mono ?_; rw [hs]; rintro e w' ⟨rfl, rfl⟩)
        go_ret
        exact ⟨by simp [plaB, HT.out], (by (repeat (first | exact bR _ _ | (refine bS ?_ _) | (refine bA ?_ _) | (refine bN ?_ _) | (refine bD ?_))))⟩
      · have h3 : (11 : Int) < (xss.length : Int) := by omega
        clear hno
        go_enter Try.func51, Try.ntmps51
        go_wp2_with (go_at_call 69; refine (l01Modulus_c _ _).mono ?_; rw [hs]; rintro e w' ⟨rfl, rfl⟩)
        go_ret
        exact ⟨by simp [plaB, HT.out], (by (repeat (first | exact bR _ _ | (refine bS ?_ _) | (refine bA ?_ _) | (refine bN ?_ _) | (refine bD ?_))))⟩
    · have hyes := inB_t ht
      have HT := Lib.hid ht
      clear ht
      have h2 : ¬ (xss.length : Int) < 2 := by omega
      have h3 : ¬ (11 : Int) < (xss.length : Int) := by omega
      clear hyes
      obtain ⟨b, off, rfl, -⟩ := hv.rows (by omega)
      go_enter Try.func51, Try.ntmps51
      go_wp2_with (go_at_call 69; refine (l01Modulus_c _ _).mono ?_; rw [hs]; rintro e w' ⟨rfl, rfl⟩)
      (have X0 := ((RB2.mk1 w  (.int .i64 m) (.slice (some ⟨b, off, none⟩) xss.length c) 29).1).below (w' := (w.alloc (.cells #[.int .i64 m, .slice (some ⟨b, off, none⟩) xss.length c] 29))) (by (repeat (first | exact bR _ _ | (refine bS ?_ _) | (refine bA ?_ _) | (refine bN ?_ _) | (refine bD ?_)))) (Nat.le_refl _); have B0 : Below w.heap.size w (w.alloc (.cells #[.int .i64 m, .slice (some ⟨b, off, none⟩) xss.length c] 29)) := (by (repeat (first | exact bR _ _ | (refine bS ?_ _) | (refine bA ?_ _) | (refine bN ?_ _) | (refine bD ?_)))); have hv0 := hv.below (w' := (w.alloc (.cells #[.int .i64 m, .slice (some ⟨b, off, none⟩) xss.length c] 29))) (by (repeat (first | exact bR _ _ | (refine bS ?_ _) | (refine bA ?_ _) | (refine bN ?_ _) | (refine bD ?_)))) (Nat.le_refl _); generalize w.alloc (.cells #[.int .i64 m, .slice (some ⟨b, off, none⟩) xss.length c] 29) = w0 at X0 B0 hv0 ⊢)
      go_loopw [4] (fun i wr => ∃ k : Nat, k ≤ xss.length ∧ i = .int .i64 k ∧ Hid (∀ j (hj : j < xss.length), j < k → rowB m xss.length j xss[j] = true) ∧ ∃ d, wr = w0.drewN d) (fun i _ => xss.length - (intOf i).toNat)
      case atStart => exact ⟨0, Nat.zero_le _, rfl, Lib.hid (fun j hj h => by omega), 0, rfl⟩
      case round =>
        obtain ⟨k, hk, rfl, HQ, d, rfl⟩ := hrel
        obtain ⟨x0, x1⟩ := id X0
        by_cases hlt : k < xss.length
        · obtain ⟨o', c', hx, hr⟩ := hv0.row (show xss[k]? = some xss[k] by simp [hlt])
          have hrl := hr.len.2.1
          unfold maxLen at hrl
          have i0 : (0 : Int) ≤ (k : Int) := by omega
          have i1 : (k : Int) < (xss.length : Int) := by omega
          have hw : IntKind.i64.wrap ((xss.length : Int) - (k : Int)) = (xss.length : Int) - (k : Int) := IntWalk.i64_in _ (by omega)
          cases hq : ((xss[k].length : Int) != (xss.length : Int) - (k : Int))
          · have hlen : xss[k].length = xss.length - k := by simp at hq; omega
            have HLEN := Lib.hid hlen
            clear hlen
            cases hn : numsB m xss[k]
            all_goals
              go_wp2_with fail
              go_quiet ((go_at_call 70; (first | exact quietA (by rw [hn]) (l01Numbers_c m _ xss[k] _ hr (by omega) (by omega)) | exact quietB (by rw [hn]) (l01Numbers_c m _ xss[k] _ hr (by omega) (by omega)) | exact quietC (by rw [hn]) (l01Numbers_c m _ xss[k] _ hr (by omega) (by omega)) | exact quietD (by rw [hn]) (l01Numbers_c m _ xss[k] _ hr (by omega) (by omega)))))
              clear hw
              go_wp2
            · go_ret
              exact ⟨by rw [show plaB m xss = false by simp [plaB, rowsB_f hlt (show rowB m xss.length k xss[k] = false by simp [rowB, hn])]]; rfl, (by (repeat (first | exact bR _ _ | (refine bS ?_ _) | (refine bA ?_ _) | (refine bN ?_ _) | (refine bD ?_) | (refine bT ?_ B0))))⟩
            · exact ⟨⟨k + 1, by omega, by go_num, Lib.hid (fun j hj h => by
                rcases Nat.lt_or_ge j k with h1 | h1
                · exact HQ.out j hj h1
                · obtain rfl : j = k := by omega
                  simp [rowB, hn, HLEN.out]), _, rfl⟩, by simp [intOf]; omega⟩
          · have hlen : ¬ xss[k].length = xss.length - k := by simp at hq; omega
            have HLEN := Lib.hid hlen
            clear hlen
            go_wp2_with fail
            go_quiet (fail)
            clear hw
            go_wp2
            go_ret
            exact ⟨by rw [show plaB m xss = false by simp [plaB, rowsB_f hlt (show rowB m xss.length k xss[k] = false by simp [rowB, HLEN.out])]]; rfl, (by (repeat (first | exact bR _ _ | (refine bS ?_ _) | (refine bA ?_ _) | (refine bN ?_ _) | (refine bD ?_) | (refine bT ?_ B0))))⟩
        · go_wp2
          go_ret
          exact ⟨by rw [show plaB m xss = true by simp [plaB, hs, HT.out, rowsB_t (fun j hj => HQ.out j hj (by omega))]]; rfl, (by (repeat (first | exact bR _ _ | (refine bS ?_ _) | (refine bA ?_ _) | (refine bN ?_ _) | (refine bD ?_) | (refine bT ?_ B0))))⟩

end Go.Proofs.Ytfpphfjlpgefaaa

/- Whether two planes are alike. -/
set_option linter.unusedSimpArgs false
set_option linter.unusedVariables false
namespace Go.Proofs.Ytfpphfjlpgefaaa
open Go.RowKit

set_option maxHeartbeats 1000000 in
theorem alikeP_c (m n : Int) (v u : Value) (xs ys : List (List Int)) (w : World) (hv : RdT w v xs) (hu : RdT w u ys) :
    Calls Try.prog 46 #[.agg #[.int .i64 m, v], .agg #[.int .i64 n, u]] w fun e w' => e = .returned (.bool (alikeP m xs n ys)) ∧ Below w.heap.size w w' := by
  obtain ⟨o, c, rfl, hm, -⟩ := id hv
  obtain ⟨o', c', rfl, hm', -⟩ := id hu
  have hl1 := hm.1
  have hl2 := hm'.1
  unfold maxLen at hm hm'
  have e2 : ((xs.length : Int) - 1 == (ys.length : Int) - 1) = ((xs.length : Int) == (ys.length : Int)) := by
    rw [Bool.eq_iff_iff]; simp only [beq_iff_eq]; omega
  cases h1 : (m == n)
  · go_enter Try.func46, Try.ntmps46
    go_wp2_with fail
    (have X0 := ((RB2.mk1 w  (.int .i64 m) (.slice o xs.length c) 29).1).below (w' := ((w.alloc (.cells #[.int .i64 m, .slice o xs.length c] 29)).alloc (.cells #[.int .i64 n, .slice o' ys.length c'] 29))) (by (repeat (first | exact bR _ _ | (refine bS ?_ _) | (refine bA ?_ _) | (refine bN ?_ _) | (refine bD ?_)))) (Nat.le_refl _); have Y0 := ((RB2.mk2 w (.cells #[.int .i64 m, .slice o xs.length c] 29) (.int .i64 n) (.slice o' ys.length c') 29).1).below (w' := ((w.alloc (.cells #[.int .i64 m, .slice o xs.length c] 29)).alloc (.cells #[.int .i64 n, .slice o' ys.length c'] 29))) (by (repeat (first | exact bR _ _ | (refine bS ?_ _) | (refine bA ?_ _) | (refine bN ?_ _) | (refine bD ?_)))) (Nat.le_refl _); have B0 : Below w.heap.size w ((w.alloc (.cells #[.int .i64 m, .slice o xs.length c] 29)).alloc (.cells #[.int .i64 n, .slice o' ys.length c'] 29)) := (by (repeat (first | exact bR _ _ | (refine bS ?_ _) | (refine bA ?_ _) | (refine bN ?_ _) | (refine bD ?_)))); have hv0 := hv.below (w' := ((w.alloc (.cells #[.int .i64 m, .slice o xs.length c] 29)).alloc (.cells #[.int .i64 n, .slice o' ys.length c'] 29))) (by (repeat (first | exact bR _ _ | (refine bS ?_ _) | (refine bA ?_ _) | (refine bN ?_ _) | (refine bD ?_)))) (Nat.le_refl _); have hu0 := hu.below (w' := ((w.alloc (.cells #[.int .i64 m, .slice o xs.length c] 29)).alloc (.cells #[.int .i64 n, .slice o' ys.length c'] 29))) (by (repeat (first | exact bR _ _ | (refine bS ?_ _) | (refine bA ?_ _) | (refine bN ?_ _) | (refine bD ?_)))) (Nat.le_refl _); generalize (w.alloc (.cells #[.int .i64 m, .slice o xs.length c] 29)).alloc (.cells #[.int .i64 n, .slice o' ys.length c'] 29) = w0 at X0 Y0 B0 hv0 hu0 ⊢)
    obtain ⟨x0, x1⟩ := id X0
    obtain ⟨y0, y1⟩ := id Y0
    go_quiet (fail)
    go_wp2
    go_ret
    exact ⟨by simp only [alikeP, h1]; rfl, below_drewN B0 _⟩
  · have E1 := Lib.hid e2
    clear e2
    go_enter Try.func46, Try.ntmps46
    go_wp2_with fail
    (have X0 := ((RB2.mk1 w  (.int .i64 m) (.slice o xs.length c) 29).1).below (w' := ((w.alloc (.cells #[.int .i64 m, .slice o xs.length c] 29)).alloc (.cells #[.int .i64 n, .slice o' ys.length c'] 29))) (by (repeat (first | exact bR _ _ | (refine bS ?_ _) | (refine bA ?_ _) | (refine bN ?_ _) | (refine bD ?_)))) (Nat.le_refl _); have Y0 := ((RB2.mk2 w (.cells #[.int .i64 m, .slice o xs.length c] 29) (.int .i64 n) (.slice o' ys.length c') 29).1).below (w' := ((w.alloc (.cells #[.int .i64 m, .slice o xs.length c] 29)).alloc (.cells #[.int .i64 n, .slice o' ys.length c'] 29))) (by (repeat (first | exact bR _ _ | (refine bS ?_ _) | (refine bA ?_ _) | (refine bN ?_ _) | (refine bD ?_)))) (Nat.le_refl _); have B0 : Below w.heap.size w ((w.alloc (.cells #[.int .i64 m, .slice o xs.length c] 29)).alloc (.cells #[.int .i64 n, .slice o' ys.length c'] 29)) := (by (repeat (first | exact bR _ _ | (refine bS ?_ _) | (refine bA ?_ _) | (refine bN ?_ _) | (refine bD ?_)))); have hv0 := hv.below (w' := ((w.alloc (.cells #[.int .i64 m, .slice o xs.length c] 29)).alloc (.cells #[.int .i64 n, .slice o' ys.length c'] 29))) (by (repeat (first | exact bR _ _ | (refine bS ?_ _) | (refine bA ?_ _) | (refine bN ?_ _) | (refine bD ?_)))) (Nat.le_refl _); have hu0 := hu.below (w' := ((w.alloc (.cells #[.int .i64 m, .slice o xs.length c] 29)).alloc (.cells #[.int .i64 n, .slice o' ys.length c'] 29))) (by (repeat (first | exact bR _ _ | (refine bS ?_ _) | (refine bA ?_ _) | (refine bN ?_ _) | (refine bD ?_)))) (Nat.le_refl _); generalize (w.alloc (.cells #[.int .i64 m, .slice o xs.length c] 29)).alloc (.cells #[.int .i64 n, .slice o' ys.length c'] 29) = w0 at X0 Y0 B0 hv0 hu0 ⊢)
    obtain ⟨x0, x1⟩ := id X0
    obtain ⟨y0, y1⟩ := id Y0
    have hX := X0
    have hY := Y0
    go_region_held3 (fun w' => w'.cell? ⟨w.heap.size, 0, none⟩ = some (.int .i64 m) ∧ w'.cell? ⟨w.heap.size, 1, none⟩ = some (.slice o xs.length c) ∧ w'.cell? ⟨w.heap.size + 1, 0, none⟩ = some (.int .i64 n) ∧ w'.cell? ⟨w.heap.size + 1, 1, none⟩ = some (.slice o' ys.length c')) (go_keep)
      (first
        | (go_at_call_of 18 (Value.agg #[.int .i64 m, .slice o xs.length c]); refine (degreeP_c m o xs.length c _ hl1).mono ?_; rintro e w1 ⟨rfl, hb1⟩; have hX1 := (show Box2 w0.drew _ _ _ from hX).below hb1 (Nat.le_refl _); have hY1 := (show Box2 w0.drew _ _ _ from hY).below hb1 (Nat.le_refl _); obtain ⟨a1, a2⟩ := id hX1; obtain ⟨b1, b2⟩ := id hY1)
        | (go_at_call_of 18 (Value.agg #[.int .i64 n, .slice o' ys.length c']); refine (degreeP_c n o' ys.length c' _ hl2).mono ?_; rintro e w2 ⟨rfl, hb2⟩; obtain ⟨a3, a4⟩ := hX1.below hb2 (Nat.le_refl _); obtain ⟨b3, b4⟩ := hY1.below hb2 (Nat.le_refl _)))
    have s0 := B0.size
    have s1 := hb1.size
    have s2 := hb2.size
    simp at s1
    go_wp2
    go_ret
    exact ⟨by rw [E1.out]; simp only [alikeP, h1]; rfl, (by (repeat (first | exact bR _ _ | (refine bS ?_ _) | (refine bA ?_ _) | (refine bN ?_ _) | (refine bD ?_) | (refine bT ?_ hb2) | (refine bT ?_ hb1) | (refine bT ?_ B0))))⟩

end Go.Proofs.Ytfpphfjlpgefaaa

/- Arithmetic modulo a number: the program's functions and the reference's. -/
set_option linter.unusedSimpArgs false
set_option linter.unusedVariables false
namespace Go.Proofs.Ytfpphfjlpgefaaa
open Go.RowKit

set_option maxHeartbeats 400000 in
theorem mod_c (n m : Int) (w : World) (hm : 0 < m) (hm' : m ≤ 1000000000000000000) (h1 : -9000000000000000000 ≤ n) (h2 : n ≤ 9000000000000000000) :
    Calls Try.prog 80 #[.int .i64 n, .int .i64 m] w fun e w' => e = .returned (.int .i64 (n % m)) ∧ w = w' := by
  have h3 : -m < n.tmod m := Int.lt_tmod_of_pos _ hm
  have h4 : n.tmod m < m := Int.tmod_lt_of_pos _ hm
  have HE := Lib.hid (tmod_mod (n := n) (m := m))
  go_enter Try.func80, Try.ntmps80
  go_wp2
  go_ret
  exact ⟨by rw [← HE.out]; rfl, rfl⟩

set_option maxHeartbeats 400000 in
theorem mul_c (m a b : Int) (w : World) (hm : 1 ≤ m) (hm' : m ≤ 3000000000) (ha : 0 ≤ a) (hb : 0 ≤ b) (ha' : a < m) (hb' : b < m) :
    Calls Try.prog 81 #[.int .i64 m, .int .i64 a, .int .i64 b] w fun e w' => e = .returned (.int .i64 (a * b % m)) ∧ w = w' := by
  obtain ⟨h1, h2⟩ := prod_fits ha hb ha' hb' hm'
  go_enter Try.func81, Try.ntmps81
  go_wp2
  go_ret
  exact ⟨rfl, rfl⟩

end Go.Proofs.Ytfpphfjlpgefaaa

/- Series: the program's sums, products and compositions. -/
set_option linter.unusedSimpArgs false
set_option linter.unusedVariables false
namespace Go.Proofs.Ytfpphfjlpgefaaa
open Go.RowKit

structure SR where
  m : Int
  xs : List Int
  code : Int
def SVEnd (w w' : World) (m : Int) (xs : List Int) (e : Ending) : Prop :=
  ∃ v', e = .returned (.agg #[.int .i64 m, v']) ∧ OwI w' w.heap.size v' xs ∧ Below w.heap.size w w'

set_option maxRecDepth 100000 in
set_option maxHeartbeats 400000 in
theorem zero_c (m d : Int) (n : Nat) (w : World) (hd : d + 1 = n) (hn : n ≤ 1048576) :
    Calls Try.prog 36 #[.int .i64 m, .int .i64 d] w fun e w' => SVEnd w w' m (List.replicate n 0) e := by
  go_enter Try.func36, Try.ntmps36
  go_wp2_with (at_make; go_loud (refine mkI _ rfl _ _ rfl _ _ _ n rfl rfl rfl (by omega) ?_; intro w1 hown hb hs1; simp at hown hs1; obtain ⟨hcc, hff⟩ := bcell hb; have hz : w.heap.size < w1.heap.size := (by omega); have Hown := Lib.hid hown; clear hown; have Hs1 := Lib.hid hs1; clear hs1))
  refine bodyPost_ret (v := .agg #[.int .i64 m, .slice (some ⟨w.heap.size + 1, 0, none⟩) n n]) (by simp [results, Try.results36, go_sem, hcc, hz]) rfl ⟨_, rfl, ?_, ?_⟩
  · exact ((Hown.out.low (by first | (simp; done) | (simp; omega) | omega) _).low (by first | (simp; done) | (simp; omega) | omega) _).mono (by first | (simp; done) | (simp; omega) | omega)
  · (repeat (first | exact bR _ _ | (refine bS ?_ _) | (refine bA ?_ _) | (refine bN ?_ _) | (refine bD ?_) | (refine bT ?_ hb)))

end Go.Proofs.Ytfpphfjlpgefaaa

/- Series: the program's products. -/
set_option linter.unusedSimpArgs false
set_option linter.unusedVariables false
namespace Go.Proofs.Ytfpphfjlpgefaaa
open Go.RowKit

set_option maxHeartbeats 2000000 in
set_option maxRecDepth 100000 in
theorem times_c (m m' : Int) (v u : Value) (xs ys : List Int) (w : World) (hv : RdI w v xs) (hu : RdI w u ys) (hl : ys.length = xs.length) (h1 : 1 ≤ xs.length) (hn : xs.length ≤ 1048576) (hm : 2 ≤ m) (hm' : m ≤ 3000000000)
    (hx : ∀ x ∈ xs, 0 ≤ x ∧ x < m) (hy : ∀ x ∈ ys, 0 ≤ x ∧ x < m) :
    Calls Try.prog 85 #[.agg #[.int .i64 m, v], .agg #[.int .i64 m', u]] w fun e w' => SVEnd w w' m (timesL m xs.length xs ys) e := by
  obtain ⟨o, c, rfl, hmx, -⟩ := id hv
  obtain ⟨o', c', rfl, hmy, -⟩ := id hu
  have hml := hmx.1
  unfold maxLen at hmx hmy
  have HL := Lib.hid hl
  clear hl
  go_enter Try.func85, Try.ntmps85
  go_wp2_with fail
  (have X0 := ((RB2.mk1 w  (.int .i64 m) (.slice o xs.length c) 41).1).below (w' := (((w.alloc (.cells #[.int .i64 m, .slice o xs.length c] 41)).alloc (.cells #[.int .i64 m', .slice o' ys.length c'] 41)).alloc (.cells #[.int .i64 0, .slice none 0 0] 41))) (by (repeat (first | exact bR _ _ | (refine bS ?_ _) | (refine bA ?_ _) | (refine bN ?_ _) | (refine bD ?_)))) (Nat.le_refl _); have Y0 := ((RB2.mk2 w (.cells #[.int .i64 m, .slice o xs.length c] 41) (.int .i64 m') (.slice o' ys.length c') 41).1).below (w' := (((w.alloc (.cells #[.int .i64 m, .slice o xs.length c] 41)).alloc (.cells #[.int .i64 m', .slice o' ys.length c'] 41)).alloc (.cells #[.int .i64 0, .slice none 0 0] 41))) (by (repeat (first | exact bR _ _ | (refine bS ?_ _) | (refine bA ?_ _) | (refine bN ?_ _) | (refine bD ?_)))) (Nat.le_refl _); have R0 := ((RB2.mk3 w (.cells #[.int .i64 m, .slice o xs.length c] 41) (.cells #[.int .i64 m', .slice o' ys.length c'] 41) (.int .i64 0) (.slice none 0 0) 41)).below (w' := (((w.alloc (.cells #[.int .i64 m, .slice o xs.length c] 41)).alloc (.cells #[.int .i64 m', .slice o' ys.length c'] 41)).alloc (.cells #[.int .i64 0, .slice none 0 0] 41))) (by (repeat (first | exact bR _ _ | (refine bS ?_ _) | (refine bA ?_ _) | (refine bN ?_ _) | (refine bD ?_)))) (Nat.le_refl _); have B0 : Below w.heap.size w (((w.alloc (.cells #[.int .i64 m, .slice o xs.length c] 41)).alloc (.cells #[.int .i64 m', .slice o' ys.length c'] 41)).alloc (.cells #[.int .i64 0, .slice none 0 0] 41)) := (by (repeat (first | exact bR _ _ | (refine bS ?_ _) | (refine bA ?_ _) | (refine bN ?_ _) | (refine bD ?_)))); have hv0 := hv.below (w' := (((w.alloc (.cells #[.int .i64 m, .slice o xs.length c] 41)).alloc (.cells #[.int .i64 m', .slice o' ys.length c'] 41)).alloc (.cells #[.int .i64 0, .slice none 0 0] 41))) (by (repeat (first | exact bR _ _ | (refine bS ?_ _) | (refine bA ?_ _) | (refine bN ?_ _) | (refine bD ?_)))) (Nat.le_refl _); have hu0 := hu.below (w' := (((w.alloc (.cells #[.int .i64 m, .slice o xs.length c] 41)).alloc (.cells #[.int .i64 m', .slice o' ys.length c'] 41)).alloc (.cells #[.int .i64 0, .slice none 0 0] 41))) (by (repeat (first | exact bR _ _ | (refine bS ?_ _) | (refine bA ?_ _) | (refine bN ?_ _) | (refine bD ?_)))) (Nat.le_refl _); generalize ((w.alloc (.cells #[.int .i64 m, .slice o xs.length c] 41)).alloc (.cells #[.int .i64 m', .slice o' ys.length c'] 41)).alloc (.cells #[.int .i64 0, .slice none 0 0] 41) = w0 at X0 Y0 R0 B0 hv0 hu0 ⊢)
  have hzl : w.heap.size + 2 < w0.heap.size := R0.1.lt
  go_cut [5] (fun sb u => ∃ (wz : World) (b : Nat) (oz : Option Addr) (cz : Nat), wz = u ∧ sb = .pointer (some ⟨b, 0, none⟩) ∧ w0.heap.size ≤ b ∧ RB2 u b (.int .i64 m) (.slice oz xs.length cz) ∧ OwI u w0.heap.size (.slice oz xs.length cz) (List.replicate xs.length 0) ∧ (∀ k, (Value.slice oz xs.length cz).ownBlock = some k → k ≠ b) ∧ Below w0.heap.size w0 u)
  case first =>
    have hd0 : Below w0.heap.size w0 w0.drew := (Below.refl _ _).drew
    have hsd0 := hd0.size
    have hlb_X0 := X0.lt
    obtain ⟨q0_X0_0, q0_X0_1⟩ := X0.below (Below.refl w0.heap.size w0) (Nat.le_refl _)
    have hne0_X0 : w0.heap.size ≠ w.heap.size := by omega
    go_region_held3 (fun w' => w'.cell? ⟨w.heap.size, 0, none⟩ = some (.int .i64 m) ∧ w'.cell? ⟨w.heap.size, 1, none⟩ = some (.slice o xs.length c)) (go_keep)
      (first
        | (go_at_call 60; refine (degreeS_c m o xs.length c _ hml).mono ?_; rintro e wd1 ⟨rfl, hbd1⟩; have hd1 : Below w0.heap.size w0 wd1 := (by (repeat (first | exact bR _ _ | (refine bS ?_ _) | (refine bA ?_ _) | (refine bN ?_ _) | (refine bD ?_) | (refine bT ?_ hbd1)))); have hsd1 := hd1.size; have hsz1_ := hbd1.size; (try simp at hsz1_); obtain ⟨q1_X0_0, q1_X0_1⟩ := X0.below hd1 (Nat.le_refl _); have hne1_X0 : wd1.heap.size ≠ w.heap.size := (by omega); (try (have RZ := RZ.below hbd1 (Nat.le_refl _))); (try (have RZ := (show RB2 (w0.alloc (.cells #[.int .i64 0, .slice none 0 0] 41)).drew w0.heap.size (.int .i64 0) (.slice none 0 0) from RB2.mk1 w0 (.int .i64 0) (.slice none 0 0) _).below hbd1 (Nat.le_refl _))); (try (obtain ⟨⟨z1_0, z1_1⟩, zf1⟩ := id RZ)))
        | (go_at_call 36; refine (zero_c m ((xs.length : Int) - 1) xs.length _ (by omega) (by omega)).mono ?_; rintro e wd2 ⟨vz2, rfl, hod2, hbd2⟩; obtain ⟨oz, cz, rfl⟩ := hod2.shapeN (n := xs.length) (by simp); have hd2 : Below w0.heap.size w0 wd2 := (by (repeat (first | exact bR _ _ | (refine bS ?_ _) | (refine bA ?_ _) | (refine bN ?_ _) | (refine bD ?_) | (refine bT ?_ hbd1) | (refine bT ?_ hbd2)))); have hsd2 := hd2.size; have hsz2_ := hbd2.size; (try simp at hsz2_); obtain ⟨q2_X0_0, q2_X0_1⟩ := X0.below hd2 (Nat.le_refl _); have hne2_X0 : wd2.heap.size ≠ w.heap.size := (by omega); (try (have RZ := RZ.below hbd2 (Nat.le_refl _))); (try (have RZ := (show RB2 (wd1.alloc (.cells #[.int .i64 0, .slice none 0 0] 41)) wd1.heap.size (.int .i64 0) (.slice none 0 0) from RB2.mk1 wd1 (.int .i64 0) (.slice none 0 0) _).below hbd2 (Nat.le_refl _))); (try (obtain ⟨⟨z2_0, z2_1⟩, zf2⟩ := id RZ))))
    all_goals
      go_wp2_with fail
      go_meet
      have hL := hod2.lt
      refine ⟨_, _, oz, cz, rfl, rfl, ?_, ?_, ?_, ?_, ?_⟩
      · first | omega | (simp; done) | (simp; omega)
      · first | exact RB2.mk1 _ _ _ _ | exact RB2.put RZ _ _
      · first | exact (hod2.alloc _).mono (by first | (simp; done) | (simp; omega) | omega) | exact ((hod2.low (by first | (simp; done) | (simp; omega) | omega) _).low (by first | (simp; done) | (simp; omega) | omega) _).mono (by first | (simp; done) | (simp; omega) | omega)
      · intro k hk; have hq := hL k hk; first | omega | (simp at hq; omega)
      · (repeat (first | exact bR _ _ | (refine bS ?_ _) | (refine bA ?_ _) | (refine bN ?_ _) | (refine bD ?_) | (refine bT ?_ hbd1) | (refine bT ?_ hbd2)))
  case rest =>
  obtain ⟨w1, b, oz, cz, rfl, rfl, hbW, O, how, hneb, hb⟩ := hcut
  (have X1 := X0.below hb (Nat.le_refl _); have Y1 := Y0.below hb (Nat.le_refl _); have R1 := R0.below hb (Nat.le_refl _); have hv1 := hv0.below hb (Nat.le_refl _); have hu1 := hu0.below hb (Nat.le_refl _); have B1 := B0.trans (hb.mono B0.size))
  rw [tmS_0 m _ xs ys] at how
  obtain ⟨g, cap, hsl, hgl, hgl', -, -, -⟩ := how.opn (by rw [tmS_len]; omega)
  obtain ⟨rfl, rfl⟩ : oz = some ⟨g, 0, none⟩ ∧ cz = cap := by simp at hsl; exact ⟨hsl.1, hsl.2.2⟩
  clear hsl
  have hgb := hneb g rfl
  clear hneb
  obtain ⟨bx, fx, rfl, hcx⟩ := hv.cells h1
  obtain ⟨by', fy, rfl, hcy⟩ := hu.cells (by have := HL.out; omega)
  have l1 := cell_lt (hcx 0 _ (some_at0 (by omega)))
  have l2 := cell_lt (hcy 0 _ (some_at0 (by have := HL.out; omega)))
  clear hcx hcy
  have n1 : g ≠ w.heap.size := by omega
  have n2 : g ≠ w.heap.size + 1 := by omega
  have n3 : g ≠ bx := by omega
  have n4 : g ≠ by' := by omega
  have B1s := B1.size
  have m0 : (m == 0) = false := by simp; omega
  have m1 : ¬ m = 0 := by omega
  obtain ⟨x0, x1⟩ := id X1
  go_wp2_with fail
  clear x0 x1
  go_loopw [18] (fun i wr => ∃ k : Nat, k ≤ xs.length ∧ i = .int .i64 k ∧ OwI wr w0.heap.size (.slice (some ⟨g, 0, none⟩) xs.length cz) (tmS m xs.length xs ys k 0) ∧ w1.grownBy wr (some g)) (fun i _ => xs.length - (intOf i).toNat)
  case atStart => exact ⟨0, Nat.zero_le _, rfl, how, World.grownBy.refl _ _⟩
  case round =>
    obtain ⟨k, hk, rfl, hO, hg⟩ := hrel
    obtain ⟨wo, rfl⟩ : ∃ wo : World, wo = wr := ⟨_, rfl⟩
    have Br := below_gr B1 hg (by omega) B1s
    by_cases hlt : k < xs.length
    · have hly : k < ys.length := by have := HL.out; omega
      obtain ⟨y0, y1⟩ := Y1.grown hg (by simp; omega)
      have cx := (hv.below Br (Nat.le_refl _)).cell0 (some_at0 hlt)
      have hxk := at0_range (by omega) hx k
      have i0 : (0 : Int) ≤ (k : Int) := by omega
      have i1 : (k : Int) < (xs.length : Int) := by omega
      have i2 : (0 : Int) ≤ (ys.length : Int) - (k : Int) := by omega
      have i3 : (ys.length : Int) - (k : Int) ≤ (c' : Int) := by omega
      have i4 : ((ys.length : Int) - (k : Int)).toNat = ys.length - k := by omega
      go_wp2_with fail
      clear y0 y1
      go_loopw [32] (fun i w2 => ∃ j : Nat, j ≤ ys.length - k ∧ i = .int .i64 j ∧ OwI w2 w0.heap.size (.slice (some ⟨g, 0, none⟩) xs.length cz) (tmS m xs.length xs ys k j) ∧ w1.grownBy w2 (some g)) (fun i _ => ys.length - k - (intOf i).toNat)
      case atStart => exact ⟨0, Nat.zero_le _, rfl, hO, hg⟩
      case round =>
        obtain ⟨j, hj, rfl, hO2, hg2⟩ := hrel
        have Br2 := below_gr B1 hg2 (by omega) B1s
        by_cases hjl : j < ys.length - k
        · have hkj : k + j < xs.length := by have := HL.out; omega
          obtain ⟨x0, x1⟩ := X1.grown hg2 (by simp; omega)
          obtain ⟨⟨z0, z1⟩, zf⟩ := O.grown hg2 (by simp; omega)
          have cy := (hu.below Br2 (Nat.le_refl _)).cell0 (some_at0 (show j < ys.length by omega))
          have hyk := at0_range (by omega) hy j
          have hc0 := hO2.cell (k := k + j) (mk_get hkj)
          have hf0 := hO2.fz (k + j)
          have hM := mod_lt' (a := at0 xs k * at0 ys j) (show 0 < m by omega)
          have hC := mod_lt' (a := convP (at0 xs) (at0 ys) k j (k + j)) (show 0 < m by omega)
          have hMod := mod_lt' (a := convP (at0 xs) (at0 ys) k j (k + j) % m + at0 xs k * at0 ys j % m) (show 0 < m by omega)
          have Hn := Lib.hid hO2
          clear hO2
          have j0 : (0 : Int) ≤ (j : Int) := by omega
          have j1 : (j : Int) < (ys.length : Int) - (k : Int) := by omega
          have j2 : (0 : Int) ≤ (k : Int) + (j : Int) := by omega
          have j3 : (k : Int) + (j : Int) < (xs.length : Int) := by omega
          have j4 : ((k : Int) + (j : Int)).toNat = k + j := by omega
          go_wp2_with fail
          have e0 : IntKind.i64.wrap ((k : Int) + (j : Int)) = (k : Int) + (j : Int) := IntWalk.i64_in _ (by omega)
          have e1 : IntKind.i64.wrap (convP (at0 xs) (at0 ys) k j (k + j) % m + at0 xs k * at0 ys j % m) = convP (at0 xs) (at0 ys) k j (k + j) % m + at0 xs k * at0 ys j % m := IntWalk.i64_in _ (by omega)
          have e2 : (convP (at0 xs) (at0 ys) k j (k + j) % m + at0 xs k * at0 ys j % m).tmod m = (convP (at0 xs) (at0 ys) k j (k + j) % m + at0 xs k * at0 ys j % m) % m := Int.tmod_eq_emod_of_nonneg (by omega)
          go_still_tail 22, (by kernel_rfl)
          still_call (stillC (mul_c _ _ _ _ (by omega) hm' (by omega) (by omega) (by omega) (by omega)))
          repeat still_step
          refine wpStill_nil ?_
          change wpList _ _ _ _ _ wr.drew
          go_wp2
          have h2 := OwI.put Hn.out (k + j) ((convP (at0 xs) (at0 ys) k j (k + j) + at0 xs k * at0 ys j) % m)
          rw [tmS_set2 rfl rfl] at h2
          exact ⟨⟨j + 1, by omega, by go_num, h2, gr_drew (gr_put hg2 _ _)⟩, by simp [intOf]; omega⟩
        · obtain rfl : j = ys.length - k := by omega
          rw [tmS_row (.inl (by have := HL.out; omega))] at hO2
          go_wp2
          exact ⟨⟨k + 1, by omega, by go_num, hO2, hg2⟩, by simp [intOf]; omega⟩
    · obtain rfl : k = xs.length := by omega
      rw [tmS_all (.inl (Nat.le_refl _))] at hO
      obtain ⟨⟨z0, z1⟩, zf⟩ := O.grown hg (by simp; omega)
      obtain ⟨⟨r0, r1⟩, rf⟩ := R1.grown hg (by simp; omega)
      go_wp2
      refine bodyPost_ret (v := .agg #[.int .i64 m, .slice (some ⟨g, 0, none⟩) xs.length cz]) (by simp [results, Try.results85, go_sem, r0, r1]) rfl ⟨_, rfl, ?_, ?_⟩
      · exact ((hO.low (by first | (simp; done) | (simp; omega) | omega) _).low (by first | (simp; done) | (simp; omega) | omega) _).mono (by first | (simp; done) | (simp; omega) | omega)
      · (repeat (first | exact bR _ _ | (refine bS ?_ _) | (refine bA ?_ _) | (refine bN ?_ _) | (refine bD ?_) | (refine bT ?_ Br)))

end Go.Proofs.Ytfpphfjlpgefaaa

/- Series: the program's compositions. -/
set_option linter.unusedSimpArgs false
set_option linter.unusedVariables false
namespace Go.Proofs.Ytfpphfjlpgefaaa
open Go.RowKit

def constL (m c : Int) (n : Nat) : List Int := (List.replicate n 0).set 0 (c % m)
theorem constL_len (m c : Int) (n : Nat) : (constL m c n).length = n := by simp [constL]
set_option maxHeartbeats 1000000 in
set_option maxRecDepth 100000 in
theorem constant_c (m a : Int) (v : Value) (xs : List Int) (w : World) (hv : RdI w v xs) (h1 : 1 ≤ xs.length) (hn : xs.length ≤ 1048576) (hm : 2 ≤ m) (hm' : m ≤ 1000000000000) (ha : -9000000000000000000 ≤ a) (ha' : a ≤ 9000000000000000000) :
    Calls Try.prog 84 #[.agg #[.int .i64 m, v], .int .i64 a] w fun e w' => SVEnd w w' m (constL m a xs.length) e := by
  obtain ⟨o, c, rfl, hmx, -⟩ := id hv
  have hml := hmx.1
  unfold maxLen at hmx
  go_enter Try.func84, Try.ntmps84
  go_wp2_with fail
  (have X0 := ((RB2.mk1 w  (.int .i64 m) (.slice o xs.length c) 41).1).below (w' := ((w.alloc (.cells #[.int .i64 m, .slice o xs.length c] 41)).alloc (.cells #[.int .i64 0, .slice none 0 0] 41))) (by (repeat (first | exact bR _ _ | (refine bS ?_ _) | (refine bA ?_ _) | (refine bN ?_ _) | (refine bD ?_)))) (Nat.le_refl _); have R0 := ((RB2.mk2 w (.cells #[.int .i64 m, .slice o xs.length c] 41) (.int .i64 0) (.slice none 0 0) 41)).below (w' := ((w.alloc (.cells #[.int .i64 m, .slice o xs.length c] 41)).alloc (.cells #[.int .i64 0, .slice none 0 0] 41))) (by (repeat (first | exact bR _ _ | (refine bS ?_ _) | (refine bA ?_ _) | (refine bN ?_ _) | (refine bD ?_)))) (Nat.le_refl _); have B0 : Below w.heap.size w ((w.alloc (.cells #[.int .i64 m, .slice o xs.length c] 41)).alloc (.cells #[.int .i64 0, .slice none 0 0] 41)) := (by (repeat (first | exact bR _ _ | (refine bS ?_ _) | (refine bA ?_ _) | (refine bN ?_ _) | (refine bD ?_)))); have hv0 := hv.below (w' := ((w.alloc (.cells #[.int .i64 m, .slice o xs.length c] 41)).alloc (.cells #[.int .i64 0, .slice none 0 0] 41))) (by (repeat (first | exact bR _ _ | (refine bS ?_ _) | (refine bA ?_ _) | (refine bN ?_ _) | (refine bD ?_)))) (Nat.le_refl _); generalize (w.alloc (.cells #[.int .i64 m, .slice o xs.length c] 41)).alloc (.cells #[.int .i64 0, .slice none 0 0] 41) = w0 at X0 R0 B0 hv0 ⊢)
  have hzl : w.heap.size + 1 < w0.heap.size := R0.1.lt
  go_cut [5] (fun sb u => ∃ (wz : World) (b : Nat) (oz : Option Addr) (cz : Nat), wz = u ∧ sb = .pointer (some ⟨b, 0, none⟩) ∧ w0.heap.size ≤ b ∧ RB2 u b (.int .i64 m) (.slice oz xs.length cz) ∧ OwI u w0.heap.size (.slice oz xs.length cz) (List.replicate xs.length 0) ∧ (∀ k, (Value.slice oz xs.length cz).ownBlock = some k → k ≠ b) ∧ Below w0.heap.size w0 u)
  case first =>
    have hd0 : Below w0.heap.size w0 w0.drew := (Below.refl _ _).drew
    have hsd0 := hd0.size
    have hlb_X0 := X0.lt
    obtain ⟨q0_X0_0, q0_X0_1⟩ := X0.below (Below.refl w0.heap.size w0) (Nat.le_refl _)
    have hne0_X0 : w0.heap.size ≠ w.heap.size := by omega
    go_region_held3 (fun w' => w'.cell? ⟨w.heap.size, 0, none⟩ = some (.int .i64 m) ∧ w'.cell? ⟨w.heap.size, 1, none⟩ = some (.slice o xs.length c)) (go_keep)
      (first
        | (go_at_call 60; refine (degreeS_c m o xs.length c _ hml).mono ?_; rintro e wd1 ⟨rfl, hbd1⟩; have hd1 : Below w0.heap.size w0 wd1 := (by (repeat (first | exact bR _ _ | (refine bS ?_ _) | (refine bA ?_ _) | (refine bN ?_ _) | (refine bD ?_) | (refine bT ?_ hbd1)))); have hsd1 := hd1.size; have hsz1_ := hbd1.size; (try simp at hsz1_); obtain ⟨q1_X0_0, q1_X0_1⟩ := X0.below hd1 (Nat.le_refl _); have hne1_X0 : wd1.heap.size ≠ w.heap.size := (by omega); (try (have RZ := RZ.below hbd1 (Nat.le_refl _))); (try (have RZ := (show RB2 (w0.alloc (.cells #[.int .i64 0, .slice none 0 0] 41)).drew w0.heap.size (.int .i64 0) (.slice none 0 0) from RB2.mk1 w0 (.int .i64 0) (.slice none 0 0) _).below hbd1 (Nat.le_refl _))); (try (obtain ⟨⟨z1_0, z1_1⟩, zf1⟩ := id RZ)))
        | (go_at_call 36; refine (zero_c m ((xs.length : Int) - 1) xs.length _ (by omega) (by omega)).mono ?_; rintro e wd2 ⟨vz2, rfl, hod2, hbd2⟩; obtain ⟨oz, cz, rfl⟩ := hod2.shapeN (n := xs.length) (by simp); have hd2 : Below w0.heap.size w0 wd2 := (by (repeat (first | exact bR _ _ | (refine bS ?_ _) | (refine bA ?_ _) | (refine bN ?_ _) | (refine bD ?_) | (refine bT ?_ hbd1) | (refine bT ?_ hbd2)))); have hsd2 := hd2.size; have hsz2_ := hbd2.size; (try simp at hsz2_); obtain ⟨q2_X0_0, q2_X0_1⟩ := X0.below hd2 (Nat.le_refl _); have hne2_X0 : wd2.heap.size ≠ w.heap.size := (by omega); (try (have RZ := RZ.below hbd2 (Nat.le_refl _))); (try (have RZ := (show RB2 (wd1.alloc (.cells #[.int .i64 0, .slice none 0 0] 41)) wd1.heap.size (.int .i64 0) (.slice none 0 0) from RB2.mk1 wd1 (.int .i64 0) (.slice none 0 0) _).below hbd2 (Nat.le_refl _))); (try (obtain ⟨⟨z2_0, z2_1⟩, zf2⟩ := id RZ))))
    all_goals
      go_wp2_with fail
      go_meet
      have hL := hod2.lt
      refine ⟨_, _, oz, cz, rfl, rfl, ?_, ?_, ?_, ?_, ?_⟩
      · first | omega | (simp; done) | (simp; omega)
      · first | exact RB2.mk1 _ _ _ _ | exact RB2.put RZ _ _
      · first | exact (hod2.alloc _).mono (by first | (simp; done) | (simp; omega) | omega) | exact ((hod2.low (by first | (simp; done) | (simp; omega) | omega) _).low (by first | (simp; done) | (simp; omega) | omega) _).mono (by first | (simp; done) | (simp; omega) | omega)
      · intro k hk; have hq := hL k hk; first | omega | (simp at hq; omega)
      · (repeat (first | exact bR _ _ | (refine bS ?_ _) | (refine bA ?_ _) | (refine bN ?_ _) | (refine bD ?_) | (refine bT ?_ hbd1) | (refine bT ?_ hbd2)))
  case rest =>
  obtain ⟨w1, b, oz, cz, rfl, rfl, hbW, O, how, hneb, hb⟩ := hcut
  (have X1 := X0.below hb (Nat.le_refl _); have R1 := R0.below hb (Nat.le_refl _); have B1 := B0.trans (hb.mono B0.size))
  obtain ⟨g, rfl, hgl, hgl'⟩ := how.row h1
  have hgb := hneb g rfl
  clear hneb
  obtain ⟨x0, x1⟩ := id X1
  obtain ⟨⟨z0, z1⟩, zf⟩ := id O
  have hc0 := how.cell (k := 0) (rep_get xs.length 0 0 (by omega))
  have hf0 := how.fz 0
  have B1s := B1.size
  have Hn := Lib.hid how
  clear how
  go_wp2_with fail
  have i1 : 0 < xs.length := h1
  have i2 : (0 : Int) < (xs.length : Int) := by omega
  go_still_tail 7, (by kernel_rfl)
  still_call (stillC (mod_c _ _ _ (by omega) (by omega) (by omega) (by omega)))
  repeat still_step
  refine wpStill_nil ?_
  change wpList _ _ _ _ _ w1.drew
  have g0 := gr_put (World.grownBy.refl w1 (some g)) 0 (.int .i64 (a % m))
  have Og := O.grown g0 (by simp; omega)
  have Rg := R1.grown g0 (by simp; omega)
  obtain ⟨⟨p0, p1⟩, pf⟩ := id Og
  obtain ⟨⟨r0, r1⟩, rf⟩ := id Rg
  go_wp2
  refine bodyPost_ret (v := .agg #[.int .i64 m, .slice (some ⟨g, 0, none⟩) xs.length cz]) (by simp [results, Try.results84, go_sem, r0, r1]) rfl ⟨_, rfl, ?_, ?_⟩
  · exact (((Hn.out.put 0 (a % m)).low (by first | (simp; done) | (simp; omega) | omega) _).low (by first | (simp; done) | (simp; omega) | omega) _).mono (by first | (simp; done) | (simp; omega) | omega)
  · (repeat (first | exact bR _ _ | (refine bS ?_ _) | (refine bA ?_ _) | (refine bN ?_ _) | (refine bD ?_) | (refine bT ?_ B1)))

end Go.Proofs.Ytfpphfjlpgefaaa

/- Series: the reference's sums, products and compositions. -/
set_option linter.unusedSimpArgs false
set_option linter.unusedVariables false
namespace Go.Proofs.Ytfpphfjlpgefaaa
open Go.RowKit

set_option maxHeartbeats 400000 in
theorem l02Make_c (m : Int) (o : Option Addr) (n c : Nat) (w : World) :
    Calls Try.prog 15 #[.int .i64 m, .slice o n c] w fun e w' => e = .returned (.agg #[.int .i64 m, .slice o n c]) ∧ Below w.heap.size w w' := by
  go_enter Try.func15, Try.ntmps15
  go_wp2
  exact bodyPost_ret (v := .agg #[.int .i64 m, .slice o n c]) (by simp [results, Try.results15, go_sem]) rfl ⟨rfl, (by (repeat (first | exact bR _ _ | (refine bS ?_ _) | (refine bA ?_ _) | (refine bN ?_ _) | (refine bD ?_))))⟩

set_option maxHeartbeats 2000000 in
set_option maxRecDepth 100000 in
theorem l02Times_c (m d : Int) (n : Nat) (v u : Value) (xs ys : List Int) (w : World) (hd : d = (n : Int) - 1) (hv : RdI w v xs) (hu : RdI w u ys) (h1 : 1 ≤ n) (hn : n ≤ 1048576) (hm : 2 ≤ m) (hm' : m ≤ 3000000000)
    (hx : ∀ x ∈ xs, 0 ≤ x ∧ x < m) (hy : ∀ x ∈ ys, 0 ≤ x ∧ x < m) :
    Calls Try.prog 87 #[.int .i64 m, v, u, .int .i64 d] w fun e w' => ∃ v', e = .returned v' ∧ OwI w' w.heap.size v' (timesL m n xs ys) ∧ Below w.heap.size w w' := by
  subst hd
  obtain ⟨o, c, rfl, hmx, -⟩ := id hv
  obtain ⟨o', c', rfl, hmy, -⟩ := id hu
  unfold maxLen at hmx hmy
  have m0 : (m == 0) = false := by simp; omega
  have m1 : ¬ m = 0 := by omega
  go_enter Try.func87, Try.ntmps87
  go_wp2_with (at_make; refine mkI _ rfl _ _ rfl _ _ _ n rfl rfl (by omega) (by omega) ?_; intro w1 hown hb hs1)
  rw [tmS_0 m _ xs ys] at hown
  have hz : w.heap.size < w1.heap.size := by omega
  clear hs1
  go_loopw [10] (fun i wr => ∃ k : Nat, k ≤ n ∧ i = .int .i64 k ∧ OwI wr w.heap.size (.slice (some ⟨w.heap.size, 0, none⟩) n n) (tmS m n xs ys k 0) ∧ Below w.heap.size w wr) (fun i _ => n - (intOf i).toNat)
  case atStart => exact ⟨0, Nat.zero_le _, rfl, hown, hb⟩
  case round =>
    obtain ⟨k, hk, rfl, hO, hB⟩ := hrel
    obtain ⟨wo, rfl⟩ : ∃ wo : World, wo = wr := ⟨_, rfl⟩
    by_cases hlt : k < xs.length ∧ k < n
    · obtain ⟨hlt, hkn⟩ := hlt
      obtain ⟨bx, fx, rfl, -⟩ := hv.cells (by omega)
      have hxk := at0_range (by omega) hx k
      have i0 : (0 : Int) ≤ (k : Int) := by omega
      have i1 : (k : Int) < (xs.length : Int) := by omega
      have i2 : (k : Int) ≤ (n : Int) - 1 := by omega
      go_wp2_with fail
      go_loopw [11] (fun i w2 => ∃ j : Nat, j ≤ n - k ∧ i = .int .i64 j ∧ OwI w2 w.heap.size (.slice (some ⟨w.heap.size, 0, none⟩) n n) (tmS m n xs ys k j) ∧ Below w.heap.size w w2) (fun i _ => n - k - (intOf i).toNat)
      case atStart => exact ⟨0, Nat.zero_le _, rfl, hO, hB⟩
      case round =>
        obtain ⟨j, hj, rfl, hO2, hB2⟩ := hrel
        have cx := (hv.below hB2 (Nat.le_refl _)).cell0 (some_at0 hlt)
        by_cases hjl : j < ys.length ∧ k + j < n ∧ ¬ at0 xs k = 0
        · obtain ⟨hjl, hkj, hne⟩ := hjl
          have hne' : (at0 xs k != 0) = true := by simpa using hne
          obtain ⟨by', fy, rfl, -⟩ := hu.cells (by omega)
          have cy := (hu.below hB2 (Nat.le_refl _)).cell0 (some_at0 hjl)
          have hyk := at0_range (by omega) hy j
          have hc0 := hO2.cell (k := k + j) (mk_get hkj)
          have hf0 := hO2.fz (k + j)
          obtain ⟨hM0, hM1⟩ := prod_fits hxk.1 hyk.1 hxk.2 hyk.2 hm'
          have hC := mod_lt' (a := convP (at0 xs) (at0 ys) k j (k + j)) (show 0 < m by omega)
          have hMod := mod_lt' (a := convP (at0 xs) (at0 ys) k j (k + j) % m + at0 xs k * at0 ys j) (show 0 < m by omega)
          have Hn := Lib.hid hO2
          clear hO2
          have j0 : (0 : Int) ≤ (j : Int) := by omega
          have j1 : (j : Int) < (ys.length : Int) := by omega
          have j2 : (0 : Int) ≤ (k : Int) + (j : Int) := by omega
          have j3 : (k : Int) + (j : Int) < (n : Int) := by omega
          have j5 : (k : Int) + (j : Int) ≤ (n : Int) - 1 := by omega
          have j4 : ((k : Int) + (j : Int)).toNat = k + j := by omega
          have Hne := Lib.hid hne
          clear hne
          go_wp2_with fail
          have e0 : IntKind.i64.wrap ((k : Int) + (j : Int)) = (k : Int) + (j : Int) := IntWalk.i64_in _ (by omega)
          have e3 : IntKind.i64.wrap (at0 xs k * at0 ys j) = at0 xs k * at0 ys j := IntWalk.i64_in _ (by omega)
          have e1 : IntKind.i64.wrap (convP (at0 xs) (at0 ys) k j (k + j) % m + at0 xs k * at0 ys j) = convP (at0 xs) (at0 ys) k j (k + j) % m + at0 xs k * at0 ys j := IntWalk.i64_in _ (by omega)
          have e2 : (convP (at0 xs) (at0 ys) k j (k + j) % m + at0 xs k * at0 ys j).tmod m = (convP (at0 xs) (at0 ys) k j (k + j) % m + at0 xs k * at0 ys j) % m := Int.tmod_eq_emod_of_nonneg (by omega)
          go_still_tail 23, (by kernel_rfl)
          change wpList _ _ _ _ _ wr.drew
          go_wp2
          have h2 := OwI.put Hn.out (k + j) ((convP (at0 xs) (at0 ys) k j (k + j) + at0 xs k * at0 ys j) % m)
          rw [tmS_set2 rfl rfl] at h2
          exact ⟨⟨j + 1, by omega, by go_num, h2, (below_put hB2 (Nat.le_refl _) _).drew⟩, by simp [intOf]; omega⟩
        · have hrow : tmS m n xs ys k j = tmS m n xs ys (k + 1) 0 := tmS_row (by
            by_cases h1 : j < ys.length
            · by_cases h2 : k + j < n
              · exact .inr (.inr (Classical.byContradiction fun h3 => hjl ⟨h1, h2, h3⟩))
              · exact .inl (by omega)
            · exact .inr (.inl (by omega)))
          rw [hrow] at hO2
          clear hrow
          have i3 : ((k : Int) + (j : Int)) ≤ 2097152 := by omega
          by_cases h1 : j < ys.length
          · by_cases h2 : k + j < n
            · have h3 : at0 xs k = 0 := Classical.byContradiction fun h3 => hjl ⟨h1, h2, h3⟩
              have h3' : (at0 xs k != 0) = false := by simpa using h3
              have j5 : (k : Int) + (j : Int) ≤ (n : Int) - 1 := by omega
              clear hjl h3
              go_wp2
              exact ⟨⟨k + 1, by omega, by go_num, hO2, hB2⟩, by simp [intOf]; omega⟩
            · have j5 : ¬ (k : Int) + (j : Int) ≤ (n : Int) - 1 := by omega
              clear hjl
              go_wp2
              exact ⟨⟨k + 1, by omega, by go_num, hO2, hB2⟩, by simp [intOf]; omega⟩
          · clear hjl
            go_wp2
            exact ⟨⟨k + 1, by omega, by go_num, hO2, hB2⟩, by simp [intOf]; omega⟩
    · rw [tmS_all (by omega)] at hO
      by_cases h1 : k < xs.length
      · have h2 : ¬ (k : Int) ≤ (n : Int) - 1 := by omega
        clear hlt
        go_wp2
        go_ret
        exact ⟨_, rfl, hO, hB⟩
      · clear hlt
        go_wp2
        go_ret
        exact ⟨_, rfl, hO, hB⟩

end Go.Proofs.Ytfpphfjlpgefaaa

/- Series: the product with a number, in the program and in the reference. -/
set_option linter.unusedSimpArgs false
set_option linter.unusedVariables false
namespace Go.Proofs.Ytfpphfjlpgefaaa
open Go.RowKit

def sclTo (m c : Int) (xs : List Int) (i : Nat) : List Int := mk xs.length (fun k => if k < i then c * at0 xs k % m else 0)
theorem sclTo_len (m c : Int) (xs : List Int) (i : Nat) : (sclTo m c xs i).length = xs.length := mk_len _ _
theorem sclTo_0 (m c : Int) (xs : List Int) : List.replicate xs.length (0 : Int) = sclTo m c xs 0 := by
  rw [mk_zero]; exact mk_ext (fun k _ => by simp)
theorem sclTo_set {m c : Int} {xs : List Int} {i : Nat} : (sclTo m c xs i).set i (c * at0 xs i % m) = sclTo m c xs (i + 1) := by
  unfold sclTo
  rw [mk_set]
  refine mk_ext fun k hk => ?_
  by_cases h : k = i
  · subst h; simp
  · rw [if_neg h]
    by_cases h1 : k < i
    · rw [if_pos h1, if_pos (by omega)]
    · rw [if_neg h1, if_neg (by omega)]
theorem scaleL_mk (m c : Int) (xs : List Int) : scaleL m c xs = mk xs.length (fun k => c * at0 xs k % m) := by
  conv => lhs; rw [eq_mk (scaleL m c xs), scaleL_len]
  exact mk_ext fun k hk => scaleL_at hk
theorem sclTo_all {m c : Int} {xs : List Int} : sclTo m c xs xs.length = scaleL m c xs := by
  rw [scaleL_mk]; exact mk_ext fun k hk => by rw [if_pos hk]
theorem scaleL_mod (m c : Int) (xs : List Int) : scaleL m (c % m) xs = scaleL m c xs := by
  rw [scaleL_mk, scaleL_mk]; exact mk_ext fun k _ => emod_congr_mul (emod_idem _ _) rfl

set_option maxHeartbeats 1000000 in
set_option maxRecDepth 100000 in
theorem scaled_c (m a : Int) (v : Value) (xs : List Int) (w : World) (hv : RdI w v xs) (h1 : 1 ≤ xs.length) (hn : xs.length ≤ 1048576) (hm : 2 ≤ m) (hm' : m ≤ 3000000000)
    (hx : ∀ x ∈ xs, 0 ≤ x ∧ x < m) (ha : -9000000000000000000 ≤ a) (ha' : a ≤ 9000000000000000000) :
    Calls Try.prog 68 #[.agg #[.int .i64 m, v], .int .i64 a] w fun e w' => SVEnd w w' m (scaleL m a xs) e := by
  obtain ⟨o, c, rfl, hmx, -⟩ := id hv
  have hml := hmx.1
  unfold maxLen at hmx
  rw [← scaleL_mod]
  have hA := mod_lt' (a := a) (show 0 < m by omega)
  go_enter Try.func68, Try.ntmps68
  go_wp2_with fail
  (have X0 := ((RB2.mk1 w  (.int .i64 m) (.slice o xs.length c) 41).1).below (w' := ((w.alloc (.cells #[.int .i64 m, .slice o xs.length c] 41)).alloc (.cells #[.int .i64 0, .slice none 0 0] 41))) (by (repeat (first | exact bR _ _ | (refine bS ?_ _) | (refine bA ?_ _) | (refine bN ?_ _) | (refine bD ?_)))) (Nat.le_refl _); have R0 := ((RB2.mk2 w (.cells #[.int .i64 m, .slice o xs.length c] 41) (.int .i64 0) (.slice none 0 0) 41)).below (w' := ((w.alloc (.cells #[.int .i64 m, .slice o xs.length c] 41)).alloc (.cells #[.int .i64 0, .slice none 0 0] 41))) (by (repeat (first | exact bR _ _ | (refine bS ?_ _) | (refine bA ?_ _) | (refine bN ?_ _) | (refine bD ?_)))) (Nat.le_refl _); have B0 : Below w.heap.size w ((w.alloc (.cells #[.int .i64 m, .slice o xs.length c] 41)).alloc (.cells #[.int .i64 0, .slice none 0 0] 41)) := (by (repeat (first | exact bR _ _ | (refine bS ?_ _) | (refine bA ?_ _) | (refine bN ?_ _) | (refine bD ?_)))); have hv0 := hv.below (w' := ((w.alloc (.cells #[.int .i64 m, .slice o xs.length c] 41)).alloc (.cells #[.int .i64 0, .slice none 0 0] 41))) (by (repeat (first | exact bR _ _ | (refine bS ?_ _) | (refine bA ?_ _) | (refine bN ?_ _) | (refine bD ?_)))) (Nat.le_refl _); generalize (w.alloc (.cells #[.int .i64 m, .slice o xs.length c] 41)).alloc (.cells #[.int .i64 0, .slice none 0 0] 41) = w0 at X0 R0 B0 hv0 ⊢)
  have hzl : w.heap.size + 1 < w0.heap.size := R0.1.lt
  go_cut [5] (fun sb u => ∃ (wz : World) (b : Nat) (oz : Option Addr) (cz : Nat), wz = u ∧ sb = .pointer (some ⟨b, 0, none⟩) ∧ w0.heap.size ≤ b ∧ RB2 u b (.int .i64 m) (.slice oz xs.length cz) ∧ OwI u w0.heap.size (.slice oz xs.length cz) (List.replicate xs.length 0) ∧ (∀ k, (Value.slice oz xs.length cz).ownBlock = some k → k ≠ b) ∧ Below w0.heap.size w0 u)
  case first =>
    have hd0 : Below w0.heap.size w0 w0.drew := (Below.refl _ _).drew
    have hsd0 := hd0.size
    have hlb_X0 := X0.lt
    obtain ⟨q0_X0_0, q0_X0_1⟩ := X0.below (Below.refl w0.heap.size w0) (Nat.le_refl _)
    have hne0_X0 : w0.heap.size ≠ w.heap.size := by omega
    go_region_held3 (fun w' => w'.cell? ⟨w.heap.size, 0, none⟩ = some (.int .i64 m) ∧ w'.cell? ⟨w.heap.size, 1, none⟩ = some (.slice o xs.length c)) (go_keep)
      (first
        | (go_at_call 60; refine (degreeS_c m o xs.length c _ hml).mono ?_; rintro e wd1 ⟨rfl, hbd1⟩; have hd1 : Below w0.heap.size w0 wd1 := (by (repeat (first | exact bR _ _ | (refine bS ?_ _) | (refine bA ?_ _) | (refine bN ?_ _) | (refine bD ?_) | (refine bT ?_ hbd1)))); have hsd1 := hd1.size; have hsz1_ := hbd1.size; (try simp at hsz1_); obtain ⟨q1_X0_0, q1_X0_1⟩ := X0.below hd1 (Nat.le_refl _); have hne1_X0 : wd1.heap.size ≠ w.heap.size := (by omega); (try (have RZ := RZ.below hbd1 (Nat.le_refl _))); (try (have RZ := (show RB2 (w0.alloc (.cells #[.int .i64 0, .slice none 0 0] 41)).drew w0.heap.size (.int .i64 0) (.slice none 0 0) from RB2.mk1 w0 (.int .i64 0) (.slice none 0 0) _).below hbd1 (Nat.le_refl _))); (try (obtain ⟨⟨z1_0, z1_1⟩, zf1⟩ := id RZ)))
        | (go_at_call 36; refine (zero_c m ((xs.length : Int) - 1) xs.length _ (by omega) (by omega)).mono ?_; rintro e wd2 ⟨vz2, rfl, hod2, hbd2⟩; obtain ⟨oz, cz, rfl⟩ := hod2.shapeN (n := xs.length) (by simp); have hd2 : Below w0.heap.size w0 wd2 := (by (repeat (first | exact bR _ _ | (refine bS ?_ _) | (refine bA ?_ _) | (refine bN ?_ _) | (refine bD ?_) | (refine bT ?_ hbd1) | (refine bT ?_ hbd2)))); have hsd2 := hd2.size; have hsz2_ := hbd2.size; (try simp at hsz2_); obtain ⟨q2_X0_0, q2_X0_1⟩ := X0.below hd2 (Nat.le_refl _); have hne2_X0 : wd2.heap.size ≠ w.heap.size := (by omega); (try (have RZ := RZ.below hbd2 (Nat.le_refl _))); (try (have RZ := (show RB2 (wd1.alloc (.cells #[.int .i64 0, .slice none 0 0] 41)) wd1.heap.size (.int .i64 0) (.slice none 0 0) from RB2.mk1 wd1 (.int .i64 0) (.slice none 0 0) _).below hbd2 (Nat.le_refl _))); (try (obtain ⟨⟨z2_0, z2_1⟩, zf2⟩ := id RZ))))
    all_goals
      go_wp2_with fail
      go_meet
      have hL := hod2.lt
      refine ⟨_, _, oz, cz, rfl, rfl, ?_, ?_, ?_, ?_, ?_⟩
      · first | omega | (simp; done) | (simp; omega)
      · first | exact RB2.mk1 _ _ _ _ | exact RB2.put RZ _ _
      · first | exact (hod2.alloc _).mono (by first | (simp; done) | (simp; omega) | omega) | exact ((hod2.low (by first | (simp; done) | (simp; omega) | omega) _).low (by first | (simp; done) | (simp; omega) | omega) _).mono (by first | (simp; done) | (simp; omega) | omega)
      · intro k hk; have hq := hL k hk; first | omega | (simp at hq; omega)
      · (repeat (first | exact bR _ _ | (refine bS ?_ _) | (refine bA ?_ _) | (refine bN ?_ _) | (refine bD ?_) | (refine bT ?_ hbd1) | (refine bT ?_ hbd2)))
  case rest =>
  obtain ⟨w1, b, oz, cz, rfl, rfl, hbW, O, how, hneb, hb⟩ := hcut
  (have X1 := X0.below hb (Nat.le_refl _); have R1 := R0.below hb (Nat.le_refl _); have hv1 := hv0.below hb (Nat.le_refl _); have B1 := B0.trans (hb.mono B0.size))
  rw [sclTo_0 m (a % m) xs] at how
  obtain ⟨g, cap, hsl, hgl, hgl', -, -, -⟩ := how.opn (by rw [sclTo_len]; omega)
  obtain ⟨rfl, rfl⟩ : oz = some ⟨g, 0, none⟩ ∧ cz = cap := by simp at hsl; exact ⟨hsl.1, hsl.2.2⟩
  clear hsl
  have hgb := hneb g rfl
  clear hneb
  obtain ⟨bx, fx, rfl, hcx⟩ := hv.cells h1
  clear hcx
  have B1s := B1.size
  obtain ⟨x0, x1⟩ := id X1
  go_wp2_with fail
  clear x0 x1
  go_loopw [16] (fun i wr => ∃ k : Nat, k ≤ xs.length ∧ i = .int .i64 k ∧ OwI wr w0.heap.size (.slice (some ⟨g, 0, none⟩) xs.length cz) (sclTo m (a % m) xs k) ∧ w1.grownBy wr (some g)) (fun i _ => xs.length - (intOf i).toNat)
  case atStart => exact ⟨0, Nat.zero_le _, rfl, how, World.grownBy.refl _ _⟩
  case round =>
    obtain ⟨k, hk, rfl, hO, hg⟩ := hrel
    have Br := below_gr B1 hg (by omega) B1s
    by_cases hlt : k < xs.length
    · obtain ⟨x0, x1⟩ := X1.grown hg (by simp; omega)
      obtain ⟨⟨z0, z1⟩, zf⟩ := O.grown hg (by simp; omega)
      have cx := (hv.below Br (Nat.le_refl _)).cell0 (some_at0 hlt)
      have hxk := at0_range (by omega) hx k
      have hc0 := hO.cell (k := k) (mk_get hlt)
      have hf0 := hO.fz k
      have Hn := Lib.hid hO
      clear hO
      have i0 : (0 : Int) ≤ (k : Int) := by omega
      have i1 : (k : Int) < (xs.length : Int) := by omega
      go_wp2_with fail
      go_still_tail 12, (by kernel_rfl)
      still_call (stillC (mod_c _ _ _ (by omega) (by omega) (by omega) (by omega)))
      repeat still_step
      still_call (stillC (mul_c _ _ _ _ (by omega) hm' (by omega) (by omega) (by omega) (by omega)))
      repeat still_step
      refine wpStill_nil ?_
      change wpList _ _ _ _ _ wr.drew
      go_wp2
      have h2 := OwI.put Hn.out k (a % m * at0 xs k % m)
      rw [sclTo_set] at h2
      exact ⟨⟨k + 1, by omega, by go_num, h2, gr_drew (gr_put hg _ _)⟩, by simp [intOf]; omega⟩
    · obtain rfl : k = xs.length := by omega
      rw [sclTo_all] at hO
      obtain ⟨⟨z0, z1⟩, zf⟩ := O.grown hg (by simp; omega)
      obtain ⟨⟨r0, r1⟩, rf⟩ := R1.grown hg (by simp; omega)
      go_wp2
      refine bodyPost_ret (v := .agg #[.int .i64 m, .slice (some ⟨g, 0, none⟩) xs.length cz]) (by simp [results, Try.results68, go_sem, r0, r1]) rfl ⟨_, rfl, ?_, ?_⟩
      · exact ((hO.low (by first | (simp; done) | (simp; omega) | omega) _).low (by first | (simp; done) | (simp; omega) | omega) _).mono (by first | (simp; done) | (simp; omega) | omega)
      · (repeat (first | exact bR _ _ | (refine bS ?_ _) | (refine bA ?_ _) | (refine bN ?_ _) | (refine bD ?_) | (refine bT ?_ Br)))

end Go.Proofs.Ytfpphfjlpgefaaa
