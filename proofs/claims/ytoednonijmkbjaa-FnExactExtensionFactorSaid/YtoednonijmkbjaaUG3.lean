/- Lemmas of G3. -/
import Derived.Test.YtoednonijmkbjaaUG2
import Derived.Test.YtoednonijmkbjaaUG1
import Derived.Deep.RegionHeld3
import Derived.Deep.DeepCutAuto
/- Whether something is a series, a curve; whether two are alike: the program's answers and the reference's. -/
set_option linter.unusedSimpArgs false
set_option linter.unusedVariables false
namespace Go.Proofs.Ytoednonijmkbjaa
open Go.RowKit

def numsB (m : Int) (xs : List Int) : Bool := xs.all (fun x => inB x 0 (m - 1))
theorem nums_x {m : Int} {xs : List Int} (h : numsB m xs = true) : ∀ x ∈ xs, 0 ≤ x ∧ x < m := by
  intro x hx
  have := inB_t (List.all_eq_true.1 h x hx)
  omega
set_option maxHeartbeats 400000 in
theorem l01Numbers_c (m : Int) (v : Value) (xs : List Int) (w : World) (hv : RdI w v xs) (hm : -9223372036854775808 < m) (hm' : m ≤ 9223372036854775807) :
    Calls Try.prog 64 #[.int .i64 m, v] w fun e w' => e = .returned (.bool (numsB m xs)) ∧ w = w' := by
  obtain ⟨o, c, rfl, hmx, hc⟩ := hv
  unfold maxLen at hmx
  go_enter Try.func64, Try.ntmps64
  go_wp2_with fail
  go_loop [5] (fun i => ∃ k : Nat, k ≤ xs.length ∧ i = .int .i64 k ∧ Hid (∀ j (hj : j < xs.length), j < k → inB xs[j] 0 (m - 1) = true)) (fun i => xs.length - (intOf i).toNat)
  case atStart => exact ⟨0, Nat.zero_le _, rfl, Lib.hid (fun j hj h => by omega)⟩
  case round =>
    obtain ⟨k, hk, rfl, HQ⟩ := hrel
    by_cases hlt : k < xs.length
    · obtain ⟨b, off, rfl, hx⟩ := hc k (xs[k]) (by simp [hlt])
      cases hq : inB xs[k] 0 (m - 1)
      · go_wp2_with (go_at_call 21; refine (l01In_c _ _ _ _).mono ?_; rw [hq]; rintro e w' ⟨rfl, rfl⟩)
        go_ret
        exact ⟨by unfold numsB; rw [List.all_eq_false.2 ⟨xs[k], by simp, by simp [hq]⟩]; rfl, rfl⟩
      · go_wp2_with (go_at_call 21; refine (l01In_c _ _ _ _).mono ?_; rw [hq]; rintro e w' ⟨rfl, rfl⟩)
        exact ⟨⟨k + 1, by omega, by go_num, Lib.hid (fun j hj h => by
          rcases Nat.lt_or_ge j k with h1 | h1
          · exact HQ.out j hj h1
          · obtain rfl : j = k := by omega
            exact hq)⟩, by simp [intOf]; omega⟩
    · go_wp2
      go_ret
      exact ⟨by unfold numsB; rw [List.all_eq_true.2 (fun x hx => by obtain ⟨j, hj, rfl⟩ := List.getElem_of_mem hx; exact HQ.out j hj (by omega))]; rfl, rfl⟩

set_option maxHeartbeats 400000 in
theorem l01Modulus_c (m : Int) (w : World) :
    Calls Try.prog 63 #[.int .i64 m] w fun e w' => e = .returned (.bool (modB m)) ∧ w = w' := by
  go_enter Try.func63, Try.ntmps63
  go_wp2_with (go_at_call 21; refine (l01In_c _ _ _ _).mono ?_; rintro e w' ⟨rfl, rfl⟩)
  go_ret
  exact ⟨rfl, rfl⟩

end Go.Proofs.Ytoednonijmkbjaa

/- Whether something is a plane; whether two are alike: the program's answers and the reference's. -/
set_option linter.unusedSimpArgs false
set_option linter.unusedVariables false
namespace Go.Proofs.Ytoednonijmkbjaa
open Go.RowKit

def rowB (m : Int) (n j : Nat) (row : List Int) : Bool := decide (row.length = n - j) && numsB m row
def rowsB (m : Int) (xss : List (List Int)) : Bool := (List.range xss.length).all (fun j => rowB m xss.length j (xss.getD j []))
def plaB (m : Int) (xss : List (List Int)) : Bool := modB m && inB ((xss.length : Int) - 1) 1 10 && rowsB m xss
theorem getD_at {xss : List (List Int)} {j : Nat} (h : j < xss.length) : xss.getD j [] = xss[j] := by simp [List.getD, h]
theorem rowsB_t {m : Int} {xss : List (List Int)} (h : ∀ j (hj : j < xss.length), rowB m xss.length j xss[j] = true) : rowsB m xss = true := by
  unfold rowsB
  rw [List.all_eq_true]
  intro j hj
  have hj' := List.mem_range.1 hj
  rw [getD_at hj']; exact h j hj'
theorem rowsB_f {m : Int} {xss : List (List Int)} {j : Nat} (hj : j < xss.length) (h : rowB m xss.length j xss[j] = false) : rowsB m xss = false := by
  unfold rowsB
  rw [List.all_eq_false]
  exact ⟨j, List.mem_range.2 hj, by rw [getD_at hj, h]; simp⟩
theorem pla_m {m : Int} {xss : List (List Int)} (h : plaB m xss = true) : 2 ≤ m ∧ m ≤ 10000 := by simp [plaB] at h; exact modB_t h.1.1
theorem pla_n {m : Int} {xss : List (List Int)} (h : plaB m xss = true) : 2 ≤ xss.length ∧ xss.length ≤ 11 := by simp [plaB] at h; have := inB_t h.1.2; omega
theorem pla_row {m : Int} {xss : List (List Int)} (h : plaB m xss = true) (j : Nat) (hj : j < xss.length) : xss[j].length = xss.length - j ∧ ∀ x ∈ xss[j], 0 ≤ x ∧ x < m := by
  simp only [plaB, Bool.and_eq_true, rowsB, List.all_eq_true] at h
  have := h.2 j (List.mem_range.2 hj)
  rw [getD_at hj] at this
  simp only [rowB, Bool.and_eq_true, decide_eq_true_eq] at this
  exact ⟨this.1, nums_x this.2⟩
def alikeP (m : Int) (xss : List (List Int)) (n : Int) (yss : List (List Int)) : Bool := (m == n) && ((xss.length : Int) == (yss.length : Int))
set_option maxHeartbeats 400000 in
theorem degreeP_c (m : Int) (o : Option Addr) (n c : Nat) (w : World) (hn : n ≤ maxLen) :
    Calls Try.prog 40 #[.agg #[.int .i64 m, .slice o n c]] w fun e w' => e = .returned (.int .i64 ((n : Int) - 1)) ∧ Below w.heap.size w w' := by
  unfold maxLen at hn
  go_enter Try.func40, Try.ntmps40
  go_wp2
  go_ret
  exact ⟨rfl, (by (repeat (first | exact Below.refl _ _ | (refine Below.setCell ?_ (by first | (simp; done) | (simp; omega) | omega) _) | (refine Below.alloc ?_ (by first | (simp; done) | (simp; omega) | omega) _) | (refine below_drewN ?_ _) | (refine Below.drew ?_))))⟩

set_option maxHeartbeats 400000 in
theorem IsPlane1_c (m x : Int) (b : Nat) (w : World) (hm : -9223372036854775808 < m) (hm' : m ≤ 9223372036854775807)
    (h1 : w.cell? ⟨b, 0, none⟩ = some (.int .i64 m)) :
    Calls Try.prog 114 #[.int .i64 x, .pointer (some ⟨b, 0, none⟩)] w fun e w' => e = .returned (.bool (inB x 0 (m - 1))) ∧ w = w' := by
  go_enter Try.func114, Try.ntmps114
  go_wp2_with (go_at_call 90; refine (isNumber_c _ _ _ hm hm').mono ?_; rintro e w' ⟨rfl, rfl⟩)
  go_ret
  exact ⟨rfl, rfl⟩
theorem IsPlane1_callable : Callable 114 := fun args w => Try.call114 args w

set_option maxHeartbeats 1000000 in
theorem IsPlane_c (m : Int) (v : Value) (xss : List (List Int)) (w : World) (hv : RdT w v xss) :
    Calls Try.prog 97 #[.agg #[.int .i64 m, v]] w fun e w' => e = .returned (.bool (plaB m xss)) ∧ Below w.heap.size w w' := by
  obtain ⟨o, c, rfl, hm, -⟩ := id hv
  have hml := hm.1
  unfold maxLen at hm
  cases hs : modB m
  · go_enter Try.func97, Try.ntmps97
    go_wp2_with (go_at_call 65; refine (IsModulus_c _ _).mono ?_; rw [hs]; rintro e w' ⟨rfl, rfl⟩)
    go_ret
    exact ⟨by simp [plaB, hs], (by (repeat (first | exact Below.refl _ _ | (refine Below.setCell ?_ (by first | (simp; done) | (simp; omega) | omega) _) | (refine Below.alloc ?_ (by first | (simp; done) | (simp; omega) | omega) _) | (refine below_drewN ?_ _) | (refine Below.drew ?_))))⟩
  · have hm1 := modB_t hs
    cases ht : inB ((xss.length : Int) - 1) 1 10
    all_goals
      go_enter Try.func97, Try.ntmps97
      go_wp2_with (go_at_call 65; refine (IsModulus_c _ _).mono ?_; rw [hs]; rintro e w' ⟨rfl, rfl⟩)
      (have X0 := ((RB2.mk1 w  (.int .i64 m) (.slice o xss.length c) 24).1).below (w' := (w.alloc (.cells #[.int .i64 m, .slice o xss.length c] 24))) (by (repeat (first | exact Below.refl _ _ | (refine Below.setCell ?_ (by first | (simp; done) | (simp; omega) | omega) _) | (refine Below.alloc ?_ (by first | (simp; done) | (simp; omega) | omega) _) | (refine below_drewN ?_ _) | (refine Below.drew ?_)))) (Nat.le_refl _); have B0 : Below w.heap.size w (w.alloc (.cells #[.int .i64 m, .slice o xss.length c] 24)) := (by (repeat (first | exact Below.refl _ _ | (refine Below.setCell ?_ (by first | (simp; done) | (simp; omega) | omega) _) | (refine Below.alloc ?_ (by first | (simp; done) | (simp; omega) | omega) _) | (refine below_drewN ?_ _) | (refine Below.drew ?_)))); have hv0 := hv.below (w' := (w.alloc (.cells #[.int .i64 m, .slice o xss.length c] 24))) (by (repeat (first | exact Below.refl _ _ | (refine Below.setCell ?_ (by first | (simp; done) | (simp; omega) | omega) _) | (refine Below.alloc ?_ (by first | (simp; done) | (simp; omega) | omega) _) | (refine below_drewN ?_ _) | (refine Below.drew ?_)))) (Nat.le_refl _); generalize w.alloc (.cells #[.int .i64 m, .slice o xss.length c] 24) = w0 at X0 B0 hv0 ⊢)
      obtain ⟨x0, x1⟩ := id X0
      go_wp2_with fail
      refine (degreeP_c m o xss.length c _ hml).mono ?_
      rintro e w1 ⟨rfl, hb⟩
      (have X1 := X0.below hb (Nat.le_refl _); have hv1 := hv0.below hb (Nat.le_refl _); have B1 := B0.trans (hb.mono B0.size))
      clear x0 x1
      obtain ⟨x0, x1⟩ := id X1
      go_wp2_with (go_at_call 25; refine (in_c _ _ _ _).mono ?_; rw [ht]; rintro e w' ⟨rfl, rfl⟩)
    · go_ret
      exact ⟨by simp [plaB, ht], (by (repeat (first | exact Below.refl _ _ | (refine Below.setCell ?_ (by first | (simp; done) | (simp; omega) | omega) _) | (refine Below.alloc ?_ (by first | (simp; done) | (simp; omega) | omega) _) | (refine below_drewN ?_ _) | (refine Below.drew ?_) | (refine Below.trans ?_ (Below.mono B1 (by first | (simp; done) | (simp; omega) | omega))))))⟩
    · clear x0 x1
      have hB1s := B1.size
      go_loopw [18] (fun i wr => ∃ k : Nat, k ≤ xss.length ∧ i = .int .i64 k ∧ Hid (∀ j (hj : j < xss.length), j < k → rowB m xss.length j xss[j] = true) ∧ Below w1.heap.size w1 wr) (fun i _ => xss.length - (intOf i).toNat)
      case atStart => exact ⟨0, Nat.zero_le _, rfl, Lib.hid (fun j hj h => by omega), Below.refl _ _⟩
      case round =>
        obtain ⟨k, hk, rfl, HQ, hbr⟩ := hrel
        have hvr := hv1.below hbr (Nat.le_refl _)
        obtain ⟨x0, x1⟩ := X1.below hbr (Nat.le_refl _)
        have hbs := hbr.size
        by_cases hlt : k < xss.length
        · obtain ⟨b, off, rfl, -⟩ := hvr.rows (by omega)
          obtain ⟨o', c', hx, hr⟩ := hvr.row (show xss[k]? = some xss[k] by simp [hlt])
          have hrl := hr.len.2.1
          unfold maxLen at hrl
          cases hq : ((xss[k].length : Int) != (xss.length : Int) - (k : Int))
          · have hlen : xss[k].length = xss.length - k := by simp at hq; omega
            have HLEN := Lib.hid hlen
            clear hlen
            cases hn : numsB m xss[k]
            all_goals
              go_wp2_with fail
              refine (allI_c 114 _ (fun x => inB x 0 (m - 1)) _ xss[k] _ hr IsPlane1_callable (fun x hx w1 hb => IsPlane1_c m x _ _ (by omega) (by omega) (keep_cell hb (Nat.le_refl _) x0))).mono ?_
              rw [show xss[k].all (fun x => inB x 0 (m - 1)) = _ from hn]
              rintro e w2 ⟨rfl, hb2⟩
              have hb3 := hbr.trans (hb2.mono hbs)
              clear x0 x1
              obtain ⟨x0, x1⟩ := X1.below hb3 (Nat.le_refl _)
              go_wp2
            · go_ret
              exact ⟨by rw [show plaB m xss = false by simp [plaB, rowsB_f hlt (show rowB m xss.length k xss[k] = false by simp [rowB, hn])]]; rfl, B1.trans (hb3.mono hB1s)⟩
            · exact ⟨⟨k + 1, by omega, by go_num, Lib.hid (fun j hj h => by
                rcases Nat.lt_or_ge j k with h1 | h1
                · exact HQ.out j hj h1
                · obtain rfl : j = k := by omega
                  simp [rowB, hn, HLEN.out]), hb3⟩, by simp [intOf]; omega⟩
          · have hlen : ¬ xss[k].length = xss.length - k := by simp at hq; omega
            have HLEN := Lib.hid hlen
            clear hlen
            go_wp2
            go_ret
            exact ⟨by rw [show plaB m xss = false by simp [plaB, rowsB_f hlt (show rowB m xss.length k xss[k] = false by simp [rowB, HLEN.out])]]; rfl, B1.trans (hbr.mono hB1s)⟩
        · go_wp2
          go_ret
          exact ⟨by rw [show plaB m xss = true by simp [plaB, hs, ht, rowsB_t (fun j hj => HQ.out j hj (by omega))]]; rfl, B1.trans (hbr.mono hB1s)⟩

set_option maxHeartbeats 1000000 in
theorem l03Is_c (m : Int) (v : Value) (xss : List (List Int)) (w : World) (hv : RdT w v xss) :
    Calls Try.prog 91 #[.agg #[.int .i64 m, v]] w fun e w' => e = .returned (.bool (plaB m xss)) ∧ Below w.heap.size w w' := by
  obtain ⟨o, c, rfl, hm, -⟩ := id hv
  have hml := hm.1
  unfold maxLen at hm
  cases hs : modB m
  · go_enter Try.func91, Try.ntmps91
    go_wp2_with (go_at_call 63; refine (l01Modulus_c _ _).mono ?_; rw [hs]; rintro e w' ⟨rfl, rfl⟩)
    go_ret
    exact ⟨by simp [plaB, hs], (by (repeat (first | exact Below.refl _ _ | (refine Below.setCell ?_ (by first | (simp; done) | (simp; omega) | omega) _) | (refine Below.alloc ?_ (by first | (simp; done) | (simp; omega) | omega) _) | (refine below_drewN ?_ _) | (refine Below.drew ?_))))⟩
  · have hm1 := modB_t hs
    cases ht : inB ((xss.length : Int) - 1) 1 10
    · have hno := inB_f ht
      have HT := Lib.hid ht
      clear ht
      by_cases h2 : (xss.length : Int) < 2
      · go_enter Try.func91, Try.ntmps91
        go_wp2_with (go_at_call 63; refine (l01Modulus_c _ _).mono ?_; rw [hs]; rintro e w' ⟨rfl, rfl⟩)
        go_ret
        exact ⟨by simp [plaB, HT.out], (by (repeat (first | exact Below.refl _ _ | (refine Below.setCell ?_ (by first | (simp; done) | (simp; omega) | omega) _) | (refine Below.alloc ?_ (by first | (simp; done) | (simp; omega) | omega) _) | (refine below_drewN ?_ _) | (refine Below.drew ?_))))⟩
      · have h3 : (11 : Int) < (xss.length : Int) := by omega
        clear hno
        go_enter Try.func91, Try.ntmps91
        go_wp2_with (go_at_call 63; refine (l01Modulus_c _ _).mono ?_; rw [hs]; rintro e w' ⟨rfl, rfl⟩)
        go_ret
        exact ⟨by simp [plaB, HT.out], (by (repeat (first | exact Below.refl _ _ | (refine Below.setCell ?_ (by first | (simp; done) | (simp; omega) | omega) _) | (refine Below.alloc ?_ (by first | (simp; done) | (simp; omega) | omega) _) | (refine below_drewN ?_ _) | (refine Below.drew ?_))))⟩
    · have hyes := inB_t ht
      have HT := Lib.hid ht
      clear ht
      have h2 : ¬ (xss.length : Int) < 2 := by omega
      have h3 : ¬ (11 : Int) < (xss.length : Int) := by omega
      clear hyes
      obtain ⟨b, off, rfl, -⟩ := hv.rows (by omega)
      go_enter Try.func91, Try.ntmps91
      go_wp2_with (go_at_call 63; refine (l01Modulus_c _ _).mono ?_; rw [hs]; rintro e w' ⟨rfl, rfl⟩)
      (have X0 := ((RB2.mk1 w  (.int .i64 m) (.slice (some ⟨b, off, none⟩) xss.length c) 24).1).below (w' := (w.alloc (.cells #[.int .i64 m, .slice (some ⟨b, off, none⟩) xss.length c] 24))) (by (repeat (first | exact Below.refl _ _ | (refine Below.setCell ?_ (by first | (simp; done) | (simp; omega) | omega) _) | (refine Below.alloc ?_ (by first | (simp; done) | (simp; omega) | omega) _) | (refine below_drewN ?_ _) | (refine Below.drew ?_)))) (Nat.le_refl _); have B0 : Below w.heap.size w (w.alloc (.cells #[.int .i64 m, .slice (some ⟨b, off, none⟩) xss.length c] 24)) := (by (repeat (first | exact Below.refl _ _ | (refine Below.setCell ?_ (by first | (simp; done) | (simp; omega) | omega) _) | (refine Below.alloc ?_ (by first | (simp; done) | (simp; omega) | omega) _) | (refine below_drewN ?_ _) | (refine Below.drew ?_)))); have hv0 := hv.below (w' := (w.alloc (.cells #[.int .i64 m, .slice (some ⟨b, off, none⟩) xss.length c] 24))) (by (repeat (first | exact Below.refl _ _ | (refine Below.setCell ?_ (by first | (simp; done) | (simp; omega) | omega) _) | (refine Below.alloc ?_ (by first | (simp; done) | (simp; omega) | omega) _) | (refine below_drewN ?_ _) | (refine Below.drew ?_)))) (Nat.le_refl _); generalize w.alloc (.cells #[.int .i64 m, .slice (some ⟨b, off, none⟩) xss.length c] 24) = w0 at X0 B0 hv0 ⊢)
      go_loopw [4] (fun i wr => ∃ k : Nat, k ≤ xss.length ∧ i = .int .i64 k ∧ Hid (∀ j (hj : j < xss.length), j < k → rowB m xss.length j xss[j] = true) ∧ ∃ d, wr = w0.drewN d) (fun i _ => xss.length - (intOf i).toNat)
      case atStart => exact ⟨0, Nat.zero_le _, rfl, Lib.hid (fun j hj h => by omega), 0, rfl⟩
      case round =>
        obtain ⟨k, hk, rfl, HQ, d, rfl⟩ := hrel
        obtain ⟨x0, x1⟩ := id X0
        by_cases hlt : k < xss.length
        · obtain ⟨o', c', hx, hr⟩ := hv0.row (show xss[k]? = some xss[k] by simp [hlt])
          have hrl := hr.len.2.1
          unfold maxLen at hrl
          have i0 : (0 : Int) ≤ (k : Int) := by omega
          have i1 : (k : Int) < (xss.length : Int) := by omega
          have hw : IntKind.i64.wrap ((xss.length : Int) - (k : Int)) = (xss.length : Int) - (k : Int) := IntWalk.i64_in _ (by omega)
          cases hq : ((xss[k].length : Int) != (xss.length : Int) - (k : Int))
          · have hlen : xss[k].length = xss.length - k := by simp at hq; omega
            have HLEN := Lib.hid hlen
            clear hlen
            cases hn : numsB m xss[k]
            all_goals
              go_wp2_with fail
              go_quiet ((go_at_call 64; (first | exact quietA (by rw [hn]) (l01Numbers_c m _ xss[k] _ hr (by omega) (by omega)) | exact quietB (by rw [hn]) (l01Numbers_c m _ xss[k] _ hr (by omega) (by omega)) | exact quietC (by rw [hn]) (l01Numbers_c m _ xss[k] _ hr (by omega) (by omega)) | exact quietD (by rw [hn]) (l01Numbers_c m _ xss[k] _ hr (by omega) (by omega)))))
              clear hw
              go_wp2
            · go_ret
              exact ⟨by rw [show plaB m xss = false by simp [plaB, rowsB_f hlt (show rowB m xss.length k xss[k] = false by simp [rowB, hn])]]; rfl, (by (repeat (first | exact Below.refl _ _ | (refine Below.setCell ?_ (by first | (simp; done) | (simp; omega) | omega) _) | (refine Below.alloc ?_ (by first | (simp; done) | (simp; omega) | omega) _) | (refine below_drewN ?_ _) | (refine Below.drew ?_) | (refine Below.trans ?_ (Below.mono B0 (by first | (simp; done) | (simp; omega) | omega))))))⟩
            · exact ⟨⟨k + 1, by omega, by go_num, Lib.hid (fun j hj h => by
                rcases Nat.lt_or_ge j k with h1 | h1
                · exact HQ.out j hj h1
                · obtain rfl : j = k := by omega
                  simp [rowB, hn, HLEN.out]), _, rfl⟩, by simp [intOf]; omega⟩
          · have hlen : ¬ xss[k].length = xss.length - k := by simp at hq; omega
            have HLEN := Lib.hid hlen
            clear hlen
            go_wp2_with fail
            go_quiet (fail)
            clear hw
            go_wp2
            go_ret
            exact ⟨by rw [show plaB m xss = false by simp [plaB, rowsB_f hlt (show rowB m xss.length k xss[k] = false by simp [rowB, HLEN.out])]]; rfl, (by (repeat (first | exact Below.refl _ _ | (refine Below.setCell ?_ (by first | (simp; done) | (simp; omega) | omega) _) | (refine Below.alloc ?_ (by first | (simp; done) | (simp; omega) | omega) _) | (refine below_drewN ?_ _) | (refine Below.drew ?_) | (refine Below.trans ?_ (Below.mono B0 (by first | (simp; done) | (simp; omega) | omega))))))⟩
        · go_wp2
          go_ret
          exact ⟨by rw [show plaB m xss = true by simp [plaB, hs, HT.out, rowsB_t (fun j hj => HQ.out j hj (by omega))]]; rfl, (by (repeat (first | exact Below.refl _ _ | (refine Below.setCell ?_ (by first | (simp; done) | (simp; omega) | omega) _) | (refine Below.alloc ?_ (by first | (simp; done) | (simp; omega) | omega) _) | (refine below_drewN ?_ _) | (refine Below.drew ?_) | (refine Below.trans ?_ (Below.mono B0 (by first | (simp; done) | (simp; omega) | omega))))))⟩

end Go.Proofs.Ytoednonijmkbjaa

/- Whether two planes are alike. -/
set_option linter.unusedSimpArgs false
set_option linter.unusedVariables false
namespace Go.Proofs.Ytoednonijmkbjaa
open Go.RowKit

set_option maxHeartbeats 1000000 in
theorem alikeP_c (m n : Int) (v u : Value) (xs ys : List (List Int)) (w : World) (hv : RdT w v xs) (hu : RdT w u ys) :
    Calls Try.prog 73 #[.agg #[.int .i64 m, v], .agg #[.int .i64 n, u]] w fun e w' => e = .returned (.bool (alikeP m xs n ys)) ∧ Below w.heap.size w w' := by
  obtain ⟨o, c, rfl, hm, -⟩ := id hv
  obtain ⟨o', c', rfl, hm', -⟩ := id hu
  have hl1 := hm.1
  have hl2 := hm'.1
  unfold maxLen at hm hm'
  have e2 : ((xs.length : Int) - 1 == (ys.length : Int) - 1) = ((xs.length : Int) == (ys.length : Int)) := by
    rw [Bool.eq_iff_iff]; simp only [beq_iff_eq]; omega
  cases h1 : (m == n)
  · go_enter Try.func73, Try.ntmps73
    go_wp2_with fail
    (have X0 := ((RB2.mk1 w  (.int .i64 m) (.slice o xs.length c) 24).1).below (w' := ((w.alloc (.cells #[.int .i64 m, .slice o xs.length c] 24)).alloc (.cells #[.int .i64 n, .slice o' ys.length c'] 24))) (by (repeat (first | exact Below.refl _ _ | (refine Below.setCell ?_ (by first | (simp; done) | (simp; omega) | omega) _) | (refine Below.alloc ?_ (by first | (simp; done) | (simp; omega) | omega) _) | (refine below_drewN ?_ _) | (refine Below.drew ?_)))) (Nat.le_refl _); have Y0 := ((RB2.mk2 w (.cells #[.int .i64 m, .slice o xs.length c] 24) (.int .i64 n) (.slice o' ys.length c') 24).1).below (w' := ((w.alloc (.cells #[.int .i64 m, .slice o xs.length c] 24)).alloc (.cells #[.int .i64 n, .slice o' ys.length c'] 24))) (by (repeat (first | exact Below.refl _ _ | (refine Below.setCell ?_ (by first | (simp; done) | (simp; omega) | omega) _) | (refine Below.alloc ?_ (by first | (simp; done) | (simp; omega) | omega) _) | (refine below_drewN ?_ _) | (refine Below.drew ?_)))) (Nat.le_refl _); have B0 : Below w.heap.size w ((w.alloc (.cells #[.int .i64 m, .slice o xs.length c] 24)).alloc (.cells #[.int .i64 n, .slice o' ys.length c'] 24)) := (by (repeat (first | exact Below.refl _ _ | (refine Below.setCell ?_ (by first | (simp; done) | (simp; omega) | omega) _) | (refine Below.alloc ?_ (by first | (simp; done) | (simp; omega) | omega) _) | (refine below_drewN ?_ _) | (refine Below.drew ?_)))); have hv0 := hv.below (w' := ((w.alloc (.cells #[.int .i64 m, .slice o xs.length c] 24)).alloc (.cells #[.int .i64 n, .slice o' ys.length c'] 24))) (by (repeat (first | exact Below.refl _ _ | (refine Below.setCell ?_ (by first | (simp; done) | (simp; omega) | omega) _) | (refine Below.alloc ?_ (by first | (simp; done) | (simp; omega) | omega) _) | (refine below_drewN ?_ _) | (refine Below.drew ?_)))) (Nat.le_refl _); have hu0 := hu.below (w' := ((w.alloc (.cells #[.int .i64 m, .slice o xs.length c] 24)).alloc (.cells #[.int .i64 n, .slice o' ys.length c'] 24))) (by (repeat (first | exact Below.refl _ _ | (refine Below.setCell ?_ (by first | (simp; done) | (simp; omega) | omega) _) | (refine Below.alloc ?_ (by first | (simp; done) | (simp; omega) | omega) _) | (refine below_drewN ?_ _) | (refine Below.drew ?_)))) (Nat.le_refl _); generalize (w.alloc (.cells #[.int .i64 m, .slice o xs.length c] 24)).alloc (.cells #[.int .i64 n, .slice o' ys.length c'] 24) = w0 at X0 Y0 B0 hv0 hu0 ⊢)
    obtain ⟨x0, x1⟩ := id X0
    obtain ⟨y0, y1⟩ := id Y0
    go_quiet (fail)
    go_wp2
    go_ret
    exact ⟨by simp only [alikeP, h1]; rfl, below_drewN B0 _⟩
  · have E1 := Lib.hid e2
    clear e2
    go_enter Try.func73, Try.ntmps73
    go_wp2_with fail
    (have X0 := ((RB2.mk1 w  (.int .i64 m) (.slice o xs.length c) 24).1).below (w' := ((w.alloc (.cells #[.int .i64 m, .slice o xs.length c] 24)).alloc (.cells #[.int .i64 n, .slice o' ys.length c'] 24))) (by (repeat (first | exact Below.refl _ _ | (refine Below.setCell ?_ (by first | (simp; done) | (simp; omega) | omega) _) | (refine Below.alloc ?_ (by first | (simp; done) | (simp; omega) | omega) _) | (refine below_drewN ?_ _) | (refine Below.drew ?_)))) (Nat.le_refl _); have Y0 := ((RB2.mk2 w (.cells #[.int .i64 m, .slice o xs.length c] 24) (.int .i64 n) (.slice o' ys.length c') 24).1).below (w' := ((w.alloc (.cells #[.int .i64 m, .slice o xs.length c] 24)).alloc (.cells #[.int .i64 n, .slice o' ys.length c'] 24))) (by (repeat (first | exact Below.refl _ _ | (refine Below.setCell ?_ (by first | (simp; done) | (simp; omega) | omega) _) | (refine Below.alloc ?_ (by first | (simp; done) | (simp; omega) | omega) _) | (refine below_drewN ?_ _) | (refine Below.drew ?_)))) (Nat.le_refl _); have B0 : Below w.heap.size w ((w.alloc (.cells #[.int .i64 m, .slice o xs.length c] 24)).alloc (.cells #[.int .i64 n, .slice o' ys.length c'] 24)) := (by (repeat (first | exact Below.refl _ _ | (refine Below.setCell ?_ (by first | (simp; done) | (simp; omega) | omega) _) | (refine Below.alloc ?_ (by first | (simp; done) | (simp; omega) | omega) _) | (refine below_drewN ?_ _) | (refine Below.drew ?_)))); have hv0 := hv.below (w' := ((w.alloc (.cells #[.int .i64 m, .slice o xs.length c] 24)).alloc (.cells #[.int .i64 n, .slice o' ys.length c'] 24))) (by (repeat (first | exact Below.refl _ _ | (refine Below.setCell ?_ (by first | (simp; done) | (simp; omega) | omega) _) | (refine Below.alloc ?_ (by first | (simp; done) | (simp; omega) | omega) _) | (refine below_drewN ?_ _) | (refine Below.drew ?_)))) (Nat.le_refl _); have hu0 := hu.below (w' := ((w.alloc (.cells #[.int .i64 m, .slice o xs.length c] 24)).alloc (.cells #[.int .i64 n, .slice o' ys.length c'] 24))) (by (repeat (first | exact Below.refl _ _ | (refine Below.setCell ?_ (by first | (simp; done) | (simp; omega) | omega) _) | (refine Below.alloc ?_ (by first | (simp; done) | (simp; omega) | omega) _) | (refine below_drewN ?_ _) | (refine Below.drew ?_)))) (Nat.le_refl _); generalize (w.alloc (.cells #[.int .i64 m, .slice o xs.length c] 24)).alloc (.cells #[.int .i64 n, .slice o' ys.length c'] 24) = w0 at X0 Y0 B0 hv0 hu0 ⊢)
    obtain ⟨x0, x1⟩ := id X0
    obtain ⟨y0, y1⟩ := id Y0
    have hX := X0
    have hY := Y0
    go_region_held3 (fun w' => w'.cell? ⟨w.heap.size, 0, none⟩ = some (.int .i64 m) ∧ w'.cell? ⟨w.heap.size, 1, none⟩ = some (.slice o xs.length c) ∧ w'.cell? ⟨w.heap.size + 1, 0, none⟩ = some (.int .i64 n) ∧ w'.cell? ⟨w.heap.size + 1, 1, none⟩ = some (.slice o' ys.length c')) (go_keep)
      (first
        | (go_at_call_of 40 (Value.agg #[.int .i64 m, .slice o xs.length c]); refine (degreeP_c m o xs.length c _ hl1).mono ?_; rintro e w1 ⟨rfl, hb1⟩; have hX1 := (show Box2 w0.drew _ _ _ from hX).below hb1 (Nat.le_refl _); have hY1 := (show Box2 w0.drew _ _ _ from hY).below hb1 (Nat.le_refl _); obtain ⟨a1, a2⟩ := id hX1; obtain ⟨b1, b2⟩ := id hY1)
        | (go_at_call_of 40 (Value.agg #[.int .i64 n, .slice o' ys.length c']); refine (degreeP_c n o' ys.length c' _ hl2).mono ?_; rintro e w2 ⟨rfl, hb2⟩; obtain ⟨a3, a4⟩ := hX1.below hb2 (Nat.le_refl _); obtain ⟨b3, b4⟩ := hY1.below hb2 (Nat.le_refl _)))
    have s0 := B0.size
    have s1 := hb1.size
    have s2 := hb2.size
    simp at s1
    go_wp2
    go_ret
    exact ⟨by rw [E1.out]; simp only [alikeP, h1]; rfl, (by (repeat (first | exact Below.refl _ _ | (refine Below.setCell ?_ (by first | (simp; done) | (simp; omega) | omega) _) | (refine Below.alloc ?_ (by first | (simp; done) | (simp; omega) | omega) _) | (refine below_drewN ?_ _) | (refine Below.drew ?_) | (refine Below.trans ?_ (Below.mono hb2 (by first | (simp; done) | (simp; omega) | omega))) | (refine Below.trans ?_ (Below.mono hb1 (by first | (simp; done) | (simp; omega) | omega))) | (refine Below.trans ?_ (Below.mono B0 (by first | (simp; done) | (simp; omega) | omega))))))⟩

end Go.Proofs.Ytoednonijmkbjaa

/- Arithmetic modulo a number: the program's functions and the reference's. -/
set_option linter.unusedSimpArgs false
set_option linter.unusedVariables false
namespace Go.Proofs.Ytoednonijmkbjaa
open Go.RowKit

set_option maxHeartbeats 400000 in
theorem mod_c (n m : Int) (w : World) (hm : 0 < m) (hm' : m ≤ 1000000000000000000) (h1 : -9000000000000000000 ≤ n) (h2 : n ≤ 9000000000000000000) :
    Calls Try.prog 75 #[.int .i64 n, .int .i64 m] w fun e w' => e = .returned (.int .i64 (n % m)) ∧ w = w' := by
  have h3 : -m < n.tmod m := Int.lt_tmod_of_pos _ hm
  have h4 : n.tmod m < m := Int.tmod_lt_of_pos _ hm
  have HE := Lib.hid (tmod_mod (n := n) (m := m))
  go_enter Try.func75, Try.ntmps75
  go_wp2
  go_ret
  exact ⟨by rw [← HE.out]; rfl, rfl⟩

set_option maxHeartbeats 400000 in
theorem mul_c (m a b : Int) (w : World) (hm : 1 ≤ m) (hm' : m ≤ 3000000000) (ha : 0 ≤ a) (hb : 0 ≤ b) (ha' : a < m) (hb' : b < m) :
    Calls Try.prog 56 #[.int .i64 m, .int .i64 a, .int .i64 b] w fun e w' => e = .returned (.int .i64 (a * b % m)) ∧ w = w' := by
  obtain ⟨h1, h2⟩ := prod_fits ha hb ha' hb' hm'
  go_enter Try.func56, Try.ntmps56
  go_wp2
  go_ret
  exact ⟨rfl, rfl⟩

end Go.Proofs.Ytoednonijmkbjaa

/- Series: the program's sums, products and compositions. -/
set_option linter.unusedSimpArgs false
set_option linter.unusedVariables false
namespace Go.Proofs.Ytoednonijmkbjaa
open Go.RowKit

structure SR where
  m : Int
  xs : List Int
  code : Int
end Go.Proofs.Ytoednonijmkbjaa
