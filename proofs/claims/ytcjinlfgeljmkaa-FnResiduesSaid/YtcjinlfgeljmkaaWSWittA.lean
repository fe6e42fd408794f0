/- Lemmas of WittA. -/
import Derived.Test.YtcjinlfgeljmkaaWSG2
import Derived.Test.YtcjinlfgeljmkaaWSLawW
set_option linter.unusedSimpArgs false
set_option linter.unusedVariables false
namespace Go.Proofs.Ytcjinlfgeljmkaa
open Go.RowKit

def wittB (p m : Int) (xs : List Int) : Bool := shapeB p m xs.length && xs.all (fun x => inB x 0 (m - 1))
theorem shape_m {p m n : Int} (h : shapeB p m n = true) : 2 ≤ m ∧ m ≤ 10000 := by simp [shapeB] at h; exact modB_t h.1.2
theorem shape_p {p m n : Int} (h : shapeB p m n = true) : p = 2 ∨ p = 3 ∨ p = 5 ∨ p = 7 := by simp [shapeB] at h; exact primB_t h.1.1
theorem shape_n {p m n : Int} (h : shapeB p m n = true) : 1 ≤ n ∧ n ≤ 4 := by simp [shapeB] at h; exact inB_t h.2

set_option maxHeartbeats 400000 in
set_option maxRecDepth 100000 in
theorem IsWitt1_c (p m x : Int) (v : Value) (b : Nat) (w : World) (hm : -9223372036854775808 < m) (hm' : m ≤ 9223372036854775807)
    (h1 : w.cell? ⟨b, 1, none⟩ = some (.int .i64 m)) :
    Calls Try.prog 177 #[.int .i64 x, .pointer (some ⟨b, 0, none⟩)] w fun e w' => e = .returned (.bool (inB x 0 (m - 1))) ∧ w = w' := by
  go_enter Try.func177, Try.ntmps177
  go_wp2_with (go_at_call 111; refine (isNumber_c _ _ _ hm hm').mono ?_; rintro e w' ⟨rfl, rfl⟩)
  go_ret
  exact ⟨rfl, rfl⟩
set_option maxRecDepth 100000 in
theorem IsWitt1_callable : Callable 177 := fun args w => Try.call177 args w

set_option maxHeartbeats 400000 in
set_option maxRecDepth 100000 in
theorem IsWitt_c (p m : Int) (v : Value) (xs : List Int) (w : World) (hv : RdI w v xs) :
    Calls Try.prog 62 #[.agg #[.int .i64 p, .int .i64 m, v]] w fun e w' => e = .returned (.bool (wittB p m xs)) ∧ Below w.heap.size w w' := by
  have hv1 := hv.below (w' := w.alloc (.cells #[.int .i64 p, .int .i64 m, v] 59)) ((by (repeat (first | exact Below.refl _ _ | (refine Below.setCell ?_ (by first | (simp; done) | (simp; omega) | omega) _) | (refine Below.alloc ?_ (by first | (simp; done) | (simp; omega) | omega) _) | (refine below_drewN ?_ _) | (refine Below.drew ?_))))) (Nat.le_refl _)
  obtain ⟨o, c, rfl, hm, -⟩ := hv
  unfold maxLen at hm
  have HV := Lib.hid hv1
  clear hv1
  cases hs : shapeB p m xs.length
  · go_enter Try.func62, Try.ntmps62
    go_wp2_with (go_at_call 176; refine (isShape_c _ _ _ _).mono ?_; rw [hs]; rintro e w' ⟨rfl, rfl⟩)
    go_ret
    exact ⟨by simp [wittB, hs], (by (repeat (first | exact Below.refl _ _ | (refine Below.setCell ?_ (by first | (simp; done) | (simp; omega) | omega) _) | (refine Below.alloc ?_ (by first | (simp; done) | (simp; omega) | omega) _) | (refine below_drewN ?_ _) | (refine Below.drew ?_))))⟩
  · have hm1 := shape_m hs
    have HS := Lib.hid hs
    clear hs
    go_enter Try.func62, Try.ntmps62
    go_wp2_with (go_at_call 176; refine (isShape_c _ _ _ _).mono ?_; rw [HS.out]; rintro e w' ⟨rfl, rfl⟩)
    refine (allI_c 177 _ (fun x => inB x 0 (m - 1)) _ xs _ HV.out IsWitt1_callable (fun x hx w1 hb => IsWitt1_c p m x (.slice o xs.length c) _ _ (by omega) (by omega) (keep_cell hb (Nat.le_refl _) (by simp)))).mono ?_
    rintro e w1 ⟨rfl, hb⟩
    go_wp2
    go_ret
    exact ⟨by simp [wittB, HS.out], (by (repeat (first | exact Below.refl _ _ | (refine Below.setCell ?_ (by first | (simp; done) | (simp; omega) | omega) _) | (refine Below.alloc ?_ (by first | (simp; done) | (simp; omega) | omega) _) | (refine below_drewN ?_ _) | (refine Below.drew ?_) | (refine Below.trans ?_ (Below.mono hb (by first | (simp; done) | (simp; omega) | omega))))))⟩

set_option maxHeartbeats 400000 in
set_option maxRecDepth 100000 in
theorem l13Is_c (p m : Int) (v : Value) (xs : List Int) (w : World) (hv : RdI w v xs) :
    Calls Try.prog 178 #[.agg #[.int .i64 p, .int .i64 m, v]] w fun e w' => e = .returned (.bool (wittB p m xs)) ∧ Below w.heap.size w w' := by
  have hv1 := hv.below (w' := w.alloc (.cells #[.int .i64 p, .int .i64 m, v] 59)) ((by (repeat (first | exact Below.refl _ _ | (refine Below.setCell ?_ (by first | (simp; done) | (simp; omega) | omega) _) | (refine Below.alloc ?_ (by first | (simp; done) | (simp; omega) | omega) _) | (refine below_drewN ?_ _) | (refine Below.drew ?_))))) (Nat.le_refl _)
  obtain ⟨o, c, rfl, hm, -⟩ := hv
  obtain ⟨o', c', heq, -, hc⟩ := hv1
  obtain ⟨rfl, rfl⟩ : o = o' ∧ c = c' := by simpa using heq
  clear heq
  unfold maxLen at hm
  cases hs : shapeB p m xs.length
  · go_enter Try.func178, Try.ntmps178
    go_wp2_with (go_at_call 190; refine (l13Kind_c _ _ _ _).mono ?_; rw [hs]; rintro e w' ⟨rfl, rfl⟩)
    go_ret
    exact ⟨by simp [wittB, hs], (by (repeat (first | exact Below.refl _ _ | (refine Below.setCell ?_ (by first | (simp; done) | (simp; omega) | omega) _) | (refine Below.alloc ?_ (by first | (simp; done) | (simp; omega) | omega) _) | (refine below_drewN ?_ _) | (refine Below.drew ?_))))⟩
  · have hm1 := shape_m hs
    have HS := Lib.hid hs
    clear hs
    go_enter Try.func178, Try.ntmps178
    go_wp2_with (go_at_call 190; refine (l13Kind_c _ _ _ _).mono ?_; rw [HS.out]; rintro e w' ⟨rfl, rfl⟩)
    go_loopw [3] (fun i wr => ∃ k : Nat, k ≤ xs.length ∧ i = .int .i64 k ∧ Hid (∀ j (hj : j < xs.length), j < k → inB xs[j] 0 (m - 1) = true) ∧ ∃ d, wr = (w.alloc (.cells #[.int .i64 p, .int .i64 m, .slice o xs.length c] 59)).drewN d) (fun i _ => xs.length - (intOf i).toNat)
    case atStart => exact ⟨0, Nat.zero_le _, rfl, Lib.hid (fun j hj h => by omega), 0, rfl⟩
    case round =>
      obtain ⟨k, hk, rfl, HQ, d, rfl⟩ := hrel
      by_cases hlt : k < xs.length
      · obtain ⟨b, off, rfl, hx⟩ := hc k (xs[k]) (by simp [hlt])
        cases hq : inB xs[k] 0 (m - 1)
        · go_wp2
          have hw : IntKind.i64.wrap (m - 1) = m - 1 := IntWalk.i64_in _ (by omega)
          go_quiet ((go_at_call 141; (first | exact quietA (by rw [hq]) (l01In_c _ _ _ _) | exact quietB (by rw [hq]) (l01In_c _ _ _ _) | exact quietC (by rw [hq]) (l01In_c _ _ _ _) | exact quietD (by rw [hq]) (l01In_c _ _ _ _))))
          clear hw
          go_wp2
          go_ret
          exact ⟨by simp only [wittB, HS.out, Bool.true_and]; rw [List.all_eq_false.2 ⟨xs[k], by simp, by simp [hq]⟩]; rfl, (by (repeat (first | exact Below.refl _ _ | (refine Below.setCell ?_ (by first | (simp; done) | (simp; omega) | omega) _) | (refine Below.alloc ?_ (by first | (simp; done) | (simp; omega) | omega) _) | (refine below_drewN ?_ _) | (refine Below.drew ?_))))⟩
        · go_wp2
          have hw : IntKind.i64.wrap (m - 1) = m - 1 := IntWalk.i64_in _ (by omega)
          go_quiet ((go_at_call 141; (first | exact quietA (by rw [hq]) (l01In_c _ _ _ _) | exact quietB (by rw [hq]) (l01In_c _ _ _ _) | exact quietC (by rw [hq]) (l01In_c _ _ _ _) | exact quietD (by rw [hq]) (l01In_c _ _ _ _))))
          clear hw
          go_wp2
          exact ⟨⟨k + 1, by omega, by go_num, Lib.hid (fun j hj h => by
            rcases Nat.lt_or_ge j k with h1 | h1
            · exact HQ.out j hj h1
            · obtain rfl : j = k := by omega
              exact hq), _, rfl⟩, by simp [intOf]; omega⟩
      · go_wp2
        go_ret
        exact ⟨by simp only [wittB, HS.out, Bool.true_and]; rw [List.all_eq_true.2 (fun x hx => by obtain ⟨j, hj, rfl⟩ := List.getElem_of_mem hx; exact HQ.out j hj (by omega))]; rfl, (by (repeat (first | exact Below.refl _ _ | (refine Below.setCell ?_ (by first | (simp; done) | (simp; omega) | omega) _) | (refine Below.alloc ?_ (by first | (simp; done) | (simp; omega) | omega) _) | (refine below_drewN ?_ _) | (refine Below.drew ?_))))⟩

end Go.Proofs.Ytcjinlfgeljmkaa
