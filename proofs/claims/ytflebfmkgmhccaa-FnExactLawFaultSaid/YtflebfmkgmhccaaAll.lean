/- all, and what it calls of package slices, for a condition that is a closure over one pointer. -/
import Derived.Test.YtflebfmkgmhccaaNum
set_option linter.unusedSimpArgs false
set_option linter.unusedVariables false
namespace Go.Proofs.Ytflebfmkgmhccaa
open Go.RowKit

/-- The first place where q holds, or -1. -/
def findI {T : Type} (q : T → Bool) : List T → Int
  | [] => -1
  | x :: xs => if q x then 0 else if findI q xs < 0 then -1 else findI q xs + 1

theorem findI_ge {T : Type} (q : T → Bool) (xs : List T) : -1 ≤ findI q xs := by
  induction xs with
  | nil => simp [findI]
  | cons x xs ih =>
    simp only [findI]
    split
    · omega
    · split <;> omega

theorem findI_any {T : Type} (q : T → Bool) (xs : List T) : decide (0 ≤ findI q xs) = xs.any q := by
  induction xs with
  | nil => simp [findI]
  | cons x xs ih =>
    rw [List.any_cons, ← ih]
    simp only [findI]
    by_cases hx : q x = true
    · simp [hx]
    · by_cases h2 : findI q xs < 0
      · simp [hx, h2]
      · simp [hx, h2]; omega

theorem findI_at {T : Type} (q : T → Bool) (xs : List T) (k : Nat) (hk : k < xs.length) (h0 : ∀ j (hj : j < xs.length), j < k → q xs[j] = false) (h1 : q xs[k] = true) : findI q xs = k := by
  induction xs generalizing k with
  | nil => simp at hk
  | cons x xs ih =>
    cases k with
    | zero =>
      have h1' : q x = true := h1
      unfold findI; rw [if_pos h1']; rfl
    | succ k =>
      have hx : q x = false := h0 0 (by simp) (by omega)
      have := ih k (by simpa using hk) (fun j hj hlt => h0 (j+1) (by simpa using hj) (by omega)) h1
      unfold findI
      rw [if_neg (by simp [hx]), this, if_neg (by omega)]; omega

theorem findI_none {T : Type} (q : T → Bool) (xs : List T) (h0 : ∀ j (hj : j < xs.length), q xs[j] = false) : findI q xs = -1 := by
  induction xs with
  | nil => rfl
  | cons x xs ih =>
    have hx : q x = false := h0 0 (by simp)
    have := ih (fun j hj => h0 (j+1) (by simpa using hj))
    unfold findI
    rw [if_neg (by simp [hx]), this, if_pos (by omega)]

set_option maxHeartbeats 400000 in
theorem IndexFuncI_c (K : Nat) (c : Value) (q : Int → Bool) (v : Value) (xs : List Int) (w : World) (hv : RdI w v xs) (hK : Callable K)
    (hF : ∀ x ∈ xs, Calls Try.prog K #[.int .i64 x, c] w fun e w' => e = .returned (.bool (q x)) ∧ w = w') :
    Calls Try.prog 159 #[v, .func (.func K) #[] #[c]] w fun e w' => e = .returned (.int .i64 (findI q xs)) ∧ w = w' := by
  obtain ⟨o, cp, rfl, hm, hc⟩ := hv
  unfold maxLen at hm
  unfold Callable at hK
  have HF := Lib.hid hF
  clear hF
  go_enter Try.func159, Try.ntmps159
  go_wp2
  go_loop [5, 8] (fun _ i => ∃ k : Nat, k ≤ xs.length ∧ i = .int .i64 k ∧ Hid (∀ j (hj : j < xs.length), j < k → q xs[j] = false)) (fun _ i => xs.length - (intOf i).toNat)
  case atStart => exact ⟨0, Nat.zero_le _, rfl, Lib.hid (fun j hj h => by omega)⟩
  case round =>
    obtain ⟨k, hk, rfl, HQ⟩ := hrel
    by_cases hlt : k < xs.length
    · obtain ⟨b, off, rfl, hx⟩ := hc k (xs[k]) (by simp [hlt])
      cases hq : q xs[k]
      · go_wp2_with fail
        refine (HF.out xs[k] (by simp)).mono ?_
        rw [hq]
        rintro e w' ⟨rfl, rfl⟩
        go_wp2
        exact ⟨⟨k + 1, by omega, by go_num, Lib.hid (fun j hj h => by
          rcases Nat.lt_or_ge j k with h1 | h1
          · exact HQ.out j hj h1
          · obtain rfl : j = k := by omega
            exact hq)⟩, by simp [intOf]; omega⟩
      · go_wp2_with fail
        refine (HF.out xs[k] (by simp)).mono ?_
        rw [hq]
        rintro e w' ⟨rfl, rfl⟩
        go_wp2
        go_ret
        exact ⟨by rw [findI_at q xs k hlt HQ.out hq]; rfl, rfl⟩
    · go_wp2
      go_ret
      exact ⟨by rw [findI_none q xs (fun j hj => HQ.out j hj (by omega))]; rfl, rfl⟩

set_option maxHeartbeats 400000 in
theorem ContainsFuncI_c (K : Nat) (c : Value) (q : Int → Bool) (v : Value) (xs : List Int) (w : World) (hv : RdI w v xs) (hK : Callable K)
    (hF : ∀ x ∈ xs, Calls Try.prog K #[.int .i64 x, c] w fun e w' => e = .returned (.bool (q x)) ∧ w = w') :
    Calls Try.prog 144 #[v, .func (.func K) #[] #[c]] w fun e w' => e = .returned (.bool (xs.any q)) ∧ w = w' := by
  have HF := Lib.hid hF
  clear hF
  go_enter Try.func144, Try.ntmps144
  go_wp2_with (go_at_call 159; refine (IndexFuncI_c K c q _ xs _ hv hK HF.out).mono ?_; rintro e w' ⟨rfl, rfl⟩)
  go_ret
  exact ⟨by rw [← findI_any]; rfl, rfl⟩

set_option maxHeartbeats 400000 in
theorem allI1_c (G : Nat) (c : Value) (x : Int) (b : Bool) (a : Addr) (w : World) (hG : Callable G) (ha : w.cell? a = some (.func (.func G) #[] #[c]))
    (hF : Calls Try.prog G #[.int .i64 x, c] w fun e w' => e = .returned (.bool b) ∧ w = w') :
    Calls Try.prog 145 #[.int .i64 x, .pointer (some a)] w fun e w' => e = .returned (.bool (!b)) ∧ w = w' := by
  have HF := Lib.hid hF
  clear hF
  unfold Callable at hG
  go_enter Try.func145, Try.ntmps145
  go_wp2_with fail
  refine HF.out.mono ?_
  rintro e w' ⟨rfl, rfl⟩
  go_wp2
  go_ret
  exact ⟨rfl, rfl⟩
theorem allI1_callable : Callable 145 := fun args w => Try.call145 args w

set_option maxHeartbeats 400000 in
theorem allI_c (G : Nat) (c : Value) (p : Int → Bool) (v : Value) (xs : List Int) (w : World) (hv : RdI w v xs) (hG : Callable G)
    (hF : ∀ x ∈ xs, ∀ w1, Below w.heap.size w w1 → Calls Try.prog G #[.int .i64 x, c] w1 fun e w' => e = .returned (.bool (p x)) ∧ w1 = w') :
    Calls Try.prog 108 #[v, .func (.func G) #[] #[c]] w fun e w' => e = .returned (.bool (xs.all p)) ∧ Below w.heap.size w w' := by
  have HF := Lib.hid hF
  clear hF
  go_enter Try.func108, Try.ntmps108
  go_wp2_with fail
  refine (ContainsFuncI_c 145 _ (fun x => !(p x)) _ xs _ (hv.below ((by (repeat (first | exact Below.refl _ _ | (refine Below.setCell ?_ (by first | (simp; done) | (simp; omega) | omega) _) | (refine Below.alloc ?_ (by first | (simp; done) | (simp; omega) | omega) _) | (refine below_drewN ?_ _) | (refine Below.drew ?_))))) (Nat.le_refl _)) allI1_callable (fun x hx => allI1_c G c x (p x) _ _ hG (by simp) (HF.out x hx _ ((by (repeat (first | exact Below.refl _ _ | (refine Below.setCell ?_ (by first | (simp; done) | (simp; omega) | omega) _) | (refine Below.alloc ?_ (by first | (simp; done) | (simp; omega) | omega) _) | (refine below_drewN ?_ _) | (refine Below.drew ?_)))))))).mono ?_
  rintro e w' ⟨rfl, rfl⟩
  go_wp2
  go_ret
  exact ⟨by simp [List.all_eq_not_any_not], (by (repeat (first | exact Below.refl _ _ | (refine Below.setCell ?_ (by first | (simp; done) | (simp; omega) | omega) _) | (refine Below.alloc ?_ (by first | (simp; done) | (simp; omega) | omega) _) | (refine below_drewN ?_ _) | (refine Below.drew ?_))))⟩

end Go.Proofs.Ytflebfmkgmhccaa
