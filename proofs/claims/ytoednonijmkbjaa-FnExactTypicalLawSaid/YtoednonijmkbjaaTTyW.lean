/- Lemmas of TyW. -/
import Derived.Test.YtoednonijmkbjaaTG2
import Derived.Test.YtoednonijmkbjaaTG3
set_option linter.unusedSimpArgs false
set_option linter.unusedVariables false
namespace Go.Proofs.Ytoednonijmkbjaa
open Go.RowKit

def tyB (p m : Int) (ls : List Int) (least : Int) : Bool := primB p && (!decide ((ls.length : Int) < least)) && (!decide ((3 : Int) < (ls.length : Int))) && numsB m ls
def tyCode (p m : Int) (ls : List Int) (least : Int) : Int := if modB m = true then (if tyB p m ls least = true then 0 else 2) else 1

set_option maxHeartbeats 400000 in
theorem modular1_c (m x : Int) (b : Nat) (w : World) (hm : -9223372036854775808 < m) (hm' : m ≤ 9223372036854775807)
    (h1 : w.cell? ⟨b, 0, none⟩ = some (.int .i64 m)) :
    Calls Try.prog 89 #[.int .i64 x, .pointer (some ⟨b, 0, none⟩)] w fun e w' => e = .returned (.bool (inB x 0 (m - 1))) ∧ w = w' := by
  go_enter Try.func89, Try.ntmps89
  go_wp2_with (go_at_call 90; refine (isNumber_c _ _ _ hm hm').mono ?_; rintro e w' ⟨rfl, rfl⟩)
  go_ret
  exact ⟨rfl, rfl⟩
theorem modular1_callable : Callable 89 := fun args w => Try.call89 args w

set_option maxHeartbeats 400000 in
theorem modular_c (m : Int) (v : Value) (xs : List Int) (w : World) (hv : RdI w v xs) :
    Calls Try.prog 66 #[.int .i64 m, v] w fun e w' => e = .returned (.int .i64 (if modB m = true then (if numsB m xs = true then 0 else 2) else 1)) ∧ Below w.heap.size w w' := by
  obtain ⟨o, c, rfl, hmx, -⟩ := id hv
  clear hmx
  cases hs : modB m
  · go_enter Try.func66, Try.ntmps66
    go_wp2_with (first | (go_at_call 65; refine (IsModulus_c _ _).mono ?_; rw [hs]; rintro e w' ⟨rfl, rfl⟩))
    go_ret
    exact ⟨rfl, (by (repeat (first | exact Below.refl _ _ | (refine Below.setCell ?_ (by first | (simp; done) | (simp; omega) | omega) _) | (refine Below.alloc ?_ (by first | (simp; done) | (simp; omega) | omega) _) | (refine below_drewN ?_ _) | (refine Below.drew ?_))))⟩
  · have hm1 := modB_t hs
    cases hq : numsB m xs
    all_goals
      go_enter Try.func66, Try.ntmps66
      go_wp2_with (first | (go_at_call 65; refine (IsModulus_c _ _).mono ?_; rw [hs]; rintro e w' ⟨rfl, rfl⟩))
      refine (allI_c 89 _ (fun x => inB x 0 (m - 1)) _ xs _ (hv.below (by (repeat (first | exact Below.refl _ _ | (refine Below.setCell ?_ (by first | (simp; done) | (simp; omega) | omega) _) | (refine Below.alloc ?_ (by first | (simp; done) | (simp; omega) | omega) _) | (refine below_drewN ?_ _) | (refine Below.drew ?_)))) (Nat.le_refl _)) modular1_callable (fun x hx w1 hb => modular1_c m x _ _ (by omega) (by omega) (keep_cell hb (Nat.le_refl _) (by simp)))).mono ?_
      rw [show xs.all (fun x => inB x 0 (m - 1)) = numsB m xs from rfl, hq]
      rintro e w2 ⟨rfl, hb2⟩
      have hbz := hb2.size
      simp at hbz
      go_wp2
      go_ret
      exact ⟨rfl, (by (repeat (first | exact Below.refl _ _ | (refine Below.setCell ?_ (by first | (simp; done) | (simp; omega) | omega) _) | (refine Below.alloc ?_ (by first | (simp; done) | (simp; omega) | omega) _) | (refine below_drewN ?_ _) | (refine Below.drew ?_) | (refine Below.trans ?_ (Below.mono hb2 (by first | (simp; done) | (simp; omega) | omega))))))⟩

set_option maxHeartbeats 1000000 in
theorem typed_c (p m : Int) (v : Value) (xs : List Int) (least : Int) (w : World) (hv : RdI w v xs) :
    Calls Try.prog 31 #[.int .i64 p, .int .i64 m, v, .int .i64 least] w fun e w' => e = .returned (.int .i64 (tyCode p m xs least)) ∧ Below w.heap.size w w' := by
  obtain ⟨o, c, rfl, hmx, -⟩ := id hv
  have hml := hmx.1
  unfold maxLen at hml
  clear hmx
  unfold tyCode
  cases hs : modB m
  · go_enter Try.func31, Try.ntmps31
    go_wp2_with (go_at_call 65; refine (IsModulus_c _ _).mono ?_; rw [hs]; rintro e w' ⟨rfl, rfl⟩)
    go_ret
    exact ⟨rfl, (by (repeat (first | exact Below.refl _ _ | (refine Below.setCell ?_ (by first | (simp; done) | (simp; omega) | omega) _) | (refine Below.alloc ?_ (by first | (simp; done) | (simp; omega) | omega) _) | (refine below_drewN ?_ _) | (refine Below.drew ?_))))⟩
  · have hm1 := modB_t hs
    cases hp : primB p
    · have hR : tyB p m xs least = false := by simp [tyB, hp]
      rw [hR]
      go_enter Try.func31, Try.ntmps31
      go_wp2_with (first | (go_at_call 65; refine (IsModulus_c _ _).mono ?_; rw [hs]; rintro e w' ⟨rfl, rfl⟩) | (go_at_call 24; refine (isTypicalPrime_c _ _).mono ?_; rw [hp]; rintro e w' ⟨rfl, rfl⟩))
      go_ret
      exact ⟨rfl, (by (repeat (first | exact Below.refl _ _ | (refine Below.setCell ?_ (by first | (simp; done) | (simp; omega) | omega) _) | (refine Below.alloc ?_ (by first | (simp; done) | (simp; omega) | omega) _) | (refine below_drewN ?_ _) | (refine Below.drew ?_))))⟩
    · by_cases h1 : (xs.length : Int) < least
      · have hR : tyB p m xs least = false := by simp [tyB, h1]
        rw [hR]
        go_enter Try.func31, Try.ntmps31
        go_wp2_with (first | (go_at_call 65; refine (IsModulus_c _ _).mono ?_; rw [hs]; rintro e w' ⟨rfl, rfl⟩) | (go_at_call 24; refine (isTypicalPrime_c _ _).mono ?_; rw [hp]; rintro e w' ⟨rfl, rfl⟩))
        go_ret
        exact ⟨rfl, (by (repeat (first | exact Below.refl _ _ | (refine Below.setCell ?_ (by first | (simp; done) | (simp; omega) | omega) _) | (refine Below.alloc ?_ (by first | (simp; done) | (simp; omega) | omega) _) | (refine below_drewN ?_ _) | (refine Below.drew ?_))))⟩
      · by_cases h2 : (3 : Int) < (xs.length : Int)
        · have hR : tyB p m xs least = false := by simp [tyB]; omega
          rw [hR]
          clear hR
          go_enter Try.func31, Try.ntmps31
          go_wp2_with (first | (go_at_call 65; refine (IsModulus_c _ _).mono ?_; rw [hs]; rintro e w' ⟨rfl, rfl⟩) | (go_at_call 24; refine (isTypicalPrime_c _ _).mono ?_; rw [hp]; rintro e w' ⟨rfl, rfl⟩))
          go_ret
          exact ⟨rfl, (by (repeat (first | exact Below.refl _ _ | (refine Below.setCell ?_ (by first | (simp; done) | (simp; omega) | omega) _) | (refine Below.alloc ?_ (by first | (simp; done) | (simp; omega) | omega) _) | (refine below_drewN ?_ _) | (refine Below.drew ?_))))⟩
        · have hR : tyB p m xs least = numsB m xs := by simp [tyB, hp]; omega
          rw [hR]
          clear hR
          cases hn : numsB m xs
          all_goals
            go_enter Try.func31, Try.ntmps31
            go_wp2_with (first | (go_at_call 65; refine (IsModulus_c _ _).mono ?_; rw [hs]; rintro e w' ⟨rfl, rfl⟩) | (go_at_call 24; refine (isTypicalPrime_c _ _).mono ?_; rw [hp]; rintro e w' ⟨rfl, rfl⟩))
            refine (modular_c m _ xs _ hv).mono ?_
            rw [hs, hn]
            rintro e w1 ⟨rfl, hb⟩
            go_wp2
            go_ret
            exact ⟨rfl, hb⟩
set_option maxHeartbeats 1000000 in
theorem l09Code_c (p m : Int) (v : Value) (xs : List Int) (least : Int) (w : World) (hv : RdI w v xs) :
    Calls Try.prog 30 #[.int .i64 p, .int .i64 m, v, .int .i64 least] w fun e w' => e = .returned (.int .i64 (tyCode p m xs least)) ∧ Below w.heap.size w w' := by
  obtain ⟨o, c, rfl, hmx, -⟩ := id hv
  have hml := hmx.1
  unfold maxLen at hml
  clear hmx
  unfold tyCode
  cases hs : modB m
  · go_enter Try.func30, Try.ntmps30
    go_wp2_with (go_at_call 63; refine (l01Modulus_c _ _).mono ?_; rw [hs]; rintro e w' ⟨rfl, rfl⟩)
    go_ret
    exact ⟨rfl, (by (repeat (first | exact Below.refl _ _ | (refine Below.setCell ?_ (by first | (simp; done) | (simp; omega) | omega) _) | (refine Below.alloc ?_ (by first | (simp; done) | (simp; omega) | omega) _) | (refine below_drewN ?_ _) | (refine Below.drew ?_))))⟩
  · have hm1 := modB_t hs
    cases hp : primB p
    · have hR : tyB p m xs least = false := by simp [tyB, hp]
      rw [hR]
      go_enter Try.func30, Try.ntmps30
      go_wp2_with (first | (go_at_call 63; refine (l01Modulus_c _ _).mono ?_; rw [hs]; rintro e w' ⟨rfl, rfl⟩) | (go_at_call 20; refine (l09Prime_c _ _).mono ?_; rw [hp]; rintro e w' ⟨rfl, rfl⟩))
      go_ret
      exact ⟨rfl, (by (repeat (first | exact Below.refl _ _ | (refine Below.setCell ?_ (by first | (simp; done) | (simp; omega) | omega) _) | (refine Below.alloc ?_ (by first | (simp; done) | (simp; omega) | omega) _) | (refine below_drewN ?_ _) | (refine Below.drew ?_))))⟩
    · cases hn : numsB m xs
      · have hR : tyB p m xs least = false := by simp [tyB, hn]
        rw [hR]
        go_enter Try.func30, Try.ntmps30
        go_wp2_with (first | (go_at_call 63; refine (l01Modulus_c _ _).mono ?_; rw [hs]; rintro e w' ⟨rfl, rfl⟩) | (go_at_call 20; refine (l09Prime_c _ _).mono ?_; rw [hp]; rintro e w' ⟨rfl, rfl⟩) | (go_at_call 64; refine (l01Numbers_c m _ xs _ hv (by omega) (by omega)).mono ?_; rw [hn]; rintro e w' ⟨rfl, rfl⟩))
        go_ret
        exact ⟨rfl, (by (repeat (first | exact Below.refl _ _ | (refine Below.setCell ?_ (by first | (simp; done) | (simp; omega) | omega) _) | (refine Below.alloc ?_ (by first | (simp; done) | (simp; omega) | omega) _) | (refine below_drewN ?_ _) | (refine Below.drew ?_))))⟩
      · by_cases h1 : (xs.length : Int) < least
        · have hR : tyB p m xs least = false := by simp [tyB, h1]
          rw [hR]
          go_enter Try.func30, Try.ntmps30
          go_wp2_with (first | (go_at_call 63; refine (l01Modulus_c _ _).mono ?_; rw [hs]; rintro e w' ⟨rfl, rfl⟩) | (go_at_call 20; refine (l09Prime_c _ _).mono ?_; rw [hp]; rintro e w' ⟨rfl, rfl⟩) | (go_at_call 64; refine (l01Numbers_c m _ xs _ hv (by omega) (by omega)).mono ?_; rw [hn]; rintro e w' ⟨rfl, rfl⟩))
          go_ret
          exact ⟨rfl, (by (repeat (first | exact Below.refl _ _ | (refine Below.setCell ?_ (by first | (simp; done) | (simp; omega) | omega) _) | (refine Below.alloc ?_ (by first | (simp; done) | (simp; omega) | omega) _) | (refine below_drewN ?_ _) | (refine Below.drew ?_))))⟩
        · by_cases h2 : (3 : Int) < (xs.length : Int)
          · have hR : tyB p m xs least = false := by simp [tyB]; omega
            rw [hR]
            clear hR
            go_enter Try.func30, Try.ntmps30
            go_wp2_with (first | (go_at_call 63; refine (l01Modulus_c _ _).mono ?_; rw [hs]; rintro e w' ⟨rfl, rfl⟩) | (go_at_call 20; refine (l09Prime_c _ _).mono ?_; rw [hp]; rintro e w' ⟨rfl, rfl⟩) | (go_at_call 64; refine (l01Numbers_c m _ xs _ hv (by omega) (by omega)).mono ?_; rw [hn]; rintro e w' ⟨rfl, rfl⟩))
            go_ret
            exact ⟨rfl, (by (repeat (first | exact Below.refl _ _ | (refine Below.setCell ?_ (by first | (simp; done) | (simp; omega) | omega) _) | (refine Below.alloc ?_ (by first | (simp; done) | (simp; omega) | omega) _) | (refine below_drewN ?_ _) | (refine Below.drew ?_))))⟩
          · have hR : tyB p m xs least = true := by simp [tyB, hp, hn]; omega
            rw [hR]
            clear hR
            go_enter Try.func30, Try.ntmps30
            go_wp2_with (first | (go_at_call 63; refine (l01Modulus_c _ _).mono ?_; rw [hs]; rintro e w' ⟨rfl, rfl⟩) | (go_at_call 20; refine (l09Prime_c _ _).mono ?_; rw [hp]; rintro e w' ⟨rfl, rfl⟩) | (go_at_call 64; refine (l01Numbers_c m _ xs _ hv (by omega) (by omega)).mono ?_; rw [hn]; rintro e w' ⟨rfl, rfl⟩))
            go_ret
            exact ⟨rfl, (by (repeat (first | exact Below.refl _ _ | (refine Below.setCell ?_ (by first | (simp; done) | (simp; omega) | omega) _) | (refine Below.alloc ?_ (by first | (simp; done) | (simp; omega) | omega) _) | (refine below_drewN ?_ _) | (refine Below.drew ?_))))⟩
end Go.Proofs.Ytoednonijmkbjaa
