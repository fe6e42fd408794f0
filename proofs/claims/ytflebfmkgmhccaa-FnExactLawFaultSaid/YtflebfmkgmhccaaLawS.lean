/- The laws' own helpers on series. -/
import Derived.Test.YtflebfmkgmhccaaLaw
set_option linter.unusedSimpArgs false
set_option linter.unusedVariables false
namespace Go.Proofs.Ytflebfmkgmhccaa
open Go.RowKit

set_option maxHeartbeats 400000 in
theorem szSeries_c (m : Int) (o : Option Addr) (n c : Nat) (left : Int) (w : World) (hn : n ≤ maxLen) (h0 : 0 ≤ left) (h1 : left ≤ 1048576) :
    Calls Try.prog 33 #[.agg #[.int .i64 m, .slice o n c], .int .i64 left] w fun e w' => e = .returned (.int .i64 (szV n left)) ∧ Below w.heap.size w w' := by
  by_cases hneg : szV n left < 0
  · have e1 : szV n left = -1 := by unfold szV at hneg ⊢; split <;> simp_all
    have H1 := Lib.hid e1
    clear e1
    go_enter Try.func33, Try.ntmps33
    go_wp2_with (go_at_call 71; refine (szInt64S_c _ _ _ _ _ hn h0 h1).mono ?_; rintro e w' ⟨rfl, rfl⟩)
    go_ret
    exact ⟨by rw [H1.out]; rfl, ((Below.refl _ _).alloc (Nat.le_refl _) _)⟩
  · go_enter Try.func33, Try.ntmps33
    go_wp2_with (go_at_call 71; refine (szInt64S_c _ _ _ _ _ hn h0 h1).mono ?_; rintro e w' ⟨rfl, rfl⟩)
    go_ret
    exact ⟨rfl, ((Below.refl _ _).alloc (Nat.le_refl _) _)⟩

set_option maxHeartbeats 400000 in
theorem toSeries_c (m : Int) (v : Value) (xs : List Int) (w : World) (hv : RdI w v xs) (hn : xs.length ≤ 1048576) :
    Calls Try.prog 35 #[.agg #[.int .i64 m, v]] w fun e w' => ∃ v', e = .returned (.agg #[.int .i64 m, v']) ∧ OwI w' w.heap.size v' xs ∧ Below w.heap.size w w' := by
  go_enter Try.func35, Try.ntmps35
  go_wp2_with fail
  refine (toInt64S_c v xs _ (hv.below ((((Below.refl _ _).alloc (Nat.le_refl _) _).alloc (by simp) _).alloc (by simp; omega) _) (Nat.le_refl _)) hn).mono ?_
  rintro e w1 ⟨v', rfl, how, hb⟩
  obtain ⟨o1, c1, rfl⟩ := how.shape
  have How := Lib.hid how
  clear how
  obtain ⟨hc, hf⟩ := bcell hb
  have hz : w.heap.size + 2 < w1.heap.size := by have := hb.size; simp at this; omega
  go_wp2
  refine bodyPost_ret (v := .agg #[.int .i64 m, .slice o1 xs.length c1]) (by simp [results, Try.results35, go_sem, hc, hz]) rfl ⟨_, rfl, ?_, ?_⟩
  · exact ((((How.out.low (by first | (simp; done) | (simp; omega) | omega) _).low (by first | (simp; done) | (simp; omega) | omega) _).low (by first | (simp; done) | (simp; omega) | omega) _).mono (by first | (simp; done) | (simp; omega) | omega))
  · (repeat (first | exact Below.refl _ _ | (refine Below.setCell ?_ (by first | (simp; done) | (simp; omega) | omega) _) | (refine Below.alloc ?_ (by first | (simp; done) | (simp; omega) | omega) _) | (refine below_drewN ?_ _) | (refine Below.drew ?_) | (refine Below.trans ?_ (Below.mono hb (by first | (simp; done) | (simp; omega) | omega)))))


def eqSB (m : Int) (xs : List Int) (n : Int) (ys : List Int) : Bool := (m == n) && eqLB xs ys

theorem eqSB_self (m : Int) (xs : List Int) : eqSB m xs m xs = true := by simp [eqSB, eqLB_self]

set_option maxHeartbeats 400000 in
theorem eqSeries_c (m n : Int) (v u : Value) (xs ys : List Int) (w : World) (hv : RdI w v xs) (hu : RdI w u ys) :
    Calls Try.prog 30 #[.agg #[.int .i64 m, v], .agg #[.int .i64 n, u]] w fun e w' => e = .returned (.bool (eqSB m xs n ys)) ∧ Below w.heap.size w w' := by
  cases h2 : (m != n)
  · have e2 : (m == n) = true := by simpa using h2
    cases h3 : eqLB xs ys
    all_goals
      go_enter Try.func30, Try.ntmps30
      go_wp2_with (go_at_call 19; refine (eqInt64S_c _ _ xs ys _ (hv.below ((by (repeat (first | exact Below.refl _ _ | (refine Below.setCell ?_ (by first | (simp; done) | (simp; omega) | omega) _) | (refine Below.alloc ?_ (by first | (simp; done) | (simp; omega) | omega) _) | (refine below_drewN ?_ _) | (refine Below.drew ?_))))) (Nat.le_refl _)) (hu.below ((by (repeat (first | exact Below.refl _ _ | (refine Below.setCell ?_ (by first | (simp; done) | (simp; omega) | omega) _) | (refine Below.alloc ?_ (by first | (simp; done) | (simp; omega) | omega) _) | (refine below_drewN ?_ _) | (refine Below.drew ?_))))) (Nat.le_refl _))).mono ?_; rintro e w1 ⟨rfl, d, rfl⟩; rw [h3])
      go_ret
      exact ⟨by simp [eqSB, e2, h3], (by (repeat (first | exact Below.refl _ _ | (refine Below.setCell ?_ (by first | (simp; done) | (simp; omega) | omega) _) | (refine Below.alloc ?_ (by first | (simp; done) | (simp; omega) | omega) _) | (refine below_drewN ?_ _) | (refine Below.drew ?_))))⟩
  · have e2 : (m == n) = false := by simpa using h2
    go_enter Try.func30, Try.ntmps30
    go_wp2
    go_ret
    exact ⟨by simp [eqSB, e2], (by (repeat (first | exact Below.refl _ _ | (refine Below.setCell ?_ (by first | (simp; done) | (simp; omega) | omega) _) | (refine Below.alloc ?_ (by first | (simp; done) | (simp; omega) | omega) _) | (refine below_drewN ?_ _) | (refine Below.drew ?_))))⟩

set_option maxHeartbeats 400000 in
theorem markSeries_c (m : Int) (v : Value) (xs : List Int) (k0 : Int) (B : Nat) (w : World) (hv : OwI w B v xs) (hn : xs.length ≤ 1048576) (h0 : 0 ≤ k0) (h1 : k0 ≤ 1099511627776) :
    Calls Try.prog 31 #[.agg #[.int .i64 m, v], .int .i64 k0] w fun e w' => e = .returned (.int .i64 (k0 + xs.length)) ∧ OwI w' B v (iota k0 xs.length) ∧ w.grownBy w' v.ownBlock := by
  go_enter Try.func31, Try.ntmps31
  go_wp2_with (go_at_call 22; refine (markInt64S_c _ xs k0 B _ (hv.alloc _) hn h0 h1).mono ?_; rintro e w1 ⟨rfl, ho, hg, hz⟩; clear hz)
  go_ret
  exact ⟨rfl, ho, (World.grownBy_alloc w _ _).trans hg⟩

set_option maxHeartbeats 400000 in
theorem heldSeries_c (m : Int) (v : Value) (n : Nat) (k0 : Int) (w : World) (hv : RdI w v (iota k0 n)) (hn : n ≤ 1048576) (h0 : 0 ≤ k0) (h1 : k0 ≤ 1099511627776) :
    Calls Try.prog 32 #[.agg #[.int .i64 m, v], .int .i64 k0] w fun e w' => e = .returned (.int .i64 (k0 + n)) ∧ Below w.heap.size w w' := by
  go_enter Try.func32, Try.ntmps32
  go_wp2_with (go_at_call 23; refine (heldInt64S_c _ n k0 _ (hv.below ((by (repeat (first | exact Below.refl _ _ | (refine Below.setCell ?_ (by first | (simp; done) | (simp; omega) | omega) _) | (refine Below.alloc ?_ (by first | (simp; done) | (simp; omega) | omega) _) | (refine below_drewN ?_ _) | (refine Below.drew ?_))))) (Nat.le_refl _)) hn h0 h1).mono ?_; rintro e w1 ⟨rfl, d, rfl⟩)
  go_ret
  exact ⟨rfl, (by (repeat (first | exact Below.refl _ _ | (refine Below.setCell ?_ (by first | (simp; done) | (simp; omega) | omega) _) | (refine Below.alloc ?_ (by first | (simp; done) | (simp; omega) | omega) _) | (refine below_drewN ?_ _) | (refine Below.drew ?_))))⟩

end Go.Proofs.Ytflebfmkgmhccaa
