/- Lemmas of LwW. -/
import Derived.Test.YtcjinlfgeljmkaaWSSrcP
import Derived.Test.YtcjinlfgeljmkaaWSSame
set_option linter.unusedSimpArgs false
set_option linter.unusedVariables false
namespace Go.Proofs.Ytcjinlfgeljmkaa
open Go.RowKit

set_option maxHeartbeats 400000 in
theorem big_c (B n : Nat) (v : Value) (w : World) (hv : RdB w B n v) :
    Calls Try.prog 9 #[v] w fun e w' => e = .returned (.bool (decide (4096 < n))) ∧ w = w' := by
  obtain ⟨o, c, rfl, hmx, hc⟩ := hv
  have hml := hmx.1
  unfold maxLen at hml
  clear hc
  go_enter Try.func9, Try.ntmps9
  go_wp2
  go_ret
  exact ⟨by congr 2; simp; omega, rfl⟩
set_option maxHeartbeats 400000 in
set_option maxRecDepth 100000 in
theorem witt9_c (p m q l : Int) (v u : Value) (xs ys : List Int) (w : World) (hv : RdI w v xs) (hu : RdI w u ys) :
    Calls Try.prog 61 #[.agg #[.int .i64 p, .int .i64 m, v], .agg #[.int .i64 q, .int .i64 l, u]] w fun e w' => e = .returned (.bool (p == q && m == l && eqLB xs ys)) ∧ Below w.heap.size w w' := by
  go_enter Try.func61, Try.ntmps61
  go_wp2_with fail
  · have hp : p = q := by assumption
    have hm : m = l := by assumption
    subst hp hm
    have hb : Below w.heap.size w ((w.alloc (.cells #[.int .i64 p, .int .i64 m, v] 59)).alloc (.cells #[.int .i64 p, .int .i64 m, u] 59)) := (by (repeat (first | exact Below.refl _ _ | (refine Below.setCell ?_ (by first | (simp; done) | (simp; omega) | omega) _) | (refine Below.alloc ?_ (by first | (simp; done) | (simp; omega) | omega) _) | (refine below_drewN ?_ _) | (refine Below.drew ?_))))
    refine (likeInts_c _ _ xs ys _ (hv.below hb (Nat.le_refl _)) (hu.below hb (Nat.le_refl _))).mono ?_
    rintro e w1 ⟨rfl, d, rfl⟩
    go_wp2
    go_ret
    exact ⟨by simp, below_drewN hb d⟩
  · rename_i hp hm
    go_ret
    exact ⟨by simp [hm], (by (repeat (first | exact Below.refl _ _ | (refine Below.setCell ?_ (by first | (simp; done) | (simp; omega) | omega) _) | (refine Below.alloc ?_ (by first | (simp; done) | (simp; omega) | omega) _) | (refine below_drewN ?_ _) | (refine Below.drew ?_))))⟩
  · rename_i hp
    go_ret
    exact ⟨by simp [hp], (by (repeat (first | exact Below.refl _ _ | (refine Below.setCell ?_ (by first | (simp; done) | (simp; omega) | omega) _) | (refine Below.alloc ?_ (by first | (simp; done) | (simp; omega) | omega) _) | (refine below_drewN ?_ _) | (refine Below.drew ?_))))⟩
end Go.Proofs.Ytcjinlfgeljmkaa
