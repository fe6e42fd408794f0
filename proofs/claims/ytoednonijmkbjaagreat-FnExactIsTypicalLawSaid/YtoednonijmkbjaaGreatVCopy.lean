/- Lemmas of Copy. -/
import Derived.Test.YtoednonijmkbjaaGreatVG2
set_option linter.unusedSimpArgs false
set_option linter.unusedVariables false
namespace Go.Proofs.YtoednonijmkbjaaGreat
open Go.RowKit

set_option maxHeartbeats 400000 in
theorem copyOfI_c (ad : Addr) (n c : Nat) (ys : List Int) (w : World) (hr : RdI w (.slice (some ad) n c) ys) (hn : ys.length ≤ 1048576) :
    Calls Tryz.prog 126 #[.slice (some ad) n c] w fun e w' => ∃ v', e = .returned v' ∧ OwI w' w.heap.size v' ys ∧ Below w.heap.size w w' := by
  have hr' := hr.below (w' := w.alloc (.cells #[] 2)) ((by (repeat (first | exact Below.refl _ _ | (refine Below.setCell ?_ (by first | (simp; done) | (simp; omega) | omega) _) | (refine Below.alloc ?_ (by first | (simp; done) | (simp; omega) | omega) _) | (refine below_drewN ?_ _) | (refine Below.drew ?_))))) (Nat.le_refl _)
  go_enter Tryz.func126, Tryz.ntmps126
  go_wp2_with (at_builtin; refine apR _ rfl _ _ rfl w.heap.size _ [] rfl (OwI.lit w [] (Nat.zero_le _)) ad n c ys rfl hr' (by simp; omega) (by simp) ?_; intro o1 c1 w1 how hgr hb; clear hgr)
  go_ret
  exact ⟨_, rfl, how, by refine Below.trans ?_ hb; (repeat (first | exact Below.refl _ _ | (refine Below.setCell ?_ (by first | (simp; done) | (simp; omega) | omega) _) | (refine Below.alloc ?_ (by first | (simp; done) | (simp; omega) | omega) _) | (refine below_drewN ?_ _) | (refine Below.drew ?_)))⟩
set_option maxHeartbeats 400000 in
theorem l01Own_c (ad : Addr) (n c : Nat) (ys : List Int) (w : World) (hr : RdI w (.slice (some ad) n c) ys) (hn : ys.length ≤ 1048576) :
    Calls Tryz.prog 69 #[.slice (some ad) n c] w fun e w' => ∃ v', e = .returned v' ∧ OwI w' w.heap.size v' ys ∧ Below w.heap.size w w' := by
  have hr' := hr.below (w' := w.alloc (.cells #[] 2)) ((by (repeat (first | exact Below.refl _ _ | (refine Below.setCell ?_ (by first | (simp; done) | (simp; omega) | omega) _) | (refine Below.alloc ?_ (by first | (simp; done) | (simp; omega) | omega) _) | (refine below_drewN ?_ _) | (refine Below.drew ?_))))) (Nat.le_refl _)
  go_enter Tryz.func69, Tryz.ntmps69
  go_wp2_with (at_builtin; refine apR _ rfl _ _ rfl w.heap.size _ [] rfl (OwI.lit w [] (Nat.zero_le _)) ad n c ys rfl hr' (by simp; omega) (by simp) ?_; intro o1 c1 w1 how hgr hb; clear hgr)
  go_ret
  exact ⟨_, rfl, how, by refine Below.trans ?_ hb; (repeat (first | exact Below.refl _ _ | (refine Below.setCell ?_ (by first | (simp; done) | (simp; omega) | omega) _) | (refine Below.alloc ?_ (by first | (simp; done) | (simp; omega) | omega) _) | (refine below_drewN ?_ _) | (refine Below.drew ?_)))⟩

end Go.Proofs.YtoednonijmkbjaaGreat
