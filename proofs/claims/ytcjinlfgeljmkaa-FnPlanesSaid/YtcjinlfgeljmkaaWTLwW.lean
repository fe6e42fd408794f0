/- Lemmas of LwW. -/
import Derived.Test.YtcjinlfgeljmkaaWTSrcP
import Derived.Test.YtcjinlfgeljmkaaWTSame
set_option linter.unusedSimpArgs false
set_option linter.unusedVariables false
namespace Go.Proofs.Ytcjinlfgeljmkaa
open Go.RowKit

set_option maxHeartbeats 400000 in
theorem big_c (B n : Nat) (v : Value) (w : World) (hv : RdB w B n v) :
    Calls Try.prog 9 #[v] w fun e w' => e = .returned (.bool (decide (4096 < n))) ∧ w = w' := by
  obtain ⟨o, c, rfl, hmx, hc⟩ := hv
  have hml := hmx.1
  unfold maxLen at hml
  clear hc
  go_enter Try.func9, Try.ntmps9
  go_wp2
  go_ret
  exact ⟨by congr 2; simp; omega, rfl⟩
end Go.Proofs.Ytcjinlfgeljmkaa
