/- Lemmas of Coo. -/
import Derived.Test.YtdnkadlondediaaQcSame
import Derived.Test.YtdnkadlondediaaQcCurv
import Derived.Test.YtdnkadlondediaaQcLawO
import Derived.Test.YtdnkadlondediaaQcBotB
import Derived.Test.YtdnkadlondediaaQcBotS
set_option linter.unusedSimpArgs false
set_option linter.unusedVariables false
namespace Go.Proofs.Ytdnkadlondediaa
open Go.RowKit

theorem botM_len (m : Int) (n : Nat) (t : List (List Int)) (a b : List Int) : (botL m n t a b).length = n := tri_len _ _
structure BR where
  val : Bool
  code : Int
set_option maxHeartbeats 400000 in
theorem l03Both2_c (m : Int) (n : Nat) (v u : Value) (t : List (List Int)) (xs : List Int) (w : World) (hv : RdT w v t) (hu : RdI w u xs) (hlx : xs.length = n) (h1 : 1 ≤ n) (hn : n ≤ 1000) (hm : 2 ≤ m) (hm' : m ≤ 10000)
    (ht : PlaT m n t) (hx : ∀ x ∈ xs, 0 ≤ x ∧ x < m) (hx0 : at0 xs 0 = 0) :
    Calls Try.prog 140 #[.int .i64 m, v, u] w fun e w' => ∃ v', e = .returned v' ∧ OwS w' w.heap.size v' (botL m n t xs xs) ∧ Below w.heap.size w w' := by
  have HX := Lib.hid hx0
  clear hx0
  go_enter Try.func140, Try.ntmps140
  go_wp2_with fail
  refine (l03Both_c m n _ _ _ t xs xs _ hv hu hu hlx hlx h1 hn hm hm' ht hx hx HX.out HX.out).mono ?_
  rintro e w1 ⟨v', rfl, how, hb⟩
  go_wp2
  go_ret
  exact ⟨_, rfl, how, hb⟩

end Go.Proofs.Ytdnkadlondediaa
