/- Lemmas of WittN. -/
import Derived.Test.YtcjinlfgeljmkaaWSOpI
import Derived.Test.YtcjinlfgeljmkaaWSG2
set_option linter.unusedSimpArgs false
set_option linter.unusedVariables false
namespace Go.Proofs.Ytcjinlfgeljmkaa
open Go.RowKit

theorem opL_FL {p : Nat} (hp : P4 p) {m : Int} (hm : 0 < m) {n : Nat} {G H : Nat → Int} (hG : ∃ x, ∀ k, k < n → gh p x k = G k) (hH : ∃ y, ∀ k, k < n → gh p y k = H k) :
    opL p m (FL p m n G) (FL p m n H) true = FL p m n (fun k => G k * H k) := by
  rw [← FL_mul hp hm hG hH]
  unfold opL
  rw [FL_len]
  exact FL_ext fun k _ => rfl
def negL (p : Nat) (m : Int) (xs : List Int) : List Int := FL p m xs.length (fun k => - gh p (at0 xs) k)
theorem negL_len (p : Nat) (m : Int) (xs : List Int) : (negL p m xs).length = xs.length := FL_len _ _ _ _
def negR (p m : Int) (xs : List Int) : WR := if wittB p m xs then ⟨p, m, negL p.toNat m xs, 0⟩ else WR.bad 1

end Go.Proofs.Ytcjinlfgeljmkaa
