/- Lemmas of WittB. -/
import Derived.Test.YtcjinlfgeljmkaaWSWittA
import Derived.Test.YtcjinlfgeljmkaaWSCopy
import Derived.Deep.RegionHeld3
set_option linter.unusedSimpArgs false
set_option linter.unusedVariables false
namespace Go.Proofs.Ytcjinlfgeljmkaa
open Go.RowKit

structure WR where
  p : Int
  m : Int
  xs : List Int
  code : Int

def WR.bad (c : Int) : WR := ⟨0, 0, [], c⟩

def WEnd (w w' : World) (r : WR) (e : Ending) : Prop :=
  ∃ v', e = .returned (.tuple #[.agg #[.int .i64 r.p, .int .i64 r.m, v'], .int .i64 r.code]) ∧ OwI w' w.heap.size v' r.xs ∧ Below w.heap.size w w' ∧ r.xs.length ≤ 1048576

def VEnd (w w' : World) (p m : Int) (xs : List Int) (e : Ending) : Prop :=
  ∃ v', e = .returned (.agg #[.int .i64 p, .int .i64 m, v']) ∧ OwI w' w.heap.size v' xs ∧ Below w.heap.size w w'

end Go.Proofs.Ytcjinlfgeljmkaa
