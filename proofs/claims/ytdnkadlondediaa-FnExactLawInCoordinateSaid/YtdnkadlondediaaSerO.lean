/- Sums, products and compositions of series: the functions that are called. -/
import Derived.Test.YtdnkadlondediaaG3
import Derived.Deep.RegionHeld3
set_option linter.unusedSimpArgs false
set_option linter.unusedVariables false
namespace Go.Proofs.Ytdnkadlondediaa
open Go.RowKit

theorem twoS_bad {m : Int} {xs : List Int} {n : Int} {ys : List Int} (h : ¬ twoS m xs n ys = 0) : ∃ c, twoS m xs n ys = c ∧ ¬ c = 0 := ⟨_, rfl, h⟩
def addR (m : Int) (xs : List Int) (n : Int) (ys : List Int) : SR := if twoS m xs n ys = 0 then ⟨m, addL m xs.length xs ys, 0⟩ else SR.bad (twoS m xs n ys)
def mulR (m : Int) (xs : List Int) (n : Int) (ys : List Int) : SR := if twoS m xs n ys = 0 then ⟨m, timesL m xs.length xs ys, 0⟩ else SR.bad (twoS m xs n ys)






end Go.Proofs.Ytdnkadlondediaa
