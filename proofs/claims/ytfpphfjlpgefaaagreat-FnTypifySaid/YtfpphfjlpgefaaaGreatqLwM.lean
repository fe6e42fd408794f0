/- Lemmas. -/
import Derived.Test.YtfpphfjlpgefaaaGreatqM14
import Derived.Test.YtfpphfjlpgefaaaGreatqG5
set_option linter.unusedSimpArgs false
set_option linter.unusedVariables false
namespace Go.Proofs.YtfpphfjlpgefaaaGreat
open Go.RowKit

def SEndL (w w' : World) (m : Int) (xs : Li) (c : Int) (e : Ending) : Prop :=
 ∃ v', e = .returned (.tuple #[.agg #[.int .i64 m, v'], .int .i64 c]) ∧ OwI w' w.heap.size v' xs ∧ Below w.heap.size w w' ∧ xs.length ≤ 1048576
theorem sendL {P : Program} {f : FuncId} {args : Array Value} {w : World} {m : Int} {xs : Li} {c : Int} (h : Calls P f args w fun e w' => SEnd w w' ⟨m, xs, c⟩ e) : Calls P f args w fun e w' => SEndL w w' m xs c e := h
def LEndL (w w' : World) (xs : Li) (c : Int) (e : Ending) : Prop :=
 ∃ v', e = .returned (.tuple #[v', .int .i64 c]) ∧ OwI w' w.heap.size v' xs ∧ Below w.heap.size w w' ∧ xs.length ≤ 1048576
theorem lendL {P : Program} {f : FuncId} {args : Array Value} {w : World} {xs : Li} {c : Int} (h : Calls P f args w fun e w' => LEnd w w' ⟨xs, c⟩ e) : Calls P f args w fun e w' => LEndL w w' xs c e := h
theorem qNr (v u : Value) (xs : Li) (w : World) (hv : RdI w v xs) (hu : RdI w u xs) :
  Calls Tryz.prog 9 #[v, u] w fun e w' => e = .returned (.bool true) ∧ Below w.heap.size w w' :=
 (qEo v u xs xs w hv hu).mono fun e w' ⟨he, d, hd⟩ => ⟨by rw [he, qEd], by rw [hd]; exact below_drewN (Below.refl _ _) d⟩

end Go.Proofs.YtfpphfjlpgefaaaGreat
