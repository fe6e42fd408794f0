/-
  No cell of these rows narrows 'for every input' (looked for: loops, veiled, ifaces, maps, wideKeys, modest, calm, conditions, laid).
  DERIVED. THE GIVEN ROWS OF THIS SEAT. 4 by the template 'for every input the law returns true; each argument reads behind the call as it read before'; 0 by the template 'total and deterministic' (their statements: YtoednonijmkbjaaGreatTotals.lean).
  GIVEN WITH THE SEED: the statements are not yours to turn. If you find one false, say at which input.
  Laid BY PROGRAM, IN A SANDBOX (cutbox-rows.mjs): the forced cells as the released guide's own fill.sh prints them over the translation 5b9c0e2109c6e6c5… (all of the seat's roots in one cut). By AI agents, Wed Nov 11 2026. No macro, syntax, notation, axiom, sorry.
-/
import Derived.Test.YtoednonijmkbjaaGreatChecked
import GoSem.Claim
import GoSem.ClaimJoined
import GoSem.ClaimMapViews
import Derived.JoinedTies
import Derived.KernelRfl
namespace Go.Proofs.YtoednonijmkbjaaGreat
/- THE CELL 'sum', in the pinned program and in every row, IS THE sha256 OF THE DUMP (.gsa) THAT YtoednonijmkbjaaGreatProg.lean LOADS. Nothing in Lean hashes anything: it is a label: what it is worth is what the hold of that sum in a sandbox is worth. -/
noncomputable def Tryz.pinned : Pinned := { name := "ytoednonijmkbjaagreat", sum := "5b9c0e2109c6e6c522490655c76065b3cce69f2dabc93ca82ef7f6f6f2438b65", checked := Tryz.checked }
namespace Rows
def none {H : Type} : Left H := { results := [], args := [] }

/-- 'laws.FnExactTypifyingCurve': WHATEVER THE INPUT: true; the input reads as it did. -/
def fnExactTypifyingCurveSpec : ChangeSpec := { name := "fnExactTypifyingCurve", fn := fun _ => fun
  | [d1, d2] => { results := [.lit (.bool true)], args := [d1, d2] }
  | _ => none }
def fnExactTypifyingCurveRow : OpenClaim := { program := "ytoednonijmkbjaagreat", sum := "5b9c0e2109c6e6c522490655c76065b3cce69f2dabc93ca82ef7f6f6f2438b65", func := "loop.example/g01152/laws.FnExactTypifyingCurve", spec := "fnExactTypifyingCurve", unfollowed := true, recurses := true, named := ["math/bits.divideError", "math/bits.overflowError"], apart := false }
def FnExactTypifyingCurveSaid : Prop := fnExactTypifyingCurveRow.holds Tryz.pinned (OpenSpec.ofChange fnExactTypifyingCurveSpec)

/-- ITS FALSE NEIGHBOUR: 'it returns false'. Refute it at one input. -/
def fnExactTypifyingCurveWrong : ChangeSpec := { name := "fnExactTypifyingCurve", fn := fun _ => fun
  | [d1, d2] => { results := [.lit (.bool false)], args := [d1, d2] }
  | _ => none }
def FnExactTypifyingCurveWrongFalsely : Prop := fnExactTypifyingCurveRow.holds Tryz.pinned (OpenSpec.ofChange fnExactTypifyingCurveWrong)

/-- 'laws.FnExactIsTypicalLaw': WHATEVER THE INPUT: true; the input reads as it did. -/
def fnExactIsTypicalLawSpec : ChangeSpec := { name := "fnExactIsTypicalLaw", fn := fun _ => fun
  | [d1, d2] => { results := [.lit (.bool true)], args := [d1, d2] }
  | _ => none }
def fnExactIsTypicalLawRow : OpenClaim := { program := "ytoednonijmkbjaagreat", sum := "5b9c0e2109c6e6c522490655c76065b3cce69f2dabc93ca82ef7f6f6f2438b65", func := "loop.example/g01152/laws.FnExactIsTypicalLaw", spec := "fnExactIsTypicalLaw", unfollowed := true, recurses := true, named := ["math/bits.divideError", "math/bits.overflowError"], apart := false }
def FnExactIsTypicalLawSaid : Prop := fnExactIsTypicalLawRow.holds Tryz.pinned (OpenSpec.ofChange fnExactIsTypicalLawSpec)

/-- ITS FALSE NEIGHBOUR: 'it returns false'. Refute it at one input. -/
def fnExactIsTypicalLawWrong : ChangeSpec := { name := "fnExactIsTypicalLaw", fn := fun _ => fun
  | [d1, d2] => { results := [.lit (.bool false)], args := [d1, d2] }
  | _ => none }
def FnExactIsTypicalLawWrongFalsely : Prop := fnExactIsTypicalLawRow.holds Tryz.pinned (OpenSpec.ofChange fnExactIsTypicalLawWrong)

/-- 'laws.FnExactTypicalParameters': WHATEVER THE INPUT: true; the input reads as it did. -/
def fnExactTypicalParametersSpec : ChangeSpec := { name := "fnExactTypicalParameters", fn := fun _ => fun
  | [d1, d2] => { results := [.lit (.bool true)], args := [d1, d2] }
  | _ => none }
def fnExactTypicalParametersRow : OpenClaim := { program := "ytoednonijmkbjaagreat", sum := "5b9c0e2109c6e6c522490655c76065b3cce69f2dabc93ca82ef7f6f6f2438b65", func := "loop.example/g01152/laws.FnExactTypicalParameters", spec := "fnExactTypicalParameters", unfollowed := true, recurses := true, named := ["math/bits.divideError", "math/bits.overflowError"], apart := false }
def FnExactTypicalParametersSaid : Prop := fnExactTypicalParametersRow.holds Tryz.pinned (OpenSpec.ofChange fnExactTypicalParametersSpec)

/-- ITS FALSE NEIGHBOUR: 'it returns false'. Refute it at one input. -/
def fnExactTypicalParametersWrong : ChangeSpec := { name := "fnExactTypicalParameters", fn := fun _ => fun
  | [d1, d2] => { results := [.lit (.bool false)], args := [d1, d2] }
  | _ => none }
def FnExactTypicalParametersWrongFalsely : Prop := fnExactTypicalParametersRow.holds Tryz.pinned (OpenSpec.ofChange fnExactTypicalParametersWrong)

/-- 'laws.FnExactTypifyLaw': WHATEVER THE INPUT: true; the input reads as it did. -/
def fnExactTypifyLawSpec : ChangeSpec := { name := "fnExactTypifyLaw", fn := fun _ => fun
  | [d1, d2] => { results := [.lit (.bool true)], args := [d1, d2] }
  | _ => none }
def fnExactTypifyLawRow : OpenClaim := { program := "ytoednonijmkbjaagreat", sum := "5b9c0e2109c6e6c522490655c76065b3cce69f2dabc93ca82ef7f6f6f2438b65", func := "loop.example/g01152/laws.FnExactTypifyLaw", spec := "fnExactTypifyLaw", unfollowed := true, recurses := true, named := ["math/bits.divideError", "math/bits.overflowError"], apart := false }
def FnExactTypifyLawSaid : Prop := fnExactTypifyLawRow.holds Tryz.pinned (OpenSpec.ofChange fnExactTypifyLawSpec)

/-- ITS FALSE NEIGHBOUR: 'it returns false'. Refute it at one input. -/
def fnExactTypifyLawWrong : ChangeSpec := { name := "fnExactTypifyLaw", fn := fun _ => fun
  | [d1, d2] => { results := [.lit (.bool false)], args := [d1, d2] }
  | _ => none }
def FnExactTypifyLawWrongFalsely : Prop := fnExactTypifyLawRow.holds Tryz.pinned (OpenSpec.ofChange fnExactTypifyLawWrong)

/- THE SECOND FORM. 'bulk': how many values and letters a reading holds, each counted each time it is reached (what is shared counts as often as it is met; a slice's spare places count too). A statement '..UptoSaid' is the law's where the arguments, and the package variables that the reading takes, are together of bulk at most 1048576: NARROWER than '..Said'. Prove '..Said' where nothing that the law and all that it calls make is longer than what came in: it says more and counts as full. Else prove '..UptoSaid'. A law counts once. -/
mutual
def uptoBulk {H : Type} : DataW H → Nat
  | .lit (.string bytes) => bytes.length + 1
  | .lit _ => 1
  | .nil => 1
  | .ptr d => uptoBulk d + 1
  | .slice elems spare => uptoBulkAll elems + uptoBulkAll spare + 1
  | .agg parts => uptoBulkAll parts + 1
  | .iface _ d => uptoBulk d + 1
  | .map entries => uptoBulkEntries entries + 1
  | .held _ => 1
def uptoBulkAll {H : Type} : List (DataW H) → Nat
  | [] => 0
  | d :: r => uptoBulk d + uptoBulkAll r
def uptoBulkEntries {H : Type} : List (Lit × DataW H) → Nat
  | [] => 0
  | x :: r => uptoBulkEntry x + uptoBulkEntries r
def uptoBulkEntry {H : Type} : Lit × DataW H → Nat
  | (.string bytes, d) => bytes.length + uptoBulk d + 1
  | (_, d) => uptoBulk d + 1
 end
def uptoSmall : (H : Type) → List (DataW H) → Bool := fun _ ds => decide (uptoBulkAll ds ≤ 1048576)
def OpenSpec.upto (s : _root_.Go.ChangeSpec) : _root_.Go.OpenSpec := { _root_.Go.OpenSpec.ofChange s with cond := some uptoSmall }

/-- 'laws.FnExactTypifyingCurve', WHERE WHAT IT READS IS OF BULK AT MOST 1048576: true; the input reads as it did. -/
def fnExactTypifyingCurveUptoRow : OpenClaim := { program := "ytoednonijmkbjaagreat", sum := "5b9c0e2109c6e6c522490655c76065b3cce69f2dabc93ca82ef7f6f6f2438b65", func := "loop.example/g01152/laws.FnExactTypifyingCurve", spec := "fnExactTypifyingCurve", unfollowed := true, recurses := true, named := ["math/bits.divideError", "math/bits.overflowError"], apart := false, narrowed := true }
def FnExactTypifyingCurveUptoSaid : Prop := fnExactTypifyingCurveUptoRow.holds Tryz.pinned (OpenSpec.upto fnExactTypifyingCurveSpec)

/-- 'laws.FnExactIsTypicalLaw', WHERE WHAT IT READS IS OF BULK AT MOST 1048576: true; the input reads as it did. -/
def fnExactIsTypicalLawUptoRow : OpenClaim := { program := "ytoednonijmkbjaagreat", sum := "5b9c0e2109c6e6c522490655c76065b3cce69f2dabc93ca82ef7f6f6f2438b65", func := "loop.example/g01152/laws.FnExactIsTypicalLaw", spec := "fnExactIsTypicalLaw", unfollowed := true, recurses := true, named := ["math/bits.divideError", "math/bits.overflowError"], apart := false, narrowed := true }
def FnExactIsTypicalLawUptoSaid : Prop := fnExactIsTypicalLawUptoRow.holds Tryz.pinned (OpenSpec.upto fnExactIsTypicalLawSpec)

/-- 'laws.FnExactTypicalParameters', WHERE WHAT IT READS IS OF BULK AT MOST 1048576: true; the input reads as it did. -/
def fnExactTypicalParametersUptoRow : OpenClaim := { program := "ytoednonijmkbjaagreat", sum := "5b9c0e2109c6e6c522490655c76065b3cce69f2dabc93ca82ef7f6f6f2438b65", func := "loop.example/g01152/laws.FnExactTypicalParameters", spec := "fnExactTypicalParameters", unfollowed := true, recurses := true, named := ["math/bits.divideError", "math/bits.overflowError"], apart := false, narrowed := true }
def FnExactTypicalParametersUptoSaid : Prop := fnExactTypicalParametersUptoRow.holds Tryz.pinned (OpenSpec.upto fnExactTypicalParametersSpec)

/-- 'laws.FnExactTypifyLaw', WHERE WHAT IT READS IS OF BULK AT MOST 1048576: true; the input reads as it did. -/
def fnExactTypifyLawUptoRow : OpenClaim := { program := "ytoednonijmkbjaagreat", sum := "5b9c0e2109c6e6c522490655c76065b3cce69f2dabc93ca82ef7f6f6f2438b65", func := "loop.example/g01152/laws.FnExactTypifyLaw", spec := "fnExactTypifyLaw", unfollowed := true, recurses := true, named := ["math/bits.divideError", "math/bits.overflowError"], apart := false, narrowed := true }
def FnExactTypifyLawUptoSaid : Prop := fnExactTypifyLawUptoRow.holds Tryz.pinned (OpenSpec.upto fnExactTypifyLawSpec)

end Rows
end Go.Proofs.YtoednonijmkbjaaGreat
