/-
  No cell of these rows narrows 'for every input' (looked for: loops, veiled, ifaces, maps, wideKeys, modest, calm, conditions, laid).
  DERIVED. THE GIVEN ROWS OF THIS SEAT. 12 by the template 'for every input the law returns true; each argument reads behind the call as it read before'; 0 by the template 'total and deterministic' (their statements: YtflebfmkgmhccaaTotals.lean).
  GIVEN WITH THE SEED: the statements are not yours to turn. If you find one false, say at which input.
  Laid BY PROGRAM, IN A SANDBOX (cutbox-rows.mjs): the forced cells as the released guide's own fill.sh prints them over the translation ff9a3f1b8d6a64b7… (all of the seat's roots in one cut). By AI agents, Wed Nov 11 2026. No macro, syntax, notation, axiom, sorry.
-/
import Derived.Test.YtflebfmkgmhccaaChecked
import GoSem.Claim
import GoSem.ClaimJoined
import GoSem.ClaimMapViews
import Derived.JoinedTies
import Derived.KernelRfl
namespace Go.Proofs.Ytflebfmkgmhccaa
/- THE CELL 'sum', in the pinned program and in every row, IS THE sha256 OF THE DUMP (.gsa) THAT YtflebfmkgmhccaaProg.lean LOADS. Nothing in Lean hashes anything: it is a label: what it is worth is what the hold of that sum in a sandbox is worth. -/
noncomputable def Try.pinned : Pinned := { name := "ytflebfmkgmhccaa", sum := "ff9a3f1b8d6a64b7c78a936e432d61b1bdf8119f2a65fd39340a8eeb64511bc3", checked := Try.checked }
namespace Rows
def none {H : Type} : Left H := { results := [], args := [] }

/-- 'laws.FnExactLawFault': WHATEVER THE INPUT: true; the input reads as it did. -/
def fnExactLawFaultSpec : ChangeSpec := { name := "fnExactLawFault", fn := fun _ => fun
  | [d] => { results := [.lit (.bool true)], args := [d] }
  | _ => none }
def fnExactLawFaultRow : OpenClaim := { program := "ytflebfmkgmhccaa", sum := "ff9a3f1b8d6a64b7c78a936e432d61b1bdf8119f2a65fd39340a8eeb64511bc3", func := "loop.example/g01152/laws.FnExactLawFault", spec := "fnExactLawFault", unfollowed := true, recurses := true, named := ["math/bits.divideError", "math/bits.overflowError"], apart := false }
def FnExactLawFaultSaid : Prop := fnExactLawFaultRow.holds Try.pinned (OpenSpec.ofChange fnExactLawFaultSpec)

/-- ITS FALSE NEIGHBOUR: 'it returns false'. Refute it at one input. -/
def fnExactLawFaultWrong : ChangeSpec := { name := "fnExactLawFault", fn := fun _ => fun
  | [d] => { results := [.lit (.bool false)], args := [d] }
  | _ => none }
def FnExactLawFaultWrongFalsely : Prop := fnExactLawFaultRow.holds Try.pinned (OpenSpec.ofChange fnExactLawFaultWrong)

/-- 'laws.FnExactAgreementOf': WHATEVER THE INPUT: true; the input reads as it did. -/
def fnExactAgreementOfSpec : ChangeSpec := { name := "fnExactAgreementOf", fn := fun _ => fun
  | [d1, d2] => { results := [.lit (.bool true)], args := [d1, d2] }
  | _ => none }
def fnExactAgreementOfRow : OpenClaim := { program := "ytflebfmkgmhccaa", sum := "ff9a3f1b8d6a64b7c78a936e432d61b1bdf8119f2a65fd39340a8eeb64511bc3", func := "loop.example/g01152/laws.FnExactAgreementOf", spec := "fnExactAgreementOf", unfollowed := true, recurses := true, named := ["math/bits.divideError", "math/bits.overflowError"], apart := false }
def FnExactAgreementOfSaid : Prop := fnExactAgreementOfRow.holds Try.pinned (OpenSpec.ofChange fnExactAgreementOfSpec)

/-- ITS FALSE NEIGHBOUR: 'it returns false'. Refute it at one input. -/
def fnExactAgreementOfWrong : ChangeSpec := { name := "fnExactAgreementOf", fn := fun _ => fun
  | [d1, d2] => { results := [.lit (.bool false)], args := [d1, d2] }
  | _ => none }
def FnExactAgreementOfWrongFalsely : Prop := fnExactAgreementOfRow.holds Try.pinned (OpenSpec.ofChange fnExactAgreementOfWrong)

/-- 'laws.FnExactFirstDifference': WHATEVER THE INPUT: true; the input reads as it did. -/
def fnExactFirstDifferenceSpec : ChangeSpec := { name := "fnExactFirstDifference", fn := fun _ => fun
  | [d1, d2] => { results := [.lit (.bool true)], args := [d1, d2] }
  | _ => none }
def fnExactFirstDifferenceRow : OpenClaim := { program := "ytflebfmkgmhccaa", sum := "ff9a3f1b8d6a64b7c78a936e432d61b1bdf8119f2a65fd39340a8eeb64511bc3", func := "loop.example/g01152/laws.FnExactFirstDifference", spec := "fnExactFirstDifference", unfollowed := true, recurses := true, named := ["math/bits.divideError", "math/bits.overflowError"], apart := false }
def FnExactFirstDifferenceSaid : Prop := fnExactFirstDifferenceRow.holds Try.pinned (OpenSpec.ofChange fnExactFirstDifferenceSpec)

/-- ITS FALSE NEIGHBOUR: 'it returns false'. Refute it at one input. -/
def fnExactFirstDifferenceWrong : ChangeSpec := { name := "fnExactFirstDifference", fn := fun _ => fun
  | [d1, d2] => { results := [.lit (.bool false)], args := [d1, d2] }
  | _ => none }
def FnExactFirstDifferenceWrongFalsely : Prop := fnExactFirstDifferenceRow.holds Try.pinned (OpenSpec.ofChange fnExactFirstDifferenceWrong)

/-- 'laws.FnExactInverseOfLaw': WHATEVER THE INPUT: true; the input reads as it did. -/
def fnExactInverseOfLawSpec : ChangeSpec := { name := "fnExactInverseOfLaw", fn := fun _ => fun
  | [d] => { results := [.lit (.bool true)], args := [d] }
  | _ => none }
def fnExactInverseOfLawRow : OpenClaim := { program := "ytflebfmkgmhccaa", sum := "ff9a3f1b8d6a64b7c78a936e432d61b1bdf8119f2a65fd39340a8eeb64511bc3", func := "loop.example/g01152/laws.FnExactInverseOfLaw", spec := "fnExactInverseOfLaw", unfollowed := true, recurses := true, named := ["math/bits.divideError", "math/bits.overflowError"], apart := false }
def FnExactInverseOfLawSaid : Prop := fnExactInverseOfLawRow.holds Try.pinned (OpenSpec.ofChange fnExactInverseOfLawSpec)

/-- ITS FALSE NEIGHBOUR: 'it returns false'. Refute it at one input. -/
def fnExactInverseOfLawWrong : ChangeSpec := { name := "fnExactInverseOfLaw", fn := fun _ => fun
  | [d] => { results := [.lit (.bool false)], args := [d] }
  | _ => none }
def FnExactInverseOfLawWrongFalsely : Prop := fnExactInverseOfLawRow.holds Try.pinned (OpenSpec.ofChange fnExactInverseOfLawWrong)

/-- 'laws.FnExactSumUnder': WHATEVER THE INPUT: true; the input reads as it did. -/
def fnExactSumUnderSpec : ChangeSpec := { name := "fnExactSumUnder", fn := fun _ => fun
  | [d1, d2, d3] => { results := [.lit (.bool true)], args := [d1, d2, d3] }
  | _ => none }
def fnExactSumUnderRow : OpenClaim := { program := "ytflebfmkgmhccaa", sum := "ff9a3f1b8d6a64b7c78a936e432d61b1bdf8119f2a65fd39340a8eeb64511bc3", func := "loop.example/g01152/laws.FnExactSumUnder", spec := "fnExactSumUnder", unfollowed := true, recurses := true, named := ["math/bits.divideError", "math/bits.overflowError"], apart := false }
def FnExactSumUnderSaid : Prop := fnExactSumUnderRow.holds Try.pinned (OpenSpec.ofChange fnExactSumUnderSpec)

/-- ITS FALSE NEIGHBOUR: 'it returns false'. Refute it at one input. -/
def fnExactSumUnderWrong : ChangeSpec := { name := "fnExactSumUnder", fn := fun _ => fun
  | [d1, d2, d3] => { results := [.lit (.bool false)], args := [d1, d2, d3] }
  | _ => none }
def FnExactSumUnderWrongFalsely : Prop := fnExactSumUnderRow.holds Try.pinned (OpenSpec.ofChange fnExactSumUnderWrong)

/-- 'laws.FnExactOppositeUnder': WHATEVER THE INPUT: true; the input reads as it did. -/
def fnExactOppositeUnderSpec : ChangeSpec := { name := "fnExactOppositeUnder", fn := fun _ => fun
  | [d1, d2] => { results := [.lit (.bool true)], args := [d1, d2] }
  | _ => none }
def fnExactOppositeUnderRow : OpenClaim := { program := "ytflebfmkgmhccaa", sum := "ff9a3f1b8d6a64b7c78a936e432d61b1bdf8119f2a65fd39340a8eeb64511bc3", func := "loop.example/g01152/laws.FnExactOppositeUnder", spec := "fnExactOppositeUnder", unfollowed := true, recurses := true, named := ["math/bits.divideError", "math/bits.overflowError"], apart := false }
def FnExactOppositeUnderSaid : Prop := fnExactOppositeUnderRow.holds Try.pinned (OpenSpec.ofChange fnExactOppositeUnderSpec)

/-- ITS FALSE NEIGHBOUR: 'it returns false'. Refute it at one input. -/
def fnExactOppositeUnderWrong : ChangeSpec := { name := "fnExactOppositeUnder", fn := fun _ => fun
  | [d1, d2] => { results := [.lit (.bool false)], args := [d1, d2] }
  | _ => none }
def FnExactOppositeUnderWrongFalsely : Prop := fnExactOppositeUnderRow.holds Try.pinned (OpenSpec.ofChange fnExactOppositeUnderWrong)

/-- 'laws.FnExactDifferenceUnder': WHATEVER THE INPUT: true; the input reads as it did. -/
def fnExactDifferenceUnderSpec : ChangeSpec := { name := "fnExactDifferenceUnder", fn := fun _ => fun
  | [d1, d2, d3] => { results := [.lit (.bool true)], args := [d1, d2, d3] }
  | _ => none }
def fnExactDifferenceUnderRow : OpenClaim := { program := "ytflebfmkgmhccaa", sum := "ff9a3f1b8d6a64b7c78a936e432d61b1bdf8119f2a65fd39340a8eeb64511bc3", func := "loop.example/g01152/laws.FnExactDifferenceUnder", spec := "fnExactDifferenceUnder", unfollowed := true, recurses := true, named := ["math/bits.divideError", "math/bits.overflowError"], apart := false }
def FnExactDifferenceUnderSaid : Prop := fnExactDifferenceUnderRow.holds Try.pinned (OpenSpec.ofChange fnExactDifferenceUnderSpec)

/-- ITS FALSE NEIGHBOUR: 'it returns false'. Refute it at one input. -/
def fnExactDifferenceUnderWrong : ChangeSpec := { name := "fnExactDifferenceUnder", fn := fun _ => fun
  | [d1, d2, d3] => { results := [.lit (.bool false)], args := [d1, d2, d3] }
  | _ => none }
def FnExactDifferenceUnderWrongFalsely : Prop := fnExactDifferenceUnderRow.holds Try.pinned (OpenSpec.ofChange fnExactDifferenceUnderWrong)

/-- 'laws.FnExactLawOfCurve': WHATEVER THE INPUT: true; the input reads as it did. -/
def fnExactLawOfCurveSpec : ChangeSpec := { name := "fnExactLawOfCurve", fn := fun _ => fun
  | [d] => { results := [.lit (.bool true)], args := [d] }
  | _ => none }
def fnExactLawOfCurveRow : OpenClaim := { program := "ytflebfmkgmhccaa", sum := "ff9a3f1b8d6a64b7c78a936e432d61b1bdf8119f2a65fd39340a8eeb64511bc3", func := "loop.example/g01152/laws.FnExactLawOfCurve", spec := "fnExactLawOfCurve", unfollowed := true, recurses := true, named := ["math/bits.divideError", "math/bits.overflowError"], apart := false }
def FnExactLawOfCurveSaid : Prop := fnExactLawOfCurveRow.holds Try.pinned (OpenSpec.ofChange fnExactLawOfCurveSpec)

/-- ITS FALSE NEIGHBOUR: 'it returns false'. Refute it at one input. -/
def fnExactLawOfCurveWrong : ChangeSpec := { name := "fnExactLawOfCurve", fn := fun _ => fun
  | [d] => { results := [.lit (.bool false)], args := [d] }
  | _ => none }
def FnExactLawOfCurveWrongFalsely : Prop := fnExactLawOfCurveRow.holds Try.pinned (OpenSpec.ofChange fnExactLawOfCurveWrong)

/-- 'laws.FnExactLawOfDifferential': WHATEVER THE INPUT: true; the input reads as it did. -/
def fnExactLawOfDifferentialSpec : ChangeSpec := { name := "fnExactLawOfDifferential", fn := fun _ => fun
  | [d] => { results := [.lit (.bool true)], args := [d] }
  | _ => none }
def fnExactLawOfDifferentialRow : OpenClaim := { program := "ytflebfmkgmhccaa", sum := "ff9a3f1b8d6a64b7c78a936e432d61b1bdf8119f2a65fd39340a8eeb64511bc3", func := "loop.example/g01152/laws.FnExactLawOfDifferential", spec := "fnExactLawOfDifferential", unfollowed := true, recurses := true, named := ["math/bits.divideError", "math/bits.overflowError"], apart := false }
def FnExactLawOfDifferentialSaid : Prop := fnExactLawOfDifferentialRow.holds Try.pinned (OpenSpec.ofChange fnExactLawOfDifferentialSpec)

/-- ITS FALSE NEIGHBOUR: 'it returns false'. Refute it at one input. -/
def fnExactLawOfDifferentialWrong : ChangeSpec := { name := "fnExactLawOfDifferential", fn := fun _ => fun
  | [d] => { results := [.lit (.bool false)], args := [d] }
  | _ => none }
def FnExactLawOfDifferentialWrongFalsely : Prop := fnExactLawOfDifferentialRow.holds Try.pinned (OpenSpec.ofChange fnExactLawOfDifferentialWrong)

/-- 'laws.FnExactDifferentialOf': WHATEVER THE INPUT: true; the input reads as it did. -/
def fnExactDifferentialOfSpec : ChangeSpec := { name := "fnExactDifferentialOf", fn := fun _ => fun
  | [d] => { results := [.lit (.bool true)], args := [d] }
  | _ => none }
def fnExactDifferentialOfRow : OpenClaim := { program := "ytflebfmkgmhccaa", sum := "ff9a3f1b8d6a64b7c78a936e432d61b1bdf8119f2a65fd39340a8eeb64511bc3", func := "loop.example/g01152/laws.FnExactDifferentialOf", spec := "fnExactDifferentialOf", unfollowed := true, recurses := true, named := ["math/bits.divideError", "math/bits.overflowError"], apart := false }
def FnExactDifferentialOfSaid : Prop := fnExactDifferentialOfRow.holds Try.pinned (OpenSpec.ofChange fnExactDifferentialOfSpec)

/-- ITS FALSE NEIGHBOUR: 'it returns false'. Refute it at one input. -/
def fnExactDifferentialOfWrong : ChangeSpec := { name := "fnExactDifferentialOf", fn := fun _ => fun
  | [d] => { results := [.lit (.bool false)], args := [d] }
  | _ => none }
def FnExactDifferentialOfWrongFalsely : Prop := fnExactDifferentialOfRow.holds Try.pinned (OpenSpec.ofChange fnExactDifferentialOfWrong)

/-- 'laws.FnExactLogarithmOf': WHATEVER THE INPUT: true; the input reads as it did. -/
def fnExactLogarithmOfSpec : ChangeSpec := { name := "fnExactLogarithmOf", fn := fun _ => fun
  | [d] => { results := [.lit (.bool true)], args := [d] }
  | _ => none }
def fnExactLogarithmOfRow : OpenClaim := { program := "ytflebfmkgmhccaa", sum := "ff9a3f1b8d6a64b7c78a936e432d61b1bdf8119f2a65fd39340a8eeb64511bc3", func := "loop.example/g01152/laws.FnExactLogarithmOf", spec := "fnExactLogarithmOf", unfollowed := true, recurses := true, named := ["math/bits.divideError", "math/bits.overflowError"], apart := false }
def FnExactLogarithmOfSaid : Prop := fnExactLogarithmOfRow.holds Try.pinned (OpenSpec.ofChange fnExactLogarithmOfSpec)

/-- ITS FALSE NEIGHBOUR: 'it returns false'. Refute it at one input. -/
def fnExactLogarithmOfWrong : ChangeSpec := { name := "fnExactLogarithmOf", fn := fun _ => fun
  | [d] => { results := [.lit (.bool false)], args := [d] }
  | _ => none }
def FnExactLogarithmOfWrongFalsely : Prop := fnExactLogarithmOfRow.holds Try.pinned (OpenSpec.ofChange fnExactLogarithmOfWrong)

/-- 'laws.FnExactExponentialOf': WHATEVER THE INPUT: true; the input reads as it did. -/
def fnExactExponentialOfSpec : ChangeSpec := { name := "fnExactExponentialOf", fn := fun _ => fun
  | [d] => { results := [.lit (.bool true)], args := [d] }
  | _ => none }
def fnExactExponentialOfRow : OpenClaim := { program := "ytflebfmkgmhccaa", sum := "ff9a3f1b8d6a64b7c78a936e432d61b1bdf8119f2a65fd39340a8eeb64511bc3", func := "loop.example/g01152/laws.FnExactExponentialOf", spec := "fnExactExponentialOf", unfollowed := true, recurses := true, named := ["math/bits.divideError", "math/bits.overflowError"], apart := false }
def FnExactExponentialOfSaid : Prop := fnExactExponentialOfRow.holds Try.pinned (OpenSpec.ofChange fnExactExponentialOfSpec)

/-- ITS FALSE NEIGHBOUR: 'it returns false'. Refute it at one input. -/
def fnExactExponentialOfWrong : ChangeSpec := { name := "fnExactExponentialOf", fn := fun _ => fun
  | [d] => { results := [.lit (.bool false)], args := [d] }
  | _ => none }
def FnExactExponentialOfWrongFalsely : Prop := fnExactExponentialOfRow.holds Try.pinned (OpenSpec.ofChange fnExactExponentialOfWrong)

/- THE SECOND FORM. 'bulk': how many values and letters a reading holds, each counted each time it is reached (what is shared counts as often as it is met; a slice's spare places count too). A statement '..UptoSaid' is the law's where the arguments, and the package variables that the reading takes, are together of bulk at most 1048576: NARROWER than '..Said'. Prove '..Said' where nothing that the law and all that it calls make is longer than what came in: it says more and counts as full. Else prove '..UptoSaid'. A law counts once. -/
mutual
def uptoBulk {H : Type} : DataW H → Nat
  | .lit (.string bytes) => bytes.length + 1
  | .lit _ => 1
  | .nil => 1
  | .ptr d => uptoBulk d + 1
  | .slice elems spare => uptoBulkAll elems + uptoBulkAll spare + 1
  | .agg parts => uptoBulkAll parts + 1
  | .iface _ d => uptoBulk d + 1
  | .map entries => uptoBulkEntries entries + 1
  | .held _ => 1
def uptoBulkAll {H : Type} : List (DataW H) → Nat
  | [] => 0
  | d :: r => uptoBulk d + uptoBulkAll r
def uptoBulkEntries {H : Type} : List (Lit × DataW H) → Nat
  | [] => 0
  | x :: r => uptoBulkEntry x + uptoBulkEntries r
def uptoBulkEntry {H : Type} : Lit × DataW H → Nat
  | (.string bytes, d) => bytes.length + uptoBulk d + 1
  | (_, d) => uptoBulk d + 1
 end
def uptoSmall : (H : Type) → List (DataW H) → Bool := fun _ ds => decide (uptoBulkAll ds ≤ 1048576)
def OpenSpec.upto (s : _root_.Go.ChangeSpec) : _root_.Go.OpenSpec := { _root_.Go.OpenSpec.ofChange s with cond := some uptoSmall }

/-- 'laws.FnExactLawFault', WHERE WHAT IT READS IS OF BULK AT MOST 1048576: true; the input reads as it did. -/
def fnExactLawFaultUptoRow : OpenClaim := { program := "ytflebfmkgmhccaa", sum := "ff9a3f1b8d6a64b7c78a936e432d61b1bdf8119f2a65fd39340a8eeb64511bc3", func := "loop.example/g01152/laws.FnExactLawFault", spec := "fnExactLawFault", unfollowed := true, recurses := true, named := ["math/bits.divideError", "math/bits.overflowError"], apart := false, narrowed := true }
def FnExactLawFaultUptoSaid : Prop := fnExactLawFaultUptoRow.holds Try.pinned (OpenSpec.upto fnExactLawFaultSpec)

/-- 'laws.FnExactAgreementOf', WHERE WHAT IT READS IS OF BULK AT MOST 1048576: true; the input reads as it did. -/
def fnExactAgreementOfUptoRow : OpenClaim := { program := "ytflebfmkgmhccaa", sum := "ff9a3f1b8d6a64b7c78a936e432d61b1bdf8119f2a65fd39340a8eeb64511bc3", func := "loop.example/g01152/laws.FnExactAgreementOf", spec := "fnExactAgreementOf", unfollowed := true, recurses := true, named := ["math/bits.divideError", "math/bits.overflowError"], apart := false, narrowed := true }
def FnExactAgreementOfUptoSaid : Prop := fnExactAgreementOfUptoRow.holds Try.pinned (OpenSpec.upto fnExactAgreementOfSpec)

/-- 'laws.FnExactFirstDifference', WHERE WHAT IT READS IS OF BULK AT MOST 1048576: true; the input reads as it did. -/
def fnExactFirstDifferenceUptoRow : OpenClaim := { program := "ytflebfmkgmhccaa", sum := "ff9a3f1b8d6a64b7c78a936e432d61b1bdf8119f2a65fd39340a8eeb64511bc3", func := "loop.example/g01152/laws.FnExactFirstDifference", spec := "fnExactFirstDifference", unfollowed := true, recurses := true, named := ["math/bits.divideError", "math/bits.overflowError"], apart := false, narrowed := true }
def FnExactFirstDifferenceUptoSaid : Prop := fnExactFirstDifferenceUptoRow.holds Try.pinned (OpenSpec.upto fnExactFirstDifferenceSpec)

/-- 'laws.FnExactInverseOfLaw', WHERE WHAT IT READS IS OF BULK AT MOST 1048576: true; the input reads as it did. -/
def fnExactInverseOfLawUptoRow : OpenClaim := { program := "ytflebfmkgmhccaa", sum := "ff9a3f1b8d6a64b7c78a936e432d61b1bdf8119f2a65fd39340a8eeb64511bc3", func := "loop.example/g01152/laws.FnExactInverseOfLaw", spec := "fnExactInverseOfLaw", unfollowed := true, recurses := true, named := ["math/bits.divideError", "math/bits.overflowError"], apart := false, narrowed := true }
def FnExactInverseOfLawUptoSaid : Prop := fnExactInverseOfLawUptoRow.holds Try.pinned (OpenSpec.upto fnExactInverseOfLawSpec)

/-- 'laws.FnExactSumUnder', WHERE WHAT IT READS IS OF BULK AT MOST 1048576: true; the input reads as it did. -/
def fnExactSumUnderUptoRow : OpenClaim := { program := "ytflebfmkgmhccaa", sum := "ff9a3f1b8d6a64b7c78a936e432d61b1bdf8119f2a65fd39340a8eeb64511bc3", func := "loop.example/g01152/laws.FnExactSumUnder", spec := "fnExactSumUnder", unfollowed := true, recurses := true, named := ["math/bits.divideError", "math/bits.overflowError"], apart := false, narrowed := true }
def FnExactSumUnderUptoSaid : Prop := fnExactSumUnderUptoRow.holds Try.pinned (OpenSpec.upto fnExactSumUnderSpec)

/-- 'laws.FnExactOppositeUnder', WHERE WHAT IT READS IS OF BULK AT MOST 1048576: true; the input reads as it did. -/
def fnExactOppositeUnderUptoRow : OpenClaim := { program := "ytflebfmkgmhccaa", sum := "ff9a3f1b8d6a64b7c78a936e432d61b1bdf8119f2a65fd39340a8eeb64511bc3", func := "loop.example/g01152/laws.FnExactOppositeUnder", spec := "fnExactOppositeUnder", unfollowed := true, recurses := true, named := ["math/bits.divideError", "math/bits.overflowError"], apart := false, narrowed := true }
def FnExactOppositeUnderUptoSaid : Prop := fnExactOppositeUnderUptoRow.holds Try.pinned (OpenSpec.upto fnExactOppositeUnderSpec)

/-- 'laws.FnExactDifferenceUnder', WHERE WHAT IT READS IS OF BULK AT MOST 1048576: true; the input reads as it did. -/
def fnExactDifferenceUnderUptoRow : OpenClaim := { program := "ytflebfmkgmhccaa", sum := "ff9a3f1b8d6a64b7c78a936e432d61b1bdf8119f2a65fd39340a8eeb64511bc3", func := "loop.example/g01152/laws.FnExactDifferenceUnder", spec := "fnExactDifferenceUnder", unfollowed := true, recurses := true, named := ["math/bits.divideError", "math/bits.overflowError"], apart := false, narrowed := true }
def FnExactDifferenceUnderUptoSaid : Prop := fnExactDifferenceUnderUptoRow.holds Try.pinned (OpenSpec.upto fnExactDifferenceUnderSpec)

/-- 'laws.FnExactLawOfCurve', WHERE WHAT IT READS IS OF BULK AT MOST 1048576: true; the input reads as it did. -/
def fnExactLawOfCurveUptoRow : OpenClaim := { program := "ytflebfmkgmhccaa", sum := "ff9a3f1b8d6a64b7c78a936e432d61b1bdf8119f2a65fd39340a8eeb64511bc3", func := "loop.example/g01152/laws.FnExactLawOfCurve", spec := "fnExactLawOfCurve", unfollowed := true, recurses := true, named := ["math/bits.divideError", "math/bits.overflowError"], apart := false, narrowed := true }
def FnExactLawOfCurveUptoSaid : Prop := fnExactLawOfCurveUptoRow.holds Try.pinned (OpenSpec.upto fnExactLawOfCurveSpec)

/-- 'laws.FnExactLawOfDifferential', WHERE WHAT IT READS IS OF BULK AT MOST 1048576: true; the input reads as it did. -/
def fnExactLawOfDifferentialUptoRow : OpenClaim := { program := "ytflebfmkgmhccaa", sum := "ff9a3f1b8d6a64b7c78a936e432d61b1bdf8119f2a65fd39340a8eeb64511bc3", func := "loop.example/g01152/laws.FnExactLawOfDifferential", spec := "fnExactLawOfDifferential", unfollowed := true, recurses := true, named := ["math/bits.divideError", "math/bits.overflowError"], apart := false, narrowed := true }
def FnExactLawOfDifferentialUptoSaid : Prop := fnExactLawOfDifferentialUptoRow.holds Try.pinned (OpenSpec.upto fnExactLawOfDifferentialSpec)

/-- 'laws.FnExactDifferentialOf', WHERE WHAT IT READS IS OF BULK AT MOST 1048576: true; the input reads as it did. -/
def fnExactDifferentialOfUptoRow : OpenClaim := { program := "ytflebfmkgmhccaa", sum := "ff9a3f1b8d6a64b7c78a936e432d61b1bdf8119f2a65fd39340a8eeb64511bc3", func := "loop.example/g01152/laws.FnExactDifferentialOf", spec := "fnExactDifferentialOf", unfollowed := true, recurses := true, named := ["math/bits.divideError", "math/bits.overflowError"], apart := false, narrowed := true }
def FnExactDifferentialOfUptoSaid : Prop := fnExactDifferentialOfUptoRow.holds Try.pinned (OpenSpec.upto fnExactDifferentialOfSpec)

/-- 'laws.FnExactLogarithmOf', WHERE WHAT IT READS IS OF BULK AT MOST 1048576: true; the input reads as it did. -/
def fnExactLogarithmOfUptoRow : OpenClaim := { program := "ytflebfmkgmhccaa", sum := "ff9a3f1b8d6a64b7c78a936e432d61b1bdf8119f2a65fd39340a8eeb64511bc3", func := "loop.example/g01152/laws.FnExactLogarithmOf", spec := "fnExactLogarithmOf", unfollowed := true, recurses := true, named := ["math/bits.divideError", "math/bits.overflowError"], apart := false, narrowed := true }
def FnExactLogarithmOfUptoSaid : Prop := fnExactLogarithmOfUptoRow.holds Try.pinned (OpenSpec.upto fnExactLogarithmOfSpec)

/-- 'laws.FnExactExponentialOf', WHERE WHAT IT READS IS OF BULK AT MOST 1048576: true; the input reads as it did. -/
def fnExactExponentialOfUptoRow : OpenClaim := { program := "ytflebfmkgmhccaa", sum := "ff9a3f1b8d6a64b7c78a936e432d61b1bdf8119f2a65fd39340a8eeb64511bc3", func := "loop.example/g01152/laws.FnExactExponentialOf", spec := "fnExactExponentialOf", unfollowed := true, recurses := true, named := ["math/bits.divideError", "math/bits.overflowError"], apart := false, narrowed := true }
def FnExactExponentialOfUptoSaid : Prop := fnExactExponentialOfUptoRow.holds Try.pinned (OpenSpec.upto fnExactExponentialOfSpec)

end Rows
end Go.Proofs.Ytflebfmkgmhccaa
