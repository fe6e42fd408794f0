/-
  No cell of these rows narrows 'for every input' (looked for: loops, veiled, ifaces, maps, wideKeys, modest, calm, conditions, laid).
  DERIVED. THE GIVEN ROWS OF THIS SEAT. 11 by the template 'for every input the law returns true; each argument reads behind the call as it read before'; 0 by the template 'total and deterministic' (their statements: YtjfobjmpjboniaaTotals.lean).
  GIVEN WITH THE SEED: the statements are not yours to turn. If you find one false, say at which input.
  Laid BY PROGRAM, IN A SANDBOX (cutbox-rows.mjs): the forced cells as the released guide's own fill.sh prints them over the translation 94d566d4065622e1… (all of the seat's roots in one cut). By AI agents, Wed Nov 11 2026. No macro, syntax, notation, axiom, sorry.
-/
import Derived.Test.YtjfobjmpjboniaaChecked
import GoSem.Claim
import GoSem.ClaimJoined
import GoSem.ClaimMapViews
import Derived.JoinedTies
import Derived.KernelRfl
namespace Go.Proofs.Ytjfobjmpjboniaa
/- THE CELL 'sum', in the pinned program and in every row, IS THE sha256 OF THE DUMP (.gsa) THAT YtjfobjmpjboniaaProg.lean LOADS. Nothing in Lean hashes anything: it is a label: what it is worth is what the hold of that sum in a sandbox is worth. -/
noncomputable def Try.pinned : Pinned := { name := "ytjfobjmpjboniaa", sum := "94d566d4065622e1075da4e1293fc51913e5795440cb5f00c91bdf410f2753bc", checked := Try.checked }
namespace Rows
def none {H : Type} : Left H := { results := [], args := [] }

/-- 'laws.FnExactAddSeries': WHATEVER THE INPUT: true; the input reads as it did. -/
def fnExactAddSeriesSpec : ChangeSpec := { name := "fnExactAddSeries", fn := fun _ => fun
  | [d1, d2] => { results := [.lit (.bool true)], args := [d1, d2] }
  | _ => none }
def fnExactAddSeriesRow : OpenClaim := { program := "ytjfobjmpjboniaa", sum := "94d566d4065622e1075da4e1293fc51913e5795440cb5f00c91bdf410f2753bc", func := "loop.example/g01152/laws.FnExactAddSeries", spec := "fnExactAddSeries", unfollowed := true, recurses := true, apart := false }
def FnExactAddSeriesSaid : Prop := fnExactAddSeriesRow.holds Try.pinned (OpenSpec.ofChange fnExactAddSeriesSpec)

/-- ITS FALSE NEIGHBOUR: 'it returns false'. Refute it at one input. -/
def fnExactAddSeriesWrong : ChangeSpec := { name := "fnExactAddSeries", fn := fun _ => fun
  | [d1, d2] => { results := [.lit (.bool false)], args := [d1, d2] }
  | _ => none }
def FnExactAddSeriesWrongFalsely : Prop := fnExactAddSeriesRow.holds Try.pinned (OpenSpec.ofChange fnExactAddSeriesWrong)

/-- 'laws.FnExactAddPlanes': WHATEVER THE INPUT: true; the input reads as it did. -/
def fnExactAddPlanesSpec : ChangeSpec := { name := "fnExactAddPlanes", fn := fun _ => fun
  | [d1, d2] => { results := [.lit (.bool true)], args := [d1, d2] }
  | _ => none }
def fnExactAddPlanesRow : OpenClaim := { program := "ytjfobjmpjboniaa", sum := "94d566d4065622e1075da4e1293fc51913e5795440cb5f00c91bdf410f2753bc", func := "loop.example/g01152/laws.FnExactAddPlanes", spec := "fnExactAddPlanes", unfollowed := true, recurses := true, apart := false }
def FnExactAddPlanesSaid : Prop := fnExactAddPlanesRow.holds Try.pinned (OpenSpec.ofChange fnExactAddPlanesSpec)

/-- ITS FALSE NEIGHBOUR: 'it returns false'. Refute it at one input. -/
def fnExactAddPlanesWrong : ChangeSpec := { name := "fnExactAddPlanes", fn := fun _ => fun
  | [d1, d2] => { results := [.lit (.bool false)], args := [d1, d2] }
  | _ => none }
def FnExactAddPlanesWrongFalsely : Prop := fnExactAddPlanesRow.holds Try.pinned (OpenSpec.ofChange fnExactAddPlanesWrong)

/-- 'laws.FnExactMultiplySeries': WHATEVER THE INPUT: true; the input reads as it did. -/
def fnExactMultiplySeriesSpec : ChangeSpec := { name := "fnExactMultiplySeries", fn := fun _ => fun
  | [d1, d2] => { results := [.lit (.bool true)], args := [d1, d2] }
  | _ => none }
def fnExactMultiplySeriesRow : OpenClaim := { program := "ytjfobjmpjboniaa", sum := "94d566d4065622e1075da4e1293fc51913e5795440cb5f00c91bdf410f2753bc", func := "loop.example/g01152/laws.FnExactMultiplySeries", spec := "fnExactMultiplySeries", unfollowed := true, recurses := true, named := ["math/bits.divideError", "math/bits.overflowError"], apart := false }
def FnExactMultiplySeriesSaid : Prop := fnExactMultiplySeriesRow.holds Try.pinned (OpenSpec.ofChange fnExactMultiplySeriesSpec)

/-- ITS FALSE NEIGHBOUR: 'it returns false'. Refute it at one input. -/
def fnExactMultiplySeriesWrong : ChangeSpec := { name := "fnExactMultiplySeries", fn := fun _ => fun
  | [d1, d2] => { results := [.lit (.bool false)], args := [d1, d2] }
  | _ => none }
def FnExactMultiplySeriesWrongFalsely : Prop := fnExactMultiplySeriesRow.holds Try.pinned (OpenSpec.ofChange fnExactMultiplySeriesWrong)

/-- 'laws.FnExactComposeSeries': WHATEVER THE INPUT: true; the input reads as it did. -/
def fnExactComposeSeriesSpec : ChangeSpec := { name := "fnExactComposeSeries", fn := fun _ => fun
  | [d1, d2] => { results := [.lit (.bool true)], args := [d1, d2] }
  | _ => none }
def fnExactComposeSeriesRow : OpenClaim := { program := "ytjfobjmpjboniaa", sum := "94d566d4065622e1075da4e1293fc51913e5795440cb5f00c91bdf410f2753bc", func := "loop.example/g01152/laws.FnExactComposeSeries", spec := "fnExactComposeSeries", unfollowed := true, recurses := true, named := ["math/bits.divideError", "math/bits.overflowError"], apart := false }
def FnExactComposeSeriesSaid : Prop := fnExactComposeSeriesRow.holds Try.pinned (OpenSpec.ofChange fnExactComposeSeriesSpec)

/-- ITS FALSE NEIGHBOUR: 'it returns false'. Refute it at one input. -/
def fnExactComposeSeriesWrong : ChangeSpec := { name := "fnExactComposeSeries", fn := fun _ => fun
  | [d1, d2] => { results := [.lit (.bool false)], args := [d1, d2] }
  | _ => none }
def FnExactComposeSeriesWrongFalsely : Prop := fnExactComposeSeriesRow.holds Try.pinned (OpenSpec.ofChange fnExactComposeSeriesWrong)

/-- 'laws.FnExactMultiplyPlanes': WHATEVER THE INPUT: true; the input reads as it did. -/
def fnExactMultiplyPlanesSpec : ChangeSpec := { name := "fnExactMultiplyPlanes", fn := fun _ => fun
  | [d1, d2] => { results := [.lit (.bool true)], args := [d1, d2] }
  | _ => none }
def fnExactMultiplyPlanesRow : OpenClaim := { program := "ytjfobjmpjboniaa", sum := "94d566d4065622e1075da4e1293fc51913e5795440cb5f00c91bdf410f2753bc", func := "loop.example/g01152/laws.FnExactMultiplyPlanes", spec := "fnExactMultiplyPlanes", unfollowed := true, recurses := true, named := ["math/bits.divideError", "math/bits.overflowError"], apart := false }
def FnExactMultiplyPlanesSaid : Prop := fnExactMultiplyPlanesRow.holds Try.pinned (OpenSpec.ofChange fnExactMultiplyPlanesSpec)

/-- ITS FALSE NEIGHBOUR: 'it returns false'. Refute it at one input. -/
def fnExactMultiplyPlanesWrong : ChangeSpec := { name := "fnExactMultiplyPlanes", fn := fun _ => fun
  | [d1, d2] => { results := [.lit (.bool false)], args := [d1, d2] }
  | _ => none }
def FnExactMultiplyPlanesWrongFalsely : Prop := fnExactMultiplyPlanesRow.holds Try.pinned (OpenSpec.ofChange fnExactMultiplyPlanesWrong)

/-- 'laws.FnExactApplySeries': WHATEVER THE INPUT: true; the input reads as it did. -/
def fnExactApplySeriesSpec : ChangeSpec := { name := "fnExactApplySeries", fn := fun _ => fun
  | [d1, d2] => { results := [.lit (.bool true)], args := [d1, d2] }
  | _ => none }
def fnExactApplySeriesRow : OpenClaim := { program := "ytjfobjmpjboniaa", sum := "94d566d4065622e1075da4e1293fc51913e5795440cb5f00c91bdf410f2753bc", func := "loop.example/g01152/laws.FnExactApplySeries", spec := "fnExactApplySeries", unfollowed := true, recurses := true, named := ["math/bits.divideError", "math/bits.overflowError"], apart := false }
def FnExactApplySeriesSaid : Prop := fnExactApplySeriesRow.holds Try.pinned (OpenSpec.ofChange fnExactApplySeriesSpec)

/-- ITS FALSE NEIGHBOUR: 'it returns false'. Refute it at one input. -/
def fnExactApplySeriesWrong : ChangeSpec := { name := "fnExactApplySeries", fn := fun _ => fun
  | [d1, d2] => { results := [.lit (.bool false)], args := [d1, d2] }
  | _ => none }
def FnExactApplySeriesWrongFalsely : Prop := fnExactApplySeriesRow.holds Try.pinned (OpenSpec.ofChange fnExactApplySeriesWrong)

/-- 'laws.FnExactSubstituteCurves': WHATEVER THE INPUT: true; the input reads as it did. -/
def fnExactSubstituteCurvesSpec : ChangeSpec := { name := "fnExactSubstituteCurves", fn := fun _ => fun
  | [d1, d2, d3] => { results := [.lit (.bool true)], args := [d1, d2, d3] }
  | _ => none }
def fnExactSubstituteCurvesRow : OpenClaim := { program := "ytjfobjmpjboniaa", sum := "94d566d4065622e1075da4e1293fc51913e5795440cb5f00c91bdf410f2753bc", func := "loop.example/g01152/laws.FnExactSubstituteCurves", spec := "fnExactSubstituteCurves", unfollowed := true, recurses := true, named := ["math/bits.divideError", "math/bits.overflowError"], apart := false }
def FnExactSubstituteCurvesSaid : Prop := fnExactSubstituteCurvesRow.holds Try.pinned (OpenSpec.ofChange fnExactSubstituteCurvesSpec)

/-- ITS FALSE NEIGHBOUR: 'it returns false'. Refute it at one input. -/
def fnExactSubstituteCurvesWrong : ChangeSpec := { name := "fnExactSubstituteCurves", fn := fun _ => fun
  | [d1, d2, d3] => { results := [.lit (.bool false)], args := [d1, d2, d3] }
  | _ => none }
def FnExactSubstituteCurvesWrongFalsely : Prop := fnExactSubstituteCurvesRow.holds Try.pinned (OpenSpec.ofChange fnExactSubstituteCurvesWrong)

/-- 'laws.FnExactSubstituteBoth': WHATEVER THE INPUT: true; the input reads as it did. -/
def fnExactSubstituteBothSpec : ChangeSpec := { name := "fnExactSubstituteBoth", fn := fun _ => fun
  | [d1, d2, d3] => { results := [.lit (.bool true)], args := [d1, d2, d3] }
  | _ => none }
def fnExactSubstituteBothRow : OpenClaim := { program := "ytjfobjmpjboniaa", sum := "94d566d4065622e1075da4e1293fc51913e5795440cb5f00c91bdf410f2753bc", func := "loop.example/g01152/laws.FnExactSubstituteBoth", spec := "fnExactSubstituteBoth", unfollowed := true, recurses := true, named := ["math/bits.divideError", "math/bits.overflowError"], apart := false }
def FnExactSubstituteBothSaid : Prop := fnExactSubstituteBothRow.holds Try.pinned (OpenSpec.ofChange fnExactSubstituteBothSpec)

/-- ITS FALSE NEIGHBOUR: 'it returns false'. Refute it at one input. -/
def fnExactSubstituteBothWrong : ChangeSpec := { name := "fnExactSubstituteBoth", fn := fun _ => fun
  | [d1, d2, d3] => { results := [.lit (.bool false)], args := [d1, d2, d3] }
  | _ => none }
def FnExactSubstituteBothWrongFalsely : Prop := fnExactSubstituteBothRow.holds Try.pinned (OpenSpec.ofChange fnExactSubstituteBothWrong)

/-- 'laws.FnSeries': WHATEVER THE INPUT: true; the input reads as it did. -/
def fnSeriesSpec : ChangeSpec := { name := "fnSeries", fn := fun _ => fun
  | [d] => { results := [.lit (.bool true)], args := [d] }
  | _ => none }
def fnSeriesRow : OpenClaim := { program := "ytjfobjmpjboniaa", sum := "94d566d4065622e1075da4e1293fc51913e5795440cb5f00c91bdf410f2753bc", func := "loop.example/g01152/laws.FnSeries", spec := "fnSeries", unfollowed := true, recurses := true, named := ["math/bits.divideError", "math/bits.overflowError"], apart := false }
def FnSeriesSaid : Prop := fnSeriesRow.holds Try.pinned (OpenSpec.ofChange fnSeriesSpec)

/-- ITS FALSE NEIGHBOUR: 'it returns false'. Refute it at one input. -/
def fnSeriesWrong : ChangeSpec := { name := "fnSeries", fn := fun _ => fun
  | [d] => { results := [.lit (.bool false)], args := [d] }
  | _ => none }
def FnSeriesWrongFalsely : Prop := fnSeriesRow.holds Try.pinned (OpenSpec.ofChange fnSeriesWrong)

/-- 'laws.FnSeriesCalculus': WHATEVER THE INPUT: true; the input reads as it did. -/
def fnSeriesCalculusSpec : ChangeSpec := { name := "fnSeriesCalculus", fn := fun _ => fun
  | [d] => { results := [.lit (.bool true)], args := [d] }
  | _ => none }
def fnSeriesCalculusRow : OpenClaim := { program := "ytjfobjmpjboniaa", sum := "94d566d4065622e1075da4e1293fc51913e5795440cb5f00c91bdf410f2753bc", func := "loop.example/g01152/laws.FnSeriesCalculus", spec := "fnSeriesCalculus", unfollowed := true, recurses := true, named := ["math/bits.divideError", "math/bits.overflowError"], apart := false }
def FnSeriesCalculusSaid : Prop := fnSeriesCalculusRow.holds Try.pinned (OpenSpec.ofChange fnSeriesCalculusSpec)

/-- ITS FALSE NEIGHBOUR: 'it returns false'. Refute it at one input. -/
def fnSeriesCalculusWrong : ChangeSpec := { name := "fnSeriesCalculus", fn := fun _ => fun
  | [d] => { results := [.lit (.bool false)], args := [d] }
  | _ => none }
def FnSeriesCalculusWrongFalsely : Prop := fnSeriesCalculusRow.holds Try.pinned (OpenSpec.ofChange fnSeriesCalculusWrong)

/-- 'laws.FnPlanes': WHATEVER THE INPUT: true; the input reads as it did. -/
def fnPlanesSpec : ChangeSpec := { name := "fnPlanes", fn := fun _ => fun
  | [d] => { results := [.lit (.bool true)], args := [d] }
  | _ => none }
def fnPlanesRow : OpenClaim := { program := "ytjfobjmpjboniaa", sum := "94d566d4065622e1075da4e1293fc51913e5795440cb5f00c91bdf410f2753bc", func := "loop.example/g01152/laws.FnPlanes", spec := "fnPlanes", unfollowed := true, recurses := true, named := ["math/bits.divideError", "math/bits.overflowError"], apart := false }
def FnPlanesSaid : Prop := fnPlanesRow.holds Try.pinned (OpenSpec.ofChange fnPlanesSpec)

/-- ITS FALSE NEIGHBOUR: 'it returns false'. Refute it at one input. -/
def fnPlanesWrong : ChangeSpec := { name := "fnPlanes", fn := fun _ => fun
  | [d] => { results := [.lit (.bool false)], args := [d] }
  | _ => none }
def FnPlanesWrongFalsely : Prop := fnPlanesRow.holds Try.pinned (OpenSpec.ofChange fnPlanesWrong)

/- THE SECOND FORM. 'bulk': how many values and letters a reading holds, each counted each time it is reached (what is shared counts as often as it is met; a slice's spare places count too). A statement '..UptoSaid' is the law's where the arguments, and the package variables that the reading takes, are together of bulk at most 1048576: NARROWER than '..Said'. Prove '..Said' where nothing that the law and all that it calls make is longer than what came in: it says more and counts as full. Else prove '..UptoSaid'. A law counts once. -/
mutual
def uptoBulk {H : Type} : DataW H → Nat
  | .lit (.string bytes) => bytes.length + 1
  | .lit _ => 1
  | .nil => 1
  | .ptr d => uptoBulk d + 1
  | .slice elems spare => uptoBulkAll elems + uptoBulkAll spare + 1
  | .agg parts => uptoBulkAll parts + 1
  | .iface _ d => uptoBulk d + 1
  | .map entries => uptoBulkEntries entries + 1
  | .held _ => 1
def uptoBulkAll {H : Type} : List (DataW H) → Nat
  | [] => 0
  | d :: r => uptoBulk d + uptoBulkAll r
def uptoBulkEntries {H : Type} : List (Lit × DataW H) → Nat
  | [] => 0
  | x :: r => uptoBulkEntry x + uptoBulkEntries r
def uptoBulkEntry {H : Type} : Lit × DataW H → Nat
  | (.string bytes, d) => bytes.length + uptoBulk d + 1
  | (_, d) => uptoBulk d + 1
 end
def uptoSmall : (H : Type) → List (DataW H) → Bool := fun _ ds => decide (uptoBulkAll ds ≤ 1048576)
def OpenSpec.upto (s : _root_.Go.ChangeSpec) : _root_.Go.OpenSpec := { _root_.Go.OpenSpec.ofChange s with cond := some uptoSmall }

/-- 'laws.FnExactAddSeries', WHERE WHAT IT READS IS OF BULK AT MOST 1048576: true; the input reads as it did. -/
def fnExactAddSeriesUptoRow : OpenClaim := { program := "ytjfobjmpjboniaa", sum := "94d566d4065622e1075da4e1293fc51913e5795440cb5f00c91bdf410f2753bc", func := "loop.example/g01152/laws.FnExactAddSeries", spec := "fnExactAddSeries", unfollowed := true, recurses := true, apart := false, narrowed := true }
def FnExactAddSeriesUptoSaid : Prop := fnExactAddSeriesUptoRow.holds Try.pinned (OpenSpec.upto fnExactAddSeriesSpec)

/-- 'laws.FnExactAddPlanes', WHERE WHAT IT READS IS OF BULK AT MOST 1048576: true; the input reads as it did. -/
def fnExactAddPlanesUptoRow : OpenClaim := { program := "ytjfobjmpjboniaa", sum := "94d566d4065622e1075da4e1293fc51913e5795440cb5f00c91bdf410f2753bc", func := "loop.example/g01152/laws.FnExactAddPlanes", spec := "fnExactAddPlanes", unfollowed := true, recurses := true, apart := false, narrowed := true }
def FnExactAddPlanesUptoSaid : Prop := fnExactAddPlanesUptoRow.holds Try.pinned (OpenSpec.upto fnExactAddPlanesSpec)

/-- 'laws.FnExactMultiplySeries', WHERE WHAT IT READS IS OF BULK AT MOST 1048576: true; the input reads as it did. -/
def fnExactMultiplySeriesUptoRow : OpenClaim := { program := "ytjfobjmpjboniaa", sum := "94d566d4065622e1075da4e1293fc51913e5795440cb5f00c91bdf410f2753bc", func := "loop.example/g01152/laws.FnExactMultiplySeries", spec := "fnExactMultiplySeries", unfollowed := true, recurses := true, named := ["math/bits.divideError", "math/bits.overflowError"], apart := false, narrowed := true }
def FnExactMultiplySeriesUptoSaid : Prop := fnExactMultiplySeriesUptoRow.holds Try.pinned (OpenSpec.upto fnExactMultiplySeriesSpec)

/-- 'laws.FnExactComposeSeries', WHERE WHAT IT READS IS OF BULK AT MOST 1048576: true; the input reads as it did. -/
def fnExactComposeSeriesUptoRow : OpenClaim := { program := "ytjfobjmpjboniaa", sum := "94d566d4065622e1075da4e1293fc51913e5795440cb5f00c91bdf410f2753bc", func := "loop.example/g01152/laws.FnExactComposeSeries", spec := "fnExactComposeSeries", unfollowed := true, recurses := true, named := ["math/bits.divideError", "math/bits.overflowError"], apart := false, narrowed := true }
def FnExactComposeSeriesUptoSaid : Prop := fnExactComposeSeriesUptoRow.holds Try.pinned (OpenSpec.upto fnExactComposeSeriesSpec)

/-- 'laws.FnExactMultiplyPlanes', WHERE WHAT IT READS IS OF BULK AT MOST 1048576: true; the input reads as it did. -/
def fnExactMultiplyPlanesUptoRow : OpenClaim := { program := "ytjfobjmpjboniaa", sum := "94d566d4065622e1075da4e1293fc51913e5795440cb5f00c91bdf410f2753bc", func := "loop.example/g01152/laws.FnExactMultiplyPlanes", spec := "fnExactMultiplyPlanes", unfollowed := true, recurses := true, named := ["math/bits.divideError", "math/bits.overflowError"], apart := false, narrowed := true }
def FnExactMultiplyPlanesUptoSaid : Prop := fnExactMultiplyPlanesUptoRow.holds Try.pinned (OpenSpec.upto fnExactMultiplyPlanesSpec)

/-- 'laws.FnExactApplySeries', WHERE WHAT IT READS IS OF BULK AT MOST 1048576: true; the input reads as it did. -/
def fnExactApplySeriesUptoRow : OpenClaim := { program := "ytjfobjmpjboniaa", sum := "94d566d4065622e1075da4e1293fc51913e5795440cb5f00c91bdf410f2753bc", func := "loop.example/g01152/laws.FnExactApplySeries", spec := "fnExactApplySeries", unfollowed := true, recurses := true, named := ["math/bits.divideError", "math/bits.overflowError"], apart := false, narrowed := true }
def FnExactApplySeriesUptoSaid : Prop := fnExactApplySeriesUptoRow.holds Try.pinned (OpenSpec.upto fnExactApplySeriesSpec)

/-- 'laws.FnExactSubstituteCurves', WHERE WHAT IT READS IS OF BULK AT MOST 1048576: true; the input reads as it did. -/
def fnExactSubstituteCurvesUptoRow : OpenClaim := { program := "ytjfobjmpjboniaa", sum := "94d566d4065622e1075da4e1293fc51913e5795440cb5f00c91bdf410f2753bc", func := "loop.example/g01152/laws.FnExactSubstituteCurves", spec := "fnExactSubstituteCurves", unfollowed := true, recurses := true, named := ["math/bits.divideError", "math/bits.overflowError"], apart := false, narrowed := true }
def FnExactSubstituteCurvesUptoSaid : Prop := fnExactSubstituteCurvesUptoRow.holds Try.pinned (OpenSpec.upto fnExactSubstituteCurvesSpec)

/-- 'laws.FnExactSubstituteBoth', WHERE WHAT IT READS IS OF BULK AT MOST 1048576: true; the input reads as it did. -/
def fnExactSubstituteBothUptoRow : OpenClaim := { program := "ytjfobjmpjboniaa", sum := "94d566d4065622e1075da4e1293fc51913e5795440cb5f00c91bdf410f2753bc", func := "loop.example/g01152/laws.FnExactSubstituteBoth", spec := "fnExactSubstituteBoth", unfollowed := true, recurses := true, named := ["math/bits.divideError", "math/bits.overflowError"], apart := false, narrowed := true }
def FnExactSubstituteBothUptoSaid : Prop := fnExactSubstituteBothUptoRow.holds Try.pinned (OpenSpec.upto fnExactSubstituteBothSpec)

/-- 'laws.FnSeries', WHERE WHAT IT READS IS OF BULK AT MOST 1048576: true; the input reads as it did. -/
def fnSeriesUptoRow : OpenClaim := { program := "ytjfobjmpjboniaa", sum := "94d566d4065622e1075da4e1293fc51913e5795440cb5f00c91bdf410f2753bc", func := "loop.example/g01152/laws.FnSeries", spec := "fnSeries", unfollowed := true, recurses := true, named := ["math/bits.divideError", "math/bits.overflowError"], apart := false, narrowed := true }
def FnSeriesUptoSaid : Prop := fnSeriesUptoRow.holds Try.pinned (OpenSpec.upto fnSeriesSpec)

/-- 'laws.FnSeriesCalculus', WHERE WHAT IT READS IS OF BULK AT MOST 1048576: true; the input reads as it did. -/
def fnSeriesCalculusUptoRow : OpenClaim := { program := "ytjfobjmpjboniaa", sum := "94d566d4065622e1075da4e1293fc51913e5795440cb5f00c91bdf410f2753bc", func := "loop.example/g01152/laws.FnSeriesCalculus", spec := "fnSeriesCalculus", unfollowed := true, recurses := true, named := ["math/bits.divideError", "math/bits.overflowError"], apart := false, narrowed := true }
def FnSeriesCalculusUptoSaid : Prop := fnSeriesCalculusUptoRow.holds Try.pinned (OpenSpec.upto fnSeriesCalculusSpec)

/-- 'laws.FnPlanes', WHERE WHAT IT READS IS OF BULK AT MOST 1048576: true; the input reads as it did. -/
def fnPlanesUptoRow : OpenClaim := { program := "ytjfobjmpjboniaa", sum := "94d566d4065622e1075da4e1293fc51913e5795440cb5f00c91bdf410f2753bc", func := "loop.example/g01152/laws.FnPlanes", spec := "fnPlanes", unfollowed := true, recurses := true, named := ["math/bits.divideError", "math/bits.overflowError"], apart := false, narrowed := true }
def FnPlanesUptoSaid : Prop := fnPlanesUptoRow.holds Try.pinned (OpenSpec.upto fnPlanesSpec)

end Rows
end Go.Proofs.Ytjfobjmpjboniaa
