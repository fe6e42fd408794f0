/-
  No cell of these rows narrows 'for every input' (looked for: loops, veiled, ifaces, maps, wideKeys, modest, calm, conditions, laid).
  DERIVED. THE GIVEN ROWS OF THIS SEAT. 6 by the template 'for every input the law returns true; each argument reads behind the call as it read before'; 0 by the template 'total and deterministic' (their statements: YtcjinlfgeljmkaaTotals.lean).
  GIVEN WITH THE SEED: the statements are not yours to turn. If you find one false, say at which input.
  Laid BY PROGRAM, IN A SANDBOX (cutbox-rows.mjs): the forced cells as the released guide's own fill.sh prints them over the translation ad620fd9cac8cbcd… (all of the seat's roots in one cut). By AI agents, Wed Nov 11 2026. No macro, syntax, notation, axiom, sorry.
-/
import Derived.Test.YtcjinlfgeljmkaaChecked
import GoSem.Claim
import GoSem.ClaimJoined
import GoSem.ClaimMapViews
import Derived.JoinedTies
import Derived.KernelRfl
namespace Go.Proofs.Ytcjinlfgeljmkaa
/- THE CELL 'sum', in the pinned program and in every row, IS THE sha256 OF THE DUMP (.gsa) THAT YtcjinlfgeljmkaaProg.lean LOADS. Nothing in Lean hashes anything: it is a label: what it is worth is what the hold of that sum in a sandbox is worth. -/
noncomputable def Try.pinned : Pinned := { name := "ytcjinlfgeljmkaa", sum := "ad620fd9cac8cbcde7a3d105c5834c9d89c375d93ac19038482412f1a93ac4b7", checked := Try.checked }
namespace Rows
def none {H : Type} : Left H := { results := [], args := [] }

/-- 'laws.FnSeries': WHATEVER THE INPUT: true; the input reads as it did. -/
def fnSeriesSpec : ChangeSpec := { name := "fnSeries", fn := fun _ => fun
  | [d] => { results := [.lit (.bool true)], args := [d] }
  | _ => none }
def fnSeriesRow : OpenClaim := { program := "ytcjinlfgeljmkaa", sum := "ad620fd9cac8cbcde7a3d105c5834c9d89c375d93ac19038482412f1a93ac4b7", func := "loop.example/g01152/laws.FnSeries", spec := "fnSeries", unfollowed := true, recurses := true, named := ["math/bits.divideError", "math/bits.overflowError"], apart := false }
def FnSeriesSaid : Prop := fnSeriesRow.holds Try.pinned (OpenSpec.ofChange fnSeriesSpec)

/-- ITS FALSE NEIGHBOUR: 'it returns false'. Refute it at one input. -/
def fnSeriesWrong : ChangeSpec := { name := "fnSeries", fn := fun _ => fun
  | [d] => { results := [.lit (.bool false)], args := [d] }
  | _ => none }
def FnSeriesWrongFalsely : Prop := fnSeriesRow.holds Try.pinned (OpenSpec.ofChange fnSeriesWrong)

/-- 'laws.FnSeriesCalculus': WHATEVER THE INPUT: true; the input reads as it did. -/
def fnSeriesCalculusSpec : ChangeSpec := { name := "fnSeriesCalculus", fn := fun _ => fun
  | [d] => { results := [.lit (.bool true)], args := [d] }
  | _ => none }
def fnSeriesCalculusRow : OpenClaim := { program := "ytcjinlfgeljmkaa", sum := "ad620fd9cac8cbcde7a3d105c5834c9d89c375d93ac19038482412f1a93ac4b7", func := "loop.example/g01152/laws.FnSeriesCalculus", spec := "fnSeriesCalculus", unfollowed := true, recurses := true, named := ["math/bits.divideError", "math/bits.overflowError"], apart := false }
def FnSeriesCalculusSaid : Prop := fnSeriesCalculusRow.holds Try.pinned (OpenSpec.ofChange fnSeriesCalculusSpec)

/-- ITS FALSE NEIGHBOUR: 'it returns false'. Refute it at one input. -/
def fnSeriesCalculusWrong : ChangeSpec := { name := "fnSeriesCalculus", fn := fun _ => fun
  | [d] => { results := [.lit (.bool false)], args := [d] }
  | _ => none }
def FnSeriesCalculusWrongFalsely : Prop := fnSeriesCalculusRow.holds Try.pinned (OpenSpec.ofChange fnSeriesCalculusWrong)

/-- 'laws.FnPlanes': WHATEVER THE INPUT: true; the input reads as it did. -/
def fnPlanesSpec : ChangeSpec := { name := "fnPlanes", fn := fun _ => fun
  | [d] => { results := [.lit (.bool true)], args := [d] }
  | _ => none }
def fnPlanesRow : OpenClaim := { program := "ytcjinlfgeljmkaa", sum := "ad620fd9cac8cbcde7a3d105c5834c9d89c375d93ac19038482412f1a93ac4b7", func := "loop.example/g01152/laws.FnPlanes", spec := "fnPlanes", unfollowed := true, recurses := true, named := ["math/bits.divideError", "math/bits.overflowError"], apart := false }
def FnPlanesSaid : Prop := fnPlanesRow.holds Try.pinned (OpenSpec.ofChange fnPlanesSpec)

/-- ITS FALSE NEIGHBOUR: 'it returns false'. Refute it at one input. -/
def fnPlanesWrong : ChangeSpec := { name := "fnPlanes", fn := fun _ => fun
  | [d] => { results := [.lit (.bool false)], args := [d] }
  | _ => none }
def FnPlanesWrongFalsely : Prop := fnPlanesRow.holds Try.pinned (OpenSpec.ofChange fnPlanesWrong)

/-- 'laws.FnWittRings': WHATEVER THE INPUT: true; the input reads as it did. -/
def fnWittRingsSpec : ChangeSpec := { name := "fnWittRings", fn := fun _ => fun
  | [d] => { results := [.lit (.bool true)], args := [d] }
  | _ => none }
def fnWittRingsRow : OpenClaim := { program := "ytcjinlfgeljmkaa", sum := "ad620fd9cac8cbcde7a3d105c5834c9d89c375d93ac19038482412f1a93ac4b7", func := "loop.example/g01152/laws.FnWittRings", spec := "fnWittRings", unfollowed := true, recurses := true, named := ["math/bits.divideError", "math/bits.overflowError"], apart := false }
def FnWittRingsSaid : Prop := fnWittRingsRow.holds Try.pinned (OpenSpec.ofChange fnWittRingsSpec)

/-- ITS FALSE NEIGHBOUR: 'it returns false'. Refute it at one input. -/
def fnWittRingsWrong : ChangeSpec := { name := "fnWittRings", fn := fun _ => fun
  | [d] => { results := [.lit (.bool false)], args := [d] }
  | _ => none }
def FnWittRingsWrongFalsely : Prop := fnWittRingsRow.holds Try.pinned (OpenSpec.ofChange fnWittRingsWrong)

/-- 'laws.FnWittMaps': WHATEVER THE INPUT: true; the input reads as it did. -/
def fnWittMapsSpec : ChangeSpec := { name := "fnWittMaps", fn := fun _ => fun
  | [d] => { results := [.lit (.bool true)], args := [d] }
  | _ => none }
def fnWittMapsRow : OpenClaim := { program := "ytcjinlfgeljmkaa", sum := "ad620fd9cac8cbcde7a3d105c5834c9d89c375d93ac19038482412f1a93ac4b7", func := "loop.example/g01152/laws.FnWittMaps", spec := "fnWittMaps", unfollowed := true, recurses := true, named := ["math/bits.divideError", "math/bits.overflowError"], apart := false }
def FnWittMapsSaid : Prop := fnWittMapsRow.holds Try.pinned (OpenSpec.ofChange fnWittMapsSpec)

/-- ITS FALSE NEIGHBOUR: 'it returns false'. Refute it at one input. -/
def fnWittMapsWrong : ChangeSpec := { name := "fnWittMaps", fn := fun _ => fun
  | [d] => { results := [.lit (.bool false)], args := [d] }
  | _ => none }
def FnWittMapsWrongFalsely : Prop := fnWittMapsRow.holds Try.pinned (OpenSpec.ofChange fnWittMapsWrong)

/-- 'laws.FnResidues': WHATEVER THE INPUT: true; the input reads as it did. -/
def fnResiduesSpec : ChangeSpec := { name := "fnResidues", fn := fun _ => fun
  | [d] => { results := [.lit (.bool true)], args := [d] }
  | _ => none }
def fnResiduesRow : OpenClaim := { program := "ytcjinlfgeljmkaa", sum := "ad620fd9cac8cbcde7a3d105c5834c9d89c375d93ac19038482412f1a93ac4b7", func := "loop.example/g01152/laws.FnResidues", spec := "fnResidues", unfollowed := true, recurses := true, named := ["math/bits.divideError", "math/bits.overflowError"], apart := false }
def FnResiduesSaid : Prop := fnResiduesRow.holds Try.pinned (OpenSpec.ofChange fnResiduesSpec)

/-- ITS FALSE NEIGHBOUR: 'it returns false'. Refute it at one input. -/
def fnResiduesWrong : ChangeSpec := { name := "fnResidues", fn := fun _ => fun
  | [d] => { results := [.lit (.bool false)], args := [d] }
  | _ => none }
def FnResiduesWrongFalsely : Prop := fnResiduesRow.holds Try.pinned (OpenSpec.ofChange fnResiduesWrong)

/- THE SECOND FORM. 'bulk': how many values and letters a reading holds, each counted each time it is reached (what is shared counts as often as it is met; a slice's spare places count too). A statement '..UptoSaid' is the law's where the arguments, and the package variables that the reading takes, are together of bulk at most 1048576: NARROWER than '..Said'. Prove '..Said' where nothing that the law and all that it calls make is longer than what came in: it says more and counts as full. Else prove '..UptoSaid'. A law counts once. -/
mutual
def uptoBulk {H : Type} : DataW H → Nat
  | .lit (.string bytes) => bytes.length + 1
  | .lit _ => 1
  | .nil => 1
  | .ptr d => uptoBulk d + 1
  | .slice elems spare => uptoBulkAll elems + uptoBulkAll spare + 1
  | .agg parts => uptoBulkAll parts + 1
  | .iface _ d => uptoBulk d + 1
  | .map entries => uptoBulkEntries entries + 1
  | .held _ => 1
def uptoBulkAll {H : Type} : List (DataW H) → Nat
  | [] => 0
  | d :: r => uptoBulk d + uptoBulkAll r
def uptoBulkEntries {H : Type} : List (Lit × DataW H) → Nat
  | [] => 0
  | x :: r => uptoBulkEntry x + uptoBulkEntries r
def uptoBulkEntry {H : Type} : Lit × DataW H → Nat
  | (.string bytes, d) => bytes.length + uptoBulk d + 1
  | (_, d) => uptoBulk d + 1
 end
def uptoSmall : (H : Type) → List (DataW H) → Bool := fun _ ds => decide (uptoBulkAll ds ≤ 1048576)
def OpenSpec.upto (s : _root_.Go.ChangeSpec) : _root_.Go.OpenSpec := { _root_.Go.OpenSpec.ofChange s with cond := some uptoSmall }

/-- 'laws.FnSeries', WHERE WHAT IT READS IS OF BULK AT MOST 1048576: true; the input reads as it did. -/
def fnSeriesUptoRow : OpenClaim := { program := "ytcjinlfgeljmkaa", sum := "ad620fd9cac8cbcde7a3d105c5834c9d89c375d93ac19038482412f1a93ac4b7", func := "loop.example/g01152/laws.FnSeries", spec := "fnSeries", unfollowed := true, recurses := true, named := ["math/bits.divideError", "math/bits.overflowError"], apart := false, narrowed := true }
def FnSeriesUptoSaid : Prop := fnSeriesUptoRow.holds Try.pinned (OpenSpec.upto fnSeriesSpec)

/-- 'laws.FnSeriesCalculus', WHERE WHAT IT READS IS OF BULK AT MOST 1048576: true; the input reads as it did. -/
def fnSeriesCalculusUptoRow : OpenClaim := { program := "ytcjinlfgeljmkaa", sum := "ad620fd9cac8cbcde7a3d105c5834c9d89c375d93ac19038482412f1a93ac4b7", func := "loop.example/g01152/laws.FnSeriesCalculus", spec := "fnSeriesCalculus", unfollowed := true, recurses := true, named := ["math/bits.divideError", "math/bits.overflowError"], apart := false, narrowed := true }
def FnSeriesCalculusUptoSaid : Prop := fnSeriesCalculusUptoRow.holds Try.pinned (OpenSpec.upto fnSeriesCalculusSpec)

/-- 'laws.FnPlanes', WHERE WHAT IT READS IS OF BULK AT MOST 1048576: true; the input reads as it did. -/
def fnPlanesUptoRow : OpenClaim := { program := "ytcjinlfgeljmkaa", sum := "ad620fd9cac8cbcde7a3d105c5834c9d89c375d93ac19038482412f1a93ac4b7", func := "loop.example/g01152/laws.FnPlanes", spec := "fnPlanes", unfollowed := true, recurses := true, named := ["math/bits.divideError", "math/bits.overflowError"], apart := false, narrowed := true }
def FnPlanesUptoSaid : Prop := fnPlanesUptoRow.holds Try.pinned (OpenSpec.upto fnPlanesSpec)

/-- 'laws.FnWittRings', WHERE WHAT IT READS IS OF BULK AT MOST 1048576: true; the input reads as it did. -/
def fnWittRingsUptoRow : OpenClaim := { program := "ytcjinlfgeljmkaa", sum := "ad620fd9cac8cbcde7a3d105c5834c9d89c375d93ac19038482412f1a93ac4b7", func := "loop.example/g01152/laws.FnWittRings", spec := "fnWittRings", unfollowed := true, recurses := true, named := ["math/bits.divideError", "math/bits.overflowError"], apart := false, narrowed := true }
def FnWittRingsUptoSaid : Prop := fnWittRingsUptoRow.holds Try.pinned (OpenSpec.upto fnWittRingsSpec)

/-- 'laws.FnWittMaps', WHERE WHAT IT READS IS OF BULK AT MOST 1048576: true; the input reads as it did. -/
def fnWittMapsUptoRow : OpenClaim := { program := "ytcjinlfgeljmkaa", sum := "ad620fd9cac8cbcde7a3d105c5834c9d89c375d93ac19038482412f1a93ac4b7", func := "loop.example/g01152/laws.FnWittMaps", spec := "fnWittMaps", unfollowed := true, recurses := true, named := ["math/bits.divideError", "math/bits.overflowError"], apart := false, narrowed := true }
def FnWittMapsUptoSaid : Prop := fnWittMapsUptoRow.holds Try.pinned (OpenSpec.upto fnWittMapsSpec)

/-- 'laws.FnResidues', WHERE WHAT IT READS IS OF BULK AT MOST 1048576: true; the input reads as it did. -/
def fnResiduesUptoRow : OpenClaim := { program := "ytcjinlfgeljmkaa", sum := "ad620fd9cac8cbcde7a3d105c5834c9d89c375d93ac19038482412f1a93ac4b7", func := "loop.example/g01152/laws.FnResidues", spec := "fnResidues", unfollowed := true, recurses := true, named := ["math/bits.divideError", "math/bits.overflowError"], apart := false, narrowed := true }
def FnResiduesUptoSaid : Prop := fnResiduesUptoRow.holds Try.pinned (OpenSpec.upto fnResiduesSpec)

end Rows
end Go.Proofs.Ytcjinlfgeljmkaa
