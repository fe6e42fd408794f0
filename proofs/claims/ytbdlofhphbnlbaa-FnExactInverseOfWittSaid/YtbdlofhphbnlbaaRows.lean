/-
  No cell of these rows narrows 'for every input' (looked for: loops, veiled, ifaces, maps, wideKeys, modest, calm, conditions, laid).
  DERIVED. THE GIVEN ROWS OF THIS SEAT. 9 by the template 'for every input the law returns true; each argument reads behind the call as it read before'; 0 by the template 'total and deterministic' (their statements: YtbdlofhphbnlbaaTotals.lean).
  GIVEN WITH THE SEED: the statements are not yours to turn. If you find one false, say at which input.
  Laid BY PROGRAM, IN A SANDBOX (cutbox-rows.mjs): the forced cells as the released guide's own fill.sh prints them over the translation 6d41c873d600ea38… (all of the seat's roots in one cut). By AI agents, Wed Nov 11 2026. No macro, syntax, notation, axiom, sorry.
-/
import Derived.Test.YtbdlofhphbnlbaaChecked
import GoSem.Claim
import GoSem.ClaimJoined
import GoSem.ClaimMapViews
import Derived.JoinedTies
import Derived.KernelRfl
namespace Go.Proofs.Ytbdlofhphbnlbaa
/- THE CELL 'sum', in the pinned program and in every row, IS THE sha256 OF THE DUMP (.gsa) THAT YtbdlofhphbnlbaaProg.lean LOADS. Nothing in Lean hashes anything: it is a label: what it is worth is what the hold of that sum in a sandbox is worth. -/
noncomputable def Try.pinned : Pinned := { name := "ytbdlofhphbnlbaa", sum := "6d41c873d600ea388486a3df41c9c7bddc98c70a9ccb19ea4a89d5c82fc8ee4f", checked := Try.checked }
namespace Rows
def none {H : Type} : Left H := { results := [], args := [] }

/-- 'laws.FnExactWittOfResidue': WHATEVER THE INPUT: true; the input reads as it did. -/
def fnExactWittOfResidueSpec : ChangeSpec := { name := "fnExactWittOfResidue", fn := fun _ => fun
  | [d1, d2, d3] => { results := [.lit (.bool true)], args := [d1, d2, d3] }
  | _ => none }
def fnExactWittOfResidueRow : OpenClaim := { program := "ytbdlofhphbnlbaa", sum := "6d41c873d600ea388486a3df41c9c7bddc98c70a9ccb19ea4a89d5c82fc8ee4f", func := "loop.example/g01152/laws.FnExactWittOfResidue", spec := "fnExactWittOfResidue", named := ["math/bits.divideError", "math/bits.overflowError"], apart := false }
def FnExactWittOfResidueSaid : Prop := fnExactWittOfResidueRow.holds Try.pinned (OpenSpec.ofChange fnExactWittOfResidueSpec)

/-- ITS FALSE NEIGHBOUR: 'it returns false'. Refute it at one input. -/
def fnExactWittOfResidueWrong : ChangeSpec := { name := "fnExactWittOfResidue", fn := fun _ => fun
  | [d1, d2, d3] => { results := [.lit (.bool false)], args := [d1, d2, d3] }
  | _ => none }
def FnExactWittOfResidueWrongFalsely : Prop := fnExactWittOfResidueRow.holds Try.pinned (OpenSpec.ofChange fnExactWittOfResidueWrong)

/-- 'laws.FnExactFrobeniusOf': WHATEVER THE INPUT: true; the input reads as it did. -/
def fnExactFrobeniusOfSpec : ChangeSpec := { name := "fnExactFrobeniusOf", fn := fun _ => fun
  | [d] => { results := [.lit (.bool true)], args := [d] }
  | _ => none }
def fnExactFrobeniusOfRow : OpenClaim := { program := "ytbdlofhphbnlbaa", sum := "6d41c873d600ea388486a3df41c9c7bddc98c70a9ccb19ea4a89d5c82fc8ee4f", func := "loop.example/g01152/laws.FnExactFrobeniusOf", spec := "fnExactFrobeniusOf", unfollowed := true, recurses := true, named := ["math/bits.divideError", "math/bits.overflowError"], apart := false }
def FnExactFrobeniusOfSaid : Prop := fnExactFrobeniusOfRow.holds Try.pinned (OpenSpec.ofChange fnExactFrobeniusOfSpec)

/-- ITS FALSE NEIGHBOUR: 'it returns false'. Refute it at one input. -/
def fnExactFrobeniusOfWrong : ChangeSpec := { name := "fnExactFrobeniusOf", fn := fun _ => fun
  | [d] => { results := [.lit (.bool false)], args := [d] }
  | _ => none }
def FnExactFrobeniusOfWrongFalsely : Prop := fnExactFrobeniusOfRow.holds Try.pinned (OpenSpec.ofChange fnExactFrobeniusOfWrong)

/-- 'laws.FnExactNegateWitt': WHATEVER THE INPUT: true; the input reads as it did. -/
def fnExactNegateWittSpec : ChangeSpec := { name := "fnExactNegateWitt", fn := fun _ => fun
  | [d] => { results := [.lit (.bool true)], args := [d] }
  | _ => none }
def fnExactNegateWittRow : OpenClaim := { program := "ytbdlofhphbnlbaa", sum := "6d41c873d600ea388486a3df41c9c7bddc98c70a9ccb19ea4a89d5c82fc8ee4f", func := "loop.example/g01152/laws.FnExactNegateWitt", spec := "fnExactNegateWitt", unfollowed := true, recurses := true, named := ["math/bits.divideError", "math/bits.overflowError"], apart := false }
def FnExactNegateWittSaid : Prop := fnExactNegateWittRow.holds Try.pinned (OpenSpec.ofChange fnExactNegateWittSpec)

/-- ITS FALSE NEIGHBOUR: 'it returns false'. Refute it at one input. -/
def fnExactNegateWittWrong : ChangeSpec := { name := "fnExactNegateWitt", fn := fun _ => fun
  | [d] => { results := [.lit (.bool false)], args := [d] }
  | _ => none }
def FnExactNegateWittWrongFalsely : Prop := fnExactNegateWittRow.holds Try.pinned (OpenSpec.ofChange fnExactNegateWittWrong)

/-- 'laws.FnExactInverseOfWitt': WHATEVER THE INPUT: true; the input reads as it did. -/
def fnExactInverseOfWittSpec : ChangeSpec := { name := "fnExactInverseOfWitt", fn := fun _ => fun
  | [d] => { results := [.lit (.bool true)], args := [d] }
  | _ => none }
def fnExactInverseOfWittRow : OpenClaim := { program := "ytbdlofhphbnlbaa", sum := "6d41c873d600ea388486a3df41c9c7bddc98c70a9ccb19ea4a89d5c82fc8ee4f", func := "loop.example/g01152/laws.FnExactInverseOfWitt", spec := "fnExactInverseOfWitt", unfollowed := true, recurses := true, named := ["math/bits.divideError", "math/bits.overflowError"], apart := false }
def FnExactInverseOfWittSaid : Prop := fnExactInverseOfWittRow.holds Try.pinned (OpenSpec.ofChange fnExactInverseOfWittSpec)

/-- ITS FALSE NEIGHBOUR: 'it returns false'. Refute it at one input. -/
def fnExactInverseOfWittWrong : ChangeSpec := { name := "fnExactInverseOfWitt", fn := fun _ => fun
  | [d] => { results := [.lit (.bool false)], args := [d] }
  | _ => none }
def FnExactInverseOfWittWrongFalsely : Prop := fnExactInverseOfWittRow.holds Try.pinned (OpenSpec.ofChange fnExactInverseOfWittWrong)

/-- 'laws.FnExactMultiplyWitt': WHATEVER THE INPUT: true; the input reads as it did. -/
def fnExactMultiplyWittSpec : ChangeSpec := { name := "fnExactMultiplyWitt", fn := fun _ => fun
  | [d1, d2] => { results := [.lit (.bool true)], args := [d1, d2] }
  | _ => none }
def fnExactMultiplyWittRow : OpenClaim := { program := "ytbdlofhphbnlbaa", sum := "6d41c873d600ea388486a3df41c9c7bddc98c70a9ccb19ea4a89d5c82fc8ee4f", func := "loop.example/g01152/laws.FnExactMultiplyWitt", spec := "fnExactMultiplyWitt", unfollowed := true, recurses := true, named := ["math/bits.divideError", "math/bits.overflowError"], apart := false }
def FnExactMultiplyWittSaid : Prop := fnExactMultiplyWittRow.holds Try.pinned (OpenSpec.ofChange fnExactMultiplyWittSpec)

/-- ITS FALSE NEIGHBOUR: 'it returns false'. Refute it at one input. -/
def fnExactMultiplyWittWrong : ChangeSpec := { name := "fnExactMultiplyWitt", fn := fun _ => fun
  | [d1, d2] => { results := [.lit (.bool false)], args := [d1, d2] }
  | _ => none }
def FnExactMultiplyWittWrongFalsely : Prop := fnExactMultiplyWittRow.holds Try.pinned (OpenSpec.ofChange fnExactMultiplyWittWrong)

/-- 'laws.FnExactPowerOfWitt': WHATEVER THE INPUT: true; the input reads as it did. -/
def fnExactPowerOfWittSpec : ChangeSpec := { name := "fnExactPowerOfWitt", fn := fun _ => fun
  | [d1, d2] => { results := [.lit (.bool true)], args := [d1, d2] }
  | _ => none }
def fnExactPowerOfWittRow : OpenClaim := { program := "ytbdlofhphbnlbaa", sum := "6d41c873d600ea388486a3df41c9c7bddc98c70a9ccb19ea4a89d5c82fc8ee4f", func := "loop.example/g01152/laws.FnExactPowerOfWitt", spec := "fnExactPowerOfWitt", unfollowed := true, recurses := true, named := ["math/bits.divideError", "math/bits.overflowError"], apart := false }
def FnExactPowerOfWittSaid : Prop := fnExactPowerOfWittRow.holds Try.pinned (OpenSpec.ofChange fnExactPowerOfWittSpec)

/-- ITS FALSE NEIGHBOUR: 'it returns false'. Refute it at one input. -/
def fnExactPowerOfWittWrong : ChangeSpec := { name := "fnExactPowerOfWitt", fn := fun _ => fun
  | [d1, d2] => { results := [.lit (.bool false)], args := [d1, d2] }
  | _ => none }
def FnExactPowerOfWittWrongFalsely : Prop := fnExactPowerOfWittRow.holds Try.pinned (OpenSpec.ofChange fnExactPowerOfWittWrong)

/-- 'laws.FnWittRings': WHATEVER THE INPUT: true; the input reads as it did. -/
def fnWittRingsSpec : ChangeSpec := { name := "fnWittRings", fn := fun _ => fun
  | [d] => { results := [.lit (.bool true)], args := [d] }
  | _ => none }
def fnWittRingsRow : OpenClaim := { program := "ytbdlofhphbnlbaa", sum := "6d41c873d600ea388486a3df41c9c7bddc98c70a9ccb19ea4a89d5c82fc8ee4f", func := "loop.example/g01152/laws.FnWittRings", spec := "fnWittRings", unfollowed := true, recurses := true, named := ["math/bits.divideError", "math/bits.overflowError"], apart := false }
def FnWittRingsSaid : Prop := fnWittRingsRow.holds Try.pinned (OpenSpec.ofChange fnWittRingsSpec)

/-- ITS FALSE NEIGHBOUR: 'it returns false'. Refute it at one input. -/
def fnWittRingsWrong : ChangeSpec := { name := "fnWittRings", fn := fun _ => fun
  | [d] => { results := [.lit (.bool false)], args := [d] }
  | _ => none }
def FnWittRingsWrongFalsely : Prop := fnWittRingsRow.holds Try.pinned (OpenSpec.ofChange fnWittRingsWrong)

/-- 'laws.FnWittMaps': WHATEVER THE INPUT: true; the input reads as it did. -/
def fnWittMapsSpec : ChangeSpec := { name := "fnWittMaps", fn := fun _ => fun
  | [d] => { results := [.lit (.bool true)], args := [d] }
  | _ => none }
def fnWittMapsRow : OpenClaim := { program := "ytbdlofhphbnlbaa", sum := "6d41c873d600ea388486a3df41c9c7bddc98c70a9ccb19ea4a89d5c82fc8ee4f", func := "loop.example/g01152/laws.FnWittMaps", spec := "fnWittMaps", unfollowed := true, recurses := true, named := ["math/bits.divideError", "math/bits.overflowError"], apart := false }
def FnWittMapsSaid : Prop := fnWittMapsRow.holds Try.pinned (OpenSpec.ofChange fnWittMapsSpec)

/-- ITS FALSE NEIGHBOUR: 'it returns false'. Refute it at one input. -/
def fnWittMapsWrong : ChangeSpec := { name := "fnWittMaps", fn := fun _ => fun
  | [d] => { results := [.lit (.bool false)], args := [d] }
  | _ => none }
def FnWittMapsWrongFalsely : Prop := fnWittMapsRow.holds Try.pinned (OpenSpec.ofChange fnWittMapsWrong)

/-- 'laws.FnResidues': WHATEVER THE INPUT: true; the input reads as it did. -/
def fnResiduesSpec : ChangeSpec := { name := "fnResidues", fn := fun _ => fun
  | [d] => { results := [.lit (.bool true)], args := [d] }
  | _ => none }
def fnResiduesRow : OpenClaim := { program := "ytbdlofhphbnlbaa", sum := "6d41c873d600ea388486a3df41c9c7bddc98c70a9ccb19ea4a89d5c82fc8ee4f", func := "loop.example/g01152/laws.FnResidues", spec := "fnResidues", unfollowed := true, recurses := true, named := ["math/bits.divideError", "math/bits.overflowError"], apart := false }
def FnResiduesSaid : Prop := fnResiduesRow.holds Try.pinned (OpenSpec.ofChange fnResiduesSpec)

/-- ITS FALSE NEIGHBOUR: 'it returns false'. Refute it at one input. -/
def fnResiduesWrong : ChangeSpec := { name := "fnResidues", fn := fun _ => fun
  | [d] => { results := [.lit (.bool false)], args := [d] }
  | _ => none }
def FnResiduesWrongFalsely : Prop := fnResiduesRow.holds Try.pinned (OpenSpec.ofChange fnResiduesWrong)

/- THE SECOND FORM. 'bulk': how many values and letters a reading holds, each counted each time it is reached (what is shared counts as often as it is met; a slice's spare places count too). A statement '..UptoSaid' is the law's where the arguments, and the package variables that the reading takes, are together of bulk at most 1048576: NARROWER than '..Said'. Prove '..Said' where nothing that the law and all that it calls make is longer than what came in: it says more and counts as full. Else prove '..UptoSaid'. A law counts once. -/
mutual
def uptoBulk {H : Type} : DataW H → Nat
  | .lit (.string bytes) => bytes.length + 1
  | .lit _ => 1
  | .nil => 1
  | .ptr d => uptoBulk d + 1
  | .slice elems spare => uptoBulkAll elems + uptoBulkAll spare + 1
  | .agg parts => uptoBulkAll parts + 1
  | .iface _ d => uptoBulk d + 1
  | .map entries => uptoBulkEntries entries + 1
  | .held _ => 1
def uptoBulkAll {H : Type} : List (DataW H) → Nat
  | [] => 0
  | d :: r => uptoBulk d + uptoBulkAll r
def uptoBulkEntries {H : Type} : List (Lit × DataW H) → Nat
  | [] => 0
  | x :: r => uptoBulkEntry x + uptoBulkEntries r
def uptoBulkEntry {H : Type} : Lit × DataW H → Nat
  | (.string bytes, d) => bytes.length + uptoBulk d + 1
  | (_, d) => uptoBulk d + 1
 end
def uptoSmall : (H : Type) → List (DataW H) → Bool := fun _ ds => decide (uptoBulkAll ds ≤ 1048576)
def OpenSpec.upto (s : _root_.Go.ChangeSpec) : _root_.Go.OpenSpec := { _root_.Go.OpenSpec.ofChange s with cond := some uptoSmall }

/-- 'laws.FnExactWittOfResidue', WHERE WHAT IT READS IS OF BULK AT MOST 1048576: true; the input reads as it did. -/
def fnExactWittOfResidueUptoRow : OpenClaim := { program := "ytbdlofhphbnlbaa", sum := "6d41c873d600ea388486a3df41c9c7bddc98c70a9ccb19ea4a89d5c82fc8ee4f", func := "loop.example/g01152/laws.FnExactWittOfResidue", spec := "fnExactWittOfResidue", named := ["math/bits.divideError", "math/bits.overflowError"], apart := false, narrowed := true }
def FnExactWittOfResidueUptoSaid : Prop := fnExactWittOfResidueUptoRow.holds Try.pinned (OpenSpec.upto fnExactWittOfResidueSpec)

/-- 'laws.FnExactFrobeniusOf', WHERE WHAT IT READS IS OF BULK AT MOST 1048576: true; the input reads as it did. -/
def fnExactFrobeniusOfUptoRow : OpenClaim := { program := "ytbdlofhphbnlbaa", sum := "6d41c873d600ea388486a3df41c9c7bddc98c70a9ccb19ea4a89d5c82fc8ee4f", func := "loop.example/g01152/laws.FnExactFrobeniusOf", spec := "fnExactFrobeniusOf", unfollowed := true, recurses := true, named := ["math/bits.divideError", "math/bits.overflowError"], apart := false, narrowed := true }
def FnExactFrobeniusOfUptoSaid : Prop := fnExactFrobeniusOfUptoRow.holds Try.pinned (OpenSpec.upto fnExactFrobeniusOfSpec)

/-- 'laws.FnExactNegateWitt', WHERE WHAT IT READS IS OF BULK AT MOST 1048576: true; the input reads as it did. -/
def fnExactNegateWittUptoRow : OpenClaim := { program := "ytbdlofhphbnlbaa", sum := "6d41c873d600ea388486a3df41c9c7bddc98c70a9ccb19ea4a89d5c82fc8ee4f", func := "loop.example/g01152/laws.FnExactNegateWitt", spec := "fnExactNegateWitt", unfollowed := true, recurses := true, named := ["math/bits.divideError", "math/bits.overflowError"], apart := false, narrowed := true }
def FnExactNegateWittUptoSaid : Prop := fnExactNegateWittUptoRow.holds Try.pinned (OpenSpec.upto fnExactNegateWittSpec)

/-- 'laws.FnExactInverseOfWitt', WHERE WHAT IT READS IS OF BULK AT MOST 1048576: true; the input reads as it did. -/
def fnExactInverseOfWittUptoRow : OpenClaim := { program := "ytbdlofhphbnlbaa", sum := "6d41c873d600ea388486a3df41c9c7bddc98c70a9ccb19ea4a89d5c82fc8ee4f", func := "loop.example/g01152/laws.FnExactInverseOfWitt", spec := "fnExactInverseOfWitt", unfollowed := true, recurses := true, named := ["math/bits.divideError", "math/bits.overflowError"], apart := false, narrowed := true }
def FnExactInverseOfWittUptoSaid : Prop := fnExactInverseOfWittUptoRow.holds Try.pinned (OpenSpec.upto fnExactInverseOfWittSpec)

/-- 'laws.FnExactMultiplyWitt', WHERE WHAT IT READS IS OF BULK AT MOST 1048576: true; the input reads as it did. -/
def fnExactMultiplyWittUptoRow : OpenClaim := { program := "ytbdlofhphbnlbaa", sum := "6d41c873d600ea388486a3df41c9c7bddc98c70a9ccb19ea4a89d5c82fc8ee4f", func := "loop.example/g01152/laws.FnExactMultiplyWitt", spec := "fnExactMultiplyWitt", unfollowed := true, recurses := true, named := ["math/bits.divideError", "math/bits.overflowError"], apart := false, narrowed := true }
def FnExactMultiplyWittUptoSaid : Prop := fnExactMultiplyWittUptoRow.holds Try.pinned (OpenSpec.upto fnExactMultiplyWittSpec)

/-- 'laws.FnExactPowerOfWitt', WHERE WHAT IT READS IS OF BULK AT MOST 1048576: true; the input reads as it did. -/
def fnExactPowerOfWittUptoRow : OpenClaim := { program := "ytbdlofhphbnlbaa", sum := "6d41c873d600ea388486a3df41c9c7bddc98c70a9ccb19ea4a89d5c82fc8ee4f", func := "loop.example/g01152/laws.FnExactPowerOfWitt", spec := "fnExactPowerOfWitt", unfollowed := true, recurses := true, named := ["math/bits.divideError", "math/bits.overflowError"], apart := false, narrowed := true }
def FnExactPowerOfWittUptoSaid : Prop := fnExactPowerOfWittUptoRow.holds Try.pinned (OpenSpec.upto fnExactPowerOfWittSpec)

/-- 'laws.FnWittRings', WHERE WHAT IT READS IS OF BULK AT MOST 1048576: true; the input reads as it did. -/
def fnWittRingsUptoRow : OpenClaim := { program := "ytbdlofhphbnlbaa", sum := "6d41c873d600ea388486a3df41c9c7bddc98c70a9ccb19ea4a89d5c82fc8ee4f", func := "loop.example/g01152/laws.FnWittRings", spec := "fnWittRings", unfollowed := true, recurses := true, named := ["math/bits.divideError", "math/bits.overflowError"], apart := false, narrowed := true }
def FnWittRingsUptoSaid : Prop := fnWittRingsUptoRow.holds Try.pinned (OpenSpec.upto fnWittRingsSpec)

/-- 'laws.FnWittMaps', WHERE WHAT IT READS IS OF BULK AT MOST 1048576: true; the input reads as it did. -/
def fnWittMapsUptoRow : OpenClaim := { program := "ytbdlofhphbnlbaa", sum := "6d41c873d600ea388486a3df41c9c7bddc98c70a9ccb19ea4a89d5c82fc8ee4f", func := "loop.example/g01152/laws.FnWittMaps", spec := "fnWittMaps", unfollowed := true, recurses := true, named := ["math/bits.divideError", "math/bits.overflowError"], apart := false, narrowed := true }
def FnWittMapsUptoSaid : Prop := fnWittMapsUptoRow.holds Try.pinned (OpenSpec.upto fnWittMapsSpec)

/-- 'laws.FnResidues', WHERE WHAT IT READS IS OF BULK AT MOST 1048576: true; the input reads as it did. -/
def fnResiduesUptoRow : OpenClaim := { program := "ytbdlofhphbnlbaa", sum := "6d41c873d600ea388486a3df41c9c7bddc98c70a9ccb19ea4a89d5c82fc8ee4f", func := "loop.example/g01152/laws.FnResidues", spec := "fnResidues", unfollowed := true, recurses := true, named := ["math/bits.divideError", "math/bits.overflowError"], apart := false, narrowed := true }
def FnResiduesUptoSaid : Prop := fnResiduesUptoRow.holds Try.pinned (OpenSpec.upto fnResiduesSpec)

end Rows
end Go.Proofs.Ytbdlofhphbnlbaa
