/-
  No cell of these rows narrows 'for every input' (looked for: loops, veiled, ifaces, maps, wideKeys, modest, calm, conditions, laid).
  DERIVED. THE GIVEN ROWS OF THIS SEAT. 12 by the template 'for every input the law returns true; each argument reads behind the call as it read before'; 0 by the template 'total and deterministic' (their statements: YtcjdbobgmlgliaaTotals.lean).
  GIVEN WITH THE SEED: the statements are not yours to turn. If you find one false, say at which input.
  Laid BY PROGRAM, IN A SANDBOX (cutbox-rows.mjs): the forced cells as the released guide's own fill.sh prints them over the translation 24fd67bef79157bd… (all of the seat's roots in one cut). By AI agents, Wed Nov 11 2026. No macro, syntax, notation, axiom, sorry.
-/
import Derived.Test.YtcjdbobgmlgliaaChecked
import GoSem.Claim
import GoSem.ClaimJoined
import GoSem.ClaimMapViews
import Derived.JoinedTies
import Derived.KernelRfl
namespace Go.Proofs.Ytcjdbobgmlgliaa
/- THE CELL 'sum', in the pinned program and in every row, IS THE sha256 OF THE DUMP (.gsa) THAT YtcjdbobgmlgliaaProg.lean LOADS. Nothing in Lean hashes anything: it is a label: what it is worth is what the hold of that sum in a sandbox is worth. -/
noncomputable def Try.pinned : Pinned := { name := "ytcjdbobgmlgliaa", sum := "24fd67bef79157bdf183b7679a723fb57a225257caa9384fac6ae27662e8c786", checked := Try.checked }
namespace Rows
def none {H : Type} : Left H := { results := [], args := [] }

/-- 'laws.FnExactRepresentativeOf': WHATEVER THE INPUT: true; the input reads as it did. -/
def fnExactRepresentativeOfSpec : ChangeSpec := { name := "fnExactRepresentativeOf", fn := fun _ => fun
  | [d1, d2, d3, d4] => { results := [.lit (.bool true)], args := [d1, d2, d3, d4] }
  | _ => none }
def fnExactRepresentativeOfRow : OpenClaim := { program := "ytcjdbobgmlgliaa", sum := "24fd67bef79157bdf183b7679a723fb57a225257caa9384fac6ae27662e8c786", func := "loop.example/g01152/laws.FnExactRepresentativeOf", spec := "fnExactRepresentativeOf", apart := false }
def FnExactRepresentativeOfSaid : Prop := fnExactRepresentativeOfRow.holds Try.pinned (OpenSpec.ofChange fnExactRepresentativeOfSpec)

/-- ITS FALSE NEIGHBOUR: 'it returns false'. Refute it at one input. -/
def fnExactRepresentativeOfWrong : ChangeSpec := { name := "fnExactRepresentativeOf", fn := fun _ => fun
  | [d1, d2, d3, d4] => { results := [.lit (.bool false)], args := [d1, d2, d3, d4] }
  | _ => none }
def FnExactRepresentativeOfWrongFalsely : Prop := fnExactRepresentativeOfRow.holds Try.pinned (OpenSpec.ofChange fnExactRepresentativeOfWrong)

/-- 'laws.FnExactIsWitt': WHATEVER THE INPUT: true; the input reads as it did. -/
def fnExactIsWittSpec : ChangeSpec := { name := "fnExactIsWitt", fn := fun _ => fun
  | [d] => { results := [.lit (.bool true)], args := [d] }
  | _ => none }
def fnExactIsWittRow : OpenClaim := { program := "ytcjdbobgmlgliaa", sum := "24fd67bef79157bdf183b7679a723fb57a225257caa9384fac6ae27662e8c786", func := "loop.example/g01152/laws.FnExactIsWitt", spec := "fnExactIsWitt", unfollowed := true, recurses := true, apart := false }
def FnExactIsWittSaid : Prop := fnExactIsWittRow.holds Try.pinned (OpenSpec.ofChange fnExactIsWittSpec)

/-- ITS FALSE NEIGHBOUR: 'it returns false'. Refute it at one input. -/
def fnExactIsWittWrong : ChangeSpec := { name := "fnExactIsWitt", fn := fun _ => fun
  | [d] => { results := [.lit (.bool false)], args := [d] }
  | _ => none }
def FnExactIsWittWrongFalsely : Prop := fnExactIsWittRow.holds Try.pinned (OpenSpec.ofChange fnExactIsWittWrong)

/-- 'laws.FnExactShiftWitt': WHATEVER THE INPUT: true; the input reads as it did. -/
def fnExactShiftWittSpec : ChangeSpec := { name := "fnExactShiftWitt", fn := fun _ => fun
  | [d] => { results := [.lit (.bool true)], args := [d] }
  | _ => none }
def fnExactShiftWittRow : OpenClaim := { program := "ytcjdbobgmlgliaa", sum := "24fd67bef79157bdf183b7679a723fb57a225257caa9384fac6ae27662e8c786", func := "loop.example/g01152/laws.FnExactShiftWitt", spec := "fnExactShiftWitt", unfollowed := true, recurses := true, apart := false }
def FnExactShiftWittSaid : Prop := fnExactShiftWittRow.holds Try.pinned (OpenSpec.ofChange fnExactShiftWittSpec)

/-- ITS FALSE NEIGHBOUR: 'it returns false'. Refute it at one input. -/
def fnExactShiftWittWrong : ChangeSpec := { name := "fnExactShiftWitt", fn := fun _ => fun
  | [d] => { results := [.lit (.bool false)], args := [d] }
  | _ => none }
def FnExactShiftWittWrongFalsely : Prop := fnExactShiftWittRow.holds Try.pinned (OpenSpec.ofChange fnExactShiftWittWrong)

/-- 'laws.FnExactCutWitt': WHATEVER THE INPUT: true; the input reads as it did. -/
def fnExactCutWittSpec : ChangeSpec := { name := "fnExactCutWitt", fn := fun _ => fun
  | [d1, d2] => { results := [.lit (.bool true)], args := [d1, d2] }
  | _ => none }
def fnExactCutWittRow : OpenClaim := { program := "ytcjdbobgmlgliaa", sum := "24fd67bef79157bdf183b7679a723fb57a225257caa9384fac6ae27662e8c786", func := "loop.example/g01152/laws.FnExactCutWitt", spec := "fnExactCutWitt", unfollowed := true, recurses := true, apart := false }
def FnExactCutWittSaid : Prop := fnExactCutWittRow.holds Try.pinned (OpenSpec.ofChange fnExactCutWittSpec)

/-- ITS FALSE NEIGHBOUR: 'it returns false'. Refute it at one input. -/
def fnExactCutWittWrong : ChangeSpec := { name := "fnExactCutWitt", fn := fun _ => fun
  | [d1, d2] => { results := [.lit (.bool false)], args := [d1, d2] }
  | _ => none }
def FnExactCutWittWrongFalsely : Prop := fnExactCutWittRow.holds Try.pinned (OpenSpec.ofChange fnExactCutWittWrong)

/-- 'laws.FnExactWittOfResidue': WHATEVER THE INPUT: true; the input reads as it did. -/
def fnExactWittOfResidueSpec : ChangeSpec := { name := "fnExactWittOfResidue", fn := fun _ => fun
  | [d1, d2, d3] => { results := [.lit (.bool true)], args := [d1, d2, d3] }
  | _ => none }
def fnExactWittOfResidueRow : OpenClaim := { program := "ytcjdbobgmlgliaa", sum := "24fd67bef79157bdf183b7679a723fb57a225257caa9384fac6ae27662e8c786", func := "loop.example/g01152/laws.FnExactWittOfResidue", spec := "fnExactWittOfResidue", named := ["math/bits.divideError", "math/bits.overflowError"], apart := false }
def FnExactWittOfResidueSaid : Prop := fnExactWittOfResidueRow.holds Try.pinned (OpenSpec.ofChange fnExactWittOfResidueSpec)

/-- ITS FALSE NEIGHBOUR: 'it returns false'. Refute it at one input. -/
def fnExactWittOfResidueWrong : ChangeSpec := { name := "fnExactWittOfResidue", fn := fun _ => fun
  | [d1, d2, d3] => { results := [.lit (.bool false)], args := [d1, d2, d3] }
  | _ => none }
def FnExactWittOfResidueWrongFalsely : Prop := fnExactWittOfResidueRow.holds Try.pinned (OpenSpec.ofChange fnExactWittOfResidueWrong)

/-- 'laws.FnExactIntegerWitt': WHATEVER THE INPUT: true; the input reads as it did. -/
def fnExactIntegerWittSpec : ChangeSpec := { name := "fnExactIntegerWitt", fn := fun _ => fun
  | [d1, d2, d3, d4] => { results := [.lit (.bool true)], args := [d1, d2, d3, d4] }
  | _ => none }
def fnExactIntegerWittRow : OpenClaim := { program := "ytcjdbobgmlgliaa", sum := "24fd67bef79157bdf183b7679a723fb57a225257caa9384fac6ae27662e8c786", func := "loop.example/g01152/laws.FnExactIntegerWitt", spec := "fnExactIntegerWitt", named := ["math/bits.divideError", "math/bits.overflowError"], apart := false }
def FnExactIntegerWittSaid : Prop := fnExactIntegerWittRow.holds Try.pinned (OpenSpec.ofChange fnExactIntegerWittSpec)

/-- ITS FALSE NEIGHBOUR: 'it returns false'. Refute it at one input. -/
def fnExactIntegerWittWrong : ChangeSpec := { name := "fnExactIntegerWitt", fn := fun _ => fun
  | [d1, d2, d3, d4] => { results := [.lit (.bool false)], args := [d1, d2, d3, d4] }
  | _ => none }
def FnExactIntegerWittWrongFalsely : Prop := fnExactIntegerWittRow.holds Try.pinned (OpenSpec.ofChange fnExactIntegerWittWrong)

/-- 'laws.FnExactResidueOf': WHATEVER THE INPUT: true; the input reads as it did. -/
def fnExactResidueOfSpec : ChangeSpec := { name := "fnExactResidueOf", fn := fun _ => fun
  | [d] => { results := [.lit (.bool true)], args := [d] }
  | _ => none }
def fnExactResidueOfRow : OpenClaim := { program := "ytcjdbobgmlgliaa", sum := "24fd67bef79157bdf183b7679a723fb57a225257caa9384fac6ae27662e8c786", func := "loop.example/g01152/laws.FnExactResidueOf", spec := "fnExactResidueOf", unfollowed := true, recurses := true, named := ["math/bits.divideError", "math/bits.overflowError"], apart := false }
def FnExactResidueOfSaid : Prop := fnExactResidueOfRow.holds Try.pinned (OpenSpec.ofChange fnExactResidueOfSpec)

/-- ITS FALSE NEIGHBOUR: 'it returns false'. Refute it at one input. -/
def fnExactResidueOfWrong : ChangeSpec := { name := "fnExactResidueOf", fn := fun _ => fun
  | [d] => { results := [.lit (.bool false)], args := [d] }
  | _ => none }
def FnExactResidueOfWrongFalsely : Prop := fnExactResidueOfRow.holds Try.pinned (OpenSpec.ofChange fnExactResidueOfWrong)

/-- 'laws.FnExactGhostsOf': WHATEVER THE INPUT: true; the input reads as it did. -/
def fnExactGhostsOfSpec : ChangeSpec := { name := "fnExactGhostsOf", fn := fun _ => fun
  | [d] => { results := [.lit (.bool true)], args := [d] }
  | _ => none }
def fnExactGhostsOfRow : OpenClaim := { program := "ytcjdbobgmlgliaa", sum := "24fd67bef79157bdf183b7679a723fb57a225257caa9384fac6ae27662e8c786", func := "loop.example/g01152/laws.FnExactGhostsOf", spec := "fnExactGhostsOf", unfollowed := true, recurses := true, named := ["math/bits.divideError", "math/bits.overflowError"], apart := false }
def FnExactGhostsOfSaid : Prop := fnExactGhostsOfRow.holds Try.pinned (OpenSpec.ofChange fnExactGhostsOfSpec)

/-- ITS FALSE NEIGHBOUR: 'it returns false'. Refute it at one input. -/
def fnExactGhostsOfWrong : ChangeSpec := { name := "fnExactGhostsOf", fn := fun _ => fun
  | [d] => { results := [.lit (.bool false)], args := [d] }
  | _ => none }
def FnExactGhostsOfWrongFalsely : Prop := fnExactGhostsOfRow.holds Try.pinned (OpenSpec.ofChange fnExactGhostsOfWrong)

/-- 'laws.FnExactFrobeniusOf': WHATEVER THE INPUT: true; the input reads as it did. -/
def fnExactFrobeniusOfSpec : ChangeSpec := { name := "fnExactFrobeniusOf", fn := fun _ => fun
  | [d] => { results := [.lit (.bool true)], args := [d] }
  | _ => none }
def fnExactFrobeniusOfRow : OpenClaim := { program := "ytcjdbobgmlgliaa", sum := "24fd67bef79157bdf183b7679a723fb57a225257caa9384fac6ae27662e8c786", func := "loop.example/g01152/laws.FnExactFrobeniusOf", spec := "fnExactFrobeniusOf", unfollowed := true, recurses := true, named := ["math/bits.divideError", "math/bits.overflowError"], apart := false }
def FnExactFrobeniusOfSaid : Prop := fnExactFrobeniusOfRow.holds Try.pinned (OpenSpec.ofChange fnExactFrobeniusOfSpec)

/-- ITS FALSE NEIGHBOUR: 'it returns false'. Refute it at one input. -/
def fnExactFrobeniusOfWrong : ChangeSpec := { name := "fnExactFrobeniusOf", fn := fun _ => fun
  | [d] => { results := [.lit (.bool false)], args := [d] }
  | _ => none }
def FnExactFrobeniusOfWrongFalsely : Prop := fnExactFrobeniusOfRow.holds Try.pinned (OpenSpec.ofChange fnExactFrobeniusOfWrong)

/-- 'laws.FnExactNegateWitt': WHATEVER THE INPUT: true; the input reads as it did. -/
def fnExactNegateWittSpec : ChangeSpec := { name := "fnExactNegateWitt", fn := fun _ => fun
  | [d] => { results := [.lit (.bool true)], args := [d] }
  | _ => none }
def fnExactNegateWittRow : OpenClaim := { program := "ytcjdbobgmlgliaa", sum := "24fd67bef79157bdf183b7679a723fb57a225257caa9384fac6ae27662e8c786", func := "loop.example/g01152/laws.FnExactNegateWitt", spec := "fnExactNegateWitt", unfollowed := true, recurses := true, named := ["math/bits.divideError", "math/bits.overflowError"], apart := false }
def FnExactNegateWittSaid : Prop := fnExactNegateWittRow.holds Try.pinned (OpenSpec.ofChange fnExactNegateWittSpec)

/-- ITS FALSE NEIGHBOUR: 'it returns false'. Refute it at one input. -/
def fnExactNegateWittWrong : ChangeSpec := { name := "fnExactNegateWitt", fn := fun _ => fun
  | [d] => { results := [.lit (.bool false)], args := [d] }
  | _ => none }
def FnExactNegateWittWrongFalsely : Prop := fnExactNegateWittRow.holds Try.pinned (OpenSpec.ofChange fnExactNegateWittWrong)

/-- 'laws.FnExactInverseOfWitt': WHATEVER THE INPUT: true; the input reads as it did. -/
def fnExactInverseOfWittSpec : ChangeSpec := { name := "fnExactInverseOfWitt", fn := fun _ => fun
  | [d] => { results := [.lit (.bool true)], args := [d] }
  | _ => none }
def fnExactInverseOfWittRow : OpenClaim := { program := "ytcjdbobgmlgliaa", sum := "24fd67bef79157bdf183b7679a723fb57a225257caa9384fac6ae27662e8c786", func := "loop.example/g01152/laws.FnExactInverseOfWitt", spec := "fnExactInverseOfWitt", unfollowed := true, recurses := true, named := ["math/bits.divideError", "math/bits.overflowError"], apart := false }
def FnExactInverseOfWittSaid : Prop := fnExactInverseOfWittRow.holds Try.pinned (OpenSpec.ofChange fnExactInverseOfWittSpec)

/-- ITS FALSE NEIGHBOUR: 'it returns false'. Refute it at one input. -/
def fnExactInverseOfWittWrong : ChangeSpec := { name := "fnExactInverseOfWitt", fn := fun _ => fun
  | [d] => { results := [.lit (.bool false)], args := [d] }
  | _ => none }
def FnExactInverseOfWittWrongFalsely : Prop := fnExactInverseOfWittRow.holds Try.pinned (OpenSpec.ofChange fnExactInverseOfWittWrong)

/-- 'laws.FnExactAddWitt': WHATEVER THE INPUT: true; the input reads as it did. -/
def fnExactAddWittSpec : ChangeSpec := { name := "fnExactAddWitt", fn := fun _ => fun
  | [d1, d2] => { results := [.lit (.bool true)], args := [d1, d2] }
  | _ => none }
def fnExactAddWittRow : OpenClaim := { program := "ytcjdbobgmlgliaa", sum := "24fd67bef79157bdf183b7679a723fb57a225257caa9384fac6ae27662e8c786", func := "loop.example/g01152/laws.FnExactAddWitt", spec := "fnExactAddWitt", unfollowed := true, recurses := true, named := ["math/bits.divideError", "math/bits.overflowError"], apart := false }
def FnExactAddWittSaid : Prop := fnExactAddWittRow.holds Try.pinned (OpenSpec.ofChange fnExactAddWittSpec)

/-- ITS FALSE NEIGHBOUR: 'it returns false'. Refute it at one input. -/
def fnExactAddWittWrong : ChangeSpec := { name := "fnExactAddWitt", fn := fun _ => fun
  | [d1, d2] => { results := [.lit (.bool false)], args := [d1, d2] }
  | _ => none }
def FnExactAddWittWrongFalsely : Prop := fnExactAddWittRow.holds Try.pinned (OpenSpec.ofChange fnExactAddWittWrong)

/- THE SECOND FORM. 'bulk': how many values and letters a reading holds, each counted each time it is reached (what is shared counts as often as it is met; a slice's spare places count too). A statement '..UptoSaid' is the law's where the arguments, and the package variables that the reading takes, are together of bulk at most 1048576: NARROWER than '..Said'. Prove '..Said' where nothing that the law and all that it calls make is longer than what came in: it says more and counts as full. Else prove '..UptoSaid'. A law counts once. -/
mutual
def uptoBulk {H : Type} : DataW H → Nat
  | .lit (.string bytes) => bytes.length + 1
  | .lit _ => 1
  | .nil => 1
  | .ptr d => uptoBulk d + 1
  | .slice elems spare => uptoBulkAll elems + uptoBulkAll spare + 1
  | .agg parts => uptoBulkAll parts + 1
  | .iface _ d => uptoBulk d + 1
  | .map entries => uptoBulkEntries entries + 1
  | .held _ => 1
def uptoBulkAll {H : Type} : List (DataW H) → Nat
  | [] => 0
  | d :: r => uptoBulk d + uptoBulkAll r
def uptoBulkEntries {H : Type} : List (Lit × DataW H) → Nat
  | [] => 0
  | x :: r => uptoBulkEntry x + uptoBulkEntries r
def uptoBulkEntry {H : Type} : Lit × DataW H → Nat
  | (.string bytes, d) => bytes.length + uptoBulk d + 1
  | (_, d) => uptoBulk d + 1
 end
def uptoSmall : (H : Type) → List (DataW H) → Bool := fun _ ds => decide (uptoBulkAll ds ≤ 1048576)
def OpenSpec.upto (s : _root_.Go.ChangeSpec) : _root_.Go.OpenSpec := { _root_.Go.OpenSpec.ofChange s with cond := some uptoSmall }

/-- 'laws.FnExactRepresentativeOf', WHERE WHAT IT READS IS OF BULK AT MOST 1048576: true; the input reads as it did. -/
def fnExactRepresentativeOfUptoRow : OpenClaim := { program := "ytcjdbobgmlgliaa", sum := "24fd67bef79157bdf183b7679a723fb57a225257caa9384fac6ae27662e8c786", func := "loop.example/g01152/laws.FnExactRepresentativeOf", spec := "fnExactRepresentativeOf", apart := false, narrowed := true }
def FnExactRepresentativeOfUptoSaid : Prop := fnExactRepresentativeOfUptoRow.holds Try.pinned (OpenSpec.upto fnExactRepresentativeOfSpec)

/-- 'laws.FnExactIsWitt', WHERE WHAT IT READS IS OF BULK AT MOST 1048576: true; the input reads as it did. -/
def fnExactIsWittUptoRow : OpenClaim := { program := "ytcjdbobgmlgliaa", sum := "24fd67bef79157bdf183b7679a723fb57a225257caa9384fac6ae27662e8c786", func := "loop.example/g01152/laws.FnExactIsWitt", spec := "fnExactIsWitt", unfollowed := true, recurses := true, apart := false, narrowed := true }
def FnExactIsWittUptoSaid : Prop := fnExactIsWittUptoRow.holds Try.pinned (OpenSpec.upto fnExactIsWittSpec)

/-- 'laws.FnExactShiftWitt', WHERE WHAT IT READS IS OF BULK AT MOST 1048576: true; the input reads as it did. -/
def fnExactShiftWittUptoRow : OpenClaim := { program := "ytcjdbobgmlgliaa", sum := "24fd67bef79157bdf183b7679a723fb57a225257caa9384fac6ae27662e8c786", func := "loop.example/g01152/laws.FnExactShiftWitt", spec := "fnExactShiftWitt", unfollowed := true, recurses := true, apart := false, narrowed := true }
def FnExactShiftWittUptoSaid : Prop := fnExactShiftWittUptoRow.holds Try.pinned (OpenSpec.upto fnExactShiftWittSpec)

/-- 'laws.FnExactCutWitt', WHERE WHAT IT READS IS OF BULK AT MOST 1048576: true; the input reads as it did. -/
def fnExactCutWittUptoRow : OpenClaim := { program := "ytcjdbobgmlgliaa", sum := "24fd67bef79157bdf183b7679a723fb57a225257caa9384fac6ae27662e8c786", func := "loop.example/g01152/laws.FnExactCutWitt", spec := "fnExactCutWitt", unfollowed := true, recurses := true, apart := false, narrowed := true }
def FnExactCutWittUptoSaid : Prop := fnExactCutWittUptoRow.holds Try.pinned (OpenSpec.upto fnExactCutWittSpec)

/-- 'laws.FnExactWittOfResidue', WHERE WHAT IT READS IS OF BULK AT MOST 1048576: true; the input reads as it did. -/
def fnExactWittOfResidueUptoRow : OpenClaim := { program := "ytcjdbobgmlgliaa", sum := "24fd67bef79157bdf183b7679a723fb57a225257caa9384fac6ae27662e8c786", func := "loop.example/g01152/laws.FnExactWittOfResidue", spec := "fnExactWittOfResidue", named := ["math/bits.divideError", "math/bits.overflowError"], apart := false, narrowed := true }
def FnExactWittOfResidueUptoSaid : Prop := fnExactWittOfResidueUptoRow.holds Try.pinned (OpenSpec.upto fnExactWittOfResidueSpec)

/-- 'laws.FnExactIntegerWitt', WHERE WHAT IT READS IS OF BULK AT MOST 1048576: true; the input reads as it did. -/
def fnExactIntegerWittUptoRow : OpenClaim := { program := "ytcjdbobgmlgliaa", sum := "24fd67bef79157bdf183b7679a723fb57a225257caa9384fac6ae27662e8c786", func := "loop.example/g01152/laws.FnExactIntegerWitt", spec := "fnExactIntegerWitt", named := ["math/bits.divideError", "math/bits.overflowError"], apart := false, narrowed := true }
def FnExactIntegerWittUptoSaid : Prop := fnExactIntegerWittUptoRow.holds Try.pinned (OpenSpec.upto fnExactIntegerWittSpec)

/-- 'laws.FnExactResidueOf', WHERE WHAT IT READS IS OF BULK AT MOST 1048576: true; the input reads as it did. -/
def fnExactResidueOfUptoRow : OpenClaim := { program := "ytcjdbobgmlgliaa", sum := "24fd67bef79157bdf183b7679a723fb57a225257caa9384fac6ae27662e8c786", func := "loop.example/g01152/laws.FnExactResidueOf", spec := "fnExactResidueOf", unfollowed := true, recurses := true, named := ["math/bits.divideError", "math/bits.overflowError"], apart := false, narrowed := true }
def FnExactResidueOfUptoSaid : Prop := fnExactResidueOfUptoRow.holds Try.pinned (OpenSpec.upto fnExactResidueOfSpec)

/-- 'laws.FnExactGhostsOf', WHERE WHAT IT READS IS OF BULK AT MOST 1048576: true; the input reads as it did. -/
def fnExactGhostsOfUptoRow : OpenClaim := { program := "ytcjdbobgmlgliaa", sum := "24fd67bef79157bdf183b7679a723fb57a225257caa9384fac6ae27662e8c786", func := "loop.example/g01152/laws.FnExactGhostsOf", spec := "fnExactGhostsOf", unfollowed := true, recurses := true, named := ["math/bits.divideError", "math/bits.overflowError"], apart := false, narrowed := true }
def FnExactGhostsOfUptoSaid : Prop := fnExactGhostsOfUptoRow.holds Try.pinned (OpenSpec.upto fnExactGhostsOfSpec)

/-- 'laws.FnExactFrobeniusOf', WHERE WHAT IT READS IS OF BULK AT MOST 1048576: true; the input reads as it did. -/
def fnExactFrobeniusOfUptoRow : OpenClaim := { program := "ytcjdbobgmlgliaa", sum := "24fd67bef79157bdf183b7679a723fb57a225257caa9384fac6ae27662e8c786", func := "loop.example/g01152/laws.FnExactFrobeniusOf", spec := "fnExactFrobeniusOf", unfollowed := true, recurses := true, named := ["math/bits.divideError", "math/bits.overflowError"], apart := false, narrowed := true }
def FnExactFrobeniusOfUptoSaid : Prop := fnExactFrobeniusOfUptoRow.holds Try.pinned (OpenSpec.upto fnExactFrobeniusOfSpec)

/-- 'laws.FnExactNegateWitt', WHERE WHAT IT READS IS OF BULK AT MOST 1048576: true; the input reads as it did. -/
def fnExactNegateWittUptoRow : OpenClaim := { program := "ytcjdbobgmlgliaa", sum := "24fd67bef79157bdf183b7679a723fb57a225257caa9384fac6ae27662e8c786", func := "loop.example/g01152/laws.FnExactNegateWitt", spec := "fnExactNegateWitt", unfollowed := true, recurses := true, named := ["math/bits.divideError", "math/bits.overflowError"], apart := false, narrowed := true }
def FnExactNegateWittUptoSaid : Prop := fnExactNegateWittUptoRow.holds Try.pinned (OpenSpec.upto fnExactNegateWittSpec)

/-- 'laws.FnExactInverseOfWitt', WHERE WHAT IT READS IS OF BULK AT MOST 1048576: true; the input reads as it did. -/
def fnExactInverseOfWittUptoRow : OpenClaim := { program := "ytcjdbobgmlgliaa", sum := "24fd67bef79157bdf183b7679a723fb57a225257caa9384fac6ae27662e8c786", func := "loop.example/g01152/laws.FnExactInverseOfWitt", spec := "fnExactInverseOfWitt", unfollowed := true, recurses := true, named := ["math/bits.divideError", "math/bits.overflowError"], apart := false, narrowed := true }
def FnExactInverseOfWittUptoSaid : Prop := fnExactInverseOfWittUptoRow.holds Try.pinned (OpenSpec.upto fnExactInverseOfWittSpec)

/-- 'laws.FnExactAddWitt', WHERE WHAT IT READS IS OF BULK AT MOST 1048576: true; the input reads as it did. -/
def fnExactAddWittUptoRow : OpenClaim := { program := "ytcjdbobgmlgliaa", sum := "24fd67bef79157bdf183b7679a723fb57a225257caa9384fac6ae27662e8c786", func := "loop.example/g01152/laws.FnExactAddWitt", spec := "fnExactAddWitt", unfollowed := true, recurses := true, named := ["math/bits.divideError", "math/bits.overflowError"], apart := false, narrowed := true }
def FnExactAddWittUptoSaid : Prop := fnExactAddWittUptoRow.holds Try.pinned (OpenSpec.upto fnExactAddWittSpec)

end Rows
end Go.Proofs.Ytcjdbobgmlgliaa
