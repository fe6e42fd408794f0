/-
  No cell of these rows narrows 'for every input' (looked for: loops, veiled, ifaces, maps, wideKeys, modest, calm, conditions, laid).
  DERIVED. THE GIVEN ROWS OF THIS SEAT. 9 by the template 'for every input the law returns true; each argument reads behind the call as it read before'; 0 by the template 'total and deterministic' (their statements: YtdnkadlondediaaTotals.lean).
  GIVEN WITH THE SEED: the statements are not yours to turn. If you find one false, say at which input.
  Laid BY PROGRAM, IN A SANDBOX (cutbox-rows.mjs): the forced cells as the released guide's own fill.sh prints them over the translation 6ecd8eb1f4262329… (all of the seat's roots in one cut). By AI agents, Wed Nov 11 2026. No macro, syntax, notation, axiom, sorry.
-/
import Derived.Test.YtdnkadlondediaaChecked
import GoSem.Claim
import GoSem.ClaimJoined
import GoSem.ClaimMapViews
import Derived.JoinedTies
import Derived.KernelRfl
namespace Go.Proofs.Ytdnkadlondediaa
/- THE CELL 'sum', in the pinned program and in every row, IS THE sha256 OF THE DUMP (.gsa) THAT YtdnkadlondediaaProg.lean LOADS. Nothing in Lean hashes anything: it is a label: what it is worth is what the hold of that sum in a sandbox is worth. -/
noncomputable def Try.pinned : Pinned := { name := "ytdnkadlondediaa", sum := "6ecd8eb1f42623293ef8bcdb3b1adecc5f2b0325680562165fa16eb8bf758826", checked := Try.checked }
namespace Rows
def none {H : Type} : Left H := { results := [], args := [] }

/-- 'laws.FnExactIsLogarithm': WHATEVER THE INPUT: true; the input reads as it did. -/
def fnExactIsLogarithmSpec : ChangeSpec := { name := "fnExactIsLogarithm", fn := fun _ => fun
  | [d1, d2] => { results := [.lit (.bool true)], args := [d1, d2] }
  | _ => none }
def fnExactIsLogarithmRow : OpenClaim := { program := "ytdnkadlondediaa", sum := "6ecd8eb1f42623293ef8bcdb3b1adecc5f2b0325680562165fa16eb8bf758826", func := "loop.example/g01152/laws.FnExactIsLogarithm", spec := "fnExactIsLogarithm", unfollowed := true, recurses := true, named := ["math/bits.divideError", "math/bits.overflowError"], apart := false }
def FnExactIsLogarithmSaid : Prop := fnExactIsLogarithmRow.holds Try.pinned (OpenSpec.ofChange fnExactIsLogarithmSpec)

/-- ITS FALSE NEIGHBOUR: 'it returns false'. Refute it at one input. -/
def fnExactIsLogarithmWrong : ChangeSpec := { name := "fnExactIsLogarithm", fn := fun _ => fun
  | [d1, d2] => { results := [.lit (.bool false)], args := [d1, d2] }
  | _ => none }
def FnExactIsLogarithmWrongFalsely : Prop := fnExactIsLogarithmRow.holds Try.pinned (OpenSpec.ofChange fnExactIsLogarithmWrong)

/-- 'laws.FnExactMultipleByLogarithm': WHATEVER THE INPUT: true; the input reads as it did. -/
def fnExactMultipleByLogarithmSpec : ChangeSpec := { name := "fnExactMultipleByLogarithm", fn := fun _ => fun
  | [d1, d2] => { results := [.lit (.bool true)], args := [d1, d2] }
  | _ => none }
def fnExactMultipleByLogarithmRow : OpenClaim := { program := "ytdnkadlondediaa", sum := "6ecd8eb1f42623293ef8bcdb3b1adecc5f2b0325680562165fa16eb8bf758826", func := "loop.example/g01152/laws.FnExactMultipleByLogarithm", spec := "fnExactMultipleByLogarithm", unfollowed := true, recurses := true, named := ["math/bits.divideError", "math/bits.overflowError"], apart := false }
def FnExactMultipleByLogarithmSaid : Prop := fnExactMultipleByLogarithmRow.holds Try.pinned (OpenSpec.ofChange fnExactMultipleByLogarithmSpec)

/-- ITS FALSE NEIGHBOUR: 'it returns false'. Refute it at one input. -/
def fnExactMultipleByLogarithmWrong : ChangeSpec := { name := "fnExactMultipleByLogarithm", fn := fun _ => fun
  | [d1, d2] => { results := [.lit (.bool false)], args := [d1, d2] }
  | _ => none }
def FnExactMultipleByLogarithmWrongFalsely : Prop := fnExactMultipleByLogarithmRow.holds Try.pinned (OpenSpec.ofChange fnExactMultipleByLogarithmWrong)

/-- 'laws.FnExactIsHomomorphism': WHATEVER THE INPUT: true; the input reads as it did. -/
def fnExactIsHomomorphismSpec : ChangeSpec := { name := "fnExactIsHomomorphism", fn := fun _ => fun
  | [d1, d2, d3] => { results := [.lit (.bool true)], args := [d1, d2, d3] }
  | _ => none }
def fnExactIsHomomorphismRow : OpenClaim := { program := "ytdnkadlondediaa", sum := "6ecd8eb1f42623293ef8bcdb3b1adecc5f2b0325680562165fa16eb8bf758826", func := "loop.example/g01152/laws.FnExactIsHomomorphism", spec := "fnExactIsHomomorphism", unfollowed := true, recurses := true, named := ["math/bits.divideError", "math/bits.overflowError"], apart := false }
def FnExactIsHomomorphismSaid : Prop := fnExactIsHomomorphismRow.holds Try.pinned (OpenSpec.ofChange fnExactIsHomomorphismSpec)

/-- ITS FALSE NEIGHBOUR: 'it returns false'. Refute it at one input. -/
def fnExactIsHomomorphismWrong : ChangeSpec := { name := "fnExactIsHomomorphism", fn := fun _ => fun
  | [d1, d2, d3] => { results := [.lit (.bool false)], args := [d1, d2, d3] }
  | _ => none }
def FnExactIsHomomorphismWrongFalsely : Prop := fnExactIsHomomorphismRow.holds Try.pinned (OpenSpec.ofChange fnExactIsHomomorphismWrong)

/-- 'laws.FnExactLawInCoordinate': WHATEVER THE INPUT: true; the input reads as it did. -/
def fnExactLawInCoordinateSpec : ChangeSpec := { name := "fnExactLawInCoordinate", fn := fun _ => fun
  | [d1, d2] => { results := [.lit (.bool true)], args := [d1, d2] }
  | _ => none }
def fnExactLawInCoordinateRow : OpenClaim := { program := "ytdnkadlondediaa", sum := "6ecd8eb1f42623293ef8bcdb3b1adecc5f2b0325680562165fa16eb8bf758826", func := "loop.example/g01152/laws.FnExactLawInCoordinate", spec := "fnExactLawInCoordinate", unfollowed := true, recurses := true, named := ["math/bits.divideError", "math/bits.overflowError"], apart := false }
def FnExactLawInCoordinateSaid : Prop := fnExactLawInCoordinateRow.holds Try.pinned (OpenSpec.ofChange fnExactLawInCoordinateSpec)

/-- ITS FALSE NEIGHBOUR: 'it returns false'. Refute it at one input. -/
def fnExactLawInCoordinateWrong : ChangeSpec := { name := "fnExactLawInCoordinate", fn := fun _ => fun
  | [d1, d2] => { results := [.lit (.bool false)], args := [d1, d2] }
  | _ => none }
def FnExactLawInCoordinateWrongFalsely : Prop := fnExactLawInCoordinateRow.holds Try.pinned (OpenSpec.ofChange fnExactLawInCoordinateWrong)

/-- 'laws.FnExactCurveOfCoordinates': WHATEVER THE INPUT: true; the input reads as it did. -/
def fnExactCurveOfCoordinatesSpec : ChangeSpec := { name := "fnExactCurveOfCoordinates", fn := fun _ => fun
  | [d1, d2] => { results := [.lit (.bool true)], args := [d1, d2] }
  | _ => none }
def fnExactCurveOfCoordinatesRow : OpenClaim := { program := "ytdnkadlondediaa", sum := "6ecd8eb1f42623293ef8bcdb3b1adecc5f2b0325680562165fa16eb8bf758826", func := "loop.example/g01152/laws.FnExactCurveOfCoordinates", spec := "fnExactCurveOfCoordinates", unfollowed := true, recurses := true, named := ["math/bits.divideError", "math/bits.overflowError"], apart := false }
def FnExactCurveOfCoordinatesSaid : Prop := fnExactCurveOfCoordinatesRow.holds Try.pinned (OpenSpec.ofChange fnExactCurveOfCoordinatesSpec)

/-- ITS FALSE NEIGHBOUR: 'it returns false'. Refute it at one input. -/
def fnExactCurveOfCoordinatesWrong : ChangeSpec := { name := "fnExactCurveOfCoordinates", fn := fun _ => fun
  | [d1, d2] => { results := [.lit (.bool false)], args := [d1, d2] }
  | _ => none }
def FnExactCurveOfCoordinatesWrongFalsely : Prop := fnExactCurveOfCoordinatesRow.holds Try.pinned (OpenSpec.ofChange fnExactCurveOfCoordinatesWrong)

/-- 'laws.FnExactCoordinatesUnder': WHATEVER THE INPUT: true; the input reads as it did. -/
def fnExactCoordinatesUnderSpec : ChangeSpec := { name := "fnExactCoordinatesUnder", fn := fun _ => fun
  | [d1, d2] => { results := [.lit (.bool true)], args := [d1, d2] }
  | _ => none }
def fnExactCoordinatesUnderRow : OpenClaim := { program := "ytdnkadlondediaa", sum := "6ecd8eb1f42623293ef8bcdb3b1adecc5f2b0325680562165fa16eb8bf758826", func := "loop.example/g01152/laws.FnExactCoordinatesUnder", spec := "fnExactCoordinatesUnder", unfollowed := true, recurses := true, named := ["math/bits.divideError", "math/bits.overflowError"], apart := false }
def FnExactCoordinatesUnderSaid : Prop := fnExactCoordinatesUnderRow.holds Try.pinned (OpenSpec.ofChange fnExactCoordinatesUnderSpec)

/-- ITS FALSE NEIGHBOUR: 'it returns false'. Refute it at one input. -/
def fnExactCoordinatesUnderWrong : ChangeSpec := { name := "fnExactCoordinatesUnder", fn := fun _ => fun
  | [d1, d2] => { results := [.lit (.bool false)], args := [d1, d2] }
  | _ => none }
def FnExactCoordinatesUnderWrongFalsely : Prop := fnExactCoordinatesUnderRow.holds Try.pinned (OpenSpec.ofChange fnExactCoordinatesUnderWrong)

/-- 'laws.FnExactCountHomomorphisms': WHATEVER THE INPUT: true; the input reads as it did. -/
def fnExactCountHomomorphismsSpec : ChangeSpec := { name := "fnExactCountHomomorphisms", fn := fun _ => fun
  | [d1, d2] => { results := [.lit (.bool true)], args := [d1, d2] }
  | _ => none }
def fnExactCountHomomorphismsRow : OpenClaim := { program := "ytdnkadlondediaa", sum := "6ecd8eb1f42623293ef8bcdb3b1adecc5f2b0325680562165fa16eb8bf758826", func := "loop.example/g01152/laws.FnExactCountHomomorphisms", spec := "fnExactCountHomomorphisms", unfollowed := true, recurses := true, named := ["math/bits.divideError", "math/bits.overflowError"], apart := false }
def FnExactCountHomomorphismsSaid : Prop := fnExactCountHomomorphismsRow.holds Try.pinned (OpenSpec.ofChange fnExactCountHomomorphismsSpec)

/-- ITS FALSE NEIGHBOUR: 'it returns false'. Refute it at one input. -/
def fnExactCountHomomorphismsWrong : ChangeSpec := { name := "fnExactCountHomomorphisms", fn := fun _ => fun
  | [d1, d2] => { results := [.lit (.bool false)], args := [d1, d2] }
  | _ => none }
def FnExactCountHomomorphismsWrongFalsely : Prop := fnExactCountHomomorphismsRow.holds Try.pinned (OpenSpec.ofChange fnExactCountHomomorphismsWrong)

/-- 'laws.FnExactAllHomomorphisms': WHATEVER THE INPUT: true; the input reads as it did. -/
def fnExactAllHomomorphismsSpec : ChangeSpec := { name := "fnExactAllHomomorphisms", fn := fun _ => fun
  | [d1, d2] => { results := [.lit (.bool true)], args := [d1, d2] }
  | _ => none }
def fnExactAllHomomorphismsRow : OpenClaim := { program := "ytdnkadlondediaa", sum := "6ecd8eb1f42623293ef8bcdb3b1adecc5f2b0325680562165fa16eb8bf758826", func := "loop.example/g01152/laws.FnExactAllHomomorphisms", spec := "fnExactAllHomomorphisms", unfollowed := true, recurses := true, named := ["math/bits.divideError", "math/bits.overflowError"], apart := false }
def FnExactAllHomomorphismsSaid : Prop := fnExactAllHomomorphismsRow.holds Try.pinned (OpenSpec.ofChange fnExactAllHomomorphismsSpec)

/-- ITS FALSE NEIGHBOUR: 'it returns false'. Refute it at one input. -/
def fnExactAllHomomorphismsWrong : ChangeSpec := { name := "fnExactAllHomomorphisms", fn := fun _ => fun
  | [d1, d2] => { results := [.lit (.bool false)], args := [d1, d2] }
  | _ => none }
def FnExactAllHomomorphismsWrongFalsely : Prop := fnExactAllHomomorphismsRow.holds Try.pinned (OpenSpec.ofChange fnExactAllHomomorphismsWrong)

/-- 'laws.FnExactStrictIsomorphism': WHATEVER THE INPUT: true; the input reads as it did. -/
def fnExactStrictIsomorphismSpec : ChangeSpec := { name := "fnExactStrictIsomorphism", fn := fun _ => fun
  | [d1, d2] => { results := [.lit (.bool true)], args := [d1, d2] }
  | _ => none }
def fnExactStrictIsomorphismRow : OpenClaim := { program := "ytdnkadlondediaa", sum := "6ecd8eb1f42623293ef8bcdb3b1adecc5f2b0325680562165fa16eb8bf758826", func := "loop.example/g01152/laws.FnExactStrictIsomorphism", spec := "fnExactStrictIsomorphism", unfollowed := true, recurses := true, named := ["math/bits.divideError", "math/bits.overflowError"], apart := false }
def FnExactStrictIsomorphismSaid : Prop := fnExactStrictIsomorphismRow.holds Try.pinned (OpenSpec.ofChange fnExactStrictIsomorphismSpec)

/-- ITS FALSE NEIGHBOUR: 'it returns false'. Refute it at one input. -/
def fnExactStrictIsomorphismWrong : ChangeSpec := { name := "fnExactStrictIsomorphism", fn := fun _ => fun
  | [d1, d2] => { results := [.lit (.bool false)], args := [d1, d2] }
  | _ => none }
def FnExactStrictIsomorphismWrongFalsely : Prop := fnExactStrictIsomorphismRow.holds Try.pinned (OpenSpec.ofChange fnExactStrictIsomorphismWrong)

/- THE SECOND FORM. 'bulk': how many values and letters a reading holds, each counted each time it is reached (what is shared counts as often as it is met; a slice's spare places count too). A statement '..UptoSaid' is the law's where the arguments, and the package variables that the reading takes, are together of bulk at most 1048576: NARROWER than '..Said'. Prove '..Said' where nothing that the law and all that it calls make is longer than what came in: it says more and counts as full. Else prove '..UptoSaid'. A law counts once. -/
mutual
def uptoBulk {H : Type} : DataW H → Nat
  | .lit (.string bytes) => bytes.length + 1
  | .lit _ => 1
  | .nil => 1
  | .ptr d => uptoBulk d + 1
  | .slice elems spare => uptoBulkAll elems + uptoBulkAll spare + 1
  | .agg parts => uptoBulkAll parts + 1
  | .iface _ d => uptoBulk d + 1
  | .map entries => uptoBulkEntries entries + 1
  | .held _ => 1
def uptoBulkAll {H : Type} : List (DataW H) → Nat
  | [] => 0
  | d :: r => uptoBulk d + uptoBulkAll r
def uptoBulkEntries {H : Type} : List (Lit × DataW H) → Nat
  | [] => 0
  | x :: r => uptoBulkEntry x + uptoBulkEntries r
def uptoBulkEntry {H : Type} : Lit × DataW H → Nat
  | (.string bytes, d) => bytes.length + uptoBulk d + 1
  | (_, d) => uptoBulk d + 1
 end
def uptoSmall : (H : Type) → List (DataW H) → Bool := fun _ ds => decide (uptoBulkAll ds ≤ 1048576)
def OpenSpec.upto (s : _root_.Go.ChangeSpec) : _root_.Go.OpenSpec := { _root_.Go.OpenSpec.ofChange s with cond := some uptoSmall }

/-- 'laws.FnExactIsLogarithm', WHERE WHAT IT READS IS OF BULK AT MOST 1048576: true; the input reads as it did. -/
def fnExactIsLogarithmUptoRow : OpenClaim := { program := "ytdnkadlondediaa", sum := "6ecd8eb1f42623293ef8bcdb3b1adecc5f2b0325680562165fa16eb8bf758826", func := "loop.example/g01152/laws.FnExactIsLogarithm", spec := "fnExactIsLogarithm", unfollowed := true, recurses := true, named := ["math/bits.divideError", "math/bits.overflowError"], apart := false, narrowed := true }
def FnExactIsLogarithmUptoSaid : Prop := fnExactIsLogarithmUptoRow.holds Try.pinned (OpenSpec.upto fnExactIsLogarithmSpec)

/-- 'laws.FnExactMultipleByLogarithm', WHERE WHAT IT READS IS OF BULK AT MOST 1048576: true; the input reads as it did. -/
def fnExactMultipleByLogarithmUptoRow : OpenClaim := { program := "ytdnkadlondediaa", sum := "6ecd8eb1f42623293ef8bcdb3b1adecc5f2b0325680562165fa16eb8bf758826", func := "loop.example/g01152/laws.FnExactMultipleByLogarithm", spec := "fnExactMultipleByLogarithm", unfollowed := true, recurses := true, named := ["math/bits.divideError", "math/bits.overflowError"], apart := false, narrowed := true }
def FnExactMultipleByLogarithmUptoSaid : Prop := fnExactMultipleByLogarithmUptoRow.holds Try.pinned (OpenSpec.upto fnExactMultipleByLogarithmSpec)

/-- 'laws.FnExactIsHomomorphism', WHERE WHAT IT READS IS OF BULK AT MOST 1048576: true; the input reads as it did. -/
def fnExactIsHomomorphismUptoRow : OpenClaim := { program := "ytdnkadlondediaa", sum := "6ecd8eb1f42623293ef8bcdb3b1adecc5f2b0325680562165fa16eb8bf758826", func := "loop.example/g01152/laws.FnExactIsHomomorphism", spec := "fnExactIsHomomorphism", unfollowed := true, recurses := true, named := ["math/bits.divideError", "math/bits.overflowError"], apart := false, narrowed := true }
def FnExactIsHomomorphismUptoSaid : Prop := fnExactIsHomomorphismUptoRow.holds Try.pinned (OpenSpec.upto fnExactIsHomomorphismSpec)

/-- 'laws.FnExactLawInCoordinate', WHERE WHAT IT READS IS OF BULK AT MOST 1048576: true; the input reads as it did. -/
def fnExactLawInCoordinateUptoRow : OpenClaim := { program := "ytdnkadlondediaa", sum := "6ecd8eb1f42623293ef8bcdb3b1adecc5f2b0325680562165fa16eb8bf758826", func := "loop.example/g01152/laws.FnExactLawInCoordinate", spec := "fnExactLawInCoordinate", unfollowed := true, recurses := true, named := ["math/bits.divideError", "math/bits.overflowError"], apart := false, narrowed := true }
def FnExactLawInCoordinateUptoSaid : Prop := fnExactLawInCoordinateUptoRow.holds Try.pinned (OpenSpec.upto fnExactLawInCoordinateSpec)

/-- 'laws.FnExactCurveOfCoordinates', WHERE WHAT IT READS IS OF BULK AT MOST 1048576: true; the input reads as it did. -/
def fnExactCurveOfCoordinatesUptoRow : OpenClaim := { program := "ytdnkadlondediaa", sum := "6ecd8eb1f42623293ef8bcdb3b1adecc5f2b0325680562165fa16eb8bf758826", func := "loop.example/g01152/laws.FnExactCurveOfCoordinates", spec := "fnExactCurveOfCoordinates", unfollowed := true, recurses := true, named := ["math/bits.divideError", "math/bits.overflowError"], apart := false, narrowed := true }
def FnExactCurveOfCoordinatesUptoSaid : Prop := fnExactCurveOfCoordinatesUptoRow.holds Try.pinned (OpenSpec.upto fnExactCurveOfCoordinatesSpec)

/-- 'laws.FnExactCoordinatesUnder', WHERE WHAT IT READS IS OF BULK AT MOST 1048576: true; the input reads as it did. -/
def fnExactCoordinatesUnderUptoRow : OpenClaim := { program := "ytdnkadlondediaa", sum := "6ecd8eb1f42623293ef8bcdb3b1adecc5f2b0325680562165fa16eb8bf758826", func := "loop.example/g01152/laws.FnExactCoordinatesUnder", spec := "fnExactCoordinatesUnder", unfollowed := true, recurses := true, named := ["math/bits.divideError", "math/bits.overflowError"], apart := false, narrowed := true }
def FnExactCoordinatesUnderUptoSaid : Prop := fnExactCoordinatesUnderUptoRow.holds Try.pinned (OpenSpec.upto fnExactCoordinatesUnderSpec)

/-- 'laws.FnExactCountHomomorphisms', WHERE WHAT IT READS IS OF BULK AT MOST 1048576: true; the input reads as it did. -/
def fnExactCountHomomorphismsUptoRow : OpenClaim := { program := "ytdnkadlondediaa", sum := "6ecd8eb1f42623293ef8bcdb3b1adecc5f2b0325680562165fa16eb8bf758826", func := "loop.example/g01152/laws.FnExactCountHomomorphisms", spec := "fnExactCountHomomorphisms", unfollowed := true, recurses := true, named := ["math/bits.divideError", "math/bits.overflowError"], apart := false, narrowed := true }
def FnExactCountHomomorphismsUptoSaid : Prop := fnExactCountHomomorphismsUptoRow.holds Try.pinned (OpenSpec.upto fnExactCountHomomorphismsSpec)

/-- 'laws.FnExactAllHomomorphisms', WHERE WHAT IT READS IS OF BULK AT MOST 1048576: true; the input reads as it did. -/
def fnExactAllHomomorphismsUptoRow : OpenClaim := { program := "ytdnkadlondediaa", sum := "6ecd8eb1f42623293ef8bcdb3b1adecc5f2b0325680562165fa16eb8bf758826", func := "loop.example/g01152/laws.FnExactAllHomomorphisms", spec := "fnExactAllHomomorphisms", unfollowed := true, recurses := true, named := ["math/bits.divideError", "math/bits.overflowError"], apart := false, narrowed := true }
def FnExactAllHomomorphismsUptoSaid : Prop := fnExactAllHomomorphismsUptoRow.holds Try.pinned (OpenSpec.upto fnExactAllHomomorphismsSpec)

/-- 'laws.FnExactStrictIsomorphism', WHERE WHAT IT READS IS OF BULK AT MOST 1048576: true; the input reads as it did. -/
def fnExactStrictIsomorphismUptoRow : OpenClaim := { program := "ytdnkadlondediaa", sum := "6ecd8eb1f42623293ef8bcdb3b1adecc5f2b0325680562165fa16eb8bf758826", func := "loop.example/g01152/laws.FnExactStrictIsomorphism", spec := "fnExactStrictIsomorphism", unfollowed := true, recurses := true, named := ["math/bits.divideError", "math/bits.overflowError"], apart := false, narrowed := true }
def FnExactStrictIsomorphismUptoSaid : Prop := fnExactStrictIsomorphismUptoRow.holds Try.pinned (OpenSpec.upto fnExactStrictIsomorphismSpec)

end Rows
end Go.Proofs.Ytdnkadlondediaa
