/-
  DERIVED. GIVEN WITH THE SEED: THE CARDS: each row of YtfpphfjlpgefaaaGreatDoorRows.lean that lists a variable, with what it lists TIED to the program's text (the seventh form; the later family's looks); each row that meets fmt, with fmt's text TOLD by the authors' own Lean function (tested against real Go, not proved from fmt's source: count such statements apart). THE CARD IS WHAT COUNTS. Prove the row's statement (the work); the ties are given (YtfpphfjlpgefaaaGreatDoorTie.lean); close each card by the builder's one call (the guide's Derived/Test/ToyasCard.lean, 'card_holds'). Laid BY PROGRAM, IN A SANDBOX (cutbox-door.mjs). By AI agents, Wed Nov 11 2026. No macro, syntax, notation, axiom, sorry.
-/
import Derived.Test.YtfpphfjlpgefaaaGreatDoorRows
import GoSem.ClaimSeven
namespace Go.Proofs.YtfpphfjlpgefaaaGreatDoor
namespace Rows

/-- THE TIED CARD OF 'laws.FnExactCountStrictAutomorphisms'. -/
def fnExactCountStrictAutomorphismsCard : Claim7 := { stood := { row := fnExactCountStrictAutomorphismsRow, standIns := [], harness := (true, "0e1b75fd1bf6bfe691c0ec2ad74863cb23057eb53b49f25926cca26eb1acb67b"), looks := false }, kinds := [], alts := [], laidByText := true, laidKinds := [.data, .data, .data], laidTests := true, laidLooks := .later }
def FnExactCountStrictAutomorphismsCardSaid : Prop := Claim7.holds Tryz.pinned (.plain (OpenSpec.ofChange fnExactCountStrictAutomorphismsSpec)) fnExactCountStrictAutomorphismsCard

/-- THE SECOND FORM's CARD OF 'laws.FnExactCountStrictAutomorphisms'. -/
def fnExactCountStrictAutomorphismsUptoCard : Claim7 := { stood := { row := fnExactCountStrictAutomorphismsUptoRow, standIns := [], harness := (true, "0e1b75fd1bf6bfe691c0ec2ad74863cb23057eb53b49f25926cca26eb1acb67b"), looks := false }, kinds := [], alts := [], laidByText := true, laidKinds := [.data, .data, .data], laidTests := true, laidLooks := .later }
def FnExactCountStrictAutomorphismsUptoCardSaid : Prop := Claim7.holds Tryz.pinned (.plain (OpenSpec.upto fnExactCountStrictAutomorphismsSpec)) fnExactCountStrictAutomorphismsUptoCard
end Rows
end Go.Proofs.YtfpphfjlpgefaaaGreatDoor
