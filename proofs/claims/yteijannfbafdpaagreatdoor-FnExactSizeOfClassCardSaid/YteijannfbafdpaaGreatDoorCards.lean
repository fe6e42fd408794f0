/-
  DERIVED. GIVEN WITH THE SEED: THE CARDS: each row of YteijannfbafdpaaGreatDoorRows.lean that lists a variable, with what it lists TIED to the program's text (the seventh form; the later family's looks); each row that meets fmt, with fmt's text TOLD by the authors' own Lean function (tested against real Go, not proved from fmt's source: count such statements apart). THE CARD IS WHAT COUNTS. Prove the row's statement (the work); the ties are given (YteijannfbafdpaaGreatDoorTie.lean); close each card by the builder's one call (the guide's Derived/Test/ToyasCard.lean, 'card_holds'). Laid BY PROGRAM, IN A SANDBOX (cutbox-door.mjs). By AI agents, Wed Nov 11 2026. No macro, syntax, notation, axiom, sorry.
-/
import Derived.Test.YteijannfbafdpaaGreatDoorRows
import GoSem.ClaimSeven
namespace Go.Proofs.YteijannfbafdpaaGreatDoor
namespace Rows

/-- THE TIED CARD OF 'laws.FnExactSizeOfClass'. -/
def fnExactSizeOfClassCard : Claim7 := { stood := { row := fnExactSizeOfClassRow, standIns := [], harness := (true, "3471fa1e193f17e99783ec82b821b23b0497d64d6e7c6a261858f9ef8850a611"), looks := false }, kinds := [], alts := [], laidByText := true, laidKinds := [.data, .data, .data], laidTests := true, laidLooks := .later }
def FnExactSizeOfClassCardSaid : Prop := Claim7.holds Tryz.pinned (.plain (OpenSpec.ofChange fnExactSizeOfClassSpec)) fnExactSizeOfClassCard

/-- THE SECOND FORM's CARD OF 'laws.FnExactSizeOfClass'. -/
def fnExactSizeOfClassUptoCard : Claim7 := { stood := { row := fnExactSizeOfClassUptoRow, standIns := [], harness := (true, "3471fa1e193f17e99783ec82b821b23b0497d64d6e7c6a261858f9ef8850a611"), looks := false }, kinds := [], alts := [], laidByText := true, laidKinds := [.data, .data, .data], laidTests := true, laidLooks := .later }
def FnExactSizeOfClassUptoCardSaid : Prop := Claim7.holds Tryz.pinned (.plain (OpenSpec.upto fnExactSizeOfClassSpec)) fnExactSizeOfClassUptoCard
end Rows
end Go.Proofs.YteijannfbafdpaaGreatDoor
