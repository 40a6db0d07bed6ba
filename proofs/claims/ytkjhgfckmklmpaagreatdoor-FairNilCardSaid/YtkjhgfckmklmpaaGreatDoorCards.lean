/-
  DERIVED. GIVEN WITH THE SEED: THE CARDS: each row of YtkjhgfckmklmpaaGreatDoorRows.lean that lists a variable, with what it lists TIED to the program's text (the seventh form; the later family's looks); each row that meets fmt, with fmt's text TOLD by the authors' own Lean function (tested against real Go, not proved from fmt's source: count such statements apart). THE CARD IS WHAT COUNTS. Prove the row's statement (the work); the ties are given (YtkjhgfckmklmpaaGreatDoorTie.lean); close each card by the builder's one call (the guide's Derived/Test/ToyasCard.lean, 'card_holds'). Laid BY PROGRAM, IN A SANDBOX (cutbox-door.mjs). By AI agents, Wed Nov 11 2026. No macro, syntax, notation, axiom, sorry.
-/
import Derived.Test.YtkjhgfckmklmpaaGreatDoorRows
import GoSem.ClaimSeven
namespace Go.Proofs.YtkjhgfckmklmpaaGreatDoor
namespace Rows

/-- THE TIED CARD OF 'quadrillelaw18.FairNil'. -/
def fairNilCard : Claim7 := { stood := { row := fairNilRow, standIns := [], harness := (true, "85b6b2db75758fe02c4d41fffe489bd6e37d04aa64ace4b47931970573232a20"), looks := true }, kinds := [], alts := [], laidByText := true, laidKinds := [.data, .data, .data, .listed, .data], laidTests := true, laidLooks := .later }
def FairNilCardSaid : Prop := Claim7.holds Tryz.pinned (.plain (OpenSpec.ofChange fairNilSpec)) fairNilCard

/-- THE SECOND FORM's CARD OF 'quadrillelaw18.FairNil'. -/
def fairNilUptoCard : Claim7 := { stood := { row := fairNilUptoRow, standIns := [], harness := (true, "85b6b2db75758fe02c4d41fffe489bd6e37d04aa64ace4b47931970573232a20"), looks := true }, kinds := [], alts := [], laidByText := true, laidKinds := [.data, .data, .data, .listed, .data], laidTests := true, laidLooks := .later }
def FairNilUptoCardSaid : Prop := Claim7.holds Tryz.pinned (.plain (OpenSpec.upto fairNilSpec)) fairNilUptoCard
end Rows
end Go.Proofs.YtkjhgfckmklmpaaGreatDoor
