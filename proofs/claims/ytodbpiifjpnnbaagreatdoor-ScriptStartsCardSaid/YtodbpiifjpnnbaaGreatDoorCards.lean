/-
  DERIVED. GIVEN WITH THE SEED: THE CARDS: each row of YtodbpiifjpnnbaaGreatDoorRows.lean that lists a variable, with what it lists TIED to the program's text (the seventh form; the later family's looks); each row that meets fmt, with fmt's text TOLD by the authors' own Lean function (tested against real Go, not proved from fmt's source: count such statements apart). THE CARD IS WHAT COUNTS. Prove the row's statement (the work); the ties are given (YtodbpiifjpnnbaaGreatDoorTie.lean); close each card by the builder's one call (the guide's Derived/Test/ToyasCard.lean, 'card_holds'). Laid BY PROGRAM, IN A SANDBOX (cutbox-door.mjs). By AI agents, Wed Nov 11 2026. No macro, syntax, notation, axiom, sorry.
-/
import Derived.Test.YtodbpiifjpnnbaaGreatDoorRows
import GoSem.ClaimSeven
namespace Go.Proofs.YtodbpiifjpnnbaaGreatDoor
namespace Rows

/-- THE TIED CARD OF 'quadrillelaw19.ScriptStarts'. -/
def scriptStartsCard : Claim7 := { stood := { row := scriptStartsRow, standIns := [], harness := (true, "7d8c0c4829ff381265f570452998c26c6064c68c363b1b4dbf36320377073f18"), looks := true }, kinds := [], alts := [], laidByText := true, laidKinds := [.data, .data, .data, .listed, .data], laidTests := true, laidLooks := .later }
def ScriptStartsCardSaid : Prop := Claim7.holds Tryz.pinned (.plain (OpenSpec.ofChange scriptStartsSpec)) scriptStartsCard

/-- THE SECOND FORM's CARD OF 'quadrillelaw19.ScriptStarts'. -/
def scriptStartsUptoCard : Claim7 := { stood := { row := scriptStartsUptoRow, standIns := [], harness := (true, "7d8c0c4829ff381265f570452998c26c6064c68c363b1b4dbf36320377073f18"), looks := true }, kinds := [], alts := [], laidByText := true, laidKinds := [.data, .data, .data, .listed, .data], laidTests := true, laidLooks := .later }
def ScriptStartsUptoCardSaid : Prop := Claim7.holds Tryz.pinned (.plain (OpenSpec.upto scriptStartsSpec)) scriptStartsUptoCard
end Rows
end Go.Proofs.YtodbpiifjpnnbaaGreatDoor
