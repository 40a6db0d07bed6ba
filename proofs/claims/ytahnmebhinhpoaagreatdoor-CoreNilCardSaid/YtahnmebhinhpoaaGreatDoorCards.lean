/-
  DERIVED. GIVEN WITH THE SEED: THE CARDS: each row of YtahnmebhinhpoaaGreatDoorRows.lean that lists a variable, with what it lists TIED to the program's text (the seventh form; the later family's looks); each row that meets fmt, with fmt's text TOLD by the authors' own Lean function (tested against real Go, not proved from fmt's source: count such statements apart). THE CARD IS WHAT COUNTS. Prove the row's statement (the work); the ties are given (YtahnmebhinhpoaaGreatDoorTie.lean); close each card by the builder's one call (the guide's Derived/Test/ToyasCard.lean, 'card_holds'). Laid BY PROGRAM, IN A SANDBOX (cutbox-door.mjs). By AI agents, Wed Nov 11 2026. No macro, syntax, notation, axiom, sorry.
-/
import Derived.Test.YtahnmebhinhpoaaGreatDoorRows
import GoSem.ClaimSeven
namespace Go.Proofs.YtahnmebhinhpoaaGreatDoor
namespace Rows

/-- THE TIED CARD OF 'quadrillelaw15.CoreNil'. -/
def coreNilCard : Claim7 := { stood := { row := coreNilRow, standIns := [], harness := (true, "b546cba5cb653617ae880c0bcab8d6eb575998ee7d5f049246d5196997ecf5aa"), looks := true }, kinds := [], alts := [], laidByText := true, laidKinds := [.data, .data, .data, .listed, .data], laidTests := true, laidLooks := .later }
def CoreNilCardSaid : Prop := Claim7.holds Tryz.pinned (.plain (OpenSpec.ofChange coreNilSpec)) coreNilCard

/-- THE SECOND FORM's CARD OF 'quadrillelaw15.CoreNil'. -/
def coreNilUptoCard : Claim7 := { stood := { row := coreNilUptoRow, standIns := [], harness := (true, "b546cba5cb653617ae880c0bcab8d6eb575998ee7d5f049246d5196997ecf5aa"), looks := true }, kinds := [], alts := [], laidByText := true, laidKinds := [.data, .data, .data, .listed, .data], laidTests := true, laidLooks := .later }
def CoreNilUptoCardSaid : Prop := Claim7.holds Tryz.pinned (.plain (OpenSpec.upto coreNilSpec)) coreNilUptoCard
end Rows
end Go.Proofs.YtahnmebhinhpoaaGreatDoor
