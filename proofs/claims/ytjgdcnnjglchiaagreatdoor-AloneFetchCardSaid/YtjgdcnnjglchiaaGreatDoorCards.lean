/-
  DERIVED. GIVEN WITH THE SEED: THE CARDS: each row of YtjgdcnnjglchiaaGreatDoorRows.lean that lists a variable, with what it lists TIED to the program's text (the seventh form; the later family's looks); each row that meets fmt, with fmt's text TOLD by the authors' own Lean function (tested against real Go, not proved from fmt's source: count such statements apart). THE CARD IS WHAT COUNTS. Prove the row's statement (the work); the ties are given (YtjgdcnnjglchiaaGreatDoorTie.lean); close each card by the builder's one call (the guide's Derived/Test/ToyasCard.lean, 'card_holds'). Laid BY PROGRAM, IN A SANDBOX (cutbox-door.mjs). By AI agents, Wed Nov 11 2026. No macro, syntax, notation, axiom, sorry.
-/
import Derived.Test.YtjgdcnnjglchiaaGreatDoorRows
import GoSem.ClaimSeven
namespace Go.Proofs.YtjgdcnnjglchiaaGreatDoor
namespace Rows

/-- THE TIED CARD OF 'quadrillelaw05.AloneFetch'. -/
def aloneFetchCard : Claim7 := { stood := { row := aloneFetchRow, standIns := [], harness := (true, "63848f2f04440460c6249f6f88236f6b90c6089b108de785bd2966bec0e82418"), looks := true }, kinds := [], alts := [], laidByText := true, laidKinds := [.data, .data, .data, .listed, .data], laidTests := true, laidLooks := .later }
def AloneFetchCardSaid : Prop := Claim7.holds Tryz.pinned (.plain (OpenSpec.ofChange aloneFetchSpec)) aloneFetchCard

/-- THE SECOND FORM's CARD OF 'quadrillelaw05.AloneFetch'. -/
def aloneFetchUptoCard : Claim7 := { stood := { row := aloneFetchUptoRow, standIns := [], harness := (true, "63848f2f04440460c6249f6f88236f6b90c6089b108de785bd2966bec0e82418"), looks := true }, kinds := [], alts := [], laidByText := true, laidKinds := [.data, .data, .data, .listed, .data], laidTests := true, laidLooks := .later }
def AloneFetchUptoCardSaid : Prop := Claim7.holds Tryz.pinned (.plain (OpenSpec.upto aloneFetchSpec)) aloneFetchUptoCard
end Rows
end Go.Proofs.YtjgdcnnjglchiaaGreatDoor
