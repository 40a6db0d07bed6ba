/-
  DERIVED. GIVEN WITH THE SEED: THE CARDS: each row of YtmickljjofbmiaaGreatDoorRows.lean that lists a variable, with what it lists TIED to the program's text (the seventh form; the later family's looks); each row that meets fmt, with fmt's text TOLD by the authors' own Lean function (tested against real Go, not proved from fmt's source: count such statements apart). THE CARD IS WHAT COUNTS. Prove the row's statement (the work); the ties are given (YtmickljjofbmiaaGreatDoorTie.lean); close each card by the builder's one call (the guide's Derived/Test/ToyasCard.lean, 'card_holds'). Laid BY PROGRAM, IN A SANDBOX (cutbox-door.mjs). By AI agents, Wed Nov 11 2026. No macro, syntax, notation, axiom, sorry.
-/
import Derived.Test.YtmickljjofbmiaaGreatDoorRows
import GoSem.ClaimSeven
namespace Go.Proofs.YtmickljjofbmiaaGreatDoor
namespace Rows

/-- THE TIED CARD OF 'quadrillelaw05.AloneReserves'. -/
def aloneReservesCard : Claim7 := { stood := { row := aloneReservesRow, standIns := [], harness := (true, "4485b69d040d66bce2108f11fe01b1cba7fc7d57b9f0911ee676ff7b37346540"), looks := true }, kinds := [], alts := [], laidByText := true, laidKinds := [.data, .data, .data, .listed, .data], laidTests := true, laidLooks := .later }
def AloneReservesCardSaid : Prop := Claim7.holds Tryz.pinned (.plain (OpenSpec.ofChange aloneReservesSpec)) aloneReservesCard

/-- THE TIED CARD OF 'quadrillelaw05.AloneRun'. -/
def aloneRunCard : Claim7 := { stood := { row := aloneRunRow, standIns := [], harness := (true, "4485b69d040d66bce2108f11fe01b1cba7fc7d57b9f0911ee676ff7b37346540"), looks := true }, kinds := [], alts := [], laidByText := true, laidKinds := [.data, .data, .data, .listed, .data], laidTests := true, laidLooks := .later }
def AloneRunCardSaid : Prop := Claim7.holds Tryz.pinned (.plain (OpenSpec.ofChange aloneRunSpec)) aloneRunCard

/-- THE TIED CARD OF 'quadrillelaw05.AloneOne'. -/
def aloneOneCard : Claim7 := { stood := { row := aloneOneRow, standIns := [], harness := (true, "4485b69d040d66bce2108f11fe01b1cba7fc7d57b9f0911ee676ff7b37346540"), looks := true }, kinds := [], alts := [], laidByText := true, laidKinds := [.data, .data, .data, .listed, .data], laidTests := true, laidLooks := .later }
def AloneOneCardSaid : Prop := Claim7.holds Tryz.pinned (.plain (OpenSpec.ofChange aloneOneSpec)) aloneOneCard

/-- THE TIED CARD OF 'quadrillelaw05.AloneAgain'. -/
def aloneAgainCard : Claim7 := { stood := { row := aloneAgainRow, standIns := [], harness := (true, "4485b69d040d66bce2108f11fe01b1cba7fc7d57b9f0911ee676ff7b37346540"), looks := true }, kinds := [], alts := [], laidByText := true, laidKinds := [.data, .data, .data, .listed, .data], laidTests := true, laidLooks := .later }
def AloneAgainCardSaid : Prop := Claim7.holds Tryz.pinned (.plain (OpenSpec.ofChange aloneAgainSpec)) aloneAgainCard

/-- THE TIED CARD OF 'quadrillelaw05.AloneParts'. -/
def alonePartsCard : Claim7 := { stood := { row := alonePartsRow, standIns := [], harness := (true, "4485b69d040d66bce2108f11fe01b1cba7fc7d57b9f0911ee676ff7b37346540"), looks := true }, kinds := [], alts := [], laidByText := true, laidKinds := [.data, .data, .data, .listed, .data], laidTests := true, laidLooks := .later }
def AlonePartsCardSaid : Prop := Claim7.holds Tryz.pinned (.plain (OpenSpec.ofChange alonePartsSpec)) alonePartsCard

/-- THE SECOND FORM's CARD OF 'quadrillelaw05.AloneReserves'. -/
def aloneReservesUptoCard : Claim7 := { stood := { row := aloneReservesUptoRow, standIns := [], harness := (true, "4485b69d040d66bce2108f11fe01b1cba7fc7d57b9f0911ee676ff7b37346540"), looks := true }, kinds := [], alts := [], laidByText := true, laidKinds := [.data, .data, .data, .listed, .data], laidTests := true, laidLooks := .later }
def AloneReservesUptoCardSaid : Prop := Claim7.holds Tryz.pinned (.plain (OpenSpec.upto aloneReservesSpec)) aloneReservesUptoCard

/-- THE SECOND FORM's CARD OF 'quadrillelaw05.AloneRun'. -/
def aloneRunUptoCard : Claim7 := { stood := { row := aloneRunUptoRow, standIns := [], harness := (true, "4485b69d040d66bce2108f11fe01b1cba7fc7d57b9f0911ee676ff7b37346540"), looks := true }, kinds := [], alts := [], laidByText := true, laidKinds := [.data, .data, .data, .listed, .data], laidTests := true, laidLooks := .later }
def AloneRunUptoCardSaid : Prop := Claim7.holds Tryz.pinned (.plain (OpenSpec.upto aloneRunSpec)) aloneRunUptoCard

/-- THE SECOND FORM's CARD OF 'quadrillelaw05.AloneOne'. -/
def aloneOneUptoCard : Claim7 := { stood := { row := aloneOneUptoRow, standIns := [], harness := (true, "4485b69d040d66bce2108f11fe01b1cba7fc7d57b9f0911ee676ff7b37346540"), looks := true }, kinds := [], alts := [], laidByText := true, laidKinds := [.data, .data, .data, .listed, .data], laidTests := true, laidLooks := .later }
def AloneOneUptoCardSaid : Prop := Claim7.holds Tryz.pinned (.plain (OpenSpec.upto aloneOneSpec)) aloneOneUptoCard

/-- THE SECOND FORM's CARD OF 'quadrillelaw05.AloneAgain'. -/
def aloneAgainUptoCard : Claim7 := { stood := { row := aloneAgainUptoRow, standIns := [], harness := (true, "4485b69d040d66bce2108f11fe01b1cba7fc7d57b9f0911ee676ff7b37346540"), looks := true }, kinds := [], alts := [], laidByText := true, laidKinds := [.data, .data, .data, .listed, .data], laidTests := true, laidLooks := .later }
def AloneAgainUptoCardSaid : Prop := Claim7.holds Tryz.pinned (.plain (OpenSpec.upto aloneAgainSpec)) aloneAgainUptoCard

/-- THE SECOND FORM's CARD OF 'quadrillelaw05.AloneParts'. -/
def alonePartsUptoCard : Claim7 := { stood := { row := alonePartsUptoRow, standIns := [], harness := (true, "4485b69d040d66bce2108f11fe01b1cba7fc7d57b9f0911ee676ff7b37346540"), looks := true }, kinds := [], alts := [], laidByText := true, laidKinds := [.data, .data, .data, .listed, .data], laidTests := true, laidLooks := .later }
def AlonePartsUptoCardSaid : Prop := Claim7.holds Tryz.pinned (.plain (OpenSpec.upto alonePartsSpec)) alonePartsUptoCard
end Rows
end Go.Proofs.YtmickljjofbmiaaGreatDoor
