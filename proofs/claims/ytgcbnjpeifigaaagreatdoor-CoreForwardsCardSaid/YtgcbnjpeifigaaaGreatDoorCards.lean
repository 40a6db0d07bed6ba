/-
  DERIVED. GIVEN WITH THE SEED: THE CARDS: each row of YtgcbnjpeifigaaaGreatDoorRows.lean that lists a variable, with what it lists TIED to the program's text (the seventh form; the later family's looks); each row that meets fmt, with fmt's text TOLD by the authors' own Lean function (tested against real Go, not proved from fmt's source: count such statements apart). THE CARD IS WHAT COUNTS. Prove the row's statement (the work); the ties are given (YtgcbnjpeifigaaaGreatDoorTie.lean); close each card by the builder's one call (the guide's Derived/Test/ToyasCard.lean, 'card_holds'). Laid BY PROGRAM, IN A SANDBOX (cutbox-door.mjs). By AI agents, Wed Nov 11 2026. No macro, syntax, notation, axiom, sorry.
-/
import Derived.Test.YtgcbnjpeifigaaaGreatDoorRows
import GoSem.ClaimSeven
namespace Go.Proofs.YtgcbnjpeifigaaaGreatDoor
namespace Rows

/-- THE TIED CARD OF 'quadrillelaw15.CoreCopies'. -/
def coreCopiesCard : Claim7 := { stood := { row := coreCopiesRow, standIns := [], harness := (true, "270a5638903a921e59e5825d2ec46647da0905de8be861b7ca01d61d99fbc9cb"), looks := true }, kinds := [], alts := [], laidByText := true, laidKinds := [.data, .data, .data, .listed, .data], laidTests := true, laidLooks := .later }
def CoreCopiesCardSaid : Prop := Claim7.holds Tryz.pinned (.plain (OpenSpec.ofChange coreCopiesSpec)) coreCopiesCard

/-- THE TIED CARD OF 'quadrillelaw15.CorePlay'. -/
def corePlayCard : Claim7 := { stood := { row := corePlayRow, standIns := [], harness := (true, "270a5638903a921e59e5825d2ec46647da0905de8be861b7ca01d61d99fbc9cb"), looks := true }, kinds := [], alts := [], laidByText := true, laidKinds := [.data, .data, .data, .listed, .data], laidTests := true, laidLooks := .later }
def CorePlayCardSaid : Prop := Claim7.holds Tryz.pinned (.plain (OpenSpec.ofChange corePlaySpec)) corePlayCard

/-- THE TIED CARD OF 'quadrillelaw15.CoreForwards'. -/
def coreForwardsCard : Claim7 := { stood := { row := coreForwardsRow, standIns := [], harness := (true, "270a5638903a921e59e5825d2ec46647da0905de8be861b7ca01d61d99fbc9cb"), looks := true }, kinds := [], alts := [], laidByText := true, laidKinds := [.data, .data, .data, .listed, .data], laidTests := true, laidLooks := .later }
def CoreForwardsCardSaid : Prop := Claim7.holds Tryz.pinned (.plain (OpenSpec.ofChange coreForwardsSpec)) coreForwardsCard

/-- THE TIED CARD OF 'quadrillelaw15.CoreReserves'. -/
def coreReservesCard : Claim7 := { stood := { row := coreReservesRow, standIns := [], harness := (true, "270a5638903a921e59e5825d2ec46647da0905de8be861b7ca01d61d99fbc9cb"), looks := true }, kinds := [], alts := [], laidByText := true, laidKinds := [.data, .data, .data, .listed, .data], laidTests := true, laidLooks := .later }
def CoreReservesCardSaid : Prop := Claim7.holds Tryz.pinned (.plain (OpenSpec.ofChange coreReservesSpec)) coreReservesCard

/-- THE TIED CARD OF 'quadrillelaw15.CoreTold'. -/
def coreToldCard : Claim7 := { stood := { row := coreToldRow, standIns := [], harness := (true, "270a5638903a921e59e5825d2ec46647da0905de8be861b7ca01d61d99fbc9cb"), looks := true }, kinds := [], alts := [], laidByText := true, laidKinds := [.data, .data, .data, .listed, .data], laidTests := true, laidLooks := .later }
def CoreToldCardSaid : Prop := Claim7.holds Tryz.pinned (.plain (OpenSpec.ofChange coreToldSpec)) coreToldCard

/-- THE SECOND FORM's CARD OF 'quadrillelaw15.CoreCopies'. -/
def coreCopiesUptoCard : Claim7 := { stood := { row := coreCopiesUptoRow, standIns := [], harness := (true, "270a5638903a921e59e5825d2ec46647da0905de8be861b7ca01d61d99fbc9cb"), looks := true }, kinds := [], alts := [], laidByText := true, laidKinds := [.data, .data, .data, .listed, .data], laidTests := true, laidLooks := .later }
def CoreCopiesUptoCardSaid : Prop := Claim7.holds Tryz.pinned (.plain (OpenSpec.upto coreCopiesSpec)) coreCopiesUptoCard

/-- THE SECOND FORM's CARD OF 'quadrillelaw15.CorePlay'. -/
def corePlayUptoCard : Claim7 := { stood := { row := corePlayUptoRow, standIns := [], harness := (true, "270a5638903a921e59e5825d2ec46647da0905de8be861b7ca01d61d99fbc9cb"), looks := true }, kinds := [], alts := [], laidByText := true, laidKinds := [.data, .data, .data, .listed, .data], laidTests := true, laidLooks := .later }
def CorePlayUptoCardSaid : Prop := Claim7.holds Tryz.pinned (.plain (OpenSpec.upto corePlaySpec)) corePlayUptoCard

/-- THE SECOND FORM's CARD OF 'quadrillelaw15.CoreForwards'. -/
def coreForwardsUptoCard : Claim7 := { stood := { row := coreForwardsUptoRow, standIns := [], harness := (true, "270a5638903a921e59e5825d2ec46647da0905de8be861b7ca01d61d99fbc9cb"), looks := true }, kinds := [], alts := [], laidByText := true, laidKinds := [.data, .data, .data, .listed, .data], laidTests := true, laidLooks := .later }
def CoreForwardsUptoCardSaid : Prop := Claim7.holds Tryz.pinned (.plain (OpenSpec.upto coreForwardsSpec)) coreForwardsUptoCard

/-- THE SECOND FORM's CARD OF 'quadrillelaw15.CoreReserves'. -/
def coreReservesUptoCard : Claim7 := { stood := { row := coreReservesUptoRow, standIns := [], harness := (true, "270a5638903a921e59e5825d2ec46647da0905de8be861b7ca01d61d99fbc9cb"), looks := true }, kinds := [], alts := [], laidByText := true, laidKinds := [.data, .data, .data, .listed, .data], laidTests := true, laidLooks := .later }
def CoreReservesUptoCardSaid : Prop := Claim7.holds Tryz.pinned (.plain (OpenSpec.upto coreReservesSpec)) coreReservesUptoCard

/-- THE SECOND FORM's CARD OF 'quadrillelaw15.CoreTold'. -/
def coreToldUptoCard : Claim7 := { stood := { row := coreToldUptoRow, standIns := [], harness := (true, "270a5638903a921e59e5825d2ec46647da0905de8be861b7ca01d61d99fbc9cb"), looks := true }, kinds := [], alts := [], laidByText := true, laidKinds := [.data, .data, .data, .listed, .data], laidTests := true, laidLooks := .later }
def CoreToldUptoCardSaid : Prop := Claim7.holds Tryz.pinned (.plain (OpenSpec.upto coreToldSpec)) coreToldUptoCard
end Rows
end Go.Proofs.YtgcbnjpeifigaaaGreatDoor
