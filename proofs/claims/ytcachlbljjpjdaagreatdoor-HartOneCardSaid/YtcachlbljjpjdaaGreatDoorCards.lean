/-
  DERIVED. GIVEN WITH THE SEED: THE CARDS: each row of YtcachlbljjpjdaaGreatDoorRows.lean that lists a variable, with what it lists TIED to the program's text (the seventh form; the later family's looks); each row that meets fmt, with fmt's text TOLD by the authors' own Lean function (tested against real Go, not proved from fmt's source: count such statements apart). THE CARD IS WHAT COUNTS. Prove the row's statement (the work); the ties are given (YtcachlbljjpjdaaGreatDoorTie.lean); close each card by the builder's one call (the guide's Derived/Test/ToyasCard.lean, 'card_holds'). Laid BY PROGRAM, IN A SANDBOX (cutbox-door.mjs). By AI agents, Wed Nov 11 2026. No macro, syntax, notation, axiom, sorry.
-/
import Derived.Test.YtcachlbljjpjdaaGreatDoorRows
import GoSem.ClaimSeven
namespace Go.Proofs.YtcachlbljjpjdaaGreatDoor
namespace Rows

/-- THE TIED CARD OF 'quadrillelaw04.HartDone'. -/
def hartDoneCard : Claim7 := { stood := { row := hartDoneRow, standIns := [], harness := (true, "4f864911adc0c7fcfafd2db5302275d1938f333ff405a3cd709f376062733914"), looks := true }, kinds := [], alts := [], laidByText := true, laidKinds := [.data, .data, .data, .listed, .data], laidTests := true, laidLooks := .later }
def HartDoneCardSaid : Prop := Claim7.holds Tryz.pinned (.plain (OpenSpec.ofChange hartDoneSpec)) hartDoneCard

/-- THE TIED CARD OF 'quadrillelaw04.HartMany'. -/
def hartManyCard : Claim7 := { stood := { row := hartManyRow, standIns := [], harness := (true, "4f864911adc0c7fcfafd2db5302275d1938f333ff405a3cd709f376062733914"), looks := true }, kinds := [], alts := [], laidByText := true, laidKinds := [.data, .data, .data, .listed, .data], laidTests := true, laidLooks := .later }
def HartManyCardSaid : Prop := Claim7.holds Tryz.pinned (.plain (OpenSpec.ofChange hartManySpec)) hartManyCard

/-- THE TIED CARD OF 'quadrillelaw04.HartValues'. -/
def hartValuesCard : Claim7 := { stood := { row := hartValuesRow, standIns := [], harness := (true, "4f864911adc0c7fcfafd2db5302275d1938f333ff405a3cd709f376062733914"), looks := true }, kinds := [], alts := [], laidByText := true, laidKinds := [.data, .data, .data, .listed, .data], laidTests := true, laidLooks := .later }
def HartValuesCardSaid : Prop := Claim7.holds Tryz.pinned (.plain (OpenSpec.ofChange hartValuesSpec)) hartValuesCard

/-- THE TIED CARD OF 'quadrillelaw04.HartBranches'. -/
def hartBranchesCard : Claim7 := { stood := { row := hartBranchesRow, standIns := [], harness := (true, "4f864911adc0c7fcfafd2db5302275d1938f333ff405a3cd709f376062733914"), looks := true }, kinds := [], alts := [], laidByText := true, laidKinds := [.data, .data, .data, .listed, .data], laidTests := true, laidLooks := .later }
def HartBranchesCardSaid : Prop := Claim7.holds Tryz.pinned (.plain (OpenSpec.ofChange hartBranchesSpec)) hartBranchesCard

/-- THE TIED CARD OF 'quadrillelaw04.HartCheck'. -/
def hartCheckCard : Claim7 := { stood := { row := hartCheckRow, standIns := [], harness := (true, "4f864911adc0c7fcfafd2db5302275d1938f333ff405a3cd709f376062733914"), looks := true }, kinds := [], alts := [], laidByText := true, laidKinds := [.data, .data, .data, .listed, .data], laidTests := true, laidLooks := .later }
def HartCheckCardSaid : Prop := Claim7.holds Tryz.pinned (.plain (OpenSpec.ofChange hartCheckSpec)) hartCheckCard

/-- THE TIED CARD OF 'quadrillelaw04.HartAct'. -/
def hartActCard : Claim7 := { stood := { row := hartActRow, standIns := [], harness := (true, "4f864911adc0c7fcfafd2db5302275d1938f333ff405a3cd709f376062733914"), looks := true }, kinds := [], alts := [], laidByText := true, laidKinds := [.data, .data, .data, .listed, .data], laidTests := true, laidLooks := .later }
def HartActCardSaid : Prop := Claim7.holds Tryz.pinned (.plain (OpenSpec.ofChange hartActSpec)) hartActCard

/-- THE TIED CARD OF 'quadrillelaw04.HartLoads'. -/
def hartLoadsCard : Claim7 := { stood := { row := hartLoadsRow, standIns := [], harness := (true, "4f864911adc0c7fcfafd2db5302275d1938f333ff405a3cd709f376062733914"), looks := true }, kinds := [], alts := [], laidByText := true, laidKinds := [.data, .data, .data, .listed, .data], laidTests := true, laidLooks := .later }
def HartLoadsCardSaid : Prop := Claim7.holds Tryz.pinned (.plain (OpenSpec.ofChange hartLoadsSpec)) hartLoadsCard

/-- THE TIED CARD OF 'quadrillelaw04.HartOne'. -/
def hartOneCard : Claim7 := { stood := { row := hartOneRow, standIns := [], harness := (true, "4f864911adc0c7fcfafd2db5302275d1938f333ff405a3cd709f376062733914"), looks := true }, kinds := [], alts := [], laidByText := true, laidKinds := [.data, .data, .data, .listed, .data], laidTests := true, laidLooks := .later }
def HartOneCardSaid : Prop := Claim7.holds Tryz.pinned (.plain (OpenSpec.ofChange hartOneSpec)) hartOneCard

/-- THE TIED CARD OF 'quadrillelaw04.HartAmo'. -/
def hartAmoCard : Claim7 := { stood := { row := hartAmoRow, standIns := [], harness := (true, "4f864911adc0c7fcfafd2db5302275d1938f333ff405a3cd709f376062733914"), looks := true }, kinds := [], alts := [], laidByText := true, laidKinds := [.data, .data, .data, .listed, .data], laidTests := true, laidLooks := .later }
def HartAmoCardSaid : Prop := Claim7.holds Tryz.pinned (.plain (OpenSpec.ofChange hartAmoSpec)) hartAmoCard

/-- THE SECOND FORM's CARD OF 'quadrillelaw04.HartDone'. -/
def hartDoneUptoCard : Claim7 := { stood := { row := hartDoneUptoRow, standIns := [], harness := (true, "4f864911adc0c7fcfafd2db5302275d1938f333ff405a3cd709f376062733914"), looks := true }, kinds := [], alts := [], laidByText := true, laidKinds := [.data, .data, .data, .listed, .data], laidTests := true, laidLooks := .later }
def HartDoneUptoCardSaid : Prop := Claim7.holds Tryz.pinned (.plain (OpenSpec.upto hartDoneSpec)) hartDoneUptoCard

/-- THE SECOND FORM's CARD OF 'quadrillelaw04.HartMany'. -/
def hartManyUptoCard : Claim7 := { stood := { row := hartManyUptoRow, standIns := [], harness := (true, "4f864911adc0c7fcfafd2db5302275d1938f333ff405a3cd709f376062733914"), looks := true }, kinds := [], alts := [], laidByText := true, laidKinds := [.data, .data, .data, .listed, .data], laidTests := true, laidLooks := .later }
def HartManyUptoCardSaid : Prop := Claim7.holds Tryz.pinned (.plain (OpenSpec.upto hartManySpec)) hartManyUptoCard

/-- THE SECOND FORM's CARD OF 'quadrillelaw04.HartValues'. -/
def hartValuesUptoCard : Claim7 := { stood := { row := hartValuesUptoRow, standIns := [], harness := (true, "4f864911adc0c7fcfafd2db5302275d1938f333ff405a3cd709f376062733914"), looks := true }, kinds := [], alts := [], laidByText := true, laidKinds := [.data, .data, .data, .listed, .data], laidTests := true, laidLooks := .later }
def HartValuesUptoCardSaid : Prop := Claim7.holds Tryz.pinned (.plain (OpenSpec.upto hartValuesSpec)) hartValuesUptoCard

/-- THE SECOND FORM's CARD OF 'quadrillelaw04.HartBranches'. -/
def hartBranchesUptoCard : Claim7 := { stood := { row := hartBranchesUptoRow, standIns := [], harness := (true, "4f864911adc0c7fcfafd2db5302275d1938f333ff405a3cd709f376062733914"), looks := true }, kinds := [], alts := [], laidByText := true, laidKinds := [.data, .data, .data, .listed, .data], laidTests := true, laidLooks := .later }
def HartBranchesUptoCardSaid : Prop := Claim7.holds Tryz.pinned (.plain (OpenSpec.upto hartBranchesSpec)) hartBranchesUptoCard

/-- THE SECOND FORM's CARD OF 'quadrillelaw04.HartCheck'. -/
def hartCheckUptoCard : Claim7 := { stood := { row := hartCheckUptoRow, standIns := [], harness := (true, "4f864911adc0c7fcfafd2db5302275d1938f333ff405a3cd709f376062733914"), looks := true }, kinds := [], alts := [], laidByText := true, laidKinds := [.data, .data, .data, .listed, .data], laidTests := true, laidLooks := .later }
def HartCheckUptoCardSaid : Prop := Claim7.holds Tryz.pinned (.plain (OpenSpec.upto hartCheckSpec)) hartCheckUptoCard

/-- THE SECOND FORM's CARD OF 'quadrillelaw04.HartAct'. -/
def hartActUptoCard : Claim7 := { stood := { row := hartActUptoRow, standIns := [], harness := (true, "4f864911adc0c7fcfafd2db5302275d1938f333ff405a3cd709f376062733914"), looks := true }, kinds := [], alts := [], laidByText := true, laidKinds := [.data, .data, .data, .listed, .data], laidTests := true, laidLooks := .later }
def HartActUptoCardSaid : Prop := Claim7.holds Tryz.pinned (.plain (OpenSpec.upto hartActSpec)) hartActUptoCard

/-- THE SECOND FORM's CARD OF 'quadrillelaw04.HartLoads'. -/
def hartLoadsUptoCard : Claim7 := { stood := { row := hartLoadsUptoRow, standIns := [], harness := (true, "4f864911adc0c7fcfafd2db5302275d1938f333ff405a3cd709f376062733914"), looks := true }, kinds := [], alts := [], laidByText := true, laidKinds := [.data, .data, .data, .listed, .data], laidTests := true, laidLooks := .later }
def HartLoadsUptoCardSaid : Prop := Claim7.holds Tryz.pinned (.plain (OpenSpec.upto hartLoadsSpec)) hartLoadsUptoCard

/-- THE SECOND FORM's CARD OF 'quadrillelaw04.HartOne'. -/
def hartOneUptoCard : Claim7 := { stood := { row := hartOneUptoRow, standIns := [], harness := (true, "4f864911adc0c7fcfafd2db5302275d1938f333ff405a3cd709f376062733914"), looks := true }, kinds := [], alts := [], laidByText := true, laidKinds := [.data, .data, .data, .listed, .data], laidTests := true, laidLooks := .later }
def HartOneUptoCardSaid : Prop := Claim7.holds Tryz.pinned (.plain (OpenSpec.upto hartOneSpec)) hartOneUptoCard

/-- THE SECOND FORM's CARD OF 'quadrillelaw04.HartAmo'. -/
def hartAmoUptoCard : Claim7 := { stood := { row := hartAmoUptoRow, standIns := [], harness := (true, "4f864911adc0c7fcfafd2db5302275d1938f333ff405a3cd709f376062733914"), looks := true }, kinds := [], alts := [], laidByText := true, laidKinds := [.data, .data, .data, .listed, .data], laidTests := true, laidLooks := .later }
def HartAmoUptoCardSaid : Prop := Claim7.holds Tryz.pinned (.plain (OpenSpec.upto hartAmoSpec)) hartAmoUptoCard
end Rows
end Go.Proofs.YtcachlbljjpjdaaGreatDoor
