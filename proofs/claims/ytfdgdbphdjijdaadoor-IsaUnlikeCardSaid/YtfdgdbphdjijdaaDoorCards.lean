/-
  DERIVED. GIVEN WITH THE SEED: THE CARDS: each row of YtfdgdbphdjijdaaDoorRows.lean that lists a variable, with what it lists TIED to the program's text (the seventh form; the later family's looks); each row that meets fmt, with fmt's text TOLD by the authors' own Lean function (tested against real Go, not proved from fmt's source: count such statements apart). THE CARD IS WHAT COUNTS. Prove the row's statement (the work); the ties are given (YtfdgdbphdjijdaaDoorTie.lean); close each card by the builder's one call (the guide's Derived/Test/ToyasCard.lean, 'card_holds'). Laid BY PROGRAM, IN A SANDBOX (cutbox-door.mjs). By AI agents, Wed Nov 11 2026. No macro, syntax, notation, axiom, sorry.
-/
import Derived.Test.YtfdgdbphdjijdaaDoorRows
import GoSem.ClaimSeven
namespace Go.Proofs.YtfdgdbphdjijdaaDoor
namespace Rows

/-- THE TIED CARD OF 'quadrillelaw03.IsaText'. -/
def isaTextCard : Claim7 := { stood := { row := isaTextRow, standIns := [], harness := (true, "cc410aa4c163e9eb076e400835122134d44c5324ceebece1c948011a07d14a6b"), looks := false }, kinds := [], alts := [], laidByText := true, laidKinds := [.data, .data, .data, .listed, .data], laidTests := true, laidLooks := .later }
def IsaTextCardSaid : Prop := Claim7.holds Tryd.pinned (.plain (OpenSpec.ofChange isaTextSpec)) isaTextCard

/-- THE TIED CARD OF 'quadrillelaw03.IsaUnlike'. -/
def isaUnlikeCard : Claim7 := { stood := { row := isaUnlikeRow, standIns := [], harness := (true, "cc410aa4c163e9eb076e400835122134d44c5324ceebece1c948011a07d14a6b"), looks := false }, kinds := [], alts := [], laidByText := true, laidKinds := [.data, .data, .data, .listed, .data], laidTests := true, laidLooks := .later }
def IsaUnlikeCardSaid : Prop := Claim7.holds Tryd.pinned (.plain (OpenSpec.ofChange isaUnlikeSpec)) isaUnlikeCard

/-- THE SECOND FORM's CARD OF 'quadrillelaw03.IsaText'. -/
def isaTextUptoCard : Claim7 := { stood := { row := isaTextUptoRow, standIns := [], harness := (true, "cc410aa4c163e9eb076e400835122134d44c5324ceebece1c948011a07d14a6b"), looks := false }, kinds := [], alts := [], laidByText := true, laidKinds := [.data, .data, .data, .listed, .data], laidTests := true, laidLooks := .later }
def IsaTextUptoCardSaid : Prop := Claim7.holds Tryd.pinned (.plain (OpenSpec.upto isaTextSpec)) isaTextUptoCard

/-- THE SECOND FORM's CARD OF 'quadrillelaw03.IsaUnlike'. -/
def isaUnlikeUptoCard : Claim7 := { stood := { row := isaUnlikeUptoRow, standIns := [], harness := (true, "cc410aa4c163e9eb076e400835122134d44c5324ceebece1c948011a07d14a6b"), looks := false }, kinds := [], alts := [], laidByText := true, laidKinds := [.data, .data, .data, .listed, .data], laidTests := true, laidLooks := .later }
def IsaUnlikeUptoCardSaid : Prop := Claim7.holds Tryd.pinned (.plain (OpenSpec.upto isaUnlikeSpec)) isaUnlikeUptoCard
end Rows
end Go.Proofs.YtfdgdbphdjijdaaDoor
