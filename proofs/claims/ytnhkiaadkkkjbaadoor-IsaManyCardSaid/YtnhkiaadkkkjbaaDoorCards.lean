/-
  DERIVED. GIVEN WITH THE SEED: THE CARDS: each row of YtnhkiaadkkkjbaaDoorRows.lean that lists a variable, with what it lists TIED to the program's text (the seventh form; the later family's looks); each row that meets fmt, with fmt's text TOLD by the authors' own Lean function (tested against real Go, not proved from fmt's source: count such statements apart). THE CARD IS WHAT COUNTS. Prove the row's statement (the work); the ties are given (YtnhkiaadkkkjbaaDoorTie.lean); close each card by the builder's one call (the guide's Derived/Test/ToyasCard.lean, 'card_holds'). Laid BY PROGRAM, IN A SANDBOX (cutbox-door.mjs). By AI agents, Wed Nov 11 2026. No macro, syntax, notation, axiom, sorry.
-/
import Derived.Test.YtnhkiaadkkkjbaaDoorRows
import GoSem.ClaimSeven
namespace Go.Proofs.YtnhkiaadkkkjbaaDoor
namespace Rows

/-- THE TIED CARD OF 'quadrillelaw03.IsaDecode'. -/
def isaDecodeCard : Claim7 := { stood := { row := isaDecodeRow, standIns := [], harness := (true, "eca07ddf0f4be4abf6c1038f8ae5e30dfe99afe6228e38add024b21ffa81a807"), looks := false }, kinds := [], alts := [], laidByText := true, laidKinds := [.data, .data, .data, .listed, .data], laidTests := true, laidLooks := .later }
def IsaDecodeCardSaid : Prop := Claim7.holds Tryd.pinned (.plain (OpenSpec.ofChange isaDecodeSpec)) isaDecodeCard

/-- THE TIED CARD OF 'quadrillelaw03.IsaMany'. -/
def isaManyCard : Claim7 := { stood := { row := isaManyRow, standIns := [], harness := (true, "eca07ddf0f4be4abf6c1038f8ae5e30dfe99afe6228e38add024b21ffa81a807"), looks := false }, kinds := [], alts := [], laidByText := true, laidKinds := [.data, .data, .data, .listed, .data], laidTests := true, laidLooks := .later }
def IsaManyCardSaid : Prop := Claim7.holds Tryd.pinned (.plain (OpenSpec.ofChange isaManySpec)) isaManyCard

/-- THE TIED CARD OF 'quadrillelaw03.IsaEncode'. -/
def isaEncodeCard : Claim7 := { stood := { row := isaEncodeRow, standIns := [], harness := (true, "eca07ddf0f4be4abf6c1038f8ae5e30dfe99afe6228e38add024b21ffa81a807"), looks := false }, kinds := [], alts := [], laidByText := true, laidKinds := [.data, .data, .data, .listed, .data], laidTests := true, laidLooks := .later }
def IsaEncodeCardSaid : Prop := Claim7.holds Tryd.pinned (.plain (OpenSpec.ofChange isaEncodeSpec)) isaEncodeCard

/-- THE TIED CARD OF 'quadrillelaw03.IsaEncodes'. -/
def isaEncodesCard : Claim7 := { stood := { row := isaEncodesRow, standIns := [], harness := (true, "eca07ddf0f4be4abf6c1038f8ae5e30dfe99afe6228e38add024b21ffa81a807"), looks := false }, kinds := [], alts := [], laidByText := true, laidKinds := [.data, .data, .data, .listed, .data], laidTests := true, laidLooks := .later }
def IsaEncodesCardSaid : Prop := Claim7.holds Tryd.pinned (.plain (OpenSpec.ofChange isaEncodesSpec)) isaEncodesCard

/-- THE TIED CARD OF 'quadrillelaw03.IsaName'. -/
def isaNameCard : Claim7 := { stood := { row := isaNameRow, standIns := [], harness := (true, "eca07ddf0f4be4abf6c1038f8ae5e30dfe99afe6228e38add024b21ffa81a807"), looks := false }, kinds := [], alts := [], laidByText := true, laidKinds := [.data, .data, .data, .listed, .data], laidTests := true, laidLooks := .later }
def IsaNameCardSaid : Prop := Claim7.holds Tryd.pinned (.plain (OpenSpec.ofChange isaNameSpec)) isaNameCard

/-- THE TIED CARD OF 'quadrillelaw03.IsaText'. -/
def isaTextCard : Claim7 := { stood := { row := isaTextRow, standIns := [], harness := (true, "eca07ddf0f4be4abf6c1038f8ae5e30dfe99afe6228e38add024b21ffa81a807"), looks := false }, kinds := [], alts := [], laidByText := true, laidKinds := [.data, .data, .data, .listed, .data], laidTests := true, laidLooks := .later }
def IsaTextCardSaid : Prop := Claim7.holds Tryd.pinned (.plain (OpenSpec.ofChange isaTextSpec)) isaTextCard

/-- THE TIED CARD OF 'quadrillelaw03.IsaUnlike'. -/
def isaUnlikeCard : Claim7 := { stood := { row := isaUnlikeRow, standIns := [], harness := (true, "eca07ddf0f4be4abf6c1038f8ae5e30dfe99afe6228e38add024b21ffa81a807"), looks := false }, kinds := [], alts := [], laidByText := true, laidKinds := [.data, .data, .data, .listed, .data], laidTests := true, laidLooks := .later }
def IsaUnlikeCardSaid : Prop := Claim7.holds Tryd.pinned (.plain (OpenSpec.ofChange isaUnlikeSpec)) isaUnlikeCard

/-- THE SECOND FORM's CARD OF 'quadrillelaw03.IsaDecode'. -/
def isaDecodeUptoCard : Claim7 := { stood := { row := isaDecodeUptoRow, standIns := [], harness := (true, "eca07ddf0f4be4abf6c1038f8ae5e30dfe99afe6228e38add024b21ffa81a807"), looks := false }, kinds := [], alts := [], laidByText := true, laidKinds := [.data, .data, .data, .listed, .data], laidTests := true, laidLooks := .later }
def IsaDecodeUptoCardSaid : Prop := Claim7.holds Tryd.pinned (.plain (OpenSpec.upto isaDecodeSpec)) isaDecodeUptoCard

/-- THE SECOND FORM's CARD OF 'quadrillelaw03.IsaMany'. -/
def isaManyUptoCard : Claim7 := { stood := { row := isaManyUptoRow, standIns := [], harness := (true, "eca07ddf0f4be4abf6c1038f8ae5e30dfe99afe6228e38add024b21ffa81a807"), looks := false }, kinds := [], alts := [], laidByText := true, laidKinds := [.data, .data, .data, .listed, .data], laidTests := true, laidLooks := .later }
def IsaManyUptoCardSaid : Prop := Claim7.holds Tryd.pinned (.plain (OpenSpec.upto isaManySpec)) isaManyUptoCard

/-- THE SECOND FORM's CARD OF 'quadrillelaw03.IsaEncode'. -/
def isaEncodeUptoCard : Claim7 := { stood := { row := isaEncodeUptoRow, standIns := [], harness := (true, "eca07ddf0f4be4abf6c1038f8ae5e30dfe99afe6228e38add024b21ffa81a807"), looks := false }, kinds := [], alts := [], laidByText := true, laidKinds := [.data, .data, .data, .listed, .data], laidTests := true, laidLooks := .later }
def IsaEncodeUptoCardSaid : Prop := Claim7.holds Tryd.pinned (.plain (OpenSpec.upto isaEncodeSpec)) isaEncodeUptoCard

/-- THE SECOND FORM's CARD OF 'quadrillelaw03.IsaEncodes'. -/
def isaEncodesUptoCard : Claim7 := { stood := { row := isaEncodesUptoRow, standIns := [], harness := (true, "eca07ddf0f4be4abf6c1038f8ae5e30dfe99afe6228e38add024b21ffa81a807"), looks := false }, kinds := [], alts := [], laidByText := true, laidKinds := [.data, .data, .data, .listed, .data], laidTests := true, laidLooks := .later }
def IsaEncodesUptoCardSaid : Prop := Claim7.holds Tryd.pinned (.plain (OpenSpec.upto isaEncodesSpec)) isaEncodesUptoCard

/-- THE SECOND FORM's CARD OF 'quadrillelaw03.IsaName'. -/
def isaNameUptoCard : Claim7 := { stood := { row := isaNameUptoRow, standIns := [], harness := (true, "eca07ddf0f4be4abf6c1038f8ae5e30dfe99afe6228e38add024b21ffa81a807"), looks := false }, kinds := [], alts := [], laidByText := true, laidKinds := [.data, .data, .data, .listed, .data], laidTests := true, laidLooks := .later }
def IsaNameUptoCardSaid : Prop := Claim7.holds Tryd.pinned (.plain (OpenSpec.upto isaNameSpec)) isaNameUptoCard

/-- THE SECOND FORM's CARD OF 'quadrillelaw03.IsaText'. -/
def isaTextUptoCard : Claim7 := { stood := { row := isaTextUptoRow, standIns := [], harness := (true, "eca07ddf0f4be4abf6c1038f8ae5e30dfe99afe6228e38add024b21ffa81a807"), looks := false }, kinds := [], alts := [], laidByText := true, laidKinds := [.data, .data, .data, .listed, .data], laidTests := true, laidLooks := .later }
def IsaTextUptoCardSaid : Prop := Claim7.holds Tryd.pinned (.plain (OpenSpec.upto isaTextSpec)) isaTextUptoCard

/-- THE SECOND FORM's CARD OF 'quadrillelaw03.IsaUnlike'. -/
def isaUnlikeUptoCard : Claim7 := { stood := { row := isaUnlikeUptoRow, standIns := [], harness := (true, "eca07ddf0f4be4abf6c1038f8ae5e30dfe99afe6228e38add024b21ffa81a807"), looks := false }, kinds := [], alts := [], laidByText := true, laidKinds := [.data, .data, .data, .listed, .data], laidTests := true, laidLooks := .later }
def IsaUnlikeUptoCardSaid : Prop := Claim7.holds Tryd.pinned (.plain (OpenSpec.upto isaUnlikeSpec)) isaUnlikeUptoCard
end Rows
end Go.Proofs.YtnhkiaadkkkjbaaDoor
