/- AloneParts: the row's facts. No condition. -/
import Derived.Test.YtmickljjofbmiaaGreatDoorARun
import Derived.Test.YtmickljjofbmiaaGreatDoorCards
import Derived.Test.YtmickljjofbmiaaGreatDoorTie
import Derived.SevenTiedAt
import Derived.ChangeSlices
namespace Go.Proofs.YtmickljjofbmiaaGreatDoor
open Go Go.Proofs Go.ChangeShapes Go.WideShapes Go.ChangeAt Go.RowKit
set_option maxHeartbeats 4000000 in
theorem aloneParts_facts : joinedFacts Tryz.pinned.checked.prog 7 Tryz.f7 Rows.alonePartsSpec Rows.alonePartsRow = true := by
 unfold joinedFacts
 simp only [Bool.and_eq_true]
 repeat' apply And.intro
 all_goals (as_aux_lemma => kernel_rfl)
end Go.Proofs.YtmickljjofbmiaaGreatDoor
