/- IsaText: the runs of the Ops 1 to 15. No condition. -/
import Derived.Test.YtfdgdbphdjijdaaDoorGBits
namespace Go.Proofs.YtfdgdbphdjijdaaDoor
open Go Go.Proofs
set_option maxRecDepth 100000
theorem text_other : runO = true := by kernel_rfl
theorem text_1 : textRun 1 = true := by kernel_rfl
theorem text_2 : textRun 2 = true := by kernel_rfl
theorem text_3 : textRun 3 = true := by kernel_rfl
theorem text_4 : textRun 4 = true := by kernel_rfl
theorem text_5 : textRun 5 = true := by kernel_rfl
theorem text_6 : textRun 6 = true := by kernel_rfl
theorem text_7 : textRun 7 = true := by kernel_rfl
theorem text_8 : textRun 8 = true := by kernel_rfl
theorem text_9 : textRun 9 = true := by kernel_rfl
theorem text_10 : textRun 10 = true := by kernel_rfl
theorem text_11 : textRun 11 = true := by kernel_rfl
theorem text_12 : textRun 12 = true := by kernel_rfl
theorem text_13 : textRun 13 = true := by kernel_rfl
theorem text_14 : textRun 14 = true := by kernel_rfl
theorem text_15 : textRun 15 = true := by kernel_rfl
end Go.Proofs.YtfdgdbphdjijdaaDoor
