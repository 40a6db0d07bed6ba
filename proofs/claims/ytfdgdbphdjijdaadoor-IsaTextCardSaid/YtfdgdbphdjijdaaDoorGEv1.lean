/- IsaText: the runs of the Ops 16 to 30. No condition. -/
import Derived.Test.YtfdgdbphdjijdaaDoorGBits
namespace Go.Proofs.YtfdgdbphdjijdaaDoor
open Go Go.Proofs
set_option maxRecDepth 100000
theorem text_16 : textRun 16 = true := by kernel_rfl
theorem text_17 : textRun 17 = true := by kernel_rfl
theorem text_18 : textRun 18 = true := by kernel_rfl
theorem text_19 : textRun 19 = true := by kernel_rfl
theorem text_20 : textRun 20 = true := by kernel_rfl
theorem text_21 : textRun 21 = true := by kernel_rfl
theorem text_22 : textRun 22 = true := by kernel_rfl
theorem text_23 : textRun 23 = true := by kernel_rfl
theorem text_24 : textRun 24 = true := by kernel_rfl
theorem text_25 : textRun 25 = true := by kernel_rfl
theorem text_26 : textRun 26 = true := by kernel_rfl
theorem text_27 : textRun 27 = true := by kernel_rfl
theorem text_28 : textRun 28 = true := by kernel_rfl
theorem text_29 : textRun 29 = true := by kernel_rfl
theorem text_30 : textRun 30 = true := by kernel_rfl
end Go.Proofs.YtfdgdbphdjijdaaDoor
