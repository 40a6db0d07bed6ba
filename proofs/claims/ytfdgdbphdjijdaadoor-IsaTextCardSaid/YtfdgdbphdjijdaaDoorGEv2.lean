/- IsaText: the runs of the Ops 31 to 45. No condition. -/
import Derived.Test.YtfdgdbphdjijdaaDoorGBits
namespace Go.Proofs.YtfdgdbphdjijdaaDoor
open Go Go.Proofs
set_option maxRecDepth 100000
theorem text_31 : textRun 31 = true := by kernel_rfl
theorem text_32 : textRun 32 = true := by kernel_rfl
theorem text_33 : textRun 33 = true := by kernel_rfl
theorem text_34 : textRun 34 = true := by kernel_rfl
theorem text_35 : textRun 35 = true := by kernel_rfl
theorem text_36 : textRun 36 = true := by kernel_rfl
theorem text_37 : textRun 37 = true := by kernel_rfl
theorem text_38 : textRun 38 = true := by kernel_rfl
theorem text_39 : textRun 39 = true := by kernel_rfl
theorem text_40 : textRun 40 = true := by kernel_rfl
theorem text_41 : textRun 41 = true := by kernel_rfl
theorem text_42 : textRun 42 = true := by kernel_rfl
theorem text_43 : textRun 43 = true := by kernel_rfl
theorem text_44 : textRun 44 = true := by kernel_rfl
theorem text_45 : textRun 45 = true := by kernel_rfl
end Go.Proofs.YtfdgdbphdjijdaaDoor
