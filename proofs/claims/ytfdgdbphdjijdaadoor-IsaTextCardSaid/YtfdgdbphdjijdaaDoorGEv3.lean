/- IsaText: the runs of the Ops 46 to 59. No condition. -/
import Derived.Test.YtfdgdbphdjijdaaDoorGBits
namespace Go.Proofs.YtfdgdbphdjijdaaDoor
open Go Go.Proofs
set_option maxRecDepth 100000
theorem text_46 : textRun 46 = true := by kernel_rfl
theorem text_47 : textRun 47 = true := by kernel_rfl
theorem text_48 : textRun 48 = true := by kernel_rfl
theorem text_49 : textRun 49 = true := by kernel_rfl
theorem text_50 : textRun 50 = true := by kernel_rfl
theorem text_51 : textRun 51 = true := by kernel_rfl
theorem text_52 : textRun 52 = true := by kernel_rfl
theorem text_53 : textRun 53 = true := by kernel_rfl
theorem text_54 : textRun 54 = true := by kernel_rfl
theorem text_55 : textRun 55 = true := by kernel_rfl
theorem text_56 : textRun 56 = true := by kernel_rfl
theorem text_57 : textRun 57 = true := by kernel_rfl
theorem text_58 : textRun 58 = true := by kernel_rfl
theorem text_59 : textRun 59 = true := by kernel_rfl
end Go.Proofs.YtfdgdbphdjijdaaDoor
