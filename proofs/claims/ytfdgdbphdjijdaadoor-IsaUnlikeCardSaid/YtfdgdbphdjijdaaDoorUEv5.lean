/- IsaUnlike: the runs of the Ops 51 to 59. No condition. -/
import Derived.Test.YtfdgdbphdjijdaaDoorUBits
namespace Go.Proofs.YtfdgdbphdjijdaaDoor
open Go Go.Proofs
set_option maxRecDepth 100000
theorem u_51 : uRun 51 = true := by kernel_rfl
theorem u_52 : uRun 52 = true := by kernel_rfl
theorem u_53 : uRun 53 = true := by kernel_rfl
theorem u_54 : uRun 54 = true := by kernel_rfl
theorem u_55 : uRun 55 = true := by kernel_rfl
theorem u_56 : uRun 56 = true := by kernel_rfl
theorem u_57 : uRun 57 = true := by kernel_rfl
theorem u_58 : uRun 58 = true := by kernel_rfl
theorem u_59 : uRun 59 = true := by kernel_rfl
end Go.Proofs.YtfdgdbphdjijdaaDoor
