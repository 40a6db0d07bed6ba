/- IsaUnlike: the runs of the Ops 21 to 30. No condition. -/
import Derived.Test.YtfdgdbphdjijdaaDoorUBits
namespace Go.Proofs.YtfdgdbphdjijdaaDoor
open Go Go.Proofs
set_option maxRecDepth 100000
theorem u_21 : uRun 21 = true := by kernel_rfl
theorem u_22 : uRun 22 = true := by kernel_rfl
theorem u_23 : uRun 23 = true := by kernel_rfl
theorem u_24 : uRun 24 = true := by kernel_rfl
theorem u_25 : uRun 25 = true := by kernel_rfl
theorem u_26 : uRun 26 = true := by kernel_rfl
theorem u_27 : uRun 27 = true := by kernel_rfl
theorem u_28 : uRun 28 = true := by kernel_rfl
theorem u_29 : uRun 29 = true := by kernel_rfl
theorem u_30 : uRun 30 = true := by kernel_rfl
end Go.Proofs.YtfdgdbphdjijdaaDoor
