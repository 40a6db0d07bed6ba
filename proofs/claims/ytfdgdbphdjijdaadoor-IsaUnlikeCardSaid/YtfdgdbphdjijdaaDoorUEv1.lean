/- IsaUnlike: the runs of the Ops 11 to 20. No condition. -/
import Derived.Test.YtfdgdbphdjijdaaDoorUBits
namespace Go.Proofs.YtfdgdbphdjijdaaDoor
open Go Go.Proofs
set_option maxRecDepth 100000
theorem u_11 : uRun 11 = true := by kernel_rfl
theorem u_12 : uRun 12 = true := by kernel_rfl
theorem u_13 : uRun 13 = true := by kernel_rfl
theorem u_14 : uRun 14 = true := by kernel_rfl
theorem u_15 : uRun 15 = true := by kernel_rfl
theorem u_16 : uRun 16 = true := by kernel_rfl
theorem u_17 : uRun 17 = true := by kernel_rfl
theorem u_18 : uRun 18 = true := by kernel_rfl
theorem u_19 : uRun 19 = true := by kernel_rfl
theorem u_20 : uRun 20 = true := by kernel_rfl
end Go.Proofs.YtfdgdbphdjijdaaDoor
