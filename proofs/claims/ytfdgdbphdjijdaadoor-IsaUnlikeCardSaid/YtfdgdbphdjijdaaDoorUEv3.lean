/- IsaUnlike: the runs of the Ops 31 to 40. No condition. -/
import Derived.Test.YtfdgdbphdjijdaaDoorUBits
namespace Go.Proofs.YtfdgdbphdjijdaaDoor
open Go Go.Proofs
set_option maxRecDepth 100000
theorem u_31 : uRun 31 = true := by kernel_rfl
theorem u_32 : uRun 32 = true := by kernel_rfl
theorem u_33 : uRun 33 = true := by kernel_rfl
theorem u_34 : uRun 34 = true := by kernel_rfl
theorem u_35 : uRun 35 = true := by kernel_rfl
theorem u_36 : uRun 36 = true := by kernel_rfl
theorem u_37 : uRun 37 = true := by kernel_rfl
theorem u_38 : uRun 38 = true := by kernel_rfl
theorem u_39 : uRun 39 = true := by kernel_rfl
theorem u_40 : uRun 40 = true := by kernel_rfl
end Go.Proofs.YtfdgdbphdjijdaaDoor
