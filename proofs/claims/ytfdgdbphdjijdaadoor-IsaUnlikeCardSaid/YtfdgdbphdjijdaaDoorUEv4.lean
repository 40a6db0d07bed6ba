/- IsaUnlike: the runs of the Ops 41 to 50. No condition. -/
import Derived.Test.YtfdgdbphdjijdaaDoorUBits
namespace Go.Proofs.YtfdgdbphdjijdaaDoor
open Go Go.Proofs
set_option maxRecDepth 100000
theorem u_41 : uRun 41 = true := by kernel_rfl
theorem u_42 : uRun 42 = true := by kernel_rfl
theorem u_43 : uRun 43 = true := by kernel_rfl
theorem u_44 : uRun 44 = true := by kernel_rfl
theorem u_45 : uRun 45 = true := by kernel_rfl
theorem u_46 : uRun 46 = true := by kernel_rfl
theorem u_47 : uRun 47 = true := by kernel_rfl
theorem u_48 : uRun 48 = true := by kernel_rfl
theorem u_49 : uRun 49 = true := by kernel_rfl
theorem u_50 : uRun 50 = true := by kernel_rfl
end Go.Proofs.YtfdgdbphdjijdaaDoor
