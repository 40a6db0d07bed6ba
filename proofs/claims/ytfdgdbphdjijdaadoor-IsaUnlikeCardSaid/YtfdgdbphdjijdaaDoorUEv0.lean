/- IsaUnlike: the runs of the Ops 1 to 10. No condition. -/
import Derived.Test.YtfdgdbphdjijdaaDoorUBits
namespace Go.Proofs.YtfdgdbphdjijdaaDoor
open Go Go.Proofs
set_option maxRecDepth 100000
theorem u_other : uOther = true := by kernel_rfl
theorem u_1 : uRun 1 = true := by kernel_rfl
theorem u_2 : uRun 2 = true := by kernel_rfl
theorem u_3 : uRun 3 = true := by kernel_rfl
theorem u_4 : uRun 4 = true := by kernel_rfl
theorem u_5 : uRun 5 = true := by kernel_rfl
theorem u_6 : uRun 6 = true := by kernel_rfl
theorem u_7 : uRun 7 = true := by kernel_rfl
theorem u_8 : uRun 8 = true := by kernel_rfl
theorem u_9 : uRun 9 = true := by kernel_rfl
theorem u_10 : uRun 10 = true := by kernel_rfl
end Go.Proofs.YtfdgdbphdjijdaaDoor
