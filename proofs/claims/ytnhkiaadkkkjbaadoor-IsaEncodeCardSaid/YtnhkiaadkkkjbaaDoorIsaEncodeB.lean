/- IsaEncode, run by the evaluator: the Ops 1 to 10. No condition. -/
import Derived.Test.YtnhkiaadkkkjbaaDoorIsaEncodeA
namespace Go.Proofs.YtnhkiaadkkkjbaaDoor
open Go Go.Proofs
set_option maxRecDepth 100000
theorem enc_1 : encRun 1 = true := by kernel_rfl
theorem enc_2 : encRun 2 = true := by kernel_rfl
theorem enc_3 : encRun 3 = true := by kernel_rfl
theorem enc_4 : encRun 4 = true := by kernel_rfl
theorem enc_5 : encRun 5 = true := by kernel_rfl
theorem enc_6 : encRun 6 = true := by kernel_rfl
theorem enc_7 : encRun 7 = true := by kernel_rfl
theorem enc_8 : encRun 8 = true := by kernel_rfl
theorem enc_9 : encRun 9 = true := by kernel_rfl
theorem enc_10 : encRun 10 = true := by kernel_rfl
end Go.Proofs.YtnhkiaadkkkjbaaDoor
