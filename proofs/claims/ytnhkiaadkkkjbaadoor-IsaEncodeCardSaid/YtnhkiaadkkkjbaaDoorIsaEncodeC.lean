/- IsaEncode, run by the evaluator: the Ops 11 to 22. No condition. -/
import Derived.Test.YtnhkiaadkkkjbaaDoorIsaEncodeA
namespace Go.Proofs.YtnhkiaadkkkjbaaDoor
open Go Go.Proofs
set_option maxRecDepth 100000
theorem enc_11 : encRun 11 = true := by kernel_rfl
theorem enc_12 : encRun 12 = true := by kernel_rfl
theorem enc_13 : encRun 13 = true := by kernel_rfl
theorem enc_14 : encRun 14 = true := by kernel_rfl
theorem enc_15 : encRun 15 = true := by kernel_rfl
theorem enc_16 : encRun 16 = true := by kernel_rfl
theorem enc_17 : encRun 17 = true := by kernel_rfl
theorem enc_18 : encRun 18 = true := by kernel_rfl
theorem enc_19 : encRun 19 = true := by kernel_rfl
theorem enc_20 : encRun 20 = true := by kernel_rfl
theorem enc_21 : encRun 21 = true := by kernel_rfl
theorem enc_22 : encRun 22 = true := by kernel_rfl
end Go.Proofs.YtnhkiaadkkkjbaaDoor
