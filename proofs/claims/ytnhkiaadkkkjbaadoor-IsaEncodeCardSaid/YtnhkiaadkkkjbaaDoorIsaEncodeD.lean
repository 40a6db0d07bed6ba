/- IsaEncode, run by the evaluator: the Ops 23 to 40. No condition. -/
import Derived.Test.YtnhkiaadkkkjbaaDoorIsaEncodeA
namespace Go.Proofs.YtnhkiaadkkkjbaaDoor
open Go Go.Proofs
set_option maxRecDepth 100000
theorem enc_23 : encRun 23 = true := by kernel_rfl
theorem enc_24 : encRun 24 = true := by kernel_rfl
theorem enc_25 : encRun 25 = true := by kernel_rfl
theorem enc_26 : encRun 26 = true := by kernel_rfl
theorem enc_27 : encRun 27 = true := by kernel_rfl
theorem enc_28 : encRun 28 = true := by kernel_rfl
theorem enc_29 : encRun 29 = true := by kernel_rfl
theorem enc_30 : encRun 30 = true := by kernel_rfl
theorem enc_31 : encRun 31 = true := by kernel_rfl
theorem enc_32 : encRun 32 = true := by kernel_rfl
theorem enc_33 : encRun 33 = true := by kernel_rfl
theorem enc_34 : encRun 34 = true := by kernel_rfl
theorem enc_35 : encRun 35 = true := by kernel_rfl
theorem enc_36 : encRun 36 = true := by kernel_rfl
theorem enc_37 : encRun 37 = true := by kernel_rfl
theorem enc_38 : encRun 38 = true := by kernel_rfl
theorem enc_39 : encRun 39 = true := by kernel_rfl
theorem enc_40 : encRun 40 = true := by kernel_rfl
end Go.Proofs.YtnhkiaadkkkjbaaDoor
