/- IsaEncodes: the runs of the Ops 31 to 45. No condition. -/
import Derived.Test.YtkkfbmjelanjgaaDoorEBits
namespace Go.Proofs.YtkkfbmjelanjgaaDoor
open Go Go.Proofs
set_option maxRecDepth 100000
theorem enc_31 : encRun 31 = true := by kernel_rfl
theorem enc_32 : encRun 32 = true := by kernel_rfl
theorem enc_33 : encRun 33 = true := by kernel_rfl
theorem enc_34 : encRun 34 = true := by kernel_rfl
theorem enc_35 : encRun 35 = true := by kernel_rfl
theorem enc_36 : encRun 36 = true := by kernel_rfl
theorem enc_37 : encRun 37 = true := by kernel_rfl
theorem enc_38 : encRun 38 = true := by kernel_rfl
theorem enc_39 : encRun 39 = true := by kernel_rfl
theorem enc_40 : encRun 40 = true := by kernel_rfl
theorem enc_41 : encRun 41 = true := by kernel_rfl
theorem enc_42 : encRun 42 = true := by kernel_rfl
theorem enc_43 : encRun 43 = true := by kernel_rfl
theorem enc_44 : encRun 44 = true := by kernel_rfl
theorem enc_45 : encRun 45 = true := by kernel_rfl
end Go.Proofs.YtkkfbmjelanjgaaDoor
