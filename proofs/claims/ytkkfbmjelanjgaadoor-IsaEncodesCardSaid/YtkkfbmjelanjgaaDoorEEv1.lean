/- IsaEncodes: the runs of the Ops 16 to 30. No condition. -/
import Derived.Test.YtkkfbmjelanjgaaDoorEBits
namespace Go.Proofs.YtkkfbmjelanjgaaDoor
open Go Go.Proofs
set_option maxRecDepth 100000
theorem enc_16 : encRun 16 = true := by kernel_rfl
theorem enc_17 : encRun 17 = true := by kernel_rfl
theorem enc_18 : encRun 18 = true := by kernel_rfl
theorem enc_19 : encRun 19 = true := by kernel_rfl
theorem enc_20 : encRun 20 = true := by kernel_rfl
theorem enc_21 : encRun 21 = true := by kernel_rfl
theorem enc_22 : encRun 22 = true := by kernel_rfl
theorem enc_23 : encRun 23 = true := by kernel_rfl
theorem enc_24 : encRun 24 = true := by kernel_rfl
theorem enc_25 : encRun 25 = true := by kernel_rfl
theorem enc_26 : encRun 26 = true := by kernel_rfl
theorem enc_27 : encRun 27 = true := by kernel_rfl
theorem enc_28 : encRun 28 = true := by kernel_rfl
theorem enc_29 : encRun 29 = true := by kernel_rfl
theorem enc_30 : encRun 30 = true := by kernel_rfl
end Go.Proofs.YtkkfbmjelanjgaaDoor
