/- IsaEncodes: the runs of the Ops 1 to 15. No condition. -/
import Derived.Test.YtkkfbmjelanjgaaDoorEBits
namespace Go.Proofs.YtkkfbmjelanjgaaDoor
open Go Go.Proofs
set_option maxRecDepth 100000
theorem enc_other : runF = true := by kernel_rfl
theorem enc_1 : encRun 1 = true := by kernel_rfl
theorem enc_2 : encRun 2 = true := by kernel_rfl
theorem enc_3 : encRun 3 = true := by kernel_rfl
theorem enc_4 : encRun 4 = true := by kernel_rfl
theorem enc_5 : encRun 5 = true := by kernel_rfl
theorem enc_6 : encRun 6 = true := by kernel_rfl
theorem enc_7 : encRun 7 = true := by kernel_rfl
theorem enc_8 : encRun 8 = true := by kernel_rfl
theorem enc_9 : encRun 9 = true := by kernel_rfl
theorem enc_10 : encRun 10 = true := by kernel_rfl
theorem enc_11 : encRun 11 = true := by kernel_rfl
theorem enc_12 : encRun 12 = true := by kernel_rfl
theorem enc_13 : encRun 13 = true := by kernel_rfl
theorem enc_14 : encRun 14 = true := by kernel_rfl
theorem enc_15 : encRun 15 = true := by kernel_rfl
end Go.Proofs.YtkkfbmjelanjgaaDoor
