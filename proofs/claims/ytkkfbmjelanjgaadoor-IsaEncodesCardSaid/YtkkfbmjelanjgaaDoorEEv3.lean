/- IsaEncodes: the runs of the Ops 46 to 59. No condition. -/
import Derived.Test.YtkkfbmjelanjgaaDoorEBits
namespace Go.Proofs.YtkkfbmjelanjgaaDoor
open Go Go.Proofs
set_option maxRecDepth 100000
theorem enc_46 : encRun 46 = true := by kernel_rfl
theorem enc_47 : encRun 47 = true := by kernel_rfl
theorem enc_48 : encRun 48 = true := by kernel_rfl
theorem enc_49 : encRun 49 = true := by kernel_rfl
theorem enc_50 : encRun 50 = true := by kernel_rfl
theorem enc_51 : encRun 51 = true := by kernel_rfl
theorem enc_52 : encRun 52 = true := by kernel_rfl
theorem enc_53 : encRun 53 = true := by kernel_rfl
theorem enc_54 : encRun 54 = true := by kernel_rfl
theorem enc_55 : encRun 55 = true := by kernel_rfl
theorem enc_56 : encRun 56 = true := by kernel_rfl
theorem enc_57 : encRun 57 = true := by kernel_rfl
theorem enc_58 : encRun 58 = true := by kernel_rfl
theorem enc_59 : encRun 59 = true := by kernel_rfl
end Go.Proofs.YtkkfbmjelanjgaaDoor
