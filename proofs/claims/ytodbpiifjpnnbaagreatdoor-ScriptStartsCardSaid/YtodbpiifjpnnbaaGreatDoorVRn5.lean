/- ScriptStarts: the runs of 3 codes. No condition. -/
import Derived.Test.YtodbpiifjpnnbaaGreatDoorVDef
namespace Go.Proofs.YtodbpiifjpnnbaaGreatDoor
open Go Go.Proofs Go.RowKit
set_option maxRecDepth 100000 in
theorem run3_6 : runS false 3 2 6 = true := by kernel_rfl
set_option maxRecDepth 100000 in
theorem run3_7 : runS false 3 2 7 = true := by kernel_rfl
set_option maxRecDepth 100000 in
theorem run3_8 : runS false 3 2 8 = true := by kernel_rfl
set_option maxRecDepth 100000 in
theorem run3_9 : runS false 3 2 9 = true := by kernel_rfl
set_option maxRecDepth 100000 in
theorem run3_10 : runS false 3 2 10 = true := by kernel_rfl
end Go.Proofs.YtodbpiifjpnnbaaGreatDoor
