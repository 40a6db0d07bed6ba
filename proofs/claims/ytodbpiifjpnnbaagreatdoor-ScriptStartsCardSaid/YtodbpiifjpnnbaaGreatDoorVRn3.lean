/- ScriptStarts: the runs of 3 codes. No condition. -/
import Derived.Test.YtodbpiifjpnnbaaGreatDoorVDef
namespace Go.Proofs.YtodbpiifjpnnbaaGreatDoor
open Go Go.Proofs Go.RowKit
set_option maxRecDepth 100000 in
theorem run3_1 : runS false 3 2 1 = true := by kernel_rfl
set_option maxRecDepth 100000 in
theorem run3_2 : runS false 3 2 2 = true := by kernel_rfl
set_option maxRecDepth 100000 in
theorem run3_3 : runS false 3 2 3 = true := by kernel_rfl
set_option maxRecDepth 100000 in
theorem run3_4 : runS false 3 2 4 = true := by kernel_rfl
set_option maxRecDepth 100000 in
theorem run3_5 : runS false 3 2 5 = true := by kernel_rfl
end Go.Proofs.YtodbpiifjpnnbaaGreatDoor
