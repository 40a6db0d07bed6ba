/- ScriptStarts: the runs of 4 codes. No condition. -/
import Derived.Test.YtodbpiifjpnnbaaGreatDoorVDef
namespace Go.Proofs.YtodbpiifjpnnbaaGreatDoor
open Go Go.Proofs Go.RowKit
set_option maxRecDepth 100000 in
theorem run4_6 : runS false 4 2 6 = true := by kernel_rfl
set_option maxRecDepth 100000 in
theorem run4_7 : runS false 4 2 7 = true := by kernel_rfl
set_option maxRecDepth 100000 in
theorem run4_8 : runS false 4 2 8 = true := by kernel_rfl
set_option maxRecDepth 100000 in
theorem run4_9 : runS false 4 2 9 = true := by kernel_rfl
set_option maxRecDepth 100000 in
theorem run4_10 : runS false 4 2 10 = true := by kernel_rfl
end Go.Proofs.YtodbpiifjpnnbaaGreatDoor
