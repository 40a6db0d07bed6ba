/- ScriptStarts: the runs of 2 codes. No condition. -/
import Derived.Test.YtodbpiifjpnnbaaGreatDoorVDef
namespace Go.Proofs.YtodbpiifjpnnbaaGreatDoor
open Go Go.Proofs Go.RowKit
set_option maxRecDepth 100000 in
theorem run2_1 : runS false 2 2 1 = true := by kernel_rfl
set_option maxRecDepth 100000 in
theorem run2_2 : runS false 2 2 2 = true := by kernel_rfl
set_option maxRecDepth 100000 in
theorem run2_3 : runS false 2 2 3 = true := by kernel_rfl
set_option maxRecDepth 100000 in
theorem run2_4 : runS false 2 2 4 = true := by kernel_rfl
set_option maxRecDepth 100000 in
theorem run2_5 : runS false 2 2 5 = true := by kernel_rfl
set_option maxRecDepth 100000 in
theorem run2_6 : runS false 2 2 6 = true := by kernel_rfl
set_option maxRecDepth 100000 in
theorem run2_7 : runS false 2 2 7 = true := by kernel_rfl
set_option maxRecDepth 100000 in
theorem run2_8 : runS false 2 2 8 = true := by kernel_rfl
set_option maxRecDepth 100000 in
theorem run2_9 : runS false 2 2 9 = true := by kernel_rfl
set_option maxRecDepth 100000 in
theorem run2_10 : runS false 2 2 10 = true := by kernel_rfl
end Go.Proofs.YtodbpiifjpnnbaaGreatDoor
