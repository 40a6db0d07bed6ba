/- ScriptStarts: the runs of 1 codes. No condition. -/
import Derived.Test.YtodbpiifjpnnbaaGreatDoorVDef
namespace Go.Proofs.YtodbpiifjpnnbaaGreatDoor
open Go Go.Proofs Go.RowKit
set_option maxRecDepth 100000 in
theorem run1_1 : runS false 1 2 1 = true := by kernel_rfl
set_option maxRecDepth 100000 in
theorem run1_2 : runS false 1 2 2 = true := by kernel_rfl
set_option maxRecDepth 100000 in
theorem run1_3 : runS false 1 2 3 = true := by kernel_rfl
set_option maxRecDepth 100000 in
theorem run1_4 : runS false 1 2 4 = true := by kernel_rfl
set_option maxRecDepth 100000 in
theorem run1_5 : runS false 1 2 5 = true := by kernel_rfl
set_option maxRecDepth 100000 in
theorem run1_6 : runS false 1 2 6 = true := by kernel_rfl
set_option maxRecDepth 100000 in
theorem run1_7 : runS false 1 2 7 = true := by kernel_rfl
set_option maxRecDepth 100000 in
theorem run1_8 : runS false 1 2 8 = true := by kernel_rfl
set_option maxRecDepth 100000 in
theorem run1_9 : runS false 1 2 9 = true := by kernel_rfl
set_option maxRecDepth 100000 in
theorem run1_10 : runS false 1 2 10 = true := by kernel_rfl
end Go.Proofs.YtodbpiifjpnnbaaGreatDoor
