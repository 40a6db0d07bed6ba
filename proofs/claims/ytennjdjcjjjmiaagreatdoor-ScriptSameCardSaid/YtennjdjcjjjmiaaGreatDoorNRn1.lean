/- ScriptSame: runs (1). No condition. -/
import Derived.Test.YtennjdjcjjjmiaaGreatDoorNDef
namespace Go.Proofs.YtennjdjcjjjmiaaGreatDoor
open Go Go.Proofs
set_option maxRecDepth 100000
theorem run1000 : okRuns 1 0 0 0 = true := by kernel_rfl
theorem run1001 : okRuns 1 0 0 1 = true := by kernel_rfl
theorem run1002 : okRuns 1 0 0 2 = true := by kernel_rfl
theorem run1010 : okRuns 1 0 1 0 = true := by kernel_rfl
theorem run1011 : okRuns 1 0 1 1 = true := by kernel_rfl
theorem run1012 : okRuns 1 0 1 2 = true := by kernel_rfl
theorem run1020 : okRuns 1 0 2 0 = true := by kernel_rfl
theorem run1021 : okRuns 1 0 2 1 = true := by kernel_rfl
theorem run1022 : okRuns 1 0 2 2 = true := by kernel_rfl
theorem run1100 : okRuns 1 1 0 0 = true := by kernel_rfl
theorem run1101 : okRuns 1 1 0 1 = true := by kernel_rfl
theorem run1102 : okRuns 1 1 0 2 = true := by kernel_rfl
theorem run1110 : okRuns 1 1 1 0 = true := by kernel_rfl
theorem run1111 : okRuns 1 1 1 1 = true := by kernel_rfl
theorem run1112 : okRuns 1 1 1 2 = true := by kernel_rfl
theorem run1120 : okRuns 1 1 2 0 = true := by kernel_rfl
theorem run1121 : okRuns 1 1 2 1 = true := by kernel_rfl
theorem run1122 : okRuns 1 1 2 2 = true := by kernel_rfl
theorem run1200 : okRuns 1 2 0 0 = true := by kernel_rfl
theorem run1201 : okRuns 1 2 0 1 = true := by kernel_rfl
theorem run1202 : okRuns 1 2 0 2 = true := by kernel_rfl
theorem run1210 : okRuns 1 2 1 0 = true := by kernel_rfl
theorem run1211 : okRuns 1 2 1 1 = true := by kernel_rfl
theorem run1212 : okRuns 1 2 1 2 = true := by kernel_rfl
theorem run1220 : okRuns 1 2 2 0 = true := by kernel_rfl
theorem run1221 : okRuns 1 2 2 1 = true := by kernel_rfl
theorem run1222 : okRuns 1 2 2 2 = true := by kernel_rfl
end Go.Proofs.YtennjdjcjjjmiaaGreatDoor
