/- ScriptSame: runs (0). No condition. -/
import Derived.Test.YtennjdjcjjjmiaaGreatDoorNDef
namespace Go.Proofs.YtennjdjcjjjmiaaGreatDoor
open Go Go.Proofs
set_option maxRecDepth 100000
theorem run0000 : okRuns 0 0 0 0 = true := by kernel_rfl
theorem run0001 : okRuns 0 0 0 1 = true := by kernel_rfl
theorem run0002 : okRuns 0 0 0 2 = true := by kernel_rfl
theorem run0010 : okRuns 0 0 1 0 = true := by kernel_rfl
theorem run0011 : okRuns 0 0 1 1 = true := by kernel_rfl
theorem run0012 : okRuns 0 0 1 2 = true := by kernel_rfl
theorem run0020 : okRuns 0 0 2 0 = true := by kernel_rfl
theorem run0021 : okRuns 0 0 2 1 = true := by kernel_rfl
theorem run0022 : okRuns 0 0 2 2 = true := by kernel_rfl
theorem run0100 : okRuns 0 1 0 0 = true := by kernel_rfl
theorem run0101 : okRuns 0 1 0 1 = true := by kernel_rfl
theorem run0102 : okRuns 0 1 0 2 = true := by kernel_rfl
theorem run0110 : okRuns 0 1 1 0 = true := by kernel_rfl
theorem run0111 : okRuns 0 1 1 1 = true := by kernel_rfl
theorem run0112 : okRuns 0 1 1 2 = true := by kernel_rfl
theorem run0120 : okRuns 0 1 2 0 = true := by kernel_rfl
theorem run0121 : okRuns 0 1 2 1 = true := by kernel_rfl
theorem run0122 : okRuns 0 1 2 2 = true := by kernel_rfl
theorem run0200 : okRuns 0 2 0 0 = true := by kernel_rfl
theorem run0201 : okRuns 0 2 0 1 = true := by kernel_rfl
theorem run0202 : okRuns 0 2 0 2 = true := by kernel_rfl
theorem run0210 : okRuns 0 2 1 0 = true := by kernel_rfl
theorem run0211 : okRuns 0 2 1 1 = true := by kernel_rfl
theorem run0212 : okRuns 0 2 1 2 = true := by kernel_rfl
theorem run0220 : okRuns 0 2 2 0 = true := by kernel_rfl
theorem run0221 : okRuns 0 2 2 1 = true := by kernel_rfl
theorem run0222 : okRuns 0 2 2 2 = true := by kernel_rfl
end Go.Proofs.YtennjdjcjjjmiaaGreatDoor
