/- ScriptSame: runs (2). No condition. -/
import Derived.Test.YtennjdjcjjjmiaaGreatDoorNDef
namespace Go.Proofs.YtennjdjcjjjmiaaGreatDoor
open Go Go.Proofs
set_option maxRecDepth 100000
theorem run2000 : okRuns 2 0 0 0 = true := by kernel_rfl
theorem run2001 : okRuns 2 0 0 1 = true := by kernel_rfl
theorem run2002 : okRuns 2 0 0 2 = true := by kernel_rfl
theorem run2010 : okRuns 2 0 1 0 = true := by kernel_rfl
theorem run2011 : okRuns 2 0 1 1 = true := by kernel_rfl
theorem run2012 : okRuns 2 0 1 2 = true := by kernel_rfl
theorem run2020 : okRuns 2 0 2 0 = true := by kernel_rfl
theorem run2021 : okRuns 2 0 2 1 = true := by kernel_rfl
theorem run2022 : okRuns 2 0 2 2 = true := by kernel_rfl
theorem run2100 : okRuns 2 1 0 0 = true := by kernel_rfl
theorem run2101 : okRuns 2 1 0 1 = true := by kernel_rfl
theorem run2102 : okRuns 2 1 0 2 = true := by kernel_rfl
theorem run2110 : okRuns 2 1 1 0 = true := by kernel_rfl
theorem run2111 : okRuns 2 1 1 1 = true := by kernel_rfl
theorem run2112 : okRuns 2 1 1 2 = true := by kernel_rfl
theorem run2120 : okRuns 2 1 2 0 = true := by kernel_rfl
theorem run2121 : okRuns 2 1 2 1 = true := by kernel_rfl
theorem run2122 : okRuns 2 1 2 2 = true := by kernel_rfl
theorem run2200 : okRuns 2 2 0 0 = true := by kernel_rfl
theorem run2201 : okRuns 2 2 0 1 = true := by kernel_rfl
theorem run2202 : okRuns 2 2 0 2 = true := by kernel_rfl
theorem run2210 : okRuns 2 2 1 0 = true := by kernel_rfl
theorem run2211 : okRuns 2 2 1 1 = true := by kernel_rfl
theorem run2212 : okRuns 2 2 1 2 = true := by kernel_rfl
theorem run2220 : okRuns 2 2 2 0 = true := by kernel_rfl
theorem run2221 : okRuns 2 2 2 1 = true := by kernel_rfl
theorem run2222 : okRuns 2 2 2 2 = true := by kernel_rfl
end Go.Proofs.YtennjdjcjjjmiaaGreatDoor
