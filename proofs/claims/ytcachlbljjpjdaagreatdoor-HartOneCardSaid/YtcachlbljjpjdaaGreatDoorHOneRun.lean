/- The law's runs with what the three leave, one register at a time. No condition. -/
import Derived.Test.YtcachlbljjpjdaaGreatDoorHOneA
namespace Go.Proofs.YtcachlbljjpjdaaGreatDoor
open Go Go.Proofs
set_option maxRecDepth 100000
theorem one_halt : oneR outH outH (actX (.wrap .i64 (.var 100))) haltPc = true := oneQ (by kernel_rfl)
theorem one_no0 : noR 0 = true := by unfold noR; rw [evT_call]; kernel_rfl
theorem one_no1 : noR 1 = true := by unfold noR; rw [evT_call]; kernel_rfl
theorem one_no2 : noR 2 = true := by unfold noR; rw [evT_call]; kernel_rfl
theorem one_no3 : noR 3 = true := by unfold noR; rw [evT_call]; kernel_rfl
theorem one_no4 : noR 4 = true := by unfold noR; rw [evT_call]; kernel_rfl
theorem one_no5 : noR 5 = true := by unfold noR; rw [evT_call]; kernel_rfl
theorem n1 : rangeAll oneN 1 8 = true := by kernel_rfl
theorem n9 : rangeAll oneN 9 8 = true := by kernel_rfl
theorem n17 : rangeAll oneN 17 8 = true := by kernel_rfl
theorem n25 : rangeAll oneN 25 8 = true := by kernel_rfl
theorem one_norm (j : Nat) (h : 1 ≤ j) (k : j ≤ 32) : oneR (outJ j) (outJ j) (actX (.lit 0)) goPc = true := oneQ (one_range n1 n9 n17 n25 j h k)
end Go.Proofs.YtcachlbljjpjdaaGreatDoor

namespace Go.Proofs.YtcachlbljjpjdaaGreatDoor
open Go Go.Proofs
set_option maxRecDepth 100000
theorem l1 : rangeAll oneL 1 8 = true := by kernel_rfl
theorem l9 : rangeAll oneL 9 8 = true := by kernel_rfl
theorem l17 : rangeAll oneL 17 8 = true := by kernel_rfl
theorem l25 : rangeAll oneL 25 8 = true := by kernel_rfl
theorem one_loud (j : Nat) (h : 1 ≤ j) (k : j ≤ 32) : oneR (outJ j) outL (actX (.lit 0)) loudPc = true := oneQ (one_range l1 l9 l17 l25 j h k)
end Go.Proofs.YtcachlbljjpjdaaGreatDoor
