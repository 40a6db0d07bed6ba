/- CorePlay's loop over acts: the rounds of shape 10. No condition. -/
import Derived.Test.YtgcbnjpeifigaaaGreatDoorJLp
namespace Go.Proofs.YtgcbnjpeifigaaaGreatDoor
open Go Go.Proofs
set_option maxRecDepth 100000
theorem ZD:ao (aN 10) 0 0=true:=by kernel_rfl
theorem ZE:ao (aN 10) 0 1=true:=by kernel_rfl
theorem ZF:ao (aN 10) 1 0=true:=by kernel_rfl
theorem ZG:ao (aN 10) 1 1=true:=by kernel_rfl
theorem ZI:ao (aN 10) 2 0=true:=by kernel_rfl
theorem ZJ:ao (aN 10) 2 1=true:=by kernel_rfl
theorem ZK:ao (aN 10) 3 0=true:=by kernel_rfl
theorem ZL:ao (aN 10) 3 1=true:=by kernel_rfl
theorem ZM:ao (aN 10) 4 0=true:=by kernel_rfl
theorem ZN:ao (aN 10) 4 1=true:=by kernel_rfl
theorem ZO:ao (aN 10) 5 0=true:=by kernel_rfl
theorem ZP:ao (aN 10) 5 1=true:=by kernel_rfl
theorem ZQ:ao (aN 10) 6 0=true:=by kernel_rfl
theorem ZR:ao (aN 10) 6 1=true:=by kernel_rfl
theorem ZS:ao (aN 10) 7 0=true:=by kernel_rfl
theorem ZT:ao (aN 10) 7 1=true:=by kernel_rfl
theorem c10_8_0:ao (aN 10) 8 0=true:=by kernel_rfl
theorem c10_8_1:ao (aN 10) 8 1=true:=by kernel_rfl
end Go.Proofs.YtgcbnjpeifigaaaGreatDoor
