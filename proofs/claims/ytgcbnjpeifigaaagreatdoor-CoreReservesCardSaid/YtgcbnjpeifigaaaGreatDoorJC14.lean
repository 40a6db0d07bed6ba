/- CorePlay's loop over acts: the rounds of shape 14. No condition. -/
import Derived.Test.YtgcbnjpeifigaaaGreatDoorJLp
namespace Go.Proofs.YtgcbnjpeifigaaaGreatDoor
open Go Go.Proofs
set_option maxRecDepth 100000
theorem aaG:ao (aN 14) 0 0=true:=by kernel_rfl
theorem aaI:ao (aN 14) 0 1=true:=by kernel_rfl
theorem aaJ:ao (aN 14) 1 0=true:=by kernel_rfl
theorem aaK:ao (aN 14) 1 1=true:=by kernel_rfl
theorem aaL:ao (aN 14) 2 0=true:=by kernel_rfl
theorem aaM:ao (aN 14) 2 1=true:=by kernel_rfl
theorem aaN:ao (aN 14) 3 0=true:=by kernel_rfl
theorem aaO:ao (aN 14) 3 1=true:=by kernel_rfl
theorem aaP:ao (aN 14) 4 0=true:=by kernel_rfl
theorem aaQ:ao (aN 14) 4 1=true:=by kernel_rfl
theorem aaR:ao (aN 14) 5 0=true:=by kernel_rfl
theorem aaS:ao (aN 14) 5 1=true:=by kernel_rfl
theorem aaT:ao (aN 14) 6 0=true:=by kernel_rfl
theorem aaU:ao (aN 14) 6 1=true:=by kernel_rfl
theorem aaV:ao (aN 14) 7 0=true:=by kernel_rfl
theorem aaW:ao (aN 14) 7 1=true:=by kernel_rfl
theorem c14_8_0:ao (aN 14) 8 0=true:=by kernel_rfl
theorem c14_8_1:ao (aN 14) 8 1=true:=by kernel_rfl
end Go.Proofs.YtgcbnjpeifigaaaGreatDoor
