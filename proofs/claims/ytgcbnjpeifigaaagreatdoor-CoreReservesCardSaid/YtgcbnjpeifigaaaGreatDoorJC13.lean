/- CorePlay's loop over acts: the rounds of shape 13. No condition. -/
import Derived.Test.YtgcbnjpeifigaaaGreatDoorJLp
namespace Go.Proofs.YtgcbnjpeifigaaaGreatDoor
open Go Go.Proofs
set_option maxRecDepth 100000
theorem aaq:ao (aN 13) 0 0=true:=by kernel_rfl
theorem aar:ao (aN 13) 0 1=true:=by kernel_rfl
theorem aas:ao (aN 13) 1 0=true:=by kernel_rfl
theorem aat:ao (aN 13) 1 1=true:=by kernel_rfl
theorem aau:ao (aN 13) 2 0=true:=by kernel_rfl
theorem aav:ao (aN 13) 2 1=true:=by kernel_rfl
theorem aaw:ao (aN 13) 3 0=true:=by kernel_rfl
theorem aax:ao (aN 13) 3 1=true:=by kernel_rfl
theorem aay:ao (aN 13) 4 0=true:=by kernel_rfl
theorem aaz:ao (aN 13) 4 1=true:=by kernel_rfl
theorem aaA:ao (aN 13) 5 0=true:=by kernel_rfl
theorem aaB:ao (aN 13) 5 1=true:=by kernel_rfl
theorem aaC:ao (aN 13) 6 0=true:=by kernel_rfl
theorem aaD:ao (aN 13) 6 1=true:=by kernel_rfl
theorem aaE:ao (aN 13) 7 0=true:=by kernel_rfl
theorem aaF:ao (aN 13) 7 1=true:=by kernel_rfl
theorem c13_8_0:ao (aN 13) 8 0=true:=by kernel_rfl
theorem c13_8_1:ao (aN 13) 8 1=true:=by kernel_rfl
end Go.Proofs.YtgcbnjpeifigaaaGreatDoor
