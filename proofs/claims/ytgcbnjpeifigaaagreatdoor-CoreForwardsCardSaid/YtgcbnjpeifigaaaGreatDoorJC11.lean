/- CorePlay's loop over acts: the rounds of shape 11. No condition. -/
import Derived.Test.YtgcbnjpeifigaaaGreatDoorJLp
namespace Go.Proofs.YtgcbnjpeifigaaaGreatDoor
open Go Go.Proofs
set_option maxRecDepth 100000
theorem ZU:ao (aN 11) 0 0=true:=by kernel_rfl
theorem ZV:ao (aN 11) 0 1=true:=by kernel_rfl
theorem ZW:ao (aN 11) 1 0=true:=by kernel_rfl
theorem ZX:ao (aN 11) 1 1=true:=by kernel_rfl
theorem ZY:ao (aN 11) 2 0=true:=by kernel_rfl
theorem ZZ:ao (aN 11) 2 1=true:=by kernel_rfl
theorem Zh:ao (aN 11) 3 0=true:=by kernel_rfl
theorem Z0:ao (aN 11) 3 1=true:=by kernel_rfl
theorem Z1:ao (aN 11) 4 0=true:=by kernel_rfl
theorem Z2:ao (aN 11) 4 1=true:=by kernel_rfl
theorem Z3:ao (aN 11) 5 0=true:=by kernel_rfl
theorem Z4:ao (aN 11) 5 1=true:=by kernel_rfl
theorem Z5:ao (aN 11) 6 0=true:=by kernel_rfl
theorem Z6:ao (aN 11) 6 1=true:=by kernel_rfl
theorem Z7:ao (aN 11) 7 0=true:=by kernel_rfl
theorem Z8:ao (aN 11) 7 1=true:=by kernel_rfl
theorem c11_8_0:ao (aN 11) 8 0=true:=by kernel_rfl
theorem c11_8_1:ao (aN 11) 8 1=true:=by kernel_rfl
end Go.Proofs.YtgcbnjpeifigaaaGreatDoor
