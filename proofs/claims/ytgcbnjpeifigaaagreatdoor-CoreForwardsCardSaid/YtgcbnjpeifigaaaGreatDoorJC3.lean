/- CorePlay's loop over acts: the rounds of shape 3. CorePlay's loop over acts: the rounds of shape 2. No condition. -/
import Derived.Test.YtgcbnjpeifigaaaGreatDoorJLp
namespace Go.Proofs.YtgcbnjpeifigaaaGreatDoor
open Go Go.Proofs
set_option maxRecDepth 100000
theorem akQ:ao (aN 3) 0 0=true:=by kernel_rfl
theorem akR:ao (aN 3) 0 1=true:=by kernel_rfl
theorem akS:ao (aN 3) 1 0=true:=by kernel_rfl
theorem akT:ao (aN 3) 1 1=true:=by kernel_rfl
theorem akU:ao (aN 3) 2 0=true:=by kernel_rfl
theorem akV:ao (aN 3) 2 1=true:=by kernel_rfl
theorem akW:ao (aN 3) 3 0=true:=by kernel_rfl
theorem akX:ao (aN 3) 3 1=true:=by kernel_rfl
theorem akY:ao (aN 3) 4 0=true:=by kernel_rfl
theorem akZ:ao (aN 3) 4 1=true:=by kernel_rfl
theorem akh:ao (aN 3) 5 0=true:=by kernel_rfl
theorem ak0:ao (aN 3) 5 1=true:=by kernel_rfl
theorem ak1:ao (aN 3) 6 0=true:=by kernel_rfl
theorem ak2:ao (aN 3) 6 1=true:=by kernel_rfl
theorem ak3:ao (aN 3) 7 0=true:=by kernel_rfl
theorem ak4:ao (aN 3) 7 1=true:=by kernel_rfl
theorem c3_8_0:ao (aN 3) 8 0=true:=by kernel_rfl
theorem c3_8_1:ao (aN 3) 8 1=true:=by kernel_rfl
end Go.Proofs.YtgcbnjpeifigaaaGreatDoor
namespace Go.Proofs.YtgcbnjpeifigaaaGreatDoor
open Go Go.Proofs
set_option maxRecDepth 100000
theorem akz:ao (aN 2) 0 0=true:=by kernel_rfl
theorem akA:ao (aN 2) 0 1=true:=by kernel_rfl
theorem akB:ao (aN 2) 1 0=true:=by kernel_rfl
theorem akC:ao (aN 2) 1 1=true:=by kernel_rfl
theorem akD:ao (aN 2) 2 0=true:=by kernel_rfl
theorem akE:ao (aN 2) 2 1=true:=by kernel_rfl
theorem akF:ao (aN 2) 3 0=true:=by kernel_rfl
theorem akG:ao (aN 2) 3 1=true:=by kernel_rfl
theorem akI:ao (aN 2) 4 0=true:=by kernel_rfl
theorem akJ:ao (aN 2) 4 1=true:=by kernel_rfl
theorem akK:ao (aN 2) 5 0=true:=by kernel_rfl
theorem akL:ao (aN 2) 5 1=true:=by kernel_rfl
theorem akM:ao (aN 2) 6 0=true:=by kernel_rfl
theorem akN:ao (aN 2) 6 1=true:=by kernel_rfl
theorem akO:ao (aN 2) 7 0=true:=by kernel_rfl
theorem akP:ao (aN 2) 7 1=true:=by kernel_rfl
theorem c2_8_0:ao (aN 2) 8 0=true:=by kernel_rfl
theorem c2_8_1:ao (aN 2) 8 1=true:=by kernel_rfl
end Go.Proofs.YtgcbnjpeifigaaaGreatDoor
