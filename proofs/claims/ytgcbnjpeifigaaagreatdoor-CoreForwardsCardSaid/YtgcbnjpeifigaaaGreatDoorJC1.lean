/- CorePlay's loop over acts: the rounds of shape 1. CorePlay's loop over acts: the rounds of shape 0. No condition. -/
import Derived.Test.YtgcbnjpeifigaaaGreatDoorJLp
namespace Go.Proofs.YtgcbnjpeifigaaaGreatDoor
open Go Go.Proofs
set_option maxRecDepth 100000
theorem akj:ao (aN 1) 0 0=true:=by kernel_rfl
theorem akk:ao (aN 1) 0 1=true:=by kernel_rfl
theorem akl:ao (aN 1) 1 0=true:=by kernel_rfl
theorem akm:ao (aN 1) 1 1=true:=by kernel_rfl
theorem akn:ao (aN 1) 2 0=true:=by kernel_rfl
theorem ako:ao (aN 1) 2 1=true:=by kernel_rfl
theorem akp:ao (aN 1) 3 0=true:=by kernel_rfl
theorem akq:ao (aN 1) 3 1=true:=by kernel_rfl
theorem akr:ao (aN 1) 4 0=true:=by kernel_rfl
theorem aks:ao (aN 1) 4 1=true:=by kernel_rfl
theorem akt:ao (aN 1) 5 0=true:=by kernel_rfl
theorem aku:ao (aN 1) 5 1=true:=by kernel_rfl
theorem akv:ao (aN 1) 6 0=true:=by kernel_rfl
theorem akw:ao (aN 1) 6 1=true:=by kernel_rfl
theorem akx:ao (aN 1) 7 0=true:=by kernel_rfl
theorem aky:ao (aN 1) 7 1=true:=by kernel_rfl
theorem c1_8_0:ao (aN 1) 8 0=true:=by kernel_rfl
theorem c1_8_1:ao (aN 1) 8 1=true:=by kernel_rfl
end Go.Proofs.YtgcbnjpeifigaaaGreatDoor
namespace Go.Proofs.YtgcbnjpeifigaaaGreatDoor
open Go Go.Proofs
set_option maxRecDepth 100000
theorem aj2:ao (aN 0) 0 0=true:=by kernel_rfl
theorem aj3:ao (aN 0) 0 1=true:=by kernel_rfl
theorem aj4:ao (aN 0) 1 0=true:=by kernel_rfl
theorem aj5:ao (aN 0) 1 1=true:=by kernel_rfl
theorem aj6:ao (aN 0) 2 0=true:=by kernel_rfl
theorem aj7:ao (aN 0) 2 1=true:=by kernel_rfl
theorem aj8:ao (aN 0) 3 0=true:=by kernel_rfl
theorem aj9:ao (aN 0) 3 1=true:=by kernel_rfl
theorem aka:ao (aN 0) 4 0=true:=by kernel_rfl
theorem akb:ao (aN 0) 4 1=true:=by kernel_rfl
theorem akc:ao (aN 0) 5 0=true:=by kernel_rfl
theorem akd:ao (aN 0) 5 1=true:=by kernel_rfl
theorem ake:ao (aN 0) 6 0=true:=by kernel_rfl
theorem akf:ao (aN 0) 6 1=true:=by kernel_rfl
theorem akg:ao (aN 0) 7 0=true:=by kernel_rfl
theorem aki:ao (aN 0) 7 1=true:=by kernel_rfl
theorem c0_8_0:ao (aN 0) 8 0=true:=by kernel_rfl
theorem c0_8_1:ao (aN 0) 8 1=true:=by kernel_rfl
end Go.Proofs.YtgcbnjpeifigaaaGreatDoor
