/- CorePlay's loop over acts: the rounds of shape 9. CorePlay's loop over acts: the rounds of shape 8. CorePlay's loop over acts: the rounds of shape 7. No condition. -/
import Derived.Test.YtgcbnjpeifigaaaGreatDoorJLp
namespace Go.Proofs.YtgcbnjpeifigaaaGreatDoor
open Go Go.Proofs
set_option maxRecDepth 100000
theorem ams:ao (aN 9) 0 0=true:=by kernel_rfl
theorem amt:ao (aN 9) 0 1=true:=by kernel_rfl
theorem amu:ao (aN 9) 1 0=true:=by kernel_rfl
theorem amv:ao (aN 9) 1 1=true:=by kernel_rfl
theorem amw:ao (aN 9) 2 0=true:=by kernel_rfl
theorem amx:ao (aN 9) 2 1=true:=by kernel_rfl
theorem amy:ao (aN 9) 3 0=true:=by kernel_rfl
theorem amz:ao (aN 9) 3 1=true:=by kernel_rfl
theorem amA:ao (aN 9) 4 0=true:=by kernel_rfl
theorem amB:ao (aN 9) 4 1=true:=by kernel_rfl
theorem amC:ao (aN 9) 5 0=true:=by kernel_rfl
theorem amD:ao (aN 9) 5 1=true:=by kernel_rfl
theorem amE:ao (aN 9) 6 0=true:=by kernel_rfl
theorem amF:ao (aN 9) 6 1=true:=by kernel_rfl
theorem amG:ao (aN 9) 7 0=true:=by kernel_rfl
theorem amI:ao (aN 9) 7 1=true:=by kernel_rfl
theorem c9_8_0:ao (aN 9) 8 0=true:=by kernel_rfl
theorem c9_8_1:ao (aN 9) 8 1=true:=by kernel_rfl
end Go.Proofs.YtgcbnjpeifigaaaGreatDoor
namespace Go.Proofs.YtgcbnjpeifigaaaGreatDoor
open Go Go.Proofs
set_option maxRecDepth 100000
theorem ama:ao (aN 8) 0 0=true:=by kernel_rfl
theorem amb:ao (aN 8) 0 1=true:=by kernel_rfl
theorem amc:ao (aN 8) 1 0=true:=by kernel_rfl
theorem amd:ao (aN 8) 1 1=true:=by kernel_rfl
theorem ame:ao (aN 8) 2 0=true:=by kernel_rfl
theorem amf:ao (aN 8) 2 1=true:=by kernel_rfl
theorem amg:ao (aN 8) 3 0=true:=by kernel_rfl
theorem ami:ao (aN 8) 3 1=true:=by kernel_rfl
theorem amj:ao (aN 8) 4 0=true:=by kernel_rfl
theorem amk:ao (aN 8) 4 1=true:=by kernel_rfl
theorem aml:ao (aN 8) 5 0=true:=by kernel_rfl
theorem amm:ao (aN 8) 5 1=true:=by kernel_rfl
theorem amn:ao (aN 8) 6 0=true:=by kernel_rfl
theorem amp:ao (aN 8) 6 1=true:=by kernel_rfl
theorem amq:ao (aN 8) 7 0=true:=by kernel_rfl
theorem amr:ao (aN 8) 7 1=true:=by kernel_rfl
theorem c8_8_0:ao (aN 8) 8 0=true:=by kernel_rfl
theorem c8_8_1:ao (aN 8) 8 1=true:=by kernel_rfl
end Go.Proofs.YtgcbnjpeifigaaaGreatDoor
namespace Go.Proofs.YtgcbnjpeifigaaaGreatDoor
open Go Go.Proofs
set_option maxRecDepth 100000
theorem alV:ao (aN 7) 0 0=true:=by kernel_rfl
theorem alW:ao (aN 7) 0 1=true:=by kernel_rfl
theorem alX:ao (aN 7) 1 0=true:=by kernel_rfl
theorem alY:ao (aN 7) 1 1=true:=by kernel_rfl
theorem alZ:ao (aN 7) 2 0=true:=by kernel_rfl
theorem alh:ao (aN 7) 2 1=true:=by kernel_rfl
theorem al0:ao (aN 7) 3 0=true:=by kernel_rfl
theorem al1:ao (aN 7) 3 1=true:=by kernel_rfl
theorem al2:ao (aN 7) 4 0=true:=by kernel_rfl
theorem al3:ao (aN 7) 4 1=true:=by kernel_rfl
theorem al4:ao (aN 7) 5 0=true:=by kernel_rfl
theorem al5:ao (aN 7) 5 1=true:=by kernel_rfl
theorem al6:ao (aN 7) 6 0=true:=by kernel_rfl
theorem al7:ao (aN 7) 6 1=true:=by kernel_rfl
theorem al8:ao (aN 7) 7 0=true:=by kernel_rfl
theorem al9:ao (aN 7) 7 1=true:=by kernel_rfl
theorem c7_8_0:ao (aN 7) 8 0=true:=by kernel_rfl
theorem c7_8_1:ao (aN 7) 8 1=true:=by kernel_rfl
end Go.Proofs.YtgcbnjpeifigaaaGreatDoor
