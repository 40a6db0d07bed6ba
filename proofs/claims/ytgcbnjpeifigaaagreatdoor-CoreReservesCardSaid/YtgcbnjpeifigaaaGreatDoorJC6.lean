/- CorePlay's loop over acts: the rounds of shape 6. CorePlay's loop over acts: the rounds of shape 5. CorePlay's loop over acts: the rounds of shape 4. No condition. -/
import Derived.Test.YtgcbnjpeifigaaaGreatDoorJLp
namespace Go.Proofs.YtgcbnjpeifigaaaGreatDoor
open Go Go.Proofs
set_option maxRecDepth 100000
theorem alE:ao (aN 6) 0 0=true:=by kernel_rfl
theorem alF:ao (aN 6) 0 1=true:=by kernel_rfl
theorem alG:ao (aN 6) 1 0=true:=by kernel_rfl
theorem alI:ao (aN 6) 1 1=true:=by kernel_rfl
theorem alJ:ao (aN 6) 2 0=true:=by kernel_rfl
theorem alK:ao (aN 6) 2 1=true:=by kernel_rfl
theorem alL:ao (aN 6) 3 0=true:=by kernel_rfl
theorem alM:ao (aN 6) 3 1=true:=by kernel_rfl
theorem alN:ao (aN 6) 4 0=true:=by kernel_rfl
theorem alO:ao (aN 6) 4 1=true:=by kernel_rfl
theorem alP:ao (aN 6) 5 0=true:=by kernel_rfl
theorem alQ:ao (aN 6) 5 1=true:=by kernel_rfl
theorem alR:ao (aN 6) 6 0=true:=by kernel_rfl
theorem alS:ao (aN 6) 6 1=true:=by kernel_rfl
theorem alT:ao (aN 6) 7 0=true:=by kernel_rfl
theorem alU:ao (aN 6) 7 1=true:=by kernel_rfl
theorem c6_8_0:ao (aN 6) 8 0=true:=by kernel_rfl
theorem c6_8_1:ao (aN 6) 8 1=true:=by kernel_rfl
end Go.Proofs.YtgcbnjpeifigaaaGreatDoor
namespace Go.Proofs.YtgcbnjpeifigaaaGreatDoor
open Go Go.Proofs
set_option maxRecDepth 100000
theorem aln:ao (aN 5) 0 0=true:=by kernel_rfl
theorem alo:ao (aN 5) 0 1=true:=by kernel_rfl
theorem alp:ao (aN 5) 1 0=true:=by kernel_rfl
theorem alq:ao (aN 5) 1 1=true:=by kernel_rfl
theorem alr:ao (aN 5) 2 0=true:=by kernel_rfl
theorem als:ao (aN 5) 2 1=true:=by kernel_rfl
theorem alu:ao (aN 5) 3 0=true:=by kernel_rfl
theorem alv:ao (aN 5) 3 1=true:=by kernel_rfl
theorem alw:ao (aN 5) 4 0=true:=by kernel_rfl
theorem alx:ao (aN 5) 4 1=true:=by kernel_rfl
theorem aly:ao (aN 5) 5 0=true:=by kernel_rfl
theorem alz:ao (aN 5) 5 1=true:=by kernel_rfl
theorem alA:ao (aN 5) 6 0=true:=by kernel_rfl
theorem alB:ao (aN 5) 6 1=true:=by kernel_rfl
theorem alC:ao (aN 5) 7 0=true:=by kernel_rfl
theorem alD:ao (aN 5) 7 1=true:=by kernel_rfl
theorem c5_8_0:ao (aN 5) 8 0=true:=by kernel_rfl
theorem c5_8_1:ao (aN 5) 8 1=true:=by kernel_rfl
end Go.Proofs.YtgcbnjpeifigaaaGreatDoor
namespace Go.Proofs.YtgcbnjpeifigaaaGreatDoor
open Go Go.Proofs
set_option maxRecDepth 100000
theorem ak5:ao (aN 4) 0 0=true:=by kernel_rfl
theorem ak6:ao (aN 4) 0 1=true:=by kernel_rfl
theorem ak7:ao (aN 4) 1 0=true:=by kernel_rfl
theorem ak8:ao (aN 4) 1 1=true:=by kernel_rfl
theorem ak9:ao (aN 4) 2 0=true:=by kernel_rfl
theorem ala:ao (aN 4) 2 1=true:=by kernel_rfl
theorem alb:ao (aN 4) 3 0=true:=by kernel_rfl
theorem alc:ao (aN 4) 3 1=true:=by kernel_rfl
theorem ald:ao (aN 4) 4 0=true:=by kernel_rfl
theorem ale:ao (aN 4) 4 1=true:=by kernel_rfl
theorem alf:ao (aN 4) 5 0=true:=by kernel_rfl
theorem alg:ao (aN 4) 5 1=true:=by kernel_rfl
theorem ali:ao (aN 4) 6 0=true:=by kernel_rfl
theorem alj:ao (aN 4) 6 1=true:=by kernel_rfl
theorem alk:ao (aN 4) 7 0=true:=by kernel_rfl
theorem alm:ao (aN 4) 7 1=true:=by kernel_rfl
theorem c4_8_0:ao (aN 4) 8 0=true:=by kernel_rfl
theorem c4_8_1:ao (aN 4) 8 1=true:=by kernel_rfl
end Go.Proofs.YtgcbnjpeifigaaaGreatDoor
