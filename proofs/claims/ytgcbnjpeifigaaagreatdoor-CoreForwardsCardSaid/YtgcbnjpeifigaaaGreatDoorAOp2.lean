/- Alone: the runs of the Ops 30 to 44. No condition. -/
import Derived.Test.YtgcbnjpeifigaaaGreatDoorAOpS
set_option maxRecDepth 100000
namespace Go.Proofs.YtgcbnjpeifigaaaGreatDoor
theorem aqo:bf 30=true:=by kernel_rfl
theorem aqp:bf 31=true:=by kernel_rfl
theorem aqq:bf 32=true:=by kernel_rfl
theorem aqr:bf 33=true:=by kernel_rfl
theorem aqs:bf 34=true:=by kernel_rfl
theorem aqt:bf 35=true:=by kernel_rfl
theorem aqu:bf 36=true:=by kernel_rfl
theorem aqv:bf 37=true:=by kernel_rfl
theorem aqw:bf 38=true:=by kernel_rfl
theorem aqx:bf 39=true:=by kernel_rfl
theorem aqy:bf 40=true:=by kernel_rfl
theorem aqz:bf 41=true:=by kernel_rfl
theorem aqA:bf 42=true:=by kernel_rfl
theorem aqB:bf 43=true:=by kernel_rfl
theorem aqC:bf 44=true:=by kernel_rfl
theorem aul:px [30,31,32,33,34,35,36,37,38,39,40,41,42,43,44]:=⟨aqo,aqp,aqq,aqr,aqs,aqt,aqu,aqv,aqw,aqx,aqy,aqz,aqA,aqB,aqC,trivial⟩
end Go.Proofs.YtgcbnjpeifigaaaGreatDoor
