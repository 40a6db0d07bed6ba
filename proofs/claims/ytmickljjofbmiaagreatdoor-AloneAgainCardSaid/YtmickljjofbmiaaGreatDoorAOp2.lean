/- Alone: the runs of the Ops 30 to 44. No condition. -/
import Derived.Test.YtmickljjofbmiaaGreatDoorAOpS
set_option maxRecDepth 100000
namespace Go.Proofs.YtmickljjofbmiaaGreatDoor
theorem alw:aX 30=true:=by kernel_rfl
theorem ame:aX 31=true:=by kernel_rfl
theorem ajD:aX 32=true:=by kernel_rfl
theorem af6:aX 33=true:=by kernel_rfl
theorem alh:aX 34=true:=by kernel_rfl
theorem am9:aX 35=true:=by kernel_rfl
theorem agT:aX 36=true:=by kernel_rfl
theorem akV:aX 37=true:=by kernel_rfl
theorem ajS:aX 38=true:=by kernel_rfl
theorem amT:aX 39=true:=by kernel_rfl
theorem ajI:aX 40=true:=by kernel_rfl
theorem alZ:aX 41=true:=by kernel_rfl
theorem alB:aX 42=true:=by kernel_rfl
theorem ajp:aX 43=true:=by kernel_rfl
theorem ais:aX 44=true:=by kernel_rfl
theorem apF:pB [30,31,32,33,34,35,36,37,38,39,40,41,42,43,44]:=⟨alw,ame,ajD,af6,alh,am9,agT,akV,ajS,amT,ajI,alZ,alB,ajp,ais,trivial⟩
end Go.Proofs.YtmickljjofbmiaaGreatDoor
