/- Alone: the runs of the Ops 15 to 29. No condition. -/
import Derived.Test.YtmickljjofbmiaaGreatDoorAOpS
set_option maxRecDepth 100000
namespace Go.Proofs.YtmickljjofbmiaaGreatDoor
theorem alY:aX 15=true:=by kernel_rfl
theorem alz:aX 16=true:=by kernel_rfl
theorem akZ:aX 17=true:=by kernel_rfl
theorem agS:aX 18=true:=by kernel_rfl
theorem agE:aX 19=true:=by kernel_rfl
theorem amB:aX 20=true:=by kernel_rfl
theorem aim:aX 21=true:=by kernel_rfl
theorem agh:aX 22=true:=by kernel_rfl
theorem aiD:aX 23=true:=by kernel_rfl
theorem akY:aX 24=true:=by kernel_rfl
theorem agZ:aX 25=true:=by kernel_rfl
theorem amJ:aX 26=true:=by kernel_rfl
theorem akh:aX 27=true:=by kernel_rfl
theorem ajE:aX 28=true:=by kernel_rfl
theorem afV:aX 29=true:=by kernel_rfl
theorem aq7:pB [15,16,17,18,19,20,21,22,23,24,25,26,27,28,29]:=⟨alY,alz,akZ,agS,agE,amB,aim,agh,aiD,akY,agZ,amJ,akh,ajE,afV,trivial⟩
end Go.Proofs.YtmickljjofbmiaaGreatDoor
