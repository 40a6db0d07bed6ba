/- Alone: the runs of the Ops 0 to 14. No condition. -/
import Derived.Test.YtmickljjofbmiaaGreatDoorAOpS
set_option maxRecDepth 100000
namespace Go.Proofs.YtmickljjofbmiaaGreatDoor
theorem aqq:aX 0=true:=by kernel_rfl
theorem apQ:aX 1=true:=by kernel_rfl
theorem apr:aX 2=true:=by kernel_rfl
theorem ao6:aX 3=true:=by kernel_rfl
theorem arD:aX 4=true:=by kernel_rfl
theorem apq:aX 5=true:=by kernel_rfl
theorem apm:aX 6=true:=by kernel_rfl
theorem aoL:aX 7=true:=by kernel_rfl
theorem ar1:aX 8=true:=by kernel_rfl
theorem arS:aX 9=true:=by kernel_rfl
theorem agU:aX 10=true:=by kernel_rfl
theorem aj9:aX 11=true:=by kernel_rfl
theorem akc:aX 12=true:=by kernel_rfl
theorem af9:aX 13=true:=by kernel_rfl
theorem akT:aX 14=true:=by kernel_rfl
theorem aqr:pB [0,1,2,3,4,5,6,7,8,9,10,11,12,13,14]:=⟨aqq,apQ,apr,ao6,arD,apq,apm,aoL,ar1,arS,agU,aj9,akc,af9,akT,trivial⟩
end Go.Proofs.YtmickljjofbmiaaGreatDoor
