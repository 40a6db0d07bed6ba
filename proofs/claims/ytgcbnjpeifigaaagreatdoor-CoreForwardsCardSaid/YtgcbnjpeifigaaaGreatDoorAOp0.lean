/- Alone: the runs of the Ops 0 to 14. No condition. -/
import Derived.Test.YtgcbnjpeifigaaaGreatDoorAOpS
set_option maxRecDepth 100000
namespace Go.Proofs.YtgcbnjpeifigaaaGreatDoor
theorem at6:bf 0=true:=by kernel_rfl
theorem at7:bf 1=true:=by kernel_rfl
theorem aua:bf 2=true:=by kernel_rfl
theorem aub:bf 3=true:=by kernel_rfl
theorem auc:bf 4=true:=by kernel_rfl
theorem aud:bf 5=true:=by kernel_rfl
theorem aue:bf 6=true:=by kernel_rfl
theorem auf:bf 7=true:=by kernel_rfl
theorem aug:bf 8=true:=by kernel_rfl
theorem aui:bf 9=true:=by kernel_rfl
theorem ap3:bf 10=true:=by kernel_rfl
theorem ap4:bf 11=true:=by kernel_rfl
theorem ap5:bf 12=true:=by kernel_rfl
theorem ap6:bf 13=true:=by kernel_rfl
theorem ap7:bf 14=true:=by kernel_rfl
theorem auj:px [0,1,2,3,4,5,6,7,8,9,10,11,12,13,14]:=⟨at6,at7,aua,aub,auc,aud,aue,auf,aug,aui,ap3,ap4,ap5,ap6,ap7,trivial⟩
end Go.Proofs.YtgcbnjpeifigaaaGreatDoor
