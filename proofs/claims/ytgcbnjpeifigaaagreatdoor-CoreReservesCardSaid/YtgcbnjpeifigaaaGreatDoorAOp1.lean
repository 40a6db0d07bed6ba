/- Alone: the runs of the Ops 15 to 29. No condition. -/
import Derived.Test.YtgcbnjpeifigaaaGreatDoorAOpS
set_option maxRecDepth 100000
namespace Go.Proofs.YtgcbnjpeifigaaaGreatDoor
theorem ap8:bf 15=true:=by kernel_rfl
theorem ap9:bf 16=true:=by kernel_rfl
theorem aqa:bf 17=true:=by kernel_rfl
theorem aqb:bf 18=true:=by kernel_rfl
theorem aqc:bf 19=true:=by kernel_rfl
theorem aqd:bf 20=true:=by kernel_rfl
theorem aqe:bf 21=true:=by kernel_rfl
theorem aqf:bf 22=true:=by kernel_rfl
theorem aqg:bf 23=true:=by kernel_rfl
theorem aqi:bf 24=true:=by kernel_rfl
theorem aqj:bf 25=true:=by kernel_rfl
theorem aqk:bf 26=true:=by kernel_rfl
theorem aql:bf 27=true:=by kernel_rfl
theorem aqm:bf 28=true:=by kernel_rfl
theorem aqn:bf 29=true:=by kernel_rfl
theorem auk:px [15,16,17,18,19,20,21,22,23,24,25,26,27,28,29]:=⟨ap8,ap9,aqa,aqb,aqc,aqd,aqe,aqf,aqg,aqi,aqj,aqk,aql,aqm,aqn,trivial⟩
end Go.Proofs.YtgcbnjpeifigaaaGreatDoor
