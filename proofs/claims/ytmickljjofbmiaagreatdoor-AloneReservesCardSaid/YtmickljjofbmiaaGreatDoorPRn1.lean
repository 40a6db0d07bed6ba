/- AloneReserves: runs. No condition. -/
import Derived.Test.YtmickljjofbmiaaGreatDoorPLaw
set_option maxRecDepth 100000
namespace Go.Proofs.YtmickljjofbmiaaGreatDoor
open Go Go.Proofs
theorem runP11_1:okP 11 1=true:=by kernel_rfl
theorem runP11_2:okP 11 2=true:=by kernel_rfl
theorem runP12_1:okP 12 1=true:=by kernel_rfl
theorem runP12_2:okP 12 2=true:=by kernel_rfl
theorem runP13_1:okP 13 1=true:=by kernel_rfl
theorem runP13_2:okP 13 2=true:=by kernel_rfl
theorem runP14_1:okP 14 1=true:=by kernel_rfl
theorem runP14_2:okP 14 2=true:=by kernel_rfl
theorem runP15_1:okP 15 1=true:=by kernel_rfl
theorem runP15_2:okP 15 2=true:=by kernel_rfl
theorem runP16_1:okP 16 1=true:=by kernel_rfl
theorem runP16_2:okP 16 2=true:=by kernel_rfl
theorem runP17_1:okP 17 1=true:=by kernel_rfl
theorem runP17_2:okP 17 2=true:=by kernel_rfl
theorem runP18_1:okP 18 1=true:=by kernel_rfl
theorem runP18_2:okP 18 2=true:=by kernel_rfl
theorem runP19_1:okP 19 1=true:=by kernel_rfl
theorem runP19_2:okP 19 2=true:=by kernel_rfl
theorem runP20_1:okP 20 1=true:=by kernel_rfl
theorem runP20_2:okP 20 2=true:=by kernel_rfl
end Go.Proofs.YtmickljjofbmiaaGreatDoor
