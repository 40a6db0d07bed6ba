/- AloneReserves: runs. No condition. -/
import Derived.Test.YtmickljjofbmiaaGreatDoorPLaw
set_option maxRecDepth 100000
namespace Go.Proofs.YtmickljjofbmiaaGreatDoor
open Go Go.Proofs
theorem runP31_1:okP 31 1=true:=by kernel_rfl
theorem runP31_2:okP 31 2=true:=by kernel_rfl
theorem runP32_1:okP 32 1=true:=by kernel_rfl
theorem runP32_2:okP 32 2=true:=by kernel_rfl
theorem runP33_1:okP 33 1=true:=by kernel_rfl
theorem runP33_2:okP 33 2=true:=by kernel_rfl
theorem runP34_1:okP 34 1=true:=by kernel_rfl
theorem runP34_2:okP 34 2=true:=by kernel_rfl
theorem runP35_1:okP 35 1=true:=by kernel_rfl
theorem runP35_2:okP 35 2=true:=by kernel_rfl
theorem runP36_1:okP 36 1=true:=by kernel_rfl
theorem runP36_2:okP 36 2=true:=by kernel_rfl
theorem runP37_1:okP 37 1=true:=by kernel_rfl
theorem runP37_2:okP 37 2=true:=by kernel_rfl
theorem runP38_1:okP 38 1=true:=by kernel_rfl
theorem runP38_2:okP 38 2=true:=by kernel_rfl
theorem runP39_1:okP 39 1=true:=by kernel_rfl
theorem runP39_2:okP 39 2=true:=by kernel_rfl
theorem runP40_1:okP 40 1=true:=by kernel_rfl
theorem runP40_2:okP 40 2=true:=by kernel_rfl
end Go.Proofs.YtmickljjofbmiaaGreatDoor
