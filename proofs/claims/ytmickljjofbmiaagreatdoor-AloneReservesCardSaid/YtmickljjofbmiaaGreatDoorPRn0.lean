/- AloneReserves: runs. No condition. -/
import Derived.Test.YtmickljjofbmiaaGreatDoorPLaw
set_option maxRecDepth 100000
namespace Go.Proofs.YtmickljjofbmiaaGreatDoor
open Go Go.Proofs
theorem runP1_1:okP 1 1=true:=by kernel_rfl
theorem runP1_2:okP 1 2=true:=by kernel_rfl
theorem runP2_1:okP 2 1=true:=by kernel_rfl
theorem runP2_2:okP 2 2=true:=by kernel_rfl
theorem runP3_1:okP 3 1=true:=by kernel_rfl
theorem runP3_2:okP 3 2=true:=by kernel_rfl
theorem runP4_1:okP 4 1=true:=by kernel_rfl
theorem runP4_2:okP 4 2=true:=by kernel_rfl
theorem runP5_1:okP 5 1=true:=by kernel_rfl
theorem runP5_2:okP 5 2=true:=by kernel_rfl
theorem runP6_1:okP 6 1=true:=by kernel_rfl
theorem runP6_2:okP 6 2=true:=by kernel_rfl
theorem runP7_1:okP 7 1=true:=by kernel_rfl
theorem runP7_2:okP 7 2=true:=by kernel_rfl
theorem runP8_1:okP 8 1=true:=by kernel_rfl
theorem runP8_2:okP 8 2=true:=by kernel_rfl
theorem runP9_1:okP 9 1=true:=by kernel_rfl
theorem runP9_2:okP 9 2=true:=by kernel_rfl
theorem runP10_1:okP 10 1=true:=by kernel_rfl
theorem runP10_2:okP 10 2=true:=by kernel_rfl
end Go.Proofs.YtmickljjofbmiaaGreatDoor
