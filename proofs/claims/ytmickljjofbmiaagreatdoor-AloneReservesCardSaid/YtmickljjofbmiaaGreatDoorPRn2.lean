/- AloneReserves: runs. No condition. -/
import Derived.Test.YtmickljjofbmiaaGreatDoorPLaw
set_option maxRecDepth 100000
namespace Go.Proofs.YtmickljjofbmiaaGreatDoor
open Go Go.Proofs
theorem runP21_1:okP 21 1=true:=by kernel_rfl
theorem runP21_2:okP 21 2=true:=by kernel_rfl
theorem runP22_1:okP 22 1=true:=by kernel_rfl
theorem runP22_2:okP 22 2=true:=by kernel_rfl
theorem runP23_1:okP 23 1=true:=by kernel_rfl
theorem runP23_2:okP 23 2=true:=by kernel_rfl
theorem runP24_1:okP 24 1=true:=by kernel_rfl
theorem runP24_2:okP 24 2=true:=by kernel_rfl
theorem runP25_1:okP 25 1=true:=by kernel_rfl
theorem runP25_2:okP 25 2=true:=by kernel_rfl
theorem runP26_1:okP 26 1=true:=by kernel_rfl
theorem runP26_2:okP 26 2=true:=by kernel_rfl
theorem runP27_1:okP 27 1=true:=by kernel_rfl
theorem runP27_2:okP 27 2=true:=by kernel_rfl
theorem runP28_1:okP 28 1=true:=by kernel_rfl
theorem runP28_2:okP 28 2=true:=by kernel_rfl
theorem runP29_1:okP 29 1=true:=by kernel_rfl
theorem runP29_2:okP 29 2=true:=by kernel_rfl
theorem runP30_1:okP 30 1=true:=by kernel_rfl
theorem runP30_2:okP 30 2=true:=by kernel_rfl
end Go.Proofs.YtmickljjofbmiaaGreatDoor
