/- The heap that the door's own run leaves meets the condition. No condition. -/
import Derived.Test.YtmickljjofbmiaaGreatDoorADoor
namespace Go.Proofs.YtmickljjofbmiaaGreatDoor
open Go Go.Proofs Go.ChangeShapes Go.WideShapes Go.RowKit
set_option maxRecDepth 100000 in
theorem aew(os:Os)(args:Array Value):laidMetH Tryz.prog Rows.aloneRunRow.laid ((World.doorLaid Tryz.prog 4000 os).forCall (fun _ _=>0) ⟨#[],args,[]⟩).memory:=
 laidMetH_of_parts3 (fuel:=8) (laidMet_of_run' 8 (by kernel_rfl) (by kernel_rfl)) (by kernel_rfl) (by kernel_rfl)
end Go.Proofs.YtmickljjofbmiaaGreatDoor
