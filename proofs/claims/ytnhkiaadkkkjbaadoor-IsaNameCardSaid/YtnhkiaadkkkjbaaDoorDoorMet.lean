/- The heap that the door's own run leaves meets the condition; the summaries hold. No condition. -/
import Derived.Test.YtnhkiaadkkkjbaaDoorSumA
namespace Go.Proofs.YtnhkiaadkkkjbaaDoor
open Go Go.Proofs Go.ChangeShapes Go.WideShapes Go.RowKit

set_option maxRecDepth 100000 in
theorem door_met (os : Os) (args : Array Value) : laidMetH Tryd.prog Rows.isaNameRow.laid ((World.doorLaid Tryd.prog 4000 os).forCall (fun _ _ => 0) ⟨#[], args, []⟩).memory :=
  laidMetH_of_parts3 (fuel := 8) (laidMet_of_run' 8 (by kernel_rfl) (by kernel_rfl)) (by kernel_rfl) (by kernel_rfl)
theorem sum0_ok {ρ : Env} : SumOk Tryd.prog cx ρ := fun f s h => by
  have : (none : Option (List V → St → R (V × St))) = some s := h
  cases this
theorem sumOk39 {ρ : Env} (h : RoAt ρ LStart) {c : Cx} (hc : c.ng = 7) : SumAt Tryd.prog c ρ 39 (sumTab LStart 7 sum39) :=
  sumTab_ok (cx0 := cx) mixed_door tt_ok ft_ok sum0_ok hc rfl LStart_lt h Tryd.func39 sum39_ok
theorem sum39_all {ρ : Env} (h : RoAt ρ LStart) : SumOk Tryd.prog cx39 ρ := smOf_ok (l := [(39, sumTab LStart 7 sum39)]) (fun x hx => by
  obtain rfl := List.mem_singleton.1 hx
  exact sumOk39 h rfl) rfl
theorem sumOk13 {ρ : Env} (h : RoAt ρ LStart) {c : Cx} (hc : c.ng = 7) : SumAt Tryd.prog c ρ 13 (sumTab LStart 7 sum13) :=
  sumTab_ok (cx0 := cx39) mixed_door tt_ok ft_ok (sum39_all h) hc rfl LStart_lt h Tryd.func13 sum13_ok
theorem sum13_all {ρ : Env} (h : RoAt ρ LStart) : SumOk Tryd.prog cx13 ρ := smOf_ok (l := [(13, sumTab LStart 7 sum13), (39, sumTab LStart 7 sum39)]) (fun x hx => by
  rcases List.mem_cons.1 hx with rfl | hx
  · exact sumOk13 h rfl
  · obtain rfl := List.mem_singleton.1 hx
    exact sumOk39 h rfl) rfl
end Go.Proofs.YtnhkiaadkkkjbaaDoor
