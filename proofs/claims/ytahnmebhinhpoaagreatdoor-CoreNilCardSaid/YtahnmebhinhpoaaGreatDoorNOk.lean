/- The summaries hold. No condition. -/
import Derived.Test.YtahnmebhinhpoaaGreatDoorNSum
import Derived.Test.YtahnmebhinhpoaaGreatDoorNDoor
namespace Go.Proofs.YtahnmebhinhpoaaGreatDoor
open Go Go.Proofs

theorem at59 {ro : Nat → Obj} (h : RoAll ro) {ρ : Env} (hr : ρ.ro = ro) {c : Cx} (hc : c.ng = 7) : SumAt Tryz.prog c ρ 59 (sumTab LStart 7 sum59) :=
  sumTab_ok (cx0 := cxD) mixed_door tt_ok ft_ok allD hc rfl LStart_lt (h ρ hr) Tryz.func59 sum59_ok
theorem all59 {ro : Nat → Obj} (h : RoAll ro) {ρ : Env} (hr : ρ.ro = ro) : SumOk Tryz.prog cx59 ρ :=
  smOf_okL (l := [(59, sumTab LStart 7 sum59)]) ⟨at59 h hr rfl, trivial⟩ rfl
theorem at4 {ro : Nat → Obj} (h : RoAll ro) {ρ : Env} (hr : ρ.ro = ro) {c : Cx} (hc : c.ng = 7) : SumAt Tryz.prog c ρ 4 (sumTab LStart 7 sum4) :=
  sumTab_ok (cx0 := cx59) mixed_door tt_ok ft_ok (all59 h hr) hc rfl LStart_lt (h ρ hr) Tryz.func4 sum4_ok
theorem all4 {ro : Nat → Obj} (h : RoAll ro) {ρ : Env} (hr : ρ.ro = ro) : SumOk Tryz.prog cx4 ρ :=
  smOf_okL (l := [(4, sumTab LStart 7 sum4), (59, sumTab LStart 7 sum59)]) ⟨at4 h hr rfl, at59 h hr rfl, trivial⟩ rfl
end Go.Proofs.YtahnmebhinhpoaaGreatDoor
