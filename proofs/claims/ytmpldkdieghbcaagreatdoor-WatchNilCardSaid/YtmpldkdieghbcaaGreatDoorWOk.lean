/- The summaries hold. No condition. -/
import Derived.Test.YtmpldkdieghbcaaGreatDoorWSum
import Derived.Test.YtmpldkdieghbcaaGreatDoorWDoor
namespace Go.Proofs.YtmpldkdieghbcaaGreatDoor
open Go Go.Proofs

theorem at12 {ro : Nat → Obj} (h : RoAll ro) {ρ : Env} (hr : ρ.ro = ro) {c : Cx} (hc : c.ng = 7) : SumAt Tryz.prog c ρ 12 (sumTab LStart 7 sum12) :=
  sumTab_ok (cx0 := cxD) mixed_door tt_ok ft_ok allD hc rfl LStart_lt (h ρ hr) Tryz.func12 sum12_ok
theorem all12 {ro : Nat → Obj} (h : RoAll ro) {ρ : Env} (hr : ρ.ro = ro) : SumOk Tryz.prog cx12 ρ :=
  smOf_okL (l := [(12, sumTab LStart 7 sum12)]) ⟨at12 h hr rfl, trivial⟩ rfl
end Go.Proofs.YtmpldkdieghbcaaGreatDoor
