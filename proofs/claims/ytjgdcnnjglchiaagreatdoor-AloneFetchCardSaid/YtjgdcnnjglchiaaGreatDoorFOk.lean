/- The summaries hold. No condition. -/
import Derived.Test.YtjgdcnnjglchiaaGreatDoorFSum
import Derived.Test.YtjgdcnnjglchiaaGreatDoorFDoor
namespace Go.Proofs.YtjgdcnnjglchiaaGreatDoor
open Go Go.Proofs

theorem at38 {ro : Nat → Obj} (h : RoAll ro) {ρ : Env} (hr : ρ.ro = ro) {c : Cx} (hc : c.ng = 7) : SumAt Tryz.prog c ρ 38 (sumTab LStart 7 sum38) :=
  sumTab_ok (cx0 := cxD) mixed_door tt_ok ft_ok allD hc rfl LStart_lt (h ρ hr) Tryz.func38 sum38_ok
theorem all38 {ro : Nat → Obj} (h : RoAll ro) {ρ : Env} (hr : ρ.ro = ro) : SumOk Tryz.prog cx38 ρ :=
  smOf_okL (l := [(38, sumTab LStart 7 sum38)]) ⟨at38 h hr rfl, trivial⟩ rfl
theorem at5 {ro : Nat → Obj} (h : RoAll ro) {ρ : Env} (hr : ρ.ro = ro) {c : Cx} (hc : c.ng = 7) : SumAt Tryz.prog c ρ 5 (sumTab LStart 7 sum5) :=
  sumTab_ok (cx0 := cx38) mixed_door tt_ok ft_ok (all38 h hr) hc rfl LStart_lt (h ρ hr) Tryz.func5 sum5_ok
theorem all5 {ro : Nat → Obj} (h : RoAll ro) {ρ : Env} (hr : ρ.ro = ro) : SumOk Tryz.prog cx5 ρ :=
  smOf_okL (l := [(5, sumTab LStart 7 sum5), (38, sumTab LStart 7 sum38)]) ⟨at5 h hr rfl, at38 h hr rfl, trivial⟩ rfl
end Go.Proofs.YtjgdcnnjglchiaaGreatDoor
