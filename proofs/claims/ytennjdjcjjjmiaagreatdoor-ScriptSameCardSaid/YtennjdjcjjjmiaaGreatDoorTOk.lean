/- The summaries hold. No condition. -/
import Derived.Test.YtennjdjcjjjmiaaGreatDoorTSum
import Derived.Test.YtennjdjcjjjmiaaGreatDoorTDoor
namespace Go.Proofs.YtennjdjcjjjmiaaGreatDoor
open Go Go.Proofs
theorem at171 {ro : Nat → Obj} (h : RoAll ro) {ρ : Env} (hr : ρ.ro = ro) {c : Cx} (hc : c.ng = 7) : SumAt Tryz.prog c ρ 171 (sumTab LStart 7 sum171) :=
 sumTab_ok (cx0 := cxD) mixed_door tt_ok ft_ok allD hc rfl LStart_lt (h ρ hr) Tryz.func171 sum171_ok
theorem all171 {ro : Nat → Obj} (h : RoAll ro) {ρ : Env} (hr : ρ.ro = ro) : SumOk Tryz.prog cx171 ρ :=
 smOf_okL (l := [(171, sumTab LStart 7 sum171)]) ⟨at171 h hr rfl, trivial⟩ rfl
theorem at114 {ro : Nat → Obj} (h : RoAll ro) {ρ : Env} (hr : ρ.ro = ro) {c : Cx} (hc : c.ng = 7) : SumAt Tryz.prog c ρ 114 (sumTab LStart 7 sum114) :=
 sumTab_ok (cx0 := cx171) mixed_door tt_ok ft_ok (all171 h hr) hc rfl LStart_lt (h ρ hr) Tryz.func114 sum114_ok
theorem all114 {ro : Nat → Obj} (h : RoAll ro) {ρ : Env} (hr : ρ.ro = ro) : SumOk Tryz.prog cx114 ρ :=
 smOf_okL (l := [(114, sumTab LStart 7 sum114), (171, sumTab LStart 7 sum171)]) ⟨at114 h hr rfl, at171 h hr rfl, trivial⟩ rfl
theorem at221 {ro : Nat → Obj} (h : RoAll ro) {ρ : Env} (hr : ρ.ro = ro) {c : Cx} (hc : c.ng = 7) : SumAt Tryz.prog c ρ 221 (sumTab LStart 7 sum221) :=
 sumTab_ok (cx0 := cx114) mixed_door tt_ok ft_ok (all114 h hr) hc rfl LStart_lt (h ρ hr) Tryz.func221 sum221_ok
theorem all221 {ro : Nat → Obj} (h : RoAll ro) {ρ : Env} (hr : ρ.ro = ro) : SumOk Tryz.prog cx221 ρ :=
 smOf_okL (l := [(221, sumTab LStart 7 sum221), (114, sumTab LStart 7 sum114), (171, sumTab LStart 7 sum171)]) ⟨at221 h hr rfl, at114 h hr rfl, at171 h hr rfl, trivial⟩ rfl
theorem at196 {ro : Nat → Obj} (h : RoAll ro) {ρ : Env} (hr : ρ.ro = ro) {c : Cx} (hc : c.ng = 7) : SumAt Tryz.prog c ρ 196 (sumTab LStart 7 sum196) :=
 sumTab_ok (cx0 := cx221) mixed_door tt_ok ft_ok (all221 h hr) hc rfl LStart_lt (h ρ hr) Tryz.func196 sum196_ok
theorem all196 {ro : Nat → Obj} (h : RoAll ro) {ρ : Env} (hr : ρ.ro = ro) : SumOk Tryz.prog cx196 ρ :=
 smOf_okL (l := [(196, sumTab LStart 7 sum196), (221, sumTab LStart 7 sum221), (114, sumTab LStart 7 sum114), (171, sumTab LStart 7 sum171)]) ⟨at196 h hr rfl, at221 h hr rfl, at114 h hr rfl, at171 h hr rfl, trivial⟩ rfl
theorem at8 {ro : Nat → Obj} (h : RoAll ro) {ρ : Env} (hr : ρ.ro = ro) {c : Cx} (hc : c.ng = 7) : SumAt Tryz.prog c ρ 8 (sumTab LStart 7 sum8) :=
 sumTab_ok (cx0 := cx196) mixed_door tt_ok ft_ok (all196 h hr) hc rfl LStart_lt (h ρ hr) Tryz.func8 sum8_ok
end Go.Proofs.YtennjdjcjjjmiaaGreatDoor
