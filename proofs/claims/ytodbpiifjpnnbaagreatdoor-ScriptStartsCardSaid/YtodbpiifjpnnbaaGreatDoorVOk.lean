/- The summaries hold. No condition. -/
import Derived.Test.YtodbpiifjpnnbaaGreatDoorVSum
import Derived.Test.YtodbpiifjpnnbaaGreatDoorVDoor
namespace Go.Proofs.YtodbpiifjpnnbaaGreatDoor
open Go Go.Proofs
theorem at159 {ro : Nat → Obj} (h : RoAll ro) {ρ : Env} (hr : ρ.ro = ro) {c : Cx} (hc : c.ng = 7) : SumAt Tryz.prog c ρ 159 (sumTab LStart 7 sum159) :=
 sumTab_ok (cx0 := cxD) mixed_door tt_ok ft_ok allD hc rfl LStart_lt (h ρ hr) Tryz.func159 sum159_ok
theorem all159 {ro : Nat → Obj} (h : RoAll ro) {ρ : Env} (hr : ρ.ro = ro) : SumOk Tryz.prog cx159 ρ :=
 smOf_okL (l := [(159, sumTab LStart 7 sum159)]) ⟨at159 h hr rfl, trivial⟩ rfl
theorem at108 {ro : Nat → Obj} (h : RoAll ro) {ρ : Env} (hr : ρ.ro = ro) {c : Cx} (hc : c.ng = 7) : SumAt Tryz.prog c ρ 108 (sumTab LStart 7 sum108) :=
 sumTab_ok (cx0 := cx159) mixed_door tt_ok ft_ok (all159 h hr) hc rfl LStart_lt (h ρ hr) Tryz.func108 sum108_ok
theorem all108 {ro : Nat → Obj} (h : RoAll ro) {ρ : Env} (hr : ρ.ro = ro) : SumOk Tryz.prog cx108 ρ :=
 smOf_okL (l := [(108, sumTab LStart 7 sum108), (159, sumTab LStart 7 sum159)]) ⟨at108 h hr rfl, at159 h hr rfl, trivial⟩ rfl
theorem at209 {ro : Nat → Obj} (h : RoAll ro) {ρ : Env} (hr : ρ.ro = ro) {c : Cx} (hc : c.ng = 7) : SumAt Tryz.prog c ρ 209 (sumTab LStart 7 sum209) :=
 sumTab_ok (cx0 := cx108) mixed_door tt_ok ft_ok (all108 h hr) hc rfl LStart_lt (h ρ hr) Tryz.func209 sum209_ok
theorem all209 {ro : Nat → Obj} (h : RoAll ro) {ρ : Env} (hr : ρ.ro = ro) : SumOk Tryz.prog cx209 ρ :=
 smOf_okL (l := [(209, sumTab LStart 7 sum209), (108, sumTab LStart 7 sum108), (159, sumTab LStart 7 sum159)]) ⟨at209 h hr rfl, at108 h hr rfl, at159 h hr rfl, trivial⟩ rfl
theorem at184 {ro : Nat → Obj} (h : RoAll ro) {ρ : Env} (hr : ρ.ro = ro) {c : Cx} (hc : c.ng = 7) : SumAt Tryz.prog c ρ 184 (sumTab LStart 7 sum184) :=
 sumTab_ok (cx0 := cx209) mixed_door tt_ok ft_ok (all209 h hr) hc rfl LStart_lt (h ρ hr) Tryz.func184 sum184_ok
theorem all184 {ro : Nat → Obj} (h : RoAll ro) {ρ : Env} (hr : ρ.ro = ro) : SumOk Tryz.prog cx184 ρ :=
 smOf_okL (l := [(184, sumTab LStart 7 sum184), (209, sumTab LStart 7 sum209), (108, sumTab LStart 7 sum108), (159, sumTab LStart 7 sum159)]) ⟨at184 h hr rfl, at209 h hr rfl, at108 h hr rfl, at159 h hr rfl, trivial⟩ rfl
theorem at5 {ro : Nat → Obj} (h : RoAll ro) {ρ : Env} (hr : ρ.ro = ro) {c : Cx} (hc : c.ng = 7) : SumAt Tryz.prog c ρ 5 (sumTab LStart 7 sum5) :=
 sumTab_ok (cx0 := cx184) mixed_door tt_ok ft_ok (all184 h hr) hc rfl LStart_lt (h ρ hr) Tryz.func5 sum5_ok
theorem all5 {ro : Nat → Obj} (h : RoAll ro) {ρ : Env} (hr : ρ.ro = ro) : SumOk Tryz.prog cx5 ρ :=
 smOf_okL (l := [(5, sumTab LStart 7 sum5), (184, sumTab LStart 7 sum184), (209, sumTab LStart 7 sum209), (108, sumTab LStart 7 sum108), (159, sumTab LStart 7 sum159)]) ⟨at5 h hr rfl, at184 h hr rfl, at209 h hr rfl, at108 h hr rfl, at159 h hr rfl, trivial⟩ rfl
end Go.Proofs.YtodbpiifjpnnbaaGreatDoor
