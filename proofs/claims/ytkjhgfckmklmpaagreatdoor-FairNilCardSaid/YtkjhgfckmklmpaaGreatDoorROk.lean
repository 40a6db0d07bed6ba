/- The summaries hold. No condition. -/
import Derived.Test.YtkjhgfckmklmpaaGreatDoorRSum
import Derived.Test.YtkjhgfckmklmpaaGreatDoorRDoor
namespace Go.Proofs.YtkjhgfckmklmpaaGreatDoor
open Go Go.Proofs

theorem at141 {ro : Nat → Obj} (h : RoAll ro) {ρ : Env} (hr : ρ.ro = ro) {c : Cx} (hc : c.ng = 7) : SumAt Tryz.prog c ρ 141 (sumTab LStart 7 sum141) :=
  sumTab_ok (cx0 := cxD) mixed_door tt_ok ft_ok allD hc rfl LStart_lt (h ρ hr) Tryz.func141 sum141_ok
theorem all141 {ro : Nat → Obj} (h : RoAll ro) {ρ : Env} (hr : ρ.ro = ro) : SumOk Tryz.prog cx141 ρ :=
  smOf_okL (l := [(141, sumTab LStart 7 sum141)]) ⟨at141 h hr rfl, trivial⟩ rfl
theorem at80 {ro : Nat → Obj} (h : RoAll ro) {ρ : Env} (hr : ρ.ro = ro) {c : Cx} (hc : c.ng = 7) : SumAt Tryz.prog c ρ 80 (sumTab LStart 7 sum80) :=
  sumTab_ok (cx0 := cx141) mixed_door tt_ok ft_ok (all141 h hr) hc rfl LStart_lt (h ρ hr) Tryz.func80 sum80_ok
theorem all80 {ro : Nat → Obj} (h : RoAll ro) {ρ : Env} (hr : ρ.ro = ro) : SumOk Tryz.prog cx80 ρ :=
  smOf_okL (l := [(80, sumTab LStart 7 sum80), (141, sumTab LStart 7 sum141)]) ⟨at80 h hr rfl, at141 h hr rfl, trivial⟩ rfl
theorem at195 {ro : Nat → Obj} (h : RoAll ro) {ρ : Env} (hr : ρ.ro = ro) {c : Cx} (hc : c.ng = 7) : SumAt Tryz.prog c ρ 195 (sumTab LStart 7 sum195) :=
  sumTab_ok (cx0 := cx80) mixed_door tt_ok ft_ok (all80 h hr) hc rfl LStart_lt (h ρ hr) Tryz.func195 sum195_ok
theorem all195 {ro : Nat → Obj} (h : RoAll ro) {ρ : Env} (hr : ρ.ro = ro) : SumOk Tryz.prog cx195 ρ :=
  smOf_okL (l := [(195, sumTab LStart 7 sum195), (80, sumTab LStart 7 sum80), (141, sumTab LStart 7 sum141)]) ⟨at195 h hr rfl, at80 h hr rfl, at141 h hr rfl, trivial⟩ rfl
theorem at170 {ro : Nat → Obj} (h : RoAll ro) {ρ : Env} (hr : ρ.ro = ro) {c : Cx} (hc : c.ng = 7) : SumAt Tryz.prog c ρ 170 (sumTab LStart 7 sum170) :=
  sumTab_ok (cx0 := cx195) mixed_door tt_ok ft_ok (all195 h hr) hc rfl LStart_lt (h ρ hr) Tryz.func170 sum170_ok
theorem all170 {ro : Nat → Obj} (h : RoAll ro) {ρ : Env} (hr : ρ.ro = ro) : SumOk Tryz.prog cx170 ρ :=
  smOf_okL (l := [(170, sumTab LStart 7 sum170), (195, sumTab LStart 7 sum195), (80, sumTab LStart 7 sum80), (141, sumTab LStart 7 sum141)]) ⟨at170 h hr rfl, at195 h hr rfl, at80 h hr rfl, at141 h hr rfl, trivial⟩ rfl
theorem at9 {ro : Nat → Obj} (h : RoAll ro) {ρ : Env} (hr : ρ.ro = ro) {c : Cx} (hc : c.ng = 7) : SumAt Tryz.prog c ρ 9 (sumTab LStart 7 sum9) :=
  sumTab_ok (cx0 := cx170) mixed_door tt_ok ft_ok (all170 h hr) hc rfl LStart_lt (h ρ hr) Tryz.func9 sum9_ok
theorem all9 {ro : Nat → Obj} (h : RoAll ro) {ρ : Env} (hr : ρ.ro = ro) : SumOk Tryz.prog cx9 ρ :=
  smOf_okL (l := [(9, sumTab LStart 7 sum9), (170, sumTab LStart 7 sum170), (195, sumTab LStart 7 sum195), (80, sumTab LStart 7 sum80), (141, sumTab LStart 7 sum141)]) ⟨at9 h hr rfl, at170 h hr rfl, at195 h hr rfl, at80 h hr rfl, at141 h hr rfl, trivial⟩ rfl
end Go.Proofs.YtkjhgfckmklmpaaGreatDoor
