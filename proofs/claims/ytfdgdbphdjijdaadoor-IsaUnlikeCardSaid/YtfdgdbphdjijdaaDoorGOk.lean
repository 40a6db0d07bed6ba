/- The summaries hold. No condition. -/
import Derived.Test.YtfdgdbphdjijdaaDoorGSum
import Derived.Test.YtfdgdbphdjijdaaDoorGDoor
namespace Go.Proofs.YtfdgdbphdjijdaaDoor
open Go Go.Proofs
theorem at28 {ro : Nat → Obj} (h : RoAll ro) {ρ : Env} (hr : ρ.ro = ro) {c : Cx} (hc : c.ng = 7) : SumAt Tryd.prog c ρ 28 (sumTab LStart 7 sum28) :=
 sumTab_ok (cx0 := cxD) mixed_door tt_ok ft_ok allD hc rfl LStart_lt (h ρ hr) Tryd.func28 sum28_ok
theorem all28 {ro : Nat → Obj} (h : RoAll ro) {ρ : Env} (hr : ρ.ro = ro) : SumOk Tryd.prog cx28 ρ :=
 smOf_okL (l := [(28, sumTab LStart 7 sum28)]) ⟨at28 h hr rfl, trivial⟩ rfl
theorem at25 {ro : Nat → Obj} (h : RoAll ro) {ρ : Env} (hr : ρ.ro = ro) {c : Cx} (hc : c.ng = 7) : SumAt Tryd.prog c ρ 25 (sumTab LStart 7 sum25) :=
 sumTab_ok (cx0 := cx28) mixed_door tt_ok ft_ok (all28 h hr) hc rfl LStart_lt (h ρ hr) Tryd.func25 sum25_ok
theorem all25 {ro : Nat → Obj} (h : RoAll ro) {ρ : Env} (hr : ρ.ro = ro) : SumOk Tryd.prog cx25 ρ :=
 smOf_okL (l := [(25, sumTab LStart 7 sum25), (28, sumTab LStart 7 sum28)]) ⟨at25 h hr rfl, at28 h hr rfl, trivial⟩ rfl
theorem at11 {ro : Nat → Obj} (h : RoAll ro) {ρ : Env} (hr : ρ.ro = ro) {c : Cx} (hc : c.ng = 7) : SumAt Tryd.prog c ρ 11 (sumTab LStart 7 sum11) :=
 sumTab_ok (cx0 := cx25) mixed_door tt_ok ft_ok (all25 h hr) hc rfl LStart_lt (h ρ hr) Tryd.func11 sum11_ok
theorem all11 {ro : Nat → Obj} (h : RoAll ro) {ρ : Env} (hr : ρ.ro = ro) : SumOk Tryd.prog cx11 ρ :=
 smOf_okL (l := [(11, sumTab LStart 7 sum11), (25, sumTab LStart 7 sum25), (28, sumTab LStart 7 sum28)]) ⟨at11 h hr rfl, at25 h hr rfl, at28 h hr rfl, trivial⟩ rfl
theorem at18 {ro : Nat → Obj} (h : RoAll ro) {ρ : Env} (hr : ρ.ro = ro) {c : Cx} (hc : c.ng = 7) : SumAt Tryd.prog c ρ 18 (sumPar LStart 7 sum18) :=
 sumPar_ok (cx0 := cx11) mixed_door tt_ok ft_ok (fun ρ' e => (all11 h (e.trans hr))) hc rfl LStart_lt (fun ρ' e => h ρ' (e.trans hr)) Tryd.func18 sum18_ok
theorem all18 {ro : Nat → Obj} (h : RoAll ro) {ρ : Env} (hr : ρ.ro = ro) : SumOk Tryd.prog cx18 ρ :=
 smOf_okL (l := [(18, sumPar LStart 7 sum18), (11, sumTab LStart 7 sum11), (25, sumTab LStart 7 sum25), (28, sumTab LStart 7 sum28)]) ⟨at18 h hr rfl, at11 h hr rfl, at25 h hr rfl, at28 h hr rfl, trivial⟩ rfl
theorem at7 {ro : Nat → Obj} (h : RoAll ro) {ρ : Env} (hr : ρ.ro = ro) {c : Cx} (hc : c.ng = 7) : SumAt Tryd.prog c ρ 7 (sumTab LStart 7 sum7) :=
 sumTab_ok (cx0 := cx18) mixed_door tt_ok ft_ok (all18 h hr) hc rfl LStart_lt (h ρ hr) Tryd.func7 sum7_ok
theorem all7 {ro : Nat → Obj} (h : RoAll ro) {ρ : Env} (hr : ρ.ro = ro) : SumOk Tryd.prog cx7 ρ :=
 smOf_okL (l := [(7, sumTab LStart 7 sum7), (18, sumPar LStart 7 sum18), (11, sumTab LStart 7 sum11), (25, sumTab LStart 7 sum25), (28, sumTab LStart 7 sum28)]) ⟨at7 h hr rfl, at18 h hr rfl, at11 h hr rfl, at25 h hr rfl, at28 h hr rfl, trivial⟩ rfl
end Go.Proofs.YtfdgdbphdjijdaaDoor
