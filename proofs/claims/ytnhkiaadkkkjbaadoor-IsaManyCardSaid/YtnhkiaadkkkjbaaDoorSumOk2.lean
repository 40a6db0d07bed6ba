/- The summaries hold. No condition. -/
import Derived.Test.YtnhkiaadkkkjbaaDoorSumD
import Derived.Test.YtnhkiaadkkkjbaaDoorSumOk
namespace Go.Proofs.YtnhkiaadkkkjbaaDoor
open Go Go.Proofs

theorem at14 {ro : Nat → Obj} (h : RoAll ro) {ρ : Env} (hr : ρ.ro = ro) {c : Cx} (hc : c.ng = 7) : SumAt Tryd.prog c ρ 14 (sumPar LStart 7 sum14) :=
  sumPar_ok (cx0 := cx10) mixed_door tt_ok ft_ok (fun ρ' e => all10 h (e.trans hr)) hc rfl LStart_lt (fun ρ' e => h ρ' (e.trans hr)) Tryd.func14 sum14_ok
theorem all14 {ro : Nat → Obj} (h : RoAll ro) {ρ : Env} (hr : ρ.ro = ro) : SumOk Tryd.prog cx14 ρ :=
  smOf_okL (l := [(14, sumPar LStart 7 sum14), (10, sumPar LStart 7 sum10), (32, sumPar LStart 7 sum32), (23, sumPar LStart 7 sum23), (31, sumTab LStart 7 sum31), (30, sumTab LStart 7 sum30), (29, sumTab LStart 7 sum29), (22, sumTab LStart 7 sum22), (25, sumTab LStart 7 sum25), (13, sumTab LStart 7 sum13), (39, sumTab LStart 7 sum39)]) ⟨at14 h hr rfl, at10 h hr rfl, at32 h hr rfl, at23 h hr rfl, at31 h hr rfl, at30 h hr rfl, at29 h hr rfl, at22 h hr rfl, at25 h hr rfl, at13 h hr rfl, at39 h hr rfl, trivial⟩ rfl
theorem at15 {ro : Nat → Obj} (h : RoAll ro) {ρ : Env} (hr : ρ.ro = ro) {c : Cx} (hc : c.ng = 7) : SumAt Tryd.prog c ρ 15 (sumPar LStart 7 sum15) :=
  sumPar_ok (cx0 := cx14) mixed_door tt_ok ft_ok (fun ρ' e => all14 h (e.trans hr)) hc rfl LStart_lt (fun ρ' e => h ρ' (e.trans hr)) Tryd.func15 sum15_ok
theorem all15 {ro : Nat → Obj} (h : RoAll ro) {ρ : Env} (hr : ρ.ro = ro) : SumOk Tryd.prog cx15 ρ :=
  smOf_okL (l := [(15, sumPar LStart 7 sum15), (14, sumPar LStart 7 sum14), (10, sumPar LStart 7 sum10), (32, sumPar LStart 7 sum32), (23, sumPar LStart 7 sum23), (31, sumTab LStart 7 sum31), (30, sumTab LStart 7 sum30), (29, sumTab LStart 7 sum29), (22, sumTab LStart 7 sum22), (25, sumTab LStart 7 sum25), (13, sumTab LStart 7 sum13), (39, sumTab LStart 7 sum39)]) ⟨at15 h hr rfl, at14 h hr rfl, at10 h hr rfl, at32 h hr rfl, at23 h hr rfl, at31 h hr rfl, at30 h hr rfl, at29 h hr rfl, at22 h hr rfl, at25 h hr rfl, at13 h hr rfl, at39 h hr rfl, trivial⟩ rfl
theorem at11 {ro : Nat → Obj} (h : RoAll ro) {ρ : Env} (hr : ρ.ro = ro) {c : Cx} (hc : c.ng = 7) : SumAt Tryd.prog c ρ 11 (sumTab LStart 7 sum11) :=
  sumTab_ok (cx0 := cx15) mixed_door tt_ok ft_ok (all15 h hr) hc rfl LStart_lt (h ρ hr) Tryd.func11 sum11_ok
theorem all11 {ro : Nat → Obj} (h : RoAll ro) {ρ : Env} (hr : ρ.ro = ro) : SumOk Tryd.prog cx11 ρ :=
  smOf_okL (l := [(11, sumTab LStart 7 sum11), (15, sumPar LStart 7 sum15), (14, sumPar LStart 7 sum14), (10, sumPar LStart 7 sum10), (32, sumPar LStart 7 sum32), (23, sumPar LStart 7 sum23), (31, sumTab LStart 7 sum31), (30, sumTab LStart 7 sum30), (29, sumTab LStart 7 sum29), (22, sumTab LStart 7 sum22), (25, sumTab LStart 7 sum25), (13, sumTab LStart 7 sum13), (39, sumTab LStart 7 sum39)]) ⟨at11 h hr rfl, at15 h hr rfl, at14 h hr rfl, at10 h hr rfl, at32 h hr rfl, at23 h hr rfl, at31 h hr rfl, at30 h hr rfl, at29 h hr rfl, at22 h hr rfl, at25 h hr rfl, at13 h hr rfl, at39 h hr rfl, trivial⟩ rfl
end Go.Proofs.YtnhkiaadkkkjbaaDoor
