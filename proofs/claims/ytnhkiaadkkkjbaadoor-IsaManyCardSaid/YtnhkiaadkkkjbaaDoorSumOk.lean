/- The summaries hold. No condition. -/
import Derived.Test.YtnhkiaadkkkjbaaDoorSumC
import Derived.Test.YtnhkiaadkkkjbaaDoorDoorMet
namespace Go.Proofs.YtnhkiaadkkkjbaaDoor
open Go Go.Proofs

theorem at39 {ro : Nat → Obj} (h : RoAll ro) {ρ : Env} (hr : ρ.ro = ro) {c : Cx} (hc : c.ng = 7) : SumAt Tryd.prog c ρ 39 (sumTab LStart 7 sum39) :=
  sumTab_ok (cx0 := cx) mixed_door tt_ok ft_ok allcx hc rfl LStart_lt (h ρ hr) Tryd.func39 sum39_ok
theorem all39 {ro : Nat → Obj} (h : RoAll ro) {ρ : Env} (hr : ρ.ro = ro) : SumOk Tryd.prog cx39 ρ :=
  smOf_okL (l := [(39, sumTab LStart 7 sum39)]) ⟨at39 h hr rfl, trivial⟩ rfl
theorem at13 {ro : Nat → Obj} (h : RoAll ro) {ρ : Env} (hr : ρ.ro = ro) {c : Cx} (hc : c.ng = 7) : SumAt Tryd.prog c ρ 13 (sumTab LStart 7 sum13) :=
  sumTab_ok (cx0 := cx39) mixed_door tt_ok ft_ok (all39 h hr) hc rfl LStart_lt (h ρ hr) Tryd.func13 sum13_ok
theorem all13 {ro : Nat → Obj} (h : RoAll ro) {ρ : Env} (hr : ρ.ro = ro) : SumOk Tryd.prog cx13 ρ :=
  smOf_okL (l := [(13, sumTab LStart 7 sum13), (39, sumTab LStart 7 sum39)]) ⟨at13 h hr rfl, at39 h hr rfl, trivial⟩ rfl
theorem at25 {ro : Nat → Obj} (h : RoAll ro) {ρ : Env} (hr : ρ.ro = ro) {c : Cx} (hc : c.ng = 7) : SumAt Tryd.prog c ρ 25 (sumTab LStart 7 sum25) :=
  sumTab_ok (cx0 := cx13) mixed_door tt_ok ft_ok (all13 h hr) hc rfl LStart_lt (h ρ hr) Tryd.func25 sum25_ok
theorem all25 {ro : Nat → Obj} (h : RoAll ro) {ρ : Env} (hr : ρ.ro = ro) : SumOk Tryd.prog cx25 ρ :=
  smOf_okL (l := [(25, sumTab LStart 7 sum25), (13, sumTab LStart 7 sum13), (39, sumTab LStart 7 sum39)]) ⟨at25 h hr rfl, at13 h hr rfl, at39 h hr rfl, trivial⟩ rfl
theorem at22 {ro : Nat → Obj} (h : RoAll ro) {ρ : Env} (hr : ρ.ro = ro) {c : Cx} (hc : c.ng = 7) : SumAt Tryd.prog c ρ 22 (sumTab LStart 7 sum22) :=
  sumTab_ok (cx0 := cx25) mixed_door tt_ok ft_ok (all25 h hr) hc rfl LStart_lt (h ρ hr) Tryd.func22 sum22_ok
theorem all22 {ro : Nat → Obj} (h : RoAll ro) {ρ : Env} (hr : ρ.ro = ro) : SumOk Tryd.prog cx22 ρ :=
  smOf_okL (l := [(22, sumTab LStart 7 sum22), (25, sumTab LStart 7 sum25), (13, sumTab LStart 7 sum13), (39, sumTab LStart 7 sum39)]) ⟨at22 h hr rfl, at25 h hr rfl, at13 h hr rfl, at39 h hr rfl, trivial⟩ rfl
theorem at29 {ro : Nat → Obj} (h : RoAll ro) {ρ : Env} (hr : ρ.ro = ro) {c : Cx} (hc : c.ng = 7) : SumAt Tryd.prog c ρ 29 (sumTab LStart 7 sum29) :=
  sumTab_ok (cx0 := cx22) mixed_door tt_ok ft_ok (all22 h hr) hc rfl LStart_lt (h ρ hr) Tryd.func29 sum29_ok
theorem all29 {ro : Nat → Obj} (h : RoAll ro) {ρ : Env} (hr : ρ.ro = ro) : SumOk Tryd.prog cx29 ρ :=
  smOf_okL (l := [(29, sumTab LStart 7 sum29), (22, sumTab LStart 7 sum22), (25, sumTab LStart 7 sum25), (13, sumTab LStart 7 sum13), (39, sumTab LStart 7 sum39)]) ⟨at29 h hr rfl, at22 h hr rfl, at25 h hr rfl, at13 h hr rfl, at39 h hr rfl, trivial⟩ rfl
theorem at30 {ro : Nat → Obj} (h : RoAll ro) {ρ : Env} (hr : ρ.ro = ro) {c : Cx} (hc : c.ng = 7) : SumAt Tryd.prog c ρ 30 (sumTab LStart 7 sum30) :=
  sumTab_ok (cx0 := cx29) mixed_door tt_ok ft_ok (all29 h hr) hc rfl LStart_lt (h ρ hr) Tryd.func30 sum30_ok
theorem all30 {ro : Nat → Obj} (h : RoAll ro) {ρ : Env} (hr : ρ.ro = ro) : SumOk Tryd.prog cx30 ρ :=
  smOf_okL (l := [(30, sumTab LStart 7 sum30), (29, sumTab LStart 7 sum29), (22, sumTab LStart 7 sum22), (25, sumTab LStart 7 sum25), (13, sumTab LStart 7 sum13), (39, sumTab LStart 7 sum39)]) ⟨at30 h hr rfl, at29 h hr rfl, at22 h hr rfl, at25 h hr rfl, at13 h hr rfl, at39 h hr rfl, trivial⟩ rfl
theorem at31 {ro : Nat → Obj} (h : RoAll ro) {ρ : Env} (hr : ρ.ro = ro) {c : Cx} (hc : c.ng = 7) : SumAt Tryd.prog c ρ 31 (sumTab LStart 7 sum31) :=
  sumTab_ok (cx0 := cx30) mixed_door tt_ok ft_ok (all30 h hr) hc rfl LStart_lt (h ρ hr) Tryd.func31 sum31_ok
theorem all31 {ro : Nat → Obj} (h : RoAll ro) {ρ : Env} (hr : ρ.ro = ro) : SumOk Tryd.prog cx31 ρ :=
  smOf_okL (l := [(31, sumTab LStart 7 sum31), (30, sumTab LStart 7 sum30), (29, sumTab LStart 7 sum29), (22, sumTab LStart 7 sum22), (25, sumTab LStart 7 sum25), (13, sumTab LStart 7 sum13), (39, sumTab LStart 7 sum39)]) ⟨at31 h hr rfl, at30 h hr rfl, at29 h hr rfl, at22 h hr rfl, at25 h hr rfl, at13 h hr rfl, at39 h hr rfl, trivial⟩ rfl
theorem at23 {ro : Nat → Obj} (h : RoAll ro) {ρ : Env} (hr : ρ.ro = ro) {c : Cx} (hc : c.ng = 7) : SumAt Tryd.prog c ρ 23 (sumPar LStart 7 sum23) :=
  sumPar_ok (cx0 := cx31) mixed_door tt_ok ft_ok (fun ρ' e => all31 h (e.trans hr)) hc rfl LStart_lt (fun ρ' e => h ρ' (e.trans hr)) Tryd.func23 sum23_ok
theorem all23 {ro : Nat → Obj} (h : RoAll ro) {ρ : Env} (hr : ρ.ro = ro) : SumOk Tryd.prog cx23 ρ :=
  smOf_okL (l := [(23, sumPar LStart 7 sum23), (31, sumTab LStart 7 sum31), (30, sumTab LStart 7 sum30), (29, sumTab LStart 7 sum29), (22, sumTab LStart 7 sum22), (25, sumTab LStart 7 sum25), (13, sumTab LStart 7 sum13), (39, sumTab LStart 7 sum39)]) ⟨at23 h hr rfl, at31 h hr rfl, at30 h hr rfl, at29 h hr rfl, at22 h hr rfl, at25 h hr rfl, at13 h hr rfl, at39 h hr rfl, trivial⟩ rfl
theorem at32 {ro : Nat → Obj} (h : RoAll ro) {ρ : Env} (hr : ρ.ro = ro) {c : Cx} (hc : c.ng = 7) : SumAt Tryd.prog c ρ 32 (sumPar LStart 7 sum32) :=
  sumPar_ok (cx0 := cx23) mixed_door tt_ok ft_ok (fun ρ' e => all23 h (e.trans hr)) hc rfl LStart_lt (fun ρ' e => h ρ' (e.trans hr)) Tryd.func32 sum32_ok
theorem all32 {ro : Nat → Obj} (h : RoAll ro) {ρ : Env} (hr : ρ.ro = ro) : SumOk Tryd.prog cx32 ρ :=
  smOf_okL (l := [(32, sumPar LStart 7 sum32), (23, sumPar LStart 7 sum23), (31, sumTab LStart 7 sum31), (30, sumTab LStart 7 sum30), (29, sumTab LStart 7 sum29), (22, sumTab LStart 7 sum22), (25, sumTab LStart 7 sum25), (13, sumTab LStart 7 sum13), (39, sumTab LStart 7 sum39)]) ⟨at32 h hr rfl, at23 h hr rfl, at31 h hr rfl, at30 h hr rfl, at29 h hr rfl, at22 h hr rfl, at25 h hr rfl, at13 h hr rfl, at39 h hr rfl, trivial⟩ rfl
theorem at10 {ro : Nat → Obj} (h : RoAll ro) {ρ : Env} (hr : ρ.ro = ro) {c : Cx} (hc : c.ng = 7) : SumAt Tryd.prog c ρ 10 (sumPar LStart 7 sum10) :=
  sumPar_ok (cx0 := cx32) mixed_door tt_ok ft_ok (fun ρ' e => all32 h (e.trans hr)) hc rfl LStart_lt (fun ρ' e => h ρ' (e.trans hr)) Tryd.func10 sum10_ok
theorem all10 {ro : Nat → Obj} (h : RoAll ro) {ρ : Env} (hr : ρ.ro = ro) : SumOk Tryd.prog cx10 ρ :=
  smOf_okL (l := [(10, sumPar LStart 7 sum10), (32, sumPar LStart 7 sum32), (23, sumPar LStart 7 sum23), (31, sumTab LStart 7 sum31), (30, sumTab LStart 7 sum30), (29, sumTab LStart 7 sum29), (22, sumTab LStart 7 sum22), (25, sumTab LStart 7 sum25), (13, sumTab LStart 7 sum13), (39, sumTab LStart 7 sum39)]) ⟨at10 h hr rfl, at32 h hr rfl, at23 h hr rfl, at31 h hr rfl, at30 h hr rfl, at29 h hr rfl, at22 h hr rfl, at25 h hr rfl, at13 h hr rfl, at39 h hr rfl, trivial⟩ rfl
end Go.Proofs.YtnhkiaadkkkjbaaDoor
