/- The summaries hold. No condition. -/
import Derived.Test.YtkkfbmjelanjgaaDoorESum
import Derived.Test.YtkkfbmjelanjgaaDoorEDoor
namespace Go.Proofs.YtkkfbmjelanjgaaDoor
open Go Go.Proofs
theorem at26 {ro : Nat → Obj} (h : RoAll ro) {ρ : Env} (hr : ρ.ro = ro) {c : Cx} (hc : c.ng = 7) : SumAt Tryd.prog c ρ 26 (sumTab LStart 7 sum26) :=
 sumTab_ok (cx0 := cxD) mixed_door tt_ok ft_ok allD hc rfl LStart_lt (h ρ hr) Tryd.func26 sum26_ok
theorem all26 {ro : Nat → Obj} (h : RoAll ro) {ρ : Env} (hr : ρ.ro = ro) : SumOk Tryd.prog cx26 ρ :=
 smOf_okL (l := [(26, sumTab LStart 7 sum26)]) ⟨at26 h hr rfl, trivial⟩ rfl
theorem at23 {ro : Nat → Obj} (h : RoAll ro) {ρ : Env} (hr : ρ.ro = ro) {c : Cx} (hc : c.ng = 7) : SumAt Tryd.prog c ρ 23 (sumTab LStart 7 sum23) :=
 sumTab_ok (cx0 := cx26) mixed_door tt_ok ft_ok (all26 h hr) hc rfl LStart_lt (h ρ hr) Tryd.func23 sum23_ok
theorem all23 {ro : Nat → Obj} (h : RoAll ro) {ρ : Env} (hr : ρ.ro = ro) : SumOk Tryd.prog cx23 ρ :=
 smOf_okL (l := [(23, sumTab LStart 7 sum23), (26, sumTab LStart 7 sum26)]) ⟨at23 h hr rfl, at26 h hr rfl, trivial⟩ rfl
theorem at16 {ro : Nat → Obj} (h : RoAll ro) {ρ : Env} (hr : ρ.ro = ro) {c : Cx} (hc : c.ng = 7) : SumAt Tryd.prog c ρ 16 (sumTab LStart 7 sum16) :=
 sumTab_ok (cx0 := cx23) mixed_door tt_ok ft_ok (all23 h hr) hc rfl LStart_lt (h ρ hr) Tryd.func16 sum16_ok
theorem all16 {ro : Nat → Obj} (h : RoAll ro) {ρ : Env} (hr : ρ.ro = ro) : SumOk Tryd.prog cx16 ρ :=
 smOf_okL (l := [(16, sumTab LStart 7 sum16), (23, sumTab LStart 7 sum23), (26, sumTab LStart 7 sum26)]) ⟨at16 h hr rfl, at23 h hr rfl, at26 h hr rfl, trivial⟩ rfl
theorem at11 {ro : Nat → Obj} (h : RoAll ro) {ρ : Env} (hr : ρ.ro = ro) {c : Cx} (hc : c.ng = 7) : SumAt Tryd.prog c ρ 11 (sumTab LStart 7 sum11) :=
 sumTab_ok (cx0 := cx16) mixed_door tt_ok ft_ok (all16 h hr) hc rfl LStart_lt (h ρ hr) Tryd.func11 sum11_ok
theorem all11 {ro : Nat → Obj} (h : RoAll ro) {ρ : Env} (hr : ρ.ro = ro) : SumOk Tryd.prog cx11 ρ :=
 smOf_okL (l := [(11, sumTab LStart 7 sum11), (16, sumTab LStart 7 sum16), (23, sumTab LStart 7 sum23), (26, sumTab LStart 7 sum26)]) ⟨at11 h hr rfl, at16 h hr rfl, at23 h hr rfl, at26 h hr rfl, trivial⟩ rfl
theorem at13 {ro : Nat → Obj} (h : RoAll ro) {ρ : Env} (hr : ρ.ro = ro) {c : Cx} (hc : c.ng = 7) : SumAt Tryd.prog c ρ 13 (sumTab LStart 7 sum13) :=
 sumTab_ok (cx0 := cx11) mixed_door tt_ok ft_ok (all11 h hr) hc rfl LStart_lt (h ρ hr) Tryd.func13 sum13_ok
theorem all13 {ro : Nat → Obj} (h : RoAll ro) {ρ : Env} (hr : ρ.ro = ro) : SumOk Tryd.prog cx13 ρ :=
 smOf_okL (l := [(13, sumTab LStart 7 sum13), (11, sumTab LStart 7 sum11), (16, sumTab LStart 7 sum16), (23, sumTab LStart 7 sum23), (26, sumTab LStart 7 sum26)]) ⟨at13 h hr rfl, at11 h hr rfl, at16 h hr rfl, at23 h hr rfl, at26 h hr rfl, trivial⟩ rfl
theorem at14 {ro : Nat → Obj} (h : RoAll ro) {ρ : Env} (hr : ρ.ro = ro) {c : Cx} (hc : c.ng = 7) : SumAt Tryd.prog c ρ 14 (sumTab LStart 7 sum14) :=
 sumTab_ok (cx0 := cx13) mixed_door tt_ok ft_ok (all13 h hr) hc rfl LStart_lt (h ρ hr) Tryd.func14 sum14_ok
theorem all14 {ro : Nat → Obj} (h : RoAll ro) {ρ : Env} (hr : ρ.ro = ro) : SumOk Tryd.prog cx14 ρ :=
 smOf_okL (l := [(14, sumTab LStart 7 sum14), (13, sumTab LStart 7 sum13), (11, sumTab LStart 7 sum11), (16, sumTab LStart 7 sum16), (23, sumTab LStart 7 sum23), (26, sumTab LStart 7 sum26)]) ⟨at14 h hr rfl, at13 h hr rfl, at11 h hr rfl, at16 h hr rfl, at23 h hr rfl, at26 h hr rfl, trivial⟩ rfl
theorem at17 {ro : Nat → Obj} (h : RoAll ro) {ρ : Env} (hr : ρ.ro = ro) {c : Cx} (hc : c.ng = 7) : SumAt Tryd.prog c ρ 17 (sumTab LStart 7 sum17) :=
 sumTab_ok (cx0 := cx14) mixed_door tt_ok ft_ok (all14 h hr) hc rfl LStart_lt (h ρ hr) Tryd.func17 sum17_ok
theorem all17 {ro : Nat → Obj} (h : RoAll ro) {ρ : Env} (hr : ρ.ro = ro) : SumOk Tryd.prog cx17 ρ :=
 smOf_okL (l := [(17, sumTab LStart 7 sum17), (14, sumTab LStart 7 sum14), (13, sumTab LStart 7 sum13), (11, sumTab LStart 7 sum11), (16, sumTab LStart 7 sum16), (23, sumTab LStart 7 sum23), (26, sumTab LStart 7 sum26)]) ⟨at17 h hr rfl, at14 h hr rfl, at13 h hr rfl, at11 h hr rfl, at16 h hr rfl, at23 h hr rfl, at26 h hr rfl, trivial⟩ rfl
theorem at15 {ro : Nat → Obj} (h : RoAll ro) {ρ : Env} (hr : ρ.ro = ro) {c : Cx} (hc : c.ng = 7) : SumAt Tryd.prog c ρ 15 (sumPar LStart 7 sum15) :=
 sumPar_ok (cx0 := cx17) mixed_door tt_ok ft_ok (fun ρ' e => (all17 h (e.trans hr))) hc rfl LStart_lt (fun ρ' e => h ρ' (e.trans hr)) Tryd.func15 sum15_ok
theorem all15 {ro : Nat → Obj} (h : RoAll ro) {ρ : Env} (hr : ρ.ro = ro) : SumOk Tryd.prog cx15 ρ :=
 smOf_okL (l := [(15, sumPar LStart 7 sum15), (17, sumTab LStart 7 sum17), (14, sumTab LStart 7 sum14), (13, sumTab LStart 7 sum13), (11, sumTab LStart 7 sum11), (16, sumTab LStart 7 sum16), (23, sumTab LStart 7 sum23), (26, sumTab LStart 7 sum26)]) ⟨at15 h hr rfl, at17 h hr rfl, at14 h hr rfl, at13 h hr rfl, at11 h hr rfl, at16 h hr rfl, at23 h hr rfl, at26 h hr rfl, trivial⟩ rfl
theorem at20 {ro : Nat → Obj} (h : RoAll ro) {ρ : Env} (hr : ρ.ro = ro) {c : Cx} (hc : c.ng = 7) : SumAt Tryd.prog c ρ 20 (sumPar LStart 7 sum20) :=
 sumPar_ok (cx0 := cx15) mixed_door tt_ok ft_ok (fun ρ' e => (all15 h (e.trans hr))) hc rfl LStart_lt (fun ρ' e => h ρ' (e.trans hr)) Tryd.func20 sum20_ok
theorem all20 {ro : Nat → Obj} (h : RoAll ro) {ρ : Env} (hr : ρ.ro = ro) : SumOk Tryd.prog cx20 ρ :=
 smOf_okL (l := [(20, sumPar LStart 7 sum20), (15, sumPar LStart 7 sum15), (17, sumTab LStart 7 sum17), (14, sumTab LStart 7 sum14), (13, sumTab LStart 7 sum13), (11, sumTab LStart 7 sum11), (16, sumTab LStart 7 sum16), (23, sumTab LStart 7 sum23), (26, sumTab LStart 7 sum26)]) ⟨at20 h hr rfl, at15 h hr rfl, at17 h hr rfl, at14 h hr rfl, at13 h hr rfl, at11 h hr rfl, at16 h hr rfl, at23 h hr rfl, at26 h hr rfl, trivial⟩ rfl
theorem at4 {ro : Nat → Obj} (h : RoAll ro) {ρ : Env} (hr : ρ.ro = ro) {c : Cx} (hc : c.ng = 7) : SumAt Tryd.prog c ρ 4 (sumTab LStart 7 sum4) :=
 sumTab_ok (cx0 := cx20) mixed_door tt_ok ft_ok (all20 h hr) hc rfl LStart_lt (h ρ hr) Tryd.func4 sum4_ok
theorem all4 {ro : Nat → Obj} (h : RoAll ro) {ρ : Env} (hr : ρ.ro = ro) : SumOk Tryd.prog cx4 ρ :=
 smOf_okL (l := [(4, sumTab LStart 7 sum4), (20, sumPar LStart 7 sum20), (15, sumPar LStart 7 sum15), (17, sumTab LStart 7 sum17), (14, sumTab LStart 7 sum14), (13, sumTab LStart 7 sum13), (11, sumTab LStart 7 sum11), (16, sumTab LStart 7 sum16), (23, sumTab LStart 7 sum23), (26, sumTab LStart 7 sum26)]) ⟨at4 h hr rfl, at20 h hr rfl, at15 h hr rfl, at17 h hr rfl, at14 h hr rfl, at13 h hr rfl, at11 h hr rfl, at16 h hr rfl, at23 h hr rfl, at26 h hr rfl, trivial⟩ rfl
end Go.Proofs.YtkkfbmjelanjgaaDoor
