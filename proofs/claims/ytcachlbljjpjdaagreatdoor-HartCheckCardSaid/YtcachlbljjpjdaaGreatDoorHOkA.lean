/- The summaries hold. No condition. -/
import Derived.Test.YtcachlbljjpjdaaGreatDoorHSumA
import Derived.Test.YtcachlbljjpjdaaGreatDoorHDoor
namespace Go.Proofs.YtcachlbljjpjdaaGreatDoor
open Go Go.Proofs

theorem at104 {ro : Nat → Obj} (h : RoAll ro) {ρ : Env} (hr : ρ.ro = ro) {c : Cx} (hc : c.ng = 7) : SumAt Tryz.prog c ρ 104 (sumTab LStart 7 sum104) :=
  sumTab_ok (cx0 := cxD) mixed_door tt_ok ft_ok allD hc rfl LStart_lt (h ρ hr) Tryz.func104 sum104_ok
theorem all104 {ro : Nat → Obj} (h : RoAll ro) {ρ : Env} (hr : ρ.ro = ro) : SumOk Tryz.prog cx104 ρ :=
  smOf_okL (l := [(104, sumTab LStart 7 sum104)]) ⟨at104 h hr rfl, trivial⟩ rfl
theorem at101 {ro : Nat → Obj} (h : RoAll ro) {ρ : Env} (hr : ρ.ro = ro) {c : Cx} (hc : c.ng = 7) : SumAt Tryz.prog c ρ 101 (sumTab LStart 7 sum101) :=
  sumTab_ok (cx0 := cx104) mixed_door tt_ok ft_ok (all104 h hr) hc rfl LStart_lt (h ρ hr) Tryz.func101 sum101_ok
theorem all101 {ro : Nat → Obj} (h : RoAll ro) {ρ : Env} (hr : ρ.ro = ro) : SumOk Tryz.prog cx101 ρ :=
  smOf_okL (l := [(101, sumTab LStart 7 sum101), (104, sumTab LStart 7 sum104)]) ⟨at101 h hr rfl, at104 h hr rfl, trivial⟩ rfl
theorem at13 {ro : Nat → Obj} (h : RoAll ro) {ρ : Env} (hr : ρ.ro = ro) {c : Cx} (hc : c.ng = 7) : SumAt Tryz.prog c ρ 13 (sumTab LStart 7 sum13) :=
  sumTab_ok (cx0 := cx101) mixed_door tt_ok ft_ok (all101 h hr) hc rfl LStart_lt (h ρ hr) Tryz.func13 sum13_ok
theorem all13 {ro : Nat → Obj} (h : RoAll ro) {ρ : Env} (hr : ρ.ro = ro) : SumOk Tryz.prog cx13 ρ :=
  smOf_okL (l := [(13, sumTab LStart 7 sum13), (101, sumTab LStart 7 sum101), (104, sumTab LStart 7 sum104)]) ⟨at13 h hr rfl, at101 h hr rfl, at104 h hr rfl, trivial⟩ rfl
end Go.Proofs.YtcachlbljjpjdaaGreatDoor
