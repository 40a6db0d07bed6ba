/- The summaries hold. The summaries hold. The summaries hold. The summaries hold. The summaries hold. The summaries hold. The summaries hold. No condition. -/
import Derived.Test.YtcachlbljjpjdaaGreatDoorHSumA
import Derived.Test.YtcachlbljjpjdaaGreatDoorHDoor
import Derived.Test.YtcachlbljjpjdaaGreatDoorHSumC
import Derived.Test.YtcachlbljjpjdaaGreatDoorHSumM
import Derived.Test.YtcachlbljjpjdaaGreatDoorHSumD
import Derived.Test.YtcachlbljjpjdaaGreatDoorHSumS
namespace Go.Proofs.YtcachlbljjpjdaaGreatDoor
open Go Go.Proofs

theorem at104 {ro : Nat → Obj} (h : RoAll ro) {ρ : Env} (hr : ρ.ro = ro) {c : Cx} (hc : c.ng = 7) : SumAt Tryz.prog c ρ 104 (sumTab LStart 7 sum104) :=
  sumTab_ok (cx0 := cxD) mixed_door tt_ok ft_ok allD hc rfl LStart_lt (h ρ hr) Tryz.func104 sum104_ok
theorem all104 {ro : Nat → Obj} (h : RoAll ro) {ρ : Env} (hr : ρ.ro = ro) : SumOk Tryz.prog cx104 ρ :=
  smOf_okL (l := [(104, sumTab LStart 7 sum104)]) ⟨at104 h hr rfl, trivial⟩ rfl
theorem at101 {ro : Nat → Obj} (h : RoAll ro) {ρ : Env} (hr : ρ.ro = ro) {c : Cx} (hc : c.ng = 7) : SumAt Tryz.prog c ρ 101 (sumTab LStart 7 sum101) :=
  sumTab_ok (cx0 := cx104) mixed_door tt_ok ft_ok (all104 h hr) hc rfl LStart_lt (h ρ hr) Tryz.func101 sum101_ok
theorem all101 {ro : Nat → Obj} (h : RoAll ro) {ρ : Env} (hr : ρ.ro = ro) : SumOk Tryz.prog cx101 ρ :=
  smOf_okL (l := [(101, sumTab LStart 7 sum101), (104, sumTab LStart 7 sum104)]) ⟨at101 h hr rfl, at104 h hr rfl, trivial⟩ rfl
theorem at13 {ro : Nat → Obj} (h : RoAll ro) {ρ : Env} (hr : ρ.ro = ro) {c : Cx} (hc : c.ng = 7) : SumAt Tryz.prog c ρ 13 (sumTab LStart 7 sum13) :=
  sumTab_ok (cx0 := cx101) mixed_door tt_ok ft_ok (all101 h hr) hc rfl LStart_lt (h ρ hr) Tryz.func13 sum13_ok
theorem all13 {ro : Nat → Obj} (h : RoAll ro) {ρ : Env} (hr : ρ.ro = ro) : SumOk Tryz.prog cx13 ρ :=
  smOf_okL (l := [(13, sumTab LStart 7 sum13), (101, sumTab LStart 7 sum101), (104, sumTab LStart 7 sum104)]) ⟨at13 h hr rfl, at101 h hr rfl, at104 h hr rfl, trivial⟩ rfl
end Go.Proofs.YtcachlbljjpjdaaGreatDoor

namespace Go.Proofs.YtcachlbljjpjdaaGreatDoor
open Go Go.Proofs

theorem at47 {ro : Nat → Obj} (h : RoAll ro) {ρ : Env} (hr : ρ.ro = ro) {c : Cx} (hc : c.ng = 7) : SumAt Tryz.prog c ρ 47 (sumTab LStart 7 sum47) :=
  sumTab_ok (cx0 := cx13) mixed_door tt_ok ft_ok (all13 h hr) hc rfl LStart_lt (h ρ hr) Tryz.func47 sum47_ok
theorem all47 {ro : Nat → Obj} (h : RoAll ro) {ρ : Env} (hr : ρ.ro = ro) : SumOk Tryz.prog cx47 ρ :=
  smOf_okL (l := [(47, sumTab LStart 7 sum47), (13, sumTab LStart 7 sum13), (101, sumTab LStart 7 sum101), (104, sumTab LStart 7 sum104)]) ⟨at47 h hr rfl, at13 h hr rfl, at101 h hr rfl, at104 h hr rfl, trivial⟩ rfl
theorem at44 {ro : Nat → Obj} (h : RoAll ro) {ρ : Env} (hr : ρ.ro = ro) {c : Cx} (hc : c.ng = 7) : SumAt Tryz.prog c ρ 44 (sumTab LStart 7 sum44) :=
  sumTab_ok (cx0 := cx47) mixed_door tt_ok ft_ok (all47 h hr) hc rfl LStart_lt (h ρ hr) Tryz.func44 sum44_ok
theorem all44 {ro : Nat → Obj} (h : RoAll ro) {ρ : Env} (hr : ρ.ro = ro) : SumOk Tryz.prog cx44 ρ :=
  smOf_okL (l := [(44, sumTab LStart 7 sum44), (47, sumTab LStart 7 sum47), (13, sumTab LStart 7 sum13), (101, sumTab LStart 7 sum101), (104, sumTab LStart 7 sum104)]) ⟨at44 h hr rfl, at47 h hr rfl, at13 h hr rfl, at101 h hr rfl, at104 h hr rfl, trivial⟩ rfl
theorem at65 {ro : Nat → Obj} (h : RoAll ro) {ρ : Env} (hr : ρ.ro = ro) {c : Cx} (hc : c.ng = 7) : SumAt Tryz.prog c ρ 65 (sumTab LStart 7 sum65) :=
  sumTab_ok (cx0 := cx44) mixed_door tt_ok ft_ok (all44 h hr) hc rfl LStart_lt (h ρ hr) Tryz.func65 sum65_ok
theorem all65 {ro : Nat → Obj} (h : RoAll ro) {ρ : Env} (hr : ρ.ro = ro) : SumOk Tryz.prog cx65 ρ :=
  smOf_okL (l := [(65, sumTab LStart 7 sum65), (44, sumTab LStart 7 sum44), (47, sumTab LStart 7 sum47), (13, sumTab LStart 7 sum13), (101, sumTab LStart 7 sum101), (104, sumTab LStart 7 sum104)]) ⟨at65 h hr rfl, at44 h hr rfl, at47 h hr rfl, at13 h hr rfl, at101 h hr rfl, at104 h hr rfl, trivial⟩ rfl
theorem at66 {ro : Nat → Obj} (h : RoAll ro) {ρ : Env} (hr : ρ.ro = ro) {c : Cx} (hc : c.ng = 7) : SumAt Tryz.prog c ρ 66 (sumTab LStart 7 sum66) :=
  sumTab_ok (cx0 := cx65) mixed_door tt_ok ft_ok (all65 h hr) hc rfl LStart_lt (h ρ hr) Tryz.func66 sum66_ok
theorem all66 {ro : Nat → Obj} (h : RoAll ro) {ρ : Env} (hr : ρ.ro = ro) : SumOk Tryz.prog cx66 ρ :=
  smOf_okL (l := [(66, sumTab LStart 7 sum66), (65, sumTab LStart 7 sum65), (44, sumTab LStart 7 sum44), (47, sumTab LStart 7 sum47), (13, sumTab LStart 7 sum13), (101, sumTab LStart 7 sum101), (104, sumTab LStart 7 sum104)]) ⟨at66 h hr rfl, at65 h hr rfl, at44 h hr rfl, at47 h hr rfl, at13 h hr rfl, at101 h hr rfl, at104 h hr rfl, trivial⟩ rfl
theorem at67 {ro : Nat → Obj} (h : RoAll ro) {ρ : Env} (hr : ρ.ro = ro) {c : Cx} (hc : c.ng = 7) : SumAt Tryz.prog c ρ 67 (sumTab LStart 7 sum67) :=
  sumTab_ok (cx0 := cx66) mixed_door tt_ok ft_ok (all66 h hr) hc rfl LStart_lt (h ρ hr) Tryz.func67 sum67_ok
theorem all67 {ro : Nat → Obj} (h : RoAll ro) {ρ : Env} (hr : ρ.ro = ro) : SumOk Tryz.prog cx67 ρ :=
  smOf_okL (l := [(67, sumTab LStart 7 sum67), (66, sumTab LStart 7 sum66), (65, sumTab LStart 7 sum65), (44, sumTab LStart 7 sum44), (47, sumTab LStart 7 sum47), (13, sumTab LStart 7 sum13), (101, sumTab LStart 7 sum101), (104, sumTab LStart 7 sum104)]) ⟨at67 h hr rfl, at66 h hr rfl, at65 h hr rfl, at44 h hr rfl, at47 h hr rfl, at13 h hr rfl, at101 h hr rfl, at104 h hr rfl, trivial⟩ rfl
theorem at45 {ro : Nat → Obj} (h : RoAll ro) {ρ : Env} (hr : ρ.ro = ro) {c : Cx} (hc : c.ng = 7) : SumAt Tryz.prog c ρ 45 (sumPar LStart 7 sum45) :=
  sumPar_ok (cx0 := cx67) mixed_door tt_ok ft_ok (fun ρ' e => (all67 h (e.trans hr))) hc rfl LStart_lt (fun ρ' e => h ρ' (e.trans hr)) Tryz.func45 sum45_ok
theorem all45 {ro : Nat → Obj} (h : RoAll ro) {ρ : Env} (hr : ρ.ro = ro) : SumOk Tryz.prog cx45 ρ :=
  smOf_okL (l := [(45, sumPar LStart 7 sum45), (67, sumTab LStart 7 sum67), (66, sumTab LStart 7 sum66), (65, sumTab LStart 7 sum65), (44, sumTab LStart 7 sum44), (47, sumTab LStart 7 sum47), (13, sumTab LStart 7 sum13), (101, sumTab LStart 7 sum101), (104, sumTab LStart 7 sum104)]) ⟨at45 h hr rfl, at67 h hr rfl, at66 h hr rfl, at65 h hr rfl, at44 h hr rfl, at47 h hr rfl, at13 h hr rfl, at101 h hr rfl, at104 h hr rfl, trivial⟩ rfl
end Go.Proofs.YtcachlbljjpjdaaGreatDoor

namespace Go.Proofs.YtcachlbljjpjdaaGreatDoor
open Go Go.Proofs

theorem at40 {ro : Nat → Obj} (h : RoAll ro) {ρ : Env} (hr : ρ.ro = ro) {c : Cx} (hc : c.ng = 7) : SumAt Tryz.prog c ρ 40 (sumPar LStart 7 sum40) :=
  sumPar_ok (cx0 := cx45) mixed_door tt_ok ft_ok (fun ρ' e => (all45 h (e.trans hr))) hc rfl LStart_lt (fun ρ' e => h ρ' (e.trans hr)) Tryz.func40 sum40_ok
theorem all40 {ro : Nat → Obj} (h : RoAll ro) {ρ : Env} (hr : ρ.ro = ro) : SumOk Tryz.prog cx40 ρ :=
  smOf_okL (l := [(40, sumPar LStart 7 sum40), (45, sumPar LStart 7 sum45), (67, sumTab LStart 7 sum67), (66, sumTab LStart 7 sum66), (65, sumTab LStart 7 sum65), (44, sumTab LStart 7 sum44), (47, sumTab LStart 7 sum47), (13, sumTab LStart 7 sum13), (101, sumTab LStart 7 sum101), (104, sumTab LStart 7 sum104)]) ⟨at40 h hr rfl, at45 h hr rfl, at67 h hr rfl, at66 h hr rfl, at65 h hr rfl, at44 h hr rfl, at47 h hr rfl, at13 h hr rfl, at101 h hr rfl, at104 h hr rfl, trivial⟩ rfl
end Go.Proofs.YtcachlbljjpjdaaGreatDoor

namespace Go.Proofs.YtcachlbljjpjdaaGreatDoor
open Go Go.Proofs

theorem at48 {ro : Nat → Obj} (h : RoAll ro) {ρ : Env} (hr : ρ.ro = ro) {c : Cx} (hc : c.ng = 7) : SumAt Tryz.prog c ρ 48 (sumPar LStart 7 sum48) :=
  sumPar_ok (cx0 := cx40) mixed_door tt_ok ft_ok (fun ρ' e => (all40 h (e.trans hr))) hc rfl LStart_lt (fun ρ' e => h ρ' (e.trans hr)) Tryz.func48 sum48_ok
theorem all48 {ro : Nat → Obj} (h : RoAll ro) {ρ : Env} (hr : ρ.ro = ro) : SumOk Tryz.prog cx48 ρ :=
  smOf_okL (l := [(48, sumPar LStart 7 sum48), (40, sumPar LStart 7 sum40), (45, sumPar LStart 7 sum45), (67, sumTab LStart 7 sum67), (66, sumTab LStart 7 sum66), (65, sumTab LStart 7 sum65), (44, sumTab LStart 7 sum44), (47, sumTab LStart 7 sum47), (13, sumTab LStart 7 sum13), (101, sumTab LStart 7 sum101), (104, sumTab LStart 7 sum104)]) ⟨at48 h hr rfl, at40 h hr rfl, at45 h hr rfl, at67 h hr rfl, at66 h hr rfl, at65 h hr rfl, at44 h hr rfl, at47 h hr rfl, at13 h hr rfl, at101 h hr rfl, at104 h hr rfl, trivial⟩ rfl
end Go.Proofs.YtcachlbljjpjdaaGreatDoor

namespace Go.Proofs.YtcachlbljjpjdaaGreatDoor
open Go Go.Proofs

theorem at49 {ro : Nat → Obj} (h : RoAll ro) {ρ : Env} (hr : ρ.ro = ro) {c : Cx} (hc : c.ng = 7) : SumAt Tryz.prog c ρ 49 (sumPar LStart 7 sum49) :=
  sumPar_ok (cx0 := cx48) mixed_door tt_ok ft_ok (fun ρ' e => (all48 h (e.trans hr))) hc rfl LStart_lt (fun ρ' e => h ρ' (e.trans hr)) Tryz.func49 sum49_ok
theorem all49 {ro : Nat → Obj} (h : RoAll ro) {ρ : Env} (hr : ρ.ro = ro) : SumOk Tryz.prog cx49 ρ :=
  smOf_okL (l := [(49, sumPar LStart 7 sum49), (48, sumPar LStart 7 sum48), (40, sumPar LStart 7 sum40), (45, sumPar LStart 7 sum45), (67, sumTab LStart 7 sum67), (66, sumTab LStart 7 sum66), (65, sumTab LStart 7 sum65), (44, sumTab LStart 7 sum44), (47, sumTab LStart 7 sum47), (13, sumTab LStart 7 sum13), (101, sumTab LStart 7 sum101), (104, sumTab LStart 7 sum104)]) ⟨at49 h hr rfl, at48 h hr rfl, at40 h hr rfl, at45 h hr rfl, at67 h hr rfl, at66 h hr rfl, at65 h hr rfl, at44 h hr rfl, at47 h hr rfl, at13 h hr rfl, at101 h hr rfl, at104 h hr rfl, trivial⟩ rfl
end Go.Proofs.YtcachlbljjpjdaaGreatDoor

namespace Go.Proofs.YtcachlbljjpjdaaGreatDoor
open Go Go.Proofs

theorem at27 {ro : Nat → Obj} (h : RoAll ro) {ρ : Env} (hr : ρ.ro = ro) {c : Cx} (hc : c.ng = 7) : SumAt Tryz.prog c ρ 27 (sumPar LStart 7 sum27) :=
  sumPar_ok (cx0 := cx49) mixed_door tt_ok ft_ok (fun ρ' e => (all49 h (e.trans hr))) hc rfl LStart_lt (fun ρ' e => h ρ' (e.trans hr)) Tryz.func27 sum27_ok
theorem all27 {ro : Nat → Obj} (h : RoAll ro) {ρ : Env} (hr : ρ.ro = ro) : SumOk Tryz.prog cx27 ρ :=
  smOf_okL (l := [(27, sumPar LStart 7 sum27), (49, sumPar LStart 7 sum49), (48, sumPar LStart 7 sum48), (40, sumPar LStart 7 sum40), (45, sumPar LStart 7 sum45), (67, sumTab LStart 7 sum67), (66, sumTab LStart 7 sum66), (65, sumTab LStart 7 sum65), (44, sumTab LStart 7 sum44), (47, sumTab LStart 7 sum47), (13, sumTab LStart 7 sum13), (101, sumTab LStart 7 sum101), (104, sumTab LStart 7 sum104)]) ⟨at27 h hr rfl, at49 h hr rfl, at48 h hr rfl, at40 h hr rfl, at45 h hr rfl, at67 h hr rfl, at66 h hr rfl, at65 h hr rfl, at44 h hr rfl, at47 h hr rfl, at13 h hr rfl, at101 h hr rfl, at104 h hr rfl, trivial⟩ rfl
end Go.Proofs.YtcachlbljjpjdaaGreatDoor

namespace Go.Proofs.YtcachlbljjpjdaaGreatDoor
open Go Go.Proofs

theorem at37 {ro : Nat → Obj} (h : RoAll ro) {ρ : Env} (hr : ρ.ro = ro) {c : Cx} (hc : c.ng = 7) : SumAt Tryz.prog c ρ 37 (sumPar LStart 7 sum37) :=
  sumPar_ok (cx0 := { cx27 with mg := true }) mixed_door tt_ok ft_ok (fun ρ' e => (sum_flags (all27 h (e.trans hr)))) hc rfl LStart_lt (fun ρ' e => h ρ' (e.trans hr)) Tryz.func37 sum37_ok
theorem at88 {ro : Nat → Obj} (h : RoAll ro) {ρ : Env} (hr : ρ.ro = ro) {c : Cx} (hc : c.ng = 7) : SumAt Tryz.prog c ρ 88 (sumPar LStart 7 sum88) :=
  sumPar_ok (cx0 := { cx27 with mg := true }) mixed_door tt_ok ft_ok (fun ρ' e => (sum_flags (all27 h (e.trans hr)))) hc rfl LStart_lt (fun ρ' e => h ρ' (e.trans hr)) Tryz.func88 sum88_ok
theorem at96 {ro : Nat → Obj} (h : RoAll ro) {ρ : Env} (hr : ρ.ro = ro) {c : Cx} (hc : c.ng = 7) : SumAt Tryz.prog c ρ 96 (sumPar LStart 7 sum96) :=
  sumPar_ok (cx0 := { cx27 with mg := true }) mixed_door tt_ok ft_ok (fun ρ' e => (sum_flags (all27 h (e.trans hr)))) hc rfl LStart_lt (fun ρ' e => h ρ' (e.trans hr)) Tryz.func96 sum96_ok
theorem at97 {ro : Nat → Obj} (h : RoAll ro) {ρ : Env} (hr : ρ.ro = ro) {c : Cx} (hc : c.ng = 7) : SumAt Tryz.prog c ρ 97 (sumPar LStart 7 sum97) :=
  sumPar_ok (cx0 := { cx27 with mg := true }) mixed_door tt_ok ft_ok (fun ρ' e => (sum_flags (all27 h (e.trans hr)))) hc rfl LStart_lt (fun ρ' e => h ρ' (e.trans hr)) Tryz.func97 sum97_ok
theorem at98 {ro : Nat → Obj} (h : RoAll ro) {ρ : Env} (hr : ρ.ro = ro) {c : Cx} (hc : c.ng = 7) : SumAt Tryz.prog c ρ 98 (sumPar LStart 7 sum98) :=
  sumPar_ok (cx0 := { cx27 with mg := true }) mixed_door tt_ok ft_ok (fun ρ' e => (sum_flags (all27 h (e.trans hr)))) hc rfl LStart_lt (fun ρ' e => h ρ' (e.trans hr)) Tryz.func98 sum98_ok
theorem at99 {ro : Nat → Obj} (h : RoAll ro) {ρ : Env} (hr : ρ.ro = ro) {c : Cx} (hc : c.ng = 7) : SumAt Tryz.prog c ρ 99 (sumPar LStart 7 sum99) :=
  sumPar_ok (cx0 := { cx27 with mg := true }) mixed_door tt_ok ft_ok (fun ρ' e => (sum_flags (all27 h (e.trans hr)))) hc rfl LStart_lt (fun ρ' e => h ρ' (e.trans hr)) Tryz.func99 sum99_ok
theorem at33 {ro : Nat → Obj} (h : RoAll ro) {ρ : Env} (hr : ρ.ro = ro) {c : Cx} (hc : c.ng = 7) : SumAt Tryz.prog c ρ 33 (sumPar LStart 7 sum33) :=
  sumPar_ok (cx0 := { cx27 with mg := true }) mixed_door tt_ok ft_ok (fun ρ' e => (sum_flags (all27 h (e.trans hr)))) hc rfl LStart_lt (fun ρ' e => h ρ' (e.trans hr)) Tryz.func33 sum33_ok
theorem at79 {ro : Nat → Obj} (h : RoAll ro) {ρ : Env} (hr : ρ.ro = ro) {c : Cx} (hc : c.ng = 7) : SumAt Tryz.prog c ρ 79 (sumPar LStart 7 sum79) :=
  sumPar_ok (cx0 := { cx27 with mg := true }) mixed_door tt_ok ft_ok (fun ρ' e => (sum_flags (all27 h (e.trans hr)))) hc rfl LStart_lt (fun ρ' e => h ρ' (e.trans hr)) Tryz.func79 sum79_ok
theorem at80 {ro : Nat → Obj} (h : RoAll ro) {ρ : Env} (hr : ρ.ro = ro) {c : Cx} (hc : c.ng = 7) : SumAt Tryz.prog c ρ 80 (sumPar LStart 7 sum80) :=
  sumPar_ok (cx0 := { cx27 with mg := true }) mixed_door tt_ok ft_ok (fun ρ' e => (sum_flags (all27 h (e.trans hr)))) hc rfl LStart_lt (fun ρ' e => h ρ' (e.trans hr)) Tryz.func80 sum80_ok
theorem at83 {ro : Nat → Obj} (h : RoAll ro) {ρ : Env} (hr : ρ.ro = ro) {c : Cx} (hc : c.ng = 7) : SumAt Tryz.prog c ρ 83 (sumPar LStart 7 sum83) :=
  sumPar_ok (cx0 := { cx27 with mg := true }) mixed_door tt_ok ft_ok (fun ρ' e => (sum_flags (all27 h (e.trans hr)))) hc rfl LStart_lt (fun ρ' e => h ρ' (e.trans hr)) Tryz.func83 sum83_ok
theorem at84 {ro : Nat → Obj} (h : RoAll ro) {ρ : Env} (hr : ρ.ro = ro) {c : Cx} (hc : c.ng = 7) : SumAt Tryz.prog c ρ 84 (sumPar LStart 7 sum84) :=
  sumPar_ok (cx0 := { cx27 with mg := true }) mixed_door tt_ok ft_ok (fun ρ' e => (sum_flags (all27 h (e.trans hr)))) hc rfl LStart_lt (fun ρ' e => h ρ' (e.trans hr)) Tryz.func84 sum84_ok
theorem at85 {ro : Nat → Obj} (h : RoAll ro) {ρ : Env} (hr : ρ.ro = ro) {c : Cx} (hc : c.ng = 7) : SumAt Tryz.prog c ρ 85 (sumPar LStart 7 sum85) :=
  sumPar_ok (cx0 := { cx27 with mg := true }) mixed_door tt_ok ft_ok (fun ρ' e => (sum_flags (all27 h (e.trans hr)))) hc rfl LStart_lt (fun ρ' e => h ρ' (e.trans hr)) Tryz.func85 sum85_ok
theorem at86 {ro : Nat → Obj} (h : RoAll ro) {ρ : Env} (hr : ρ.ro = ro) {c : Cx} (hc : c.ng = 7) : SumAt Tryz.prog c ρ 86 (sumPar LStart 7 sum86) :=
  sumPar_ok (cx0 := { cx27 with mg := true }) mixed_door tt_ok ft_ok (fun ρ' e => (sum_flags (all27 h (e.trans hr)))) hc rfl LStart_lt (fun ρ' e => h ρ' (e.trans hr)) Tryz.func86 sum86_ok
theorem at87 {ro : Nat → Obj} (h : RoAll ro) {ρ : Env} (hr : ρ.ro = ro) {c : Cx} (hc : c.ng = 7) : SumAt Tryz.prog c ρ 87 (sumPar LStart 7 sum87) :=
  sumPar_ok (cx0 := { cx27 with mg := true }) mixed_door tt_ok ft_ok (fun ρ' e => (sum_flags (all27 h (e.trans hr)))) hc rfl LStart_lt (fun ρ' e => h ρ' (e.trans hr)) Tryz.func87 sum87_ok
theorem at74 {ro : Nat → Obj} (h : RoAll ro) {ρ : Env} (hr : ρ.ro = ro) {c : Cx} (hc : c.ng = 7) : SumAt Tryz.prog c ρ 74 (sumPar LStart 7 sum74) :=
  sumPar_ok (cx0 := { cx27 with mg := true }) mixed_door tt_ok ft_ok (fun ρ' e => (sum_flags (all27 h (e.trans hr)))) hc rfl LStart_lt (fun ρ' e => h ρ' (e.trans hr)) Tryz.func74 sum74_ok
theorem at76 {ro : Nat → Obj} (h : RoAll ro) {ρ : Env} (hr : ρ.ro = ro) {c : Cx} (hc : c.ng = 7) : SumAt Tryz.prog c ρ 76 (sumPar LStart 7 sum76) :=
  sumPar_ok (cx0 := { cx27 with mg := true }) mixed_door tt_ok ft_ok (fun ρ' e => (sum_flags (all27 h (e.trans hr)))) hc rfl LStart_lt (fun ρ' e => h ρ' (e.trans hr)) Tryz.func76 sum76_ok
theorem at78 {ro : Nat → Obj} (h : RoAll ro) {ρ : Env} (hr : ρ.ro = ro) {c : Cx} (hc : c.ng = 7) : SumAt Tryz.prog c ρ 78 (sumPar LStart 7 sum78) :=
  sumPar_ok (cx0 := { cx27 with mg := true }) mixed_door tt_ok ft_ok (fun ρ' e => (sum_flags (all27 h (e.trans hr)))) hc rfl LStart_lt (fun ρ' e => h ρ' (e.trans hr)) Tryz.func78 sum78_ok
theorem at56 {ro : Nat → Obj} (h : RoAll ro) {ρ : Env} (hr : ρ.ro = ro) {c : Cx} (hc : c.ng = 7) : SumAt Tryz.prog c ρ 56 (sumPar LStart 7 sum56) :=
  sumPar_ok (cx0 := { cx27 with mg := true }) mixed_door tt_ok ft_ok (fun ρ' e => (sum_flags (all27 h (e.trans hr)))) hc rfl LStart_lt (fun ρ' e => h ρ' (e.trans hr)) Tryz.func56 sum56_ok
theorem at61 {ro : Nat → Obj} (h : RoAll ro) {ρ : Env} (hr : ρ.ro = ro) {c : Cx} (hc : c.ng = 7) : SumAt Tryz.prog c ρ 61 (sumPar LStart 7 sum61) :=
  sumPar_ok (cx0 := { cx27 with mg := true }) mixed_door tt_ok ft_ok (fun ρ' e => (sum_flags (all27 h (e.trans hr)))) hc rfl LStart_lt (fun ρ' e => h ρ' (e.trans hr)) Tryz.func61 sum61_ok
theorem at36 {ro : Nat → Obj} (h : RoAll ro) {ρ : Env} (hr : ρ.ro = ro) {c : Cx} (hc : c.ng = 7) : SumAt Tryz.prog c ρ 36 (sumPar LStart 7 sum36) :=
  sumPar_ok (cx0 := { cx27 with mg := true }) mixed_door tt_ok ft_ok (fun ρ' e => (sum_flags (all27 h (e.trans hr)))) hc rfl LStart_lt (fun ρ' e => h ρ' (e.trans hr)) Tryz.func36 sum36_ok
theorem at59 {ro : Nat → Obj} (h : RoAll ro) {ρ : Env} (hr : ρ.ro = ro) {c : Cx} (hc : c.ng = 7) : SumAt Tryz.prog c ρ 59 (sumPar LStart 7 sum59) :=
  sumPar_ok (cx0 := { cx27 with mg := true }) mixed_door tt_ok ft_ok (fun ρ' e => (sum_flags (all27 h (e.trans hr)))) hc rfl LStart_lt (fun ρ' e => h ρ' (e.trans hr)) Tryz.func59 sum59_ok
theorem all59 {ro : Nat → Obj} (h : RoAll ro) {ρ : Env} (hr : ρ.ro = ro) : SumOk Tryz.prog cx59 ρ :=
  smOf_okL (l := [(59, sumPar LStart 7 sum59), (36, sumPar LStart 7 sum36), (61, sumPar LStart 7 sum61), (56, sumPar LStart 7 sum56), (78, sumPar LStart 7 sum78), (76, sumPar LStart 7 sum76), (74, sumPar LStart 7 sum74), (87, sumPar LStart 7 sum87), (86, sumPar LStart 7 sum86), (85, sumPar LStart 7 sum85), (84, sumPar LStart 7 sum84), (83, sumPar LStart 7 sum83), (80, sumPar LStart 7 sum80), (79, sumPar LStart 7 sum79), (33, sumPar LStart 7 sum33), (99, sumPar LStart 7 sum99), (98, sumPar LStart 7 sum98), (97, sumPar LStart 7 sum97), (96, sumPar LStart 7 sum96), (88, sumPar LStart 7 sum88), (37, sumPar LStart 7 sum37), (38, symU rowsHow 2), (91, symU [([], mkSarS)] 2), (90, symU [([], mkShrS)] 2), (89, symU [([], mkShlS)] 2), (95, symU [([], mkMulhuS)] 2), (82, symU [([], mkMulhsuS)] 2), (94, symU [([], mkMulhsuS)] 2), (81, symU [([], mkMulhS)] 2), (93, symU [([], mkMulhS)] 2), (92, symU [([], mkMulS)] 2), (27, sumPar LStart 7 sum27), (49, sumPar LStart 7 sum49), (48, sumPar LStart 7 sum48), (40, sumPar LStart 7 sum40), (45, sumPar LStart 7 sum45), (67, sumTab LStart 7 sum67), (66, sumTab LStart 7 sum66), (65, sumTab LStart 7 sum65), (44, sumTab LStart 7 sum44), (47, sumTab LStart 7 sum47), (13, sumTab LStart 7 sum13), (101, sumTab LStart 7 sum101), (104, sumTab LStart 7 sum104)]) ⟨at59 h hr rfl, at36 h hr rfl, at61 h hr rfl, at56 h hr rfl, at78 h hr rfl, at76 h hr rfl, at74 h hr rfl, at87 h hr rfl, at86 h hr rfl, at85 h hr rfl, at84 h hr rfl, at83 h hr rfl, at80 h hr rfl, at79 h hr rfl, at33 h hr rfl, at99 h hr rfl, at98 h hr rfl, at97 h hr rfl, at96 h hr rfl, at88 h hr rfl, at37 h hr rfl, at38 rfl, at91 rfl, at90 rfl, at89 rfl, at95 rfl, at82 rfl, at94 rfl, at81 rfl, at93 rfl, at92 rfl, at27 h hr rfl, at49 h hr rfl, at48 h hr rfl, at40 h hr rfl, at45 h hr rfl, at67 h hr rfl, at66 h hr rfl, at65 h hr rfl, at44 h hr rfl, at47 h hr rfl, at13 h hr rfl, at101 h hr rfl, at104 h hr rfl, trivial⟩ rfl
end Go.Proofs.YtcachlbljjpjdaaGreatDoor
