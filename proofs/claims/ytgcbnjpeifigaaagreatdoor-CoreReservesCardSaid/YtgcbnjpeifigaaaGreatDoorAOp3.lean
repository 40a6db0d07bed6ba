/- Alone: the runs of the Ops 45 to 59. No condition. -/
import Derived.Test.YtgcbnjpeifigaaaGreatDoorAOpS
set_option maxRecDepth 100000
namespace Go.Proofs.YtgcbnjpeifigaaaGreatDoor
theorem aqD:bf 45=true:=by kernel_rfl
theorem aqE:bf 46=true:=by kernel_rfl
theorem aqF:bf 47=true:=by kernel_rfl
theorem aqG:bf 48=true:=by kernel_rfl
theorem aqI:bf 49=true:=by kernel_rfl
theorem aqJ:bf 50=true:=by kernel_rfl
theorem aqK:bf 51=true:=by kernel_rfl
theorem aqL:bf 52=true:=by kernel_rfl
theorem aqM:bf 53=true:=by kernel_rfl
theorem aqN:bf 54=true:=by kernel_rfl
theorem aqO:bf 55=true:=by kernel_rfl
theorem aqP:bf 56=true:=by kernel_rfl
theorem aqQ:bf 57=true:=by kernel_rfl
theorem aqR:bf 58=true:=by kernel_rfl
theorem aqS:bf 59=true:=by kernel_rfl
theorem aum:px [45,46,47,48,49,50,51,52,53,54,55,56,57,58,59]:=⟨aqD,aqE,aqF,aqG,aqI,aqJ,aqK,aqL,aqM,aqN,aqO,aqP,aqQ,aqR,aqS,trivial⟩
end Go.Proofs.YtgcbnjpeifigaaaGreatDoor
