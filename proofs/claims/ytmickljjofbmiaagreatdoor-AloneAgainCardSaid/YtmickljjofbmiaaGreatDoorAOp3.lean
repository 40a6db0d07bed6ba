/- Alone: the runs of the Ops 45 to 59. No condition. -/
import Derived.Test.YtmickljjofbmiaaGreatDoorAOpS
set_option maxRecDepth 100000
namespace Go.Proofs.YtmickljjofbmiaaGreatDoor
theorem agV:aX 45=true:=by kernel_rfl
theorem ak4:aX 46=true:=by kernel_rfl
theorem akq:aX 47=true:=by kernel_rfl
theorem aii:aX 48=true:=by kernel_rfl
theorem amV:aX 49=true:=by kernel_rfl
theorem ajR:aX 50=true:=by kernel_rfl
theorem ai8:aX 51=true:=by kernel_rfl
theorem ami:aX 52=true:=by kernel_rfl
theorem alK:aX 53=true:=by kernel_rfl
theorem aj2:aX 54=true:=by kernel_rfl
theorem ald:aX 55=true:=by kernel_rfl
theorem al4:aX 56=true:=by kernel_rfl
theorem alU:aX 57=true:=by kernel_rfl
theorem ajJ:aX 58=true:=by kernel_rfl
theorem ala:aX 59=true:=by kernel_rfl
theorem aoo:pB [45,46,47,48,49,50,51,52,53,54,55,56,57,58,59]:=⟨agV,ak4,akq,aii,amV,ajR,ai8,ami,alK,aj2,ald,al4,alU,ajJ,ala,trivial⟩
end Go.Proofs.YtmickljjofbmiaaGreatDoor
