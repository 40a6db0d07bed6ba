/- Alone: the runs of the Ops 0 to 14. No condition. -/
import Derived.Test.YtmickljjofbmiaaGreatDoorAOpS
set_option maxRecDepth 100000
namespace Go.Proofs.YtmickljjofbmiaaGreatDoor
theorem amE:aW 0=true:=by kernel_rfl
theorem amF:aW 1=true:=by kernel_rfl
theorem amG:aW 2=true:=by kernel_rfl
theorem amI:aW 3=true:=by kernel_rfl
theorem amJ:aW 4=true:=by kernel_rfl
theorem amK:aW 5=true:=by kernel_rfl
theorem amL:aW 6=true:=by kernel_rfl
theorem amM:aW 7=true:=by kernel_rfl
theorem amN:aW 8=true:=by kernel_rfl
theorem amO:aW 9=true:=by kernel_rfl
theorem ae2:aW 10=true:=by kernel_rfl
theorem ae3:aW 11=true:=by kernel_rfl
theorem ae4:aW 12=true:=by kernel_rfl
theorem ae5:aW 13=true:=by kernel_rfl
theorem ae6:aW 14=true:=by kernel_rfl
theorem amP:od [0,1,2,3,4,5,6,7,8,9,10,11,12,13,14]:=⟨amE,amF,amG,amI,amJ,amK,amL,amM,amN,amO,ae2,ae3,ae4,ae5,ae6,trivial⟩
end Go.Proofs.YtmickljjofbmiaaGreatDoor
