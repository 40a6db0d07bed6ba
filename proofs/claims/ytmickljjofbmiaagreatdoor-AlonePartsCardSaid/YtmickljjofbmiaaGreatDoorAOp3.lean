/- Alone: the runs of the Ops 45 to 59. No condition. -/
import Derived.Test.YtmickljjofbmiaaGreatDoorAOpS
set_option maxRecDepth 100000
namespace Go.Proofs.YtmickljjofbmiaaGreatDoor
theorem afC:aW 45=true:=by kernel_rfl
theorem afD:aW 46=true:=by kernel_rfl
theorem afE:aW 47=true:=by kernel_rfl
theorem afF:aW 48=true:=by kernel_rfl
theorem afG:aW 49=true:=by kernel_rfl
theorem afI:aW 50=true:=by kernel_rfl
theorem afJ:aW 51=true:=by kernel_rfl
theorem afK:aW 52=true:=by kernel_rfl
theorem afL:aW 53=true:=by kernel_rfl
theorem afM:aW 54=true:=by kernel_rfl
theorem afN:aW 55=true:=by kernel_rfl
theorem afO:aW 56=true:=by kernel_rfl
theorem afP:aW 57=true:=by kernel_rfl
theorem afQ:aW 58=true:=by kernel_rfl
theorem afR:aW 59=true:=by kernel_rfl
theorem amS:od [45,46,47,48,49,50,51,52,53,54,55,56,57,58,59]:=⟨afC,afD,afE,afF,afG,afI,afJ,afK,afL,afM,afN,afO,afP,afQ,afR,trivial⟩
end Go.Proofs.YtmickljjofbmiaaGreatDoor
