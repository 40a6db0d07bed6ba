/- Alone: the runs of the Ops 15 to 29. No condition. -/
import Derived.Test.YtmickljjofbmiaaGreatDoorAOpS
set_option maxRecDepth 100000
namespace Go.Proofs.YtmickljjofbmiaaGreatDoor
theorem ae7:aW 15=true:=by kernel_rfl
theorem ae8:aW 16=true:=by kernel_rfl
theorem ae9:aW 17=true:=by kernel_rfl
theorem afa:aW 18=true:=by kernel_rfl
theorem afb:aW 19=true:=by kernel_rfl
theorem afc:aW 20=true:=by kernel_rfl
theorem afd:aW 21=true:=by kernel_rfl
theorem afe:aW 22=true:=by kernel_rfl
theorem aff:aW 23=true:=by kernel_rfl
theorem afg:aW 24=true:=by kernel_rfl
theorem afi:aW 25=true:=by kernel_rfl
theorem afj:aW 26=true:=by kernel_rfl
theorem afk:aW 27=true:=by kernel_rfl
theorem afl:aW 28=true:=by kernel_rfl
theorem afm:aW 29=true:=by kernel_rfl
theorem amQ:od [15,16,17,18,19,20,21,22,23,24,25,26,27,28,29]:=⟨ae7,ae8,ae9,afa,afb,afc,afd,afe,aff,afg,afi,afj,afk,afl,afm,trivial⟩
end Go.Proofs.YtmickljjofbmiaaGreatDoor
