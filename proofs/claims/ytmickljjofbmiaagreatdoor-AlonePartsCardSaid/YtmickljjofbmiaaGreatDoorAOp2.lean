/- Alone: the runs of the Ops 30 to 44. No condition. -/
import Derived.Test.YtmickljjofbmiaaGreatDoorAOpS
set_option maxRecDepth 100000
namespace Go.Proofs.YtmickljjofbmiaaGreatDoor
theorem afn:aW 30=true:=by kernel_rfl
theorem afo:aW 31=true:=by kernel_rfl
theorem afp:aW 32=true:=by kernel_rfl
theorem afq:aW 33=true:=by kernel_rfl
theorem afr:aW 34=true:=by kernel_rfl
theorem afs:aW 35=true:=by kernel_rfl
theorem aft:aW 36=true:=by kernel_rfl
theorem afu:aW 37=true:=by kernel_rfl
theorem afv:aW 38=true:=by kernel_rfl
theorem afw:aW 39=true:=by kernel_rfl
theorem afx:aW 40=true:=by kernel_rfl
theorem afy:aW 41=true:=by kernel_rfl
theorem afz:aW 42=true:=by kernel_rfl
theorem afA:aW 43=true:=by kernel_rfl
theorem afB:aW 44=true:=by kernel_rfl
theorem amR:od [30,31,32,33,34,35,36,37,38,39,40,41,42,43,44]:=⟨afn,afo,afp,afq,afr,afs,aft,afu,afv,afw,afx,afy,afz,afA,afB,trivial⟩
end Go.Proofs.YtmickljjofbmiaaGreatDoor
