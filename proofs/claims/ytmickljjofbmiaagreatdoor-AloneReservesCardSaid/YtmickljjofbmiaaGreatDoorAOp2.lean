/- Alone: the runs of the Ops 30 to 44. No condition. -/
import Derived.Test.YtmickljjofbmiaaGreatDoorAOpS
set_option maxRecDepth 100000
namespace Go.Proofs.YtmickljjofbmiaaGreatDoor
theorem op_30:opRun 30=true:=by kernel_rfl
theorem op_31:opRun 31=true:=by kernel_rfl
theorem op_32:opRun 32=true:=by kernel_rfl
theorem op_33:opRun 33=true:=by kernel_rfl
theorem op_34:opRun 34=true:=by kernel_rfl
theorem op_35:opRun 35=true:=by kernel_rfl
theorem op_36:opRun 36=true:=by kernel_rfl
theorem op_37:opRun 37=true:=by kernel_rfl
theorem op_38:opRun 38=true:=by kernel_rfl
theorem op_39:opRun 39=true:=by kernel_rfl
theorem op_40:opRun 40=true:=by kernel_rfl
theorem op_41:opRun 41=true:=by kernel_rfl
theorem op_42:opRun 42=true:=by kernel_rfl
theorem op_43:opRun 43=true:=by kernel_rfl
theorem op_44:opRun 44=true:=by kernel_rfl
theorem ops2:OpsAll [30,31,32,33,34,35,36,37,38,39,40,41,42,43,44]:=⟨op_30,op_31,op_32,op_33,op_34,op_35,op_36,op_37,op_38,op_39,op_40,op_41,op_42,op_43,op_44,trivial⟩
end Go.Proofs.YtmickljjofbmiaaGreatDoor
