/- Alone: the runs of the Ops 15 to 29. No condition. -/
import Derived.Test.YtmickljjofbmiaaGreatDoorAOpS
set_option maxRecDepth 100000
namespace Go.Proofs.YtmickljjofbmiaaGreatDoor
theorem op_15:opRun 15=true:=by kernel_rfl
theorem op_16:opRun 16=true:=by kernel_rfl
theorem op_17:opRun 17=true:=by kernel_rfl
theorem op_18:opRun 18=true:=by kernel_rfl
theorem op_19:opRun 19=true:=by kernel_rfl
theorem op_20:opRun 20=true:=by kernel_rfl
theorem op_21:opRun 21=true:=by kernel_rfl
theorem op_22:opRun 22=true:=by kernel_rfl
theorem op_23:opRun 23=true:=by kernel_rfl
theorem op_24:opRun 24=true:=by kernel_rfl
theorem op_25:opRun 25=true:=by kernel_rfl
theorem op_26:opRun 26=true:=by kernel_rfl
theorem op_27:opRun 27=true:=by kernel_rfl
theorem op_28:opRun 28=true:=by kernel_rfl
theorem op_29:opRun 29=true:=by kernel_rfl
theorem ops1:OpsAll [15,16,17,18,19,20,21,22,23,24,25,26,27,28,29]:=⟨op_15,op_16,op_17,op_18,op_19,op_20,op_21,op_22,op_23,op_24,op_25,op_26,op_27,op_28,op_29,trivial⟩
end Go.Proofs.YtmickljjofbmiaaGreatDoor
