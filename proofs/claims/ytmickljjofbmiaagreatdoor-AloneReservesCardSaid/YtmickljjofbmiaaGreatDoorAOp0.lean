/- Alone: the runs of the Ops 0 to 14. No condition. -/
import Derived.Test.YtmickljjofbmiaaGreatDoorAOpS
set_option maxRecDepth 100000
namespace Go.Proofs.YtmickljjofbmiaaGreatDoor
theorem op_0:opRun 0=true:=by kernel_rfl
theorem op_1:opRun 1=true:=by kernel_rfl
theorem op_2:opRun 2=true:=by kernel_rfl
theorem op_3:opRun 3=true:=by kernel_rfl
theorem op_4:opRun 4=true:=by kernel_rfl
theorem op_5:opRun 5=true:=by kernel_rfl
theorem op_6:opRun 6=true:=by kernel_rfl
theorem op_7:opRun 7=true:=by kernel_rfl
theorem op_8:opRun 8=true:=by kernel_rfl
theorem op_9:opRun 9=true:=by kernel_rfl
theorem op_10:opRun 10=true:=by kernel_rfl
theorem op_11:opRun 11=true:=by kernel_rfl
theorem op_12:opRun 12=true:=by kernel_rfl
theorem op_13:opRun 13=true:=by kernel_rfl
theorem op_14:opRun 14=true:=by kernel_rfl
theorem ops0:OpsAll [0,1,2,3,4,5,6,7,8,9,10,11,12,13,14]:=⟨op_0,op_1,op_2,op_3,op_4,op_5,op_6,op_7,op_8,op_9,op_10,op_11,op_12,op_13,op_14,trivial⟩
end Go.Proofs.YtmickljjofbmiaaGreatDoor
