/- Alone: the runs of the Ops 45 to 59. No condition. -/
import Derived.Test.YtmickljjofbmiaaGreatDoorAOpS
set_option maxRecDepth 100000
namespace Go.Proofs.YtmickljjofbmiaaGreatDoor
theorem op_45:opRun 45=true:=by kernel_rfl
theorem op_46:opRun 46=true:=by kernel_rfl
theorem op_47:opRun 47=true:=by kernel_rfl
theorem op_48:opRun 48=true:=by kernel_rfl
theorem op_49:opRun 49=true:=by kernel_rfl
theorem op_50:opRun 50=true:=by kernel_rfl
theorem op_51:opRun 51=true:=by kernel_rfl
theorem op_52:opRun 52=true:=by kernel_rfl
theorem op_53:opRun 53=true:=by kernel_rfl
theorem op_54:opRun 54=true:=by kernel_rfl
theorem op_55:opRun 55=true:=by kernel_rfl
theorem op_56:opRun 56=true:=by kernel_rfl
theorem op_57:opRun 57=true:=by kernel_rfl
theorem op_58:opRun 58=true:=by kernel_rfl
theorem op_59:opRun 59=true:=by kernel_rfl
theorem ops3:OpsAll [45,46,47,48,49,50,51,52,53,54,55,56,57,58,59]:=⟨op_45,op_46,op_47,op_48,op_49,op_50,op_51,op_52,op_53,op_54,op_55,op_56,op_57,op_58,op_59,trivial⟩
end Go.Proofs.YtmickljjofbmiaaGreatDoor
