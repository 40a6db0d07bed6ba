/- Alone: known(), by its run (printed by fprint). No condition. -/
import Derived.Test.YtmickljjofbmiaaGreatDoorADoor
set_option maxRecDepth 100000
namespace Go.Proofs.YtmickljjofbmiaaGreatDoor
open Go Go.Proofs
def Wa:List V:=[(.int .u32 (.lit 5243027))]
def SB:R Leaf:=(.ok {v:=(.tuple [(.agg [(.int .i64 (.lit 19)),(.int .i64 (.lit 1)),(.int .i64 (.lit 0)),(.int .i64 (.lit 0)),(.int .u32 (.lit 5)),(.bool (.lit 0)),(.bool (.lit 0))]),(.bool (.lit 1))]),objs:=[],n:=87})
def Xb:List V:=[(.int .u32 (.lit 1056803))]
def Ud:R Leaf:=(.ok {v:=(.tuple [(.agg [(.int .i64 (.lit 18)),(.int .i64 (.lit 0)),(.int .i64 (.lit 0)),(.int .i64 (.lit 1)),(.int .u32 (.lit 0)),(.bool (.lit 0)),(.bool (.lit 0))]),(.bool (.lit 1))]),objs:=[],n:=83})
def VS:List V:=[(.int .u32 (.lit 115))]
def RC:R Leaf:=(.ok {v:=(.tuple [(.agg [(.int .i64 (.lit 39)),(.int .i64 (.lit 0)),(.int .i64 (.lit 0)),(.int .i64 (.lit 0)),(.int .u32 (.lit 0)),(.bool (.lit 0)),(.bool (.lit 0))]),(.bool (.lit 1))]),objs:=[],n:=133})
def TE:List (List V×R Leaf):=[(Wa,SB),(Xb,Ud),(VS,RC)]
def UM:List V:=[]
def WE:R Leaf:=(.ok {v:=(.bool (.lit 1)),objs:=[],n:=1369})
def W4:List (List V×R Leaf):=[(UM,WE)]
theorem T8:bG (kQ []) aj 7 4000 79 TE:=aE (by kernel_rfl)
theorem TV:bG (kQ [(79,bW aj 7 TE)]) aj 7 4000 8 W4:=aE (by kernel_rfl)
theorem anY{ro:Nat→Obj}(hro:aZ ro):aM ro [(8,bW aj 7 W4),(79,bW aj 7 TE)]:=(aM.nil.Rm hro Tryz.func79 T8).Rm hro Tryz.func8 TV
end Go.Proofs.YtmickljjofbmiaaGreatDoor
