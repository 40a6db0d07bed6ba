/- Alone: known(), by its run (printed by fprint). No condition. -/
import Derived.Test.YtmickljjofbmiaaGreatDoorADoor
set_option maxRecDepth 100000
namespace Go.Proofs.YtmickljjofbmiaaGreatDoor
open Go Go.Proofs
def Uk:List V:=[(.int .u32 (.lit 5243027))]
def Uo:R Leaf:=(.ok {v:=(.tuple [(.agg [(.int .i64 (.lit 19)),(.int .i64 (.lit 1)),(.int .i64 (.lit 0)),(.int .i64 (.lit 0)),(.int .u32 (.lit 5)),(.bool (.lit 0)),(.bool (.lit 0))]),(.bool (.lit 1))]),objs:=[],n:=87})
def Ul:List V:=[(.int .u32 (.lit 1056803))]
def Up:R Leaf:=(.ok {v:=(.tuple [(.agg [(.int .i64 (.lit 18)),(.int .i64 (.lit 0)),(.int .i64 (.lit 0)),(.int .i64 (.lit 1)),(.int .u32 (.lit 0)),(.bool (.lit 0)),(.bool (.lit 0))]),(.bool (.lit 1))]),objs:=[],n:=83})
def Um:List V:=[(.int .u32 (.lit 115))]
def Uq:R Leaf:=(.ok {v:=(.tuple [(.agg [(.int .i64 (.lit 39)),(.int .i64 (.lit 0)),(.int .i64 (.lit 0)),(.int .i64 (.lit 0)),(.int .u32 (.lit 0)),(.bool (.lit 0)),(.bool (.lit 0))]),(.bool (.lit 1))]),objs:=[],n:=133})
def Uj:List (List V×R Leaf):=[(Uk,Uo),(Ul,Up),(Um,Uq)]
def Ur:List V:=[]
def Ut:R Leaf:=(.ok {v:=(.bool (.lit 1)),objs:=[],n:=1369})
def Z0:List (List V×R Leaf):=[(Ur,Ut)]
theorem Un:bE (kf []) aj 7 4000 79 Uj:=aF (by kernel_rfl)
theorem Us:bE (kf [(79,bT aj 7 Uj)]) aj 7 4000 8 Z0:=aF (by kernel_rfl)
theorem aqy{ro:Nat→Obj}(hro:bx ro):aL ro [(8,bT aj 7 Z0),(79,bT aj 7 Uj)]:=(aL.nil.QO hro Tryz.func79 Un).QO hro Tryz.func8 Us
end Go.Proofs.YtmickljjofbmiaaGreatDoor
