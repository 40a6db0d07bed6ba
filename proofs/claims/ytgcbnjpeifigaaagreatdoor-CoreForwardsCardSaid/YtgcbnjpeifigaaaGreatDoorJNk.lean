/- Alone: known(), by its run (printed by fprint). No condition. -/
import Derived.Test.YtgcbnjpeifigaaaGreatDoorJDoor
set_option maxRecDepth 100000
namespace Go.Proofs.YtgcbnjpeifigaaaGreatDoor
open Go Go.Proofs
def YC:List V:=[(.int .u32 (.lit 5243027))]
def YG:R Leaf:=(.ok {v:=(.tuple [(.agg [(.int .i64 (.lit 19)),(.int .i64 (.lit 1)),(.int .i64 (.lit 0)),(.int .i64 (.lit 0)),(.int .u32 (.lit 5)),(.bool (.lit 0)),(.bool (.lit 0))]),(.bool (.lit 1))]),objs:=[],n:=87})
def YD:List V:=[(.int .u32 (.lit 1056803))]
def YI:R Leaf:=(.ok {v:=(.tuple [(.agg [(.int .i64 (.lit 18)),(.int .i64 (.lit 0)),(.int .i64 (.lit 0)),(.int .i64 (.lit 1)),(.int .u32 (.lit 0)),(.bool (.lit 0)),(.bool (.lit 0))]),(.bool (.lit 1))]),objs:=[],n:=83})
def YE:List V:=[(.int .u32 (.lit 8451))]
def YJ:R Leaf:=(.ok {v:=(.tuple [(.agg [(.int .i64 (.lit 13)),(.int .i64 (.lit 2)),(.int .i64 (.lit 0)),(.int .i64 (.lit 0)),(.int .u32 (.lit 0)),(.bool (.lit 0)),(.bool (.lit 0))]),(.bool (.lit 1))]),objs:=[],n:=71})
def YB:List (List V×R Leaf):=[(YC,YG),(YD,YI),(YE,YJ)]
def YK:List V:=[]
def YM:R Leaf:=(.ok {v:=(.bool (.lit 1)),objs:=[],n:=1208})
def sQ:List (List V×R Leaf):=[(YK,YM)]
theorem YF:bM (jK []) aj 7 4000 120 YB:=aG (by kernel_rfl)
theorem YL:bM (jK [(120,bY aj 7 YB)]) aj 7 4000 10 sQ:=aG (by kernel_rfl)
theorem Zs{ro:Nat->Obj}(hro:aZ ro):aO ro [(10,bY aj 7 sQ),(120,bY aj 7 YB)]:=(aO.nil.Dy hro Tryz.func120 YF).Dy hro Tryz.func10 YL
end Go.Proofs.YtgcbnjpeifigaaaGreatDoor
