/- Alone: known(), by its run (printed by fprint). No condition. -/
import Derived.Test.YtmickljjofbmiaaGreatDoorADoor
set_option maxRecDepth 100000
namespace Go.Proofs.YtmickljjofbmiaaGreatDoor
open Go Go.Proofs
def sumKd_a0:List V:=[(.int .u32 (.lit 5243027))]
def sumKd_r0:R Leaf:=(.ok {v:=(.tuple [(.agg [(.int .i64 (.lit 19)),(.int .i64 (.lit 1)),(.int .i64 (.lit 0)),(.int .i64 (.lit 0)),(.int .u32 (.lit 5)),(.bool (.lit 0)),(.bool (.lit 0))]),(.bool (.lit 1))]),objs:=[],n:=87})
def sumKd_a1:List V:=[(.int .u32 (.lit 1056803))]
def sumKd_r1:R Leaf:=(.ok {v:=(.tuple [(.agg [(.int .i64 (.lit 18)),(.int .i64 (.lit 0)),(.int .i64 (.lit 0)),(.int .i64 (.lit 1)),(.int .u32 (.lit 0)),(.bool (.lit 0)),(.bool (.lit 0))]),(.bool (.lit 1))]),objs:=[],n:=83})
def sumKd_a2:List V:=[(.int .u32 (.lit 115))]
def sumKd_r2:R Leaf:=(.ok {v:=(.tuple [(.agg [(.int .i64 (.lit 39)),(.int .i64 (.lit 0)),(.int .i64 (.lit 0)),(.int .i64 (.lit 0)),(.int .u32 (.lit 0)),(.bool (.lit 0)),(.bool (.lit 0))]),(.bool (.lit 1))]),objs:=[],n:=133})
def sumKd:List (List V×R Leaf):=[(sumKd_a0,sumKd_r0),(sumKd_a1,sumKd_r1),(sumKd_a2,sumKd_r2)]
def sumKn_a0:List V:=[]
def sumKn_r0:R Leaf:=(.ok {v:=(.bool (.lit 1)),objs:=[],n:=1369})
def sumKn:List (List V×R Leaf):=[(sumKn_a0,sumKn_r0)]
theorem sumKd_ok:TabOk (cxL []) LStart 7 4000 79 sumKd:=rowsChk_ok (by kernel_rfl)
theorem sumKn_ok:TabOk (cxL [(79,sumTab LStart 7 sumKd)]) LStart 7 4000 8 sumKn:=rowsChk_ok (by kernel_rfl)
theorem atKn{ro:Nat→Obj}(hro:RoAll ro):AtAll ro [(8,sumTab LStart 7 sumKn),(79,sumTab LStart 7 sumKd)]:=(AtAll.nil.tab hro Tryz.func79 sumKd_ok).tab hro Tryz.func8 sumKn_ok
end Go.Proofs.YtmickljjofbmiaaGreatDoor
