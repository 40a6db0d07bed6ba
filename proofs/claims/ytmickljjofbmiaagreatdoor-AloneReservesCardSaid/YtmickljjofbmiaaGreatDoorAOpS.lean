/- What the Ops' meanings lean on leaves, by runs. Alone: the four calls of each Op, as runs. No condition. -/
import Derived.Test.YtmickljjofbmiaaGreatDoorABits
import Derived.Test.YtmickljjofbmiaaGreatDoorFwH
set_option maxRecDepth 100000
namespace Go.Proofs.YtmickljjofbmiaaGreatDoor
open Go Go.Proofs
set_option maxRecDepth 100000
def qops0:X:=.wrap .u32 (.var 0)
def qops1:V:=.int .u32 qops0
def qops2:X:=.wrap .u32 (.var 1)
def qops3:V:=.int .u32 qops2
def qops4:X:=.eq qops2 (.lit 0)
def qops5:X:=.wrap .i32 qops0
def qops6:X:=.rem qops2 (.lit (32))
def qops7:X:=.wrap .i64 (.var 0)
def qops8:V:=.int .i64 (.lit (1))
def qops9:V:=.int .i64 (.lit (2))
def sum31:List (List V×R Leaf):=[([qops1,qops3],(lf 7 (.int .u32 (.wrap .u32 (.add qops0 qops2)))))]
theorem sum31_ok:TabOk (cxMg (cxL slSy)) LStart 7 4000 31 sum31:=rowsChk_ok (by kernel_rfl)
noncomputable def sl31:SmL:=(31,sumPar LStart 7 sum31)::slSy
theorem ok31{ro:Nat→Obj}(h:RoAll ro):AtAll ro sl31:=AtAll.parM okSy h Tryz.func31 sum31_ok
def sum87:List (List V×R Leaf):=[([qops1,qops3],(lf 7 (.int .u32 (.wrap .u32 (.sub qops0 qops2)))))]
theorem sum87_ok:TabOk (cxMg (cxL sl31)) LStart 7 4000 87 sum87:=rowsChk_ok (by kernel_rfl)
noncomputable def sl87:SmL:=(87,sumPar LStart 7 sum87)::sl31
theorem ok87{ro:Nat→Obj}(h:RoAll ro):AtAll ro sl87:=AtAll.parM (ok31 h) h Tryz.func87 sum87_ok
def sum95:List (List V×R Leaf):=[([qops1,qops3],(lf 7 (.int .u32 (.ite qops4 (.lit 4294967295) (.wrap .u32 (.quo qops5 (.wrap .i32 qops2)))))))]
theorem sum95_ok:TabOk (cxMg (cxL sl87)) LStart 7 4000 95 sum95:=rowsChk_ok (by kernel_rfl)
noncomputable def sl95:SmL:=(95,sumPar LStart 7 sum95)::sl87
theorem ok95{ro:Nat→Obj}(h:RoAll ro):AtAll ro sl95:=AtAll.parM (ok87 h) h Tryz.func95 sum95_ok
def sum96:List (List V×R Leaf):=[([qops1,qops3],(lf 7 (.int .u32 (.ite qops4 (.lit 4294967295) (.wrap .u32 (.quo qops0 qops2))))))]
theorem sum96_ok:TabOk (cxMg (cxL sl95)) LStart 7 4000 96 sum96:=rowsChk_ok (by kernel_rfl)
noncomputable def sl96:SmL:=(96,sumPar LStart 7 sum96)::sl95
theorem ok96{ro:Nat→Obj}(h:RoAll ro):AtAll ro sl96:=AtAll.parM (ok95 h) h Tryz.func96 sum96_ok
def sum97:List (List V×R Leaf):=[([qops1,qops3],(lf 7 (.int .u32 (.ite qops4 qops0 (.wrap .u32 (.rem qops5 (.wrap .i32 qops2)))))))]
theorem sum97_ok:TabOk (cxMg (cxL sl96)) LStart 7 4000 97 sum97:=rowsChk_ok (by kernel_rfl)
noncomputable def sl97:SmL:=(97,sumPar LStart 7 sum97)::sl96
theorem ok97{ro:Nat→Obj}(h:RoAll ro):AtAll ro sl97:=AtAll.parM (ok96 h) h Tryz.func97 sum97_ok
def sum98:List (List V×R Leaf):=[([qops1,qops3],(lf 7 (.int .u32 (.ite qops4 qops0 (.rem qops0 qops2)))))]
theorem sum98_ok:TabOk (cxMg (cxL sl97)) LStart 7 4000 98 sum98:=rowsChk_ok (by kernel_rfl)
noncomputable def sl98:SmL:=(98,sumPar LStart 7 sum98)::sl97
theorem ok98{ro:Nat→Obj}(h:RoAll ro):AtAll ro sl98:=AtAll.parM (ok97 h) h Tryz.func98 sum98_ok
def sum50:List (List V×R Leaf):=[([qops1,qops3],(lf 7 (.int .u32 (.wrap .u32 (.add qops0 qops2)))))]
theorem sum50_ok:TabOk (cxMg (cxL sl98)) LStart 7 4000 50 sum50:=rowsChk_ok (by kernel_rfl)
noncomputable def sl50:SmL:=(50,sumPar LStart 7 sum50)::sl98
theorem ok50{ro:Nat→Obj}(h:RoAll ro):AtAll ro sl50:=AtAll.parM (ok98 h) h Tryz.func50 sum50_ok
def sum131:List (List V×R Leaf):=[([qops1,qops3],(lf 7 (.int .u32 (.wrap .u32 (.sub qops0 qops2)))))]
theorem sum131_ok:TabOk (cxMg (cxL sl50)) LStart 7 4000 131 sum131:=rowsChk_ok (by kernel_rfl)
noncomputable def sl131:SmL:=(131,sumPar LStart 7 sum131)::sl50
theorem ok131{ro:Nat→Obj}(h:RoAll ro):AtAll ro sl131:=AtAll.parM (ok50 h) h Tryz.func131 sum131_ok
def sum132:List (List V×R Leaf):=[([qops1,qops3],(lf 7 (.int .u32 (.wrap .u32 (.mul qops0 qops2)))))]
theorem sum132_ok:TabOk (cxMg (cxL sl131)) LStart 7 4000 132 sum132:=rowsChk_ok (by kernel_rfl)
noncomputable def sl132:SmL:=(132,sumPar LStart 7 sum132)::sl131
theorem ok132{ro:Nat→Obj}(h:RoAll ro):AtAll ro sl132:=AtAll.parM (ok131 h) h Tryz.func132 sum132_ok
def sum135:List (List V×R Leaf):=[([qops1,qops3],(lf 8 (.int .u32 (.quo (.mul qops0 qops2) (.lit 4294967296)))))]
theorem sum135_ok:TabOk (cxMg (cxL sl132)) LStart 7 4000 135 sum135:=rowsChk_ok (by kernel_rfl)
noncomputable def sl135:SmL:=(135,sumPar LStart 7 sum135)::sl132
theorem ok135{ro:Nat→Obj}(h:RoAll ro):AtAll ro sl135:=AtAll.parM (ok132 h) h Tryz.func135 sum135_ok
def sum136:List (List V×R Leaf):=[([qops1,qops3],(lf 7 (.int .u32 (.ite qops4 (.lit 4294967295) (.wrap .u32 (.quo qops5 (.wrap .i32 qops2)))))))]
theorem sum136_ok:TabOk (cxMg (cxL sl135)) LStart 7 4000 136 sum136:=rowsChk_ok (by kernel_rfl)
noncomputable def sl136:SmL:=(136,sumPar LStart 7 sum136)::sl135
theorem ok136{ro:Nat→Obj}(h:RoAll ro):AtAll ro sl136:=AtAll.parM (ok135 h) h Tryz.func136 sum136_ok
def sum137:List (List V×R Leaf):=[([qops1,qops3],(lf 7 (.int .u32 (.ite qops4 (.lit 4294967295) (.wrap .u32 (.quo qops0 qops2))))))]
theorem sum137_ok:TabOk (cxMg (cxL sl136)) LStart 7 4000 137 sum137:=rowsChk_ok (by kernel_rfl)
noncomputable def sl137:SmL:=(137,sumPar LStart 7 sum137)::sl136
theorem ok137{ro:Nat→Obj}(h:RoAll ro):AtAll ro sl137:=AtAll.parM (ok136 h) h Tryz.func137 sum137_ok
def sum138:List (List V×R Leaf):=[([qops1,qops3],(lf 7 (.int .u32 (.ite qops4 qops0 (.wrap .u32 (.rem qops5 (.wrap .i32 qops2)))))))]
theorem sum138_ok:TabOk (cxMg (cxL sl137)) LStart 7 4000 138 sum138:=rowsChk_ok (by kernel_rfl)
noncomputable def sl138:SmL:=(138,sumPar LStart 7 sum138)::sl137
theorem ok138{ro:Nat→Obj}(h:RoAll ro):AtAll ro sl138:=AtAll.parM (ok137 h) h Tryz.func138 sum138_ok
def sum139:List (List V×R Leaf):=[([qops1,qops3],(lf 7 (.int .u32 (.ite qops4 qops0 (.rem qops0 qops2)))))]
theorem sum139_ok:TabOk (cxMg (cxL sl138)) LStart 7 4000 139 sum139:=rowsChk_ok (by kernel_rfl)
noncomputable def sl139:SmL:=(139,sumPar LStart 7 sum139)::sl138
theorem ok139{ro:Nat→Obj}(h:RoAll ro):AtAll ro sl139:=AtAll.parM (ok138 h) h Tryz.func139 sum139_ok
def sum126:List (List V×R Leaf):=[([qops1,qops3],(lf 7 (.int .u32 (.shl .u32 qops0 qops6))))]
theorem sum126_ok:TabOk (cxMg (cxL sl139)) LStart 7 4000 126 sum126:=rowsChk_ok (by kernel_rfl)
noncomputable def sl126:SmL:=(126,sumPar LStart 7 sum126)::sl139
theorem ok126{ro:Nat→Obj}(h:RoAll ro):AtAll ro sl126:=AtAll.parM (ok139 h) h Tryz.func126 sum126_ok
def sum128:List (List V×R Leaf):=[([qops1,qops3],(lf 7 (.int .u32 (.shr .u32 qops0 qops6))))]
theorem sum128_ok:TabOk (cxMg (cxL sl126)) LStart 7 4000 128 sum128:=rowsChk_ok (by kernel_rfl)
noncomputable def sl128:SmL:=(128,sumPar LStart 7 sum128)::sl126
theorem ok128{ro:Nat→Obj}(h:RoAll ro):AtAll ro sl128:=AtAll.parM (ok126 h) h Tryz.func128 sum128_ok
def sum130:List (List V×R Leaf):=[([qops1,qops3],(lf 7 (.int .u32 (.wrap .u32 (.shr .i32 qops5 qops6)))))]
theorem sum130_ok:TabOk (cxMg (cxL sl128)) LStart 7 4000 130 sum130:=rowsChk_ok (by kernel_rfl)
noncomputable def sl130:SmL:=(130,sumPar LStart 7 sum130)::sl128
theorem ok130{ro:Nat→Obj}(h:RoAll ro):AtAll ro sl130:=AtAll.parM (ok128 h) h Tryz.func130 sum130_ok
def sum106:List (List V×R Leaf):=[([(.bool (.var 0))],(lf 7 (.int .u32 (.ite (.var 0) (.lit 1) (.lit 0)))))]
theorem sum106_ok:TabOk (cxMg (cxL sl130)) LStart 7 4000 106 sum106:=rowsChk_ok (by kernel_rfl)
noncomputable def sl106:SmL:=(106,sumPar LStart 7 sum106)::sl130
theorem ok106{ro:Nat→Obj}(h:RoAll ro):AtAll ro sl106:=AtAll.parM (ok130 h) h Tryz.func106 sum106_ok
def sum77:List (List V×R Leaf):=[([(.bool (.var 0))],(lf 7 (.int .u32 (.ite (.var 0) (.lit 1) (.lit 0)))))]
theorem sum77_ok:TabOk (cxMg (cxL sl106)) LStart 7 4000 77 sum77:=rowsChk_ok (by kernel_rfl)
noncomputable def sl77:SmL:=(77,sumPar LStart 7 sum77)::sl106
theorem ok77{ro:Nat→Obj}(h:RoAll ro):AtAll ro sl77:=AtAll.parM (ok106 h) h Tryz.func77 sum77_ok
def sum30:List (List V×R Leaf):=[([qops1],(lf 7 (.int .i64 qops5)))]
theorem sum30_ok:TabOk (cxMg (cxL sl77)) LStart 7 4000 30 sum30:=rowsChk_ok (by kernel_rfl)
noncomputable def sl30:SmL:=(30,sumPar LStart 7 sum30)::sl77
theorem ok30{ro:Nat→Obj}(h:RoAll ro):AtAll ro sl30:=AtAll.parM (ok77 h) h Tryz.func30 sum30_ok
def sum75:List (List V×R Leaf):=[([(.int .i64 qops7)],(lf 7 (.int .u32 (.ite (.lt qops7 (.lit 0)) (.wrap .u32 (.wrap .i64 (.add qops7 (.lit 4294967296)))) (.wrap .u32 qops7)))))]
theorem sum75_ok:TabOk (cxMg (cxL sl30)) LStart 7 4000 75 sum75:=rowsChk_ok (by kernel_rfl)
noncomputable def sl75:SmL:=(75,sumPar LStart 7 sum75)::sl30
theorem ok75{ro:Nat→Obj}(h:RoAll ro):AtAll ro sl75:=AtAll.parM (ok30 h) h Tryz.func75 sum75_ok
def sum104:List (List V×R Leaf):=[([],(.ok {v:=(.map 7),objs:=[(7,.map [((.int .i64 (.lit (19))),(.func (.func 50) [] [])),((.int .i64 (.lit (20))),(.func (.func 120) [] [])),((.int .i64 (.lit (21))),(.func (.func 121) [] [])),((.int .i64 (.lit (22))),(.func (.func 122) [] [])),((.int .i64 (.lit (23))),(.func (.func 123) [] [])),((.int .i64 (.lit (24))),(.func (.func 124) [] [])),((.int .i64 (.lit (25))),(.func (.func 125) [] [])),((.int .i64 (.lit (26))),(.func (.func 127) [] [])),((.int .i64 (.lit (27))),(.func (.func 129) [] [])),((.int .i64 (.lit (28))),(.func (.func 50) [] [])),((.int .i64 (.lit (29))),(.func (.func 131) [] [])),((.int .i64 (.lit (30))),(.func (.func 125) [] [])),((.int .i64 (.lit (31))),(.func (.func 120) [] [])),((.int .i64 (.lit (32))),(.func (.func 121) [] [])),((.int .i64 (.lit (33))),(.func (.func 122) [] [])),((.int .i64 (.lit (34))),(.func (.func 127) [] [])),((.int .i64 (.lit (35))),(.func (.func 129) [] [])),((.int .i64 (.lit (36))),(.func (.func 123) [] [])),((.int .i64 (.lit (37))),(.func (.func 124) [] [])),((.int .i64 (.lit (40))),(.func (.func 132) [] [])),((.int .i64 (.lit (41))),(.func (.func 133) [] [])),((.int .i64 (.lit (42))),(.func (.func 134) [] [])),((.int .i64 (.lit (43))),(.func (.func 135) [] [])),((.int .i64 (.lit (44))),(.func (.func 136) [] [])),((.int .i64 (.lit (45))),(.func (.func 137) [] [])),((.int .i64 (.lit (46))),(.func (.func 138) [] [])),((.int .i64 (.lit (47))),(.func (.func 139) [] []))])],n:=8}))]
theorem sum104_ok:TabOk (cxL sl75) LStart 7 4000 104 sum104:=rowsChk_ok (by kernel_rfl)
noncomputable def sl104:SmL:=(104,sumTab LStart 7 sum104)::sl75
theorem ok104{ro:Nat→Obj}(h:RoAll ro):AtAll ro sl104:=AtAll.tab (ok75 h) h Tryz.func104 sum104_ok
def sum103:List (List V×R Leaf):=[([],(.ok {v:=(.map 7),objs:=[(7,.map [((.int .i64 (.lit (5))),(.func (.func 116) [] [])),((.int .i64 (.lit (6))),(.func (.func 117) [] [])),((.int .i64 (.lit (7))),(.func (.func 51) [] [])),((.int .i64 (.lit (9))),(.func (.func 52) [] [])),((.int .i64 (.lit (8))),(.func (.func 118) [] [])),((.int .i64 (.lit (10))),(.func (.func 119) [] []))])],n:=8}))]
theorem sum103_ok:TabOk (cxL sl104) LStart 7 4000 103 sum103:=rowsChk_ok (by kernel_rfl)
noncomputable def sl103:SmL:=(103,sumTab LStart 7 sum103)::sl104
theorem ok103{ro:Nat→Obj}(h:RoAll ro):AtAll ro sl103:=AtAll.tab (ok104 h) h Tryz.func103 sum103_ok
def sum101:List (List V×R Leaf):=[([],(.ok {v:=(.map 7),objs:=[(7,.map [((.int .i64 (.lit (11))),qops8),((.int .i64 (.lit (12))),qops9),((.int .i64 (.lit (13))),(.int .i64 (.lit (4)))),((.int .i64 (.lit (14))),qops8),((.int .i64 (.lit (15))),qops9),((.int .i64 (.lit (16))),qops8),((.int .i64 (.lit (17))),qops9),((.int .i64 (.lit (18))),(.int .i64 (.lit (4))))])],n:=8}))]
theorem sum101_ok:TabOk (cxL sl103) LStart 7 4000 101 sum101:=rowsChk_ok (by kernel_rfl)
noncomputable def sl101:SmL:=(101,sumTab LStart 7 sum101)::sl103
theorem ok101{ro:Nat→Obj}(h:RoAll ro):AtAll ro sl101:=AtAll.tab (ok103 h) h Tryz.func101 sum101_ok
end Go.Proofs.YtmickljjofbmiaaGreatDoor
namespace Go.Proofs.YtmickljjofbmiaaGreatDoor
open Go Go.Proofs
noncomputable def slO(op:Nat):SmL:=(79,sumTab LStart 7 [([wordO],lf 1007 (instO op))])::(53,sumTab LStart 7 [([wordO],lf 1007 (instO op))])::sl101
noncomputable def cxO(op:Nat):Cx:={cx with dm:=dmH,sm:=smOf (slO op),sx:=true}
noncomputable def opRun(op:Nat):Bool:=comp (evT (cxO op) 4000).call LStart 7 100000 [(46,[hartO,wordO,sizeO]),(39,[hartO,wordO,sizeO]),(47,[hartO,wordO,sizeO,ansV]),(41,[hartO,wordO,sizeO,ansV])] [] pcO look4
def OpsAll:List Nat→Prop
 | []=>True
 | k::l=>opRun k=true∧OpsAll l
theorem OpsAll.mem:∀ {l:List Nat},OpsAll l→∀ k∈l,opRun k=true
 | [],_,k,hk=>by simp at hk
 | j::l,h,k,hk=>by
  rcases List.mem_cons.1 hk with rfl | hk
  ·exact h.1
  ·exact OpsAll.mem h.2 k hk
end Go.Proofs.YtmickljjofbmiaaGreatDoor
