/- What the Ops' meanings lean on leaves, by runs. Alone: the four calls of each Op, as runs. No condition. -/
import Derived.Test.YtmickljjofbmiaaGreatDoorABits
import Derived.Test.YtmickljjofbmiaaGreatDoorFwH
set_option maxRecDepth 100000
namespace Go.Proofs.YtmickljjofbmiaaGreatDoor
open Go Go.Proofs
set_option maxRecDepth 100000
def gU:X:=.wrap .u32 (.var 0)
def gV:V:=.int .u32 gU
def iZ:X:=.wrap .u32 (.var 1)
def ja:V:=.int .u32 iZ
def xq:X:=.eq iZ (.lit 0)
def CW:X:=.wrap .i32 gU
def S0:X:=.rem iZ (.lit (32))
def Oo:X:=.wrap .i64 (.var 0)
def S3:V:=.int .i64 (.lit (1))
def S4:V:=.int .i64 (.lit (2))
def ZK:List (List V×R Leaf):=[([gV,ja],(lf 7 (.int .u32 (.wrap .u32 (.add gU iZ)))))]
theorem TZ:bE (kg (kf acf)) aj 7 4000 31 ZK:=aF (by kernel_rfl)
noncomputable def abZ:j6:=(31,bS aj 7 ZK)::acf
theorem amm{ro:Nat→Obj}(h:bx ro):aL ro abZ:=aL.lh amD h Tryz.func31 TZ
def ZW:List (List V×R Leaf):=[([gV,ja],(lf 7 (.int .u32 (.wrap .u32 (.sub gU iZ)))))]
theorem Uc:bE (kg (kf abZ)) aj 7 4000 87 ZW:=aF (by kernel_rfl)
noncomputable def ab9:j6:=(87,bS aj 7 ZW)::abZ
theorem amy{ro:Nat→Obj}(h:bx ro):aL ro ab9:=aL.lh (amm h) h Tryz.func87 Uc
def ZX:List (List V×R Leaf):=[([gV,ja],(lf 7 (.int .u32 (.ite xq (.lit 4294967295) (.wrap .u32 (.quo CW (.wrap .i32 iZ)))))))]
theorem Ud:bE (kg (kf ab9)) aj 7 4000 95 ZX:=aF (by kernel_rfl)
noncomputable def aca:j6:=(95,bS aj 7 ZX)::ab9
theorem amz{ro:Nat→Obj}(h:bx ro):aL ro aca:=aL.lh (amy h) h Tryz.func95 Ud
def ZY:List (List V×R Leaf):=[([gV,ja],(lf 7 (.int .u32 (.ite xq (.lit 4294967295) (.wrap .u32 (.quo gU iZ))))))]
theorem Ue:bE (kg (kf aca)) aj 7 4000 96 ZY:=aF (by kernel_rfl)
noncomputable def acb:j6:=(96,bS aj 7 ZY)::aca
theorem amA{ro:Nat→Obj}(h:bx ro):aL ro acb:=aL.lh (amz h) h Tryz.func96 Ue
def ZZ:List (List V×R Leaf):=[([gV,ja],(lf 7 (.int .u32 (.ite xq gU (.wrap .u32 (.rem CW (.wrap .i32 iZ)))))))]
theorem Uf:bE (kg (kf acb)) aj 7 4000 97 ZZ:=aF (by kernel_rfl)
noncomputable def acd:j6:=(97,bS aj 7 ZZ)::acb
theorem amB{ro:Nat→Obj}(h:bx ro):aL ro acd:=aL.lh (amA h) h Tryz.func97 Uf
def Zh:List (List V×R Leaf):=[([gV,ja],(lf 7 (.int .u32 (.ite xq gU (.rem gU iZ)))))]
theorem Ug:bE (kg (kf acd)) aj 7 4000 98 Zh:=aF (by kernel_rfl)
noncomputable def ace:j6:=(98,bS aj 7 Zh)::acd
theorem amC{ro:Nat→Obj}(h:bx ro):aL ro ace:=aL.lh (amB h) h Tryz.func98 Ug
def ZL:List (List V×R Leaf):=[([gV,ja],(lf 7 (.int .u32 (.wrap .u32 (.add gU iZ)))))]
theorem Th:bE (kg (kf ace)) aj 7 4000 50 ZL:=aF (by kernel_rfl)
noncomputable def abh:j6:=(50,bS aj 7 ZL)::ace
theorem amn{ro:Nat→Obj}(h:bx ro):aL ro abh:=aL.lh (amC h) h Tryz.func50 Th
def TR:List (List V×R Leaf):=[([gV,ja],(lf 7 (.int .u32 (.wrap .u32 (.sub gU iZ)))))]
theorem Qv:bE (kg (kf abh)) aj 7 4000 131 TR:=aF (by kernel_rfl)
noncomputable def Tt:j6:=(131,bS aj 7 TR)::abh
theorem aeU{ro:Nat→Obj}(h:bx ro):aL ro Tt:=aL.lh (amn h) h Tryz.func131 Qv
def TS:List (List V×R Leaf):=[([gV,ja],(lf 7 (.int .u32 (.wrap .u32 (.mul gU iZ)))))]
theorem Qw:bE (kg (kf Tt)) aj 7 4000 132 TS:=aF (by kernel_rfl)
noncomputable def Tu:j6:=(132,bS aj 7 TS)::Tt
theorem aeV{ro:Nat→Obj}(h:bx ro):aL ro Tu:=aL.lh (aeU h) h Tryz.func132 Qw
def TT:List (List V×R Leaf):=[([gV,ja],(lf 8 (.int .u32 (.quo (.mul gU iZ) (.lit 4294967296)))))]
theorem Qx:bE (kg (kf Tu)) aj 7 4000 135 TT:=aF (by kernel_rfl)
noncomputable def Tv:j6:=(135,bS aj 7 TT)::Tu
theorem aeW{ro:Nat→Obj}(h:bx ro):aL ro Tv:=aL.lh (aeV h) h Tryz.func135 Qx
def TU:List (List V×R Leaf):=[([gV,ja],(lf 7 (.int .u32 (.ite xq (.lit 4294967295) (.wrap .u32 (.quo CW (.wrap .i32 iZ)))))))]
theorem Qy:bE (kg (kf Tv)) aj 7 4000 136 TU:=aF (by kernel_rfl)
noncomputable def Tw:j6:=(136,bS aj 7 TU)::Tv
theorem aeX{ro:Nat→Obj}(h:bx ro):aL ro Tw:=aL.lh (aeW h) h Tryz.func136 Qy
def TV:List (List V×R Leaf):=[([gV,ja],(lf 7 (.int .u32 (.ite xq (.lit 4294967295) (.wrap .u32 (.quo gU iZ))))))]
theorem Qz:bE (kg (kf Tw)) aj 7 4000 137 TV:=aF (by kernel_rfl)
noncomputable def Tx:j6:=(137,bS aj 7 TV)::Tw
theorem aeY{ro:Nat→Obj}(h:bx ro):aL ro Tx:=aL.lh (aeX h) h Tryz.func137 Qz
def TW:List (List V×R Leaf):=[([gV,ja],(lf 7 (.int .u32 (.ite xq gU (.wrap .u32 (.rem CW (.wrap .i32 iZ)))))))]
theorem QA:bE (kg (kf Tx)) aj 7 4000 138 TW:=aF (by kernel_rfl)
noncomputable def Ty:j6:=(138,bS aj 7 TW)::Tx
theorem aeZ{ro:Nat→Obj}(h:bx ro):aL ro Ty:=aL.lh (aeY h) h Tryz.func138 QA
def TX:List (List V×R Leaf):=[([gV,ja],(lf 7 (.int .u32 (.ite xq gU (.rem gU iZ)))))]
theorem QB:bE (kg (kf Ty)) aj 7 4000 139 TX:=aF (by kernel_rfl)
noncomputable def Tz:j6:=(139,bS aj 7 TX)::Ty
theorem aeh{ro:Nat→Obj}(h:bx ro):aL ro Tz:=aL.lh (aeZ h) h Tryz.func139 QB
def TO:List (List V×R Leaf):=[([gV,ja],(lf 7 (.int .u32 (.shl .u32 gU S0))))]
theorem Qs:bE (kg (kf Tz)) aj 7 4000 126 TO:=aF (by kernel_rfl)
noncomputable def Tp:j6:=(126,bS aj 7 TO)::Tz
theorem aeR{ro:Nat→Obj}(h:bx ro):aL ro Tp:=aL.lh (aeh h) h Tryz.func126 Qs
def TP:List (List V×R Leaf):=[([gV,ja],(lf 7 (.int .u32 (.shr .u32 gU S0))))]
theorem Qt:bE (kg (kf Tp)) aj 7 4000 128 TP:=aF (by kernel_rfl)
noncomputable def Tq:j6:=(128,bS aj 7 TP)::Tp
theorem aeS{ro:Nat→Obj}(h:bx ro):aL ro Tq:=aL.lh (aeR h) h Tryz.func128 Qt
def TQ:List (List V×R Leaf):=[([gV,ja],(lf 7 (.int .u32 (.wrap .u32 (.shr .i32 CW S0)))))]
theorem Qu:bE (kg (kf Tq)) aj 7 4000 130 TQ:=aF (by kernel_rfl)
noncomputable def Ts:j6:=(130,bS aj 7 TQ)::Tq
theorem aeT{ro:Nat→Obj}(h:bx ro):aL ro Ts:=aL.lh (aeS h) h Tryz.func130 Qu
def TL:List (List V×R Leaf):=[([(.bool (.var 0))],(lf 7 (.int .u32 (.ite (.var 0) (.lit 1) (.lit 0)))))]
theorem Qp:bE (kg (kf Ts)) aj 7 4000 106 TL:=aF (by kernel_rfl)
noncomputable def Tl:j6:=(106,bS aj 7 TL)::Ts
theorem aeO{ro:Nat→Obj}(h:bx ro):aL ro Tl:=aL.lh (aeT h) h Tryz.func106 Qp
def ZS:List (List V×R Leaf):=[([(.bool (.var 0))],(lf 7 (.int .u32 (.ite (.var 0) (.lit 1) (.lit 0)))))]
theorem T8:bE (kg (kf Tl)) aj 7 4000 77 ZS:=aF (by kernel_rfl)
noncomputable def ab5:j6:=(77,bS aj 7 ZS)::Tl
theorem amu{ro:Nat→Obj}(h:bx ro):aL ro ab5:=aL.lh (aeO h) h Tryz.func77 T8
def ZJ:List (List V×R Leaf):=[([gV],(lf 7 (.int .i64 CW)))]
theorem TY:bE (kg (kf ab5)) aj 7 4000 30 ZJ:=aF (by kernel_rfl)
noncomputable def abY:j6:=(30,bS aj 7 ZJ)::ab5
theorem aml{ro:Nat→Obj}(h:bx ro):aL ro abY:=aL.lh (amu h) h Tryz.func30 TY
def ZR:List (List V×R Leaf):=[([(.int .i64 Oo)],(lf 7 (.int .u32 (.ite (.lt Oo (.lit 0)) (.wrap .u32 (.wrap .i64 (.add Oo (.lit 4294967296)))) (.wrap .u32 Oo)))))]
theorem T7:bE (kg (kf abY)) aj 7 4000 75 ZR:=aF (by kernel_rfl)
noncomputable def ab4:j6:=(75,bS aj 7 ZR)::abY
theorem amt{ro:Nat→Obj}(h:bx ro):aL ro ab4:=aL.lh (aml h) h Tryz.func75 T7
def TK:List (List V×R Leaf):=[([],(.ok {v:=(.map 7),objs:=[(7,.map [((.int .i64 (.lit (19))),(.func (.func 50) [] [])),((.int .i64 (.lit (20))),(.func (.func 120) [] [])),((.int .i64 (.lit (21))),(.func (.func 121) [] [])),((.int .i64 (.lit (22))),(.func (.func 122) [] [])),((.int .i64 (.lit (23))),(.func (.func 123) [] [])),((.int .i64 (.lit (24))),(.func (.func 124) [] [])),((.int .i64 (.lit (25))),(.func (.func 125) [] [])),((.int .i64 (.lit (26))),(.func (.func 127) [] [])),((.int .i64 (.lit (27))),(.func (.func 129) [] [])),((.int .i64 (.lit (28))),(.func (.func 50) [] [])),((.int .i64 (.lit (29))),(.func (.func 131) [] [])),((.int .i64 (.lit (30))),(.func (.func 125) [] [])),((.int .i64 (.lit (31))),(.func (.func 120) [] [])),((.int .i64 (.lit (32))),(.func (.func 121) [] [])),((.int .i64 (.lit (33))),(.func (.func 122) [] [])),((.int .i64 (.lit (34))),(.func (.func 127) [] [])),((.int .i64 (.lit (35))),(.func (.func 129) [] [])),((.int .i64 (.lit (36))),(.func (.func 123) [] [])),((.int .i64 (.lit (37))),(.func (.func 124) [] [])),((.int .i64 (.lit (40))),(.func (.func 132) [] [])),((.int .i64 (.lit (41))),(.func (.func 133) [] [])),((.int .i64 (.lit (42))),(.func (.func 134) [] [])),((.int .i64 (.lit (43))),(.func (.func 135) [] [])),((.int .i64 (.lit (44))),(.func (.func 136) [] [])),((.int .i64 (.lit (45))),(.func (.func 137) [] [])),((.int .i64 (.lit (46))),(.func (.func 138) [] [])),((.int .i64 (.lit (47))),(.func (.func 139) [] []))])],n:=8}))]
theorem Qo:bE (kf ab4) aj 7 4000 104 TK:=aF (by kernel_rfl)
noncomputable def Tk:j6:=(104,bT aj 7 TK)::ab4
theorem aeN{ro:Nat→Obj}(h:bx ro):aL ro Tk:=aL.QO (amt h) h Tryz.func104 Qo
def TJ:List (List V×R Leaf):=[([],(.ok {v:=(.map 7),objs:=[(7,.map [((.int .i64 (.lit (5))),(.func (.func 116) [] [])),((.int .i64 (.lit (6))),(.func (.func 117) [] [])),((.int .i64 (.lit (7))),(.func (.func 51) [] [])),((.int .i64 (.lit (9))),(.func (.func 52) [] [])),((.int .i64 (.lit (8))),(.func (.func 118) [] [])),((.int .i64 (.lit (10))),(.func (.func 119) [] []))])],n:=8}))]
theorem Qn:bE (kf Tk) aj 7 4000 103 TJ:=aF (by kernel_rfl)
noncomputable def Tj:j6:=(103,bT aj 7 TJ)::Tk
theorem aeM{ro:Nat→Obj}(h:bx ro):aL ro Tj:=aL.QO (aeN h) h Tryz.func103 Qn
def TI:List (List V×R Leaf):=[([],(.ok {v:=(.map 7),objs:=[(7,.map [((.int .i64 (.lit (11))),S3),((.int .i64 (.lit (12))),S4),((.int .i64 (.lit (13))),(.int .i64 (.lit (4)))),((.int .i64 (.lit (14))),S3),((.int .i64 (.lit (15))),S4),((.int .i64 (.lit (16))),S3),((.int .i64 (.lit (17))),S4),((.int .i64 (.lit (18))),(.int .i64 (.lit (4))))])],n:=8}))]
theorem Qm:bE (kf Tj) aj 7 4000 101 TI:=aF (by kernel_rfl)
noncomputable def Ti:j6:=(101,bT aj 7 TI)::Tj
theorem ZB{ro:Nat→Obj}(h:bx ro):aL ro Ti:=aL.QO (aeM h) h Tryz.func101 Qm
end Go.Proofs.YtmickljjofbmiaaGreatDoor
namespace Go.Proofs.YtmickljjofbmiaaGreatDoor
open Go Go.Proofs
noncomputable def slO(op:Nat):j6:=(79,bT aj 7 [([n4],lf 1007 (tu op))])::(53,bT aj 7 [([n4],lf 1007 (tu op))])::Ti
noncomputable def cxO(op:Nat):Cx:={cx with dm:=XW,sm:=BA (slO op),sx:=true}
noncomputable def aW(op:Nat):Bool:=comp (X1 (cxO op) 4000).call aj 7 100000 [(46,[tp,n4,xD]),(39,[tp,n4,xD]),(47,[tp,n4,xD,Q2]),(41,[tp,n4,xD,Q2])] [] pcO NF
def od:List Nat→Prop
 | []=>True
 | k::l=>aW k=true∧od l
theorem od.mem:∀ {l:List Nat},od l→∀ k∈l,aW k=true
 | [],_,k,hk=>by simp at hk
 | j::l,h,k,hk=>by
  rcases List.mem_cons.1 hk with rfl | hk
  ·exact h.1
  ·exact od.mem h.2 k hk
end Go.Proofs.YtmickljjofbmiaaGreatDoor
