/- What the Ops' meanings lean on leaves, by runs. Alone: the four calls of each Op, as runs. No condition. -/
import Derived.Test.YtmickljjofbmiaaGreatDoorABits
import Derived.Test.YtmickljjofbmiaaGreatDoorFwH
set_option maxRecDepth 100000
namespace Go.Proofs.YtmickljjofbmiaaGreatDoor
open Go Go.Proofs
set_option maxRecDepth 100000
def iw:X:=.wrap .u32 (.var 0)
def iu:V:=.int .u32 iw
def jr:X:=.wrap .u32 (.var 1)
def jn:V:=.int .u32 jr
def xS:X:=.eq jr (.lit 0)
def CT:X:=.wrap .i32 iw
def Vs:X:=.rem jr (.lit (32))
def NP:X:=.wrap .i64 (.var 0)
def SP:V:=.int .i64 (.lit (1))
def VM:V:=.int .i64 (.lit (2))
def abD:List (List V×R Leaf):=[([iu,jn],(lf 7 (.int .u32 (.wrap .u32 (.add iw jr)))))]
theorem Ty:bG (lv (kQ aey)) aj 7 4000 31 abD:=aE (by kernel_rfl)
noncomputable def aem:kP:=(31,bX aj 7 abD)::aey
theorem ast{ro:Nat→Obj}(h:aZ ro):aM ro aem:=aM.mR aqw h Tryz.func31 Ty
def abC:List (List V×R Leaf):=[([iu,jn],(lf 7 (.int .u32 (.wrap .u32 (.sub iw jr)))))]
theorem Xi:bG (lv (kQ aem)) aj 7 4000 87 abC:=aE (by kernel_rfl)
noncomputable def adi:kP:=(87,bX aj 7 abC)::aem
theorem arX{ro:Nat→Obj}(h:aZ ro):aM ro adi:=aM.mR (ast h) h Tryz.func87 Xi
def abg:List (List V×R Leaf):=[([iu,jn],(lf 7 (.int .u32 (.ite xS (.lit 4294967295) (.wrap .u32 (.quo CT (.wrap .i32 jr)))))))]
theorem VC:bG (lv (kQ adi)) aj 7 4000 95 abg:=aE (by kernel_rfl)
noncomputable def adW:kP:=(95,bX aj 7 abg)::adi
theorem an3{ro:Nat→Obj}(h:aZ ro):aM ro adW:=aM.mR (arX h) h Tryz.func95 VC
def abb:List (List V×R Leaf):=[([iu,jn],(lf 7 (.int .u32 (.ite xS (.lit 4294967295) (.wrap .u32 (.quo iw jr))))))]
theorem Vn:bG (lv (kQ adW)) aj 7 4000 96 abb:=aE (by kernel_rfl)
noncomputable def ae9:kP:=(96,bX aj 7 abb)::adW
theorem aso{ro:Nat→Obj}(h:aZ ro):aM ro ae9:=aM.mR (an3 h) h Tryz.func96 Vn
def abG:List (List V×R Leaf):=[([iu,jn],(lf 7 (.int .u32 (.ite xS iw (.wrap .u32 (.rem CT (.wrap .i32 jr)))))))]
theorem Ue:bG (lv (kQ ae9)) aj 7 4000 97 abG:=aE (by kernel_rfl)
noncomputable def adw:kP:=(97,bX aj 7 abG)::ae9
theorem arJ{ro:Nat→Obj}(h:aZ ro):aM ro adw:=aM.mR (aso h) h Tryz.func97 Ue
def abA:List (List V×R Leaf):=[([iu,jn],(lf 7 (.int .u32 (.ite xS iw (.rem iw jr)))))]
theorem Xo:bG (lv (kQ adw)) aj 7 4000 98 abA:=aE (by kernel_rfl)
noncomputable def adQ:kP:=(98,bX aj 7 abA)::adw
theorem arb{ro:Nat→Obj}(h:aZ ro):aM ro adQ:=aM.mR (arJ h) h Tryz.func98 Xo
def abi:List (List V×R Leaf):=[([iu,jn],(lf 7 (.int .u32 (.wrap .u32 (.add iw jr)))))]
theorem Vk:bG (lv (kQ adQ)) aj 7 4000 50 abi:=aE (by kernel_rfl)
noncomputable def ade:kP:=(50,bX aj 7 abi)::adQ
theorem arf{ro:Nat→Obj}(h:aZ ro):aM ro ade:=aM.mR (arb h) h Tryz.func50 Vk
def W0:List (List V×R Leaf):=[([iu,jn],(lf 7 (.int .u32 (.wrap .u32 (.sub iw jr)))))]
theorem Rc:bG (lv (kQ ade)) aj 7 4000 131 W0:=aE (by kernel_rfl)
noncomputable def UO:kP:=(131,bX aj 7 W0)::ade
theorem alu{ro:Nat→Obj}(h:aZ ro):aM ro UO:=aM.mR (arf h) h Tryz.func131 Rc
def XA:List (List V×R Leaf):=[([iu,jn],(lf 7 (.int .u32 (.wrap .u32 (.mul iw jr)))))]
theorem PE:bG (lv (kQ UO)) aj 7 4000 132 XA:=aE (by kernel_rfl)
noncomputable def Sv:kP:=(132,bX aj 7 XA)::UO
theorem anl{ro:Nat→Obj}(h:aZ ro):aM ro Sv:=aM.mR (alu h) h Tryz.func132 PE
def U4:List (List V×R Leaf):=[([iu,jn],(lf 8 (.int .u32 (.quo (.mul iw jr) (.lit 4294967296)))))]
theorem PV:bG (lv (kQ Sv)) aj 7 4000 135 U4:=aE (by kernel_rfl)
noncomputable def Xf:kP:=(135,bX aj 7 U4)::Sv
theorem ag7{ro:Nat→Obj}(h:aZ ro):aM ro Xf:=aM.mR (anl h) h Tryz.func135 PV
def RT:List (List V×R Leaf):=[([iu,jn],(lf 7 (.int .u32 (.ite xS (.lit 4294967295) (.wrap .u32 (.quo CT (.wrap .i32 jr)))))))]
theorem PK:bG (lv (kQ Xf)) aj 7 4000 136 RT:=aE (by kernel_rfl)
noncomputable def RF:kP:=(136,bX aj 7 RT)::Xf
theorem akw{ro:Nat→Obj}(h:aZ ro):aM ro RF:=aM.mR (ag7 h) h Tryz.func136 PK
def Tk:List (List V×R Leaf):=[([iu,jn],(lf 7 (.int .u32 (.ite xS (.lit 4294967295) (.wrap .u32 (.quo iw jr))))))]
theorem QU:bG (lv (kQ RF)) aj 7 4000 137 Tk:=aE (by kernel_rfl)
noncomputable def U0:kP:=(137,bX aj 7 Tk)::RF
theorem age{ro:Nat→Obj}(h:aZ ro):aM ro U0:=aM.mR (akw h) h Tryz.func137 QU
def RW:List (List V×R Leaf):=[([iu,jn],(lf 7 (.int .u32 (.ite xS iw (.wrap .u32 (.rem CT (.wrap .i32 jr)))))))]
theorem QP:bG (lv (kQ U0)) aj 7 4000 138 RW:=aE (by kernel_rfl)
noncomputable def Xr:kP:=(138,bX aj 7 RW)::U0
theorem alM{ro:Nat→Obj}(h:aZ ro):aM ro Xr:=aM.mR (age h) h Tryz.func138 QP
def VV:List (List V×R Leaf):=[([iu,jn],(lf 7 (.int .u32 (.ite xS iw (.rem iw jr)))))]
theorem QW:bG (lv (kQ Xr)) aj 7 4000 139 VV:=aE (by kernel_rfl)
noncomputable def S3:kP:=(139,bX aj 7 VV)::Xr
theorem aiy{ro:Nat→Obj}(h:aZ ro):aM ro S3:=aM.mR (alM h) h Tryz.func139 QW
def RN:List (List V×R Leaf):=[([iu,jn],(lf 7 (.int .u32 (.shl .u32 iw Vs))))]
theorem Re:bG (lv (kQ S3)) aj 7 4000 126 RN:=aE (by kernel_rfl)
noncomputable def SM:kP:=(126,bX aj 7 RN)::S3
theorem agK{ro:Nat→Obj}(h:aZ ro):aM ro SM:=aM.mR (aiy h) h Tryz.func126 Re
def S6:List (List V×R Leaf):=[([iu,jn],(lf 7 (.int .u32 (.shr .u32 iw Vs))))]
theorem QO:bG (lv (kQ SM)) aj 7 4000 128 S6:=aE (by kernel_rfl)
noncomputable def UB:kP:=(128,bX aj 7 S6)::SM
theorem aj3{ro:Nat→Obj}(h:aZ ro):aM ro UB:=aM.mR (agK h) h Tryz.func128 QO
def VD:List (List V×R Leaf):=[([iu,jn],(lf 7 (.int .u32 (.wrap .u32 (.shr .i32 CT Vs)))))]
theorem Qp:bG (lv (kQ UB)) aj 7 4000 130 VD:=aE (by kernel_rfl)
noncomputable def XX:kP:=(130,bX aj 7 VD)::UB
theorem alO{ro:Nat→Obj}(h:aZ ro):aM ro XX:=aM.mR (aj3 h) h Tryz.func130 Qp
def Rz:List (List V×R Leaf):=[([(.bool (.var 0))],(lf 7 (.int .u32 (.ite (.var 0) (.lit 1) (.lit 0)))))]
theorem Pt:bG (lv (kQ XX)) aj 7 4000 106 Rz:=aE (by kernel_rfl)
noncomputable def VX:kP:=(106,bX aj 7 Rz)::XX
theorem ai9{ro:Nat→Obj}(h:aZ ro):aM ro VX:=aM.mR (alO h) h Tryz.func106 Pt
def abc:List (List V×R Leaf):=[([(.bool (.var 0))],(lf 7 (.int .u32 (.ite (.var 0) (.lit 1) (.lit 0)))))]
theorem U5:bG (lv (kQ VX)) aj 7 4000 77 abc:=aE (by kernel_rfl)
noncomputable def acP:kP:=(77,bX aj 7 abc)::VX
theorem aoY{ro:Nat→Obj}(h:aZ ro):aM ro acP:=aM.mR (ai9 h) h Tryz.func77 U5
def aaZ:List (List V×R Leaf):=[([iu],(lf 7 (.int .i64 CT)))]
theorem Rr:bG (lv (kQ acP)) aj 7 4000 30 aaZ:=aE (by kernel_rfl)
noncomputable def acX:kP:=(30,bX aj 7 aaZ)::acP
theorem aoP{ro:Nat→Obj}(h:aZ ro):aM ro acX:=aM.mR (aoY h) h Tryz.func30 Rr
def aa6:List (List V×R Leaf):=[([(.int .i64 NP)],(lf 7 (.int .u32 (.ite (.lt NP (.lit 0)) (.wrap .u32 (.wrap .i64 (.add NP (.lit 4294967296)))) (.wrap .u32 NP)))))]
theorem Xe:bG (lv (kQ acX)) aj 7 4000 75 aa6:=aE (by kernel_rfl)
noncomputable def aeg:kP:=(75,bX aj 7 aa6)::acX
theorem anQ{ro:Nat→Obj}(h:aZ ro):aM ro aeg:=aM.mR (aoP h) h Tryz.func75 Xe
def Rt:List (List V×R Leaf):=[([],(.ok {v:=(.map 7),objs:=[(7,.map [((.int .i64 (.lit (19))),(.func (.func 50) [] [])),((.int .i64 (.lit (20))),(.func (.func 120) [] [])),((.int .i64 (.lit (21))),(.func (.func 121) [] [])),((.int .i64 (.lit (22))),(.func (.func 122) [] [])),((.int .i64 (.lit (23))),(.func (.func 123) [] [])),((.int .i64 (.lit (24))),(.func (.func 124) [] [])),((.int .i64 (.lit (25))),(.func (.func 125) [] [])),((.int .i64 (.lit (26))),(.func (.func 127) [] [])),((.int .i64 (.lit (27))),(.func (.func 129) [] [])),((.int .i64 (.lit (28))),(.func (.func 50) [] [])),((.int .i64 (.lit (29))),(.func (.func 131) [] [])),((.int .i64 (.lit (30))),(.func (.func 125) [] [])),((.int .i64 (.lit (31))),(.func (.func 120) [] [])),((.int .i64 (.lit (32))),(.func (.func 121) [] [])),((.int .i64 (.lit (33))),(.func (.func 122) [] [])),((.int .i64 (.lit (34))),(.func (.func 127) [] [])),((.int .i64 (.lit (35))),(.func (.func 129) [] [])),((.int .i64 (.lit (36))),(.func (.func 123) [] [])),((.int .i64 (.lit (37))),(.func (.func 124) [] [])),((.int .i64 (.lit (40))),(.func (.func 132) [] [])),((.int .i64 (.lit (41))),(.func (.func 133) [] [])),((.int .i64 (.lit (42))),(.func (.func 134) [] [])),((.int .i64 (.lit (43))),(.func (.func 135) [] [])),((.int .i64 (.lit (44))),(.func (.func 136) [] [])),((.int .i64 (.lit (45))),(.func (.func 137) [] [])),((.int .i64 (.lit (46))),(.func (.func 138) [] [])),((.int .i64 (.lit (47))),(.func (.func 139) [] []))])],n:=8}))]
theorem Qg:bG (kQ aeg) aj 7 4000 104 Rt:=aE (by kernel_rfl)
noncomputable def RI:kP:=(104,bW aj 7 Rt)::aeg
theorem ajq{ro:Nat→Obj}(h:aZ ro):aM ro RI:=aM.Rm (anQ h) h Tryz.func104 Qg
def X6:List (List V×R Leaf):=[([],(.ok {v:=(.map 7),objs:=[(7,.map [((.int .i64 (.lit (5))),(.func (.func 116) [] [])),((.int .i64 (.lit (6))),(.func (.func 117) [] [])),((.int .i64 (.lit (7))),(.func (.func 51) [] [])),((.int .i64 (.lit (9))),(.func (.func 52) [] [])),((.int .i64 (.lit (8))),(.func (.func 118) [] [])),((.int .i64 (.lit (10))),(.func (.func 119) [] []))])],n:=8}))]
theorem Qa:bG (kQ RI) aj 7 4000 103 X6:=aE (by kernel_rfl)
noncomputable def Tv:kP:=(103,bW aj 7 X6)::RI
theorem agv{ro:Nat→Obj}(h:aZ ro):aM ro Tv:=aM.Rm (ajq h) h Tryz.func103 Qa
def UG:List (List V×R Leaf):=[([],(.ok {v:=(.map 7),objs:=[(7,.map [((.int .i64 (.lit (11))),SP),((.int .i64 (.lit (12))),VM),((.int .i64 (.lit (13))),(.int .i64 (.lit (4)))),((.int .i64 (.lit (14))),SP),((.int .i64 (.lit (15))),VM),((.int .i64 (.lit (16))),SP),((.int .i64 (.lit (17))),VM),((.int .i64 (.lit (18))),(.int .i64 (.lit (4))))])],n:=8}))]
theorem P2:bG (kQ Tv) aj 7 4000 101 UG:=aE (by kernel_rfl)
noncomputable def TC:kP:=(101,bW aj 7 UG)::Tv
theorem aa3{ro:Nat→Obj}(h:aZ ro):aM ro TC:=aM.Rm (agv h) h Tryz.func101 P2
end Go.Proofs.YtmickljjofbmiaaGreatDoor
namespace Go.Proofs.YtmickljjofbmiaaGreatDoor
open Go Go.Proofs
noncomputable def slO(op:Nat):kP:=(79,bW aj 7 [([oN],lf 1007 (tS op))])::(53,bW aj 7 [([oN],lf 1007 (tS op))])::TC
noncomputable def cxO(op:Nat):Cx:={cx with dm:=Y9,sm:=Ce (slO op),sx:=true}
noncomputable def aX(op:Nat):Bool:=comp (Lw (cxO op) 4000).call aj 7 100000 [(46,[uG,oN,xC]),(39,[uG,oN,xC]),(47,[uG,oN,xC,Vf]),(41,[uG,oN,xC,Vf])] [] pcO OL
def pB:List Nat→Prop
 | []=>True
 | k::l=>aX k=true∧pB l
theorem pB.mem:∀ {l:List Nat},pB l→∀ k∈l,aX k=true
 | [],_,k,hk=>by simp at hk
 | j::l,h,k,hk=>by
  rcases List.mem_cons.1 hk with rfl | hk
  ·exact h.1
  ·exact pB.mem h.2 k hk
end Go.Proofs.YtmickljjofbmiaaGreatDoor
