/- What Decode leans on leaves, by runs. No condition. -/
import Derived.Test.YtgcbnjpeifigaaaGreatDoorJDoor
set_option maxRecDepth 100000
namespace Go.Proofs.YtgcbnjpeifigaaaGreatDoor
open Go Go.Proofs
set_option maxRecDepth 100000
def OM:V:=.str (.slit [108,114])
def Ip:V:=.int .u32 (.lit (28799))
def Cv:V:=.func (.func 214) [] []
def nf:V:=.func (.func 204) [] []
def WY:V:=.func (.func 256) [] [(.ptr 7 0),(.ptr 8 0)]
def oQ:R Leaf:=lf 7 (.int .u32 (.lit 1))
def qw:V:=.int .i64 (.lit 1)
def yi:V:=.int .i64 (.lit 2)
def yj:V:=.int .i64 (.lit 3)
def qx:V:=.int .i64 (.lit 4)
def mB:V:=.int .i64 (.lit 5)
def Ae:R Leaf:=lf 7 (.int .u32 (.lit 32))
def rz:V:=.int .i64 (.lit 6)
def kI:V:=.int .i64 (.lit 7)
def oL:V:=.int .i64 (.lit 8)
def rA:V:=.int .i64 (.lit 9)
def mC:V:=.int .i64 (.lit 10)
def gJ:V:=.int .i64 (.lit 11)
def kJ:V:=.int .i64 (.lit 12)
def rB:V:=.int .i64 (.lit 13)
def rC:V:=.int .i64 (.lit 14)
def oM:V:=.int .i64 (.lit 15)
def rD:V:=.int .i64 (.lit 16)
def rE:V:=.int .i64 (.lit 17)
def rI:V:=.int .i64 (.lit 18)
def mD:V:=.int .i64 (.lit 19)
def iG:V:=.int .i64 (.lit 20)
def oN:V:=.int .i64 (.lit 21)
def rK:V:=.int .i64 (.lit 22)
def rL:V:=.int .i64 (.lit 23)
def oO:V:=.int .i64 (.lit 24)
def jB:V:=.int .i64 (.lit 25)
def mE:V:=.int .i64 (.lit 26)
def oP:V:=.int .i64 (.lit 27)
def rM:V:=.int .i64 (.lit 28)
def rN:V:=.int .i64 (.lit 29)
def mF:V:=.int .i64 (.lit 30)
def jC:V:=.int .i64 (.lit 31)
def rO:R Leaf:=lf 7 (.int .u8 (.lit 108))
def rP:R Leaf:=lf 7 (.int .u8 (.lit 98))
def Iq:R Leaf:=lf 7 (.int .u8 (.lit 115))
def rQ:R Leaf:=lf 7 (.int .u8 (.lit 105))
def Ir:R Leaf:=lf 7 (.int .u8 (.lit 104))
def dG:R Leaf:=lf 7 (.int .u8 (.lit 114))
def vt:V:=.int .i64 (.lit 32)
def vu:V:=.int .i64 (.lit 33)
def vw:V:=.int .i64 (.lit 34)
def vz:V:=.int .i64 (.lit 35)
def vA:V:=.int .i64 (.lit 36)
def vB:V:=.int .i64 (.lit 37)
def vC:V:=.int .i64 (.lit 38)
def vD:V:=.int .i64 (.lit 39)
def vE:V:=.int .i64 (.lit 40)
def vF:V:=.int .i64 (.lit 41)
def vG:V:=.int .i64 (.lit 42)
def vI:V:=.int .i64 (.lit 43)
def vJ:V:=.int .i64 (.lit 44)
def vK:V:=.int .i64 (.lit 45)
def vL:V:=.int .i64 (.lit 46)
def vM:V:=.int .i64 (.lit 47)
def vN:V:=.int .i64 (.lit 48)
def vO:V:=.int .i64 (.lit 49)
def jD:R Leaf:=lf 7 (.int .u8 (.lit 97))
def vP:V:=.int .i64 (.lit 50)
def vQ:V:=.int .i64 (.lit 51)
def vR:V:=.int .i64 (.lit 52)
def vS:V:=.int .i64 (.lit 53)
def vT:V:=.int .i64 (.lit 54)
def vU:V:=.int .i64 (.lit 55)
def vV:V:=.int .i64 (.lit 56)
def vW:V:=.int .i64 (.lit 57)
def vX:V:=.int .i64 (.lit 58)
def vY:V:=.int .i64 (.lit 59)
def rR:R Leaf:=lf 7 (.int .u32 (.lit 99))
def vZ:R Leaf:=lf 7 (.int .u32 (.lit 3))
def It:R Leaf:=lf 7 (.int .u32 (.lit 35))
def kK:R Leaf:=lf 7 (.int .u32 (.lit 19))
def dJ:R Leaf:=lf 7 (.int .u32 (.lit 51))
def iI:R Leaf:=lf 7 (.int .u32 (.lit 47))
def fG:R Leaf:=lf 8 (.int .u32 (.lit 0))
def rS:R Leaf:=lf 8 (.int .u32 (.lit 1))
def rT:R Leaf:=lf 8 (.int .u32 (.lit 4))
def oR:R Leaf:=lf 8 (.int .u32 (.lit 5))
def Af:R Leaf:=lf 8 (.int .u32 (.lit 6))
def Ag:R Leaf:=lf 8 (.int .u32 (.lit 7))
def dY:R Leaf:=lf 8 (.int .u32 (.lit 2))
def Iu:R Leaf:=lf 8 (.int .u32 (.lit 3))
def bn:R Leaf:=lf 7 (.int .u32 (.lit 0))
def cF:V:=.int .u32 (sg [(2,0,32)] .zero)
def aI:V:=.int .i64 (sg [(2,0,5)] .zero)
def aJ:V:=.int .i64 (sg [(2,5,5)] .zero)
def aK:V:=.int .i64 (sg [(2,10,5)] .zero)
def Iv:X:=sg [(2,15,32)] .zero
def aL:V:=.int .u32 Iv
def az:X:=.cube 140737488355328 140737488355328
def aw:X:=.cube 281474976710656 281474976710656
def Qh:V:=.agg [qw,aI,aJ,aK,aL,(.bool az),(.bool aw)]
def oS:X:=.cube 31744 0
def ba:R Leaf:=lf 8 (.bool (.lit 0))
def oT:X:=.cube 70368744177664 70368744177664
def K5:R Leaf:=.br (.cube 992 0) (.br oS (.br az ba (.br aw ba (.br oT (lf 8 (.bool (.cube 134184960 0))) (lf 8 (.bool (.cube 134184960 0)))))) ba) ba
def K6:V:=.agg [yi,aI,aJ,aK,aL,(.bool az),(.bool aw)]
def K7:V:=.agg [yj,aI,aJ,aK,aL,(.bool az),(.bool aw)]
def K8:V:=.agg [qx,aI,aJ,aK,aL,(.bool az),(.bool aw)]
def K9:R Leaf:=.br az ba (.br aw ba (.br oT (.br (.cube 70368677068800 70368677068800) (lf 8 (.bool (.lit 1))) ba) (lf 8 (.bool (.cube 70368677068800 0)))))
def fj:R Leaf:=.br oS K9 ba
def La:V:=.agg [mB,aI,aJ,aK,aL,(.bool az),(.bool aw)]
def nP:R Leaf:=.br (.cube 31 0) (.br az ba (.br aw ba (.br oT (.br (.cube 32768 0) (.br (.cube 70368609959936 70368609959936) (lf 8 (.bool (.lit 1))) ba) ba) (.br (.cube 32768 0) (lf 8 (.bool (.cube 70368609959936 0))) ba)))) ba
def Lb:V:=.agg [rz,aI,aJ,aK,aL,(.bool az),(.bool aw)]
def Lc:V:=.agg [kI,aI,aJ,aK,aL,(.bool az),(.bool aw)]
def Ld:V:=.agg [oL,aI,aJ,aK,aL,(.bool az),(.bool aw)]
def Le:V:=.agg [rA,aI,aJ,aK,aL,(.bool az),(.bool aw)]
def Lf:V:=.agg [mC,aI,aJ,aK,aL,(.bool az),(.bool aw)]
def Lg:V:=.agg [gJ,aI,aJ,aK,aL,(.bool az),(.bool aw)]
def Li:V:=.agg [kJ,aI,aJ,aK,aL,(.bool az),(.bool aw)]
def Lj:V:=.agg [rB,aI,aJ,aK,aL,(.bool az),(.bool aw)]
def Lk:V:=.agg [rC,aI,aJ,aK,aL,(.bool az),(.bool aw)]
def Ll:V:=.agg [oM,aI,aJ,aK,aL,(.bool az),(.bool aw)]
def Lm:V:=.agg [rD,aI,aJ,aK,aL,(.bool az),(.bool aw)]
def Cs:R Leaf:=.br (.cube 31 0) K9 ba
def Ln:V:=.agg [rE,aI,aJ,aK,aL,(.bool az),(.bool aw)]
def Lo:V:=.agg [rI,aI,aJ,aK,aL,(.bool az),(.bool aw)]
def Lp:V:=.agg [mD,aI,aJ,aK,aL,(.bool az),(.bool aw)]
def Lq:V:=.agg [iG,aI,aJ,aK,aL,(.bool az),(.bool aw)]
def Lr:V:=.agg [oN,aI,aJ,aK,aL,(.bool az),(.bool aw)]
def Ls:V:=.agg [rK,aI,aJ,aK,aL,(.bool az),(.bool aw)]
def Lt:V:=.agg [rL,aI,aJ,aK,aL,(.bool az),(.bool aw)]
def Lu:V:=.agg [oO,aI,aJ,aK,aL,(.bool az),(.bool aw)]
def Lv:V:=.agg [jB,aI,aJ,aK,aL,(.bool az),(.bool aw)]
def Ct:R Leaf:=.br oS (.br az ba (.br aw ba (.br oT ba (lf 8 (.bool (.cube 70368743129088 0)))))) ba
def Lw:V:=.agg [mE,aI,aJ,aK,aL,(.bool az),(.bool aw)]
def Lx:V:=.agg [oP,aI,aJ,aK,aL,(.bool az),(.bool aw)]
def Ly:V:=.agg [rM,aI,aJ,aK,aL,(.bool az),(.bool aw)]
def fk:R Leaf:=.br oT ba (lf 8 (.bool (.cube 70368744144896 0)))
def cE:R Leaf:=.br az ba (.br aw ba fk)
def Lz:V:=.agg [rN,aI,aJ,aK,aL,(.bool az),(.bool aw)]
def LA:V:=.agg [mF,aI,aJ,aK,aL,(.bool az),(.bool aw)]
def LB:V:=.agg [jC,aI,aJ,aK,aL,(.bool az),(.bool aw)]
def LC:V:=.agg [vt,aI,aJ,aK,aL,(.bool az),(.bool aw)]
def LD:V:=.agg [vu,aI,aJ,aK,aL,(.bool az),(.bool aw)]
def LF:V:=.agg [vw,aI,aJ,aK,aL,(.bool az),(.bool aw)]
def LG:V:=.agg [vz,aI,aJ,aK,aL,(.bool az),(.bool aw)]
def LI:V:=.agg [vA,aI,aJ,aK,aL,(.bool az),(.bool aw)]
def LK:V:=.agg [vB,aI,aJ,aK,aL,(.bool az),(.bool aw)]
def LN:V:=.agg [vC,aI,aJ,aK,aL,(.bool az),(.bool aw)]
def LO:V:=.agg [vD,aI,aJ,aK,aL,(.bool az),(.bool aw)]
def LP:R Leaf:=.br (.cube 992 0) (.br oS cE ba) ba
def LQ:V:=.agg [vE,aI,aJ,aK,aL,(.bool az),(.bool aw)]
def LR:V:=.agg [vF,aI,aJ,aK,aL,(.bool az),(.bool aw)]
def LS:V:=.agg [vG,aI,aJ,aK,aL,(.bool az),(.bool aw)]
def LU:V:=.agg [vI,aI,aJ,aK,aL,(.bool az),(.bool aw)]
def LV:V:=.agg [vJ,aI,aJ,aK,aL,(.bool az),(.bool aw)]
def LW:V:=.agg [vK,aI,aJ,aK,aL,(.bool az),(.bool aw)]
def LX:V:=.agg [vL,aI,aJ,aK,aL,(.bool az),(.bool aw)]
def LY:V:=.agg [vM,aI,aJ,aK,aL,(.bool az),(.bool aw)]
def LZ:V:=.agg [vN,aI,aJ,aK,aL,(.bool az),(.bool aw)]
def Lh:V:=.agg [vO,aI,aJ,aK,aL,(.bool az),(.bool aw)]
def L4:V:=.agg [vP,aI,aJ,aK,aL,(.bool az),(.bool aw)]
def L5:V:=.agg [vQ,aI,aJ,aK,aL,(.bool az),(.bool aw)]
def L6:V:=.agg [vR,aI,aJ,aK,aL,(.bool az),(.bool aw)]
def L7:V:=.agg [vS,aI,aJ,aK,aL,(.bool az),(.bool aw)]
def L8:V:=.agg [vT,aI,aJ,aK,aL,(.bool az),(.bool aw)]
def L9:V:=.agg [vU,aI,aJ,aK,aL,(.bool az),(.bool aw)]
def Ma:V:=.agg [vV,aI,aJ,aK,aL,(.bool az),(.bool aw)]
def Mb:V:=.agg [vW,aI,aJ,aK,aL,(.bool az),(.bool aw)]
def Mc:V:=.agg [vX,aI,aJ,aK,aL,(.bool az),(.bool aw)]
def Md:V:=.agg [vY,aI,aJ,aK,aL,(.bool az),(.bool aw)]
def di:X:=sg [(0,0,20),(2,15,12)] .zero
def nQ:X:=sg [(0,0,8),(2,16,4)] .zero
def nR:X:=sg [(0,0,7),(2,26,1)] .zero
def Cu:X:=sg [(0,0,7),(2,15,5)] .zero
def Yd:List (List V×R Leaf):=[([(.str (.slit [98,101,113,32,98,110,101,32,98,108,116,32,98,103,101,32,98,108,116,117,32,98,103,101,117]))],(.ok {v:=(.slice 7 0 6 (.known 6)),objs:=[(7,.cells [(.str (.slit [98,101,113])),(.str (.slit [98,110,101])),(.str (.slit [98,108,116])),(.str (.slit [98,103,101])),(.str (.slit [98,108,116,117])),(.str (.slit [98,103,101,117]))] 9 none)],n:=8})),
 ([(.str (.slit [108,98,32,108,104,32,108,119,32,108,98,117,32,108,104,117]))],(.ok {v:=(.slice 7 0 5 (.known 5)),objs:=[(7,.cells [(.str (.slit [108,98])),(.str (.slit [108,104])),(.str (.slit [108,119])),(.str (.slit [108,98,117])),(.str (.slit [108,104,117]))] 9 none)],n:=8})),
 ([(.str (.slit [115,98,32,115,104,32,115,119]))],(.ok {v:=(.slice 7 0 3 (.known 3)),objs:=[(7,.cells [(.str (.slit [115,98])),(.str (.slit [115,104])),(.str (.slit [115,119]))] 9 none)],n:=8})),
 ([(.str (.slit [97,100,100,105,32,115,108,116,105,32,115,108,116,105,117,32,120,111,114,105,32,111,114,105,32,97,110,100,105]))],(.ok {v:=(.slice 7 0 6 (.known 6)),objs:=[(7,.cells [(.str (.slit [97,100,100,105])),(.str (.slit [115,108,116,105])),(.str (.slit [115,108,116,105,117])),(.str (.slit [120,111,114,105])),(.str (.slit [111,114,105])),(.str (.slit [97,110,100,105]))] 9 none)],n:=8})),
 ([(.str (.slit [115,108,108,105,32,115,114,108,105]))],(.ok {v:=(.slice 7 0 2 (.known 2)),objs:=[(7,.cells [(.str (.slit [115,108,108,105])),(.str (.slit [115,114,108,105]))] 9 none)],n:=8})),
 ([(.str (.slit [115,108,108,32,115,108,116,32,115,108,116,117,32,120,111,114,32,115,114,108]))],(.ok {v:=(.slice 7 0 5 (.known 5)),objs:=[(7,.cells [(.str (.slit [115,108,108])),(.str (.slit [115,108,116])),(.str (.slit [115,108,116,117])),(.str (.slit [120,111,114])),(.str (.slit [115,114,108]))] 9 none)],n:=8})),
 ([(.str (.slit [111,114,32,97,110,100]))],(.ok {v:=(.slice 7 0 2 (.known 2)),objs:=[(7,.cells [(.str (.slit [111,114])),(.str (.slit [97,110,100]))] 9 none)],n:=8})),
 ([(.str (.slit [109,117,108,32,109,117,108,104,32,109,117,108,104,115,117,32,109,117,108,104,117,32,100,105,118,32,100,105,118,117,32,114,101,109,32,114,101,109,117]))],(.ok {v:=(.slice 7 0 8 (.known 8)),objs:=[(7,.cells [(.str (.slit [109,117,108])),(.str (.slit [109,117,108,104])),(.str (.slit [109,117,108,104,115,117])),(.str (.slit [109,117,108,104,117])),(.str (.slit [100,105,118])),(.str (.slit [100,105,118,117])),(.str (.slit [114,101,109])),(.str (.slit [114,101,109,117]))] 9 none)],n:=8})),
 ([OM],(.ok {v:=(.slice 7 0 1 (.known 1)),objs:=[(7,.cells [OM] 9 none)],n:=8})),
 ([(.str (.slit [115,99,32,97,109,111,115,119,97,112,32,97,109,111,97,100,100,32,97,109,111,120,111,114,32,97,109,111,97,110,100,32,97,109,111,111,114,32,97,109,111,109,105,110,32,97,109,111,109,97,120,32,97,109,111,109,105,110,117,32,97,109,111,109,97,120,117]))],(.ok {v:=(.slice 7 0 10 (.known 10)),objs:=[(7,.cells [(.str (.slit [115,99])),(.str (.slit [97,109,111,115,119,97,112])),(.str (.slit [97,109,111,97,100,100])),(.str (.slit [97,109,111,120,111,114])),(.str (.slit [97,109,111,97,110,100])),(.str (.slit [97,109,111,111,114])),(.str (.slit [97,109,111,109,105,110])),(.str (.slit [97,109,111,109,97,120])),(.str (.slit [97,109,111,109,105,110,117])),(.str (.slit [97,109,111,109,97,120,117]))] 9 none)],n:=8}))]
theorem Ty:bM (jK []) aj 7 4000 189 Yd:=aG (by kernel_rfl)
noncomputable def XD:l9:=(189,bY aj 7 Yd)::[]
theorem apE{ro:Nat->Obj}(h:aZ ro):aO ro XD:=aO.Dy .nil h Tryz.func189 Ty
def Yc:List (List V×R Leaf):=[([],(.ok {v:=(.map 14),objs:=[(21,.cells [(.int .i64 (.lit (4094)))] 2 none),(20,.cells [(.int .i64 (.lit (-4096)))] 2 none),(16,.cells [(.int .i64 (.lit (1048574)))] 2 none),(15,.cells [(.int .i64 (.lit (-1048576)))] 2 none),(8,.cells [(.int .i64 (.lit (2047)))] 2 none),(7,.cells [(.int .i64 (.lit (-2048)))] 2 none),(17,.cells [(.func (.func 256) [] [(.ptr 15 0),(.ptr 16 0)])] 204 none),(19,.cells [(.int .i64 (.lit (31)))] 2 none),(18,.cells [(.int .i64 (.lit (0)))] 2 none),(22,.cells [(.func (.func 256) [] [(.ptr 20 0),(.ptr 21 0)])] 204 none),(24,.cells [(.int .i64 (.lit (2047)))] 2 none),(23,.cells [(.int .i64 (.lit (-2048)))] 2 none),(26,.cells [(.int .i64 (.lit (255)))] 2 none),(25,.cells [(.int .i64 (.lit (0)))] 2 none),(14,.map [((.str (.slit [102,101,110,99,101])),(.agg [(.int .u32 (.lit (4027580415))),(.bool (.lit (0))),(.bool (.lit (0))),(.bool (.lit (0))),(.bool (.lit (0))),(.func (.func 256) [] [(.ptr 25 0),(.ptr 26 0)]),(.func (.func 235) [] []),(.func (.func 236) [] []),(.func (.func 212) [] [])])),((.str (.slit [115])),(.agg [Ip,(.bool (.lit (0))),(.bool (.lit (1))),(.bool (.lit (1))),(.bool (.lit (0))),(.func (.func 256) [] [(.ptr 23 0),(.ptr 24 0)]),(.func (.func 232) [] []),(.func (.func 233) [] []),(.func (.func 234) [] [])])),((.str (.slit [98])),(.agg [Ip,(.bool (.lit (0))),(.bool (.lit (1))),(.bool (.lit (1))),(.bool (.lit (0))),(.func (.func 262) [] [(.ptr 22 0)]),(.func (.func 229) [] []),(.func (.func 230) [] []),(.func (.func 231) [] [])])),((.str (.slit [115,104,105,102,116])),(.agg [(.int .u32 (.lit (4261441663))),(.bool (.lit (1))),(.bool (.lit (1))),(.bool (.lit (0))),(.bool (.lit (0))),(.func (.func 256) [] [(.ptr 18 0),(.ptr 19 0)]),(.func (.func 227) [] []),(.func (.func 228) [] []),(.func (.func 209) [] [])])),((.str (.slit [106])),(.agg [(.int .u32 (.lit (127))),(.bool (.lit (1))),(.bool (.lit (0))),(.bool (.lit (0))),(.bool (.lit (0))),(.func (.func 262) [] [(.ptr 17 0)]),(.func (.func 224) [] []),(.func (.func 225) [] []),(.func (.func 226) [] [])])),((.str (.slit [99,115,114])),(.agg [(.int .u32 (.lit (4294963327))),(.bool (.lit (1))),(.bool (.lit (0))),(.bool (.lit (0))),(.bool (.lit (0))),Cv,nf,nf,(.func (.func 238) [] [])])),((.str (.slit [97])),(.agg [(.int .u32 (.lit (4160778367))),(.bool (.lit (1))),(.bool (.lit (1))),(.bool (.lit (1))),(.bool (.lit (1))),Cv,nf,nf,(.func (.func 216) [] [])])),(OM,(.agg [(.int .u32 (.lit (4193284223))),(.bool (.lit (1))),(.bool (.lit (1))),(.bool (.lit (0))),(.bool (.lit (1))),Cv,nf,nf,(.func (.func 217) [] [])])),((.str (.slit [97,108,108])),(.agg [(.int .u32 (.lit (4294967295))),(.bool (.lit (0))),(.bool (.lit (0))),(.bool (.lit (0))),(.bool (.lit (0))),Cv,nf,nf,(.func (.func 237) [] [])])),((.str (.slit [114])),(.agg [(.int .u32 (.lit (4261441663))),(.bool (.lit (1))),(.bool (.lit (1))),(.bool (.lit (1))),(.bool (.lit (0))),Cv,nf,nf,(.func (.func 215) [] [])])),((.str (.slit [108,111,97,100])),(.agg [Ip,(.bool (.lit (1))),(.bool (.lit (1))),(.bool (.lit (0))),(.bool (.lit (0))),WY,(.func (.func 208) [] []),(.func (.func 205) [] []),(.func (.func 213) [] [])])),((.str (.slit [105])),(.agg [Ip,(.bool (.lit (1))),(.bool (.lit (1))),(.bool (.lit (0))),(.bool (.lit (0))),WY,(.func (.func 208) [] []),(.func (.func 205) [] []),(.func (.func 209) [] [])])),((.str (.slit [117])),(.agg [(.int .u32 (.lit (127))),(.bool (.lit (1))),(.bool (.lit (0))),(.bool (.lit (0))),(.bool (.lit (0))),(.func (.func 218) [] []),(.func (.func 219) [] []),(.func (.func 220) [] []),(.func (.func 221) [] [])]))])],n:=27}))]
theorem Tx:bM (jK XD) aj 7 4000 186 Yc:=aG (by kernel_rfl)
noncomputable def XB:l9:=(186,bY aj 7 Yc)::XD
theorem apD{ro:Nat->Obj}(h:aZ ro):aO ro XB:=aO.Dy (apE h) h Tryz.func186 Tx
def X9:List (List V×R Leaf):=[([(.int .i64 (.lit 0))],oQ),
 ([qw],(lf 7 (.int .u32 (.lit 2)))),
 ([yi],(lf 7 (.int .u32 (.lit 4)))),
 ([yj],(lf 7 (.int .u32 (.lit 8)))),
 ([qx],(lf 7 (.int .u32 (.lit 16)))),
 ([mB],Ae),
 ([rz],(lf 7 (.int .u32 (.lit 64)))),
 ([kI],(lf 7 (.int .u32 (.lit 128)))),
 ([oL],(lf 7 (.int .u32 (.lit 256)))),
 ([rA],(lf 7 (.int .u32 (.lit 512)))),
 ([mC],(lf 7 (.int .u32 (.lit 1024)))),
 ([gJ],(lf 7 (.int .u32 (.lit 2048)))),
 ([kJ],(lf 7 (.int .u32 (.lit 4096)))),
 ([rB],(lf 7 (.int .u32 (.lit 8192)))),
 ([rC],(lf 7 (.int .u32 (.lit 16384)))),
 ([oM],(lf 7 (.int .u32 (.lit 32768)))),
 ([rD],(lf 7 (.int .u32 (.lit 65536)))),
 ([rE],(lf 7 (.int .u32 (.lit 131072)))),
 ([rI],(lf 7 (.int .u32 (.lit 262144)))),
 ([mD],(lf 7 (.int .u32 (.lit 524288)))),
 ([iG],(lf 7 (.int .u32 (.lit 1048576)))),
 ([oN],(lf 7 (.int .u32 (.lit 2097152)))),
 ([rK],(lf 7 (.int .u32 (.lit 4194304)))),
 ([rL],(lf 7 (.int .u32 (.lit 8388608)))),
 ([oO],(lf 7 (.int .u32 (.lit 16777216)))),
 ([jB],(lf 7 (.int .u32 (.lit 33554432)))),
 ([mE],(lf 7 (.int .u32 (.lit 67108864)))),
 ([oP],(lf 7 (.int .u32 (.lit 134217728)))),
 ([rM],(lf 7 (.int .u32 (.lit 268435456)))),
 ([rN],(lf 7 (.int .u32 (.lit 536870912)))),
 ([mF],(lf 7 (.int .u32 (.lit 1073741824)))),
 ([jC],(lf 7 (.int .u32 (.lit 2147483648))))]
theorem Tu:bM (jK XB) aj 7 4000 173 X9:=aG (by kernel_rfl)
noncomputable def Xz:l9:=(173,bY aj 7 X9)::XB
theorem apB{ro:Nat->Obj}(h:aZ ro):aO ro Xz:=aO.Dy (apD h) h Tryz.func173 Tu
def X7:List (List V×R Leaf):=[([qw],(lf 7 (.int .u8 (.lit 117)))),
 ([yi],(lf 7 (.int .u8 (.lit 117)))),
 ([yj],(lf 7 (.int .u8 (.lit 106)))),
 ([qx],rO),
 ([mB],rP),
 ([rz],rP),
 ([kI],rP),
 ([oL],rP),
 ([rA],rP),
 ([mC],rP),
 ([gJ],rO),
 ([kJ],rO),
 ([rB],rO),
 ([rC],rO),
 ([oM],rO),
 ([rD],Iq),
 ([rE],Iq),
 ([rI],Iq),
 ([mD],rQ),
 ([iG],rQ),
 ([oN],rQ),
 ([rK],rQ),
 ([rL],rQ),
 ([oO],rQ),
 ([jB],Ir),
 ([mE],Ir),
 ([oP],Ir),
 ([rM],dG),
 ([rN],dG),
 ([mF],dG),
 ([jC],dG),
 ([vt],dG),
 ([vu],dG),
 ([vw],dG),
 ([vz],dG),
 ([vA],dG),
 ([vB],dG),
 ([vC],(lf 7 (.int .u8 (.lit 102)))),
 ([vD],(lf 7 (.int .u8 (.lit 101)))),
 ([vE],dG),
 ([vF],dG),
 ([vG],dG),
 ([vI],dG),
 ([vJ],dG),
 ([vK],dG),
 ([vL],dG),
 ([vM],dG),
 ([vN],(lf 7 (.int .u8 (.lit 113)))),
 ([vO],jD),
 ([vP],jD),
 ([vQ],jD),
 ([vR],jD),
 ([vS],jD),
 ([vT],jD),
 ([vU],jD),
 ([vV],jD),
 ([vW],jD),
 ([vX],jD),
 ([vY],(lf 7 (.int .u8 (.lit 99))))]
theorem Ts:bM (jK Xz) aj 7 4000 170 X7:=aG (by kernel_rfl)
noncomputable def Xx:l9:=(170,bY aj 7 X7)::Xz
theorem apz{ro:Nat->Obj}(h:aZ ro):aO ro Xx:=aO.Dy (apB h) h Tryz.func170 Ts
def Yf:List (List V×R Leaf):=[([qw],(lf 7 (.int .u32 (.lit 55)))),
 ([yi],(lf 7 (.int .u32 (.lit 23)))),
 ([yj],(lf 7 (.int .u32 (.lit 111)))),
 ([qx],(lf 7 (.int .u32 (.lit 103)))),
 ([mB],rR),
 ([rz],rR),
 ([kI],rR),
 ([oL],rR),
 ([rA],rR),
 ([mC],rR),
 ([gJ],vZ),
 ([kJ],vZ),
 ([rB],vZ),
 ([rC],vZ),
 ([oM],vZ),
 ([rD],It),
 ([rE],It),
 ([rI],It),
 ([mD],kK),
 ([iG],kK),
 ([oN],kK),
 ([rK],kK),
 ([rL],kK),
 ([oO],kK),
 ([jB],kK),
 ([mE],kK),
 ([oP],kK),
 ([rM],dJ),
 ([rN],dJ),
 ([mF],dJ),
 ([jC],dJ),
 ([vt],dJ),
 ([vu],dJ),
 ([vw],dJ),
 ([vz],dJ),
 ([vA],dJ),
 ([vB],dJ),
 ([vC],(lf 7 (.int .u32 (.lit 15)))),
 ([vD],(lf 7 (.int .u32 (.lit 115)))),
 ([vE],dJ),
 ([vF],dJ),
 ([vG],dJ),
 ([vI],dJ),
 ([vJ],dJ),
 ([vK],dJ),
 ([vL],dJ),
 ([vM],dJ),
 ([vN],iI),
 ([vO],iI),
 ([vP],iI),
 ([vQ],iI),
 ([vR],iI),
 ([vS],iI),
 ([vT],iI),
 ([vU],iI),
 ([vV],iI),
 ([vW],iI),
 ([vX],iI),
 ([vY],(lf 7 (.int .u32 (.lit 115))))]
theorem TA:bM (jK Xx) aj 7 4000 198 Yf:=aG (by kernel_rfl)
noncomputable def XF:l9:=(198,bY aj 7 Yf)::Xx
theorem apG{ro:Nat->Obj}(h:aZ ro):aO ro XF:=aO.Dy (apz h) h Tryz.func198 TA
def Yg:List (List V×R Leaf):=[([qw],fG),
 ([yi],fG),
 ([yj],fG),
 ([qx],fG),
 ([mB],fG),
 ([rz],rS),
 ([kI],rT),
 ([oL],oR),
 ([rA],Af),
 ([mC],Ag),
 ([gJ],fG),
 ([kJ],rS),
 ([rB],dY),
 ([rC],rT),
 ([oM],oR),
 ([rD],fG),
 ([rE],rS),
 ([rI],dY),
 ([mD],fG),
 ([iG],dY),
 ([oN],Iu),
 ([rK],rT),
 ([rL],Af),
 ([oO],Ag),
 ([jB],rS),
 ([mE],oR),
 ([oP],oR),
 ([rM],fG),
 ([rN],fG),
 ([mF],rS),
 ([jC],dY),
 ([vt],Iu),
 ([vu],rT),
 ([vw],oR),
 ([vz],oR),
 ([vA],Af),
 ([vB],Ag),
 ([vC],fG),
 ([vD],fG),
 ([vE],fG),
 ([vF],rS),
 ([vG],dY),
 ([vI],Iu),
 ([vJ],rT),
 ([vK],oR),
 ([vL],Af),
 ([vM],Ag),
 ([vN],dY),
 ([vO],dY),
 ([vP],dY),
 ([vQ],dY),
 ([vR],dY),
 ([vS],dY),
 ([vT],dY),
 ([vU],dY),
 ([vV],dY),
 ([vW],dY),
 ([vX],dY),
 ([vY],dY)]
theorem TB:bM (jK XF) aj 7 4000 199 Yg:=aG (by kernel_rfl)
noncomputable def XG:l9:=(199,bY aj 7 Yg)::XF
theorem apI{ro:Nat->Obj}(h:aZ ro):aO ro XG:=aO.Dy (apG h) h Tryz.func199 TB
def Yi:List (List V×R Leaf):=[([qw],bn),
 ([yi],bn),
 ([yj],bn),
 ([qx],bn),
 ([mB],bn),
 ([rz],bn),
 ([kI],bn),
 ([oL],bn),
 ([rA],bn),
 ([mC],bn),
 ([gJ],bn),
 ([kJ],bn),
 ([rB],bn),
 ([rC],bn),
 ([oM],bn),
 ([rD],bn),
 ([rE],bn),
 ([rI],bn),
 ([mD],bn),
 ([iG],bn),
 ([oN],bn),
 ([rK],bn),
 ([rL],bn),
 ([oO],bn),
 ([jB],bn),
 ([mE],bn),
 ([oP],Ae),
 ([rM],bn),
 ([rN],Ae),
 ([mF],bn),
 ([jC],bn),
 ([vt],bn),
 ([vu],bn),
 ([vw],bn),
 ([vz],Ae),
 ([vA],bn),
 ([vB],bn),
 ([vC],bn),
 ([vD],bn),
 ([vE],oQ),
 ([vF],oQ),
 ([vG],oQ),
 ([vI],oQ),
 ([vJ],oQ),
 ([vK],oQ),
 ([vL],oQ),
 ([vM],oQ),
 ([vN],(lf 8 (.int .u32 (.lit 8)))),
 ([vO],(lf 8 (.int .u32 (.lit 12)))),
 ([vP],rT),
 ([vQ],fG),
 ([vR],(lf 8 (.int .u32 (.lit 16)))),
 ([vS],(lf 8 (.int .u32 (.lit 48)))),
 ([vT],(lf 8 (.int .u32 (.lit 32)))),
 ([vU],(lf 8 (.int .u32 (.lit 64)))),
 ([vV],(lf 8 (.int .u32 (.lit 80)))),
 ([vW],(lf 8 (.int .u32 (.lit 96)))),
 ([vX],(lf 8 (.int .u32 (.lit 112)))),
 ([vY],bn)]
theorem TC:bM (jK XG) aj 7 4000 200 Yi:=aG (by kernel_rfl)
noncomputable def XI:l9:=(200,bY aj 7 Yi)::XG
theorem apJ{ro:Nat->Obj}(h:aZ ro):aO ro XI:=aO.Dy (apI h) h Tryz.func200 TC
def X8:List (List V×R Leaf):=[([cF,gJ,kI],(lf 7 (.int .u32 (sg [(2,7,5)] .zero)))),
 ([cF,mD,oM],(lf 7 (.int .u32 (sg [(2,15,5)] .zero)))),
 ([cF,oO,iG],(lf 7 (.int .u32 (sg [(2,20,5)] .zero)))),
 ([cF,jC,jC],(lf 7 (.int .u32 (sg [(2,31,1)] .zero)))),
 ([cF,mD,kJ],(lf 7 (.int .u32 (sg [(2,12,8)] .zero)))),
 ([cF,iG,iG],(lf 7 (.int .u32 (sg [(2,20,1)] .zero)))),
 ([cF,mF,oN],(lf 7 (.int .u32 (sg [(2,21,10)] .zero)))),
 ([cF,kI,kI],(lf 7 (.int .u32 (sg [(2,7,1)] .zero)))),
 ([cF,mF,jB],(lf 7 (.int .u32 (sg [(2,25,6)] .zero)))),
 ([cF,gJ,oL],(lf 7 (.int .u32 (sg [(2,8,4)] .zero)))),
 ([cF,jC,jB],(lf 7 (.int .u32 (sg [(2,25,7)] .zero)))),
 ([cF,jC,iG],(lf 7 (.int .u32 (sg [(2,20,12)] .zero)))),
 ([cF,oP,iG],(lf 7 (.int .u32 (sg [(2,20,8)] .zero)))),
 ([cF,mE,mE],(lf 7 (.int .u32 (sg [(2,26,1)] .zero)))),
 ([cF,jB,jB],(lf 7 (.int .u32 (sg [(2,25,1)] .zero)))),
 ([cF,mC,qw],(lf 7 (.int .u32 (sg [(2,1,10)] .zero)))),
 ([cF,gJ,gJ],(lf 7 (.int .u32 (sg [(2,11,1)] .zero)))),
 ([cF,kJ,kJ],(lf 7 (.int .u32 (sg [(2,12,1)] .zero)))),
 ([cF,mC,mB],(lf 7 (.int .u32 (sg [(2,5,6)] .zero)))),
 ([cF,qx,qw],(lf 7 (.int .u32 (sg [(2,1,4)] .zero)))),
 ([cF,gJ,mB],(lf 7 (.int .u32 (sg [(2,5,7)] .zero)))),
 ([cF,qx,(.int .i64 (.lit 0))],(lf 7 (.int .u32 (sg [(2,0,5)] .zero)))),
 ([cF,gJ,(.int .i64 (.lit 0))],(lf 7 (.int .u32 (sg [(2,0,12)] .zero))))]
theorem Tt:bM (jK XI) aj 7 4000 171 X8:=aG (by kernel_rfl)
noncomputable def Xy:l9:=(171,cb aj 7 X8)::XI
theorem apA{ro:Nat->Obj}(h:aZ ro):aO ro Xy:=aO.par (apJ h) h Tryz.func171 Tt
def Ya:List (List V×R Leaf):=[([Qh],K5),
 ([K6],K5),
 ([K7],(.br (.cube 992 0) (.br oS (.br az ba (.br aw ba (.br oT (.br (.cube 32768 0) (.br (.cube 70334384439296 70334384439296) (lf 8 (.bool (.lit 1))) ba) ba) (.br (.cube 32768 0) (lf 8 (.bool (.cube 70334384439296 0))) ba)))) ba) ba)),
 ([K8],fj),
 ([La],nP),
 ([Lb],nP),
 ([Lc],nP),
 ([Ld],nP),
 ([Le],nP),
 ([Lf],nP),
 ([Lg],fj),
 ([Li],fj),
 ([Lj],fj),
 ([Lk],fj),
 ([Ll],fj),
 ([Lm],Cs),
 ([Ln],Cs),
 ([Lo],Cs),
 ([Lp],fj),
 ([Lq],fj),
 ([Lr],fj),
 ([Ls],fj),
 ([Lt],fj),
 ([Lu],fj),
 ([Lv],Ct),
 ([Lw],Ct),
 ([Lx],Ct),
 ([Ly],cE),
 ([Lz],cE),
 ([LA],cE),
 ([LB],cE),
 ([LC],cE),
 ([LD],cE),
 ([LF],cE),
 ([LG],cE),
 ([LI],cE),
 ([LK],cE),
 ([LN],(.br (.cube 31 0) (.br (.cube 992 0) (.br oS (.br az ba (.br aw ba (.br oT ba (lf 8 (.bool (.cube 70368735789056 0)))))) ba) ba) ba)),
 ([LO],(.br (.cube 31 0) LP ba)),
 ([LQ],cE),
 ([LR],cE),
 ([LS],cE),
 ([LU],cE),
 ([LV],cE),
 ([LW],cE),
 ([LX],cE),
 ([LY],cE),
 ([LZ],(.br oS fk ba)),
 ([Lh],fk),
 ([L4],fk),
 ([L5],fk),
 ([L6],fk),
 ([L7],fk),
 ([L8],fk),
 ([L9],fk),
 ([Ma],fk),
 ([Mb],fk),
 ([Mc],fk),
 ([Md],LP)]
theorem Tv:bM (jK Xy) aj 7 4000 174 Ya:=aG (by kernel_rfl)
noncomputable def XA:l9:=(174,cb aj 7 Ya)::Xy
theorem apC{ro:Nat->Obj}(h:aZ ro):aO ro XA:=aO.par (apA h) h Tryz.func174 Tv
def Yb:List (List V×R Leaf):=[([Qh],(lf 8 (.int .u32 (.wrap .u32 (.add (sg [(1,0,3),(0,0,1),(1,0,2),(0,0,1),(2,0,5),(0,0,3),(2,5,10)] .zero) Iv))))),
 ([K6],(lf 8 (.int .u32 (.wrap .u32 (.add (sg [(1,0,3),(0,0,1),(1,0,1),(0,0,2),(2,0,5),(0,0,3),(2,5,10)] .zero) Iv))))),
 ([K7],(lf 8 (.int .u32 (.wrap .u32 (.add (.wrap .u32 (.add (.wrap .u32 (.add (sg [(1,0,4),(0,0,1),(1,0,2),(2,0,5),(0,0,3),(2,5,10),(0,0,6),(2,35,1)] .zero) (sg [(0,0,21),(2,16,10)] .zero))) (sg [(0,0,20),(2,26,1)] .zero))) (sg [(0,0,12),(2,27,8)] .zero)))))),
 ([K8],(lf 9 (.int .u32 (.wrap .u32 (.add (sg [(1,0,3),(0,0,2),(1,0,2),(2,0,5),(0,0,3),(2,5,10)] .zero) di))))),
 ([La],(lf 9 (.int .u32 (.wrap .u32 (.add (.wrap .u32 (.add (sg [(1,0,2),(0,0,3),(1,0,2),(2,0,5),(0,0,3),(2,5,10),(2,20,6),(2,27,1)] .zero) nQ)) nR))))),
 ([Lb],(lf 9 (.int .u32 (.wrap .u32 (.add (.wrap .u32 (.add (sg [(1,0,2),(0,0,3),(1,0,2),(2,0,5),(1,0,1),(0,0,2),(2,5,10),(2,20,6),(2,27,1)] .zero) nQ)) nR))))),
 ([Lc],(lf 9 (.int .u32 (.wrap .u32 (.add (.wrap .u32 (.add (sg [(1,0,2),(0,0,3),(1,0,2),(2,0,5),(0,0,2),(1,0,1),(2,5,10),(2,20,6),(2,27,1)] .zero) nQ)) nR))))),
 ([Ld],(lf 9 (.int .u32 (.wrap .u32 (.add (.wrap .u32 (.add (sg [(1,0,2),(0,0,3),(1,0,2),(2,0,5),(1,0,1),(0,0,1),(1,0,1),(2,5,10),(2,20,6),(2,27,1)] .zero) nQ)) nR))))),
 ([Le],(lf 9 (.int .u32 (.wrap .u32 (.add (.wrap .u32 (.add (sg [(1,0,2),(0,0,3),(1,0,2),(2,0,5),(0,0,1),(1,0,2),(2,5,10),(2,20,6),(2,27,1)] .zero) nQ)) nR))))),
 ([Lf],(lf 9 (.int .u32 (.wrap .u32 (.add (.wrap .u32 (.add (sg [(1,0,2),(0,0,3),(1,0,2),(2,0,5),(1,0,3),(2,5,10),(2,20,6),(2,27,1)] .zero) nQ)) nR))))),
 ([Lg],(lf 9 (.int .u32 (.wrap .u32 (.add (sg [(1,0,2),(0,0,5),(2,0,5),(0,0,3),(2,5,10)] .zero) di))))),
 ([Li],(lf 9 (.int .u32 (.wrap .u32 (.add (sg [(1,0,2),(0,0,5),(2,0,5),(1,0,1),(0,0,2),(2,5,10)] .zero) di))))),
 ([Lj],(lf 9 (.int .u32 (.wrap .u32 (.add (sg [(1,0,2),(0,0,5),(2,0,5),(0,0,1),(1,0,1),(0,0,1),(2,5,10)] .zero) di))))),
 ([Lk],(lf 9 (.int .u32 (.wrap .u32 (.add (sg [(1,0,2),(0,0,5),(2,0,5),(0,0,2),(1,0,1),(2,5,10)] .zero) di))))),
 ([Ll],(lf 9 (.int .u32 (.wrap .u32 (.add (sg [(1,0,2),(0,0,5),(2,0,5),(1,0,1),(0,0,1),(1,0,1),(2,5,10)] .zero) di))))),
 ([Lm],(lf 9 (.int .u32 (.wrap .u32 (.add (sg [(1,0,2),(0,0,3),(1,0,1),(0,0,1),(2,0,5),(0,0,3),(2,5,10),(2,20,7)] .zero) Cu))))),
 ([Ln],(lf 9 (.int .u32 (.wrap .u32 (.add (sg [(1,0,2),(0,0,3),(1,0,1),(0,0,1),(2,0,5),(1,0,1),(0,0,2),(2,5,10),(2,20,7)] .zero) Cu))))),
 ([Lo],(lf 9 (.int .u32 (.wrap .u32 (.add (sg [(1,0,2),(0,0,3),(1,0,1),(0,0,1),(2,0,5),(0,0,1),(1,0,1),(0,0,1),(2,5,10),(2,20,7)] .zero) Cu))))),
 ([Lp],(lf 9 (.int .u32 (.wrap .u32 (.add (sg [(1,0,2),(0,0,2),(1,0,1),(0,0,2),(2,0,5),(0,0,3),(2,5,10)] .zero) di))))),
 ([Lq],(lf 9 (.int .u32 (.wrap .u32 (.add (sg [(1,0,2),(0,0,2),(1,0,1),(0,0,2),(2,0,5),(0,0,1),(1,0,1),(0,0,1),(2,5,10)] .zero) di))))),
 ([Lr],(lf 9 (.int .u32 (.wrap .u32 (.add (sg [(1,0,2),(0,0,2),(1,0,1),(0,0,2),(2,0,5),(1,0,2),(0,0,1),(2,5,10)] .zero) di))))),
 ([Ls],(lf 9 (.int .u32 (.wrap .u32 (.add (sg [(1,0,2),(0,0,2),(1,0,1),(0,0,2),(2,0,5),(0,0,2),(1,0,1),(2,5,10)] .zero) di))))),
 ([Lt],(lf 9 (.int .u32 (.wrap .u32 (.add (sg [(1,0,2),(0,0,2),(1,0,1),(0,0,2),(2,0,5),(0,0,1),(1,0,2),(2,5,10)] .zero) di))))),
 ([Lu],(lf 9 (.int .u32 (.wrap .u32 (.add (sg [(1,0,2),(0,0,2),(1,0,1),(0,0,2),(2,0,5),(1,0,3),(2,5,10)] .zero) di))))),
 ([Lv],(lf 9 (.int .u32 (.wrap .u32 (.add (sg [(1,0,2),(0,0,2),(1,0,1),(0,0,2),(2,0,5),(1,0,1),(0,0,2),(2,5,10)] .zero) di))))),
 ([Lw],(lf 9 (.int .u32 (.wrap .u32 (.add (sg [(1,0,2),(0,0,2),(1,0,1),(0,0,2),(2,0,5),(1,0,1),(0,0,1),(1,0,1),(2,5,10)] .zero) di))))),
 ([Lx],(lf 9 (.int .u32 (.wrap .u32 (.add (sg [(1,0,2),(0,0,2),(1,0,1),(0,0,2),(2,0,5),(1,0,1),(0,0,1),(1,0,1),(2,5,10),(0,0,5),(1,0,1)] .zero) di))))),
 ([Ly],(lf 9 (.int .u32 (sg [(1,0,2),(0,0,2),(1,0,2),(0,0,1),(2,0,5),(0,0,3),(2,5,10)] .zero)))),
 ([Lz],(lf 9 (.int .u32 (sg [(1,0,2),(0,0,2),(1,0,2),(0,0,1),(2,0,5),(0,0,3),(2,5,10),(0,0,5),(1,0,1)] .zero)))),
 ([LA],(lf 9 (.int .u32 (sg [(1,0,2),(0,0,2),(1,0,2),(0,0,1),(2,0,5),(1,0,1),(0,0,2),(2,5,10)] .zero)))),
 ([LB],(lf 9 (.int .u32 (sg [(1,0,2),(0,0,2),(1,0,2),(0,0,1),(2,0,5),(0,0,1),(1,0,1),(0,0,1),(2,5,10)] .zero)))),
 ([LC],(lf 9 (.int .u32 (sg [(1,0,2),(0,0,2),(1,0,2),(0,0,1),(2,0,5),(1,0,2),(0,0,1),(2,5,10)] .zero)))),
 ([LD],(lf 9 (.int .u32 (sg [(1,0,2),(0,0,2),(1,0,2),(0,0,1),(2,0,5),(0,0,2),(1,0,1),(2,5,10)] .zero)))),
 ([LF],(lf 9 (.int .u32 (sg [(1,0,2),(0,0,2),(1,0,2),(0,0,1),(2,0,5),(1,0,1),(0,0,1),(1,0,1),(2,5,10)] .zero)))),
 ([LG],(lf 9 (.int .u32 (sg [(1,0,2),(0,0,2),(1,0,2),(0,0,1),(2,0,5),(1,0,1),(0,0,1),(1,0,1),(2,5,10),(0,0,5),(1,0,1)] .zero)))),
 ([LI],(lf 9 (.int .u32 (sg [(1,0,2),(0,0,2),(1,0,2),(0,0,1),(2,0,5),(0,0,1),(1,0,2),(2,5,10)] .zero)))),
 ([LK],(lf 9 (.int .u32 (sg [(1,0,2),(0,0,2),(1,0,2),(0,0,1),(2,0,5),(1,0,3),(2,5,10)] .zero)))),
 ([LN],(lf 9 (.int .u32 (.wrap .u32 (.add (sg [(1,0,4),(0,0,3),(2,0,5),(0,0,3),(2,5,10)] .zero) di))))),
 ([LO],(lf 9 (.int .u32 (sg [(1,0,2),(0,0,2),(1,0,3),(2,0,5),(0,0,3),(2,5,10)] .zero)))),
 ([LQ],(lf 9 (.int .u32 (sg [(1,0,2),(0,0,2),(1,0,2),(0,0,1),(2,0,5),(0,0,3),(2,5,10),(1,0,1)] .zero)))),
 ([LR],(lf 9 (.int .u32 (sg [(1,0,2),(0,0,2),(1,0,2),(0,0,1),(2,0,5),(1,0,1),(0,0,2),(2,5,10),(1,0,1)] .zero)))),
 ([LS],(lf 9 (.int .u32 (sg [(1,0,2),(0,0,2),(1,0,2),(0,0,1),(2,0,5),(0,0,1),(1,0,1),(0,0,1),(2,5,10),(1,0,1)] .zero)))),
 ([LU],(lf 9 (.int .u32 (sg [(1,0,2),(0,0,2),(1,0,2),(0,0,1),(2,0,5),(1,0,2),(0,0,1),(2,5,10),(1,0,1)] .zero)))),
 ([LV],(lf 9 (.int .u32 (sg [(1,0,2),(0,0,2),(1,0,2),(0,0,1),(2,0,5),(0,0,2),(1,0,1),(2,5,10),(1,0,1)] .zero)))),
 ([LW],(lf 9 (.int .u32 (sg [(1,0,2),(0,0,2),(1,0,2),(0,0,1),(2,0,5),(1,0,1),(0,0,1),(1,0,1),(2,5,10),(1,0,1)] .zero)))),
 ([LX],(lf 9 (.int .u32 (sg [(1,0,2),(0,0,2),(1,0,2),(0,0,1),(2,0,5),(0,0,1),(1,0,2),(2,5,10),(1,0,1)] .zero)))),
 ([LY],(lf 9 (.int .u32 (sg [(1,0,2),(0,0,2),(1,0,2),(0,0,1),(2,0,5),(1,0,3),(2,5,10),(1,0,1)] .zero)))),
 ([LZ],(.br az (.br aw (lf 10 (.int .u32 (sg [(1,0,4),(0,0,1),(1,0,1),(0,0,1),(2,0,5),(0,0,1),(1,0,1),(0,0,1),(2,5,10),(1,0,2),(0,0,1),(1,0,1)] .zero))) (lf 10 (.int .u32 (sg [(1,0,4),(0,0,1),(1,0,1),(0,0,1),(2,0,5),(0,0,1),(1,0,1),(0,0,1),(2,5,10),(0,0,1),(1,0,1),(0,0,1),(1,0,1)] .zero)))) (.br aw (lf 10 (.int .u32 (sg [(1,0,4),(0,0,1),(1,0,1),(0,0,1),(2,0,5),(0,0,1),(1,0,1),(0,0,1),(2,5,10),(1,0,1),(0,0,2),(1,0,1)] .zero))) (lf 10 (.int .u32 (sg [(1,0,4),(0,0,1),(1,0,1),(0,0,1),(2,0,5),(0,0,1),(1,0,1),(0,0,1),(2,5,10),(0,0,3),(1,0,1)] .zero)))))),
 ([Lh],(.br az (.br aw (lf 10 (.int .u32 (sg [(1,0,4),(0,0,1),(1,0,1),(0,0,1),(2,0,5),(0,0,1),(1,0,1),(0,0,1),(2,5,10),(1,0,4)] .zero))) (lf 10 (.int .u32 (sg [(1,0,4),(0,0,1),(1,0,1),(0,0,1),(2,0,5),(0,0,1),(1,0,1),(0,0,1),(2,5,10),(0,0,1),(1,0,3)] .zero)))) (.br aw (lf 10 (.int .u32 (sg [(1,0,4),(0,0,1),(1,0,1),(0,0,1),(2,0,5),(0,0,1),(1,0,1),(0,0,1),(2,5,10),(1,0,1),(0,0,1),(1,0,2)] .zero))) (lf 10 (.int .u32 (sg [(1,0,4),(0,0,1),(1,0,1),(0,0,1),(2,0,5),(0,0,1),(1,0,1),(0,0,1),(2,5,10),(0,0,2),(1,0,2)] .zero)))))),
 ([L4],(.br az (.br aw (lf 10 (.int .u32 (sg [(1,0,4),(0,0,1),(1,0,1),(0,0,1),(2,0,5),(0,0,1),(1,0,1),(0,0,1),(2,5,10),(1,0,3)] .zero))) (lf 10 (.int .u32 (sg [(1,0,4),(0,0,1),(1,0,1),(0,0,1),(2,0,5),(0,0,1),(1,0,1),(0,0,1),(2,5,10),(0,0,1),(1,0,2)] .zero)))) (.br aw (lf 10 (.int .u32 (sg [(1,0,4),(0,0,1),(1,0,1),(0,0,1),(2,0,5),(0,0,1),(1,0,1),(0,0,1),(2,5,10),(1,0,1),(0,0,1),(1,0,1)] .zero))) (lf 10 (.int .u32 (sg [(1,0,4),(0,0,1),(1,0,1),(0,0,1),(2,0,5),(0,0,1),(1,0,1),(0,0,1),(2,5,10),(0,0,2),(1,0,1)] .zero)))))),
 ([L5],(.br az (.br aw (lf 10 (.int .u32 (sg [(1,0,4),(0,0,1),(1,0,1),(0,0,1),(2,0,5),(0,0,1),(1,0,1),(0,0,1),(2,5,10),(1,0,2)] .zero))) (lf 10 (.int .u32 (sg [(1,0,4),(0,0,1),(1,0,1),(0,0,1),(2,0,5),(0,0,1),(1,0,1),(0,0,1),(2,5,10),(0,0,1),(1,0,1)] .zero)))) (.br aw (lf 10 (.int .u32 (sg [(1,0,4),(0,0,1),(1,0,1),(0,0,1),(2,0,5),(0,0,1),(1,0,1),(0,0,1),(2,5,10),(1,0,1)] .zero))) (lf 10 (.int .u32 (sg [(1,0,4),(0,0,1),(1,0,1),(0,0,1),(2,0,5),(0,0,1),(1,0,1),(0,0,1),(2,5,10)] .zero)))))),
 ([L6],(.br az (.br aw (lf 10 (.int .u32 (sg [(1,0,4),(0,0,1),(1,0,1),(0,0,1),(2,0,5),(0,0,1),(1,0,1),(0,0,1),(2,5,10),(1,0,2),(0,0,2),(1,0,1)] .zero))) (lf 10 (.int .u32 (sg [(1,0,4),(0,0,1),(1,0,1),(0,0,1),(2,0,5),(0,0,1),(1,0,1),(0,0,1),(2,5,10),(0,0,1),(1,0,1),(0,0,2),(1,0,1)] .zero)))) (.br aw (lf 10 (.int .u32 (sg [(1,0,4),(0,0,1),(1,0,1),(0,0,1),(2,0,5),(0,0,1),(1,0,1),(0,0,1),(2,5,10),(1,0,1),(0,0,3),(1,0,1)] .zero))) (lf 10 (.int .u32 (sg [(1,0,4),(0,0,1),(1,0,1),(0,0,1),(2,0,5),(0,0,1),(1,0,1),(0,0,1),(2,5,10),(0,0,4),(1,0,1)] .zero)))))),
 ([L7],(.br az (.br aw (lf 10 (.int .u32 (sg [(1,0,4),(0,0,1),(1,0,1),(0,0,1),(2,0,5),(0,0,1),(1,0,1),(0,0,1),(2,5,10),(1,0,2),(0,0,2),(1,0,2)] .zero))) (lf 10 (.int .u32 (sg [(1,0,4),(0,0,1),(1,0,1),(0,0,1),(2,0,5),(0,0,1),(1,0,1),(0,0,1),(2,5,10),(0,0,1),(1,0,1),(0,0,2),(1,0,2)] .zero)))) (.br aw (lf 10 (.int .u32 (sg [(1,0,4),(0,0,1),(1,0,1),(0,0,1),(2,0,5),(0,0,1),(1,0,1),(0,0,1),(2,5,10),(1,0,1),(0,0,3),(1,0,2)] .zero))) (lf 10 (.int .u32 (sg [(1,0,4),(0,0,1),(1,0,1),(0,0,1),(2,0,5),(0,0,1),(1,0,1),(0,0,1),(2,5,10),(0,0,4),(1,0,2)] .zero)))))),
 ([L8],(.br az (.br aw (lf 10 (.int .u32 (sg [(1,0,4),(0,0,1),(1,0,1),(0,0,1),(2,0,5),(0,0,1),(1,0,1),(0,0,1),(2,5,10),(1,0,2),(0,0,3),(1,0,1)] .zero))) (lf 10 (.int .u32 (sg [(1,0,4),(0,0,1),(1,0,1),(0,0,1),(2,0,5),(0,0,1),(1,0,1),(0,0,1),(2,5,10),(0,0,1),(1,0,1),(0,0,3),(1,0,1)] .zero)))) (.br aw (lf 10 (.int .u32 (sg [(1,0,4),(0,0,1),(1,0,1),(0,0,1),(2,0,5),(0,0,1),(1,0,1),(0,0,1),(2,5,10),(1,0,1),(0,0,4),(1,0,1)] .zero))) (lf 10 (.int .u32 (sg [(1,0,4),(0,0,1),(1,0,1),(0,0,1),(2,0,5),(0,0,1),(1,0,1),(0,0,1),(2,5,10),(0,0,5),(1,0,1)] .zero)))))),
 ([L9],(.br az (.br aw (lf 10 (.int .u32 (sg [(1,0,4),(0,0,1),(1,0,1),(0,0,1),(2,0,5),(0,0,1),(1,0,1),(0,0,1),(2,5,10),(1,0,2),(0,0,4),(1,0,1)] .zero))) (lf 10 (.int .u32 (sg [(1,0,4),(0,0,1),(1,0,1),(0,0,1),(2,0,5),(0,0,1),(1,0,1),(0,0,1),(2,5,10),(0,0,1),(1,0,1),(0,0,4),(1,0,1)] .zero)))) (.br aw (lf 10 (.int .u32 (sg [(1,0,4),(0,0,1),(1,0,1),(0,0,1),(2,0,5),(0,0,1),(1,0,1),(0,0,1),(2,5,10),(1,0,1),(0,0,5),(1,0,1)] .zero))) (lf 10 (.int .u32 (sg [(1,0,4),(0,0,1),(1,0,1),(0,0,1),(2,0,5),(0,0,1),(1,0,1),(0,0,1),(2,5,10),(0,0,6),(1,0,1)] .zero)))))),
 ([Ma],(.br az (.br aw (lf 10 (.int .u32 (sg [(1,0,4),(0,0,1),(1,0,1),(0,0,1),(2,0,5),(0,0,1),(1,0,1),(0,0,1),(2,5,10),(1,0,2),(0,0,2),(1,0,1),(0,0,1),(1,0,1)] .zero))) (lf 10 (.int .u32 (sg [(1,0,4),(0,0,1),(1,0,1),(0,0,1),(2,0,5),(0,0,1),(1,0,1),(0,0,1),(2,5,10),(0,0,1),(1,0,1),(0,0,2),(1,0,1),(0,0,1),(1,0,1)] .zero)))) (.br aw (lf 10 (.int .u32 (sg [(1,0,4),(0,0,1),(1,0,1),(0,0,1),(2,0,5),(0,0,1),(1,0,1),(0,0,1),(2,5,10),(1,0,1),(0,0,3),(1,0,1),(0,0,1),(1,0,1)] .zero))) (lf 10 (.int .u32 (sg [(1,0,4),(0,0,1),(1,0,1),(0,0,1),(2,0,5),(0,0,1),(1,0,1),(0,0,1),(2,5,10),(0,0,4),(1,0,1),(0,0,1),(1,0,1)] .zero)))))),
 ([Mb],(.br az (.br aw (lf 10 (.int .u32 (sg [(1,0,4),(0,0,1),(1,0,1),(0,0,1),(2,0,5),(0,0,1),(1,0,1),(0,0,1),(2,5,10),(1,0,2),(0,0,3),(1,0,2)] .zero))) (lf 10 (.int .u32 (sg [(1,0,4),(0,0,1),(1,0,1),(0,0,1),(2,0,5),(0,0,1),(1,0,1),(0,0,1),(2,5,10),(0,0,1),(1,0,1),(0,0,3),(1,0,2)] .zero)))) (.br aw (lf 10 (.int .u32 (sg [(1,0,4),(0,0,1),(1,0,1),(0,0,1),(2,0,5),(0,0,1),(1,0,1),(0,0,1),(2,5,10),(1,0,1),(0,0,4),(1,0,2)] .zero))) (lf 10 (.int .u32 (sg [(1,0,4),(0,0,1),(1,0,1),(0,0,1),(2,0,5),(0,0,1),(1,0,1),(0,0,1),(2,5,10),(0,0,5),(1,0,2)] .zero)))))),
 ([Mc],(.br az (.br aw (lf 10 (.int .u32 (sg [(1,0,4),(0,0,1),(1,0,1),(0,0,1),(2,0,5),(0,0,1),(1,0,1),(0,0,1),(2,5,10),(1,0,2),(0,0,2),(1,0,3)] .zero))) (lf 10 (.int .u32 (sg [(1,0,4),(0,0,1),(1,0,1),(0,0,1),(2,0,5),(0,0,1),(1,0,1),(0,0,1),(2,5,10),(0,0,1),(1,0,1),(0,0,2),(1,0,3)] .zero)))) (.br aw (lf 10 (.int .u32 (sg [(1,0,4),(0,0,1),(1,0,1),(0,0,1),(2,0,5),(0,0,1),(1,0,1),(0,0,1),(2,5,10),(1,0,1),(0,0,3),(1,0,3)] .zero))) (lf 10 (.int .u32 (sg [(1,0,4),(0,0,1),(1,0,1),(0,0,1),(2,0,5),(0,0,1),(1,0,1),(0,0,1),(2,5,10),(0,0,4),(1,0,3)] .zero)))))),
 ([Md],(lf 9 (.int .u32 (.add (sg [(1,0,2),(0,0,2),(1,0,3),(2,0,5),(0,0,1),(1,0,1),(0,0,1),(2,5,10)] .zero) (.lit 4047503360)))))]
theorem Tw:bM (jK XA) aj 7 4000 175 Yb:=aG (by kernel_rfl)
noncomputable def Ra:l9:=(175,cb aj 7 Yb)::XA
theorem Qr{ro:Nat->Obj}(h:aZ ro):aO ro Ra:=aO.par (apC h) h Tryz.func175 Tw
end Go.Proofs.YtgcbnjpeifigaaaGreatDoor
