/- What Decode leans on leaves, by runs. No condition. -/
import Derived.Test.YtmickljjofbmiaaGreatDoorADoor
set_option maxRecDepth 100000
namespace Go.Proofs.YtmickljjofbmiaaGreatDoor
open Go Go.Proofs
set_option maxRecDepth 100000
def Nn:V:=.str (.slit [108,114])
def Fy:V:=.int .u32 (.lit (28799))
def AY:V:=.func (.func 150) [] []
def mL:V:=.func (.func 140) [] []
def TO:V:=.func (.func 183) [] [(.ptr 7 0),(.ptr 8 0)]
def nQ:R Leaf:=lf 7 (.int .u32 (.lit 1))
def pL:V:=.int .i64 (.lit 1)
def wW:V:=.int .i64 (.lit 2)
def w8:V:=.int .i64 (.lit 3)
def qd:V:=.int .i64 (.lit 4)
def mn:V:=.int .i64 (.lit 5)
def zf:R Leaf:=lf 7 (.int .u32 (.lit 32))
def qP:V:=.int .i64 (.lit 6)
def kg:V:=.int .i64 (.lit 7)
def nR:V:=.int .i64 (.lit 8)
def qV:V:=.int .i64 (.lit 9)
def l8:V:=.int .i64 (.lit 10)
def fh:V:=.int .i64 (.lit 11)
def kB:V:=.int .i64 (.lit 12)
def qS:V:=.int .i64 (.lit 13)
def qI:V:=.int .i64 (.lit 14)
def oy:V:=.int .i64 (.lit 15)
def qw:V:=.int .i64 (.lit 16)
def qE:V:=.int .i64 (.lit 17)
def rz:V:=.int .i64 (.lit 18)
def mz:V:=.int .i64 (.lit 19)
def gL:V:=.int .i64 (.lit 20)
def nZ:V:=.int .i64 (.lit 21)
def qZ:V:=.int .i64 (.lit 22)
def qO:V:=.int .i64 (.lit 23)
def ox:V:=.int .i64 (.lit 24)
def iZ:V:=.int .i64 (.lit 25)
def mj:V:=.int .i64 (.lit 26)
def n8:V:=.int .i64 (.lit 27)
def qG:V:=.int .i64 (.lit 28)
def q9:V:=.int .i64 (.lit 29)
def mq:V:=.int .i64 (.lit 30)
def iX:V:=.int .i64 (.lit 31)
def qY:R Leaf:=lf 7 (.int .u8 (.lit 108))
def rC:R Leaf:=lf 7 (.int .u8 (.lit 98))
def Fi:R Leaf:=lf 7 (.int .u8 (.lit 115))
def qW:R Leaf:=lf 7 (.int .u8 (.lit 105))
def EE:R Leaf:=lf 7 (.int .u8 (.lit 104))
def dw:R Leaf:=lf 7 (.int .u8 (.lit 114))
def ui:V:=.int .i64 (.lit 32)
def tT:V:=.int .i64 (.lit 33)
def tL:V:=.int .i64 (.lit 34)
def uW:V:=.int .i64 (.lit 35)
def ux:V:=.int .i64 (.lit 36)
def uN:V:=.int .i64 (.lit 37)
def uD:V:=.int .i64 (.lit 38)
def tD:V:=.int .i64 (.lit 39)
def th:V:=.int .i64 (.lit 40)
def tO:V:=.int .i64 (.lit 41)
def tV:V:=.int .i64 (.lit 42)
def tf:V:=.int .i64 (.lit 43)
def uE:V:=.int .i64 (.lit 44)
def uF:V:=.int .i64 (.lit 45)
def tU:V:=.int .i64 (.lit 46)
def tj:V:=.int .i64 (.lit 47)
def tz:V:=.int .i64 (.lit 48)
def u9:V:=.int .i64 (.lit 49)
def jd:R Leaf:=lf 7 (.int .u8 (.lit 97))
def u0:V:=.int .i64 (.lit 50)
def tX:V:=.int .i64 (.lit 51)
def ti:V:=.int .i64 (.lit 52)
def uU:V:=.int .i64 (.lit 53)
def uo:V:=.int .i64 (.lit 54)
def tK:V:=.int .i64 (.lit 55)
def s8:V:=.int .i64 (.lit 56)
def tP:V:=.int .i64 (.lit 57)
def uj:V:=.int .i64 (.lit 58)
def uu:V:=.int .i64 (.lit 59)
def q7:R Leaf:=lf 7 (.int .u32 (.lit 99))
def tG:R Leaf:=lf 7 (.int .u32 (.lit 3))
def Gv:R Leaf:=lf 7 (.int .u32 (.lit 35))
def j7:R Leaf:=lf 7 (.int .u32 (.lit 19))
def dx:R Leaf:=lf 7 (.int .u32 (.lit 51))
def gT:R Leaf:=lf 7 (.int .u32 (.lit 47))
def fe:R Leaf:=lf 8 (.int .u32 (.lit 0))
def qR:R Leaf:=lf 8 (.int .u32 (.lit 1))
def qJ:R Leaf:=lf 8 (.int .u32 (.lit 4))
def ow:R Leaf:=lf 8 (.int .u32 (.lit 5))
def yE:R Leaf:=lf 8 (.int .u32 (.lit 6))
def zc:R Leaf:=lf 8 (.int .u32 (.lit 7))
def dN:R Leaf:=lf 8 (.int .u32 (.lit 2))
def Ga:R Leaf:=lf 8 (.int .u32 (.lit 3))
def a7:R Leaf:=lf 7 (.int .u32 (.lit 0))
def cm:V:=.int .u32 (sg [(2,0,32)] .zero)
def aI:V:=.int .i64 (sg [(2,0,5)] .zero)
def aG:V:=.int .i64 (sg [(2,5,5)] .zero)
def aF:V:=.int .i64 (sg [(2,10,5)] .zero)
def Gk:X:=sg [(2,15,32)] .zero
def aJ:V:=.int .u32 Gk
def ay:X:=.cube 140737488355328 140737488355328
def ar:X:=.cube 281474976710656 281474976710656
def ON:V:=.agg [pL,aI,aG,aF,aJ,(.bool ay),(.bool ar)]
def oe:X:=.cube 31744 0
def aW:R Leaf:=lf 8 (.bool (.lit 0))
def oF:X:=.cube 70368744177664 70368744177664
def JX:R Leaf:=.br (.cube 992 0) (.br oe (.br ay aW (.br ar aW (.br oF (lf 8 (.bool (.cube 134184960 0))) (lf 8 (.bool (.cube 134184960 0)))))) aW) aW
def G6:V:=.agg [wW,aI,aG,aF,aJ,(.bool ay),(.bool ar)]
def Jo:V:=.agg [w8,aI,aG,aF,aJ,(.bool ay),(.bool ar)]
def Lk:V:=.agg [qd,aI,aG,aF,aJ,(.bool ay),(.bool ar)]
def Ky:R Leaf:=.br ay aW (.br ar aW (.br oF (.br (.cube 70368677068800 70368677068800) (lf 8 (.bool (.lit 1))) aW) (lf 8 (.bool (.cube 70368677068800 0)))))
def eK:R Leaf:=.br oe Ky aW
def IC:V:=.agg [mn,aI,aG,aF,aJ,(.bool ay),(.bool ar)]
def nf:R Leaf:=.br (.cube 31 0) (.br ay aW (.br ar aW (.br oF (.br (.cube 32768 0) (.br (.cube 70368609959936 70368609959936) (lf 8 (.bool (.lit 1))) aW) aW) (.br (.cube 32768 0) (lf 8 (.bool (.cube 70368609959936 0))) aW)))) aW
def KX:V:=.agg [qP,aI,aG,aF,aJ,(.bool ay),(.bool ar)]
def Jx:V:=.agg [kg,aI,aG,aF,aJ,(.bool ay),(.bool ar)]
def JZ:V:=.agg [nR,aI,aG,aF,aJ,(.bool ay),(.bool ar)]
def KA:V:=.agg [qV,aI,aG,aF,aJ,(.bool ay),(.bool ar)]
def JW:V:=.agg [l8,aI,aG,aF,aJ,(.bool ay),(.bool ar)]
def Jl:V:=.agg [fh,aI,aG,aF,aJ,(.bool ay),(.bool ar)]
def IN:V:=.agg [kB,aI,aG,aF,aJ,(.bool ay),(.bool ar)]
def IM:V:=.agg [qS,aI,aG,aF,aJ,(.bool ay),(.bool ar)]
def KL:V:=.agg [qI,aI,aG,aF,aJ,(.bool ay),(.bool ar)]
def KV:V:=.agg [oy,aI,aG,aF,aJ,(.bool ay),(.bool ar)]
def KE:V:=.agg [qw,aI,aG,aF,aJ,(.bool ay),(.bool ar)]
def BN:R Leaf:=.br (.cube 31 0) Ky aW
def K2:V:=.agg [qE,aI,aG,aF,aJ,(.bool ay),(.bool ar)]
def JM:V:=.agg [rz,aI,aG,aF,aJ,(.bool ay),(.bool ar)]
def Jq:V:=.agg [mz,aI,aG,aF,aJ,(.bool ay),(.bool ar)]
def KI:V:=.agg [gL,aI,aG,aF,aJ,(.bool ay),(.bool ar)]
def Ke:V:=.agg [nZ,aI,aG,aF,aJ,(.bool ay),(.bool ar)]
def Ii:V:=.agg [qZ,aI,aG,aF,aJ,(.bool ay),(.bool ar)]
def Ic:V:=.agg [qO,aI,aG,aF,aJ,(.bool ay),(.bool ar)]
def IJ:V:=.agg [ox,aI,aG,aF,aJ,(.bool ay),(.bool ar)]
def IP:V:=.agg [iZ,aI,aG,aF,aJ,(.bool ay),(.bool ar)]
def zS:R Leaf:=.br oe (.br ay aW (.br ar aW (.br oF aW (lf 8 (.bool (.cube 70368743129088 0)))))) aW
def Jg:V:=.agg [mj,aI,aG,aF,aJ,(.bool ay),(.bool ar)]
def IW:V:=.agg [n8,aI,aG,aF,aJ,(.bool ay),(.bool ar)]
def JT:V:=.agg [qG,aI,aG,aF,aJ,(.bool ay),(.bool ar)]
def eP:R Leaf:=.br oF aW (lf 8 (.bool (.cube 70368744144896 0)))
def cj:R Leaf:=.br ay aW (.br ar aW eP)
def K1:V:=.agg [q9,aI,aG,aF,aJ,(.bool ay),(.bool ar)]
def Kn:V:=.agg [mq,aI,aG,aF,aJ,(.bool ay),(.bool ar)]
def GZ:V:=.agg [iX,aI,aG,aF,aJ,(.bool ay),(.bool ar)]
def I9:V:=.agg [ui,aI,aG,aF,aJ,(.bool ay),(.bool ar)]
def JO:V:=.agg [tT,aI,aG,aF,aJ,(.bool ay),(.bool ar)]
def JL:V:=.agg [tL,aI,aG,aF,aJ,(.bool ay),(.bool ar)]
def Im:V:=.agg [uW,aI,aG,aF,aJ,(.bool ay),(.bool ar)]
def Jk:V:=.agg [ux,aI,aG,aF,aJ,(.bool ay),(.bool ar)]
def K8:V:=.agg [uN,aI,aG,aF,aJ,(.bool ay),(.bool ar)]
def KZ:V:=.agg [uD,aI,aG,aF,aJ,(.bool ay),(.bool ar)]
def GQ:V:=.agg [tD,aI,aG,aF,aJ,(.bool ay),(.bool ar)]
def Lc:R Leaf:=.br (.cube 992 0) (.br oe cj aW) aW
def J2:V:=.agg [th,aI,aG,aF,aJ,(.bool ay),(.bool ar)]
def Kj:V:=.agg [tO,aI,aG,aF,aJ,(.bool ay),(.bool ar)]
def G3:V:=.agg [tV,aI,aG,aF,aJ,(.bool ay),(.bool ar)]
def Iq:V:=.agg [tf,aI,aG,aF,aJ,(.bool ay),(.bool ar)]
def JK:V:=.agg [uE,aI,aG,aF,aJ,(.bool ay),(.bool ar)]
def JV:V:=.agg [uF,aI,aG,aF,aJ,(.bool ay),(.bool ar)]
def Kv:V:=.agg [tU,aI,aG,aF,aJ,(.bool ay),(.bool ar)]
def JP:V:=.agg [tj,aI,aG,aF,aJ,(.bool ay),(.bool ar)]
def GG:V:=.agg [tz,aI,aG,aF,aJ,(.bool ay),(.bool ar)]
def Gh:V:=.agg [u9,aI,aG,aF,aJ,(.bool ay),(.bool ar)]
def Ka:V:=.agg [u0,aI,aG,aF,aJ,(.bool ay),(.bool ar)]
def IV:V:=.agg [tX,aI,aG,aF,aJ,(.bool ay),(.bool ar)]
def J6:V:=.agg [ti,aI,aG,aF,aJ,(.bool ay),(.bool ar)]
def GU:V:=.agg [uU,aI,aG,aF,aJ,(.bool ay),(.bool ar)]
def Kc:V:=.agg [uo,aI,aG,aF,aJ,(.bool ay),(.bool ar)]
def GD:V:=.agg [tK,aI,aG,aF,aJ,(.bool ay),(.bool ar)]
def KT:V:=.agg [s8,aI,aG,aF,aJ,(.bool ay),(.bool ar)]
def La:V:=.agg [tP,aI,aG,aF,aJ,(.bool ay),(.bool ar)]
def G2:V:=.agg [uj,aI,aG,aF,aJ,(.bool ay),(.bool ar)]
def JQ:V:=.agg [uu,aI,aG,aF,aJ,(.bool ay),(.bool ar)]
def cV:X:=sg [(0,0,20),(2,15,12)] .zero
def nE:X:=sg [(0,0,8),(2,16,4)] .zero
def nt:X:=sg [(0,0,7),(2,26,1)] .zero
def BF:X:=sg [(0,0,7),(2,15,5)] .zero
def Vu:List (List V×R Leaf):=[([(.str (.slit [98,101,113,32,98,110,101,32,98,108,116,32,98,103,101,32,98,108,116,117,32,98,103,101,117]))],(.ok {v:=(.slice 7 0 6 (.known 6)),objs:=[(7,.cells [(.str (.slit [98,101,113])),(.str (.slit [98,110,101])),(.str (.slit [98,108,116])),(.str (.slit [98,103,101])),(.str (.slit [98,108,116,117])),(.str (.slit [98,103,101,117]))] 9 none)],n:=8})),
 ([(.str (.slit [108,98,32,108,104,32,108,119,32,108,98,117,32,108,104,117]))],(.ok {v:=(.slice 7 0 5 (.known 5)),objs:=[(7,.cells [(.str (.slit [108,98])),(.str (.slit [108,104])),(.str (.slit [108,119])),(.str (.slit [108,98,117])),(.str (.slit [108,104,117]))] 9 none)],n:=8})),
 ([(.str (.slit [115,98,32,115,104,32,115,119]))],(.ok {v:=(.slice 7 0 3 (.known 3)),objs:=[(7,.cells [(.str (.slit [115,98])),(.str (.slit [115,104])),(.str (.slit [115,119]))] 9 none)],n:=8})),
 ([(.str (.slit [97,100,100,105,32,115,108,116,105,32,115,108,116,105,117,32,120,111,114,105,32,111,114,105,32,97,110,100,105]))],(.ok {v:=(.slice 7 0 6 (.known 6)),objs:=[(7,.cells [(.str (.slit [97,100,100,105])),(.str (.slit [115,108,116,105])),(.str (.slit [115,108,116,105,117])),(.str (.slit [120,111,114,105])),(.str (.slit [111,114,105])),(.str (.slit [97,110,100,105]))] 9 none)],n:=8})),
 ([(.str (.slit [115,108,108,105,32,115,114,108,105]))],(.ok {v:=(.slice 7 0 2 (.known 2)),objs:=[(7,.cells [(.str (.slit [115,108,108,105])),(.str (.slit [115,114,108,105]))] 9 none)],n:=8})),
 ([(.str (.slit [115,108,108,32,115,108,116,32,115,108,116,117,32,120,111,114,32,115,114,108]))],(.ok {v:=(.slice 7 0 5 (.known 5)),objs:=[(7,.cells [(.str (.slit [115,108,108])),(.str (.slit [115,108,116])),(.str (.slit [115,108,116,117])),(.str (.slit [120,111,114])),(.str (.slit [115,114,108]))] 9 none)],n:=8})),
 ([(.str (.slit [111,114,32,97,110,100]))],(.ok {v:=(.slice 7 0 2 (.known 2)),objs:=[(7,.cells [(.str (.slit [111,114])),(.str (.slit [97,110,100]))] 9 none)],n:=8})),
 ([(.str (.slit [109,117,108,32,109,117,108,104,32,109,117,108,104,115,117,32,109,117,108,104,117,32,100,105,118,32,100,105,118,117,32,114,101,109,32,114,101,109,117]))],(.ok {v:=(.slice 7 0 8 (.known 8)),objs:=[(7,.cells [(.str (.slit [109,117,108])),(.str (.slit [109,117,108,104])),(.str (.slit [109,117,108,104,115,117])),(.str (.slit [109,117,108,104,117])),(.str (.slit [100,105,118])),(.str (.slit [100,105,118,117])),(.str (.slit [114,101,109])),(.str (.slit [114,101,109,117]))] 9 none)],n:=8})),
 ([Nn],(.ok {v:=(.slice 7 0 1 (.known 1)),objs:=[(7,.cells [Nn] 9 none)],n:=8})),
 ([(.str (.slit [115,99,32,97,109,111,115,119,97,112,32,97,109,111,97,100,100,32,97,109,111,120,111,114,32,97,109,111,97,110,100,32,97,109,111,111,114,32,97,109,111,109,105,110,32,97,109,111,109,97,120,32,97,109,111,109,105,110,117,32,97,109,111,109,97,120,117]))],(.ok {v:=(.slice 7 0 10 (.known 10)),objs:=[(7,.cells [(.str (.slit [115,99])),(.str (.slit [97,109,111,115,119,97,112])),(.str (.slit [97,109,111,97,100,100])),(.str (.slit [97,109,111,120,111,114])),(.str (.slit [97,109,111,97,110,100])),(.str (.slit [97,109,111,111,114])),(.str (.slit [97,109,111,109,105,110])),(.str (.slit [97,109,111,109,97,120])),(.str (.slit [97,109,111,109,105,110,117])),(.str (.slit [97,109,111,109,97,120,117]))] 9 none)],n:=8}))]
theorem Qe:bG (kQ []) aj 7 4000 114 Vu:=aE (by kernel_rfl)
noncomputable def UX:kP:=(114,bW aj 7 Vu)::[]
theorem ank{ro:Nat→Obj}(h:aZ ro):aM ro UX:=aM.Rm .nil h Tryz.func114 Qe
def Vp:List (List V×R Leaf):=[([],(.ok {v:=(.map 14),objs:=[(21,.cells [(.int .i64 (.lit (4094)))] 2 none),(20,.cells [(.int .i64 (.lit (-4096)))] 2 none),(16,.cells [(.int .i64 (.lit (1048574)))] 2 none),(15,.cells [(.int .i64 (.lit (-1048576)))] 2 none),(8,.cells [(.int .i64 (.lit (2047)))] 2 none),(7,.cells [(.int .i64 (.lit (-2048)))] 2 none),(17,.cells [(.func (.func 183) [] [(.ptr 15 0),(.ptr 16 0)])] 145 none),(19,.cells [(.int .i64 (.lit (31)))] 2 none),(18,.cells [(.int .i64 (.lit (0)))] 2 none),(22,.cells [(.func (.func 183) [] [(.ptr 20 0),(.ptr 21 0)])] 145 none),(24,.cells [(.int .i64 (.lit (2047)))] 2 none),(23,.cells [(.int .i64 (.lit (-2048)))] 2 none),(26,.cells [(.int .i64 (.lit (255)))] 2 none),(25,.cells [(.int .i64 (.lit (0)))] 2 none),(14,.map [((.str (.slit [102,101,110,99,101])),(.agg [(.int .u32 (.lit (4027580415))),(.bool (.lit (0))),(.bool (.lit (0))),(.bool (.lit (0))),(.bool (.lit (0))),(.func (.func 183) [] [(.ptr 25 0),(.ptr 26 0)]),(.func (.func 171) [] []),(.func (.func 172) [] []),(.func (.func 148) [] [])])),((.str (.slit [115])),(.agg [Fy,(.bool (.lit (0))),(.bool (.lit (1))),(.bool (.lit (1))),(.bool (.lit (0))),(.func (.func 183) [] [(.ptr 23 0),(.ptr 24 0)]),(.func (.func 168) [] []),(.func (.func 169) [] []),(.func (.func 170) [] [])])),((.str (.slit [98])),(.agg [Fy,(.bool (.lit (0))),(.bool (.lit (1))),(.bool (.lit (1))),(.bool (.lit (0))),(.func (.func 189) [] [(.ptr 22 0)]),(.func (.func 165) [] []),(.func (.func 166) [] []),(.func (.func 167) [] [])])),((.str (.slit [115,104,105,102,116])),(.agg [(.int .u32 (.lit (4261441663))),(.bool (.lit (1))),(.bool (.lit (1))),(.bool (.lit (0))),(.bool (.lit (0))),(.func (.func 183) [] [(.ptr 18 0),(.ptr 19 0)]),(.func (.func 163) [] []),(.func (.func 164) [] []),(.func (.func 145) [] [])])),((.str (.slit [106])),(.agg [(.int .u32 (.lit (127))),(.bool (.lit (1))),(.bool (.lit (0))),(.bool (.lit (0))),(.bool (.lit (0))),(.func (.func 189) [] [(.ptr 17 0)]),(.func (.func 160) [] []),(.func (.func 161) [] []),(.func (.func 162) [] [])])),((.str (.slit [99,115,114])),(.agg [(.int .u32 (.lit (4294963327))),(.bool (.lit (1))),(.bool (.lit (0))),(.bool (.lit (0))),(.bool (.lit (0))),AY,mL,mL,(.func (.func 174) [] [])])),((.str (.slit [97])),(.agg [(.int .u32 (.lit (4160778367))),(.bool (.lit (1))),(.bool (.lit (1))),(.bool (.lit (1))),(.bool (.lit (1))),AY,mL,mL,(.func (.func 152) [] [])])),(Nn,(.agg [(.int .u32 (.lit (4193284223))),(.bool (.lit (1))),(.bool (.lit (1))),(.bool (.lit (0))),(.bool (.lit (1))),AY,mL,mL,(.func (.func 153) [] [])])),((.str (.slit [97,108,108])),(.agg [(.int .u32 (.lit (4294967295))),(.bool (.lit (0))),(.bool (.lit (0))),(.bool (.lit (0))),(.bool (.lit (0))),AY,mL,mL,(.func (.func 173) [] [])])),((.str (.slit [114])),(.agg [(.int .u32 (.lit (4261441663))),(.bool (.lit (1))),(.bool (.lit (1))),(.bool (.lit (1))),(.bool (.lit (0))),AY,mL,mL,(.func (.func 151) [] [])])),((.str (.slit [108,111,97,100])),(.agg [Fy,(.bool (.lit (1))),(.bool (.lit (1))),(.bool (.lit (0))),(.bool (.lit (0))),TO,(.func (.func 144) [] []),(.func (.func 141) [] []),(.func (.func 149) [] [])])),((.str (.slit [105])),(.agg [Fy,(.bool (.lit (1))),(.bool (.lit (1))),(.bool (.lit (0))),(.bool (.lit (0))),TO,(.func (.func 144) [] []),(.func (.func 141) [] []),(.func (.func 145) [] [])])),((.str (.slit [117])),(.agg [(.int .u32 (.lit (127))),(.bool (.lit (1))),(.bool (.lit (0))),(.bool (.lit (0))),(.bool (.lit (0))),(.func (.func 154) [] []),(.func (.func 155) [] []),(.func (.func 156) [] []),(.func (.func 157) [] [])]))])],n:=27}))]
theorem PQ:bG (kQ UX) aj 7 4000 111 Vp:=aE (by kernel_rfl)
noncomputable def W2:kP:=(111,bW aj 7 Vp)::UX
theorem af5{ro:Nat→Obj}(h:aZ ro):aM ro W2:=aM.Rm (ank h) h Tryz.func111 PQ
def abd:List (List V×R Leaf):=[([(.int .i64 (.lit 0))],nQ),
 ([pL],(lf 7 (.int .u32 (.lit 2)))),
 ([wW],(lf 7 (.int .u32 (.lit 4)))),
 ([w8],(lf 7 (.int .u32 (.lit 8)))),
 ([qd],(lf 7 (.int .u32 (.lit 16)))),
 ([mn],zf),
 ([qP],(lf 7 (.int .u32 (.lit 64)))),
 ([kg],(lf 7 (.int .u32 (.lit 128)))),
 ([nR],(lf 7 (.int .u32 (.lit 256)))),
 ([qV],(lf 7 (.int .u32 (.lit 512)))),
 ([l8],(lf 7 (.int .u32 (.lit 1024)))),
 ([fh],(lf 7 (.int .u32 (.lit 2048)))),
 ([kB],(lf 7 (.int .u32 (.lit 4096)))),
 ([qS],(lf 7 (.int .u32 (.lit 8192)))),
 ([qI],(lf 7 (.int .u32 (.lit 16384)))),
 ([oy],(lf 7 (.int .u32 (.lit 32768)))),
 ([qw],(lf 7 (.int .u32 (.lit 65536)))),
 ([qE],(lf 7 (.int .u32 (.lit 131072)))),
 ([rz],(lf 7 (.int .u32 (.lit 262144)))),
 ([mz],(lf 7 (.int .u32 (.lit 524288)))),
 ([gL],(lf 7 (.int .u32 (.lit 1048576)))),
 ([nZ],(lf 7 (.int .u32 (.lit 2097152)))),
 ([qZ],(lf 7 (.int .u32 (.lit 4194304)))),
 ([qO],(lf 7 (.int .u32 (.lit 8388608)))),
 ([ox],(lf 7 (.int .u32 (.lit 16777216)))),
 ([iZ],(lf 7 (.int .u32 (.lit 33554432)))),
 ([mj],(lf 7 (.int .u32 (.lit 67108864)))),
 ([n8],(lf 7 (.int .u32 (.lit 134217728)))),
 ([qG],(lf 7 (.int .u32 (.lit 268435456)))),
 ([q9],(lf 7 (.int .u32 (.lit 536870912)))),
 ([mq],(lf 7 (.int .u32 (.lit 1073741824)))),
 ([iX],(lf 7 (.int .u32 (.lit 2147483648))))]
theorem Ss:bG (kQ W2) aj 7 4000 70 abd:=aE (by kernel_rfl)
noncomputable def acB:kP:=(70,bW aj 7 abd)::W2
theorem aqZ{ro:Nat→Obj}(h:aZ ro):aM ro acB:=aM.Rm (af5 h) h Tryz.func70 Ss
def abx:List (List V×R Leaf):=[([pL],(lf 7 (.int .u8 (.lit 117)))),
 ([wW],(lf 7 (.int .u8 (.lit 117)))),
 ([w8],(lf 7 (.int .u8 (.lit 106)))),
 ([qd],qY),
 ([mn],rC),
 ([qP],rC),
 ([kg],rC),
 ([nR],rC),
 ([qV],rC),
 ([l8],rC),
 ([fh],qY),
 ([kB],qY),
 ([qS],qY),
 ([qI],qY),
 ([oy],qY),
 ([qw],Fi),
 ([qE],Fi),
 ([rz],Fi),
 ([mz],qW),
 ([gL],qW),
 ([nZ],qW),
 ([qZ],qW),
 ([qO],qW),
 ([ox],qW),
 ([iZ],EE),
 ([mj],EE),
 ([n8],EE),
 ([qG],dw),
 ([q9],dw),
 ([mq],dw),
 ([iX],dw),
 ([ui],dw),
 ([tT],dw),
 ([tL],dw),
 ([uW],dw),
 ([ux],dw),
 ([uN],dw),
 ([uD],(lf 7 (.int .u8 (.lit 102)))),
 ([tD],(lf 7 (.int .u8 (.lit 101)))),
 ([th],dw),
 ([tO],dw),
 ([tV],dw),
 ([tf],dw),
 ([uE],dw),
 ([uF],dw),
 ([tU],dw),
 ([tj],dw),
 ([tz],(lf 7 (.int .u8 (.lit 113)))),
 ([u9],jd),
 ([u0],jd),
 ([tX],jd),
 ([ti],jd),
 ([uU],jd),
 ([uo],jd),
 ([tK],jd),
 ([s8],jd),
 ([tP],jd),
 ([uj],jd),
 ([uu],(lf 7 (.int .u8 (.lit 99))))]
theorem T9:bG (kQ acB) aj 7 4000 67 abx:=aE (by kernel_rfl)
noncomputable def aek:kP:=(67,bW aj 7 abx)::acB
theorem aor{ro:Nat→Obj}(h:aZ ro):aM ro aek:=aM.Rm (aqZ h) h Tryz.func67 T9
def aaY:List (List V×R Leaf):=[([pL],(lf 7 (.int .u32 (.lit 55)))),
 ([wW],(lf 7 (.int .u32 (.lit 23)))),
 ([w8],(lf 7 (.int .u32 (.lit 111)))),
 ([qd],(lf 7 (.int .u32 (.lit 103)))),
 ([mn],q7),
 ([qP],q7),
 ([kg],q7),
 ([nR],q7),
 ([qV],q7),
 ([l8],q7),
 ([fh],tG),
 ([kB],tG),
 ([qS],tG),
 ([qI],tG),
 ([oy],tG),
 ([qw],Gv),
 ([qE],Gv),
 ([rz],Gv),
 ([mz],j7),
 ([gL],j7),
 ([nZ],j7),
 ([qZ],j7),
 ([qO],j7),
 ([ox],j7),
 ([iZ],j7),
 ([mj],j7),
 ([n8],j7),
 ([qG],dx),
 ([q9],dx),
 ([mq],dx),
 ([iX],dx),
 ([ui],dx),
 ([tT],dx),
 ([tL],dx),
 ([uW],dx),
 ([ux],dx),
 ([uN],dx),
 ([uD],(lf 7 (.int .u32 (.lit 15)))),
 ([tD],(lf 7 (.int .u32 (.lit 115)))),
 ([th],dx),
 ([tO],dx),
 ([tV],dx),
 ([tf],dx),
 ([uE],dx),
 ([uF],dx),
 ([tU],dx),
 ([tj],dx),
 ([tz],gT),
 ([u9],gT),
 ([u0],gT),
 ([tX],gT),
 ([ti],gT),
 ([uU],gT),
 ([uo],gT),
 ([tK],gT),
 ([s8],gT),
 ([tP],gT),
 ([uj],gT),
 ([uu],(lf 7 (.int .u32 (.lit 115))))]
theorem UR:bG (kQ aek) aj 7 4000 84 aaY:=aE (by kernel_rfl)
noncomputable def aeR:kP:=(84,bW aj 7 aaY)::aek
theorem aqP{ro:Nat→Obj}(h:aZ ro):aM ro aeR:=aM.Rm (aor h) h Tryz.func84 UR
def aa0:List (List V×R Leaf):=[([pL],fe),
 ([wW],fe),
 ([w8],fe),
 ([qd],fe),
 ([mn],fe),
 ([qP],qR),
 ([kg],qJ),
 ([nR],ow),
 ([qV],yE),
 ([l8],zc),
 ([fh],fe),
 ([kB],qR),
 ([qS],dN),
 ([qI],qJ),
 ([oy],ow),
 ([qw],fe),
 ([qE],qR),
 ([rz],dN),
 ([mz],fe),
 ([gL],dN),
 ([nZ],Ga),
 ([qZ],qJ),
 ([qO],yE),
 ([ox],zc),
 ([iZ],qR),
 ([mj],ow),
 ([n8],ow),
 ([qG],fe),
 ([q9],fe),
 ([mq],qR),
 ([iX],dN),
 ([ui],Ga),
 ([tT],qJ),
 ([tL],ow),
 ([uW],ow),
 ([ux],yE),
 ([uN],zc),
 ([uD],fe),
 ([tD],fe),
 ([th],fe),
 ([tO],qR),
 ([tV],dN),
 ([tf],Ga),
 ([uE],qJ),
 ([uF],ow),
 ([tU],yE),
 ([tj],zc),
 ([tz],dN),
 ([u9],dN),
 ([u0],dN),
 ([tX],dN),
 ([ti],dN),
 ([uU],dN),
 ([uo],dN),
 ([tK],dN),
 ([s8],dN),
 ([tP],dN),
 ([uj],dN),
 ([uu],dN)]
theorem Rn:bG (kQ aeR) aj 7 4000 85 aa0:=aE (by kernel_rfl)
noncomputable def ach:kP:=(85,bW aj 7 aa0)::aeR
theorem aq2{ro:Nat→Obj}(h:aZ ro):aM ro ach:=aM.Rm (aqP h) h Tryz.func85 Rn
def abk:List (List V×R Leaf):=[([pL],a7),
 ([wW],a7),
 ([w8],a7),
 ([qd],a7),
 ([mn],a7),
 ([qP],a7),
 ([kg],a7),
 ([nR],a7),
 ([qV],a7),
 ([l8],a7),
 ([fh],a7),
 ([kB],a7),
 ([qS],a7),
 ([qI],a7),
 ([oy],a7),
 ([qw],a7),
 ([qE],a7),
 ([rz],a7),
 ([mz],a7),
 ([gL],a7),
 ([nZ],a7),
 ([qZ],a7),
 ([qO],a7),
 ([ox],a7),
 ([iZ],a7),
 ([mj],a7),
 ([n8],zf),
 ([qG],a7),
 ([q9],zf),
 ([mq],a7),
 ([iX],a7),
 ([ui],a7),
 ([tT],a7),
 ([tL],a7),
 ([uW],zf),
 ([ux],a7),
 ([uN],a7),
 ([uD],a7),
 ([tD],a7),
 ([th],nQ),
 ([tO],nQ),
 ([tV],nQ),
 ([tf],nQ),
 ([uE],nQ),
 ([uF],nQ),
 ([tU],nQ),
 ([tj],nQ),
 ([tz],(lf 8 (.int .u32 (.lit 8)))),
 ([u9],(lf 8 (.int .u32 (.lit 12)))),
 ([u0],qJ),
 ([tX],fe),
 ([ti],(lf 8 (.int .u32 (.lit 16)))),
 ([uU],(lf 8 (.int .u32 (.lit 48)))),
 ([uo],(lf 8 (.int .u32 (.lit 32)))),
 ([tK],(lf 8 (.int .u32 (.lit 64)))),
 ([s8],(lf 8 (.int .u32 (.lit 80)))),
 ([tP],(lf 8 (.int .u32 (.lit 96)))),
 ([uj],(lf 8 (.int .u32 (.lit 112)))),
 ([uu],a7)]
theorem UQ:bG (kQ ach) aj 7 4000 86 abk:=aE (by kernel_rfl)
noncomputable def aei:kP:=(86,bW aj 7 abk)::ach
theorem aoh{ro:Nat→Obj}(h:aZ ro):aM ro aei:=aM.Rm (aq2 h) h Tryz.func86 UQ
def abK:List (List V×R Leaf):=[([cm,fh,kg],(lf 7 (.int .u32 (sg [(2,7,5)] .zero)))),
 ([cm,mz,oy],(lf 7 (.int .u32 (sg [(2,15,5)] .zero)))),
 ([cm,ox,gL],(lf 7 (.int .u32 (sg [(2,20,5)] .zero)))),
 ([cm,iX,iX],(lf 7 (.int .u32 (sg [(2,31,1)] .zero)))),
 ([cm,mz,kB],(lf 7 (.int .u32 (sg [(2,12,8)] .zero)))),
 ([cm,gL,gL],(lf 7 (.int .u32 (sg [(2,20,1)] .zero)))),
 ([cm,mq,nZ],(lf 7 (.int .u32 (sg [(2,21,10)] .zero)))),
 ([cm,kg,kg],(lf 7 (.int .u32 (sg [(2,7,1)] .zero)))),
 ([cm,mq,iZ],(lf 7 (.int .u32 (sg [(2,25,6)] .zero)))),
 ([cm,fh,nR],(lf 7 (.int .u32 (sg [(2,8,4)] .zero)))),
 ([cm,iX,iZ],(lf 7 (.int .u32 (sg [(2,25,7)] .zero)))),
 ([cm,iX,gL],(lf 7 (.int .u32 (sg [(2,20,12)] .zero)))),
 ([cm,n8,gL],(lf 7 (.int .u32 (sg [(2,20,8)] .zero)))),
 ([cm,mj,mj],(lf 7 (.int .u32 (sg [(2,26,1)] .zero)))),
 ([cm,iZ,iZ],(lf 7 (.int .u32 (sg [(2,25,1)] .zero)))),
 ([cm,l8,pL],(lf 7 (.int .u32 (sg [(2,1,10)] .zero)))),
 ([cm,fh,fh],(lf 7 (.int .u32 (sg [(2,11,1)] .zero)))),
 ([cm,kB,kB],(lf 7 (.int .u32 (sg [(2,12,1)] .zero)))),
 ([cm,l8,mn],(lf 7 (.int .u32 (sg [(2,5,6)] .zero)))),
 ([cm,qd,pL],(lf 7 (.int .u32 (sg [(2,1,4)] .zero)))),
 ([cm,fh,mn],(lf 7 (.int .u32 (sg [(2,5,7)] .zero)))),
 ([cm,qd,(.int .i64 (.lit 0))],(lf 7 (.int .u32 (sg [(2,0,5)] .zero)))),
 ([cm,fh,(.int .i64 (.lit 0))],(lf 7 (.int .u32 (sg [(2,0,12)] .zero))))]
theorem XJ:bG (kQ aei) aj 7 4000 68 abK:=aE (by kernel_rfl)
noncomputable def ac8:kP:=(68,bX aj 7 abK)::aei
theorem arp{ro:Nat→Obj}(h:aZ ro):aM ro ac8:=aM.par (aoh h) h Tryz.func68 XJ
def abq:List (List V×R Leaf):=[([ON],JX),
 ([G6],JX),
 ([Jo],(.br (.cube 992 0) (.br oe (.br ay aW (.br ar aW (.br oF (.br (.cube 32768 0) (.br (.cube 70334384439296 70334384439296) (lf 8 (.bool (.lit 1))) aW) aW) (.br (.cube 32768 0) (lf 8 (.bool (.cube 70334384439296 0))) aW)))) aW) aW)),
 ([Lk],eK),
 ([IC],nf),
 ([KX],nf),
 ([Jx],nf),
 ([JZ],nf),
 ([KA],nf),
 ([JW],nf),
 ([Jl],eK),
 ([IN],eK),
 ([IM],eK),
 ([KL],eK),
 ([KV],eK),
 ([KE],BN),
 ([K2],BN),
 ([JM],BN),
 ([Jq],eK),
 ([KI],eK),
 ([Ke],eK),
 ([Ii],eK),
 ([Ic],eK),
 ([IJ],eK),
 ([IP],zS),
 ([Jg],zS),
 ([IW],zS),
 ([JT],cj),
 ([K1],cj),
 ([Kn],cj),
 ([GZ],cj),
 ([I9],cj),
 ([JO],cj),
 ([JL],cj),
 ([Im],cj),
 ([Jk],cj),
 ([K8],cj),
 ([KZ],(.br (.cube 31 0) (.br (.cube 992 0) (.br oe (.br ay aW (.br ar aW (.br oF aW (lf 8 (.bool (.cube 70368735789056 0)))))) aW) aW) aW)),
 ([GQ],(.br (.cube 31 0) Lc aW)),
 ([J2],cj),
 ([Kj],cj),
 ([G3],cj),
 ([Iq],cj),
 ([JK],cj),
 ([JV],cj),
 ([Kv],cj),
 ([JP],cj),
 ([GG],(.br oe eP aW)),
 ([Gh],eP),
 ([Ka],eP),
 ([IV],eP),
 ([J6],eP),
 ([GU],eP),
 ([Kc],eP),
 ([GD],eP),
 ([KT],eP),
 ([La],eP),
 ([G2],eP),
 ([JQ],Lc)]
theorem Rw:bG (kQ ac8) aj 7 4000 71 abq:=aE (by kernel_rfl)
noncomputable def adJ:kP:=(71,bX aj 7 abq)::ac8
theorem aph{ro:Nat→Obj}(h:aZ ro):aM ro adJ:=aM.par (arp h) h Tryz.func71 Rw
def abf:List (List V×R Leaf):=[([ON],(lf 8 (.int .u32 (.wrap .u32 (.add (sg [(1,0,3),(0,0,1),(1,0,2),(0,0,1),(2,0,5),(0,0,3),(2,5,10)] .zero) Gk))))),
 ([G6],(lf 8 (.int .u32 (.wrap .u32 (.add (sg [(1,0,3),(0,0,1),(1,0,1),(0,0,2),(2,0,5),(0,0,3),(2,5,10)] .zero) Gk))))),
 ([Jo],(lf 8 (.int .u32 (.wrap .u32 (.add (.wrap .u32 (.add (.wrap .u32 (.add (sg [(1,0,4),(0,0,1),(1,0,2),(2,0,5),(0,0,3),(2,5,10),(0,0,6),(2,35,1)] .zero) (sg [(0,0,21),(2,16,10)] .zero))) (sg [(0,0,20),(2,26,1)] .zero))) (sg [(0,0,12),(2,27,8)] .zero)))))),
 ([Lk],(lf 9 (.int .u32 (.wrap .u32 (.add (sg [(1,0,3),(0,0,2),(1,0,2),(2,0,5),(0,0,3),(2,5,10)] .zero) cV))))),
 ([IC],(lf 9 (.int .u32 (.wrap .u32 (.add (.wrap .u32 (.add (sg [(1,0,2),(0,0,3),(1,0,2),(2,0,5),(0,0,3),(2,5,10),(2,20,6),(2,27,1)] .zero) nE)) nt))))),
 ([KX],(lf 9 (.int .u32 (.wrap .u32 (.add (.wrap .u32 (.add (sg [(1,0,2),(0,0,3),(1,0,2),(2,0,5),(1,0,1),(0,0,2),(2,5,10),(2,20,6),(2,27,1)] .zero) nE)) nt))))),
 ([Jx],(lf 9 (.int .u32 (.wrap .u32 (.add (.wrap .u32 (.add (sg [(1,0,2),(0,0,3),(1,0,2),(2,0,5),(0,0,2),(1,0,1),(2,5,10),(2,20,6),(2,27,1)] .zero) nE)) nt))))),
 ([JZ],(lf 9 (.int .u32 (.wrap .u32 (.add (.wrap .u32 (.add (sg [(1,0,2),(0,0,3),(1,0,2),(2,0,5),(1,0,1),(0,0,1),(1,0,1),(2,5,10),(2,20,6),(2,27,1)] .zero) nE)) nt))))),
 ([KA],(lf 9 (.int .u32 (.wrap .u32 (.add (.wrap .u32 (.add (sg [(1,0,2),(0,0,3),(1,0,2),(2,0,5),(0,0,1),(1,0,2),(2,5,10),(2,20,6),(2,27,1)] .zero) nE)) nt))))),
 ([JW],(lf 9 (.int .u32 (.wrap .u32 (.add (.wrap .u32 (.add (sg [(1,0,2),(0,0,3),(1,0,2),(2,0,5),(1,0,3),(2,5,10),(2,20,6),(2,27,1)] .zero) nE)) nt))))),
 ([Jl],(lf 9 (.int .u32 (.wrap .u32 (.add (sg [(1,0,2),(0,0,5),(2,0,5),(0,0,3),(2,5,10)] .zero) cV))))),
 ([IN],(lf 9 (.int .u32 (.wrap .u32 (.add (sg [(1,0,2),(0,0,5),(2,0,5),(1,0,1),(0,0,2),(2,5,10)] .zero) cV))))),
 ([IM],(lf 9 (.int .u32 (.wrap .u32 (.add (sg [(1,0,2),(0,0,5),(2,0,5),(0,0,1),(1,0,1),(0,0,1),(2,5,10)] .zero) cV))))),
 ([KL],(lf 9 (.int .u32 (.wrap .u32 (.add (sg [(1,0,2),(0,0,5),(2,0,5),(0,0,2),(1,0,1),(2,5,10)] .zero) cV))))),
 ([KV],(lf 9 (.int .u32 (.wrap .u32 (.add (sg [(1,0,2),(0,0,5),(2,0,5),(1,0,1),(0,0,1),(1,0,1),(2,5,10)] .zero) cV))))),
 ([KE],(lf 9 (.int .u32 (.wrap .u32 (.add (sg [(1,0,2),(0,0,3),(1,0,1),(0,0,1),(2,0,5),(0,0,3),(2,5,10),(2,20,7)] .zero) BF))))),
 ([K2],(lf 9 (.int .u32 (.wrap .u32 (.add (sg [(1,0,2),(0,0,3),(1,0,1),(0,0,1),(2,0,5),(1,0,1),(0,0,2),(2,5,10),(2,20,7)] .zero) BF))))),
 ([JM],(lf 9 (.int .u32 (.wrap .u32 (.add (sg [(1,0,2),(0,0,3),(1,0,1),(0,0,1),(2,0,5),(0,0,1),(1,0,1),(0,0,1),(2,5,10),(2,20,7)] .zero) BF))))),
 ([Jq],(lf 9 (.int .u32 (.wrap .u32 (.add (sg [(1,0,2),(0,0,2),(1,0,1),(0,0,2),(2,0,5),(0,0,3),(2,5,10)] .zero) cV))))),
 ([KI],(lf 9 (.int .u32 (.wrap .u32 (.add (sg [(1,0,2),(0,0,2),(1,0,1),(0,0,2),(2,0,5),(0,0,1),(1,0,1),(0,0,1),(2,5,10)] .zero) cV))))),
 ([Ke],(lf 9 (.int .u32 (.wrap .u32 (.add (sg [(1,0,2),(0,0,2),(1,0,1),(0,0,2),(2,0,5),(1,0,2),(0,0,1),(2,5,10)] .zero) cV))))),
 ([Ii],(lf 9 (.int .u32 (.wrap .u32 (.add (sg [(1,0,2),(0,0,2),(1,0,1),(0,0,2),(2,0,5),(0,0,2),(1,0,1),(2,5,10)] .zero) cV))))),
 ([Ic],(lf 9 (.int .u32 (.wrap .u32 (.add (sg [(1,0,2),(0,0,2),(1,0,1),(0,0,2),(2,0,5),(0,0,1),(1,0,2),(2,5,10)] .zero) cV))))),
 ([IJ],(lf 9 (.int .u32 (.wrap .u32 (.add (sg [(1,0,2),(0,0,2),(1,0,1),(0,0,2),(2,0,5),(1,0,3),(2,5,10)] .zero) cV))))),
 ([IP],(lf 9 (.int .u32 (.wrap .u32 (.add (sg [(1,0,2),(0,0,2),(1,0,1),(0,0,2),(2,0,5),(1,0,1),(0,0,2),(2,5,10)] .zero) cV))))),
 ([Jg],(lf 9 (.int .u32 (.wrap .u32 (.add (sg [(1,0,2),(0,0,2),(1,0,1),(0,0,2),(2,0,5),(1,0,1),(0,0,1),(1,0,1),(2,5,10)] .zero) cV))))),
 ([IW],(lf 9 (.int .u32 (.wrap .u32 (.add (sg [(1,0,2),(0,0,2),(1,0,1),(0,0,2),(2,0,5),(1,0,1),(0,0,1),(1,0,1),(2,5,10),(0,0,5),(1,0,1)] .zero) cV))))),
 ([JT],(lf 9 (.int .u32 (sg [(1,0,2),(0,0,2),(1,0,2),(0,0,1),(2,0,5),(0,0,3),(2,5,10)] .zero)))),
 ([K1],(lf 9 (.int .u32 (sg [(1,0,2),(0,0,2),(1,0,2),(0,0,1),(2,0,5),(0,0,3),(2,5,10),(0,0,5),(1,0,1)] .zero)))),
 ([Kn],(lf 9 (.int .u32 (sg [(1,0,2),(0,0,2),(1,0,2),(0,0,1),(2,0,5),(1,0,1),(0,0,2),(2,5,10)] .zero)))),
 ([GZ],(lf 9 (.int .u32 (sg [(1,0,2),(0,0,2),(1,0,2),(0,0,1),(2,0,5),(0,0,1),(1,0,1),(0,0,1),(2,5,10)] .zero)))),
 ([I9],(lf 9 (.int .u32 (sg [(1,0,2),(0,0,2),(1,0,2),(0,0,1),(2,0,5),(1,0,2),(0,0,1),(2,5,10)] .zero)))),
 ([JO],(lf 9 (.int .u32 (sg [(1,0,2),(0,0,2),(1,0,2),(0,0,1),(2,0,5),(0,0,2),(1,0,1),(2,5,10)] .zero)))),
 ([JL],(lf 9 (.int .u32 (sg [(1,0,2),(0,0,2),(1,0,2),(0,0,1),(2,0,5),(1,0,1),(0,0,1),(1,0,1),(2,5,10)] .zero)))),
 ([Im],(lf 9 (.int .u32 (sg [(1,0,2),(0,0,2),(1,0,2),(0,0,1),(2,0,5),(1,0,1),(0,0,1),(1,0,1),(2,5,10),(0,0,5),(1,0,1)] .zero)))),
 ([Jk],(lf 9 (.int .u32 (sg [(1,0,2),(0,0,2),(1,0,2),(0,0,1),(2,0,5),(0,0,1),(1,0,2),(2,5,10)] .zero)))),
 ([K8],(lf 9 (.int .u32 (sg [(1,0,2),(0,0,2),(1,0,2),(0,0,1),(2,0,5),(1,0,3),(2,5,10)] .zero)))),
 ([KZ],(lf 9 (.int .u32 (.wrap .u32 (.add (sg [(1,0,4),(0,0,3),(2,0,5),(0,0,3),(2,5,10)] .zero) cV))))),
 ([GQ],(lf 9 (.int .u32 (sg [(1,0,2),(0,0,2),(1,0,3),(2,0,5),(0,0,3),(2,5,10)] .zero)))),
 ([J2],(lf 9 (.int .u32 (sg [(1,0,2),(0,0,2),(1,0,2),(0,0,1),(2,0,5),(0,0,3),(2,5,10),(1,0,1)] .zero)))),
 ([Kj],(lf 9 (.int .u32 (sg [(1,0,2),(0,0,2),(1,0,2),(0,0,1),(2,0,5),(1,0,1),(0,0,2),(2,5,10),(1,0,1)] .zero)))),
 ([G3],(lf 9 (.int .u32 (sg [(1,0,2),(0,0,2),(1,0,2),(0,0,1),(2,0,5),(0,0,1),(1,0,1),(0,0,1),(2,5,10),(1,0,1)] .zero)))),
 ([Iq],(lf 9 (.int .u32 (sg [(1,0,2),(0,0,2),(1,0,2),(0,0,1),(2,0,5),(1,0,2),(0,0,1),(2,5,10),(1,0,1)] .zero)))),
 ([JK],(lf 9 (.int .u32 (sg [(1,0,2),(0,0,2),(1,0,2),(0,0,1),(2,0,5),(0,0,2),(1,0,1),(2,5,10),(1,0,1)] .zero)))),
 ([JV],(lf 9 (.int .u32 (sg [(1,0,2),(0,0,2),(1,0,2),(0,0,1),(2,0,5),(1,0,1),(0,0,1),(1,0,1),(2,5,10),(1,0,1)] .zero)))),
 ([Kv],(lf 9 (.int .u32 (sg [(1,0,2),(0,0,2),(1,0,2),(0,0,1),(2,0,5),(0,0,1),(1,0,2),(2,5,10),(1,0,1)] .zero)))),
 ([JP],(lf 9 (.int .u32 (sg [(1,0,2),(0,0,2),(1,0,2),(0,0,1),(2,0,5),(1,0,3),(2,5,10),(1,0,1)] .zero)))),
 ([GG],(.br ay (.br ar (lf 10 (.int .u32 (sg [(1,0,4),(0,0,1),(1,0,1),(0,0,1),(2,0,5),(0,0,1),(1,0,1),(0,0,1),(2,5,10),(1,0,2),(0,0,1),(1,0,1)] .zero))) (lf 10 (.int .u32 (sg [(1,0,4),(0,0,1),(1,0,1),(0,0,1),(2,0,5),(0,0,1),(1,0,1),(0,0,1),(2,5,10),(0,0,1),(1,0,1),(0,0,1),(1,0,1)] .zero)))) (.br ar (lf 10 (.int .u32 (sg [(1,0,4),(0,0,1),(1,0,1),(0,0,1),(2,0,5),(0,0,1),(1,0,1),(0,0,1),(2,5,10),(1,0,1),(0,0,2),(1,0,1)] .zero))) (lf 10 (.int .u32 (sg [(1,0,4),(0,0,1),(1,0,1),(0,0,1),(2,0,5),(0,0,1),(1,0,1),(0,0,1),(2,5,10),(0,0,3),(1,0,1)] .zero)))))),
 ([Gh],(.br ay (.br ar (lf 10 (.int .u32 (sg [(1,0,4),(0,0,1),(1,0,1),(0,0,1),(2,0,5),(0,0,1),(1,0,1),(0,0,1),(2,5,10),(1,0,4)] .zero))) (lf 10 (.int .u32 (sg [(1,0,4),(0,0,1),(1,0,1),(0,0,1),(2,0,5),(0,0,1),(1,0,1),(0,0,1),(2,5,10),(0,0,1),(1,0,3)] .zero)))) (.br ar (lf 10 (.int .u32 (sg [(1,0,4),(0,0,1),(1,0,1),(0,0,1),(2,0,5),(0,0,1),(1,0,1),(0,0,1),(2,5,10),(1,0,1),(0,0,1),(1,0,2)] .zero))) (lf 10 (.int .u32 (sg [(1,0,4),(0,0,1),(1,0,1),(0,0,1),(2,0,5),(0,0,1),(1,0,1),(0,0,1),(2,5,10),(0,0,2),(1,0,2)] .zero)))))),
 ([Ka],(.br ay (.br ar (lf 10 (.int .u32 (sg [(1,0,4),(0,0,1),(1,0,1),(0,0,1),(2,0,5),(0,0,1),(1,0,1),(0,0,1),(2,5,10),(1,0,3)] .zero))) (lf 10 (.int .u32 (sg [(1,0,4),(0,0,1),(1,0,1),(0,0,1),(2,0,5),(0,0,1),(1,0,1),(0,0,1),(2,5,10),(0,0,1),(1,0,2)] .zero)))) (.br ar (lf 10 (.int .u32 (sg [(1,0,4),(0,0,1),(1,0,1),(0,0,1),(2,0,5),(0,0,1),(1,0,1),(0,0,1),(2,5,10),(1,0,1),(0,0,1),(1,0,1)] .zero))) (lf 10 (.int .u32 (sg [(1,0,4),(0,0,1),(1,0,1),(0,0,1),(2,0,5),(0,0,1),(1,0,1),(0,0,1),(2,5,10),(0,0,2),(1,0,1)] .zero)))))),
 ([IV],(.br ay (.br ar (lf 10 (.int .u32 (sg [(1,0,4),(0,0,1),(1,0,1),(0,0,1),(2,0,5),(0,0,1),(1,0,1),(0,0,1),(2,5,10),(1,0,2)] .zero))) (lf 10 (.int .u32 (sg [(1,0,4),(0,0,1),(1,0,1),(0,0,1),(2,0,5),(0,0,1),(1,0,1),(0,0,1),(2,5,10),(0,0,1),(1,0,1)] .zero)))) (.br ar (lf 10 (.int .u32 (sg [(1,0,4),(0,0,1),(1,0,1),(0,0,1),(2,0,5),(0,0,1),(1,0,1),(0,0,1),(2,5,10),(1,0,1)] .zero))) (lf 10 (.int .u32 (sg [(1,0,4),(0,0,1),(1,0,1),(0,0,1),(2,0,5),(0,0,1),(1,0,1),(0,0,1),(2,5,10)] .zero)))))),
 ([J6],(.br ay (.br ar (lf 10 (.int .u32 (sg [(1,0,4),(0,0,1),(1,0,1),(0,0,1),(2,0,5),(0,0,1),(1,0,1),(0,0,1),(2,5,10),(1,0,2),(0,0,2),(1,0,1)] .zero))) (lf 10 (.int .u32 (sg [(1,0,4),(0,0,1),(1,0,1),(0,0,1),(2,0,5),(0,0,1),(1,0,1),(0,0,1),(2,5,10),(0,0,1),(1,0,1),(0,0,2),(1,0,1)] .zero)))) (.br ar (lf 10 (.int .u32 (sg [(1,0,4),(0,0,1),(1,0,1),(0,0,1),(2,0,5),(0,0,1),(1,0,1),(0,0,1),(2,5,10),(1,0,1),(0,0,3),(1,0,1)] .zero))) (lf 10 (.int .u32 (sg [(1,0,4),(0,0,1),(1,0,1),(0,0,1),(2,0,5),(0,0,1),(1,0,1),(0,0,1),(2,5,10),(0,0,4),(1,0,1)] .zero)))))),
 ([GU],(.br ay (.br ar (lf 10 (.int .u32 (sg [(1,0,4),(0,0,1),(1,0,1),(0,0,1),(2,0,5),(0,0,1),(1,0,1),(0,0,1),(2,5,10),(1,0,2),(0,0,2),(1,0,2)] .zero))) (lf 10 (.int .u32 (sg [(1,0,4),(0,0,1),(1,0,1),(0,0,1),(2,0,5),(0,0,1),(1,0,1),(0,0,1),(2,5,10),(0,0,1),(1,0,1),(0,0,2),(1,0,2)] .zero)))) (.br ar (lf 10 (.int .u32 (sg [(1,0,4),(0,0,1),(1,0,1),(0,0,1),(2,0,5),(0,0,1),(1,0,1),(0,0,1),(2,5,10),(1,0,1),(0,0,3),(1,0,2)] .zero))) (lf 10 (.int .u32 (sg [(1,0,4),(0,0,1),(1,0,1),(0,0,1),(2,0,5),(0,0,1),(1,0,1),(0,0,1),(2,5,10),(0,0,4),(1,0,2)] .zero)))))),
 ([Kc],(.br ay (.br ar (lf 10 (.int .u32 (sg [(1,0,4),(0,0,1),(1,0,1),(0,0,1),(2,0,5),(0,0,1),(1,0,1),(0,0,1),(2,5,10),(1,0,2),(0,0,3),(1,0,1)] .zero))) (lf 10 (.int .u32 (sg [(1,0,4),(0,0,1),(1,0,1),(0,0,1),(2,0,5),(0,0,1),(1,0,1),(0,0,1),(2,5,10),(0,0,1),(1,0,1),(0,0,3),(1,0,1)] .zero)))) (.br ar (lf 10 (.int .u32 (sg [(1,0,4),(0,0,1),(1,0,1),(0,0,1),(2,0,5),(0,0,1),(1,0,1),(0,0,1),(2,5,10),(1,0,1),(0,0,4),(1,0,1)] .zero))) (lf 10 (.int .u32 (sg [(1,0,4),(0,0,1),(1,0,1),(0,0,1),(2,0,5),(0,0,1),(1,0,1),(0,0,1),(2,5,10),(0,0,5),(1,0,1)] .zero)))))),
 ([GD],(.br ay (.br ar (lf 10 (.int .u32 (sg [(1,0,4),(0,0,1),(1,0,1),(0,0,1),(2,0,5),(0,0,1),(1,0,1),(0,0,1),(2,5,10),(1,0,2),(0,0,4),(1,0,1)] .zero))) (lf 10 (.int .u32 (sg [(1,0,4),(0,0,1),(1,0,1),(0,0,1),(2,0,5),(0,0,1),(1,0,1),(0,0,1),(2,5,10),(0,0,1),(1,0,1),(0,0,4),(1,0,1)] .zero)))) (.br ar (lf 10 (.int .u32 (sg [(1,0,4),(0,0,1),(1,0,1),(0,0,1),(2,0,5),(0,0,1),(1,0,1),(0,0,1),(2,5,10),(1,0,1),(0,0,5),(1,0,1)] .zero))) (lf 10 (.int .u32 (sg [(1,0,4),(0,0,1),(1,0,1),(0,0,1),(2,0,5),(0,0,1),(1,0,1),(0,0,1),(2,5,10),(0,0,6),(1,0,1)] .zero)))))),
 ([KT],(.br ay (.br ar (lf 10 (.int .u32 (sg [(1,0,4),(0,0,1),(1,0,1),(0,0,1),(2,0,5),(0,0,1),(1,0,1),(0,0,1),(2,5,10),(1,0,2),(0,0,2),(1,0,1),(0,0,1),(1,0,1)] .zero))) (lf 10 (.int .u32 (sg [(1,0,4),(0,0,1),(1,0,1),(0,0,1),(2,0,5),(0,0,1),(1,0,1),(0,0,1),(2,5,10),(0,0,1),(1,0,1),(0,0,2),(1,0,1),(0,0,1),(1,0,1)] .zero)))) (.br ar (lf 10 (.int .u32 (sg [(1,0,4),(0,0,1),(1,0,1),(0,0,1),(2,0,5),(0,0,1),(1,0,1),(0,0,1),(2,5,10),(1,0,1),(0,0,3),(1,0,1),(0,0,1),(1,0,1)] .zero))) (lf 10 (.int .u32 (sg [(1,0,4),(0,0,1),(1,0,1),(0,0,1),(2,0,5),(0,0,1),(1,0,1),(0,0,1),(2,5,10),(0,0,4),(1,0,1),(0,0,1),(1,0,1)] .zero)))))),
 ([La],(.br ay (.br ar (lf 10 (.int .u32 (sg [(1,0,4),(0,0,1),(1,0,1),(0,0,1),(2,0,5),(0,0,1),(1,0,1),(0,0,1),(2,5,10),(1,0,2),(0,0,3),(1,0,2)] .zero))) (lf 10 (.int .u32 (sg [(1,0,4),(0,0,1),(1,0,1),(0,0,1),(2,0,5),(0,0,1),(1,0,1),(0,0,1),(2,5,10),(0,0,1),(1,0,1),(0,0,3),(1,0,2)] .zero)))) (.br ar (lf 10 (.int .u32 (sg [(1,0,4),(0,0,1),(1,0,1),(0,0,1),(2,0,5),(0,0,1),(1,0,1),(0,0,1),(2,5,10),(1,0,1),(0,0,4),(1,0,2)] .zero))) (lf 10 (.int .u32 (sg [(1,0,4),(0,0,1),(1,0,1),(0,0,1),(2,0,5),(0,0,1),(1,0,1),(0,0,1),(2,5,10),(0,0,5),(1,0,2)] .zero)))))),
 ([G2],(.br ay (.br ar (lf 10 (.int .u32 (sg [(1,0,4),(0,0,1),(1,0,1),(0,0,1),(2,0,5),(0,0,1),(1,0,1),(0,0,1),(2,5,10),(1,0,2),(0,0,2),(1,0,3)] .zero))) (lf 10 (.int .u32 (sg [(1,0,4),(0,0,1),(1,0,1),(0,0,1),(2,0,5),(0,0,1),(1,0,1),(0,0,1),(2,5,10),(0,0,1),(1,0,1),(0,0,2),(1,0,3)] .zero)))) (.br ar (lf 10 (.int .u32 (sg [(1,0,4),(0,0,1),(1,0,1),(0,0,1),(2,0,5),(0,0,1),(1,0,1),(0,0,1),(2,5,10),(1,0,1),(0,0,3),(1,0,3)] .zero))) (lf 10 (.int .u32 (sg [(1,0,4),(0,0,1),(1,0,1),(0,0,1),(2,0,5),(0,0,1),(1,0,1),(0,0,1),(2,5,10),(0,0,4),(1,0,3)] .zero)))))),
 ([JQ],(lf 9 (.int .u32 (.add (sg [(1,0,2),(0,0,2),(1,0,3),(2,0,5),(0,0,1),(1,0,1),(0,0,1),(2,5,10)] .zero) (.lit 4047503360)))))]
theorem T4:bG (kQ adJ) aj 7 4000 72 abf:=aE (by kernel_rfl)
noncomputable def aac:kP:=(72,bX aj 7 abf)::adJ
theorem Yu{ro:Nat→Obj}(h:aZ ro):aM ro aac:=aM.par (aph h) h Tryz.func72 T4
end Go.Proofs.YtmickljjofbmiaaGreatDoor
