/- What Decode leans on leaves, by runs. No condition. -/
import Derived.Test.YtmickljjofbmiaaGreatDoorADoor
set_option maxRecDepth 100000
namespace Go.Proofs.YtmickljjofbmiaaGreatDoor
open Go Go.Proofs
set_option maxRecDepth 100000
def Mu:V:=.str (.slit [108,114])
def E5:V:=.int .u32 (.lit (28799))
def AG:V:=.func (.func 150) [] []
def l9:V:=.func (.func 140) [] []
def S5:V:=.func (.func 183) [] [(.ptr 7 0),(.ptr 8 0)]
def nK:R Leaf:=lf 7 (.int .u32 (.lit 1))
def po:V:=.int .i64 (.lit 1)
def wy:V:=.int .i64 (.lit 2)
def wz:V:=.int .i64 (.lit 3)
def pq:V:=.int .i64 (.lit 4)
def lz:V:=.int .i64 (.lit 5)
def yu:R Leaf:=lf 7 (.int .u32 (.lit 32))
def ql:V:=.int .i64 (.lit 6)
def jN:V:=.int .i64 (.lit 7)
def nE:V:=.int .i64 (.lit 8)
def qm:V:=.int .i64 (.lit 9)
def lC:V:=.int .i64 (.lit 10)
def fN:V:=.int .i64 (.lit 11)
def jO:V:=.int .i64 (.lit 12)
def qn:V:=.int .i64 (.lit 13)
def qo:V:=.int .i64 (.lit 14)
def nF:V:=.int .i64 (.lit 15)
def qp:V:=.int .i64 (.lit 16)
def qq:V:=.int .i64 (.lit 17)
def qs:V:=.int .i64 (.lit 18)
def lD:V:=.int .i64 (.lit 19)
def gF:V:=.int .i64 (.lit 20)
def nG:V:=.int .i64 (.lit 21)
def qt:V:=.int .i64 (.lit 22)
def qu:V:=.int .i64 (.lit 23)
def nI:V:=.int .i64 (.lit 24)
def iJ:V:=.int .i64 (.lit 25)
def lE:V:=.int .i64 (.lit 26)
def nJ:V:=.int .i64 (.lit 27)
def qv:V:=.int .i64 (.lit 28)
def qw:V:=.int .i64 (.lit 29)
def lF:V:=.int .i64 (.lit 30)
def iK:V:=.int .i64 (.lit 31)
def qx:R Leaf:=lf 7 (.int .u8 (.lit 108))
def qy:R Leaf:=lf 7 (.int .u8 (.lit 98))
def E6:R Leaf:=lf 7 (.int .u8 (.lit 115))
def qz:R Leaf:=lf 7 (.int .u8 (.lit 105))
def E7:R Leaf:=lf 7 (.int .u8 (.lit 104))
def dj:R Leaf:=lf 7 (.int .u8 (.lit 114))
def tP:V:=.int .i64 (.lit 32)
def tQ:V:=.int .i64 (.lit 33)
def tR:V:=.int .i64 (.lit 34)
def tS:V:=.int .i64 (.lit 35)
def tT:V:=.int .i64 (.lit 36)
def tU:V:=.int .i64 (.lit 37)
def tV:V:=.int .i64 (.lit 38)
def tW:V:=.int .i64 (.lit 39)
def tX:V:=.int .i64 (.lit 40)
def tY:V:=.int .i64 (.lit 41)
def tZ:V:=.int .i64 (.lit 42)
def th:V:=.int .i64 (.lit 43)
def ua:V:=.int .i64 (.lit 44)
def ub:V:=.int .i64 (.lit 45)
def uc:V:=.int .i64 (.lit 46)
def uf:V:=.int .i64 (.lit 47)
def ug:V:=.int .i64 (.lit 48)
def ui:V:=.int .i64 (.lit 49)
def iL:R Leaf:=lf 7 (.int .u8 (.lit 97))
def uj:V:=.int .i64 (.lit 50)
def uk:V:=.int .i64 (.lit 51)
def um:V:=.int .i64 (.lit 52)
def uo:V:=.int .i64 (.lit 53)
def uq:V:=.int .i64 (.lit 54)
def ur:V:=.int .i64 (.lit 55)
def uu:V:=.int .i64 (.lit 56)
def uv:V:=.int .i64 (.lit 57)
def uw:V:=.int .i64 (.lit 58)
def ux:V:=.int .i64 (.lit 59)
def qA:R Leaf:=lf 7 (.int .u32 (.lit 99))
def uy:R Leaf:=lf 7 (.int .u32 (.lit 3))
def E8:R Leaf:=lf 7 (.int .u32 (.lit 35))
def jP:R Leaf:=lf 7 (.int .u32 (.lit 19))
def dk:R Leaf:=lf 7 (.int .u32 (.lit 51))
def gG:R Leaf:=lf 7 (.int .u32 (.lit 47))
def eO:R Leaf:=lf 8 (.int .u32 (.lit 0))
def qB:R Leaf:=lf 8 (.int .u32 (.lit 1))
def qC:R Leaf:=lf 8 (.int .u32 (.lit 4))
def nL:R Leaf:=lf 8 (.int .u32 (.lit 5))
def yv:R Leaf:=lf 8 (.int .u32 (.lit 6))
def yw:R Leaf:=lf 8 (.int .u32 (.lit 7))
def dC:R Leaf:=lf 8 (.int .u32 (.lit 2))
def E9:R Leaf:=lf 8 (.int .u32 (.lit 3))
def aZ:R Leaf:=lf 7 (.int .u32 (.lit 0))
def cf:V:=.int .u32 (sg [(2,0,32)] .zero)
def aG:V:=.int .i64 (sg [(2,0,5)] .zero)
def aI:V:=.int .i64 (sg [(2,5,5)] .zero)
def aJ:V:=.int .i64 (sg [(2,10,5)] .zero)
def Fa:X:=sg [(2,15,32)] .zero
def aK:V:=.int .u32 Fa
def aw:X:=.cube 140737488355328 140737488355328
def ao:X:=.cube 281474976710656 281474976710656
def Oq:V:=.agg [po,aG,aI,aJ,aK,(.bool aw),(.bool ao)]
def nM:X:=.cube 31744 0
def aV:R Leaf:=lf 8 (.bool (.lit 0))
def nN:X:=.cube 70368744177664 70368744177664
def Jo:R Leaf:=.br (.cube 992 0) (.br nM (.br aw aV (.br ao aV (.br nN (lf 8 (.bool (.cube 134184960 0))) (lf 8 (.bool (.cube 134184960 0)))))) aV) aV
def Jp:V:=.agg [wy,aG,aI,aJ,aK,(.bool aw),(.bool ao)]
def Jq:V:=.agg [wz,aG,aI,aJ,aK,(.bool aw),(.bool ao)]
def Jr:V:=.agg [pq,aG,aI,aJ,aK,(.bool aw),(.bool ao)]
def Js:R Leaf:=.br aw aV (.br ao aV (.br nN (.br (.cube 70368677068800 70368677068800) (lf 8 (.bool (.lit 1))) aV) (lf 8 (.bool (.cube 70368677068800 0)))))
def et:R Leaf:=.br nM Js aV
def Jt:V:=.agg [lz,aG,aI,aJ,aK,(.bool aw),(.bool ao)]
def mG:R Leaf:=.br (.cube 31 0) (.br aw aV (.br ao aV (.br nN (.br (.cube 32768 0) (.br (.cube 70368609959936 70368609959936) (lf 8 (.bool (.lit 1))) aV) aV) (.br (.cube 32768 0) (lf 8 (.bool (.cube 70368609959936 0))) aV)))) aV
def Ju:V:=.agg [ql,aG,aI,aJ,aK,(.bool aw),(.bool ao)]
def Jv:V:=.agg [jN,aG,aI,aJ,aK,(.bool aw),(.bool ao)]
def Jw:V:=.agg [nE,aG,aI,aJ,aK,(.bool aw),(.bool ao)]
def Jx:V:=.agg [qm,aG,aI,aJ,aK,(.bool aw),(.bool ao)]
def Jy:V:=.agg [lC,aG,aI,aJ,aK,(.bool aw),(.bool ao)]
def Jz:V:=.agg [fN,aG,aI,aJ,aK,(.bool aw),(.bool ao)]
def JA:V:=.agg [jO,aG,aI,aJ,aK,(.bool aw),(.bool ao)]
def JB:V:=.agg [qn,aG,aI,aJ,aK,(.bool aw),(.bool ao)]
def JC:V:=.agg [qo,aG,aI,aJ,aK,(.bool aw),(.bool ao)]
def JD:V:=.agg [nF,aG,aI,aJ,aK,(.bool aw),(.bool ao)]
def JE:V:=.agg [qp,aG,aI,aJ,aK,(.bool aw),(.bool ao)]
def AD:R Leaf:=.br (.cube 31 0) Js aV
def JF:V:=.agg [qq,aG,aI,aJ,aK,(.bool aw),(.bool ao)]
def JG:V:=.agg [qs,aG,aI,aJ,aK,(.bool aw),(.bool ao)]
def JI:V:=.agg [lD,aG,aI,aJ,aK,(.bool aw),(.bool ao)]
def JJ:V:=.agg [gF,aG,aI,aJ,aK,(.bool aw),(.bool ao)]
def JK:V:=.agg [nG,aG,aI,aJ,aK,(.bool aw),(.bool ao)]
def JL:V:=.agg [qt,aG,aI,aJ,aK,(.bool aw),(.bool ao)]
def JM:V:=.agg [qu,aG,aI,aJ,aK,(.bool aw),(.bool ao)]
def JN:V:=.agg [nI,aG,aI,aJ,aK,(.bool aw),(.bool ao)]
def JO:V:=.agg [iJ,aG,aI,aJ,aK,(.bool aw),(.bool ao)]
def AE:R Leaf:=.br nM (.br aw aV (.br ao aV (.br nN aV (lf 8 (.bool (.cube 70368743129088 0)))))) aV
def JP:V:=.agg [lE,aG,aI,aJ,aK,(.bool aw),(.bool ao)]
def JQ:V:=.agg [nJ,aG,aI,aJ,aK,(.bool aw),(.bool ao)]
def JR:V:=.agg [qv,aG,aI,aJ,aK,(.bool aw),(.bool ao)]
def eu:R Leaf:=.br nN aV (lf 8 (.bool (.cube 70368744144896 0)))
def cd:R Leaf:=.br aw aV (.br ao aV eu)
def JS:V:=.agg [qw,aG,aI,aJ,aK,(.bool aw),(.bool ao)]
def JT:V:=.agg [lF,aG,aI,aJ,aK,(.bool aw),(.bool ao)]
def JU:V:=.agg [iK,aG,aI,aJ,aK,(.bool aw),(.bool ao)]
def JV:V:=.agg [tP,aG,aI,aJ,aK,(.bool aw),(.bool ao)]
def JW:V:=.agg [tQ,aG,aI,aJ,aK,(.bool aw),(.bool ao)]
def JX:V:=.agg [tR,aG,aI,aJ,aK,(.bool aw),(.bool ao)]
def JY:V:=.agg [tS,aG,aI,aJ,aK,(.bool aw),(.bool ao)]
def JZ:V:=.agg [tT,aG,aI,aJ,aK,(.bool aw),(.bool ao)]
def Jh:V:=.agg [tU,aG,aI,aJ,aK,(.bool aw),(.bool ao)]
def J0:V:=.agg [tV,aG,aI,aJ,aK,(.bool aw),(.bool ao)]
def J1:V:=.agg [tW,aG,aI,aJ,aK,(.bool aw),(.bool ao)]
def J2:R Leaf:=.br (.cube 992 0) (.br nM cd aV) aV
def J3:V:=.agg [tX,aG,aI,aJ,aK,(.bool aw),(.bool ao)]
def J4:V:=.agg [tY,aG,aI,aJ,aK,(.bool aw),(.bool ao)]
def J5:V:=.agg [tZ,aG,aI,aJ,aK,(.bool aw),(.bool ao)]
def J6:V:=.agg [th,aG,aI,aJ,aK,(.bool aw),(.bool ao)]
def J7:V:=.agg [ua,aG,aI,aJ,aK,(.bool aw),(.bool ao)]
def J8:V:=.agg [ub,aG,aI,aJ,aK,(.bool aw),(.bool ao)]
def J9:V:=.agg [uc,aG,aI,aJ,aK,(.bool aw),(.bool ao)]
def Ka:V:=.agg [uf,aG,aI,aJ,aK,(.bool aw),(.bool ao)]
def Kb:V:=.agg [ug,aG,aI,aJ,aK,(.bool aw),(.bool ao)]
def Kc:V:=.agg [ui,aG,aI,aJ,aK,(.bool aw),(.bool ao)]
def Kd:V:=.agg [uj,aG,aI,aJ,aK,(.bool aw),(.bool ao)]
def Ke:V:=.agg [uk,aG,aI,aJ,aK,(.bool aw),(.bool ao)]
def Kf:V:=.agg [um,aG,aI,aJ,aK,(.bool aw),(.bool ao)]
def Kg:V:=.agg [uo,aG,aI,aJ,aK,(.bool aw),(.bool ao)]
def Ki:V:=.agg [uq,aG,aI,aJ,aK,(.bool aw),(.bool ao)]
def Kj:V:=.agg [ur,aG,aI,aJ,aK,(.bool aw),(.bool ao)]
def Kk:V:=.agg [uu,aG,aI,aJ,aK,(.bool aw),(.bool ao)]
def Kl:V:=.agg [uv,aG,aI,aJ,aK,(.bool aw),(.bool ao)]
def Km:V:=.agg [uw,aG,aI,aJ,aK,(.bool aw),(.bool ao)]
def Kn:V:=.agg [ux,aG,aI,aJ,aK,(.bool aw),(.bool ao)]
def cO:X:=sg [(0,0,20),(2,15,12)] .zero
def mI:X:=sg [(0,0,8),(2,16,4)] .zero
def mJ:X:=sg [(0,0,7),(2,26,1)] .zero
def AF:X:=sg [(0,0,7),(2,15,5)] .zero
def TN:List (List V×R Leaf):=[([(.str (.slit [98,101,113,32,98,110,101,32,98,108,116,32,98,103,101,32,98,108,116,117,32,98,103,101,117]))],(.ok {v:=(.slice 7 0 6 (.known 6)),objs:=[(7,.cells [(.str (.slit [98,101,113])),(.str (.slit [98,110,101])),(.str (.slit [98,108,116])),(.str (.slit [98,103,101])),(.str (.slit [98,108,116,117])),(.str (.slit [98,103,101,117]))] 9 none)],n:=8})),
 ([(.str (.slit [108,98,32,108,104,32,108,119,32,108,98,117,32,108,104,117]))],(.ok {v:=(.slice 7 0 5 (.known 5)),objs:=[(7,.cells [(.str (.slit [108,98])),(.str (.slit [108,104])),(.str (.slit [108,119])),(.str (.slit [108,98,117])),(.str (.slit [108,104,117]))] 9 none)],n:=8})),
 ([(.str (.slit [115,98,32,115,104,32,115,119]))],(.ok {v:=(.slice 7 0 3 (.known 3)),objs:=[(7,.cells [(.str (.slit [115,98])),(.str (.slit [115,104])),(.str (.slit [115,119]))] 9 none)],n:=8})),
 ([(.str (.slit [97,100,100,105,32,115,108,116,105,32,115,108,116,105,117,32,120,111,114,105,32,111,114,105,32,97,110,100,105]))],(.ok {v:=(.slice 7 0 6 (.known 6)),objs:=[(7,.cells [(.str (.slit [97,100,100,105])),(.str (.slit [115,108,116,105])),(.str (.slit [115,108,116,105,117])),(.str (.slit [120,111,114,105])),(.str (.slit [111,114,105])),(.str (.slit [97,110,100,105]))] 9 none)],n:=8})),
 ([(.str (.slit [115,108,108,105,32,115,114,108,105]))],(.ok {v:=(.slice 7 0 2 (.known 2)),objs:=[(7,.cells [(.str (.slit [115,108,108,105])),(.str (.slit [115,114,108,105]))] 9 none)],n:=8})),
 ([(.str (.slit [115,108,108,32,115,108,116,32,115,108,116,117,32,120,111,114,32,115,114,108]))],(.ok {v:=(.slice 7 0 5 (.known 5)),objs:=[(7,.cells [(.str (.slit [115,108,108])),(.str (.slit [115,108,116])),(.str (.slit [115,108,116,117])),(.str (.slit [120,111,114])),(.str (.slit [115,114,108]))] 9 none)],n:=8})),
 ([(.str (.slit [111,114,32,97,110,100]))],(.ok {v:=(.slice 7 0 2 (.known 2)),objs:=[(7,.cells [(.str (.slit [111,114])),(.str (.slit [97,110,100]))] 9 none)],n:=8})),
 ([(.str (.slit [109,117,108,32,109,117,108,104,32,109,117,108,104,115,117,32,109,117,108,104,117,32,100,105,118,32,100,105,118,117,32,114,101,109,32,114,101,109,117]))],(.ok {v:=(.slice 7 0 8 (.known 8)),objs:=[(7,.cells [(.str (.slit [109,117,108])),(.str (.slit [109,117,108,104])),(.str (.slit [109,117,108,104,115,117])),(.str (.slit [109,117,108,104,117])),(.str (.slit [100,105,118])),(.str (.slit [100,105,118,117])),(.str (.slit [114,101,109])),(.str (.slit [114,101,109,117]))] 9 none)],n:=8})),
 ([Mu],(.ok {v:=(.slice 7 0 1 (.known 1)),objs:=[(7,.cells [Mu] 9 none)],n:=8})),
 ([(.str (.slit [115,99,32,97,109,111,115,119,97,112,32,97,109,111,97,100,100,32,97,109,111,120,111,114,32,97,109,111,97,110,100,32,97,109,111,111,114,32,97,109,111,109,105,110,32,97,109,111,109,97,120,32,97,109,111,109,105,110,117,32,97,109,111,109,97,120,117]))],(.ok {v:=(.slice 7 0 10 (.known 10)),objs:=[(7,.cells [(.str (.slit [115,99])),(.str (.slit [97,109,111,115,119,97,112])),(.str (.slit [97,109,111,97,100,100])),(.str (.slit [97,109,111,120,111,114])),(.str (.slit [97,109,111,97,110,100])),(.str (.slit [97,109,111,111,114])),(.str (.slit [97,109,111,109,105,110])),(.str (.slit [97,109,111,109,97,120])),(.str (.slit [97,109,111,109,105,110,117])),(.str (.slit [97,109,111,109,97,120,117]))] 9 none)],n:=8}))]
theorem Qr:bE (kf []) aj 7 4000 114 TN:=aF (by kernel_rfl)
noncomputable def To:j6:=(114,bT aj 7 TN)::[]
theorem aeQ{ro:Nat→Obj}(h:bx ro):aL ro To:=aL.QO .nil h Tryz.func114 Qr
def TM:List (List V×R Leaf):=[([],(.ok {v:=(.map 14),objs:=[(21,.cells [(.int .i64 (.lit (4094)))] 2 none),(20,.cells [(.int .i64 (.lit (-4096)))] 2 none),(16,.cells [(.int .i64 (.lit (1048574)))] 2 none),(15,.cells [(.int .i64 (.lit (-1048576)))] 2 none),(8,.cells [(.int .i64 (.lit (2047)))] 2 none),(7,.cells [(.int .i64 (.lit (-2048)))] 2 none),(17,.cells [(.func (.func 183) [] [(.ptr 15 0),(.ptr 16 0)])] 145 none),(19,.cells [(.int .i64 (.lit (31)))] 2 none),(18,.cells [(.int .i64 (.lit (0)))] 2 none),(22,.cells [(.func (.func 183) [] [(.ptr 20 0),(.ptr 21 0)])] 145 none),(24,.cells [(.int .i64 (.lit (2047)))] 2 none),(23,.cells [(.int .i64 (.lit (-2048)))] 2 none),(26,.cells [(.int .i64 (.lit (255)))] 2 none),(25,.cells [(.int .i64 (.lit (0)))] 2 none),(14,.map [((.str (.slit [102,101,110,99,101])),(.agg [(.int .u32 (.lit (4027580415))),(.bool (.lit (0))),(.bool (.lit (0))),(.bool (.lit (0))),(.bool (.lit (0))),(.func (.func 183) [] [(.ptr 25 0),(.ptr 26 0)]),(.func (.func 171) [] []),(.func (.func 172) [] []),(.func (.func 148) [] [])])),((.str (.slit [115])),(.agg [E5,(.bool (.lit (0))),(.bool (.lit (1))),(.bool (.lit (1))),(.bool (.lit (0))),(.func (.func 183) [] [(.ptr 23 0),(.ptr 24 0)]),(.func (.func 168) [] []),(.func (.func 169) [] []),(.func (.func 170) [] [])])),((.str (.slit [98])),(.agg [E5,(.bool (.lit (0))),(.bool (.lit (1))),(.bool (.lit (1))),(.bool (.lit (0))),(.func (.func 189) [] [(.ptr 22 0)]),(.func (.func 165) [] []),(.func (.func 166) [] []),(.func (.func 167) [] [])])),((.str (.slit [115,104,105,102,116])),(.agg [(.int .u32 (.lit (4261441663))),(.bool (.lit (1))),(.bool (.lit (1))),(.bool (.lit (0))),(.bool (.lit (0))),(.func (.func 183) [] [(.ptr 18 0),(.ptr 19 0)]),(.func (.func 163) [] []),(.func (.func 164) [] []),(.func (.func 145) [] [])])),((.str (.slit [106])),(.agg [(.int .u32 (.lit (127))),(.bool (.lit (1))),(.bool (.lit (0))),(.bool (.lit (0))),(.bool (.lit (0))),(.func (.func 189) [] [(.ptr 17 0)]),(.func (.func 160) [] []),(.func (.func 161) [] []),(.func (.func 162) [] [])])),((.str (.slit [99,115,114])),(.agg [(.int .u32 (.lit (4294963327))),(.bool (.lit (1))),(.bool (.lit (0))),(.bool (.lit (0))),(.bool (.lit (0))),AG,l9,l9,(.func (.func 174) [] [])])),((.str (.slit [97])),(.agg [(.int .u32 (.lit (4160778367))),(.bool (.lit (1))),(.bool (.lit (1))),(.bool (.lit (1))),(.bool (.lit (1))),AG,l9,l9,(.func (.func 152) [] [])])),(Mu,(.agg [(.int .u32 (.lit (4193284223))),(.bool (.lit (1))),(.bool (.lit (1))),(.bool (.lit (0))),(.bool (.lit (1))),AG,l9,l9,(.func (.func 153) [] [])])),((.str (.slit [97,108,108])),(.agg [(.int .u32 (.lit (4294967295))),(.bool (.lit (0))),(.bool (.lit (0))),(.bool (.lit (0))),(.bool (.lit (0))),AG,l9,l9,(.func (.func 173) [] [])])),((.str (.slit [114])),(.agg [(.int .u32 (.lit (4261441663))),(.bool (.lit (1))),(.bool (.lit (1))),(.bool (.lit (1))),(.bool (.lit (0))),AG,l9,l9,(.func (.func 151) [] [])])),((.str (.slit [108,111,97,100])),(.agg [E5,(.bool (.lit (1))),(.bool (.lit (1))),(.bool (.lit (0))),(.bool (.lit (0))),S5,(.func (.func 144) [] []),(.func (.func 141) [] []),(.func (.func 149) [] [])])),((.str (.slit [105])),(.agg [E5,(.bool (.lit (1))),(.bool (.lit (1))),(.bool (.lit (0))),(.bool (.lit (0))),S5,(.func (.func 144) [] []),(.func (.func 141) [] []),(.func (.func 145) [] [])])),((.str (.slit [117])),(.agg [(.int .u32 (.lit (127))),(.bool (.lit (1))),(.bool (.lit (0))),(.bool (.lit (0))),(.bool (.lit (0))),(.func (.func 154) [] []),(.func (.func 155) [] []),(.func (.func 156) [] []),(.func (.func 157) [] [])]))])],n:=27}))]
theorem Qq:bE (kf To) aj 7 4000 111 TM:=aF (by kernel_rfl)
noncomputable def Tn:j6:=(111,bT aj 7 TM)::To
theorem aeP{ro:Nat→Obj}(h:bx ro):aL ro Tn:=aL.QO (aeQ h) h Tryz.func111 Qq
def ZO:List (List V×R Leaf):=[([(.int .i64 (.lit 0))],nK),
 ([po],(lf 7 (.int .u32 (.lit 2)))),
 ([wy],(lf 7 (.int .u32 (.lit 4)))),
 ([wz],(lf 7 (.int .u32 (.lit 8)))),
 ([pq],(lf 7 (.int .u32 (.lit 16)))),
 ([lz],yu),
 ([ql],(lf 7 (.int .u32 (.lit 64)))),
 ([jN],(lf 7 (.int .u32 (.lit 128)))),
 ([nE],(lf 7 (.int .u32 (.lit 256)))),
 ([qm],(lf 7 (.int .u32 (.lit 512)))),
 ([lC],(lf 7 (.int .u32 (.lit 1024)))),
 ([fN],(lf 7 (.int .u32 (.lit 2048)))),
 ([jO],(lf 7 (.int .u32 (.lit 4096)))),
 ([qn],(lf 7 (.int .u32 (.lit 8192)))),
 ([qo],(lf 7 (.int .u32 (.lit 16384)))),
 ([nF],(lf 7 (.int .u32 (.lit 32768)))),
 ([qp],(lf 7 (.int .u32 (.lit 65536)))),
 ([qq],(lf 7 (.int .u32 (.lit 131072)))),
 ([qs],(lf 7 (.int .u32 (.lit 262144)))),
 ([lD],(lf 7 (.int .u32 (.lit 524288)))),
 ([gF],(lf 7 (.int .u32 (.lit 1048576)))),
 ([nG],(lf 7 (.int .u32 (.lit 2097152)))),
 ([qt],(lf 7 (.int .u32 (.lit 4194304)))),
 ([qu],(lf 7 (.int .u32 (.lit 8388608)))),
 ([nI],(lf 7 (.int .u32 (.lit 16777216)))),
 ([iJ],(lf 7 (.int .u32 (.lit 33554432)))),
 ([lE],(lf 7 (.int .u32 (.lit 67108864)))),
 ([nJ],(lf 7 (.int .u32 (.lit 134217728)))),
 ([qv],(lf 7 (.int .u32 (.lit 268435456)))),
 ([qw],(lf 7 (.int .u32 (.lit 536870912)))),
 ([lF],(lf 7 (.int .u32 (.lit 1073741824)))),
 ([iK],(lf 7 (.int .u32 (.lit 2147483648))))]
theorem T4:bE (kf Tn) aj 7 4000 70 ZO:=aF (by kernel_rfl)
noncomputable def ab2:j6:=(70,bT aj 7 ZO)::Tn
theorem amr{ro:Nat→Obj}(h:bx ro):aL ro ab2:=aL.QO (aeP h) h Tryz.func70 T4
def ZM:List (List V×R Leaf):=[([po],(lf 7 (.int .u8 (.lit 117)))),
 ([wy],(lf 7 (.int .u8 (.lit 117)))),
 ([wz],(lf 7 (.int .u8 (.lit 106)))),
 ([pq],qx),
 ([lz],qy),
 ([ql],qy),
 ([jN],qy),
 ([nE],qy),
 ([qm],qy),
 ([lC],qy),
 ([fN],qx),
 ([jO],qx),
 ([qn],qx),
 ([qo],qx),
 ([nF],qx),
 ([qp],E6),
 ([qq],E6),
 ([qs],E6),
 ([lD],qz),
 ([gF],qz),
 ([nG],qz),
 ([qt],qz),
 ([qu],qz),
 ([nI],qz),
 ([iJ],E7),
 ([lE],E7),
 ([nJ],E7),
 ([qv],dj),
 ([qw],dj),
 ([lF],dj),
 ([iK],dj),
 ([tP],dj),
 ([tQ],dj),
 ([tR],dj),
 ([tS],dj),
 ([tT],dj),
 ([tU],dj),
 ([tV],(lf 7 (.int .u8 (.lit 102)))),
 ([tW],(lf 7 (.int .u8 (.lit 101)))),
 ([tX],dj),
 ([tY],dj),
 ([tZ],dj),
 ([th],dj),
 ([ua],dj),
 ([ub],dj),
 ([uc],dj),
 ([uf],dj),
 ([ug],(lf 7 (.int .u8 (.lit 113)))),
 ([ui],iL),
 ([uj],iL),
 ([uk],iL),
 ([um],iL),
 ([uo],iL),
 ([uq],iL),
 ([ur],iL),
 ([uu],iL),
 ([uv],iL),
 ([uw],iL),
 ([ux],(lf 7 (.int .u8 (.lit 99))))]
theorem T0:bE (kf ab2) aj 7 4000 67 ZM:=aF (by kernel_rfl)
noncomputable def ab0:j6:=(67,bT aj 7 ZM)::ab2
theorem amp{ro:Nat→Obj}(h:bx ro):aL ro ab0:=aL.QO (amr h) h Tryz.func67 T0
def ZT:List (List V×R Leaf):=[([po],(lf 7 (.int .u32 (.lit 55)))),
 ([wy],(lf 7 (.int .u32 (.lit 23)))),
 ([wz],(lf 7 (.int .u32 (.lit 111)))),
 ([pq],(lf 7 (.int .u32 (.lit 103)))),
 ([lz],qA),
 ([ql],qA),
 ([jN],qA),
 ([nE],qA),
 ([qm],qA),
 ([lC],qA),
 ([fN],uy),
 ([jO],uy),
 ([qn],uy),
 ([qo],uy),
 ([nF],uy),
 ([qp],E8),
 ([qq],E8),
 ([qs],E8),
 ([lD],jP),
 ([gF],jP),
 ([nG],jP),
 ([qt],jP),
 ([qu],jP),
 ([nI],jP),
 ([iJ],jP),
 ([lE],jP),
 ([nJ],jP),
 ([qv],dk),
 ([qw],dk),
 ([lF],dk),
 ([iK],dk),
 ([tP],dk),
 ([tQ],dk),
 ([tR],dk),
 ([tS],dk),
 ([tT],dk),
 ([tU],dk),
 ([tV],(lf 7 (.int .u32 (.lit 15)))),
 ([tW],(lf 7 (.int .u32 (.lit 115)))),
 ([tX],dk),
 ([tY],dk),
 ([tZ],dk),
 ([th],dk),
 ([ua],dk),
 ([ub],dk),
 ([uc],dk),
 ([uf],dk),
 ([ug],gG),
 ([ui],gG),
 ([uj],gG),
 ([uk],gG),
 ([um],gG),
 ([uo],gG),
 ([uq],gG),
 ([ur],gG),
 ([uu],gG),
 ([uv],gG),
 ([uw],gG),
 ([ux],(lf 7 (.int .u32 (.lit 115))))]
theorem T9:bE (kf ab0) aj 7 4000 84 ZT:=aF (by kernel_rfl)
noncomputable def ab6:j6:=(84,bT aj 7 ZT)::ab0
theorem amv{ro:Nat→Obj}(h:bx ro):aL ro ab6:=aL.QO (amp h) h Tryz.func84 T9
def ZU:List (List V×R Leaf):=[([po],eO),
 ([wy],eO),
 ([wz],eO),
 ([pq],eO),
 ([lz],eO),
 ([ql],qB),
 ([jN],qC),
 ([nE],nL),
 ([qm],yv),
 ([lC],yw),
 ([fN],eO),
 ([jO],qB),
 ([qn],dC),
 ([qo],qC),
 ([nF],nL),
 ([qp],eO),
 ([qq],qB),
 ([qs],dC),
 ([lD],eO),
 ([gF],dC),
 ([nG],E9),
 ([qt],qC),
 ([qu],yv),
 ([nI],yw),
 ([iJ],qB),
 ([lE],nL),
 ([nJ],nL),
 ([qv],eO),
 ([qw],eO),
 ([lF],qB),
 ([iK],dC),
 ([tP],E9),
 ([tQ],qC),
 ([tR],nL),
 ([tS],nL),
 ([tT],yv),
 ([tU],yw),
 ([tV],eO),
 ([tW],eO),
 ([tX],eO),
 ([tY],qB),
 ([tZ],dC),
 ([th],E9),
 ([ua],qC),
 ([ub],nL),
 ([uc],yv),
 ([uf],yw),
 ([ug],dC),
 ([ui],dC),
 ([uj],dC),
 ([uk],dC),
 ([um],dC),
 ([uo],dC),
 ([uq],dC),
 ([ur],dC),
 ([uu],dC),
 ([uv],dC),
 ([uw],dC),
 ([ux],dC)]
theorem Ua:bE (kf ab6) aj 7 4000 85 ZU:=aF (by kernel_rfl)
noncomputable def ab7:j6:=(85,bT aj 7 ZU)::ab6
theorem amw{ro:Nat→Obj}(h:bx ro):aL ro ab7:=aL.QO (amv h) h Tryz.func85 Ua
def ZV:List (List V×R Leaf):=[([po],aZ),
 ([wy],aZ),
 ([wz],aZ),
 ([pq],aZ),
 ([lz],aZ),
 ([ql],aZ),
 ([jN],aZ),
 ([nE],aZ),
 ([qm],aZ),
 ([lC],aZ),
 ([fN],aZ),
 ([jO],aZ),
 ([qn],aZ),
 ([qo],aZ),
 ([nF],aZ),
 ([qp],aZ),
 ([qq],aZ),
 ([qs],aZ),
 ([lD],aZ),
 ([gF],aZ),
 ([nG],aZ),
 ([qt],aZ),
 ([qu],aZ),
 ([nI],aZ),
 ([iJ],aZ),
 ([lE],aZ),
 ([nJ],yu),
 ([qv],aZ),
 ([qw],yu),
 ([lF],aZ),
 ([iK],aZ),
 ([tP],aZ),
 ([tQ],aZ),
 ([tR],aZ),
 ([tS],yu),
 ([tT],aZ),
 ([tU],aZ),
 ([tV],aZ),
 ([tW],aZ),
 ([tX],nK),
 ([tY],nK),
 ([tZ],nK),
 ([th],nK),
 ([ua],nK),
 ([ub],nK),
 ([uc],nK),
 ([uf],nK),
 ([ug],(lf 8 (.int .u32 (.lit 8)))),
 ([ui],(lf 8 (.int .u32 (.lit 12)))),
 ([uj],qC),
 ([uk],eO),
 ([um],(lf 8 (.int .u32 (.lit 16)))),
 ([uo],(lf 8 (.int .u32 (.lit 48)))),
 ([uq],(lf 8 (.int .u32 (.lit 32)))),
 ([ur],(lf 8 (.int .u32 (.lit 64)))),
 ([uu],(lf 8 (.int .u32 (.lit 80)))),
 ([uv],(lf 8 (.int .u32 (.lit 96)))),
 ([uw],(lf 8 (.int .u32 (.lit 112)))),
 ([ux],aZ)]
theorem Ub:bE (kf ab7) aj 7 4000 86 ZV:=aF (by kernel_rfl)
noncomputable def ab8:j6:=(86,bT aj 7 ZV)::ab7
theorem amx{ro:Nat→Obj}(h:bx ro):aL ro ab8:=aL.QO (amw h) h Tryz.func86 Ub
def ZN:List (List V×R Leaf):=[([cf,fN,jN],(lf 7 (.int .u32 (sg [(2,7,5)] .zero)))),
 ([cf,lD,nF],(lf 7 (.int .u32 (sg [(2,15,5)] .zero)))),
 ([cf,nI,gF],(lf 7 (.int .u32 (sg [(2,20,5)] .zero)))),
 ([cf,iK,iK],(lf 7 (.int .u32 (sg [(2,31,1)] .zero)))),
 ([cf,lD,jO],(lf 7 (.int .u32 (sg [(2,12,8)] .zero)))),
 ([cf,gF,gF],(lf 7 (.int .u32 (sg [(2,20,1)] .zero)))),
 ([cf,lF,nG],(lf 7 (.int .u32 (sg [(2,21,10)] .zero)))),
 ([cf,jN,jN],(lf 7 (.int .u32 (sg [(2,7,1)] .zero)))),
 ([cf,lF,iJ],(lf 7 (.int .u32 (sg [(2,25,6)] .zero)))),
 ([cf,fN,nE],(lf 7 (.int .u32 (sg [(2,8,4)] .zero)))),
 ([cf,iK,iJ],(lf 7 (.int .u32 (sg [(2,25,7)] .zero)))),
 ([cf,iK,gF],(lf 7 (.int .u32 (sg [(2,20,12)] .zero)))),
 ([cf,nJ,gF],(lf 7 (.int .u32 (sg [(2,20,8)] .zero)))),
 ([cf,lE,lE],(lf 7 (.int .u32 (sg [(2,26,1)] .zero)))),
 ([cf,iJ,iJ],(lf 7 (.int .u32 (sg [(2,25,1)] .zero)))),
 ([cf,lC,po],(lf 7 (.int .u32 (sg [(2,1,10)] .zero)))),
 ([cf,fN,fN],(lf 7 (.int .u32 (sg [(2,11,1)] .zero)))),
 ([cf,jO,jO],(lf 7 (.int .u32 (sg [(2,12,1)] .zero)))),
 ([cf,lC,lz],(lf 7 (.int .u32 (sg [(2,5,6)] .zero)))),
 ([cf,pq,po],(lf 7 (.int .u32 (sg [(2,1,4)] .zero)))),
 ([cf,fN,lz],(lf 7 (.int .u32 (sg [(2,5,7)] .zero)))),
 ([cf,pq,(.int .i64 (.lit 0))],(lf 7 (.int .u32 (sg [(2,0,5)] .zero)))),
 ([cf,fN,(.int .i64 (.lit 0))],(lf 7 (.int .u32 (sg [(2,0,12)] .zero))))]
theorem T3:bE (kf ab8) aj 7 4000 68 ZN:=aF (by kernel_rfl)
noncomputable def ab1:j6:=(68,bS aj 7 ZN)::ab8
theorem amq{ro:Nat→Obj}(h:bx ro):aL ro ab1:=aL.par (amx h) h Tryz.func68 T3
def ZP:List (List V×R Leaf):=[([Oq],Jo),
 ([Jp],Jo),
 ([Jq],(.br (.cube 992 0) (.br nM (.br aw aV (.br ao aV (.br nN (.br (.cube 32768 0) (.br (.cube 70334384439296 70334384439296) (lf 8 (.bool (.lit 1))) aV) aV) (.br (.cube 32768 0) (lf 8 (.bool (.cube 70334384439296 0))) aV)))) aV) aV)),
 ([Jr],et),
 ([Jt],mG),
 ([Ju],mG),
 ([Jv],mG),
 ([Jw],mG),
 ([Jx],mG),
 ([Jy],mG),
 ([Jz],et),
 ([JA],et),
 ([JB],et),
 ([JC],et),
 ([JD],et),
 ([JE],AD),
 ([JF],AD),
 ([JG],AD),
 ([JI],et),
 ([JJ],et),
 ([JK],et),
 ([JL],et),
 ([JM],et),
 ([JN],et),
 ([JO],AE),
 ([JP],AE),
 ([JQ],AE),
 ([JR],cd),
 ([JS],cd),
 ([JT],cd),
 ([JU],cd),
 ([JV],cd),
 ([JW],cd),
 ([JX],cd),
 ([JY],cd),
 ([JZ],cd),
 ([Jh],cd),
 ([J0],(.br (.cube 31 0) (.br (.cube 992 0) (.br nM (.br aw aV (.br ao aV (.br nN aV (lf 8 (.bool (.cube 70368735789056 0)))))) aV) aV) aV)),
 ([J1],(.br (.cube 31 0) J2 aV)),
 ([J3],cd),
 ([J4],cd),
 ([J5],cd),
 ([J6],cd),
 ([J7],cd),
 ([J8],cd),
 ([J9],cd),
 ([Ka],cd),
 ([Kb],(.br nM eu aV)),
 ([Kc],eu),
 ([Kd],eu),
 ([Ke],eu),
 ([Kf],eu),
 ([Kg],eu),
 ([Ki],eu),
 ([Kj],eu),
 ([Kk],eu),
 ([Kl],eu),
 ([Km],eu),
 ([Kn],J2)]
theorem T5:bE (kf ab1) aj 7 4000 71 ZP:=aF (by kernel_rfl)
noncomputable def ab3:j6:=(71,bS aj 7 ZP)::ab1
theorem ams{ro:Nat→Obj}(h:bx ro):aL ro ab3:=aL.par (amq h) h Tryz.func71 T5
def ZQ:List (List V×R Leaf):=[([Oq],(lf 8 (.int .u32 (.wrap .u32 (.add (sg [(1,0,3),(0,0,1),(1,0,2),(0,0,1),(2,0,5),(0,0,3),(2,5,10)] .zero) Fa))))),
 ([Jp],(lf 8 (.int .u32 (.wrap .u32 (.add (sg [(1,0,3),(0,0,1),(1,0,1),(0,0,2),(2,0,5),(0,0,3),(2,5,10)] .zero) Fa))))),
 ([Jq],(lf 8 (.int .u32 (.wrap .u32 (.add (.wrap .u32 (.add (.wrap .u32 (.add (sg [(1,0,4),(0,0,1),(1,0,2),(2,0,5),(0,0,3),(2,5,10),(0,0,6),(2,35,1)] .zero) (sg [(0,0,21),(2,16,10)] .zero))) (sg [(0,0,20),(2,26,1)] .zero))) (sg [(0,0,12),(2,27,8)] .zero)))))),
 ([Jr],(lf 9 (.int .u32 (.wrap .u32 (.add (sg [(1,0,3),(0,0,2),(1,0,2),(2,0,5),(0,0,3),(2,5,10)] .zero) cO))))),
 ([Jt],(lf 9 (.int .u32 (.wrap .u32 (.add (.wrap .u32 (.add (sg [(1,0,2),(0,0,3),(1,0,2),(2,0,5),(0,0,3),(2,5,10),(2,20,6),(2,27,1)] .zero) mI)) mJ))))),
 ([Ju],(lf 9 (.int .u32 (.wrap .u32 (.add (.wrap .u32 (.add (sg [(1,0,2),(0,0,3),(1,0,2),(2,0,5),(1,0,1),(0,0,2),(2,5,10),(2,20,6),(2,27,1)] .zero) mI)) mJ))))),
 ([Jv],(lf 9 (.int .u32 (.wrap .u32 (.add (.wrap .u32 (.add (sg [(1,0,2),(0,0,3),(1,0,2),(2,0,5),(0,0,2),(1,0,1),(2,5,10),(2,20,6),(2,27,1)] .zero) mI)) mJ))))),
 ([Jw],(lf 9 (.int .u32 (.wrap .u32 (.add (.wrap .u32 (.add (sg [(1,0,2),(0,0,3),(1,0,2),(2,0,5),(1,0,1),(0,0,1),(1,0,1),(2,5,10),(2,20,6),(2,27,1)] .zero) mI)) mJ))))),
 ([Jx],(lf 9 (.int .u32 (.wrap .u32 (.add (.wrap .u32 (.add (sg [(1,0,2),(0,0,3),(1,0,2),(2,0,5),(0,0,1),(1,0,2),(2,5,10),(2,20,6),(2,27,1)] .zero) mI)) mJ))))),
 ([Jy],(lf 9 (.int .u32 (.wrap .u32 (.add (.wrap .u32 (.add (sg [(1,0,2),(0,0,3),(1,0,2),(2,0,5),(1,0,3),(2,5,10),(2,20,6),(2,27,1)] .zero) mI)) mJ))))),
 ([Jz],(lf 9 (.int .u32 (.wrap .u32 (.add (sg [(1,0,2),(0,0,5),(2,0,5),(0,0,3),(2,5,10)] .zero) cO))))),
 ([JA],(lf 9 (.int .u32 (.wrap .u32 (.add (sg [(1,0,2),(0,0,5),(2,0,5),(1,0,1),(0,0,2),(2,5,10)] .zero) cO))))),
 ([JB],(lf 9 (.int .u32 (.wrap .u32 (.add (sg [(1,0,2),(0,0,5),(2,0,5),(0,0,1),(1,0,1),(0,0,1),(2,5,10)] .zero) cO))))),
 ([JC],(lf 9 (.int .u32 (.wrap .u32 (.add (sg [(1,0,2),(0,0,5),(2,0,5),(0,0,2),(1,0,1),(2,5,10)] .zero) cO))))),
 ([JD],(lf 9 (.int .u32 (.wrap .u32 (.add (sg [(1,0,2),(0,0,5),(2,0,5),(1,0,1),(0,0,1),(1,0,1),(2,5,10)] .zero) cO))))),
 ([JE],(lf 9 (.int .u32 (.wrap .u32 (.add (sg [(1,0,2),(0,0,3),(1,0,1),(0,0,1),(2,0,5),(0,0,3),(2,5,10),(2,20,7)] .zero) AF))))),
 ([JF],(lf 9 (.int .u32 (.wrap .u32 (.add (sg [(1,0,2),(0,0,3),(1,0,1),(0,0,1),(2,0,5),(1,0,1),(0,0,2),(2,5,10),(2,20,7)] .zero) AF))))),
 ([JG],(lf 9 (.int .u32 (.wrap .u32 (.add (sg [(1,0,2),(0,0,3),(1,0,1),(0,0,1),(2,0,5),(0,0,1),(1,0,1),(0,0,1),(2,5,10),(2,20,7)] .zero) AF))))),
 ([JI],(lf 9 (.int .u32 (.wrap .u32 (.add (sg [(1,0,2),(0,0,2),(1,0,1),(0,0,2),(2,0,5),(0,0,3),(2,5,10)] .zero) cO))))),
 ([JJ],(lf 9 (.int .u32 (.wrap .u32 (.add (sg [(1,0,2),(0,0,2),(1,0,1),(0,0,2),(2,0,5),(0,0,1),(1,0,1),(0,0,1),(2,5,10)] .zero) cO))))),
 ([JK],(lf 9 (.int .u32 (.wrap .u32 (.add (sg [(1,0,2),(0,0,2),(1,0,1),(0,0,2),(2,0,5),(1,0,2),(0,0,1),(2,5,10)] .zero) cO))))),
 ([JL],(lf 9 (.int .u32 (.wrap .u32 (.add (sg [(1,0,2),(0,0,2),(1,0,1),(0,0,2),(2,0,5),(0,0,2),(1,0,1),(2,5,10)] .zero) cO))))),
 ([JM],(lf 9 (.int .u32 (.wrap .u32 (.add (sg [(1,0,2),(0,0,2),(1,0,1),(0,0,2),(2,0,5),(0,0,1),(1,0,2),(2,5,10)] .zero) cO))))),
 ([JN],(lf 9 (.int .u32 (.wrap .u32 (.add (sg [(1,0,2),(0,0,2),(1,0,1),(0,0,2),(2,0,5),(1,0,3),(2,5,10)] .zero) cO))))),
 ([JO],(lf 9 (.int .u32 (.wrap .u32 (.add (sg [(1,0,2),(0,0,2),(1,0,1),(0,0,2),(2,0,5),(1,0,1),(0,0,2),(2,5,10)] .zero) cO))))),
 ([JP],(lf 9 (.int .u32 (.wrap .u32 (.add (sg [(1,0,2),(0,0,2),(1,0,1),(0,0,2),(2,0,5),(1,0,1),(0,0,1),(1,0,1),(2,5,10)] .zero) cO))))),
 ([JQ],(lf 9 (.int .u32 (.wrap .u32 (.add (sg [(1,0,2),(0,0,2),(1,0,1),(0,0,2),(2,0,5),(1,0,1),(0,0,1),(1,0,1),(2,5,10),(0,0,5),(1,0,1)] .zero) cO))))),
 ([JR],(lf 9 (.int .u32 (sg [(1,0,2),(0,0,2),(1,0,2),(0,0,1),(2,0,5),(0,0,3),(2,5,10)] .zero)))),
 ([JS],(lf 9 (.int .u32 (sg [(1,0,2),(0,0,2),(1,0,2),(0,0,1),(2,0,5),(0,0,3),(2,5,10),(0,0,5),(1,0,1)] .zero)))),
 ([JT],(lf 9 (.int .u32 (sg [(1,0,2),(0,0,2),(1,0,2),(0,0,1),(2,0,5),(1,0,1),(0,0,2),(2,5,10)] .zero)))),
 ([JU],(lf 9 (.int .u32 (sg [(1,0,2),(0,0,2),(1,0,2),(0,0,1),(2,0,5),(0,0,1),(1,0,1),(0,0,1),(2,5,10)] .zero)))),
 ([JV],(lf 9 (.int .u32 (sg [(1,0,2),(0,0,2),(1,0,2),(0,0,1),(2,0,5),(1,0,2),(0,0,1),(2,5,10)] .zero)))),
 ([JW],(lf 9 (.int .u32 (sg [(1,0,2),(0,0,2),(1,0,2),(0,0,1),(2,0,5),(0,0,2),(1,0,1),(2,5,10)] .zero)))),
 ([JX],(lf 9 (.int .u32 (sg [(1,0,2),(0,0,2),(1,0,2),(0,0,1),(2,0,5),(1,0,1),(0,0,1),(1,0,1),(2,5,10)] .zero)))),
 ([JY],(lf 9 (.int .u32 (sg [(1,0,2),(0,0,2),(1,0,2),(0,0,1),(2,0,5),(1,0,1),(0,0,1),(1,0,1),(2,5,10),(0,0,5),(1,0,1)] .zero)))),
 ([JZ],(lf 9 (.int .u32 (sg [(1,0,2),(0,0,2),(1,0,2),(0,0,1),(2,0,5),(0,0,1),(1,0,2),(2,5,10)] .zero)))),
 ([Jh],(lf 9 (.int .u32 (sg [(1,0,2),(0,0,2),(1,0,2),(0,0,1),(2,0,5),(1,0,3),(2,5,10)] .zero)))),
 ([J0],(lf 9 (.int .u32 (.wrap .u32 (.add (sg [(1,0,4),(0,0,3),(2,0,5),(0,0,3),(2,5,10)] .zero) cO))))),
 ([J1],(lf 9 (.int .u32 (sg [(1,0,2),(0,0,2),(1,0,3),(2,0,5),(0,0,3),(2,5,10)] .zero)))),
 ([J3],(lf 9 (.int .u32 (sg [(1,0,2),(0,0,2),(1,0,2),(0,0,1),(2,0,5),(0,0,3),(2,5,10),(1,0,1)] .zero)))),
 ([J4],(lf 9 (.int .u32 (sg [(1,0,2),(0,0,2),(1,0,2),(0,0,1),(2,0,5),(1,0,1),(0,0,2),(2,5,10),(1,0,1)] .zero)))),
 ([J5],(lf 9 (.int .u32 (sg [(1,0,2),(0,0,2),(1,0,2),(0,0,1),(2,0,5),(0,0,1),(1,0,1),(0,0,1),(2,5,10),(1,0,1)] .zero)))),
 ([J6],(lf 9 (.int .u32 (sg [(1,0,2),(0,0,2),(1,0,2),(0,0,1),(2,0,5),(1,0,2),(0,0,1),(2,5,10),(1,0,1)] .zero)))),
 ([J7],(lf 9 (.int .u32 (sg [(1,0,2),(0,0,2),(1,0,2),(0,0,1),(2,0,5),(0,0,2),(1,0,1),(2,5,10),(1,0,1)] .zero)))),
 ([J8],(lf 9 (.int .u32 (sg [(1,0,2),(0,0,2),(1,0,2),(0,0,1),(2,0,5),(1,0,1),(0,0,1),(1,0,1),(2,5,10),(1,0,1)] .zero)))),
 ([J9],(lf 9 (.int .u32 (sg [(1,0,2),(0,0,2),(1,0,2),(0,0,1),(2,0,5),(0,0,1),(1,0,2),(2,5,10),(1,0,1)] .zero)))),
 ([Ka],(lf 9 (.int .u32 (sg [(1,0,2),(0,0,2),(1,0,2),(0,0,1),(2,0,5),(1,0,3),(2,5,10),(1,0,1)] .zero)))),
 ([Kb],(.br aw (.br ao (lf 10 (.int .u32 (sg [(1,0,4),(0,0,1),(1,0,1),(0,0,1),(2,0,5),(0,0,1),(1,0,1),(0,0,1),(2,5,10),(1,0,2),(0,0,1),(1,0,1)] .zero))) (lf 10 (.int .u32 (sg [(1,0,4),(0,0,1),(1,0,1),(0,0,1),(2,0,5),(0,0,1),(1,0,1),(0,0,1),(2,5,10),(0,0,1),(1,0,1),(0,0,1),(1,0,1)] .zero)))) (.br ao (lf 10 (.int .u32 (sg [(1,0,4),(0,0,1),(1,0,1),(0,0,1),(2,0,5),(0,0,1),(1,0,1),(0,0,1),(2,5,10),(1,0,1),(0,0,2),(1,0,1)] .zero))) (lf 10 (.int .u32 (sg [(1,0,4),(0,0,1),(1,0,1),(0,0,1),(2,0,5),(0,0,1),(1,0,1),(0,0,1),(2,5,10),(0,0,3),(1,0,1)] .zero)))))),
 ([Kc],(.br aw (.br ao (lf 10 (.int .u32 (sg [(1,0,4),(0,0,1),(1,0,1),(0,0,1),(2,0,5),(0,0,1),(1,0,1),(0,0,1),(2,5,10),(1,0,4)] .zero))) (lf 10 (.int .u32 (sg [(1,0,4),(0,0,1),(1,0,1),(0,0,1),(2,0,5),(0,0,1),(1,0,1),(0,0,1),(2,5,10),(0,0,1),(1,0,3)] .zero)))) (.br ao (lf 10 (.int .u32 (sg [(1,0,4),(0,0,1),(1,0,1),(0,0,1),(2,0,5),(0,0,1),(1,0,1),(0,0,1),(2,5,10),(1,0,1),(0,0,1),(1,0,2)] .zero))) (lf 10 (.int .u32 (sg [(1,0,4),(0,0,1),(1,0,1),(0,0,1),(2,0,5),(0,0,1),(1,0,1),(0,0,1),(2,5,10),(0,0,2),(1,0,2)] .zero)))))),
 ([Kd],(.br aw (.br ao (lf 10 (.int .u32 (sg [(1,0,4),(0,0,1),(1,0,1),(0,0,1),(2,0,5),(0,0,1),(1,0,1),(0,0,1),(2,5,10),(1,0,3)] .zero))) (lf 10 (.int .u32 (sg [(1,0,4),(0,0,1),(1,0,1),(0,0,1),(2,0,5),(0,0,1),(1,0,1),(0,0,1),(2,5,10),(0,0,1),(1,0,2)] .zero)))) (.br ao (lf 10 (.int .u32 (sg [(1,0,4),(0,0,1),(1,0,1),(0,0,1),(2,0,5),(0,0,1),(1,0,1),(0,0,1),(2,5,10),(1,0,1),(0,0,1),(1,0,1)] .zero))) (lf 10 (.int .u32 (sg [(1,0,4),(0,0,1),(1,0,1),(0,0,1),(2,0,5),(0,0,1),(1,0,1),(0,0,1),(2,5,10),(0,0,2),(1,0,1)] .zero)))))),
 ([Ke],(.br aw (.br ao (lf 10 (.int .u32 (sg [(1,0,4),(0,0,1),(1,0,1),(0,0,1),(2,0,5),(0,0,1),(1,0,1),(0,0,1),(2,5,10),(1,0,2)] .zero))) (lf 10 (.int .u32 (sg [(1,0,4),(0,0,1),(1,0,1),(0,0,1),(2,0,5),(0,0,1),(1,0,1),(0,0,1),(2,5,10),(0,0,1),(1,0,1)] .zero)))) (.br ao (lf 10 (.int .u32 (sg [(1,0,4),(0,0,1),(1,0,1),(0,0,1),(2,0,5),(0,0,1),(1,0,1),(0,0,1),(2,5,10),(1,0,1)] .zero))) (lf 10 (.int .u32 (sg [(1,0,4),(0,0,1),(1,0,1),(0,0,1),(2,0,5),(0,0,1),(1,0,1),(0,0,1),(2,5,10)] .zero)))))),
 ([Kf],(.br aw (.br ao (lf 10 (.int .u32 (sg [(1,0,4),(0,0,1),(1,0,1),(0,0,1),(2,0,5),(0,0,1),(1,0,1),(0,0,1),(2,5,10),(1,0,2),(0,0,2),(1,0,1)] .zero))) (lf 10 (.int .u32 (sg [(1,0,4),(0,0,1),(1,0,1),(0,0,1),(2,0,5),(0,0,1),(1,0,1),(0,0,1),(2,5,10),(0,0,1),(1,0,1),(0,0,2),(1,0,1)] .zero)))) (.br ao (lf 10 (.int .u32 (sg [(1,0,4),(0,0,1),(1,0,1),(0,0,1),(2,0,5),(0,0,1),(1,0,1),(0,0,1),(2,5,10),(1,0,1),(0,0,3),(1,0,1)] .zero))) (lf 10 (.int .u32 (sg [(1,0,4),(0,0,1),(1,0,1),(0,0,1),(2,0,5),(0,0,1),(1,0,1),(0,0,1),(2,5,10),(0,0,4),(1,0,1)] .zero)))))),
 ([Kg],(.br aw (.br ao (lf 10 (.int .u32 (sg [(1,0,4),(0,0,1),(1,0,1),(0,0,1),(2,0,5),(0,0,1),(1,0,1),(0,0,1),(2,5,10),(1,0,2),(0,0,2),(1,0,2)] .zero))) (lf 10 (.int .u32 (sg [(1,0,4),(0,0,1),(1,0,1),(0,0,1),(2,0,5),(0,0,1),(1,0,1),(0,0,1),(2,5,10),(0,0,1),(1,0,1),(0,0,2),(1,0,2)] .zero)))) (.br ao (lf 10 (.int .u32 (sg [(1,0,4),(0,0,1),(1,0,1),(0,0,1),(2,0,5),(0,0,1),(1,0,1),(0,0,1),(2,5,10),(1,0,1),(0,0,3),(1,0,2)] .zero))) (lf 10 (.int .u32 (sg [(1,0,4),(0,0,1),(1,0,1),(0,0,1),(2,0,5),(0,0,1),(1,0,1),(0,0,1),(2,5,10),(0,0,4),(1,0,2)] .zero)))))),
 ([Ki],(.br aw (.br ao (lf 10 (.int .u32 (sg [(1,0,4),(0,0,1),(1,0,1),(0,0,1),(2,0,5),(0,0,1),(1,0,1),(0,0,1),(2,5,10),(1,0,2),(0,0,3),(1,0,1)] .zero))) (lf 10 (.int .u32 (sg [(1,0,4),(0,0,1),(1,0,1),(0,0,1),(2,0,5),(0,0,1),(1,0,1),(0,0,1),(2,5,10),(0,0,1),(1,0,1),(0,0,3),(1,0,1)] .zero)))) (.br ao (lf 10 (.int .u32 (sg [(1,0,4),(0,0,1),(1,0,1),(0,0,1),(2,0,5),(0,0,1),(1,0,1),(0,0,1),(2,5,10),(1,0,1),(0,0,4),(1,0,1)] .zero))) (lf 10 (.int .u32 (sg [(1,0,4),(0,0,1),(1,0,1),(0,0,1),(2,0,5),(0,0,1),(1,0,1),(0,0,1),(2,5,10),(0,0,5),(1,0,1)] .zero)))))),
 ([Kj],(.br aw (.br ao (lf 10 (.int .u32 (sg [(1,0,4),(0,0,1),(1,0,1),(0,0,1),(2,0,5),(0,0,1),(1,0,1),(0,0,1),(2,5,10),(1,0,2),(0,0,4),(1,0,1)] .zero))) (lf 10 (.int .u32 (sg [(1,0,4),(0,0,1),(1,0,1),(0,0,1),(2,0,5),(0,0,1),(1,0,1),(0,0,1),(2,5,10),(0,0,1),(1,0,1),(0,0,4),(1,0,1)] .zero)))) (.br ao (lf 10 (.int .u32 (sg [(1,0,4),(0,0,1),(1,0,1),(0,0,1),(2,0,5),(0,0,1),(1,0,1),(0,0,1),(2,5,10),(1,0,1),(0,0,5),(1,0,1)] .zero))) (lf 10 (.int .u32 (sg [(1,0,4),(0,0,1),(1,0,1),(0,0,1),(2,0,5),(0,0,1),(1,0,1),(0,0,1),(2,5,10),(0,0,6),(1,0,1)] .zero)))))),
 ([Kk],(.br aw (.br ao (lf 10 (.int .u32 (sg [(1,0,4),(0,0,1),(1,0,1),(0,0,1),(2,0,5),(0,0,1),(1,0,1),(0,0,1),(2,5,10),(1,0,2),(0,0,2),(1,0,1),(0,0,1),(1,0,1)] .zero))) (lf 10 (.int .u32 (sg [(1,0,4),(0,0,1),(1,0,1),(0,0,1),(2,0,5),(0,0,1),(1,0,1),(0,0,1),(2,5,10),(0,0,1),(1,0,1),(0,0,2),(1,0,1),(0,0,1),(1,0,1)] .zero)))) (.br ao (lf 10 (.int .u32 (sg [(1,0,4),(0,0,1),(1,0,1),(0,0,1),(2,0,5),(0,0,1),(1,0,1),(0,0,1),(2,5,10),(1,0,1),(0,0,3),(1,0,1),(0,0,1),(1,0,1)] .zero))) (lf 10 (.int .u32 (sg [(1,0,4),(0,0,1),(1,0,1),(0,0,1),(2,0,5),(0,0,1),(1,0,1),(0,0,1),(2,5,10),(0,0,4),(1,0,1),(0,0,1),(1,0,1)] .zero)))))),
 ([Kl],(.br aw (.br ao (lf 10 (.int .u32 (sg [(1,0,4),(0,0,1),(1,0,1),(0,0,1),(2,0,5),(0,0,1),(1,0,1),(0,0,1),(2,5,10),(1,0,2),(0,0,3),(1,0,2)] .zero))) (lf 10 (.int .u32 (sg [(1,0,4),(0,0,1),(1,0,1),(0,0,1),(2,0,5),(0,0,1),(1,0,1),(0,0,1),(2,5,10),(0,0,1),(1,0,1),(0,0,3),(1,0,2)] .zero)))) (.br ao (lf 10 (.int .u32 (sg [(1,0,4),(0,0,1),(1,0,1),(0,0,1),(2,0,5),(0,0,1),(1,0,1),(0,0,1),(2,5,10),(1,0,1),(0,0,4),(1,0,2)] .zero))) (lf 10 (.int .u32 (sg [(1,0,4),(0,0,1),(1,0,1),(0,0,1),(2,0,5),(0,0,1),(1,0,1),(0,0,1),(2,5,10),(0,0,5),(1,0,2)] .zero)))))),
 ([Km],(.br aw (.br ao (lf 10 (.int .u32 (sg [(1,0,4),(0,0,1),(1,0,1),(0,0,1),(2,0,5),(0,0,1),(1,0,1),(0,0,1),(2,5,10),(1,0,2),(0,0,2),(1,0,3)] .zero))) (lf 10 (.int .u32 (sg [(1,0,4),(0,0,1),(1,0,1),(0,0,1),(2,0,5),(0,0,1),(1,0,1),(0,0,1),(2,5,10),(0,0,1),(1,0,1),(0,0,2),(1,0,3)] .zero)))) (.br ao (lf 10 (.int .u32 (sg [(1,0,4),(0,0,1),(1,0,1),(0,0,1),(2,0,5),(0,0,1),(1,0,1),(0,0,1),(2,5,10),(1,0,1),(0,0,3),(1,0,3)] .zero))) (lf 10 (.int .u32 (sg [(1,0,4),(0,0,1),(1,0,1),(0,0,1),(2,0,5),(0,0,1),(1,0,1),(0,0,1),(2,5,10),(0,0,4),(1,0,3)] .zero)))))),
 ([Kn],(lf 9 (.int .u32 (.add (sg [(1,0,2),(0,0,2),(1,0,3),(2,0,5),(0,0,1),(1,0,1),(0,0,1),(2,5,10)] .zero) (.lit 4047503360)))))]
theorem T6:bE (kf ab3) aj 7 4000 72 ZQ:=aF (by kernel_rfl)
noncomputable def Y0:j6:=(72,bS aj 7 ZQ)::ab3
theorem Yu{ro:Nat→Obj}(h:bx ro):aL ro Y0:=aL.par (ams h) h Tryz.func72 T6
end Go.Proofs.YtmickljjofbmiaaGreatDoor
