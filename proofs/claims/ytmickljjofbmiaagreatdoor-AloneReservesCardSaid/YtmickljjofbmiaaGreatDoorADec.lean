/- What Decode leans on leaves, by runs. No condition. -/
import Derived.Test.YtmickljjofbmiaaGreatDoorADoor
set_option maxRecDepth 100000
namespace Go.Proofs.YtmickljjofbmiaaGreatDoor
open Go Go.Proofs
set_option maxRecDepth 100000
def qrows0:V:=.str (.slit [108,114])
def qrows1:V:=.int .u32 (.lit (28799))
def qrows2:V:=.func (.func 150) [] []
def qrows3:V:=.func (.func 140) [] []
def qrows4:V:=.func (.func 183) [] [(.ptr 7 0),(.ptr 8 0)]
def qrows5:R Leaf:=lf 7 (.int .u32 (.lit 1))
def qrows6:V:=.int .i64 (.lit 1)
def qrows7:V:=.int .i64 (.lit 2)
def qrows8:V:=.int .i64 (.lit 3)
def qrows9:V:=.int .i64 (.lit 4)
def qrows10:V:=.int .i64 (.lit 5)
def qrows11:R Leaf:=lf 7 (.int .u32 (.lit 32))
def qrows12:V:=.int .i64 (.lit 6)
def qrows13:V:=.int .i64 (.lit 7)
def qrows14:V:=.int .i64 (.lit 8)
def qrows15:V:=.int .i64 (.lit 9)
def qrows16:V:=.int .i64 (.lit 10)
def qrows17:V:=.int .i64 (.lit 11)
def qrows18:V:=.int .i64 (.lit 12)
def qrows19:V:=.int .i64 (.lit 13)
def qrows20:V:=.int .i64 (.lit 14)
def qrows21:V:=.int .i64 (.lit 15)
def qrows22:V:=.int .i64 (.lit 16)
def qrows23:V:=.int .i64 (.lit 17)
def qrows24:V:=.int .i64 (.lit 18)
def qrows25:V:=.int .i64 (.lit 19)
def qrows26:V:=.int .i64 (.lit 20)
def qrows27:V:=.int .i64 (.lit 21)
def qrows28:V:=.int .i64 (.lit 22)
def qrows29:V:=.int .i64 (.lit 23)
def qrows30:V:=.int .i64 (.lit 24)
def qrows31:V:=.int .i64 (.lit 25)
def qrows32:V:=.int .i64 (.lit 26)
def qrows33:V:=.int .i64 (.lit 27)
def qrows34:V:=.int .i64 (.lit 28)
def qrows35:V:=.int .i64 (.lit 29)
def qrows36:V:=.int .i64 (.lit 30)
def qrows37:V:=.int .i64 (.lit 31)
def qrows38:R Leaf:=lf 7 (.int .u8 (.lit 108))
def qrows39:R Leaf:=lf 7 (.int .u8 (.lit 98))
def qrows40:R Leaf:=lf 7 (.int .u8 (.lit 115))
def qrows41:R Leaf:=lf 7 (.int .u8 (.lit 105))
def qrows42:R Leaf:=lf 7 (.int .u8 (.lit 104))
def qrows43:R Leaf:=lf 7 (.int .u8 (.lit 114))
def qrows44:V:=.int .i64 (.lit 32)
def qrows45:V:=.int .i64 (.lit 33)
def qrows46:V:=.int .i64 (.lit 34)
def qrows47:V:=.int .i64 (.lit 35)
def qrows48:V:=.int .i64 (.lit 36)
def qrows49:V:=.int .i64 (.lit 37)
def qrows50:V:=.int .i64 (.lit 38)
def qrows51:V:=.int .i64 (.lit 39)
def qrows52:V:=.int .i64 (.lit 40)
def qrows53:V:=.int .i64 (.lit 41)
def qrows54:V:=.int .i64 (.lit 42)
def qrows55:V:=.int .i64 (.lit 43)
def qrows56:V:=.int .i64 (.lit 44)
def qrows57:V:=.int .i64 (.lit 45)
def qrows58:V:=.int .i64 (.lit 46)
def qrows59:V:=.int .i64 (.lit 47)
def qrows60:V:=.int .i64 (.lit 48)
def qrows61:V:=.int .i64 (.lit 49)
def qrows62:R Leaf:=lf 7 (.int .u8 (.lit 97))
def qrows63:V:=.int .i64 (.lit 50)
def qrows64:V:=.int .i64 (.lit 51)
def qrows65:V:=.int .i64 (.lit 52)
def qrows66:V:=.int .i64 (.lit 53)
def qrows67:V:=.int .i64 (.lit 54)
def qrows68:V:=.int .i64 (.lit 55)
def qrows69:V:=.int .i64 (.lit 56)
def qrows70:V:=.int .i64 (.lit 57)
def qrows71:V:=.int .i64 (.lit 58)
def qrows72:V:=.int .i64 (.lit 59)
def qrows73:R Leaf:=lf 7 (.int .u32 (.lit 99))
def qrows74:R Leaf:=lf 7 (.int .u32 (.lit 3))
def qrows75:R Leaf:=lf 7 (.int .u32 (.lit 35))
def qrows76:R Leaf:=lf 7 (.int .u32 (.lit 19))
def qrows77:R Leaf:=lf 7 (.int .u32 (.lit 51))
def qrows78:R Leaf:=lf 7 (.int .u32 (.lit 47))
def qrows79:R Leaf:=lf 8 (.int .u32 (.lit 0))
def qrows80:R Leaf:=lf 8 (.int .u32 (.lit 1))
def qrows81:R Leaf:=lf 8 (.int .u32 (.lit 4))
def qrows82:R Leaf:=lf 8 (.int .u32 (.lit 5))
def qrows83:R Leaf:=lf 8 (.int .u32 (.lit 6))
def qrows84:R Leaf:=lf 8 (.int .u32 (.lit 7))
def qrows85:R Leaf:=lf 8 (.int .u32 (.lit 2))
def qrows86:R Leaf:=lf 8 (.int .u32 (.lit 3))
def qrows87:R Leaf:=lf 7 (.int .u32 (.lit 0))
def qrows88:V:=.int .u32 (sg [(2,0,32)] .zero)
def qrows89:V:=.int .i64 (sg [(2,0,5)] .zero)
def qrows90:V:=.int .i64 (sg [(2,5,5)] .zero)
def qrows91:V:=.int .i64 (sg [(2,10,5)] .zero)
def qrows92:X:=sg [(2,15,32)] .zero
def qrows93:V:=.int .u32 qrows92
def qrows94:X:=.cube 140737488355328 140737488355328
def qrows95:X:=.cube 281474976710656 281474976710656
def qrows96:V:=.agg [qrows6,qrows89,qrows90,qrows91,qrows93,(.bool qrows94),(.bool qrows95)]
def qrows97:X:=.cube 31744 0
def qrows98:R Leaf:=lf 8 (.bool (.lit 0))
def qrows99:X:=.cube 70368744177664 70368744177664
def qrows100:R Leaf:=.br (.cube 992 0) (.br qrows97 (.br qrows94 qrows98 (.br qrows95 qrows98 (.br qrows99 (lf 8 (.bool (.cube 134184960 0))) (lf 8 (.bool (.cube 134184960 0)))))) qrows98) qrows98
def qrows101:V:=.agg [qrows7,qrows89,qrows90,qrows91,qrows93,(.bool qrows94),(.bool qrows95)]
def qrows102:V:=.agg [qrows8,qrows89,qrows90,qrows91,qrows93,(.bool qrows94),(.bool qrows95)]
def qrows103:V:=.agg [qrows9,qrows89,qrows90,qrows91,qrows93,(.bool qrows94),(.bool qrows95)]
def qrows104:R Leaf:=.br qrows94 qrows98 (.br qrows95 qrows98 (.br qrows99 (.br (.cube 70368677068800 70368677068800) (lf 8 (.bool (.lit 1))) qrows98) (lf 8 (.bool (.cube 70368677068800 0)))))
def qrows105:R Leaf:=.br qrows97 qrows104 qrows98
def qrows106:V:=.agg [qrows10,qrows89,qrows90,qrows91,qrows93,(.bool qrows94),(.bool qrows95)]
def qrows107:R Leaf:=.br (.cube 31 0) (.br qrows94 qrows98 (.br qrows95 qrows98 (.br qrows99 (.br (.cube 32768 0) (.br (.cube 70368609959936 70368609959936) (lf 8 (.bool (.lit 1))) qrows98) qrows98) (.br (.cube 32768 0) (lf 8 (.bool (.cube 70368609959936 0))) qrows98)))) qrows98
def qrows108:V:=.agg [qrows12,qrows89,qrows90,qrows91,qrows93,(.bool qrows94),(.bool qrows95)]
def qrows109:V:=.agg [qrows13,qrows89,qrows90,qrows91,qrows93,(.bool qrows94),(.bool qrows95)]
def qrows110:V:=.agg [qrows14,qrows89,qrows90,qrows91,qrows93,(.bool qrows94),(.bool qrows95)]
def qrows111:V:=.agg [qrows15,qrows89,qrows90,qrows91,qrows93,(.bool qrows94),(.bool qrows95)]
def qrows112:V:=.agg [qrows16,qrows89,qrows90,qrows91,qrows93,(.bool qrows94),(.bool qrows95)]
def qrows113:V:=.agg [qrows17,qrows89,qrows90,qrows91,qrows93,(.bool qrows94),(.bool qrows95)]
def qrows114:V:=.agg [qrows18,qrows89,qrows90,qrows91,qrows93,(.bool qrows94),(.bool qrows95)]
def qrows115:V:=.agg [qrows19,qrows89,qrows90,qrows91,qrows93,(.bool qrows94),(.bool qrows95)]
def qrows116:V:=.agg [qrows20,qrows89,qrows90,qrows91,qrows93,(.bool qrows94),(.bool qrows95)]
def qrows117:V:=.agg [qrows21,qrows89,qrows90,qrows91,qrows93,(.bool qrows94),(.bool qrows95)]
def qrows118:V:=.agg [qrows22,qrows89,qrows90,qrows91,qrows93,(.bool qrows94),(.bool qrows95)]
def qrows119:R Leaf:=.br (.cube 31 0) qrows104 qrows98
def qrows120:V:=.agg [qrows23,qrows89,qrows90,qrows91,qrows93,(.bool qrows94),(.bool qrows95)]
def qrows121:V:=.agg [qrows24,qrows89,qrows90,qrows91,qrows93,(.bool qrows94),(.bool qrows95)]
def qrows122:V:=.agg [qrows25,qrows89,qrows90,qrows91,qrows93,(.bool qrows94),(.bool qrows95)]
def qrows123:V:=.agg [qrows26,qrows89,qrows90,qrows91,qrows93,(.bool qrows94),(.bool qrows95)]
def qrows124:V:=.agg [qrows27,qrows89,qrows90,qrows91,qrows93,(.bool qrows94),(.bool qrows95)]
def qrows125:V:=.agg [qrows28,qrows89,qrows90,qrows91,qrows93,(.bool qrows94),(.bool qrows95)]
def qrows126:V:=.agg [qrows29,qrows89,qrows90,qrows91,qrows93,(.bool qrows94),(.bool qrows95)]
def qrows127:V:=.agg [qrows30,qrows89,qrows90,qrows91,qrows93,(.bool qrows94),(.bool qrows95)]
def qrows128:V:=.agg [qrows31,qrows89,qrows90,qrows91,qrows93,(.bool qrows94),(.bool qrows95)]
def qrows129:R Leaf:=.br qrows97 (.br qrows94 qrows98 (.br qrows95 qrows98 (.br qrows99 qrows98 (lf 8 (.bool (.cube 70368743129088 0)))))) qrows98
def qrows130:V:=.agg [qrows32,qrows89,qrows90,qrows91,qrows93,(.bool qrows94),(.bool qrows95)]
def qrows131:V:=.agg [qrows33,qrows89,qrows90,qrows91,qrows93,(.bool qrows94),(.bool qrows95)]
def qrows132:V:=.agg [qrows34,qrows89,qrows90,qrows91,qrows93,(.bool qrows94),(.bool qrows95)]
def qrows133:R Leaf:=.br qrows99 qrows98 (lf 8 (.bool (.cube 70368744144896 0)))
def qrows134:R Leaf:=.br qrows94 qrows98 (.br qrows95 qrows98 qrows133)
def qrows135:V:=.agg [qrows35,qrows89,qrows90,qrows91,qrows93,(.bool qrows94),(.bool qrows95)]
def qrows136:V:=.agg [qrows36,qrows89,qrows90,qrows91,qrows93,(.bool qrows94),(.bool qrows95)]
def qrows137:V:=.agg [qrows37,qrows89,qrows90,qrows91,qrows93,(.bool qrows94),(.bool qrows95)]
def qrows138:V:=.agg [qrows44,qrows89,qrows90,qrows91,qrows93,(.bool qrows94),(.bool qrows95)]
def qrows139:V:=.agg [qrows45,qrows89,qrows90,qrows91,qrows93,(.bool qrows94),(.bool qrows95)]
def qrows140:V:=.agg [qrows46,qrows89,qrows90,qrows91,qrows93,(.bool qrows94),(.bool qrows95)]
def qrows141:V:=.agg [qrows47,qrows89,qrows90,qrows91,qrows93,(.bool qrows94),(.bool qrows95)]
def qrows142:V:=.agg [qrows48,qrows89,qrows90,qrows91,qrows93,(.bool qrows94),(.bool qrows95)]
def qrows143:V:=.agg [qrows49,qrows89,qrows90,qrows91,qrows93,(.bool qrows94),(.bool qrows95)]
def qrows144:V:=.agg [qrows50,qrows89,qrows90,qrows91,qrows93,(.bool qrows94),(.bool qrows95)]
def qrows145:V:=.agg [qrows51,qrows89,qrows90,qrows91,qrows93,(.bool qrows94),(.bool qrows95)]
def qrows146:R Leaf:=.br (.cube 992 0) (.br qrows97 qrows134 qrows98) qrows98
def qrows147:V:=.agg [qrows52,qrows89,qrows90,qrows91,qrows93,(.bool qrows94),(.bool qrows95)]
def qrows148:V:=.agg [qrows53,qrows89,qrows90,qrows91,qrows93,(.bool qrows94),(.bool qrows95)]
def qrows149:V:=.agg [qrows54,qrows89,qrows90,qrows91,qrows93,(.bool qrows94),(.bool qrows95)]
def qrows150:V:=.agg [qrows55,qrows89,qrows90,qrows91,qrows93,(.bool qrows94),(.bool qrows95)]
def qrows151:V:=.agg [qrows56,qrows89,qrows90,qrows91,qrows93,(.bool qrows94),(.bool qrows95)]
def qrows152:V:=.agg [qrows57,qrows89,qrows90,qrows91,qrows93,(.bool qrows94),(.bool qrows95)]
def qrows153:V:=.agg [qrows58,qrows89,qrows90,qrows91,qrows93,(.bool qrows94),(.bool qrows95)]
def qrows154:V:=.agg [qrows59,qrows89,qrows90,qrows91,qrows93,(.bool qrows94),(.bool qrows95)]
def qrows155:V:=.agg [qrows60,qrows89,qrows90,qrows91,qrows93,(.bool qrows94),(.bool qrows95)]
def qrows156:V:=.agg [qrows61,qrows89,qrows90,qrows91,qrows93,(.bool qrows94),(.bool qrows95)]
def qrows157:V:=.agg [qrows63,qrows89,qrows90,qrows91,qrows93,(.bool qrows94),(.bool qrows95)]
def qrows158:V:=.agg [qrows64,qrows89,qrows90,qrows91,qrows93,(.bool qrows94),(.bool qrows95)]
def qrows159:V:=.agg [qrows65,qrows89,qrows90,qrows91,qrows93,(.bool qrows94),(.bool qrows95)]
def qrows160:V:=.agg [qrows66,qrows89,qrows90,qrows91,qrows93,(.bool qrows94),(.bool qrows95)]
def qrows161:V:=.agg [qrows67,qrows89,qrows90,qrows91,qrows93,(.bool qrows94),(.bool qrows95)]
def qrows162:V:=.agg [qrows68,qrows89,qrows90,qrows91,qrows93,(.bool qrows94),(.bool qrows95)]
def qrows163:V:=.agg [qrows69,qrows89,qrows90,qrows91,qrows93,(.bool qrows94),(.bool qrows95)]
def qrows164:V:=.agg [qrows70,qrows89,qrows90,qrows91,qrows93,(.bool qrows94),(.bool qrows95)]
def qrows165:V:=.agg [qrows71,qrows89,qrows90,qrows91,qrows93,(.bool qrows94),(.bool qrows95)]
def qrows166:V:=.agg [qrows72,qrows89,qrows90,qrows91,qrows93,(.bool qrows94),(.bool qrows95)]
def qrows167:X:=sg [(0,0,20),(2,15,12)] .zero
def qrows168:X:=sg [(0,0,8),(2,16,4)] .zero
def qrows169:X:=sg [(0,0,7),(2,26,1)] .zero
def qrows170:X:=sg [(0,0,7),(2,15,5)] .zero
def sum114:List (List V×R Leaf):=[([(.str (.slit [98,101,113,32,98,110,101,32,98,108,116,32,98,103,101,32,98,108,116,117,32,98,103,101,117]))],(.ok {v:=(.slice 7 0 6 (.known 6)),objs:=[(7,.cells [(.str (.slit [98,101,113])),(.str (.slit [98,110,101])),(.str (.slit [98,108,116])),(.str (.slit [98,103,101])),(.str (.slit [98,108,116,117])),(.str (.slit [98,103,101,117]))] 9 none)],n:=8})),
 ([(.str (.slit [108,98,32,108,104,32,108,119,32,108,98,117,32,108,104,117]))],(.ok {v:=(.slice 7 0 5 (.known 5)),objs:=[(7,.cells [(.str (.slit [108,98])),(.str (.slit [108,104])),(.str (.slit [108,119])),(.str (.slit [108,98,117])),(.str (.slit [108,104,117]))] 9 none)],n:=8})),
 ([(.str (.slit [115,98,32,115,104,32,115,119]))],(.ok {v:=(.slice 7 0 3 (.known 3)),objs:=[(7,.cells [(.str (.slit [115,98])),(.str (.slit [115,104])),(.str (.slit [115,119]))] 9 none)],n:=8})),
 ([(.str (.slit [97,100,100,105,32,115,108,116,105,32,115,108,116,105,117,32,120,111,114,105,32,111,114,105,32,97,110,100,105]))],(.ok {v:=(.slice 7 0 6 (.known 6)),objs:=[(7,.cells [(.str (.slit [97,100,100,105])),(.str (.slit [115,108,116,105])),(.str (.slit [115,108,116,105,117])),(.str (.slit [120,111,114,105])),(.str (.slit [111,114,105])),(.str (.slit [97,110,100,105]))] 9 none)],n:=8})),
 ([(.str (.slit [115,108,108,105,32,115,114,108,105]))],(.ok {v:=(.slice 7 0 2 (.known 2)),objs:=[(7,.cells [(.str (.slit [115,108,108,105])),(.str (.slit [115,114,108,105]))] 9 none)],n:=8})),
 ([(.str (.slit [115,108,108,32,115,108,116,32,115,108,116,117,32,120,111,114,32,115,114,108]))],(.ok {v:=(.slice 7 0 5 (.known 5)),objs:=[(7,.cells [(.str (.slit [115,108,108])),(.str (.slit [115,108,116])),(.str (.slit [115,108,116,117])),(.str (.slit [120,111,114])),(.str (.slit [115,114,108]))] 9 none)],n:=8})),
 ([(.str (.slit [111,114,32,97,110,100]))],(.ok {v:=(.slice 7 0 2 (.known 2)),objs:=[(7,.cells [(.str (.slit [111,114])),(.str (.slit [97,110,100]))] 9 none)],n:=8})),
 ([(.str (.slit [109,117,108,32,109,117,108,104,32,109,117,108,104,115,117,32,109,117,108,104,117,32,100,105,118,32,100,105,118,117,32,114,101,109,32,114,101,109,117]))],(.ok {v:=(.slice 7 0 8 (.known 8)),objs:=[(7,.cells [(.str (.slit [109,117,108])),(.str (.slit [109,117,108,104])),(.str (.slit [109,117,108,104,115,117])),(.str (.slit [109,117,108,104,117])),(.str (.slit [100,105,118])),(.str (.slit [100,105,118,117])),(.str (.slit [114,101,109])),(.str (.slit [114,101,109,117]))] 9 none)],n:=8})),
 ([qrows0],(.ok {v:=(.slice 7 0 1 (.known 1)),objs:=[(7,.cells [qrows0] 9 none)],n:=8})),
 ([(.str (.slit [115,99,32,97,109,111,115,119,97,112,32,97,109,111,97,100,100,32,97,109,111,120,111,114,32,97,109,111,97,110,100,32,97,109,111,111,114,32,97,109,111,109,105,110,32,97,109,111,109,97,120,32,97,109,111,109,105,110,117,32,97,109,111,109,97,120,117]))],(.ok {v:=(.slice 7 0 10 (.known 10)),objs:=[(7,.cells [(.str (.slit [115,99])),(.str (.slit [97,109,111,115,119,97,112])),(.str (.slit [97,109,111,97,100,100])),(.str (.slit [97,109,111,120,111,114])),(.str (.slit [97,109,111,97,110,100])),(.str (.slit [97,109,111,111,114])),(.str (.slit [97,109,111,109,105,110])),(.str (.slit [97,109,111,109,97,120])),(.str (.slit [97,109,111,109,105,110,117])),(.str (.slit [97,109,111,109,97,120,117]))] 9 none)],n:=8}))]
theorem sum114_ok:TabOk (cxL []) LStart 7 4000 114 sum114:=rowsChk_ok (by kernel_rfl)
noncomputable def sl114:SmL:=(114,sumTab LStart 7 sum114)::[]
theorem ok114{ro:Nat→Obj}(h:RoAll ro):AtAll ro sl114:=AtAll.tab .nil h Tryz.func114 sum114_ok
def sum111:List (List V×R Leaf):=[([],(.ok {v:=(.map 14),objs:=[(21,.cells [(.int .i64 (.lit (4094)))] 2 none),(20,.cells [(.int .i64 (.lit (-4096)))] 2 none),(16,.cells [(.int .i64 (.lit (1048574)))] 2 none),(15,.cells [(.int .i64 (.lit (-1048576)))] 2 none),(8,.cells [(.int .i64 (.lit (2047)))] 2 none),(7,.cells [(.int .i64 (.lit (-2048)))] 2 none),(17,.cells [(.func (.func 183) [] [(.ptr 15 0),(.ptr 16 0)])] 145 none),(19,.cells [(.int .i64 (.lit (31)))] 2 none),(18,.cells [(.int .i64 (.lit (0)))] 2 none),(22,.cells [(.func (.func 183) [] [(.ptr 20 0),(.ptr 21 0)])] 145 none),(24,.cells [(.int .i64 (.lit (2047)))] 2 none),(23,.cells [(.int .i64 (.lit (-2048)))] 2 none),(26,.cells [(.int .i64 (.lit (255)))] 2 none),(25,.cells [(.int .i64 (.lit (0)))] 2 none),(14,.map [((.str (.slit [102,101,110,99,101])),(.agg [(.int .u32 (.lit (4027580415))),(.bool (.lit (0))),(.bool (.lit (0))),(.bool (.lit (0))),(.bool (.lit (0))),(.func (.func 183) [] [(.ptr 25 0),(.ptr 26 0)]),(.func (.func 171) [] []),(.func (.func 172) [] []),(.func (.func 148) [] [])])),((.str (.slit [115])),(.agg [qrows1,(.bool (.lit (0))),(.bool (.lit (1))),(.bool (.lit (1))),(.bool (.lit (0))),(.func (.func 183) [] [(.ptr 23 0),(.ptr 24 0)]),(.func (.func 168) [] []),(.func (.func 169) [] []),(.func (.func 170) [] [])])),((.str (.slit [98])),(.agg [qrows1,(.bool (.lit (0))),(.bool (.lit (1))),(.bool (.lit (1))),(.bool (.lit (0))),(.func (.func 189) [] [(.ptr 22 0)]),(.func (.func 165) [] []),(.func (.func 166) [] []),(.func (.func 167) [] [])])),((.str (.slit [115,104,105,102,116])),(.agg [(.int .u32 (.lit (4261441663))),(.bool (.lit (1))),(.bool (.lit (1))),(.bool (.lit (0))),(.bool (.lit (0))),(.func (.func 183) [] [(.ptr 18 0),(.ptr 19 0)]),(.func (.func 163) [] []),(.func (.func 164) [] []),(.func (.func 145) [] [])])),((.str (.slit [106])),(.agg [(.int .u32 (.lit (127))),(.bool (.lit (1))),(.bool (.lit (0))),(.bool (.lit (0))),(.bool (.lit (0))),(.func (.func 189) [] [(.ptr 17 0)]),(.func (.func 160) [] []),(.func (.func 161) [] []),(.func (.func 162) [] [])])),((.str (.slit [99,115,114])),(.agg [(.int .u32 (.lit (4294963327))),(.bool (.lit (1))),(.bool (.lit (0))),(.bool (.lit (0))),(.bool (.lit (0))),qrows2,qrows3,qrows3,(.func (.func 174) [] [])])),((.str (.slit [97])),(.agg [(.int .u32 (.lit (4160778367))),(.bool (.lit (1))),(.bool (.lit (1))),(.bool (.lit (1))),(.bool (.lit (1))),qrows2,qrows3,qrows3,(.func (.func 152) [] [])])),(qrows0,(.agg [(.int .u32 (.lit (4193284223))),(.bool (.lit (1))),(.bool (.lit (1))),(.bool (.lit (0))),(.bool (.lit (1))),qrows2,qrows3,qrows3,(.func (.func 153) [] [])])),((.str (.slit [97,108,108])),(.agg [(.int .u32 (.lit (4294967295))),(.bool (.lit (0))),(.bool (.lit (0))),(.bool (.lit (0))),(.bool (.lit (0))),qrows2,qrows3,qrows3,(.func (.func 173) [] [])])),((.str (.slit [114])),(.agg [(.int .u32 (.lit (4261441663))),(.bool (.lit (1))),(.bool (.lit (1))),(.bool (.lit (1))),(.bool (.lit (0))),qrows2,qrows3,qrows3,(.func (.func 151) [] [])])),((.str (.slit [108,111,97,100])),(.agg [qrows1,(.bool (.lit (1))),(.bool (.lit (1))),(.bool (.lit (0))),(.bool (.lit (0))),qrows4,(.func (.func 144) [] []),(.func (.func 141) [] []),(.func (.func 149) [] [])])),((.str (.slit [105])),(.agg [qrows1,(.bool (.lit (1))),(.bool (.lit (1))),(.bool (.lit (0))),(.bool (.lit (0))),qrows4,(.func (.func 144) [] []),(.func (.func 141) [] []),(.func (.func 145) [] [])])),((.str (.slit [117])),(.agg [(.int .u32 (.lit (127))),(.bool (.lit (1))),(.bool (.lit (0))),(.bool (.lit (0))),(.bool (.lit (0))),(.func (.func 154) [] []),(.func (.func 155) [] []),(.func (.func 156) [] []),(.func (.func 157) [] [])]))])],n:=27}))]
theorem sum111_ok:TabOk (cxL sl114) LStart 7 4000 111 sum111:=rowsChk_ok (by kernel_rfl)
noncomputable def sl111:SmL:=(111,sumTab LStart 7 sum111)::sl114
theorem ok111{ro:Nat→Obj}(h:RoAll ro):AtAll ro sl111:=AtAll.tab (ok114 h) h Tryz.func111 sum111_ok
def sum70:List (List V×R Leaf):=[([(.int .i64 (.lit 0))],qrows5),
 ([qrows6],(lf 7 (.int .u32 (.lit 2)))),
 ([qrows7],(lf 7 (.int .u32 (.lit 4)))),
 ([qrows8],(lf 7 (.int .u32 (.lit 8)))),
 ([qrows9],(lf 7 (.int .u32 (.lit 16)))),
 ([qrows10],qrows11),
 ([qrows12],(lf 7 (.int .u32 (.lit 64)))),
 ([qrows13],(lf 7 (.int .u32 (.lit 128)))),
 ([qrows14],(lf 7 (.int .u32 (.lit 256)))),
 ([qrows15],(lf 7 (.int .u32 (.lit 512)))),
 ([qrows16],(lf 7 (.int .u32 (.lit 1024)))),
 ([qrows17],(lf 7 (.int .u32 (.lit 2048)))),
 ([qrows18],(lf 7 (.int .u32 (.lit 4096)))),
 ([qrows19],(lf 7 (.int .u32 (.lit 8192)))),
 ([qrows20],(lf 7 (.int .u32 (.lit 16384)))),
 ([qrows21],(lf 7 (.int .u32 (.lit 32768)))),
 ([qrows22],(lf 7 (.int .u32 (.lit 65536)))),
 ([qrows23],(lf 7 (.int .u32 (.lit 131072)))),
 ([qrows24],(lf 7 (.int .u32 (.lit 262144)))),
 ([qrows25],(lf 7 (.int .u32 (.lit 524288)))),
 ([qrows26],(lf 7 (.int .u32 (.lit 1048576)))),
 ([qrows27],(lf 7 (.int .u32 (.lit 2097152)))),
 ([qrows28],(lf 7 (.int .u32 (.lit 4194304)))),
 ([qrows29],(lf 7 (.int .u32 (.lit 8388608)))),
 ([qrows30],(lf 7 (.int .u32 (.lit 16777216)))),
 ([qrows31],(lf 7 (.int .u32 (.lit 33554432)))),
 ([qrows32],(lf 7 (.int .u32 (.lit 67108864)))),
 ([qrows33],(lf 7 (.int .u32 (.lit 134217728)))),
 ([qrows34],(lf 7 (.int .u32 (.lit 268435456)))),
 ([qrows35],(lf 7 (.int .u32 (.lit 536870912)))),
 ([qrows36],(lf 7 (.int .u32 (.lit 1073741824)))),
 ([qrows37],(lf 7 (.int .u32 (.lit 2147483648))))]
theorem sum70_ok:TabOk (cxL sl111) LStart 7 4000 70 sum70:=rowsChk_ok (by kernel_rfl)
noncomputable def sl70:SmL:=(70,sumTab LStart 7 sum70)::sl111
theorem ok70{ro:Nat→Obj}(h:RoAll ro):AtAll ro sl70:=AtAll.tab (ok111 h) h Tryz.func70 sum70_ok
def sum67:List (List V×R Leaf):=[([qrows6],(lf 7 (.int .u8 (.lit 117)))),
 ([qrows7],(lf 7 (.int .u8 (.lit 117)))),
 ([qrows8],(lf 7 (.int .u8 (.lit 106)))),
 ([qrows9],qrows38),
 ([qrows10],qrows39),
 ([qrows12],qrows39),
 ([qrows13],qrows39),
 ([qrows14],qrows39),
 ([qrows15],qrows39),
 ([qrows16],qrows39),
 ([qrows17],qrows38),
 ([qrows18],qrows38),
 ([qrows19],qrows38),
 ([qrows20],qrows38),
 ([qrows21],qrows38),
 ([qrows22],qrows40),
 ([qrows23],qrows40),
 ([qrows24],qrows40),
 ([qrows25],qrows41),
 ([qrows26],qrows41),
 ([qrows27],qrows41),
 ([qrows28],qrows41),
 ([qrows29],qrows41),
 ([qrows30],qrows41),
 ([qrows31],qrows42),
 ([qrows32],qrows42),
 ([qrows33],qrows42),
 ([qrows34],qrows43),
 ([qrows35],qrows43),
 ([qrows36],qrows43),
 ([qrows37],qrows43),
 ([qrows44],qrows43),
 ([qrows45],qrows43),
 ([qrows46],qrows43),
 ([qrows47],qrows43),
 ([qrows48],qrows43),
 ([qrows49],qrows43),
 ([qrows50],(lf 7 (.int .u8 (.lit 102)))),
 ([qrows51],(lf 7 (.int .u8 (.lit 101)))),
 ([qrows52],qrows43),
 ([qrows53],qrows43),
 ([qrows54],qrows43),
 ([qrows55],qrows43),
 ([qrows56],qrows43),
 ([qrows57],qrows43),
 ([qrows58],qrows43),
 ([qrows59],qrows43),
 ([qrows60],(lf 7 (.int .u8 (.lit 113)))),
 ([qrows61],qrows62),
 ([qrows63],qrows62),
 ([qrows64],qrows62),
 ([qrows65],qrows62),
 ([qrows66],qrows62),
 ([qrows67],qrows62),
 ([qrows68],qrows62),
 ([qrows69],qrows62),
 ([qrows70],qrows62),
 ([qrows71],qrows62),
 ([qrows72],(lf 7 (.int .u8 (.lit 99))))]
theorem sum67_ok:TabOk (cxL sl70) LStart 7 4000 67 sum67:=rowsChk_ok (by kernel_rfl)
noncomputable def sl67:SmL:=(67,sumTab LStart 7 sum67)::sl70
theorem ok67{ro:Nat→Obj}(h:RoAll ro):AtAll ro sl67:=AtAll.tab (ok70 h) h Tryz.func67 sum67_ok
def sum84:List (List V×R Leaf):=[([qrows6],(lf 7 (.int .u32 (.lit 55)))),
 ([qrows7],(lf 7 (.int .u32 (.lit 23)))),
 ([qrows8],(lf 7 (.int .u32 (.lit 111)))),
 ([qrows9],(lf 7 (.int .u32 (.lit 103)))),
 ([qrows10],qrows73),
 ([qrows12],qrows73),
 ([qrows13],qrows73),
 ([qrows14],qrows73),
 ([qrows15],qrows73),
 ([qrows16],qrows73),
 ([qrows17],qrows74),
 ([qrows18],qrows74),
 ([qrows19],qrows74),
 ([qrows20],qrows74),
 ([qrows21],qrows74),
 ([qrows22],qrows75),
 ([qrows23],qrows75),
 ([qrows24],qrows75),
 ([qrows25],qrows76),
 ([qrows26],qrows76),
 ([qrows27],qrows76),
 ([qrows28],qrows76),
 ([qrows29],qrows76),
 ([qrows30],qrows76),
 ([qrows31],qrows76),
 ([qrows32],qrows76),
 ([qrows33],qrows76),
 ([qrows34],qrows77),
 ([qrows35],qrows77),
 ([qrows36],qrows77),
 ([qrows37],qrows77),
 ([qrows44],qrows77),
 ([qrows45],qrows77),
 ([qrows46],qrows77),
 ([qrows47],qrows77),
 ([qrows48],qrows77),
 ([qrows49],qrows77),
 ([qrows50],(lf 7 (.int .u32 (.lit 15)))),
 ([qrows51],(lf 7 (.int .u32 (.lit 115)))),
 ([qrows52],qrows77),
 ([qrows53],qrows77),
 ([qrows54],qrows77),
 ([qrows55],qrows77),
 ([qrows56],qrows77),
 ([qrows57],qrows77),
 ([qrows58],qrows77),
 ([qrows59],qrows77),
 ([qrows60],qrows78),
 ([qrows61],qrows78),
 ([qrows63],qrows78),
 ([qrows64],qrows78),
 ([qrows65],qrows78),
 ([qrows66],qrows78),
 ([qrows67],qrows78),
 ([qrows68],qrows78),
 ([qrows69],qrows78),
 ([qrows70],qrows78),
 ([qrows71],qrows78),
 ([qrows72],(lf 7 (.int .u32 (.lit 115))))]
theorem sum84_ok:TabOk (cxL sl67) LStart 7 4000 84 sum84:=rowsChk_ok (by kernel_rfl)
noncomputable def sl84:SmL:=(84,sumTab LStart 7 sum84)::sl67
theorem ok84{ro:Nat→Obj}(h:RoAll ro):AtAll ro sl84:=AtAll.tab (ok67 h) h Tryz.func84 sum84_ok
def sum85:List (List V×R Leaf):=[([qrows6],qrows79),
 ([qrows7],qrows79),
 ([qrows8],qrows79),
 ([qrows9],qrows79),
 ([qrows10],qrows79),
 ([qrows12],qrows80),
 ([qrows13],qrows81),
 ([qrows14],qrows82),
 ([qrows15],qrows83),
 ([qrows16],qrows84),
 ([qrows17],qrows79),
 ([qrows18],qrows80),
 ([qrows19],qrows85),
 ([qrows20],qrows81),
 ([qrows21],qrows82),
 ([qrows22],qrows79),
 ([qrows23],qrows80),
 ([qrows24],qrows85),
 ([qrows25],qrows79),
 ([qrows26],qrows85),
 ([qrows27],qrows86),
 ([qrows28],qrows81),
 ([qrows29],qrows83),
 ([qrows30],qrows84),
 ([qrows31],qrows80),
 ([qrows32],qrows82),
 ([qrows33],qrows82),
 ([qrows34],qrows79),
 ([qrows35],qrows79),
 ([qrows36],qrows80),
 ([qrows37],qrows85),
 ([qrows44],qrows86),
 ([qrows45],qrows81),
 ([qrows46],qrows82),
 ([qrows47],qrows82),
 ([qrows48],qrows83),
 ([qrows49],qrows84),
 ([qrows50],qrows79),
 ([qrows51],qrows79),
 ([qrows52],qrows79),
 ([qrows53],qrows80),
 ([qrows54],qrows85),
 ([qrows55],qrows86),
 ([qrows56],qrows81),
 ([qrows57],qrows82),
 ([qrows58],qrows83),
 ([qrows59],qrows84),
 ([qrows60],qrows85),
 ([qrows61],qrows85),
 ([qrows63],qrows85),
 ([qrows64],qrows85),
 ([qrows65],qrows85),
 ([qrows66],qrows85),
 ([qrows67],qrows85),
 ([qrows68],qrows85),
 ([qrows69],qrows85),
 ([qrows70],qrows85),
 ([qrows71],qrows85),
 ([qrows72],qrows85)]
theorem sum85_ok:TabOk (cxL sl84) LStart 7 4000 85 sum85:=rowsChk_ok (by kernel_rfl)
noncomputable def sl85:SmL:=(85,sumTab LStart 7 sum85)::sl84
theorem ok85{ro:Nat→Obj}(h:RoAll ro):AtAll ro sl85:=AtAll.tab (ok84 h) h Tryz.func85 sum85_ok
def sum86:List (List V×R Leaf):=[([qrows6],qrows87),
 ([qrows7],qrows87),
 ([qrows8],qrows87),
 ([qrows9],qrows87),
 ([qrows10],qrows87),
 ([qrows12],qrows87),
 ([qrows13],qrows87),
 ([qrows14],qrows87),
 ([qrows15],qrows87),
 ([qrows16],qrows87),
 ([qrows17],qrows87),
 ([qrows18],qrows87),
 ([qrows19],qrows87),
 ([qrows20],qrows87),
 ([qrows21],qrows87),
 ([qrows22],qrows87),
 ([qrows23],qrows87),
 ([qrows24],qrows87),
 ([qrows25],qrows87),
 ([qrows26],qrows87),
 ([qrows27],qrows87),
 ([qrows28],qrows87),
 ([qrows29],qrows87),
 ([qrows30],qrows87),
 ([qrows31],qrows87),
 ([qrows32],qrows87),
 ([qrows33],qrows11),
 ([qrows34],qrows87),
 ([qrows35],qrows11),
 ([qrows36],qrows87),
 ([qrows37],qrows87),
 ([qrows44],qrows87),
 ([qrows45],qrows87),
 ([qrows46],qrows87),
 ([qrows47],qrows11),
 ([qrows48],qrows87),
 ([qrows49],qrows87),
 ([qrows50],qrows87),
 ([qrows51],qrows87),
 ([qrows52],qrows5),
 ([qrows53],qrows5),
 ([qrows54],qrows5),
 ([qrows55],qrows5),
 ([qrows56],qrows5),
 ([qrows57],qrows5),
 ([qrows58],qrows5),
 ([qrows59],qrows5),
 ([qrows60],(lf 8 (.int .u32 (.lit 8)))),
 ([qrows61],(lf 8 (.int .u32 (.lit 12)))),
 ([qrows63],qrows81),
 ([qrows64],qrows79),
 ([qrows65],(lf 8 (.int .u32 (.lit 16)))),
 ([qrows66],(lf 8 (.int .u32 (.lit 48)))),
 ([qrows67],(lf 8 (.int .u32 (.lit 32)))),
 ([qrows68],(lf 8 (.int .u32 (.lit 64)))),
 ([qrows69],(lf 8 (.int .u32 (.lit 80)))),
 ([qrows70],(lf 8 (.int .u32 (.lit 96)))),
 ([qrows71],(lf 8 (.int .u32 (.lit 112)))),
 ([qrows72],qrows87)]
theorem sum86_ok:TabOk (cxL sl85) LStart 7 4000 86 sum86:=rowsChk_ok (by kernel_rfl)
noncomputable def sl86:SmL:=(86,sumTab LStart 7 sum86)::sl85
theorem ok86{ro:Nat→Obj}(h:RoAll ro):AtAll ro sl86:=AtAll.tab (ok85 h) h Tryz.func86 sum86_ok
def sum68:List (List V×R Leaf):=[([qrows88,qrows17,qrows13],(lf 7 (.int .u32 (sg [(2,7,5)] .zero)))),
 ([qrows88,qrows25,qrows21],(lf 7 (.int .u32 (sg [(2,15,5)] .zero)))),
 ([qrows88,qrows30,qrows26],(lf 7 (.int .u32 (sg [(2,20,5)] .zero)))),
 ([qrows88,qrows37,qrows37],(lf 7 (.int .u32 (sg [(2,31,1)] .zero)))),
 ([qrows88,qrows25,qrows18],(lf 7 (.int .u32 (sg [(2,12,8)] .zero)))),
 ([qrows88,qrows26,qrows26],(lf 7 (.int .u32 (sg [(2,20,1)] .zero)))),
 ([qrows88,qrows36,qrows27],(lf 7 (.int .u32 (sg [(2,21,10)] .zero)))),
 ([qrows88,qrows13,qrows13],(lf 7 (.int .u32 (sg [(2,7,1)] .zero)))),
 ([qrows88,qrows36,qrows31],(lf 7 (.int .u32 (sg [(2,25,6)] .zero)))),
 ([qrows88,qrows17,qrows14],(lf 7 (.int .u32 (sg [(2,8,4)] .zero)))),
 ([qrows88,qrows37,qrows31],(lf 7 (.int .u32 (sg [(2,25,7)] .zero)))),
 ([qrows88,qrows37,qrows26],(lf 7 (.int .u32 (sg [(2,20,12)] .zero)))),
 ([qrows88,qrows33,qrows26],(lf 7 (.int .u32 (sg [(2,20,8)] .zero)))),
 ([qrows88,qrows32,qrows32],(lf 7 (.int .u32 (sg [(2,26,1)] .zero)))),
 ([qrows88,qrows31,qrows31],(lf 7 (.int .u32 (sg [(2,25,1)] .zero)))),
 ([qrows88,qrows16,qrows6],(lf 7 (.int .u32 (sg [(2,1,10)] .zero)))),
 ([qrows88,qrows17,qrows17],(lf 7 (.int .u32 (sg [(2,11,1)] .zero)))),
 ([qrows88,qrows18,qrows18],(lf 7 (.int .u32 (sg [(2,12,1)] .zero)))),
 ([qrows88,qrows16,qrows10],(lf 7 (.int .u32 (sg [(2,5,6)] .zero)))),
 ([qrows88,qrows9,qrows6],(lf 7 (.int .u32 (sg [(2,1,4)] .zero)))),
 ([qrows88,qrows17,qrows10],(lf 7 (.int .u32 (sg [(2,5,7)] .zero)))),
 ([qrows88,qrows9,(.int .i64 (.lit 0))],(lf 7 (.int .u32 (sg [(2,0,5)] .zero)))),
 ([qrows88,qrows17,(.int .i64 (.lit 0))],(lf 7 (.int .u32 (sg [(2,0,12)] .zero))))]
theorem sum68_ok:TabOk (cxL sl86) LStart 7 4000 68 sum68:=rowsChk_ok (by kernel_rfl)
noncomputable def sl68:SmL:=(68,sumPar LStart 7 sum68)::sl86
theorem ok68{ro:Nat→Obj}(h:RoAll ro):AtAll ro sl68:=AtAll.par (ok86 h) h Tryz.func68 sum68_ok
def sum71:List (List V×R Leaf):=[([qrows96],qrows100),
 ([qrows101],qrows100),
 ([qrows102],(.br (.cube 992 0) (.br qrows97 (.br qrows94 qrows98 (.br qrows95 qrows98 (.br qrows99 (.br (.cube 32768 0) (.br (.cube 70334384439296 70334384439296) (lf 8 (.bool (.lit 1))) qrows98) qrows98) (.br (.cube 32768 0) (lf 8 (.bool (.cube 70334384439296 0))) qrows98)))) qrows98) qrows98)),
 ([qrows103],qrows105),
 ([qrows106],qrows107),
 ([qrows108],qrows107),
 ([qrows109],qrows107),
 ([qrows110],qrows107),
 ([qrows111],qrows107),
 ([qrows112],qrows107),
 ([qrows113],qrows105),
 ([qrows114],qrows105),
 ([qrows115],qrows105),
 ([qrows116],qrows105),
 ([qrows117],qrows105),
 ([qrows118],qrows119),
 ([qrows120],qrows119),
 ([qrows121],qrows119),
 ([qrows122],qrows105),
 ([qrows123],qrows105),
 ([qrows124],qrows105),
 ([qrows125],qrows105),
 ([qrows126],qrows105),
 ([qrows127],qrows105),
 ([qrows128],qrows129),
 ([qrows130],qrows129),
 ([qrows131],qrows129),
 ([qrows132],qrows134),
 ([qrows135],qrows134),
 ([qrows136],qrows134),
 ([qrows137],qrows134),
 ([qrows138],qrows134),
 ([qrows139],qrows134),
 ([qrows140],qrows134),
 ([qrows141],qrows134),
 ([qrows142],qrows134),
 ([qrows143],qrows134),
 ([qrows144],(.br (.cube 31 0) (.br (.cube 992 0) (.br qrows97 (.br qrows94 qrows98 (.br qrows95 qrows98 (.br qrows99 qrows98 (lf 8 (.bool (.cube 70368735789056 0)))))) qrows98) qrows98) qrows98)),
 ([qrows145],(.br (.cube 31 0) qrows146 qrows98)),
 ([qrows147],qrows134),
 ([qrows148],qrows134),
 ([qrows149],qrows134),
 ([qrows150],qrows134),
 ([qrows151],qrows134),
 ([qrows152],qrows134),
 ([qrows153],qrows134),
 ([qrows154],qrows134),
 ([qrows155],(.br qrows97 qrows133 qrows98)),
 ([qrows156],qrows133),
 ([qrows157],qrows133),
 ([qrows158],qrows133),
 ([qrows159],qrows133),
 ([qrows160],qrows133),
 ([qrows161],qrows133),
 ([qrows162],qrows133),
 ([qrows163],qrows133),
 ([qrows164],qrows133),
 ([qrows165],qrows133),
 ([qrows166],qrows146)]
theorem sum71_ok:TabOk (cxL sl68) LStart 7 4000 71 sum71:=rowsChk_ok (by kernel_rfl)
noncomputable def sl71:SmL:=(71,sumPar LStart 7 sum71)::sl68
theorem ok71{ro:Nat→Obj}(h:RoAll ro):AtAll ro sl71:=AtAll.par (ok68 h) h Tryz.func71 sum71_ok
def sum72:List (List V×R Leaf):=[([qrows96],(lf 8 (.int .u32 (.wrap .u32 (.add (sg [(1,0,3),(0,0,1),(1,0,2),(0,0,1),(2,0,5),(0,0,3),(2,5,10)] .zero) qrows92))))),
 ([qrows101],(lf 8 (.int .u32 (.wrap .u32 (.add (sg [(1,0,3),(0,0,1),(1,0,1),(0,0,2),(2,0,5),(0,0,3),(2,5,10)] .zero) qrows92))))),
 ([qrows102],(lf 8 (.int .u32 (.wrap .u32 (.add (.wrap .u32 (.add (.wrap .u32 (.add (sg [(1,0,4),(0,0,1),(1,0,2),(2,0,5),(0,0,3),(2,5,10),(0,0,6),(2,35,1)] .zero) (sg [(0,0,21),(2,16,10)] .zero))) (sg [(0,0,20),(2,26,1)] .zero))) (sg [(0,0,12),(2,27,8)] .zero)))))),
 ([qrows103],(lf 9 (.int .u32 (.wrap .u32 (.add (sg [(1,0,3),(0,0,2),(1,0,2),(2,0,5),(0,0,3),(2,5,10)] .zero) qrows167))))),
 ([qrows106],(lf 9 (.int .u32 (.wrap .u32 (.add (.wrap .u32 (.add (sg [(1,0,2),(0,0,3),(1,0,2),(2,0,5),(0,0,3),(2,5,10),(2,20,6),(2,27,1)] .zero) qrows168)) qrows169))))),
 ([qrows108],(lf 9 (.int .u32 (.wrap .u32 (.add (.wrap .u32 (.add (sg [(1,0,2),(0,0,3),(1,0,2),(2,0,5),(1,0,1),(0,0,2),(2,5,10),(2,20,6),(2,27,1)] .zero) qrows168)) qrows169))))),
 ([qrows109],(lf 9 (.int .u32 (.wrap .u32 (.add (.wrap .u32 (.add (sg [(1,0,2),(0,0,3),(1,0,2),(2,0,5),(0,0,2),(1,0,1),(2,5,10),(2,20,6),(2,27,1)] .zero) qrows168)) qrows169))))),
 ([qrows110],(lf 9 (.int .u32 (.wrap .u32 (.add (.wrap .u32 (.add (sg [(1,0,2),(0,0,3),(1,0,2),(2,0,5),(1,0,1),(0,0,1),(1,0,1),(2,5,10),(2,20,6),(2,27,1)] .zero) qrows168)) qrows169))))),
 ([qrows111],(lf 9 (.int .u32 (.wrap .u32 (.add (.wrap .u32 (.add (sg [(1,0,2),(0,0,3),(1,0,2),(2,0,5),(0,0,1),(1,0,2),(2,5,10),(2,20,6),(2,27,1)] .zero) qrows168)) qrows169))))),
 ([qrows112],(lf 9 (.int .u32 (.wrap .u32 (.add (.wrap .u32 (.add (sg [(1,0,2),(0,0,3),(1,0,2),(2,0,5),(1,0,3),(2,5,10),(2,20,6),(2,27,1)] .zero) qrows168)) qrows169))))),
 ([qrows113],(lf 9 (.int .u32 (.wrap .u32 (.add (sg [(1,0,2),(0,0,5),(2,0,5),(0,0,3),(2,5,10)] .zero) qrows167))))),
 ([qrows114],(lf 9 (.int .u32 (.wrap .u32 (.add (sg [(1,0,2),(0,0,5),(2,0,5),(1,0,1),(0,0,2),(2,5,10)] .zero) qrows167))))),
 ([qrows115],(lf 9 (.int .u32 (.wrap .u32 (.add (sg [(1,0,2),(0,0,5),(2,0,5),(0,0,1),(1,0,1),(0,0,1),(2,5,10)] .zero) qrows167))))),
 ([qrows116],(lf 9 (.int .u32 (.wrap .u32 (.add (sg [(1,0,2),(0,0,5),(2,0,5),(0,0,2),(1,0,1),(2,5,10)] .zero) qrows167))))),
 ([qrows117],(lf 9 (.int .u32 (.wrap .u32 (.add (sg [(1,0,2),(0,0,5),(2,0,5),(1,0,1),(0,0,1),(1,0,1),(2,5,10)] .zero) qrows167))))),
 ([qrows118],(lf 9 (.int .u32 (.wrap .u32 (.add (sg [(1,0,2),(0,0,3),(1,0,1),(0,0,1),(2,0,5),(0,0,3),(2,5,10),(2,20,7)] .zero) qrows170))))),
 ([qrows120],(lf 9 (.int .u32 (.wrap .u32 (.add (sg [(1,0,2),(0,0,3),(1,0,1),(0,0,1),(2,0,5),(1,0,1),(0,0,2),(2,5,10),(2,20,7)] .zero) qrows170))))),
 ([qrows121],(lf 9 (.int .u32 (.wrap .u32 (.add (sg [(1,0,2),(0,0,3),(1,0,1),(0,0,1),(2,0,5),(0,0,1),(1,0,1),(0,0,1),(2,5,10),(2,20,7)] .zero) qrows170))))),
 ([qrows122],(lf 9 (.int .u32 (.wrap .u32 (.add (sg [(1,0,2),(0,0,2),(1,0,1),(0,0,2),(2,0,5),(0,0,3),(2,5,10)] .zero) qrows167))))),
 ([qrows123],(lf 9 (.int .u32 (.wrap .u32 (.add (sg [(1,0,2),(0,0,2),(1,0,1),(0,0,2),(2,0,5),(0,0,1),(1,0,1),(0,0,1),(2,5,10)] .zero) qrows167))))),
 ([qrows124],(lf 9 (.int .u32 (.wrap .u32 (.add (sg [(1,0,2),(0,0,2),(1,0,1),(0,0,2),(2,0,5),(1,0,2),(0,0,1),(2,5,10)] .zero) qrows167))))),
 ([qrows125],(lf 9 (.int .u32 (.wrap .u32 (.add (sg [(1,0,2),(0,0,2),(1,0,1),(0,0,2),(2,0,5),(0,0,2),(1,0,1),(2,5,10)] .zero) qrows167))))),
 ([qrows126],(lf 9 (.int .u32 (.wrap .u32 (.add (sg [(1,0,2),(0,0,2),(1,0,1),(0,0,2),(2,0,5),(0,0,1),(1,0,2),(2,5,10)] .zero) qrows167))))),
 ([qrows127],(lf 9 (.int .u32 (.wrap .u32 (.add (sg [(1,0,2),(0,0,2),(1,0,1),(0,0,2),(2,0,5),(1,0,3),(2,5,10)] .zero) qrows167))))),
 ([qrows128],(lf 9 (.int .u32 (.wrap .u32 (.add (sg [(1,0,2),(0,0,2),(1,0,1),(0,0,2),(2,0,5),(1,0,1),(0,0,2),(2,5,10)] .zero) qrows167))))),
 ([qrows130],(lf 9 (.int .u32 (.wrap .u32 (.add (sg [(1,0,2),(0,0,2),(1,0,1),(0,0,2),(2,0,5),(1,0,1),(0,0,1),(1,0,1),(2,5,10)] .zero) qrows167))))),
 ([qrows131],(lf 9 (.int .u32 (.wrap .u32 (.add (sg [(1,0,2),(0,0,2),(1,0,1),(0,0,2),(2,0,5),(1,0,1),(0,0,1),(1,0,1),(2,5,10),(0,0,5),(1,0,1)] .zero) qrows167))))),
 ([qrows132],(lf 9 (.int .u32 (sg [(1,0,2),(0,0,2),(1,0,2),(0,0,1),(2,0,5),(0,0,3),(2,5,10)] .zero)))),
 ([qrows135],(lf 9 (.int .u32 (sg [(1,0,2),(0,0,2),(1,0,2),(0,0,1),(2,0,5),(0,0,3),(2,5,10),(0,0,5),(1,0,1)] .zero)))),
 ([qrows136],(lf 9 (.int .u32 (sg [(1,0,2),(0,0,2),(1,0,2),(0,0,1),(2,0,5),(1,0,1),(0,0,2),(2,5,10)] .zero)))),
 ([qrows137],(lf 9 (.int .u32 (sg [(1,0,2),(0,0,2),(1,0,2),(0,0,1),(2,0,5),(0,0,1),(1,0,1),(0,0,1),(2,5,10)] .zero)))),
 ([qrows138],(lf 9 (.int .u32 (sg [(1,0,2),(0,0,2),(1,0,2),(0,0,1),(2,0,5),(1,0,2),(0,0,1),(2,5,10)] .zero)))),
 ([qrows139],(lf 9 (.int .u32 (sg [(1,0,2),(0,0,2),(1,0,2),(0,0,1),(2,0,5),(0,0,2),(1,0,1),(2,5,10)] .zero)))),
 ([qrows140],(lf 9 (.int .u32 (sg [(1,0,2),(0,0,2),(1,0,2),(0,0,1),(2,0,5),(1,0,1),(0,0,1),(1,0,1),(2,5,10)] .zero)))),
 ([qrows141],(lf 9 (.int .u32 (sg [(1,0,2),(0,0,2),(1,0,2),(0,0,1),(2,0,5),(1,0,1),(0,0,1),(1,0,1),(2,5,10),(0,0,5),(1,0,1)] .zero)))),
 ([qrows142],(lf 9 (.int .u32 (sg [(1,0,2),(0,0,2),(1,0,2),(0,0,1),(2,0,5),(0,0,1),(1,0,2),(2,5,10)] .zero)))),
 ([qrows143],(lf 9 (.int .u32 (sg [(1,0,2),(0,0,2),(1,0,2),(0,0,1),(2,0,5),(1,0,3),(2,5,10)] .zero)))),
 ([qrows144],(lf 9 (.int .u32 (.wrap .u32 (.add (sg [(1,0,4),(0,0,3),(2,0,5),(0,0,3),(2,5,10)] .zero) qrows167))))),
 ([qrows145],(lf 9 (.int .u32 (sg [(1,0,2),(0,0,2),(1,0,3),(2,0,5),(0,0,3),(2,5,10)] .zero)))),
 ([qrows147],(lf 9 (.int .u32 (sg [(1,0,2),(0,0,2),(1,0,2),(0,0,1),(2,0,5),(0,0,3),(2,5,10),(1,0,1)] .zero)))),
 ([qrows148],(lf 9 (.int .u32 (sg [(1,0,2),(0,0,2),(1,0,2),(0,0,1),(2,0,5),(1,0,1),(0,0,2),(2,5,10),(1,0,1)] .zero)))),
 ([qrows149],(lf 9 (.int .u32 (sg [(1,0,2),(0,0,2),(1,0,2),(0,0,1),(2,0,5),(0,0,1),(1,0,1),(0,0,1),(2,5,10),(1,0,1)] .zero)))),
 ([qrows150],(lf 9 (.int .u32 (sg [(1,0,2),(0,0,2),(1,0,2),(0,0,1),(2,0,5),(1,0,2),(0,0,1),(2,5,10),(1,0,1)] .zero)))),
 ([qrows151],(lf 9 (.int .u32 (sg [(1,0,2),(0,0,2),(1,0,2),(0,0,1),(2,0,5),(0,0,2),(1,0,1),(2,5,10),(1,0,1)] .zero)))),
 ([qrows152],(lf 9 (.int .u32 (sg [(1,0,2),(0,0,2),(1,0,2),(0,0,1),(2,0,5),(1,0,1),(0,0,1),(1,0,1),(2,5,10),(1,0,1)] .zero)))),
 ([qrows153],(lf 9 (.int .u32 (sg [(1,0,2),(0,0,2),(1,0,2),(0,0,1),(2,0,5),(0,0,1),(1,0,2),(2,5,10),(1,0,1)] .zero)))),
 ([qrows154],(lf 9 (.int .u32 (sg [(1,0,2),(0,0,2),(1,0,2),(0,0,1),(2,0,5),(1,0,3),(2,5,10),(1,0,1)] .zero)))),
 ([qrows155],(.br qrows94 (.br qrows95 (lf 10 (.int .u32 (sg [(1,0,4),(0,0,1),(1,0,1),(0,0,1),(2,0,5),(0,0,1),(1,0,1),(0,0,1),(2,5,10),(1,0,2),(0,0,1),(1,0,1)] .zero))) (lf 10 (.int .u32 (sg [(1,0,4),(0,0,1),(1,0,1),(0,0,1),(2,0,5),(0,0,1),(1,0,1),(0,0,1),(2,5,10),(0,0,1),(1,0,1),(0,0,1),(1,0,1)] .zero)))) (.br qrows95 (lf 10 (.int .u32 (sg [(1,0,4),(0,0,1),(1,0,1),(0,0,1),(2,0,5),(0,0,1),(1,0,1),(0,0,1),(2,5,10),(1,0,1),(0,0,2),(1,0,1)] .zero))) (lf 10 (.int .u32 (sg [(1,0,4),(0,0,1),(1,0,1),(0,0,1),(2,0,5),(0,0,1),(1,0,1),(0,0,1),(2,5,10),(0,0,3),(1,0,1)] .zero)))))),
 ([qrows156],(.br qrows94 (.br qrows95 (lf 10 (.int .u32 (sg [(1,0,4),(0,0,1),(1,0,1),(0,0,1),(2,0,5),(0,0,1),(1,0,1),(0,0,1),(2,5,10),(1,0,4)] .zero))) (lf 10 (.int .u32 (sg [(1,0,4),(0,0,1),(1,0,1),(0,0,1),(2,0,5),(0,0,1),(1,0,1),(0,0,1),(2,5,10),(0,0,1),(1,0,3)] .zero)))) (.br qrows95 (lf 10 (.int .u32 (sg [(1,0,4),(0,0,1),(1,0,1),(0,0,1),(2,0,5),(0,0,1),(1,0,1),(0,0,1),(2,5,10),(1,0,1),(0,0,1),(1,0,2)] .zero))) (lf 10 (.int .u32 (sg [(1,0,4),(0,0,1),(1,0,1),(0,0,1),(2,0,5),(0,0,1),(1,0,1),(0,0,1),(2,5,10),(0,0,2),(1,0,2)] .zero)))))),
 ([qrows157],(.br qrows94 (.br qrows95 (lf 10 (.int .u32 (sg [(1,0,4),(0,0,1),(1,0,1),(0,0,1),(2,0,5),(0,0,1),(1,0,1),(0,0,1),(2,5,10),(1,0,3)] .zero))) (lf 10 (.int .u32 (sg [(1,0,4),(0,0,1),(1,0,1),(0,0,1),(2,0,5),(0,0,1),(1,0,1),(0,0,1),(2,5,10),(0,0,1),(1,0,2)] .zero)))) (.br qrows95 (lf 10 (.int .u32 (sg [(1,0,4),(0,0,1),(1,0,1),(0,0,1),(2,0,5),(0,0,1),(1,0,1),(0,0,1),(2,5,10),(1,0,1),(0,0,1),(1,0,1)] .zero))) (lf 10 (.int .u32 (sg [(1,0,4),(0,0,1),(1,0,1),(0,0,1),(2,0,5),(0,0,1),(1,0,1),(0,0,1),(2,5,10),(0,0,2),(1,0,1)] .zero)))))),
 ([qrows158],(.br qrows94 (.br qrows95 (lf 10 (.int .u32 (sg [(1,0,4),(0,0,1),(1,0,1),(0,0,1),(2,0,5),(0,0,1),(1,0,1),(0,0,1),(2,5,10),(1,0,2)] .zero))) (lf 10 (.int .u32 (sg [(1,0,4),(0,0,1),(1,0,1),(0,0,1),(2,0,5),(0,0,1),(1,0,1),(0,0,1),(2,5,10),(0,0,1),(1,0,1)] .zero)))) (.br qrows95 (lf 10 (.int .u32 (sg [(1,0,4),(0,0,1),(1,0,1),(0,0,1),(2,0,5),(0,0,1),(1,0,1),(0,0,1),(2,5,10),(1,0,1)] .zero))) (lf 10 (.int .u32 (sg [(1,0,4),(0,0,1),(1,0,1),(0,0,1),(2,0,5),(0,0,1),(1,0,1),(0,0,1),(2,5,10)] .zero)))))),
 ([qrows159],(.br qrows94 (.br qrows95 (lf 10 (.int .u32 (sg [(1,0,4),(0,0,1),(1,0,1),(0,0,1),(2,0,5),(0,0,1),(1,0,1),(0,0,1),(2,5,10),(1,0,2),(0,0,2),(1,0,1)] .zero))) (lf 10 (.int .u32 (sg [(1,0,4),(0,0,1),(1,0,1),(0,0,1),(2,0,5),(0,0,1),(1,0,1),(0,0,1),(2,5,10),(0,0,1),(1,0,1),(0,0,2),(1,0,1)] .zero)))) (.br qrows95 (lf 10 (.int .u32 (sg [(1,0,4),(0,0,1),(1,0,1),(0,0,1),(2,0,5),(0,0,1),(1,0,1),(0,0,1),(2,5,10),(1,0,1),(0,0,3),(1,0,1)] .zero))) (lf 10 (.int .u32 (sg [(1,0,4),(0,0,1),(1,0,1),(0,0,1),(2,0,5),(0,0,1),(1,0,1),(0,0,1),(2,5,10),(0,0,4),(1,0,1)] .zero)))))),
 ([qrows160],(.br qrows94 (.br qrows95 (lf 10 (.int .u32 (sg [(1,0,4),(0,0,1),(1,0,1),(0,0,1),(2,0,5),(0,0,1),(1,0,1),(0,0,1),(2,5,10),(1,0,2),(0,0,2),(1,0,2)] .zero))) (lf 10 (.int .u32 (sg [(1,0,4),(0,0,1),(1,0,1),(0,0,1),(2,0,5),(0,0,1),(1,0,1),(0,0,1),(2,5,10),(0,0,1),(1,0,1),(0,0,2),(1,0,2)] .zero)))) (.br qrows95 (lf 10 (.int .u32 (sg [(1,0,4),(0,0,1),(1,0,1),(0,0,1),(2,0,5),(0,0,1),(1,0,1),(0,0,1),(2,5,10),(1,0,1),(0,0,3),(1,0,2)] .zero))) (lf 10 (.int .u32 (sg [(1,0,4),(0,0,1),(1,0,1),(0,0,1),(2,0,5),(0,0,1),(1,0,1),(0,0,1),(2,5,10),(0,0,4),(1,0,2)] .zero)))))),
 ([qrows161],(.br qrows94 (.br qrows95 (lf 10 (.int .u32 (sg [(1,0,4),(0,0,1),(1,0,1),(0,0,1),(2,0,5),(0,0,1),(1,0,1),(0,0,1),(2,5,10),(1,0,2),(0,0,3),(1,0,1)] .zero))) (lf 10 (.int .u32 (sg [(1,0,4),(0,0,1),(1,0,1),(0,0,1),(2,0,5),(0,0,1),(1,0,1),(0,0,1),(2,5,10),(0,0,1),(1,0,1),(0,0,3),(1,0,1)] .zero)))) (.br qrows95 (lf 10 (.int .u32 (sg [(1,0,4),(0,0,1),(1,0,1),(0,0,1),(2,0,5),(0,0,1),(1,0,1),(0,0,1),(2,5,10),(1,0,1),(0,0,4),(1,0,1)] .zero))) (lf 10 (.int .u32 (sg [(1,0,4),(0,0,1),(1,0,1),(0,0,1),(2,0,5),(0,0,1),(1,0,1),(0,0,1),(2,5,10),(0,0,5),(1,0,1)] .zero)))))),
 ([qrows162],(.br qrows94 (.br qrows95 (lf 10 (.int .u32 (sg [(1,0,4),(0,0,1),(1,0,1),(0,0,1),(2,0,5),(0,0,1),(1,0,1),(0,0,1),(2,5,10),(1,0,2),(0,0,4),(1,0,1)] .zero))) (lf 10 (.int .u32 (sg [(1,0,4),(0,0,1),(1,0,1),(0,0,1),(2,0,5),(0,0,1),(1,0,1),(0,0,1),(2,5,10),(0,0,1),(1,0,1),(0,0,4),(1,0,1)] .zero)))) (.br qrows95 (lf 10 (.int .u32 (sg [(1,0,4),(0,0,1),(1,0,1),(0,0,1),(2,0,5),(0,0,1),(1,0,1),(0,0,1),(2,5,10),(1,0,1),(0,0,5),(1,0,1)] .zero))) (lf 10 (.int .u32 (sg [(1,0,4),(0,0,1),(1,0,1),(0,0,1),(2,0,5),(0,0,1),(1,0,1),(0,0,1),(2,5,10),(0,0,6),(1,0,1)] .zero)))))),
 ([qrows163],(.br qrows94 (.br qrows95 (lf 10 (.int .u32 (sg [(1,0,4),(0,0,1),(1,0,1),(0,0,1),(2,0,5),(0,0,1),(1,0,1),(0,0,1),(2,5,10),(1,0,2),(0,0,2),(1,0,1),(0,0,1),(1,0,1)] .zero))) (lf 10 (.int .u32 (sg [(1,0,4),(0,0,1),(1,0,1),(0,0,1),(2,0,5),(0,0,1),(1,0,1),(0,0,1),(2,5,10),(0,0,1),(1,0,1),(0,0,2),(1,0,1),(0,0,1),(1,0,1)] .zero)))) (.br qrows95 (lf 10 (.int .u32 (sg [(1,0,4),(0,0,1),(1,0,1),(0,0,1),(2,0,5),(0,0,1),(1,0,1),(0,0,1),(2,5,10),(1,0,1),(0,0,3),(1,0,1),(0,0,1),(1,0,1)] .zero))) (lf 10 (.int .u32 (sg [(1,0,4),(0,0,1),(1,0,1),(0,0,1),(2,0,5),(0,0,1),(1,0,1),(0,0,1),(2,5,10),(0,0,4),(1,0,1),(0,0,1),(1,0,1)] .zero)))))),
 ([qrows164],(.br qrows94 (.br qrows95 (lf 10 (.int .u32 (sg [(1,0,4),(0,0,1),(1,0,1),(0,0,1),(2,0,5),(0,0,1),(1,0,1),(0,0,1),(2,5,10),(1,0,2),(0,0,3),(1,0,2)] .zero))) (lf 10 (.int .u32 (sg [(1,0,4),(0,0,1),(1,0,1),(0,0,1),(2,0,5),(0,0,1),(1,0,1),(0,0,1),(2,5,10),(0,0,1),(1,0,1),(0,0,3),(1,0,2)] .zero)))) (.br qrows95 (lf 10 (.int .u32 (sg [(1,0,4),(0,0,1),(1,0,1),(0,0,1),(2,0,5),(0,0,1),(1,0,1),(0,0,1),(2,5,10),(1,0,1),(0,0,4),(1,0,2)] .zero))) (lf 10 (.int .u32 (sg [(1,0,4),(0,0,1),(1,0,1),(0,0,1),(2,0,5),(0,0,1),(1,0,1),(0,0,1),(2,5,10),(0,0,5),(1,0,2)] .zero)))))),
 ([qrows165],(.br qrows94 (.br qrows95 (lf 10 (.int .u32 (sg [(1,0,4),(0,0,1),(1,0,1),(0,0,1),(2,0,5),(0,0,1),(1,0,1),(0,0,1),(2,5,10),(1,0,2),(0,0,2),(1,0,3)] .zero))) (lf 10 (.int .u32 (sg [(1,0,4),(0,0,1),(1,0,1),(0,0,1),(2,0,5),(0,0,1),(1,0,1),(0,0,1),(2,5,10),(0,0,1),(1,0,1),(0,0,2),(1,0,3)] .zero)))) (.br qrows95 (lf 10 (.int .u32 (sg [(1,0,4),(0,0,1),(1,0,1),(0,0,1),(2,0,5),(0,0,1),(1,0,1),(0,0,1),(2,5,10),(1,0,1),(0,0,3),(1,0,3)] .zero))) (lf 10 (.int .u32 (sg [(1,0,4),(0,0,1),(1,0,1),(0,0,1),(2,0,5),(0,0,1),(1,0,1),(0,0,1),(2,5,10),(0,0,4),(1,0,3)] .zero)))))),
 ([qrows166],(lf 9 (.int .u32 (.add (sg [(1,0,2),(0,0,2),(1,0,3),(2,0,5),(0,0,1),(1,0,1),(0,0,1),(2,5,10)] .zero) (.lit 4047503360)))))]
theorem sum72_ok:TabOk (cxL sl71) LStart 7 4000 72 sum72:=rowsChk_ok (by kernel_rfl)
noncomputable def sl72:SmL:=(72,sumPar LStart 7 sum72)::sl71
theorem ok72{ro:Nat→Obj}(h:RoAll ro):AtAll ro sl72:=AtAll.par (ok71 h) h Tryz.func72 sum72_ok
end Go.Proofs.YtmickljjofbmiaaGreatDoor
