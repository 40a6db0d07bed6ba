/- Alone: the loops of alone.Run and of the document's Run: where they are come to, their shapes, their ends; what the functions leave (printed by halm). No condition. -/
import Derived.Test.YtmickljjofbmiaaGreatDoorARow
namespace Go.Proofs.YtmickljjofbmiaaGreatDoor
open Go Go.Proofs
noncomputable def YR(_:Nat):List V:=yN 256
abbrev U:V:=.undef
def rk:Code→List Code
 | .seq a b=>rk a++rk b
 | .cond _ a b=>rk a++rk b
 | .block _ c=>rk c
 | .loop c=>c::rk c
 | .scope c=>rk c
 | .rangeFunc _ _ a b=>rk a++rk b
 | _=>[]
def n3:Code→List (Array Tmp×Code×Code)
 | .seq a b=>n3 a++n3 b
 | .cond _ a b=>n3 a++n3 b
 | .block _ c=>n3 c
 | .loop c=>n3 c
 | .scope c=>n3 c
 | .rangeFunc _ ps a b=>(ps,a,b)::(n3 a++n3 b)
 | _=>[]
noncomputable def DD:Nat→Code
 | 11=>Tryz.f11.body.getD .skip
 | 24=>Tryz.f24.body.getD .skip
 | 43=>Tryz.f43.body.getD .skip
 | _=>.skip
noncomputable def lb(f k:Nat):Code:=(rk (DD f)).getD k .skip
noncomputable def rp(f k:Nat):Array Tmp:=((n3 (DD f)).getD k (#[],.skip,.skip)).1
noncomputable def ra(f k:Nat):Code:=((n3 (DD f)).getD k (#[],.skip,.skip)).2.1
noncomputable def rb(f k:Nat):Code:=((n3 (DD f)).getD k (#[],.skip,.skip)).2.2
def l8:X:=.lit 0
def nh:V:=.int .i64 l8
def ak:V:=.int .u32 l8
def Mr:V:=.ptr 15 0
def gQ:X:=.var 50
def IM:V:=.int .i64 (.var 43)
def ql6:V:=.func (.func 43) [] [(.ptr 19 0),(.ptr 18 0)]
def wx:V:=.int .i64 (.var 42)
def YL:V:=.xslice true 8 l8 1 (.var 40) (.known (.var 41))
def ql9:V:=.func (.func 36) [] [(.ptr 12 0),(.ptr 13 0),(.ptr 14 0)]
def wv:X:=.var 100
def aa4:V:=.int .u32 (.var 141)
def aa5:V:=.int .u32 (.var 101)
def aa6:V:=.int .u32 (.var 102)
def aa7:V:=.int .u32 (.var 103)
def aa8:V:=.int .u32 (.var 104)
def aa9:V:=.int .u32 (.var 105)
def aba:V:=.int .u32 (.var 106)
def abb:V:=.int .u32 (.var 107)
def abc:V:=.int .u32 (.var 108)
def abd:V:=.int .u32 (.var 109)
def abe:V:=.int .u32 (.var 110)
def abf:V:=.int .u32 (.var 111)
def abg:V:=.int .u32 (.var 112)
def abi:V:=.int .u32 (.var 113)
def abj:V:=.int .u32 (.var 114)
def abk:V:=.int .u32 (.var 115)
def abl:V:=.int .u32 (.var 116)
def abm:V:=.int .u32 (.var 117)
def abn:V:=.int .u32 (.var 118)
def abo:V:=.int .u32 (.var 119)
def abp:V:=.int .u32 (.var 120)
def abq:V:=.int .u32 (.var 121)
def abr:V:=.int .u32 (.var 122)
def abt:V:=.int .u32 (.var 123)
def abu:V:=.int .u32 (.var 124)
def abv:V:=.int .u32 (.var 125)
def abw:V:=.int .u32 (.var 126)
def abx:V:=.int .u32 (.var 127)
def aby:V:=.int .u32 (.var 128)
def abz:V:=.int .u32 (.var 129)
def abA:V:=.int .u32 (.var 130)
def abB:V:=.int .u32 (.var 131)
def abC:V:=.int .u32 (.var 132)
def abD:V:=.int .u32 (.var 133)
def abE:V:=.int .i64 (.var 134)
def P1:V:=.int .u32 (.var 541)
def YK:V:=.xslice false 125 l8 14 (.var 60) (.room (.var 60))
def IK:V:=.int .u32 (.var 501)
def IL:V:=.int .u32 (.var 502)
def IN:V:=.int .u32 (.var 503)
def IP:V:=.int .u32 (.var 504)
def IQ:V:=.int .u32 (.var 505)
def IS:V:=.int .u32 (.var 506)
def IT:V:=.int .u32 (.var 507)
def IU:V:=.int .u32 (.var 508)
def IV:V:=.int .u32 (.var 509)
def IW:V:=.int .u32 (.var 510)
def IX:V:=.int .u32 (.var 511)
def IY:V:=.int .u32 (.var 512)
def IZ:V:=.int .u32 (.var 513)
def Ih:V:=.int .u32 (.var 514)
def I3:V:=.int .u32 (.var 515)
def I4:V:=.int .u32 (.var 516)
def I5:V:=.int .u32 (.var 517)
def I6:V:=.int .u32 (.var 518)
def I7:V:=.int .u32 (.var 519)
def I8:V:=.int .u32 (.var 520)
def I9:V:=.int .u32 (.var 521)
def Ja:V:=.int .u32 (.var 522)
def Jb:V:=.int .u32 (.var 523)
def Jc:V:=.int .u32 (.var 524)
def Jd:V:=.int .u32 (.var 525)
def Je:V:=.int .u32 (.var 526)
def Jf:V:=.int .u32 (.var 527)
def Jg:V:=.int .u32 (.var 528)
def Ji:V:=.int .u32 (.var 529)
def Jj:V:=.int .u32 (.var 530)
def Jk:V:=.int .u32 (.var 531)
def Jl:V:=.int .u32 (.var 532)
def Jm:V:=.int .u32 (.var 533)
def Jn:V:=.int .i64 (.var 534)
def qU:V:=.xslice true 9 l8 1 gQ (.known (.var 51))
def Ms:V:=.ptr 11 0
def SZ:V:=.agg [wx,ak,ak,ak,ak,ak,ak,ak,ak,ak,ak,ak,ak,ak,ak,ak,ak,ak,ak,ak,ak,ak,ak,ak,ak,ak,ak,ak,ak,ak,ak,ak,ak,ak,nh]
def Sh:V:=.agg [wx,ak,ak,ak,ak,ak,ak,ak,ak,ak,ak,ak,ak,ak,ak,ak,ak,ak,ak,ak,ak,ak,ak,ak,ak,ak,ak,ak,ak,ak,ak,ak,ak,ak,nh,qU,(.bool l8),ak]
def afX:V:=.xslice false 13 l8 14 wv (.room wv)
def YM:V:=.xslice false 19 l8 14 (.var 60) (.room (.var 60))
def afY:V:=.xslice false 45 l8 1 gQ (.room gQ)
noncomputable def aea:List (Nat×au):=[(0,.ro 0 (YR 0)),
  (16,.cells [nh,ak,ak,ak,ak,ak,ak,ak,ak,ak,ak,ak,ak,ak,ak,ak,ak,ak,ak,ak,ak,ak,ak,ak,ak,ak,ak,ak,ak,ak,ak,ak,ak,ak,nh] 34 none),
  (8,.warr 8 10 [.int .u32] (.var 40)),
  (20,.deferred (some [])),
  (12,.cells [(.ptr 9 0)] 27 none),
  (18,.cells [Mr] 76 none),
  (10,.arr (.base 20) [.int .u8] gQ 5 false),
  (14,.cells [ak] 24 none),
  (17,.cells [.nilslice] 35 none),
  (9,.cells [(.xslice false 10 l8 1 gQ (.known gQ))] 72 none),
  (21,.loop .ready none [Mr,IM,U,U,(.ptr 16 0),.nilslice,nh,(.ptr 17 0),U,Mr,IM,ql6,U,U,U,U,U,U,U,U,U,U,U,U,U] (rp 24 0) (ra 24 0) (rb 24 0) 20),
  (13,.cells [(.bool l8)] 4 none),
  (19,.cells [IM] 3 none),
  (11,.cells [nh,ak,ak,ak,ak,ak,ak,ak,ak,ak,ak,ak,ak,ak,ak,ak,ak,ak,ak,ak,ak,ak,ak,ak,ak,ak,ak,ak,ak,ak,ak,ak,ak,ak,nh] 34 none),
  (15,.cells [wx,ak,ak,ak,ak,ak,ak,ak,ak,ak,ak,ak,ak,ak,ak,ak,ak,ak,ak,ak,ak,ak,ak,ak,ak,ak,ak,ak,ak,ak,ak,ak,ak,ak,nh,YL,(.int .i64 gQ),ql9] 80 none)]
noncomputable def Xg:PC:=[((.le (.lit 1) (.var 40)),true),((.le (.var 40) (.lit 200)),true),((.le (.var 40) (.var 41)),true),((.le (.lit 16) gQ),true),((.le gQ (.lit 4096)),true),((.le l8 (.var 42)),true),((.le (.var 42) (.lit 3)),true),((.le (.lit 1) (.var 43)),true),((.le (.var 43) (.lit 300)),true),((.le l8 (.lit 7)),true)]
noncomputable def ad9:Fr:=⟨[(.yield 21),(.ptr 19 0),(.ptr 18 0),U,nh,U,U,U,U,U,U,U,U,U,U,U,U,U,U,U,U,U,U,U,U,U,U,U,U,U,U,U,U,U,U,U,U,U,U,U,U,U,U,U,U,U,U,U,U,U,U,U,U,U,U,U,U,U,U,U,U,U,U,U,U,U,U,U,U,U,U,U,U,U,U,U,U,U,U,U,U,U,U,U,U,U,U,U,U,U,U,U,U,U,U,U,U,U,U,U,U,U,U],[]⟩
noncomputable def yD:n5:=⟨ad9,aea,22,Xg,[0,1,2,3,4,5,6,8,9,10,11,12,13,14,15,16,17,18,19,20,21]⟩
noncomputable def FJ:n5:=⟨⟨[(.yield 21),(.ptr 19 0),(.ptr 18 0),U,(.int .i64 wv),(.any 22),(.any 23),(.any 24),(.any 25),(.any 26),(.any 27),(.any 28),(.any 29),(.any 30),(.any 31),(.any 32),(.any 33),Mr,Mr,Mr,(.ptr 15 34),(.any 34),(.any 35),(.any 36),(.any 37),(.any 38),(.any 39),(.any 40),(.any 41),(.any 42),(.any 43),(.any 44),(.any 45),(.any 46),(.any 47),(.any 48),(.any 49),(.any 50),(.any 51),(.any 52),(.any 53),(.any 54),(.any 55),(.any 56),(.any 57),(.any 58),(.any 59),(.any 60),(.any 61),(.any 62),(.any 63),(.any 64),(.any 65),(.any 66),(.any 67),(.any 68),(.any 69),(.any 70),(.any 71),(.any 72),(.any 73),(.any 74),(.any 75),(.any 76),(.any 77),(.any 78),(.any 79),(.any 80),(.any 81),(.any 82),(.any 83),(.any 84),(.any 85),(.any 86),(.any 87),(.any 88),(.any 89),(.any 90),(.any 91),(.any 92),(.any 93),(.any 94),(.any 95),(.any 96),(.any 97),(.any 98),(.any 99),(.any 100),(.any 101),(.any 102),(.any 103),(.any 104),(.any 105),(.any 106),(.any 107),(.any 108),(.any 109),(.any 110),(.any 111),(.any 112),(.any 113),(.any 114),(.any 115)],[]⟩,
 [(0,.ro 0 (YR 0)),
  (16,.cells [nh,ak,ak,ak,ak,ak,ak,ak,ak,ak,ak,ak,ak,ak,ak,ak,ak,ak,ak,ak,ak,ak,ak,ak,ak,ak,ak,ak,ak,ak,ak,ak,ak,ak,nh] 34 none),
  (8,.warr 8 10 [.int .u32] (.var 40)),
  (20,.deferred (some [])),
  (12,.cells [(.ptr 9 0)] 27 none),
  (18,.cells [Mr] 76 none),
  (10,.arr (.base 30) [.int .u8] gQ 5 false),
  (14,.cells [aa4] 24 none),
  (17,.cells [(.xslice false 116 l8 14 wv (.room wv))] 35 none),
  (9,.cells [(.xslice false 10 l8 1 gQ (.known gQ))] 72 none),
  (21,.loop .ready none [Mr,IM,U,U,(.ptr 16 0),.nilslice,nh,(.ptr 17 0),U,Mr,IM,ql6,U,U,U,U,U,U,U,U,U,U,U,U,U] (rp 24 0) (ra 24 0) (rb 24 0) 20),
  (13,.cells [(.bool (.var 140))] 4 none),
  (19,.cells [IM] 3 none),
  (11,.cells [nh,ak,ak,ak,ak,ak,ak,ak,ak,ak,ak,ak,ak,ak,ak,ak,ak,ak,ak,ak,ak,ak,ak,ak,ak,ak,ak,ak,ak,ak,ak,ak,ak,ak,nh] 34 none),
  (15,.cells [wx,aa5,aa6,aa7,aa8,aa9,aba,abb,abc,abd,abe,abf,abg,abi,abj,abk,abl,abm,abn,abo,abp,abq,abr,abt,abu,abv,abw,abx,aby,abz,abA,abB,abC,abD,abE,YL,(.int .i64 gQ),ql9] 80 none),
  (116,.arr (.base 31) [.int .u32,.int .u32,.int .i64,.int .u32,.int .i64,.int .u32,.int .i64,.bool,.bool,.int .u32,.bool,.int .i64,.int .u32,.int .i64] wv 65 true)],
 117,[((.le (.lit 1) wv),true),((.le (.lit 1) (.var 40)),true),((.le (.var 40) (.lit 200)),true),((.le (.var 40) (.var 41)),true),((.le (.lit 16) gQ),true),((.le gQ (.lit 4096)),true),((.le l8 (.var 42)),true),((.le (.var 42) (.lit 3)),true),((.le (.lit 1) (.var 43)),true),((.le (.var 43) (.lit 300)),true),((.le l8 (.lit 7)),true)],[0,1,2,3,4,5,6,16,8,20,12,18,10,14,17,9,21,13,19,11,15,116,22,23,24,25,26,27,28,29,30,31,32,33,34,35,36,37,38,39,40,41,42,43,44,45,46,47,48,49,50,51,52,53,54,55,56,57,58,59,60,61,62,63,64,65,66,67,68,69,70,71,72,73,74,75,76,77,78,79,80,81,82,83,84,85,86,87,88,89,90,91,92,93,94,95,96,97,98,99,100,101,102,103,104,105,106,107,108,109,110,111,112,113,114,115]⟩
noncomputable def su:OutP:=⟨(.exit 0),⟨⟨[(.any 22),(.any 23),(.any 24),(.any 25),(.any 26),(.any 27),(.any 28),(.any 29),(.any 30),(.any 31),(.any 32),(.any 33),(.any 34),(.any 35),(.any 36),(.any 37),(.any 38),(.any 39),(.any 40),(.any 41),(.any 42),(.any 43),(.any 44),(.any 45),(.any 46),(.any 47),(.any 48),(.any 49),(.any 50),(.any 51),(.any 52),(.any 53),(.any 54),(.any 55),(.any 56),(.any 57),(.any 58),(.any 59),(.any 60),(.any 61),(.any 62),(.any 63),(.any 64),(.any 65),(.any 66),(.any 67),(.any 68),(.any 69),(.any 70),(.any 71),(.any 72),(.any 73),(.any 74),(.any 75),(.any 76),(.any 77),(.any 78),(.any 79),(.any 80),(.any 81),(.any 82),(.any 83),(.any 84),(.any 85),(.any 86),(.any 87),(.any 88),(.any 89),(.any 90),(.any 91),(.any 92),(.any 93),(.any 94),(.any 95),(.any 96),(.any 97),(.any 98),(.any 99),(.any 100),(.any 101),(.any 102),(.any 103),(.any 104),(.any 105),(.any 106),(.any 107),(.any 108),(.any 109),(.any 110),(.any 111),(.any 112),(.any 113),(.any 114),(.any 115),(.any 116),(.any 117),(.any 118),(.any 119),(.any 120),(.any 121),(.any 122),(.any 123),(.any 124)],[]⟩,
 [(0,.ro 0 (YR 0)),
  (16,.cells [nh,ak,ak,ak,ak,ak,ak,ak,ak,ak,ak,ak,ak,ak,ak,ak,ak,ak,ak,ak,ak,ak,ak,ak,ak,ak,ak,ak,ak,ak,ak,ak,ak,ak,nh] 34 none),
  (8,.warr 8 10 [.int .u32] (.var 40)),
  (20,.deferred (some [])),
  (12,.cells [(.ptr 9 0)] 27 none),
  (18,.cells [Mr] 76 none),
  (10,.arr (.base 50) [.int .u8] gQ 5 false),
  (14,.cells [P1] 24 none),
  (17,.cells [YK] 35 none),
  (9,.cells [(.xslice false 10 l8 1 gQ (.known gQ))] 72 none),
  (21,.loop .ready none [Mr,IM,U,U,(.ptr 16 0),.nilslice,nh,(.ptr 17 0),U,Mr,IM,ql6,U,U,U,U,U,U,U,U,U,U,U,U,U] (rp 24 0) (ra 24 0) (rb 24 0) 20),
  (13,.cells [(.bool (.var 540))] 4 none),
  (19,.cells [IM] 3 none),
  (11,.cells [nh,ak,ak,ak,ak,ak,ak,ak,ak,ak,ak,ak,ak,ak,ak,ak,ak,ak,ak,ak,ak,ak,ak,ak,ak,ak,ak,ak,ak,ak,ak,ak,ak,ak,nh] 34 none),
  (15,.cells [wx,IK,IL,IN,IP,IQ,IS,IT,IU,IV,IW,IX,IY,IZ,Ih,I3,I4,I5,I6,I7,I8,I9,Ja,Jb,Jc,Jd,Je,Jf,Jg,Ji,Jj,Jk,Jl,Jm,Jn,YL,(.int .i64 gQ),ql9] 80 none),
  (125,.arr (.base 60) [.int .u32,.int .u32,.int .i64,.int .u32,.int .i64,.int .u32,.int .i64,.bool,.bool,.int .u32,.bool,.int .i64,.int .u32,.int .i64] (.var 60) 65 true)],
 126,[],[0,1,2,3,4,5,6,16,8,20,12,18,10,14,17,9,21,13,19,11,15,125,22,23,24,25,26,27,28,29,30,31,32,33,34,35,36,37,38,39,40,41,42,43,44,45,46,47,48,49,50,51,52,53,54,55,56,57,58,59,60,61,62,63,64,65,66,67,68,69,70,71,72,73,74,75,76,77,78,79,80,81,82,83,84,85,86,87,88,89,90,91,92,93,94,95,96,97,98,99,100,101,102,103,104,105,106,107,108,109,110,111,112,113,114,115,116,117,118,119,120,121,122,123,124]⟩⟩
noncomputable def ry:OutP:=⟨.ret,⟨⟨[(.any 22),(.any 23),(.any 24),(.any 25),(.any 26),(.any 27),(.any 28),(.any 29),(.any 30),(.any 31),(.any 32),(.any 33),(.any 34),(.any 35),(.any 36),(.any 37),(.any 38),(.any 39),(.any 40),(.any 41),(.any 42),(.any 43),(.any 44),(.any 45),(.any 46),(.any 47),(.any 48),(.any 49),(.any 50),(.any 51),(.any 52),(.any 53),(.any 54),(.any 55),(.any 56),(.any 57),(.any 58),(.any 59),(.any 60),(.any 61),(.any 62),(.any 63),(.any 64),(.any 65),(.any 66),(.any 67),(.any 68),(.any 69),(.any 70),(.any 71),(.any 72),(.any 73),(.any 74),(.any 75),(.any 76),(.any 77),(.any 78),(.any 79),(.any 80),(.any 81),(.any 82),(.any 83),(.any 84),(.any 85),(.any 86),(.any 87),(.any 88),(.any 89),(.any 90),(.any 91),(.any 92),(.any 93),(.any 94),(.any 95),(.any 96),(.any 97),(.any 98),(.any 99),(.any 100),(.any 101),(.any 102),(.any 103),(.any 104),(.any 105),(.any 106),(.any 107),(.any 108),(.any 109),(.any 110),(.any 111),(.any 112),(.any 113),(.any 114),(.any 115),(.any 116),(.any 117),(.any 118),(.any 119),(.any 120),(.any 121),(.any 122),(.any 123),(.any 124)],[]⟩,
 [(0,.ro 0 (YR 0)),
  (16,.cells [nh,ak,ak,ak,ak,ak,ak,ak,ak,ak,ak,ak,ak,ak,ak,ak,ak,ak,ak,ak,ak,ak,ak,ak,ak,ak,ak,ak,ak,ak,ak,ak,ak,ak,nh] 34 none),
  (8,.warr 8 10 [.int .u32] (.var 40)),
  (20,.deferred (some [])),
  (12,.cells [(.ptr 9 0)] 27 none),
  (18,.cells [Mr] 76 none),
  (10,.arr (.base 50) [.int .u8] gQ 5 false),
  (14,.cells [P1] 24 none),
  (17,.cells [YK] 35 none),
  (9,.cells [(.xslice false 10 l8 1 gQ (.known gQ))] 72 none),
  (21,.loop .done (some (.exit 0)) [Mr,IM,U,U,(.ptr 16 0),.nilslice,nh,(.ptr 17 0),U,Mr,IM,ql6,U,U,U,U,U,U,U,U,U,U,U,U,U] (rp 24 0) (ra 24 0) (rb 24 0) 20),
  (13,.cells [(.bool (.var 540))] 4 none),
  (19,.cells [IM] 3 none),
  (11,.cells [nh,ak,ak,ak,ak,ak,ak,ak,ak,ak,ak,ak,ak,ak,ak,ak,ak,ak,ak,ak,ak,ak,ak,ak,ak,ak,ak,ak,ak,ak,ak,ak,ak,ak,nh] 34 none),
  (15,.cells [wx,IK,IL,IN,IP,IQ,IS,IT,IU,IV,IW,IX,IY,IZ,Ih,I3,I4,I5,I6,I7,I8,I9,Ja,Jb,Jc,Jd,Je,Jf,Jg,Ji,Jj,Jk,Jl,Jm,Jn,YL,(.int .i64 gQ),ql9] 80 none),
  (125,.arr (.base 60) [.int .u32,.int .u32,.int .i64,.int .u32,.int .i64,.int .u32,.int .i64,.bool,.bool,.int .u32,.bool,.int .i64,.int .u32,.int .i64] (.var 60) 65 true)],
 126,[],[0,1,2,3,4,5,6,16,8,20,12,18,10,14,17,9,21,13,19,11,15,125,22,23,24,25,26,27,28,29,30,31,32,33,34,35,36,37,38,39,40,41,42,43,44,45,46,47,48,49,50,51,52,53,54,55,56,57,58,59,60,61,62,63,64,65,66,67,68,69,70,71,72,73,74,75,76,77,78,79,80,81,82,83,84,85,86,87,88,89,90,91,92,93,94,95,96,97,98,99,100,101,102,103,104,105,106,107,108,109,110,111,112,113,114,115,116,117,118,119,120,121,122,123,124]⟩⟩
noncomputable def BD:LoopI:=⟨none,(lb 43 0),ad9,⟨rS aea,22,Xg⟩,.br (.eq (.var 534) l8) (.ok (su.ex,su.pat.fr,⟨su.pat.st.h,su.pat.st.n,Xg⟩)) (.ok (ry.ex,ry.pat.fr,⟨ry.pat.st.h,ry.pat.st.n,Xg⟩))⟩
def ARP:nU:=⟨[YL,(.ptr 9 0),wx,IM],[(8,.warr 8 10 [.int .u32] (.var 40)),
  (10,.arr (.base 20) [.int .u8] gQ 5 false),
  (9,.cells [(.xslice false 10 l8 1 gQ (.known gQ))] 72 none)],11,[((.le (.lit 1) (.var 40)),true),((.le (.var 40) (.lit 200)),true),((.le (.var 40) (.var 41)),true),((.le (.lit 16) gQ),true),((.le gQ (.lit 4096)),true),((.le l8 (.var 42)),true),((.le (.var 42) (.lit 3)),true),((.le (.lit 1) (.var 43)),true),((.le (.var 43) (.lit 300)),true),((.le l8 (.lit 7)),true)]⟩
def ARR:R Leaf:=
 (.br (.eq (.var 534) l8)
  (.ok {v:=(.tuple [(.agg [wx,IK,IL,IN,IP,IQ,IS,IT,IU,IV,IW,IX,IY,IZ,Ih,I3,I4,I5,I6,I7,I8,I9,Ja,Jb,Jc,Jd,Je,Jf,Jg,Ji,Jj,Jk,Jl,Jm,Jn]),YK,nh]),objs:=[(10,.arr (.base 50) [.int .u8] gQ 5 false),(9,.cells [(.xslice false 10 l8 1 gQ (.known gQ))] 72 none),(125,.arr (.base 60) [.int .u32,.int .u32,.int .i64,.int .u32,.int .i64,.int .u32,.int .i64,.bool,.bool,.int .u32,.bool,.int .i64,.int .u32,.int .i64] (.var 60) 65 true)],n:=126})
  (.ok {v:=(.tuple [(.agg [wx,IK,IL,IN,IP,IQ,IS,IT,IU,IV,IW,IX,IY,IZ,Ih,I3,I4,I5,I6,I7,I8,I9,Ja,Jb,Jc,Jd,Je,Jf,Jg,Ji,Jj,Jk,Jl,Jm,Jn]),YK,nh]),objs:=[(10,.arr (.base 50) [.int .u8] gQ 5 false),(9,.cells [(.xslice false 10 l8 1 gQ (.known gQ))] 72 none),(125,.arr (.base 60) [.int .u32,.int .u32,.int .i64,.int .u32,.int .i64,.int .u32,.int .i64,.bool,.bool,.int .u32,.bool,.int .i64,.int .u32,.int .i64] (.var 60) 65 true)],n:=126}))
noncomputable def aei:List (Nat×au):=[(0,.ro 0 (YR 0)),
  (8,.warr 8 10 [.int .u32] (.var 40)),
  (10,.cells [nh,ak,ak,ak,ak,ak,ak,ak,ak,ak,ak,ak,ak,ak,ak,ak,ak,ak,ak,ak,ak,ak,ak,ak,ak,ak,ak,ak,ak,ak,ak,ak,ak,ak,nh,.nilslice,(.bool l8),ak] 39 none),
  (9,.warr 9 20 [.int .u8] gQ),
  (11,.cells [wx,ak,ak,ak,ak,ak,ak,ak,ak,ak,ak,ak,ak,ak,ak,ak,ak,ak,ak,ak,ak,ak,ak,ak,ak,ak,ak,ak,ak,ak,ak,ak,ak,ak,nh,qU,(.bool l8),ak] 39 none)]
noncomputable def Xn:PC:=[((.le gQ (.var 51)),true),((.le (.lit 1) (.var 40)),true),((.le (.var 40) (.lit 200)),true),((.le (.var 40) (.var 41)),true),((.le (.lit 16) gQ),true),((.le gQ (.lit 4096)),true),((.le l8 (.var 42)),true),((.le (.var 42) (.lit 3)),true),((.le (.lit 1) (.var 43)),true),((.le (.var 43) (.lit 300)),true),((.le l8 (.lit 7)),true)]
noncomputable def aeg:Fr:=⟨[YL,qU,wx,IM,U,U,U,U,(.ptr 10 0),.nilslice,Ms,.nilslice,nh,U,U,wx,SZ,qU,Sh,U,U,U,U,U,U,U,U,U,U,U,U,U,U,U,U,U,U,U,U,U,U,U,U],[]⟩
noncomputable def aqu:n5:=⟨aeg,aei,12,Xn,[0,1,2,3,4,5,6,8,9,10,11]⟩
noncomputable def aqv:n5:=⟨⟨[YL,qU,wx,IM,U,U,U,U,(.ptr 10 0),(.any 12),Ms,afX,(.int .i64 wv),(.any 14),(.any 15),wx,SZ,qU,Sh,(.any 16),(.any 17),(.any 18),(.any 19),Ms,(.ptr 11 34),(.any 20),(.any 21),(.any 22),(.any 23),(.any 24),(.any 25),(.any 26),(.any 27),(.any 28),(.any 29),(.any 30),(.any 31),(.any 32),(.any 33),(.any 34),(.any 35),U,U],[]⟩,
 [(0,.ro 0 (YR 0)),
  (8,.warr 8 10 [.int .u32] (.var 40)),
  (10,.cells [nh,ak,ak,ak,ak,ak,ak,ak,ak,ak,ak,ak,ak,ak,ak,ak,ak,ak,ak,ak,ak,ak,ak,ak,ak,ak,ak,ak,ak,ak,ak,ak,ak,ak,nh,.nilslice,(.bool l8),ak] 39 none),
  (9,.warr 9 20 [.int .u8] gQ),
  (11,.cells [wx,aa5,aa6,aa7,aa8,aa9,aba,abb,abc,abd,abe,abf,abg,abi,abj,abk,abl,abm,abn,abo,abp,abq,abr,abt,abu,abv,abw,abx,aby,abz,abA,abB,abC,abD,abE,qU,(.bool (.var 140)),aa4] 39 none),
  (13,.arr (.base 31) [.int .u32,.int .u32,.int .i64,.int .u32,.int .i64,.int .u32,.int .i64,.bool,.bool,.int .u32,.bool,.int .i64,.int .u32,.int .i64] wv 65 true)],
 36,[((.le (.lit 1) wv),true),((.le gQ (.var 51)),true),((.le (.lit 1) (.var 40)),true),((.le (.var 40) (.lit 200)),true),((.le (.var 40) (.var 41)),true),((.le (.lit 16) gQ),true),((.le gQ (.lit 4096)),true),((.le l8 (.var 42)),true),((.le (.var 42) (.lit 3)),true),((.le (.lit 1) (.var 43)),true),((.le (.var 43) (.lit 300)),true),((.le l8 (.lit 7)),true)],[0,1,2,3,4,5,6,8,10,9,11,13,12,14,15,16,17,18,19,20,21,22,23,24,25,26,27,28,29,30,31,32,33,34,35]⟩
noncomputable def aqw:n5:=⟨⟨[YL,qU,wx,IM,U,U,U,U,(.ptr 10 0),(.any 12),Ms,afX,(.int .i64 wv),(.any 14),(.any 15),wx,SZ,qU,Sh,(.any 16),(.any 17),(.any 18),(.any 19),Ms,(.ptr 11 34),(.any 20),(.any 21),(.any 22),(.any 23),(.any 24),(.any 25),(.any 26),(.any 27),(.any 28),(.any 29),(.any 30),(.any 31),(.any 32),(.any 33),(.any 34),(.any 35),U,U],[]⟩,
 [(0,.ro 0 (YR 0)),
  (8,.warr 8 10 [.int .u32] (.var 40)),
  (10,.cells [nh,ak,ak,ak,ak,ak,ak,ak,ak,ak,ak,ak,ak,ak,ak,ak,ak,ak,ak,ak,ak,ak,ak,ak,ak,ak,ak,ak,ak,ak,ak,ak,ak,ak,nh,.nilslice,(.bool l8),ak] 39 none),
  (9,.warr 9 20 [.int .u8] gQ),
  (11,.cells [wx,aa5,aa6,aa7,aa8,aa9,aba,abb,abc,abd,abe,abf,abg,abi,abj,abk,abl,abm,abn,abo,abp,abq,abr,abt,abu,abv,abw,abx,aby,abz,abA,abB,abC,abD,abE,(.xslice false 36 l8 1 gQ (.room gQ)),(.bool (.var 140)),aa4] 39 none),
  (13,.arr (.base 31) [.int .u32,.int .u32,.int .i64,.int .u32,.int .i64,.int .u32,.int .i64,.bool,.bool,.int .u32,.bool,.int .i64,.int .u32,.int .i64] wv 65 true),
  (36,.arr (.base 30) [.int .u8] gQ 5 true)],
 37,[((.le (.lit 1) wv),true),((.le gQ (.var 51)),true),((.le (.lit 1) (.var 40)),true),((.le (.var 40) (.lit 200)),true),((.le (.var 40) (.var 41)),true),((.le (.lit 16) gQ),true),((.le gQ (.lit 4096)),true),((.le l8 (.var 42)),true),((.le (.var 42) (.lit 3)),true),((.le (.lit 1) (.var 43)),true),((.le (.var 43) (.lit 300)),true),((.le l8 (.lit 7)),true)],[0,1,2,3,4,5,6,8,10,9,11,13,36,12,14,15,16,17,18,19,20,21,22,23,24,25,26,27,28,29,30,31,32,33,34,35]⟩
noncomputable def Xl:OutP:=⟨(.exit 0),⟨⟨[(.any 12),qU,wx,(.any 13),(.any 14),(.any 15),(.any 16),(.any 17),(.ptr 10 0),(.any 18),Ms,YM,(.any 20),(.any 21),(.any 22),wx,SZ,qU,Sh,(.any 23),(.any 24),(.any 25),(.any 26),(.any 27),(.any 28),(.any 29),(.any 30),(.any 31),(.any 32),(.any 33),(.any 34),(.any 35),(.any 36),(.any 37),(.any 38),(.any 39),(.any 40),(.any 41),(.any 42),(.any 43),(.any 44),U,U],[]⟩,
 [(0,.ro 0 (YR 0)),
  (8,.warr 8 10 [.int .u32] (.var 40)),
  (10,.cells [nh,ak,ak,ak,ak,ak,ak,ak,ak,ak,ak,ak,ak,ak,ak,ak,ak,ak,ak,ak,ak,ak,ak,ak,ak,ak,ak,ak,ak,ak,ak,ak,ak,ak,nh,.nilslice,(.bool l8),ak] 39 none),
  (9,.warr 9 20 [.int .u8] gQ),
  (11,.cells [wx,IK,IL,IN,IP,IQ,IS,IT,IU,IV,IW,IX,IY,IZ,Ih,I3,I4,I5,I6,I7,I8,I9,Ja,Jb,Jc,Jd,Je,Jf,Jg,Ji,Jj,Jk,Jl,Jm,Jn,qU,(.bool (.var 540)),P1] 39 none),
  (19,.arr (.base 60) [.int .u32,.int .u32,.int .i64,.int .u32,.int .i64,.int .u32,.int .i64,.bool,.bool,.int .u32,.bool,.int .i64,.int .u32,.int .i64] (.var 60) 65 true)],
 45,[],[0,1,2,3,4,5,6,8,10,9,11,19,12,13,14,15,16,17,18,20,21,22,23,24,25,26,27,28,29,30,31,32,33,34,35,36,37,38,39,40,41,42,43,44]⟩⟩
noncomputable def Xm:OutP:=⟨(.exit 0),⟨⟨[(.any 12),qU,wx,(.any 13),(.any 14),(.any 15),(.any 16),(.any 17),(.ptr 10 0),(.any 18),Ms,YM,(.any 20),(.any 21),(.any 22),wx,SZ,qU,Sh,(.any 23),(.any 24),(.any 25),(.any 26),(.any 27),(.any 28),(.any 29),(.any 30),(.any 31),(.any 32),(.any 33),(.any 34),(.any 35),(.any 36),(.any 37),(.any 38),(.any 39),(.any 40),(.any 41),(.any 42),(.any 43),(.any 44),U,U],[]⟩,
 [(0,.ro 0 (YR 0)),
  (8,.warr 8 10 [.int .u32] (.var 40)),
  (10,.cells [nh,ak,ak,ak,ak,ak,ak,ak,ak,ak,ak,ak,ak,ak,ak,ak,ak,ak,ak,ak,ak,ak,ak,ak,ak,ak,ak,ak,ak,ak,ak,ak,ak,ak,nh,.nilslice,(.bool l8),ak] 39 none),
  (9,.warr 9 20 [.int .u8] gQ),
  (11,.cells [wx,IK,IL,IN,IP,IQ,IS,IT,IU,IV,IW,IX,IY,IZ,Ih,I3,I4,I5,I6,I7,I8,I9,Ja,Jb,Jc,Jd,Je,Jf,Jg,Ji,Jj,Jk,Jl,Jm,Jn,afY,(.bool (.var 540)),P1] 39 none),
  (19,.arr (.base 60) [.int .u32,.int .u32,.int .i64,.int .u32,.int .i64,.int .u32,.int .i64,.bool,.bool,.int .u32,.bool,.int .i64,.int .u32,.int .i64] (.var 60) 65 true),
  (45,.arr (.base 50) [.int .u8] gQ 5 true)],
 46,[],[0,1,2,3,4,5,6,8,10,9,11,19,45,12,13,14,15,16,17,18,20,21,22,23,24,25,26,27,28,29,30,31,32,33,34,35,36,37,38,39,40,41,42,43,44]⟩⟩
noncomputable def RRL:LoopI:=⟨none,(lb 11 0),aeg,⟨rS aei,12,Xn⟩,.br (.eq (.var 67) l8) (.ok (Xl.ex,Xl.pat.fr,⟨Xl.pat.st.h,Xl.pat.st.n,Xn⟩)) (.ok (Xm.ex,Xm.pat.fr,⟨Xm.pat.st.h,Xm.pat.st.n,Xn⟩))⟩
def RRP:nU:=⟨[YL,qU,wx,IM],[(8,.warr 8 10 [.int .u32] (.var 40)),
  (9,.warr 9 20 [.int .u8] gQ)],10,[((.le gQ (.var 51)),true),((.le (.lit 1) (.var 40)),true),((.le (.var 40) (.lit 200)),true),((.le (.var 40) (.var 41)),true),((.le (.lit 16) gQ),true),((.le gQ (.lit 4096)),true),((.le l8 (.var 42)),true),((.le (.var 42) (.lit 3)),true),((.le (.lit 1) (.var 43)),true),((.le (.var 43) (.lit 300)),true),((.le l8 (.lit 7)),true)]⟩
def RRR:R Leaf:=
 (.br (.eq (.var 67) l8)
  (.ok {v:=(.tuple [(.agg [wx,IK,IL,IN,IP,IQ,IS,IT,IU,IV,IW,IX,IY,IZ,Ih,I3,I4,I5,I6,I7,I8,I9,Ja,Jb,Jc,Jd,Je,Jf,Jg,Ji,Jj,Jk,Jl,Jm,Jn,qU,(.bool (.var 540)),P1]),YM]),objs:=[(19,.arr (.base 60) [.int .u32,.int .u32,.int .i64,.int .u32,.int .i64,.int .u32,.int .i64,.bool,.bool,.int .u32,.bool,.int .i64,.int .u32,.int .i64] (.var 60) 65 true)],n:=45})
  (.ok {v:=(.tuple [(.agg [wx,IK,IL,IN,IP,IQ,IS,IT,IU,IV,IW,IX,IY,IZ,Ih,I3,I4,I5,I6,I7,I8,I9,Ja,Jb,Jc,Jd,Je,Jf,Jg,Ji,Jj,Jk,Jl,Jm,Jn,afY,(.bool (.var 540)),P1]),YM]),objs:=[(19,.arr (.base 60) [.int .u32,.int .u32,.int .i64,.int .u32,.int .i64,.int .u32,.int .i64,.bool,.bool,.int .u32,.bool,.int .i64,.int .u32,.int .i64] (.var 60) 65 true),(45,.arr (.base 50) [.int .u8] gQ 5 true)],n:=46}))
end Go.Proofs.YtmickljjofbmiaaGreatDoor
