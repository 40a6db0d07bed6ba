/- Alone: the loops of alone.Run and of the document's Run: where they are come to, their shapes, their ends; what the functions leave (printed by halm). No condition. -/
import Derived.Test.YtmickljjofbmiaaGreatDoorARow
namespace Go.Proofs.YtmickljjofbmiaaGreatDoor
open Go Go.Proofs
noncomputable def Dh(_:Nat):List V:=Bb 256
abbrev U:V:=.undef
def oQ:Code→List Code
 | .seq a b=>oQ a++oQ b
 | .cond _ a b=>oQ a++oQ b
 | .block _ c=>oQ c
 | .loop c=>c::oQ c
 | .scope c=>oQ c
 | .rangeFunc _ _ a b=>oQ a++oQ b
 | _=>[]
def kX:Code→List (Array Tmp×Code×Code)
 | .seq a b=>kX a++kX b
 | .cond _ a b=>kX a++kX b
 | .block _ c=>kX c
 | .loop c=>kX c
 | .scope c=>kX c
 | .rangeFunc _ ps a b=>(ps,a,b)::(kX a++kX b)
 | _=>[]
noncomputable def Eg:Nat→Code
 | 11=>Tryz.f11.body.getD .skip
 | 24=>Tryz.f24.body.getD .skip
 | 43=>Tryz.f43.body.getD .skip
 | _=>.skip
noncomputable def lb(f k:Nat):Code:=(oQ (Eg f)).getD k .skip
noncomputable def rp(f k:Nat):Array Tmp:=((kX (Eg f)).getD k (#[],.skip,.skip)).1
noncomputable def ra(f k:Nat):Code:=((kX (Eg f)).getD k (#[],.skip,.skip)).2.1
noncomputable def rb(f k:Nat):Code:=((kX (Eg f)).getD k (#[],.skip,.skip)).2.2
def Ci:X:=.lit 0
def yG:V:=.int .i64 Ci
def aK:V:=.int .u32 Ci
def L7:V:=.ptr 15 0
def sY:X:=.var 50
def PI:V:=.int .i64 (.var 43)
def ql6:V:=.func (.func 43) [] [(.ptr 19 0),(.ptr 18 0)]
def ql7:V:=.int .i64 (.var 42)
def ql8:V:=.xslice true 8 Ci 1 (.var 40) (.known (.var 41))
def ql9:V:=.func (.func 36) [] [(.ptr 12 0),(.ptr 13 0),(.ptr 14 0)]
def Uj:X:=.var 100
def apv:V:=.int .u32 (.var 141)
def aqi:V:=.int .u32 (.var 101)
def aqO:V:=.int .u32 (.var 102)
def aoV:V:=.int .u32 (.var 103)
def aq3:V:=.int .u32 (.var 104)
def apD:V:=.int .u32 (.var 105)
def aqu:V:=.int .u32 (.var 106)
def aoQ:V:=.int .u32 (.var 107)
def apL:V:=.int .u32 (.var 108)
def aqG:V:=.int .u32 (.var 109)
def ara:V:=.int .u32 (.var 110)
def asx:V:=.int .u32 (.var 111)
def aoz:V:=.int .u32 (.var 112)
def ar6:V:=.int .u32 (.var 113)
def aod:V:=.int .u32 (.var 114)
def asB:V:=.int .u32 (.var 115)
def asD:V:=.int .u32 (.var 116)
def ap2:V:=.int .u32 (.var 117)
def aob:V:=.int .u32 (.var 118)
def an1:V:=.int .u32 (.var 119)
def asm:V:=.int .u32 (.var 120)
def ap4:V:=.int .u32 (.var 121)
def an0:V:=.int .u32 (.var 122)
def apt:V:=.int .u32 (.var 123)
def arB:V:=.int .u32 (.var 124)
def apR:V:=.int .u32 (.var 125)
def arU:V:=.int .u32 (.var 126)
def asr:V:=.int .u32 (.var 127)
def aoJ:V:=.int .u32 (.var 128)
def apf:V:=.int .u32 (.var 129)
def arh:V:=.int .u32 (.var 130)
def arj:V:=.int .u32 (.var 131)
def aqg:V:=.int .u32 (.var 132)
def arv:V:=.int .u32 (.var 133)
def arG:V:=.int .i64 (.var 134)
def aiA:V:=.int .u32 (.var 541)
def Y8:V:=.xslice false 125 Ci 14 (.var 60) (.room (.var 60))
def aaU:V:=.int .u32 (.var 501)
def aaC:V:=.int .u32 (.var 502)
def Yg:V:=.int .u32 (.var 503)
def Zm:V:=.int .u32 (.var 504)
def aaS:V:=.int .u32 (.var 505)
def Zj:V:=.int .u32 (.var 506)
def Zw:V:=.int .u32 (.var 507)
def Yw:V:=.int .u32 (.var 508)
def YE:V:=.int .u32 (.var 509)
def Zq:V:=.int .u32 (.var 510)
def Zp:V:=.int .u32 (.var 511)
def ZD:V:=.int .u32 (.var 512)
def Yj:V:=.int .u32 (.var 513)
def Y6:V:=.int .u32 (.var 514)
def ZE:V:=.int .u32 (.var 515)
def aam:V:=.int .u32 (.var 516)
def YO:V:=.int .u32 (.var 517)
def aaJ:V:=.int .u32 (.var 518)
def YS:V:=.int .u32 (.var 519)
def Zg:V:=.int .u32 (.var 520)
def YL:V:=.int .u32 (.var 521)
def aad:V:=.int .u32 (.var 522)
def aap:V:=.int .u32 (.var 523)
def ZI:V:=.int .u32 (.var 524)
def ZT:V:=.int .u32 (.var 525)
def Yl:V:=.int .u32 (.var 526)
def aab:V:=.int .u32 (.var 527)
def aaf:V:=.int .u32 (.var 528)
def ZX:V:=.int .u32 (.var 529)
def ZL:V:=.int .u32 (.var 530)
def Z7:V:=.int .u32 (.var 531)
def ZJ:V:=.int .u32 (.var 532)
def aaq:V:=.int .u32 (.var 533)
def ZA:V:=.int .i64 (.var 534)
noncomputable def amh:List (Nat×av):=[(0,.ro 0 (Dh 0)),
  (16,.cells [yG,aK,aK,aK,aK,aK,aK,aK,aK,aK,aK,aK,aK,aK,aK,aK,aK,aK,aK,aK,aK,aK,aK,aK,aK,aK,aK,aK,aK,aK,aK,aK,aK,aK,yG] 34 none),
  (8,.warr 8 10 [.int .u32] (.var 40)),
  (20,.deferred (some [])),
  (12,.cells [(.ptr 9 0)] 27 none),
  (18,.cells [L7] 76 none),
  (10,.arr (.base 20) [.int .u8] sY 5 false),
  (14,.cells [aK] 24 none),
  (17,.cells [.nilslice] 35 none),
  (9,.cells [(.xslice false 10 Ci 1 sY (.known sY))] 72 none),
  (21,.loop .ready none [L7,PI,U,U,(.ptr 16 0),.nilslice,yG,(.ptr 17 0),U,L7,PI,ql6,U,U,U,U,U,U,U,U,U,U,U,U,U] (rp 24 0) (ra 24 0) (rb 24 0) 20),
  (13,.cells [(.bool Ci)] 4 none),
  (19,.cells [PI] 3 none),
  (11,.cells [yG,aK,aK,aK,aK,aK,aK,aK,aK,aK,aK,aK,aK,aK,aK,aK,aK,aK,aK,aK,aK,aK,aK,aK,aK,aK,aK,aK,aK,aK,aK,aK,aK,aK,yG] 34 none),
  (15,.cells [ql7,aK,aK,aK,aK,aK,aK,aK,aK,aK,aK,aK,aK,aK,aK,aK,aK,aK,aK,aK,aK,aK,aK,aK,aK,aK,aK,aK,aK,aK,aK,aK,aK,aK,yG,ql8,(.int .i64 sY),ql9] 80 none)]
noncomputable def Rh:PC:=[((.le (.lit 1) (.var 40)),true),((.le (.var 40) (.lit 200)),true),((.le (.var 40) (.var 41)),true),((.le (.lit 16) sY),true),((.le sY (.lit 4096)),true),((.le Ci (.var 42)),true),((.le (.var 42) (.lit 3)),true),((.le (.lit 1) (.var 43)),true),((.le (.var 43) (.lit 300)),true),((.le Ci (.lit 7)),true)]
noncomputable def ajj:Fr:=⟨[(.yield 21),(.ptr 19 0),(.ptr 18 0),U,yG,U,U,U,U,U,U,U,U,U,U,U,U,U,U,U,U,U,U,U,U,U,U,U,U,U,U,U,U,U,U,U,U,U,U,U,U,U,U,U,U,U,U,U,U,U,U,U,U,U,U,U,U,U,U,U,U,U,U,U,U,U,U,U,U,U,U,U,U,U,U,U,U,U,U,U,U,U,U,U,U,U,U,U,U,U,U,U,U,U,U,U,U,U,U,U,U,U,U],[]⟩
noncomputable def Ae:mW:=⟨ajj,amh,22,Rh,[0,1,2,3,4,5,6,8,9,10,11,12,13,14,15,16,17,18,19,20,21]⟩
noncomputable def IK:mW:=⟨⟨[(.yield 21),(.ptr 19 0),(.ptr 18 0),U,(.int .i64 Uj),(.any 22),(.any 23),(.any 24),(.any 25),(.any 26),(.any 27),(.any 28),(.any 29),(.any 30),(.any 31),(.any 32),(.any 33),L7,L7,L7,(.ptr 15 34),(.any 34),(.any 35),(.any 36),(.any 37),(.any 38),(.any 39),(.any 40),(.any 41),(.any 42),(.any 43),(.any 44),(.any 45),(.any 46),(.any 47),(.any 48),(.any 49),(.any 50),(.any 51),(.any 52),(.any 53),(.any 54),(.any 55),(.any 56),(.any 57),(.any 58),(.any 59),(.any 60),(.any 61),(.any 62),(.any 63),(.any 64),(.any 65),(.any 66),(.any 67),(.any 68),(.any 69),(.any 70),(.any 71),(.any 72),(.any 73),(.any 74),(.any 75),(.any 76),(.any 77),(.any 78),(.any 79),(.any 80),(.any 81),(.any 82),(.any 83),(.any 84),(.any 85),(.any 86),(.any 87),(.any 88),(.any 89),(.any 90),(.any 91),(.any 92),(.any 93),(.any 94),(.any 95),(.any 96),(.any 97),(.any 98),(.any 99),(.any 100),(.any 101),(.any 102),(.any 103),(.any 104),(.any 105),(.any 106),(.any 107),(.any 108),(.any 109),(.any 110),(.any 111),(.any 112),(.any 113),(.any 114),(.any 115)],[]⟩,
 [(0,.ro 0 (Dh 0)),
  (16,.cells [yG,aK,aK,aK,aK,aK,aK,aK,aK,aK,aK,aK,aK,aK,aK,aK,aK,aK,aK,aK,aK,aK,aK,aK,aK,aK,aK,aK,aK,aK,aK,aK,aK,aK,yG] 34 none),
  (8,.warr 8 10 [.int .u32] (.var 40)),
  (20,.deferred (some [])),
  (12,.cells [(.ptr 9 0)] 27 none),
  (18,.cells [L7] 76 none),
  (10,.arr (.base 30) [.int .u8] sY 5 false),
  (14,.cells [apv] 24 none),
  (17,.cells [(.xslice false 116 Ci 14 Uj (.room Uj))] 35 none),
  (9,.cells [(.xslice false 10 Ci 1 sY (.known sY))] 72 none),
  (21,.loop .ready none [L7,PI,U,U,(.ptr 16 0),.nilslice,yG,(.ptr 17 0),U,L7,PI,ql6,U,U,U,U,U,U,U,U,U,U,U,U,U] (rp 24 0) (ra 24 0) (rb 24 0) 20),
  (13,.cells [(.bool (.var 140))] 4 none),
  (19,.cells [PI] 3 none),
  (11,.cells [yG,aK,aK,aK,aK,aK,aK,aK,aK,aK,aK,aK,aK,aK,aK,aK,aK,aK,aK,aK,aK,aK,aK,aK,aK,aK,aK,aK,aK,aK,aK,aK,aK,aK,yG] 34 none),
  (15,.cells [ql7,aqi,aqO,aoV,aq3,apD,aqu,aoQ,apL,aqG,ara,asx,aoz,ar6,aod,asB,asD,ap2,aob,an1,asm,ap4,an0,apt,arB,apR,arU,asr,aoJ,apf,arh,arj,aqg,arv,arG,ql8,(.int .i64 sY),ql9] 80 none),
  (116,.arr (.base 31) [.int .u32,.int .u32,.int .i64,.int .u32,.int .i64,.int .u32,.int .i64,.bool,.bool,.int .u32,.bool,.int .i64,.int .u32,.int .i64] Uj 65 true)],
 117,[((.le (.lit 1) Uj),true),((.le (.lit 1) (.var 40)),true),((.le (.var 40) (.lit 200)),true),((.le (.var 40) (.var 41)),true),((.le (.lit 16) sY),true),((.le sY (.lit 4096)),true),((.le Ci (.var 42)),true),((.le (.var 42) (.lit 3)),true),((.le (.lit 1) (.var 43)),true),((.le (.var 43) (.lit 300)),true),((.le Ci (.lit 7)),true)],[0,1,2,3,4,5,6,16,8,20,12,18,10,14,17,9,21,13,19,11,15,116,22,23,24,25,26,27,28,29,30,31,32,33,34,35,36,37,38,39,40,41,42,43,44,45,46,47,48,49,50,51,52,53,54,55,56,57,58,59,60,61,62,63,64,65,66,67,68,69,70,71,72,73,74,75,76,77,78,79,80,81,82,83,84,85,86,87,88,89,90,91,92,93,94,95,96,97,98,99,100,101,102,103,104,105,106,107,108,109,110,111,112,113,114,115]⟩
noncomputable def uk:OutP:=⟨(.exit 0),⟨⟨[(.any 22),(.any 23),(.any 24),(.any 25),(.any 26),(.any 27),(.any 28),(.any 29),(.any 30),(.any 31),(.any 32),(.any 33),(.any 34),(.any 35),(.any 36),(.any 37),(.any 38),(.any 39),(.any 40),(.any 41),(.any 42),(.any 43),(.any 44),(.any 45),(.any 46),(.any 47),(.any 48),(.any 49),(.any 50),(.any 51),(.any 52),(.any 53),(.any 54),(.any 55),(.any 56),(.any 57),(.any 58),(.any 59),(.any 60),(.any 61),(.any 62),(.any 63),(.any 64),(.any 65),(.any 66),(.any 67),(.any 68),(.any 69),(.any 70),(.any 71),(.any 72),(.any 73),(.any 74),(.any 75),(.any 76),(.any 77),(.any 78),(.any 79),(.any 80),(.any 81),(.any 82),(.any 83),(.any 84),(.any 85),(.any 86),(.any 87),(.any 88),(.any 89),(.any 90),(.any 91),(.any 92),(.any 93),(.any 94),(.any 95),(.any 96),(.any 97),(.any 98),(.any 99),(.any 100),(.any 101),(.any 102),(.any 103),(.any 104),(.any 105),(.any 106),(.any 107),(.any 108),(.any 109),(.any 110),(.any 111),(.any 112),(.any 113),(.any 114),(.any 115),(.any 116),(.any 117),(.any 118),(.any 119),(.any 120),(.any 121),(.any 122),(.any 123),(.any 124)],[]⟩,
 [(0,.ro 0 (Dh 0)),
  (16,.cells [yG,aK,aK,aK,aK,aK,aK,aK,aK,aK,aK,aK,aK,aK,aK,aK,aK,aK,aK,aK,aK,aK,aK,aK,aK,aK,aK,aK,aK,aK,aK,aK,aK,aK,yG] 34 none),
  (8,.warr 8 10 [.int .u32] (.var 40)),
  (20,.deferred (some [])),
  (12,.cells [(.ptr 9 0)] 27 none),
  (18,.cells [L7] 76 none),
  (10,.arr (.base 50) [.int .u8] sY 5 false),
  (14,.cells [aiA] 24 none),
  (17,.cells [Y8] 35 none),
  (9,.cells [(.xslice false 10 Ci 1 sY (.known sY))] 72 none),
  (21,.loop .ready none [L7,PI,U,U,(.ptr 16 0),.nilslice,yG,(.ptr 17 0),U,L7,PI,ql6,U,U,U,U,U,U,U,U,U,U,U,U,U] (rp 24 0) (ra 24 0) (rb 24 0) 20),
  (13,.cells [(.bool (.var 540))] 4 none),
  (19,.cells [PI] 3 none),
  (11,.cells [yG,aK,aK,aK,aK,aK,aK,aK,aK,aK,aK,aK,aK,aK,aK,aK,aK,aK,aK,aK,aK,aK,aK,aK,aK,aK,aK,aK,aK,aK,aK,aK,aK,aK,yG] 34 none),
  (15,.cells [ql7,aaU,aaC,Yg,Zm,aaS,Zj,Zw,Yw,YE,Zq,Zp,ZD,Yj,Y6,ZE,aam,YO,aaJ,YS,Zg,YL,aad,aap,ZI,ZT,Yl,aab,aaf,ZX,ZL,Z7,ZJ,aaq,ZA,ql8,(.int .i64 sY),ql9] 80 none),
  (125,.arr (.base 60) [.int .u32,.int .u32,.int .i64,.int .u32,.int .i64,.int .u32,.int .i64,.bool,.bool,.int .u32,.bool,.int .i64,.int .u32,.int .i64] (.var 60) 65 true)],
 126,[],[0,1,2,3,4,5,6,16,8,20,12,18,10,14,17,9,21,13,19,11,15,125,22,23,24,25,26,27,28,29,30,31,32,33,34,35,36,37,38,39,40,41,42,43,44,45,46,47,48,49,50,51,52,53,54,55,56,57,58,59,60,61,62,63,64,65,66,67,68,69,70,71,72,73,74,75,76,77,78,79,80,81,82,83,84,85,86,87,88,89,90,91,92,93,94,95,96,97,98,99,100,101,102,103,104,105,106,107,108,109,110,111,112,113,114,115,116,117,118,119,120,121,122,123,124]⟩⟩
noncomputable def sq:OutP:=⟨.ret,⟨⟨[(.any 22),(.any 23),(.any 24),(.any 25),(.any 26),(.any 27),(.any 28),(.any 29),(.any 30),(.any 31),(.any 32),(.any 33),(.any 34),(.any 35),(.any 36),(.any 37),(.any 38),(.any 39),(.any 40),(.any 41),(.any 42),(.any 43),(.any 44),(.any 45),(.any 46),(.any 47),(.any 48),(.any 49),(.any 50),(.any 51),(.any 52),(.any 53),(.any 54),(.any 55),(.any 56),(.any 57),(.any 58),(.any 59),(.any 60),(.any 61),(.any 62),(.any 63),(.any 64),(.any 65),(.any 66),(.any 67),(.any 68),(.any 69),(.any 70),(.any 71),(.any 72),(.any 73),(.any 74),(.any 75),(.any 76),(.any 77),(.any 78),(.any 79),(.any 80),(.any 81),(.any 82),(.any 83),(.any 84),(.any 85),(.any 86),(.any 87),(.any 88),(.any 89),(.any 90),(.any 91),(.any 92),(.any 93),(.any 94),(.any 95),(.any 96),(.any 97),(.any 98),(.any 99),(.any 100),(.any 101),(.any 102),(.any 103),(.any 104),(.any 105),(.any 106),(.any 107),(.any 108),(.any 109),(.any 110),(.any 111),(.any 112),(.any 113),(.any 114),(.any 115),(.any 116),(.any 117),(.any 118),(.any 119),(.any 120),(.any 121),(.any 122),(.any 123),(.any 124)],[]⟩,
 [(0,.ro 0 (Dh 0)),
  (16,.cells [yG,aK,aK,aK,aK,aK,aK,aK,aK,aK,aK,aK,aK,aK,aK,aK,aK,aK,aK,aK,aK,aK,aK,aK,aK,aK,aK,aK,aK,aK,aK,aK,aK,aK,yG] 34 none),
  (8,.warr 8 10 [.int .u32] (.var 40)),
  (20,.deferred (some [])),
  (12,.cells [(.ptr 9 0)] 27 none),
  (18,.cells [L7] 76 none),
  (10,.arr (.base 50) [.int .u8] sY 5 false),
  (14,.cells [aiA] 24 none),
  (17,.cells [Y8] 35 none),
  (9,.cells [(.xslice false 10 Ci 1 sY (.known sY))] 72 none),
  (21,.loop .done (some (.exit 0)) [L7,PI,U,U,(.ptr 16 0),.nilslice,yG,(.ptr 17 0),U,L7,PI,ql6,U,U,U,U,U,U,U,U,U,U,U,U,U] (rp 24 0) (ra 24 0) (rb 24 0) 20),
  (13,.cells [(.bool (.var 540))] 4 none),
  (19,.cells [PI] 3 none),
  (11,.cells [yG,aK,aK,aK,aK,aK,aK,aK,aK,aK,aK,aK,aK,aK,aK,aK,aK,aK,aK,aK,aK,aK,aK,aK,aK,aK,aK,aK,aK,aK,aK,aK,aK,aK,yG] 34 none),
  (15,.cells [ql7,aaU,aaC,Yg,Zm,aaS,Zj,Zw,Yw,YE,Zq,Zp,ZD,Yj,Y6,ZE,aam,YO,aaJ,YS,Zg,YL,aad,aap,ZI,ZT,Yl,aab,aaf,ZX,ZL,Z7,ZJ,aaq,ZA,ql8,(.int .i64 sY),ql9] 80 none),
  (125,.arr (.base 60) [.int .u32,.int .u32,.int .i64,.int .u32,.int .i64,.int .u32,.int .i64,.bool,.bool,.int .u32,.bool,.int .i64,.int .u32,.int .i64] (.var 60) 65 true)],
 126,[],[0,1,2,3,4,5,6,16,8,20,12,18,10,14,17,9,21,13,19,11,15,125,22,23,24,25,26,27,28,29,30,31,32,33,34,35,36,37,38,39,40,41,42,43,44,45,46,47,48,49,50,51,52,53,54,55,56,57,58,59,60,61,62,63,64,65,66,67,68,69,70,71,72,73,74,75,76,77,78,79,80,81,82,83,84,85,86,87,88,89,90,91,92,93,94,95,96,97,98,99,100,101,102,103,104,105,106,107,108,109,110,111,112,113,114,115,116,117,118,119,120,121,122,123,124]⟩⟩
noncomputable def yr:LoopI:=⟨none,(lb 43 0),ajj,⟨mI amh,22,Rh⟩,.br (.eq (.var 534) Ci) (.ok (uk.ex,uk.pat.fr,⟨uk.pat.st.h,uk.pat.st.n,Rh⟩)) (.ok (sq.ex,sq.pat.fr,⟨sq.pat.st.h,sq.pat.st.n,Rh⟩))⟩
def ARP:m7:=⟨[ql8,(.ptr 9 0),ql7,PI],[(8,.warr 8 10 [.int .u32] (.var 40)),
  (10,.arr (.base 20) [.int .u8] sY 5 false),
  (9,.cells [(.xslice false 10 Ci 1 sY (.known sY))] 72 none)],11,[((.le (.lit 1) (.var 40)),true),((.le (.var 40) (.lit 200)),true),((.le (.var 40) (.var 41)),true),((.le (.lit 16) sY),true),((.le sY (.lit 4096)),true),((.le Ci (.var 42)),true),((.le (.var 42) (.lit 3)),true),((.le (.lit 1) (.var 43)),true),((.le (.var 43) (.lit 300)),true),((.le Ci (.lit 7)),true)]⟩
def ARR:R Leaf:=
 (.br (.eq (.var 534) Ci)
  (.ok {v:=(.tuple [(.agg [ql7,aaU,aaC,Yg,Zm,aaS,Zj,Zw,Yw,YE,Zq,Zp,ZD,Yj,Y6,ZE,aam,YO,aaJ,YS,Zg,YL,aad,aap,ZI,ZT,Yl,aab,aaf,ZX,ZL,Z7,ZJ,aaq,ZA]),Y8,yG]),objs:=[(10,.arr (.base 50) [.int .u8] sY 5 false),(9,.cells [(.xslice false 10 Ci 1 sY (.known sY))] 72 none),(125,.arr (.base 60) [.int .u32,.int .u32,.int .i64,.int .u32,.int .i64,.int .u32,.int .i64,.bool,.bool,.int .u32,.bool,.int .i64,.int .u32,.int .i64] (.var 60) 65 true)],n:=126})
  (.ok {v:=(.tuple [(.agg [ql7,aaU,aaC,Yg,Zm,aaS,Zj,Zw,Yw,YE,Zq,Zp,ZD,Yj,Y6,ZE,aam,YO,aaJ,YS,Zg,YL,aad,aap,ZI,ZT,Yl,aab,aaf,ZX,ZL,Z7,ZJ,aaq,ZA]),Y8,yG]),objs:=[(10,.arr (.base 50) [.int .u8] sY 5 false),(9,.cells [(.xslice false 10 Ci 1 sY (.known sY))] 72 none),(125,.arr (.base 60) [.int .u32,.int .u32,.int .i64,.int .u32,.int .i64,.int .u32,.int .i64,.bool,.bool,.int .u32,.bool,.int .i64,.int .u32,.int .i64] (.var 60) 65 true)],n:=126}))
end Go.Proofs.YtmickljjofbmiaaGreatDoor
