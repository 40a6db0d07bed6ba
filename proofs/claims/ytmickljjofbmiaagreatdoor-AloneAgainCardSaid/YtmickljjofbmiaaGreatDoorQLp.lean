/- AloneAgain: the loops of alone.Told (with answers, without) and of the law's answers: where they are come to, their shapes, their ends; what the functions leave (printed by halq, hala). No condition. -/
import Derived.Test.YtmickljjofbmiaaGreatDoorALp
import Derived.Test.YtmickljjofbmiaaGreatDoorQLm
namespace Go.Proofs.YtmickljjofbmiaaGreatDoor
open Go Go.Proofs
noncomputable def yZ:Nat→Code
 | 17=>Tryz.f17.body.getD .skip
 | 24=>Tryz.f24.body.getD .skip
 | 43=>Tryz.f43.body.getD .skip
 | _=>.skip
noncomputable def qlb(f k:Nat):Code:=(oQ (yZ f)).getD k .skip
noncomputable def qrp(f k:Nat):Array Tmp:=((kX (yZ f)).getD k (#[],.skip,.skip)).1
noncomputable def qra(f k:Nat):Code:=((kX (yZ f)).getD k (#[],.skip,.skip)).2.1
noncomputable def qrb(f k:Nat):Code:=((kX (yZ f)).getD k (#[],.skip,.skip)).2.2
def s6:V:=.ptr 13 0
def r5:X:=.lit 0
def jV:V:=.int .i64 r5
def B2:X:=.var 62
def qm4:V:=.xslice false 9 r5 2 B2 (.room B2)
def ao:V:=.int .u32 r5
def xh:V:=.int .i64 (.var 43)
def TP:V:=.int .i64 (.var 42)
def Yd:V:=.xslice true 8 r5 1 (.var 40) (.known (.var 41))
def Yc:V:=.int .i64 (.var 50)
def Jz:V:=.func (.func 29) [] [(.ptr 12 0),(.ptr 10 0)]
def JF:V:=.func (.func 43) [] [(.ptr 17 0),(.ptr 16 0)]
def tQ:X:=.var 100
def YQ:V:=.int .i64 tQ
def Fp:X:=.var 140
def gG:X:=.var 60
def Sj:V:=.xslice false 123 r5 14 gG (.room gG)
def Z9:X:=.eq (.var 534) r5
def YW:V:=.tuple [(.agg [TP,(.int .u32 (.var 501)),(.int .u32 (.var 502)),(.int .u32 (.var 503)),(.int .u32 (.var 504)),(.int .u32 (.var 505)),(.int .u32 (.var 506)),(.int .u32 (.var 507)),(.int .u32 (.var 508)),(.int .u32 (.var 509)),(.int .u32 (.var 510)),(.int .u32 (.var 511)),(.int .u32 (.var 512)),(.int .u32 (.var 513)),(.int .u32 (.var 514)),(.int .u32 (.var 515)),(.int .u32 (.var 516)),(.int .u32 (.var 517)),(.int .u32 (.var 518)),(.int .u32 (.var 519)),(.int .u32 (.var 520)),(.int .u32 (.var 521)),(.int .u32 (.var 522)),(.int .u32 (.var 523)),(.int .u32 (.var 524)),(.int .u32 (.var 525)),(.int .u32 (.var 526)),(.int .u32 (.var 527)),(.int .u32 (.var 528)),(.int .u32 (.var 529)),(.int .u32 (.var 530)),(.int .u32 (.var 531)),(.int .u32 (.var 532)),(.int .u32 (.var 533)),(.int .i64 (.var 534))]),Sj,jV]
def Yn:V:=.xslice false 7 r5 14 gG (.room gG)
def amc:V:=.xslice false 11 r5 2 B2 (.room B2)
noncomputable def agD:List (Nat×av):=[(0,.ro 0 (Dh 0)),
  (16,.cells [s6] 76 none),
  (8,.warr 8 10 [.int .u32] (.var 40)),
  (12,.cells [jV] 3 none),
  (18,.deferred (some [])),
  (10,.cells [qm4] 52 none),
  (14,.cells [jV,ao,ao,ao,ao,ao,ao,ao,ao,ao,ao,ao,ao,ao,ao,ao,ao,ao,ao,ao,ao,ao,ao,ao,ao,ao,ao,ao,ao,ao,ao,ao,ao,ao,jV] 34 none),
  (17,.cells [xh] 3 none),
  (9,.arr (.base 75) [.int .u32,.bool] B2 63 true),
  (13,.cells [TP,ao,ao,ao,ao,ao,ao,ao,ao,ao,ao,ao,ao,ao,ao,ao,ao,ao,ao,ao,ao,ao,ao,ao,ao,ao,ao,ao,ao,ao,ao,ao,ao,ao,jV,Yd,Yc,Jz] 80 none),
  (19,.loop .ready none [s6,xh,U,U,(.ptr 14 0),.nilslice,jV,(.ptr 15 0),U,s6,xh,JF,U,U,U,U,U,U,U,U,U,U,U,U,U] (qrp 24 0) (qra 24 0) (qrb 24 0) 18),
  (11,.cells [jV,ao,ao,ao,ao,ao,ao,ao,ao,ao,ao,ao,ao,ao,ao,ao,ao,ao,ao,ao,ao,ao,ao,ao,ao,ao,ao,ao,ao,ao,ao,ao,ao,ao,jV] 34 none),
  (15,.cells [.nilslice] 35 none)]
noncomputable def V9:PC:=[((.le (.lit 1) B2),true),((.le B2 (.lit 300)),true),((.le (.lit 1) (.var 40)),true),((.le (.var 40) (.lit 200)),true),((.le (.var 40) (.var 41)),true),((.le (.lit 16) (.var 50)),true),((.le (.var 50) (.lit 4096)),true),((.le r5 (.var 42)),true),((.le (.var 42) (.lit 3)),true),((.le (.lit 1) (.var 43)),true),((.le (.var 43) (.lit 300)),true),((.le r5 (.lit 7)),true)]
noncomputable def alJ:Fr:=⟨[(.yield 19),(.ptr 17 0),(.ptr 16 0),U,jV,U,U,U,U,U,U,U,U,U,U,U,U,U,U,U,U,U,U,U,U,U,U,U,U,U,U,U,U,U,U,U,U,U,U,U,U,U,U,U,U,U,U,U,U,U,U,U,U,U,U,U,U,U,U,U,U,U,U,U,U,U,U,U,U,U,U,U,U,U,U,U,U,U,U,U,U,U,U,U,U,U,U,U,U,U,U,U,U,U,U,U,U,U,U,U,U,U,U],[]⟩
noncomputable def Fx:mW:=⟨alJ,agD,20,V9,[0,1,2,3,4,5,6,8,9,10,11,12,13,14,15,16,17,18,19]⟩
noncomputable def LG:mW:=⟨⟨[(.yield 19),(.ptr 17 0),(.ptr 16 0),U,YQ,(.any 20),(.any 21),(.any 22),(.any 23),(.any 24),(.any 25),(.any 26),(.any 27),(.any 28),(.any 29),(.any 30),(.any 31),s6,s6,s6,(.ptr 13 34),(.any 32),(.any 33),(.any 34),(.any 35),(.any 36),(.any 37),(.any 38),(.any 39),(.any 40),(.any 41),(.any 42),(.any 43),(.any 44),(.any 45),(.any 46),(.any 47),(.any 48),(.any 49),(.any 50),(.any 51),(.any 52),(.any 53),(.any 54),(.any 55),(.any 56),(.any 57),(.any 58),(.any 59),(.any 60),(.any 61),(.any 62),(.any 63),(.any 64),(.any 65),(.any 66),(.any 67),(.any 68),(.any 69),(.any 70),(.any 71),(.any 72),(.any 73),(.any 74),(.any 75),(.any 76),(.any 77),(.any 78),(.any 79),(.any 80),(.any 81),(.any 82),(.any 83),(.any 84),(.any 85),(.any 86),(.any 87),(.any 88),(.any 89),(.any 90),(.any 91),(.any 92),(.any 93),(.any 94),(.any 95),(.any 96),(.any 97),(.any 98),(.any 99),(.any 100),(.any 101),(.any 102),(.any 103),(.any 104),(.any 105),(.any 106),(.any 107),(.any 108),(.any 109),(.any 110),(.any 111),(.any 112),(.any 113)],[]⟩,
 [(0,.ro 0 (Dh 0)),
  (16,.cells [s6] 76 none),
  (8,.warr 8 10 [.int .u32] (.var 40)),
  (12,.cells [(.int .i64 Fp)] 3 none),
  (18,.deferred (some [])),
  (10,.cells [qm4] 52 none),
  (14,.cells [jV,ao,ao,ao,ao,ao,ao,ao,ao,ao,ao,ao,ao,ao,ao,ao,ao,ao,ao,ao,ao,ao,ao,ao,ao,ao,ao,ao,ao,ao,ao,ao,ao,ao,jV] 34 none),
  (17,.cells [xh] 3 none),
  (9,.arr (.base 75) [.int .u32,.bool] B2 63 true),
  (13,.cells [TP,(.int .u32 (.var 101)),(.int .u32 (.var 102)),(.int .u32 (.var 103)),(.int .u32 (.var 104)),(.int .u32 (.var 105)),(.int .u32 (.var 106)),(.int .u32 (.var 107)),(.int .u32 (.var 108)),(.int .u32 (.var 109)),(.int .u32 (.var 110)),(.int .u32 (.var 111)),(.int .u32 (.var 112)),(.int .u32 (.var 113)),(.int .u32 (.var 114)),(.int .u32 (.var 115)),(.int .u32 (.var 116)),(.int .u32 (.var 117)),(.int .u32 (.var 118)),(.int .u32 (.var 119)),(.int .u32 (.var 120)),(.int .u32 (.var 121)),(.int .u32 (.var 122)),(.int .u32 (.var 123)),(.int .u32 (.var 124)),(.int .u32 (.var 125)),(.int .u32 (.var 126)),(.int .u32 (.var 127)),(.int .u32 (.var 128)),(.int .u32 (.var 129)),(.int .u32 (.var 130)),(.int .u32 (.var 131)),(.int .u32 (.var 132)),(.int .u32 (.var 133)),(.int .i64 (.var 134)),Yd,Yc,Jz] 80 none),
  (19,.loop .ready none [s6,xh,U,U,(.ptr 14 0),.nilslice,jV,(.ptr 15 0),U,s6,xh,JF,U,U,U,U,U,U,U,U,U,U,U,U,U] (qrp 24 0) (qra 24 0) (qrb 24 0) 18),
  (11,.cells [jV,ao,ao,ao,ao,ao,ao,ao,ao,ao,ao,ao,ao,ao,ao,ao,ao,ao,ao,ao,ao,ao,ao,ao,ao,ao,ao,ao,ao,ao,ao,ao,ao,ao,jV] 34 none),
  (15,.cells [(.xslice false 114 r5 14 tQ (.room tQ))] 35 none),
  (114,.arr (.base 31) [.int .u32,.int .u32,.int .i64,.int .u32,.int .i64,.int .u32,.int .i64,.bool,.bool,.int .u32,.bool,.int .i64,.int .u32,.int .i64] tQ 65 true)],
 115,[((.le (.lit 1) tQ),true),((.le r5 Fp),true),((.le Fp B2),true),((.le (.lit 1) B2),true),((.le B2 (.lit 300)),true),((.le (.lit 1) (.var 40)),true),((.le (.var 40) (.lit 200)),true),((.le (.var 40) (.var 41)),true),((.le (.lit 16) (.var 50)),true),((.le (.var 50) (.lit 4096)),true),((.le r5 (.var 42)),true),((.le (.var 42) (.lit 3)),true),((.le (.lit 1) (.var 43)),true),((.le (.var 43) (.lit 300)),true),((.le r5 (.lit 7)),true)],[0,1,2,3,4,5,6,16,8,12,18,10,14,17,9,13,19,11,15,114,20,21,22,23,24,25,26,27,28,29,30,31,32,33,34,35,36,37,38,39,40,41,42,43,44,45,46,47,48,49,50,51,52,53,54,55,56,57,58,59,60,61,62,63,64,65,66,67,68,69,70,71,72,73,74,75,76,77,78,79,80,81,82,83,84,85,86,87,88,89,90,91,92,93,94,95,96,97,98,99,100,101,102,103,104,105,106,107,108,109,110,111,112,113]⟩
noncomputable def Iy:OutP:=⟨(.exit 0),⟨⟨[(.any 20),(.any 21),(.any 22),(.any 23),(.any 24),(.any 25),(.any 26),(.any 27),(.any 28),(.any 29),(.any 30),(.any 31),(.any 32),(.any 33),(.any 34),(.any 35),(.any 36),(.any 37),(.any 38),(.any 39),(.any 40),(.any 41),(.any 42),(.any 43),(.any 44),(.any 45),(.any 46),(.any 47),(.any 48),(.any 49),(.any 50),(.any 51),(.any 52),(.any 53),(.any 54),(.any 55),(.any 56),(.any 57),(.any 58),(.any 59),(.any 60),(.any 61),(.any 62),(.any 63),(.any 64),(.any 65),(.any 66),(.any 67),(.any 68),(.any 69),(.any 70),(.any 71),(.any 72),(.any 73),(.any 74),(.any 75),(.any 76),(.any 77),(.any 78),(.any 79),(.any 80),(.any 81),(.any 82),(.any 83),(.any 84),(.any 85),(.any 86),(.any 87),(.any 88),(.any 89),(.any 90),(.any 91),(.any 92),(.any 93),(.any 94),(.any 95),(.any 96),(.any 97),(.any 98),(.any 99),(.any 100),(.any 101),(.any 102),(.any 103),(.any 104),(.any 105),(.any 106),(.any 107),(.any 108),(.any 109),(.any 110),(.any 111),(.any 112),(.any 113),(.any 114),(.any 115),(.any 116),(.any 117),(.any 118),(.any 119),(.any 120),(.any 121),(.any 122)],[]⟩,
 [(0,.ro 0 (Dh 0)),
  (16,.cells [s6] 76 none),
  (8,.warr 8 10 [.int .u32] (.var 40)),
  (12,.cells [(.int .i64 (.var 540))] 3 none),
  (18,.deferred (some [])),
  (10,.cells [qm4] 52 none),
  (14,.cells [jV,ao,ao,ao,ao,ao,ao,ao,ao,ao,ao,ao,ao,ao,ao,ao,ao,ao,ao,ao,ao,ao,ao,ao,ao,ao,ao,ao,ao,ao,ao,ao,ao,ao,jV] 34 none),
  (17,.cells [xh] 3 none),
  (9,.arr (.base 75) [.int .u32,.bool] B2 63 true),
  (13,.cells [TP,(.int .u32 (.var 501)),(.int .u32 (.var 502)),(.int .u32 (.var 503)),(.int .u32 (.var 504)),(.int .u32 (.var 505)),(.int .u32 (.var 506)),(.int .u32 (.var 507)),(.int .u32 (.var 508)),(.int .u32 (.var 509)),(.int .u32 (.var 510)),(.int .u32 (.var 511)),(.int .u32 (.var 512)),(.int .u32 (.var 513)),(.int .u32 (.var 514)),(.int .u32 (.var 515)),(.int .u32 (.var 516)),(.int .u32 (.var 517)),(.int .u32 (.var 518)),(.int .u32 (.var 519)),(.int .u32 (.var 520)),(.int .u32 (.var 521)),(.int .u32 (.var 522)),(.int .u32 (.var 523)),(.int .u32 (.var 524)),(.int .u32 (.var 525)),(.int .u32 (.var 526)),(.int .u32 (.var 527)),(.int .u32 (.var 528)),(.int .u32 (.var 529)),(.int .u32 (.var 530)),(.int .u32 (.var 531)),(.int .u32 (.var 532)),(.int .u32 (.var 533)),(.int .i64 (.var 534)),Yd,Yc,Jz] 80 none),
  (19,.loop .ready none [s6,xh,U,U,(.ptr 14 0),.nilslice,jV,(.ptr 15 0),U,s6,xh,JF,U,U,U,U,U,U,U,U,U,U,U,U,U] (qrp 24 0) (qra 24 0) (qrb 24 0) 18),
  (11,.cells [jV,ao,ao,ao,ao,ao,ao,ao,ao,ao,ao,ao,ao,ao,ao,ao,ao,ao,ao,ao,ao,ao,ao,ao,ao,ao,ao,ao,ao,ao,ao,ao,ao,ao,jV] 34 none),
  (15,.cells [Sj] 35 none),
  (123,.arr (.base 60) [.int .u32,.int .u32,.int .i64,.int .u32,.int .i64,.int .u32,.int .i64,.bool,.bool,.int .u32,.bool,.int .i64,.int .u32,.int .i64] gG 65 true)],
 124,[],[0,1,2,3,4,5,6,16,8,12,18,10,14,17,9,13,19,11,15,123,20,21,22,23,24,25,26,27,28,29,30,31,32,33,34,35,36,37,38,39,40,41,42,43,44,45,46,47,48,49,50,51,52,53,54,55,56,57,58,59,60,61,62,63,64,65,66,67,68,69,70,71,72,73,74,75,76,77,78,79,80,81,82,83,84,85,86,87,88,89,90,91,92,93,94,95,96,97,98,99,100,101,102,103,104,105,106,107,108,109,110,111,112,113,114,115,116,117,118,119,120,121,122]⟩⟩
noncomputable def IG:OutP:=⟨.ret,⟨⟨[(.any 20),(.any 21),(.any 22),(.any 23),(.any 24),(.any 25),(.any 26),(.any 27),(.any 28),(.any 29),(.any 30),(.any 31),(.any 32),(.any 33),(.any 34),(.any 35),(.any 36),(.any 37),(.any 38),(.any 39),(.any 40),(.any 41),(.any 42),(.any 43),(.any 44),(.any 45),(.any 46),(.any 47),(.any 48),(.any 49),(.any 50),(.any 51),(.any 52),(.any 53),(.any 54),(.any 55),(.any 56),(.any 57),(.any 58),(.any 59),(.any 60),(.any 61),(.any 62),(.any 63),(.any 64),(.any 65),(.any 66),(.any 67),(.any 68),(.any 69),(.any 70),(.any 71),(.any 72),(.any 73),(.any 74),(.any 75),(.any 76),(.any 77),(.any 78),(.any 79),(.any 80),(.any 81),(.any 82),(.any 83),(.any 84),(.any 85),(.any 86),(.any 87),(.any 88),(.any 89),(.any 90),(.any 91),(.any 92),(.any 93),(.any 94),(.any 95),(.any 96),(.any 97),(.any 98),(.any 99),(.any 100),(.any 101),(.any 102),(.any 103),(.any 104),(.any 105),(.any 106),(.any 107),(.any 108),(.any 109),(.any 110),(.any 111),(.any 112),(.any 113),(.any 114),(.any 115),(.any 116),(.any 117),(.any 118),(.any 119),(.any 120),(.any 121),(.any 122)],[]⟩,
 [(0,.ro 0 (Dh 0)),
  (16,.cells [s6] 76 none),
  (8,.warr 8 10 [.int .u32] (.var 40)),
  (12,.cells [(.int .i64 (.var 540))] 3 none),
  (18,.deferred (some [])),
  (10,.cells [qm4] 52 none),
  (14,.cells [jV,ao,ao,ao,ao,ao,ao,ao,ao,ao,ao,ao,ao,ao,ao,ao,ao,ao,ao,ao,ao,ao,ao,ao,ao,ao,ao,ao,ao,ao,ao,ao,ao,ao,jV] 34 none),
  (17,.cells [xh] 3 none),
  (9,.arr (.base 75) [.int .u32,.bool] B2 63 true),
  (13,.cells [TP,(.int .u32 (.var 501)),(.int .u32 (.var 502)),(.int .u32 (.var 503)),(.int .u32 (.var 504)),(.int .u32 (.var 505)),(.int .u32 (.var 506)),(.int .u32 (.var 507)),(.int .u32 (.var 508)),(.int .u32 (.var 509)),(.int .u32 (.var 510)),(.int .u32 (.var 511)),(.int .u32 (.var 512)),(.int .u32 (.var 513)),(.int .u32 (.var 514)),(.int .u32 (.var 515)),(.int .u32 (.var 516)),(.int .u32 (.var 517)),(.int .u32 (.var 518)),(.int .u32 (.var 519)),(.int .u32 (.var 520)),(.int .u32 (.var 521)),(.int .u32 (.var 522)),(.int .u32 (.var 523)),(.int .u32 (.var 524)),(.int .u32 (.var 525)),(.int .u32 (.var 526)),(.int .u32 (.var 527)),(.int .u32 (.var 528)),(.int .u32 (.var 529)),(.int .u32 (.var 530)),(.int .u32 (.var 531)),(.int .u32 (.var 532)),(.int .u32 (.var 533)),(.int .i64 (.var 534)),Yd,Yc,Jz] 80 none),
  (19,.loop .done (some (.exit 0)) [s6,xh,U,U,(.ptr 14 0),.nilslice,jV,(.ptr 15 0),U,s6,xh,JF,U,U,U,U,U,U,U,U,U,U,U,U,U] (qrp 24 0) (qra 24 0) (qrb 24 0) 18),
  (11,.cells [jV,ao,ao,ao,ao,ao,ao,ao,ao,ao,ao,ao,ao,ao,ao,ao,ao,ao,ao,ao,ao,ao,ao,ao,ao,ao,ao,ao,ao,ao,ao,ao,ao,ao,jV] 34 none),
  (15,.cells [Sj] 35 none),
  (123,.arr (.base 60) [.int .u32,.int .u32,.int .i64,.int .u32,.int .i64,.int .u32,.int .i64,.bool,.bool,.int .u32,.bool,.int .i64,.int .u32,.int .i64] gG 65 true)],
 124,[],[0,1,2,3,4,5,6,16,8,12,18,10,14,17,9,13,19,11,15,123,20,21,22,23,24,25,26,27,28,29,30,31,32,33,34,35,36,37,38,39,40,41,42,43,44,45,46,47,48,49,50,51,52,53,54,55,56,57,58,59,60,61,62,63,64,65,66,67,68,69,70,71,72,73,74,75,76,77,78,79,80,81,82,83,84,85,86,87,88,89,90,91,92,93,94,95,96,97,98,99,100,101,102,103,104,105,106,107,108,109,110,111,112,113,114,115,116,117,118,119,120,121,122]⟩⟩
noncomputable def Ei:LoopI:=⟨none,(qlb 43 0),alJ,⟨mI agD,20,V9⟩,.br Z9 (.ok (Iy.ex,Iy.pat.fr,⟨Iy.pat.st.h,Iy.pat.st.n,V9⟩)) (.ok (IG.ex,IG.pat.fr,⟨IG.pat.st.h,IG.pat.st.n,V9⟩))⟩
def TQP:m7:=⟨[Yd,Yc,TP,xh,qm4],[(8,.warr 8 10 [.int .u32] (.var 40)),
  (9,.arr (.base 75) [.int .u32,.bool] B2 63 true)],10,[((.le (.lit 1) B2),true),((.le B2 (.lit 300)),true),((.le (.lit 1) (.var 40)),true),((.le (.var 40) (.lit 200)),true),((.le (.var 40) (.var 41)),true),((.le (.lit 16) (.var 50)),true),((.le (.var 50) (.lit 4096)),true),((.le r5 (.var 42)),true),((.le (.var 42) (.lit 3)),true),((.le (.lit 1) (.var 43)),true),((.le (.var 43) (.lit 300)),true),((.le r5 (.lit 7)),true)]⟩
def TQR:R Leaf:=
 (.br Z9
  (.ok {v:=YW,objs:=[(9,.arr (.base 75) [.int .u32,.bool] B2 63 true),(123,.arr (.base 60) [.int .u32,.int .u32,.int .i64,.int .u32,.int .i64,.int .u32,.int .i64,.bool,.bool,.int .u32,.bool,.int .i64,.int .u32,.int .i64] gG 65 true)],n:=124})
  (.ok {v:=YW,objs:=[(9,.arr (.base 75) [.int .u32,.bool] B2 63 true),(123,.arr (.base 60) [.int .u32,.int .u32,.int .i64,.int .u32,.int .i64,.int .u32,.int .i64,.bool,.bool,.int .u32,.bool,.int .i64,.int .u32,.int .i64] gG 65 true)],n:=124}))
noncomputable def afB:List (Nat×av):=[(0,.ro 0 (Dh 0)),
  (16,.cells [s6] 76 none),
  (8,.warr 8 10 [.int .u32] (.var 40)),
  (12,.cells [jV] 3 none),
  (18,.deferred (some [])),
  (10,.cells [.nilslice] 52 none),
  (14,.cells [jV,ao,ao,ao,ao,ao,ao,ao,ao,ao,ao,ao,ao,ao,ao,ao,ao,ao,ao,ao,ao,ao,ao,ao,ao,ao,ao,ao,ao,ao,ao,ao,ao,ao,jV] 34 none),
  (17,.cells [xh] 3 none),
  (13,.cells [TP,ao,ao,ao,ao,ao,ao,ao,ao,ao,ao,ao,ao,ao,ao,ao,ao,ao,ao,ao,ao,ao,ao,ao,ao,ao,ao,ao,ao,ao,ao,ao,ao,ao,jV,Yd,Yc,Jz] 80 none),
  (19,.loop .ready none [s6,xh,U,U,(.ptr 14 0),.nilslice,jV,(.ptr 15 0),U,s6,xh,JF,U,U,U,U,U,U,U,U,U,U,U,U,U] (qrp 24 0) (qra 24 0) (qrb 24 0) 18),
  (11,.cells [jV,ao,ao,ao,ao,ao,ao,ao,ao,ao,ao,ao,ao,ao,ao,ao,ao,ao,ao,ao,ao,ao,ao,ao,ao,ao,ao,ao,ao,ao,ao,ao,ao,ao,jV] 34 none),
  (15,.cells [.nilslice] 35 none)]
noncomputable def Tg:PC:=[((.le (.lit 1) (.var 40)),true),((.le (.var 40) (.lit 200)),true),((.le (.var 40) (.var 41)),true),((.le (.lit 16) (.var 50)),true),((.le (.var 50) (.lit 4096)),true),((.le r5 (.var 42)),true),((.le (.var 42) (.lit 3)),true),((.le (.lit 1) (.var 43)),true),((.le (.var 43) (.lit 300)),true),((.le r5 (.lit 7)),true)]
noncomputable def ajl:Fr:=⟨[(.yield 19),(.ptr 17 0),(.ptr 16 0),U,jV,U,U,U,U,U,U,U,U,U,U,U,U,U,U,U,U,U,U,U,U,U,U,U,U,U,U,U,U,U,U,U,U,U,U,U,U,U,U,U,U,U,U,U,U,U,U,U,U,U,U,U,U,U,U,U,U,U,U,U,U,U,U,U,U,U,U,U,U,U,U,U,U,U,U,U,U,U,U,U,U,U,U,U,U,U,U,U,U,U,U,U,U,U,U,U,U,U,U],[]⟩
noncomputable def EU:mW:=⟨ajl,afB,20,Tg,[0,1,2,3,4,5,6,8,10,11,12,13,14,15,16,17,18,19]⟩
noncomputable def MQ:mW:=⟨⟨[(.yield 19),(.ptr 17 0),(.ptr 16 0),U,YQ,(.any 20),(.any 21),(.any 22),(.any 23),(.any 24),(.any 25),(.any 26),(.any 27),(.any 28),(.any 29),(.any 30),(.any 31),s6,s6,s6,(.ptr 13 34),(.any 32),(.any 33),(.any 34),(.any 35),(.any 36),(.any 37),(.any 38),(.any 39),(.any 40),(.any 41),(.any 42),(.any 43),(.any 44),(.any 45),(.any 46),(.any 47),(.any 48),(.any 49),(.any 50),(.any 51),(.any 52),(.any 53),(.any 54),(.any 55),(.any 56),(.any 57),(.any 58),(.any 59),(.any 60),(.any 61),(.any 62),(.any 63),(.any 64),(.any 65),(.any 66),(.any 67),(.any 68),(.any 69),(.any 70),(.any 71),(.any 72),(.any 73),(.any 74),(.any 75),(.any 76),(.any 77),(.any 78),(.any 79),(.any 80),(.any 81),(.any 82),(.any 83),(.any 84),(.any 85),(.any 86),(.any 87),(.any 88),(.any 89),(.any 90),(.any 91),(.any 92),(.any 93),(.any 94),(.any 95),(.any 96),(.any 97),(.any 98),(.any 99),(.any 100),(.any 101),(.any 102),(.any 103),(.any 104),(.any 105),(.any 106),(.any 107),(.any 108),(.any 109),(.any 110),(.any 111),(.any 112),(.any 113)],[]⟩,
 [(0,.ro 0 (Dh 0)),
  (16,.cells [s6] 76 none),
  (8,.warr 8 10 [.int .u32] (.var 40)),
  (12,.cells [jV] 3 none),
  (18,.deferred (some [])),
  (10,.cells [.nilslice] 52 none),
  (14,.cells [jV,ao,ao,ao,ao,ao,ao,ao,ao,ao,ao,ao,ao,ao,ao,ao,ao,ao,ao,ao,ao,ao,ao,ao,ao,ao,ao,ao,ao,ao,ao,ao,ao,ao,jV] 34 none),
  (17,.cells [xh] 3 none),
  (13,.cells [TP,(.int .u32 (.var 101)),(.int .u32 (.var 102)),(.int .u32 (.var 103)),(.int .u32 (.var 104)),(.int .u32 (.var 105)),(.int .u32 (.var 106)),(.int .u32 (.var 107)),(.int .u32 (.var 108)),(.int .u32 (.var 109)),(.int .u32 (.var 110)),(.int .u32 (.var 111)),(.int .u32 (.var 112)),(.int .u32 (.var 113)),(.int .u32 (.var 114)),(.int .u32 (.var 115)),(.int .u32 (.var 116)),(.int .u32 (.var 117)),(.int .u32 (.var 118)),(.int .u32 (.var 119)),(.int .u32 (.var 120)),(.int .u32 (.var 121)),(.int .u32 (.var 122)),(.int .u32 (.var 123)),(.int .u32 (.var 124)),(.int .u32 (.var 125)),(.int .u32 (.var 126)),(.int .u32 (.var 127)),(.int .u32 (.var 128)),(.int .u32 (.var 129)),(.int .u32 (.var 130)),(.int .u32 (.var 131)),(.int .u32 (.var 132)),(.int .u32 (.var 133)),(.int .i64 (.var 134)),Yd,Yc,Jz] 80 none),
  (19,.loop .ready none [s6,xh,U,U,(.ptr 14 0),.nilslice,jV,(.ptr 15 0),U,s6,xh,JF,U,U,U,U,U,U,U,U,U,U,U,U,U] (qrp 24 0) (qra 24 0) (qrb 24 0) 18),
  (11,.cells [jV,ao,ao,ao,ao,ao,ao,ao,ao,ao,ao,ao,ao,ao,ao,ao,ao,ao,ao,ao,ao,ao,ao,ao,ao,ao,ao,ao,ao,ao,ao,ao,ao,ao,jV] 34 none),
  (15,.cells [(.xslice false 114 r5 14 tQ (.room tQ))] 35 none),
  (114,.arr (.base 31) [.int .u32,.int .u32,.int .i64,.int .u32,.int .i64,.int .u32,.int .i64,.bool,.bool,.int .u32,.bool,.int .i64,.int .u32,.int .i64] tQ 65 true)],
 115,[((.le (.lit 1) tQ),true),((.le r5 Fp),true),((.le (.lit 1) (.var 40)),true),((.le (.var 40) (.lit 200)),true),((.le (.var 40) (.var 41)),true),((.le (.lit 16) (.var 50)),true),((.le (.var 50) (.lit 4096)),true),((.le r5 (.var 42)),true),((.le (.var 42) (.lit 3)),true),((.le (.lit 1) (.var 43)),true),((.le (.var 43) (.lit 300)),true),((.le r5 (.lit 7)),true)],[0,1,2,3,4,5,6,16,8,12,18,10,14,17,13,19,11,15,114,20,21,22,23,24,25,26,27,28,29,30,31,32,33,34,35,36,37,38,39,40,41,42,43,44,45,46,47,48,49,50,51,52,53,54,55,56,57,58,59,60,61,62,63,64,65,66,67,68,69,70,71,72,73,74,75,76,77,78,79,80,81,82,83,84,85,86,87,88,89,90,91,92,93,94,95,96,97,98,99,100,101,102,103,104,105,106,107,108,109,110,111,112,113]⟩
noncomputable def JG:OutP:=⟨(.exit 0),⟨⟨[(.any 20),(.any 21),(.any 22),(.any 23),(.any 24),(.any 25),(.any 26),(.any 27),(.any 28),(.any 29),(.any 30),(.any 31),(.any 32),(.any 33),(.any 34),(.any 35),(.any 36),(.any 37),(.any 38),(.any 39),(.any 40),(.any 41),(.any 42),(.any 43),(.any 44),(.any 45),(.any 46),(.any 47),(.any 48),(.any 49),(.any 50),(.any 51),(.any 52),(.any 53),(.any 54),(.any 55),(.any 56),(.any 57),(.any 58),(.any 59),(.any 60),(.any 61),(.any 62),(.any 63),(.any 64),(.any 65),(.any 66),(.any 67),(.any 68),(.any 69),(.any 70),(.any 71),(.any 72),(.any 73),(.any 74),(.any 75),(.any 76),(.any 77),(.any 78),(.any 79),(.any 80),(.any 81),(.any 82),(.any 83),(.any 84),(.any 85),(.any 86),(.any 87),(.any 88),(.any 89),(.any 90),(.any 91),(.any 92),(.any 93),(.any 94),(.any 95),(.any 96),(.any 97),(.any 98),(.any 99),(.any 100),(.any 101),(.any 102),(.any 103),(.any 104),(.any 105),(.any 106),(.any 107),(.any 108),(.any 109),(.any 110),(.any 111),(.any 112),(.any 113),(.any 114),(.any 115),(.any 116),(.any 117),(.any 118),(.any 119),(.any 120),(.any 121),(.any 122)],[]⟩,
 [(0,.ro 0 (Dh 0)),
  (16,.cells [s6] 76 none),
  (8,.warr 8 10 [.int .u32] (.var 40)),
  (12,.cells [jV] 3 none),
  (18,.deferred (some [])),
  (10,.cells [.nilslice] 52 none),
  (14,.cells [jV,ao,ao,ao,ao,ao,ao,ao,ao,ao,ao,ao,ao,ao,ao,ao,ao,ao,ao,ao,ao,ao,ao,ao,ao,ao,ao,ao,ao,ao,ao,ao,ao,ao,jV] 34 none),
  (17,.cells [xh] 3 none),
  (13,.cells [TP,(.int .u32 (.var 501)),(.int .u32 (.var 502)),(.int .u32 (.var 503)),(.int .u32 (.var 504)),(.int .u32 (.var 505)),(.int .u32 (.var 506)),(.int .u32 (.var 507)),(.int .u32 (.var 508)),(.int .u32 (.var 509)),(.int .u32 (.var 510)),(.int .u32 (.var 511)),(.int .u32 (.var 512)),(.int .u32 (.var 513)),(.int .u32 (.var 514)),(.int .u32 (.var 515)),(.int .u32 (.var 516)),(.int .u32 (.var 517)),(.int .u32 (.var 518)),(.int .u32 (.var 519)),(.int .u32 (.var 520)),(.int .u32 (.var 521)),(.int .u32 (.var 522)),(.int .u32 (.var 523)),(.int .u32 (.var 524)),(.int .u32 (.var 525)),(.int .u32 (.var 526)),(.int .u32 (.var 527)),(.int .u32 (.var 528)),(.int .u32 (.var 529)),(.int .u32 (.var 530)),(.int .u32 (.var 531)),(.int .u32 (.var 532)),(.int .u32 (.var 533)),(.int .i64 (.var 534)),Yd,Yc,Jz] 80 none),
  (19,.loop .ready none [s6,xh,U,U,(.ptr 14 0),.nilslice,jV,(.ptr 15 0),U,s6,xh,JF,U,U,U,U,U,U,U,U,U,U,U,U,U] (qrp 24 0) (qra 24 0) (qrb 24 0) 18),
  (11,.cells [jV,ao,ao,ao,ao,ao,ao,ao,ao,ao,ao,ao,ao,ao,ao,ao,ao,ao,ao,ao,ao,ao,ao,ao,ao,ao,ao,ao,ao,ao,ao,ao,ao,ao,jV] 34 none),
  (15,.cells [Sj] 35 none),
  (123,.arr (.base 60) [.int .u32,.int .u32,.int .i64,.int .u32,.int .i64,.int .u32,.int .i64,.bool,.bool,.int .u32,.bool,.int .i64,.int .u32,.int .i64] gG 65 true)],
 124,[],[0,1,2,3,4,5,6,16,8,12,18,10,14,17,13,19,11,15,123,20,21,22,23,24,25,26,27,28,29,30,31,32,33,34,35,36,37,38,39,40,41,42,43,44,45,46,47,48,49,50,51,52,53,54,55,56,57,58,59,60,61,62,63,64,65,66,67,68,69,70,71,72,73,74,75,76,77,78,79,80,81,82,83,84,85,86,87,88,89,90,91,92,93,94,95,96,97,98,99,100,101,102,103,104,105,106,107,108,109,110,111,112,113,114,115,116,117,118,119,120,121,122]⟩⟩
noncomputable def GM:OutP:=⟨.ret,⟨⟨[(.any 20),(.any 21),(.any 22),(.any 23),(.any 24),(.any 25),(.any 26),(.any 27),(.any 28),(.any 29),(.any 30),(.any 31),(.any 32),(.any 33),(.any 34),(.any 35),(.any 36),(.any 37),(.any 38),(.any 39),(.any 40),(.any 41),(.any 42),(.any 43),(.any 44),(.any 45),(.any 46),(.any 47),(.any 48),(.any 49),(.any 50),(.any 51),(.any 52),(.any 53),(.any 54),(.any 55),(.any 56),(.any 57),(.any 58),(.any 59),(.any 60),(.any 61),(.any 62),(.any 63),(.any 64),(.any 65),(.any 66),(.any 67),(.any 68),(.any 69),(.any 70),(.any 71),(.any 72),(.any 73),(.any 74),(.any 75),(.any 76),(.any 77),(.any 78),(.any 79),(.any 80),(.any 81),(.any 82),(.any 83),(.any 84),(.any 85),(.any 86),(.any 87),(.any 88),(.any 89),(.any 90),(.any 91),(.any 92),(.any 93),(.any 94),(.any 95),(.any 96),(.any 97),(.any 98),(.any 99),(.any 100),(.any 101),(.any 102),(.any 103),(.any 104),(.any 105),(.any 106),(.any 107),(.any 108),(.any 109),(.any 110),(.any 111),(.any 112),(.any 113),(.any 114),(.any 115),(.any 116),(.any 117),(.any 118),(.any 119),(.any 120),(.any 121),(.any 122)],[]⟩,
 [(0,.ro 0 (Dh 0)),
  (16,.cells [s6] 76 none),
  (8,.warr 8 10 [.int .u32] (.var 40)),
  (12,.cells [jV] 3 none),
  (18,.deferred (some [])),
  (10,.cells [.nilslice] 52 none),
  (14,.cells [jV,ao,ao,ao,ao,ao,ao,ao,ao,ao,ao,ao,ao,ao,ao,ao,ao,ao,ao,ao,ao,ao,ao,ao,ao,ao,ao,ao,ao,ao,ao,ao,ao,ao,jV] 34 none),
  (17,.cells [xh] 3 none),
  (13,.cells [TP,(.int .u32 (.var 501)),(.int .u32 (.var 502)),(.int .u32 (.var 503)),(.int .u32 (.var 504)),(.int .u32 (.var 505)),(.int .u32 (.var 506)),(.int .u32 (.var 507)),(.int .u32 (.var 508)),(.int .u32 (.var 509)),(.int .u32 (.var 510)),(.int .u32 (.var 511)),(.int .u32 (.var 512)),(.int .u32 (.var 513)),(.int .u32 (.var 514)),(.int .u32 (.var 515)),(.int .u32 (.var 516)),(.int .u32 (.var 517)),(.int .u32 (.var 518)),(.int .u32 (.var 519)),(.int .u32 (.var 520)),(.int .u32 (.var 521)),(.int .u32 (.var 522)),(.int .u32 (.var 523)),(.int .u32 (.var 524)),(.int .u32 (.var 525)),(.int .u32 (.var 526)),(.int .u32 (.var 527)),(.int .u32 (.var 528)),(.int .u32 (.var 529)),(.int .u32 (.var 530)),(.int .u32 (.var 531)),(.int .u32 (.var 532)),(.int .u32 (.var 533)),(.int .i64 (.var 534)),Yd,Yc,Jz] 80 none),
  (19,.loop .done (some (.exit 0)) [s6,xh,U,U,(.ptr 14 0),.nilslice,jV,(.ptr 15 0),U,s6,xh,JF,U,U,U,U,U,U,U,U,U,U,U,U,U] (qrp 24 0) (qra 24 0) (qrb 24 0) 18),
  (11,.cells [jV,ao,ao,ao,ao,ao,ao,ao,ao,ao,ao,ao,ao,ao,ao,ao,ao,ao,ao,ao,ao,ao,ao,ao,ao,ao,ao,ao,ao,ao,ao,ao,ao,ao,jV] 34 none),
  (15,.cells [Sj] 35 none),
  (123,.arr (.base 60) [.int .u32,.int .u32,.int .i64,.int .u32,.int .i64,.int .u32,.int .i64,.bool,.bool,.int .u32,.bool,.int .i64,.int .u32,.int .i64] gG 65 true)],
 124,[],[0,1,2,3,4,5,6,16,8,12,18,10,14,17,13,19,11,15,123,20,21,22,23,24,25,26,27,28,29,30,31,32,33,34,35,36,37,38,39,40,41,42,43,44,45,46,47,48,49,50,51,52,53,54,55,56,57,58,59,60,61,62,63,64,65,66,67,68,69,70,71,72,73,74,75,76,77,78,79,80,81,82,83,84,85,86,87,88,89,90,91,92,93,94,95,96,97,98,99,100,101,102,103,104,105,106,107,108,109,110,111,112,113,114,115,116,117,118,119,120,121,122]⟩⟩
noncomputable def F9:LoopI:=⟨none,(qlb 43 0),ajl,⟨mI afB,20,Tg⟩,.br Z9 (.ok (JG.ex,JG.pat.fr,⟨JG.pat.st.h,JG.pat.st.n,Tg⟩)) (.ok (GM.ex,GM.pat.fr,⟨GM.pat.st.h,GM.pat.st.n,Tg⟩))⟩
def TNP:m7:=⟨[Yd,Yc,TP,xh,.nilslice],[(8,.warr 8 10 [.int .u32] (.var 40))],10,[((.le (.lit 1) (.var 40)),true),((.le (.var 40) (.lit 200)),true),((.le (.var 40) (.var 41)),true),((.le (.lit 16) (.var 50)),true),((.le (.var 50) (.lit 4096)),true),((.le r5 (.var 42)),true),((.le (.var 42) (.lit 3)),true),((.le (.lit 1) (.var 43)),true),((.le (.var 43) (.lit 300)),true),((.le r5 (.lit 7)),true)]⟩
def TNR:R Leaf:=
 (.br Z9
  (.ok {v:=YW,objs:=[(123,.arr (.base 60) [.int .u32,.int .u32,.int .i64,.int .u32,.int .i64,.int .u32,.int .i64,.bool,.bool,.int .u32,.bool,.int .i64,.int .u32,.int .i64] gG 65 true)],n:=124})
  (.ok {v:=YW,objs:=[(123,.arr (.base 60) [.int .u32,.int .u32,.int .i64,.int .u32,.int .i64,.int .u32,.int .i64,.bool,.bool,.int .u32,.bool,.int .i64,.int .u32,.int .i64] gG 65 true)],n:=124}))
noncomputable def amd:List (Nat×av):=[(0,.ro 0 (Dh 0)),
  (7,.arr (.base 60) [.int .u32,.int .u32,.int .i64,.int .u32,.int .i64,.int .u32,.int .i64,.bool,.bool,.int .u32,.bool,.int .i64,.int .u32,.int .i64] gG 65 true)]
noncomputable def Tf:PC:=[((.le (.lit 1) gG),true),((.le gG (.lit 300)),true),((.le r5 (.lit 7)),true)]
noncomputable def af2:Fr:=⟨[Yn,U,.nilslice,.nilslice,jV,U,U,U,U,U,U,U,U,U,U,U,U,U,U,U,U,U,U,U,U,U,U,U,U,U,U,U,U,U,U,U,U,U,U,U,U],[]⟩
noncomputable def yv:mW:=⟨af2,amd,8,Tf,[0,1,2,3,4,5,6,7]⟩
noncomputable def Ec:mW:=⟨⟨[Yn,U,(.any 8),.nilslice,YQ,(.any 9),(.any 10),(.any 11),(.any 12),(.any 13),(.any 14),(.any 15),(.any 16),(.any 17),(.any 18),(.any 19),(.any 20),(.any 21),(.any 22),(.any 23),(.any 24),(.any 25),(.any 26),(.any 27),(.any 28),(.any 29),(.any 30),(.any 31),(.any 32),(.any 33),(.any 34),(.any 35),(.any 36),(.any 37),(.any 38),(.any 39),(.any 40),(.any 41),(.any 42),(.any 43),U],[]⟩,
 [(0,.ro 0 (Dh 0)),
  (7,.arr (.base 60) [.int .u32,.int .u32,.int .i64,.int .u32,.int .i64,.int .u32,.int .i64,.bool,.bool,.int .u32,.bool,.int .i64,.int .u32,.int .i64] gG 65 true)],
 44,[((.le (.lit 1) tQ),true),((.le tQ gG),true),((.le (.lit 1) gG),true),((.le gG (.lit 300)),true),((.le r5 (.lit 7)),true)],[0,1,2,3,4,5,6,7,8,9,10,11,12,13,14,15,16,17,18,19,20,21,22,23,24,25,26,27,28,29,30,31,32,33,34,35,36,37,38,39,40,41,42,43]⟩
noncomputable def Ey:mW:=⟨⟨[Yn,U,(.any 8),(.xslice false 9 r5 2 Fp (.room Fp)),YQ,(.any 10),(.any 11),(.any 12),(.any 13),(.any 14),(.any 15),(.any 16),(.any 17),(.any 18),(.any 19),(.any 20),(.any 21),(.any 22),(.any 23),(.any 24),(.any 25),(.any 26),(.any 27),(.any 28),(.any 29),(.any 30),(.any 31),(.any 32),(.any 33),(.any 34),(.any 35),(.any 36),(.any 37),(.any 38),(.any 39),(.any 40),(.any 41),(.any 42),(.any 43),(.any 44),U],[]⟩,
 [(0,.ro 0 (Dh 0)),
  (7,.arr (.base 60) [.int .u32,.int .u32,.int .i64,.int .u32,.int .i64,.int .u32,.int .i64,.bool,.bool,.int .u32,.bool,.int .i64,.int .u32,.int .i64] gG 65 true),
  (9,.arr (.base 31) [.int .u32,.bool] Fp 63 true)],
 45,[((.le (.lit 1) tQ),true),((.le tQ gG),true),((.le (.lit 1) Fp),true),((.le Fp tQ),true),((.le (.lit 1) gG),true),((.le gG (.lit 300)),true),((.le r5 (.lit 7)),true)],[0,1,2,3,4,5,6,7,9,8,10,11,12,13,14,15,16,17,18,19,20,21,22,23,24,25,26,27,28,29,30,31,32,33,34,35,36,37,38,39,40,41,42,43,44]⟩
noncomputable def Ar:OutP:=⟨(.exit 0),⟨⟨[(.any 8),(.any 9),(.any 10),.nilslice,(.any 11),(.any 12),(.any 13),(.any 14),(.any 15),(.any 16),(.any 17),(.any 18),(.any 19),(.any 20),(.any 21),(.any 22),(.any 23),(.any 24),(.any 25),(.any 26),(.any 27),(.any 28),(.any 29),(.any 30),(.any 31),(.any 32),(.any 33),(.any 34),(.any 35),(.any 36),(.any 37),(.any 38),(.any 39),(.any 40),(.any 41),(.any 42),(.any 43),(.any 44),(.any 45),(.any 46),U],[]⟩,
 [(0,.ro 0 (Dh 0)),
  (7,.arr (.base 60) [.int .u32,.int .u32,.int .i64,.int .u32,.int .i64,.int .u32,.int .i64,.bool,.bool,.int .u32,.bool,.int .i64,.int .u32,.int .i64] gG 65 true)],
 47,[],[0,1,2,3,4,5,6,7,8,9,10,11,12,13,14,15,16,17,18,19,20,21,22,23,24,25,26,27,28,29,30,31,32,33,34,35,36,37,38,39,40,41,42,43,44,45,46]⟩⟩
noncomputable def zj:OutP:=⟨(.exit 0),⟨⟨[(.any 8),(.any 9),(.any 10),amc,(.any 12),(.any 13),(.any 14),(.any 15),(.any 16),(.any 17),(.any 18),(.any 19),(.any 20),(.any 21),(.any 22),(.any 23),(.any 24),(.any 25),(.any 26),(.any 27),(.any 28),(.any 29),(.any 30),(.any 31),(.any 32),(.any 33),(.any 34),(.any 35),(.any 36),(.any 37),(.any 38),(.any 39),(.any 40),(.any 41),(.any 42),(.any 43),(.any 44),(.any 45),(.any 46),(.any 47),U],[]⟩,
 [(0,.ro 0 (Dh 0)),
  (7,.arr (.base 60) [.int .u32,.int .u32,.int .i64,.int .u32,.int .i64,.int .u32,.int .i64,.bool,.bool,.int .u32,.bool,.int .i64,.int .u32,.int .i64] gG 65 true),
  (11,.arr (.base 75) [.int .u32,.bool] B2 63 true)],
 48,[],[0,1,2,3,4,5,6,7,11,8,9,10,12,13,14,15,16,17,18,19,20,21,22,23,24,25,26,27,28,29,30,31,32,33,34,35,36,37,38,39,40,41,42,43,44,45,46,47]⟩⟩
noncomputable def yI:LoopI:=⟨none,(qlb 17 0),af2,⟨mI amd,8,Tf⟩,.br (.eq B2 r5) (.ok (Ar.ex,Ar.pat.fr,⟨Ar.pat.st.h,Ar.pat.st.n,Tf⟩)) (.ok (zj.ex,zj.pat.fr,⟨zj.pat.st.h,zj.pat.st.n,Tf⟩))⟩
def ANP:m7:=⟨[Yn],[(7,.arr (.base 60) [.int .u32,.int .u32,.int .i64,.int .u32,.int .i64,.int .u32,.int .i64,.bool,.bool,.int .u32,.bool,.int .i64,.int .u32,.int .i64] gG 65 true)],8,[((.le (.lit 1) gG),true),((.le gG (.lit 300)),true),((.le r5 (.lit 7)),true)]⟩
def ANR:R Leaf:=
 (.br (.eq B2 r5)
  (.ok {v:=.nilslice,objs:=[(7,.arr (.base 60) [.int .u32,.int .u32,.int .i64,.int .u32,.int .i64,.int .u32,.int .i64,.bool,.bool,.int .u32,.bool,.int .i64,.int .u32,.int .i64] gG 65 true)],n:=47})
  (.ok {v:=amc,objs:=[(7,.arr (.base 60) [.int .u32,.int .u32,.int .i64,.int .u32,.int .i64,.int .u32,.int .i64,.bool,.bool,.int .u32,.bool,.int .i64,.int .u32,.int .i64] gG 65 true),(11,.arr (.base 75) [.int .u32,.bool] B2 63 true)],n:=48}))
end Go.Proofs.YtmickljjofbmiaaGreatDoor
