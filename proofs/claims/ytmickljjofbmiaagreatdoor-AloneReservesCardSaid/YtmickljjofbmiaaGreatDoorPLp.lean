/- Alone: the loops of alone.Run and of the document's Run: where they are come to, their shapes, their ends; what the functions leave (printed by halm). No condition. -/
import Derived.Test.YtmickljjofbmiaaGreatDoorARow
namespace Go.Proofs.YtmickljjofbmiaaGreatDoor
open Go Go.Proofs
noncomputable def roC(_:Nat):List V:=asciiL 256
abbrev U:V:=.undef
def lpsOf:Code→List Code
 | .seq a b=>lpsOf a++lpsOf b
 | .cond _ a b=>lpsOf a++lpsOf b
 | .block _ c=>lpsOf c
 | .loop c=>c::lpsOf c
 | .scope c=>lpsOf c
 | .rangeFunc _ _ a b=>lpsOf a++lpsOf b
 | _=>[]
def rgsOf:Code→List (Array Tmp×Code×Code)
 | .seq a b=>rgsOf a++rgsOf b
 | .cond _ a b=>rgsOf a++rgsOf b
 | .block _ c=>rgsOf c
 | .loop c=>rgsOf c
 | .scope c=>rgsOf c
 | .rangeFunc _ ps a b=>(ps,a,b)::(rgsOf a++rgsOf b)
 | _=>[]
noncomputable def bodyOf:Nat→Code
 | 11=>Tryz.f11.body.getD .skip
 | 24=>Tryz.f24.body.getD .skip
 | 43=>Tryz.f43.body.getD .skip
 | _=>.skip
noncomputable def lb(f k:Nat):Code:=(lpsOf (bodyOf f)).getD k .skip
noncomputable def rp(f k:Nat):Array Tmp:=((rgsOf (bodyOf f)).getD k (#[],.skip,.skip)).1
noncomputable def ra(f k:Nat):Code:=((rgsOf (bodyOf f)).getD k (#[],.skip,.skip)).2.1
noncomputable def rb(f k:Nat):Code:=((rgsOf (bodyOf f)).getD k (#[],.skip,.skip)).2.2
def ql0:X:=.lit 0
def ql1:V:=.int .i64 ql0
def ql2:V:=.int .u32 ql0
def ql3:V:=.ptr 15 0
def ql4:X:=.var 50
def ql5:V:=.int .i64 (.var 43)
def ql6:V:=.func (.func 43) [] [(.ptr 19 0),(.ptr 18 0)]
def ql7:V:=.int .i64 (.var 42)
def ql8:V:=.xslice false 8 ql0 1 (.var 40) (.room (.var 40))
def ql9:V:=.func (.func 36) [] [(.ptr 12 0),(.ptr 13 0),(.ptr 14 0)]
def ql10:X:=.var 100
def ql11:V:=.int .u32 (.var 141)
def ql12:V:=.int .u32 (.var 101)
def ql13:V:=.int .u32 (.var 102)
def ql14:V:=.int .u32 (.var 103)
def ql15:V:=.int .u32 (.var 104)
def ql16:V:=.int .u32 (.var 105)
def ql17:V:=.int .u32 (.var 106)
def ql18:V:=.int .u32 (.var 107)
def ql19:V:=.int .u32 (.var 108)
def ql20:V:=.int .u32 (.var 109)
def ql21:V:=.int .u32 (.var 110)
def ql22:V:=.int .u32 (.var 111)
def ql23:V:=.int .u32 (.var 112)
def ql24:V:=.int .u32 (.var 113)
def ql25:V:=.int .u32 (.var 114)
def ql26:V:=.int .u32 (.var 115)
def ql27:V:=.int .u32 (.var 116)
def ql28:V:=.int .u32 (.var 117)
def ql29:V:=.int .u32 (.var 118)
def ql30:V:=.int .u32 (.var 119)
def ql31:V:=.int .u32 (.var 120)
def ql32:V:=.int .u32 (.var 121)
def ql33:V:=.int .u32 (.var 122)
def ql34:V:=.int .u32 (.var 123)
def ql35:V:=.int .u32 (.var 124)
def ql36:V:=.int .u32 (.var 125)
def ql37:V:=.int .u32 (.var 126)
def ql38:V:=.int .u32 (.var 127)
def ql39:V:=.int .u32 (.var 128)
def ql40:V:=.int .u32 (.var 129)
def ql41:V:=.int .u32 (.var 130)
def ql42:V:=.int .u32 (.var 131)
def ql43:V:=.int .u32 (.var 132)
def ql44:V:=.int .u32 (.var 133)
def ql45:V:=.int .i64 (.var 134)
def ql46:V:=.int .u32 (.var 541)
def ql47:V:=.xslice false 125 ql0 14 (.var 60) (.room (.var 60))
def ql48:V:=.int .u32 (.var 501)
def ql49:V:=.int .u32 (.var 502)
def ql50:V:=.int .u32 (.var 503)
def ql51:V:=.int .u32 (.var 504)
def ql52:V:=.int .u32 (.var 505)
def ql53:V:=.int .u32 (.var 506)
def ql54:V:=.int .u32 (.var 507)
def ql55:V:=.int .u32 (.var 508)
def ql56:V:=.int .u32 (.var 509)
def ql57:V:=.int .u32 (.var 510)
def ql58:V:=.int .u32 (.var 511)
def ql59:V:=.int .u32 (.var 512)
def ql60:V:=.int .u32 (.var 513)
def ql61:V:=.int .u32 (.var 514)
def ql62:V:=.int .u32 (.var 515)
def ql63:V:=.int .u32 (.var 516)
def ql64:V:=.int .u32 (.var 517)
def ql65:V:=.int .u32 (.var 518)
def ql66:V:=.int .u32 (.var 519)
def ql67:V:=.int .u32 (.var 520)
def ql68:V:=.int .u32 (.var 521)
def ql69:V:=.int .u32 (.var 522)
def ql70:V:=.int .u32 (.var 523)
def ql71:V:=.int .u32 (.var 524)
def ql72:V:=.int .u32 (.var 525)
def ql73:V:=.int .u32 (.var 526)
def ql74:V:=.int .u32 (.var 527)
def ql75:V:=.int .u32 (.var 528)
def ql76:V:=.int .u32 (.var 529)
def ql77:V:=.int .u32 (.var 530)
def ql78:V:=.int .u32 (.var 531)
def ql79:V:=.int .u32 (.var 532)
def ql80:V:=.int .u32 (.var 533)
def ql81:V:=.int .i64 (.var 534)
def ql82:V:=.xslice false 9 ql0 1 ql4 (.known ql4)
def ql83:V:=.ptr 11 0
def ql84:V:=.agg [ql7,ql2,ql2,ql2,ql2,ql2,ql2,ql2,ql2,ql2,ql2,ql2,ql2,ql2,ql2,ql2,ql2,ql2,ql2,ql2,ql2,ql2,ql2,ql2,ql2,ql2,ql2,ql2,ql2,ql2,ql2,ql2,ql2,ql2,ql1]
def ql85:V:=.xslice false 14 ql0 14 ql10 (.room ql10)
def ql86:V:=.xslice false 20 ql0 14 (.var 60) (.room (.var 60))
def ql87:V:=.xslice false 48 ql0 1 ql4 (.room ql4)
noncomputable def ARIt:List (Nat×SObj):=[(0,.ro 0 (roC 0)),
  (16,.cells [ql1,ql2,ql2,ql2,ql2,ql2,ql2,ql2,ql2,ql2,ql2,ql2,ql2,ql2,ql2,ql2,ql2,ql2,ql2,ql2,ql2,ql2,ql2,ql2,ql2,ql2,ql2,ql2,ql2,ql2,ql2,ql2,ql2,ql2,ql1] 34 none),
  (8,.arr (.base 10) [.int .u32] (.var 40) 24 false),
  (20,.deferred (some [])),
  (12,.cells [(.ptr 9 0)] 27 none),
  (18,.cells [ql3] 76 none),
  (10,.arr (.base 20) [.int .u8] ql4 5 false),
  (14,.cells [ql2] 24 none),
  (17,.cells [.nilslice] 35 none),
  (9,.cells [(.xslice false 10 ql0 1 ql4 (.known ql4))] 72 none),
  (21,.loop .ready none [ql3,ql5,U,U,(.ptr 16 0),.nilslice,ql1,(.ptr 17 0),U,ql3,ql5,ql6,U,U,U,U,U,U,U,U,U,U,U,U,U] (rp 24 0) (ra 24 0) (rb 24 0) 20),
  (13,.cells [(.bool ql0)] 4 none),
  (19,.cells [ql5] 3 none),
  (11,.cells [ql1,ql2,ql2,ql2,ql2,ql2,ql2,ql2,ql2,ql2,ql2,ql2,ql2,ql2,ql2,ql2,ql2,ql2,ql2,ql2,ql2,ql2,ql2,ql2,ql2,ql2,ql2,ql2,ql2,ql2,ql2,ql2,ql2,ql2,ql1] 34 none),
  (15,.cells [ql7,ql2,ql2,ql2,ql2,ql2,ql2,ql2,ql2,ql2,ql2,ql2,ql2,ql2,ql2,ql2,ql2,ql2,ql2,ql2,ql2,ql2,ql2,ql2,ql2,ql2,ql2,ql2,ql2,ql2,ql2,ql2,ql2,ql2,ql1,ql8,(.int .i64 ql4),ql9] 80 none)]
noncomputable def ARPc:PC:=[((.le (.lit 1) (.var 40)),true),((.le (.var 40) (.lit 200)),true),((.le (.var 40) (.var 41)),true),((.le (.lit 16) ql4),true),((.le ql4 (.lit 4096)),true),((.le ql0 (.var 42)),true),((.le (.var 42) (.lit 3)),true),((.le (.lit 1) (.var 43)),true),((.le (.var 43) (.lit 300)),true),((.le ql0 (.lit 7)),true)]
noncomputable def ARFr:Fr:=⟨[(.yield 21),(.ptr 19 0),(.ptr 18 0),U,ql1,U,U,U,U,U,U,U,U,U,U,U,U,U,U,U,U,U,U,U,U,U,U,U,U,U,U,U,U,U,U,U,U,U,U,U,U,U,U,U,U,U,U,U,U,U,U,U,U,U,U,U,U,U,U,U,U,U,U,U,U,U,U,U,U,U,U,U,U,U,U,U,U,U,U,U,U,U,U,U,U,U,U,U,U,U,U,U,U,U,U,U,U,U,U,U,U,U,U],[]⟩
noncomputable def ARI0:Pat:=⟨ARFr,ARIt,22,ARPc,[0,1,2,3,4,5,6,8,9,10,11,12,13,14,15,16,17,18,19,20,21]⟩
noncomputable def ARI1:Pat:=⟨⟨[(.yield 21),(.ptr 19 0),(.ptr 18 0),U,(.int .i64 ql10),(.any 22),(.any 23),(.any 24),(.any 25),(.any 26),(.any 27),(.any 28),(.any 29),(.any 30),(.any 31),(.any 32),(.any 33),ql3,ql3,ql3,(.ptr 15 34),(.any 34),(.any 35),(.any 36),(.any 37),(.any 38),(.any 39),(.any 40),(.any 41),(.any 42),(.any 43),(.any 44),(.any 45),(.any 46),(.any 47),(.any 48),(.any 49),(.any 50),(.any 51),(.any 52),(.any 53),(.any 54),(.any 55),(.any 56),(.any 57),(.any 58),(.any 59),(.any 60),(.any 61),(.any 62),(.any 63),(.any 64),(.any 65),(.any 66),(.any 67),(.any 68),(.any 69),(.any 70),(.any 71),(.any 72),(.any 73),(.any 74),(.any 75),(.any 76),(.any 77),(.any 78),(.any 79),(.any 80),(.any 81),(.any 82),(.any 83),(.any 84),(.any 85),(.any 86),(.any 87),(.any 88),(.any 89),(.any 90),(.any 91),(.any 92),(.any 93),(.any 94),(.any 95),(.any 96),(.any 97),(.any 98),(.any 99),(.any 100),(.any 101),(.any 102),(.any 103),(.any 104),(.any 105),(.any 106),(.any 107),(.any 108),(.any 109),(.any 110),(.any 111),(.any 112),(.any 113),(.any 114),(.any 115)],[]⟩,
 [(0,.ro 0 (roC 0)),
  (16,.cells [ql1,ql2,ql2,ql2,ql2,ql2,ql2,ql2,ql2,ql2,ql2,ql2,ql2,ql2,ql2,ql2,ql2,ql2,ql2,ql2,ql2,ql2,ql2,ql2,ql2,ql2,ql2,ql2,ql2,ql2,ql2,ql2,ql2,ql2,ql1] 34 none),
  (8,.arr (.base 10) [.int .u32] (.var 40) 24 false),
  (20,.deferred (some [])),
  (12,.cells [(.ptr 9 0)] 27 none),
  (18,.cells [ql3] 76 none),
  (10,.arr (.base 30) [.int .u8] ql4 5 false),
  (14,.cells [ql11] 24 none),
  (17,.cells [(.xslice false 116 ql0 14 ql10 (.room ql10))] 35 none),
  (9,.cells [(.xslice false 10 ql0 1 ql4 (.known ql4))] 72 none),
  (21,.loop .ready none [ql3,ql5,U,U,(.ptr 16 0),.nilslice,ql1,(.ptr 17 0),U,ql3,ql5,ql6,U,U,U,U,U,U,U,U,U,U,U,U,U] (rp 24 0) (ra 24 0) (rb 24 0) 20),
  (13,.cells [(.bool (.var 140))] 4 none),
  (19,.cells [ql5] 3 none),
  (11,.cells [ql1,ql2,ql2,ql2,ql2,ql2,ql2,ql2,ql2,ql2,ql2,ql2,ql2,ql2,ql2,ql2,ql2,ql2,ql2,ql2,ql2,ql2,ql2,ql2,ql2,ql2,ql2,ql2,ql2,ql2,ql2,ql2,ql2,ql2,ql1] 34 none),
  (15,.cells [ql7,ql12,ql13,ql14,ql15,ql16,ql17,ql18,ql19,ql20,ql21,ql22,ql23,ql24,ql25,ql26,ql27,ql28,ql29,ql30,ql31,ql32,ql33,ql34,ql35,ql36,ql37,ql38,ql39,ql40,ql41,ql42,ql43,ql44,ql45,ql8,(.int .i64 ql4),ql9] 80 none),
  (116,.arr (.base 31) [.int .u32,.int .u32,.int .i64,.int .u32,.int .i64,.int .u32,.int .i64,.bool,.bool,.int .u32,.bool,.int .i64,.int .u32,.int .i64] ql10 65 true)],
 117,[((.le (.lit 1) ql10),true),((.le (.lit 1) (.var 40)),true),((.le (.var 40) (.lit 200)),true),((.le (.var 40) (.var 41)),true),((.le (.lit 16) ql4),true),((.le ql4 (.lit 4096)),true),((.le ql0 (.var 42)),true),((.le (.var 42) (.lit 3)),true),((.le (.lit 1) (.var 43)),true),((.le (.var 43) (.lit 300)),true),((.le ql0 (.lit 7)),true)],[0,1,2,3,4,5,6,16,8,20,12,18,10,14,17,9,21,13,19,11,15,116,22,23,24,25,26,27,28,29,30,31,32,33,34,35,36,37,38,39,40,41,42,43,44,45,46,47,48,49,50,51,52,53,54,55,56,57,58,59,60,61,62,63,64,65,66,67,68,69,70,71,72,73,74,75,76,77,78,79,80,81,82,83,84,85,86,87,88,89,90,91,92,93,94,95,96,97,98,99,100,101,102,103,104,105,106,107,108,109,110,111,112,113,114,115]⟩
noncomputable def ARO0:OutP:=⟨(.exit 0),⟨⟨[(.any 22),(.any 23),(.any 24),(.any 25),(.any 26),(.any 27),(.any 28),(.any 29),(.any 30),(.any 31),(.any 32),(.any 33),(.any 34),(.any 35),(.any 36),(.any 37),(.any 38),(.any 39),(.any 40),(.any 41),(.any 42),(.any 43),(.any 44),(.any 45),(.any 46),(.any 47),(.any 48),(.any 49),(.any 50),(.any 51),(.any 52),(.any 53),(.any 54),(.any 55),(.any 56),(.any 57),(.any 58),(.any 59),(.any 60),(.any 61),(.any 62),(.any 63),(.any 64),(.any 65),(.any 66),(.any 67),(.any 68),(.any 69),(.any 70),(.any 71),(.any 72),(.any 73),(.any 74),(.any 75),(.any 76),(.any 77),(.any 78),(.any 79),(.any 80),(.any 81),(.any 82),(.any 83),(.any 84),(.any 85),(.any 86),(.any 87),(.any 88),(.any 89),(.any 90),(.any 91),(.any 92),(.any 93),(.any 94),(.any 95),(.any 96),(.any 97),(.any 98),(.any 99),(.any 100),(.any 101),(.any 102),(.any 103),(.any 104),(.any 105),(.any 106),(.any 107),(.any 108),(.any 109),(.any 110),(.any 111),(.any 112),(.any 113),(.any 114),(.any 115),(.any 116),(.any 117),(.any 118),(.any 119),(.any 120),(.any 121),(.any 122),(.any 123),(.any 124)],[]⟩,
 [(0,.ro 0 (roC 0)),
  (16,.cells [ql1,ql2,ql2,ql2,ql2,ql2,ql2,ql2,ql2,ql2,ql2,ql2,ql2,ql2,ql2,ql2,ql2,ql2,ql2,ql2,ql2,ql2,ql2,ql2,ql2,ql2,ql2,ql2,ql2,ql2,ql2,ql2,ql2,ql2,ql1] 34 none),
  (8,.arr (.base 10) [.int .u32] (.var 40) 24 false),
  (20,.deferred (some [])),
  (12,.cells [(.ptr 9 0)] 27 none),
  (18,.cells [ql3] 76 none),
  (10,.arr (.base 50) [.int .u8] ql4 5 false),
  (14,.cells [ql46] 24 none),
  (17,.cells [ql47] 35 none),
  (9,.cells [(.xslice false 10 ql0 1 ql4 (.known ql4))] 72 none),
  (21,.loop .ready none [ql3,ql5,U,U,(.ptr 16 0),.nilslice,ql1,(.ptr 17 0),U,ql3,ql5,ql6,U,U,U,U,U,U,U,U,U,U,U,U,U] (rp 24 0) (ra 24 0) (rb 24 0) 20),
  (13,.cells [(.bool (.var 540))] 4 none),
  (19,.cells [ql5] 3 none),
  (11,.cells [ql1,ql2,ql2,ql2,ql2,ql2,ql2,ql2,ql2,ql2,ql2,ql2,ql2,ql2,ql2,ql2,ql2,ql2,ql2,ql2,ql2,ql2,ql2,ql2,ql2,ql2,ql2,ql2,ql2,ql2,ql2,ql2,ql2,ql2,ql1] 34 none),
  (15,.cells [ql7,ql48,ql49,ql50,ql51,ql52,ql53,ql54,ql55,ql56,ql57,ql58,ql59,ql60,ql61,ql62,ql63,ql64,ql65,ql66,ql67,ql68,ql69,ql70,ql71,ql72,ql73,ql74,ql75,ql76,ql77,ql78,ql79,ql80,ql81,ql8,(.int .i64 ql4),ql9] 80 none),
  (125,.arr (.base 60) [.int .u32,.int .u32,.int .i64,.int .u32,.int .i64,.int .u32,.int .i64,.bool,.bool,.int .u32,.bool,.int .i64,.int .u32,.int .i64] (.var 60) 65 true)],
 126,[],[0,1,2,3,4,5,6,16,8,20,12,18,10,14,17,9,21,13,19,11,15,125,22,23,24,25,26,27,28,29,30,31,32,33,34,35,36,37,38,39,40,41,42,43,44,45,46,47,48,49,50,51,52,53,54,55,56,57,58,59,60,61,62,63,64,65,66,67,68,69,70,71,72,73,74,75,76,77,78,79,80,81,82,83,84,85,86,87,88,89,90,91,92,93,94,95,96,97,98,99,100,101,102,103,104,105,106,107,108,109,110,111,112,113,114,115,116,117,118,119,120,121,122,123,124]⟩⟩
noncomputable def ARO1:OutP:=⟨.ret,⟨⟨[(.any 22),(.any 23),(.any 24),(.any 25),(.any 26),(.any 27),(.any 28),(.any 29),(.any 30),(.any 31),(.any 32),(.any 33),(.any 34),(.any 35),(.any 36),(.any 37),(.any 38),(.any 39),(.any 40),(.any 41),(.any 42),(.any 43),(.any 44),(.any 45),(.any 46),(.any 47),(.any 48),(.any 49),(.any 50),(.any 51),(.any 52),(.any 53),(.any 54),(.any 55),(.any 56),(.any 57),(.any 58),(.any 59),(.any 60),(.any 61),(.any 62),(.any 63),(.any 64),(.any 65),(.any 66),(.any 67),(.any 68),(.any 69),(.any 70),(.any 71),(.any 72),(.any 73),(.any 74),(.any 75),(.any 76),(.any 77),(.any 78),(.any 79),(.any 80),(.any 81),(.any 82),(.any 83),(.any 84),(.any 85),(.any 86),(.any 87),(.any 88),(.any 89),(.any 90),(.any 91),(.any 92),(.any 93),(.any 94),(.any 95),(.any 96),(.any 97),(.any 98),(.any 99),(.any 100),(.any 101),(.any 102),(.any 103),(.any 104),(.any 105),(.any 106),(.any 107),(.any 108),(.any 109),(.any 110),(.any 111),(.any 112),(.any 113),(.any 114),(.any 115),(.any 116),(.any 117),(.any 118),(.any 119),(.any 120),(.any 121),(.any 122),(.any 123),(.any 124)],[]⟩,
 [(0,.ro 0 (roC 0)),
  (16,.cells [ql1,ql2,ql2,ql2,ql2,ql2,ql2,ql2,ql2,ql2,ql2,ql2,ql2,ql2,ql2,ql2,ql2,ql2,ql2,ql2,ql2,ql2,ql2,ql2,ql2,ql2,ql2,ql2,ql2,ql2,ql2,ql2,ql2,ql2,ql1] 34 none),
  (8,.arr (.base 10) [.int .u32] (.var 40) 24 false),
  (20,.deferred (some [])),
  (12,.cells [(.ptr 9 0)] 27 none),
  (18,.cells [ql3] 76 none),
  (10,.arr (.base 50) [.int .u8] ql4 5 false),
  (14,.cells [ql46] 24 none),
  (17,.cells [ql47] 35 none),
  (9,.cells [(.xslice false 10 ql0 1 ql4 (.known ql4))] 72 none),
  (21,.loop .done (some (.exit 0)) [ql3,ql5,U,U,(.ptr 16 0),.nilslice,ql1,(.ptr 17 0),U,ql3,ql5,ql6,U,U,U,U,U,U,U,U,U,U,U,U,U] (rp 24 0) (ra 24 0) (rb 24 0) 20),
  (13,.cells [(.bool (.var 540))] 4 none),
  (19,.cells [ql5] 3 none),
  (11,.cells [ql1,ql2,ql2,ql2,ql2,ql2,ql2,ql2,ql2,ql2,ql2,ql2,ql2,ql2,ql2,ql2,ql2,ql2,ql2,ql2,ql2,ql2,ql2,ql2,ql2,ql2,ql2,ql2,ql2,ql2,ql2,ql2,ql2,ql2,ql1] 34 none),
  (15,.cells [ql7,ql48,ql49,ql50,ql51,ql52,ql53,ql54,ql55,ql56,ql57,ql58,ql59,ql60,ql61,ql62,ql63,ql64,ql65,ql66,ql67,ql68,ql69,ql70,ql71,ql72,ql73,ql74,ql75,ql76,ql77,ql78,ql79,ql80,ql81,ql8,(.int .i64 ql4),ql9] 80 none),
  (125,.arr (.base 60) [.int .u32,.int .u32,.int .i64,.int .u32,.int .i64,.int .u32,.int .i64,.bool,.bool,.int .u32,.bool,.int .i64,.int .u32,.int .i64] (.var 60) 65 true)],
 126,[],[0,1,2,3,4,5,6,16,8,20,12,18,10,14,17,9,21,13,19,11,15,125,22,23,24,25,26,27,28,29,30,31,32,33,34,35,36,37,38,39,40,41,42,43,44,45,46,47,48,49,50,51,52,53,54,55,56,57,58,59,60,61,62,63,64,65,66,67,68,69,70,71,72,73,74,75,76,77,78,79,80,81,82,83,84,85,86,87,88,89,90,91,92,93,94,95,96,97,98,99,100,101,102,103,104,105,106,107,108,109,110,111,112,113,114,115,116,117,118,119,120,121,122,123,124]⟩⟩
noncomputable def ARL:LoopI:=⟨none,(lb 43 0),ARFr,⟨itemsH ARIt,22,ARPc⟩,.br (.eq (.var 534) ql0) (.ok (ARO0.ex,ARO0.pat.fr,⟨ARO0.pat.st.h,ARO0.pat.st.n,ARPc⟩)) (.ok (ARO1.ex,ARO1.pat.fr,⟨ARO1.pat.st.h,ARO1.pat.st.n,ARPc⟩))⟩
def ARP:CallP:=⟨[ql8,(.ptr 9 0),ql7,ql5],[(8,.arr (.base 10) [.int .u32] (.var 40) 24 false),
  (10,.arr (.base 20) [.int .u8] ql4 5 false),
  (9,.cells [(.xslice false 10 ql0 1 ql4 (.known ql4))] 72 none)],11,[((.le (.lit 1) (.var 40)),true),((.le (.var 40) (.lit 200)),true),((.le (.var 40) (.var 41)),true),((.le (.lit 16) ql4),true),((.le ql4 (.lit 4096)),true),((.le ql0 (.var 42)),true),((.le (.var 42) (.lit 3)),true),((.le (.lit 1) (.var 43)),true),((.le (.var 43) (.lit 300)),true),((.le ql0 (.lit 7)),true)]⟩
def ARR:R Leaf:=
 (.br (.eq (.var 534) ql0)
  (.ok {v:=(.tuple [(.agg [ql7,ql48,ql49,ql50,ql51,ql52,ql53,ql54,ql55,ql56,ql57,ql58,ql59,ql60,ql61,ql62,ql63,ql64,ql65,ql66,ql67,ql68,ql69,ql70,ql71,ql72,ql73,ql74,ql75,ql76,ql77,ql78,ql79,ql80,ql81]),ql47,ql1]),objs:=[(8,.arr (.base 10) [.int .u32] (.var 40) 24 false),(10,.arr (.base 50) [.int .u8] ql4 5 false),(9,.cells [(.xslice false 10 ql0 1 ql4 (.known ql4))] 72 none),(125,.arr (.base 60) [.int .u32,.int .u32,.int .i64,.int .u32,.int .i64,.int .u32,.int .i64,.bool,.bool,.int .u32,.bool,.int .i64,.int .u32,.int .i64] (.var 60) 65 true)],n:=126})
  (.ok {v:=(.tuple [(.agg [ql7,ql48,ql49,ql50,ql51,ql52,ql53,ql54,ql55,ql56,ql57,ql58,ql59,ql60,ql61,ql62,ql63,ql64,ql65,ql66,ql67,ql68,ql69,ql70,ql71,ql72,ql73,ql74,ql75,ql76,ql77,ql78,ql79,ql80,ql81]),ql47,ql1]),objs:=[(8,.arr (.base 10) [.int .u32] (.var 40) 24 false),(10,.arr (.base 50) [.int .u8] ql4 5 false),(9,.cells [(.xslice false 10 ql0 1 ql4 (.known ql4))] 72 none),(125,.arr (.base 60) [.int .u32,.int .u32,.int .i64,.int .u32,.int .i64,.int .u32,.int .i64,.bool,.bool,.int .u32,.bool,.int .i64,.int .u32,.int .i64] (.var 60) 65 true)],n:=126}))
noncomputable def RRIt:List (Nat×SObj):=[(0,.ro 0 (roC 0)),
  (8,.arr (.base 10) [.int .u32] (.var 40) 24 false),
  (10,.cells [ql1,ql2,ql2,ql2,ql2,ql2,ql2,ql2,ql2,ql2,ql2,ql2,ql2,ql2,ql2,ql2,ql2,ql2,ql2,ql2,ql2,ql2,ql2,ql2,ql2,ql2,ql2,ql2,ql2,ql2,ql2,ql2,ql2,ql2,ql1,.nilslice,(.bool ql0),ql2] 39 none),
  (9,.arr (.base 20) [.int .u8] ql4 5 false),
  (11,.cells [ql7,ql2,ql2,ql2,ql2,ql2,ql2,ql2,ql2,ql2,ql2,ql2,ql2,ql2,ql2,ql2,ql2,ql2,ql2,ql2,ql2,ql2,ql2,ql2,ql2,ql2,ql2,ql2,ql2,ql2,ql2,ql2,ql2,ql2,ql1,ql82,(.bool ql0),ql2] 39 none)]
noncomputable def RRPc:PC:=[((.le ql4 (.var 51)),true),((.le (.lit 1) (.var 40)),true),((.le (.var 40) (.lit 200)),true),((.le (.var 40) (.var 41)),true),((.le (.lit 16) ql4),true),((.le ql4 (.lit 4096)),true),((.le ql0 (.var 42)),true),((.le (.var 42) (.lit 3)),true),((.le (.lit 1) (.var 43)),true),((.le (.var 43) (.lit 300)),true),((.le ql0 (.lit 7)),true)]
noncomputable def RRFr:Fr:=⟨[ql8,ql82,ql7,ql5,U,U,U,U,(.ptr 10 0),.nilslice,ql83,.nilslice,ql1,U,U,ql7,ql84,ql82,(.agg [ql7,ql2,ql2,ql2,ql2,ql2,ql2,ql2,ql2,ql2,ql2,ql2,ql2,ql2,ql2,ql2,ql2,ql2,ql2,ql2,ql2,ql2,ql2,ql2,ql2,ql2,ql2,ql2,ql2,ql2,ql2,ql2,ql2,ql2,ql1,ql82,(.bool ql0),ql2]),U,U,U,U,U,U,U,U,U,U,U,U,U,U,U,U,U,U,U,U,U,U,U,U],[]⟩
noncomputable def RRI0:Pat:=⟨RRFr,RRIt,12,RRPc,[0,1,2,3,4,5,6,8,9,10,11]⟩
noncomputable def RRI1:Pat:=⟨⟨[ql8,(.any 12),ql7,ql5,U,U,U,U,(.ptr 10 0),(.any 13),ql83,ql85,(.int .i64 ql10),(.any 15),(.any 16),ql7,ql84,(.any 17),(.any 18),(.any 19),(.any 20),(.any 21),(.any 22),ql83,(.ptr 11 34),(.any 23),(.any 24),(.any 25),(.any 26),(.any 27),(.any 28),(.any 29),(.any 30),(.any 31),(.any 32),(.any 33),(.any 34),(.any 35),(.any 36),(.any 37),(.any 38),U,U],[]⟩,
 [(0,.ro 0 (roC 0)),
  (8,.arr (.base 10) [.int .u32] (.var 40) 24 false),
  (10,.cells [ql1,ql2,ql2,ql2,ql2,ql2,ql2,ql2,ql2,ql2,ql2,ql2,ql2,ql2,ql2,ql2,ql2,ql2,ql2,ql2,ql2,ql2,ql2,ql2,ql2,ql2,ql2,ql2,ql2,ql2,ql2,ql2,ql2,ql2,ql1,.nilslice,(.bool ql0),ql2] 39 none),
  (9,.arr (.base 20) [.int .u8] ql4 5 false),
  (11,.cells [ql7,ql12,ql13,ql14,ql15,ql16,ql17,ql18,ql19,ql20,ql21,ql22,ql23,ql24,ql25,ql26,ql27,ql28,ql29,ql30,ql31,ql32,ql33,ql34,ql35,ql36,ql37,ql38,ql39,ql40,ql41,ql42,ql43,ql44,ql45,ql82,(.bool (.var 140)),ql11] 39 none),
  (14,.arr (.base 31) [.int .u32,.int .u32,.int .i64,.int .u32,.int .i64,.int .u32,.int .i64,.bool,.bool,.int .u32,.bool,.int .i64,.int .u32,.int .i64] ql10 65 true)],
 39,[((.le (.lit 1) ql10),true),((.le ql4 (.var 51)),true),((.le (.lit 1) (.var 40)),true),((.le (.var 40) (.lit 200)),true),((.le (.var 40) (.var 41)),true),((.le (.lit 16) ql4),true),((.le ql4 (.lit 4096)),true),((.le ql0 (.var 42)),true),((.le (.var 42) (.lit 3)),true),((.le (.lit 1) (.var 43)),true),((.le (.var 43) (.lit 300)),true),((.le ql0 (.lit 7)),true)],[0,1,2,3,4,5,6,8,10,9,11,14,12,13,15,16,17,18,19,20,21,22,23,24,25,26,27,28,29,30,31,32,33,34,35,36,37,38]⟩
noncomputable def RRI2:Pat:=⟨⟨[ql8,(.any 12),ql7,ql5,U,U,U,U,(.ptr 10 0),(.any 13),ql83,ql85,(.int .i64 ql10),(.any 15),(.any 16),ql7,ql84,(.any 17),(.any 18),(.any 19),(.any 20),(.any 21),(.any 22),ql83,(.ptr 11 34),(.any 23),(.any 24),(.any 25),(.any 26),(.any 27),(.any 28),(.any 29),(.any 30),(.any 31),(.any 32),(.any 33),(.any 34),(.any 35),(.any 36),(.any 37),(.any 38),U,U],[]⟩,
 [(0,.ro 0 (roC 0)),
  (8,.arr (.base 10) [.int .u32] (.var 40) 24 false),
  (10,.cells [ql1,ql2,ql2,ql2,ql2,ql2,ql2,ql2,ql2,ql2,ql2,ql2,ql2,ql2,ql2,ql2,ql2,ql2,ql2,ql2,ql2,ql2,ql2,ql2,ql2,ql2,ql2,ql2,ql2,ql2,ql2,ql2,ql2,ql2,ql1,.nilslice,(.bool ql0),ql2] 39 none),
  (9,.arr (.base 20) [.int .u8] ql4 5 false),
  (11,.cells [ql7,ql12,ql13,ql14,ql15,ql16,ql17,ql18,ql19,ql20,ql21,ql22,ql23,ql24,ql25,ql26,ql27,ql28,ql29,ql30,ql31,ql32,ql33,ql34,ql35,ql36,ql37,ql38,ql39,ql40,ql41,ql42,ql43,ql44,ql45,(.xslice false 39 ql0 1 ql4 (.room ql4)),(.bool (.var 140)),ql11] 39 none),
  (14,.arr (.base 31) [.int .u32,.int .u32,.int .i64,.int .u32,.int .i64,.int .u32,.int .i64,.bool,.bool,.int .u32,.bool,.int .i64,.int .u32,.int .i64] ql10 65 true),
  (39,.arr (.base 30) [.int .u8] ql4 5 true)],
 40,[((.le (.lit 1) ql10),true),((.le ql4 (.var 51)),true),((.le (.lit 1) (.var 40)),true),((.le (.var 40) (.lit 200)),true),((.le (.var 40) (.var 41)),true),((.le (.lit 16) ql4),true),((.le ql4 (.lit 4096)),true),((.le ql0 (.var 42)),true),((.le (.var 42) (.lit 3)),true),((.le (.lit 1) (.var 43)),true),((.le (.var 43) (.lit 300)),true),((.le ql0 (.lit 7)),true)],[0,1,2,3,4,5,6,8,10,9,11,14,39,12,13,15,16,17,18,19,20,21,22,23,24,25,26,27,28,29,30,31,32,33,34,35,36,37,38]⟩
noncomputable def RRO0:OutP:=⟨(.exit 0),⟨⟨[(.any 12),(.any 13),ql7,(.any 14),(.any 15),(.any 16),(.any 17),(.any 18),(.ptr 10 0),(.any 19),ql83,ql86,(.any 21),(.any 22),(.any 23),ql7,ql84,(.any 24),(.any 25),(.any 26),(.any 27),(.any 28),(.any 29),(.any 30),(.any 31),(.any 32),(.any 33),(.any 34),(.any 35),(.any 36),(.any 37),(.any 38),(.any 39),(.any 40),(.any 41),(.any 42),(.any 43),(.any 44),(.any 45),(.any 46),(.any 47),U,U],[]⟩,
 [(0,.ro 0 (roC 0)),
  (8,.arr (.base 10) [.int .u32] (.var 40) 24 false),
  (10,.cells [ql1,ql2,ql2,ql2,ql2,ql2,ql2,ql2,ql2,ql2,ql2,ql2,ql2,ql2,ql2,ql2,ql2,ql2,ql2,ql2,ql2,ql2,ql2,ql2,ql2,ql2,ql2,ql2,ql2,ql2,ql2,ql2,ql2,ql2,ql1,.nilslice,(.bool ql0),ql2] 39 none),
  (9,.arr (.base 20) [.int .u8] ql4 5 false),
  (11,.cells [ql7,ql48,ql49,ql50,ql51,ql52,ql53,ql54,ql55,ql56,ql57,ql58,ql59,ql60,ql61,ql62,ql63,ql64,ql65,ql66,ql67,ql68,ql69,ql70,ql71,ql72,ql73,ql74,ql75,ql76,ql77,ql78,ql79,ql80,ql81,ql82,(.bool (.var 540)),ql46] 39 none),
  (20,.arr (.base 60) [.int .u32,.int .u32,.int .i64,.int .u32,.int .i64,.int .u32,.int .i64,.bool,.bool,.int .u32,.bool,.int .i64,.int .u32,.int .i64] (.var 60) 65 true)],
 48,[],[0,1,2,3,4,5,6,8,10,9,11,20,12,13,14,15,16,17,18,19,21,22,23,24,25,26,27,28,29,30,31,32,33,34,35,36,37,38,39,40,41,42,43,44,45,46,47]⟩⟩
noncomputable def RRO1:OutP:=⟨(.exit 0),⟨⟨[(.any 12),(.any 13),ql7,(.any 14),(.any 15),(.any 16),(.any 17),(.any 18),(.ptr 10 0),(.any 19),ql83,ql86,(.any 21),(.any 22),(.any 23),ql7,ql84,(.any 24),(.any 25),(.any 26),(.any 27),(.any 28),(.any 29),(.any 30),(.any 31),(.any 32),(.any 33),(.any 34),(.any 35),(.any 36),(.any 37),(.any 38),(.any 39),(.any 40),(.any 41),(.any 42),(.any 43),(.any 44),(.any 45),(.any 46),(.any 47),U,U],[]⟩,
 [(0,.ro 0 (roC 0)),
  (8,.arr (.base 10) [.int .u32] (.var 40) 24 false),
  (10,.cells [ql1,ql2,ql2,ql2,ql2,ql2,ql2,ql2,ql2,ql2,ql2,ql2,ql2,ql2,ql2,ql2,ql2,ql2,ql2,ql2,ql2,ql2,ql2,ql2,ql2,ql2,ql2,ql2,ql2,ql2,ql2,ql2,ql2,ql2,ql1,.nilslice,(.bool ql0),ql2] 39 none),
  (9,.arr (.base 20) [.int .u8] ql4 5 false),
  (11,.cells [ql7,ql48,ql49,ql50,ql51,ql52,ql53,ql54,ql55,ql56,ql57,ql58,ql59,ql60,ql61,ql62,ql63,ql64,ql65,ql66,ql67,ql68,ql69,ql70,ql71,ql72,ql73,ql74,ql75,ql76,ql77,ql78,ql79,ql80,ql81,ql87,(.bool (.var 540)),ql46] 39 none),
  (20,.arr (.base 60) [.int .u32,.int .u32,.int .i64,.int .u32,.int .i64,.int .u32,.int .i64,.bool,.bool,.int .u32,.bool,.int .i64,.int .u32,.int .i64] (.var 60) 65 true),
  (48,.arr (.base 50) [.int .u8] ql4 5 true)],
 49,[],[0,1,2,3,4,5,6,8,10,9,11,20,48,12,13,14,15,16,17,18,19,21,22,23,24,25,26,27,28,29,30,31,32,33,34,35,36,37,38,39,40,41,42,43,44,45,46,47]⟩⟩
noncomputable def RRL:LoopI:=⟨none,(lb 11 0),RRFr,⟨itemsH RRIt,12,RRPc⟩,.br (.eq (.var 67) ql0) (.ok (RRO0.ex,RRO0.pat.fr,⟨RRO0.pat.st.h,RRO0.pat.st.n,RRPc⟩)) (.ok (RRO1.ex,RRO1.pat.fr,⟨RRO1.pat.st.h,RRO1.pat.st.n,RRPc⟩))⟩
def RRP:CallP:=⟨[ql8,ql82,ql7,ql5],[(8,.arr (.base 10) [.int .u32] (.var 40) 24 false),
  (9,.arr (.base 20) [.int .u8] ql4 5 false)],10,[((.le ql4 (.var 51)),true),((.le (.lit 1) (.var 40)),true),((.le (.var 40) (.lit 200)),true),((.le (.var 40) (.var 41)),true),((.le (.lit 16) ql4),true),((.le ql4 (.lit 4096)),true),((.le ql0 (.var 42)),true),((.le (.var 42) (.lit 3)),true),((.le (.lit 1) (.var 43)),true),((.le (.var 43) (.lit 300)),true),((.le ql0 (.lit 7)),true)]⟩
def RRR:R Leaf:=
 (.br (.eq (.var 67) ql0)
  (.ok {v:=(.tuple [(.agg [ql7,ql48,ql49,ql50,ql51,ql52,ql53,ql54,ql55,ql56,ql57,ql58,ql59,ql60,ql61,ql62,ql63,ql64,ql65,ql66,ql67,ql68,ql69,ql70,ql71,ql72,ql73,ql74,ql75,ql76,ql77,ql78,ql79,ql80,ql81,ql82,(.bool (.var 540)),ql46]),ql86]),objs:=[(8,.arr (.base 10) [.int .u32] (.var 40) 24 false),(9,.arr (.base 20) [.int .u8] ql4 5 false),(20,.arr (.base 60) [.int .u32,.int .u32,.int .i64,.int .u32,.int .i64,.int .u32,.int .i64,.bool,.bool,.int .u32,.bool,.int .i64,.int .u32,.int .i64] (.var 60) 65 true)],n:=48})
  (.ok {v:=(.tuple [(.agg [ql7,ql48,ql49,ql50,ql51,ql52,ql53,ql54,ql55,ql56,ql57,ql58,ql59,ql60,ql61,ql62,ql63,ql64,ql65,ql66,ql67,ql68,ql69,ql70,ql71,ql72,ql73,ql74,ql75,ql76,ql77,ql78,ql79,ql80,ql81,ql87,(.bool (.var 540)),ql46]),ql86]),objs:=[(8,.arr (.base 10) [.int .u32] (.var 40) 24 false),(9,.arr (.base 20) [.int .u8] ql4 5 false),(20,.arr (.base 60) [.int .u32,.int .u32,.int .i64,.int .u32,.int .i64,.int .u32,.int .i64,.bool,.bool,.int .u32,.bool,.int .i64,.int .u32,.int .i64] (.var 60) 65 true),(48,.arr (.base 50) [.int .u8] ql4 5 true)],n:=49}))
end Go.Proofs.YtmickljjofbmiaaGreatDoor
