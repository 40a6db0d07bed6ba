/- CorePlay's loop over acts: where it is come to (printed by hk10). CorePlay's loop over acts: its fifteen shapes, its rounds' calls, how a round is looked at (plain functions). The heap that the door's own run leaves meets the condition. No condition. -/
import Derived.Test.YtgcbnjpeifigaaaGreatDoorJDoor
import Derived.Test.YtgcbnjpeifigaaaGreatDoorJLm
namespace Go.Proofs.YtgcbnjpeifigaaaGreatDoor
open Go Go.Proofs
noncomputable def roC(_:Nat):List V:=AA 256
abbrev U:V:=.undef
def vi(k:IntKind)(n:Nat):V:=.int k (.var n)
def li(k:IntKind)(n:Nat):V:=.int k (nl n)
abbrev zw:V:=.int .u32 (.lit 0)
abbrev sR:V:=.int .u8 (.lit 0)
abbrev zp:V:=.int .i64 (.lit 0)
def qc:Code->List Code
 |.seq a b=>qc a++qc b
 |.cond _ a b=>qc a++qc b
 |.block _ c=>qc c
 |.loop c=>c::qc c
 |.scope c=>qc c
 |.rangeFunc _ _ a b=>qc a++qc b
 |_=>[]
noncomputable def aj0:Nat->Code
 |4=>Tryz.f4.body.getD .skip
 |_=>.skip
noncomputable def lb(f k:Nat):Code:=(qc (aj0 f)).getD k .skip
noncomputable def nZ:Tys:=⟨106,167,113,76,38,115,79,56,75,81⟩
noncomputable def Nb:List V:=[(vi .i64 42),(.agg [(.xslice false 8 (.lit 0) 1 (.var 40) (.known (.var 41))),(li .i64 16),(li .i64 1),(li .i64 1)]),(.xslice true 9 (.lit 0) 4 (.var 50) (.known (.var 51))),U,(.ptr 10 0),U,(.bool (.lit 0)),(.ptr 15 0),zp,(.ptr 19 0),zp,(.ptr 20 0),(.ptr 21 0),zp,U,U,U,(.agg [(.xslice false 8 (.lit 0) 1 (.var 40) (.known (.var 41))),(li .i64 16),(li .i64 1),(li .i64 1)]),(.xslice true 9 (.lit 0) 4 (.var 50) (.known (.var 51))),(.bool (.lt (.lit 80) (.var 50))),U,(.tuple [(.ptr 15 0),zp]),(vi .i64 42),(.ptr 10 0),(.xslice false 8 (.lit 0) 1 (.var 40) (.known (.var 41))),(.ptr 10 1),(li .i64 16),(.tuple [(.ptr 15 0),zp]),(.ptr 15 0),zp,(vi .i64 42),(.bool (.lt (.var 42) (.lit 0))),(.bool (.lt (.var 42) (.lit 0))),(vi .i64 42),(.bool (.not (.lt (.var 42) (.lit 4)))),(.bool (.not (.lt (.var 42) (.lit 4)))),(.bool (.not (.lt (.var 42) (.lit 4)))),(.ptr 10 1),(li .i64 16),(.bool (.lit 0)),(.bool (.ite (.not (.lt (.var 42) (.lit 4))) (.lit 1) (.lit 0))),(.bool (.ite (.not (.lt (.var 42) (.lit 4))) (.lit 1) (.lit 0))),(.ptr 10 1),(li .i64 16),(.bool (.lit 0)),(.bool (.ite (.ite (.not (.lt (.var 42) (.lit 4))) (.lit 1) (.lit 0)) (.lit 1) (.lit 0))),U,U,U,U,U,U,U,U,U,(vi .i64 42),(.agg [(.xslice false 8 (.lit 0) 1 (.var 40) (.known (.var 41))),(li .i64 16),(li .i64 1),(li .i64 1)]),(.bool (.ite (.ite (.ite (.ite (.not (.lt (.var 42) (.lit 0))) (.lt (.var 42) (.lit 4)) (.lit 0)) (.lit 1) (.lit 0)) (.lit 1) (.lit 0)) (.lit 1) (.lit 0))),(.bool (.not (.ite (.ite (.ite (.ite (.not (.lt (.var 42) (.lit 0))) (.lt (.var 42) (.lit 4)) (.lit 0)) (.lit 1) (.lit 0)) (.lit 1) (.lit 0)) (.lit 1) (.lit 0)))),U,U,U,U,U,(.tuple [(.ptr 19 0),zp]),(vi .i64 42),(.ptr 10 2),(li .i64 1),(.ptr 10 3),(li .i64 1),(.tuple [(.ptr 19 0),zp]),(.ptr 19 0),zp,zp,(.bool (.lit 0)),(.bool (.lit 0)),zp,(.bool (.lit 0)),(.bool (.lit 0)),(vi .i64 42),(.agg [(vi .i64 42),zw,zw,zw,zw,zw,zw,zw,zw,zw,zw,zw,zw,zw,zw,zw,zw,zw,zw,zw,zw,zw,zw,zw,zw,zw,zw,zw,zw,zw,zw,zw,zw,zw,zp]),(.ptr 10 0),(.xslice false 8 (.lit 0) 1 (.var 40) (.known (.var 41))),(.ptr 10 1),(li .i64 16),(.agg [(vi .i64 42),zw,zw,zw,zw,zw,zw,zw,zw,zw,zw,zw,zw,zw,zw,zw,zw,zw,zw,zw,zw,zw,zw,zw,zw,zw,zw,zw,zw,zw,zw,zw,zw,zw,zp,(.xslice false 8 (.lit 0) 1 (.var 40) (.known (.var 41))),(li .i64 16),.nilslice,zp,(.bool (.lit 0)),zw]),(vi .i64 42),(.ptr 10 2),(li .i64 1),(.ptr 10 3),(li .i64 1),(.agg [(vi .i64 42),(li .i64 1),(li .i64 1),.nilslice,(.bool (.lit 0)),zw,(.bool (.lit 0)),(.bool (.lit 0)),zw,zp,sR,sR,sR,sR,sR,sR,sR,sR,sR,sR,sR,sR,sR,sR,sR,sR]),U,U,U,U,U,U,U,U,U,U,U,U,U,U,U,U,U,U,U,U,U,U,U,U,U,U,U,U,U,U,U,U,U,U,U,U,U,U,U]
def Y7:List Nat:=[0,2,7,9,11,12]
def Y8:Nat:=22
noncomputable def RD:PC:=[((.le (.var 40) (.var 41)),true),((.le (.var 50) (.var 51)),true),((.le (.lit 1) (.var 40)),true),((.le (.var 40) (.lit 60)),true),((.le (.lit 0) (.var 50)),true),((.le (.var 50) (.lit 80)),true),((.le (.lit 0) (.var 42)),true),((.le (.var 42) (.lit 3)),true),((.le (.lit 0) (.lit 8)),true),((.le (.lit 0) (.lit 7)),true)]
noncomputable def JIt:List (Nat×ak):=[(0,.ro 0 (roC 0)),
  (16,.cells [(.xslice false 8 (.lit 0) 1 (.var 40) (.known (.var 41))),(li .i64 16),(li .i64 1),(li .i64 1)] 24 none),
  (8,.arr (.base 10) [.int .u32] (.var 40) 38 false),
  (20,.cells [(vi .i64 42),zw,zw,zw,zw,zw,zw,zw,zw,zw,zw,zw,zw,zw,zw,zw,zw,zw,zw,zw,zw,zw,zw,zw,zw,zw,zw,zw,zw,zw,zw,zw,zw,zw,zp,(.xslice false 8 (.lit 0) 1 (.var 40) (.known (.var 41))),(li .i64 16),.nilslice,zp,(.bool (.lit 0)),zw] 75 none),
  (12,.cells [] 38 none),
  (18,.cells [(.slice 17 0 1 (.known 1)),(li .i64 1)] 170 none),
  (10,.cells [(.xslice false 8 (.lit 0) 1 (.var 40) (.known (.var 41))),(li .i64 16),(li .i64 1),(li .i64 1)] 24 none),
  (14,.cells [zw,zp,zw,zw,zp,zw,zw,zp,zw,zw,zp,zw,zp,zp] 167 none),
  (17,.cells [.nilslice] 76 none),
  (9,.warr 9 20 [.int .i64,.int .i64,.int .u32,.int .u8] (.var 50)),
  (21,.cells [(vi .i64 42),(li .i64 1),(li .i64 1),.nilslice,(.bool (.lit 0)),zw,(.bool (.lit 0)),(.bool (.lit 0)),zw,zp,sR,sR,sR,sR,sR,sR,sR,sR,sR,sR,sR,sR,sR,sR,sR,sR] 81 none),
  (13,.arr (.base 10) [.int .u32] (.var 40) 38 true),
  (19,.cells [(vi .i64 42),(.ptr 18 0),.nilptr,.nilptr] 113 none),
  (11,.cells [(.xslice false 8 (.lit 0) 1 (.var 40) (.known (.var 41))),(li .i64 16),(li .i64 1),(li .i64 1)] 24 none),
  (15,.cells [(vi .i64 42),zw,zw,zw,zw,zw,zw,zw,zw,zw,zw,zw,zw,zw,zw,zw,zw,zw,zw,zw,zw,zw,zw,zw,zw,zw,zw,zw,zw,zw,zw,zw,zw,zw,zp,(.xslice false 13 (.lit 0) 1 (.var 40) (.room (.var 40))),(li .i64 16),(.ptr 14 0),zp,.nilptr] 106 none)]
def JKn:List Nat:=[0,1,2,3,4,5,6,8,9,13,14,15,17,18,19,20,21,41,43,44,45,46,48,50,54,55,56,57,58,59,60,61,62,63,64,65,66,67,68,69,70,71,72,73,74,75,76,77,78,79,80,81,82,83,84,85,86,87,88,89,90,91,92,93,94,95,96,97,98,99,100,101,102,103,104,105,106,107,108,109,110,111,112,113,114,115,116,117,118,119,120,121,122,123,124,125,126,127,128,129,130,131,132,133,134,135,136,137,138,139,140,141,142,143,144,145,146,147,148,149,150,151,152,153,154,155,156,157,158,159,160,161,162,163,164,165,166,167,168,169,170]
noncomputable def Jc:Code:=lb 4 0
noncomputable section
def sG (s:List V->St->R (V×St)) (args:List V) (st:St):R (V×St):=match bB aj st.h with
 |true=>s args st
 |false=>.stuck "rows"
def T7:TypeId:=170
def smJ(q:QS):l9:=[(41,sG (Ta false)),(98,sG (Ta true)),(152,sG (Tc false)),(143,sG (Tc true)),(132,sG (Tb false)),(106,sG (Tb true)),
 (125,sG (an1 q.n)),(100,sG (Xk q.n)),(126,sG (Xp q.n)),(102,sG (an3 q.n)),
 (39,sG (anh q.n)),(46,sG (Xm q.n)),(50,sG (an4 q.n)),(128,sG (Xn q.n)),(140,sG an0),
 (131,sG (Xo nZ T7 q.s)),(103,sG (OT nZ q.s)),(14,sG (Xj nZ T7))]
def cxJ(q:QS):Cx:={cx with dm:=RX,sm:=tW (smJ q),sx:=true,js:=true}
def RM:Nat->List V->List V
 |_,[]=>[]
 |i,v::l=>(match i with
  |13=>vi .i64 100
  |i=>match dW i Y7 with
   |true=>v
   |false=>.any (40+i))::RM (i+1) l
def Ud:Fr:=⟨RM 0 Nb,[]⟩
def PQ(ns:List Nat):List (Nat×ak)->List (Nat×ak)
 |[]=>[]
 |x::l=>match dW x.1 ns with
  |true=>x::PQ ns l
  |false=>PQ ns l
def RC:List (Nat×ak):=PQ [0,8,9,13,18] JIt
def nc(q:QS):DC:=aur nZ Ud RC JKn RD q
def Dl:Nat->Nat->List Nat->List Nat
 |_,0,r=>r
 |o,n+1,r=>o::Dl (o+1) n r
def RL:Nat->List V->List V
 |_,[]=>[]
 |i,_::l=>.any (40+i)::RL (i+1) l
def ajI:Nat->List V->List Nat->List Nat
 |_,[],r=>r
 |i,_::l,r=>(40+i)::ajI (i+1) l r
def Zd:List (Nat×ak):=PQ [0,8,9] JIt
def OJ:OutP:=⟨.exit 0,⟨⟨RL 0 Nb,[]⟩,Zd,400,[],8::9::Dl 0 7 (ajI 0 Nb [])⟩⟩
def tY:List X->List X->Bool
 |[],[]=>true
 |a::l,b::m=>match a.beq b with
  |true=>tY l m
  |false=>false
 |_,_=>false
def Dz(f:Nat):Nat->Nat->List X
 |_,0=>[]
 |i,n+1=>tc f i::Dz f (i+1) n
def Ph(hx:List X):Nat:=match tY hx (yA 101 34),tY hx (yA 101 33++[.lit 4])with
 |true,_=>1
 |_,true=>2
 |_,_=>match tY hx (Dz 10 1 34),tY hx (Dz 11 1 34),tY hx (Dz 12 1 34),tY hx (Dz 14 1 34)with
  |true,_,_,_=>10
  |_,true,_,_=>11
  |_,_,true,_=>12
  |_,_,_,true=>14
  |_,_,_,_=>0
def mT(pc:PC):List X->List X->Bool
 |[],[]=>true
 |a::l,b::m=>match a.beq b with
  |true=>mT pc l m
  |false=>match wX pc (.eq b a) true with
   |true=>mT pc l m
   |false=>false
 |_,_=>false
def W9(pc:PC)(n n':Nat)(rg sx:List X):Nat:=match tY rg (yA 200 13),tY rg (yA 500 13),tY rg (yA 530 13)with
 |true,_,_=>match bc (Nat.beq n n') (mT pc sx (TY 0 n)) true true true true with
  |true=>1
  |false=>0
 |_,true,_=>match tQ pc with
  |w=>match bc (Nat.beq n' (n+1)) (mT pc sx (TY 0 n++[np,nl w,I0])) (ck pc (yf w)) true true true with
   |true=>2
   |false=>0
 |_,_,true=>match bc (Nat.beq n (n'+1)) (mT pc sx (TY 1 n')) true true true true with
  |true=>3
  |false=>0
 |_,_,_=>0
def DT(b:Bool):X->Bool
 |.var i=>match b with
  |false=>false
  |true=>match Nat.ble 161 i,Nat.ble i 176 with
  |true,true=>true
  |_,_=>false
 |.ite _ x y=>match DT b x with
  |true=>DT b y
  |false=>false
 |x=>pq 0 255 x
def AJ(b:Bool):List X->Bool
 |[]=>true
 |x::l=>match DT b x with
  |true=>AJ b l
  |false=>false
def YO:List X->List X
 |[]=>[]
 |_::l=>l
def EA:List X->Bool
 |l=>Nat.beq l.length 17
def IY(q:QS)(pc:PC)(q':QS)(d:Ds):Bool:=match Ph d.hx with
 |0=>false
 |h=>bc (match Nat.ble h 2 with|true=>true|false=>ck pc VD) (match W9 pc q.n q'.n d.rg d.sx with|0=>false|_=>true) (match q'.s with|2=>AJ (Nat.beq q.s 2) (YO d.lx)|_=>true)
  (ck pc [(.lt (.var 100) (.var 50),true)]) (match q'.s with|2=>EA d.lx|_=>true) (bc (EA d.gl) (EA d.bk) true true true true)
def ixN:X:=.add (va 100) (.lit 1)
def Ou(q:QS)(e:Ex)(fr:Fr)(st:St):Bool:=match e with
 |.normal=>match partsOf nm0 st with
  |some (q',d,m)=>match Vf nZ RC Y7 ixN nm0 Ud fr st q' d m with
   |true=>IY q st.pc q' d
   |false=>false
  |none=>false
 |.exit 0=>match fr.df with
  |[]=>match pb st Zd with
   |true=>Nat.beq fr.tm.length Nb.length
   |false=>false
  |_=>false
 |_=>false
def ve(q:QS):bU->Bool
 |.br _ a b=>match ve q a with
  |true=>ve q b
  |false=>false
 |.ok (e,fr,st)=>Ou q e (ep fr) st
 |.stuck _=>false
def nmE:NmS:=⟨10,11,12,25,26,27⟩
def JSt:St:=⟨tx JIt,Y8,RD⟩
def Uq:List X->Bool
 |[]=>true
 |x::l=>match x.beq (.lit 0)with
  |true=>Uq l
  |false=>false
def Qs:Bool:=match partsOf nmE JSt with
 |some (q,d,m)=>match Vf nZ RC Y7 (.lit 0) nmE Ud ⟨Nb,[]⟩ JSt q d m with
  |true=>bc (Nat.beq q.s 0) (Nat.beq q.n 0) (bc (Uq d.hx) (Uq d.rg) (d.ax.beq (.lit 0)) true true true) (bc (Nat.beq d.hx.length 34) (Nat.beq d.rg.length 13) (Nat.beq d.sx.length 0) true true true) (EA d.gl) (EA d.bk)
  |false=>false
 |none=>false
def Pv:List Nat->Bool
 |[]=>true
 |j::l=>match kL 7 ⟨none,Jc,⟨Nb,[]⟩,JSt,.ok (OJ.ex,OJ.pat.fr,⟨OJ.pat.st.h,OJ.pat.st.n,RD⟩)⟩ (nc (aN j))with
  |true=>Pv l
  |false=>false
def um(j:Nat):List Nat->Bool
 |[]=>bX Y8 (nc (aN j)).kn OJ.pat.kn
 |i::l=>match bX Y8 (nc (aN j)).kn (nc (aN i)).kn with
  |true=>um j l
  |false=>false
def FI(m:List Nat):List Nat->Bool
 |[]=>true
 |j::l=>match um j m with
  |true=>FI m l
  |false=>false
def NU:X:=.wrap .i64 (.fn1 20 (.var 100))
def pkX:X:=.lt (.rem (.wrap .i64 (.fn1 21 (.var 100))) (.lit 4)) (.lit 0)
def kdF:Nat->PC
 |0=>[(.eq NU (.lit 1),false),(.eq NU (.lit 2),false),(.eq NU (.lit 3),false),(.eq NU (.lit 4),false),(.eq NU (.lit 5),false),(.eq NU (.lit 6),false),(.eq NU (.lit 7),false)]
 |4=>[(.eq NU (.lit 4),true),(pkX,true)]
 |8=>[(.eq NU (.lit 4),true),(pkX,false)]
 |k=>[(.eq NU (nl k),true)]
def stK(q:QS)(k r:Nat):St:=match(nc q).st with
 |st=>{st with pc:=kdF k++(rsF r++st.pc)}
def runK(q:QS)(k r:Nat):bU:=(PL (cxJ q) 4001).code none Jc ⟨Tm.of (nc q).fr.tm,[]⟩ (stK q k r)
def ao(q:QS)(k r:Nat):Bool:=ve q (runK q k r)
end
open Go.ChangeShapes Go.WideShapes Go.RowKit
set_option maxRecDepth 100000 in
theorem JJ(os:Os)(args:Array Value):laidMetH Tryz.prog Rows.corePlayRow.laid ((World.doorLaid Tryz.prog 4000 os).forCall (fun _ _=>0) ⟨#[],args,[]⟩).memory:=
 laidMetH_of_parts3 (fuel:=8) (laidMet_of_run' 8 (by kernel_rfl) (by kernel_rfl)) (by kernel_rfl) (by kernel_rfl)
end Go.Proofs.YtgcbnjpeifigaaaGreatDoor
