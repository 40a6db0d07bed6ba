/- CorePlay: what is told of the calls of a round; the shapes of the loop over acts (plain functions). CorePlay: the calls of a buffer and of a row of stores, by themselves, at variables of their own (plain functions). No condition. -/
import Derived.Test.YtgcbnjpeifigaaaGreatDoorFwH
namespace Go.Proofs.YtgcbnjpeifigaaaGreatDoor
open Go
noncomputable section
def i64(x:X):V:=.int .i64 x
def u32(x:X):V:=.int .u32 x
def u8(x:X):V:=.int .u8 x
def nq(x:X):X:=.wrap .u32 x
def nl(n:Nat):X:=.lit (.ofNat n)
def va(n:Nat):X:=.var n
def b1(x:X):V:=.bool (.eq x (.lit 1))
def tc(f i:Nat):X:=.fn1 (300+f) (nl i)
def np:X:=nq (tc 1 1)
def I0:X:=nq (tc 1 3)
def adW(w:Nat):X:=match w with
 |0=>.lit 0
 |_=>np
def vlK(k:Nat):X:=match k with
 |0=>.lit 0
 |_=>I0
def opK(k:Nat):X:=match k with
 |5=>tc 1 4
 |_=>.lit 0
def Uj(k w:Nat):V:=.agg [i64 (nl k),u32 (adW w),i64 (nl w),u32 (vlK k),i64 (opK k),b1 (tc 1 5),b1 (tc 1 6)]
def Ug:List V:=[i64 (tc 1 0),u32 np,i64 (tc 1 2),u32 I0,i64 (tc 1 4),b1 (tc 1 5),b1 (tc 1 6)]
def S5(g:Nat->X):Nat->Nat->List V->List V
 |_,0,r=>r
 |j,n+1,r=>u32 (g j)::S5 g (j+1) n r
def Bs(g:Nat->X):List V:=i64 (.var 42)::S5 g 1 33 [i64 (g 34)]
def PY(g:Nat->X):V:=.agg (Bs g)
def PZ(f:Nat):V:=PY (tc f)
def aa0(f:Nat):V:=.agg (u32 (tc f 35)::u32 (tc f 36)::(Ug++[u32 (tc f 37),b1 (tc f 38),i64 (tc f 39),u32 (tc f 40),i64 (tc f 41)]))
def Vp:V:=PY fun i=>.var (100+i)
def asV:X:=nq (.fn1 10 (nq (.quo (.var 101) (.lit 4))))
section
variable {α:Type}
def NT(k:Nat)(t f:R α):R α:=.br (.eq (tc 1 0) (nl k)) t f
def am6(w:Nat)(t f:R α):R α:=.br (.eq (tc 1 2) (nl w)) t f
def wsT(g:Nat->R α):R α:=am6 1 (g 1) (am6 2 (g 2) (g 4))
def VN(g:Nat->Nat->R α):R α:=NT 0 (g 0 0) (NT 6 (g 6 0) (NT 1 (wsT (g 1)) (NT 2 (wsT (g 2)) (NT 3 (g 3 4) (NT 4 (g 4 4) (g 5 4))))))
end
def lnF(a:X)(pc:PC):PC:=(.eq (nq (.quo a (.lit 16))) (.lit 0),true)::(.eq (.quo a (.lit 16)) (.lit 0),true)::pc
def inF(a:X):Nat->PC->PC
 |0,r=>r
 |1,r=>r
 |n+2,r=>(.lt (.add (.rem a (.lit 16)) (nl (n+1))) (.lit 16),true)::inF a (n+1) r
def ajz(k w:Nat):PC:=match w with
 |0=>[]
 |w=>lnF np (inF np w ((.eq (.rem np (nl w)) (.lit 0),true)::match k with|5=>[(.le (.lit 50) (tc 1 4),true)]|_=>[]))
def bm:Nat:=100000
def sJ:R (V×PC)->St->R (V×St)
 |.ok x,st=>.ok (x.1,{st with pc:=x.2++st.pc,n:=st.n+bm})
 |.br c a b,st=>split st c fun st x=>match x with
  |true=>sJ a st
  |false=>sJ b st
 |.stuck s,_=>.stuck s
def ck(pc:PC):PC->Bool
 |[]=>true
 |(x,b)::l=>match wX pc x b with
  |true=>ck pc l
  |false=>false
def VD:PC:=[(.eq (.var 134) (.lit 0),true)]
def hwV:List V:=[Vp,u32 asV,i64 (.lit 16)]
def Ta(ref:Bool)(args:List V)(st:St):R (V×St):=match V.cM args hwV,ck st.pc VD with
 |true,true=>sJ (VN fun k w=>.ok (.tuple (Uj k w::i64 (tc 1 7)::match ref with|true=>[]|false=>[i64 (.lit 0)]),ajz k w)) st
 |_,_=>.stuck "act"
def ajF(pc:PC):V->Option Nat
 |.agg [.int .u32 x,.bool o]=>match x,o with
  |.lit 0,.lit 0=>some 10
  |.lit 0,.lit 1=>some 14
  |.var 230,.lit 0=>some 11
  |.var 233,.lit 0=>some 12
  |.lit 0,.eq (.var 140) y=>match y.beq np,ck pc [(.eq (.var 140) y,true)],ck pc [(.eq (.var 140) y,false)]with
   |true,true,_=>some 14
   |true,_,true=>some 10
   |_,_,_=>none
  |_,_=>none
 |_=>none
def Tc(ref:Bool)(args:List V)(st:St):R (V×St):=match args with
 |[h,w,s,a]=>match ajF st.pc a,V.cM [h,w,s] hwV,ck st.pc VD with
  |some b,true,true=>sJ (.ok (.tuple (PZ b::aa0 b::match ref with|true=>[]|false=>[i64 (.lit 0)]),[])) st
  |_,_,_=>.stuck "commit"
 |_=>.stuck "commit"
def aoG:List V:=[i64 (tc 1 4),u32 (.var 233),u32 I0]
def Tb(ref:Bool)(args:List V)(st:St):R (V×St):=match V.cM args aoG,ck st.pc [(.le (.lit 50) (tc 1 4),true),(.eq (.var 134) (.lit 0),true)]with
 |true,true=>sJ (.ok (match ref with|true=>u32 (nq (tc 2 0))|false=>.tuple [u32 (nq (tc 2 0)),i64 (tc 2 1)],[])) st
 |_,_=>.stuck "amo"
def stX(k:Nat):List V:=[u32 (nq (va (400+3*k))),i64 (va (401+3*k)),u32 (nq (va (402+3*k)))]
def TY:Nat->Nat->List X
 |_,0=>[]
 |k,n+1=>nq (va (400+3*k))::va (401+3*k)::nq (va (402+3*k))::TY (k+1) n
def qL:Nat->Nat->List V->List V
 |_,0,r=>r
 |k,n+1,r=>stX k++qL (k+1) n r
def rgX:Nat->Nat->List V->List V
 |_,0,r=>r
 |o,k+1,r=>u32 (va o)::i64 (va (o+1))::u32 (va (o+2))::rgX (o+3) k r
def s7(o n:Nat):List V:=rgX o 4 [i64 (va (o+12)),i64 (nl n)]
def im:TypeId:=167
def pe:TypeId:=56
def Nq:TypeId:=106
def Ul:TypeId:=122
def ss(st:St)(b o n:Nat):Bool:=match st.h.get b with
 |some (.cells c e none)=>match Nat.beq e im with
  |true=>V.cM c (s7 o n)
  |false=>false
 |_=>false
def IB(st:St)(v:V)(n:Nat):Bool:=match v with
 |.nilslice=>Nat.beq n 0
 |.slice b 0 m (.room b' 0 m')=>match st.h.get b with
  |some (.cells c e (some 3))=>bc (Nat.beq b b') (Nat.beq m m') (Nat.beq n m) (Nat.blt 0 m) (Nat.beq e pe) (V.cM c (qL 0 n []))
  |_=>false
 |_=>false
def wOf:V->Option Nat
 |.int _ (.lit (.ofNat 1))=>some 1
 |.int _ (.lit (.ofNat 2))=>some 2
 |.int _ (.lit (.ofNat 4))=>some 4
 |_=>none
def M7(w:Nat):PC:=match w with
 |4=>[(.eq (.var 134) (.lit 0),true),(.eq (tc 1 0) (.lit 1),true),(.eq (tc 1 2) (.lit 1),false),(.eq (tc 1 2) (.lit 2),false)]
 |w=>[(.eq (.var 134) (.lit 0),true),(.eq (tc 1 0) (.lit 1),true),(.eq (tc 1 2) (nl w),true)]
def abr(n:Nat):V:=.tuple (match n with|0=>[u32 (.lit 0),i64 (.lit 0)]|_=>[u32 (.var 230),i64 (.var 231)])
def an1(n0:Nat)(args:List V)(st:St):R (V×St):=match args with
 |[.ptr b 0,a,w]=>match wOf w,ss st b 200 n0 with
  |some k,true=>match V.cM [a,w] [u32 np,i64 (nl k)],ck st.pc (M7 k)with
   |true,true=>sJ (.ok (abr n0,[])) st
   |_,_=>.stuck "forward"
  |_,_=>.stuck "forward: buffer"
 |_=>.stuck "forward"
def Xk(n0:Nat)(args:List V)(st:St):R (V×St):=match args with
 |[l,a,w]=>match wOf w,IB st l n0 with
  |some k,true=>match V.cM [a,w] [u32 np,i64 (nl k)],ck st.pc (M7 k)with
   |true,true=>sJ (.ok (abr n0,[])) st
   |_,_=>.stuck "forward"
  |_,_=>.stuck "forward: row"
 |_=>.stuck "forward"
def tQ(pc:PC):Nat:=match ck pc [(.eq (tc 1 2) (.lit 1),true)],ck pc [(.eq (tc 1 2) (.lit 2),true)]with
 |true,_=>1
 |_,true=>2
 |_,_=>4
def yf(w:Nat):PC:=match w with
 |4=>[(.eq (.var 134) (.lit 0),true),(.eq (tc 1 0) (.lit 2),true),(.eq (tc 1 2) (.lit 1),false),(.eq (tc 1 2) (.lit 2),false)]
 |w=>[(.eq (.var 134) (.lit 0),true),(.eq (tc 1 0) (.lit 2),true),(.eq (tc 1 2) (nl w),true)]
def ats(st:St)(b:Nat):Nat:=match st.h.get b with
 |some (.cells (.int _ (.var o)::_) _ _)=>o
 |_=>0
def RJ(n:Nat)(c:List V)(st:St):R (V×St):=match n with
 |0=>sJ (.ok (.nilslice,[])) st
 |n=>match st.n+(3+3*n)with
  |b=>.ok (.slice b 0 n (.room b 0 n),{st with h:=st.h.set b (.cells c pe (some 3)),n:=st.n+bm})
def anh(n0:Nat)(args:List V)(st:St):R (V×St):=match args with
 |[.ptr b 0]=>match ats st b with
  |200=>match ss st b 200 n0 with
   |true=>RJ n0 (qL 0 n0 []) st
   |false=>.stuck "all"
  |500=>match tQ st.pc with
   |w=>match bc (Nat.blt n0 4) (ss st b 500 (n0+1)) (ck st.pc (yf w)) true true true with
    |true=>RJ (n0+1) (qL 0 n0 [u32 np,i64 (nl w),u32 I0]) st
    |false=>.stuck "all: pushed"
  |530=>match n0 with
   |0=>.stuck "all: popped"
   |m+1=>match ss st b 530 m with
    |true=>RJ m (qL 1 m []) st
    |false=>.stuck "all: popped"
  |_=>.stuck "all: buffer"
 |_=>.stuck "all"
def hdX:X:=nq (va 400)
def ao5(w:Nat):PC:=lnF hdX (inF hdX w ((.eq (.rem hdX (nl w)) (.lit 0),true)::(.eq (va 401) (nl w),true)::[]))
def J6(n w:Nat)(st:St):R (V×St):=match st.h.get 26 with
 |some (.cells c e (some 3))=>match V.cM c (qL 0 n [])with
  |true=>.ok (.tuple [.agg [u32 hdX,i64 (nl w),u32 (nq (va 402))],.bool (.lit 1)],{st with h:=st.h.set 26 (.cells (u32 hdX::i64 (nl w)::u32 (nq (va 402))::qL 1 (n-1) []) e (some 3)),pc:=ao5 w++st.pc,n:=st.n+bm})
  |false=>.stuck "head: row"
 |_=>.stuck "head: row"
def Xm(n0:Nat)(args:List V)(st:St):R (V×St):=match args with
 |[.ptr b 0]=>match ss st b 200 n0 with
  |true=>match n0 with
   |0=>sJ (.ok (.tuple [.agg [u32 (.lit 0),i64 (.lit 0),u32 (.lit 0)],.bool (.lit 0)],[])) st
   |n=>split st (.eq (va 401) (.lit 1)) fun st x=>match x with
    |true=>J6 n 1 st
    |false=>split st (.eq (va 401) (.lit 2)) fun st x=>match x with
     |true=>J6 n 2 st
     |false=>J6 n 4 st
  |false=>.stuck "head"
 |_=>.stuck "head"
def an4(n0:Nat)(args:List V)(st:St):R (V×St):=match args with
 |[.ptr b 0]=>match ss st b 200 n0,n0 with
  |true,m+1=>.ok (.tuple [.agg (stX 0),.bool (.lit 1)],{st with h:=st.h.set b (.cells (s7 530 m) im none),n:=st.n+bm})
  |_,_=>.stuck "pop"
 |_=>.stuck "pop"
def Xn(n0:Nat)(args:List V)(st:St):R (V×St):=match args with
 |[.ptr b 0,s]=>match ss st b 200 n0,tQ st.pc with
  |true,w=>match V.beq s (.agg [u32 np,i64 (nl w),u32 I0]),ck st.pc (yf w)with
   |true,true=>match n0 with
    |4=>sJ (.ok (i64 (.lit 240),[])) st
    |n=>.ok (i64 (.lit 0),{st with h:=st.h.set b (.cells (s7 500 (n+1)) im none),n:=st.n+bm})
   |_,_=>.stuck "push"
  |false,_=>.stuck "push: buffer"
 |_=>.stuck "push"
def an0(args:List V)(st:St):R (V×St):=match args,tQ st.pc with
 |[s],w=>match V.beq s (.agg [u32 np,i64 (nl w),u32 I0]),ck st.pc (yf w)with
  |true,true=>sJ (.ok (i64 (.lit 0),[])) st
  |_,_=>.stuck "check"
 |_,_=>.stuck "check"
def coreC(r:V):List V:=Bs (fun i=>.var (100+i))++[.xslice false 13 (.lit 0) 1 (.var 40) (.room (.var 40)),i64 (.lit 16),.ptr 14 0,i64 (.var 150),r]
def Xp(n0:Nat)(args:List V)(st:St):R (V×St):=match args with
 |[.ptr x 0]=>match st.h.get x with
  |some (.cells [.ptr k 0,_,_,_,a0,a1,a2,_,_,_,_] e none)=>match st.h.get k with
   |some (.cells c e' none)=>match nth c 39,wOf a2 with
    |some r,some w=>match bc (V.cM c (coreC r)) (V.cM [a0,a1,a2] [i64 (nl 1),u32 np,i64 (nl w)]) (ck st.pc (M7 w)) (Nat.beq e Ul) (Nat.beq e' Nq) (bc (ss st 14 200 n0) (Nat.blt 0 n0) (iC [14,k,x]) true true true)with
     |true=>sJ (.ok (i64 (.var 232),[])) st
     |false=>.stuck "teller"
    |_,_=>.stuck "teller"
   |_=>.stuck "teller: core"
  |_=>.stuck "teller: act"
 |_=>.stuck "teller"
def an3(n0:Nat)(args:List V)(st:St):R (V×St):=match args with
 |[.agg c,.agg [_,a1,a2,_,_,_,_]]=>match gx c 37,wOf a2 with
  |[l,f,_,_],some w=>match bc (V.cM [a1,a2] [u32 np,i64 (nl w)]) (V.beq f (i64 (.var 150))) (ck st.pc (M7 w)) (IB st l n0) (Nat.blt 0 n0) (Nat.beq c.length 41)with
   |true=>sJ (.ok (i64 (.var 232),[])) st
   |false=>.stuck "own"
  |_,_=>.stuck "own"
 |_=>.stuck "own"
def rdF:PC:=[(.eq (.var 134) (.lit 0),true)]
def rdW(pc:PC)(w:Nat):Bool:=match w with
 |4=>match ck pc (M7 4),ck pc [(.eq (tc 1 0) (.lit 3),true)]with
  |true,_=>true
  |_,true=>true
  |_,_=>ck pc [(.le (.lit 50) (tc 1 4),true)]
 |w=>ck pc (M7 w)
def W4(st:St)(a w:V):Bool:=match wOf w with
 |some k=>match V.cM [a,w] [u32 np,i64 (nl k)]with
  |true=>match ck st.pc rdF with
   |true=>rdW st.pc k
   |false=>false
  |false=>false
 |none=>false
structure QS where
 s:Nat
 n:Nat
structure Tys where
 core:TypeId
 buf:TypeId
 cache:TypeId
 set:TypeId
 u32:TypeId
 asked:TypeId
 line:TypeId
 store:TypeId
 rcore:TypeId
 rcache:TypeId
structure Ds where
 hx:List X
 fx:X
 rf:X
 ax:X
 wf:X
 wx:X
 gf:X
 gl:List X
 rg:List X
 sx:List X
 lx:List X
 bk:List X
def yA:Nat->Nat->List X
 |_,0=>[]
 |o,n+1=>va o::yA (o+1) n
def fX(n:Nat):Ds:=⟨yA 101 34,va 150,.eq (va 240) (.lit 1),va 140,.eq (va 241) (.lit 1),va 180,.eq (va 242) (.lit 1),yA 181 17,yA 200 13,TY 0 n,yA 160 17,yA 621 17⟩
def ph:List X->List V
 |[]=>[]
 |x::l=>match l with
  |[]=>[i64 x]
  |_=>u32 x::ph l
def Du:List X->List V
 |[]=>[]
 |x::l=>match l with
  |[]=>[i64 x]
  |y::m=>match m with
   |[]=>[]
   |z::r=>u32 x::i64 y::u32 z::Du r
def UO:List X->List V
 |[]=>[]
 |x::l=>u8 x::UO l
def eK:List X->List V
 |[]=>[]
 |x::l=>u32 (.lit 0)::i64 x::UO l
def C9(c:X)(b:Nat):V:=.ite c (.ptr b 0) .nilptr
def zB:Nat->List V
 |0=>[]
 |n+1=>u8 (.lit 0)::zB n
def ln0:List V:=u32 (.lit 0)::i64 (.lit 0)::zB 16
def qI(s b:Nat):V:=match s with
 |0=>.nilslice
 |1=>.slice b 0 0 (.room b 0 1)
 |_=>.slice b 0 1 (.room b 0 1)
def aaZ:V:=.xslice false 13 (.lit 0) 1 (.var 40) (.room (.var 40))
def Dd:V:=.xslice false 8 (.lit 0) 1 (.var 40) (.known (.var 41))
def UX(d:Ds)(r:V):List V:=i64 (.var 42)::(ph d.hx++[aaZ,i64 (.lit 16),.ptr 14 0,i64 d.fx,r])
def aj1(d:Ds)(n:Nat):List V:=Du d.rg++[i64 (nl n)]
def AK(a g:V):List V:=[i64 (.var 42),.ptr 18 0,a,g]
def acL(n b:Nat):V:=match n with
 |0=>.nilslice
 |n=>.slice b 0 n (.room b 0 n)
def zD(s b:Nat):V:=match s with
 |2=>.slice b 0 1 (.room b 0 1)
 |_=>.nilslice
def W3(d:Ds)(n b:Nat):List V:=i64 (.var 42)::(ph d.hx++[Dd,i64 (.lit 16),acL n b,i64 d.fx,.bool d.rf,u32 d.ax])
def v8(d:Ds)(s b:Nat):List V:=i64 (.var 42)::i64 (.lit 1)::i64 (.lit 1)::zD s b::.bool d.wf::u32 (.lit 0)::.bool d.wx::.bool d.gf::eK d.bk
def itm(c:Bool)(x:Nat×ak) (l:List (Nat×ak)):List (Nat×ak):=match c with
 |true=>x::l
 |false=>l
def GF(t:Tys) (fix:List (Nat×ak)) (q:QS):List (Nat×ak):=match fX q.n with
 |d=>
 (15,.cells (UX d (C9 d.rf 22)) t.core none) ::
 (14,.cells (aj1 d q.n) t.buf none) ::
 (19,.cells (AK (C9 d.wf 23) (C9 d.gf 24)) t.cache none) ::
 (17,.cells [qI q.s 25] t.set none) ::
 (20,.cells (W3 d q.n 26) t.rcore none) ::
 (21,.cells (v8 d q.s 27) t.rcache none) ::
 (22,.opt d.rf [u32 d.ax] t.u32)::(23,.opt d.wf [u32 (.lit 0),.bool d.wx] t.asked)::(24,.opt d.gf (eK d.gl) t.line) ::
 (itm (Nat.blt 0 q.s) (25,.cells (match q.s with|1=>ln0|_=>eK d.lx) t.line (some 18)) (itm (Nat.blt 0 q.n) (26,.cells (Du d.sx) t.store (some 3)) (itm (Nat.beq q.s 2) (27,.cells (eK d.lx) t.line (some 18)) fix)))
def pcQ(pc0:PC)(q:QS):PC:=(.le (.lit 0) (.var 100),true)::((match q.s with|2=>[(.le (.lit 1) (.var 160),true),(.le (.var 160) (.lit 3),true)]|_=>[])++pc0)
def knQ(q:QS):List Nat:=(match q.s with|0=>[]|_=>[25])++((match q.n with|0=>[]|_=>[26])++(match q.s with|2=>[27]|_=>[]))
def aur(t:Tys)(fr:Fr) (fix:List (Nat×ak)) (kn:List Nat) (pc0:PC) (q:QS):DC:=⟨fr,GF t fix q,400,pcQ pc0 q,kn++(22::23::24::knQ q)⟩
def aN(j:Nat):QS:=⟨j / 5,j % 5⟩
def rsF:Nat->PC
 |0=>[(.eq (va 240) (.lit 1),false),(.eq (va 140) (.lit 0),true)]
 |_=>[(.eq (va 240) (.lit 1),true)]
def tu:Nat->List V->Option (List X)
 |0,_=>some []
 |n+1,.int _ x::l=>match tu n l with
  |some r=>some (x::r)
  |none=>none
 |_,_=>none
def cellsOf(st:St)(b:Nat):List V:=match st.h.get b with
 |some (.cells c _ _)=>c
 |_=>[]
def iP(st:St)(b:Nat)(o:ak):Bool:=match st.h.get b with
 |some q=>q.beq o
 |none=>false
def setAt(t:Tys)(lt:TypeId)(st:St):Option Nat:=match st.h.get 17 with
 |some (.cells [v] _ none)=>match(match v with|.nilslice=>0|.slice _ 0 0 _=>1|_=>2)with
  |s=>match bc (iP st 19 (.cells (AK (C9 (fX 0).wf 23) (C9 (fX 0).gf 24)) t.cache none)) (iP st 18 (.cells [.slice 17 0 1 (.known 1),i64 (.lit 1)] lt none)) (iP st 17 (.cells [qI s 25] t.set none))
    (iP st 23 (.opt (fX 0).wf [u32 (.lit 0),.bool (fX 0).wx] t.asked)) (iP st 24 (.opt (fX 0).gf (eK (fX 0).gl) t.line)) (match s with|0=>true|1=>iP st 25 (.cells ln0 t.line (some 18))|_=>iP st 25 (.cells (eK (fX 0).lx) t.line (some 18)))with
   |true=>some s
   |false=>none
 |_=>none
def Xj(t:Tys)(lt:TypeId)(args:List V)(st:St):R (V×St):=match args with
 |[.ptr 19 0]=>match setAt t lt st with
  |some s=>.ok (.ptr (st.n+(2+s)) 0,{st with n:=st.n+bm})
  |none=>.stuck "copy"
 |_=>.stuck "copy"
def Ml:Nat->V
 |2=>.tuple [u32 (va 233),i64 (.lit 0)]
 |_=>.tuple [u32 (.lit 0),i64 (.lit 232)]
def Xo(t:Tys)(lt:TypeId)(s0:Nat)(args:List V)(st:St):R (V×St):=match args with
 |[.ptr 19 0,a,w]=>match W4 st a w,setAt t lt st with
  |true,some s=>match Nat.beq s s0 with
   |true=>sJ (.ok (Ml s,[])) st
   |false=>.stuck "read"
  |_,_=>.stuck "read"
 |_=>.stuck "read"
def OT(t:Tys)(s0:Nat)(args:List V)(st:St):R (V×St):=match args with
 |[.agg l,a,w]=>match W4 st a w,s0 with
  |true,2=>match V.cM l (v8 (fX 0) 2 27),iP st 27 (.cells (eK (fX 0).lx) t.line (some 18))with
   |true,true=>sJ (.ok (Ml 2,[])) st
   |_,_=>.stuck "read: line"
  |true,_=>match V.cM l (v8 (fX 0) 0 27)with
   |true=>sJ (.ok (Ml 0,[])) st
   |false=>.stuck "read: none"
  |_,_=>.stuck "read"
 |_=>.stuck "read"
structure NmS where
 r:Nat
 a:Nat
 g:Nat
 s:Nat
 d:Nat
 l:Nat
def ptB(v:V)(b:Nat):Nat:=match v with
 |.ptr k 0=>k
 |_=>b
def nm0:NmS:=⟨22,23,24,25,26,27⟩
def partsOf(m0:NmS)(st:St):Option (QS×Ds×NmS):=
 match cellsOf st 15,cellsOf st 14,cellsOf st 19,cellsOf st 17,cellsOf st 20,cellsOf st 21 with
 |_::k,b,[_,_,av,gv],[sv],g,n=>match tu 34 k,nth k 37,nth k 38,tu 13 b,nth b 13,nth g 37,nth n 3 with
  |some hx,some (.int _ fx),some rv,some rg,some (.int _ (.lit (.ofNat m))),some tv,some lv=>match nth g 39,nth g 40,nth n 4,nth n 6,nth n 7,tu 17 (gx n 9)with
   |some (.bool rf),some (.int _ ax),some (.bool wf),some (.bool wx),some (.bool gf),some bk=>
    match ptB gv m0.g,(match sv with|.nilslice=>(0,m0.s)|.slice b 0 0 _=>(1,b)|.slice b 0 1 _=>(2,b)|_=>(9,m0.s)),(match tv with|.slice b _ _ _=>b|_=>m0.d),(match lv with|.slice b _ _ _=>b|_=>m0.l)with
    |gn,(s,sb),db,lb=>some (⟨s,m⟩,⟨hx,fx,rf,ax,wf,wx,gf,(match Nat.beq gn m0.g with|true=>yA 181 17|false=>(tu 17 (gx (cellsOf st gn) 1)).getD []),rg,(tu (3*m) (cellsOf st db)).getD [],(match s with|2=>(tu 17 (gx (cellsOf st sb) 1)).getD []|_=>[]),bk⟩,⟨ptB rv m0.r,ptB av m0.a,gn,sb,db,lb⟩)
   |_,_,_,_,_,_=>none
  |_,_,_,_,_,_,_=>none
 |_,_,_,_,_,_=>none
def WB(st:St)(v:V)(c:X)(b:Nat)(b0:Nat)(c0:X)(cs cs0:List V)(e:TypeId):Bool:=match v with
 |.nilptr=>bc (Nat.beq b b0) (wX st.pc c false) (match st.h.get b0 with|some o=>!o.bg|none=>false) true true true
 |.ptr k 0=>bc (Nat.beq b k) (wX st.pc c true) (iP st k (.cells cs e none)) true true true
 |v=>bc (v.beq (C9 c0 b0)) (Nat.beq b b0) (iP st b0 (.opt c0 cs0 e)) (match wX st.pc c false with
  |true=>wX st.pc c0 false
  |false=>match c.beq c0 with
   |true=>V.cM cs cs0
   |false=>false) true true
def Zt(pc:PC)(c x:X):Bool:=match x.beq (va 140)with
 |true=>match c.beq (fX 0).rf with
  |true=>true
  |false=>match wX pc (fX 0).rf false with
   |true=>true
   |false=>wX pc c true
 |false=>match x.beq (.lit 0)with
  |true=>true
  |false=>wX pc c true
def pb(st:St):List (Nat×ak)->Bool
 |[]=>true
 |(i,o)::l=>match iP st i o with
  |true=>pb st l
  |false=>false
def acR:List Nat->List V->List V->Bool
 |[],_,_=>true
 |i::l,p,t=>match nth p i,nth t i with
  |some a,some b=>match a.beq b with
   |true=>acR l p t
   |false=>false
  |_,_=>false
def rJ(m:NmS)(i:Nat):Nat:=if i=22 then m.r else if i=23 then m.a else if i=24 then m.g else if i=25 then m.s else if i=26 then m.d else if i=27 then m.l else i
def xO(m:NmS):List (Nat×ak)->List Nat
 |[]=>[]
 |(i,_)::l=>rJ m i::xO m l
def abe(pc:PC)(ix:X)(q:QS)(d:Ds):Bool:=ck pc ((.le (.lit 0) ix,true)::match q.s with
 |2=>(match d.lx with|x::_=>[(.le (.lit 1) x,true),(.le x (.lit 3),true)]|[]=>[(.lit 0,true)])
 |_=>[])
def amU(t:Tys) (fix:List (Nat×ak)) (lv:List Nat) (ix:X) (m0:NmS) (fr0 fr:Fr) (st:St) (q:QS) (d:Ds) (m:NmS) (rv av gv:V):Bool:=
 bc (bc (iP st 15 (.cells (UX d rv) t.core none)) (iP st 14 (.cells (aj1 d q.n) t.buf none)) (iP st 19 (.cells (AK av gv) t.cache none)) (iP st 17 (.cells [qI q.s m.s] t.set none))
   (iP st 20 (.cells (W3 d q.n m.d) t.rcore none)) (iP st 21 (.cells (v8 d q.s m.l) t.rcache none)))
  (bc (WB st rv d.rf m.r m0.r (fX 0).rf [u32 d.ax] [u32 (fX 0).ax] t.u32) (WB st av d.wf m.a m0.a (fX 0).wf [u32 (.lit 0),.bool d.wx] [u32 (.lit 0),.bool (fX 0).wx] t.asked)
   (WB st gv d.gf m.g m0.g (fX 0).gf (eK d.gl) (eK (fX 0).gl) t.line)
   (match q.s with|0=>true|1=>iP st m.s (.cells ln0 t.line (some 18))|_=>match iP st m.s (.cells (eK d.lx) t.line (some 18))with|true=>iP st m.l (.cells (eK d.lx) t.line (some 18))|false=>false)
   (match q.n with|0=>true|_=>iP st m.d (.cells (Du d.sx) t.store (some 3))) (pb st fix))
  (acR lv fr0.tm fr.tm) (match nth fr.tm 13 with|some v=>v.beq (i64 ix)|none=>false)
  (abe st.pc ix q d)
  (bc (Nat.ble q.s 2) (Nat.ble q.n 4) (Zt st.pc d.rf d.ax) (iC (xO m (GF t fix q))) (Nat.beq fr.tm.length fr0.tm.length) (match fr.df with|[]=>true|_=>false))
def Vf(t:Tys) (fix:List (Nat×ak)) (lv:List Nat) (ix:X) (m0:NmS) (fr0 fr:Fr) (st:St) (q:QS) (d:Ds) (m:NmS):Bool:=
 amU t fix lv ix m0 fr0 fr st q d m ((nth (cellsOf st 15) 39).getD .undef) ((nth (cellsOf st 19) 2).getD .undef) ((nth (cellsOf st 19) 3).getD .undef)
end
noncomputable section
def AX(k:Nat):X:=nq (va (700+3*k))
def WX(k:Nat):X:=.wrap .u8 (va (701+3*k))
def VX(k:Nat):X:=nq (va (702+3*k))
def bS(k:Nat):List V:=[u32 (AX k),i64 (WX k),u32 (VX k)]
def UA:Nat->Nat->List V->List V
 |_,0,r=>r
 |k,n+1,r=>bS k++UA (k+1) n r
def bO(p:Nat):List V:=[u32 (va (715+3*p)),i64 (va (716+3*p)),u32 (va (717+3*p))]
def bP(w:Nat):List V:=[u32 (nq (va 730)),i64 (nl w),u32 (nq (va 731))]
def zS:List V:=[u32 (.lit 0),i64 (.lit 0),u32 (.lit 0)]
def rG(f:Nat)(g:Nat->Nat->List V):Nat->Nat->List V->List V
 |_,0,r=>r
 |p,k+1,r=>g ((p+4-f) % 4) p++rG f g (p+1) k r
def Mr(f:Nat)(g:Nat->Nat->List V)(f' n':Nat):List V:=rG f g 0 4 [i64 (nl f'),i64 (nl n')]
def gB(n:Nat)(k p:Nat):List V:=match Nat.blt k n with
 |true=>bS k
 |false=>bO p
def ao4(n:Nat)(k p:Nat):List V:=match k with
 |0=>zS
 |k=>gB n k p
def amh(n w:Nat)(k p:Nat):List V:=match Nat.beq k n with
 |true=>bP w
 |false=>gB n k p
def jZ(f n:Nat):List V:=Mr f (gB n) f n
def oB(c:List V):Nat×ak:=(14,.cells c im none)
def pB(f n:Nat)(args:List V)(pc:PC):gk:=⟨.ptr 14 0::args,[oB (jZ f n)],100,pc⟩
def wdF:Nat->PC
 |0=>[]
 |k+1=>(.le (.lit 1) (WX k),true)::(.le (WX k) (.lit 4),true)::wdF k
def aX:X:=nq (va 730)
def acd(f n w:Nat):gk:=pB f n [u32 aX,i64 (nl w)] ((.eq (.rem aX (nl w)) (.lit 0),true)::wdF n)
def vlF(w:Nat):PC:=match w with
 |1=>[(.eq (.quo (nq (va 731)) (.lit 256)) (.lit 0),true),(.le (nq (va 731)) (.lit 255),true)]
 |2=>[(.eq (.quo (nq (va 731)) (.lit 65536)) (.lit 0),true),(.le (nq (va 731)) (.lit 65535),true)]
 |_=>[]
def aqU(f n w:Nat):gk:=pB f n [.agg (bP w)] ((.eq (.rem aX (nl w)) (.lit 0),true)::vlF w)
def aup(w:Nat):gk:=⟨[.agg (bP w)],[],100,(.eq (.rem aX (nl w)) (.lit 0),true)::vlF w⟩
def apu(n:Nat):Nat×ak:=(26,.cells (UA 0 n []) pe (some 3))
def pr(n b:Nat):V:=match n with
 |0=>.nilslice
 |n=>.slice b 0 n (.room b 0 n)
def Dk(n:Nat):List (Nat×ak):=match n with
 |0=>[]
 |n=>[apu n]
def Cm(n w:Nat):gk:=⟨[pr n 26,u32 aX,i64 (nl w)],Dk n,100,[(.eq (.rem aX (nl w)) (.lit 0),true)]⟩
def tlT:List V:=Bs (fun i=>.var (100+i))++[.any 17,i64 (.lit 16),.ptr 14 0,i64 (.var 150),.any 18]
def tlA:List V:=[.ptr 15 0,.any 19,.any 20,.any 21,i64 (.lit 1),u32 aX,i64 (.wrap .u8 (va 732)),.any 22,.any 23,.any 24,.any 25]
def WJ(f n:Nat):gk:=⟨[.ptr 16 0],[oB (jZ f n),(15,.cells tlT Nq none),(16,.cells tlA Ul none)],100,[]⟩
def anf:PC:=[(.le (.lit 0) (.lit 7),true)]
def plF:Nat->PC
 |0=>[]
 |k+1=>(.le (AX k) (.lit 16),true)::(.le (.lit 1) (WX k),true)::(.le (WX k) (.lit 4),true)::plF k
def Az:Nat->Nat->List V->List V
 |_,0,r=>r
 |o,n+1,r=>.any o::Az (o+1) n r
def KY(n w:Nat):gk:=⟨[.agg (Az 30 37 [pr n 26,i64 (.var 150),.any 17,.any 18]),.agg [.any 19,u32 aX,i64 (nl w),.any 20,.any 21,.any 22,.any 23]],Dk n,100,(.eq (.rem aX (nl w)) (.lit 0),true)::(.le aX (.lit 16),true)::(plF n++anf)⟩
def auq:gk:=⟨[.agg (bS 0),i64 (.add (AX 0) (va 732))],[],100,(.le (.lit (-20)) (va 732),true)::(.le (va 732) (.lit 20),true)::(.le (.lit 1) (WX 0),true)::(.le (WX 0) (.lit 4),true)::anf⟩
def x7:List (Nat×ak)->List (Nat×ak)->Bool
 |[],[]=>true
 |(i,a)::l,(j,b)::m=>match Nat.beq i j,a.beq b with
  |true,true=>x7 l m
  |_,_=>false
 |_,_=>false
def VS(mb:Nat)(lf:Leaf)(v:V) (os:List (Nat×ak)):Bool:=bc (lf.v.beq v) (x7 lf.objs os) (Nat.ble lf.n (100+mb)) true true true
def jE(mb:Nat) (os:List (Nat×ak)):R Leaf->R V->Bool
 |.ok lf,t=>match t with
  |.ok v=>VS mb lf v os
  |_=>false
 |.br c a b,t=>match t with
  |.br d x y=>match c.beq d with
   |true=>match jE mb os a x with
    |true=>jE mb os b y
    |false=>false
   |false=>false
  |_=>false
 |.stuck _,_=>false
def cw (os:List (Nat×ak)):R Leaf->R V->Bool:=jE bm os
def asU(n:Nat):V:=pr n (100+(3+3*n))
def aqT(f n:Nat):List (Nat×ak):=oB (jZ f n)::match n with
 |0=>[]
 |n=>[(100+(3+3*n),.cells (UA 0 n []) pe (some 3))]
def Rv(n:Nat):V:=match n with
 |0=>.tuple [.agg zS,.bool (.lit 0)]
 |_=>.tuple [.agg (bS 0),.bool (.lit 1)]
def NL(x:X)(h:Nat):R V:=.ok (.tuple [u32 x,i64 (nl h)])
def amQ(k:Nat):X:=.add (AX k) (WX k)
def amK(w:Nat)(x:X):X:=match w with
 |1=>.wrap .u8 x
 |2=>.wrap .u16 x
 |_=>x
def fwT(w:Nat):Nat->R V
 |0=>NL (.lit 0) 0
 |k+1=>.br (.lt (AX k) (.add aX (nl w))) (.br (.lt aX (amQ k)) (.br (.lt aX (AX k)) (NL (.lit 0) 2) (.br (.lt (amQ k) (.add aX (nl w))) (NL (.lit 0) 2) (NL (amK w (.shr .u32 (VX k) (.wrap .u64 (.mul (.lit 8) (.wrap .u64 (.sub aX (AX k))))))) 1))) (fwT w k)) (fwT w k)
def tlE:X:=.wrap .u32 (.add aX (.wrap .u8 (va 732)))
def noX(k:Nat):X:=match k with
 |0=>.wrap .i64 (.var 150)
 |k=>.wrap .i64 (.add (.var 150) (nl k))
def abo(k:Nat):R V:=.ok (i64 (noX k))
def teT:Nat->R V
 |0=>.ok (i64 (.lit (-1)))
 |k+1=>.br (.lt (AX k) tlE) (.br (.lt aX (.wrap .u32 (.add (AX k) (WX k)))) (abo k) (teT k)) (teT k)
def tjX(j:Nat):X:=match j with
 |0=>aX
 |j=>.add aX (nl j)
def owC(k:Nat)(r:R V)(j:Nat):Nat->R V
 |0=>r
 |m+1=>.br (.lt (tjX j) (AX k)) (owC k r (j+1) m) (abo k)
def owT(w:Nat):Nat->R V
 |0=>.ok (i64 (.lit (-1)))
 |k+1=>.br (.lt aX (AX k)) (owC k (owT w k) 1 (w-1)) (.br (.lt (.sub aX (AX k)) (WX k)) (abo k) (owT w k))
def hX(k j:Nat):X:=va (740+4*k+j)
def am0(k j:Nat):PC:=[(.le (.lit (-1)) (hX k j),true),(.le (hX k j) (.lit 255),true)]
def Vq(k:Nat)(t:X)(st:St):Nat->R (V×St)
 |0=>.stuck "has: byte"
 |j+1=>match t.beq (tjX j)with
  |true=>.ok (i64 (hX k j),{st with pc:=am0 k j++st.pc,n:=st.n+10})
  |false=>Vq k t st j
def Vr(s:List V)(t:X)(st:St):Nat->R (V×St)
 |0=>.stuck "has: store"
 |k+1=>match V.cM s (bS k)with
  |true=>Vq k t st 4
  |false=>Vr s t st k
def ffX(k w j:Nat):Nat->X
 |0=>.wrap .u32 (hX k (w-1))
 |m+1=>.wrap .u32 (.add (.wrap .u32 (.mul (ffX k w (j+1) m) (.lit 256))) (.wrap .u32 (hX k j)))
def frB(k w:Nat)(r:R V)(any all:Bool):Nat->R V
 |0=>match all,any with
  |true,_=>NL (ffX k w 0 (w-1)) 1
  |_,true=>NL (.lit 0) 2
  |_,_=>r
 |j+1=>.br (.lt (hX k j) (.lit 0)) (frB k w r any false j) (frB k w r true all j)
def frT(w:Nat):Nat->R V
 |0=>NL (.lit 0) 0
 |k+1=>frB k w (frT w k) false true w
def Xl(n:Nat)(args:List V)(st:St):R (V×St):=match args with
 |[.agg s,.int .i64 t]=>Vr s t st n
 |_=>.stuck "has"
def hkX:X:=.sub (.add (AX 0) (va 732)) (AX 0)
def am1:R V:=.br (.lt hkX (.lit 0)) (.ok (i64 (.lit (-1)))) (.br (.lt hkX (WX 0)) (.br (.lt (.lit 0) hkX) (.br (.lt (.lit 1) hkX) (.br (.lt (.lit 2) hkX) (.ok (i64 (.quo (VX 0) (.lit 16777216)))) (.ok (i64 (.wrap .u8 (.quo (VX 0) (.lit 65536)))))) (.ok (i64 (.wrap .u8 (.quo (VX 0) (.lit 256)))))) (.ok (i64 (.wrap .u8 (VX 0))))) (.ok (i64 (.lit (-1)))))
end
end Go.Proofs.YtgcbnjpeifigaaaGreatDoor
