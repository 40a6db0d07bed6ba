/- Symbolic execution: loops of any number of rounds: shapes, and how a state fits one (plain functions). Symbolic execution: loops of any number of rounds: what fits a shape is it. Symbolic execution: a loop of any number of rounds does what is told of it. Symbolic execution: calls over rows and structures, run by themselves (plain functions). Symbolic execution: a call over rows and structures that was run by itself, told where it is made. Symbolic execution: a run over rows that came in. Symbolic execution: rows that came in: what the law's run has of them. Several calls, each from the start with what was known behind the one before: what they leave is looked at together. Symbolic execution: calls that are told by symbols. Symbolic execution: loops whose head has several shapes (plain functions). Symbolic execution: a loop whose head has several shapes is told by its rounds. Alone: how the answers of the four calls of one instruction are looked at (plain functions). Alone: what the look at four answers tells. No condition. -/
import Derived.Test.YtgcbnjpeifigaaaGreatDoorFwC
import Derived.Test.YtgcbnjpeifigaaaGreatDoorFwG
import Derived.Test.YtgcbnjpeifigaaaGreatDoorSeX
import Derived.Test.YtgcbnjpeifigaaaGreatDoorFwF
import Derived.Test.YtgcbnjpeifigaaaGreatDoorFwU
import Derived.Calls
namespace Go.Proofs.YtgcbnjpeifigaaaGreatDoor
open Go
noncomputable section
def WD{α:Type}(f:α->α->Bool):Option α->Option α->Bool
 |none,_=>true
 |some a,some b=>f a b
 |some _,none=>false
def T.sub{α:Type}(f:α->α->Bool):T α->T α->Bool
 |.nil,_=>true
 |.node l v r,.nil=>bc (WD f v none) (T.sub f l .nil) (T.sub f r .nil) true true true
 |.node l v r,.node l' v' r'=>bc (WD f v v') (T.sub f l l') (T.sub f r r') true true true
def PM(a b:X×Bool):Bool:=bc (a.1.beq b.1) (j0 a.2 b.2) true true true true
structure LoopI where
 rnd:Option Nat
 body:Code
 fr:Fr
 st:St
 res:ec
def E8(L:LoopI)(rnd:Option Nat)(c:Code)(fr:Fr)(st:St):Bool:=
 bc (bc (Nat.beq st.n L.st.n) (jl rnd L.rnd) (V.cM fr.tm L.fr.tm) (fm fr.df L.fr.df) (iz PM st.pc L.st.pc) true) (bJ c L.body) (T.sub ak.beq st.h L.st.h) (T.sub ak.beq L.st.h st.h) true true
def Kt:List LoopI->Option Nat->Code->Fr->St->Option ec
 |[],_,_,_,_=>none
 |L::l,rnd,c,fr,st=>match E8 L rnd c fr st with
  |true=>some L.res
  |false=>Kt l rnd c fr st
structure Tch where
 vs:List Nat
 ts:List (Nat×Nat)
def P5:List (Nat×Nat)->Nat->Bool
 |[],_=>false
 |(t,n)::l,f=>match Nat.ble t f with
  |true=>match Nat.blt f (t+n)with
   |true=>true
   |false=>P5 l f
  |false=>P5 l f
def xR (l:List (Nat×Nat)) (t:Nat):Nat->Bool
 |0=>true
 |n+1=>match P5 l (t+n)with
  |true=>false
  |false=>xR l t n
structure Mt where
 v:List (Nat×X)
 a:List (Nat×(List CK×A))
 u:List (Nat×V)
 r:List (Nat×Nat)
def Mt.name(σ:Mt)(i:Nat):Nat:=match look σ.r i with
 |some j=>j
 |none=>i
def X.free(t:Tch):X->Bool
 |.lit _=>true
 |.var i=>!dW i t.vs
 |.add a b=>a.free t&&b.free t
 |.sub a b=>a.free t&&b.free t
 |.mul a b=>a.free t&&b.free t
 |.quo a b=>a.free t&&b.free t
 |.rem a b=>a.free t&&b.free t
 |.wrap _ a=>a.free t
 |.bits _ _ a b=>a.free t&&b.free t
 |.shl _ a b=>a.free t&&b.free t
 |.shr _ a b=>a.free t&&b.free t
 |.eq a b=>a.free t&&b.free t
 |.lt a b=>a.free t&&b.free t
 |.le a b=>a.free t&&b.free t
 |.not a=>a.free t
 |.ite c a b=>c.free t&&(a.free t&&b.free t)
 |.fn1 f a=>!P5 t.ts f&&a.free t
 |.fn2 _ a b=>a.free t&&b.free t
 |.slit _=>true
 |.svar _=>true
 |.scat a b=>a.free t&&b.free t
 |.sfn _ a=>a.free t
 |.slen a=>a.free t
 |.seq a b=>a.free t&&b.free t
 |.bv _ _=>true
 |.cube _ _=>true
 |.btext f a b=>!P5 t.ts f&&(a.free t&&b.free t)
def tn(t:Tch)(σ:Mt)(p x:X):Bool:=match p with
 |.var i=>match look σ.v i with
  |some y=>y.beq x
  |none=>match dW i t.vs with
   |true=>false
   |false=>(X.var i).beq x
 |p=>match p.free t with
  |true=>p.beq x
  |false=>false
def amV(t:Tch)(p x:X):Bool:=match p.free t with
 |true=>p.beq x
 |false=>false
def xj(σ:Mt)(b c:Nat):Bool:=match look σ.u b with
 |some _=>false
 |none=>Nat.beq (σ.name b) c
def ac3(σ:Mt):Cp->Cp->Bool
 |.known n,.known m=>Nat.beq n m
 |.room b o n,.room c p m=>bc (xj σ b c) (Nat.beq o p) (Nat.beq n m) true true true
 |_,_=>false
def Vi(t:Tch)(σ:Mt):XC->XC->Bool
 |.known a,.known b=>tn t σ a b
 |.room a,.room b=>tn t σ a b
 |_,_=>false
mutual
def fZ(t:Tch)(σ:Mt):V->V->Bool
 |.any k,v=>match look σ.u k with
  |some u=>u.beq v
  |none=>false
 |.int k p,.int j x=>bc (bE k j) (tn t σ p x) true true true true
 |.bool p,.bool x=>tn t σ p x
 |.str p,.str x=>amV t p x
 |.ptr b o,.ptr c q=>bc (xj σ b c) (Nat.beq o q) true true true true
 |.nilptr,.nilptr=>true
 |.slice b o n c,.slice b' o' n' c'=>bc (xj σ b b') (Nat.beq o o') (Nat.beq n n') (ac3 σ c c') true true
 |.nilslice,.nilslice=>true
 |.map b,.map c=>xj σ b c
 |.nilmap,.nilmap=>true
 |.func f a c,.func g d e=>bc (lC f g) (mo t σ a d) (mo t σ c e) true true true
 |.yield b,.yield c=>xj σ b c
 |.nilfunc,.nilfunc=>true
 |.iface u v,.iface u' v'=>bc (Nat.beq u u') (fZ t σ v v') true true true true
 |.niliface,.niliface=>true
 |.agg l,.agg m=>mo t σ l m
 |.tuple l,.tuple m=>mo t σ l m
 |.wptr b o,.wptr c q=>bc (Nat.beq b c) (Nat.beq o q) true true true true
 |.wslice b o n c,.wslice b' o' n' c'=>bc (Nat.beq b b') (Nat.beq o o') (tn t σ n n') (tn t σ c c') true true
 |.sptr b o n i,.sptr c q m j=>bc (xj σ b c) (Nat.beq o q) (Nat.beq n m) (tn t σ i j) true true
 |.xslice w b off es n c,.xslice w' b' off' es' n' c'=>bc (j0 w w') (bc (xj σ b b') (match w with|true=>Nat.beq b b'|false=>true) true true true true) (tn t σ off off') (Nat.beq es es') (tn t σ n n') (Vi t σ c c')
 |.xptr w b i es c,.xptr w' b' i' es' c'=>bc (j0 w w') (bc (xj σ b b') (match w with|true=>Nat.beq b b'|false=>true) true true true true) (tn t σ i i') (Nat.beq es es') (Nat.beq c c') true
 |_,_=>false
def mo(t:Tch)(σ:Mt):List V->List V->Bool
 |[],[]=>true
 |p::l,v::m=>bc (fZ t σ p v) (mo t σ l m) true true true true
 |_,_=>false
end
def A.free(t:Tch)(n:Nat):A->Bool
 |.base f=>xR t.ts f n
 |.fill x=>x.free t
 |.put a i _ x=>a.free t n&&(i.free t&&x.free t)
def abg(t:Tch)(σ:Mt)(ks:List CK)(p a:A):Bool:=match p with
 |.base f=>match look σ.a f with
  |some (ks',b)=>match CK.cM ks ks' with
   |true=>b.beq a
   |false=>false
  |none=>match xR t.ts f ks.length with
   |true=>(A.base f).beq a
   |false=>false
 |p=>match p.free t ks.length with
  |true=>p.beq a
  |false=>false
def ac4(σ:Mt):List cz->List cz->Bool
 |[],[]=>true
 |.mark b::l,.mark c::m=>bc (xj σ b c) (ac4 σ l m) true true true true
 |_,_=>false
def JU(t:Tch)(σ:Mt):List (V×V)->List (V×V)->Bool
 |[],[]=>true
 |(k,v)::l,(j,u)::m=>bc (fZ t σ k j) (fZ t σ v u) (JU t σ l m) true true true
 |_,_=>false
def sI(t:Tch)(σ:Mt)(i:Nat):ak->ak->Bool
 |.cells c e w,.cells c' e' w'=>bc (Nat.beq e e') (jl w w') (mo t σ c c') true true true
 |.map es,.map es'=>JU t σ es es'
 |.loop s p tm ps as bd d,.loop s' p' tm' ps' as' bd' d'=>bc (lC s s') (oG p p') (mo t σ tm tm') (xj σ d d') (KI ps ps') (bc (bJ as as') (bJ bd bd') true true true true)
 |.deferred none,.deferred none=>true
 |.deferred (some []),.deferred (some [])=>true
 |.ro g c,.ro g' c'=>bc (Nat.beq g g') (mo t σ c c') true true true true
 |.win g c n es,.win g' c' n' es'=>bc (Nat.beq g g') (mo t σ c c') (tn t σ n n') (Nat.beq es es') (Nat.beq (σ.name i) i) true
 |.iter none,.iter none=>true
 |.iter (some b),.iter (some c)=>xj σ b c
 |.arr a ks n e w,.arr a' ks' n' e' w'=>bc (abg t σ ks a a') (CK.cM ks ks') (tn t σ n n') (Nat.beq e e') (j0 w w') true
 |.warr g f ks n,.warr g' f' ks' n'=>bc (Nat.beq g g') (Nat.beq f f') (CK.cM ks ks') (tn t σ n n') (xR t.ts f ks.length) (Nat.beq (σ.name i) i)
 |_,_=>false
structure DC where
 fr:Fr
 items:List (Nat×ak)
 n:Nat
 pc:PC
 kn:List Nat
def tx:List (Nat×ak)->H
 |[]=>.nil
 |(i,o)::l=>(tx l).set i o
def DC.st(p:DC):St:=⟨tx p.items,p.n,p.pc⟩
def PO(t:Tch)(σ:Mt)(h:H):List (Nat×ak)->Bool
 |[]=>true
 |(i,p)::l=>match look σ.u i with
  |some _=>false
  |none=>match h.get (σ.name i)with
   |some o=>match sI t σ i p o with
    |true=>PO t σ h l
    |false=>false
   |none=>false
def X.jm(t:Tch)(σ:Mt):X->Bool
 |.lit _=>true
 |.var i=>match look σ.v i with
  |some _=>true
  |none=>!dW i t.vs
 |.add a b=>a.jm t σ&&b.jm t σ
 |.sub a b=>a.jm t σ&&b.jm t σ
 |.mul a b=>a.jm t σ&&b.jm t σ
 |.lt a b=>a.jm t σ&&b.jm t σ
 |.le a b=>a.jm t σ&&b.jm t σ
 |.eq a b=>a.jm t σ&&b.jm t σ
 |_=>false
def X.gp(σ:Mt):X->X
 |.var i=>match look σ.v i with
  |some x=>x
  |none=>.var i
 |.add a b=>.add (a.gp σ) (b.gp σ)
 |.sub a b=>.sub (a.gp σ) (b.gp σ)
 |.mul a b=>.mul (a.gp σ) (b.gp σ)
 |.lt a b=>.lt (a.gp σ) (b.gp σ)
 |.le a b=>.le (a.gp σ) (b.gp σ)
 |.eq a b=>.eq (a.gp σ) (b.gp σ)
 |x=>x
def aa6(pc:PC)(x:X)(b:Bool):Bool:=match eU pc x with
 |some c=>j0 c b
 |none=>match AP pc x with
  |some c=>j0 c b
  |none=>false
def ac5(t:Tch)(σ:Mt)(pc:PC):PC->Bool
 |[]=>true
 |(x,b)::l=>match x.jm t σ with
  |true=>match aa6 pc (x.gp σ) b with
   |true=>ac5 t σ pc l
   |false=>false
  |false=>false
def KG(σ:Mt):List (Nat×ak)->List Nat
 |[]=>[]
 |(i,_)::l=>σ.name i::KG σ l
def Il(σ:Mt)(n:Nat):List Nat->Bool
 |[]=>true
 |i::l=>match Nat.blt i n with
  |true=>match look σ.u i with
   |some _=>false
   |none=>match Nat.beq (σ.name i) i with
    |true=>Il σ n l
    |false=>false
  |false=>Il σ n l
def fit(t:Tch)(σ:Mt)(n:Nat)(p:DC)(fr:Fr)(st:St):Bool:=
 bc (mo t σ p.fr.tm fr.tm) (ac4 σ p.fr.df fr.df) (PO t σ st.h p.items) (iC (KG σ p.items)) (ac5 t σ st.pc p.pc) (Il σ n p.kn)
def Cp.iB:Cp->List Nat
 |.known _=>[]
 |.room b _ _=>[b]
mutual
def V.iB:V->List Nat
 |.ptr b _=>[b]
 |.slice b _ _ c=>b::c.iB
 |.map b=>[b]
 |.func _ a c=>V.gz a++V.gz c
 |.yield b=>[b]
 |.iface _ v=>v.iB
 |.agg l=>V.gz l
 |.tuple l=>V.gz l
 |.ite _ a b=>a.iB++b.iB
 |.sptr b _ _ _=>[b]
 |.rest b _ _ _=>[b]
 |.xslice _ b _ _ _ _=>[b]
 |.xptr _ b _ _ _=>[b]
 |.any k=>[k]
 |_=>[]
def V.gz:List V->List Nat
 |[]=>[]
 |v::l=>v.iB++V.gz l
end
def Df:List cz->List Nat
 |[]=>[]
 |.mark b::l=>b::Df l
 |.fn _ a c::l=>V.gz a++(V.gz c++Df l)
def RY:List (V×V)->List Nat
 |[]=>[]
 |(k,v)::l=>k.iB++(v.iB++RY l)
def ak.iB:ak->List Nat
 |.cells c _ _=>V.gz c
 |.map es=>RY es
 |.loop _ _ tm _ _ _ d=>d::V.gz tm
 |.deferred (some l)=>Df l
 |.ro _ c=>V.gz c
 |.win _ c _ _=>V.gz c
 |.iter (some b)=>[b]
 |.opt _ c _=>V.gz c
 |_=>[]
def Fm:List Nat->List Nat->Bool
 |[],_=>true
 |a::l,m=>match dW a m with
  |true=>Fm l m
  |false=>false
def zh(kn:List Nat):List (Nat×ak)->Bool
 |[]=>true
 |(i,o)::l=>match dW i kn with
  |true=>match Fm o.iB kn with
   |true=>zh kn l
   |false=>false
  |false=>false
def Ax(n:Nat):List Nat->Bool
 |[]=>true
 |i::l=>match Nat.blt i n with
  |true=>Ax n l
  |false=>false
def zY(kn:List Nat):Nat->Bool
 |0=>true
 |g+1=>match dW g kn with
  |true=>zY kn g
  |false=>false
def y8(ng:Nat)(p:DC):Bool:=bc (zY p.kn ng) (Fm (V.gz p.fr.tm) p.kn) (Fm (Df p.fr.df) p.kn) (zh p.kn p.items) (Ax p.n p.kn) true
inductive LL where
 |next (σ:Mt)
 |out (k:Nat) (σ:Mt)
 |never
structure OutP where
 ex:Ex
 pat:DC
def ru(ng:Nat)(h:H)(n:Nat):List Nat->Bool
 |[]=>true
 |i::l=>match Nat.blt i n with
  |false=>ru ng h n l
  |true=>match Nat.blt i ng with
   |true=>ru ng h n l
   |false=>match h.get i with
    |some _=>ru ng h n l
    |none=>false
def bX(n:Nat)(m:List Nat):List Nat->Bool
 |[]=>true
 |i::l=>match Nat.blt i n with
  |false=>bX n m l
  |true=>match dW i m with
   |true=>bX n m l
   |false=>false
def aqh(kn:List Nat):Option Nat->Bool
 |none=>true
 |some l=>dW l kn
def eD (r:List (Nat×Nat)) (i:Nat):Nat:=match look r i with
 |some j=>j
 |none=>i
def RI(a b:Nat) (r:List (Nat×Nat)):List (Nat×Nat):=match Nat.beq a b with
 |true=>r
 |false=>match look r a with
  |some _=>r
  |none=>(a,b)::r
mutual
def nmV:V->V->List (Nat×Nat)->List (Nat×Nat)
 |.ptr a _,.ptr b _,r=>RI a b r
 |.slice a _ _ _,.slice b _ _ _,r=>RI a b r
 |.map a,.map b,r=>RI a b r
 |.sptr a _ _ _,.sptr b _ _ _,r=>RI a b r
 |.xslice w a _ _ _ _,.xslice _ b _ _ _ _,r=>match w with
  |true=>r
  |false=>RI a b r
 |.xptr w a _ _ _,.xptr _ b _ _ _,r=>match w with
  |true=>r
  |false=>RI a b r
 |.func _ a c,.func _ b d,r=>V8 c d (V8 a b r)
 |.iface _ v,.iface _ u,r=>nmV v u r
 |.agg l,.agg m,r=>V8 l m r
 |.tuple l,.tuple m,r=>V8 l m r
 |_,_,r=>r
def V8:List V->List V->List (Nat×Nat)->List (Nat×Nat)
 |v::l,u::m,r=>V8 l m (nmV v u r)
 |_,_,r=>r
end
mutual
def uV:V->V->List (Nat×V)->List (Nat×V)
 |.any k,v,l=>match look l k with
  |some _=>l
  |none=>(k,v)::l
 |.func _ a c,.func _ b d,l=>uVs c d (uVs a b l)
 |.iface _ v,.iface _ u,l=>uV v u l
 |.agg x,.agg y,l=>uVs x y l
 |.tuple x,.tuple y,l=>uVs x y l
 |_,_,l=>l
def uVs:List V->List V->List (Nat×V)->List (Nat×V)
 |v::x,u::y,l=>uVs x y (uV v u l)
 |_,_,l=>l
end
end
theorem T.wy{α:Type}{f:α->α->Bool}:∀ {t u:T α} {bs:List Bool} {a:α},T.sub f t u=true->t.fJ bs=some a->∃ b,u.fJ bs=some b/\f a b=true
 |.nil,u,bs,a,_,h=>by rw[T.fi]at h;cases h
 |.node l v r,.nil,bs,a,hs,h=>by
  obtain⟨h1,h2,h3,_⟩:=ar hs;cases bs with
  |nil=>
   have h':v=some a:=h;subst h';cases h1
  |cons b bs=>
   cases b with
   |true=>
    obtain⟨c,hc,_⟩:=T.wy h3 (show r.fJ bs=some a from h);rw[T.fi]at hc;cases hc
   |false=>
    obtain⟨c,hc,_⟩:=T.wy h2 (show l.fJ bs=some a from h);rw[T.fi]at hc;cases hc
 |.node l v r,.node l' v' r',bs,a,hs,h=>by
  obtain⟨h1,h2,h3,_⟩:=ar hs;cases bs with
  |nil=>
   have h':v=some a:=h;subst h';cases v' with
   |none=>cases h1
   |some b=>exact⟨b,rfl,h1⟩
  |cons b bs=>
   cases b with
   |true=>exact T.wy (t:=r) (u:=r') h3 h
   |false=>exact T.wy (t:=l) (u:=l') h2 h
theorem NI{a b:X×Bool}(h:PM a b=true):a=b:=by
 obtain⟨h1,h2,_⟩:=ar h;exact Prod.ext (X.beq_eq h1) (dj h2)
theorem MS{h h':H}(h1:T.sub ak.beq h h'=true){i:Nat}{o:ak}(hi:h.get i=some o):h'.get i=some o:=by
 obtain⟨b,hb,he⟩:=T.wy h1 hi;rw[ak.beq_eq he];exact hb
section
variable {P:Program} {cx:Cx} {ρ:Env}
def ij(P:Program)(cx:Cx)(ρ:Env)(L:LoopI):Prop:=
 ∀ res,L.res.ag ρ=some res->∀ S π0 w a ro n,b8 cx ρ S π0 L.st w->eg ρ S π0 L.fr a->lk S π0 L.rnd ro->ju (FN ro) n P L.body (eF ρ S π0 L.st w res) a w
theorem GP:∀ {l:List LoopI},(∀ L∈l,ij P cx ρ L)->aoz P cx ρ (Kt l)
 |[],_,rnd,c,fr,st,r,res,h,_,_,_,_,_,_,_,_,_,_=>by simp[Kt]at h
 |L::l,hl,rnd,c,fr,st,r,res,h,hs,S,π0,w,a,ro,n,hh,hf,hr=>by
  unfold Kt at h;split at h
  ·rename_i he;obtain rfl:=qqz h;unfold E8 at he;obtain⟨e1,e2,e3,e4,_⟩:=ar he;obtain⟨e5,e6,e7,e8,e9,_⟩:=ar e1;obtain⟨h0,n0,pc0⟩:=st;obtain⟨tm0,df0⟩:=fr;obtain rfl:=i6 e2;obtain rfl:=iF e6;obtain e5':n0=L.st.n:=qqq e5;obtain e9':pc0=L.st.pc:=gQ NI e9;obtain e7':tm0=L.fr.tm:=V.aR _ _ e7;obtain e8':df0=L.fr.df:=mI e8;subst e5' e9' e7' e8';have to:∀ i o,h0.get i=some o->L.st.h.get i=some o:=fun i o=>MS e3
   have fro:∀ i o,L.st.h.get i=some o->h0.get i=some o:=fun i o=>MS e4
   have hh':b8 cx ρ S π0 L.st w:=⟨hh.pc,⟨fun π hk=>⟨fun i o hi=>(hh.at_.rep π hk).obj i o (fro i o hi),fun i j o o' hi hj e=>(hh.at_.rep π hk).inj i j o o' (fro i o hi) (fro j o' hj) e⟩,fun i o hi=>hh.at_.dom i o (fro i o hi)⟩,hh.glob,hh.fresh⟩
   refine uX ?_ (hl L (by simp) res hs S π0 w a ro n hh' hf hr);rintro e a' w' ⟨p1,π1,g,p2,p3⟩;exact⟨p1,π1,⟨g.le,g.known,g.at_,fun i o hi=>(g.sub i o hi).imp_right fun⟨i0,o0,q,e,z⟩=>⟨i0,o0,fro _ _ q,e,z⟩,fun j hj hne=>g.keep j hj fun i o hi=>hne i o (fro i o hi),g.size,g.same⟩,p2,p3⟩
  ·exact GP (fun L hL=>hl L (qq3 _ hL)) rnd c fr st r res h hs S π0 w a ro n hh hf hr
end
structure eC (t:Tch) (ρ1 ρ2:Env):Prop where
 v:∀ i,dW i t.vs=false->ρ2.v i=ρ1.v i
 f1:∀ f,P5 t.ts f=false->ρ2.f1 f=ρ1.f1 f
 b:ρ2.b=ρ1.b
 f2:ρ2.f2=ρ1.f2
 s:ρ2.s=ρ1.s
 sf:ρ2.sf=ρ1.sf
 ro:ρ2.ro=ρ1.ro
 win:ρ2.win=ρ1.win
structure gL (t:Tch) (ρ1 ρ2:Env) (σ:Mt):Prop where
 dg:eC t ρ1 ρ2
 v:∀ i x,look σ.v i=some x->ρ2.v i=x.den ρ1
 a:∀ f ks a,look σ.a f=some (ks,a)->∀ (c:Nat) (k:CK),ks[c]?=some k->∀ j:Int,k.val (k.sym ρ2 f c j)=k.val (a.den ρ1 k c j)
section
variable {t:Tch} {ρ1 ρ2:Env} {σ:Mt} {π1:Pl}
theorem B.dg(A:eC t ρ1 ρ2)(b:B):b.den ρ2=b.den ρ1:=by cases b<;>simp only[B.den,A.b]
theorem JA(A:eC t ρ1 ρ2)(b:B):∀ l:List B,ay ρ2 l b=ay ρ1 l b
 |[]=>by simp only[ay,B.dg A]
 |c::l=>by simp only[ay,B.dg A,JA A b l]
theorem Dv(A:eC t ρ1 ρ2){f:Nat}(hf:P5 t.ts f=false)(lo:Int)(n:Nat):wq ρ2 f lo n=wq ρ1 f lo n:=by
 unfold wq;rw[A.f1 f hf]
theorem X.iu(A:eC t ρ1 ρ2):∀ x:X,x.free t=true->x.den ρ2=x.den ρ1/\x.bF ρ2=x.bF ρ1:=by
 intro x;induction x with
 |lit n=>exact fun _=>⟨rfl,rfl⟩
 |var i=>exact fun h=>⟨A.v i (by simpa[X.free]using h),rfl⟩
 |slit l=>exact fun _=>⟨rfl,rfl⟩
 |svar i=>exact fun _=>⟨rfl,by simp only[X.bF,A.s]⟩
 |bv l b=>exact fun _=>⟨JA A b l,rfl⟩
 |cube m v=>exact fun _=>⟨by simp only[X.den,bD,A.b],rfl⟩
 |wrap k a ia=>exact fun h=>⟨by simp only[X.den,(ia (by simpa[X.free]using h)).1],rfl⟩
 |not a ia=>exact fun h=>⟨by simp only[X.den,(ia (by simpa[X.free]using h)).1],rfl⟩
 |slen a ia=>exact fun h=>⟨by simp only[X.den,(ia (by simpa[X.free]using h)).2],rfl⟩
 |sfn f a ia=>
  intro h;refine⟨rfl,?_⟩;have e:=(ia (by simpa[X.free]using h)).1;simp only[X.bF,e];cases f with
  |zero=>rfl
  |succ f=>simp only[xm,A.sf]
 |fn1 f a ia=>
  intro h;simp only[X.free,qqw,qzk]at h;exact⟨by simp only[X.den,(ia h.2).1,A.f1 f h.1],rfl⟩
 |btext f a b ia ib=>
  intro h;simp only[X.free,qqw,qzk]at h;exact⟨rfl,by simp only[X.bF,(ia h.2.1).1,(ib h.2.2).1,Dv A h.1]⟩
 |ite c a b ic ia ib=>
  intro h;simp only[X.free,qqw]at h;exact⟨by simp only[X.den,(ic h.1).1,(ia h.2.1).1,(ib h.2.2).1],by simp only[X.bF,(ic h.1).1,(ia h.2.1).2,(ib h.2.2).2]⟩
 |fn2 f a b ia ib=>
  intro h;simp only[X.free,qqw]at h;exact⟨by simp only[X.den,(ia h.1).1,(ib h.2).1,A.f2],rfl⟩
 |scat a b ia ib=>
  intro h;simp only[X.free,qqw]at h;exact⟨rfl,by simp only[X.bF,(ia h.1).2,(ib h.2).2]⟩
 |seq a b ia ib=>
  intro h;simp only[X.free,qqw]at h;exact⟨by simp only[X.den,(ia h.1).2,(ib h.2).2],rfl⟩
 |_=>
  rename_i ia ib;intro h;simp only[X.free,qqw]at h;exact⟨by simp only[X.den,(ia h.1).1,(ib h.2).1],rfl⟩
theorem fC(E:gL t ρ1 ρ2 σ){p x:X}(h:tn t σ p x=true):p.den ρ2=x.den ρ1:=by
 unfold tn at h;split at h
 ·rename_i i;split at h
  ·rename_i y hy;rw[<-X.beq_eq h];exact E.v i y hy
  ·split at h
   ·cases h
   ·rename_i hm;rw[<-X.beq_eq h];exact E.dg.v i hm
 ·split at h
  ·rename_i hf;rw[<-X.beq_eq h];exact(X.iu E.dg _ hf).1
  ·cases h
theorem abk(E:gL t ρ1 ρ2 σ){p x:X}(h:amV t p x=true):p.bF ρ2=x.bF ρ1:=by
 unfold amV at h;split at h
 ·rename_i hf;rw[<-X.beq_eq h];exact(X.iu E.dg _ hf).2
 ·cases h
def OO(σ:Mt)(ρ:Env)(π:Pl):Pl:=fun i=>match look σ.u i with
 |some v=>⟨0,0,v.ab ρ π⟩
 |none=>π (σ.name i)
theorem qy{i:Nat}(h:look σ.u i=none):OO σ ρ1 π1 i=π1 (σ.name i):=by
 unfold OO;rw[h]
theorem jy{b c:Nat}(h:xj σ b c=true):OO σ ρ1 π1 b=π1 c:=by
 unfold xj at h;split at h
 ·cases h
 ·rename_i hu;rw[qy hu,qqq h]
theorem Vj(E:gL t ρ1 ρ2 σ){p q:XC}{b c:Nat}(h:Vi t σ p q=true)(hb:OO σ ρ1 π1 b=π1 c)(o:Nat):p.ab ρ2 (OO σ ρ1 π1) b o=q.ab ρ1 π1 c o:=by
 unfold Vi at h;split at h
 ·simp only[XC.ab,fC E h]
 ·simp only[XC.ab,fC E h,hb]
 ·cases h
theorem FA(E:gL t ρ1 ρ2 σ){w:Bool}{b c:Nat}(hb:OO σ ρ1 π1 b=π1 c) (hw:(match w with|true=>Nat.beq b c|false=>true)=true) (n:Nat):cU ρ2 (OO σ ρ1 π1) w b n=cU ρ1 π1 w c n:=by
 unfold cU;cases w with
 |true=>
  have:b=c:=qqq hw;subst this;simp only[if_true,E.dg.win]
 |false=>simp only[qqj,if_false,hb]
mutual
theorem uI(E:gL t ρ1 ρ2 σ):∀ (p v:V),fZ t σ p v=true->p.ab ρ2 (OO σ ρ1 π1)=v.ab ρ1 π1
 |.any k,v,h=>by
  unfold fZ at h;split at h
  ·rename_i u hu;obtain rfl:=V.beq_eq _ _ h;simp only[V.ab,OO,hu]
  ·cases h
 |.int k p,v,h=>by
  cases v<;>simp only[fZ,qqj]at h
  obtain⟨h1,h2,_⟩:=ar h;simp only[V.ab,fC E h2,a9 h1]
 |.bool p,v,h=>by
  cases v<;>simp only[fZ,qqj]at h
  simp only[V.ab,X.tt,fC E h]
 |.str p,v,h=>by
  cases v<;>simp only[fZ,qqj]at h
  simp only[V.ab,abk E h]
 |.ptr b o,v,h=>by
  cases v<;>simp only[fZ,qqj]at h
  obtain⟨h1,h2,_⟩:=ar h;simp only[V.ab,jy (ρ1:=ρ1) (π1:=π1) h1,qqq h2]
 |.nilptr,v,h=>by cases v<;>simp only[fZ,qqj]at h;rfl
 |.slice b o n c,v,h=>by
  cases v<;>simp only[fZ,qqj]at h
  rename_i b' o' n' c';obtain⟨h1,h2,h3,h4,_⟩:=ar h;have hc:c.ab (OO σ ρ1 π1)=c'.ab π1:=by
   unfold ac3 at h4;split at h4
   ·rw[qqq h4];rfl
   ·obtain⟨g1,g2,g3,_⟩:=ar h4;simp only[Cp.ab,jy (ρ1:=ρ1) (π1:=π1) g1,qqq g2,qqq g3]
   ·cases h4
  simp only[V.ab,jy (ρ1:=ρ1) (π1:=π1) h1,qqq h2,qqq h3,hc]
 |.nilslice,v,h=>by cases v<;>simp only[fZ,qqj]at h;rfl
 |.map b,v,h=>by
  cases v<;>simp only[fZ,qqj]at h
  simp only[V.ab,jy (ρ1:=ρ1) (π1:=π1) h]
 |.nilmap,v,h=>by cases v<;>simp only[fZ,qqj]at h;rfl
 |.func f a c,v,h=>by
  cases v<;>simp only[fZ,qqj]at h
  obtain⟨h1,h2,h3,_⟩:=ar h;simp only[V.ab,fq h1,gy E _ _ h2,gy E _ _ h3]
 |.yield b,v,h=>by
  cases v<;>simp only[fZ,qqj]at h
  simp only[V.ab,jy (ρ1:=ρ1) (π1:=π1) h]
 |.nilfunc,v,h=>by cases v<;>simp only[fZ,qqj]at h;rfl
 |.iface u x,v,h=>by
  cases v<;>simp only[fZ,qqj]at h
  obtain⟨h1,h2,_⟩:=ar h;simp only[V.ab,qqq h1,uI E _ _ h2]
 |.niliface,v,h=>by cases v<;>simp only[fZ,qqj]at h;rfl
 |.agg l,v,h=>by
  cases v<;>simp only[fZ,qqj]at h
  simp only[V.ab,gy E _ _ h]
 |.tuple l,v,h=>by
  cases v<;>simp only[fZ,qqj]at h
  simp only[V.ab,gy E _ _ h]
 |.wptr b o,v,h=>by
  cases v<;>simp only[fZ,qqj]at h
  obtain⟨h1,h2,_⟩:=ar h;simp only[V.ab,E.dg.win,qqq h1,qqq h2]
 |.wslice b o n c,v,h=>by
  cases v<;>simp only[fZ,qqj]at h
  obtain⟨h1,h2,h3,h4,_⟩:=ar h;simp only[V.ab,E.dg.win,qqq h1,qqq h2,fC E h3,fC E h4]
 |.sptr b o n i,v,h=>by
  cases v<;>simp only[fZ,qqj]at h
  obtain⟨h1,h2,h3,h4,_⟩:=ar h;simp only[V.ab,jy (ρ1:=ρ1) (π1:=π1) h1,qqq h2,fC E h4]
 |.xslice w b off es n c,v,h=>by
  cases v<;>simp only[fZ,qqj]at h
  obtain⟨h1,h2,h3,h4,h5,h6⟩:=ar h;obtain⟨h7,h8,_⟩:=ar h2;obtain rfl:=dj h1;have hb:=jy (ρ1:=ρ1) (π1:=π1) h7;simp only[V.ab,fC E h3,fC E h5,qqq h4,Vj E h6 hb,FA E hb h8]
 |.xptr w b i es c,v,h=>by
  cases v<;>simp only[fZ,qqj]at h
  obtain⟨h1,h2,h3,h4,h5,_⟩:=ar h;obtain⟨h7,h8,_⟩:=ar h2;obtain rfl:=dj h1;have hb:=jy (ρ1:=ρ1) (π1:=π1) h7;simp only[V.ab,fC E h3,qqq h4,qqq h5,FA E hb h8]
 |.ite _ _ _,v,h=>by cases v<;>simp only[fZ,qqj]at h
 |.rest _ _ _ _,v,h=>by cases v<;>simp only[fZ,qqj]at h
theorem gy(E:gL t ρ1 ρ2 σ):∀ (l m:List V),mo t σ l m=true->V.ae ρ2 (OO σ ρ1 π1) l=V.ae ρ1 π1 m
 |[],[],_=>rfl
 |[],_::_,h=>by simp[mo]at h
 |_::_,[],h=>by simp[mo]at h
 |p::l,v::m,h=>by
  obtain⟨h1,h2,_⟩:=ar h;simp only[V.ae,uI E p v h1,gy E l m h2]
end
theorem rk {l:List (Nat×Nat)} {f:Nat}:∀ {n:Nat},xR l f n=true->∀ c,c<n->P5 l (f+c)=false
 |0,_,c,hc=>by omega
 |n+1,h,c,hc=>by
  unfold xR at h;split at h
  ·cases h
  ·rename_i hn;by_cases e:c=n
   ·subst e;exact hn
   ·exact rk h c (by omega)
theorem yw(A:eC t ρ1 ρ2){f c:Nat} (h:P5 t.ts (f+c)=false) (k:CK) (j:Int):k.sym ρ2 f c j=k.sym ρ1 f c j:=by
 cases k<;>simp only[CK.sym,A.f1 _ h]
theorem A.iu(G:eC t ρ1 ρ2){n:Nat}(k:CK){c:Nat}(hc:c<n)(j:Int):∀ a:A,a.free t n=true->a.den ρ2 k c j=a.den ρ1 k c j
 |.base f,h=>yw G (rk h c hc) k j
 |.fill x,h=>(X.iu G x h).1
 |.put a i c' x,h=>by
  simp only[A.free,qqw]at h;simp only[A.den,(X.iu G i h.2.1).1,(X.iu G x h.2.2).1,A.iu G k hc j a h.1]
theorem abj(E:gL t ρ1 ρ2 σ){ks:List CK}{p a:A}(h:abg t σ ks p a=true){c:Nat}{k:CK} (hk:ks[c]?=some k) (j:Int):k.val (p.den ρ2 k c j)=k.val (a.den ρ1 k c j):=by
 have hc:=(qq5.1 hk).1;unfold abg at h;split at h
 ·rename_i f;split at h
  ·rename_i ks' b hl;split at h
   ·rename_i hks;obtain rfl:=CK.aR hks;rw[<-A.beq_eq h];exact E.a f ks b hl c k hk j
   ·cases h
  ·split at h
   ·rename_i hn;rw[<-A.beq_eq h];simp only[A.den,yw E.dg (rk hn c hc)]
   ·cases h
 ·split at h
  ·rename_i hf;rw[<-A.beq_eq h,A.iu E.dg k hc j _ hf]
  ·cases h
theorem S6(E:gL t ρ1 ρ2 σ){ks:List CK}{p a:A}(h:abg t σ ks p a=true){n:Nat}{get:Nat->Option Value}(hr:ko ρ1 a ks n get):ko ρ2 p ks n get:=fun j c k hj hk=>by
 rw[abj E h hk];exact hr j c k hj hk
theorem JV(E:gL t ρ1 ρ2 σ):∀ {l m:List (V×V)},JU t σ l m=true->entriesOf ρ2 (OO σ ρ1 π1) l=entriesOf ρ1 π1 m
 |[],[],_=>rfl
 |[],_::_,h=>by simp[JU]at h
 |_::_,[],h=>by simp[JU]at h
 |(k,v)::l,(j,u)::m,h=>by
  obtain⟨h1,h2,h3,_⟩:=ar h;have:=JV E h3;simp only[entriesOf]at this;simp only[entriesOf,List.map_cons,uI E _ _ h1,uI E _ _ h2,this]
theorem uG(E:gL t ρ1 ρ2 σ){i:Nat}(hu:look σ.u i=none){p o:ak}(h:sI t σ i p o=true){ob:Obj} (ho:o.is ρ1 π1 (σ.name i) ob):p.is ρ2 (OO σ ρ1 π1) i ob:=by
 have hi:=qy (ρ1:=ρ1) (π1:=π1) hu;unfold sI at h;split at h
 ·obtain⟨h1,h2,h3,_⟩:=ar h;obtain rfl:=qqq h1;obtain rfl:=iF h2;obtain⟨spare,e1,e2⟩:=ho;have e3:=gy (π1:=π1) E _ _ h3;have e4:=congrArg List.length e3;rw[au,au]at e4;exact⟨spare,by rw[e3];exact e1,by rw[e4,hi];exact e2⟩
 ·obtain⟨ms,clock,e1,e2,e3⟩:=ho;have e4:=JV (π1:=π1) E h;exact⟨ms,clock,e1,by rw[e4];exact e2,by rw[e4];exact e3⟩
 ·obtain⟨h1,h2,h3,h4,h5,h6⟩:=ar h;obtain⟨h7,h8,_⟩:=ar h6;obtain rfl:=fq h1;obtain rfl:=sM h2;obtain rfl:=u0 h5;obtain rfl:=i6 h7;obtain rfl:=i6 h8;obtain⟨fn,e1⟩:=ho;exact⟨fn,by rw[gy E _ _ h3,jy h4];exact e1⟩
 ·exact ho
 ·exact ho
 ·obtain⟨h1,h2,_⟩:=ar h;obtain rfl:=qqq h1;obtain⟨⟨ty,fr,e1⟩,e2⟩:=ho;exact⟨⟨ty,fr,by rw[gy E _ _ h2];exact e1⟩,by rw[E.dg.ro];exact e2⟩
 ·obtain⟨h1,h2,h3,h4,h5,_⟩:=ar h;obtain rfl:=qqq h1;obtain rfl:=qqq h4;have hn:=qqq h5;obtain⟨⟨e1,e2,cs,ty,fr,e3,e4⟩,e5⟩:=ho;rw[hn]at e1 e2 e4;have e6:=gy (π1:=π1) E _ _ h2;refine⟨⟨by rw[E.dg.win];exact e1,by rw[E.dg.win,hi,hn];exact e2,cs,ty,fr,e3,fun j v hj hlt=>?_⟩,by rw[E.dg.ro];exact e5⟩;rw[fC E h3]at hlt;have e7:=congrArg (fun l=>l[j]?) e6;simp only[bu,hj,Option.map_some]at e7;rw[E.dg.win];cases hq:(‹List V›)[j]? with
  |none=>rw[hq]at e7;simp at e7
  |some u=>
   rw[hq]at e7;simp only[Option.map_some,qqk]at e7;rw[e7];exact e4 j u hq hlt
 ·exact ho
 ·obtain⟨since,last,e1⟩:=ho;exact⟨since,last,by rw[jy h];exact e1⟩
 ·obtain⟨h1,h2,h3,h4,h5,_⟩:=ar h;obtain rfl:=CK.aR h2;obtain rfl:=qqq h4;obtain rfl:=dj h5;obtain⟨cs,e1,e2,e3,e4⟩:=ho;refine⟨cs,e1,by rw[fC E h3];exact e2,fun hw=>by rw[hi];exact e3 hw,?_⟩;rw[fC E h3];exact S6 E h1 e4
 ·obtain⟨h1,h2,h3,h4,h5,h6⟩:=ar h;obtain rfl:=qqq h1;obtain rfl:=qqq h2;obtain rfl:=CK.aR h3;have hn:=qqq h6;obtain⟨⟨e1,e2,cs,ty,fr,e3,e4⟩,e5⟩:=ho;rw[hn]at e1 e2 e4;refine⟨⟨by rw[E.dg.win];exact e1,by rw[E.dg.win,hi,hn];exact e2,cs,ty,fr,e3,?_⟩,by rw[E.dg.ro];exact e5⟩;rw[fC E h4,E.dg.win];intro j c k hj hk;have:=e4 j c k hj hk;simp only[A.den]at this ⊢;rw[yw E.dg (rk h5 c (qq5.1 hk).1) k j];exact this
 ·cases h
theorem NJ{i:Nat}{p o:ak}(h:sI t σ i p o=true):p.bg=o.bg:=by
 unfold sI at h;split at h<;>first|rfl|cases h
theorem D9{h:H}:∀ {l:List (Nat×ak)} {i:Nat} {p:ak},PO t σ h l=true->(i,p)∈l->look σ.u i=none/\∃ o,h.get (σ.name i)=some o/\sI t σ i p o=true
 |[],i,p,_,hm=>by simp at hm
 |(j,q)::l,i,p,hf,hm=>by
  unfold PO at hf;split at hf
  ·cases hf
  ·rename_i hu;split at hf
   ·rename_i o ho;split at hf
    ·rename_i hq;rcases List.mem_cons.1 hm with e|hm
     ·obtain⟨rfl,rfl⟩:i=j/\p=q:=by simpa using e
      exact⟨hu,o,ho,hq⟩
     ·exact D9 hf hm
    ·cases hf
   ·cases hf
theorem fQ{i:Nat}{o:ak}:∀ {l:List (Nat×ak)},(tx l).get i=some o->(i,o)∈l
 |[],h=>by simp only[tx,T.get_nil]at h;cases h
 |(j,p)::l,h=>by
  unfold tx at h;by_cases e:j=i
  ·subst e;rw[T.aP]at h;obtain rfl:=qqz h;exact qq1
  ·rw[T.aB _ _ e]at h;exact qq3 _ (fQ h)
theorem aa7{ρ:Env}{pc:PC}{x:X}{b:Bool}(hp:ai ρ pc)(h:aa6 pc x b=true):x.tt ρ=b:=by
 unfold aa6 at h;split at h
 ·rename_i c hc;rw[dz hp hc,dj h]
 ·split at h
  ·rename_i c hc;rw[wY hp hc,dj h]
  ·cases h
end
section
variable {ρ:Env} {π π':Pl}
mutual
theorem V.ly:∀ v:V,(∀ b∈v.iB,π b=π' b)->v.ab ρ π=v.ab ρ π'
 |.int _ _,_=>rfl
 |.bool _,_=>rfl
 |.str _,_=>rfl
 |.ptr b o,h=>by simp only[V.ab,h b (by simp[V.iB])]
 |.nilptr,_=>rfl
 |.slice b o n c,h=>by
  have hb:=h b (by simp[V.iB]);cases c with
  |known m=>simp only[V.ab,Cp.ab,hb]
  |room b' o' m=>simp only[V.ab,Cp.ab,hb,h b' (by simp[V.iB,Cp.iB])]
 |.nilslice,_=>rfl
 |.map b,h=>by simp only[V.ab,h b (by simp[V.iB])]
 |.nilmap,_=>rfl
 |.func f a c,h=>by simp only[V.ab,V.cW a fun b hb=>h b (by simp[V.iB,hb]),V.cW c fun b hb=>h b (by simp[V.iB,hb])]
 |.yield b,h=>by simp only[V.ab,h b (by simp[V.iB])]
 |.nilfunc,_=>rfl
 |.iface t v,h=>by simp only[V.ab,V.ly v fun b hb=>h b (by simpa[V.iB]using hb)]
 |.niliface,_=>rfl
 |.agg l,h=>by simp only[V.ab,V.cW l fun b hb=>h b (by simpa[V.iB]using hb)]
 |.tuple l,h=>by simp only[V.ab,V.cW l fun b hb=>h b (by simpa[V.iB]using hb)]
 |.wptr b o,_=>rfl
 |.wslice b o n c,_=>rfl
 |.ite c a b,h=>by simp only[V.ab,V.ly a fun b hb=>h b (by simp[V.iB,hb]),V.ly b fun b hb=>h b (by simp[V.iB,hb])]
 |.sptr b o n i,h=>by simp only[V.ab,h b (by simp[V.iB])]
 |.rest b o l s,h=>by simp only[V.ab,h b (by simp[V.iB])]
 |.xslice w b off es n c,h=>by
  have hb:=h b (by simp[V.iB]);cases c<;>simp only[V.ab,XC.ab,cU,hb]
 |.xptr w b i es c,h=>by simp only[V.ab,cU,h b (by simp[V.iB])]
 |.any k,h=>by simp only[V.ab,h k (by simp[V.iB])]
theorem V.cW:∀ l:List V,(∀ b∈V.gz l,π b=π' b)->V.ae ρ π l=V.ae ρ π' l
 |[],_=>rfl
 |v::l,h=>by simp only[V.ae,V.ly v fun b hb=>h b (by simp[V.gz,hb]),V.cW l fun b hb=>h b (by simp[V.gz,hb])]
end
theorem wW:∀ l:List cz,(∀ b∈Df l,π b=π' b)->l.map (cz.ab ρ π)=l.map (cz.ab ρ π')
 |[],_=>rfl
 |.mark b::l,h=>by simp only[List.map_cons,cz.ab,h b (by simp[Df]),wW l fun c hc=>h c (by simp[Df,hc])]
 |.fn f a c::l,h=>by
  simp only[List.map_cons,cz.ab,V.cW a fun b hb=>h b (by simp[Df,hb]),V.cW c fun b hb=>h b (by simp[Df,hb]),wW l fun c hc=>h c (by simp[Df,hc])]
theorem w8:∀ l:List (V×V),(∀ b∈RY l,π b=π' b)->entriesOf ρ π l=entriesOf ρ π' l
 |[],_=>rfl
 |(k,v)::l,h=>by
  have:=w8 l fun c hc=>h c (by simp[RY,hc])
  simp only[entriesOf]at this;simp only[entriesOf,List.map_cons,V.ly k fun b hb=>h b (by simp[RY,hb]),V.ly v fun b hb=>h b (by simp[RY,hb]),this]
theorem ak.Bx{i:Nat}{ob:Obj}(hi:π i=π' i):∀ {o:ak},(∀ b∈o.iB,π b=π' b)->o.is ρ π i ob->o.is ρ π' i ob
 |.cells c e w,h,⟨spare,h1,h2⟩=>⟨spare,by rw[<-V.cW c h];exact h1,by rw[<-hi];exact h2⟩
 |.map es,h,⟨ms,clock,h1,h2,h3⟩=>⟨ms,clock,h1,by rw[<-w8 es h];exact h2,by rw[<-w8 es h];exact h3⟩
 |.loop s p tm ps as bd d,h,⟨fn,h1⟩=>⟨fn,by rw[<-V.cW tm fun b hb=>h b (by simp[ak.iB,hb]),<-h d (by simp[ak.iB])];exact h1⟩
 |.deferred none,_,h1=>h1
 |.deferred (some l),h,h1=>by
  have h1':ob=.deferred (some (l.map (cz.ab ρ π))):=h1;show ob=.deferred (some (l.map (cz.ab ρ π')));rw[<-wW l h];exact h1'
 |.ro g c,h,⟨⟨t,fr,h1⟩,h2⟩=>⟨⟨t,fr,by rw[<-V.cW c h];exact h1⟩,h2⟩
 |.win g c n es,h,⟨⟨h1,h2,cs,t,fr,h3,h4⟩,h5⟩=>⟨⟨h1,by rw[<-hi];exact h2,cs,t,fr,h3,fun j v hj hlt=>by
   have e:=V.cW (ρ:=ρ) c h;have e2:=congrArg (fun l=>l[j]?) e;simp only[bu,hj,Option.map_some,qqk]at e2;rw[<-e2];exact h4 j v hj hlt⟩,h5⟩
 |.iter none,_,h1=>h1
 |.iter (some b),h,⟨since,last,h1⟩=>⟨since,last,by rw[<-h b (by simp[ak.iB])];exact h1⟩
 |.arr a ks n e w,_,⟨cs,h1,h2,h3,h4⟩=>⟨cs,h1,h2,by rw[<-hi];exact h3,h4⟩
 |.warr g f ks n,_,⟨⟨h1,h2,h3⟩,h4⟩=>⟨⟨h1,by rw[<-hi];exact h2,h3⟩,h4⟩
 |.opt x c e,h,h1=>fun hx=>by rw[<-V.cW c h];exact h1 hx
end
theorem kA{a:Nat}:∀ {l:List Nat},dW a l=true->a∈l
 |[],h=>by simp[dW]at h
 |b::l,h=>by
  simp only[dW,qz7]at h;rcases h with h|h
  ·rw[qqq h];exact qq1
  ·exact qq3 _ (kA h)
theorem IW:∀ {l m:List Nat},Fm l m=true->∀ a∈l,a∈m
 |[],_,_,a,ha=>by simp at ha
 |b::l,m,h,a,ha=>by
  unfold Fm at h;split at h
  ·rename_i hb;rcases List.mem_cons.1 ha with rfl|ha
   ·exact kA hb
   ·exact IW h a ha
  ·cases h
theorem lM{kn:List Nat}:∀ {l:List (Nat×ak)},zh kn l=true->∀ i o,(i,o)∈l->i∈kn/\∀ b∈o.iB,b∈kn
 |[],_,i,o,h=>by simp at h
 |(j,q)::l,h,i,o,hm=>by
  unfold zh at h;split at h
  ·rename_i hj;split at h
   ·rename_i hq;rcases List.mem_cons.1 hm with e|hm
    ·obtain⟨rfl,rfl⟩:i=j/\o=q:=by simpa using e
     exact⟨kA hj,IW hq⟩
    ·exact lM h i o hm
   ·cases h
  ·cases h
theorem nx{n:Nat}:∀ {l:List Nat},Ax n l=true->∀ i∈l,i<n
 |[],_,i,h=>by simp at h
 |j::l,h,i,hm=>by
  unfold Ax at h;split at h
  ·rename_i hj;rcases List.mem_cons.1 hm with rfl|hm
   ·exact qqx hj
   ·exact nx h i hm
  ·cases h
theorem Bm{kn:List Nat}:∀ {n:Nat},zY kn n=true->∀ g,g<n->g∈kn
 |0,_,g,h=>by omega
 |n+1,h,g,hg=>by
  unfold zY at h;split at h
  ·rename_i hn;by_cases e:g=n
   ·subst e;exact kA hn
   ·exact Bm h g (by omega)
  ·cases h
theorem oI{ng:Nat}{h:H}{n:Nat}:∀ {l:List Nat},ru ng h n l=true->∀ i∈l,i<n->i<ng\/∃ o,h.get i=some o
 |[],_,i,hm,_=>by simp at hm
 |j::l,he,i,hm,hi=>by
  unfold ru at he;have lt:∀ a b:Nat,a<b->Nat.blt a b=true:=fun a b hab=>qkq hab
  split at he
  ·rename_i hj;rcases List.mem_cons.1 hm with rfl|hm
   ·rw[lt _ _ hi]at hj;cases hj
   ·exact oI he i hm hi
  ·split at he
   ·rename_i hg;rcases List.mem_cons.1 hm with rfl|hm
    ·exact .inl (qqx hg)
    ·exact oI he i hm hi
   ·split at he
    ·rename_i o ho;rcases List.mem_cons.1 hm with rfl|hm
     ·exact .inr ⟨o,ho⟩
     ·exact oI he i hm hi
    ·cases he
theorem jR{n:Nat}{m:List Nat}:∀ {l:List Nat},bX n m l=true->∀ i∈l,i<n->i∈m
 |[],_,i,hm,_=>by simp at hm
 |j::l,he,i,hm,hi=>by
  unfold bX at he;split at he
  ·rename_i hj;rcases List.mem_cons.1 hm with rfl|hm
   ·rw[show Nat.blt i n=true from qkq hi]at hj;cases hj
   ·exact jR he i hm hi
  ·split at he
   ·rename_i hj;rcases List.mem_cons.1 hm with rfl|hm
    ·exact kA hj
    ·exact jR he i hm hi
   ·cases he
section
variable {P:Program} {cx:Cx} {ρ:Env}
structure Trk (n:Nat) (kn:List Nat) (h:H) (π0:Pl) (h0:H) (w0:World) (π1:Pl) (w1:World):Prop where
 base:∀ i∈kn,i<n->π1 i=π0 i
 sub:∀ i o,h.get i=some o->w0.heap.size<=(π1 i).1\/∃ i0 o0,h0.get i0=some o0/\(π0 i0).1=(π1 i).1/\(o0.bg=true->o.bg=true)
 keep:∀ j,j<w0.heap.size->(∀ i o,h0.get i=some o->(π0 i).1=j->o.bg=true)->w1.heap[j]?=w0.heap[j]?
 size:w0.heap.size<=w1.heap.size
 same:w1.tape=w0.tape/\w1.os=w0.os/\w1.output=w0.output
theorem Trk.go{n:Nat}{kn kn':List Nat}{I p:DC}{π0 π1 π':Pl}{h0:H}{w0 w1 w':World}{ρ1:Env}{t:Tch}{σ:Mt}{fr:Fr}{st:St}{m:Nat}(T:Trk n kn I.st.h π0 h0 w0 π1 w1) (g:dt ρ1 (·∈kn) π1 I.st.h w1 m π' st.h w' st.n)
  (hf:fit t σ n p fr st=true) (hkn:∀ i∈kn',i<n->i∈kn) (hp:∀ i∈kn',i<n->look σ.u i=none/\σ.name i=i):Trk n kn' p.st.h π0 h0 w0 (OO σ ρ1 π') w':=by
 unfold fit at hf;obtain⟨_,_,f3,_⟩:=ar hf;refine⟨fun i hi hn=>?_,fun i o hi=>?_,fun j hj hne=>?_,qzq T.size g.size,⟨g.same.1.trans T.same.1,g.same.2.1.trans T.same.2.1,g.same.2.2.trans T.same.2.2⟩⟩
 ·obtain⟨hu,hnm⟩:=hp i hi hn;rw[qy hu,hnm,g.known i (hkn i hi hn)];exact T.base i (hkn i hi hn) hn
 ·obtain⟨hu,q,hq,hfo⟩:=D9 f3 (fQ hi);rw[qy hu,NJ hfo];rcases g.sub _ q hq with h1|⟨i0,o0,h1,h2,z⟩
  ·exact .inl (qzq T.size h1)
  ·rw[<-h2];exact(T.sub i0 o0 h1).imp id fun⟨i1,o1,h3,h4,z'⟩=>⟨i1,o1,h3,h4,fun q=>z (z' q)⟩
 ·rw[g.keep j (qzw hj T.size) fun i o hi e=>?_,T.keep j hj hne];rcases T.sub i o hi with h1|⟨i0,o0,h1,h2,z⟩
  ·omega
  ·exact z (hne i0 o0 h1 (h2.trans e))
def LL.iw:LL->LL->Prop
 |.next σ,.next τ=>σ.v=τ.v/\σ.a=τ.a
 |.out k σ,.out j τ=>k=j/\σ.v=τ.v/\σ.a=τ.a
 |.never,.never=>True
 |_,_=>False
theorem LL.Sn(x:LL):x.iw x:=by cases x<;>first|trivial|exact⟨rfl,rfl⟩|exact⟨rfl,rfl,rfl⟩
theorem gL.iw{t:Tch}{ρ1 ρ2:Env}{σ τ:Mt}(h:σ.v=τ.v/\σ.a=τ.a)(E:gL t ρ1 ρ2 σ):gL t ρ1 ρ2 τ:=⟨E.dg,fun i x hx=>E.v i x (by rw[h.1];exact hx),fun f ks a ha=>E.a f ks a (by rw[h.2];exact ha)⟩
end
noncomputable section
def mQ:List (Nat×ak)->H->H
 |[],h=>h
 |(i,o)::l,h=>(mQ l h).set i o
def rn (r:List (Nat×Nat)) (m n i:Nat):Nat:=match Nat.blt i n with
 |true=>eD r i
 |false=>i-n+m
structure gk where
 args:List V
 items:List (Nat×ak)
 n:Nat
 pc:PC
def gk.st (L:List (Nat×List V)) (p:gk):St:={h:=mQ p.items (lW L),n:=p.n,pc:=p.pc}
def dE:List (Nat×ak)->List Nat
 |[]=>[]
 |(i,o)::l=>match o.bg with
  |true=>dE l
  |false=>i::dE l
def Ev(h:H):List Nat->Option (List (Nat×ak))
 |[]=>some []
 |i::l=>match h.get i with
  |some o=>match o.plain with
   |true=>match Ev h l with
    |some os=>some ((i,o)::os)
    |none=>none
   |false=>none
  |none=>none
def Ql:List (Nat×ak)->List Nat
 |[]=>[]
 |(_,o)::l=>o.names++Ql l
def sK(p:gk):j4->R Leaf
 |.ok (.ret v,st)=>match v.dA with
  |true=>match Ev st.h (dE p.items)with
   |some os=>.ok {v:=v,objs:=os++lN st.h p.n (reach st.h p.n 6 (wK (v.names++Ql os) [])),n:=st.n}
   |none=>.stuck "an object has gone"
  |false=>.stuck "a value"
 |.ok (.panic _,_)=>.stuck "a panic"
 |.br c t f=>.br c (sK p t) (sK p f)
 |.stuck s=>.stuck s
def eJ:List (Nat×ak)->List Nat
 |[]=>[]
 |(i,_)::l=>i::eJ l
def knX(ng:Nat)(ns:List Nat)(i:Nat):Bool:=match Nat.blt i ng with
 |true=>true
 |false=>dW i ns
def dU(ng:Nat)(ns:List Nat):List Nat->Bool
 |[]=>true
 |i::l=>match knX ng ns i with
  |true=>dU ng ns l
  |false=>false
def wX(pc:PC)(x:X)(b:Bool):Bool:=match x with
 |.lit n=>j0 (!aT n 0) b
 |.not y=>wX pc y (!b)
 |x=>aa6 pc x b
end
open Go.RowKit
theorem mR:∀ {ws:List (Nat×ak)} {h:H} {i:Nat} {o:ak},(mQ ws h).get i=some o->(i,o)∈ws\/((∀ x∈ws,x.1≠i)/\h.get i=some o)
 |[],h,i,o,hi=>.inr ⟨fun _ hx=>(by cases hx),hi⟩
 |(j,q)::l,h,i,o,hi=>by
  simp only[mQ]at hi;by_cases e:j=i
  ·subst e;rw[T.aP]at hi;obtain rfl:=qqz hi;exact .inl (qq1 ..)
  ·rw[T.aB _ _ e]at hi;rcases mR hi with h1|⟨h1,h2⟩
   ·exact .inl (qq3 _ h1)
   ·refine .inr ⟨fun x hx=>?_,h2⟩;rcases List.mem_cons.1 hx with rfl|hx
    ·exact e
    ·exact h1 x hx
theorem mq:∀ {l:List (Nat×ak)} {i:Nat} {o:ak},(i,o)∈l->o.bg=false->i∈dE l
 |[],_,_,h,_=>by cases h
 |(j,q)::l,i,o,h,hz=>by
  unfold dE;rcases List.mem_cons.1 h with e|h
  ·injection e with e1 e2;subst e1 e2;rw[hz];exact qq1 ..
  ·have:=mq h hz;split
   ·exact this
   ·exact qq3 _ this
theorem Bz:∀ {l:List (Nat×ak)} {i:Nat},dW i (eJ l)=true->∃ o,(i,o)∈l
 |[],_,h=>by simp[eJ,dW]at h
 |(j,o)::l,i,h=>by
  simp only[eJ,dW,qz7]at h;rcases h with h|h
  ·rw[qqq h];exact⟨o,qq1 ..⟩
  ·obtain⟨q,hq⟩:=Bz h;exact⟨q,qq3 _ hq⟩
theorem BQ:∀ {l:List (Nat×ak)} {i:Nat} {o:ak},(i,o)∈l->dW i (eJ l)=true
 |[],_,_,h=>by cases h
 |(j,q)::l,i,o,h=>by
  simp only[eJ,dW,qz7];rcases List.mem_cons.1 h with e|h
  ·injection e with e1 _;subst e1;exact .inl (qz6 _)
  ·exact .inr (BQ h)
theorem Aw{ng:Nat}{ns:List Nat}:∀ {l:List Nat},dU ng ns l=true->∀ i∈l,knX ng ns i=true
 |[],_,_,h=>by cases h
 |j::l,h,i,hi=>by
  unfold dU at h;split at h
  ·rename_i hj;rcases List.mem_cons.1 hi with rfl|hi
   ·exact hj
   ·exact Aw h i hi
  ·cases h
theorem Ew{h:H}:∀ {l:List Nat} {os:List (Nat×ak)},Ev h l=some os->(∀ x∈os,h.get x.1=some x.2/\x.2.plain=true)/\∀ i∈l,∃ o,(i,o)∈os
 |[],os,e=>by
  simp only[Ev,qqk]at e;subst e;exact⟨fun _ hx=>(by cases hx),fun _ hi=>(by cases hi)⟩
 |i::l,os,e=>by
  unfold Ev at e;split at e
  ·rename_i o ho;split at e
   ·rename_i hp;split at e
    ·rename_i os' hos;obtain rfl:=qqz e;obtain⟨h1,h2⟩:=Ew hos;refine⟨fun x hx=>?_,fun j hj=>?_⟩
     ·rcases List.mem_cons.1 hx with rfl|hx
      ·exact⟨ho,hp⟩
      ·exact h1 x hx
     ·rcases List.mem_cons.1 hj with rfl|hj
      ·exact⟨o,qq1 ..⟩
      ·obtain⟨q,hq⟩:=h2 j hj;exact⟨q,qq3 _ hq⟩
    ·cases e
   ·cases e
  ·cases e
section
variable {ρ:Env} {σ:Sub} {π:Pl}
theorem mi{pc:PC}(hp:ai ρ pc):∀ {x:X} {b:Bool},wX pc x b=true->x.tt ρ=b:=by
 intro x;induction x with
 |lit n=>
  intro b h;rw[<-dj h,bR];rfl
 |not y ih=>
  intro b h;have:=ih (show wX pc y (!b)=true from h);simp only[X.tt,X.den,da]at this ⊢;cases hy:y.den ρ==0<;>cases b<;>simp_all
 |_=>exact fun h=>aa7 hp h
theorem xI{p:gk}{lf:Leaf}:∀ {e:j4},(sK p e).ag ρ=some lf->∃ st' os ns,e.ag ρ=some (.ret lf.v,st')/\lf.v.dA=true/\Ev st'.h (dE p.items)=some os/\lf.objs=os++lN st'.h p.n ns/\lf.n=st'.n
 |.ok (.ret v,st),h=>by
  unfold sK at h;split at h
  ·rename_i hv;split at h
   ·rename_i os hos;simp only[R.ag,qqk]at h;subst h;exact⟨st,os,_,rfl,hv,hos,rfl,rfl⟩
   ·simp[R.ag]at h
  ·simp[R.ag]at h
 |.ok (.panic _,_),h=>by simp[sK,R.ag]at h
 |.br c t f,h=>by
  unfold sK at h;unfold R.ag at h ⊢;split at h
  ·rename_i hc;rw[if_pos hc];exact xI h
  ·rename_i hc;rw[if_neg hc];exact xI h
 |.stuck _,h=>by simp[sK,R.ag]at h
end
section
variable {P:Program} {cx cx0:Cx} {ρ:Env} {σ:Sub} {S:Nat→Prop} {π0:Pl} {st st':St} {w:World} {L:List (Nat×List V)} {ng:Nat}
end
def IQ (L:List (Nat×List V)) (ws:List (Nat×ak)) (n:Nat) (pc:PC):St:={h:=mQ ws (lW L),n:=n,pc:=pc}
noncomputable def kq:j4->Bool
 |.ok (.ret (.bool x),st)=>C7 1000 st.pc x true
 |.ok _=>false
 |.br _ t f=>match kq t with
  |true=>kq f
  |false=>false
 |.stuck _=>false
section
variable {P:Program} {cx:Cx} {ρ:Env} {W:World} {L:List (Nat×List V)} {ws:List (Nat×ak)} {ng nm:Nat} {pc:PC}
theorem pz:∀ {r:j4},kq r=true->∃ x st,r.ag ρ=some (.ret (.bool x),st)/\(ai ρ st.pc->x.tt ρ=true)
 |.ok a,h=>by
  unfold kq at h;split at h
  ·rename_i x st e;injection e with e;subst e;exact⟨x,st,rfl,fun hp=>gN hp h⟩
  ·cases h
  ·rename_i e;cases e
  ·rename_i e;cases e
 |.br c t f,h=>by
  unfold kq at h;split at h
  ·rename_i ht;unfold R.ag;split
   ·exact pz ht
   ·exact pz h
  ·cases h
 |.stuck _,h=>by simp[kq]at h
structure RowsAt (ρ:Env) (W:World) (ws:List (Nat×ak)) (ng nm:Nat):Prop where
 lo:∀ x∈ws,ng<=x.1/\x.1<nm
 le:ng<=nm
 obj:∀ x∈ws,W.heap[(ρ.win x.1).block]?=some (ρ.ro x.1)
 bg:∀ x∈ws,x.2.bg=true
 is:∀ x∈ws,∀ π:Pl,(π x.1).1=(ρ.win x.1).block->x.2.is ρ π x.1 (ρ.ro x.1)
def πRows(ρ:Env)(ng:Nat):Pl:=fun i=>match Nat.ble ng i with
 |true=>⟨(ρ.win i).block,0,.nilFunc⟩
 |false=>⟨i,0,.nilFunc⟩
theorem πRows_win{i:Nat}(h:ng<=i):(πRows ρ ng i).1=(ρ.win i).block:=by
 unfold πRows;rw[qkq h]
theorem πRows_glob{i:Nat}(h:i<ng):(πRows ρ ng i).1=i:=by
 unfold πRows;cases hb:Nat.ble ng i with
 |true=>have:=qqx hb;omega
 |false=>rfl
theorem R9(hng:cx.ng=ng)(hL:∀ x∈L,x.1<ng)(hro:RoAt ρ L) (hW:∀ x∈L,W.heap[x.1]?=some (ρ.ro x.1)) (hw:RowsAt ρ W ws ng nm) (hpc:ai ρ pc):b8 cx ρ (fun i=>i<nm) (πRows ρ ng) (IQ L ws nm pc) W:=by
 have hget:∀ i o,(mQ ws (lW L)).get i=some o->(i,o)∈ws\/∃ x∈L,i=x.1/\o=.ro x.1 x.2:=by
  intro i o hi;rcases mR hi with h|⟨_,h⟩
  ·exact .inl h
  ·exact .inr (dD h)
 have hle:=hw.le;have hfr:∀ i o,(mQ ws (lW L)).get i=some o->o.bg=true:=by
  intro i o hi;rcases hget i o hi with h|⟨x,hx,rfl,rfl⟩
  ·exact hw.bg _ h
  ·rfl
 refine⟨hpc,⟨fun π hk=>⟨fun i o hi=>?_,fun i j o o' hi hj e=>?_⟩,fun i o hi=>?_⟩,fun g hg=>?_,fun i hi hs=>?_⟩
 ·rcases hget i o hi with h|⟨x,hx,rfl,rfl⟩
  ·have hlo:=hw.lo _ h;have h1:(π i).1=(ρ.win i).block:=by rw[hk i hlo.2];exact πRows_win hlo.1
   exact⟨_,by rw[h1];exact hw.obj _ h,hw.is _ h π h1⟩
  ·have hlt:=hL x hx;have h1:(π x.1).1=x.1:=by rw[hk x.1 (by show x.1<nm;omega)];exact πRows_glob hlt
   obtain⟨t,fr,h2⟩:=hro.is x hx;exact⟨_,by rw[h1];exact hW x hx,⟨t,fr,h2 π⟩,rfl⟩
 ·exact .inr ⟨hfr i o hi,hfr j o' hj⟩
 ·rcases hget i o hi with h|⟨x,hx,rfl,rfl⟩
  ·exact(hw.lo _ h).2
  ·have:=hL x hx;show x.1<nm;omega
 ·rw[hng]at hg;exact⟨by show g<nm;omega,πRows_glob hg⟩
 ·have h1:nm<=i:=hi;have h2:i<nm:=hs;omega
theorem Nj(hw:RowsAt ρ W ws ng nm){π0 π1:Pl}{w':World}{n':Nat}{h':H} (g:dt ρ (fun i=>i<nm) π0 (mQ ws (lW L)) W nm π1 h' w' n'):Below W.heap.size W w':=by
 refine⟨g.same.2.1,g.same.1,g.same.2.2,g.size,fun k hk=>g.keep k hk fun i o hi _=>?_⟩;rcases mR hi with h|⟨_,h⟩
 ·exact hw.bg _ h
 ·obtain⟨x,hx,rfl,rfl⟩:=dD h;rfl
theorem Kl{N:Nat}{f:FuncId}{fn:Func}{args:List V}{ac:List Value}(hmix:P.follows .mixedOrders=true)(htt:nu P cx.tt)(hft:sl P cx.ft)(hsm:SumOk P cx ρ) (hf:P.funcs[f]?=some fn)
  (hng:cx.ng=ng) (hL:∀ x∈L,x.1<ng) (hro:RoAt ρ L) (hW:∀ x∈L,W.heap[x.1]?=some (ρ.ro x.1)) (hw:RowsAt ρ W ws ng nm) (hpc:ai ρ pc)
  (ht:kq ((ev cx N).call f args (IQ L ws nm pc))=true) (ha:bz ρ (fun i=>i<nm) (πRows ρ ng) args ac):
  Calls P f ac.toArray W fun e W'=>e=.returned (.bool true)/\Below W.heap.size W W':=by
 obtain⟨x,st,hsel,hx⟩:=pz (ρ:=ρ) ht;refine(Vd hmix htt hft hsm hsel (R9 hng hL hro hW hw hpc) ha hf).mono fun e W' hp=>?_
 obtain⟨hpc',π1,g,c,rfl,hv⟩:=hp;refine⟨?_,Nj hw g⟩;rw[<-hv π1 fun _ _=>rfl];simp[V.ab,hx hpc']
end
open Go.Proofs Go.ChangeShapes Go.WideShapes
def Aj(W:World)(i:Nat):Obj:=(W.heap[i]?).getD (.deferred none)
structure iV (W:World) (ks:List CK) (a:Addr) (ln:Nat) (g:Nat->Int->Int):Prop where
 spot:a.spot=none
 row:∃ cs t fr,W.heap[a.block]?=some (.cells cs t fr)/\∀ (j c:Nat) (k:CK),j<ln->ks[c]?=some k->cs[a.off+(j*ks.length+c)]?=some (k.val (match k with
  |.int k=>k.wrap (g c j)
  |.bool=>bp (g c j==1)))
theorem wR{W:World}{ks:List CK}{a:Addr}{ln:Nat}{zs:Nat->List Value}(hn:0<ln)(hks:0<ks.length) (h:∀ i,i<ln->nr ks (zs i)/\∀ j,j<ks.length->W.cell? (a.add (i*ks.length+j))=(zs i)[j]?):
  iV W ks a ln fun c j=>ac1 ((zs j.toNat).getD c default):=by
 have h0:∃ cs t fr,W.heap[a.block]?=some (.cells cs t fr)/\a.spot=none:=by
  obtain⟨h1,h2⟩:=h 0 hn;have h3:=h2 0 hks;have hl:=h1.len;have:(zs 0)[0]?=some (zs 0)[0]:=qq0 (by omega);rw[this]at h3;unfold World.cell? at h3;split at h3
  ·rename_i cs t fr hb;refine⟨cs,t,fr,by simpa[Addr.add]using hb,?_⟩;cases hs:a.spot with
   |none=>rfl
   |some n=>simp[Addr.add,hs]at h3
  ·cases h3
 obtain⟨cs,t,fr,hb,hs⟩:=h0;refine⟨hs,cs,t,fr,hb,fun j c k hj hk=>?_⟩;obtain⟨h1,h2⟩:=h j hj;have hc:c<ks.length:=(qq5.1 hk).1;obtain⟨v,hv,hok⟩:=h1.get hk;have h3:=h2 c hc;rw[hv,add_plain hs]at h3;unfold World.cell? at h3;dsimp only at h3;rw[hb]at h3;simp only[Option.isSome_none,qqj,if_false]at h3;rw[h3,qkw,List.getD_eq_getElem?_getD,hv,Option.getD_some];cases k with
 |int k=>
  obtain⟨z,rfl,hz⟩:=hok;simp only[CK.val,ac1,wf_wrap hz]
 |bool=>
  obtain⟨b,rfl⟩:=hok;cases b<;>rfl
theorem iV.block{W:World}{ks:List CK}{a:Addr}{ln:Nat}{g:Nat->Int->Int}(h:iV W ks a ln g):W.heap[a.block]?=some (Aj W a.block):=by
 obtain⟨cs,t,fr,hb,_⟩:=h.row;simp only[Aj,hb,Option.getD_some]
theorem iV.is{W:World}{ks:List CK}{a:Addr}{ln:Nat}{g:Nat->Int->Int}(h:iV W ks a ln g){ρ:Env}{π:Pl}{b tag t:Nat}{len:X}(hw:ρ.win b=a)(hr:ρ.ro tag=Aj W a.block) (hf:∀ c,c<ks.length->ρ.f1 (t+c)=g c) (hl:(len.den ρ).toNat<=ln) (hπ:(π b).1=a.block):
  ak.is ρ π b (.warr tag t ks len) (Aj W a.block):=by
 obtain⟨cs,ty,fr,hb,hc⟩:=h.row;refine⟨⟨by rw[hw];exact h.spot,by rw[hw,hπ],cs,ty,fr,by simp only[Aj,hb,Option.getD_some],fun j c k hj hk=>?_⟩,hr.symm⟩;dsimp only;rw[hw,hc j c k (by omega) hk];have hcl:c<ks.length:=(qq5.1 hk).1;cases k with
 |int k=>simp only[A.den,CK.sym,hf c hcl]
 |bool=>simp only[A.den,CK.sym,hf c hcl]
end Go.Proofs.YtgcbnjpeifigaaaGreatDoor
namespace Go.Proofs.YtgcbnjpeifigaaaGreatDoor
open Go Go.Proofs
def Cl:j4->(V->St->Bool)->Bool
 |.ok (.ret v,st),k=>k v st
 |.ok _,_=>false
 |.br _ t f,k=>match Cl t k with
  |true=>Cl f k
  |false=>false
 |.stuck _,_=>false
theorem yc{ρ:Env}{k:V->St->Bool}:∀ {r:j4},Cl r k=true->∃ v st,r.ag ρ=some (.ret v,st)/\k v st=true
 |.ok a,h=>by
  unfold Cl at h;split at h
  ·rename_i v st e;injection e with e;subst e;exact⟨v,st,rfl,h⟩
  ·cases h
  ·rename_i e;cases e
  ·rename_i e;cases e
 |.br c t f,h=>by
  unfold Cl at h;split at h
  ·rename_i ht;unfold R.ag;split
   ·exact yc ht
   ·exact yc h
  ·cases h
 |.stuck _,h=>by simp[Cl]at h
def comp(call:FuncId->List V->St->j4) (L:List (Nat×List V)) (ng m:Nat):List (FuncId×List V)->List V->PC->(List V->PC->Bool)->Bool
 |[],acc,pc,k=>k acc pc
 |(f,a)::l,acc,pc,k=>Cl (call f a {sk L ng with pc:=pc}) fun v st=>match Nat.ble st.n m with
  |true=>match bB L st.h with
   |true=>comp call L ng m l (v::acc) st.pc k
   |false=>false
  |false=>false
theorem RU{ρ:Env}{call:FuncId->List V->St->j4} {L:List (Nat×List V)} {ng m:Nat} {f:FuncId} {a:List V} {l:List (FuncId×List V)} {acc:List V} {pc:PC} {k:List V->PC->Bool} (h:comp call L ng m ((f,a)::l) acc pc k=true):
  ∃ v st,(call f a {sk L ng with pc:=pc}).ag ρ=some (.ret v,st)/\st.n<=m/\bB L st.h=true/\comp call L ng m l (v::acc) st.pc k=true:=by
 obtain⟨v,st,h1,h2⟩:=yc (ρ:=ρ) (by unfold comp at h;exact h);split at h2
 ·rename_i hm;split at h2
  ·rename_i hr;exact⟨v,st,h1,qqx hm,hr,h2⟩
  ·cases h2
 ·cases h2
theorem WL{P:Program}{cx0:Cx}{ρ:Env}{w:World} {L:List (Nat×List V)} {ng:Nat} {π0:Pl} (hmix:P.follows .mixedOrders=true) (htt:nu P cx0.tt) (hft:sl P cx0.ft) (hsm:SumOk P cx0 ρ) (hng0:cx0.ng=ng) (hL:∀ x∈L,x.1<ng) (hro:RoAt ρ L) (hπ:∀ g,g<ng->(π0 g).1=g) (hW:∀ x∈L,w.heap[x.1]?=some (ρ.ro x.1))
  {N:Nat} {f:FuncId} {fn:Func} {args:List V} {v:V} {st':St} {pc0:PC} (hpc0:ai ρ pc0) (hsel:((ev cx0 N).call f args {sk L ng with pc:=pc0}).ag ρ=some (.ret v,st')) (hpure:V.dN args=true) (hfn:P.funcs[f]?=some fn):ai ρ st'.pc:=by
 have h0:=(uN (cx0:=cx0) (π0:=π0) hng0 hL hro hπ hW).iw (st1:={sk L ng with pc:=pc0}) ⟨rfl,rfl,hpc0⟩;have ha0:bz ρ (fun i=>i<ng) π0 args (V.ae ρ π0 args):=fun π _=>V.jS hpure
 obtain⟨e,w',fr,hp,_⟩:=(callsIn_wide (n:=0).1 ((sD hmix htt hft hsm N).2.2 f args _ _ hsel _ π0 w _ 0 h0 ha0 ⟨fn,hfn⟩)) [];exact hp.1
section
variable {P:Program} {cx cx0:Cx} {ρ:Env} {S:Nat→Prop} {π0:Pl} {st st':St} {w:World} {L:List (Nat×List V)} {ng:Nat}
theorem NX{ρ':Env}{pc0:PC}(hpc0:ai ρ' pc0)(hmix:P.follows .mixedOrders=true)(htt:nu P cx0.tt)(hft:sl P cx0.ft)(hsm:SumOk P cx0 ρ')(hng:cx.ng=ng)(hng0:cx0.ng=ng)(hL:∀ x∈L,x.1<ng)(hro:RoAt ρ' L)(hroe:ρ'.ro=ρ.ro)
  {N:Nat} {f:FuncId} {fn:Func} {args:List V} {v v':V} {objs:List (Nat×ak)} (hsel:((ev cx0 N).call f args {sk L ng with pc:=pc0}).ag ρ'=some (.ret v,st')) (hthere':bB L st'.h=true) (hv':ai ρ' st'.pc->∀ π,v'.ab ρ π=v.ab ρ' π) (hnw:v'.dA=true)
  (hobjs:∀ x∈objs,ng<=x.1/\∃ o,st'.h.get x.1=some o/\(x.2.plain=true/\o.bg=false)/\∀ π b ob,o.is ρ' π b ob->x.2.is ρ π b ob) (hpure:V.dN args=true) (hfn:P.funcs[f]?=some fn)
  (hh:b8 cx ρ S π0 st w) (hthere:bB L st.h=true) {ac:List Value} (ha:bz ρ' S π0 args ac) {n:Nat}:
  CallsIn Fence.wide n P f ac.toArray w (EPost ρ S π0 st w (.ret (v'.we (sh st.n ng)),{h:=kc (sh st.n ng) objs st.h,n:=st.n+(st'.n-ng),pc:=st.pc})):=by
 have hπ:∀ g,g<ng->(π0 g).1=g:=fun g hg=>(hh.glob g (by rw[hng];exact hg)).2
 have hSg:∀ g,g<ng->S g:=fun g hg=>(hh.glob g (by rw[hng];exact hg)).1
 have hngn:ng<=st.n:=by
  rcases qkz st.n ng with h|h
  ·exact absurd (hSg st.n h) (hh.fresh st.n (qq2 _))
  ·exact h
 have hW:∀ x∈L,w.heap[x.1]?=some (ρ.ro x.1):=by
  intro x hx;obtain⟨c,hc⟩:=eP hthere x hx;obtain⟨ob,h1,_,h2⟩:=(hh.at_.rep π0 fun _ _=>rfl).obj _ _ hc;rw[hπ _ (hL x hx),h2]at h1;exact h1
 have hW2:∀ x∈L,w.heap[x.1]?=some (ρ'.ro x.1):=fun x hx=>by rw[hroe];exact hW x hx
 have h0:=(uN (cx0:=cx0) (π0:=π0) hng0 hL hro hπ hW2).iw (st1:={sk L ng with pc:=pc0}) ⟨rfl,rfl,hpc0⟩;have ha0:bz ρ' (fun i=>i<ng) π0 args ac:=fun π _=>(V.jS hpure).trans (ha π0 fun _ _=>rfl)
 refine((sD hmix htt hft hsm N).2.2 f args _ _ hsel _ π0 w ac n h0 ha0 ⟨fn,hfn⟩).mono fun e w' hp=>?_
 obtain⟨hpc',πc,g,c,rfl,hv⟩:=hp;have hb:=Jq hL hπ hW2 g hthere';have hle:ng<=st'.n:=g.le;refine⟨hh.pc,fun i=>if i<st.n then π0 i else πc (i-st.n+ng),?_⟩;have hpi:∀ b,(fun i=>if i<st.n then π0 i else πc (i-st.n+ng)) (sh st.n ng b)=πc b:=by
  intro b;dsimp only;rcases qkz b ng with h|h
  ·rw[Q8 h,if_pos (by omega),g.known b h]
  ·rw[Fe h,if_neg (by omega),show b-ng+st.n-st.n+ng=b by omega]
 have hkn:∀ π,bo (Ext S st.n (st.n+(st'.n-ng))) π (fun i=>if i<st.n then π0 i else πc (i-st.n+ng))->bo (Ext (fun i=>i<ng) ng st'.n) (fun b=>π (sh st.n ng b)) πc:=by
  intro π hk b hbb;dsimp only;rw[<-hpi b];refine hk _ ?_;rcases hbb with h|⟨h1,h2⟩
  ·rw[Q8 h];exact .inl (hSg b h)
  ·rw[Fe h1];exact .inr ⟨by omega,by omega⟩
 have hk0:bo S (fun i=>if i<st.n then π0 i else πc (i-st.n+ng)) π0:=by
  intro i hi;dsimp only;rw[if_pos];rcases qkz i st.n with h|h
  ·exact h
  ·exact absurd hi (hh.fresh i h)
 have hold:∀ π,bo (Ext S st.n (st.n+(st'.n-ng))) π (fun i=>if i<st.n then π0 i else πc (i-st.n+ng))->∀ i o,st.h.get i=some o->∃ ob,w.heap[(π i).1]?=some ob/\o.is ρ π i ob:=by
  intro π hk i o hi;exact(hh.at_.rep π fun j hj=>(hk j (.inl hj)).trans (hk0 j hj)).obj i o hi
 have hnew:∀ x∈objs,w.heap.size<=(πc x.1).1:=by
  intro x hx;obtain⟨h1,o,h2,h3,hob⟩:=hobjs x hx;rcases g.sub x.1 o h2 with h|⟨i0,o0,h4,h5,h6⟩
  ·exact h
  ·obtain⟨y,hy,rfl,rfl⟩:=dD h4;rw[h3.2]at h6;exact absurd (h6 rfl) (by decide)
 refine⟨?_,⟨c,rfl,fun π hk=>?_⟩⟩
 ·refine⟨by dsimp only;omega,hk0,⟨fun π hk=>⟨fun i o hi=>?_,fun i j o o' hi hj e=>?_⟩,fun i o hi=>?_⟩,fun i o hi=>?_,fun j hj hne=>hb.block j hj,hb.size,⟨hb.tape,hb.os,hb.output⟩⟩
  ·rcases dB hi with⟨x,hx,rfl,rfl⟩|hi
   ·obtain⟨h1,o,h2,h3,hob⟩:=hobjs x hx;obtain⟨ob,h4,h5⟩:=(g.at_.rep _ (hkn π hk)).obj x.1 o h2;exact⟨ob,h4,ak.VE h3.1 (hob _ _ _ h5)⟩
   ·obtain⟨ob,h1,h2⟩:=hold π hk i o hi;have hlt:(π i).1<w.heap.size:=(qq6.1 h1).1;exact⟨ob,by rw[hb.block _ hlt];exact h1,h2⟩
  ·have hmix:∀ (i j:Nat) (o:ak) (x:Nat×ak),st.h.get i=some o->x∈objs->(π i).1=(π (sh st.n ng x.1)).1->False:=by
    intro i j o x hi hx e;obtain⟨ob,h1,_⟩:=hold π hk i o hi;have hlt:(π i).1<w.heap.size:=(qq6.1 h1).1;have h2:=hnew x hx;obtain⟨h3,o,h4,_⟩:=hobjs x hx;have h5:(π (sh st.n ng x.1))=πc x.1:=hkn π hk x.1 (g.at_.dom _ _ h4);rw[h5]at e;omega
   rcases dB hi with⟨x,hx,rfl,rfl⟩|hi<;>rcases dB hj with⟨y,hy,rfl,rfl⟩|hj
   ·obtain⟨h1,_,h2,h3,_⟩:=hobjs x hx;obtain⟨h4,_,h5,h6,_⟩:=hobjs y hy;rcases(g.at_.rep _ (hkn π hk)).inj x.1 y.1 _ _ h2 h5 e with e|e
    ·exact .inl (by rw[e])
    ·rw[h3.2]at e;cases e.1
   ·exact(hmix j 0 _ x hj hx e.symm).elim
   ·exact(hmix i 0 _ y hi hy e).elim
   ·exact(hh.at_.rep π fun j hj=>(hk j (.inl hj)).trans (hk0 j hj)).inj i j _ _ hi hj e
  ·rcases dB hi with⟨x,hx,rfl,rfl⟩|hi
   ·obtain⟨h1,_,h2,h3⟩:=hobjs x hx;rcases g.at_.dom _ _ h2 with h|⟨_,h⟩
    ·have:x.1<ng:=h;omega
    ·have h':x.1<st'.n:=h;rw[Fe h1];exact .inr ⟨by omega,by dsimp only;omega⟩
   ·exact .inl (hh.at_.dom i o hi)
  ·rcases dB hi with⟨x,hx,rfl,rfl⟩|hi
   ·refine .inl ?_;have:=hnew x hx;rw[<-hpi x.1]at this;exact this
   ·exact .inr ⟨i,o,hi,congrArg Pc.p (hk0 i (hh.at_.dom i o hi)).symm,id⟩
 ·rw[V.jJ _ _ _ _ hnw,hv' hpc'];exact hv _ (hkn π hk)
end
section
variable {P:Program} {cx:Cx} {ρ:Env} {L:List (Nat×List V)} {ng:Nat} {f:FuncId}
structure bI (P:Program) (L:List (Nat×List V)) (ng m:Nat) (ro:Nat->Obj) (f:FuncId) (a:List Value) (val:Value):Prop where
 is:∃ (c:Cx) (N:Nat) (ρ':Env) (pc0:PC) (x:List V) (v:V) (st':St),SumOk P c ρ'/\nu P c.tt/\sl P c.ft/\c.ng=ng/\ρ'.ro=ro/\RoAt ρ' L/\ai ρ' pc0/\((ev c N).call f x {sk L ng with pc:=pc0}).ag ρ'=some (.ret v,st')/\bB L st'.h=true/\st'.n<=m/\(∀ π,v.ab ρ' π=val)/\V.dN x=true/\∀ π,V.ae ρ' π x=a
theorem bI.post{m:Nat}{ro:Nat->Obj}{a:List Value}{val:Value}(h:bI P L ng m ro f a val)(hmix:P.follows .mixedOrders=true)(hng:cx.ng=ng)(hL:∀ x∈L,x.1<ng){fn:Func} (hfn:P.funcs[f]?=some fn) (hr:ρ.ro=ro) {args:List V} (ha:∀ π,V.ae ρ π args=a) {v:V} (hv:∀ π,v.ab ρ π=val) (hren:∀ r,v.we r=v) (hnw:v.dA=true)
  {S:Nat->Prop} {π0:Pl} {st:St} {w:World} {ac:List Value} {n:Nat} (hh:b8 cx ρ S π0 st w) (hthere:bB L st.h=true) (hac:bz ρ S π0 args ac):CallsIn Fence.wide n P f ac.toArray w (EPost ρ S π0 st w (.ret v,{st with n:=st.n+m})):=by
 obtain⟨c,N,ρ',pc0,x,u,st',h1,h2,h3,h4,h5,h6,h7,h8,h9,h10,h11,h12,h13⟩:=h.is;have hargs:bz ρ' S π0 x ac:=fun π hk=>by rw[h13 π,<-ha π,hac π hk]
 have key:=NX (P:=P) (cx:=cx) (cx0:=c) (ρ:=ρ) (ρ':=ρ') h7 hmix h2 h3 h1 hng h4 hL h6 (h5.trans hr.symm) h8 h9 (v':=v) (fun _ π=>(hv π).trans (h11 π).symm) hnw (objs:=[]) (fun x hx=>by simp at hx) h12 hfn hh hthere hargs (n:=n);refine key.mono fun e w' hp=>?_
 rw[hren]at hp;exact EPost.more (st1:={h:=st.h,n:=st.n+(st'.n-ng),pc:=st.pc}) (v:=v) hp (m:=st.n+m) (by show st.n+(st'.n-ng)<=st.n+m;omega)
theorem zm{m:Nat}(hmix:P.follows .mixedOrders=true)(hng:cx.ng=ng)(hL:∀ x∈L,x.1<ng){fn:Func} (hfn:P.funcs[f]?=some fn):∀ {l:List (List V×R Leaf)},(∀ x∈l,∃ a val,bI P L ng m ρ.ro f a val/\(∀ π,V.ae ρ π x.1=a)/\∀ lf,x.2.ag ρ=some lf->lf.objs=[]/\lf.n=ng+m/\(∀ π,lf.v.ab ρ π=val)/\(∀ r,lf.v.we r=lf.v)/\lf.v.dA=true)->fM P cx ρ f (bY L ng l)
 |[],_,args,st,v,st',h,_,_,_,_,_,_,_=>by simp[bY,R.ag]at h
 |(a,tr)::l,hl,args,st,v,st',h,S,π0,w,ac,n,hh,hac=>by
  unfold bY at h;split at h
  ·rename_i hb;obtain rfl:=V.aR _ _ hb;split at h
   ·rename_i hthere;obtain⟨lf,st1,h1,hlk,rfl,rfl⟩:=qh hh.pc h;obtain⟨ca,val,c1,c2,c3⟩:=hl _ (qq1 ..);obtain⟨d1,d2,d3,d4,d5⟩:=c3 lf h1;have hh1:=hh.iw hlk;have:=c1.post hmix hng hL hfn rfl c2 d3 d4 d5 hh1 (by rw[hlk.h];exact hthere) hac (n:=n);refine this.mono fun e w' hp=>EPost.iw hlk ?_
    rw[d1,d4,d2,show kc (sh st1.n ng) [] st1.h=st1.h from rfl,show st1.n+(ng+m-ng)=st1.n+m by omega];exact hp
   ·simp[R.ag]at h
  ·exact zm hmix hng hL hfn (fun x hx=>hl x (qq3 _ hx)) args st v st' h S π0 w ac n hh hac
theorem b8.less{S:Nat->Prop}{π0:Pl}{st st1:St}{w:World}(hh:b8 cx ρ S π0 st w)(l:zq ρ st st1)(hn:st1.n=st.n):b8 cx ρ S π0 st1 w:=by
 refine⟨l.pc hh.pc,⟨fun π hk=>⟨fun i o hi=>?_,fun i j o o' hi hj e=>?_⟩,fun i o hi=>?_⟩,hh.glob,fun i hi=>hh.fresh i (by rw[<-hn];exact hi)⟩
 ·obtain⟨o1,h1,h2,_⟩:=l.h i o hi;obtain⟨ob,h3,h4⟩:=(hh.at_.rep π hk).obj i o1 h1;exact⟨ob,h3,h2 π ob h4⟩
 ·obtain⟨o1,h1,_,z1⟩:=l.h i o hi;obtain⟨o2,h2,_,z2⟩:=l.h j o' hj;rw[<-z1,<-z2];exact(hh.at_.rep π hk).inj i j _ _ h1 h2 e
 ·obtain⟨o1,h1,_⟩:=l.h i o hi;exact hh.at_.dom i o1 h1
theorem dt.from{S:Nat->Prop}{π0 π1:Pl}{st st1:St}{w w':World}{h':H}{n':Nat}(l:zq ρ st st1)(hn:st1.n=st.n)(g:dt ρ S π0 st1.h w st1.n π1 h' w' n'):dt ρ S π0 st.h w st.n π1 h' w' n':=by
 rw[hn]at g;refine⟨g.le,g.known,g.at_,fun i o hi=>?_,fun j hj hf=>?_,g.size,g.same⟩
 ·rcases g.sub i o hi with h|⟨i0,o0,h1,h2,h3⟩
  ·exact .inl h
  ·obtain⟨o1,k1,_,k3⟩:=l.h i0 o0 h1;exact .inr ⟨i0,o1,k1,h2,fun q=>h3 (by rw[<-k3];exact q)⟩
 ·refine g.keep j hj fun i o hi e=>?_
  obtain⟨o1,k1,_,k3⟩:=l.h i o hi;rw[<-k3];exact hf i o1 k1 e
end
end Go.Proofs.YtgcbnjpeifigaaaGreatDoor
namespace Go.Proofs.YtgcbnjpeifigaaaGreatDoor
open Go
noncomputable section
inductive LM where
 |next (j:Nat) (σ:Mt)
 |out (k:Nat) (σ:Mt)
 |never
def kL(ng:Nat)(L:LoopI)(I:DC):Bool:=bc (y8 ng I) (ru ng L.st.h L.st.n I.kn) (Nat.ble ng L.st.n) (aqh I.kn L.rnd) true true
end
open Go.Proofs
section
variable {P:Program} {cx:Cx} {ρ:Env}
def LM.iw:LM->LM->Prop
 |.next j σ,.next j' τ=>j=j'/\σ.v=τ.v/\σ.a=τ.a
 |.out k σ,.out j τ=>k=j/\σ.v=τ.v/\σ.a=τ.a
 |.never,.never=>True
 |_,_=>False
theorem LM.Sn(x:LM):x.iw x:=by cases x<;>first|trivial|exact⟨rfl,rfl,rfl⟩
end
end Go.Proofs.YtgcbnjpeifigaaaGreatDoor
namespace Go.Proofs.YtgcbnjpeifigaaaGreatDoor
open Go
theorem Q7{P:Program}{a b:Outcome}{wa wb:World}:∀ {n1 n2:Nat} {m m1 m2:Machine},runN P n1 m=.next m1->runN P n2 m=.next m2->step P m1=.ended a wa->step P m2=.ended b wb->m1=m2
 |0,0,m,m1,m2,h1,h2,_,_=>by
  simp only[runN]at h1 h2;injection h1 with h1;injection h2 with h2;rw[<-h1,<-h2]
 |0,n2+1,m,m1,m2,h1,h2,e1,_=>by
  simp only[runN]at h1;injection h1 with h1;subst h1;simp[runN,e1]at h2
 |n1+1,0,m,m1,m2,h1,h2,_,e2=>by
  simp only[runN]at h2;injection h2 with h2;subst h2;simp[runN,e2]at h1
 |n1+1,n2+1,m,m1,m2,h1,h2,e1,e2=>by
  cases hs:step P m with
  |next m'=>
   simp only[runN,hs]at h1 h2;exact Q7 h1 h2 e1 e2
  |_=>simp[runN,hs]at h1
theorem RQ{P:Program}{f:FuncId}{args:Array Value}{w:World}{v1 v2:Value}(hi:P.inits.idxOf? f=none)(h1:Calls P f args w fun e _=>e=.returned v1)(h2:Calls P f args w fun e _=>e=.returned v2):v1=v2:=by
 obtain⟨e1,w1,fr1,rfl,⟨n1,c1⟩,g1,l1⟩:=h1 [];obtain⟨e2,w2,fr2,rfl,⟨n2,c2⟩,g2,l2⟩:=h2 [];have d1:=step_leave_done l1 (by rw[g1];exact hi);have d2:=step_leave_done l2 (by rw[g2];exact hi);have e:=Q7 c1 c2 d1 d2;rw[e,d2]at d1;injection d1 with d1;injection d1 with d1;exact d1.symm
noncomputable section
def qG(pc:PC)(x y:X):Bool:=match x.beq y with
 |true=>true
 |false=>C7 100 pc (mkEq x y) true
def OU(pc:PC):V->V->Bool
 |.int k x,.int j y=>match bE k j with
  |true=>qG pc x y
  |false=>false
 |.bool x,.bool y=>qG pc x y
 |_,_=>false
def wu(pc:PC):List V->List V->Bool
 |[],[]=>true
 |u::l,v::m=>match OU pc u v with
  |true=>wu pc l m
  |false=>false
 |_,_=>false
def pq(a b:Int)(x:X):Bool:=match wD x with
 |some r=>match decide (a<=r.lo) with
  |true=>decide (r.hi<=b)
  |false=>false
 |none=>false
def anN(pc:PC)(a b:Int)(x:X):Bool:=match pq a b x with
 |true=>true
 |false=>match C7 100 pc (.le (.lit a) x) true with
  |true=>C7 100 pc (.le x (.lit b)) true
  |false=>false
def T9(x:X):Bool:=pq 0 4294967295 x
def Sf(x:X):Bool:=x.beq (.lit 0)
def yE(pc:PC)(ad:X)(w:Nat):Bool:=match C7 100 pc (mkEq (yZ ad (.lit (.ofNat w))) (.lit 0)) true with
 |true=>C7 100 pc (mkLe (mkAdd .i64 ad (.lit (.ofNat w))) (.var 31)) true
 |false=>false
def FE(pc:PC):List V->Bool
 |[.int .i64 (.lit (.ofNat k)),.int .u32 ad,.int .i64 (.lit (.ofNat w)),.int .u32 v,.int .i64 (.lit (.ofNat op)),.bool aq,.bool rl]=>bc (T9 ad) (T9 v) (match k with
  |0=>bc (Nat.beq w 0) (Sf ad) (Sf v) (Nat.beq op 0) (Sf aq) (Sf rl)
  |6=>bc (Nat.beq w 0) (Sf ad) (Nat.beq op 0) true true true
  |1=>bc (dW w [1,2,4]) (Nat.beq op 0) (yE pc ad w) true true true
  |2=>bc (dW w [1,2,4]) (Nat.beq op 0) (yE pc ad w) (pq 0 (Int.ofNat (2 ^ (8*w)-1)) v) true true
  |3=>bc (Nat.beq w 4) (Nat.beq op 0) (yE pc ad 4) true true true
  |4=>bc (Nat.beq w 4) (Nat.beq op 0) (yE pc ad 4) true true true
  |5=>bc (Nat.beq w 4) (Nat.ble 50 op) (Nat.ble op 58) (yE pc ad 4) true true
  |_=>false) true true true
 |_=>false
def qz:Nat->List V->Bool
 |0,[.int .i64 c]=>pq 0 4 c
 |n+1,.int .u32 x::l=>match T9 x with
  |true=>qz n l
  |false=>false
 |_,_=>false
def Bt(pc:PC):List V->Bool
 |.int .i64 i::.int .u32 p::.int .u32 r::l=>bc (i.beq (.var 0)) (T9 p) (qG pc r (.lit 0)) (qz 31 l) true true
 |_=>false
def kt:List V->X
 |[]=>.lit 5
 |v::l=>match l with
  |[]=>match v with
   |.int _ x=>x
   |_=>.lit 5
  |_=>kt l
def Uu(k w:Nat)(b:B->List B):X:=match k with
 |1=>.bv ((b .zero).take (8*w)) .zero
 |3=>.bv ((b .zero).take (8*w)) .zero
 |5=>.bv ((b .zero).take (8*w)) .zero
 |_=>.lit 0
def Uw(k:Nat):X:=match k with
 |4=>.eq (.var 33) (.lit 1)
 |_=>.lit 0
def n7:List B:=[.pos 32,.pos 33,.pos 34,.pos 35,.pos 36,.pos 37,.pos 38,.pos 39,.pos 40,.pos 41,.pos 42,.pos 43,.pos 44,.pos 45,.pos 46,.pos 47,.pos 48,.pos 49,.pos 50,.pos 51,.pos 52,.pos 53,.pos 54,.pos 55,.pos 56,.pos 57,.pos 58,.pos 59,.pos 60,.pos 61,.pos 62,.pos 63]
def F0(pc:PC)(a h:List V):List V->Bool
 |.int .u32 p::.int .u32 w::c2::c3::c4::c5::c6::c7::c8::[.int .u32 x,.bool y,.int .i64 rd,.int .u32 val,.int .i64 cs]=>bc (wu pc [c2,c3,c4,c5,c6,c7,c8] a)
  (match a with
   |.int .i64 (.lit (.ofNat k))::_::.int .i64 (.lit (.ofNat wd))::_=>bc (qG pc x (Uu k wd fun _=>n7)) (qG pc y (Uw k)) true true true true
   |_=>false)
  (qG pc cs (kt h)) (anN pc 0 31 rd) (bc (T9 val) (pq 0 4 cs) true true true true) (bc (T9 p) (T9 w) (T9 x) true true true)
 |_=>false
def P9:List V->PC->Bool
 |[.tuple [.agg h',.agg c'],.tuple [.agg h,.agg c,.int .i64 (.lit (.ofNat e2))],.tuple [.agg a',.int .i64 w'],.tuple [.agg a,.int .i64 w,.int .i64 (.lit (.ofNat e1))]],pc=>
  bc (bc (Nat.beq e1 0) (Nat.beq e2 0) (qG pc w w') true true true) (wu pc a a') (wu pc h h') (wu pc c c') (bc (FE pc a) (Bt pc h) (F0 pc a h c) true true true) true
 |_,_=>false
def Mm(f:Nat):Nat->Nat->List V->List V
 |_,0,r=>r
 |j,n+1,r=>.int .u32 (.wrap .u32 (.fn1 f (.lit (Int.ofNat j))))::Mm f (j+1) n r
def uL:V:=.agg (.int .i64 (.var 0)::.int .u32 (.wrap .u32 (.var 1))::Mm 0 0 32 [.int .i64 (.lit 0)])
def J5(op:Nat):Bool:=match dW op [5,6,7,8,9,10,16,17,18,38,39]with
 |true=>false
 |false=>true
def EO(op:Nat):Bool:=match Nat.ble 28 op with
 |true=>match Nat.beq op 38 with
  |true=>false
  |false=>true
 |false=>false
def uQ(op:Nat):V:=match op with
 |0=>.tuple [.agg [.int .i64 (.lit 0),.int .i64 (.lit 0),.int .i64 (.lit 0),.int .i64 (.lit 0),.int .u32 (.lit 0),.bool (.eq (.var 25) (.lit 1)),.bool (.eq (.var 26) (.lit 1))],.bool (.lit 0)]
 |op=>.tuple [.agg [.int .i64 (.lit (.ofNat op)),.int .i64 (match J5 op with|true=>.var 21|false=>.lit 0),.int .i64 (.var 22),.int .i64 (.var 23),.int .u32 (match EO op with|true=>.lit 0|false=>.wrap .u32 (.var 24)),.bool (.eq (.var 25) (.lit 1)),.bool (.eq (.var 26) (.lit 1))],.bool (.lit 1)]
def pf:V:=.int .u32 (.wrap .u32 (.var 30))
def zk:V:=.int .i64 (.var 31)
def Ux:V:=.agg [.int .u32 (.bv n7 .zero),.bool (.eq (.var 33) (.lit 1))]
def pcO:PC:=[(.le (.lit 0) (.var 0),true),(.le (.var 0) (.lit 3),true),(.le (.lit 0) (.var 21),true),(.le (.var 21) (.lit 31),true),(.le (.lit 0) (.var 22),true),(.le (.var 22) (.lit 31),true),(.le (.lit 0) (.var 23),true),(.le (.var 23) (.lit 31),true),(.eq (.wrap .u32 (.fn1 0 (.lit 0))) (.lit 0),true),(.le (.lit 0) (.lit 7),true)]
end
open Go.Proofs
variable {ρ:Env} {pc:PC}
theorem j1(hp:ai ρ pc){x y:X}(h:qG pc x y=true):x.den ρ=y.den ρ:=by
 unfold qG at h;split at h
 ·rename_i hb;rw[X.beq_eq hb]
 ·have:=gN hp h;rw[fE]at this;exact eq_of_beq this
theorem Td(hp:ai ρ pc){u v:V}(h:OU pc u v=true)(π:Pl):u.ab ρ π=v.ab ρ π:=by
 unfold OU at h;split at h
 ·split at h
  ·rename_i hk;rw[a9 hk];simp only[V.ab,j1 hp h]
  ·cases h
 ·simp only[V.ab,X.tt,j1 hp h]
 ·cases h
theorem qE(hp:ai ρ pc)(π:Pl):∀ {l m:List V},wu pc l m=true->V.ae ρ π l=V.ae ρ π m
 |[],[],_=>rfl
 |u::l,v::m,h=>by
  unfold wu at h;split at h
  ·rename_i h1;simp only[V.ae,Td hp h1 π,qE hp π h]
  ·cases h
 |[],_::_,h=>by simp[wu]at h
 |_::_,[],h=>by simp[wu]at h
theorem bh{a b:Int}{x:X}(h:pq a b x=true):a<=x.den ρ/\x.den ρ<=b:=by
 unfold pq at h;split at h
 ·rename_i r hr;have h3:=ki (ρ:=ρ) hr;split at h
  ·rename_i h1;have h1:=of_decide_eq_true h1;have h2:=of_decide_eq_true h;obtain⟨h4,h5⟩:=h3;omega
  ·cases h
 ·cases h
theorem YS{a b:X}:(X.le a b).tt ρ=decide (a.den ρ<=b.den ρ):=by rw [X.tt,X.den,da]
theorem acs(hp:ai ρ pc){a b:Int}{x:X}(h:anN pc a b x=true):a<=x.den ρ/\x.den ρ<=b:=by
 unfold anN at h;split at h
 ·rename_i h1;exact bh h1
 ·split at h
  ·rename_i h1;have h1:=gN hp h1;have h2:=gN hp h;rw[YS]at h1 h2;exact⟨of_decide_eq_true h1,of_decide_eq_true h2⟩
  ·cases h
theorem Gy{x:X}(h:Sf x=true):x.den ρ=0:=by
 rw[X.beq_eq h];rfl
theorem V3{w:Nat} (h:dW w [1,2,4]=true):w=1\/w=2\/w=4:=by
 have:=kA h;simpa using this
structure Acc where
 k:Nat
 ad:Int
 w:Nat
 v:Int
 op:Nat
 aq:Bool
 rl:Bool
def Acc.c(a:Acc):List Value:=[.int .i64 a.k,.int .u32 a.ad,.int .i64 a.w,.int .u32 a.v,.int .i64 a.op,.bool a.aq,.bool a.rl]
structure Acc.Ok (a:Acc) (size:Int):Prop where
 k:a.k<=6
 ad:0<=a.ad/\a.ad<=4294967295
 v:0<=a.v/\a.v<=4294967295
 none:a.k=0\/a.k=6->a.w=0/\a.ad=0/\a.op=0
 zero:a.k=0->a.v=0
 w:1<=a.k->a.k<=2->a.w=1\/a.w=2\/a.w=4
 w4:3<=a.k->a.k<=5->a.w=4
 at_:1<=a.k->a.k<=5->a.ad.tmod a.w=0/\a.ad+a.w<=size
 amo:a.k=5->50<=a.op/\a.op<=58
 op:a.k≠5->a.op=0
 val:a.k=2->a.v<=((2 ^ (8*a.w)-1:Nat):Int)
theorem Ui(hp:ai ρ pc){ad:X}{w:Nat}(hw:w<=4)(ha:0<=ad.den ρ/\ad.den ρ<=4294967295)(h:yE pc ad w=true):(ad.den ρ).tmod w=0/\ad.den ρ+w<=ρ.v 31:=by
 unfold yE at h;split at h
 ·rename_i h1;have h1:=gN hp h1;have h2:=gN hp h;rw[fE,kW]at h1;have h1:=eq_of_beq h1;rw[X.tt,BX,da,xK]at h2;have h2:=of_decide_eq_true h2;have e:IntKind.i64.wrap (ad.den ρ+((w:Nat):Int))=ad.den ρ+w:=bV (by simp only[m5];omega) (by simp only[nF];omega);refine⟨h1,?_⟩;rw[show(X.lit (Int.ofNat w)).den ρ=((w:Nat):Int)from rfl,e]at h2;exact h2
 ·cases h
theorem Nd(hp:ai ρ pc){l:List V}(h:FE pc l=true):∃ a:Acc,a.Ok (ρ.v 31)/\(∀ π,V.ae ρ π l=a.c)/\∃ x1 x2 x3 x4 x5,l=[.int .i64 (.lit (.ofNat a.k)),x1,.int .i64 (.lit (.ofNat a.w)),x2,x3,x4,x5]:=by
 unfold FE at h;split at h
 ·rename_i k ad w v op aq rl;obtain⟨h1,h2,h3,_⟩:=ar h;have h1:=bh (ρ:=ρ) h1;have h2:=bh (ρ:=ρ) h2;refine⟨⟨k,ad.den ρ,w,v.den ρ,op,aq.tt ρ,rl.tt ρ⟩,?_,fun π=>rfl,_,_,_,_,_,rfl⟩;have go:∀ {k w op:Nat},(1<=k/\k<=5)->((k<=2->w=1\/w=2\/w=4)/\(3<=k->w=4))->((k=5->50<=op/\op<=58)/\(k≠5->op=0))->yE pc ad w=true->(k=2->v.den ρ<=((2 ^ (8*w)-1:Nat):Int))->Acc.Ok ⟨k,ad.den ρ,w,v.den ρ,op,aq.tt ρ,rl.tt ρ⟩ (ρ.v 31):=by
   intro k w op hk hw ho ha hv;have hw4:w<=4:=by
    rcases qkz k 3 with hk3|hk3
    ·have:=hw.1 (by omega);omega
    ·have:=hw.2 hk3;omega
   exact⟨by simp only;omega,h1,h2,fun e=>by simp only at e;omega,fun e=>by simp only at e;omega,fun _ e=>hw.1 e,fun e _=>hw.2 e,fun _ _=>Ui hp hw4 h1 ha,ho.1,ho.2,hv⟩
  split at h3
  ·obtain⟨g1,g2,g3,g4,g5,g6⟩:=ar h3;have g1:=qqq g1;have g2:=Gy (ρ:=ρ) g2;have g3:=Gy (ρ:=ρ) g3;have g4:=qqq g4;exact⟨by simp,h1,h2,fun _=>⟨g1,g2,g4⟩,fun _=>g3,fun e=>by simp at e,fun e=>by simp at e,fun e=>by simp at e,fun e=>by simp at e,fun _=>g4,fun e=>by simp at e⟩
  ·obtain⟨g1,g2,g3,_⟩:=ar h3;have g1:=qqq g1;have g2:=Gy (ρ:=ρ) g2;have g3:=qqq g3;exact⟨by simp,h1,h2,fun _=>⟨g1,g2,g3⟩,fun e=>by simp at e,fun _ e=>by simp at e,fun _ e=>by simp at e,fun _ e=>by simp at e,fun e=>by simp at e,fun _=>g3,fun e=>by simp at e⟩
  ·obtain⟨g1,g2,g3,_⟩:=ar h3;have g1:=V3 g1;have g2:=qqq g2;exact go ⟨by omega,by omega⟩ ⟨fun _=>g1,fun e=>by omega⟩ ⟨fun e=>by omega,fun _=>g2⟩ g3 (fun e=>by omega)
  ·obtain⟨g1,g2,g3,g4,_⟩:=ar h3;have g1:=V3 g1;have g2:=qqq g2;exact go ⟨by omega,by omega⟩ ⟨fun _=>g1,fun e=>by omega⟩ ⟨fun e=>by omega,fun _=>g2⟩ g3 (fun _=>(bh (ρ:=ρ) g4).2)
  ·obtain⟨g1,g2,g3,_⟩:=ar h3;obtain rfl:=qqq g1;have g2:=qqq g2;exact go ⟨by omega,by omega⟩ ⟨fun e=>by omega,fun _=>rfl⟩ ⟨fun e=>by omega,fun _=>g2⟩ g3 (fun e=>by omega)
  ·obtain⟨g1,g2,g3,_⟩:=ar h3;obtain rfl:=qqq g1;have g2:=qqq g2;exact go ⟨by omega,by omega⟩ ⟨fun e=>by omega,fun _=>rfl⟩ ⟨fun e=>by omega,fun _=>g2⟩ g3 (fun e=>by omega)
  ·obtain⟨g1,g2,g3,g4,_⟩:=ar h3;obtain rfl:=qqq g1;have g2:=qqx g2;have g3:=qqx g3;exact go ⟨by omega,by omega⟩ ⟨fun e=>by omega,fun _=>rfl⟩ ⟨fun _=>⟨g2,g3⟩,fun e=>absurd rfl e⟩ g4 (fun e=>by omega)
  ·cases h3
 ·cases h
structure gM where
 id:Int
 pc:Int
 regs:List Int
 cause:Int
def gM.c(h:gM):List Value:=.int .i64 h.id::.int .u32 h.pc::(h.regs.map (Value.int .u32)++[.int .i64 h.cause])
structure gM.Ok (h:gM):Prop where
 id:0<=h.id/\h.id<=3
 pc:0<=h.pc/\h.pc<=4294967295
 len:h.regs.length=32
 regs:∀ z∈h.regs,0<=z/\z<=4294967295
 zero:h.regs[0]?=some 0
 cause:0<=h.cause/\h.cause<=4
theorem zd:∀ {n:Nat} {l:List V},qz n l=true->∃ (zs:List Int) (c:Int),zs.length=n/\(∀ z∈zs,0<=z/\z<=4294967295)/\(0<=c/\c<=4)/\(kt l).den ρ=c/\(∀ v,(kt (v::l)).den ρ=c)/\∀ π,V.ae ρ π l=zs.map (Value.int .u32)++[.int .i64 c]
 |0,l,h=>by
  unfold qz at h;split at h
  ·rename_i c _;exact⟨[],c.den ρ,rfl,fun z hz=>by simp at hz,bh h,rfl,fun _=>rfl,fun π=>rfl⟩
  ·rename_i e;cases e
  ·cases h
 |n+1,l,h=>by
  unfold qz at h;split at h
  ·rename_i e;cases e
  ·rename_i m x l' e;cases e;split at h
   ·rename_i hx;obtain⟨zs,c,h1,h2,h3,h4,h5,h6⟩:=zd h;have hx:=bh (ρ:=ρ) hx;refine⟨x.den ρ::zs,c,by simp[h1],fun z hz=>?_,h3,h5 _,fun v=>?_,fun π=>by simp only[V.ae,V.ab,h6 π,List.map_cons,List.cons_append]⟩
    ·rcases List.mem_cons.1 hz with rfl|hz
     ·exact hx
     ·exact h2 z hz
    ·show(kt (.int .u32 x::l')).den ρ=c;exact h5 _
   ·cases h
  ·cases h
theorem J3(hp:ai ρ pc)(h0:0<=ρ.v 0/\ρ.v 0<=3){l:List V}(h:Bt pc l=true):∃ k:gM,k.Ok/\k.id=ρ.v 0/\(kt l).den ρ=k.cause/\∀ π,V.ae ρ π l=k.c:=by
 unfold Bt at h;split at h
 ·rename_i i p r l;obtain⟨h1,h2,h3,h4,_⟩:=ar h;obtain rfl:=X.beq_eq h1;have h2:=bh (ρ:=ρ) h2;have h3:r.den ρ=0:=j1 hp h3;obtain⟨zs,c,g1,g2,g3,g4,g5,g6⟩:=zd (ρ:=ρ) h4;refine⟨⟨ρ.v 0,p.den ρ,0::zs,c⟩,⟨h0,h2,by simp[g1],fun z hz=>?_,rfl,g3⟩,rfl,?_,fun π=>?_⟩
  ·rcases List.mem_cons.1 hz with rfl|hz
   ·omega
   ·exact g2 z hz
  ·have:kt (.int .i64 (.var 0)::.int .u32 p::.int .u32 r::l)=kt (.int .u32 r::l):=rfl;rw[this];exact g5 _
  ·simp only[V.ae,V.ab,g6 π,h3];rfl
 ·cases h
structure M9 where
 pc:Int
 word:Int
 x:Int
 ok:Bool
 rd:Int
 val:Int
 cause:Int
def M9.c(c:M9)(a:Acc):List Value:=.int .u32 c.pc::.int .u32 c.word::(a.c++[.int .u32 c.x,.bool c.ok,.int .i64 c.rd,.int .u32 c.val,.int .i64 c.cause])
def ajG(k w:Nat)(x:Int):Int:=if k=1\/k=3\/k=5 then x % 2 ^ (8*w)else 0
structure M9.Ok (c:M9):Prop where
 pc:0<=c.pc/\c.pc<=4294967295
 word:0<=c.word/\c.word<=4294967295
 x:0<=c.x/\c.x<=4294967295
 rd:0<=c.rd/\c.rd<=31
 val:0<=c.val/\c.val<=4294967295
 cause:0<=c.cause/\c.cause<=4
theorem Np(hp:ai ρ pc){a h l:List V}{ac:Acc}(ha:∀ π,V.ae ρ π a=ac.c) (has:∃ x1 x2 x3 x4 x5,a=[.int .i64 (.lit (.ofNat ac.k)),x1,.int .i64 (.lit (.ofNat ac.w)),x2,x3,x4,x5]) (hl:F0 pc a h l=true):
  ∃ c:M9,c.Ok/\c.cause=(kt h).den ρ/\c.x=(Uu ac.k ac.w fun _=>n7).den ρ/\c.ok=(Uw ac.k).tt ρ/\∀ π,V.ae ρ π l=c.c ac:=by
 unfold F0 at hl;split at hl
 ·rename_i p w c2 c3 c4 c5 c6 c7 c8 x y rd val cs;obtain⟨h1,h2,h3,h4,h5,h6⟩:=ar hl;obtain⟨h51,h52,_⟩:=ar h5;obtain⟨h61,h62,h63,_⟩:=ar h6;obtain⟨x1,x2,x3,x4,x5,rfl⟩:=has;obtain⟨h21,h22,_⟩:=ar h2;have e1:=j1 hp h21;have e2:=j1 hp h22;have e3:=j1 hp h3;refine⟨⟨p.den ρ,w.den ρ,x.den ρ,y.tt ρ,rd.den ρ,val.den ρ,cs.den ρ⟩,⟨bh h61,bh h62,bh h63,acs hp h4,bh h51,bh h52⟩,e3,e1,by simp only[X.tt,e2],fun π=>?_⟩;have e:=qE hp π h1;rw[ha π]at e;have e':V.ae ρ π [c2,c3,c4,c5,c6,c7,c8]++V.ae ρ π [.int .u32 x,.bool y,.int .i64 rd,.int .u32 val,.int .i64 cs]=ac.c++[.int .u32 (x.den ρ),.bool (y.tt ρ),.int .i64 (rd.den ρ),.int .u32 (val.den ρ),.int .i64 (cs.den ρ)]:=by
   rw[e];rfl
  show Value.int .u32 (p.den ρ)::Value.int .u32 (w.den ρ)::(V.ae ρ π [c2,c3,c4,c5,c6,c7,c8]++V.ae ρ π [.int .u32 x,.bool y,.int .i64 rd,.int .u32 val,.int .i64 cs])=_;rw[e'];rfl
 ·cases hl
theorem VZ(hp:ai ρ pc)(h0:0<=ρ.v 0/\ρ.v 0<=3){l:List V}(h:P9 l pc=true):∃ (v4 v3 v2 v1:V) (a:Acc) (k:gM) (c:M9) (w:Int),l=[v4,v3,v2,v1]/\a.Ok (ρ.v 31)/\k.Ok/\k.id=ρ.v 0/\c.Ok/\c.cause=k.cause/\c.x=(Uu a.k a.w fun _=>n7).den ρ/\c.ok=(Uw a.k).tt ρ /\
  (∀ π,v1.ab ρ π=.tuple #[.agg a.c.toArray,.int .i64 w,.int .i64 0])/\(∀ π,v2.ab ρ π=.tuple #[.agg a.c.toArray,.int .i64 w])/\(∀ π,v3.ab ρ π=.tuple #[.agg k.c.toArray,.agg (c.c a).toArray,.int .i64 0])/\∀ π,v4.ab ρ π=.tuple #[.agg k.c.toArray,.agg (c.c a).toArray]:=by
 unfold P9 at h;split at h
 ·rename_i h' c' hh cc e2 a' w' aa w e1;obtain⟨h1,h2,h3,h4,h5,_⟩:=ar h;obtain⟨g1,g2,g3,_⟩:=ar h1;obtain⟨k1,k2,k3,_⟩:=ar h5;obtain rfl:=qqq g1;obtain rfl:=qqq g2;have g3:=j1 hp g3;obtain⟨a,a1,a2,a3⟩:=Nd hp k1;obtain⟨k,b1,b2,b3,b4⟩:=J3 hp h0 k2;obtain⟨c,c1,c2,c3,c4,c5⟩:=Np hp a2 a3 k3;refine⟨_,_,_,_,a,k,c,w.den ρ,rfl,a1,b1,b2,c1,c2.trans b3,c3,c4,fun π=>?_,fun π=>?_,fun π=>?_,fun π=>?_⟩
  ·simp only[V.ab,V.ae,a2 π,X.den];rfl
  ·simp only[V.ab,V.ae,<-qE hp π h2,a2 π,g3]
  ·simp only[V.ab,V.ae,b4 π,c5 π,X.den];rfl
  ·simp only[V.ab,V.ae,<-qE hp π h3,<-qE hp π h4,b4 π,c5 π]
 ·cases h
end Go.Proofs.YtgcbnjpeifigaaaGreatDoor
