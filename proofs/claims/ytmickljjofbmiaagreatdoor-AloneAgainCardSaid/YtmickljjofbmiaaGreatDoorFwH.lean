/- Symbolic execution: loops of any number of rounds: shapes, and how a state fits one (plain functions). Symbolic execution: loops of any number of rounds: what fits a shape is it. Symbolic execution: a loop of any number of rounds does what is told of it. Symbolic execution: calls over rows and structures, run by themselves (plain functions). Symbolic execution: a call over rows and structures that was run by itself, told where it is made. Symbolic execution: a run over rows that came in. Symbolic execution: rows that came in: what the law's run has of them. Several calls, each from the start with what was known behind the one before: what they leave is looked at together. Symbolic execution: calls that are told by symbols. Symbolic execution: loops whose head has several shapes (plain functions). Symbolic execution: a loop whose head has several shapes is told by its rounds. Alone: how the answers of the four calls of one instruction are looked at (plain functions). Alone: what the look at four answers tells. Alone: what is told of the calls of a round (plain functions). Alone: what rounds end in (plain functions). Alone: what a round's trees and rows stand for. No condition. -/
import Derived.Test.YtmickljjofbmiaaGreatDoorFwC
import Derived.Test.YtmickljjofbmiaaGreatDoorFwG
import Derived.Test.YtmickljjofbmiaaGreatDoorSeX
import Derived.Test.YtmickljjofbmiaaGreatDoorFwF
import Derived.Test.YtmickljjofbmiaaGreatDoorFwU
import Derived.Calls
namespace Go.Proofs.YtmickljjofbmiaaGreatDoor
open Go
noncomputable section
def Un{α:Type}(f:α→α→Bool):Option α→Option α→Bool
 | none,_=>true
 | some a,some b=>f a b
 | some _,none=>false
def T.sub{α:Type}(f:α→α→Bool):T α→T α→Bool
 | .nil,_=>true
 | .node l v r,.nil=>bI (Un f v none) (T.sub f l .nil) (T.sub f r .nil) true true true
 | .node l v r,.node l' v' r'=>bI (Un f v v') (T.sub f l l') (T.sub f r r') true true true
def Pe(a b:X×Bool):Bool:=bI (a.1.beq b.1) (jy a.2 b.2) true true true true
structure LoopI where
 rnd:Option Nat
 body:Code
 fr:Fr
 st:St
 res:cM
def Cy(L:LoopI)(rnd:Option Nat)(c:Code)(fr:Fr)(st:St):Bool:=
 bI (bI (Nat.beq st.n L.st.n) (iR rnd L.rnd) (V.fG fr.tm L.fr.tm) (eM fr.df L.fr.df) (gX Pe st.pc L.st.pc) true) (bD c L.body) (T.sub av.beq st.h L.st.h) (T.sub av.beq L.st.h st.h) true true
def PG:List LoopI→Option Nat→Code→Fr→St→Option cM
 | [],_,_,_,_=>none
 | L::l,rnd,c,fr,st=>match Cy L rnd c fr st with
  | true=>some L.res
  | false=>PG l rnd c fr st
structure Tch where
 vs:List Nat
 ts:List (Nat×Nat)
def Lo:List (Nat×Nat)→Nat→Bool
 | [],_=>false
 | (t,n)::l,f=>match Nat.ble t f with
  | true=>match Nat.blt f (t+n) with
   | true=>true
   | false=>Lo l f
  | false=>Lo l f
def wh (l:List (Nat×Nat)) (t:Nat):Nat→Bool
 | 0=>true
 | n+1=>match Lo l (t+n) with
  | true=>false
  | false=>wh l t n
structure Mt where
 v:List (Nat×X)
 a:List (Nat×(List CK×A))
 u:List (Nat×V)
 r:List (Nat×Nat)
def Mt.name(σ:Mt)(i:Nat):Nat:=match look σ.r i with
 | some j=>j
 | none=>i
def X.free(t:Tch):X→Bool
 | .lit _=>true
 | .var i=>!eg i t.vs
 | .add a b=>a.free t&&b.free t
 | .sub a b=>a.free t&&b.free t
 | .mul a b=>a.free t&&b.free t
 | .quo a b=>a.free t&&b.free t
 | .rem a b=>a.free t&&b.free t
 | .wrap _ a=>a.free t
 | .bits _ _ a b=>a.free t&&b.free t
 | .shl _ a b=>a.free t&&b.free t
 | .shr _ a b=>a.free t&&b.free t
 | .eq a b=>a.free t&&b.free t
 | .lt a b=>a.free t&&b.free t
 | .le a b=>a.free t&&b.free t
 | .not a=>a.free t
 | .ite c a b=>c.free t&&(a.free t&&b.free t)
 | .fn1 f a=>!Lo t.ts f&&a.free t
 | .fn2 _ a b=>a.free t&&b.free t
 | .slit _=>true
 | .svar _=>true
 | .scat a b=>a.free t&&b.free t
 | .sfn _ a=>a.free t
 | .slen a=>a.free t
 | .seq a b=>a.free t&&b.free t
 | .bv _ _=>true
 | .cube _ _=>true
 | .btext f a b=>!Lo t.ts f&&(a.free t&&b.free t)
def r3(t:Tch)(σ:Mt)(p x:X):Bool:=match p with
 | .var i=>match look σ.v i with
  | some y=>y.beq x
  | none=>match eg i t.vs with
   | true=>false
   | false=>(X.var i).beq x
 | p=>match p.free t with
  | true=>p.beq x
  | false=>false
def adg(t:Tch)(p x:X):Bool:=match p.free t with
 | true=>p.beq x
 | false=>false
def vT(σ:Mt)(b c:Nat):Bool:=match look σ.u b with
 | some _=>false
 | none=>Nat.beq (σ.name b) c
def aa2(σ:Mt):Cp→Cp→Bool
 | .known n,.known m=>Nat.beq n m
 | .room b o n,.room c p m=>bI (vT σ b c) (Nat.beq o p) (Nat.beq n m) true true true
 | _,_=>false
def Sy(t:Tch)(σ:Mt):XC→XC→Bool
 | .known a,.known b=>r3 t σ a b
 | .room a,.room b=>r3 t σ a b
 | _,_=>false
mutual
def gV(t:Tch)(σ:Mt):V→V→Bool
 | .any k,v=>match look σ.u k with
  | some u=>u.beq v
  | none=>false
 | .int k p,.int j x=>bI (bE k j) (r3 t σ p x) true true true true
 | .bool p,.bool x=>r3 t σ p x
 | .str p,.str x=>adg t p x
 | .ptr b o,.ptr c q=>bI (vT σ b c) (Nat.beq o q) true true true true
 | .nilptr,.nilptr=>true
 | .slice b o n c,.slice b' o' n' c'=>bI (vT σ b b') (Nat.beq o o') (Nat.beq n n') (aa2 σ c c') true true
 | .nilslice,.nilslice=>true
 | .map b,.map c=>vT σ b c
 | .nilmap,.nilmap=>true
 | .func f a c,.func g d e=>bI (kV f g) (nj t σ a d) (nj t σ c e) true true true
 | .yield b,.yield c=>vT σ b c
 | .nilfunc,.nilfunc=>true
 | .iface u v,.iface u' v'=>bI (Nat.beq u u') (gV t σ v v') true true true true
 | .niliface,.niliface=>true
 | .agg l,.agg m=>nj t σ l m
 | .tuple l,.tuple m=>nj t σ l m
 | .wptr b o,.wptr c q=>bI (Nat.beq b c) (Nat.beq o q) true true true true
 | .wslice b o n c,.wslice b' o' n' c'=>bI (Nat.beq b b') (Nat.beq o o') (r3 t σ n n') (r3 t σ c c') true true
 | .sptr b o n i,.sptr c q m j=>bI (vT σ b c) (Nat.beq o q) (Nat.beq n m) (r3 t σ i j) true true
 | .xslice w b off es n c,.xslice w' b' off' es' n' c'=>bI (jy w w') (bI (vT σ b b') (match w with | true=>Nat.beq b b' | false=>true) true true true true) (r3 t σ off off') (Nat.beq es es') (r3 t σ n n') (Sy t σ c c')
 | .xptr w b i es c,.xptr w' b' i' es' c'=>bI (jy w w') (bI (vT σ b b') (match w with | true=>Nat.beq b b' | false=>true) true true true true) (r3 t σ i i') (Nat.beq es es') (Nat.beq c c') true
 | _,_=>false
def nj(t:Tch)(σ:Mt):List V→List V→Bool
 | [],[]=>true
 | p::l,v::m=>bI (gV t σ p v) (nj t σ l m) true true true true
 | _,_=>false
end
def A.free(t:Tch)(n:Nat):A→Bool
 | .base f=>wh t.ts f n
 | .fill x=>x.free t
 | .put a i _ x=>a.free t n&&(i.free t&&x.free t)
def aaa(t:Tch)(σ:Mt)(ks:List CK)(p a:A):Bool:=match p with
 | .base f=>match look σ.a f with
  | some (ks',b)=>match CK.fG ks ks' with
   | true=>b.beq a
   | false=>false
  | none=>match wh t.ts f ks.length with
   | true=>(A.base f).beq a
   | false=>false
 | p=>match p.free t ks.length with
  | true=>p.beq a
  | false=>false
def xN(σ:Mt):List bN→List bN→Bool
 | [],[]=>true
 | .mark b::l,.mark c::m=>bI (vT σ b c) (xN σ l m) true true true true
 | _,_=>false
def GI(t:Tch)(σ:Mt):List (V×V)→List (V×V)→Bool
 | [],[]=>true
 | (k,v)::l,(j,u)::m=>bI (gV t σ k j) (gV t σ v u) (GI t σ l m) true true true
 | _,_=>false
def Cw(t:Tch)(σ:Mt)(i:Nat):av→av→Bool
 | .cells c e w,.cells c' e' w'=>bI (Nat.beq e e') (iR w w') (nj t σ c c') true true true
 | .map es,.map es'=>GI t σ es es'
 | .loop s p tm ps as bd d,.loop s' p' tm' ps' as' bd' d'=>bI (kV s s') (oa p p') (nj t σ tm tm') (vT σ d d') (Ix ps ps') (bI (bD as as') (bD bd bd') true true true true)
 | .deferred none,.deferred none=>true
 | .deferred (some []),.deferred (some [])=>true
 | .ro g c,.ro g' c'=>bI (Nat.beq g g') (nj t σ c c') true true true true
 | .win g c n es,.win g' c' n' es'=>bI (Nat.beq g g') (nj t σ c c') (r3 t σ n n') (Nat.beq es es') (Nat.beq (σ.name i) i) true
 | .iter none,.iter none=>true
 | .iter (some b),.iter (some c)=>vT σ b c
 | .arr a ks n e w,.arr a' ks' n' e' w'=>bI (aaa t σ ks a a') (CK.fG ks ks') (r3 t σ n n') (Nat.beq e e') (jy w w') true
 | .warr g f ks n,.warr g' f' ks' n'=>bI (Nat.beq g g') (Nat.beq f f') (CK.fG ks ks') (r3 t σ n n') (wh t.ts f ks.length) (Nat.beq (σ.name i) i)
 | _,_=>false
structure mW where
 fr:Fr
 items:List (Nat×av)
 n:Nat
 pc:PC
 kn:List Nat
def mI:List (Nat×av)→H
 | []=>.nil
 | (i,o)::l=>(mI l).set i o
def mW.st(p:mW):St:=⟨mI p.items,p.n,p.pc⟩
def NK(t:Tch)(σ:Mt)(h:H):List (Nat×av)→Bool
 | []=>true
 | (i,p)::l=>match look σ.u i with
  | some _=>false
  | none=>match h.get (σ.name i) with
   | some o=>match Cw t σ i p o with
    | true=>NK t σ h l
    | false=>false
   | none=>false
def X.dE(t:Tch)(σ:Mt):X→Bool
 | .lit _=>true
 | .var i=>match look σ.v i with
  | some _=>true
  | none=>!eg i t.vs
 | .add a b=>a.dE t σ&&b.dE t σ
 | .sub a b=>a.dE t σ&&b.dE t σ
 | .mul a b=>a.dE t σ&&b.dE t σ
 | .lt a b=>a.dE t σ&&b.dE t σ
 | .le a b=>a.dE t σ&&b.dE t σ
 | .eq a b=>a.dE t σ&&b.dE t σ
 | _=>false
def X.dB(σ:Mt):X→X
 | .var i=>match look σ.v i with
  | some x=>x
  | none=>.var i
 | .add a b=>.add (a.dB σ) (b.dB σ)
 | .sub a b=>.sub (a.dB σ) (b.dB σ)
 | .mul a b=>.mul (a.dB σ) (b.dB σ)
 | .lt a b=>.lt (a.dB σ) (b.dB σ)
 | .le a b=>.le (a.dB σ) (b.dB σ)
 | .eq a b=>.eq (a.dB σ) (b.dB σ)
 | x=>x
def YR(pc:PC)(x:X)(b:Bool):Bool:=match eT pc x with
 | some c=>jy c b
 | none=>match AU pc x with
  | some c=>jy c b
  | none=>false
def Ou(t:Tch)(σ:Mt)(pc:PC):PC→Bool
 | []=>true
 | (x,b)::l=>match x.dE t σ with
  | true=>match YR pc (x.dB σ) b with
   | true=>Ou t σ pc l
   | false=>false
  | false=>false
def lG(σ:Mt):List (Nat×av)→List Nat
 | []=>[]
 | (i,_)::l=>σ.name i::lG σ l
def j5(σ:Mt)(n:Nat):List Nat→Bool
 | []=>true
 | i::l=>match Nat.blt i n with
  | true=>match look σ.u i with
   | some _=>false
   | none=>match Nat.beq (σ.name i) i with
    | true=>j5 σ n l
    | false=>false
  | false=>j5 σ n l
def fit(t:Tch)(σ:Mt)(n:Nat)(p:mW)(fr:Fr)(st:St):Bool:=
 bI (nj t σ p.fr.tm fr.tm) (xN σ p.fr.df fr.df) (NK t σ st.h p.items) (jS (lG σ p.items)) (Ou t σ st.pc p.pc) (j5 σ n p.kn)
def Cp.oW:Cp→List Nat
 | .known _=>[]
 | .room b _ _=>[b]
mutual
def V.oW:V→List Nat
 | .ptr b _=>[b]
 | .slice b _ _ c=>b::c.oW
 | .map b=>[b]
 | .func _ a c=>V.rG a++V.rG c
 | .yield b=>[b]
 | .iface _ v=>v.oW
 | .agg l=>V.rG l
 | .tuple l=>V.rG l
 | .ite _ a b=>a.oW++b.oW
 | .sptr b _ _ _=>[b]
 | .rest b _ _ _=>[b]
 | .xslice _ b _ _ _ _=>[b]
 | .xptr _ b _ _ _=>[b]
 | .any k=>[k]
 | _=>[]
def V.rG:List V→List Nat
 | []=>[]
 | v::l=>v.oW++V.rG l
end
def Cc:List bN→List Nat
 | []=>[]
 | .mark b::l=>b::Cc l
 | .fn _ a c::l=>V.rG a++(V.rG c++Cc l)
def PA:List (V×V)→List Nat
 | []=>[]
 | (k,v)::l=>k.oW++(v.oW++PA l)
def av.oW:av→List Nat
 | .cells c _ _=>V.rG c
 | .map es=>PA es
 | .loop _ _ tm _ _ _ d=>d::V.rG tm
 | .deferred (some l)=>Cc l
 | .ro _ c=>V.rG c
 | .win _ c _ _=>V.rG c
 | .iter (some b)=>[b]
 | _=>[]
def DP:List Nat→List Nat→Bool
 | [],_=>true
 | a::l,m=>match eg a m with
  | true=>DP l m
  | false=>false
def zd(kn:List Nat):List (Nat×av)→Bool
 | []=>true
 | (i,o)::l=>match eg i kn with
  | true=>match DP o.oW kn with
   | true=>zd kn l
   | false=>false
  | false=>false
def Po(n:Nat):List Nat→Bool
 | []=>true
 | i::l=>match Nat.blt i n with
  | true=>Po n l
  | false=>false
def y7(kn:List Nat):Nat→Bool
 | 0=>true
 | g+1=>match eg g kn with
  | true=>y7 kn g
  | false=>false
def pa(ng:Nat)(p:mW):Bool:=bI (y7 p.kn ng) (DP (V.rG p.fr.tm) p.kn) (DP (Cc p.fr.df) p.kn) (zd p.kn p.items) (Po p.n p.kn) true
inductive LL where
 | next (σ:Mt)
 | out (k:Nat) (σ:Mt)
 | never
structure OutP where
 ex:Ex
 pat:mW
def yS(t:Tch)(n:Nat)(I:mW)(outs:List OutP)(e:Ex)(fr:Fr)(st:St):LL→Bool
 | .never=>true
 | .next σ=>match e with
  | .normal=>fit t σ n I fr st
  | _=>false
 | .out k σ=>match nth outs k with
  | some O=>match k7 e O.ex with
   | true=>match e with
    | .normal=>false
    | _=>fit t σ n O.pat fr st
   | false=>false
  | none=>false
def kc(t:Tch)(n:Nat)(I:mW)(outs:List OutP):cM→R LL→Bool
 | .br c a b,r=>match r with
  | .br d x y=>match c.beq d with
   | true=>match kc t n I outs a x with
    | true=>kc t n I outs b y
    | false=>false
   | false=>false
  | _=>false
 | .ok (e,fr,st),r=>match r with
  | .ok l=>yS t n I outs e fr st l
  | _=>false
 | .stuck _,r=>match r with
  | .ok .never=>true
  | _=>false
def nh(ng:Nat)(h:H)(n:Nat):List Nat→Bool
 | []=>true
 | i::l=>match Nat.blt i n with
  | false=>nh ng h n l
  | true=>match Nat.blt i ng with
   | true=>nh ng h n l
   | false=>match h.get i with
    | some _=>nh ng h n l
    | none=>false
def ig(n:Nat)(m:List Nat):List Nat→Bool
 | []=>true
 | i::l=>match Nat.blt i n with
  | false=>ig n m l
  | true=>match eg i m with
   | true=>ig n m l
   | false=>false
def Fw(ng n:Nat)(kn:List Nat):List OutP→Bool
 | []=>true
 | O::l=>bI (pa ng O.pat) (Nat.ble n O.pat.n) (ig n kn O.pat.kn) (Fw ng n kn l) true true
def US(kn:List Nat):Option Nat→Bool
 | none=>true
 | some l=>eg l kn
def F7(ng:Nat)(L:LoopI)(I:mW)(outs:List OutP):Bool:=
 bI (pa ng I) (Fw ng L.st.n I.kn outs) (nh ng L.st.h L.st.n I.kn) (Nat.ble ng L.st.n) (US I.kn L.rnd) true
def xe (r:List (Nat×Nat)) (i:Nat):Nat:=match look r i with
 | some j=>j
 | none=>i
def F2(a b:Nat) (r:List (Nat×Nat)):List (Nat×Nat):=match Nat.beq a b with
 | true=>r
 | false=>match look r a with
  | some _=>r
  | none=>(a,b)::r
mutual
def nmV:V→V→List (Nat×Nat)→List (Nat×Nat)
 | .ptr a _,.ptr b _,r=>F2 a b r
 | .slice a _ _ _,.slice b _ _ _,r=>F2 a b r
 | .map a,.map b,r=>F2 a b r
 | .sptr a _ _ _,.sptr b _ _ _,r=>F2 a b r
 | .xslice w a _ _ _ _,.xslice _ b _ _ _ _,r=>match w with
  | true=>r
  | false=>F2 a b r
 | .xptr w a _ _ _,.xptr _ b _ _ _,r=>match w with
  | true=>r
  | false=>F2 a b r
 | .func _ a c,.func _ b d,r=>As c d (As a b r)
 | .iface _ v,.iface _ u,r=>nmV v u r
 | .agg l,.agg m,r=>As l m r
 | .tuple l,.tuple m,r=>As l m r
 | _,_,r=>r
def As:List V→List V→List (Nat×Nat)→List (Nat×Nat)
 | v::l,u::m,r=>As l m (nmV v u r)
 | _,_,r=>r
end
def acR:List (V×V)→List (V×V)→List (Nat×Nat)→List (Nat×Nat)
 | (k,v)::l,(j,u)::m,r=>acR l m (nmV v u (nmV k j r))
 | _,_,r=>r
mutual
def uV:V→V→List (Nat×V)→List (Nat×V)
 | .any k,v,l=>match look l k with
  | some _=>l
  | none=>(k,v)::l
 | .func _ a c,.func _ b d,l=>uVs c d (uVs a b l)
 | .iface _ v,.iface _ u,l=>uV v u l
 | .agg x,.agg y,l=>uVs x y l
 | .tuple x,.tuple y,l=>uVs x y l
 | _,_,l=>l
def uVs:List V→List V→List (Nat×V)→List (Nat×V)
 | v::x,u::y,l=>uVs x y (uV v u l)
 | _,_,l=>l
end
def uEs:List (V×V)→List (V×V)→List (Nat×V)→List (Nat×V)
 | (k,v)::x,(j,u)::y,l=>uEs x y (uV v u (uV k j l))
 | _,_,l=>l
def rDs:List bN→List bN→List (Nat×Nat)→List (Nat×Nat)
 | .mark b::x,.mark c::y,r=>rDs x y (F2 b c r)
 | _,_,r=>r
def rOb:av→Option av→List (Nat×Nat)→List (Nat×Nat)
 | .cells c _ _,some (.cells d _ _),r=>As c d r
 | .map es,some (.map fs),r=>acR es fs r
 | .loop _ _ tm _ _ _ d,some (.loop _ _ tm' _ _ _ d'),r=>F2 d d' (As tm tm' r)
 | .iter (some b),some (.iter (some c)),r=>F2 b c r
 | _,_,r=>r
def uOb:av→Option av→List (Nat×V)→List (Nat×V)
 | .cells c _ _,some (.cells d _ _),l=>uVs c d l
 | .map es,some (.map fs),l=>uEs es fs l
 | .loop _ _ tm _ _ _ _,some (.loop _ _ tm' _ _ _ _),l=>uVs tm tm' l
 | _,_,l=>l
def SE(h:H):List (Nat×av)→List (Nat×Nat)→List (Nat×Nat)
 | [],r=>r
 | (i,o)::l,r=>SE h l (rOb o (h.get (xe r i)) r)
def Xv(h:H) (r:List (Nat×Nat)):List (Nat×av)→List (Nat×V)→List (Nat×V)
 | [],u=>u
 | (i,o)::l,u=>Xv h r l (uOb o (h.get (xe r i)) u)
def iI(p:mW)(fr:Fr)(st:St) (v:List (Nat×X)) (a:List (Nat×(List CK×A))):Mt:=
 match SE st.h p.items (rDs p.fr.df fr.df (As p.fr.tm fr.tm [])) with
 | r=>⟨v,a,Xv st.h r p.items (uVs p.fr.tm fr.tm []),r⟩
def n3(I:mW)(outs:List OutP):cM→R LL→R LL
 | .br _ a b,r=>match r with
  | .br d x y=>.br d (n3 I outs a x) (n3 I outs b y)
  | r=>r
 | .ok (_,fr,st),r=>match r with
  | .ok (.next σ)=>.ok (.next (iI I fr st σ.v σ.a))
  | .ok (.out k σ)=>match nth outs k with
   | some O=>.ok (.out k (iI O.pat fr st σ.v σ.a))
   | none=>r
  | r=>r
 | .stuck _,r=>r
def B4 (v:List (Nat×X)) (a:List (Nat×(List CK×A))):Mt:=⟨v,a,[],[]⟩
end
end Go.Proofs.YtmickljjofbmiaaGreatDoor
namespace Go.Proofs.YtmickljjofbmiaaGreatDoor
open Go
theorem T.tp{α:Type}{f:α→α→Bool}:∀ {t u:T α} {bs:List Bool} {a:α},T.sub f t u=true→t.fk bs=some a→∃ b,u.fk bs=some b∧f a b=true
 | .nil,u,bs,a,_,h=>by rw [T.eN] at h;cases h
 | .node l v r,.nil,bs,a,hs,h=>by
  obtain⟨h1,h2,h3,_⟩:=ax hs
  cases bs with
  | nil=>
   have h':v=some a:=h
   subst h'
   cases h1
  | cons b bs=>
   cases b with
   | true=>
    obtain⟨c,hc,_⟩:=T.tp h3 (show r.fk bs=some a from h)
    rw [T.eN] at hc
    cases hc
   | false=>
    obtain⟨c,hc,_⟩:=T.tp h2 (show l.fk bs=some a from h)
    rw [T.eN] at hc
    cases hc
 | .node l v r,.node l' v' r',bs,a,hs,h=>by
  obtain⟨h1,h2,h3,_⟩:=ax hs
  cases bs with
  | nil=>
   have h':v=some a:=h
   subst h'
   cases v' with
   | none=>cases h1
   | some b=>exact⟨b,rfl,h1⟩
  | cons b bs=>
   cases b with
   | true=>exact T.tp (t:=r) (u:=r') h3 h
   | false=>exact T.tp (t:=l) (u:=l') h2 h
theorem Na{a b:X×Bool}(h:Pe a b=true):a=b:=by
 obtain⟨h1,h2,_⟩:=ax h
 exact Prod.ext (X.beq_eq h1) (cW h2)
theorem Kg{h h':H}(h1:T.sub av.beq h h'=true){i:Nat}{o:av}(hi:h.get i=some o):h'.get i=some o:=by
 obtain⟨b,hb,he⟩:=T.tp h1 hi
 rw [av.beq_eq he]
 exact hb
section
variable {P:Program} {cx:Cx} {ρ:Env}
def cK(P:Program)(cx:Cx)(ρ:Env)(L:LoopI):Prop:=
 ∀ res,L.res.ai ρ=some res→∀ S π0 w a ro n,cu cx ρ S π0 L.st w→db ρ S π0 L.fr a→j4 S π0 L.rnd ro→gU (FN ro) n P L.body (dO ρ S π0 L.st w res) a w
theorem Pf:∀ {l:List LoopI},(∀ L∈l,cK P cx ρ L)→akX P cx ρ (PG l)
 | [],_,rnd,c,fr,st,r,res,h,_,_,_,_,_,_,_,_,_,_=>by simp [PG] at h
 | L::l,hl,rnd,c,fr,st,r,res,h,hs,S,π0,w,a,ro,n,hh,hf,hr=>by
  unfold PG at h
  split at h
  ·rename_i he
   obtain rfl:=Option.some.inj h
   unfold Cy at he
   obtain⟨e1,e2,e3,e4,_⟩:=ax he
   obtain⟨e5,e6,e7,e8,e9,_⟩:=ax e1
   obtain⟨h0,n0,pc0⟩:=st
   obtain⟨tm0,df0⟩:=fr
   obtain rfl:=iN e2
   obtain rfl:=gZ e6
   obtain e5':n0=L.st.n:=Nat.eq_of_beq_eq_true e5
   obtain e9':pc0=L.st.pc:=gj Na e9
   obtain e7':tm0=L.fr.tm:=V.bJ _ _ e7
   obtain e8':df0=L.fr.df:=lU e8
   subst e5' e9' e7' e8'
   have to:∀ i o,h0.get i=some o→L.st.h.get i=some o:=fun i o=>Kg e3
   have fro:∀ i o,L.st.h.get i=some o→h0.get i=some o:=fun i o=>Kg e4
   have hh':cu cx ρ S π0 L.st w:=⟨hh.pc,⟨fun π hk=>⟨fun i o hi=>(hh.at_.rep π hk).obj i o (fro i o hi),fun i j o o' hi hj e=>(hh.at_.rep π hk).inj i j o o' (fro i o hi) (fro j o' hj) e⟩,fun i o hi=>hh.at_.dom i o (fro i o hi)⟩,hh.glob,hh.fresh⟩
   refine tY ?_ (hl L (by simp) res hs S π0 w a ro n hh' hf hr)
   rintro e a' w' ⟨p1,π1,g,p2,p3⟩
   exact⟨p1,π1,⟨g.le,g.known,g.at_,fun i o hi=>(g.sub i o hi).imp_right fun⟨i0,o0,q,e,z⟩=>⟨i0,o0,fro _ _ q,e,z⟩,fun j hj hne=>g.keep j hj fun i o hi=>hne i o (fro i o hi),g.size,g.same⟩,p2,p3⟩
  ·exact Pf (fun L hL=>hl L (List.mem_cons_of_mem _ hL)) rnd c fr st r res h hs S π0 w a ro n hh hf hr
end
structure Agree (t:Tch) (ρ1 ρ2:Env):Prop where
 v:∀ i,eg i t.vs=false→ρ2.v i=ρ1.v i
 f1:∀ f,Lo t.ts f=false→ρ2.f1 f=ρ1.f1 f
 b:ρ2.b=ρ1.b
 f2:ρ2.f2=ρ1.f2
 s:ρ2.s=ρ1.s
 sf:ρ2.sf=ρ1.sf
 ro:ρ2.ro=ρ1.ro
 win:ρ2.win=ρ1.win
structure bK (t:Tch) (ρ1 ρ2:Env) (σ:Mt):Prop where
 cR:Agree t ρ1 ρ2
 v:∀ i x,look σ.v i=some x→ρ2.v i=x.den ρ1
 a:∀ f ks a,look σ.a f=some (ks,a)→∀ (c:Nat) (k:CK),ks[c]?=some k→∀ j:Int,k.val (k.sym ρ2 f c j)=k.val (a.den ρ1 k c j)
section
variable {t:Tch} {ρ1 ρ2:Env} {σ:Mt} {π1:Pl}
theorem B.cR(A:Agree t ρ1 ρ2)(b:B):b.den ρ2=b.den ρ1:=by cases b<;>simp only [B.den,A.b]
theorem Jy(A:Agree t ρ1 ρ2)(b:B):∀ l:List B,aw ρ2 l b=aw ρ1 l b
 | []=>by simp only [aw,B.cR A]
 | c::l=>by simp only [aw,B.cR A,Jy A b l]
theorem Cb(A:Agree t ρ1 ρ2){f:Nat}(hf:Lo t.ts f=false)(lo:Int)(n:Nat):tW ρ2 f lo n=tW ρ1 f lo n:=by
 unfold tW
 rw [A.f1 f hf]
theorem X.jC(A:Agree t ρ1 ρ2):∀ x:X,x.free t=true→x.den ρ2=x.den ρ1∧x.bx ρ2=x.bx ρ1:=by
 intro x
 induction x with
 | lit n=>exact fun _=>⟨rfl,rfl⟩
 | var i=>exact fun h=>⟨A.v i (by simpa [X.free] using h),rfl⟩
 | slit l=>exact fun _=>⟨rfl,rfl⟩
 | svar i=>exact fun _=>⟨rfl,by simp only [X.bx,A.s]⟩
 | bv l b=>exact fun _=>⟨Jy A b l,rfl⟩
 | cube m v=>exact fun _=>⟨by simp only [X.den,bw,A.b],rfl⟩
 | wrap k a ia=>exact fun h=>⟨by simp only [X.den,(ia (by simpa [X.free] using h)).1],rfl⟩
 | not a ia=>exact fun h=>⟨by simp only [X.den,(ia (by simpa [X.free] using h)).1],rfl⟩
 | slen a ia=>exact fun h=>⟨by simp only [X.den,(ia (by simpa [X.free] using h)).2],rfl⟩
 | sfn f a ia=>
  intro h
  refine⟨rfl,?_⟩
  have e:=(ia (by simpa [X.free] using h)).1
  simp only [X.bx,e]
  cases f with
  | zero=>rfl
  | succ f=>simp only [xd,A.sf]
 | fn1 f a ia=>
  intro h
  simp only [X.free,Bool.and_eq_true,Bool.not_eq_true'] at h
  exact⟨by simp only [X.den,(ia h.2).1,A.f1 f h.1],rfl⟩
 | btext f a b ia ib=>
  intro h
  simp only [X.free,Bool.and_eq_true,Bool.not_eq_true'] at h
  exact⟨rfl,by simp only [X.bx,(ia h.2.1).1,(ib h.2.2).1,Cb A h.1]⟩
 | ite c a b ic ia ib=>
  intro h
  simp only [X.free,Bool.and_eq_true] at h
  exact⟨by simp only [X.den,(ic h.1).1,(ia h.2.1).1,(ib h.2.2).1],by simp only [X.bx,(ic h.1).1,(ia h.2.1).2,(ib h.2.2).2]⟩
 | fn2 f a b ia ib=>
  intro h
  simp only [X.free,Bool.and_eq_true] at h
  exact⟨by simp only [X.den,(ia h.1).1,(ib h.2).1,A.f2],rfl⟩
 | scat a b ia ib=>
  intro h
  simp only [X.free,Bool.and_eq_true] at h
  exact⟨rfl,by simp only [X.bx,(ia h.1).2,(ib h.2).2]⟩
 | seq a b ia ib=>
  intro h
  simp only [X.free,Bool.and_eq_true] at h
  exact⟨by simp only [X.den,(ia h.1).2,(ib h.2).2],rfl⟩
 | _=>
  rename_i ia ib
  intro h
  simp only [X.free,Bool.and_eq_true] at h
  exact⟨by simp only [X.den,(ia h.1).1,(ib h.2).1],rfl⟩
theorem eU(E:bK t ρ1 ρ2 σ){p x:X}(h:r3 t σ p x=true):p.den ρ2=x.den ρ1:=by
 unfold r3 at h
 split at h
 ·rename_i i
  split at h
  ·rename_i y hy
   rw [←X.beq_eq h]
   exact E.v i y hy
  ·split at h
   ·cases h
   ·rename_i hm
    rw [←X.beq_eq h]
    exact E.cR.v i hm
 ·split at h
  ·rename_i hf
   rw [←X.beq_eq h]
   exact (X.jC E.cR _ hf).1
  ·cases h
theorem Y5(E:bK t ρ1 ρ2 σ){p x:X}(h:adg t p x=true):p.bx ρ2=x.bx ρ1:=by
 unfold adg at h
 split at h
 ·rename_i hf
  rw [←X.beq_eq h]
  exact (X.jC E.cR _ hf).2
 ·cases h
def A7(σ:Mt)(ρ:Env)(π:Pl):Pl:=fun i=>match look σ.u i with
 | some v=>⟨0,0,v.ae ρ π⟩
 | none=>π (σ.name i)
theorem eL{i:Nat}(h:look σ.u i=none):A7 σ ρ1 π1 i=π1 (σ.name i):=by
 unfold A7
 rw [h]
theorem g9{b c:Nat}(h:vT σ b c=true):A7 σ ρ1 π1 b=π1 c:=by
 unfold vT at h
 split at h
 ·cases h
 ·rename_i hu
  rw [eL hu,Nat.eq_of_beq_eq_true h]
theorem XS(E:bK t ρ1 ρ2 σ){p q:XC}{b c:Nat}(h:Sy t σ p q=true)(hb:A7 σ ρ1 π1 b=π1 c)(o:Nat):p.ae ρ2 (A7 σ ρ1 π1) b o=q.ae ρ1 π1 c o:=by
 unfold Sy at h
 split at h
 ·simp only [XC.ae,eU E h]
 ·simp only [XC.ae,eU E h,hb]
 ·cases h
theorem CD(E:bK t ρ1 ρ2 σ){w:Bool}{b c:Nat}(hb:A7 σ ρ1 π1 b=π1 c) (hw:(match w with | true=>Nat.beq b c | false=>true)=true) (n:Nat):cX ρ2 (A7 σ ρ1 π1) w b n=cX ρ1 π1 w c n:=by
 unfold cX
 cases w with
 | true=>
  have:b=c:=Nat.eq_of_beq_eq_true hw
  subst this
  simp only [if_true,E.cR.win]
 | false=>simp only [Bool.false_eq_true,if_false,hb]
mutual
theorem y2(E:bK t ρ1 ρ2 σ):∀ (p v:V),gV t σ p v=true→p.ae ρ2 (A7 σ ρ1 π1)=v.ae ρ1 π1
 | .any k,v,h=>by
  unfold gV at h
  split at h
  ·rename_i u hu
   obtain rfl:=V.beq_eq _ _ h
   simp only [V.ae,A7,hu]
  ·cases h
 | .int k p,v,h=>by
  cases v<;>simp only [gV,Bool.false_eq_true] at h
  obtain⟨h1,h2,_⟩:=ax h
  simp only [V.ae,eU E h2,aY h1]
 | .bool p,v,h=>by
  cases v<;>simp only [gV,Bool.false_eq_true] at h
  simp only [V.ae,X.tt,eU E h]
 | .str p,v,h=>by
  cases v<;>simp only [gV,Bool.false_eq_true] at h
  simp only [V.ae,Y5 E h]
 | .ptr b o,v,h=>by
  cases v<;>simp only [gV,Bool.false_eq_true] at h
  obtain⟨h1,h2,_⟩:=ax h
  simp only [V.ae,g9 (ρ1:=ρ1) (π1:=π1) h1,Nat.eq_of_beq_eq_true h2]
 | .nilptr,v,h=>by cases v<;>simp only [gV,Bool.false_eq_true] at h;rfl
 | .slice b o n c,v,h=>by
  cases v<;>simp only [gV,Bool.false_eq_true] at h
  rename_i b' o' n' c'
  obtain⟨h1,h2,h3,h4,_⟩:=ax h
  have hc:c.ae (A7 σ ρ1 π1)=c'.ae π1:=by
   unfold aa2 at h4
   split at h4
   ·rw [Nat.eq_of_beq_eq_true h4]
    rfl
   ·obtain⟨g1,g2,g3,_⟩:=ax h4
    simp only [Cp.ae,g9 (ρ1:=ρ1) (π1:=π1) g1,Nat.eq_of_beq_eq_true g2,Nat.eq_of_beq_eq_true g3]
   ·cases h4
  simp only [V.ae,g9 (ρ1:=ρ1) (π1:=π1) h1,Nat.eq_of_beq_eq_true h2,Nat.eq_of_beq_eq_true h3,hc]
 | .nilslice,v,h=>by cases v<;>simp only [gV,Bool.false_eq_true] at h;rfl
 | .map b,v,h=>by
  cases v<;>simp only [gV,Bool.false_eq_true] at h
  simp only [V.ae,g9 (ρ1:=ρ1) (π1:=π1) h]
 | .nilmap,v,h=>by cases v<;>simp only [gV,Bool.false_eq_true] at h;rfl
 | .func f a c,v,h=>by
  cases v<;>simp only [gV,Bool.false_eq_true] at h
  obtain⟨h1,h2,h3,_⟩:=ax h
  simp only [V.ae,eQ h1,fX E _ _ h2,fX E _ _ h3]
 | .yield b,v,h=>by
  cases v<;>simp only [gV,Bool.false_eq_true] at h
  simp only [V.ae,g9 (ρ1:=ρ1) (π1:=π1) h]
 | .nilfunc,v,h=>by cases v<;>simp only [gV,Bool.false_eq_true] at h;rfl
 | .iface u x,v,h=>by
  cases v<;>simp only [gV,Bool.false_eq_true] at h
  obtain⟨h1,h2,_⟩:=ax h
  simp only [V.ae,Nat.eq_of_beq_eq_true h1,y2 E _ _ h2]
 | .niliface,v,h=>by cases v<;>simp only [gV,Bool.false_eq_true] at h;rfl
 | .agg l,v,h=>by
  cases v<;>simp only [gV,Bool.false_eq_true] at h
  simp only [V.ae,fX E _ _ h]
 | .tuple l,v,h=>by
  cases v<;>simp only [gV,Bool.false_eq_true] at h
  simp only [V.ae,fX E _ _ h]
 | .wptr b o,v,h=>by
  cases v<;>simp only [gV,Bool.false_eq_true] at h
  obtain⟨h1,h2,_⟩:=ax h
  simp only [V.ae,E.cR.win,Nat.eq_of_beq_eq_true h1,Nat.eq_of_beq_eq_true h2]
 | .wslice b o n c,v,h=>by
  cases v<;>simp only [gV,Bool.false_eq_true] at h
  obtain⟨h1,h2,h3,h4,_⟩:=ax h
  simp only [V.ae,E.cR.win,Nat.eq_of_beq_eq_true h1,Nat.eq_of_beq_eq_true h2,eU E h3,eU E h4]
 | .sptr b o n i,v,h=>by
  cases v<;>simp only [gV,Bool.false_eq_true] at h
  obtain⟨h1,h2,h3,h4,_⟩:=ax h
  simp only [V.ae,g9 (ρ1:=ρ1) (π1:=π1) h1,Nat.eq_of_beq_eq_true h2,eU E h4]
 | .xslice w b off es n c,v,h=>by
  cases v<;>simp only [gV,Bool.false_eq_true] at h
  obtain⟨h1,h2,h3,h4,h5,h6⟩:=ax h
  obtain⟨h7,h8,_⟩:=ax h2
  obtain rfl:=cW h1
  have hb:=g9 (ρ1:=ρ1) (π1:=π1) h7
  simp only [V.ae,eU E h3,eU E h5,Nat.eq_of_beq_eq_true h4,XS E h6 hb,CD E hb h8]
 | .xptr w b i es c,v,h=>by
  cases v<;>simp only [gV,Bool.false_eq_true] at h
  obtain⟨h1,h2,h3,h4,h5,_⟩:=ax h
  obtain⟨h7,h8,_⟩:=ax h2
  obtain rfl:=cW h1
  have hb:=g9 (ρ1:=ρ1) (π1:=π1) h7
  simp only [V.ae,eU E h3,Nat.eq_of_beq_eq_true h4,Nat.eq_of_beq_eq_true h5,CD E hb h8]
 | .ite _ _ _,v,h=>by cases v<;>simp only [gV,Bool.false_eq_true] at h
 | .rest _ _ _ _,v,h=>by cases v<;>simp only [gV,Bool.false_eq_true] at h
theorem fX(E:bK t ρ1 ρ2 σ):∀ (l m:List V),nj t σ l m=true→V.af ρ2 (A7 σ ρ1 π1) l=V.af ρ1 π1 m
 | [],[],_=>rfl
 | [],_::_,h=>by simp [nj] at h
 | _::_,[],h=>by simp [nj] at h
 | p::l,v::m,h=>by
  obtain⟨h1,h2,_⟩:=ax h
  simp only [V.af,y2 E p v h1,fX E l m h2]
end
theorem rf {l:List (Nat×Nat)} {f:Nat}:∀ {n:Nat},wh l f n=true→∀ c,c<n→Lo l (f+c)=false
 | 0,_,c,hc=>by omega
 | n+1,h,c,hc=>by
  unfold wh at h
  split at h
  ·cases h
  ·rename_i hn
   by_cases e:c=n
   ·subst e;exact hn
   ·exact rf h c (by omega)
theorem vK(A:Agree t ρ1 ρ2){f c:Nat} (h:Lo t.ts (f+c)=false) (k:CK) (j:Int):k.sym ρ2 f c j=k.sym ρ1 f c j:=by
 cases k<;>simp only [CK.sym,A.f1 _ h]
theorem A.jC(G:Agree t ρ1 ρ2){n:Nat}(k:CK){c:Nat}(hc:c<n)(j:Int):∀ a:A,a.free t n=true→a.den ρ2 k c j=a.den ρ1 k c j
 | .base f,h=>vK G (rf h c hc) k j
 | .fill x,h=>(X.jC G x h).1
 | .put a i c' x,h=>by
  simp only [A.free,Bool.and_eq_true] at h
  simp only [A.den,(X.jC G i h.2.1).1,(X.jC G x h.2.2).1,A.jC G k hc j a h.1]
theorem Z2(E:bK t ρ1 ρ2 σ){ks:List CK}{p a:A}(h:aaa t σ ks p a=true){c:Nat}{k:CK} (hk:ks[c]?=some k) (j:Int):k.val (p.den ρ2 k c j)=k.val (a.den ρ1 k c j):=by
 have hc:=(List.getElem?_eq_some_iff.1 hk).1
 unfold aaa at h
 split at h
 ·rename_i f
  split at h
  ·rename_i ks' b hl
   split at h
   ·rename_i hks
    obtain rfl:=CK.bJ hks
    rw [←A.beq_eq h]
    exact E.a f ks b hl c k hk j
   ·cases h
  ·split at h
   ·rename_i hn
    rw [←A.beq_eq h]
    simp only [A.den,vK E.cR (rf hn c hc)]
   ·cases h
 ·split at h
  ·rename_i hf
   rw [←A.beq_eq h,A.jC E.cR k hc j _ hf]
  ·cases h
theorem Rf(E:bK t ρ1 ρ2 σ){ks:List CK}{p a:A}(h:aaa t σ ks p a=true){n:Nat}{get:Nat→Option Value}(hr:j3 ρ1 a ks n get):j3 ρ2 p ks n get:=fun j c k hj hk=>by
 rw [Z2 E h hk]
 exact hr j c k hj hk
theorem I4(E:bK t ρ1 ρ2 σ):∀ {l m:List (V×V)},GI t σ l m=true→entriesOf ρ2 (A7 σ ρ1 π1) l=entriesOf ρ1 π1 m
 | [],[],_=>rfl
 | [],_::_,h=>by simp [GI] at h
 | _::_,[],h=>by simp [GI] at h
 | (k,v)::l,(j,u)::m,h=>by
  obtain⟨h1,h2,h3,_⟩:=ax h
  have:=I4 E h3
  simp only [entriesOf] at this
  simp only [entriesOf,List.map_cons,y2 E _ _ h1,y2 E _ _ h2,this]
theorem K9:∀ {l m:List bN},xN σ l m=true→l.map (bN.ae ρ2 (A7 σ ρ1 π1))=m.map (bN.ae ρ1 π1)
 | [],[],_=>rfl
 | [],_::_,h=>by simp [xN] at h
 | .mark b::l,[],h=>by simp [xN] at h
 | .fn _ _ _::l,[],h=>by simp [xN] at h
 | .fn _ _ _::l,_::_,h=>by simp [xN] at h
 | .mark b::l,.fn _ _ _::m,h=>by simp [xN] at h
 | .mark b::l,.mark c::m,h=>by
  obtain⟨h1,h2,_⟩:=ax h
  simp only [List.map_cons,bN.ae,g9 (ρ1:=ρ1) (π1:=π1) h1,K9 h2]
theorem Uw(E:bK t ρ1 ρ2 σ){i:Nat}(hu:look σ.u i=none){p o:av}(h:Cw t σ i p o=true){ob:Obj} (ho:o.is ρ1 π1 (σ.name i) ob):p.is ρ2 (A7 σ ρ1 π1) i ob:=by
 have hi:=eL (ρ1:=ρ1) (π1:=π1) hu
 unfold Cw at h
 split at h
 ·obtain⟨h1,h2,h3,_⟩:=ax h
  obtain rfl:=Nat.eq_of_beq_eq_true h1
  obtain rfl:=gZ h2
  obtain⟨spare,e1,e2⟩:=ho
  have e3:=fX (π1:=π1) E _ _ h3
  have e4:=congrArg List.length e3
  rw [aA,aA] at e4
  exact⟨spare,by rw [e3];exact e1,by rw [e4,hi];exact e2⟩
 ·obtain⟨ms,clock,e1,e2,e3⟩:=ho
  have e4:=I4 (π1:=π1) E h
  exact⟨ms,clock,e1,by rw [e4];exact e2,by rw [e4];exact e3⟩
 ·obtain⟨h1,h2,h3,h4,h5,h6⟩:=ax h
  obtain⟨h7,h8,_⟩:=ax h6
  obtain rfl:=eQ h1
  obtain rfl:=rT h2
  obtain rfl:=uC h5
  obtain rfl:=iN h7
  obtain rfl:=iN h8
  obtain⟨fn,e1⟩:=ho
  exact⟨fn,by rw [fX E _ _ h3,g9 h4];exact e1⟩
 ·exact ho
 ·exact ho
 ·obtain⟨h1,h2,_⟩:=ax h
  obtain rfl:=Nat.eq_of_beq_eq_true h1
  obtain⟨⟨ty,fr,e1⟩,e2⟩:=ho
  exact⟨⟨ty,fr,by rw [fX E _ _ h2];exact e1⟩,by rw [E.cR.ro];exact e2⟩
 ·obtain⟨h1,h2,h3,h4,h5,_⟩:=ax h
  obtain rfl:=Nat.eq_of_beq_eq_true h1
  obtain rfl:=Nat.eq_of_beq_eq_true h4
  have hn:=Nat.eq_of_beq_eq_true h5
  obtain⟨⟨e1,e2,cs,ty,fr,e3,e4⟩,e5⟩:=ho
  rw [hn] at e1 e2 e4
  have e6:=fX (π1:=π1) E _ _ h2
  refine⟨⟨by rw [E.cR.win];exact e1,by rw [E.cR.win,hi,hn];exact e2,cs,ty,fr,e3,fun j v hj hlt=>?_⟩,by rw [E.cR.ro];exact e5⟩
  rw [eU E h3] at hlt
  have e7:=congrArg (fun l=>l[j]?) e6
  simp only [bo,hj,Option.map_some] at e7
  rw [E.cR.win]
  cases hq:(‹List V›)[j]? with
  | none=>rw [hq] at e7;simp at e7
  | some u=>
   rw [hq] at e7
   simp only [Option.map_some,Option.some.injEq] at e7
   rw [e7]
   exact e4 j u hq hlt
 ·exact ho
 ·obtain⟨since,last,e1⟩:=ho
  exact⟨since,last,by rw [g9 h];exact e1⟩
 ·obtain⟨h1,h2,h3,h4,h5,_⟩:=ax h
  obtain rfl:=CK.bJ h2
  obtain rfl:=Nat.eq_of_beq_eq_true h4
  obtain rfl:=cW h5
  obtain⟨cs,e1,e2,e3,e4⟩:=ho
  refine⟨cs,e1,by rw [eU E h3];exact e2,fun hw=>by rw [hi];exact e3 hw,?_⟩
  rw [eU E h3]
  exact Rf E h1 e4
 ·obtain⟨h1,h2,h3,h4,h5,h6⟩:=ax h
  obtain rfl:=Nat.eq_of_beq_eq_true h1
  obtain rfl:=Nat.eq_of_beq_eq_true h2
  obtain rfl:=CK.bJ h3
  have hn:=Nat.eq_of_beq_eq_true h6
  obtain⟨⟨e1,e2,cs,ty,fr,e3,e4⟩,e5⟩:=ho
  rw [hn] at e1 e2 e4
  refine⟨⟨by rw [E.cR.win];exact e1,by rw [E.cR.win,hi,hn];exact e2,cs,ty,fr,e3,?_⟩,by rw [E.cR.ro];exact e5⟩
  rw [eU E h4,E.cR.win]
  intro j c k hj hk
  have:=e4 j c k hj hk
  simp only [A.den] at this ⊢
  rw [vK E.cR (rf h5 c (List.getElem?_eq_some_iff.1 hk).1) k j]
  exact this
 ·cases h
theorem lg{i:Nat}{p o:av}(h:Cw t σ i p o=true):p.bR=o.bR:=by
 unfold Cw at h
 split at h<;>first | rfl | cases h
theorem iA{h:H}:∀ {l:List (Nat×av)} {i:Nat} {p:av},NK t σ h l=true→(i,p)∈l→look σ.u i=none∧∃ o,h.get (σ.name i)=some o∧Cw t σ i p o=true
 | [],i,p,_,hm=>by simp at hm
 | (j,q)::l,i,p,hf,hm=>by
  unfold NK at hf
  split at hf
  ·cases hf
  ·rename_i hu
   split at hf
   ·rename_i o ho
    split at hf
    ·rename_i hq
     rcases List.mem_cons.1 hm with e | hm
     ·obtain⟨rfl,rfl⟩:i=j∧p=q:=by simpa using e
      exact⟨hu,o,ho,hq⟩
     ·exact iA hf hm
    ·cases hf
   ·cases hf
theorem fE{i:Nat}{o:av}:∀ {l:List (Nat×av)},(mI l).get i=some o→(i,o)∈l
 | [],h=>by simp only [mI,T.get_nil] at h;cases h
 | (j,p)::l,h=>by
  unfold mI at h
  by_cases e:j=i
  ·subst e
   rw [T.aR] at h
   obtain rfl:=Option.some.inj h
   exact List.mem_cons_self
  ·rw [T.aL _ _ e] at h
   exact List.mem_cons_of_mem _ (fE h)
theorem PX(E:bK t ρ1 ρ2 σ):∀ x:X,x.dE t σ=true→(x.dB σ).den ρ1=x.den ρ2:=by
 intro x
 induction x with
 | lit n=>exact fun _=>rfl
 | var i=>
  intro h
  unfold X.dB
  split
  ·rename_i y hy
   exact (E.v i y hy).symm
  ·rename_i hn
   simp only [X.dE,hn,Bool.not_eq_true'] at h
   exact (E.cR.v i h).symm
 | add a b ia ib=>intro h;simp only [X.dE,Bool.and_eq_true] at h;simp only [X.dB,X.den,ia h.1,ib h.2]
 | sub a b ia ib=>intro h;simp only [X.dE,Bool.and_eq_true] at h;simp only [X.dB,X.den,ia h.1,ib h.2]
 | mul a b ia ib=>intro h;simp only [X.dE,Bool.and_eq_true] at h;simp only [X.dB,X.den,ia h.1,ib h.2]
 | lt a b ia ib=>intro h;simp only [X.dE,Bool.and_eq_true] at h;simp only [X.dB,X.den,ia h.1,ib h.2]
 | le a b ia ib=>intro h;simp only [X.dE,Bool.and_eq_true] at h;simp only [X.dB,X.den,ia h.1,ib h.2]
 | eq a b ia ib=>intro h;simp only [X.dE,Bool.and_eq_true] at h;simp only [X.dB,X.den,ia h.1,ib h.2]
 | _=>intro h;simp [X.dE] at h
theorem OC{ρ:Env}{pc:PC}{x:X}{b:Bool}(hp:au ρ pc)(h:YR pc x b=true):x.tt ρ=b:=by
 unfold YR at h
 split at h
 ·rename_i c hc
  rw [dV hp hc,cW h]
 ·split at h
  ·rename_i c hc
   rw [wg hp hc,cW h]
  ·cases h
theorem GN(E:bK t ρ1 ρ2 σ){pc:PC}(hp:au ρ1 pc):∀ {l:PC},Ou t σ pc l=true→au ρ2 l
 | [],_=>fun f hf=>by simp at hf
 | (x,b)::l,h=>by
  unfold Ou at h
  split at h
  ·rename_i hx
   split at h
   ·rename_i hd
    intro f hf
    rcases List.mem_cons.1 hf with rfl | hf
    ·have:=OC hp hd
     dsimp only
     rw [X.tt,←PX E x hx]
     exact this
    ·exact GN E hp h f hf
   ·cases h
  ·cases h
end
section
variable {ρ:Env} {π π':Pl}
mutual
theorem V.nF:∀ v:V,(∀ b∈v.oW,π b=π' b)→v.ae ρ π=v.ae ρ π'
 | .int _ _,_=>rfl
 | .bool _,_=>rfl
 | .str _,_=>rfl
 | .ptr b o,h=>by simp only [V.ae,h b (by simp [V.oW])]
 | .nilptr,_=>rfl
 | .slice b o n c,h=>by
  have hb:=h b (by simp [V.oW])
  cases c with
  | known m=>simp only [V.ae,Cp.ae,hb]
  | room b' o' m=>simp only [V.ae,Cp.ae,hb,h b' (by simp [V.oW,Cp.oW])]
 | .nilslice,_=>rfl
 | .map b,h=>by simp only [V.ae,h b (by simp [V.oW])]
 | .nilmap,_=>rfl
 | .func f a c,h=>by simp only [V.ae,V.de a fun b hb=>h b (by simp [V.oW,hb]),V.de c fun b hb=>h b (by simp [V.oW,hb])]
 | .yield b,h=>by simp only [V.ae,h b (by simp [V.oW])]
 | .nilfunc,_=>rfl
 | .iface t v,h=>by simp only [V.ae,V.nF v fun b hb=>h b (by simpa [V.oW] using hb)]
 | .niliface,_=>rfl
 | .agg l,h=>by simp only [V.ae,V.de l fun b hb=>h b (by simpa [V.oW] using hb)]
 | .tuple l,h=>by simp only [V.ae,V.de l fun b hb=>h b (by simpa [V.oW] using hb)]
 | .wptr b o,_=>rfl
 | .wslice b o n c,_=>rfl
 | .ite c a b,h=>by simp only [V.ae,V.nF a fun b hb=>h b (by simp [V.oW,hb]),V.nF b fun b hb=>h b (by simp [V.oW,hb])]
 | .sptr b o n i,h=>by simp only [V.ae,h b (by simp [V.oW])]
 | .rest b o l s,h=>by simp only [V.ae,h b (by simp [V.oW])]
 | .xslice w b off es n c,h=>by
  have hb:=h b (by simp [V.oW])
  cases c<;>simp only [V.ae,XC.ae,cX,hb]
 | .xptr w b i es c,h=>by simp only [V.ae,cX,h b (by simp [V.oW])]
 | .any k,h=>by simp only [V.ae,h k (by simp [V.oW])]
theorem V.de:∀ l:List V,(∀ b∈V.rG l,π b=π' b)→V.af ρ π l=V.af ρ π' l
 | [],_=>rfl
 | v::l,h=>by simp only [V.af,V.nF v fun b hb=>h b (by simp [V.rG,hb]),V.de l fun b hb=>h b (by simp [V.rG,hb])]
end
theorem rD:∀ l:List bN,(∀ b∈Cc l,π b=π' b)→l.map (bN.ae ρ π)=l.map (bN.ae ρ π')
 | [],_=>rfl
 | .mark b::l,h=>by simp only [List.map_cons,bN.ae,h b (by simp [Cc]),rD l fun c hc=>h c (by simp [Cc,hc])]
 | .fn f a c::l,h=>by
  simp only [List.map_cons,bN.ae,V.de a fun b hb=>h b (by simp [Cc,hb]),V.de c fun b hb=>h b (by simp [Cc,hb]),rD l fun c hc=>h c (by simp [Cc,hc])]
theorem xc:∀ l:List (V×V),(∀ b∈PA l,π b=π' b)→entriesOf ρ π l=entriesOf ρ π' l
 | [],_=>rfl
 | (k,v)::l,h=>by
  have:=xc l fun c hc=>h c (by simp [PA,hc])
  simp only [entriesOf] at this
  simp only [entriesOf,List.map_cons,V.nF k fun b hb=>h b (by simp [PA,hb]),V.nF v fun b hb=>h b (by simp [PA,hb]),this]
theorem av.RL{i:Nat}{ob:Obj}(hi:π i=π' i):∀ {o:av},(∀ b∈o.oW,π b=π' b)→o.is ρ π i ob→o.is ρ π' i ob
 | .cells c e w,h,⟨spare,h1,h2⟩=>⟨spare,by rw [←V.de c h];exact h1,by rw [←hi];exact h2⟩
 | .map es,h,⟨ms,clock,h1,h2,h3⟩=>⟨ms,clock,h1,by rw [←xc es h];exact h2,by rw [←xc es h];exact h3⟩
 | .loop s p tm ps as bd d,h,⟨fn,h1⟩=>⟨fn,by rw [←V.de tm fun b hb=>h b (by simp [av.oW,hb]),←h d (by simp [av.oW])];exact h1⟩
 | .deferred none,_,h1=>h1
 | .deferred (some l),h,h1=>by
  have h1':ob=.deferred (some (l.map (bN.ae ρ π))):=h1
  show ob=.deferred (some (l.map (bN.ae ρ π')))
  rw [←rD l h]
  exact h1'
 | .ro g c,h,⟨⟨t,fr,h1⟩,h2⟩=>⟨⟨t,fr,by rw [←V.de c h];exact h1⟩,h2⟩
 | .win g c n es,h,⟨⟨h1,h2,cs,t,fr,h3,h4⟩,h5⟩=>⟨⟨h1,by rw [←hi];exact h2,cs,t,fr,h3,fun j v hj hlt=>by
   have e:=V.de (ρ:=ρ) c h
   have e2:=congrArg (fun l=>l[j]?) e
   simp only [bo,hj,Option.map_some,Option.some.injEq] at e2
   rw [←e2]
   exact h4 j v hj hlt⟩,h5⟩
 | .iter none,_,h1=>h1
 | .iter (some b),h,⟨since,last,h1⟩=>⟨since,last,by rw [←h b (by simp [av.oW])];exact h1⟩
 | .arr a ks n e w,_,⟨cs,h1,h2,h3,h4⟩=>⟨cs,h1,h2,by rw [←hi];exact h3,h4⟩
 | .warr g f ks n,_,⟨⟨h1,h2,h3⟩,h4⟩=>⟨⟨h1,by rw [←hi];exact h2,h3⟩,h4⟩
end
end Go.Proofs.YtmickljjofbmiaaGreatDoor
namespace Go.Proofs.YtmickljjofbmiaaGreatDoor
open Go
theorem lZ{a:Nat}:∀ {l:List Nat},eg a l=true→a∈l
 | [],h=>by simp [eg] at h
 | b::l,h=>by
  simp only [eg,Bool.or_eq_true] at h
  rcases h with h | h
  ·rw [Nat.eq_of_beq_eq_true h]
   exact List.mem_cons_self
  ·exact List.mem_cons_of_mem _ (lZ h)
theorem yX:∀ {l m:List Nat},DP l m=true→∀ a∈l,a∈m
 | [],_,_,a,ha=>by simp at ha
 | b::l,m,h,a,ha=>by
  unfold DP at h
  split at h
  ·rename_i hb
   rcases List.mem_cons.1 ha with rfl | ha
   ·exact lZ hb
   ·exact yX h a ha
  ·cases h
theorem lP{kn:List Nat}:∀ {l:List (Nat×av)},zd kn l=true→∀ i o,(i,o)∈l→i∈kn∧∀ b∈o.oW,b∈kn
 | [],_,i,o,h=>by simp at h
 | (j,q)::l,h,i,o,hm=>by
  unfold zd at h
  split at h
  ·rename_i hj
   split at h
   ·rename_i hq
    rcases List.mem_cons.1 hm with e | hm
    ·obtain⟨rfl,rfl⟩:i=j∧o=q:=by simpa using e
     exact⟨lZ hj,yX hq⟩
    ·exact lP h i o hm
   ·cases h
  ·cases h
theorem uf{n:Nat}:∀ {l:List Nat},Po n l=true→∀ i∈l,i<n
 | [],_,i,h=>by simp at h
 | j::l,h,i,hm=>by
  unfold Po at h
  split at h
  ·rename_i hj
   rcases List.mem_cons.1 hm with rfl | hm
   ·exact Nat.le_of_ble_eq_true hj
   ·exact uf h i hm
  ·cases h
theorem BT{kn:List Nat}:∀ {n:Nat},y7 kn n=true→∀ g,g<n→g∈kn
 | 0,_,g,h=>by omega
 | n+1,h,g,hg=>by
  unfold y7 at h
  split at h
  ·rename_i hn
   by_cases e:g=n
   ·subst e;exact lZ hn
   ·exact BT h g (by omega)
  ·cases h
theorem eG{σ:Mt}{n:Nat}:∀ {l:List Nat},j5 σ n l=true→∀ i∈l,i<n→look σ.u i=none∧σ.name i=i
 | [],_,i,h,_=>by simp at h
 | j::l,h,i,hm,hi=>by
  unfold j5 at h
  split at h
  ·split at h
   ·cases h
   ·rename_i hu
    split at h
    ·rename_i hn
     rcases List.mem_cons.1 hm with rfl | hm
     ·exact⟨hu,Nat.eq_of_beq_eq_true hn⟩
     ·exact eG h i hm hi
    ·cases h
  ·rename_i hj
   rcases List.mem_cons.1 hm with rfl | hm
   ·have:=Nat.ble_eq_true_of_le (show i+1≤n from hi)
    exact absurd (show Nat.blt i n=true from this) (by rw [hj];simp)
   ·exact eG h i hm hi
theorem J3{σ:Mt}:∀ {l:List (Nat×av)},jS (lG σ l)=true→∀ i j o o',(i,o)∈l→(j,o')∈l→σ.name i=σ.name j→i=j
 | [],_,i,_,_,_,h,_,_=>by simp at h
 | (k,q)::l,h,i,j,o,o',hi,hj,e=>by
  simp only [lG,jS,Bool.and_eq_true,Bool.not_eq_true'] at h
  have notin:∀ m p,(m,p)∈l→σ.name m≠σ.name k:=by
   intro m p hm he
   have:∀ {l':List (Nat×av)},(m,p)∈l'→eg (σ.name m) (lG σ l')=true:=by
    intro l'
    induction l' with
    | nil=>intro h;simp at h
    | cons x l' ih=>
     intro h
     obtain⟨a,b⟩:=x
     rcases List.mem_cons.1 h with e | h
     ·obtain⟨rfl,rfl⟩:m=a∧p=b:=by simpa using e
      simp [lG,eg]
     ·simp only [lG,eg,Bool.or_eq_true]
      exact .inr (ih h)
   have:=this hm
   rw [he,h.1] at this
   cases this
  rcases List.mem_cons.1 hi with e1 | hi'
  ·have e3:i=k:=congrArg Prod.fst e1
   rcases List.mem_cons.1 hj with e2 | hj'
   ·rw [e3,show j=k from congrArg Prod.fst e2]
   ·rw [e3] at e
    exact absurd e.symm (notin j o' hj')
  ·rcases List.mem_cons.1 hj with e2 | hj'
   ·rw [show j=k from congrArg Prod.fst e2] at e
    exact absurd e (notin i o hi')
   ·exact J3 h.2 i j o o' hi' hj' e
theorem lK{ng:Nat}{h:H}{n:Nat}:∀ {l:List Nat},nh ng h n l=true→∀ i∈l,i<n→i<ng∨∃ o,h.get i=some o
 | [],_,i,hm,_=>by simp at hm
 | j::l,he,i,hm,hi=>by
  unfold nh at he
  have lt:∀ a b:Nat,a<b→Nat.blt a b=true:=fun a b hab=>Nat.ble_eq_true_of_le hab
  split at he
  ·rename_i hj
   rcases List.mem_cons.1 hm with rfl | hm
   ·rw [lt _ _ hi] at hj;cases hj
   ·exact lK he i hm hi
  ·split at he
   ·rename_i hg
    rcases List.mem_cons.1 hm with rfl | hm
    ·exact .inl (Nat.le_of_ble_eq_true hg)
    ·exact lK he i hm hi
   ·split at he
    ·rename_i o ho
     rcases List.mem_cons.1 hm with rfl | hm
     ·exact .inr ⟨o,ho⟩
     ·exact lK he i hm hi
    ·cases he
theorem fz{n:Nat}{m:List Nat}:∀ {l:List Nat},ig n m l=true→∀ i∈l,i<n→i∈m
 | [],_,i,hm,_=>by simp at hm
 | j::l,he,i,hm,hi=>by
  unfold ig at he
  split at he
  ·rename_i hj
   rcases List.mem_cons.1 hm with rfl | hm
   ·rw [show Nat.blt i n=true from Nat.ble_eq_true_of_le hi] at hj;cases hj
   ·exact fz he i hm hi
  ·split at he
   ·rename_i hj
    rcases List.mem_cons.1 hm with rfl | hm
    ·exact lZ hj
    ·exact fz he i hm hi
   ·cases he
theorem C9{ng n:Nat}{kn:List Nat}:∀ {l:List OutP} {k:Nat} {O:OutP},Fw ng n kn l=true→nth l k=some O→pa ng O.pat=true∧n≤O.pat.n∧ig n kn O.pat.kn=true
 | [],k,O,_,h=>by rw [bS] at h;simp at h
 | Q::l,k,O,he,h=>by
  unfold Fw at he
  obtain⟨h1,h2,h3,h4,_⟩:=ax he
  rw [bS] at h
  cases k with
  | zero=>
   obtain rfl:=Option.some.inj (show some Q=some O from by simpa using h)
   exact⟨h1,Nat.le_of_ble_eq_true h2,h3⟩
  | succ k=>exact C9 h4 (k:=k) (by rw [bS];simpa using h)
section
variable {P:Program} {cx:Cx} {ρ:Env}
theorem nC{t:Tch}{σ:Mt}{n ng:Nat}{p:mW}{fr:Fr}{st:St}{ρ1 ρ2:Env}{S1:Nat→Prop}{π1:Pl}{w:World}{a:Act}(E:bK t ρ1 ρ2 σ)(hf:fit t σ n p fr st=true)(hp:pa ng p=true)(hng:cx.ng=ng)(hn:ng≤n)
  (h:cu cx ρ1 S1 π1 st w) (hfr:db ρ1 S1 π1 fr a):cu cx ρ2 (·∈p.kn) (A7 σ ρ1 π1) p.st w∧db ρ2 (·∈p.kn) (A7 σ ρ1 π1) p.fr a:=by
 unfold fit at hf
 obtain⟨f1,f2,f3,f4,f5,f6⟩:=ax hf
 unfold pa at hp
 obtain⟨p1,p2,p3,p4,p5,_⟩:=ax hp
 have outer:=eG f6
 constructor
 ·refine⟨GN E h.pc f5,⟨fun π hk=>⟨fun i o hi=>?_,fun i j o o' hi hj e=>?_⟩,fun i o hi=>(lP p4 i o (fE hi)).1⟩,fun g hg=>?_,fun i hi hm=>?_⟩
  ·have hm:=fE hi
   obtain⟨k1,k2⟩:=lP p4 i o hm
   obtain⟨hu,q,hq,hfo⟩:=iA f3 hm
   obtain⟨ob,g1,g2⟩:=(h.at_.rep π1 fun _ _=>rfl).obj _ q hq
   refine⟨ob,?_,?_⟩
   ·rw [hk i k1,eL hu]
    exact g1
   ·exact av.RL (hk i k1).symm (fun b hb=>(hk b (k2 b hb)).symm) (Uw E hu hfo g2)
  ·have hmi:=fE hi
   have hmj:=fE hj
   obtain⟨hui,qi,hqi,hfi⟩:=iA f3 hmi
   obtain⟨huj,qj,hqj,hfj⟩:=iA f3 hmj
   rw [hk i (lP p4 i o hmi).1,hk j (lP p4 j o' hmj).1,eL hui,eL huj] at e
   rcases (h.at_.rep π1 fun _ _=>rfl).inj _ _ _ _ hqi hqj e with e | e
   ·exact .inl (J3 f4 i j o o' hmi hmj e)
   ·exact .inr ⟨(lg hfi).trans e.1,(lg hfj).trans e.2⟩
  ·rw [hng] at hg
   have hm:=BT p1 g hg
   obtain⟨hu,hnm⟩:=outer g hm (by omega)
   refine⟨hm,?_⟩
   rw [eL hu,hnm]
   exact (h.glob g (by rw [hng];exact hg)).2
  ·have:=uf p5 i hm
   have hi':p.n≤i:=hi
   omega
 ·obtain⟨tc,h1,h2,h3⟩:=hfr
  refine⟨tc,h1,fun π hk=>?_,fun π hk=>?_⟩
  ·rw [V.de p.fr.tm fun b hb=>hk b (yX p2 b hb),fX E _ _ f1]
   exact h2 π1 fun _ _=>rfl
  ·rw [rD p.fr.df fun b hb=>hk b (yX p3 b hb),K9 f2]
   exact h3 π1 fun _ _=>rfl
structure Trk (n:Nat) (kn:List Nat) (h:H) (π0:Pl) (h0:H) (w0:World) (π1:Pl) (w1:World):Prop where
 base:∀ i∈kn,i<n→π1 i=π0 i
 sub:∀ i o,h.get i=some o→w0.heap.size≤(π1 i).1∨∃ i0 o0,h0.get i0=some o0∧(π0 i0).1=(π1 i).1∧(o0.bR=true→o.bR=true)
 keep:∀ j,j<w0.heap.size→(∀ i o,h0.get i=some o→(π0 i).1=j→o.bR=true)→w1.heap[j]?=w0.heap[j]?
 size:w0.heap.size≤w1.heap.size
 same:w1.tape=w0.tape∧w1.os=w0.os∧w1.output=w0.output
theorem Trk.go{n:Nat}{kn kn':List Nat}{I p:mW}{π0 π1 π':Pl}{h0:H}{w0 w1 w':World}{ρ1:Env}{t:Tch}{σ:Mt}{fr:Fr}{st:St}{m:Nat}(T:Trk n kn I.st.h π0 h0 w0 π1 w1) (g:di ρ1 (·∈kn) π1 I.st.h w1 m π' st.h w' st.n)
  (hf:fit t σ n p fr st=true) (hkn:∀ i∈kn',i<n→i∈kn) (hp:∀ i∈kn',i<n→look σ.u i=none∧σ.name i=i):Trk n kn' p.st.h π0 h0 w0 (A7 σ ρ1 π') w':=by
 unfold fit at hf
 obtain⟨_,_,f3,_⟩:=ax hf
 refine⟨fun i hi hn=>?_,fun i o hi=>?_,fun j hj hne=>?_,Nat.le_trans T.size g.size,⟨g.same.1.trans T.same.1,g.same.2.1.trans T.same.2.1,g.same.2.2.trans T.same.2.2⟩⟩
 ·obtain⟨hu,hnm⟩:=hp i hi hn
  rw [eL hu,hnm,g.known i (hkn i hi hn)]
  exact T.base i (hkn i hi hn) hn
 ·obtain⟨hu,q,hq,hfo⟩:=iA f3 (fE hi)
  rw [eL hu,lg hfo]
  rcases g.sub _ q hq with h1 | ⟨i0,o0,h1,h2,z⟩
  ·exact .inl (Nat.le_trans T.size h1)
  ·rw [←h2]
   exact (T.sub i0 o0 h1).imp id fun⟨i1,o1,h3,h4,z'⟩=>⟨i1,o1,h3,h4,fun q=>z (z' q)⟩
 ·rw [g.keep j (Nat.lt_of_lt_of_le hj T.size) fun i o hi e=>?_,T.keep j hj hne]
  rcases T.sub i o hi with h1 | ⟨i0,o0,h1,h2,z⟩
  ·omega
  ·exact z (hne i0 o0 h1 (h2.trans e))
theorem oZ{t:Tch}{n:Nat}{I:mW}{outs:List OutP}{ρ1:Env}:∀ {raw:cM} {ll:R LL} {x:LL},kc t n I outs raw ll=true→ll.ai ρ1=some x→x=.never∨∃ e fr st,raw.ai ρ1=some (e,fr,st)∧yS t n I outs e fr st x=true
 | .br c a b,ll,x,h,hs=>by
  unfold kc at h
  split at h
  ·rename_i d u v
   split at h
   ·rename_i hc
    obtain rfl:=X.beq_eq hc
    split at h
    ·rename_i h1
     simp only [R.ai] at hs ⊢
     split at hs
     ·rename_i hcc
      rw [if_pos hcc]
      exact oZ h1 hs
     ·rename_i hcc
      rw [if_neg hcc]
      exact oZ h hs
    ·cases h
   ·cases h
  ·cases h
 | .ok (e,fr,st),ll,x,h,hs=>by
  unfold kc at h
  split at h
  ·simp only [R.ai,Option.some.injEq] at hs
   subst hs
   exact .inr ⟨e,fr,st,rfl,h⟩
  ·cases h
 | .stuck _,ll,x,h,hs=>by
  unfold kc at h
  split at h
  ·simp only [R.ai,Option.some.injEq] at hs
   exact .inl hs.symm
  ·cases h
theorem D8{e f:Ex}(h:k7 e f=true):e=f∧((e=.normal)∨(∃ i,e=.exit i)∨e=.ret):=by
 unfold k7 at h
 split at h
 ·exact⟨rfl,.inl rfl⟩
 ·rw [Nat.eq_of_beq_eq_true h]
  exact⟨rfl,.inr (.inl ⟨_,rfl⟩)⟩
 ·exact⟨rfl,.inr (.inr rfl)⟩
 ·cases h
theorem P4{cxB:Cx}{L:LoopI}{t:Tch}{I:mW}{outs:List OutP}{ll:R LL}{N ng:Nat}(σ0:Mt)(Inv:Env→Prop)(μ:Env→Nat)
  (hcode:∀ ρ1,Inv ρ1→gn P cxB ρ1 (ev cxB N).code) (hngB:cxB.ng=ng) (hng:cx.ng=ng)
  (hchk:kc t L.st.n I outs ((ev cxB N).code L.rnd L.body I.fr I.st) ll=true) (hst:F7 ng L I outs=true) (hent:fit t σ0 L.st.n I L.fr L.st=true)
  (h0:∃ ρ0,bK t ρ ρ0 σ0∧Inv ρ0)
  (hstep:∀ ρ1,Inv ρ1→au ρ1 I.pc→∃ x,ll.ai ρ1=some x∧match x with
   | .next σ=>∃ ρ2,bK t ρ1 ρ2 σ∧Inv ρ2∧μ ρ2<μ ρ1
   | .out k σ=>bK t ρ1 ρ σ∧∃ O,nth outs k=some O∧L.res.ai ρ=some (O.ex,O.pat.fr,⟨O.pat.st.h,O.pat.st.n,L.st.pc⟩)
   | .never=>False):cK P cx ρ L:=by
 intro res hres S π0 w a ro n hh hf hr
 unfold F7 at hst
 obtain⟨s1,s2,s3,s4,s5,_⟩:=ax hst
 have hgn:=Nat.le_of_ble_eq_true s4
 have hSn:∀ i,S i→i<L.st.n:=fun i hi=>Nat.lt_of_not_le fun hle=>hh.fresh i hle hi
 have outS:∀ i∈I.kn,i<L.st.n→S i:=by
  intro i hi hlt
  rcases lK s3 i hi hlt with h1 | ⟨o,h1⟩
  ·exact (hh.glob i (by rw [hng];exact h1)).1
  ·exact hh.at_.dom i o h1
 have cB:∀ {ρ1 K π1 st1 w1},cu cx ρ1 K π1 st1 w1→cu cxB ρ1 K π1 st1 w1:=fun h=>⟨h.pc,h.at_,fun g hg=>h.glob g (by rw [hng,←hngB];exact hg),h.fresh⟩
 have cA:∀ {ρ1 K π1 st1 w1},cu cxB ρ1 K π1 st1 w1→cu cx ρ1 K π1 st1 w1:=fun h=>⟨h.pc,h.at_,fun g hg=>h.glob g (by rw [hngB,←hng];exact hg),h.fresh⟩
 -- the rounds
 have key:∀ (m:Nat) (ρ1:Env) (π1:Pl) (w1:World) (a1:Act),μ ρ1=m→Inv ρ1→cu cx ρ1 (·∈I.kn) π1 I.st w1→db ρ1 (·∈I.kn) π1 I.fr a1→Trk L.st.n I.kn I.st.h π0 L.st.h w π1 w1→
   gU (FN ro) n P L.body (dO ρ S π0 L.st w res) a1 w1:=by
  intro m
  induction m using Nat.strongRecOn with
  | _ m ih=>
   intro ρ1 π1 w1 a1 hm hInv hh1 hf1 T1
   obtain⟨x,hx,hcase⟩:=hstep ρ1 hInv hh1.pc
   have hrnd:j4 (·∈I.kn) π1 L.rnd ro:=by
    cases hq:L.rnd with
    | none=>
     rw [hq] at hr
     cases ro with
     | none=>trivial
     | some _=>exact hr.elim
    | some l=>
     rw [hq] at hr s5
     cases ro with
     | none=>exact hr.elim
     | some r=>
      have hl:=lZ s5
      exact⟨hl,by rw [T1.base l hl (hSn l hr.1)];exact hr.2⟩
   rcases oZ hchk hx with rfl | ⟨e,fr,st,hraw,hleaf⟩
   ·exact hcase.elim
   refine oI (wpIn_mono (hcode ρ1 hInv L.rnd L.body I.fr I.st _ hraw _ π1 w1 a1 ro n (cB hh1) hf1 hrnd) ?_)
   rintro e' a' w' ⟨pc',π',g,hex,hfr⟩
   dsimp only at pc' g hex hfr
   have hh':=hh1.go g pc'
   cases x with
   | never=>exact hcase.elim
   | next σ=>
    unfold yS at hleaf
    dsimp only at hleaf
    split at hleaf
    ·obtain rfl:e'=.normal:=hex
     obtain⟨ρ2,E2,hInv2,hlt⟩:=hcase
     obtain⟨k1,k2⟩:=nC E2 hleaf s1 hng hgn hh' hfr
     have houter:=eG (show j5 σ L.st.n I.kn=true from (ax (by unfold fit at hleaf;exact hleaf)).2.2.2.2.2)
     exact ih (μ ρ2) (by omega) ρ2 _ w' a' rfl hInv2 k1 k2 (T1.go g hleaf (fun i hi _=>hi) houter)
    ·cases hleaf
   | out k σ=>
    obtain⟨E2,O,hO,hLres⟩:=hcase
    rw [hres] at hLres
    obtain rfl:=Option.some.inj hLres
    obtain⟨o1,o2,o3⟩:=C9 s2 hO
    unfold yS at hleaf
    dsimp only at hleaf
    rw [hO] at hleaf
    dsimp only at hleaf
    split at hleaf
    rotate_left
    ·cases hleaf
    rename_i hexs
    obtain⟨rfl,hexc⟩:=D8 hexs
    have hfit:fit t σ L.st.n O.pat fr st=true:=by
     rcases hexc with h1 | ⟨i,h1⟩ | h1<;>rw [h1] at hleaf<;>first | exact hleaf | (simp at hleaf;done)
    have hne:O.ex≠.normal:=fun h1=>by rw [h1] at hleaf;simp at hleaf
    have hfr':db ρ1 (Ext (·∈I.kn) I.st.n st.n) π' fr a':=by
     rcases hexc with h1 | ⟨i,h1⟩ | h1<;>rw [h1] at hfr<;>exact hfr
    obtain⟨k1,k2⟩:=nC E2 hfit o1 hng hgn hh' hfr'
    have houter:=eG (show j5 σ L.st.n O.pat.kn=true from (ax (by unfold fit at hfit;exact hfit)).2.2.2.2.2)
    have T2:=T1.go g hfit (fz o3) houter
    have hlt:=uf (ax (by unfold pa at o1;exact o1)).2.2.2.2.1
    let πX:Pl:=fun i=>if i<L.st.n then π0 i else A7 σ ρ1 π' i
    have same:∀ i∈O.pat.kn,πX i=A7 σ ρ1 π' i:=by
     intro i hi
     by_cases hlti:i<L.st.n
     ·simp only [πX,if_pos hlti,T2.base i hi hlti]
     ·simp only [πX,if_neg hlti]
    have ext:∀ i∈O.pat.kn,Ext S L.st.n O.pat.n i:=by
     intro i hi
     by_cases hlti:i<L.st.n
     ·exact .inl (outS i (fz o3 i hi hlti) hlti)
     ·exact .inr ⟨by omega,hlt i hi⟩
    have known:∀ π,bf (Ext S L.st.n O.pat.n) π πX→bf (·∈O.pat.kn) π (A7 σ ρ1 π'):=fun π hk i hi=>(hk i (ext i hi)).trans (same i hi)
    have hdom:∀ i o,O.pat.st.h.get i=some o→i∈O.pat.kn:=fun i o hi=>k1.at_.dom i o hi
    have post:dO ρ S π0 L.st w (O.ex,O.pat.fr,⟨O.pat.st.h,O.pat.st.n,L.st.pc⟩) e' a' w':=by
     refine⟨hh.pc,πX,⟨o2,fun i hi=>by simp only [πX,if_pos (hSn i hi)],⟨fun π hk=>k1.at_.rep π (known π hk),fun i o hi=>ext i (hdom i o hi)⟩,fun i o hi=>?_,T2.keep,T2.size,T2.same⟩,?_,?_⟩
     ·rw [same i (hdom i o hi)]
      exact T2.sub i o hi
     ·dsimp only
      rcases hexc with h1 | ⟨i,h1⟩ | h1<;>rw [h1] at hex ⊢<;>exact hex
     ·dsimp only
      have:db ρ (Ext S L.st.n O.pat.n) πX O.pat.fr a':=by
       obtain⟨tc,t1,t2,t3⟩:=k2
       exact⟨tc,t1,fun π hk=>t2 π (known π hk),fun π hk=>t3 π (known π hk)⟩
      rcases hexc with h1 | ⟨i,h1⟩ | h1<;>rw [h1]<;>exact this
    rcases hexc with h1 | ⟨i,h1⟩ | h1
    ·exact absurd h1 hne
    ·rw [h1] at hex
     obtain rfl:e'=.exit i:=hex
     exact post
    ·rw [h1] at hex
     obtain rfl:e'=.ret:=hex
     exact post
 -- the start
 obtain⟨ρ0,E0,hInv0⟩:=h0
 obtain⟨k1,k2⟩:=nC E0 hent s1 hng hgn hh hf
 obtain⟨_,_,f3,_,_,f6⟩:=ax (by unfold fit at hent;exact hent)
 refine key _ ρ0 _ w a rfl hInv0 k1 k2 ⟨fun i hi hlt=>?_,fun i o hi=>?_,fun _ _ _=>rfl,Nat.le_refl _,rfl,rfl,rfl⟩
 ·obtain⟨hu,hnm⟩:=eG f6 i hi hlt
  rw [eL hu,hnm]
 ·obtain⟨hu,q,hq,hfo⟩:=iA f3 (fE hi)
  rw [eL hu]
  exact .inr ⟨_,q,hq,rfl,fun z=>(lg hfo).trans z⟩
def LL.fP:LL→LL→Prop
 | .next σ,.next τ=>σ.v=τ.v∧σ.a=τ.a
 | .out k σ,.out j τ=>k=j∧σ.v=τ.v∧σ.a=τ.a
 | .never,.never=>True
 | _,_=>False
theorem LL.gA(x:LL):x.fP x:=by cases x<;>first | trivial | exact⟨rfl,rfl⟩ | exact⟨rfl,rfl,rfl⟩
theorem R.W8{α:Type}{c:X}{x y x' y':R α}{P:α→α→Prop}{ρ:Env}(h1:∀ l,x.ai ρ=some l→∃ l',x'.ai ρ=some l'∧P l l')(h2:∀ l,y.ai ρ=some l→∃ l',y'.ai ρ=some l'∧P l l'):∀ l,(R.br c x y).ai ρ=some l→∃ l',(R.br c x' y').ai ρ=some l'∧P l l':=by
 intro l h
 unfold R.ai at h ⊢
 split at h
 ·rename_i hc
  rw [if_pos hc]
  exact h1 l h
 ·rename_i hc
  rw [if_neg hc]
  exact h2 l h
theorem r8{I:mW}{outs:List OutP}{ρ:Env}:∀ {raw:cM} {r:R LL} (l:LL),r.ai ρ=some l→∃ l',(n3 I outs raw r).ai ρ=some l'∧l.fP l'
 | .br c a b,r,l,h=>by
  unfold n3
  split
  ·exact R.W8 (fun l h=>r8 l h) (fun l h=>r8 l h) l h
  ·exact⟨l,h,l.gA⟩
 | .ok (_,fr,st),r,l,h=>by
  unfold n3
  split
  ·obtain rfl:=Option.some.inj h
   exact⟨_,rfl,rfl,rfl⟩
  ·obtain rfl:=Option.some.inj h
   split
   ·exact⟨_,rfl,rfl,rfl,rfl⟩
   ·exact⟨_,rfl,rfl,rfl,rfl⟩
  ·exact⟨l,h,l.gA⟩
 | .stuck _,r,l,h=>by
  unfold n3
  exact⟨l,h,l.gA⟩
theorem bK.fP{t:Tch}{ρ1 ρ2:Env}{σ τ:Mt}(h:σ.v=τ.v∧σ.a=τ.a)(E:bK t ρ1 ρ2 σ):bK t ρ1 ρ2 τ:=⟨E.cR,fun i x hx=>E.v i x (by rw [h.1];exact hx),fun f ks a ha=>E.a f ks a (by rw [h.2];exact ha)⟩
theorem Nr{cxB:Cx}{L:LoopI}{t:Tch}{I:mW}{outs:List OutP}{ll:R LL}{N ng:Nat}(σ0:Mt)(Inv:Env→Prop)(μ:Env→Nat)
  (hcode:∀ ρ1,Inv ρ1→gn P cxB ρ1 (ev cxB N).code) (hngB:cxB.ng=ng) (hng:cx.ng=ng)
  (hchk:(match (ev cxB N).code L.rnd L.body I.fr I.st with | raw=>kc t L.st.n I outs raw (n3 I outs raw ll))=true) (hst:F7 ng L I outs=true) (hent:fit t (iI I L.fr L.st σ0.v σ0.a) L.st.n I L.fr L.st=true)
  (h0:∃ ρ0,bK t ρ ρ0 σ0∧Inv ρ0)
  (hstep:∀ ρ1,Inv ρ1→au ρ1 I.pc→∃ x,ll.ai ρ1=some x∧match x with
   | .next σ=>∃ ρ2,bK t ρ1 ρ2 σ∧Inv ρ2∧μ ρ2<μ ρ1
   | .out k σ=>bK t ρ1 ρ σ∧∃ O,nth outs k=some O∧L.res.ai ρ=some (O.ex,O.pat.fr,⟨O.pat.st.h,O.pat.st.n,L.st.pc⟩)
   | .never=>False):cK P cx ρ L:=by
 refine P4 (ll:=n3 I outs ((ev cxB N).code L.rnd L.body I.fr I.st) ll) _ Inv μ hcode hngB hng hchk hst hent ?_ fun ρ1 hi hp=>?_
 ·obtain⟨ρ0,h1,h2⟩:=h0
  exact⟨ρ0,bK.fP (σ:=σ0) ⟨rfl,rfl⟩ h1,h2⟩
 ·obtain⟨x,h1,h2⟩:=hstep ρ1 hi hp
  obtain⟨y,h3,h4⟩:=r8 x h1
  refine⟨y,h3,?_⟩
  cases x with
  | next σ=>cases y with
   | next τ=>
    obtain⟨ρ2,E,h5⟩:=h2
    exact⟨ρ2,E.fP h4,h5⟩
   | _=>exact h4.elim
  | out k σ=>cases y with
   | out j τ=>
    obtain⟨rfl,h4⟩:=h4
    exact⟨h2.1.fP h4,h2.2⟩
   | _=>exact h4.elim
  | never=>exact h2.elim
end
end Go.Proofs.YtmickljjofbmiaaGreatDoor
namespace Go.Proofs.YtmickljjofbmiaaGreatDoor
open Go
noncomputable section
def l9:List (Nat×av)→H→H
 | [],h=>h
 | (i,o)::l,h=>(l9 l h).set i o
def rn (r:List (Nat×Nat)) (m n i:Nat):Nat:=match Nat.blt i n with
 | true=>xe r i
 | false=>i-n+m
structure m7 where
 args:List V
 items:List (Nat×av)
 n:Nat
 pc:PC
def m7.st (L:List (Nat×List V)) (p:m7):St:={h:=l9 p.items (kT L),n:=p.n,pc:=p.pc}
def kq:List (Nat×av)→List Nat
 | []=>[]
 | (i,o)::l=>match o.bR with
  | true=>kq l
  | false=>i::kq l
def zD(h:H):List Nat→Option (List (Nat×av))
 | []=>some []
 | i::l=>match h.get i with
  | some o=>match o.plain with
   | true=>match zD h l with
    | some os=>some ((i,o)::os)
    | none=>none
   | false=>none
  | none=>none
def Oq:List (Nat×av)→List Nat
 | []=>[]
 | (_,o)::l=>o.names++Oq l
def nq(p:m7):jP→R Leaf
 | .ok (.ret v,st)=>match v.bQ with
  | true=>match zD st.h (kq p.items) with
   | some os=>.ok {v:=v,objs:=os++jI st.h p.n (reach st.h p.n 6 (wK (v.names++Oq os) [])),n:=st.n}
   | none=>.stuck "an object has gone"
  | false=>.stuck "a value"
 | .ok (.panic _,_)=>.stuck "a panic"
 | .br c t f=>.br c (nq p t) (nq p f)
 | .stuck s=>.stuck s
def vt (l:List (Nat×Nat×Nat)):List (Nat×av)→Bool
 | []=>true
 | (_,o)::os=>match o.ym l with
  | true=>vt l os
  | false=>false
def goX (r:List (Nat×Nat)) (n:Nat) (σ:Sub):R Leaf→St→R (V×St)
 | .ok lf,st=>match vt σ.f lf.objs with
  | true=>.ok ((lf.v.put σ).lR (rn r st.n n),{h:=fl (rn r st.n n) (dY σ lf.objs) st.h,n:=st.n+(lf.n-n),pc:=st.pc})
  | false=>.stuck "summary: symbols"
 | .br c t f,st=>split st (c.put σ) fun st b=>match b with
  | true=>goX r n σ t st
  | false=>goX r n σ f st
 | .stuck s,_=>.stuck s
def agp (r:List (Nat×Nat)) (i:Nat):av→Bool
 | .warr _ _ _ _=>Nat.beq (xe r i) i
 | o=>o.plain
def jR:List (Nat×av)→List Nat
 | []=>[]
 | (i,_)::l=>i::jR l
def YB(ng:Nat)(ns:List Nat)(i:Nat):Bool:=match Nat.blt i ng with
 | true=>true
 | false=>eg i ns
def D0(ng:Nat)(ns:List Nat):List Nat→Bool
 | []=>true
 | i::l=>match YB ng ns i with
  | true=>D0 ng ns l
  | false=>false
def za (r:List (Nat×Nat)) (σ:Sub) (ng n:Nat) (ns:List Nat) (h:H):List (Nat×av)→Bool
 | []=>true
 | (i,o)::l=>match h.get (xe r i) with
  | some q=>match bI (q.beq ((o.put σ).lR (xe r))) (o.ym σ.f) (agp r i o) (D0 ng ns o.oW) (Nat.blt i n) true with
   | true=>za r σ ng n ns h l
   | false=>false
  | none=>false
def rk (r:List (Nat×Nat)):Nat→Bool
 | 0=>true
 | k+1=>match Nat.beq (xe r k) k with
  | true=>rk r k
  | false=>false
def Sw(pc:PC)(x:X)(b:Bool):Bool:=match x with
 | .lit n=>jy (!aQ n 0) b
 | .not y=>Sw pc y (!b)
 | x=>YR pc x b
def vz(σ:Sub)(pc:PC):PC→Bool
 | []=>true
 | (x,b)::l=>match Sw pc (x.put σ) b with
  | true=>vz σ pc l
  | false=>false
def QN (r:List (Nat×Nat)):List Nat→List Nat
 | []=>[]
 | i::l=>xe r i::QN r l
def BX (L:List (Nat×List V)) (ng:Nat) (σ:Sub) (r:List (Nat×Nat)) (p:m7) (args:List V) (st:St):Bool:=
 bI (bI (V.fG args (V.sD (xe r) (V.sj σ p.args))) (V.fq p.args) (D0 ng (jR p.items) (V.rG p.args)) (Nat.ble ng p.n) (rk r ng) (cE L st.h))
  (za r σ ng p.n (jR p.items) st.h p.items) (jS (QN r (kq p.items))) (vz σ st.pc p.pc) true true
def EN(h:H):List (Nat×av)→List (Nat×Nat)→List (Nat×Nat)
 | [],r=>r
 | (i,o)::l,r=>EN h l (match o with
  | .cells c _ _=>match h.get (xe r i) with
   | some (.cells d _ _)=>As c d r
   | _=>r
  | .map es=>match h.get (xe r i) with
   | some (.map fs)=>acR es fs r
   | _=>r
  | _=>r)
def dQ (L:List (Nat×List V)) (ng:Nat) (p:m7) (tr:R Leaf):List Sub→List V→St→R (V×St)
 | [],_,_=>.stuck "summary: places"
 | σ::l,args,st=>match EN st.h p.items (As p.args args []) with
  | r=>match BX L ng σ r p args st with
   | true=>goX r p.n σ tr st
   | false=>dQ L ng p tr l args st
end
end Go.Proofs.YtmickljjofbmiaaGreatDoor
namespace Go.Proofs.YtmickljjofbmiaaGreatDoor
open Go Go.RowKit
theorem mE:∀ {ws:List (Nat×av)} {h:H} {i:Nat} {o:av},(l9 ws h).get i=some o→(i,o)∈ws∨((∀ x∈ws,x.1≠i)∧h.get i=some o)
 | [],h,i,o,hi=>.inr ⟨fun _ hx=>(by cases hx),hi⟩
 | (j,q)::l,h,i,o,hi=>by
  simp only [l9] at hi
  by_cases e:j=i
  ·subst e
   rw [T.aR] at hi
   obtain rfl:=Option.some.inj hi
   exact .inl (List.mem_cons_self ..)
  ·rw [T.aL _ _ e] at hi
   rcases mE hi with h1 | ⟨h1,h2⟩
   ·exact .inl (List.mem_cons_of_mem _ h1)
   ·refine .inr ⟨fun x hx=>?_,h2⟩
    rcases List.mem_cons.1 hx with rfl | hx
    ·exact e
    ·exact h1 x hx
theorem av.V2{σ:Sub}(o:av):(o.put σ).bR=o.bR:=by cases o<;>rfl
theorem av.Uk{r:Nat→Nat}(o:av):(o.lR r).bR=o.bR:=by cases o<;>rfl
theorem yg:∀ {l:List (Nat×av)} {i:Nat} {o:av},(i,o)∈l→o.bR=false→i∈kq l
 | [],_,_,h,_=>by cases h
 | (j,q)::l,i,o,h,hz=>by
  unfold kq
  rcases List.mem_cons.1 h with e | h
  ·injection e with e1 e2
   subst e1 e2
   rw [hz]
   exact List.mem_cons_self ..
  ·have:=yg h hz
   split
   ·exact this
   ·exact List.mem_cons_of_mem _ this
theorem A6 {r:List (Nat×Nat)}:∀ {l:List Nat} {i:Nat},i∈l→eg (xe r i) (QN r l)=true
 | [],_,h=>by cases h
 | j::l,i,h=>by
  simp only [QN,eg,Bool.or_eq_true]
  rcases List.mem_cons.1 h with rfl | h
  ·exact .inl (Nat.beq_refl _)
  ·exact .inr (A6 h)
theorem Jj {r:List (Nat×Nat)}:∀ {l:List Nat},jS (QN r l)=true→∀ i j,i∈l→j∈l→xe r i=xe r j→i=j
 | [],_,_,_,h,_,_=>by cases h
 | k::l,h,i,j,hi,hj,e=>by
  simp only [QN,jS,Bool.and_eq_true,Bool.not_eq_true'] at h
  rcases List.mem_cons.1 hi with rfl | hi1<;>rcases List.mem_cons.1 hj with rfl | hj1
  ·rfl
  ·have:=A6 (r:=r) hj1
   rw [←e,h.1] at this
   cases this
  ·have:=A6 (r:=r) hi1
   rw [e,h.1] at this
   cases this
  ·exact Jj h.2 i j hi1 hj1 e
theorem Bm:∀ {l:List (Nat×av)} {i:Nat},eg i (jR l)=true→∃ o,(i,o)∈l
 | [],_,h=>by simp [jR,eg] at h
 | (j,o)::l,i,h=>by
  simp only [jR,eg,Bool.or_eq_true] at h
  rcases h with h | h
  ·rw [Nat.eq_of_beq_eq_true h]
   exact⟨o,List.mem_cons_self ..⟩
  ·obtain⟨q,hq⟩:=Bm h
   exact⟨q,List.mem_cons_of_mem _ hq⟩
theorem AR:∀ {l:List (Nat×av)} {i:Nat} {o:av},(i,o)∈l→eg i (jR l)=true
 | [],_,_,h=>by cases h
 | (j,q)::l,i,o,h=>by
  simp only [jR,eg,Bool.or_eq_true]
  rcases List.mem_cons.1 h with e | h
  ·injection e with e1 _
   subst e1
   exact .inl (Nat.beq_refl _)
  ·exact .inr (AR h)
theorem zW{ng:Nat}{ns:List Nat}:∀ {l:List Nat},D0 ng ns l=true→∀ i∈l,YB ng ns i=true
 | [],_,_,h=>by cases h
 | j::l,h,i,hi=>by
  unfold D0 at h
  split at h
  ·rename_i hj
   rcases List.mem_cons.1 hi with rfl | hi
   ·exact hj
   ·exact zW h i hi
  ·cases h
theorem vc {r:List (Nat×Nat)}:∀ {n:Nat},rk r n=true→∀ g,g<n→xe r g=g
 | 0,_,g,h=>absurd h (Nat.not_lt_zero g)
 | n+1,h,g,hg=>by
  unfold rk at h
  split at h
  ·rename_i hb
   rcases Nat.lt_succ_iff_lt_or_eq.1 hg with h1 | rfl
   ·exact vc h g h1
   ·exact Nat.eq_of_beq_eq_true hb
  ·cases h
theorem ry{h:H}:∀ {l:List Nat} {os:List (Nat×av)},zD h l=some os→(∀ x∈os,h.get x.1=some x.2∧x.2.plain=true)∧∀ i∈l,∃ o,(i,o)∈os
 | [],os,e=>by
  simp only [zD,Option.some.injEq] at e
  subst e
  exact⟨fun _ hx=>(by cases hx),fun _ hi=>(by cases hi)⟩
 | i::l,os,e=>by
  unfold zD at e
  split at e
  ·rename_i o ho
   split at e
   ·rename_i hp
    split at e
    ·rename_i os' hos
     obtain rfl:=Option.some.inj e
     obtain⟨h1,h2⟩:=ry hos
     refine⟨fun x hx=>?_,fun j hj=>?_⟩
     ·rcases List.mem_cons.1 hx with rfl | hx
      ·exact⟨ho,hp⟩
      ·exact h1 x hx
     ·rcases List.mem_cons.1 hj with rfl | hj
      ·exact⟨o,List.mem_cons_self ..⟩
      ·obtain⟨q,hq⟩:=h2 j hj
       exact⟨q,List.mem_cons_of_mem _ hq⟩
    ·cases e
   ·cases e
  ·cases e
theorem Co {s:List (Nat×Nat×Nat)}:∀ {l:List (Nat×av)},vt s l=true→∀ x∈l,x.2.ym s=true
 | [],_,_,h=>by cases h
 | (i,o)::l,h,x,hx=>by
  unfold vt at h
  split at h
  ·rename_i ho
   rcases List.mem_cons.1 hx with rfl | hx
   ·exact ho
   ·exact Co h x hx
  ·cases h
theorem yc{σ:Sub}:∀ {l:List (Nat×av)} {i:Nat} {o:av},(i,o)∈l→(i,o.put σ)∈dY σ l
 | [],_,_,h=>by cases h
 | (j,q)::l,i,o,h=>by
  unfold dY
  rcases List.mem_cons.1 h with e | h
  ·injection e with e1 e2
   subst e1 e2
   exact List.mem_cons_self ..
  ·exact List.mem_cons_of_mem _ (yc h)
theorem gB{r:Nat→Nat}{h:H}{i:Nat}{o:av}:∀ {l:List (Nat×av)},(fl r l h).get i=some o→(∃ x∈l,i=r x.1∧o=x.2.lR r)∨(h.get i=some o∧∀ x∈l,r x.1≠i)
 | [],e=>.inr ⟨e,fun _ hx=>(by cases hx)⟩
 | (b,o')::l,e=>by
  unfold fl at e
  by_cases hi:r b=i
  ·subst hi
   rw [T.aR] at e
   exact .inl ⟨(b,o'),by simp,rfl,(Option.some.inj e).symm⟩
  ·rw [T.aL _ _ hi] at e
   rcases gB e with ⟨x,hx,h1,h2⟩ | ⟨h1,h2⟩
   ·exact .inl ⟨x,by simp [hx],h1,h2⟩
   ·refine .inr ⟨h1,fun x hx=>?_⟩
    rcases List.mem_cons.1 hx with rfl | hx
    ·exact hi
    ·exact h2 x hx
section
variable {ρ:Env} {σ:Sub} {π:Pl}
theorem av.aav{r:Nat→Nat}{i:Nat}{ob:Obj}:∀ {o:av},(o.plain=true∨(∃ g t ks n,o=.warr g t ks n)∧r i=i)→o.ym σ.f=true→((o.put σ).lR r).is ρ π (r i) ob→o.is (σ.env ρ) (fun j=>π (r j)) i ob
 | .cells c e w,hp,_,⟨spare,h1,h2⟩=>by
  have hp:V.fq c=true:=hp.elim id fun⟨⟨_,_,_,_,h⟩,_⟩=>by cases h
  rw [V.gu _ _ _ _ (by rw [V.fw];exact hp),V.fJ] at h1
  rw [V.oX,V.pA] at h2
  exact⟨spare,h1,h2⟩
 | .map es,hp,_,⟨ms,clock,h1,h2,h3⟩=>by
  have hp:mw es=true:=hp.elim id fun⟨⟨_,_,_,_,h⟩,_⟩=>by cases h
  rw [ml _ _ _ _ (by rw [pq];exact hp),lY] at h2 h3
  exact⟨ms,clock,h1,h2,h3⟩
 | .arr a ks len e w,_,hs,⟨cs,h1,h2,h3,h4⟩=>by
  refine⟨cs,h1,by rw [X.aD] at h2;exact h2,h3,fun j c k hj hk=>?_⟩
  have:=h4 j c k (by rw [X.aD];exact hj) hk
  rw [A.qL k (List.getElem?_eq_some_iff.1 hk).1 j hs] at this
  exact this
 | .warr g t ks len,hp,hs,⟨⟨h1,h2,cs,t',fr,h3,h4⟩,h5⟩=>by
  have hr:r i=i:=hp.elim (fun h=>by simp [av.plain] at h) And.right
  rw [hr] at h1 h2 h4
  refine⟨⟨h1,by dsimp only;rw [hr];exact h2,cs,t',fr,h3,fun j c k hj hk=>?_⟩,h5⟩
  have:=h4 j c k (by rw [X.aD];exact hj) hk
  have e:=A.qL (ρ:=ρ) (σ:=σ) k (List.getElem?_eq_some_iff.1 hk).1 j (a:=.base t) hs
  rw [←e]
  exact this
 | .loop _ _ _ _ _ _ _,h,_,_=>by rcases h with h | ⟨⟨_,_,_,_,h⟩,_⟩<;>cases h
 | .deferred _,h,_,_=>by rcases h with h | ⟨⟨_,_,_,_,h⟩,_⟩<;>cases h
 | .ro _ _,h,_,_=>by rcases h with h | ⟨⟨_,_,_,_,h⟩,_⟩<;>cases h
 | .win _ _ _ _,h,_,_=>by rcases h with h | ⟨⟨_,_,_,_,h⟩,_⟩<;>cases h
 | .iter _,h,_,_=>by rcases h with h | ⟨⟨_,_,_,_,h⟩,_⟩<;>cases h
theorem xX {r:List (Nat×Nat)} {ng n:Nat} {ns:List Nat} {h:H}:∀ {l:List (Nat×av)},za r σ ng n ns h l=true→∀ i o,(i,o)∈l→
  h.get (xe r i)=some ((o.put σ).lR (xe r))∧o.ym σ.f=true∧(o.plain=true∨(∃ g t ks n,o=.warr g t ks n)∧xe r i=i)∧D0 ng ns o.oW=true∧i<n
 | [],_,_,_,h=>by cases h
 | (j,q)::l,hi,i,o,hm=>by
  unfold za at hi
  split at hi
  ·rename_i q' hq
   split at hi
   ·rename_i hc
    rcases List.mem_cons.1 hm with e | hm
    ·injection e with e1 e2
     subst e1 e2
     obtain⟨c1,c2,c3,c4,c5,_⟩:=ax hc
     refine⟨by rw [hq,av.beq_eq c1],c2,?_,c4,Nat.le_of_ble_eq_true c5⟩
     unfold agp at c3
     split at c3
     ·exact .inr ⟨⟨_,_,_,_,rfl⟩,Nat.eq_of_beq_eq_true c3⟩
     ·exact .inl c3
    ·exact xX hi i o hm
   ·cases hi
  ·cases hi
theorem Oi{pc:PC}(hp:au ρ pc):∀ {x:X} {b:Bool},Sw pc x b=true→x.tt ρ=b:=by
 intro x
 induction x with
 | lit n=>
  intro b h
  rw [←cW h,bL]
  rfl
 | not y ih=>
  intro b h
  have:=ih (show Sw pc y (!b)=true from h)
  simp only [X.tt,X.den,dJ] at this ⊢
  cases hy:y.den ρ==0<;>cases b<;>simp_all
 | _=>exact fun h=>OC hp h
theorem Dt{pc:PC}(hp:au ρ pc):∀ {l:PC},vz σ pc l=true→au (σ.env ρ) l
 | [],_=>fun f hf=>by cases hf
 | (x,b)::l,h=>by
  unfold vz at h
  split at h
  ·rename_i hd
   intro f hf
   rcases List.mem_cons.1 hf with rfl | hf
   ·rw [←X.zp]
    exact Oi hp hd
   ·exact Dt hp h f hf
  ·cases h
theorem vE{p:m7}{lf:Leaf}:∀ {e:jP},(nq p e).ai ρ=some lf→∃ st' os ns,e.ai ρ=some (.ret lf.v,st')∧lf.v.bQ=true∧zD st'.h (kq p.items)=some os∧lf.objs=os++jI st'.h p.n ns∧lf.n=st'.n
 | .ok (.ret v,st),h=>by
  unfold nq at h
  split at h
  ·rename_i hv
   split at h
   ·rename_i os hos
    simp only [R.ai,Option.some.injEq] at h
    subst h
    exact⟨st,os,_,rfl,hv,hos,rfl,rfl⟩
   ·simp [R.ai] at h
  ·simp [R.ai] at h
 | .ok (.panic _,_),h=>by simp [nq,R.ai] at h
 | .br c t f,h=>by
  unfold nq at h
  unfold R.ai at h ⊢
  split at h
  ·rename_i hc
   rw [if_pos hc]
   exact vE h
  ·rename_i hc
   rw [if_neg hc]
   exact vE h
 | .stuck _,h=>by simp [nq,R.ai] at h
end
section
variable {P:Program} {cx cx0:Cx} {ρ:Env} {σ:Sub} {S:Nat→Prop} {π0:Pl} {st st':St} {w:World} {L:List (Nat×List V)} {ng:Nat}
theorem FI {r:List (Nat×Nat)} {n:Nat} {v:V}:∀ {t:R Leaf} {st:St},au ρ st.pc→(goX r n σ t st).ai ρ=some (v,st')→
  ∃ lf st1,t.ai (σ.env ρ)=some lf∧cC ρ st st1∧vt σ.f lf.objs=true∧v=(lf.v.put σ).lR (rn r st1.n n)∧st'={h:=fl (rn r st1.n n) (dY σ lf.objs) st1.h,n:=st1.n+(lf.n-n),pc:=st1.pc}
 | .ok lf,st,hp,h=>by
  unfold goX at h
  split at h
  ·rename_i hs
   simp only [R.ai,Option.some.injEq,Prod.mk.injEq] at h
   exact⟨lf,st,rfl,.refl hp,hs,h.1.symm,h.2.symm⟩
  ·simp [R.ai] at h
 | .br c t f,st,hp,h=>by
  unfold goX at h
  obtain⟨st1,hl,h1⟩:=aV hp h
  rw [X.zp] at h1
  split at h1
  ·rename_i hc
   obtain⟨lf,st2,h2,h3,h4⟩:=FI hl.pc h1
   exact⟨lf,st2,by unfold R.ai;rw [if_pos hc];exact h2,hl.trans h3,h4⟩
  ·rename_i hc
   obtain⟨lf,st2,h2,h3,h4⟩:=FI hl.pc h1
   exact⟨lf,st2,by unfold R.ai;rw [if_neg (by simp [hc])];exact h2,hl.trans h3,h4⟩
 | .stuck _,_,_,h=>by simp [goX,R.ai] at h
theorem QD(hmix:P.follows .mixedOrders=true)(htt:oU P cx0.tt)(hft:vo P cx0.ft) (hsm:SumOk P cx0 (σ.env ρ)) (hng:cx.ng=ng) (hng0:cx0.ng=ng) (hL:∀ x∈L,x.1<ng) (hro:RoAt (σ.env ρ) L)
  {N:Nat} {f:FuncId} {fn:Func} {p:m7} {r:List (Nat×Nat)} {args:List V} (hfn:P.funcs[f]?=some fn) {lf:Leaf} (hfit:BX L ng σ r p args st=true)
  (hsel:((ev cx0 N).call f p.args (p.st L)).ai (σ.env ρ)=some (.ret lf.v,st')) (hnw:lf.v.bQ=true) {os:List (Nat×av)} {ns:List Nat} (hos:zD st'.h (kq p.items)=some os) (hobjs:lf.objs=os++jI st'.h p.n ns) (hn:lf.n=st'.n) (hsym:vt σ.f lf.objs=true)
  (hh:cu cx ρ S π0 st w) {ac:List Value} (ha:bT ρ S π0 args ac) {n:Nat}:
  CallsIn Fence.wide n P f ac.toArray w (EPost ρ S π0 st w (.ret ((lf.v.put σ).lR (rn r st.n p.n)),{h:=fl (rn r st.n p.n) (dY σ lf.objs) st.h,n:=st.n+(lf.n-p.n),pc:=st.pc})):=by
 unfold BX at hfit
 obtain⟨q0,i1,i2,i3,_⟩:=ax hfit
 obtain⟨q1,q2,q3,q4,q5,q6⟩:=ax q0
 have hargs:=V.bJ _ _ q1
 have hgn:=Nat.le_of_ble_eq_true q4
 have hgs:=vc q5
 have hπ:∀ g,g<ng→(π0 g).1=g:=fun g hg=>(hh.glob g (by rw [hng];exact hg)).2
 have hSg:∀ g,g<ng→S g:=fun g hg=>(hh.glob g (by rw [hng];exact hg)).1
 have hSn:∀ i,S i→i<st.n:=fun i hi=>by
  rcases Nat.lt_or_ge i st.n with h | h
  ·exact h
  ·exact absurd hi (hh.fresh i h)
 have hit:=xX i1
 have hrep0:=hh.at_.rep π0 fun _ _=>rfl
 have hW:∀ x∈L,w.heap[x.1]?=some (ρ.ro x.1):=by
  intro x hx
  obtain⟨c,hc⟩:=je q6 x hx
  obtain⟨ob,h1,_,h2⟩:=hrep0.obj _ _ hc
  rw [hπ _ (hL x hx),h2] at h1
  exact h1
 let S':Nat→Prop:=fun i=>YB ng (jR p.items) i=true
 let π':Pl:=fun i=>π0 (xe r i)
 have hS':∀ i,S' i→S (xe r i)∧i<p.n:=by
  intro i hi
  have hi:YB ng (jR p.items) i=true:=hi
  unfold YB at hi
  split at hi
  ·rename_i hb
   have:=Nat.le_of_ble_eq_true hb
   exact⟨by rw [hgs i this];exact hSg i this,by omega⟩
  ·obtain⟨o,ho⟩:=Bm hi
   obtain⟨h1,_,_,_,h5⟩:=hit i o ho
   exact⟨hh.at_.dom _ _ h1,h5⟩
 have hSi:∀ i o,(i,o)∈p.items→S' i:=by
  intro i o ho
  show YB ng (jR p.items) i=true
  unfold YB
  split
  ·rfl
  ·exact AR ho
 have hSgl:∀ g,g<ng→S' g:=by
  intro g hg
  show YB ng (jR p.items) g=true
  unfold YB
  rw [show Nat.blt g ng=true from Nat.ble_eq_true_of_le hg]
 have hget:∀ i o,(p.st L).h.get i=some o→(i,o)∈p.items∨∃ x∈L,i=x.1∧o=.ro x.1 x.2:=by
  intro i o hi
  rcases mE hi with h | ⟨_,h⟩
  ·exact .inl h
  ·exact .inr (dp h)
 -- in the caller's heap
 have hq:∀ i o,(p.st L).h.get i=some o→∃ q,st.h.get (xe r i)=some q∧q.bR=o.bR∧S' i:=by
  intro i o hi
  rcases hget i o hi with h | ⟨x,hx,rfl,rfl⟩
  ·exact⟨_,(hit i o h).1,by rw [av.Uk,av.V2],hSi i o h⟩
  ·obtain⟨c,hc⟩:=je q6 x hx
   exact⟨.ro x.1 c,by rw [hgs _ (hL x hx)];exact hc,rfl,hSgl _ (hL x hx)⟩
 have hin:∀ i o,(p.st L).h.get i=some o→o.bR=false→i∈kq p.items:=by
  intro i o hi hz
  rcases hget i o hi with h | ⟨x,hx,rfl,rfl⟩
  ·exact yg h hz
  ·cases hz
 have h0:cu cx0 (σ.env ρ) S' π' (p.st L) w:=by
  refine⟨Dt hh.pc i3,⟨fun π hk=>⟨fun i o hi=>?_,fun i j o o' hi hj e=>?_⟩,fun i o hi=>?_⟩,fun g hg=>?_,fun i hi hs=>?_⟩
  ·rcases hget i o hi with h | ⟨x,hx,rfl,rfl⟩
   ·obtain⟨h1,h2,h3,h4,_⟩:=hit i o h
    obtain⟨ob,h5,h6⟩:=hrep0.obj _ _ h1
    have h7:=av.aav h3 h2 h6
    refine⟨ob,by rw [hk i (hSi i o h)];exact h5,av.RL (hk i (hSi i o h)).symm (fun b hb=>(hk b (zW h4 b hb)).symm) h7⟩
   ·obtain⟨t,fr,h2⟩:=hro.is x hx
    have h1:(π x.1).1=x.1:=by
     rw [hk x.1 (hSgl _ (hL x hx))]
     show (π0 (xe r x.1)).1=x.1
     rw [hgs _ (hL x hx)]
     exact hπ _ (hL x hx)
    exact⟨_,by rw [h1];exact hW x hx,⟨t,fr,h2 π⟩,rfl⟩
  ·obtain⟨q,a1,a2,a3⟩:=hq i o hi
   obtain⟨q',b1,b2,b3⟩:=hq j o' hj
   rw [hk i a3,hk j b3] at e
   rcases hrep0.inj _ _ _ _ a1 b1 e with e | e
   ·rw [e] at a1
    obtain rfl:q=q':=Option.some.inj (a1.symm.trans b1)
    cases hz:o.bR with
    | true=>exact .inr ⟨rfl,by rw [←b2,a2,hz]⟩
    | false=>exact .inl (Jj i2 i j (hin i o hi hz) (hin j o' hj (by rw [←b2,a2,hz])) e)
   ·rw [a2,b2] at e
    exact .inr e
  ·exact (hq i o hi).choose_spec.2.2
  ·rw [hng0] at hg
   refine⟨hSgl g hg,?_⟩
   show (π0 (xe r g)).1=g
   rw [hgs g hg]
   exact hπ g hg
  ·have:=(hS' i hs).2
   have hi:p.n≤i:=hi
   omega
 have ha0:bT (σ.env ρ) S' π' p.args ac:=by
  intro π hk
  rw [V.de p.args fun b hb=>hk b (zW q3 b hb)]
  show V.af (σ.env ρ) (fun i=>π0 (xe r i)) p.args=ac
  rw [←V.fJ,←V.gu _ _ _ _ (by rw [V.fw];exact q2),←hargs]
  exact ha π0 fun _ _=>rfl
 refine ((lW hmix htt hft hsm N).2.2 f p.args _ _ hsel _ π' w ac n h0 ha0 ⟨fn,hfn⟩).mono fun e w' hp=>?_
 obtain⟨hpc',πc,g,c,rfl,hv⟩:=hp
 have hle:p.n≤st'.n:=g.le
 rw [hn]
 let π1:Pl:=fun i=>if i<st.n then π0 i else πc (i-st.n+p.n)
 have hpi:∀ b,Ext S' p.n st'.n b→π1 (rn r st.n p.n b)=πc b:=by
  intro b hb
  rcases hb with h | ⟨h1,h2⟩
  ·obtain⟨h3,h4⟩:=hS' b h
   have e:rn r st.n p.n b=xe r b:=by
    unfold rn
    rw [show Nat.blt b p.n=true from Nat.ble_eq_true_of_le h4]
   rw [e,g.known b h]
   simp only [π1,if_pos (hSn _ h3),π']
  ·have e:rn r st.n p.n b=b-p.n+st.n:=by
    unfold rn
    rw [show Nat.blt b p.n=false by
     cases hb:Nat.blt b p.n with
     | false=>rfl
     | true=>have:=Nat.le_of_ble_eq_true hb;omega]
   rw [e]
   simp only [π1]
   rw [if_neg (by omega),show b-p.n+st.n-st.n+p.n=b by omega]
 have hext:∀ b,Ext S' p.n st'.n b→Ext S st.n (st.n+(st'.n-p.n)) (rn r st.n p.n b):=by
  intro b hb
  rcases hb with h | ⟨h1,h2⟩
  ·obtain⟨h3,h4⟩:=hS' b h
   have e:rn r st.n p.n b=xe r b:=by
    unfold rn
    rw [show Nat.blt b p.n=true from Nat.ble_eq_true_of_le h4]
   rw [e]
   exact .inl h3
  ·have e:rn r st.n p.n b=b-p.n+st.n:=by
    unfold rn
    rw [show Nat.blt b p.n=false by
     cases hb:Nat.blt b p.n with
     | false=>rfl
     | true=>have:=Nat.le_of_ble_eq_true hb;omega]
   rw [e]
   exact .inr ⟨by omega,by omega⟩
 have hkn:∀ π,bf (Ext S st.n (st.n+(st'.n-p.n))) π π1→bf (Ext S' p.n st'.n) (fun b=>π (rn r st.n p.n b)) πc:=by
  intro π hk b hb
  dsimp only
  rw [←hpi b hb]
  exact hk _ (hext b hb)
 have hk0:bf S π1 π0:=by
  intro i hi
  simp only [π1,if_pos (hSn i hi)]
 -- what is left
 have hob:∀ x∈dY σ lf.objs,∃ o,st'.h.get x.1=some o∧o.plain=true∧o.ym σ.f=true∧x.2=o.put σ:=by
  intro x hx
  obtain⟨o,h1,h2⟩:=ql hx
  refine⟨o,?_,?_,Co hsym _ h1,h2⟩<;>rw [hobjs] at h1<;>rcases List.mem_append.1 h1 with h1 | h1
  ·exact ((ry hos).1 _ h1).1
  ·exact (fu _ h1).2.1
  ·exact ((ry hos).1 _ h1).2
  ·exact (fu _ h1).2.2
 have hover:∀ i o,(p.st L).h.get i=some o→o.bR=false→∃ x∈dY σ lf.objs,rn r st.n p.n x.1=xe r i:=by
  intro i o hi hz
  obtain⟨q,hq1⟩:=(ry hos).2 i (hin i o hi hz)
  refine⟨(i,q.put σ),yc (by rw [hobjs];exact List.mem_append_left _ hq1),?_⟩
  unfold rn
  have h4:=(hS' i (hq i o hi).choose_spec.2.2).2
  rw [show Nat.blt i p.n=true from Nat.ble_eq_true_of_le h4]
 have hold:∀ π,bf (Ext S st.n (st.n+(st'.n-p.n))) π π1→∀ i o,st.h.get i=some o→π i=π0 i:=by
  intro π hk i o hi
  have:=hh.at_.dom i o hi
  rw [hk i (.inl this),hk0 i this]
 have hlt:∀ i o,st.h.get i=some o→(π0 i).1<w.heap.size:=by
  intro i o hi
  obtain⟨ob,h1,_⟩:=hrep0.obj i o hi
  exact (Array.getElem?_eq_some_iff.1 h1).1
 have hmix2:∀ (j:Nat) (o':av) (x:Nat×av),st.h.get j=some o'→(∀ y∈dY σ lf.objs,rn r st.n p.n y.1≠j)→x∈dY σ lf.objs→(πc x.1).1=(π0 j).1→False:=by
  intro j o' x hj hno hx e
  obtain⟨o,h1,h2,_,_⟩:=hob x hx
  rcases g.sub x.1 o h1 with h | ⟨i0,o0,h4,h5,h6⟩
  ·have:=hlt j o' hj
   omega
  ·cases hz:o0.bR with
   | true=>
    have:=h6 hz
    rw [av.lC h2] at this
    cases this
   | false=>
    obtain⟨q,a1,a2,_⟩:=hq i0 o0 h4
    rcases hrep0.inj _ _ _ _ a1 hj (h5.trans e) with e' | e'
    ·obtain⟨y,hy,ey⟩:=hover i0 o0 h4 hz
     exact hno y hy (ey.trans e')
    ·rw [a2,hz] at e'
     cases e'.1
 refine⟨hh.pc,π1,⟨by dsimp only;omega,hk0,⟨fun π hk=>⟨fun i o hi=>?_,fun i j o o' hi hj e=>?_⟩,fun i o hi=>?_⟩,fun i o hi=>?_,fun j hj hne=>?_,g.size,g.same⟩,c,rfl,fun π hk=>?_⟩
 ·rcases gB hi with ⟨x,hx,rfl,rfl⟩ | ⟨hi,hno⟩
  ·obtain⟨o,h1,h2,h3,h4⟩:=hob x hx
   obtain⟨ob,h5,h6⟩:=(g.at_.rep _ (hkn π hk)).obj x.1 o h1
   refine⟨ob,h5,?_⟩
   rw [h4]
   exact av.LY (av.Cr h2) (av.WD h2 h3 h6)
  ·rw [hold π hk i o hi]
   obtain⟨ob,h1,h2⟩:=(hh.at_.rep π fun j hj=>(hk j (.inl hj)).trans (hk0 j hj)).obj i o hi
   rw [hold π hk i o hi] at h1
   refine⟨ob,?_,h2⟩
   rw [g.keep _ (hlt i o hi) fun i' o' hi' e=>?_,h1]
   cases hz:o'.bR with
   | true=>rfl
   | false=>
    obtain⟨q,a1,a2,_⟩:=hq i' o' hi'
    rcases hrep0.inj _ _ _ _ a1 hi e with e' | e'
    ·obtain⟨y,hy,ey⟩:=hover i' o' hi' hz
     exact absurd (ey.trans e') (hno y hy)
    ·rw [a2,hz] at e'
     cases e'.1
 ·rcases gB hi with ⟨x,hx,rfl,rfl⟩ | ⟨hi,hno⟩<;>rcases gB hj with ⟨y,hy,rfl,rfl⟩ | ⟨hj,hno'⟩
  ·obtain⟨o1,h1,h2,_,_⟩:=hob x hx
   obtain⟨o2,h3,_,_,_⟩:=hob y hy
   rcases (g.at_.rep _ (hkn π hk)).inj x.1 y.1 _ _ h1 h3 e with e | e
   ·exact .inl (by rw [e])
   ·rw [av.lC h2] at e
    cases e.1
  ·obtain⟨o1,h1,_,_,_⟩:=hob x hx
   have hd:=g.at_.dom _ _ h1
   rw [hk _ (hext _ hd),hpi _ hd,hold π hk j o' hj] at e
   exact (hmix2 j o' x hj hno' hx e).elim
  ·obtain⟨o1,h1,_,_,_⟩:=hob y hy
   have hd:=g.at_.dom _ _ h1
   rw [hk _ (hext _ hd),hpi _ hd,hold π hk i o hi] at e
   exact (hmix2 i o y hi hno hy e.symm).elim
  ·exact (hh.at_.rep π fun j hj=>(hk j (.inl hj)).trans (hk0 j hj)).inj i j _ _ hi hj e
 ·rcases gB hi with ⟨x,hx,rfl,rfl⟩ | ⟨hi,_⟩
  ·obtain⟨o1,h1,_,_,_⟩:=hob x hx
   exact hext _ (g.at_.dom _ _ h1)
  ·exact .inl (hh.at_.dom i o hi)
 ·rcases gB hi with ⟨x,hx,rfl,rfl⟩ | ⟨hi,_⟩
  ·obtain⟨o1,h1,h2,_,h4⟩:=hob x hx
   rw [hpi _ (g.at_.dom _ _ h1)]
   rcases g.sub x.1 o1 h1 with h | ⟨i0,o0,h5,h6,h7⟩
   ·exact .inl h
   ·obtain⟨q,a1,a2,_⟩:=hq i0 o0 h5
    refine .inr ⟨_,q,a1,h6,fun hz=>?_⟩
    have:=h7 (a2▸hz)
    rw [av.lC h2] at this
    cases this
  ·exact .inr ⟨i,o,hi,congrArg Pc.p (hk0 i (hh.at_.dom i o hi)).symm,id⟩
 ·refine g.keep j hj fun i o hi e=>?_
  obtain⟨q,a1,a2,_⟩:=hq i o hi
  rw [←a2]
  exact hne _ q a1 e
 ·rw [V.gY _ _ _ _ (by rw [V.iO];exact hnw),V.lD]
  exact hv _ (hkn π hk)
theorem gD(hmix:P.follows .mixedOrders=true)(htt:oU P cx0.tt)(hft:vo P cx0.ft)(hng:cx.ng=ng)(hng0:cx0.ng=ng)(hL:∀ x∈L,x.1<ng)(hro:∀ ρ':Env,ρ'.ro=ρ.ro→RoAt ρ' L)
  {N:Nat} {f:FuncId} {fn:Func} (hfn:P.funcs[f]?=some fn) {p:m7} {tr:R Leaf} (htr:nq p ((ev cx0 N).call f p.args (p.st L))=tr):∀ {l:List Sub},(∀ σ∈l,SumOk P cx0 (σ.env ρ))→ct P cx ρ f (dQ L ng p tr l)
 | [],_,args,st,v,st',h,_,_,_,_,_,_,_=>by simp [dQ,R.ai] at h
 | σ::l,hl,args,st,v,st',h,S,π0,w,ac,n,hh,ha=>by
  unfold dQ at h
  dsimp only at h
  split at h
  ·rename_i hfit
   obtain⟨lf,st1,h1,h2,h3,rfl,rfl⟩:=FI hh.pc h
   rw [←htr] at h1
   obtain⟨st2,os,ns,h4,h5,h6,h7,h8⟩:=vE h1
   have:=QD hmix htt hft (hl σ (List.mem_cons_self ..)) hng hng0 hL (hro _ rfl) hfn (r:=EN st.h p.items (As p.args args [])) hfit h4 h5 h6 h7 h8 h3 hh ha (n:=n)
   refine this.mono fun e w' hp=>?_
   rw [h2.h,h2.n]
   exact⟨h2.pc,hp.2⟩
  ·exact gD hmix htt hft hng hng0 hL hro hfn htr (fun σ hσ=>hl σ (List.mem_cons_of_mem _ hσ)) args st v st' h S π0 w ac n hh ha
end
end Go.Proofs.YtmickljjofbmiaaGreatDoor
namespace Go.Proofs.YtmickljjofbmiaaGreatDoor
open Go Go.RowKit
def LX (L:List (Nat×List V)) (ws:List (Nat×av)) (n:Nat) (pc:PC):St:={h:=l9 ws (kT L),n:=n,pc:=pc}
noncomputable def mo:jP→Bool
 | .ok (.ret (.bool x),st)=>B3 1000 st.pc x true
 | .ok _=>false
 | .br _ t f=>match mo t with
  | true=>mo f
  | false=>false
 | .stuck _=>false
section
variable {P:Program} {cx:Cx} {ρ:Env} {W:World} {L:List (Nat×List V)} {ws:List (Nat×av)} {ng nm:Nat} {pc:PC}
theorem qf:∀ {r:jP},mo r=true→∃ x st,r.ai ρ=some (.ret (.bool x),st)∧(au ρ st.pc→x.tt ρ=true)
 | .ok a,h=>by
  unfold mo at h
  split at h
  ·rename_i x st e
   injection e with e
   subst e
   exact⟨x,st,rfl,fun hp=>gp hp h⟩
  ·cases h
  ·rename_i e;cases e
  ·rename_i e;cases e
 | .br c t f,h=>by
  unfold mo at h
  split at h
  ·rename_i ht
   unfold R.ai
   split
   ·exact qf ht
   ·exact qf h
  ·cases h
 | .stuck _,h=>by simp [mo] at h
structure RowsAt (ρ:Env) (W:World) (ws:List (Nat×av)) (ng nm:Nat):Prop where
 lo:∀ x∈ws,ng≤x.1∧x.1<nm
 le:ng≤nm
 obj:∀ x∈ws,W.heap[(ρ.win x.1).block]?=some (ρ.ro x.1)
 bR:∀ x∈ws,x.2.bR=true
 is:∀ x∈ws,∀ π:Pl,(π x.1).1=(ρ.win x.1).block→x.2.is ρ π x.1 (ρ.ro x.1)
def πRows(ρ:Env)(ng:Nat):Pl:=fun i=>match Nat.ble ng i with
 | true=>⟨(ρ.win i).block,0,.nilFunc⟩
 | false=>⟨i,0,.nilFunc⟩
theorem πRows_win{i:Nat}(h:ng≤i):(πRows ρ ng i).1=(ρ.win i).block:=by
 unfold πRows
 rw [Nat.ble_eq_true_of_le h]
theorem πRows_glob{i:Nat}(h:i<ng):(πRows ρ ng i).1=i:=by
 unfold πRows
 cases hb:Nat.ble ng i with
 | true=>have:=Nat.le_of_ble_eq_true hb;omega
 | false=>rfl
theorem Qm(hng:cx.ng=ng)(hL:∀ x∈L,x.1<ng)(hro:RoAt ρ L) (hW:∀ x∈L,W.heap[x.1]?=some (ρ.ro x.1)) (hw:RowsAt ρ W ws ng nm) (hpc:au ρ pc):cu cx ρ (fun i=>i<nm) (πRows ρ ng) (LX L ws nm pc) W:=by
 have hget:∀ i o,(l9 ws (kT L)).get i=some o→(i,o)∈ws∨∃ x∈L,i=x.1∧o=.ro x.1 x.2:=by
  intro i o hi
  rcases mE hi with h | ⟨_,h⟩
  ·exact .inl h
  ·exact .inr (dp h)
 have hle:=hw.le
 have hfr:∀ i o,(l9 ws (kT L)).get i=some o→o.bR=true:=by
  intro i o hi
  rcases hget i o hi with h | ⟨x,hx,rfl,rfl⟩
  ·exact hw.bR _ h
  ·rfl
 refine⟨hpc,⟨fun π hk=>⟨fun i o hi=>?_,fun i j o o' hi hj e=>?_⟩,fun i o hi=>?_⟩,fun g hg=>?_,fun i hi hs=>?_⟩
 ·rcases hget i o hi with h | ⟨x,hx,rfl,rfl⟩
  ·have hlo:=hw.lo _ h
   have h1:(π i).1=(ρ.win i).block:=by rw [hk i hlo.2];exact πRows_win hlo.1
   exact⟨_,by rw [h1];exact hw.obj _ h,hw.is _ h π h1⟩
  ·have hlt:=hL x hx
   have h1:(π x.1).1=x.1:=by rw [hk x.1 (by show x.1<nm;omega)];exact πRows_glob hlt
   obtain⟨t,fr,h2⟩:=hro.is x hx
   exact⟨_,by rw [h1];exact hW x hx,⟨t,fr,h2 π⟩,rfl⟩
 ·exact .inr ⟨hfr i o hi,hfr j o' hj⟩
 ·rcases hget i o hi with h | ⟨x,hx,rfl,rfl⟩
  ·exact (hw.lo _ h).2
  ·have:=hL x hx
   show x.1<nm;omega
 ·rw [hng] at hg
  exact⟨by show g<nm;omega,πRows_glob hg⟩
 ·have h1:nm≤i:=hi
  have h2:i<nm:=hs
  omega
theorem L8(hw:RowsAt ρ W ws ng nm){π0 π1:Pl}{w':World}{n':Nat}{h':H} (g:di ρ (fun i=>i<nm) π0 (l9 ws (kT L)) W nm π1 h' w' n'):Below W.heap.size W w':=by
 refine⟨g.same.2.1,g.same.1,g.same.2.2,g.size,fun k hk=>g.keep k hk fun i o hi _=>?_⟩
 rcases mE hi with h | ⟨_,h⟩
 ·exact hw.bR _ h
 ·obtain⟨x,hx,rfl,rfl⟩:=dp h
  rfl
theorem W7{N:Nat}{f:FuncId}{fn:Func}{args:List V}{ac:List Value}(hmix:P.follows .mixedOrders=true)(htt:oU P cx.tt)(hft:vo P cx.ft)(hsm:SumOk P cx ρ) (hf:P.funcs[f]?=some fn)
  (hng:cx.ng=ng) (hL:∀ x∈L,x.1<ng) (hro:RoAt ρ L) (hW:∀ x∈L,W.heap[x.1]?=some (ρ.ro x.1)) (hw:RowsAt ρ W ws ng nm) (hpc:au ρ pc)
  (ht:mo ((ev cx N).call f args (LX L ws nm pc))=true) (ha:bT ρ (fun i=>i<nm) (πRows ρ ng) args ac):
  Calls P f ac.toArray W fun e W'=>e=.returned (.bool true)∧Below W.heap.size W W':=by
 obtain⟨x,st,hsel,hx⟩:=qf (ρ:=ρ) ht
 refine (WM hmix htt hft hsm hsel (Qm hng hL hro hW hw hpc) ha hf).mono fun e W' hp=>?_
 obtain⟨hpc',π1,g,c,rfl,hv⟩:=hp
 refine⟨?_,L8 hw g⟩
 rw [←hv π1 fun _ _=>rfl]
 simp [V.ae,hx hpc']
end
end Go.Proofs.YtmickljjofbmiaaGreatDoor
namespace Go.Proofs.YtmickljjofbmiaaGreatDoor
open Go Go.Proofs Go.ChangeShapes Go.WideShapes Go.RowKit
def X7(W:World)(i:Nat):Obj:=(W.heap[i]?).getD (.deferred none)
structure jJ (W:World) (ks:List CK) (a:Addr) (ln:Nat) (g:Nat→Int→Int):Prop where
 spot:a.spot=none
 row:∃ cs t fr,W.heap[a.block]?=some (.cells cs t fr)∧∀ (j c:Nat) (k:CK),j<ln→ks[c]?=some k→cs[a.off+(j*ks.length+c)]?=some (k.val (match k with
  | .int k=>k.wrap (g c j)
  | .bool=>bc (g c j==1)))
theorem CB{W:World}{ks:List CK}{a:Addr}{ln:Nat}{zs:Nat→List Value}(hn:0<ln)(hks:0<ks.length) (h:∀ i,i<ln→nx ks (zs i)∧∀ j,j<ks.length→W.cell? (a.add (i*ks.length+j))=(zs i)[j]?):
  jJ W ks a ln fun c j=>aaX ((zs j.toNat).getD c default):=by
 have h0:∃ cs t fr,W.heap[a.block]?=some (.cells cs t fr)∧a.spot=none:=by
  obtain⟨h1,h2⟩:=h 0 hn
  have h3:=h2 0 hks
  have hl:=h1.len
  have:(zs 0)[0]?=some (zs 0)[0]:=List.getElem?_eq_getElem (by omega)
  rw [this] at h3
  unfold World.cell? at h3
  split at h3
  ·rename_i cs t fr hb
   refine⟨cs,t,fr,by simpa [Addr.add] using hb,?_⟩
   cases hs:a.spot with
   | none=>rfl
   | some n=>simp [Addr.add,hs] at h3
  ·cases h3
 obtain⟨cs,t,fr,hb,hs⟩:=h0
 refine⟨hs,cs,t,fr,hb,fun j c k hj hk=>?_⟩
 obtain⟨h1,h2⟩:=h j hj
 have hc:c<ks.length:=(List.getElem?_eq_some_iff.1 hk).1
 obtain⟨v,hv,hok⟩:=h1.get hk
 have h3:=h2 c hc
 rw [hv,add_plain hs] at h3
 unfold World.cell? at h3
 dsimp only at h3
 rw [hb] at h3
 simp only [Option.isSome_none,Bool.false_eq_true,if_false] at h3
 rw [h3,Int.toNat_natCast,List.getD_eq_getElem?_getD,hv,Option.getD_some]
 cases k with
 | int k=>
  obtain⟨z,rfl,hz⟩:=hok
  simp only [CK.val,aaX,wf_wrap hz]
 | bool=>
  obtain⟨b,rfl⟩:=hok
  cases b<;>rfl
theorem jJ.block{W:World}{ks:List CK}{a:Addr}{ln:Nat}{g:Nat→Int→Int}(h:jJ W ks a ln g):W.heap[a.block]?=some (X7 W a.block):=by
 obtain⟨cs,t,fr,hb,_⟩:=h.row
 simp only [X7,hb,Option.getD_some]
theorem jJ.is{W:World}{ks:List CK}{a:Addr}{ln:Nat}{g:Nat→Int→Int}(h:jJ W ks a ln g){ρ:Env}{π:Pl}{b tag t:Nat}{len:X}(hw:ρ.win b=a)(hr:ρ.ro tag=X7 W a.block) (hf:∀ c,c<ks.length→ρ.f1 (t+c)=g c) (hl:(len.den ρ).toNat≤ln) (hπ:(π b).1=a.block):
  av.is ρ π b (.warr tag t ks len) (X7 W a.block):=by
 obtain⟨cs,ty,fr,hb,hc⟩:=h.row
 refine⟨⟨by rw [hw];exact h.spot,by rw [hw,hπ],cs,ty,fr,by simp only [X7,hb,Option.getD_some],fun j c k hj hk=>?_⟩,hr.symm⟩
 dsimp only
 rw [hw,hc j c k (by omega) hk]
 have hcl:c<ks.length:=(List.getElem?_eq_some_iff.1 hk).1
 cases k with
 | int k=>simp only [A.den,CK.sym,hf c hcl]
 | bool=>simp only [A.den,CK.sym,hf c hcl]
end Go.Proofs.YtmickljjofbmiaaGreatDoor
namespace Go.Proofs.YtmickljjofbmiaaGreatDoor
open Go Go.Proofs
def Aa:jP→(V→St→Bool)→Bool
 | .ok (.ret v,st),k=>k v st
 | .ok _,_=>false
 | .br _ t f,k=>match Aa t k with
  | true=>Aa f k
  | false=>false
 | .stuck _,_=>false
theorem vF{ρ:Env}{k:V→St→Bool}:∀ {r:jP},Aa r k=true→∃ v st,r.ai ρ=some (.ret v,st)∧k v st=true
 | .ok a,h=>by
  unfold Aa at h
  split at h
  ·rename_i v st e
   injection e with e
   subst e
   exact⟨v,st,rfl,h⟩
  ·cases h
  ·rename_i e;cases e
  ·rename_i e;cases e
 | .br c t f,h=>by
  unfold Aa at h
  split at h
  ·rename_i ht
   unfold R.ai
   split
   ·exact vF ht
   ·exact vF h
  ·cases h
 | .stuck _,h=>by simp [Aa] at h
def comp(call:FuncId→List V→St→jP) (L:List (Nat×List V)) (ng m:Nat):List (FuncId×List V)→List V→PC→(List V→PC→Bool)→Bool
 | [],acc,pc,k=>k acc pc
 | (f,a)::l,acc,pc,k=>Aa (call f a {rI L ng with pc:=pc}) fun v st=>match Nat.ble st.n m with
  | true=>match cE L st.h with
   | true=>comp call L ng m l (v::acc) st.pc k
   | false=>false
  | false=>false
theorem Qo{ρ:Env}{call:FuncId→List V→St→jP} {L:List (Nat×List V)} {ng m:Nat} {f:FuncId} {a:List V} {l:List (FuncId×List V)} {acc:List V} {pc:PC} {k:List V→PC→Bool} (h:comp call L ng m ((f,a)::l) acc pc k=true):
  ∃ v st,(call f a {rI L ng with pc:=pc}).ai ρ=some (.ret v,st)∧st.n≤m∧cE L st.h=true∧comp call L ng m l (v::acc) st.pc k=true:=by
 obtain⟨v,st,h1,h2⟩:=vF (ρ:=ρ) (by unfold comp at h;exact h)
 split at h2
 ·rename_i hm
  split at h2
  ·rename_i hr
   exact⟨v,st,h1,Nat.le_of_ble_eq_true hm,hr,h2⟩
  ·cases h2
 ·cases h2
theorem Vo{P:Program}{cx0:Cx}{ρ:Env}{w:World} {L:List (Nat×List V)} {ng:Nat} {π0:Pl} (hmix:P.follows .mixedOrders=true) (htt:oU P cx0.tt) (hft:vo P cx0.ft) (hsm:SumOk P cx0 ρ) (hng0:cx0.ng=ng) (hL:∀ x∈L,x.1<ng) (hro:RoAt ρ L) (hπ:∀ g,g<ng→(π0 g).1=g) (hW:∀ x∈L,w.heap[x.1]?=some (ρ.ro x.1))
  {N:Nat} {f:FuncId} {fn:Func} {args:List V} {v:V} {st':St} {pc0:PC} (hpc0:au ρ pc0) (hsel:((ev cx0 N).call f args {rI L ng with pc:=pc0}).ai ρ=some (.ret v,st')) (hpure:V.dA args=true) (hfn:P.funcs[f]?=some fn):au ρ st'.pc:=by
 have h0:=(uK (cx0:=cx0) (π0:=π0) hng0 hL hro hπ hW).fP (st1:={rI L ng with pc:=pc0}) ⟨rfl,rfl,hpc0⟩
 have ha0:bT ρ (fun i=>i<ng) π0 args (V.af ρ π0 args):=fun π _=>V.ju hpure
 obtain⟨e,w',fr,hp,_⟩:=(callsIn_wide (n:=0).1 ((lW hmix htt hft hsm N).2.2 f args _ _ hsel _ π0 w _ 0 h0 ha0 ⟨fn,hfn⟩)) []
 exact hp.1
section
variable {P:Program} {cx cx0:Cx} {ρ:Env} {S:Nat→Prop} {π0:Pl} {st st':St} {w:World} {L:List (Nat×List V)} {ng:Nat}
theorem L5{ρ':Env}{pc0:PC}(hpc0:au ρ' pc0)(hmix:P.follows .mixedOrders=true)(htt:oU P cx0.tt)(hft:vo P cx0.ft)(hsm:SumOk P cx0 ρ')(hng:cx.ng=ng)(hng0:cx0.ng=ng)(hL:∀ x∈L,x.1<ng)(hro:RoAt ρ' L)(hroe:ρ'.ro=ρ.ro)
  {N:Nat} {f:FuncId} {fn:Func} {args:List V} {v v':V} {objs:List (Nat×av)} (hsel:((ev cx0 N).call f args {rI L ng with pc:=pc0}).ai ρ'=some (.ret v,st')) (hthere':cE L st'.h=true) (hv':au ρ' st'.pc→∀ π,v'.ae ρ π=v.ae ρ' π) (hnw:v'.bQ=true)
  (hobjs:∀ x∈objs,ng≤x.1∧∃ o,st'.h.get x.1=some o∧(x.2.plain=true∧o.bR=false)∧∀ π b ob,o.is ρ' π b ob→x.2.is ρ π b ob) (hpure:V.dA args=true) (hfn:P.funcs[f]?=some fn)
  (hh:cu cx ρ S π0 st w) (hthere:cE L st.h=true) {ac:List Value} (ha:bT ρ' S π0 args ac) {n:Nat}:
  CallsIn Fence.wide n P f ac.toArray w (EPost ρ S π0 st w (.ret (v'.lR (sh st.n ng)),{h:=fl (sh st.n ng) objs st.h,n:=st.n+(st'.n-ng),pc:=st.pc})):=by
 have hπ:∀ g,g<ng→(π0 g).1=g:=fun g hg=>(hh.glob g (by rw [hng];exact hg)).2
 have hSg:∀ g,g<ng→S g:=fun g hg=>(hh.glob g (by rw [hng];exact hg)).1
 have hngn:ng≤st.n:=by
  rcases Nat.lt_or_ge st.n ng with h | h
  ·exact absurd (hSg st.n h) (hh.fresh st.n (Nat.le_refl _))
  ·exact h
 have hW:∀ x∈L,w.heap[x.1]?=some (ρ.ro x.1):=by
  intro x hx
  obtain⟨c,hc⟩:=je hthere x hx
  obtain⟨ob,h1,_,h2⟩:=(hh.at_.rep π0 fun _ _=>rfl).obj _ _ hc
  rw [hπ _ (hL x hx),h2] at h1
  exact h1
 have hW2:∀ x∈L,w.heap[x.1]?=some (ρ'.ro x.1):=fun x hx=>by rw [hroe];exact hW x hx
 have h0:=(uK (cx0:=cx0) (π0:=π0) hng0 hL hro hπ hW2).fP (st1:={rI L ng with pc:=pc0}) ⟨rfl,rfl,hpc0⟩
 have ha0:bT ρ' (fun i=>i<ng) π0 args ac:=fun π _=>(V.ju hpure).trans (ha π0 fun _ _=>rfl)
 refine ((lW hmix htt hft hsm N).2.2 f args _ _ hsel _ π0 w ac n h0 ha0 ⟨fn,hfn⟩).mono fun e w' hp=>?_
 obtain⟨hpc',πc,g,c,rfl,hv⟩:=hp
 have hb:=KY hL hπ hW2 g hthere'
 have hle:ng≤st'.n:=g.le
 refine⟨hh.pc,fun i=>if i<st.n then π0 i else πc (i-st.n+ng),?_⟩
 have hpi:∀ b,(fun i=>if i<st.n then π0 i else πc (i-st.n+ng)) (sh st.n ng b)=πc b:=by
  intro b
  dsimp only
  rcases Nat.lt_or_ge b ng with h | h
  ·rw [OI h,if_pos (by omega),g.known b h]
  ·rw [DB h,if_neg (by omega),show b-ng+st.n-st.n+ng=b by omega]
 have hkn:∀ π,bf (Ext S st.n (st.n+(st'.n-ng))) π (fun i=>if i<st.n then π0 i else πc (i-st.n+ng))→bf (Ext (fun i=>i<ng) ng st'.n) (fun b=>π (sh st.n ng b)) πc:=by
  intro π hk b hbb
  dsimp only
  rw [←hpi b]
  refine hk _ ?_
  rcases hbb with h | ⟨h1,h2⟩
  ·rw [OI h]
   exact .inl (hSg b h)
  ·rw [DB h1]
   exact .inr ⟨by omega,by omega⟩
 have hk0:bf S (fun i=>if i<st.n then π0 i else πc (i-st.n+ng)) π0:=by
  intro i hi
  dsimp only
  rw [if_pos]
  rcases Nat.lt_or_ge i st.n with h | h
  ·exact h
  ·exact absurd hi (hh.fresh i h)
 have hold:∀ π,bf (Ext S st.n (st.n+(st'.n-ng))) π (fun i=>if i<st.n then π0 i else πc (i-st.n+ng))→∀ i o,st.h.get i=some o→∃ ob,w.heap[(π i).1]?=some ob∧o.is ρ π i ob:=by
  intro π hk i o hi
  exact (hh.at_.rep π fun j hj=>(hk j (.inl hj)).trans (hk0 j hj)).obj i o hi
 have hnew:∀ x∈objs,w.heap.size≤(πc x.1).1:=by
  intro x hx
  obtain⟨h1,o,h2,h3,hob⟩:=hobjs x hx
  rcases g.sub x.1 o h2 with h | ⟨i0,o0,h4,h5,h6⟩
  ·exact h
  ·obtain⟨y,hy,rfl,rfl⟩:=dp h4
   rw [h3.2] at h6
   exact absurd (h6 rfl) (by decide)
 refine⟨?_,⟨c,rfl,fun π hk=>?_⟩⟩
 ·refine⟨by dsimp only;omega,hk0,⟨fun π hk=>⟨fun i o hi=>?_,fun i j o o' hi hj e=>?_⟩,fun i o hi=>?_⟩,fun i o hi=>?_,fun j hj hne=>hb.block j hj,hb.size,⟨hb.tape,hb.os,hb.output⟩⟩
  ·rcases dt hi with ⟨x,hx,rfl,rfl⟩ | hi
   ·obtain⟨h1,o,h2,h3,hob⟩:=hobjs x hx
    obtain⟨ob,h4,h5⟩:=(g.at_.rep _ (hkn π hk)).obj x.1 o h2
    exact⟨ob,h4,av.LY h3.1 (hob _ _ _ h5)⟩
   ·obtain⟨ob,h1,h2⟩:=hold π hk i o hi
    have hlt:(π i).1<w.heap.size:=(Array.getElem?_eq_some_iff.1 h1).1
    exact⟨ob,by rw [hb.block _ hlt];exact h1,h2⟩
  ·have hmix:∀ (i j:Nat) (o:av) (x:Nat×av),st.h.get i=some o→x∈objs→(π i).1=(π (sh st.n ng x.1)).1→False:=by
    intro i j o x hi hx e
    obtain⟨ob,h1,_⟩:=hold π hk i o hi
    have hlt:(π i).1<w.heap.size:=(Array.getElem?_eq_some_iff.1 h1).1
    have h2:=hnew x hx
    obtain⟨h3,o,h4,_⟩:=hobjs x hx
    have h5:(π (sh st.n ng x.1))=πc x.1:=hkn π hk x.1 (g.at_.dom _ _ h4)
    rw [h5] at e
    omega
   rcases dt hi with ⟨x,hx,rfl,rfl⟩ | hi<;>rcases dt hj with ⟨y,hy,rfl,rfl⟩ | hj
   ·obtain⟨h1,_,h2,h3,_⟩:=hobjs x hx
    obtain⟨h4,_,h5,h6,_⟩:=hobjs y hy
    rcases (g.at_.rep _ (hkn π hk)).inj x.1 y.1 _ _ h2 h5 e with e | e
    ·exact .inl (by rw [e])
    ·rw [h3.2] at e;cases e.1
   ·exact (hmix j 0 _ x hj hx e.symm).elim
   ·exact (hmix i 0 _ y hi hy e).elim
   ·exact (hh.at_.rep π fun j hj=>(hk j (.inl hj)).trans (hk0 j hj)).inj i j _ _ hi hj e
  ·rcases dt hi with ⟨x,hx,rfl,rfl⟩ | hi
   ·obtain⟨h1,_,h2,h3⟩:=hobjs x hx
    rcases g.at_.dom _ _ h2 with h | ⟨_,h⟩
    ·have:x.1<ng:=h
     omega
    ·have h':x.1<st'.n:=h
     rw [DB h1]
     exact .inr ⟨by omega,by dsimp only;omega⟩
   ·exact .inl (hh.at_.dom i o hi)
  ·rcases dt hi with ⟨x,hx,rfl,rfl⟩ | hi
   ·refine .inl ?_
    have:=hnew x hx
    rw [←hpi x.1] at this
    exact this
   ·exact .inr ⟨i,o,hi,congrArg Pc.p (hk0 i (hh.at_.dom i o hi)).symm,id⟩
 ·rw [V.gY _ _ _ _ hnw,hv' hpc']
  exact hv _ (hkn π hk)
end
end Go.Proofs.YtmickljjofbmiaaGreatDoor
namespace Go.Proofs.YtmickljjofbmiaaGreatDoor
open Go Go.Proofs
section
variable {P:Program} {cx:Cx} {ρ:Env} {L:List (Nat×List V)} {ng:Nat} {f:FuncId}
structure bl (P:Program) (L:List (Nat×List V)) (ng m:Nat) (ro:Nat→Obj) (f:FuncId) (a:List Value) (val:Value):Prop where
 is:∃ (c:Cx) (N:Nat) (ρ':Env) (pc0:PC) (x:List V) (v:V) (st':St),SumOk P c ρ'∧oU P c.tt∧vo P c.ft∧c.ng=ng∧ρ'.ro=ro∧RoAt ρ' L∧au ρ' pc0∧((ev c N).call f x {rI L ng with pc:=pc0}).ai ρ'=some (.ret v,st')∧cE L st'.h=true∧st'.n≤m∧(∀ π,v.ae ρ' π=val)∧V.dA x=true∧∀ π,V.af ρ' π x=a
theorem bl.post{m:Nat}{ro:Nat→Obj}{a:List Value}{val:Value}(h:bl P L ng m ro f a val)(hmix:P.follows .mixedOrders=true)(hng:cx.ng=ng)(hL:∀ x∈L,x.1<ng){fn:Func} (hfn:P.funcs[f]?=some fn) (hr:ρ.ro=ro) {args:List V} (ha:∀ π,V.af ρ π args=a) {v:V} (hv:∀ π,v.ae ρ π=val) (hren:∀ r,v.lR r=v) (hnw:v.bQ=true)
  {S:Nat→Prop} {π0:Pl} {st:St} {w:World} {ac:List Value} {n:Nat} (hh:cu cx ρ S π0 st w) (hthere:cE L st.h=true) (hac:bT ρ S π0 args ac):CallsIn Fence.wide n P f ac.toArray w (EPost ρ S π0 st w (.ret v,{st with n:=st.n+m})):=by
 obtain⟨c,N,ρ',pc0,x,u,st',h1,h2,h3,h4,h5,h6,h7,h8,h9,h10,h11,h12,h13⟩:=h.is
 have hargs:bT ρ' S π0 x ac:=fun π hk=>by rw [h13 π,←ha π,hac π hk]
 have key:=L5 (P:=P) (cx:=cx) (cx0:=c) (ρ:=ρ) (ρ':=ρ') h7 hmix h2 h3 h1 hng h4 hL h6 (h5.trans hr.symm) h8 h9 (v':=v) (fun _ π=>(hv π).trans (h11 π).symm) hnw (objs:=[]) (fun x hx=>by simp at hx) h12 hfn hh hthere hargs (n:=n)
 refine key.mono fun e w' hp=>?_
 rw [hren] at hp
 exact EPost.more (st1:={h:=st.h,n:=st.n+(st'.n-ng),pc:=st.pc}) (v:=v) hp (m:=st.n+m) (by show st.n+(st'.n-ng)≤st.n+m;omega)
theorem qg{m:Nat}(hmix:P.follows .mixedOrders=true)(hng:cx.ng=ng)(hL:∀ x∈L,x.1<ng){fn:Func} (hfn:P.funcs[f]?=some fn):∀ {l:List (List V×R Leaf)},(∀ x∈l,∃ a val,bl P L ng m ρ.ro f a val∧(∀ π,V.af ρ π x.1=a)∧∀ lf,x.2.ai ρ=some lf→lf.objs=[]∧lf.n=ng+m∧(∀ π,lf.v.ae ρ π=val)∧(∀ r,lf.v.lR r=lf.v)∧lf.v.bQ=true)→ct P cx ρ f (bW L ng l)
 | [],_,args,st,v,st',h,_,_,_,_,_,_,_=>by simp [bW,R.ai] at h
 | (a,tr)::l,hl,args,st,v,st',h,S,π0,w,ac,n,hh,hac=>by
  unfold bW at h
  split at h
  ·rename_i hb
   obtain rfl:=V.bJ _ _ hb
   split at h
   ·rename_i hthere
    obtain⟨lf,st1,h1,hlk,rfl,rfl⟩:=qD hh.pc h
    obtain⟨ca,val,c1,c2,c3⟩:=hl _ (List.mem_cons_self ..)
    obtain⟨d1,d2,d3,d4,d5⟩:=c3 lf h1
    have hh1:=hh.fP hlk
    have:=c1.post hmix hng hL hfn rfl c2 d3 d4 d5 hh1 (by rw [hlk.h];exact hthere) hac (n:=n)
    refine this.mono fun e w' hp=>EPost.fP hlk ?_
    rw [d1,d4,d2,show fl (sh st1.n ng) [] st1.h=st1.h from rfl,show st1.n+(ng+m-ng)=st1.n+m by omega]
    exact hp
   ·simp [R.ai] at h
  ·exact qg hmix hng hL hfn (fun x hx=>hl x (List.mem_cons_of_mem _ hx)) args st v st' h S π0 w ac n hh hac
theorem cu.less{S:Nat→Prop}{π0:Pl}{st st1:St}{w:World}(hh:cu cx ρ S π0 st w)(l:u5 ρ st st1)(hn:st1.n=st.n):cu cx ρ S π0 st1 w:=by
 refine⟨l.pc hh.pc,⟨fun π hk=>⟨fun i o hi=>?_,fun i j o o' hi hj e=>?_⟩,fun i o hi=>?_⟩,hh.glob,fun i hi=>hh.fresh i (by rw [←hn];exact hi)⟩
 ·obtain⟨o1,h1,h2,_⟩:=l.h i o hi
  obtain⟨ob,h3,h4⟩:=(hh.at_.rep π hk).obj i o1 h1
  exact⟨ob,h3,h2 π ob h4⟩
 ·obtain⟨o1,h1,_,z1⟩:=l.h i o hi
  obtain⟨o2,h2,_,z2⟩:=l.h j o' hj
  rw [←z1,←z2]
  exact (hh.at_.rep π hk).inj i j _ _ h1 h2 e
 ·obtain⟨o1,h1,_⟩:=l.h i o hi
  exact hh.at_.dom i o1 h1
theorem di.from{S:Nat→Prop}{π0 π1:Pl}{st st1:St}{w w':World}{h':H}{n':Nat}(l:u5 ρ st st1)(hn:st1.n=st.n)(g:di ρ S π0 st1.h w st1.n π1 h' w' n'):di ρ S π0 st.h w st.n π1 h' w' n':=by
 rw [hn] at g
 refine⟨g.le,g.known,g.at_,fun i o hi=>?_,fun j hj hf=>?_,g.size,g.same⟩
 ·rcases g.sub i o hi with h | ⟨i0,o0,h1,h2,h3⟩
  ·exact .inl h
  ·obtain⟨o1,k1,_,k3⟩:=l.h i0 o0 h1
   exact .inr ⟨i0,o1,k1,h2,fun q=>h3 (by rw [←k3];exact q)⟩
 ·refine g.keep j hj fun i o hi e=>?_
  obtain⟨o1,k1,_,k3⟩:=l.h i o hi
  rw [←k3]
  exact hf i o1 k1 e
theorem ct.via {s:List V→St→R (V×St)} (h:∀ args st v st',(s args st).ai ρ=some (v,st')→au ρ st.pc→∃ (s':List V→St→R (V×St)) (args':List V) (st1:St) (v2:V) (st2:St),ct P cx ρ f s'∧(∀ π,V.af ρ π args'=V.af ρ π args)∧u5 ρ st st1∧st1.n=st.n∧(s' args' st1).ai ρ=some (v2,st2)∧(∀ π,v.ae ρ π=v2.ae ρ π)∧u5 ρ st2 st'):ct P cx ρ f s:=by
 intro args st v st' hs S π0 w ac n hh ha
 obtain⟨s',args',st1,v2,st2,h1,h2,h3,h4,h5,h6,h7⟩:=h args st v st' hs hh.pc
 have:=h1 args' st1 v2 st2 h5 S π0 w ac n (hh.less h3 h4) (fun π hk=>by rw [h2 π];exact ha π hk)
 refine this.mono fun e w' hp=>?_
 obtain⟨k1,π1,g,k2⟩:=hp
 have hp':EPost ρ S π0 st w (.ret v2,st2) e w':=⟨k1,π1,di.from h3 h4 g,by rw [←h4];exact k2⟩
 exact hp'.less ⟨h7,.inr ⟨v2,v,rfl,rfl,h6⟩⟩
end
end Go.Proofs.YtmickljjofbmiaaGreatDoor
namespace Go.Proofs.YtmickljjofbmiaaGreatDoor
open Go
noncomputable section
inductive LM where
 | next (j:Nat) (σ:Mt)
 | out (k:Nat) (σ:Mt)
 | never
def uQ(t:Tch)(n:Nat)(kn:List Nat)(Is:List mW)(outs:List OutP)(e:Ex)(fr:Fr)(st:St):LM→Bool
 | .never=>true
 | .next j σ=>match nth Is j with
  | some I=>match e with
   | .normal=>match ig n kn I.kn with
    | true=>fit t σ n I fr st
    | false=>false
   | _=>false
  | none=>false
 | .out k σ=>match nth outs k with
  | some O=>match k7 e O.ex with
   | true=>match e with
    | .normal=>false
    | _=>match ig n kn O.pat.kn with
     | true=>fit t σ n O.pat fr st
     | false=>false
   | false=>false
  | none=>false
def kR(t:Tch)(n:Nat)(kn:List Nat)(Is:List mW)(outs:List OutP):cM→R LM→Bool
 | .br c a b,r=>match r with
  | .br d x y=>match c.beq d with
   | true=>match kR t n kn Is outs a x with
    | true=>kR t n kn Is outs b y
    | false=>false
   | false=>false
  | _=>false
 | .ok (e,fr,st),r=>match r with
  | .ok l=>uQ t n kn Is outs e fr st l
  | _=>false
 | .stuck _,r=>match r with
  | .ok .never=>true
  | _=>false
def kx(ng n:Nat):List OutP→Bool
 | []=>true
 | O::l=>bI (pa ng O.pat) (Nat.ble n O.pat.n) (kx ng n l) true true true
def E7(ng:Nat)(L:LoopI)(I:mW):Bool:=bI (pa ng I) (nh ng L.st.h L.st.n I.kn) (Nat.ble ng L.st.n) (US I.kn L.rnd) true true
def gW(ng:Nat)(L:LoopI):List mW→Bool
 | []=>true
 | I::l=>match E7 ng L I with
  | true=>gW ng L l
  | false=>false
def vU(Is:List mW)(outs:List OutP):cM→R LM→R LM
 | .br _ a b,r=>match r with
  | .br d x y=>.br d (vU Is outs a x) (vU Is outs b y)
  | r=>r
 | .ok (_,fr,st),r=>match r with
  | .ok (.next j σ)=>match nth Is j with
   | some I=>.ok (.next j (iI I fr st σ.v σ.a))
   | none=>r
  | .ok (.out k σ)=>match nth outs k with
   | some O=>.ok (.out k (iI O.pat fr st σ.v σ.a))
   | none=>r
  | r=>r
 | .stuck _,r=>r
def ep(t:Tch)(n:Nat)(I:mW)(Is:List mW)(outs:List OutP)(raw:cM)(ll:R LM):Bool:=kR t n I.kn Is outs raw (vU Is outs raw ll)
end
end Go.Proofs.YtmickljjofbmiaaGreatDoor
namespace Go.Proofs.YtmickljjofbmiaaGreatDoor
open Go Go.Proofs
section
variable {P:Program} {cx:Cx} {ρ:Env}
theorem n6{t:Tch}{n:Nat}{kn:List Nat}{Is:List mW}{outs:List OutP}{ρ1:Env}:∀ {raw:cM} {ll:R LM} {x:LM},kR t n kn Is outs raw ll=true→ll.ai ρ1=some x→x=.never∨∃ e fr st,raw.ai ρ1=some (e,fr,st)∧uQ t n kn Is outs e fr st x=true
 | .br c a b,ll,x,h,hs=>by
  unfold kR at h
  split at h
  ·rename_i d u v
   split at h
   ·rename_i hc
    obtain rfl:=X.beq_eq hc
    split at h
    ·rename_i h1
     simp only [R.ai] at hs ⊢
     split at hs
     ·rename_i hcc
      rw [if_pos hcc]
      exact n6 h1 hs
     ·rename_i hcc
      rw [if_neg hcc]
      exact n6 h hs
    ·cases h
   ·cases h
  ·cases h
 | .ok (e,fr,st),ll,x,h,hs=>by
  unfold kR at h
  split at h
  ·simp only [R.ai,Option.some.injEq] at hs
   subst hs
   exact .inr ⟨e,fr,st,rfl,h⟩
  ·cases h
 | .stuck _,ll,x,h,hs=>by
  unfold kR at h
  split at h
  ·simp only [R.ai,Option.some.injEq] at hs
   exact .inl hs.symm
  ·cases h
theorem AL{ng n:Nat}:∀ {l:List OutP} {k:Nat} {O:OutP},kx ng n l=true→nth l k=some O→pa ng O.pat=true∧n≤O.pat.n
 | [],k,O,_,h=>by rw [bS] at h;simp at h
 | Q::l,k,O,he,h=>by
  unfold kx at he
  obtain⟨h1,h2,h3,_⟩:=ax he
  rw [bS] at h
  cases k with
  | zero=>
   obtain rfl:=Option.some.inj (show some Q=some O from by simpa using h)
   exact⟨h1,Nat.le_of_ble_eq_true h2⟩
  | succ k=>exact AL h3 (k:=k) (by rw [bS];simpa using h)
theorem yj{ng:Nat}{L:LoopI}:∀ {l:List mW} {k:Nat} {I:mW},gW ng L l=true→nth l k=some I→E7 ng L I=true
 | [],k,O,_,h=>by rw [bS] at h;simp at h
 | Q::l,k,O,he,h=>by
  unfold gW at he
  rw [bS] at h
  split at he
  ·rename_i h1
   cases k with
   | zero=>
    obtain rfl:=Option.some.inj (show some Q=some O from by simpa using h)
    exact h1
   | succ k=>exact yj he (k:=k) (by rw [bS];simpa using h)
  ·cases he
def LM.fP:LM→LM→Prop
 | .next j σ,.next j' τ=>j=j'∧σ.v=τ.v∧σ.a=τ.a
 | .out k σ,.out j τ=>k=j∧σ.v=τ.v∧σ.a=τ.a
 | .never,.never=>True
 | _,_=>False
theorem LM.gA(x:LM):x.fP x:=by cases x<;>first | trivial | exact⟨rfl,rfl,rfl⟩
theorem sR{Is:List mW}{outs:List OutP}{ρ:Env}:∀ {raw:cM} {r:R LM} (l:LM),r.ai ρ=some l→∃ l',(vU Is outs raw r).ai ρ=some l'∧l.fP l'
 | .br c a b,r,l,h=>by
  cases r with
  | br d x y=>exact R.W8 (fun l h=>sR l h) (fun l h=>sR l h) l h
  | ok x=>exact⟨l,h,l.gA⟩
  | stuck s=>exact⟨l,h,l.gA⟩
 | .ok (e,fr,st),r,l,h=>by
  cases r with
  | br d x y=>exact⟨l,h,l.gA⟩
  | ok x=>
   simp only [R.ai,Option.some.injEq] at h
   subst h
   unfold vU
   cases x with
   | next j σ=>
    dsimp only
    split
    ·exact⟨_,rfl,rfl,rfl,rfl⟩
    ·exact⟨_,rfl,rfl,rfl,rfl⟩
   | out k σ=>
    dsimp only
    split
    ·exact⟨_,rfl,rfl,rfl,rfl⟩
    ·exact⟨_,rfl,rfl,rfl,rfl⟩
   | never=>exact⟨_,rfl,trivial⟩
  | stuck s=>simp [R.ai] at h
 | .stuck s,r,l,h=>by
  unfold vU
  exact⟨l,h,l.gA⟩
theorem sV{cxB:Nat→Cx}{L:LoopI}{t:Tch}{Is:List mW}{outs:List OutP} {lls:List (R LM)} {N ng:Nat} {I0:mW} (σ0:Mt) (Inv:Nat→Env→Prop) (μ:Env→Nat)
  (hcode:∀ j ρ1,Inv j ρ1→gn P (cxB j) ρ1 (ev (cxB j) N).code) (hngB:∀ j,(cxB j).ng=ng) (hng:cx.ng=ng)
  (hchk:∀ j I ll,nth Is j=some I→nth lls j=some ll→ep t L.st.n I Is outs ((ev (cxB j) N).code L.rnd L.body I.fr I.st) ll=true)
  (hlen:∀ j I,nth Is j=some I→∃ ll,nth lls j=some ll) (hst:gW ng L Is=true) (hou:kx ng L.st.n outs=true) (hI0:nth Is 0=some I0) (hent:fit t (iI I0 L.fr L.st σ0.v σ0.a) L.st.n I0 L.fr L.st=true)
  (h0:∃ ρ0,bK t ρ ρ0 σ0∧Inv 0 ρ0)
  (hstep:∀ j ρ1 I ll,nth Is j=some I→nth lls j=some ll→Inv j ρ1→au ρ1 I.pc→∃ x,ll.ai ρ1=some x∧match x with
   | .next j' σ=>∃ ρ2,bK t ρ1 ρ2 σ∧Inv j' ρ2∧μ ρ2<μ ρ1
   | .out k σ=>bK t ρ1 ρ σ∧∃ O,nth outs k=some O∧L.res.ai ρ=some (O.ex,O.pat.fr,⟨O.pat.st.h,O.pat.st.n,L.st.pc⟩)
   | .never=>False):cK P cx ρ L:=by
 intro res hres S π0 w a ro n hh hf hr
 have hSn:∀ i,S i→i<L.st.n:=fun i hi=>Nat.lt_of_not_le fun hle=>hh.fresh i hle hi
 have cB:∀ {j ρ1 K π1 st1 w1},cu cx ρ1 K π1 st1 w1→cu (cxB j) ρ1 K π1 st1 w1:=fun {j} {_ _ _ _ _} h=>⟨h.pc,h.at_,fun g hg=>h.glob g (by rw [hng,←hngB j];exact hg),h.fresh⟩
 have hsh:∀ {j:Nat} {I:mW},nth Is j=some I→pa ng I=true∧(∀ i∈I.kn,i<L.st.n→S i)∧ng≤L.st.n∧US I.kn L.rnd=true:=by
  intro j I hI
  obtain⟨s1,s3,s4,s5,_⟩:=ax (by have:=yj hst hI;unfold E7 at this;exact this)
  refine⟨s1,fun i hi hlt=>?_,Nat.le_of_ble_eq_true s4,s5⟩
  rcases lK s3 i hi hlt with h1 | ⟨o,h1⟩
  ·exact (hh.glob i (by rw [hng];exact h1)).1
  ·exact hh.at_.dom i o h1
 -- the rounds
 have key:∀ (m j:Nat) (I:mW) (ρ1:Env) (π1:Pl) (w1:World) (a1:Act),nth Is j=some I→μ ρ1=m→Inv j ρ1→cu cx ρ1 (·∈I.kn) π1 I.st w1→db ρ1 (·∈I.kn) π1 I.fr a1→Trk L.st.n I.kn I.st.h π0 L.st.h w π1 w1→
   gU (FN ro) n P L.body (dO ρ S π0 L.st w res) a1 w1:=by
  intro m
  induction m using Nat.strongRecOn with
  | _ m ih=>
   intro j I ρ1 π1 w1 a1 hI hm hInv hh1 hf1 T1
   obtain⟨ll,hll⟩:=hlen j I hI
   obtain⟨s1,outS,hgn,s5⟩:=hsh hI
   obtain⟨x0,hx0,hcase0⟩:=hstep j ρ1 I ll hI hll hInv hh1.pc
   have hchk1:=hchk j I ll hI hll
   unfold ep at hchk1
   obtain⟨x,hx,hlike⟩:=sR (Is:=Is) (outs:=outs) (raw:=(ev (cxB j) N).code L.rnd L.body I.fr I.st) x0 hx0
   have hrnd:j4 (·∈I.kn) π1 L.rnd ro:=by
    cases hq:L.rnd with
    | none=>
     rw [hq] at hr
     cases ro with
     | none=>trivial
     | some _=>exact hr.elim
    | some l=>
     rw [hq] at hr s5
     cases ro with
     | none=>exact hr.elim
     | some r=>
      have hl:=lZ s5
      exact⟨hl,by rw [T1.base l hl (hSn l hr.1)];exact hr.2⟩
   rcases n6 hchk1 hx with rfl | ⟨e,fr,st,hraw,hleaf⟩
   ·cases x0 with
    | never=>exact hcase0.elim
    | next j σ=>exact hlike.elim
    | out k σ=>exact hlike.elim
   refine oI (wpIn_mono (hcode j ρ1 hInv L.rnd L.body I.fr I.st _ hraw _ π1 w1 a1 ro n (cB hh1) hf1 hrnd) ?_)
   rintro e' a' w' ⟨pc',π',g,hex,hfr⟩
   dsimp only at pc' g hex hfr
   have hh':=hh1.go g pc'
   cases x with
   | never=>cases x0 with
    | never=>exact hcase0.elim
    | next j σ=>exact hlike.elim
    | out k σ=>exact hlike.elim
   | next j' σ=>
    cases x0 with
    | never=>exact hcase0.elim
    | out k σ=>exact hlike.elim
    | next j0 τ=>
    obtain⟨rfl,hlike⟩:=hlike
    unfold uQ at hleaf
    dsimp only at hleaf
    split at hleaf
    rotate_left
    ·cases hleaf
    rename_i I' hI'
    split at hleaf
    rotate_left
    ·cases hleaf
    split at hleaf
    rotate_left
    ·cases hleaf
    rename_i hou'
    obtain rfl:e'=.normal:=hex
    obtain⟨ρ2,E2,hInv2,hlt⟩:=hcase0
    have E2:=E2.fP hlike
    obtain⟨s1',_,_,_⟩:=hsh hI'
    obtain⟨k1,k2⟩:=nC E2 hleaf s1' hng hgn hh' hfr
    have houter:=eG (show j5 σ L.st.n I'.kn=true from (ax (by unfold fit at hleaf;exact hleaf)).2.2.2.2.2)
    exact ih (μ ρ2) (by omega) j0 I' ρ2 _ w' a' hI' rfl hInv2 k1 k2 (T1.go g hleaf (fz hou') houter)
   | out k σ=>
    cases x0 with
    | never=>exact hcase0.elim
    | next j σ=>exact hlike.elim
    | out k0 τ=>
    obtain⟨rfl,hlike⟩:=hlike
    obtain⟨E2,O,hO,hLres⟩:=hcase0
    have E2:=E2.fP hlike
    rw [hres] at hLres
    obtain rfl:=Option.some.inj hLres
    obtain⟨o1,o2⟩:=AL hou hO
    unfold uQ at hleaf
    dsimp only at hleaf
    rw [hO] at hleaf
    dsimp only at hleaf
    split at hleaf
    rotate_left
    ·cases hleaf
    rename_i hexs
    obtain⟨rfl,hexc⟩:=D8 hexs
    have hne:O.ex≠.normal:=fun h1=>by rw [h1] at hleaf;simp at hleaf
    have hfit2:ig L.st.n I.kn O.pat.kn=true∧fit t σ L.st.n O.pat fr st=true:=by
     rcases hexc with h1 | ⟨i,h1⟩ | h1
     ·exact absurd h1 hne
     ·rw [h1] at hleaf
      dsimp only at hleaf
      split at hleaf
      ·rename_i h2
       exact⟨h2,hleaf⟩
      ·cases hleaf
     ·rw [h1] at hleaf
      dsimp only at hleaf
      split at hleaf
      ·rename_i h2
       exact⟨h2,hleaf⟩
      ·cases hleaf
    obtain⟨o3,hfit⟩:=hfit2
    have hfr':db ρ1 (Ext (·∈I.kn) I.st.n st.n) π' fr a':=by
     rcases hexc with h1 | ⟨i,h1⟩ | h1<;>rw [h1] at hfr<;>exact hfr
    obtain⟨k1,k2⟩:=nC E2 hfit o1 hng hgn hh' hfr'
    have houter:=eG (show j5 σ L.st.n O.pat.kn=true from (ax (by unfold fit at hfit;exact hfit)).2.2.2.2.2)
    have T2:=T1.go g hfit (fz o3) houter
    have hlt:=uf (ax (by unfold pa at o1;exact o1)).2.2.2.2.1
    let πX:Pl:=fun i=>if i<L.st.n then π0 i else A7 σ ρ1 π' i
    have same:∀ i∈O.pat.kn,πX i=A7 σ ρ1 π' i:=by
     intro i hi
     by_cases hlti:i<L.st.n
     ·simp only [πX,if_pos hlti,T2.base i hi hlti]
     ·simp only [πX,if_neg hlti]
    have ext:∀ i∈O.pat.kn,Ext S L.st.n O.pat.n i:=by
     intro i hi
     by_cases hlti:i<L.st.n
     ·exact .inl (outS i (fz o3 i hi hlti) hlti)
     ·exact .inr ⟨by omega,hlt i hi⟩
    have known:∀ π,bf (Ext S L.st.n O.pat.n) π πX→bf (·∈O.pat.kn) π (A7 σ ρ1 π'):=fun π hk i hi=>(hk i (ext i hi)).trans (same i hi)
    have hdom:∀ i o,O.pat.st.h.get i=some o→i∈O.pat.kn:=fun i o hi=>k1.at_.dom i o hi
    have post:dO ρ S π0 L.st w (O.ex,O.pat.fr,⟨O.pat.st.h,O.pat.st.n,L.st.pc⟩) e' a' w':=by
     refine⟨hh.pc,πX,⟨o2,fun i hi=>by simp only [πX,if_pos (hSn i hi)],⟨fun π hk=>k1.at_.rep π (known π hk),fun i o hi=>ext i (hdom i o hi)⟩,fun i o hi=>?_,T2.keep,T2.size,T2.same⟩,?_,?_⟩
     ·rw [same i (hdom i o hi)]
      exact T2.sub i o hi
     ·dsimp only
      rcases hexc with h1 | ⟨i,h1⟩ | h1<;>rw [h1] at hex ⊢<;>exact hex
     ·dsimp only
      have:db ρ (Ext S L.st.n O.pat.n) πX O.pat.fr a':=by
       obtain⟨tc,t1,t2,t3⟩:=k2
       exact⟨tc,t1,fun π hk=>t2 π (known π hk),fun π hk=>t3 π (known π hk)⟩
      rcases hexc with h1 | ⟨i,h1⟩ | h1<;>rw [h1]<;>exact this
    rcases hexc with h1 | ⟨i,h1⟩ | h1
    ·exact absurd h1 hne
    ·rw [h1] at hex
     obtain rfl:e'=.exit i:=hex
     exact post
    ·rw [h1] at hex
     obtain rfl:e'=.ret:=hex
     exact post
 -- the start
 obtain⟨ρ0,E0,hInv0⟩:=h0
 obtain⟨s1,_,hgn,_⟩:=hsh hI0
 have E0:=E0.fP (σ:=σ0) (τ:=iI I0 L.fr L.st σ0.v σ0.a) ⟨rfl,rfl⟩
 obtain⟨k1,k2⟩:=nC E0 hent s1 hng hgn hh hf
 obtain⟨_,_,f3,_,_,f6⟩:=ax (by unfold fit at hent;exact hent)
 refine key _ 0 I0 ρ0 _ w a hI0 rfl hInv0 k1 k2 ⟨fun i hi hlt=>?_,fun i o hi=>?_,fun _ _ _=>rfl,Nat.le_refl _,rfl,rfl,rfl⟩
 ·obtain⟨hu,hnm⟩:=eG f6 i hi hlt
  rw [eL hu,hnm]
 ·obtain⟨hu,q,hq,hfo⟩:=iA f3 (fE hi)
  rw [eL hu]
  exact .inr ⟨_,q,hq,rfl,fun z=>(lg hfo).trans z⟩
end
end Go.Proofs.YtmickljjofbmiaaGreatDoor
namespace Go.Proofs.YtmickljjofbmiaaGreatDoor
open Go
theorem NC{P:Program}{a b:Outcome}{wa wb:World}:∀ {n1 n2:Nat} {m m1 m2:Machine},runN P n1 m=.next m1→runN P n2 m=.next m2→step P m1=.ended a wa→step P m2=.ended b wb→m1=m2
 | 0,0,m,m1,m2,h1,h2,_,_=>by
  simp only [runN] at h1 h2
  injection h1 with h1
  injection h2 with h2
  rw [←h1,←h2]
 | 0,n2+1,m,m1,m2,h1,h2,e1,_=>by
  simp only [runN] at h1
  injection h1 with h1
  subst h1
  simp [runN,e1] at h2
 | n1+1,0,m,m1,m2,h1,h2,_,e2=>by
  simp only [runN] at h2
  injection h2 with h2
  subst h2
  simp [runN,e2] at h1
 | n1+1,n2+1,m,m1,m2,h1,h2,e1,e2=>by
  cases hs:step P m with
  | next m'=>
   simp only [runN,hs] at h1 h2
   exact NC h1 h2 e1 e2
  | _=>simp [runN,hs] at h1
theorem Qr{P:Program}{f:FuncId}{args:Array Value}{w:World}{v1 v2:Value}(hi:P.inits.idxOf? f=none)(h1:Calls P f args w fun e _=>e=.returned v1)(h2:Calls P f args w fun e _=>e=.returned v2):v1=v2:=by
 obtain⟨e1,w1,fr1,rfl,⟨n1,c1⟩,g1,l1⟩:=h1 []
 obtain⟨e2,w2,fr2,rfl,⟨n2,c2⟩,g2,l2⟩:=h2 []
 have d1:=step_leave_done l1 (by rw [g1];exact hi)
 have d2:=step_leave_done l2 (by rw [g2];exact hi)
 have e:=NC c1 c2 d1 d2
 rw [e,d2] at d1
 injection d1 with d1
 injection d1 with d1
 exact d1.symm
end Go.Proofs.YtmickljjofbmiaaGreatDoor
namespace Go.Proofs.YtmickljjofbmiaaGreatDoor
open Go
noncomputable section
def o5(pc:PC)(x y:X):Bool:=match x.beq y with
 | true=>true
 | false=>B3 100 pc (mkEq x y) true
def Mr(pc:PC):V→V→Bool
 | .int k x,.int j y=>match bE k j with
  | true=>o5 pc x y
  | false=>false
 | .bool x,.bool y=>o5 pc x y
 | _,_=>false
def ua(pc:PC):List V→List V→Bool
 | [],[]=>true
 | u::l,v::m=>match Mr pc u v with
  | true=>ua pc l m
  | false=>false
 | _,_=>false
def ve(a b:Int)(x:X):Bool:=match yx x with
 | some r=>match decide (a≤r.lo) with
  | true=>decide (r.hi≤b)
  | false=>false
 | none=>false
def ad7(pc:PC)(a b:Int)(x:X):Bool:=match ve a b x with
 | true=>true
 | false=>match B3 100 pc (.le (.lit a) x) true with
  | true=>B3 100 pc (.le x (.lit b)) true
  | false=>false
def Rk(x:X):Bool:=ve 0 4294967295 x
def Ph(x:X):Bool:=x.beq (.lit 0)
def xF(pc:PC)(ad:X)(w:Nat):Bool:=match B3 100 pc (mkEq (xM ad (.lit (.ofNat w))) (.lit 0)) true with
 | true=>B3 100 pc (mkLe (mkAdd .i64 ad (.lit (.ofNat w))) (.var 31)) true
 | false=>false
def Gs(pc:PC):List V→Bool
 | [.int .i64 (.lit (.ofNat k)),.int .u32 ad,.int .i64 (.lit (.ofNat w)),.int .u32 v,.int .i64 (.lit (.ofNat op)),.bool aq,.bool rl]=>bI (Rk ad) (Rk v) (match k with
  | 0=>bI (Nat.beq w 0) (Ph ad) (Ph v) (Nat.beq op 0) (Ph aq) (Ph rl)
  | 6=>bI (Nat.beq w 0) (Ph ad) (Nat.beq op 0) true true true
  | 1=>bI (eg w [1,2,4]) (Nat.beq op 0) (xF pc ad w) true true true
  | 2=>bI (eg w [1,2,4]) (Nat.beq op 0) (xF pc ad w) true true true
  | 3=>bI (Nat.beq w 4) (Nat.beq op 0) (xF pc ad 4) true true true
  | 4=>bI (Nat.beq w 4) (Nat.beq op 0) (xF pc ad 4) true true true
  | 5=>bI (Nat.beq w 4) (Nat.ble 50 op) (Nat.ble op 58) (xF pc ad 4) true true
  | _=>false) true true true
 | _=>false
def o7:Nat→List V→Bool
 | 0,[.int .i64 c]=>ve 0 4 c
 | n+1,.int .u32 x::l=>match Rk x with
  | true=>o7 n l
  | false=>false
 | _,_=>false
def Bo(pc:PC):List V→Bool
 | .int .i64 i::.int .u32 p::.int .u32 r::l=>bI (i.beq (.var 0)) (Rk p) (o5 pc r (.lit 0)) (o7 31 l) true true
 | _=>false
def kj:List V→X
 | []=>.lit 5
 | v::l=>match l with
  | []=>match v with
   | .int _ x=>x
   | _=>.lit 5
  | _=>kj l
def U1(k w:Nat)(b:B→List B):X:=match k with
 | 1=>.bv ((b .zero).take (8*w)) .zero
 | 3=>.bv ((b .zero).take (8*w)) .zero
 | 5=>.bv ((b .zero).take (8*w)) .zero
 | _=>.lit 0
def To(k:Nat):X:=match k with
 | 4=>.eq (.var 33) (.lit 1)
 | _=>.lit 0
def n7:List B:=[.pos 32,.pos 33,.pos 34,.pos 35,.pos 36,.pos 37,.pos 38,.pos 39,.pos 40,.pos 41,.pos 42,.pos 43,.pos 44,.pos 45,.pos 46,.pos 47,.pos 48,.pos 49,.pos 50,.pos 51,.pos 52,.pos 53,.pos 54,.pos 55,.pos 56,.pos 57,.pos 58,.pos 59,.pos 60,.pos 61,.pos 62,.pos 63]
def Ee(pc:PC)(a h:List V):List V→Bool
 | .int .u32 p::.int .u32 w::c2::c3::c4::c5::c6::c7::c8::[.int .u32 x,.bool y,.int .i64 rd,.int .u32 val,.int .i64 cs]=>bI (ua pc [c2,c3,c4,c5,c6,c7,c8] a)
  (match a with
   | .int .i64 (.lit (.ofNat k))::_::.int .i64 (.lit (.ofNat wd))::_=>bI (o5 pc x (U1 k wd fun _=>n7)) (o5 pc y (To k)) true true true true
   | _=>false)
  (o5 pc cs (kj h)) (ad7 pc 0 31 rd) (bI (Rk val) (ve 0 4 cs) true true true true) (bI (Rk p) (Rk w) (Rk x) true true true)
 | _=>false
def OL:List V→PC→Bool
 | [.tuple [.agg h',.agg c'],.tuple [.agg h,.agg c,.int .i64 (.lit (.ofNat e2))],.tuple [.agg a',.int .i64 w'],.tuple [.agg a,.int .i64 w,.int .i64 (.lit (.ofNat e1))]],pc=>
  bI (bI (Nat.beq e1 0) (Nat.beq e2 0) (o5 pc w w') true true true) (ua pc a a') (ua pc h h') (ua pc c c') (bI (Gs pc a) (Bo pc h) (Ee pc a h c) true true true) true
 | _,_=>false
def GR(f:Nat):Nat→Nat→List V→List V
 | _,0,r=>r
 | j,n+1,r=>.int .u32 (.wrap .u32 (.fn1 f (.lit (Int.ofNat j))))::GR f (j+1) n r
def uG:V:=.agg (.int .i64 (.var 0)::.int .u32 (.wrap .u32 (.var 1))::GR 0 0 32 [.int .i64 (.lit 0)])
def Jv(op:Nat):Bool:=match eg op [5,6,7,8,9,10,16,17,18,38,39] with
 | true=>false
 | false=>true
def CY(op:Nat):Bool:=match Nat.ble 28 op with
 | true=>match Nat.beq op 38 with
  | true=>false
  | false=>true
 | false=>false
def tS(op:Nat):V:=match op with
 | 0=>.tuple [.agg [.int .i64 (.lit 0),.int .i64 (.lit 0),.int .i64 (.lit 0),.int .i64 (.lit 0),.int .u32 (.lit 0),.bool (.eq (.var 25) (.lit 1)),.bool (.eq (.var 26) (.lit 1))],.bool (.lit 0)]
 | op=>.tuple [.agg [.int .i64 (.lit (.ofNat op)),.int .i64 (match Jv op with | true=>.var 21 | false=>.lit 0),.int .i64 (.var 22),.int .i64 (.var 23),.int .u32 (match CY op with | true=>.lit 0 | false=>.wrap .u32 (.var 24)),.bool (.eq (.var 25) (.lit 1)),.bool (.eq (.var 26) (.lit 1))],.bool (.lit 1)]
def oN:V:=.int .u32 (.wrap .u32 (.var 30))
def xC:V:=.int .i64 (.var 31)
def Vf:V:=.agg [.int .u32 (.bv n7 .zero),.bool (.eq (.var 33) (.lit 1))]
def pcO:PC:=[(.le (.lit 0) (.var 0),true),(.le (.var 0) (.lit 3),true),(.le (.lit 0) (.var 21),true),(.le (.var 21) (.lit 31),true),(.le (.lit 0) (.var 22),true),(.le (.var 22) (.lit 31),true),(.le (.lit 0) (.var 23),true),(.le (.var 23) (.lit 31),true),(.eq (.wrap .u32 (.fn1 0 (.lit 0))) (.lit 0),true),(.le (.lit 0) (.lit 7),true)]
end
end Go.Proofs.YtmickljjofbmiaaGreatDoor
namespace Go.Proofs.YtmickljjofbmiaaGreatDoor
open Go Go.Proofs
variable {ρ:Env} {pc:PC}
theorem jj(hp:au ρ pc){x y:X}(h:o5 pc x y=true):x.den ρ=y.den ρ:=by
 unfold o5 at h
 split at h
 ·rename_i hb
  rw [X.beq_eq hb]
 ·have:=gp hp h
  rw [eW] at this
  exact eq_of_beq this
theorem PT(hp:au ρ pc){u v:V}(h:Mr pc u v=true)(π:Pl):u.ae ρ π=v.ae ρ π:=by
 unfold Mr at h
 split at h
 ·split at h
  ·rename_i hk
   rw [aY hk]
   simp only [V.ae,jj hp h]
  ·cases h
 ·simp only [V.ae,X.tt,jj hp h]
 ·cases h
theorem pJ(hp:au ρ pc)(π:Pl):∀ {l m:List V},ua pc l m=true→V.af ρ π l=V.af ρ π m
 | [],[],_=>rfl
 | u::l,v::m,h=>by
  unfold ua at h
  split at h
  ·rename_i h1
   simp only [V.af,PT hp h1 π,pJ hp π h]
  ·cases h
 | [],_::_,h=>by simp [ua] at h
 | _::_,[],h=>by simp [ua] at h
theorem cG{a b:Int}{x:X}(h:ve a b x=true):a≤x.den ρ∧x.den ρ≤b:=by
 unfold ve at h
 split at h
 ·rename_i r hr
  have h3:=jM (ρ:=ρ) hr
  split at h
  ·rename_i h1
   have h1:=of_decide_eq_true h1
   have h2:=of_decide_eq_true h
   obtain⟨h4,h5⟩:=h3
   omega
  ·cases h
 ·cases h
theorem vI{a b:X}:(X.le a b).tt ρ=decide (a.den ρ≤b.den ρ):=by rw [X.tt,X.den,dJ]
theorem aaN(hp:au ρ pc){a b:Int}{x:X}(h:ad7 pc a b x=true):a≤x.den ρ∧x.den ρ≤b:=by
 unfold ad7 at h
 split at h
 ·rename_i h1
  exact cG h1
 ·split at h
  ·rename_i h1
   have h1:=gp hp h1
   have h2:=gp hp h
   rw [vI] at h1 h2
   exact⟨of_decide_eq_true h1,of_decide_eq_true h2⟩
  ·cases h
theorem FF{x:X}(h:Ph x=true):x.den ρ=0:=by
 rw [X.beq_eq h]
 rfl
theorem Te{w:Nat} (h:eg w [1,2,4]=true):w=1∨w=2∨w=4:=by
 have:=lZ h
 simpa using this
structure Acc where
 k:Nat
 ad:Int
 w:Nat
 v:Int
 op:Nat
 aq:Bool
 rl:Bool
def Acc.c(a:Acc):List Value:=[.int .i64 a.k,.int .u32 a.ad,.int .i64 a.w,.int .u32 a.v,.int .i64 a.op,.bool a.aq,.bool a.rl]
structure Acc.Ok (a:Acc) (size:Int):Prop where
 k:a.k≤6
 ad:0≤a.ad∧a.ad≤4294967295
 v:0≤a.v∧a.v≤4294967295
 none:a.k=0∨a.k=6→a.w=0∧a.ad=0∧a.op=0
 zero:a.k=0→a.v=0
 w:1≤a.k→a.k≤2→a.w=1∨a.w=2∨a.w=4
 w4:3≤a.k→a.k≤5→a.w=4
 at_:1≤a.k→a.k≤5→a.ad.tmod a.w=0∧a.ad+a.w≤size
 amo:a.k=5→50≤a.op∧a.op≤58
 op:a.k≠5→a.op=0
theorem Vb(hp:au ρ pc){ad:X}{w:Nat}(hw:w≤4)(ha:0≤ad.den ρ∧ad.den ρ≤4294967295)(h:xF pc ad w=true):(ad.den ρ).tmod w=0∧ad.den ρ+w≤ρ.v 31:=by
 unfold xF at h
 split at h
 ·rename_i h1
  have h1:=gp hp h1
  have h2:=gp hp h
  rw [eW,kE] at h1
  have h1:=eq_of_beq h1
  rw [X.tt,BJ,dJ,w5] at h2
  have h2:=of_decide_eq_true h2
  have e:IntKind.i64.wrap (ad.den ρ+((w:Nat):Int))=ad.den ρ+w:=bp (by simp only [j6];omega) (by simp only [lQ];omega)
  refine⟨h1,?_⟩
  rw [show (X.lit (Int.ofNat w)).den ρ=((w:Nat):Int) from rfl,e] at h2
  exact h2
 ·cases h
theorem Mx(hp:au ρ pc){l:List V}(h:Gs pc l=true):∃ a:Acc,a.Ok (ρ.v 31)∧(∀ π,V.af ρ π l=a.c)∧∃ x1 x2 x3 x4 x5,l=[.int .i64 (.lit (.ofNat a.k)),x1,.int .i64 (.lit (.ofNat a.w)),x2,x3,x4,x5]:=by
 unfold Gs at h
 split at h
 ·rename_i k ad w v op aq rl
  obtain⟨h1,h2,h3,_⟩:=ax h
  have h1:=cG (ρ:=ρ) h1
  have h2:=cG (ρ:=ρ) h2
  refine⟨⟨k,ad.den ρ,w,v.den ρ,op,aq.tt ρ,rl.tt ρ⟩,?_,fun π=>rfl,_,_,_,_,_,rfl⟩
  have go:∀ {k w op:Nat},(1≤k∧k≤5)→((k≤2→w=1∨w=2∨w=4)∧(3≤k→w=4))→((k=5→50≤op∧op≤58)∧(k≠5→op=0))→xF pc ad w=true→Acc.Ok ⟨k,ad.den ρ,w,v.den ρ,op,aq.tt ρ,rl.tt ρ⟩ (ρ.v 31):=by
   intro k w op hk hw ho ha
   have hw4:w≤4:=by
    rcases Nat.lt_or_ge k 3 with hk3 | hk3
    ·have:=hw.1 (by omega);omega
    ·have:=hw.2 hk3;omega
   exact⟨by simp only;omega,h1,h2,fun e=>by simp only at e;omega,fun e=>by simp only at e;omega,fun _ e=>hw.1 e,fun e _=>hw.2 e,fun _ _=>Vb hp hw4 h1 ha,ho.1,ho.2⟩
  split at h3
  ·obtain⟨g1,g2,g3,g4,g5,g6⟩:=ax h3
   have g1:=Nat.eq_of_beq_eq_true g1
   have g2:=FF (ρ:=ρ) g2
   have g3:=FF (ρ:=ρ) g3
   have g4:=Nat.eq_of_beq_eq_true g4
   exact⟨by simp,h1,h2,fun _=>⟨g1,g2,g4⟩,fun _=>g3,fun e=>by simp at e,fun e=>by simp at e,fun e=>by simp at e,fun e=>by simp at e,fun _=>g4⟩
  ·obtain⟨g1,g2,g3,_⟩:=ax h3
   have g1:=Nat.eq_of_beq_eq_true g1
   have g2:=FF (ρ:=ρ) g2
   have g3:=Nat.eq_of_beq_eq_true g3
   exact⟨by simp,h1,h2,fun _=>⟨g1,g2,g3⟩,fun e=>by simp at e,fun _ e=>by simp at e,fun _ e=>by simp at e,fun _ e=>by simp at e,fun e=>by simp at e,fun _=>g3⟩
  ·obtain⟨g1,g2,g3,_⟩:=ax h3
   have g1:=Te g1
   have g2:=Nat.eq_of_beq_eq_true g2
   exact go ⟨by omega,by omega⟩ ⟨fun _=>g1,fun e=>by omega⟩ ⟨fun e=>by omega,fun _=>g2⟩ g3
  ·obtain⟨g1,g2,g3,_⟩:=ax h3
   have g1:=Te g1
   have g2:=Nat.eq_of_beq_eq_true g2
   exact go ⟨by omega,by omega⟩ ⟨fun _=>g1,fun e=>by omega⟩ ⟨fun e=>by omega,fun _=>g2⟩ g3
  ·obtain⟨g1,g2,g3,_⟩:=ax h3
   obtain rfl:=Nat.eq_of_beq_eq_true g1
   have g2:=Nat.eq_of_beq_eq_true g2
   exact go ⟨by omega,by omega⟩ ⟨fun e=>by omega,fun _=>rfl⟩ ⟨fun e=>by omega,fun _=>g2⟩ g3
  ·obtain⟨g1,g2,g3,_⟩:=ax h3
   obtain rfl:=Nat.eq_of_beq_eq_true g1
   have g2:=Nat.eq_of_beq_eq_true g2
   exact go ⟨by omega,by omega⟩ ⟨fun e=>by omega,fun _=>rfl⟩ ⟨fun e=>by omega,fun _=>g2⟩ g3
  ·obtain⟨g1,g2,g3,g4,_⟩:=ax h3
   obtain rfl:=Nat.eq_of_beq_eq_true g1
   have g2:=Nat.le_of_ble_eq_true g2
   have g3:=Nat.le_of_ble_eq_true g3
   exact go ⟨by omega,by omega⟩ ⟨fun e=>by omega,fun _=>rfl⟩ ⟨fun _=>⟨g2,g3⟩,fun e=>absurd rfl e⟩ g4
  ·cases h3
 ·cases h
structure gF where
 id:Int
 pc:Int
 regs:List Int
 cause:Int
def gF.c(h:gF):List Value:=.int .i64 h.id::.int .u32 h.pc::(h.regs.map (Value.int .u32)++[.int .i64 h.cause])
structure gF.Ok (h:gF):Prop where
 id:0≤h.id∧h.id≤3
 pc:0≤h.pc∧h.pc≤4294967295
 len:h.regs.length=32
 regs:∀ z∈h.regs,0≤z∧z≤4294967295
 zero:h.regs[0]?=some 0
 cause:0≤h.cause∧h.cause≤4
theorem xz:∀ {n:Nat} {l:List V},o7 n l=true→∃ (zs:List Int) (c:Int),zs.length=n∧(∀ z∈zs,0≤z∧z≤4294967295)∧(0≤c∧c≤4)∧(kj l).den ρ=c∧(∀ v,(kj (v::l)).den ρ=c)∧∀ π,V.af ρ π l=zs.map (Value.int .u32)++[.int .i64 c]
 | 0,l,h=>by
  unfold o7 at h
  split at h
  ·rename_i c _
   exact⟨[],c.den ρ,rfl,fun z hz=>by simp at hz,cG h,rfl,fun _=>rfl,fun π=>rfl⟩
  ·rename_i e;cases e
  ·cases h
 | n+1,l,h=>by
  unfold o7 at h
  split at h
  ·rename_i e;cases e
  ·rename_i m x l' e
   cases e
   split at h
   ·rename_i hx
    obtain⟨zs,c,h1,h2,h3,h4,h5,h6⟩:=xz h
    have hx:=cG (ρ:=ρ) hx
    refine⟨x.den ρ::zs,c,by simp [h1],fun z hz=>?_,h3,h5 _,fun v=>?_,fun π=>by simp only [V.af,V.ae,h6 π,List.map_cons,List.cons_append]⟩
    ·rcases List.mem_cons.1 hz with rfl | hz
     ·exact hx
     ·exact h2 z hz
    ·show (kj (.int .u32 x::l')).den ρ=c
     exact h5 _
   ·cases h
  ·cases h
theorem G9(hp:au ρ pc)(h0:0≤ρ.v 0∧ρ.v 0≤3){l:List V}(h:Bo pc l=true):∃ k:gF,k.Ok∧k.id=ρ.v 0∧(kj l).den ρ=k.cause∧∀ π,V.af ρ π l=k.c:=by
 unfold Bo at h
 split at h
 ·rename_i i p r l
  obtain⟨h1,h2,h3,h4,_⟩:=ax h
  obtain rfl:=X.beq_eq h1
  have h2:=cG (ρ:=ρ) h2
  have h3:r.den ρ=0:=jj hp h3
  obtain⟨zs,c,g1,g2,g3,g4,g5,g6⟩:=xz (ρ:=ρ) h4
  refine⟨⟨ρ.v 0,p.den ρ,0::zs,c⟩,⟨h0,h2,by simp [g1],fun z hz=>?_,rfl,g3⟩,rfl,?_,fun π=>?_⟩
  ·rcases List.mem_cons.1 hz with rfl | hz
   ·omega
   ·exact g2 z hz
  ·have:kj (.int .i64 (.var 0)::.int .u32 p::.int .u32 r::l)=kj (.int .u32 r::l):=rfl
   rw [this]
   exact g5 _
  ·simp only [V.af,V.ae,g6 π,h3]
   rfl
 ·cases h
structure Dg where
 pc:Int
 word:Int
 x:Int
 ok:Bool
 rd:Int
 val:Int
 cause:Int
def Dg.c(c:Dg)(a:Acc):List Value:=.int .u32 c.pc::.int .u32 c.word::(a.c++[.int .u32 c.x,.bool c.ok,.int .i64 c.rd,.int .u32 c.val,.int .i64 c.cause])
def GJ(k w:Nat)(x:Int):Int:=if k=1∨k=3∨k=5 then x % 2 ^ (8*w) else 0
structure Dg.Ok (c:Dg):Prop where
 pc:0≤c.pc∧c.pc≤4294967295
 word:0≤c.word∧c.word≤4294967295
 x:0≤c.x∧c.x≤4294967295
 rd:0≤c.rd∧c.rd≤31
 val:0≤c.val∧c.val≤4294967295
 cause:0≤c.cause∧c.cause≤4
theorem ML(hp:au ρ pc){a h l:List V}{ac:Acc}(ha:∀ π,V.af ρ π a=ac.c) (has:∃ x1 x2 x3 x4 x5,a=[.int .i64 (.lit (.ofNat ac.k)),x1,.int .i64 (.lit (.ofNat ac.w)),x2,x3,x4,x5]) (hl:Ee pc a h l=true):
  ∃ c:Dg,c.Ok∧c.cause=(kj h).den ρ∧c.x=(U1 ac.k ac.w fun _=>n7).den ρ∧c.ok=(To ac.k).tt ρ∧∀ π,V.af ρ π l=c.c ac:=by
 unfold Ee at hl
 split at hl
 ·rename_i p w c2 c3 c4 c5 c6 c7 c8 x y rd val cs
  obtain⟨h1,h2,h3,h4,h5,h6⟩:=ax hl
  obtain⟨h51,h52,_⟩:=ax h5
  obtain⟨h61,h62,h63,_⟩:=ax h6
  obtain⟨x1,x2,x3,x4,x5,rfl⟩:=has
  obtain⟨h21,h22,_⟩:=ax h2
  have e1:=jj hp h21
  have e2:=jj hp h22
  have e3:=jj hp h3
  refine⟨⟨p.den ρ,w.den ρ,x.den ρ,y.tt ρ,rd.den ρ,val.den ρ,cs.den ρ⟩,⟨cG h61,cG h62,cG h63,aaN hp h4,cG h51,cG h52⟩,e3,e1,by simp only [X.tt,e2],fun π=>?_⟩
  have e:=pJ hp π h1
  rw [ha π] at e
  have e':V.af ρ π [c2,c3,c4,c5,c6,c7,c8]++V.af ρ π [.int .u32 x,.bool y,.int .i64 rd,.int .u32 val,.int .i64 cs]=ac.c++[.int .u32 (x.den ρ),.bool (y.tt ρ),.int .i64 (rd.den ρ),.int .u32 (val.den ρ),.int .i64 (cs.den ρ)]:=by
   rw [e]
   rfl
  show Value.int .u32 (p.den ρ)::Value.int .u32 (w.den ρ)::(V.af ρ π [c2,c3,c4,c5,c6,c7,c8]++V.af ρ π [.int .u32 x,.bool y,.int .i64 rd,.int .u32 val,.int .i64 cs])=_
  rw [e']
  rfl
 ·cases hl
theorem Sg(hp:au ρ pc)(h0:0≤ρ.v 0∧ρ.v 0≤3){l:List V}(h:OL l pc=true):∃ (v4 v3 v2 v1:V) (a:Acc) (k:gF) (c:Dg) (w:Int),l=[v4,v3,v2,v1]∧a.Ok (ρ.v 31)∧k.Ok∧k.id=ρ.v 0∧c.Ok∧c.cause=k.cause∧c.x=(U1 a.k a.w fun _=>n7).den ρ∧c.ok=(To a.k).tt ρ ∧
  (∀ π,v1.ae ρ π=.tuple #[.agg a.c.toArray,.int .i64 w,.int .i64 0])∧(∀ π,v2.ae ρ π=.tuple #[.agg a.c.toArray,.int .i64 w])∧(∀ π,v3.ae ρ π=.tuple #[.agg k.c.toArray,.agg (c.c a).toArray,.int .i64 0])∧∀ π,v4.ae ρ π=.tuple #[.agg k.c.toArray,.agg (c.c a).toArray]:=by
 unfold OL at h
 split at h
 ·rename_i h' c' hh cc e2 a' w' aa w e1
  obtain⟨h1,h2,h3,h4,h5,_⟩:=ax h
  obtain⟨g1,g2,g3,_⟩:=ax h1
  obtain⟨k1,k2,k3,_⟩:=ax h5
  obtain rfl:=Nat.eq_of_beq_eq_true g1
  obtain rfl:=Nat.eq_of_beq_eq_true g2
  have g3:=jj hp g3
  obtain⟨a,a1,a2,a3⟩:=Mx hp k1
  obtain⟨k,b1,b2,b3,b4⟩:=G9 hp h0 k2
  obtain⟨c,c1,c2,c3,c4,c5⟩:=ML hp a2 a3 k3
  refine⟨_,_,_,_,a,k,c,w.den ρ,rfl,a1,b1,b2,c1,c2.trans b3,c3,c4,fun π=>?_,fun π=>?_,fun π=>?_,fun π=>?_⟩
  ·simp only [V.ae,V.af,a2 π,X.den];rfl
  ·simp only [V.ae,V.af,←pJ hp π h2,a2 π,g3]
  ·simp only [V.ae,V.af,b4 π,c5 π,X.den];rfl
  ·simp only [V.ae,V.af,←pJ hp π h3,←pJ hp π h4,b4 π,c5 π]
 ·cases h
end Go.Proofs.YtmickljjofbmiaaGreatDoor
namespace Go.Proofs.YtmickljjofbmiaaGreatDoor
open Go
noncomputable section
def i64(x:X):V:=.int .i64 x
def u32(x:X):V:=.int .u32 x
def rU(x:X):X:=.wrap .u32 x
def nl(n:Nat):X:=.lit (.ofNat n)
def tb(f:Nat)(n:X)(i:Nat):X:=.fn2 f n (nl i)
def b1(x:X):V:=.bool (.eq x (.lit 1))
def W9(n:X)(k w:Nat):V:=.agg [i64 (nl k),u32 (match w with | 0=>.lit 0 | _=>rU (tb 1 n 1)),i64 (nl w),u32 (match k with | 0=>.lit 0 | _=>rU (tb 1 n 3)),i64 (match k with | 5=>tb 1 n 4 | _=>.lit 0),b1 (tb 1 n 5),b1 (tb 1 n 6)]
def ab2(n:X):List V:=[i64 (tb 1 n 0),u32 (rU (tb 1 n 1)),i64 (tb 1 n 2),u32 (rU (tb 1 n 3)),i64 (tb 1 n 4),b1 (tb 1 n 5),b1 (tb 1 n 6)]
section
variable {α:Type}
def okT(n sz:X)(w:Nat)(t nv:R α):R α:=.br (.eq (.rem (rU (tb 1 n 1)) (nl w)) (.lit 0)) (.br (.le (.add (rU (tb 1 n 1)) (nl w)) sz) (.br (.lt (rU (tb 1 n 1)) (.wrap .u32 sz)) t nv) nv) nv
def nzT(sz:X)(t nv:R α):R α:=.br (.lt (.lit 0) (.wrap .u32 sz)) t nv
def Kr(n:X)(k:Nat)(t f:R α):R α:=.br (.eq (tb 1 n 0) (nl k)) t f
def Ys(n:X)(w:Nat)(t f:R α):R α:=.br (.eq (tb 1 n 2) (nl w)) t f
def ark(n sz:X)(t nv:R α):R α:=.br (.le (.add (rU (tb 1 n 1)) (nl 1)) sz) (.br (.lt (rU (tb 1 n 1)) (.wrap .u32 sz)) t nv) nv
def wsT(n sz:X)(g:Nat→R α)(nv:R α):R α:=Ys n 1 (ark n sz (g 1) nv) (Ys n 2 (okT n sz 2 (g 2) nv) (okT n sz 4 (g 4) nv))
def rK(n sz:X)(g:Nat→Nat→R α)(nv:R α):R α:=
 Kr n 0 (nzT sz (g 0 0) nv) (Kr n 6 (nzT sz (g 6 0) nv) (Kr n 1 (wsT n sz (g 1) nv) (Kr n 2 (wsT n sz (g 2) nv) (Kr n 3 (okT n sz 4 (g 3 4) nv) (Kr n 4 (okT n sz 4 (g 4 4) nv) (okT n sz 4 (g 5 4) nv))))))
end
def lfN(v:V):R Leaf:=.ok {v:=v,objs:=[],n:=100007}
def ai3(n sz:X):R Leaf:=rK n sz (fun k w=>lfN (.tuple [W9 n k w,i64 (tb 1 n 7),i64 (.lit 0)])) (.stuck "never")
def Ak(g:Nat→X):Nat→Nat→List V→List V
 | _,0,r=>r
 | j,n+1,r=>u32 (g j)::Ak g (j+1) n r
def Ai(g:Nat→X):V:=.agg (i64 (.var 42)::Ak g 1 33 [i64 (g 34)])
def j1(f:Nat)(n:X):V:=Ai (tb f n)
def vP(f:Nat)(n:X):V:=.agg (u32 (tb f n 35)::u32 (tb f n 36)::(ab2 n++[u32 (tb f n 37),b1 (tb f n 38),i64 (tb f n 39),u32 (tb f n 40),i64 (tb f n 41)]))
def abp:V:=Ai fun _=>.lit 0
def U9:V:=Ai fun i=>.var (100+i)
def alP:X:=rU (.fn1 10 (.lit 0))
def alA:X:=rU (.fn1 10 (rU (.quo (.var 101) (.lit 4))))
def aa4(t:Nat)(a:X):X:=.wrap .u8 (.fn1 t a)
def YK(n:X):X:=rU (tb 1 n 1)
def adI(n:X)(i:Nat):X:=match i with
 | 0=>YK n
 | i=>.add (YK n) (nl i)
def ldP(t:Nat)(n:X):Nat→X
 | 0=>.lit 0
 | i+1=>.bits 1 .u32 (ldP t n i) (.mul (aa4 t (adI n i)) (nl (256 ^ i)))
def agW:V:=.agg [u32 (.lit 0),.bool (.lit 0)]
def ab5(x:X):V:=.agg [u32 x,.bool (.lit 0)]
def aqW(at_ n:X):V:=.agg [u32 (.lit 0),.bool (.eq at_ (YK n))]
end
end Go.Proofs.YtmickljjofbmiaaGreatDoor
namespace Go.Proofs.YtmickljjofbmiaaGreatDoor
open Go
noncomputable section
def hvL(o:Nat)(g:Nat→X):Nat→Nat→List (Nat×X)
 | _,0=>[]
 | j,n+1=>(o+j,g j)::hvL o g (j+1) n
def hv(o:Nat)(g:Nat→X):List (Nat×X):=hvL o g 1 34
def xG:List CK:=[.int .u32,.int .u32,.int .i64,.int .u32,.int .i64,.int .u32,.int .i64,.bool,.bool,.int .u32,.bool,.int .i64,.int .u32,.int .i64]
def lN(i:X):Nat→List X→A→A
 | _,[],a=>a
 | c,x::l,a=>lN i (c+1) l (.put a i c x)
def yn(b:Nat)(n:X):List X:=[tb b n 35,tb b n 36,tb 1 n 0,rU (tb 1 n 1),tb 1 n 2,rU (tb 1 n 3),tb 1 n 4,.eq (tb 1 n 5) (.lit 1),.eq (tb 1 n 6) (.lit 1),tb b n 37,.eq (tb b n 38) (.lit 1),tb b n 39,tb b n 40,tb b n 41]
def Jb(pc:X):List X:=pc::[.lit 0,.lit 0,.lit 0,.lit 0,.lit 0,.lit 0,.lit 0,.lit 0,.lit 0,.lit 0,.lit 0,.lit 0,.lit 4]
def F3(v:X)(i:Nat):X:=match i with
 | 3=>.quo v (nl (256 ^ 3))
 | i=>.wrap .u8 (.quo v (nl (256 ^ i)))
def Yb(f:X→Nat→X)(n v:X):Nat→Nat→A→A
 | _,0,a=>a
 | i,k+1,a=>Yb f n v (i+1) k (.put a (adI n i) 0 (f v i))
structure RdX where
 n:X
 n1:X
 res:X
 at_:X
 mem:A
 row:A
structure EndX where
 b:Nat
 mem:A
 res:X
 at_:X
def vX(r:RdX):X:=rU (tb 1 r.n 3)
def Um{α:Type}(f:X→Nat→X)(v2:Nat)(r:RdX)(g:EndX→R α)(sc:R α)(k w:Nat):R α:=match k with
 | 1=>g ⟨match w with | 1=>11 | 2=>12 | _=>13,r.mem,r.res,r.at_⟩
 | 2=>g ⟨10,Yb f r.n (vX r) 0 w r.mem,r.res,r.at_⟩
 | 3=>g ⟨13,r.mem,.lit 1,YK r.n⟩
 | 4=>sc
 | 5=>g ⟨13,Yb f r.n (rU (tb 2 r.n v2)) 0 4 r.mem,r.res,r.at_⟩
 | _=>g ⟨10,r.mem,r.res,r.at_⟩
def scT{α:Type}(f:X→Nat→X)(r:RdX)(g:EndX→R α):R α:=
 .br r.res (.br (.eq r.at_ (YK r.n)) (g ⟨14,Yb f r.n (vX r) 0 4 r.mem,.lit 0,r.at_⟩) (g ⟨14,r.mem,.lit 0,r.at_⟩)) (g ⟨10,r.mem,.lit 0,r.at_⟩)
def sc0{α:Type}(r:RdX)(g:EndX→R α):R α:=g ⟨10,r.mem,.lit 0,r.at_⟩
def rd0(mem:A):RdX:=⟨.lit 0,.lit 1,.lit 0,.lit 0,mem,.fill (.lit 0)⟩
def rd1(mem row:A):RdX:=⟨.var 100,.add (.var 100) (.lit 1),.var 140,.var 141,mem,row⟩
def abe(r:RdX)(e:EndX):LM:=.next 1 (B4 ((100,r.n1)::(140,e.res)::(141,e.at_)::hv 100 (tb e.b r.n)) [(30,([.int .u8],e.mem)),(31,(xG,lN r.n 0 (yn e.b r.n) r.row))])
def akD(r:RdX)(e:EndX):LM:=.out 1 (B4 ((60,r.n1)::(540,e.res)::(541,e.at_)::hv 500 (tb e.b r.n)) [(50,([.int .u8],e.mem)),(60,(xG,lN r.n 0 (yn e.b r.n) r.row))])
def Fb(r:RdX)(e:EndX):R LM:=.br (.eq (tb e.b r.n 41) (.lit 0)) (.ok (abe r e)) (.ok (akD r e))
def aah(r:RdX):LM:=.out 1 (B4 ((60,r.n1)::(534,.lit 4)::(540,r.res)::(541,r.at_)::hvL 500 (fun i=>.var (100+i)) 1 33) [(50,([.int .u8],r.mem)),(60,(xG,lN r.n 0 (Jb (.var 101)) r.row))])
def abw:LM:=.out 0 (B4 ((60,.var 100)::(540,.var 140)::(541,.var 141)::hv 500 (fun i=>.var (100+i))) [(50,([.int .u8],.base 30)),(60,(xG,.base 31))])
def Vj:R LM:=rK (.lit 0) (.var 50) (Um F3 0 (rd0 (.base 20)) (Fb (rd0 (.base 20))) (sc0 (rd0 (.base 20)) (Fb (rd0 (.base 20))))) (.ok .never)
def Z8{α:Type}(t f:R α):R α:=.br (.eq (.rem (.var 101) (.lit 4)) (.lit 0)) (.br (.lt (rU (.quo (.var 101) (.lit 4))) (.var 40)) t f) f
def Mb:R LM:=match rd1 (.base 30) (.base 31) with
 | r=>.br (.lt (.var 100) (.var 43)) (.br (.eq (.var 134) (.lit 0)) (Z8 (rK (.var 100) (.var 50) (Um F3 0 r (Fb r) (scT F3 r (Fb r))) (.ok .never)) (.ok (aah r))) (.ok .never)) (.ok abw)
def Nw(pc:PC):PC→Bool
 | []=>true
 | (x,b)::l=>match Sw pc x b with
  | true=>Nw pc l
  | false=>false
def xZ(g:PC) (s:List V→St→R (V×St)) (args:List V) (st:St):R (V×St):=match Nw st.pc g with
 | true=>s args st
 | false=>.stuck "told: facts"
structure RowX where
 h:V
 w:X
 n:X
 t:Nat
 at_:X
 g:PC
def Pu:V:=.int .i64 (.var 50)
def okE(b:Nat)(n:X):R Leaf:=lfN (.tuple [j1 b n,vP b n,i64 (.lit 0)])
def MZ(r:RowX)(ld:Nat→X)(f:Nat→X→R Leaf):List (List V×R Leaf):=
 [([r.h,u32 r.w,Pu,agW],f 10 r.n),([r.h,u32 r.w,Pu,ab5 (ld 1)],f 11 r.n),([r.h,u32 r.w,Pu,ab5 (ld 2)],f 12 r.n),([r.h,u32 r.w,Pu,ab5 (ld 4)],f 13 r.n),([r.h,u32 r.w,Pu,aqW r.at_ r.n],f 14 r.n)]
def LJ(r:RowX)(f:X→X→R Leaf):List (List V×R Leaf):=[([r.h,u32 r.w,Pu],f r.n (.var 50))]
def VZ(r:RowX)(ld:X)(t:R Leaf):List (List V×R Leaf):=[([i64 (tb 1 r.n 4),u32 ld,u32 (rU (tb 1 r.n 3))],t)]
def Ia(t:Nat):RowX:=⟨abp,alP,.lit 0,t,.lit 0,[]⟩
def GW(t:Nat):RowX:=⟨U9,alA,.var 100,t,.var 141,[(.eq (.var 134) (.lit 0),true)]⟩
abbrev SmX:=List (FuncId×(List V→St→R (V×St)))
def smP(fa fc fm:Nat) (L:List (Nat×List V)) (r:RowX):SmX:=[(fa,xZ r.g (bW L 7 (LJ r ai3))),(fc,xZ r.g (bW L 7 (MZ r (ldP r.t r.n) okE))),(fm,xZ r.g (bW L 7 (VZ r (ldP r.t r.n 4) (lfN (.tuple [u32 (rU (tb 2 r.n 0)),i64 (tb 2 r.n 1)])))))]
end
end Go.Proofs.YtmickljjofbmiaaGreatDoor
namespace Go.Proofs.YtmickljjofbmiaaGreatDoor
open Go Go.Proofs
section
variable {P:Program} {cx:Cx} {ρ:Env} {f:FuncId}
theorem KB{pc:PC}(hp:au ρ pc):∀ {g:PC},Nw pc g=true→au ρ g
 | [],_=>fun f hf=>by cases hf
 | (x,b)::l,h=>by
  unfold Nw at h
  split at h
  ·rename_i h1
   intro f hf
   rcases List.mem_cons.1 hf with rfl | hf
   ·exact Oi hp h1
   ·exact KB hp h f hf
  ·cases h
theorem V8{g:PC} {s:List V→St→R (V×St)} (h:au ρ g→ct P cx ρ f s):ct P cx ρ f (xZ g s):=by
 intro args st v st' hs S π0 w ac n hh ha
 unfold xZ at hs
 split at hs
 ·rename_i hg
  exact h (KB hh.pc hg) args st v st' hs S π0 w ac n hh ha
 ·simp [R.ai] at hs
end
def bt(m:Int→Int)(a:Int):Int:=IntKind.u8.wrap (m a)
def ld(m:Int→Int)(a:Int):Nat→Int
 | 0=>0
 | w+1=>bt m a+256*ld m (a+1) w
def Rj(m:Int→Int)(a:Int)(w:Nat)(v:Int)(j:Int):Int:=if a≤j∧j<a+w then v / 256 ^ (j-a).toNat % 256 else m j
theorem u8_in(z:Int):0≤IntKind.u8.wrap z∧IntKind.u8.wrap z≤255:=by
 simp [IntKind.wrap,IntKind.bits,IntKind.signed]
 omega
theorem Wh(z:Int):IntKind.u8.wrap z=z % 256:=rfl
theorem Oj(m:Int→Int):∀ (w:Nat) (a:Int),0≤ld m a w∧ld m a w<256 ^ w
 | 0,a=>by simp [ld]
 | w+1,a=>by
  obtain⟨h1,h2⟩:=Oj m w (a+1)
  obtain⟨h3,h4⟩:=u8_in (m a)
  rw [ld,Int.pow_succ]
  unfold bt
  omega
def gF.cell(h:gF):Nat→Int
 | 0=>h.id
 | 1=>h.pc
 | i+2=>if i<32 then (h.regs[i]?).getD 0 else h.cause
def Acc.cell(a:Acc):Nat→Int
 | 0=>a.k
 | 1=>a.ad
 | 2=>a.w
 | 3=>a.v
 | 4=>a.op
 | 5=>bc a.aq
 | _=>bc a.rl
def Dg.cell(c:Dg):Nat→Int
 | 0=>c.pc
 | 1=>c.word
 | 2=>c.x
 | 3=>bc c.ok
 | 4=>c.rd
 | 5=>c.val
 | _=>c.cause
def Ab(a:Acc)(c:Dg)(j:Nat):Int:=if j<2 then c.cell j else if j<9 then a.cell (j-2) else c.cell (j-7)
section
variable {ρ:Env}
theorem kY(n:Nat):(nl n).den ρ=n:=rfl
theorem a9{n:X}{k:Int}(hn:n.den ρ=k)(f i:Nat):(tb f n i).den ρ=ρ.f2 f k i:=by
 unfold tb
 simp only [X.den,kY,hn]
theorem Iz{x:X}{b:Bool}(hx:x.den ρ=bc b):(X.eq x (.lit 1)).tt ρ=b:=by
 rw [cD,hx]
 cases b<;>rfl
theorem aba{x:X}{k:Nat}{j:Nat} (hx:x.den ρ=(k:Int)):(X.eq x (nl j)).tt ρ=decide (k=j):=by
 rw [cD,hx,kY]
 by_cases h:k=j
 ·simp [h]
 ·rw [decide_eq_false h]
  exact beq_eq_false_iff_ne.2 (by omega)
theorem vG(π:Pl)(g:Nat→X)(r:List V):∀ (n j:Nat),V.af ρ π (Ak g j n r)=((List.range' j n).map fun i=>Value.int .u32 ((g i).den ρ))++V.af ρ π r
 | 0,j=>rfl
 | n+1,j=>by
  rw [Ak,List.range'_succ,List.map_cons,List.cons_append,←vG π g r n (j+1)]
  rfl
theorem gF.Zz{h:gF}(hk:h.Ok):h.c=.int .i64 h.id::(((List.range' 1 33).map fun i=>Value.int .u32 (h.cell i))++[.int .i64 (h.cell 34)]):=by
 unfold gF.c
 have e:(List.range' 1 33).map (fun i=>Value.int .u32 (h.cell i))=.int .u32 h.pc::h.regs.map (Value.int .u32):=by
  rw [List.range'_succ,List.map_cons]
  congr 1
  refine List.ext_getElem (by simp [hk.len]) fun i h1 h2=>?_
  simp only [List.getElem_map,List.getElem_range']
  simp only [List.length_map] at h2
  have:1+1+1*i=i+2:=by omega
  rw [this]
  show Value.int .u32 (if i<32 then (h.regs[i]?).getD 0 else h.cause)=_
  rw [if_pos (by rw [hk.len] at h2;exact h2),List.getElem?_eq_getElem h2]
  rfl
 rw [e]
 rfl
theorem ly{g:Nat→X}{h:gF}(hk:h.Ok)(hid:ρ.v 42=h.id) (hg:∀ i,1≤i→i≤34→(g i).den ρ=h.cell i) (π:Pl):(Ai g).ae ρ π=.agg h.c.toArray:=by
 unfold Ai
 rw [gF.Zz hk]
 simp only [V.ae,V.af,i64,vG]
 rw [show (X.var 42).den ρ=h.id from hid,hg 34 (by omega) (by omega)]
 have e:(List.range' 1 33).map (fun i=>Value.int .u32 ((g i).den ρ))=(List.range' 1 33).map fun i=>Value.int .u32 (h.cell i):=by
  refine List.map_congr_left fun i hi=>?_
  obtain⟨j,h1,h2⟩:=List.mem_range'.1 hi
  rw [hg i (by omega) (by omega)]
 rw [e]
theorem PO{n:X}{k:Int}(hn:n.den ρ=k){a:Acc}(had:0≤a.ad∧a.ad≤4294967295)(hv:0≤a.v∧a.v≤4294967295)(ht:∀ i:Nat,i<7→ρ.f2 1 k i=a.cell i)(π:Pl):V.af ρ π (ab2 n)=a.c:=by
 have w:∀ {z:Int},0≤z∧z≤4294967295→IntKind.u32.wrap z=z:=fun h=>bp (by simp only [j6];omega) (by simp only [lQ];omega)
 have e5:(X.eq (tb 1 n 5) (.lit 1)).tt ρ=a.aq:=Iz ((a9 hn 1 5).trans (ht 5 (by omega)))
 have e6:(X.eq (tb 1 n 6) (.lit 1)).tt ρ=a.rl:=Iz ((a9 hn 1 6).trans (ht 6 (by omega)))
 simp only [ab2,V.af,V.ae,i64,u32,b1,rU,X.den,e5,e6,a9 hn,ht 0 (by omega),ht 1 (by omega),ht 2 (by omega),ht 3 (by omega),ht 4 (by omega)]
 simp only [Acc.cell,w had,w hv,Acc.c]
theorem D7{n:X}{k:Int}(hn:n.den ρ=k){a:Acc}(had:0≤a.ad∧a.ad≤4294967295)(hv:0≤a.v∧a.v≤4294967295)(ht:∀ i:Nat,i<7→ρ.f2 1 k i=a.cell i){b:Nat}{c:Dg} (hc:∀ i:Nat,i<7→ρ.f2 b k (35+i:Nat)=c.cell i) (π:Pl):(vP b n).ae ρ π=.agg (c.c a).toArray:=by
 have e3:(X.eq (tb b n 38) (.lit 1)).tt ρ=c.ok:=Iz ((a9 hn b 38).trans (hc 3 (by omega)))
 have h0:ρ.f2 b k (35:Nat)=c.pc:=hc 0 (by omega)
 have h1:ρ.f2 b k (36:Nat)=c.word:=hc 1 (by omega)
 have h2:ρ.f2 b k (37:Nat)=c.x:=hc 2 (by omega)
 have h4:ρ.f2 b k (39:Nat)=c.rd:=hc 4 (by omega)
 have h5:ρ.f2 b k (40:Nat)=c.val:=hc 5 (by omega)
 have h6:ρ.f2 b k (41:Nat)=c.cause:=hc 6 (by omega)
 unfold vP Dg.c
 simp only [V.ae,V.af,bU,PO hn had hv ht π,i64,u32,b1,e3,a9 hn,h0,h1,h2,h4,h5,h6]
section
variable {α:Type} {n sz:X} {k:Int} {a:Acc}
theorem VQ{q:Nat}{t f:R α} (h:(tb 1 n 0).den ρ=a.k):(Kr n q t f).ai ρ=if a.k=q then t.ai ρ else f.ai ρ:=by
 have:(Kr n q t f).ai ρ=if (X.eq (tb 1 n 0) (nl q)).tt ρ then t.ai ρ else f.ai ρ:=rfl
 rw [this,aba h]
 by_cases e:a.k=q<;>simp [e]
theorem IY{q:Nat}{t f:R α} (h:(tb 1 n 2).den ρ=a.w):(Ys n q t f).ai ρ=if a.w=q then t.ai ρ else f.ai ρ:=by
 have:(Ys n q t f).ai ρ=if (X.eq (tb 1 n 2) (nl q)).tt ρ then t.ai ρ else f.ai ρ:=rfl
 rw [this,aba h]
 by_cases e:a.w=q<;>simp [e]
theorem gi{c:X}{t f:R α}(h:c.tt ρ=true):(R.br c t f).ai ρ=t.ai ρ:=by
 rw [R.ai,if_pos h]
theorem fR{c:X}{t f:R α}(h:c.tt ρ=false):(R.br c t f).ai ρ=f.ai ρ:=by
 rw [R.ai,if_neg (by rw [h];decide)]
theorem cO{x:X}{z:Int}(h:x.den ρ=z)(hz:0≤z∧z≤4294967295):(rU x).den ρ=z:=by
 unfold rU
 rw [X.den,h]
 exact bp (by simp only [j6];omega) (by simp only [lQ];omega)
theorem lj{a b:X}:(X.lt a b).tt ρ=decide (a.den ρ<b.den ρ):=by rw [X.tt,X.den,dJ]
theorem Kd{size:Int} (h1:(tb 1 n 1).den ρ=a.ad) (had:0≤a.ad∧a.ad≤4294967295) (hs:sz.den ρ=size) (hsz:16≤size∧size≤4096) {w:Nat} (hw:1≤w) (hr:a.ad+w≤size) {t nv:R α}:(R.br (.le (.add (rU (tb 1 n 1)) (nl w)) sz) (.br (.lt (rU (tb 1 n 1)) (.wrap .u32 sz)) t nv) nv).ai ρ=t.ai ρ:=by
 have e1:=cO h1 had
 have e2:(X.wrap .u32 sz).den ρ=size:=by
  rw [X.den,hs]
  exact bp (by simp only [j6];omega) (by simp only [lQ];omega)
 rw [gi (by rw [vI];simp only [X.den,e1,kY,hs];exact decide_eq_true hr),gi (by rw [lj,e1,e2];exact decide_eq_true (by omega))]
theorem EV{size:Int} (h1:(tb 1 n 1).den ρ=a.ad) (had:0≤a.ad∧a.ad≤4294967295) (hs:sz.den ρ=size) (hsz:16≤size∧size≤4096) {w:Nat} (hw:1≤w) (hm:a.ad.tmod w=0) (hr:a.ad+w≤size) {t nv:R α}:(okT n sz w t nv).ai ρ=t.ai ρ:=by
 unfold okT
 rw [gi (by rw [cD];simp only [X.den,cO h1 had,kY,hm];rfl),Kd h1 had hs hsz hw hr]
theorem wC{size:Int}(ha:a.Ok size) (h0:(tb 1 n 0).den ρ=a.k) (h1:(tb 1 n 1).den ρ=a.ad) (h2:(tb 1 n 2).den ρ=a.w) (hs:sz.den ρ=size) (hsz:16≤size∧size≤4096) {g:Nat→Nat→R α} {nv:R α}:(rK n sz g nv).ai ρ=(g a.k a.w).ai ρ:=by
 have nz:∀ {t:R α},(nzT sz t nv).ai ρ=t.ai ρ:=by
  intro t
  unfold nzT
  refine gi ?_
  rw [lj,X.den,X.den,hs,show IntKind.u32.wrap size=size from bp (by simp only [j6];omega) (by simp only [lQ];omega)]
  exact decide_eq_true (by omega)
 have ws:∀ {g:Nat→R α},1≤a.k→a.k≤2→(wsT n sz g nv).ai ρ=(g a.w).ai ρ:=by
  intro g hk1 hk2
  obtain⟨m,r⟩:=ha.at_ hk1 (by omega)
  unfold wsT
  rw [IY h2,IY h2]
  rcases ha.w hk1 hk2 with e | e | e
  ·rw [if_pos e,e]
   rw [e] at r
   exact Kd h1 ha.ad hs hsz (by omega) r
  ·rw [if_neg (by omega),if_pos e,e]
   rw [e] at r m
   exact EV h1 ha.ad hs hsz (by omega) m r
  ·rw [if_neg (by omega),if_neg (by omega),e]
   rw [e] at r m
   exact EV h1 ha.ad hs hsz (by omega) m r
 have four:∀ {t:R α},3≤a.k→a.k≤5→(okT n sz 4 t nv).ai ρ=t.ai ρ:=by
  intro t h3 h5
  obtain⟨m,r⟩:=ha.at_ (by omega) h5
  have e:=ha.w4 h3 h5
  rw [e] at r m
  exact EV h1 ha.ad hs hsz (by omega) m r
 have hk:=ha.k
 unfold rK
 simp only [VQ h0]
 by_cases k0:a.k=0
 ·rw [if_pos k0,nz,k0,(ha.none (.inl k0)).1]
 rw [if_neg k0]
 by_cases k6:a.k=6
 ·rw [if_pos k6,nz,k6,(ha.none (.inr k6)).1]
 rw [if_neg k6]
 by_cases k1:a.k=1
 ·rw [if_pos k1,ws (by omega) (by omega),k1]
 rw [if_neg k1]
 by_cases k2:a.k=2
 ·rw [if_pos k2,ws (by omega) (by omega),k2]
 rw [if_neg k2]
 by_cases k3:a.k=3
 ·rw [if_pos k3,four (by omega) (by omega),k3,ha.w4 (by omega) (by omega)]
 rw [if_neg k3]
 by_cases k4:a.k=4
 ·rw [if_pos k4,four (by omega) (by omega),k4,ha.w4 (by omega) (by omega)]
 rw [if_neg k4]
 have k5:a.k=5:=by omega
 rw [four (by omega) (by omega),k5,ha.w4 (by omega) (by omega)]
end
theorem Nh{n:X}{k:Int}(hn:n.den ρ=k){a:Int}(ha:ρ.f2 1 k 1=a)(hz:0≤a∧a≤4294967295)(i:Nat):(adI n i).den ρ=a+i:=by
 have e:(YK n).den ρ=a:=cO ((a9 hn 1 1).trans ha) hz
 unfold adI
 split
 ·rw [e];simp
 ·rw [X.den,e,kY]
theorem xo:∀ i:Nat,((256 ^ i:Nat):Int)=256 ^ i
 | 0=>rfl
 | i+1=>by rw [Nat.pow_succ,Int.pow_succ,Int.natCast_mul,xo i];rfl
theorem WC(i:Nat):2 ^ (8*i)=256 ^ i:=Nat.pow_mul 2 8 i
theorem Wt{x y:Int}(i:Nat)(hx:0≤x∧x<256 ^ i)(hy:0≤y∧y<256)(hi:i<4):gR 1 .u32 x (y*256 ^ i)=x+y*256 ^ i:=by
 obtain⟨x,rfl⟩:=Int.eq_ofNat_of_zero_le hx.1
 obtain⟨y,rfl⟩:=Int.eq_ofNat_of_zero_le hy.1
 have h1:x<2 ^ (8*i):=by
  have h:=hx.2
  rw [←xo] at h
  rw [WC]
  exact Int.ofNat_lt.1 h
 have hy':y<256:=by omega
 have e1:(y:Int)*256 ^ i=((y <<< (8*i):Nat):Int):=by
  rw [Nat.shiftLeft_eq,WC,Int.natCast_mul,xo]
 have hlt:x+y <<< (8*i)<2 ^ 32:=by
  rw [Nat.shiftLeft_eq]
  have hp:2 ^ (8*i)*256≤2 ^ 32:=by
   rw [show (256:Nat)=2 ^ 8 from rfl,←Nat.pow_add]
   exact Nat.pow_le_pow_right (by omega) (by omega)
  have:y*2 ^ (8*i)≤255*2 ^ (8*i):=Nat.mul_le_mul_right _ (by omega)
  omega
 rw [e1]
 unfold gR
 have b:∀ z:Nat,z<2 ^ 32→(BitVec.ofInt 32 (z:Int)).toNat=z:=by
  intro z hz
  rw [BitVec.toNat_ofInt]
  omega
 show IntKind.u32.wrap ((BitVec.ofInt 32 (x:Int) ||| BitVec.ofInt 32 ((y <<< (8*i):Nat):Int)).toNat:Int)=_
 rw [BitVec.toNat_or,b x (Nat.lt_of_le_of_lt (Nat.le_add_right _ _) hlt),b _ (Nat.lt_of_le_of_lt (Nat.le_add_left _ _) hlt)]
 have e2:x ||| y <<< (8*i)=x+y <<< (8*i):=by
  rw [Nat.or_comm,Nat.add_comm,←Nat.shiftLeft_add_eq_or_of_lt h1]
 rw [e2]
 exact bp (by simp only [j6];omega) (by simp only [lQ];omega)
theorem Pk(m:Int→Int):∀ (w:Nat) (a:Int),ld m a (w+1)=ld m a w+bt m (a+w)*256 ^ w
 | 0,a=>by simp [ld]
 | w+1,a=>by
  rw [ld,Pk m w (a+1),ld,Int.pow_succ,show a+1+(w:Int)=a+((w+1:Nat):Int) by omega]
  rw [Int.mul_add,←Int.mul_assoc,Int.mul_comm 256 (bt m _),Int.mul_assoc,Int.mul_comm 256 (256 ^ w)]
  omega
theorem Gq{n:X}{k:Int}(hn:n.den ρ=k){a:Int}(ha:ρ.f2 1 k 1=a)(hz:0≤a∧a≤4294967295){t:Nat}{m:Int→Int}(hm:ρ.f1 t=m):∀ {w:Nat},w≤4→(ldP t n w).den ρ=ld m a w
 | 0,_=>rfl
 | w+1,hw=>by
  rw [Pk,ldP,X.den,Gq hn ha hz hm (by omega),X.den,kY,aa4,X.den,X.den,Nh hn ha hz,hm]
  have:=u8_in (m (a+w))
  rw [xo]
  exact Wt w (Oj m w a) ⟨this.1,by omega⟩ (by omega)
theorem AD{v:X}{z:Int}(hv:v.den ρ=z)(hz:0≤z∧z≤4294967295){i:Nat}(hi:i<4):(F3 v i).den ρ=z / 256 ^ i % 256:=by
 have h4:(0:Int)≤z:=hz.1
 obtain rfl | rfl | rfl | rfl:i=0∨i=1∨i=2∨i=3:=by omega
 ·simp only [F3,X.den,hv,kY,Wh]
  rw [Int.tdiv_eq_ediv_of_nonneg h4];rfl
 ·simp only [F3,X.den,hv,kY,Wh]
  rw [Int.tdiv_eq_ediv_of_nonneg h4];rfl
 ·simp only [F3,X.den,hv,kY,Wh]
  rw [Int.tdiv_eq_ediv_of_nonneg h4];rfl
 ·simp only [F3,X.den,hv,kY]
  rw [Int.tdiv_eq_ediv_of_nonneg h4]
  show z / 16777216=z / 16777216 % 256
  omega
def rN(ρ:Env)(x:A)(m:Int→Int):Prop:=∀ j:Int,IntKind.u8.wrap (A.den ρ (.int .u8) 0 j x)=IntKind.u8.wrap (m j)
theorem uL{t:Nat}{m:Int→Int}(h:ρ.f1 t=m):rN ρ (.base t) m:=fun j=>by
 show IntKind.u8.wrap (IntKind.u8.wrap (ρ.f1 (t+0) j))=_
 rw [Nat.add_zero,h]
 have:=u8_in (m j)
 exact bp (by simp only [j6];omega) (by simp only [lQ];omega)
theorem OU{f:X→Nat→X}{n:X}{k:Int}(hn:n.den ρ=k){a:Int}(ha:ρ.f2 1 k 1=a)(hz:0≤a∧a≤4294967295){v:X}{z:Int} (hf:∀ i,i<4→(f v i).den ρ=z / 256 ^ i % 256) {m0:Int→Int}:
  ∀ (w i:Nat) (x:A) (m:Int→Int),i+w≤4→rN ρ x m→(∀ j,m j=Rj m0 a i z j)→∃ m',rN ρ (Yb f n v i w x) m'∧∀ j,m' j=Rj m0 a (i+w) z j
 | 0,i,x,m,_,hx,hm=>⟨m,hx,hm⟩
 | w+1,i,x,m,hi,hx,hm=>by
  have:=OU hn ha hz hf (m0:=m0) w (i+1) (.put x (adI n i) 0 (f v i)) (Rj m0 a (i+1) z) (by omega) (fun j=>?_) (fun j=>rfl)
  ·rw [show i+(w+1)=i+1+w by omega]
   exact this
  ·have e:A.den ρ (.int .u8) 0 j (.put x (adI n i) 0 (f v i))=if (0:Nat)=0∧j=a+i then z / 256 ^ i % 256 else A.den ρ (.int .u8) 0 j x:=by
    rw [A.den,Nh hn ha hz,hf i (by omega)]
   rw [e]
   by_cases hj:j=a+i
   ·rw [if_pos ⟨rfl,hj⟩]
    unfold Rj
    rw [if_pos (by omega),hj,show (a+(i:Int)-a).toNat=i by omega]
   ·rw [if_neg (fun h=>hj h.2),hx j,hm j]
    unfold Rj
    by_cases h1:a≤j∧j<a+i
    ·rw [if_pos h1,if_pos (by omega)]
    ·rw [if_neg h1,if_neg (by omega)]
theorem acJ{f:X→Nat→X}{n:X}{k:Int}(hn:n.den ρ=k){a:Int}(ha:ρ.f2 1 k 1=a)(hz:0≤a∧a≤4294967295){v:X}{z:Int} (hf:∀ i,i<4→(f v i).den ρ=z / 256 ^ i % 256) {x:A} {m:Int→Int} (hx:rN ρ x m) {w:Nat} (hw:w≤4):rN ρ (Yb f n v 0 w x) (Rj m a w z):=by
 obtain⟨m',h1,h2⟩:=OU hn ha hz hf (m0:=m) w 0 x m (by omega) hx (fun j=>by unfold Rj;rw [if_neg (by omega)])
 rw [Nat.zero_add] at h2
 rwa [funext h2] at h1
end
end Go.Proofs.YtmickljjofbmiaaGreatDoor
