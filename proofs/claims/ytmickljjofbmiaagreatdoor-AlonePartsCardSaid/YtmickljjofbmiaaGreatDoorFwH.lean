/- Symbolic execution: loops of any number of rounds: shapes, and how a state fits one (plain functions). Symbolic execution: loops of any number of rounds: what fits a shape is it. Symbolic execution: a loop of any number of rounds does what is told of it. Symbolic execution: calls over rows and structures, run by themselves (plain functions). Symbolic execution: a call over rows and structures that was run by itself, told where it is made. Symbolic execution: a run over rows that came in. Symbolic execution: rows that came in: what the law's run has of them. Several calls, each from the start with what was known behind the one before: what they leave is looked at together. Symbolic execution: calls that are told by symbols. Symbolic execution: loops whose head has several shapes (plain functions). Symbolic execution: a loop whose head has several shapes is told by its rounds. Alone: how the answers of the four calls of one instruction are looked at (plain functions). Alone: what the look at four answers tells. Alone: what is told of the calls of a round (plain functions). Alone: what rounds end in (plain functions). Alone: what a round's trees and rows stand for. No condition. -/
import Derived.Test.YtmickljjofbmiaaGreatDoorFwC
import Derived.Test.YtmickljjofbmiaaGreatDoorFwG
import Derived.Test.YtmickljjofbmiaaGreatDoorSeX
import Derived.Test.YtmickljjofbmiaaGreatDoorFwF
import Derived.Test.YtmickljjofbmiaaGreatDoorFwU
import Derived.Calls
namespace Go.Proofs.YtmickljjofbmiaaGreatDoor
open Go
noncomputable section
def SL{α:Type}(f:α→α→Bool):Option α→Option α→Bool
 | none,_=>true
 | some a,some b=>f a b
 | some _,none=>false
def T.sub{α:Type}(f:α→α→Bool):T α→T α→Bool
 | .nil,_=>true
 | .node l v r,.nil=>bM (SL f v none) (T.sub f l .nil) (T.sub f r .nil) true true true
 | .node l v r,.node l' v' r'=>bM (SL f v v') (T.sub f l l') (T.sub f r r') true true true
def Nl(a b:X×Bool):Bool:=bM (a.1.beq b.1) (je a.2 b.2) true true true true
structure LoopI where
 rnd:Option Nat
 body:Code
 fr:Fr
 st:St
 res:cC
def CZ(L:LoopI)(rnd:Option Nat)(c:Code)(fr:Fr)(st:St):Bool:=
 bM (bM (Nat.beq st.n L.st.n) (iA rnd L.rnd) (V.eV fr.tm L.fr.tm) (eB fr.df L.fr.df) (gz Nl st.pc L.st.pc) true) (bz c L.body) (T.sub au.beq st.h L.st.h) (T.sub au.beq L.st.h st.h) true true
def Yl:List LoopI→Option Nat→Code→Fr→St→Option cC
 | [],_,_,_,_=>none
 | L::l,rnd,c,fr,st=>match CZ L rnd c fr st with
  | true=>some L.res
  | false=>Yl l rnd c fr st
structure Tch where
 vs:List Nat
 ts:List (Nat×Nat)
def RU:List (Nat×Nat)→Nat→Bool
 | [],_=>false
 | (t,n)::l,f=>match Nat.ble t f with
  | true=>match Nat.blt f (t+n) with
   | true=>true
   | false=>RU l f
  | false=>RU l f
def vU (l:List (Nat×Nat)) (t:Nat):Nat→Bool
 | 0=>true
 | n+1=>match RU l (t+n) with
  | true=>false
  | false=>vU l t n
structure Mt where
 v:List (Nat×X)
 a:List (Nat×(List CK×A))
 u:List (Nat×V)
 r:List (Nat×Nat)
def Mt.name(σ:Mt)(i:Nat):Nat:=match look σ.r i with
 | some j=>j
 | none=>i
def X.free(t:Tch):X→Bool
 | .lit _=>true
 | .var i=>!eS i t.vs
 | .add a b=>a.free t&&b.free t
 | .sub a b=>a.free t&&b.free t
 | .mul a b=>a.free t&&b.free t
 | .quo a b=>a.free t&&b.free t
 | .rem a b=>a.free t&&b.free t
 | .wrap _ a=>a.free t
 | .bits _ _ a b=>a.free t&&b.free t
 | .shl _ a b=>a.free t&&b.free t
 | .shr _ a b=>a.free t&&b.free t
 | .eq a b=>a.free t&&b.free t
 | .lt a b=>a.free t&&b.free t
 | .le a b=>a.free t&&b.free t
 | .not a=>a.free t
 | .ite c a b=>c.free t&&(a.free t&&b.free t)
 | .fn1 f a=>!RU t.ts f&&a.free t
 | .fn2 _ a b=>a.free t&&b.free t
 | .slit _=>true
 | .svar _=>true
 | .scat a b=>a.free t&&b.free t
 | .sfn _ a=>a.free t
 | .slen a=>a.free t
 | .seq a b=>a.free t&&b.free t
 | .bv _ _=>true
 | .cube _ _=>true
 | .btext f a b=>!RU t.ts f&&(a.free t&&b.free t)
def rP(t:Tch)(σ:Mt)(p x:X):Bool:=match p with
 | .var i=>match look σ.v i with
  | some y=>y.beq x
  | none=>match eS i t.vs with
   | true=>false
   | false=>(X.var i).beq x
 | p=>match p.free t with
  | true=>p.beq x
  | false=>false
def aaA(t:Tch)(p x:X):Bool:=match p.free t with
 | true=>p.beq x
 | false=>false
def vq(σ:Mt)(b c:Nat):Bool:=match look σ.u b with
 | some _=>false
 | none=>Nat.beq (σ.name b) c
def Zm(σ:Mt):Cp→Cp→Bool
 | .known n,.known m=>Nat.beq n m
 | .room b o n,.room c p m=>bM (vq σ b c) (Nat.beq o p) (Nat.beq n m) true true true
 | _,_=>false
def RG(t:Tch)(σ:Mt):XC→XC→Bool
 | .known a,.known b=>rP t σ a b
 | .room a,.room b=>rP t σ a b
 | _,_=>false
mutual
def gw(t:Tch)(σ:Mt):V→V→Bool
 | .any k,v=>match look σ.u k with
  | some u=>u.beq v
  | none=>false
 | .int k p,.int j x=>bM (bq k j) (rP t σ p x) true true true true
 | .bool p,.bool x=>rP t σ p x
 | .str p,.str x=>aaA t p x
 | .ptr b o,.ptr c q=>bM (vq σ b c) (Nat.beq o q) true true true true
 | .nilptr,.nilptr=>true
 | .slice b o n c,.slice b' o' n' c'=>bM (vq σ b b') (Nat.beq o o') (Nat.beq n n') (Zm σ c c') true true
 | .nilslice,.nilslice=>true
 | .map b,.map c=>vq σ b c
 | .nilmap,.nilmap=>true
 | .func f a c,.func g d e=>bM (ki f g) (mq t σ a d) (mq t σ c e) true true true
 | .yield b,.yield c=>vq σ b c
 | .nilfunc,.nilfunc=>true
 | .iface u v,.iface u' v'=>bM (Nat.beq u u') (gw t σ v v') true true true true
 | .niliface,.niliface=>true
 | .agg l,.agg m=>mq t σ l m
 | .tuple l,.tuple m=>mq t σ l m
 | .wptr b o,.wptr c q=>bM (Nat.beq b c) (Nat.beq o q) true true true true
 | .wslice b o n c,.wslice b' o' n' c'=>bM (Nat.beq b b') (Nat.beq o o') (rP t σ n n') (rP t σ c c') true true
 | .sptr b o n i,.sptr c q m j=>bM (vq σ b c) (Nat.beq o q) (Nat.beq n m) (rP t σ i j) true true
 | .xslice w b off es n c,.xslice w' b' off' es' n' c'=>bM (je w w') (bM (vq σ b b') (match w with | true=>Nat.beq b b' | false=>true) true true true true) (rP t σ off off') (Nat.beq es es') (rP t σ n n') (RG t σ c c')
 | .xptr w b i es c,.xptr w' b' i' es' c'=>bM (je w w') (bM (vq σ b b') (match w with | true=>Nat.beq b b' | false=>true) true true true true) (rP t σ i i') (Nat.beq es es') (Nat.beq c c') true
 | _,_=>false
def mq(t:Tch)(σ:Mt):List V→List V→Bool
 | [],[]=>true
 | p::l,v::m=>bM (gw t σ p v) (mq t σ l m) true true true true
 | _,_=>false
end
def A.free(t:Tch)(n:Nat):A→Bool
 | .base f=>vU t.ts f n
 | .fill x=>x.free t
 | .put a i _ x=>a.free t n&&(i.free t&&x.free t)
def X3(t:Tch)(σ:Mt)(ks:List CK)(p a:A):Bool:=match p with
 | .base f=>match look σ.a f with
  | some (ks',b)=>match CK.eV ks ks' with
   | true=>b.beq a
   | false=>false
  | none=>match vU t.ts f ks.length with
   | true=>(A.base f).beq a
   | false=>false
 | p=>match p.free t ks.length with
  | true=>p.beq a
  | false=>false
def wY(σ:Mt):List bL→List bL→Bool
 | [],[]=>true
 | .mark b::l,.mark c::m=>bM (vq σ b c) (wY σ l m) true true true true
 | _,_=>false
def Gv(t:Tch)(σ:Mt):List (V×V)→List (V×V)→Bool
 | [],[]=>true
 | (k,v)::l,(j,u)::m=>bM (gw t σ k j) (gw t σ v u) (Gv t σ l m) true true true
 | _,_=>false
def B5(t:Tch)(σ:Mt)(i:Nat):au→au→Bool
 | .cells c e w,.cells c' e' w'=>bM (Nat.beq e e') (iA w w') (mq t σ c c') true true true
 | .map es,.map es'=>Gv t σ es es'
 | .loop s p tm ps as bd d,.loop s' p' tm' ps' as' bd' d'=>bM (ki s s') (nB p p') (mq t σ tm tm') (vq σ d d') (Im ps ps') (bM (bz as as') (bz bd bd') true true true true)
 | .deferred none,.deferred none=>true
 | .deferred (some []),.deferred (some [])=>true
 | .ro g c,.ro g' c'=>bM (Nat.beq g g') (mq t σ c c') true true true true
 | .win g c n es,.win g' c' n' es'=>bM (Nat.beq g g') (mq t σ c c') (rP t σ n n') (Nat.beq es es') (Nat.beq (σ.name i) i) true
 | .iter none,.iter none=>true
 | .iter (some b),.iter (some c)=>vq σ b c
 | .arr a ks n e w,.arr a' ks' n' e' w'=>bM (X3 t σ ks a a') (CK.eV ks ks') (rP t σ n n') (Nat.beq e e') (je w w') true
 | .warr g f ks n,.warr g' f' ks' n'=>bM (Nat.beq g g') (Nat.beq f f') (CK.eV ks ks') (rP t σ n n') (vU t.ts f ks.length) (Nat.beq (σ.name i) i)
 | _,_=>false
structure n5 where
 fr:Fr
 items:List (Nat×au)
 n:Nat
 pc:PC
 kn:List Nat
def rS:List (Nat×au)→H
 | []=>.nil
 | (i,o)::l=>(rS l).set i o
def n5.st(p:n5):St:=⟨rS p.items,p.n,p.pc⟩
def Np(t:Tch)(σ:Mt)(h:H):List (Nat×au)→Bool
 | []=>true
 | (i,p)::l=>match look σ.u i with
  | some _=>false
  | none=>match h.get (σ.name i) with
   | some o=>match B5 t σ i p o with
    | true=>Np t σ h l
    | false=>false
   | none=>false
def X.dw(t:Tch)(σ:Mt):X→Bool
 | .lit _=>true
 | .var i=>match look σ.v i with
  | some _=>true
  | none=>!eS i t.vs
 | .add a b=>a.dw t σ&&b.dw t σ
 | .sub a b=>a.dw t σ&&b.dw t σ
 | .mul a b=>a.dw t σ&&b.dw t σ
 | .lt a b=>a.dw t σ&&b.dw t σ
 | .le a b=>a.dw t σ&&b.dw t σ
 | .eq a b=>a.dw t σ&&b.dw t σ
 | _=>false
def X.dr(σ:Mt):X→X
 | .var i=>match look σ.v i with
  | some x=>x
  | none=>.var i
 | .add a b=>.add (a.dr σ) (b.dr σ)
 | .sub a b=>.sub (a.dr σ) (b.dr σ)
 | .mul a b=>.mul (a.dr σ) (b.dr σ)
 | .lt a b=>.lt (a.dr σ) (b.dr σ)
 | .le a b=>.le (a.dr σ) (b.dr σ)
 | .eq a b=>.eq (a.dr σ) (b.dr σ)
 | x=>x
def XU(pc:PC)(x:X)(b:Bool):Bool:=match eI pc x with
 | some c=>je c b
 | none=>match y3 pc x with
  | some c=>je c b
  | none=>false
def Nq(t:Tch)(σ:Mt)(pc:PC):PC→Bool
 | []=>true
 | (x,b)::l=>match x.dw t σ with
  | true=>match XU pc (x.dr σ) b with
   | true=>Nq t σ pc l
   | false=>false
  | false=>false
def kF(σ:Mt):List (Nat×au)→List Nat
 | []=>[]
 | (i,_)::l=>σ.name i::kF σ l
def jK(σ:Mt)(n:Nat):List Nat→Bool
 | []=>true
 | i::l=>match Nat.blt i n with
  | true=>match look σ.u i with
   | some _=>false
   | none=>match Nat.beq (σ.name i) i with
    | true=>jK σ n l
    | false=>false
  | false=>jK σ n l
def fit(t:Tch)(σ:Mt)(n:Nat)(p:n5)(fr:Fr)(st:St):Bool:=
 bM (mq t σ p.fr.tm fr.tm) (wY σ p.fr.df fr.df) (Np t σ st.h p.items) (jr (kF σ p.items)) (Nq t σ st.pc p.pc) (jK σ n p.kn)
def Cp.n8:Cp→List Nat
 | .known _=>[]
 | .room b _ _=>[b]
mutual
def V.n8:V→List Nat
 | .ptr b _=>[b]
 | .slice b _ _ c=>b::c.n8
 | .map b=>[b]
 | .func _ a c=>V.qT a++V.qT c
 | .yield b=>[b]
 | .iface _ v=>v.n8
 | .agg l=>V.qT l
 | .tuple l=>V.qT l
 | .ite _ a b=>a.n8++b.n8
 | .sptr b _ _ _=>[b]
 | .rest b _ _ _=>[b]
 | .xslice _ b _ _ _ _=>[b]
 | .xptr _ b _ _ _=>[b]
 | .any k=>[k]
 | _=>[]
def V.qT:List V→List Nat
 | []=>[]
 | v::l=>v.n8++V.qT l
end
def Bo:List bL→List Nat
 | []=>[]
 | .mark b::l=>b::Bo l
 | .fn _ a c::l=>V.qT a++(V.qT c++Bo l)
def O5:List (V×V)→List Nat
 | []=>[]
 | (k,v)::l=>k.n8++(v.n8++O5 l)
def au.n8:au→List Nat
 | .cells c _ _=>V.qT c
 | .map es=>O5 es
 | .loop _ _ tm _ _ _ d=>d::V.qT tm
 | .deferred (some l)=>Bo l
 | .ro _ c=>V.qT c
 | .win _ c _ _=>V.qT c
 | .iter (some b)=>[b]
 | _=>[]
def C9:List Nat→List Nat→Bool
 | [],_=>true
 | a::l,m=>match eS a m with
  | true=>C9 l m
  | false=>false
def yi(kn:List Nat):List (Nat×au)→Bool
 | []=>true
 | (i,o)::l=>match eS i kn with
  | true=>match C9 o.n8 kn with
   | true=>yi kn l
   | false=>false
  | false=>false
def M7(n:Nat):List Nat→Bool
 | []=>true
 | i::l=>match Nat.blt i n with
  | true=>M7 n l
  | false=>false
def yd(kn:List Nat):Nat→Bool
 | 0=>true
 | g+1=>match eS g kn with
  | true=>yd kn g
  | false=>false
def pf(ng:Nat)(p:n5):Bool:=bM (yd p.kn ng) (C9 (V.qT p.fr.tm) p.kn) (C9 (Bo p.fr.df) p.kn) (yi p.kn p.items) (M7 p.n p.kn) true
inductive LL where
 | next (σ:Mt)
 | out (k:Nat) (σ:Mt)
 | never
structure OutP where
 ex:Ex
 pat:n5
def xZ(t:Tch)(n:Nat)(I:n5)(outs:List OutP)(e:Ex)(fr:Fr)(st:St):LL→Bool
 | .never=>true
 | .next σ=>match e with
  | .normal=>fit t σ n I fr st
  | _=>false
 | .out k σ=>match nth outs k with
  | some O=>match kq e O.ex with
   | true=>match e with
    | .normal=>false
    | _=>fit t σ n O.pat fr st
   | false=>false
  | none=>false
def kZ(t:Tch)(n:Nat)(I:n5)(outs:List OutP):cC→R LL→Bool
 | .br c a b,r=>match r with
  | .br d x y=>match c.beq d with
   | true=>match kZ t n I outs a x with
    | true=>kZ t n I outs b y
    | false=>false
   | false=>false
  | _=>false
 | .ok (e,fr,st),r=>match r with
  | .ok l=>xZ t n I outs e fr st l
  | _=>false
 | .stuck _,r=>match r with
  | .ok .never=>true
  | _=>false
def nC(ng:Nat)(h:H)(n:Nat):List Nat→Bool
 | []=>true
 | i::l=>match Nat.blt i n with
  | false=>nC ng h n l
  | true=>match Nat.blt i ng with
   | true=>nC ng h n l
   | false=>match h.get i with
    | some _=>nC ng h n l
    | none=>false
def gE(n:Nat)(m:List Nat):List Nat→Bool
 | []=>true
 | i::l=>match Nat.blt i n with
  | false=>gE n m l
  | true=>match eS i m with
   | true=>gE n m l
   | false=>false
def E1(ng n:Nat)(kn:List Nat):List OutP→Bool
 | []=>true
 | O::l=>bM (pf ng O.pat) (Nat.ble n O.pat.n) (gE n kn O.pat.kn) (E1 ng n kn l) true true
def Ta(kn:List Nat):Option Nat→Bool
 | none=>true
 | some l=>eS l kn
def LG(ng:Nat)(L:LoopI)(I:n5)(outs:List OutP):Bool:=
 bM (pf ng I) (E1 ng L.st.n I.kn outs) (nC ng L.st.h L.st.n I.kn) (Nat.ble ng L.st.n) (Ta I.kn L.rnd) true
def vT (r:List (Nat×Nat)) (i:Nat):Nat:=match look r i with
 | some j=>j
 | none=>i
def Du(a b:Nat) (r:List (Nat×Nat)):List (Nat×Nat):=match Nat.beq a b with
 | true=>r
 | false=>match look r a with
  | some _=>r
  | none=>(a,b)::r
mutual
def nmV:V→V→List (Nat×Nat)→List (Nat×Nat)
 | .ptr a _,.ptr b _,r=>Du a b r
 | .slice a _ _ _,.slice b _ _ _,r=>Du a b r
 | .map a,.map b,r=>Du a b r
 | .sptr a _ _ _,.sptr b _ _ _,r=>Du a b r
 | .xslice w a _ _ _ _,.xslice _ b _ _ _ _,r=>match w with
  | true=>r
  | false=>Du a b r
 | .xptr w a _ _ _,.xptr _ b _ _ _,r=>match w with
  | true=>r
  | false=>Du a b r
 | .func _ a c,.func _ b d,r=>xN c d (xN a b r)
 | .iface _ v,.iface _ u,r=>nmV v u r
 | .agg l,.agg m,r=>xN l m r
 | .tuple l,.tuple m,r=>xN l m r
 | _,_,r=>r
def xN:List V→List V→List (Nat×Nat)→List (Nat×Nat)
 | v::l,u::m,r=>xN l m (nmV v u r)
 | _,_,r=>r
end
def aaM:List (V×V)→List (V×V)→List (Nat×Nat)→List (Nat×Nat)
 | (k,v)::l,(j,u)::m,r=>aaM l m (nmV v u (nmV k j r))
 | _,_,r=>r
mutual
def uV:V→V→List (Nat×V)→List (Nat×V)
 | .any k,v,l=>match look l k with
  | some _=>l
  | none=>(k,v)::l
 | .func _ a c,.func _ b d,l=>Z1 c d (Z1 a b l)
 | .iface _ v,.iface _ u,l=>uV v u l
 | .agg x,.agg y,l=>Z1 x y l
 | .tuple x,.tuple y,l=>Z1 x y l
 | _,_,l=>l
def Z1:List V→List V→List (Nat×V)→List (Nat×V)
 | v::x,u::y,l=>Z1 x y (uV v u l)
 | _,_,l=>l
end
def uEs:List (V×V)→List (V×V)→List (Nat×V)→List (Nat×V)
 | (k,v)::x,(j,u)::y,l=>uEs x y (uV v u (uV k j l))
 | _,_,l=>l
def rDs:List bL→List bL→List (Nat×Nat)→List (Nat×Nat)
 | .mark b::x,.mark c::y,r=>rDs x y (Du b c r)
 | _,_,r=>r
def rOb:au→Option au→List (Nat×Nat)→List (Nat×Nat)
 | .cells c _ _,some (.cells d _ _),r=>xN c d r
 | .map es,some (.map fs),r=>aaM es fs r
 | .loop _ _ tm _ _ _ d,some (.loop _ _ tm' _ _ _ d'),r=>Du d d' (xN tm tm' r)
 | .iter (some b),some (.iter (some c)),r=>Du b c r
 | _,_,r=>r
def uOb:au→Option au→List (Nat×V)→List (Nat×V)
 | .cells c _ _,some (.cells d _ _),l=>Z1 c d l
 | .map es,some (.map fs),l=>uEs es fs l
 | .loop _ _ tm _ _ _ _,some (.loop _ _ tm' _ _ _ _),l=>Z1 tm tm' l
 | _,_,l=>l
def S7(h:H):List (Nat×au)→List (Nat×Nat)→List (Nat×Nat)
 | [],r=>r
 | (i,o)::l,r=>S7 h l (rOb o (h.get (vT r i)) r)
def Uy(h:H) (r:List (Nat×Nat)):List (Nat×au)→List (Nat×V)→List (Nat×V)
 | [],u=>u
 | (i,o)::l,u=>Uy h r l (uOb o (h.get (vT r i)) u)
def lU(p:n5)(fr:Fr)(st:St) (v:List (Nat×X)) (a:List (Nat×(List CK×A))):Mt:=
 match S7 st.h p.items (rDs p.fr.df fr.df (xN p.fr.tm fr.tm [])) with
 | r=>⟨v,a,Uy st.h r p.items (Z1 p.fr.tm fr.tm []),r⟩
def oL(I:n5)(outs:List OutP):cC→R LL→R LL
 | .br _ a b,r=>match r with
  | .br d x y=>.br d (oL I outs a x) (oL I outs b y)
  | r=>r
 | .ok (_,fr,st),r=>match r with
  | .ok (.next σ)=>.ok (.next (lU I fr st σ.v σ.a))
  | .ok (.out k σ)=>match nth outs k with
   | some O=>.ok (.out k (lU O.pat fr st σ.v σ.a))
   | none=>r
  | r=>r
 | .stuck _,r=>r
def Zz (v:List (Nat×X)) (a:List (Nat×(List CK×A))):Mt:=⟨v,a,[],[]⟩
end
end Go.Proofs.YtmickljjofbmiaaGreatDoor
namespace Go.Proofs.YtmickljjofbmiaaGreatDoor
open Go
theorem T.uJ{α:Type}{f:α→α→Bool}:∀ {t u:T α} {bs:List Bool} {a:α},T.sub f t u=true→t.eQ bs=some a→∃ b,u.eQ bs=some b∧f a b=true
 | .nil,u,bs,a,_,h=>by rw [T.er] at h;cases h
 | .node l v r,.nil,bs,a,hs,h=>by
  obtain⟨h1,h2,h3,_⟩:=az hs
  cases bs with
  | nil=>
   have h':v=some a:=h
   subst h'
   cases h1
  | cons b bs=>
   cases b with
   | true=>
    obtain⟨c,hc,_⟩:=T.uJ h3 (show r.eQ bs=some a from h)
    rw [T.er] at hc
    cases hc
   | false=>
    obtain⟨c,hc,_⟩:=T.uJ h2 (show l.eQ bs=some a from h)
    rw [T.er] at hc
    cases hc
 | .node l v r,.node l' v' r',bs,a,hs,h=>by
  obtain⟨h1,h2,h3,_⟩:=az hs
  cases bs with
  | nil=>
   have h':v=some a:=h
   subst h'
   cases v' with
   | none=>cases h1
   | some b=>exact⟨b,rfl,h1⟩
  | cons b bs=>
   cases b with
   | true=>exact T.uJ (t:=r) (u:=r') h3 h
   | false=>exact T.uJ (t:=l) (u:=l') h2 h
theorem Lu{a b:X×Bool}(h:Nl a b=true):a=b:=by
 obtain⟨h1,h2,_⟩:=az h
 exact Prod.ext (X.beq_eq h1) (cQ h2)
theorem KN{h h':H}(h1:T.sub au.beq h h'=true){i:Nat}{o:au}(hi:h.get i=some o):h'.get i=some o:=by
 obtain⟨b,hb,he⟩:=T.uJ h1 hi
 rw [au.beq_eq he]
 exact hb
section
variable {P:Program} {cx:Cx} {ρ:Env}
def oc(P:Program)(cx:Cx)(ρ:Env)(L:LoopI):Prop:=
 ∀ res,L.res.ai ρ=some res→∀ S π0 w a ro n,cg cx ρ S π0 L.st w→cY ρ S π0 L.fr a→jy S π0 L.rnd ro→gn (FN ro) n P L.body (dA ρ S π0 L.st w res) a w
theorem Ym:∀ {l:List LoopI},(∀ L∈l,oc P cx ρ L)→aef P cx ρ (Yl l)
 | [],_,rnd,c,fr,st,r,res,h,_,_,_,_,_,_,_,_,_,_=>by simp [Yl] at h
 | L::l,hl,rnd,c,fr,st,r,res,h,hs,S,π0,w,a,ro,n,hh,hf,hr=>by
  unfold Yl at h
  split at h
  ·rename_i he
   obtain rfl:=Option.some.inj h
   unfold CZ at he
   obtain⟨e1,e2,e3,e4,_⟩:=az he
   obtain⟨e5,e6,e7,e8,e9,_⟩:=az e1
   obtain⟨h0,n0,pc0⟩:=st
   obtain⟨tm0,df0⟩:=fr
   obtain rfl:=g7 e2
   obtain rfl:=gD e6
   obtain e5':n0=L.st.n:=Nat.eq_of_beq_eq_true e5
   obtain e9':pc0=L.st.pc:=fT Lu e9
   obtain e7':tm0=L.fr.tm:=V.bD _ _ e7
   obtain e8':df0=L.fr.df:=lG e8
   subst e5' e9' e7' e8'
   have to:∀ i o,h0.get i=some o→L.st.h.get i=some o:=fun i o=>KN e3
   have fro:∀ i o,L.st.h.get i=some o→h0.get i=some o:=fun i o=>KN e4
   have hh':cg cx ρ S π0 L.st w:=⟨hh.pc,⟨fun π hk=>⟨fun i o hi=>(hh.at_.rep π hk).obj i o (fro i o hi),fun i j o o' hi hj e=>(hh.at_.rep π hk).inj i j o o' (fro i o hi) (fro j o' hj) e⟩,fun i o hi=>hh.at_.dom i o (fro i o hi)⟩,hh.glob,hh.fresh⟩
   refine tD ?_ (hl L (by simp) res hs S π0 w a ro n hh' hf hr)
   rintro e a' w' ⟨p1,π1,g,p2,p3⟩
   exact⟨p1,π1,⟨g.le,g.known,g.at_,fun i o hi=>(g.sub i o hi).imp_right fun⟨i0,o0,q,e,z⟩=>⟨i0,o0,fro _ _ q,e,z⟩,fun j hj hne=>g.keep j hj fun i o hi=>hne i o (fro i o hi),g.size,g.same⟩,p2,p3⟩
  ·exact Ym (fun L hL=>hl L (List.mem_cons_of_mem _ hL)) rnd c fr st r res h hs S π0 w a ro n hh hf hr
end
structure Agree (t:Tch) (ρ1 ρ2:Env):Prop where
 v:∀ i,eS i t.vs=false→ρ2.v i=ρ1.v i
 f1:∀ f,RU t.ts f=false→ρ2.f1 f=ρ1.f1 f
 b:ρ2.b=ρ1.b
 f2:ρ2.f2=ρ1.f2
 s:ρ2.s=ρ1.s
 sf:ρ2.sf=ρ1.sf
 ro:ρ2.ro=ρ1.ro
 win:ρ2.win=ρ1.win
structure b8 (t:Tch) (ρ1 ρ2:Env) (σ:Mt):Prop where
 cE:Agree t ρ1 ρ2
 v:∀ i x,look σ.v i=some x→ρ2.v i=x.den ρ1
 a:∀ f ks a,look σ.a f=some (ks,a)→∀ (c:Nat) (k:CK),ks[c]?=some k→∀ j:Int,k.val (k.sym ρ2 f c j)=k.val (a.den ρ1 k c j)
section
variable {t:Tch} {ρ1 ρ2:Env} {σ:Mt} {π1:Pl}
theorem B.cE(A:Agree t ρ1 ρ2)(b:B):b.den ρ2=b.den ρ1:=by cases b<;>simp only [B.den,A.b]
theorem F4(A:Agree t ρ1 ρ2)(b:B):∀ l:List B,ar ρ2 l b=ar ρ1 l b
 | []=>by simp only [ar,B.cE A]
 | c::l=>by simp only [ar,B.cE A,F4 A b l]
theorem Bx(A:Agree t ρ1 ρ2){f:Nat}(hf:RU t.ts f=false)(lo:Int)(n:Nat):uF ρ2 f lo n=uF ρ1 f lo n:=by
 unfold uF
 rw [A.f1 f hf]
theorem X.iP(A:Agree t ρ1 ρ2):∀ x:X,x.free t=true→x.den ρ2=x.den ρ1∧x.bw ρ2=x.bw ρ1:=by
 intro x
 induction x with
 | lit n=>exact fun _=>⟨rfl,rfl⟩
 | var i=>exact fun h=>⟨A.v i (by simpa [X.free] using h),rfl⟩
 | slit l=>exact fun _=>⟨rfl,rfl⟩
 | svar i=>exact fun _=>⟨rfl,by simp only [X.bw,A.s]⟩
 | bv l b=>exact fun _=>⟨F4 A b l,rfl⟩
 | cube m v=>exact fun _=>⟨by simp only [X.den,bg,A.b],rfl⟩
 | wrap k a ia=>exact fun h=>⟨by simp only [X.den,(ia (by simpa [X.free] using h)).1],rfl⟩
 | not a ia=>exact fun h=>⟨by simp only [X.den,(ia (by simpa [X.free] using h)).1],rfl⟩
 | slen a ia=>exact fun h=>⟨by simp only [X.den,(ia (by simpa [X.free] using h)).2],rfl⟩
 | sfn f a ia=>
  intro h
  refine⟨rfl,?_⟩
  have e:=(ia (by simpa [X.free] using h)).1
  simp only [X.bw,e]
  cases f with
  | zero=>rfl
  | succ f=>simp only [vr,A.sf]
 | fn1 f a ia=>
  intro h
  simp only [X.free,Bool.and_eq_true,Bool.not_eq_true'] at h
  exact⟨by simp only [X.den,(ia h.2).1,A.f1 f h.1],rfl⟩
 | btext f a b ia ib=>
  intro h
  simp only [X.free,Bool.and_eq_true,Bool.not_eq_true'] at h
  exact⟨rfl,by simp only [X.bw,(ia h.2.1).1,(ib h.2.2).1,Bx A h.1]⟩
 | ite c a b ic ia ib=>
  intro h
  simp only [X.free,Bool.and_eq_true] at h
  exact⟨by simp only [X.den,(ic h.1).1,(ia h.2.1).1,(ib h.2.2).1],by simp only [X.bw,(ic h.1).1,(ia h.2.1).2,(ib h.2.2).2]⟩
 | fn2 f a b ia ib=>
  intro h
  simp only [X.free,Bool.and_eq_true] at h
  exact⟨by simp only [X.den,(ia h.1).1,(ib h.2).1,A.f2],rfl⟩
 | scat a b ia ib=>
  intro h
  simp only [X.free,Bool.and_eq_true] at h
  exact⟨rfl,by simp only [X.bw,(ia h.1).2,(ib h.2).2]⟩
 | seq a b ia ib=>
  intro h
  simp only [X.free,Bool.and_eq_true] at h
  exact⟨by simp only [X.den,(ia h.1).2,(ib h.2).2],rfl⟩
 | _=>
  rename_i ia ib
  intro h
  simp only [X.free,Bool.and_eq_true] at h
  exact⟨by simp only [X.den,(ia h.1).1,(ib h.2).1],rfl⟩
theorem eK(E:b8 t ρ1 ρ2 σ){p x:X}(h:rP t σ p x=true):p.den ρ2=x.den ρ1:=by
 unfold rP at h
 split at h
 ·rename_i i
  split at h
  ·rename_i y hy
   rw [←X.beq_eq h]
   exact E.v i y hy
  ·split at h
   ·cases h
   ·rename_i hm
    rw [←X.beq_eq h]
    exact E.cE.v i hm
 ·split at h
  ·rename_i hf
   rw [←X.beq_eq h]
   exact (X.iP E.cE _ hf).1
  ·cases h
theorem X5(E:b8 t ρ1 ρ2 σ){p x:X}(h:aaA t p x=true):p.bw ρ2=x.bw ρ1:=by
 unfold aaA at h
 split at h
 ·rename_i hf
  rw [←X.beq_eq h]
  exact (X.iP E.cE _ hf).2
 ·cases h
def AK(σ:Mt)(ρ:Env)(π:Pl):Pl:=fun i=>match look σ.u i with
 | some v=>⟨0,0,v.ae ρ π⟩
 | none=>π (σ.name i)
theorem eA{i:Nat}(h:look σ.u i=none):AK σ ρ1 π1 i=π1 (σ.name i):=by
 unfold AK
 rw [h]
theorem gv{b c:Nat}(h:vq σ b c=true):AK σ ρ1 π1 b=π1 c:=by
 unfold vq at h
 split at h
 ·cases h
 ·rename_i hu
  rw [eA hu,Nat.eq_of_beq_eq_true h]
theorem RI(E:b8 t ρ1 ρ2 σ){p q:XC}{b c:Nat}(h:RG t σ p q=true)(hb:AK σ ρ1 π1 b=π1 c)(o:Nat):p.ae ρ2 (AK σ ρ1 π1) b o=q.ae ρ1 π1 c o:=by
 unfold RG at h
 split at h
 ·simp only [XC.ae,eK E h]
 ·simp only [XC.ae,eK E h,hb]
 ·cases h
theorem Dn(E:b8 t ρ1 ρ2 σ){w:Bool}{b c:Nat}(hb:AK σ ρ1 π1 b=π1 c) (hw:(match w with | true=>Nat.beq b c | false=>true)=true) (n:Nat):cR ρ2 (AK σ ρ1 π1) w b n=cR ρ1 π1 w c n:=by
 unfold cR
 cases w with
 | true=>
  have:b=c:=Nat.eq_of_beq_eq_true hw
  subst this
  simp only [if_true,E.cE.win]
 | false=>simp only [Bool.false_eq_true,if_false,hb]
mutual
theorem yb(E:b8 t ρ1 ρ2 σ):∀ (p v:V),gw t σ p v=true→p.ae ρ2 (AK σ ρ1 π1)=v.ae ρ1 π1
 | .any k,v,h=>by
  unfold gw at h
  split at h
  ·rename_i u hu
   obtain rfl:=V.beq_eq _ _ h
   simp only [V.ae,AK,hu]
  ·cases h
 | .int k p,v,h=>by
  cases v<;>simp only [gw,Bool.false_eq_true] at h
  obtain⟨h1,h2,_⟩:=az h
  simp only [V.ae,eK E h2,aX h1]
 | .bool p,v,h=>by
  cases v<;>simp only [gw,Bool.false_eq_true] at h
  simp only [V.ae,X.tt,eK E h]
 | .str p,v,h=>by
  cases v<;>simp only [gw,Bool.false_eq_true] at h
  simp only [V.ae,X5 E h]
 | .ptr b o,v,h=>by
  cases v<;>simp only [gw,Bool.false_eq_true] at h
  obtain⟨h1,h2,_⟩:=az h
  simp only [V.ae,gv (ρ1:=ρ1) (π1:=π1) h1,Nat.eq_of_beq_eq_true h2]
 | .nilptr,v,h=>by cases v<;>simp only [gw,Bool.false_eq_true] at h;rfl
 | .slice b o n c,v,h=>by
  cases v<;>simp only [gw,Bool.false_eq_true] at h
  rename_i b' o' n' c'
  obtain⟨h1,h2,h3,h4,_⟩:=az h
  have hc:c.ae (AK σ ρ1 π1)=c'.ae π1:=by
   unfold Zm at h4
   split at h4
   ·rw [Nat.eq_of_beq_eq_true h4]
    rfl
   ·obtain⟨g1,g2,g3,_⟩:=az h4
    simp only [Cp.ae,gv (ρ1:=ρ1) (π1:=π1) g1,Nat.eq_of_beq_eq_true g2,Nat.eq_of_beq_eq_true g3]
   ·cases h4
  simp only [V.ae,gv (ρ1:=ρ1) (π1:=π1) h1,Nat.eq_of_beq_eq_true h2,Nat.eq_of_beq_eq_true h3,hc]
 | .nilslice,v,h=>by cases v<;>simp only [gw,Bool.false_eq_true] at h;rfl
 | .map b,v,h=>by
  cases v<;>simp only [gw,Bool.false_eq_true] at h
  simp only [V.ae,gv (ρ1:=ρ1) (π1:=π1) h]
 | .nilmap,v,h=>by cases v<;>simp only [gw,Bool.false_eq_true] at h;rfl
 | .func f a c,v,h=>by
  cases v<;>simp only [gw,Bool.false_eq_true] at h
  obtain⟨h1,h2,h3,_⟩:=az h
  simp only [V.ae,eE h1,fF E _ _ h2,fF E _ _ h3]
 | .yield b,v,h=>by
  cases v<;>simp only [gw,Bool.false_eq_true] at h
  simp only [V.ae,gv (ρ1:=ρ1) (π1:=π1) h]
 | .nilfunc,v,h=>by cases v<;>simp only [gw,Bool.false_eq_true] at h;rfl
 | .iface u x,v,h=>by
  cases v<;>simp only [gw,Bool.false_eq_true] at h
  obtain⟨h1,h2,_⟩:=az h
  simp only [V.ae,Nat.eq_of_beq_eq_true h1,yb E _ _ h2]
 | .niliface,v,h=>by cases v<;>simp only [gw,Bool.false_eq_true] at h;rfl
 | .agg l,v,h=>by
  cases v<;>simp only [gw,Bool.false_eq_true] at h
  simp only [V.ae,fF E _ _ h]
 | .tuple l,v,h=>by
  cases v<;>simp only [gw,Bool.false_eq_true] at h
  simp only [V.ae,fF E _ _ h]
 | .wptr b o,v,h=>by
  cases v<;>simp only [gw,Bool.false_eq_true] at h
  obtain⟨h1,h2,_⟩:=az h
  simp only [V.ae,E.cE.win,Nat.eq_of_beq_eq_true h1,Nat.eq_of_beq_eq_true h2]
 | .wslice b o n c,v,h=>by
  cases v<;>simp only [gw,Bool.false_eq_true] at h
  obtain⟨h1,h2,h3,h4,_⟩:=az h
  simp only [V.ae,E.cE.win,Nat.eq_of_beq_eq_true h1,Nat.eq_of_beq_eq_true h2,eK E h3,eK E h4]
 | .sptr b o n i,v,h=>by
  cases v<;>simp only [gw,Bool.false_eq_true] at h
  obtain⟨h1,h2,h3,h4,_⟩:=az h
  simp only [V.ae,gv (ρ1:=ρ1) (π1:=π1) h1,Nat.eq_of_beq_eq_true h2,eK E h4]
 | .xslice w b off es n c,v,h=>by
  cases v<;>simp only [gw,Bool.false_eq_true] at h
  obtain⟨h1,h2,h3,h4,h5,h6⟩:=az h
  obtain⟨h7,h8,_⟩:=az h2
  obtain rfl:=cQ h1
  have hb:=gv (ρ1:=ρ1) (π1:=π1) h7
  simp only [V.ae,eK E h3,eK E h5,Nat.eq_of_beq_eq_true h4,RI E h6 hb,Dn E hb h8]
 | .xptr w b i es c,v,h=>by
  cases v<;>simp only [gw,Bool.false_eq_true] at h
  obtain⟨h1,h2,h3,h4,h5,_⟩:=az h
  obtain⟨h7,h8,_⟩:=az h2
  obtain rfl:=cQ h1
  have hb:=gv (ρ1:=ρ1) (π1:=π1) h7
  simp only [V.ae,eK E h3,Nat.eq_of_beq_eq_true h4,Nat.eq_of_beq_eq_true h5,Dn E hb h8]
 | .ite _ _ _,v,h=>by cases v<;>simp only [gw,Bool.false_eq_true] at h
 | .rest _ _ _ _,v,h=>by cases v<;>simp only [gw,Bool.false_eq_true] at h
theorem fF(E:b8 t ρ1 ρ2 σ):∀ (l m:List V),mq t σ l m=true→V.af ρ2 (AK σ ρ1 π1) l=V.af ρ1 π1 m
 | [],[],_=>rfl
 | [],_::_,h=>by simp [mq] at h
 | _::_,[],h=>by simp [mq] at h
 | p::l,v::m,h=>by
  obtain⟨h1,h2,_⟩:=az h
  simp only [V.af,yb E p v h1,fF E l m h2]
end
theorem qf {l:List (Nat×Nat)} {f:Nat}:∀ {n:Nat},vU l f n=true→∀ c,c<n→RU l (f+c)=false
 | 0,_,c,hc=>by omega
 | n+1,h,c,hc=>by
  unfold vU at h
  split at h
  ·cases h
  ·rename_i hn
   by_cases e:c=n
   ·subst e;exact hn
   ·exact qf h c (by omega)
theorem wI(A:Agree t ρ1 ρ2){f c:Nat} (h:RU t.ts (f+c)=false) (k:CK) (j:Int):k.sym ρ2 f c j=k.sym ρ1 f c j:=by
 cases k<;>simp only [CK.sym,A.f1 _ h]
theorem A.iP(G:Agree t ρ1 ρ2){n:Nat}(k:CK){c:Nat}(hc:c<n)(j:Int):∀ a:A,a.free t n=true→a.den ρ2 k c j=a.den ρ1 k c j
 | .base f,h=>wI G (qf h c hc) k j
 | .fill x,h=>(X.iP G x h).1
 | .put a i c' x,h=>by
  simp only [A.free,Bool.and_eq_true] at h
  simp only [A.den,(X.iP G i h.2.1).1,(X.iP G x h.2.2).1,A.iP G k hc j a h.1]
theorem X4(E:b8 t ρ1 ρ2 σ){ks:List CK}{p a:A}(h:X3 t σ ks p a=true){c:Nat}{k:CK} (hk:ks[c]?=some k) (j:Int):k.val (p.den ρ2 k c j)=k.val (a.den ρ1 k c j):=by
 have hc:=(List.getElem?_eq_some_iff.1 hk).1
 unfold X3 at h
 split at h
 ·rename_i f
  split at h
  ·rename_i ks' b hl
   split at h
   ·rename_i hks
    obtain rfl:=CK.bD hks
    rw [←A.beq_eq h]
    exact E.a f ks b hl c k hk j
   ·cases h
  ·split at h
   ·rename_i hn
    rw [←A.beq_eq h]
    simp only [A.den,wI E.cE (qf hn c hc)]
   ·cases h
 ·split at h
  ·rename_i hf
   rw [←A.beq_eq h,A.iP E.cE k hc j _ hf]
  ·cases h
theorem Qb(E:b8 t ρ1 ρ2 σ){ks:List CK}{p a:A}(h:X3 t σ ks p a=true){n:Nat}{get:Nat→Option Value}(hr:jA ρ1 a ks n get):jA ρ2 p ks n get:=fun j c k hj hk=>by
 rw [X4 E h hk]
 exact hr j c k hj hk
theorem Gw(E:b8 t ρ1 ρ2 σ):∀ {l m:List (V×V)},Gv t σ l m=true→entriesOf ρ2 (AK σ ρ1 π1) l=entriesOf ρ1 π1 m
 | [],[],_=>rfl
 | [],_::_,h=>by simp [Gv] at h
 | _::_,[],h=>by simp [Gv] at h
 | (k,v)::l,(j,u)::m,h=>by
  obtain⟨h1,h2,h3,_⟩:=az h
  have:=Gw E h3
  simp only [entriesOf] at this
  simp only [entriesOf,List.map_cons,yb E _ _ h1,yb E _ _ h2,this]
theorem Gu:∀ {l m:List bL},wY σ l m=true→l.map (bL.ae ρ2 (AK σ ρ1 π1))=m.map (bL.ae ρ1 π1)
 | [],[],_=>rfl
 | [],_::_,h=>by simp [wY] at h
 | .mark b::l,[],h=>by simp [wY] at h
 | .fn _ _ _::l,[],h=>by simp [wY] at h
 | .fn _ _ _::l,_::_,h=>by simp [wY] at h
 | .mark b::l,.fn _ _ _::m,h=>by simp [wY] at h
 | .mark b::l,.mark c::m,h=>by
  obtain⟨h1,h2,_⟩:=az h
  simp only [List.map_cons,bL.ae,gv (ρ1:=ρ1) (π1:=π1) h1,Gu h2]
theorem RF(E:b8 t ρ1 ρ2 σ){i:Nat}(hu:look σ.u i=none){p o:au}(h:B5 t σ i p o=true){ob:Obj} (ho:o.is ρ1 π1 (σ.name i) ob):p.is ρ2 (AK σ ρ1 π1) i ob:=by
 have hi:=eA (ρ1:=ρ1) (π1:=π1) hu
 unfold B5 at h
 split at h
 ·obtain⟨h1,h2,h3,_⟩:=az h
  obtain rfl:=Nat.eq_of_beq_eq_true h1
  obtain rfl:=gD h2
  obtain⟨spare,e1,e2⟩:=ho
  have e3:=fF (π1:=π1) E _ _ h3
  have e4:=congrArg List.length e3
  rw [ay,ay] at e4
  exact⟨spare,by rw [e3];exact e1,by rw [e4,hi];exact e2⟩
 ·obtain⟨ms,clock,e1,e2,e3⟩:=ho
  have e4:=Gw (π1:=π1) E h
  exact⟨ms,clock,e1,by rw [e4];exact e2,by rw [e4];exact e3⟩
 ·obtain⟨h1,h2,h3,h4,h5,h6⟩:=az h
  obtain⟨h7,h8,_⟩:=az h6
  obtain rfl:=eE h1
  obtain rfl:=rm h2
  obtain rfl:=tG h5
  obtain rfl:=g7 h7
  obtain rfl:=g7 h8
  obtain⟨fn,e1⟩:=ho
  exact⟨fn,by rw [fF E _ _ h3,gv h4];exact e1⟩
 ·exact ho
 ·exact ho
 ·obtain⟨h1,h2,_⟩:=az h
  obtain rfl:=Nat.eq_of_beq_eq_true h1
  obtain⟨⟨ty,fr,e1⟩,e2⟩:=ho
  exact⟨⟨ty,fr,by rw [fF E _ _ h2];exact e1⟩,by rw [E.cE.ro];exact e2⟩
 ·obtain⟨h1,h2,h3,h4,h5,_⟩:=az h
  obtain rfl:=Nat.eq_of_beq_eq_true h1
  obtain rfl:=Nat.eq_of_beq_eq_true h4
  have hn:=Nat.eq_of_beq_eq_true h5
  obtain⟨⟨e1,e2,cs,ty,fr,e3,e4⟩,e5⟩:=ho
  rw [hn] at e1 e2 e4
  have e6:=fF (π1:=π1) E _ _ h2
  refine⟨⟨by rw [E.cE.win];exact e1,by rw [E.cE.win,hi,hn];exact e2,cs,ty,fr,e3,fun j v hj hlt=>?_⟩,by rw [E.cE.ro];exact e5⟩
  rw [eK E h3] at hlt
  have e7:=congrArg (fun l=>l[j]?) e6
  simp only [bk,hj,Option.map_some] at e7
  rw [E.cE.win]
  cases hq:(‹List V›)[j]? with
  | none=>rw [hq] at e7;simp at e7
  | some u=>
   rw [hq] at e7
   simp only [Option.map_some,Option.some.injEq] at e7
   rw [e7]
   exact e4 j u hq hlt
 ·exact ho
 ·obtain⟨since,last,e1⟩:=ho
  exact⟨since,last,by rw [gv h];exact e1⟩
 ·obtain⟨h1,h2,h3,h4,h5,_⟩:=az h
  obtain rfl:=CK.bD h2
  obtain rfl:=Nat.eq_of_beq_eq_true h4
  obtain rfl:=cQ h5
  obtain⟨cs,e1,e2,e3,e4⟩:=ho
  refine⟨cs,e1,by rw [eK E h3];exact e2,fun hw=>by rw [hi];exact e3 hw,?_⟩
  rw [eK E h3]
  exact Qb E h1 e4
 ·obtain⟨h1,h2,h3,h4,h5,h6⟩:=az h
  obtain rfl:=Nat.eq_of_beq_eq_true h1
  obtain rfl:=Nat.eq_of_beq_eq_true h2
  obtain rfl:=CK.bD h3
  have hn:=Nat.eq_of_beq_eq_true h6
  obtain⟨⟨e1,e2,cs,ty,fr,e3,e4⟩,e5⟩:=ho
  rw [hn] at e1 e2 e4
  refine⟨⟨by rw [E.cE.win];exact e1,by rw [E.cE.win,hi,hn];exact e2,cs,ty,fr,e3,?_⟩,by rw [E.cE.ro];exact e5⟩
  rw [eK E h4,E.cE.win]
  intro j c k hj hk
  have:=e4 j c k hj hk
  simp only [A.den] at this ⊢
  rw [wI E.cE (qf h5 c (List.getElem?_eq_some_iff.1 hk).1) k j]
  exact this
 ·cases h
theorem kt{i:Nat}{p o:au}(h:B5 t σ i p o=true):p.bG=o.bG:=by
 unfold B5 at h
 split at h<;>first | rfl | cases h
theorem g9{h:H}:∀ {l:List (Nat×au)} {i:Nat} {p:au},Np t σ h l=true→(i,p)∈l→look σ.u i=none∧∃ o,h.get (σ.name i)=some o∧B5 t σ i p o=true
 | [],i,p,_,hm=>by simp at hm
 | (j,q)::l,i,p,hf,hm=>by
  unfold Np at hf
  split at hf
  ·cases hf
  ·rename_i hu
   split at hf
   ·rename_i o ho
    split at hf
    ·rename_i hq
     rcases List.mem_cons.1 hm with e | hm
     ·obtain⟨rfl,rfl⟩:i=j∧p=q:=by simpa using e
      exact⟨hu,o,ho,hq⟩
     ·exact g9 hf hm
    ·cases hf
   ·cases hf
theorem eY{i:Nat}{o:au}:∀ {l:List (Nat×au)},(rS l).get i=some o→(i,o)∈l
 | [],h=>by simp only [rS,T.get_nil] at h;cases h
 | (j,p)::l,h=>by
  unfold rS at h
  by_cases e:j=i
  ·subst e
   rw [T.aN] at h
   obtain rfl:=Option.some.inj h
   exact List.mem_cons_self
  ·rw [T.aC _ _ e] at h
   exact List.mem_cons_of_mem _ (eY h)
theorem Pa(E:b8 t ρ1 ρ2 σ):∀ x:X,x.dw t σ=true→(x.dr σ).den ρ1=x.den ρ2:=by
 intro x
 induction x with
 | lit n=>exact fun _=>rfl
 | var i=>
  intro h
  unfold X.dr
  split
  ·rename_i y hy
   exact (E.v i y hy).symm
  ·rename_i hn
   simp only [X.dw,hn,Bool.not_eq_true'] at h
   exact (E.cE.v i h).symm
 | add a b ia ib=>intro h;simp only [X.dw,Bool.and_eq_true] at h;simp only [X.dr,X.den,ia h.1,ib h.2]
 | sub a b ia ib=>intro h;simp only [X.dw,Bool.and_eq_true] at h;simp only [X.dr,X.den,ia h.1,ib h.2]
 | mul a b ia ib=>intro h;simp only [X.dw,Bool.and_eq_true] at h;simp only [X.dr,X.den,ia h.1,ib h.2]
 | lt a b ia ib=>intro h;simp only [X.dw,Bool.and_eq_true] at h;simp only [X.dr,X.den,ia h.1,ib h.2]
 | le a b ia ib=>intro h;simp only [X.dw,Bool.and_eq_true] at h;simp only [X.dr,X.den,ia h.1,ib h.2]
 | eq a b ia ib=>intro h;simp only [X.dw,Bool.and_eq_true] at h;simp only [X.dr,X.den,ia h.1,ib h.2]
 | _=>intro h;simp [X.dw] at h
theorem Nb{ρ:Env}{pc:PC}{x:X}{b:Bool}(hp:av ρ pc)(h:XU pc x b=true):x.tt ρ=b:=by
 unfold XU at h
 split at h
 ·rename_i c hc
  rw [dF hp hc,cQ h]
 ·split at h
  ·rename_i c hc
   rw [u5 hp hc,cQ h]
  ·cases h
theorem Gx(E:b8 t ρ1 ρ2 σ){pc:PC}(hp:av ρ1 pc):∀ {l:PC},Nq t σ pc l=true→av ρ2 l
 | [],_=>fun f hf=>by simp at hf
 | (x,b)::l,h=>by
  unfold Nq at h
  split at h
  ·rename_i hx
   split at h
   ·rename_i hd
    intro f hf
    rcases List.mem_cons.1 hf with rfl | hf
    ·have:=Nb hp hd
     dsimp only
     rw [X.tt,←Pa E x hx]
     exact this
    ·exact Gx E hp h f hf
   ·cases h
  ·cases h
end
section
variable {ρ:Env} {π π':Pl}
mutual
theorem V.mn:∀ v:V,(∀ b∈v.n8,π b=π' b)→v.ae ρ π=v.ae ρ π'
 | .int _ _,_=>rfl
 | .bool _,_=>rfl
 | .str _,_=>rfl
 | .ptr b o,h=>by simp only [V.ae,h b (by simp [V.n8])]
 | .nilptr,_=>rfl
 | .slice b o n c,h=>by
  have hb:=h b (by simp [V.n8])
  cases c with
  | known m=>simp only [V.ae,Cp.ae,hb]
  | room b' o' m=>simp only [V.ae,Cp.ae,hb,h b' (by simp [V.n8,Cp.n8])]
 | .nilslice,_=>rfl
 | .map b,h=>by simp only [V.ae,h b (by simp [V.n8])]
 | .nilmap,_=>rfl
 | .func f a c,h=>by simp only [V.ae,V.cZ a fun b hb=>h b (by simp [V.n8,hb]),V.cZ c fun b hb=>h b (by simp [V.n8,hb])]
 | .yield b,h=>by simp only [V.ae,h b (by simp [V.n8])]
 | .nilfunc,_=>rfl
 | .iface t v,h=>by simp only [V.ae,V.mn v fun b hb=>h b (by simpa [V.n8] using hb)]
 | .niliface,_=>rfl
 | .agg l,h=>by simp only [V.ae,V.cZ l fun b hb=>h b (by simpa [V.n8] using hb)]
 | .tuple l,h=>by simp only [V.ae,V.cZ l fun b hb=>h b (by simpa [V.n8] using hb)]
 | .wptr b o,_=>rfl
 | .wslice b o n c,_=>rfl
 | .ite c a b,h=>by simp only [V.ae,V.mn a fun b hb=>h b (by simp [V.n8,hb]),V.mn b fun b hb=>h b (by simp [V.n8,hb])]
 | .sptr b o n i,h=>by simp only [V.ae,h b (by simp [V.n8])]
 | .rest b o l s,h=>by simp only [V.ae,h b (by simp [V.n8])]
 | .xslice w b off es n c,h=>by
  have hb:=h b (by simp [V.n8])
  cases c<;>simp only [V.ae,XC.ae,cR,hb]
 | .xptr w b i es c,h=>by simp only [V.ae,cR,h b (by simp [V.n8])]
 | .any k,h=>by simp only [V.ae,h k (by simp [V.n8])]
theorem V.cZ:∀ l:List V,(∀ b∈V.qT l,π b=π' b)→V.af ρ π l=V.af ρ π' l
 | [],_=>rfl
 | v::l,h=>by simp only [V.af,V.mn v fun b hb=>h b (by simp [V.qT,hb]),V.cZ l fun b hb=>h b (by simp [V.qT,hb])]
end
theorem pS:∀ l:List bL,(∀ b∈Bo l,π b=π' b)→l.map (bL.ae ρ π)=l.map (bL.ae ρ π')
 | [],_=>rfl
 | .mark b::l,h=>by simp only [List.map_cons,bL.ae,h b (by simp [Bo]),pS l fun c hc=>h c (by simp [Bo,hc])]
 | .fn f a c::l,h=>by
  simp only [List.map_cons,bL.ae,V.cZ a fun b hb=>h b (by simp [Bo,hb]),V.cZ c fun b hb=>h b (by simp [Bo,hb]),pS l fun c hc=>h c (by simp [Bo,hc])]
theorem va:∀ l:List (V×V),(∀ b∈O5 l,π b=π' b)→entriesOf ρ π l=entriesOf ρ π' l
 | [],_=>rfl
 | (k,v)::l,h=>by
  have:=va l fun c hc=>h c (by simp [O5,hc])
  simp only [entriesOf] at this
  simp only [entriesOf,List.map_cons,V.mn k fun b hb=>h b (by simp [O5,hb]),V.mn v fun b hb=>h b (by simp [O5,hb]),this]
theorem au.RY{i:Nat}{ob:Obj}(hi:π i=π' i):∀ {o:au},(∀ b∈o.n8,π b=π' b)→o.is ρ π i ob→o.is ρ π' i ob
 | .cells c e w,h,⟨spare,h1,h2⟩=>⟨spare,by rw [←V.cZ c h];exact h1,by rw [←hi];exact h2⟩
 | .map es,h,⟨ms,clock,h1,h2,h3⟩=>⟨ms,clock,h1,by rw [←va es h];exact h2,by rw [←va es h];exact h3⟩
 | .loop s p tm ps as bd d,h,⟨fn,h1⟩=>⟨fn,by rw [←V.cZ tm fun b hb=>h b (by simp [au.n8,hb]),←h d (by simp [au.n8])];exact h1⟩
 | .deferred none,_,h1=>h1
 | .deferred (some l),h,h1=>by
  have h1':ob=.deferred (some (l.map (bL.ae ρ π))):=h1
  show ob=.deferred (some (l.map (bL.ae ρ π')))
  rw [←pS l h]
  exact h1'
 | .ro g c,h,⟨⟨t,fr,h1⟩,h2⟩=>⟨⟨t,fr,by rw [←V.cZ c h];exact h1⟩,h2⟩
 | .win g c n es,h,⟨⟨h1,h2,cs,t,fr,h3,h4⟩,h5⟩=>⟨⟨h1,by rw [←hi];exact h2,cs,t,fr,h3,fun j v hj hlt=>by
   have e:=V.cZ (ρ:=ρ) c h
   have e2:=congrArg (fun l=>l[j]?) e
   simp only [bk,hj,Option.map_some,Option.some.injEq] at e2
   rw [←e2]
   exact h4 j v hj hlt⟩,h5⟩
 | .iter none,_,h1=>h1
 | .iter (some b),h,⟨since,last,h1⟩=>⟨since,last,by rw [←h b (by simp [au.n8])];exact h1⟩
 | .arr a ks n e w,_,⟨cs,h1,h2,h3,h4⟩=>⟨cs,h1,h2,by rw [←hi];exact h3,h4⟩
 | .warr g f ks n,_,⟨⟨h1,h2,h3⟩,h4⟩=>⟨⟨h1,by rw [←hi];exact h2,h3⟩,h4⟩
end
end Go.Proofs.YtmickljjofbmiaaGreatDoor
namespace Go.Proofs.YtmickljjofbmiaaGreatDoor
open Go
theorem lj{a:Nat}:∀ {l:List Nat},eS a l=true→a∈l
 | [],h=>by simp [eS] at h
 | b::l,h=>by
  simp only [eS,Bool.or_eq_true] at h
  rcases h with h | h
  ·rw [Nat.eq_of_beq_eq_true h]
   exact List.mem_cons_self
  ·exact List.mem_cons_of_mem _ (lj h)
theorem yB:∀ {l m:List Nat},C9 l m=true→∀ a∈l,a∈m
 | [],_,_,a,ha=>by simp at ha
 | b::l,m,h,a,ha=>by
  unfold C9 at h
  split at h
  ·rename_i hb
   rcases List.mem_cons.1 ha with rfl | ha
   ·exact lj hb
   ·exact yB h a ha
  ·cases h
theorem kC{kn:List Nat}:∀ {l:List (Nat×au)},yi kn l=true→∀ i o,(i,o)∈l→i∈kn∧∀ b∈o.n8,b∈kn
 | [],_,i,o,h=>by simp at h
 | (j,q)::l,h,i,o,hm=>by
  unfold yi at h
  split at h
  ·rename_i hj
   split at h
   ·rename_i hq
    rcases List.mem_cons.1 hm with e | hm
    ·obtain⟨rfl,rfl⟩:i=j∧o=q:=by simpa using e
     exact⟨lj hj,yB hq⟩
    ·exact kC h i o hm
   ·cases h
  ·cases h
theorem sJ{n:Nat}:∀ {l:List Nat},M7 n l=true→∀ i∈l,i<n
 | [],_,i,h=>by simp at h
 | j::l,h,i,hm=>by
  unfold M7 at h
  split at h
  ·rename_i hj
   rcases List.mem_cons.1 hm with rfl | hm
   ·exact Nat.le_of_ble_eq_true hj
   ·exact sJ h i hm
  ·cases h
theorem zx{kn:List Nat}:∀ {n:Nat},yd kn n=true→∀ g,g<n→g∈kn
 | 0,_,g,h=>by omega
 | n+1,h,g,hg=>by
  unfold yd at h
  split at h
  ·rename_i hn
   by_cases e:g=n
   ·subst e;exact lj hn
   ·exact zx h g (by omega)
  ·cases h
theorem dh{σ:Mt}{n:Nat}:∀ {l:List Nat},jK σ n l=true→∀ i∈l,i<n→look σ.u i=none∧σ.name i=i
 | [],_,i,h,_=>by simp at h
 | j::l,h,i,hm,hi=>by
  unfold jK at h
  split at h
  ·split at h
   ·cases h
   ·rename_i hu
    split at h
    ·rename_i hn
     rcases List.mem_cons.1 hm with rfl | hm
     ·exact⟨hu,Nat.eq_of_beq_eq_true hn⟩
     ·exact dh h i hm hi
    ·cases h
  ·rename_i hj
   rcases List.mem_cons.1 hm with rfl | hm
   ·have:=Nat.ble_eq_true_of_le (show i+1≤n from hi)
    exact absurd (show Nat.blt i n=true from this) (by rw [hj];simp)
   ·exact dh h i hm hi
theorem Il{σ:Mt}:∀ {l:List (Nat×au)},jr (kF σ l)=true→∀ i j o o',(i,o)∈l→(j,o')∈l→σ.name i=σ.name j→i=j
 | [],_,i,_,_,_,h,_,_=>by simp at h
 | (k,q)::l,h,i,j,o,o',hi,hj,e=>by
  simp only [kF,jr,Bool.and_eq_true,Bool.not_eq_true'] at h
  have notin:∀ m p,(m,p)∈l→σ.name m≠σ.name k:=by
   intro m p hm he
   have:∀ {l':List (Nat×au)},(m,p)∈l'→eS (σ.name m) (kF σ l')=true:=by
    intro l'
    induction l' with
    | nil=>intro h;simp at h
    | cons x l' ih=>
     intro h
     obtain⟨a,b⟩:=x
     rcases List.mem_cons.1 h with e | h
     ·obtain⟨rfl,rfl⟩:m=a∧p=b:=by simpa using e
      simp [kF,eS]
     ·simp only [kF,eS,Bool.or_eq_true]
      exact .inr (ih h)
   have:=this hm
   rw [he,h.1] at this
   cases this
  rcases List.mem_cons.1 hi with e1 | hi'
  ·have e3:i=k:=congrArg Prod.fst e1
   rcases List.mem_cons.1 hj with e2 | hj'
   ·rw [e3,show j=k from congrArg Prod.fst e2]
   ·rw [e3] at e
    exact absurd e.symm (notin j o' hj')
  ·rcases List.mem_cons.1 hj with e2 | hj'
   ·rw [show j=k from congrArg Prod.fst e2] at e
    exact absurd e (notin i o hi')
   ·exact Il h.2 i j o o' hi' hj' e
theorem kK{ng:Nat}{h:H}{n:Nat}:∀ {l:List Nat},nC ng h n l=true→∀ i∈l,i<n→i<ng∨∃ o,h.get i=some o
 | [],_,i,hm,_=>by simp at hm
 | j::l,he,i,hm,hi=>by
  unfold nC at he
  have lt:∀ a b:Nat,a<b→Nat.blt a b=true:=fun a b hab=>Nat.ble_eq_true_of_le hab
  split at he
  ·rename_i hj
   rcases List.mem_cons.1 hm with rfl | hm
   ·rw [lt _ _ hi] at hj;cases hj
   ·exact kK he i hm hi
  ·split at he
   ·rename_i hg
    rcases List.mem_cons.1 hm with rfl | hm
    ·exact .inl (Nat.le_of_ble_eq_true hg)
    ·exact kK he i hm hi
   ·split at he
    ·rename_i o ho
     rcases List.mem_cons.1 hm with rfl | hm
     ·exact .inr ⟨o,ho⟩
     ·exact kK he i hm hi
    ·cases he
theorem fg{n:Nat}{m:List Nat}:∀ {l:List Nat},gE n m l=true→∀ i∈l,i<n→i∈m
 | [],_,i,hm,_=>by simp at hm
 | j::l,he,i,hm,hi=>by
  unfold gE at he
  split at he
  ·rename_i hj
   rcases List.mem_cons.1 hm with rfl | hm
   ·rw [show Nat.blt i n=true from Nat.ble_eq_true_of_le hi] at hj;cases hj
   ·exact fg he i hm hi
  ·split at he
   ·rename_i hj
    rcases List.mem_cons.1 hm with rfl | hm
    ·exact lj hj
    ·exact fg he i hm hi
   ·cases he
theorem CO{ng n:Nat}{kn:List Nat}:∀ {l:List OutP} {k:Nat} {O:OutP},E1 ng n kn l=true→nth l k=some O→pf ng O.pat=true∧n≤O.pat.n∧gE n kn O.pat.kn=true
 | [],k,O,_,h=>by rw [bO] at h;simp at h
 | Q::l,k,O,he,h=>by
  unfold E1 at he
  obtain⟨h1,h2,h3,h4,_⟩:=az he
  rw [bO] at h
  cases k with
  | zero=>
   obtain rfl:=Option.some.inj (show some Q=some O from by simpa using h)
   exact⟨h1,Nat.le_of_ble_eq_true h2,h3⟩
  | succ k=>exact CO h4 (k:=k) (by rw [bO];simpa using h)
section
variable {P:Program} {cx:Cx} {ρ:Env}
theorem mr{t:Tch}{σ:Mt}{n ng:Nat}{p:n5}{fr:Fr}{st:St}{ρ1 ρ2:Env}{S1:Nat→Prop}{π1:Pl}{w:World}{a:Act}(E:b8 t ρ1 ρ2 σ)(hf:fit t σ n p fr st=true)(hp:pf ng p=true)(hng:cx.ng=ng)(hn:ng≤n)
  (h:cg cx ρ1 S1 π1 st w) (hfr:cY ρ1 S1 π1 fr a):cg cx ρ2 (·∈p.kn) (AK σ ρ1 π1) p.st w∧cY ρ2 (·∈p.kn) (AK σ ρ1 π1) p.fr a:=by
 unfold fit at hf
 obtain⟨f1,f2,f3,f4,f5,f6⟩:=az hf
 unfold pf at hp
 obtain⟨p1,p2,p3,p4,p5,_⟩:=az hp
 have outer:=dh f6
 constructor
 ·refine⟨Gx E h.pc f5,⟨fun π hk=>⟨fun i o hi=>?_,fun i j o o' hi hj e=>?_⟩,fun i o hi=>(kC p4 i o (eY hi)).1⟩,fun g hg=>?_,fun i hi hm=>?_⟩
  ·have hm:=eY hi
   obtain⟨k1,k2⟩:=kC p4 i o hm
   obtain⟨hu,q,hq,hfo⟩:=g9 f3 hm
   obtain⟨ob,g1,g2⟩:=(h.at_.rep π1 fun _ _=>rfl).obj _ q hq
   refine⟨ob,?_,?_⟩
   ·rw [hk i k1,eA hu]
    exact g1
   ·exact au.RY (hk i k1).symm (fun b hb=>(hk b (k2 b hb)).symm) (RF E hu hfo g2)
  ·have hmi:=eY hi
   have hmj:=eY hj
   obtain⟨hui,qi,hqi,hfi⟩:=g9 f3 hmi
   obtain⟨huj,qj,hqj,hfj⟩:=g9 f3 hmj
   rw [hk i (kC p4 i o hmi).1,hk j (kC p4 j o' hmj).1,eA hui,eA huj] at e
   rcases (h.at_.rep π1 fun _ _=>rfl).inj _ _ _ _ hqi hqj e with e | e
   ·exact .inl (Il f4 i j o o' hmi hmj e)
   ·exact .inr ⟨(kt hfi).trans e.1,(kt hfj).trans e.2⟩
  ·rw [hng] at hg
   have hm:=zx p1 g hg
   obtain⟨hu,hnm⟩:=outer g hm (by omega)
   refine⟨hm,?_⟩
   rw [eA hu,hnm]
   exact (h.glob g (by rw [hng];exact hg)).2
  ·have:=sJ p5 i hm
   have hi':p.n≤i:=hi
   omega
 ·obtain⟨tc,h1,h2,h3⟩:=hfr
  refine⟨tc,h1,fun π hk=>?_,fun π hk=>?_⟩
  ·rw [V.cZ p.fr.tm fun b hb=>hk b (yB p2 b hb),fF E _ _ f1]
   exact h2 π1 fun _ _=>rfl
  ·rw [pS p.fr.df fun b hb=>hk b (yB p3 b hb),Gu f2]
   exact h3 π1 fun _ _=>rfl
structure Trk (n:Nat) (kn:List Nat) (h:H) (π0:Pl) (h0:H) (w0:World) (π1:Pl) (w1:World):Prop where
 base:∀ i∈kn,i<n→π1 i=π0 i
 sub:∀ i o,h.get i=some o→w0.heap.size≤(π1 i).1∨∃ i0 o0,h0.get i0=some o0∧(π0 i0).1=(π1 i).1∧(o0.bG=true→o.bG=true)
 keep:∀ j,j<w0.heap.size→(∀ i o,h0.get i=some o→(π0 i).1=j→o.bG=true)→w1.heap[j]?=w0.heap[j]?
 size:w0.heap.size≤w1.heap.size
 same:w1.tape=w0.tape∧w1.os=w0.os∧w1.output=w0.output
theorem Trk.go{n:Nat}{kn kn':List Nat}{I p:n5}{π0 π1 π':Pl}{h0:H}{w0 w1 w':World}{ρ1:Env}{t:Tch}{σ:Mt}{fr:Fr}{st:St}{m:Nat}(T:Trk n kn I.st.h π0 h0 w0 π1 w1) (g:cS ρ1 (·∈kn) π1 I.st.h w1 m π' st.h w' st.n)
  (hf:fit t σ n p fr st=true) (hkn:∀ i∈kn',i<n→i∈kn) (hp:∀ i∈kn',i<n→look σ.u i=none∧σ.name i=i):Trk n kn' p.st.h π0 h0 w0 (AK σ ρ1 π') w':=by
 unfold fit at hf
 obtain⟨_,_,f3,_⟩:=az hf
 refine⟨fun i hi hn=>?_,fun i o hi=>?_,fun j hj hne=>?_,Nat.le_trans T.size g.size,⟨g.same.1.trans T.same.1,g.same.2.1.trans T.same.2.1,g.same.2.2.trans T.same.2.2⟩⟩
 ·obtain⟨hu,hnm⟩:=hp i hi hn
  rw [eA hu,hnm,g.known i (hkn i hi hn)]
  exact T.base i (hkn i hi hn) hn
 ·obtain⟨hu,q,hq,hfo⟩:=g9 f3 (eY hi)
  rw [eA hu,kt hfo]
  rcases g.sub _ q hq with h1 | ⟨i0,o0,h1,h2,z⟩
  ·exact .inl (Nat.le_trans T.size h1)
  ·rw [←h2]
   exact (T.sub i0 o0 h1).imp id fun⟨i1,o1,h3,h4,z'⟩=>⟨i1,o1,h3,h4,fun q=>z (z' q)⟩
 ·rw [g.keep j (Nat.lt_of_lt_of_le hj T.size) fun i o hi e=>?_,T.keep j hj hne]
  rcases T.sub i o hi with h1 | ⟨i0,o0,h1,h2,z⟩
  ·omega
  ·exact z (hne i0 o0 h1 (h2.trans e))
theorem ou{t:Tch}{n:Nat}{I:n5}{outs:List OutP}{ρ1:Env}:∀ {raw:cC} {ll:R LL} {x:LL},kZ t n I outs raw ll=true→ll.ai ρ1=some x→x=.never∨∃ e fr st,raw.ai ρ1=some (e,fr,st)∧xZ t n I outs e fr st x=true
 | .br c a b,ll,x,h,hs=>by
  unfold kZ at h
  split at h
  ·rename_i d u v
   split at h
   ·rename_i hc
    obtain rfl:=X.beq_eq hc
    split at h
    ·rename_i h1
     simp only [R.ai] at hs ⊢
     split at hs
     ·rename_i hcc
      rw [if_pos hcc]
      exact ou h1 hs
     ·rename_i hcc
      rw [if_neg hcc]
      exact ou h hs
    ·cases h
   ·cases h
  ·cases h
 | .ok (e,fr,st),ll,x,h,hs=>by
  unfold kZ at h
  split at h
  ·simp only [R.ai,Option.some.injEq] at hs
   subst hs
   exact .inr ⟨e,fr,st,rfl,h⟩
  ·cases h
 | .stuck _,ll,x,h,hs=>by
  unfold kZ at h
  split at h
  ·simp only [R.ai,Option.some.injEq] at hs
   exact .inl hs.symm
  ·cases h
theorem B2{e f:Ex}(h:kq e f=true):e=f∧((e=.normal)∨(∃ i,e=.exit i)∨e=.ret):=by
 unfold kq at h
 split at h
 ·exact⟨rfl,.inl rfl⟩
 ·rw [Nat.eq_of_beq_eq_true h]
  exact⟨rfl,.inr (.inl ⟨_,rfl⟩)⟩
 ·exact⟨rfl,.inr (.inr rfl)⟩
 ·cases h
theorem Px{cxB:Cx}{L:LoopI}{t:Tch}{I:n5}{outs:List OutP}{ll:R LL}{N ng:Nat}(σ0:Mt)(Inv:Env→Prop)(μ:Env→Nat)
  (hcode:∀ ρ1,Inv ρ1→fP P cxB ρ1 (ev cxB N).code) (hngB:cxB.ng=ng) (hng:cx.ng=ng)
  (hchk:kZ t L.st.n I outs ((ev cxB N).code L.rnd L.body I.fr I.st) ll=true) (hst:LG ng L I outs=true) (hent:fit t σ0 L.st.n I L.fr L.st=true)
  (h0:∃ ρ0,b8 t ρ ρ0 σ0∧Inv ρ0)
  (hstep:∀ ρ1,Inv ρ1→av ρ1 I.pc→∃ x,ll.ai ρ1=some x∧match x with
   | .next σ=>∃ ρ2,b8 t ρ1 ρ2 σ∧Inv ρ2∧μ ρ2<μ ρ1
   | .out k σ=>b8 t ρ1 ρ σ∧∃ O,nth outs k=some O∧L.res.ai ρ=some (O.ex,O.pat.fr,⟨O.pat.st.h,O.pat.st.n,L.st.pc⟩)
   | .never=>False):oc P cx ρ L:=by
 intro res hres S π0 w a ro n hh hf hr
 unfold LG at hst
 obtain⟨s1,s2,s3,s4,s5,_⟩:=az hst
 have hgn:=Nat.le_of_ble_eq_true s4
 have hSn:∀ i,S i→i<L.st.n:=fun i hi=>Nat.lt_of_not_le fun hle=>hh.fresh i hle hi
 have outS:∀ i∈I.kn,i<L.st.n→S i:=by
  intro i hi hlt
  rcases kK s3 i hi hlt with h1 | ⟨o,h1⟩
  ·exact (hh.glob i (by rw [hng];exact h1)).1
  ·exact hh.at_.dom i o h1
 have cB:∀ {ρ1 K π1 st1 w1},cg cx ρ1 K π1 st1 w1→cg cxB ρ1 K π1 st1 w1:=fun h=>⟨h.pc,h.at_,fun g hg=>h.glob g (by rw [hng,←hngB];exact hg),h.fresh⟩
 have cA:∀ {ρ1 K π1 st1 w1},cg cxB ρ1 K π1 st1 w1→cg cx ρ1 K π1 st1 w1:=fun h=>⟨h.pc,h.at_,fun g hg=>h.glob g (by rw [hngB,←hng];exact hg),h.fresh⟩
 -- the rounds
 have key:∀ (m:Nat) (ρ1:Env) (π1:Pl) (w1:World) (a1:Act),μ ρ1=m→Inv ρ1→cg cx ρ1 (·∈I.kn) π1 I.st w1→cY ρ1 (·∈I.kn) π1 I.fr a1→Trk L.st.n I.kn I.st.h π0 L.st.h w π1 w1→
   gn (FN ro) n P L.body (dA ρ S π0 L.st w res) a1 w1:=by
  intro m
  induction m using Nat.strongRecOn with
  | _ m ih=>
   intro ρ1 π1 w1 a1 hm hInv hh1 hf1 T1
   obtain⟨x,hx,hcase⟩:=hstep ρ1 hInv hh1.pc
   have hrnd:jy (·∈I.kn) π1 L.rnd ro:=by
    cases hq:L.rnd with
    | none=>
     rw [hq] at hr
     cases ro with
     | none=>trivial
     | some _=>exact hr.elim
    | some l=>
     rw [hq] at hr s5
     cases ro with
     | none=>exact hr.elim
     | some r=>
      have hl:=lj s5
      exact⟨hl,by rw [T1.base l hl (hSn l hr.1)];exact hr.2⟩
   rcases ou hchk hx with rfl | ⟨e,fr,st,hraw,hleaf⟩
   ·exact hcase.elim
   refine nk (wpIn_mono (hcode ρ1 hInv L.rnd L.body I.fr I.st _ hraw _ π1 w1 a1 ro n (cB hh1) hf1 hrnd) ?_)
   rintro e' a' w' ⟨pc',π',g,hex,hfr⟩
   dsimp only at pc' g hex hfr
   have hh':=hh1.go g pc'
   cases x with
   | never=>exact hcase.elim
   | next σ=>
    unfold xZ at hleaf
    dsimp only at hleaf
    split at hleaf
    ·obtain rfl:e'=.normal:=hex
     obtain⟨ρ2,E2,hInv2,hlt⟩:=hcase
     obtain⟨k1,k2⟩:=mr E2 hleaf s1 hng hgn hh' hfr
     have houter:=dh (show jK σ L.st.n I.kn=true from (az (by unfold fit at hleaf;exact hleaf)).2.2.2.2.2)
     exact ih (μ ρ2) (by omega) ρ2 _ w' a' rfl hInv2 k1 k2 (T1.go g hleaf (fun i hi _=>hi) houter)
    ·cases hleaf
   | out k σ=>
    obtain⟨E2,O,hO,hLres⟩:=hcase
    rw [hres] at hLres
    obtain rfl:=Option.some.inj hLres
    obtain⟨o1,o2,o3⟩:=CO s2 hO
    unfold xZ at hleaf
    dsimp only at hleaf
    rw [hO] at hleaf
    dsimp only at hleaf
    split at hleaf
    rotate_left
    ·cases hleaf
    rename_i hexs
    obtain⟨rfl,hexc⟩:=B2 hexs
    have hfit:fit t σ L.st.n O.pat fr st=true:=by
     rcases hexc with h1 | ⟨i,h1⟩ | h1<;>rw [h1] at hleaf<;>first | exact hleaf | (simp at hleaf;done)
    have hne:O.ex≠.normal:=fun h1=>by rw [h1] at hleaf;simp at hleaf
    have hfr':cY ρ1 (Ext (·∈I.kn) I.st.n st.n) π' fr a':=by
     rcases hexc with h1 | ⟨i,h1⟩ | h1<;>rw [h1] at hfr<;>exact hfr
    obtain⟨k1,k2⟩:=mr E2 hfit o1 hng hgn hh' hfr'
    have houter:=dh (show jK σ L.st.n O.pat.kn=true from (az (by unfold fit at hfit;exact hfit)).2.2.2.2.2)
    have T2:=T1.go g hfit (fg o3) houter
    have hlt:=sJ (az (by unfold pf at o1;exact o1)).2.2.2.2.1
    let πX:Pl:=fun i=>if i<L.st.n then π0 i else AK σ ρ1 π' i
    have same:∀ i∈O.pat.kn,πX i=AK σ ρ1 π' i:=by
     intro i hi
     by_cases hlti:i<L.st.n
     ·simp only [πX,if_pos hlti,T2.base i hi hlti]
     ·simp only [πX,if_neg hlti]
    have ext:∀ i∈O.pat.kn,Ext S L.st.n O.pat.n i:=by
     intro i hi
     by_cases hlti:i<L.st.n
     ·exact .inl (outS i (fg o3 i hi hlti) hlti)
     ·exact .inr ⟨by omega,hlt i hi⟩
    have known:∀ π,a9 (Ext S L.st.n O.pat.n) π πX→a9 (·∈O.pat.kn) π (AK σ ρ1 π'):=fun π hk i hi=>(hk i (ext i hi)).trans (same i hi)
    have hdom:∀ i o,O.pat.st.h.get i=some o→i∈O.pat.kn:=fun i o hi=>k1.at_.dom i o hi
    have post:dA ρ S π0 L.st w (O.ex,O.pat.fr,⟨O.pat.st.h,O.pat.st.n,L.st.pc⟩) e' a' w':=by
     refine⟨hh.pc,πX,⟨o2,fun i hi=>by simp only [πX,if_pos (hSn i hi)],⟨fun π hk=>k1.at_.rep π (known π hk),fun i o hi=>ext i (hdom i o hi)⟩,fun i o hi=>?_,T2.keep,T2.size,T2.same⟩,?_,?_⟩
     ·rw [same i (hdom i o hi)]
      exact T2.sub i o hi
     ·dsimp only
      rcases hexc with h1 | ⟨i,h1⟩ | h1<;>rw [h1] at hex ⊢<;>exact hex
     ·dsimp only
      have:cY ρ (Ext S L.st.n O.pat.n) πX O.pat.fr a':=by
       obtain⟨tc,t1,t2,t3⟩:=k2
       exact⟨tc,t1,fun π hk=>t2 π (known π hk),fun π hk=>t3 π (known π hk)⟩
      rcases hexc with h1 | ⟨i,h1⟩ | h1<;>rw [h1]<;>exact this
    rcases hexc with h1 | ⟨i,h1⟩ | h1
    ·exact absurd h1 hne
    ·rw [h1] at hex
     obtain rfl:e'=.exit i:=hex
     exact post
    ·rw [h1] at hex
     obtain rfl:e'=.ret:=hex
     exact post
 -- the start
 obtain⟨ρ0,E0,hInv0⟩:=h0
 obtain⟨k1,k2⟩:=mr E0 hent s1 hng hgn hh hf
 obtain⟨_,_,f3,_,_,f6⟩:=az (by unfold fit at hent;exact hent)
 refine key _ ρ0 _ w a rfl hInv0 k1 k2 ⟨fun i hi hlt=>?_,fun i o hi=>?_,fun _ _ _=>rfl,Nat.le_refl _,rfl,rfl,rfl⟩
 ·obtain⟨hu,hnm⟩:=dh f6 i hi hlt
  rw [eA hu,hnm]
 ·obtain⟨hu,q,hq,hfo⟩:=g9 f3 (eY hi)
  rw [eA hu]
  exact .inr ⟨_,q,hq,rfl,fun z=>(kt hfo).trans z⟩
def LL.fx:LL→LL→Prop
 | .next σ,.next τ=>σ.v=τ.v∧σ.a=τ.a
 | .out k σ,.out j τ=>k=j∧σ.v=τ.v∧σ.a=τ.a
 | .never,.never=>True
 | _,_=>False
theorem Zl(p:n5)(fr:Fr)(st:St) (v:List (Nat×X)) (a:List (Nat×(List CK×A))):(lU p fr st v a).v=v∧(lU p fr st v a).a=a:=⟨rfl,rfl⟩
theorem LL.fh(x:LL):x.fx x:=by cases x<;>first | trivial | exact⟨rfl,rfl⟩ | exact⟨rfl,rfl,rfl⟩
theorem R.Tf{α:Type}{c:X}{x y x' y':R α}{P:α→α→Prop}{ρ:Env}(h1:∀ l,x.ai ρ=some l→∃ l',x'.ai ρ=some l'∧P l l')(h2:∀ l,y.ai ρ=some l→∃ l',y'.ai ρ=some l'∧P l l'):∀ l,(R.br c x y).ai ρ=some l→∃ l',(R.br c x' y').ai ρ=some l'∧P l l':=by
 intro l h
 unfold R.ai at h ⊢
 split at h
 ·rename_i hc
  rw [if_pos hc]
  exact h1 l h
 ·rename_i hc
  rw [if_neg hc]
  exact h2 l h
theorem rN{I:n5}{outs:List OutP}{ρ:Env}:∀ {raw:cC} {r:R LL} (l:LL),r.ai ρ=some l→∃ l',(oL I outs raw r).ai ρ=some l'∧l.fx l'
 | .br c a b,r,l,h=>by
  unfold oL
  split
  ·exact R.Tf (fun l h=>rN l h) (fun l h=>rN l h) l h
  ·exact⟨l,h,l.fh⟩
 | .ok (_,fr,st),r,l,h=>by
  unfold oL
  split
  ·obtain rfl:=Option.some.inj h
   exact⟨_,rfl,rfl,rfl⟩
  ·obtain rfl:=Option.some.inj h
   split
   ·exact⟨_,rfl,rfl,rfl,rfl⟩
   ·exact⟨_,rfl,rfl,rfl,rfl⟩
  ·exact⟨l,h,l.fh⟩
 | .stuck _,r,l,h=>by
  unfold oL
  exact⟨l,h,l.fh⟩
theorem b8.fx{t:Tch}{ρ1 ρ2:Env}{σ τ:Mt}(h:σ.v=τ.v∧σ.a=τ.a)(E:b8 t ρ1 ρ2 σ):b8 t ρ1 ρ2 τ:=⟨E.cE,fun i x hx=>E.v i x (by rw [h.1];exact hx),fun f ks a ha=>E.a f ks a (by rw [h.2];exact ha)⟩
theorem aaJ{cxB:Cx}{L:LoopI}{t:Tch}{I:n5}{outs:List OutP}{ll:R LL}{N ng:Nat}(σ0:Mt)(Inv:Env→Prop)(μ:Env→Nat)
  (hcode:∀ ρ1,Inv ρ1→fP P cxB ρ1 (ev cxB N).code) (hngB:cxB.ng=ng) (hng:cx.ng=ng)
  (hchk:(match (ev cxB N).code L.rnd L.body I.fr I.st with | raw=>kZ t L.st.n I outs raw (oL I outs raw ll))=true) (hst:LG ng L I outs=true) (hent:fit t (lU I L.fr L.st σ0.v σ0.a) L.st.n I L.fr L.st=true)
  (h0:∃ ρ0,b8 t ρ ρ0 σ0∧Inv ρ0)
  (hstep:∀ ρ1,Inv ρ1→av ρ1 I.pc→∃ x,ll.ai ρ1=some x∧match x with
   | .next σ=>∃ ρ2,b8 t ρ1 ρ2 σ∧Inv ρ2∧μ ρ2<μ ρ1
   | .out k σ=>b8 t ρ1 ρ σ∧∃ O,nth outs k=some O∧L.res.ai ρ=some (O.ex,O.pat.fr,⟨O.pat.st.h,O.pat.st.n,L.st.pc⟩)
   | .never=>False):oc P cx ρ L:=by
 refine Px (ll:=oL I outs ((ev cxB N).code L.rnd L.body I.fr I.st) ll) _ Inv μ hcode hngB hng hchk hst hent ?_ fun ρ1 hi hp=>?_
 ·obtain⟨ρ0,h1,h2⟩:=h0
  exact⟨ρ0,b8.fx (σ:=σ0) ⟨rfl,rfl⟩ h1,h2⟩
 ·obtain⟨x,h1,h2⟩:=hstep ρ1 hi hp
  obtain⟨y,h3,h4⟩:=rN x h1
  refine⟨y,h3,?_⟩
  cases x with
  | next σ=>cases y with
   | next τ=>
    obtain⟨ρ2,E,h5⟩:=h2
    exact⟨ρ2,E.fx h4,h5⟩
   | _=>exact h4.elim
  | out k σ=>cases y with
   | out j τ=>
    obtain⟨rfl,h4⟩:=h4
    exact⟨h2.1.fx h4,h2.2⟩
   | _=>exact h4.elim
  | never=>exact h2.elim
end
end Go.Proofs.YtmickljjofbmiaaGreatDoor
namespace Go.Proofs.YtmickljjofbmiaaGreatDoor
open Go
noncomputable section
def lN:List (Nat×au)→H→H
 | [],h=>h
 | (i,o)::l,h=>(lN l h).set i o
def rn (r:List (Nat×Nat)) (m n i:Nat):Nat:=match Nat.blt i n with
 | true=>vT r i
 | false=>i-n+m
structure nU where
 args:List V
 items:List (Nat×au)
 n:Nat
 pc:PC
def nU.st (L:List (Nat×List V)) (p:nU):St:={h:=lN p.items (fW L),n:=p.n,pc:=p.pc}
def jF:List (Nat×au)→List Nat
 | []=>[]
 | (i,o)::l=>match o.bG with
  | true=>jF l
  | false=>i::jF l
def zO(h:H):List Nat→Option (List (Nat×au))
 | []=>some []
 | i::l=>match h.get i with
  | some o=>match o.plain with
   | true=>match zO h l with
    | some os=>some ((i,o)::os)
    | none=>none
   | false=>none
  | none=>none
def NQ:List (Nat×au)→List Nat
 | []=>[]
 | (_,o)::l=>o.names++NQ l
def tz(p:nU):gm→R Leaf
 | .ok (.ret v,st)=>match v.bQ with
  | true=>match zO st.h (jF p.items) with
   | some os=>.ok {v:=v,objs:=os++jo st.h p.n (reach st.h p.n 6 (uS (v.names++NQ os) [])),n:=st.n}
   | none=>.stuck "an object has gone"
  | false=>.stuck "a value"
 | .ok (.panic _,_)=>.stuck "a panic"
 | .br c t f=>.br c (tz p t) (tz p f)
 | .stuck s=>.stuck s
def uT (l:List (Nat×Nat×Nat)):List (Nat×au)→Bool
 | []=>true
 | (_,o)::os=>match o.xE l with
  | true=>uT l os
  | false=>false
def Zp (r:List (Nat×Nat)) (n:Nat) (σ:Sub):R Leaf→St→R (V×St)
 | .ok lf,st=>match uT σ.f lf.objs with
  | true=>.ok ((lf.v.put σ).kT (rn r st.n n),{h:=fi (rn r st.n n) (dL σ lf.objs) st.h,n:=st.n+(lf.n-n),pc:=st.pc})
  | false=>.stuck "summary: symbols"
 | .br c t f,st=>split st (c.put σ) fun st b=>match b with
  | true=>Zp r n σ t st
  | false=>Zp r n σ f st
 | .stuck s,_=>.stuck s
def aeB (r:List (Nat×Nat)) (i:Nat):au→Bool
 | .warr _ _ _ _=>Nat.beq (vT r i) i
 | o=>o.plain
def jn:List (Nat×au)→List Nat
 | []=>[]
 | (i,_)::l=>i::jn l
def Yd(ng:Nat)(ns:List Nat)(i:Nat):Bool:=match Nat.blt i ng with
 | true=>true
 | false=>eS i ns
def BK(ng:Nat)(ns:List Nat):List Nat→Bool
 | []=>true
 | i::l=>match Yd ng ns i with
  | true=>BK ng ns l
  | false=>false
def yg (r:List (Nat×Nat)) (σ:Sub) (ng n:Nat) (ns:List Nat) (h:H):List (Nat×au)→Bool
 | []=>true
 | (i,o)::l=>match h.get (vT r i) with
  | some q=>match bM (q.beq ((o.put σ).kT (vT r))) (o.xE σ.f) (aeB r i o) (BK ng ns o.n8) (Nat.blt i n) true with
   | true=>yg r σ ng n ns h l
   | false=>false
  | none=>false
def pY (r:List (Nat×Nat)):Nat→Bool
 | 0=>true
 | k+1=>match Nat.beq (vT r k) k with
  | true=>pY r k
  | false=>false
def Rs(pc:PC)(x:X)(b:Bool):Bool:=match x with
 | .lit n=>je (!aQ n 0) b
 | .not y=>Rs pc y (!b)
 | x=>XU pc x b
def E4(σ:Sub)(pc:PC):PC→Bool
 | []=>true
 | (x,b)::l=>match Rs pc (x.put σ) b with
  | true=>E4 σ pc l
  | false=>false
def PA (r:List (Nat×Nat)):List Nat→List Nat
 | []=>[]
 | i::l=>vT r i::PA r l
def sS (L:List (Nat×List V)) (ng:Nat) (σ:Sub) (r:List (Nat×Nat)) (p:nU) (args:List V) (st:St):Bool:=
 bM (bM (V.eV args (V.r9 (vT r) (V.r7 σ p.args))) (V.fb p.args) (BK ng (jn p.items) (V.qT p.args)) (Nat.ble ng p.n) (pY r ng) (bF L st.h))
  (yg r σ ng p.n (jn p.items) st.h p.items) (jr (PA r (jF p.items))) (E4 σ st.pc p.pc) true true
def yo(h:H):List (Nat×au)→List (Nat×Nat)→List (Nat×Nat)
 | [],r=>r
 | (i,o)::l,r=>yo h l (match o with
  | .cells c _ _=>match h.get (vT r i) with
   | some (.cells d _ _)=>xN c d r
   | _=>r
  | .map es=>match h.get (vT r i) with
   | some (.map fs)=>aaM es fs r
   | _=>r
  | _=>r)
def uL (L:List (Nat×List V)) (ng:Nat) (p:nU) (tr:R Leaf):List Sub→List V→St→R (V×St)
 | [],_,_=>.stuck "summary: places"
 | σ::l,args,st=>match yo st.h p.items (xN p.args args []) with
  | r=>match sS L ng σ r p args st with
   | true=>Zp r p.n σ tr st
   | false=>uL L ng p tr l args st
def OB (L:List (Nat×List V)) (ng:Nat) (p:nU) (tr:R Leaf) (args:List V) (st:St):R (V×St):=match yo st.h p.items (xN p.args args []) with
 | r=>match iG p.args args {v:=[],n:=0,b:=[],s:=[]} with
  | σ=>match sS L ng σ r p args st with
   | true=>Zp r p.n σ tr st
   | false=>.stuck "summary: arguments"
def Nn(a:A)(ks:List CK)(len:X):List (A×List CK×X×Nat)→Option Nat
 | []=>none
 | (b,ks',len',t)::l=>match bM (a.beq b) (CK.eV ks ks') (len.beq len') true true true with
  | true=>some t
  | false=>Nn a ks len l
def Be (l:List (A×List CK×X×Nat)) (b:Nat) (st:St):St:=match st.h.get b with
 | some (.arr a ks len e w)=>match Nn a ks len l with
  | some t=>{st with h:=st.h.set b (.arr (.base t) ks len e w)}
  | none=>st
 | _=>st
def uN (l:List (A×List CK×X×Nat)) (v:V) (st:St):St:=match v with
 | .xslice false b _ _ _ _=>Be l b st
 | .tuple (.xslice false b _ _ _ _::_)=>Be l b st
 | _=>st
def ad0 (l:List (A×List CK×X×Nat)) (s:List V→St→R (V×St)) (args:List V) (st:St):R (V×St):=(s args st).bind fun (v,st)=>.ok (v,uN l v st)
end
end Go.Proofs.YtmickljjofbmiaaGreatDoor
namespace Go.Proofs.YtmickljjofbmiaaGreatDoor
open Go Go.RowKit
theorem lO:∀ {ws:List (Nat×au)} {h:H} {i:Nat} {o:au},(lN ws h).get i=some o→(i,o)∈ws∨((∀ x∈ws,x.1≠i)∧h.get i=some o)
 | [],h,i,o,hi=>.inr ⟨fun _ hx=>(by cases hx),hi⟩
 | (j,q)::l,h,i,o,hi=>by
  simp only [lN] at hi
  by_cases e:j=i
  ·subst e
   rw [T.aN] at hi
   obtain rfl:=Option.some.inj hi
   exact .inl (List.mem_cons_self ..)
  ·rw [T.aC _ _ e] at hi
   rcases lO hi with h1 | ⟨h1,h2⟩
   ·exact .inl (List.mem_cons_of_mem _ h1)
   ·refine .inr ⟨fun x hx=>?_,h2⟩
    rcases List.mem_cons.1 hx with rfl | hx
    ·exact e
    ·exact h1 x hx
theorem au.RL{σ:Sub}(o:au):(o.put σ).bG=o.bG:=by cases o<;>rfl
theorem au.GC{r:Nat→Nat}(o:au):(o.kT r).bG=o.bG:=by cases o<;>rfl
theorem au.ad7{r:Nat→Nat}{o:au}(h:o.bG=false):(o.kT r).bG=false:=(au.GC o).trans h
theorem w5:∀ {l:List (Nat×au)} {i:Nat} {o:au},(i,o)∈l→o.bG=false→i∈jF l
 | [],_,_,h,_=>by cases h
 | (j,q)::l,i,o,h,hz=>by
  unfold jF
  rcases List.mem_cons.1 h with e | h
  ·injection e with e1 e2
   subst e1 e2
   rw [hz]
   exact List.mem_cons_self ..
  ·have:=w5 h hz
   split
   ·exact this
   ·exact List.mem_cons_of_mem _ this
theorem zW {r:List (Nat×Nat)}:∀ {l:List Nat} {i:Nat},i∈l→eS (vT r i) (PA r l)=true
 | [],_,h=>by cases h
 | j::l,i,h=>by
  simp only [PA,eS,Bool.or_eq_true]
  rcases List.mem_cons.1 h with rfl | h
  ·exact .inl (Nat.beq_refl _)
  ·exact .inr (zW h)
theorem G7 {r:List (Nat×Nat)}:∀ {l:List Nat},jr (PA r l)=true→∀ i j,i∈l→j∈l→vT r i=vT r j→i=j
 | [],_,_,_,h,_,_=>by cases h
 | k::l,h,i,j,hi,hj,e=>by
  simp only [PA,jr,Bool.and_eq_true,Bool.not_eq_true'] at h
  rcases List.mem_cons.1 hi with rfl | hi1<;>rcases List.mem_cons.1 hj with rfl | hj1
  ·rfl
  ·have:=zW (r:=r) hj1
   rw [←e,h.1] at this
   cases this
  ·have:=zW (r:=r) hi1
   rw [e,h.1] at this
   cases this
  ·exact G7 h.2 i j hi1 hj1 e
theorem zI:∀ {l:List (Nat×au)} {i:Nat},eS i (jn l)=true→∃ o,(i,o)∈l
 | [],_,h=>by simp [jn,eS] at h
 | (j,o)::l,i,h=>by
  simp only [jn,eS,Bool.or_eq_true] at h
  rcases h with h | h
  ·rw [Nat.eq_of_beq_eq_true h]
   exact⟨o,List.mem_cons_self ..⟩
  ·obtain⟨q,hq⟩:=zI h
   exact⟨q,List.mem_cons_of_mem _ hq⟩
theorem zZ:∀ {l:List (Nat×au)} {i:Nat} {o:au},(i,o)∈l→eS i (jn l)=true
 | [],_,_,h=>by cases h
 | (j,q)::l,i,o,h=>by
  simp only [jn,eS,Bool.or_eq_true]
  rcases List.mem_cons.1 h with e | h
  ·injection e with e1 _
   subst e1
   exact .inl (Nat.beq_refl _)
  ·exact .inr (zZ h)
theorem yM{ng:Nat}{ns:List Nat}:∀ {l:List Nat},BK ng ns l=true→∀ i∈l,Yd ng ns i=true
 | [],_,_,h=>by cases h
 | j::l,h,i,hi=>by
  unfold BK at h
  split at h
  ·rename_i hj
   rcases List.mem_cons.1 hi with rfl | hi
   ·exact hj
   ·exact yM h i hi
  ·cases h
theorem tn {r:List (Nat×Nat)}:∀ {n:Nat},pY r n=true→∀ g,g<n→vT r g=g
 | 0,_,g,h=>absurd h (Nat.not_lt_zero g)
 | n+1,h,g,hg=>by
  unfold pY at h
  split at h
  ·rename_i hb
   rcases Nat.lt_succ_iff_lt_or_eq.1 hg with h1 | rfl
   ·exact tn h g h1
   ·exact Nat.eq_of_beq_eq_true hb
  ·cases h
theorem p7{h:H}:∀ {l:List Nat} {os:List (Nat×au)},zO h l=some os→(∀ x∈os,h.get x.1=some x.2∧x.2.plain=true)∧∀ i∈l,∃ o,(i,o)∈os
 | [],os,e=>by
  simp only [zO,Option.some.injEq] at e
  subst e
  exact⟨fun _ hx=>(by cases hx),fun _ hi=>(by cases hi)⟩
 | i::l,os,e=>by
  unfold zO at e
  split at e
  ·rename_i o ho
   split at e
   ·rename_i hp
    split at e
    ·rename_i os' hos
     obtain rfl:=Option.some.inj e
     obtain⟨h1,h2⟩:=p7 hos
     refine⟨fun x hx=>?_,fun j hj=>?_⟩
     ·rcases List.mem_cons.1 hx with rfl | hx
      ·exact⟨ho,hp⟩
      ·exact h1 x hx
     ·rcases List.mem_cons.1 hj with rfl | hj
      ·exact⟨o,List.mem_cons_self ..⟩
      ·obtain⟨q,hq⟩:=h2 j hj
       exact⟨q,List.mem_cons_of_mem _ hq⟩
    ·cases e
   ·cases e
  ·cases e
theorem BM {s:List (Nat×Nat×Nat)}:∀ {l:List (Nat×au)},uT s l=true→∀ x∈l,x.2.xE s=true
 | [],_,_,h=>by cases h
 | (i,o)::l,h,x,hx=>by
  unfold uT at h
  split at h
  ·rename_i ho
   rcases List.mem_cons.1 hx with rfl | hx
   ·exact ho
   ·exact BM h x hx
  ·cases h
theorem xf{σ:Sub}:∀ {l:List (Nat×au)} {i:Nat} {o:au},(i,o)∈l→(i,o.put σ)∈dL σ l
 | [],_,_,h=>by cases h
 | (j,q)::l,i,o,h=>by
  unfold dL
  rcases List.mem_cons.1 h with e | h
  ·injection e with e1 e2
   subst e1 e2
   exact List.mem_cons_self ..
  ·exact List.mem_cons_of_mem _ (xf h)
theorem gj{r:Nat→Nat}{h:H}{i:Nat}{o:au}:∀ {l:List (Nat×au)},(fi r l h).get i=some o→(∃ x∈l,i=r x.1∧o=x.2.kT r)∨(h.get i=some o∧∀ x∈l,r x.1≠i)
 | [],e=>.inr ⟨e,fun _ hx=>(by cases hx)⟩
 | (b,o')::l,e=>by
  unfold fi at e
  by_cases hi:r b=i
  ·subst hi
   rw [T.aN] at e
   exact .inl ⟨(b,o'),by simp,rfl,(Option.some.inj e).symm⟩
  ·rw [T.aC _ _ hi] at e
   rcases gj e with ⟨x,hx,h1,h2⟩ | ⟨h1,h2⟩
   ·exact .inl ⟨x,by simp [hx],h1,h2⟩
   ·refine .inr ⟨h1,fun x hx=>?_⟩
    rcases List.mem_cons.1 hx with rfl | hx
    ·exact hi
    ·exact h2 x hx
section
variable {ρ:Env} {σ:Sub} {π:Pl}
theorem au.Yc{r:Nat→Nat}{i:Nat}{ob:Obj}:∀ {o:au},(o.plain=true∨(∃ g t ks n,o=.warr g t ks n)∧r i=i)→o.xE σ.f=true→((o.put σ).kT r).is ρ π (r i) ob→o.is (σ.env ρ) (fun j=>π (r j)) i ob
 | .cells c e w,hp,_,⟨spare,h1,h2⟩=>by
  have hp:V.fb c=true:=hp.elim id fun⟨⟨_,_,_,_,h⟩,_⟩=>by cases h
  rw [V.fX _ _ _ _ (by rw [V.fe];exact hp),V.fq] at h1
  rw [V.pt,V.pk] at h2
  exact⟨spare,h1,h2⟩
 | .map es,hp,_,⟨ms,clock,h1,h2,h3⟩=>by
  have hp:lu es=true:=hp.elim id fun⟨⟨_,_,_,_,h⟩,_⟩=>by cases h
  rw [k7 _ _ _ _ (by rw [o4];exact hp),kh] at h2 h3
  exact⟨ms,clock,h1,h2,h3⟩
 | .arr a ks len e w,_,hs,⟨cs,h1,h2,h3,h4⟩=>by
  refine⟨cs,h1,by rw [X.aE] at h2;exact h2,h3,fun j c k hj hk=>?_⟩
  have:=h4 j c k (by rw [X.aE];exact hj) hk
  rw [A.qM k (List.getElem?_eq_some_iff.1 hk).1 j hs] at this
  exact this
 | .warr g t ks len,hp,hs,⟨⟨h1,h2,cs,t',fr,h3,h4⟩,h5⟩=>by
  have hr:r i=i:=hp.elim (fun h=>by simp [au.plain] at h) And.right
  rw [hr] at h1 h2 h4
  refine⟨⟨h1,by dsimp only;rw [hr];exact h2,cs,t',fr,h3,fun j c k hj hk=>?_⟩,h5⟩
  have:=h4 j c k (by rw [X.aE];exact hj) hk
  have e:=A.qM (ρ:=ρ) (σ:=σ) k (List.getElem?_eq_some_iff.1 hk).1 j (a:=.base t) hs
  rw [←e]
  exact this
 | .loop _ _ _ _ _ _ _,h,_,_=>by rcases h with h | ⟨⟨_,_,_,_,h⟩,_⟩<;>cases h
 | .deferred _,h,_,_=>by rcases h with h | ⟨⟨_,_,_,_,h⟩,_⟩<;>cases h
 | .ro _ _,h,_,_=>by rcases h with h | ⟨⟨_,_,_,_,h⟩,_⟩<;>cases h
 | .win _ _ _ _,h,_,_=>by rcases h with h | ⟨⟨_,_,_,_,h⟩,_⟩<;>cases h
 | .iter _,h,_,_=>by rcases h with h | ⟨⟨_,_,_,_,h⟩,_⟩<;>cases h
theorem w7 {r:List (Nat×Nat)} {ng n:Nat} {ns:List Nat} {h:H}:∀ {l:List (Nat×au)},yg r σ ng n ns h l=true→∀ i o,(i,o)∈l→
  h.get (vT r i)=some ((o.put σ).kT (vT r))∧o.xE σ.f=true∧(o.plain=true∨(∃ g t ks n,o=.warr g t ks n)∧vT r i=i)∧BK ng ns o.n8=true∧i<n
 | [],_,_,_,h=>by cases h
 | (j,q)::l,hi,i,o,hm=>by
  unfold yg at hi
  split at hi
  ·rename_i q' hq
   split at hi
   ·rename_i hc
    rcases List.mem_cons.1 hm with e | hm
    ·injection e with e1 e2
     subst e1 e2
     obtain⟨c1,c2,c3,c4,c5,_⟩:=az hc
     refine⟨by rw [hq,au.beq_eq c1],c2,?_,c4,Nat.le_of_ble_eq_true c5⟩
     unfold aeB at c3
     split at c3
     ·exact .inr ⟨⟨_,_,_,_,rfl⟩,Nat.eq_of_beq_eq_true c3⟩
     ·exact .inl c3
    ·exact w7 hi i o hm
   ·cases hi
  ·cases hi
theorem Nc{pc:PC}(hp:av ρ pc):∀ {x:X} {b:Bool},Rs pc x b=true→x.tt ρ=b:=by
 intro x
 induction x with
 | lit n=>
  intro b h
  rw [←cQ h,bI]
  rfl
 | not y ih=>
  intro b h
  have:=ih (show Rs pc y (!b)=true from h)
  simp only [X.tt,X.den,dd] at this ⊢
  cases hy:y.den ρ==0<;>cases b<;>simp_all
 | _=>exact fun h=>Nb hp h
theorem CP{pc:PC}(hp:av ρ pc):∀ {l:PC},E4 σ pc l=true→av (σ.env ρ) l
 | [],_=>fun f hf=>by cases hf
 | (x,b)::l,h=>by
  unfold E4 at h
  split at h
  ·rename_i hd
   intro f hf
   rcases List.mem_cons.1 hf with rfl | hf
   ·rw [←X.AB]
    exact Nc hp hd
   ·exact CP hp h f hf
  ·cases h
theorem qa{p:nU}{lf:Leaf}:∀ {e:gm},(tz p e).ai ρ=some lf→∃ st' os ns,e.ai ρ=some (.ret lf.v,st')∧lf.v.bQ=true∧zO st'.h (jF p.items)=some os∧lf.objs=os++jo st'.h p.n ns∧lf.n=st'.n
 | .ok (.ret v,st),h=>by
  unfold tz at h
  split at h
  ·rename_i hv
   split at h
   ·rename_i os hos
    simp only [R.ai,Option.some.injEq] at h
    subst h
    exact⟨st,os,_,rfl,hv,hos,rfl,rfl⟩
   ·simp [R.ai] at h
  ·simp [R.ai] at h
 | .ok (.panic _,_),h=>by simp [tz,R.ai] at h
 | .br c t f,h=>by
  unfold tz at h
  unfold R.ai at h ⊢
  split at h
  ·rename_i hc
   rw [if_pos hc]
   exact qa h
  ·rename_i hc
   rw [if_neg hc]
   exact qa h
 | .stuck _,h=>by simp [tz,R.ai] at h
end
section
variable {P:Program} {cx cx0:Cx} {ρ:Env} {σ:Sub} {S:Nat→Prop} {π0:Pl} {st st':St} {w:World} {L:List (Nat×List V)} {ng:Nat}
theorem ye {r:List (Nat×Nat)} {n:Nat} {v:V}:∀ {t:R Leaf} {st:St},av ρ st.pc→(Zp r n σ t st).ai ρ=some (v,st')→
  ∃ lf st1,t.ai (σ.env ρ)=some lf∧cn ρ st st1∧uT σ.f lf.objs=true∧v=(lf.v.put σ).kT (rn r st1.n n)∧st'={h:=fi (rn r st1.n n) (dL σ lf.objs) st1.h,n:=st1.n+(lf.n-n),pc:=st1.pc}
 | .ok lf,st,hp,h=>by
  unfold Zp at h
  split at h
  ·rename_i hs
   simp only [R.ai,Option.some.injEq,Prod.mk.injEq] at h
   exact⟨lf,st,rfl,.refl hp,hs,h.1.symm,h.2.symm⟩
  ·simp [R.ai] at h
 | .br c t f,st,hp,h=>by
  unfold Zp at h
  obtain⟨st1,hl,h1⟩:=aU hp h
  rw [X.AB] at h1
  split at h1
  ·rename_i hc
   obtain⟨lf,st2,h2,h3,h4⟩:=ye hl.pc h1
   exact⟨lf,st2,by unfold R.ai;rw [if_pos hc];exact h2,hl.trans h3,h4⟩
  ·rename_i hc
   obtain⟨lf,st2,h2,h3,h4⟩:=ye hl.pc h1
   exact⟨lf,st2,by unfold R.ai;rw [if_neg (by simp [hc])];exact h2,hl.trans h3,h4⟩
 | .stuck _,_,_,h=>by simp [Zp,R.ai] at h
theorem C6(hmix:P.follows .mixedOrders=true)(htt:mQ P cx0.tt)(hft:rz P cx0.ft) (hsm:SumOk P cx0 (σ.env ρ)) (hng:cx.ng=ng) (hng0:cx0.ng=ng) (hL:∀ x∈L,x.1<ng) (hro:RoAt (σ.env ρ) L)
  {N:Nat} {f:FuncId} {fn:Func} {p:nU} {r:List (Nat×Nat)} {args:List V} (hfn:P.funcs[f]?=some fn) {lf:Leaf} (hfit:sS L ng σ r p args st=true)
  (hsel:((ev cx0 N).call f p.args (p.st L)).ai (σ.env ρ)=some (.ret lf.v,st')) (hnw:lf.v.bQ=true) {os:List (Nat×au)} {ns:List Nat} (hos:zO st'.h (jF p.items)=some os) (hobjs:lf.objs=os++jo st'.h p.n ns) (hn:lf.n=st'.n) (hsym:uT σ.f lf.objs=true)
  (hh:cg cx ρ S π0 st w) {ac:List Value} (ha:bK ρ S π0 args ac) {n:Nat}:
  CallsIn Fence.wide n P f ac.toArray w (EPost ρ S π0 st w (.ret ((lf.v.put σ).kT (rn r st.n p.n)),{h:=fi (rn r st.n p.n) (dL σ lf.objs) st.h,n:=st.n+(lf.n-p.n),pc:=st.pc})):=by
 unfold sS at hfit
 obtain⟨q0,i1,i2,i3,_⟩:=az hfit
 obtain⟨q1,q2,q3,q4,q5,q6⟩:=az q0
 have hargs:=V.bD _ _ q1
 have hgn:=Nat.le_of_ble_eq_true q4
 have hgs:=tn q5
 have hπ:∀ g,g<ng→(π0 g).1=g:=fun g hg=>(hh.glob g (by rw [hng];exact hg)).2
 have hSg:∀ g,g<ng→S g:=fun g hg=>(hh.glob g (by rw [hng];exact hg)).1
 have hSn:∀ i,S i→i<st.n:=fun i hi=>by
  rcases Nat.lt_or_ge i st.n with h | h
  ·exact h
  ·exact absurd hi (hh.fresh i h)
 have hit:=w7 i1
 have hrep0:=hh.at_.rep π0 fun _ _=>rfl
 have hW:∀ x∈L,w.heap[x.1]?=some (ρ.ro x.1):=by
  intro x hx
  obtain⟨c,hc⟩:=jc q6 x hx
  obtain⟨ob,h1,_,h2⟩:=hrep0.obj _ _ hc
  rw [hπ _ (hL x hx),h2] at h1
  exact h1
 let S':Nat→Prop:=fun i=>Yd ng (jn p.items) i=true
 let π':Pl:=fun i=>π0 (vT r i)
 have hS':∀ i,S' i→S (vT r i)∧i<p.n:=by
  intro i hi
  have hi:Yd ng (jn p.items) i=true:=hi
  unfold Yd at hi
  split at hi
  ·rename_i hb
   have:=Nat.le_of_ble_eq_true hb
   exact⟨by rw [hgs i this];exact hSg i this,by omega⟩
  ·obtain⟨o,ho⟩:=zI hi
   obtain⟨h1,_,_,_,h5⟩:=hit i o ho
   exact⟨hh.at_.dom _ _ h1,h5⟩
 have hSi:∀ i o,(i,o)∈p.items→S' i:=by
  intro i o ho
  show Yd ng (jn p.items) i=true
  unfold Yd
  split
  ·rfl
  ·exact zZ ho
 have hSgl:∀ g,g<ng→S' g:=by
  intro g hg
  show Yd ng (jn p.items) g=true
  unfold Yd
  rw [show Nat.blt g ng=true from Nat.ble_eq_true_of_le hg]
 have hget:∀ i o,(p.st L).h.get i=some o→(i,o)∈p.items∨∃ x∈L,i=x.1∧o=.ro x.1 x.2:=by
  intro i o hi
  rcases lO hi with h | ⟨_,h⟩
  ·exact .inl h
  ·exact .inr (ct h)
 -- in the caller's heap
 have hq:∀ i o,(p.st L).h.get i=some o→∃ q,st.h.get (vT r i)=some q∧q.bG=o.bG∧S' i:=by
  intro i o hi
  rcases hget i o hi with h | ⟨x,hx,rfl,rfl⟩
  ·exact⟨_,(hit i o h).1,by rw [au.GC,au.RL],hSi i o h⟩
  ·obtain⟨c,hc⟩:=jc q6 x hx
   exact⟨.ro x.1 c,by rw [hgs _ (hL x hx)];exact hc,rfl,hSgl _ (hL x hx)⟩
 have hin:∀ i o,(p.st L).h.get i=some o→o.bG=false→i∈jF p.items:=by
  intro i o hi hz
  rcases hget i o hi with h | ⟨x,hx,rfl,rfl⟩
  ·exact w5 h hz
  ·cases hz
 have h0:cg cx0 (σ.env ρ) S' π' (p.st L) w:=by
  refine⟨CP hh.pc i3,⟨fun π hk=>⟨fun i o hi=>?_,fun i j o o' hi hj e=>?_⟩,fun i o hi=>?_⟩,fun g hg=>?_,fun i hi hs=>?_⟩
  ·rcases hget i o hi with h | ⟨x,hx,rfl,rfl⟩
   ·obtain⟨h1,h2,h3,h4,_⟩:=hit i o h
    obtain⟨ob,h5,h6⟩:=hrep0.obj _ _ h1
    have h7:=au.Yc h3 h2 h6
    refine⟨ob,by rw [hk i (hSi i o h)];exact h5,au.RY (hk i (hSi i o h)).symm (fun b hb=>(hk b (yM h4 b hb)).symm) h7⟩
   ·obtain⟨t,fr,h2⟩:=hro.is x hx
    have h1:(π x.1).1=x.1:=by
     rw [hk x.1 (hSgl _ (hL x hx))]
     show (π0 (vT r x.1)).1=x.1
     rw [hgs _ (hL x hx)]
     exact hπ _ (hL x hx)
    exact⟨_,by rw [h1];exact hW x hx,⟨t,fr,h2 π⟩,rfl⟩
  ·obtain⟨q,a1,a2,a3⟩:=hq i o hi
   obtain⟨q',b1,b2,b3⟩:=hq j o' hj
   rw [hk i a3,hk j b3] at e
   rcases hrep0.inj _ _ _ _ a1 b1 e with e | e
   ·rw [e] at a1
    obtain rfl:q=q':=Option.some.inj (a1.symm.trans b1)
    cases hz:o.bG with
    | true=>exact .inr ⟨rfl,by rw [←b2,a2,hz]⟩
    | false=>exact .inl (G7 i2 i j (hin i o hi hz) (hin j o' hj (by rw [←b2,a2,hz])) e)
   ·rw [a2,b2] at e
    exact .inr e
  ·exact (hq i o hi).choose_spec.2.2
  ·rw [hng0] at hg
   refine⟨hSgl g hg,?_⟩
   show (π0 (vT r g)).1=g
   rw [hgs g hg]
   exact hπ g hg
  ·have:=(hS' i hs).2
   have hi:p.n≤i:=hi
   omega
 have ha0:bK (σ.env ρ) S' π' p.args ac:=by
  intro π hk
  rw [V.cZ p.args fun b hb=>hk b (yM q3 b hb)]
  show V.af (σ.env ρ) (fun i=>π0 (vT r i)) p.args=ac
  rw [←V.fq,←V.fX _ _ _ _ (by rw [V.fe];exact q2),←hargs]
  exact ha π0 fun _ _=>rfl
 refine ((q9 hmix htt hft hsm N).2.2 f p.args _ _ hsel _ π' w ac n h0 ha0 ⟨fn,hfn⟩).mono fun e w' hp=>?_
 obtain⟨hpc',πc,g,c,rfl,hv⟩:=hp
 have hle:p.n≤st'.n:=g.le
 rw [hn]
 let π1:Pl:=fun i=>if i<st.n then π0 i else πc (i-st.n+p.n)
 have hpi:∀ b,Ext S' p.n st'.n b→π1 (rn r st.n p.n b)=πc b:=by
  intro b hb
  rcases hb with h | ⟨h1,h2⟩
  ·obtain⟨h3,h4⟩:=hS' b h
   have e:rn r st.n p.n b=vT r b:=by
    unfold rn
    rw [show Nat.blt b p.n=true from Nat.ble_eq_true_of_le h4]
   rw [e,g.known b h]
   simp only [π1,if_pos (hSn _ h3),π']
  ·have e:rn r st.n p.n b=b-p.n+st.n:=by
    unfold rn
    rw [show Nat.blt b p.n=false by
     cases hb:Nat.blt b p.n with
     | false=>rfl
     | true=>have:=Nat.le_of_ble_eq_true hb;omega]
   rw [e]
   simp only [π1]
   rw [if_neg (by omega),show b-p.n+st.n-st.n+p.n=b by omega]
 have hext:∀ b,Ext S' p.n st'.n b→Ext S st.n (st.n+(st'.n-p.n)) (rn r st.n p.n b):=by
  intro b hb
  rcases hb with h | ⟨h1,h2⟩
  ·obtain⟨h3,h4⟩:=hS' b h
   have e:rn r st.n p.n b=vT r b:=by
    unfold rn
    rw [show Nat.blt b p.n=true from Nat.ble_eq_true_of_le h4]
   rw [e]
   exact .inl h3
  ·have e:rn r st.n p.n b=b-p.n+st.n:=by
    unfold rn
    rw [show Nat.blt b p.n=false by
     cases hb:Nat.blt b p.n with
     | false=>rfl
     | true=>have:=Nat.le_of_ble_eq_true hb;omega]
   rw [e]
   exact .inr ⟨by omega,by omega⟩
 have hkn:∀ π,a9 (Ext S st.n (st.n+(st'.n-p.n))) π π1→a9 (Ext S' p.n st'.n) (fun b=>π (rn r st.n p.n b)) πc:=by
  intro π hk b hb
  dsimp only
  rw [←hpi b hb]
  exact hk _ (hext b hb)
 have hk0:a9 S π1 π0:=by
  intro i hi
  simp only [π1,if_pos (hSn i hi)]
 -- what is left
 have hob:∀ x∈dL σ lf.objs,∃ o,st'.h.get x.1=some o∧o.plain=true∧o.xE σ.f=true∧x.2=o.put σ:=by
  intro x hx
  obtain⟨o,h1,h2⟩:=pg hx
  refine⟨o,?_,?_,BM hsym _ h1,h2⟩<;>rw [hobjs] at h1<;>rcases List.mem_append.1 h1 with h1 | h1
  ·exact ((p7 hos).1 _ h1).1
  ·exact (eZ _ h1).2.1
  ·exact ((p7 hos).1 _ h1).2
  ·exact (eZ _ h1).2.2
 have hover:∀ i o,(p.st L).h.get i=some o→o.bG=false→∃ x∈dL σ lf.objs,rn r st.n p.n x.1=vT r i:=by
  intro i o hi hz
  obtain⟨q,hq1⟩:=(p7 hos).2 i (hin i o hi hz)
  refine⟨(i,q.put σ),xf (by rw [hobjs];exact List.mem_append_left _ hq1),?_⟩
  unfold rn
  have h4:=(hS' i (hq i o hi).choose_spec.2.2).2
  rw [show Nat.blt i p.n=true from Nat.ble_eq_true_of_le h4]
 have hold:∀ π,a9 (Ext S st.n (st.n+(st'.n-p.n))) π π1→∀ i o,st.h.get i=some o→π i=π0 i:=by
  intro π hk i o hi
  have:=hh.at_.dom i o hi
  rw [hk i (.inl this),hk0 i this]
 have hlt:∀ i o,st.h.get i=some o→(π0 i).1<w.heap.size:=by
  intro i o hi
  obtain⟨ob,h1,_⟩:=hrep0.obj i o hi
  exact (Array.getElem?_eq_some_iff.1 h1).1
 have hmix2:∀ (j:Nat) (o':au) (x:Nat×au),st.h.get j=some o'→(∀ y∈dL σ lf.objs,rn r st.n p.n y.1≠j)→x∈dL σ lf.objs→(πc x.1).1=(π0 j).1→False:=by
  intro j o' x hj hno hx e
  obtain⟨o,h1,h2,_,_⟩:=hob x hx
  rcases g.sub x.1 o h1 with h | ⟨i0,o0,h4,h5,h6⟩
  ·have:=hlt j o' hj
   omega
  ·cases hz:o0.bG with
   | true=>
    have:=h6 hz
    rw [au.kL h2] at this
    cases this
   | false=>
    obtain⟨q,a1,a2,_⟩:=hq i0 o0 h4
    rcases hrep0.inj _ _ _ _ a1 hj (h5.trans e) with e' | e'
    ·obtain⟨y,hy,ey⟩:=hover i0 o0 h4 hz
     exact hno y hy (ey.trans e')
    ·rw [a2,hz] at e'
     cases e'.1
 refine⟨hh.pc,π1,⟨by dsimp only;omega,hk0,⟨fun π hk=>⟨fun i o hi=>?_,fun i j o o' hi hj e=>?_⟩,fun i o hi=>?_⟩,fun i o hi=>?_,fun j hj hne=>?_,g.size,g.same⟩,c,rfl,fun π hk=>?_⟩
 ·rcases gj hi with ⟨x,hx,rfl,rfl⟩ | ⟨hi,hno⟩
  ·obtain⟨o,h1,h2,h3,h4⟩:=hob x hx
   obtain⟨ob,h5,h6⟩:=(g.at_.rep _ (hkn π hk)).obj x.1 o h1
   refine⟨ob,h5,?_⟩
   rw [h4]
   exact au.LC (au.CR h2) (au.RZ h2 h3 h6)
  ·rw [hold π hk i o hi]
   obtain⟨ob,h1,h2⟩:=(hh.at_.rep π fun j hj=>(hk j (.inl hj)).trans (hk0 j hj)).obj i o hi
   rw [hold π hk i o hi] at h1
   refine⟨ob,?_,h2⟩
   rw [g.keep _ (hlt i o hi) fun i' o' hi' e=>?_,h1]
   cases hz:o'.bG with
   | true=>rfl
   | false=>
    obtain⟨q,a1,a2,_⟩:=hq i' o' hi'
    rcases hrep0.inj _ _ _ _ a1 hi e with e' | e'
    ·obtain⟨y,hy,ey⟩:=hover i' o' hi' hz
     exact absurd (ey.trans e') (hno y hy)
    ·rw [a2,hz] at e'
     cases e'.1
 ·rcases gj hi with ⟨x,hx,rfl,rfl⟩ | ⟨hi,hno⟩<;>rcases gj hj with ⟨y,hy,rfl,rfl⟩ | ⟨hj,hno'⟩
  ·obtain⟨o1,h1,h2,_,_⟩:=hob x hx
   obtain⟨o2,h3,_,_,_⟩:=hob y hy
   rcases (g.at_.rep _ (hkn π hk)).inj x.1 y.1 _ _ h1 h3 e with e | e
   ·exact .inl (by rw [e])
   ·rw [au.kL h2] at e
    cases e.1
  ·obtain⟨o1,h1,_,_,_⟩:=hob x hx
   have hd:=g.at_.dom _ _ h1
   rw [hk _ (hext _ hd),hpi _ hd,hold π hk j o' hj] at e
   exact (hmix2 j o' x hj hno' hx e).elim
  ·obtain⟨o1,h1,_,_,_⟩:=hob y hy
   have hd:=g.at_.dom _ _ h1
   rw [hk _ (hext _ hd),hpi _ hd,hold π hk i o hi] at e
   exact (hmix2 i o y hi hno hy e.symm).elim
  ·exact (hh.at_.rep π fun j hj=>(hk j (.inl hj)).trans (hk0 j hj)).inj i j _ _ hi hj e
 ·rcases gj hi with ⟨x,hx,rfl,rfl⟩ | ⟨hi,_⟩
  ·obtain⟨o1,h1,_,_,_⟩:=hob x hx
   exact hext _ (g.at_.dom _ _ h1)
  ·exact .inl (hh.at_.dom i o hi)
 ·rcases gj hi with ⟨x,hx,rfl,rfl⟩ | ⟨hi,_⟩
  ·obtain⟨o1,h1,h2,_,h4⟩:=hob x hx
   rw [hpi _ (g.at_.dom _ _ h1)]
   rcases g.sub x.1 o1 h1 with h | ⟨i0,o0,h5,h6,h7⟩
   ·exact .inl h
   ·obtain⟨q,a1,a2,_⟩:=hq i0 o0 h5
    refine .inr ⟨_,q,a1,h6,fun hz=>?_⟩
    have:=h7 (a2▸hz)
    rw [au.kL h2] at this
    cases this
  ·exact .inr ⟨i,o,hi,congrArg Pc.p (hk0 i (hh.at_.dom i o hi)).symm,id⟩
 ·refine g.keep j hj fun i o hi e=>?_
  obtain⟨q,a1,a2,_⟩:=hq i o hi
  rw [←a2]
  exact hne _ q a1 e
 ·rw [V.gr _ _ _ _ (by rw [V.iq];exact hnw),V.kc]
  exact hv _ (hkn π hk)
theorem KO(hmix:P.follows .mixedOrders=true)(htt:mQ P cx0.tt)(hft:rz P cx0.ft)(hng:cx.ng=ng)(hng0:cx0.ng=ng)(hL:∀ x∈L,x.1<ng)(hro:∀ ρ':Env,ρ'.ro=ρ.ro→RoAt ρ' L)
  {N:Nat} {f:FuncId} {fn:Func} (hfn:P.funcs[f]?=some fn) {p:nU} {tr:R Leaf} (htr:tz p ((ev cx0 N).call f p.args (p.st L))=tr):∀ {l:List Sub},(∀ σ∈l,SumOk P cx0 (σ.env ρ))→cV P cx ρ f (uL L ng p tr l)
 | [],_,args,st,v,st',h,_,_,_,_,_,_,_=>by simp [uL,R.ai] at h
 | σ::l,hl,args,st,v,st',h,S,π0,w,ac,n,hh,ha=>by
  unfold uL at h
  dsimp only at h
  split at h
  ·rename_i hfit
   obtain⟨lf,st1,h1,h2,h3,rfl,rfl⟩:=ye hh.pc h
   rw [←htr] at h1
   obtain⟨st2,os,ns,h4,h5,h6,h7,h8⟩:=qa h1
   have:=C6 hmix htt hft (hl σ (List.mem_cons_self ..)) hng hng0 hL (hro _ rfl) hfn (r:=yo st.h p.items (xN p.args args [])) hfit h4 h5 h6 h7 h8 h3 hh ha (n:=n)
   refine this.mono fun e w' hp=>?_
   rw [h2.h,h2.n]
   exact⟨h2.pc,hp.2⟩
  ·exact KO hmix htt hft hng hng0 hL hro hfn htr (fun σ hσ=>hl σ (List.mem_cons_of_mem _ hσ)) args st v st' h S π0 w ac n hh ha
theorem acm(hmix:P.follows .mixedOrders=true)(htt:mQ P cx0.tt)(hft:rz P cx0.ft)(hng:cx.ng=ng)(hng0:cx0.ng=ng)(hL:∀ x∈L,x.1<ng)(hro:∀ ρ':Env,ρ'.ro=ρ.ro→RoAt ρ' L)
  {N:Nat} {f:FuncId} {fn:Func} (hfn:P.funcs[f]?=some fn) {p:nU} {tr:R Leaf} (htr:tz p ((ev cx0 N).call f p.args (p.st L))=tr) (hsm:∀ ρ':Env,ρ'.ro=ρ.ro→SumOk P cx0 ρ'):cV P cx ρ f (OB L ng p tr):=by
 intro args st v st' h S π0 w ac n hh ha
 unfold OB at h
 dsimp only at h
 split at h
 ·rename_i hfit
  obtain⟨lf,st1,h1,h2,h3,rfl,rfl⟩:=ye hh.pc h
  rw [←htr] at h1
  obtain⟨st2,os,ns,h4,h5,h6,h7,h8⟩:=qa h1
  have:=C6 hmix htt hft (hsm _ rfl) hng hng0 hL (hro _ rfl) hfn hfit h4 h5 h6 h7 h8 h3 hh ha (n:=n)
  refine this.mono fun e w' hp=>?_
  rw [h2.h,h2.n]
  exact⟨h2.pc,hp.2⟩
 ·simp [R.ai] at h
theorem B4{a:A}{ks:List CK}{len:X}{t:Nat}:∀ {l:List (A×List CK×X×Nat)},Nn a ks len l=some t→(a,ks,len,t)∈l
 | [],h=>by cases h
 | (b,ks',len',t')::l,h=>by
  unfold Nn at h
  split at h
  ·rename_i hb
   obtain⟨h1,h2,h3,_⟩:=az hb
   rw [A.beq_eq h1,CK.bD h2,X.beq_eq h3,←Option.some.inj h]
   exact List.mem_cons_self ..
  ·exact List.mem_cons_of_mem _ (B4 h)
def K3(ρ:Env) (l:List (A×List CK×X×Nat)):Prop:=∀ x∈l,∀ (j c:Nat) (k:CK),j<(x.2.2.1.den ρ).toNat→x.2.1[c]?=some k→k.val (x.1.den ρ k c j)=k.val (A.den ρ k c j (.base x.2.2.2))
theorem xI {l:List (A×List CK×X×Nat)} (hl:K3 ρ l) (b:Nat) (_:av ρ st.pc):qQ ρ st (Be l b st):=by
 unfold Be
 split
 ·rename_i a ks len e w hg
  split
  ·rename_i t ht
   refine⟨fun h=>h,Nat.le_refl _,fun i o' hi=>?_⟩
   by_cases hb:b=i
   ·subst hb
    dsimp only at hi
    rw [T.aN] at hi
    cases hi
    refine⟨_,hg,fun π ob ⟨cs,h1,h2,h3,h4⟩=>⟨cs,h1,h2,h3,fun j c k hj hk=>?_⟩,rfl⟩
    rw [h4 j c k hj hk,hl _ (B4 ht) j c k hj hk]
   ·dsimp only at hi
    rw [T.aC _ _ hb] at hi
    exact⟨o',hi,fun _ _ h=>h,rfl⟩
  ·exact .refl _
 ·exact .refl _
theorem Fy {l:List (A×List CK×X×Nat)} (hl:K3 ρ l) (v:V) (hp:av ρ st.pc):qQ ρ st (uN l v st):=by
 unfold uN
 split
 ·exact xI hl _ hp
 ·exact xI hl _ hp
 ·exact .refl _
theorem ad8 {l:List (A×List CK×X×Nat)} (hl:K3 ρ l) {f:FuncId} {s:List V→St→R (V×St)} (h:cV P cx ρ f s):cV P cx ρ f (ad0 l s):=by
 intro args st v st' e S π0 w ac n hh ha
 obtain⟨⟨v1,st1⟩,e1,e2⟩:=bo e
 simp only [R.ai,Option.some.injEq,Prod.mk.injEq] at e2
 obtain⟨rfl,rfl⟩:=e2
 refine (h args st v1 st1 e1 S π0 w ac n hh ha).mono fun e w' hp=>?_
 obtain⟨h1,π1,g,h2⟩:=hp
 have hless:=Fy (st:=st1) hl v1 h1
 have hn:(uN l v1 st1).n=st1.n:=by
  unfold uN Be
  split<;>(try split)<;>(try split)<;>rfl
 refine⟨hless.pc h1,π1,g.less hless,?_⟩
 rw [hn]
 exact h2
end
end Go.Proofs.YtmickljjofbmiaaGreatDoor
namespace Go.Proofs.YtmickljjofbmiaaGreatDoor
open Go Go.RowKit
def TC (L:List (Nat×List V)) (ws:List (Nat×au)) (n:Nat) (pc:PC):St:={h:=lN ws (fW L),n:=n,pc:=pc}
noncomputable def mT:gm→Bool
 | .ok (.ret (.bool x),st)=>yY 1000 st.pc x true
 | .ok _=>false
 | .br _ t f=>match mT t with
  | true=>mT f
  | false=>false
 | .stuck _=>false
section
variable {P:Program} {cx:Cx} {ρ:Env} {W:World} {L:List (Nat×List V)} {ws:List (Nat×au)} {ng nm:Nat} {pc:PC}
theorem og:∀ {r:gm},mT r=true→∃ x st,r.ai ρ=some (.ret (.bool x),st)∧(av ρ st.pc→x.tt ρ=true)
 | .ok a,h=>by
  unfold mT at h
  split at h
  ·rename_i x st e
   injection e with e
   subst e
   exact⟨x,st,rfl,fun hp=>fB hp h⟩
  ·cases h
  ·rename_i e;cases e
  ·rename_i e;cases e
 | .br c t f,h=>by
  unfold mT at h
  split at h
  ·rename_i ht
   unfold R.ai
   split
   ·exact og ht
   ·exact og h
  ·cases h
 | .stuck _,h=>by simp [mT] at h
structure RowsAt (ρ:Env) (W:World) (ws:List (Nat×au)) (ng nm:Nat):Prop where
 lo:∀ x∈ws,ng≤x.1∧x.1<nm
 le:ng≤nm
 obj:∀ x∈ws,W.heap[(ρ.win x.1).block]?=some (ρ.ro x.1)
 bG:∀ x∈ws,x.2.bG=true
 is:∀ x∈ws,∀ π:Pl,(π x.1).1=(ρ.win x.1).block→x.2.is ρ π x.1 (ρ.ro x.1)
def πRows(ρ:Env)(ng:Nat):Pl:=fun i=>match Nat.ble ng i with
 | true=>⟨(ρ.win i).block,0,.nilFunc⟩
 | false=>⟨i,0,.nilFunc⟩
theorem πRows_win{i:Nat}(h:ng≤i):(πRows ρ ng i).1=(ρ.win i).block:=by
 unfold πRows
 rw [Nat.ble_eq_true_of_le h]
theorem πRows_glob{i:Nat}(h:i<ng):(πRows ρ ng i).1=i:=by
 unfold πRows
 cases hb:Nat.ble ng i with
 | true=>have:=Nat.le_of_ble_eq_true hb;omega
 | false=>rfl
theorem Pj(hng:cx.ng=ng)(hL:∀ x∈L,x.1<ng)(hro:RoAt ρ L) (hW:∀ x∈L,W.heap[x.1]?=some (ρ.ro x.1)) (hw:RowsAt ρ W ws ng nm) (hpc:av ρ pc):cg cx ρ (fun i=>i<nm) (πRows ρ ng) (TC L ws nm pc) W:=by
 have hget:∀ i o,(lN ws (fW L)).get i=some o→(i,o)∈ws∨∃ x∈L,i=x.1∧o=.ro x.1 x.2:=by
  intro i o hi
  rcases lO hi with h | ⟨_,h⟩
  ·exact .inl h
  ·exact .inr (ct h)
 have hle:=hw.le
 have hfr:∀ i o,(lN ws (fW L)).get i=some o→o.bG=true:=by
  intro i o hi
  rcases hget i o hi with h | ⟨x,hx,rfl,rfl⟩
  ·exact hw.bG _ h
  ·rfl
 refine⟨hpc,⟨fun π hk=>⟨fun i o hi=>?_,fun i j o o' hi hj e=>?_⟩,fun i o hi=>?_⟩,fun g hg=>?_,fun i hi hs=>?_⟩
 ·rcases hget i o hi with h | ⟨x,hx,rfl,rfl⟩
  ·have hlo:=hw.lo _ h
   have h1:(π i).1=(ρ.win i).block:=by rw [hk i hlo.2];exact πRows_win hlo.1
   exact⟨_,by rw [h1];exact hw.obj _ h,hw.is _ h π h1⟩
  ·have hlt:=hL x hx
   have h1:(π x.1).1=x.1:=by rw [hk x.1 (by show x.1<nm;omega)];exact πRows_glob hlt
   obtain⟨t,fr,h2⟩:=hro.is x hx
   exact⟨_,by rw [h1];exact hW x hx,⟨t,fr,h2 π⟩,rfl⟩
 ·exact .inr ⟨hfr i o hi,hfr j o' hj⟩
 ·rcases hget i o hi with h | ⟨x,hx,rfl,rfl⟩
  ·exact (hw.lo _ h).2
  ·have:=hL x hx
   show x.1<nm;omega
 ·rw [hng] at hg
  exact⟨by show g<nm;omega,πRows_glob hg⟩
 ·have h1:nm≤i:=hi
  have h2:i<nm:=hs
  omega
theorem La(hw:RowsAt ρ W ws ng nm){π0 π1:Pl}{w':World}{n':Nat}{h':H} (g:cS ρ (fun i=>i<nm) π0 (lN ws (fW L)) W nm π1 h' w' n'):Below W.heap.size W w':=by
 refine⟨g.same.2.1,g.same.1,g.same.2.2,g.size,fun k hk=>g.keep k hk fun i o hi _=>?_⟩
 rcases lO hi with h | ⟨_,h⟩
 ·exact hw.bG _ h
 ·obtain⟨x,hx,rfl,rfl⟩:=ct h
  rfl
theorem aeE{N:Nat}{f:FuncId}{fn:Func}{args:List V}{ac:List Value}(hmix:P.follows .mixedOrders=true)(htt:mQ P cx.tt)(hft:rz P cx.ft)(hsm:SumOk P cx ρ) (hf:P.funcs[f]?=some fn)
  (hng:cx.ng=ng) (hL:∀ x∈L,x.1<ng) (hro:RoAt ρ L) (hW:∀ x∈L,W.heap[x.1]?=some (ρ.ro x.1)) (hw:RowsAt ρ W ws ng nm) (hpc:av ρ pc)
  (ht:mT ((ev cx N).call f args (TC L ws nm pc))=true) (ha:bK ρ (fun i=>i<nm) (πRows ρ ng) args ac):
  Calls P f ac.toArray W fun e W'=>e=.returned (.bool true)∧Below W.heap.size W W':=by
 obtain⟨x,st,hsel,hx⟩:=og (ρ:=ρ) ht
 refine (zm hmix htt hft hsm hsel (Pj hng hL hro hW hw hpc) ha hf).mono fun e W' hp=>?_
 obtain⟨hpc',π1,g,c,rfl,hv⟩:=hp
 refine⟨?_,La hw g⟩
 rw [←hv π1 fun _ _=>rfl]
 simp [V.ae,hx hpc']
end
end Go.Proofs.YtmickljjofbmiaaGreatDoor
namespace Go.Proofs.YtmickljjofbmiaaGreatDoor
open Go Go.Proofs Go.ChangeShapes Go.WideShapes Go.RowKit
def roW(W:World)(i:Nat):Obj:=(W.heap[i]?).getD (.deferred none)
structure yF (W:World) (ks:List CK) (a:Addr) (ln:Nat) (g:Nat→Int→Int):Prop where
 spot:a.spot=none
 row:∃ cs t fr,W.heap[a.block]?=some (.cells cs t fr)∧∀ (j c:Nat) (k:CK),j<ln→ks[c]?=some k→cs[a.off+(j*ks.length+c)]?=some (k.val (match k with
  | .int k=>k.wrap (g c j)
  | .bool=>a7 (g c j==1)))
theorem ad2{W:World}{ks:List CK}{a:Addr}{ln:Nat}{zs:Nat→List Value}(hn:0<ln)(hks:0<ks.length) (h:∀ i,i<ln→kU ks (zs i)∧∀ j,j<ks.length→W.cell? (a.add (i*ks.length+j))=(zs i)[j]?):
  yF W ks a ln fun c j=>yW ((zs j.toNat).getD c default):=by
 have h0:∃ cs t fr,W.heap[a.block]?=some (.cells cs t fr)∧a.spot=none:=by
  obtain⟨h1,h2⟩:=h 0 hn
  have h3:=h2 0 hks
  have hl:=h1.len
  have:(zs 0)[0]?=some (zs 0)[0]:=List.getElem?_eq_getElem (by omega)
  rw [this] at h3
  unfold World.cell? at h3
  split at h3
  ·rename_i cs t fr hb
   refine⟨cs,t,fr,by simpa [Addr.add] using hb,?_⟩
   cases hs:a.spot with
   | none=>rfl
   | some n=>simp [Addr.add,hs] at h3
  ·cases h3
 obtain⟨cs,t,fr,hb,hs⟩:=h0
 refine⟨hs,cs,t,fr,hb,fun j c k hj hk=>?_⟩
 obtain⟨h1,h2⟩:=h j hj
 have hc:c<ks.length:=(List.getElem?_eq_some_iff.1 hk).1
 obtain⟨v,hv,hok⟩:=h1.get hk
 have h3:=h2 c hc
 rw [hv,add_plain hs] at h3
 unfold World.cell? at h3
 dsimp only at h3
 rw [hb] at h3
 simp only [Option.isSome_none,Bool.false_eq_true,if_false] at h3
 rw [h3,Int.toNat_natCast,List.getD_eq_getElem?_getD,hv,Option.getD_some]
 cases k with
 | int k=>
  obtain⟨z,rfl,hz⟩:=hok
  simp only [CK.val,yW,wf_wrap hz]
 | bool=>
  obtain⟨b,rfl⟩:=hok
  cases b<;>rfl
theorem yF.block{W:World}{ks:List CK}{a:Addr}{ln:Nat}{g:Nat→Int→Int}(h:yF W ks a ln g):W.heap[a.block]?=some (roW W a.block):=by
 obtain⟨cs,t,fr,hb,_⟩:=h.row
 simp only [roW,hb,Option.getD_some]
theorem yF.is{W:World}{ks:List CK}{a:Addr}{ln:Nat}{g:Nat→Int→Int}(h:yF W ks a ln g){ρ:Env}{π:Pl}{b tag t:Nat}{len:X}(hw:ρ.win b=a)(hr:ρ.ro tag=roW W a.block) (hf:∀ c,c<ks.length→ρ.f1 (t+c)=g c) (hl:(len.den ρ).toNat≤ln) (hπ:(π b).1=a.block):
  au.is ρ π b (.warr tag t ks len) (roW W a.block):=by
 obtain⟨cs,ty,fr,hb,hc⟩:=h.row
 refine⟨⟨by rw [hw];exact h.spot,by rw [hw,hπ],cs,ty,fr,by simp only [roW,hb,Option.getD_some],fun j c k hj hk=>?_⟩,hr.symm⟩
 dsimp only
 rw [hw,hc j c k (by omega) hk]
 have hcl:c<ks.length:=(List.getElem?_eq_some_iff.1 hk).1
 cases k with
 | int k=>simp only [A.den,CK.sym,hf c hcl]
 | bool=>simp only [A.den,CK.sym,hf c hcl]
end Go.Proofs.YtmickljjofbmiaaGreatDoor
namespace Go.Proofs.YtmickljjofbmiaaGreatDoor
open Go Go.Proofs
def Aw:gm→(V→St→Bool)→Bool
 | .ok (.ret v,st),k=>k v st
 | .ok _,_=>false
 | .br _ t f,k=>match Aw t k with
  | true=>Aw f k
  | false=>false
 | .stuck _,_=>false
theorem wk{ρ:Env}{k:V→St→Bool}:∀ {r:gm},Aw r k=true→∃ v st,r.ai ρ=some (.ret v,st)∧k v st=true
 | .ok a,h=>by
  unfold Aw at h
  split at h
  ·rename_i v st e
   injection e with e
   subst e
   exact⟨v,st,rfl,h⟩
  ·cases h
  ·rename_i e;cases e
  ·rename_i e;cases e
 | .br c t f,h=>by
  unfold Aw at h
  split at h
  ·rename_i ht
   unfold R.ai
   split
   ·exact wk ht
   ·exact wk h
  ·cases h
 | .stuck _,h=>by simp [Aw] at h
def comp(call:FuncId→List V→St→gm) (L:List (Nat×List V)) (ng m:Nat):List (FuncId×List V)→List V→PC→(List V→PC→Bool)→Bool
 | [],acc,pc,k=>k acc pc
 | (f,a)::l,acc,pc,k=>Aw (call f a {qK L ng with pc:=pc}) fun v st=>match Nat.ble st.n m with
  | true=>match bF L st.h with
   | true=>comp call L ng m l (v::acc) st.pc k
   | false=>false
  | false=>false
theorem O3{ρ:Env}{call:FuncId→List V→St→gm} {L:List (Nat×List V)} {ng m:Nat} {f:FuncId} {a:List V} {l:List (FuncId×List V)} {acc:List V} {pc:PC} {k:List V→PC→Bool} (h:comp call L ng m ((f,a)::l) acc pc k=true):
  ∃ v st,(call f a {qK L ng with pc:=pc}).ai ρ=some (.ret v,st)∧st.n≤m∧bF L st.h=true∧comp call L ng m l (v::acc) st.pc k=true:=by
 obtain⟨v,st,h1,h2⟩:=wk (ρ:=ρ) (by unfold comp at h;exact h)
 split at h2
 ·rename_i hm
  split at h2
  ·rename_i hr
   exact⟨v,st,h1,Nat.le_of_ble_eq_true hm,hr,h2⟩
  ·cases h2
 ·cases h2
theorem SP{P:Program}{cx0:Cx}{ρ:Env}{w:World} {L:List (Nat×List V)} {ng:Nat} {π0:Pl} (hmix:P.follows .mixedOrders=true) (htt:mQ P cx0.tt) (hft:rz P cx0.ft) (hsm:SumOk P cx0 ρ) (hng0:cx0.ng=ng) (hL:∀ x∈L,x.1<ng) (hro:RoAt ρ L) (hπ:∀ g,g<ng→(π0 g).1=g) (hW:∀ x∈L,w.heap[x.1]?=some (ρ.ro x.1))
  {N:Nat} {f:FuncId} {fn:Func} {args:List V} {v:V} {st':St} {pc0:PC} (hpc0:av ρ pc0) (hsel:((ev cx0 N).call f args {qK L ng with pc:=pc0}).ai ρ=some (.ret v,st')) (hpure:V.dt args=true) (hfn:P.funcs[f]?=some fn):av ρ st'.pc:=by
 have h0:=(oS (cx0:=cx0) (π0:=π0) hng0 hL hro hπ hW).fx (st1:={qK L ng with pc:=pc0}) ⟨rfl,rfl,hpc0⟩
 have ha0:bK ρ (fun i=>i<ng) π0 args (V.af ρ π0 args):=fun π _=>V.iV hpure
 obtain⟨e,w',fr,hp,_⟩:=(callsIn_wide (n:=0).1 ((q9 hmix htt hft hsm N).2.2 f args _ _ hsel _ π0 w _ 0 h0 ha0 ⟨fn,hfn⟩)) []
 exact hp.1
section
variable {P:Program} {cx cx0:Cx} {ρ:Env} {S:Nat→Prop} {π0:Pl} {st st':St} {w:World} {L:List (Nat×List V)} {ng:Nat}
theorem LF{ρ':Env}{pc0:PC}(hpc0:av ρ' pc0)(hmix:P.follows .mixedOrders=true)(htt:mQ P cx0.tt)(hft:rz P cx0.ft)(hsm:SumOk P cx0 ρ')(hng:cx.ng=ng)(hng0:cx0.ng=ng)(hL:∀ x∈L,x.1<ng)(hro:RoAt ρ' L)(hroe:ρ'.ro=ρ.ro)
  {N:Nat} {f:FuncId} {fn:Func} {args:List V} {v v':V} {objs:List (Nat×au)} (hsel:((ev cx0 N).call f args {qK L ng with pc:=pc0}).ai ρ'=some (.ret v,st')) (hthere':bF L st'.h=true) (hv':av ρ' st'.pc→∀ π,v'.ae ρ π=v.ae ρ' π) (hnw:v'.bQ=true)
  (hobjs:∀ x∈objs,ng≤x.1∧∃ o,st'.h.get x.1=some o∧(x.2.plain=true∧o.bG=false)∧∀ π b ob,o.is ρ' π b ob→x.2.is ρ π b ob) (hpure:V.dt args=true) (hfn:P.funcs[f]?=some fn)
  (hh:cg cx ρ S π0 st w) (hthere:bF L st.h=true) {ac:List Value} (ha:bK ρ' S π0 args ac) {n:Nat}:
  CallsIn Fence.wide n P f ac.toArray w (EPost ρ S π0 st w (.ret (v'.kT (sh st.n ng)),{h:=fi (sh st.n ng) objs st.h,n:=st.n+(st'.n-ng),pc:=st.pc})):=by
 have hπ:∀ g,g<ng→(π0 g).1=g:=fun g hg=>(hh.glob g (by rw [hng];exact hg)).2
 have hSg:∀ g,g<ng→S g:=fun g hg=>(hh.glob g (by rw [hng];exact hg)).1
 have hngn:ng≤st.n:=by
  rcases Nat.lt_or_ge st.n ng with h | h
  ·exact absurd (hSg st.n h) (hh.fresh st.n (Nat.le_refl _))
  ·exact h
 have hW:∀ x∈L,w.heap[x.1]?=some (ρ.ro x.1):=by
  intro x hx
  obtain⟨c,hc⟩:=jc hthere x hx
  obtain⟨ob,h1,_,h2⟩:=(hh.at_.rep π0 fun _ _=>rfl).obj _ _ hc
  rw [hπ _ (hL x hx),h2] at h1
  exact h1
 have hW2:∀ x∈L,w.heap[x.1]?=some (ρ'.ro x.1):=fun x hx=>by rw [hroe];exact hW x hx
 have h0:=(oS (cx0:=cx0) (π0:=π0) hng0 hL hro hπ hW2).fx (st1:={qK L ng with pc:=pc0}) ⟨rfl,rfl,hpc0⟩
 have ha0:bK ρ' (fun i=>i<ng) π0 args ac:=fun π _=>(V.iV hpure).trans (ha π0 fun _ _=>rfl)
 refine ((q9 hmix htt hft hsm N).2.2 f args _ _ hsel _ π0 w ac n h0 ha0 ⟨fn,hfn⟩).mono fun e w' hp=>?_
 obtain⟨hpc',πc,g,c,rfl,hv⟩:=hp
 have hb:=yQ hL hπ hW2 g hthere'
 have hle:ng≤st'.n:=g.le
 refine⟨hh.pc,fun i=>if i<st.n then π0 i else πc (i-st.n+ng),?_⟩
 have hpi:∀ b,(fun i=>if i<st.n then π0 i else πc (i-st.n+ng)) (sh st.n ng b)=πc b:=by
  intro b
  dsimp only
  rcases Nat.lt_or_ge b ng with h | h
  ·rw [Ox h,if_pos (by omega),g.known b h]
  ·rw [C3 h,if_neg (by omega),show b-ng+st.n-st.n+ng=b by omega]
 have hkn:∀ π,a9 (Ext S st.n (st.n+(st'.n-ng))) π (fun i=>if i<st.n then π0 i else πc (i-st.n+ng))→a9 (Ext (fun i=>i<ng) ng st'.n) (fun b=>π (sh st.n ng b)) πc:=by
  intro π hk b hbb
  dsimp only
  rw [←hpi b]
  refine hk _ ?_
  rcases hbb with h | ⟨h1,h2⟩
  ·rw [Ox h]
   exact .inl (hSg b h)
  ·rw [C3 h1]
   exact .inr ⟨by omega,by omega⟩
 have hk0:a9 S (fun i=>if i<st.n then π0 i else πc (i-st.n+ng)) π0:=by
  intro i hi
  dsimp only
  rw [if_pos]
  rcases Nat.lt_or_ge i st.n with h | h
  ·exact h
  ·exact absurd hi (hh.fresh i h)
 have hold:∀ π,a9 (Ext S st.n (st.n+(st'.n-ng))) π (fun i=>if i<st.n then π0 i else πc (i-st.n+ng))→∀ i o,st.h.get i=some o→∃ ob,w.heap[(π i).1]?=some ob∧o.is ρ π i ob:=by
  intro π hk i o hi
  exact (hh.at_.rep π fun j hj=>(hk j (.inl hj)).trans (hk0 j hj)).obj i o hi
 have hnew:∀ x∈objs,w.heap.size≤(πc x.1).1:=by
  intro x hx
  obtain⟨h1,o,h2,h3,hob⟩:=hobjs x hx
  rcases g.sub x.1 o h2 with h | ⟨i0,o0,h4,h5,h6⟩
  ·exact h
  ·obtain⟨y,hy,rfl,rfl⟩:=ct h4
   rw [h3.2] at h6
   exact absurd (h6 rfl) (by decide)
 refine⟨?_,⟨c,rfl,fun π hk=>?_⟩⟩
 ·refine⟨by dsimp only;omega,hk0,⟨fun π hk=>⟨fun i o hi=>?_,fun i j o o' hi hj e=>?_⟩,fun i o hi=>?_⟩,fun i o hi=>?_,fun j hj hne=>hb.block j hj,hb.size,⟨hb.tape,hb.os,hb.output⟩⟩
  ·rcases dg hi with ⟨x,hx,rfl,rfl⟩ | hi
   ·obtain⟨h1,o,h2,h3,hob⟩:=hobjs x hx
    obtain⟨ob,h4,h5⟩:=(g.at_.rep _ (hkn π hk)).obj x.1 o h2
    exact⟨ob,h4,au.LC h3.1 (hob _ _ _ h5)⟩
   ·obtain⟨ob,h1,h2⟩:=hold π hk i o hi
    have hlt:(π i).1<w.heap.size:=(Array.getElem?_eq_some_iff.1 h1).1
    exact⟨ob,by rw [hb.block _ hlt];exact h1,h2⟩
  ·have hmix:∀ (i j:Nat) (o:au) (x:Nat×au),st.h.get i=some o→x∈objs→(π i).1=(π (sh st.n ng x.1)).1→False:=by
    intro i j o x hi hx e
    obtain⟨ob,h1,_⟩:=hold π hk i o hi
    have hlt:(π i).1<w.heap.size:=(Array.getElem?_eq_some_iff.1 h1).1
    have h2:=hnew x hx
    obtain⟨h3,o,h4,_⟩:=hobjs x hx
    have h5:(π (sh st.n ng x.1))=πc x.1:=hkn π hk x.1 (g.at_.dom _ _ h4)
    rw [h5] at e
    omega
   rcases dg hi with ⟨x,hx,rfl,rfl⟩ | hi<;>rcases dg hj with ⟨y,hy,rfl,rfl⟩ | hj
   ·obtain⟨h1,_,h2,h3,_⟩:=hobjs x hx
    obtain⟨h4,_,h5,h6,_⟩:=hobjs y hy
    rcases (g.at_.rep _ (hkn π hk)).inj x.1 y.1 _ _ h2 h5 e with e | e
    ·exact .inl (by rw [e])
    ·rw [h3.2] at e;cases e.1
   ·exact (hmix j 0 _ x hj hx e.symm).elim
   ·exact (hmix i 0 _ y hi hy e).elim
   ·exact (hh.at_.rep π fun j hj=>(hk j (.inl hj)).trans (hk0 j hj)).inj i j _ _ hi hj e
  ·rcases dg hi with ⟨x,hx,rfl,rfl⟩ | hi
   ·obtain⟨h1,_,h2,h3⟩:=hobjs x hx
    rcases g.at_.dom _ _ h2 with h | ⟨_,h⟩
    ·have:x.1<ng:=h
     omega
    ·have h':x.1<st'.n:=h
     rw [C3 h1]
     exact .inr ⟨by omega,by dsimp only;omega⟩
   ·exact .inl (hh.at_.dom i o hi)
  ·rcases dg hi with ⟨x,hx,rfl,rfl⟩ | hi
   ·refine .inl ?_
    have:=hnew x hx
    rw [←hpi x.1] at this
    exact this
   ·exact .inr ⟨i,o,hi,congrArg Pc.p (hk0 i (hh.at_.dom i o hi)).symm,id⟩
 ·rw [V.gr _ _ _ _ hnw,hv' hpc']
  exact hv _ (hkn π hk)
end
end Go.Proofs.YtmickljjofbmiaaGreatDoor
namespace Go.Proofs.YtmickljjofbmiaaGreatDoor
open Go Go.Proofs
section
variable {P:Program} {cx:Cx} {ρ:Env} {L:List (Nat×List V)} {ng:Nat} {f:FuncId}
structure bc (P:Program) (L:List (Nat×List V)) (ng m:Nat) (ro:Nat→Obj) (f:FuncId) (a:List Value) (val:Value):Prop where
 is:∃ (c:Cx) (N:Nat) (ρ':Env) (pc0:PC) (x:List V) (v:V) (st':St),SumOk P c ρ'∧mQ P c.tt∧rz P c.ft∧c.ng=ng∧ρ'.ro=ro∧RoAt ρ' L∧av ρ' pc0∧((ev c N).call f x {qK L ng with pc:=pc0}).ai ρ'=some (.ret v,st')∧bF L st'.h=true∧st'.n≤m∧(∀ π,v.ae ρ' π=val)∧V.dt x=true∧∀ π,V.af ρ' π x=a
theorem bc.post{m:Nat}{ro:Nat→Obj}{a:List Value}{val:Value}(h:bc P L ng m ro f a val)(hmix:P.follows .mixedOrders=true)(hng:cx.ng=ng)(hL:∀ x∈L,x.1<ng){fn:Func} (hfn:P.funcs[f]?=some fn) (hr:ρ.ro=ro) {args:List V} (ha:∀ π,V.af ρ π args=a) {v:V} (hv:∀ π,v.ae ρ π=val) (hren:∀ r,v.kT r=v) (hnw:v.bQ=true)
  {S:Nat→Prop} {π0:Pl} {st:St} {w:World} {ac:List Value} {n:Nat} (hh:cg cx ρ S π0 st w) (hthere:bF L st.h=true) (hac:bK ρ S π0 args ac):CallsIn Fence.wide n P f ac.toArray w (EPost ρ S π0 st w (.ret v,{st with n:=st.n+m})):=by
 obtain⟨c,N,ρ',pc0,x,u,st',h1,h2,h3,h4,h5,h6,h7,h8,h9,h10,h11,h12,h13⟩:=h.is
 have hargs:bK ρ' S π0 x ac:=fun π hk=>by rw [h13 π,←ha π,hac π hk]
 have key:=LF (P:=P) (cx:=cx) (cx0:=c) (ρ:=ρ) (ρ':=ρ') h7 hmix h2 h3 h1 hng h4 hL h6 (h5.trans hr.symm) h8 h9 (v':=v) (fun _ π=>(hv π).trans (h11 π).symm) hnw (objs:=[]) (fun x hx=>by simp at hx) h12 hfn hh hthere hargs (n:=n)
 refine key.mono fun e w' hp=>?_
 rw [hren] at hp
 exact EPost.more (st1:={h:=st.h,n:=st.n+(st'.n-ng),pc:=st.pc}) (v:=v) hp (m:=st.n+m) (by show st.n+(st'.n-ng)≤st.n+m;omega)
theorem pI{m:Nat}(hmix:P.follows .mixedOrders=true)(hng:cx.ng=ng)(hL:∀ x∈L,x.1<ng){fn:Func} (hfn:P.funcs[f]?=some fn):∀ {l:List (List V×R Leaf)},(∀ x∈l,∃ a val,bc P L ng m ρ.ro f a val∧(∀ π,V.af ρ π x.1=a)∧∀ lf,x.2.ai ρ=some lf→lf.objs=[]∧lf.n=ng+m∧(∀ π,lf.v.ae ρ π=val)∧(∀ r,lf.v.kT r=lf.v)∧lf.v.bQ=true)→cV P cx ρ f (bT L ng l)
 | [],_,args,st,v,st',h,_,_,_,_,_,_,_=>by simp [bT,R.ai] at h
 | (a,tr)::l,hl,args,st,v,st',h,S,π0,w,ac,n,hh,hac=>by
  unfold bT at h
  split at h
  ·rename_i hb
   obtain rfl:=V.bD _ _ hb
   split at h
   ·rename_i hthere
    obtain⟨lf,st1,h1,hlk,rfl,rfl⟩:=pZ hh.pc h
    obtain⟨ca,val,c1,c2,c3⟩:=hl _ (List.mem_cons_self ..)
    obtain⟨d1,d2,d3,d4,d5⟩:=c3 lf h1
    have hh1:=hh.fx hlk
    have:=c1.post hmix hng hL hfn rfl c2 d3 d4 d5 hh1 (by rw [hlk.h];exact hthere) hac (n:=n)
    refine this.mono fun e w' hp=>EPost.fx hlk ?_
    rw [d1,d4,d2,show fi (sh st1.n ng) [] st1.h=st1.h from rfl,show st1.n+(ng+m-ng)=st1.n+m by omega]
    exact hp
   ·simp [R.ai] at h
  ·exact pI hmix hng hL hfn (fun x hx=>hl x (List.mem_cons_of_mem _ hx)) args st v st' h S π0 w ac n hh hac
theorem cg.less{S:Nat→Prop}{π0:Pl}{st st1:St}{w:World}(hh:cg cx ρ S π0 st w)(l:qQ ρ st st1)(hn:st1.n=st.n):cg cx ρ S π0 st1 w:=by
 refine⟨l.pc hh.pc,⟨fun π hk=>⟨fun i o hi=>?_,fun i j o o' hi hj e=>?_⟩,fun i o hi=>?_⟩,hh.glob,fun i hi=>hh.fresh i (by rw [←hn];exact hi)⟩
 ·obtain⟨o1,h1,h2,_⟩:=l.h i o hi
  obtain⟨ob,h3,h4⟩:=(hh.at_.rep π hk).obj i o1 h1
  exact⟨ob,h3,h2 π ob h4⟩
 ·obtain⟨o1,h1,_,z1⟩:=l.h i o hi
  obtain⟨o2,h2,_,z2⟩:=l.h j o' hj
  rw [←z1,←z2]
  exact (hh.at_.rep π hk).inj i j _ _ h1 h2 e
 ·obtain⟨o1,h1,_⟩:=l.h i o hi
  exact hh.at_.dom i o1 h1
theorem cS.from{S:Nat→Prop}{π0 π1:Pl}{st st1:St}{w w':World}{h':H}{n':Nat}(l:qQ ρ st st1)(hn:st1.n=st.n)(g:cS ρ S π0 st1.h w st1.n π1 h' w' n'):cS ρ S π0 st.h w st.n π1 h' w' n':=by
 rw [hn] at g
 refine⟨g.le,g.known,g.at_,fun i o hi=>?_,fun j hj hf=>?_,g.size,g.same⟩
 ·rcases g.sub i o hi with h | ⟨i0,o0,h1,h2,h3⟩
  ·exact .inl h
  ·obtain⟨o1,k1,_,k3⟩:=l.h i0 o0 h1
   exact .inr ⟨i0,o1,k1,h2,fun q=>h3 (by rw [←k3];exact q)⟩
 ·refine g.keep j hj fun i o hi e=>?_
  obtain⟨o1,k1,_,k3⟩:=l.h i o hi
  rw [←k3]
  exact hf i o1 k1 e
theorem cV.via {s:List V→St→R (V×St)} (h:∀ args st v st',(s args st).ai ρ=some (v,st')→av ρ st.pc→∃ (s':List V→St→R (V×St)) (args':List V) (st1:St) (v2:V) (st2:St),cV P cx ρ f s'∧(∀ π,V.af ρ π args'=V.af ρ π args)∧qQ ρ st st1∧st1.n=st.n∧(s' args' st1).ai ρ=some (v2,st2)∧(∀ π,v.ae ρ π=v2.ae ρ π)∧qQ ρ st2 st'):cV P cx ρ f s:=by
 intro args st v st' hs S π0 w ac n hh ha
 obtain⟨s',args',st1,v2,st2,h1,h2,h3,h4,h5,h6,h7⟩:=h args st v st' hs hh.pc
 have:=h1 args' st1 v2 st2 h5 S π0 w ac n (hh.less h3 h4) (fun π hk=>by rw [h2 π];exact ha π hk)
 refine this.mono fun e w' hp=>?_
 obtain⟨k1,π1,g,k2⟩:=hp
 have hp':EPost ρ S π0 st w (.ret v2,st2) e w':=⟨k1,π1,cS.from h3 h4 g,by rw [←h4];exact k2⟩
 exact hp'.less ⟨h7,.inr ⟨v2,v,rfl,rfl,h6⟩⟩
end
end Go.Proofs.YtmickljjofbmiaaGreatDoor
namespace Go.Proofs.YtmickljjofbmiaaGreatDoor
open Go
noncomputable section
inductive LM where
 | next (j:Nat) (σ:Mt)
 | out (k:Nat) (σ:Mt)
 | never
def sU(t:Tch)(n:Nat)(kn:List Nat)(Is:List n5)(outs:List OutP)(e:Ex)(fr:Fr)(st:St):LM→Bool
 | .never=>true
 | .next j σ=>match nth Is j with
  | some I=>match e with
   | .normal=>match gE n kn I.kn with
    | true=>fit t σ n I fr st
    | false=>false
   | _=>false
  | none=>false
 | .out k σ=>match nth outs k with
  | some O=>match kq e O.ex with
   | true=>match e with
    | .normal=>false
    | _=>match gE n kn O.pat.kn with
     | true=>fit t σ n O.pat fr st
     | false=>false
   | false=>false
  | none=>false
def j9(t:Tch)(n:Nat)(kn:List Nat)(Is:List n5)(outs:List OutP):cC→R LM→Bool
 | .br c a b,r=>match r with
  | .br d x y=>match c.beq d with
   | true=>match j9 t n kn Is outs a x with
    | true=>j9 t n kn Is outs b y
    | false=>false
   | false=>false
  | _=>false
 | .ok (e,fr,st),r=>match r with
  | .ok l=>sU t n kn Is outs e fr st l
  | _=>false
 | .stuck _,r=>match r with
  | .ok .never=>true
  | _=>false
def tK(ng n:Nat):List OutP→Bool
 | []=>true
 | O::l=>bM (pf ng O.pat) (Nat.ble n O.pat.n) (tK ng n l) true true true
def Fq(ng:Nat)(L:LoopI)(I:n5):Bool:=bM (pf ng I) (nC ng L.st.h L.st.n I.kn) (Nat.ble ng L.st.n) (Ta I.kn L.rnd) true true
def pD(ng:Nat)(L:LoopI):List n5→Bool
 | []=>true
 | I::l=>match Fq ng L I with
  | true=>pD ng L l
  | false=>false
def vp(Is:List n5)(outs:List OutP):cC→R LM→R LM
 | .br _ a b,r=>match r with
  | .br d x y=>.br d (vp Is outs a x) (vp Is outs b y)
  | r=>r
 | .ok (_,fr,st),r=>match r with
  | .ok (.next j σ)=>match nth Is j with
   | some I=>.ok (.next j (lU I fr st σ.v σ.a))
   | none=>r
  | .ok (.out k σ)=>match nth outs k with
   | some O=>.ok (.out k (lU O.pat fr st σ.v σ.a))
   | none=>r
  | r=>r
 | .stuck _,r=>r
def sV(t:Tch)(n:Nat)(I:n5)(Is:List n5)(outs:List OutP)(raw:cC)(ll:R LM):Bool:=j9 t n I.kn Is outs raw (vp Is outs raw ll)
end
end Go.Proofs.YtmickljjofbmiaaGreatDoor
namespace Go.Proofs.YtmickljjofbmiaaGreatDoor
open Go Go.Proofs
section
variable {P:Program} {cx:Cx} {ρ:Env}
theorem mZ{t:Tch}{n:Nat}{kn:List Nat}{Is:List n5}{outs:List OutP}{ρ1:Env}:∀ {raw:cC} {ll:R LM} {x:LM},j9 t n kn Is outs raw ll=true→ll.ai ρ1=some x→x=.never∨∃ e fr st,raw.ai ρ1=some (e,fr,st)∧sU t n kn Is outs e fr st x=true
 | .br c a b,ll,x,h,hs=>by
  unfold j9 at h
  split at h
  ·rename_i d u v
   split at h
   ·rename_i hc
    obtain rfl:=X.beq_eq hc
    split at h
    ·rename_i h1
     simp only [R.ai] at hs ⊢
     split at hs
     ·rename_i hcc
      rw [if_pos hcc]
      exact mZ h1 hs
     ·rename_i hcc
      rw [if_neg hcc]
      exact mZ h hs
    ·cases h
   ·cases h
  ·cases h
 | .ok (e,fr,st),ll,x,h,hs=>by
  unfold j9 at h
  split at h
  ·simp only [R.ai,Option.some.injEq] at hs
   subst hs
   exact .inr ⟨e,fr,st,rfl,h⟩
  ·cases h
 | .stuck _,ll,x,h,hs=>by
  unfold j9 at h
  split at h
  ·simp only [R.ai,Option.some.injEq] at hs
   exact .inl hs.symm
  ·cases h
theorem Av{ng n:Nat}:∀ {l:List OutP} {k:Nat} {O:OutP},tK ng n l=true→nth l k=some O→pf ng O.pat=true∧n≤O.pat.n
 | [],k,O,_,h=>by rw [bO] at h;simp at h
 | Q::l,k,O,he,h=>by
  unfold tK at he
  obtain⟨h1,h2,h3,_⟩:=az he
  rw [bO] at h
  cases k with
  | zero=>
   obtain rfl:=Option.some.inj (show some Q=some O from by simpa using h)
   exact⟨h1,Nat.le_of_ble_eq_true h2⟩
  | succ k=>exact Av h3 (k:=k) (by rw [bO];simpa using h)
theorem xC{ng:Nat}{L:LoopI}:∀ {l:List n5} {k:Nat} {I:n5},pD ng L l=true→nth l k=some I→Fq ng L I=true
 | [],k,O,_,h=>by rw [bO] at h;simp at h
 | Q::l,k,O,he,h=>by
  unfold pD at he
  rw [bO] at h
  split at he
  ·rename_i h1
   cases k with
   | zero=>
    obtain rfl:=Option.some.inj (show some Q=some O from by simpa using h)
    exact h1
   | succ k=>exact xC he (k:=k) (by rw [bO];simpa using h)
  ·cases he
def LM.fx:LM→LM→Prop
 | .next j σ,.next j' τ=>j=j'∧σ.v=τ.v∧σ.a=τ.a
 | .out k σ,.out j τ=>k=j∧σ.v=τ.v∧σ.a=τ.a
 | .never,.never=>True
 | _,_=>False
theorem LM.fh(x:LM):x.fx x:=by cases x<;>first | trivial | exact⟨rfl,rfl,rfl⟩
theorem rO{Is:List n5}{outs:List OutP}{ρ:Env}:∀ {raw:cC} {r:R LM} (l:LM),r.ai ρ=some l→∃ l',(vp Is outs raw r).ai ρ=some l'∧l.fx l'
 | .br c a b,r,l,h=>by
  cases r with
  | br d x y=>exact R.Tf (fun l h=>rO l h) (fun l h=>rO l h) l h
  | ok x=>exact⟨l,h,l.fh⟩
  | stuck s=>exact⟨l,h,l.fh⟩
 | .ok (e,fr,st),r,l,h=>by
  cases r with
  | br d x y=>exact⟨l,h,l.fh⟩
  | ok x=>
   simp only [R.ai,Option.some.injEq] at h
   subst h
   unfold vp
   cases x with
   | next j σ=>
    dsimp only
    split
    ·exact⟨_,rfl,rfl,rfl,rfl⟩
    ·exact⟨_,rfl,rfl,rfl,rfl⟩
   | out k σ=>
    dsimp only
    split
    ·exact⟨_,rfl,rfl,rfl,rfl⟩
    ·exact⟨_,rfl,rfl,rfl,rfl⟩
   | never=>exact⟨_,rfl,trivial⟩
  | stuck s=>simp [R.ai] at h
 | .stuck s,r,l,h=>by
  unfold vp
  exact⟨l,h,l.fh⟩
theorem LI{cxB:Nat→Cx}{L:LoopI}{t:Tch}{Is:List n5}{outs:List OutP} {lls:List (R LM)} {N ng:Nat} {I0:n5} (σ0:Mt) (Inv:Nat→Env→Prop) (μ:Env→Nat)
  (hcode:∀ j ρ1,Inv j ρ1→fP P (cxB j) ρ1 (ev (cxB j) N).code) (hngB:∀ j,(cxB j).ng=ng) (hng:cx.ng=ng)
  (hchk:∀ j I ll,nth Is j=some I→nth lls j=some ll→sV t L.st.n I Is outs ((ev (cxB j) N).code L.rnd L.body I.fr I.st) ll=true)
  (hlen:∀ j I,nth Is j=some I→∃ ll,nth lls j=some ll) (hst:pD ng L Is=true) (hou:tK ng L.st.n outs=true) (hI0:nth Is 0=some I0) (hent:fit t (lU I0 L.fr L.st σ0.v σ0.a) L.st.n I0 L.fr L.st=true)
  (h0:∃ ρ0,b8 t ρ ρ0 σ0∧Inv 0 ρ0)
  (hstep:∀ j ρ1 I ll,nth Is j=some I→nth lls j=some ll→Inv j ρ1→av ρ1 I.pc→∃ x,ll.ai ρ1=some x∧match x with
   | .next j' σ=>∃ ρ2,b8 t ρ1 ρ2 σ∧Inv j' ρ2∧μ ρ2<μ ρ1
   | .out k σ=>b8 t ρ1 ρ σ∧∃ O,nth outs k=some O∧L.res.ai ρ=some (O.ex,O.pat.fr,⟨O.pat.st.h,O.pat.st.n,L.st.pc⟩)
   | .never=>False):oc P cx ρ L:=by
 intro res hres S π0 w a ro n hh hf hr
 have hSn:∀ i,S i→i<L.st.n:=fun i hi=>Nat.lt_of_not_le fun hle=>hh.fresh i hle hi
 have cB:∀ {j ρ1 K π1 st1 w1},cg cx ρ1 K π1 st1 w1→cg (cxB j) ρ1 K π1 st1 w1:=fun {j} {_ _ _ _ _} h=>⟨h.pc,h.at_,fun g hg=>h.glob g (by rw [hng,←hngB j];exact hg),h.fresh⟩
 have hsh:∀ {j:Nat} {I:n5},nth Is j=some I→pf ng I=true∧(∀ i∈I.kn,i<L.st.n→S i)∧ng≤L.st.n∧Ta I.kn L.rnd=true:=by
  intro j I hI
  obtain⟨s1,s3,s4,s5,_⟩:=az (by have:=xC hst hI;unfold Fq at this;exact this)
  refine⟨s1,fun i hi hlt=>?_,Nat.le_of_ble_eq_true s4,s5⟩
  rcases kK s3 i hi hlt with h1 | ⟨o,h1⟩
  ·exact (hh.glob i (by rw [hng];exact h1)).1
  ·exact hh.at_.dom i o h1
 -- the rounds
 have key:∀ (m j:Nat) (I:n5) (ρ1:Env) (π1:Pl) (w1:World) (a1:Act),nth Is j=some I→μ ρ1=m→Inv j ρ1→cg cx ρ1 (·∈I.kn) π1 I.st w1→cY ρ1 (·∈I.kn) π1 I.fr a1→Trk L.st.n I.kn I.st.h π0 L.st.h w π1 w1→
   gn (FN ro) n P L.body (dA ρ S π0 L.st w res) a1 w1:=by
  intro m
  induction m using Nat.strongRecOn with
  | _ m ih=>
   intro j I ρ1 π1 w1 a1 hI hm hInv hh1 hf1 T1
   obtain⟨ll,hll⟩:=hlen j I hI
   obtain⟨s1,outS,hgn,s5⟩:=hsh hI
   obtain⟨x0,hx0,hcase0⟩:=hstep j ρ1 I ll hI hll hInv hh1.pc
   have hchk1:=hchk j I ll hI hll
   unfold sV at hchk1
   obtain⟨x,hx,hlike⟩:=rO (Is:=Is) (outs:=outs) (raw:=(ev (cxB j) N).code L.rnd L.body I.fr I.st) x0 hx0
   have hrnd:jy (·∈I.kn) π1 L.rnd ro:=by
    cases hq:L.rnd with
    | none=>
     rw [hq] at hr
     cases ro with
     | none=>trivial
     | some _=>exact hr.elim
    | some l=>
     rw [hq] at hr s5
     cases ro with
     | none=>exact hr.elim
     | some r=>
      have hl:=lj s5
      exact⟨hl,by rw [T1.base l hl (hSn l hr.1)];exact hr.2⟩
   rcases mZ hchk1 hx with rfl | ⟨e,fr,st,hraw,hleaf⟩
   ·cases x0 with
    | never=>exact hcase0.elim
    | next j σ=>exact hlike.elim
    | out k σ=>exact hlike.elim
   refine nk (wpIn_mono (hcode j ρ1 hInv L.rnd L.body I.fr I.st _ hraw _ π1 w1 a1 ro n (cB hh1) hf1 hrnd) ?_)
   rintro e' a' w' ⟨pc',π',g,hex,hfr⟩
   dsimp only at pc' g hex hfr
   have hh':=hh1.go g pc'
   cases x with
   | never=>cases x0 with
    | never=>exact hcase0.elim
    | next j σ=>exact hlike.elim
    | out k σ=>exact hlike.elim
   | next j' σ=>
    cases x0 with
    | never=>exact hcase0.elim
    | out k σ=>exact hlike.elim
    | next j0 τ=>
    obtain⟨rfl,hlike⟩:=hlike
    unfold sU at hleaf
    dsimp only at hleaf
    split at hleaf
    rotate_left
    ·cases hleaf
    rename_i I' hI'
    split at hleaf
    rotate_left
    ·cases hleaf
    split at hleaf
    rotate_left
    ·cases hleaf
    rename_i hou'
    obtain rfl:e'=.normal:=hex
    obtain⟨ρ2,E2,hInv2,hlt⟩:=hcase0
    have E2:=E2.fx hlike
    obtain⟨s1',_,_,_⟩:=hsh hI'
    obtain⟨k1,k2⟩:=mr E2 hleaf s1' hng hgn hh' hfr
    have houter:=dh (show jK σ L.st.n I'.kn=true from (az (by unfold fit at hleaf;exact hleaf)).2.2.2.2.2)
    exact ih (μ ρ2) (by omega) j0 I' ρ2 _ w' a' hI' rfl hInv2 k1 k2 (T1.go g hleaf (fg hou') houter)
   | out k σ=>
    cases x0 with
    | never=>exact hcase0.elim
    | next j σ=>exact hlike.elim
    | out k0 τ=>
    obtain⟨rfl,hlike⟩:=hlike
    obtain⟨E2,O,hO,hLres⟩:=hcase0
    have E2:=E2.fx hlike
    rw [hres] at hLres
    obtain rfl:=Option.some.inj hLres
    obtain⟨o1,o2⟩:=Av hou hO
    unfold sU at hleaf
    dsimp only at hleaf
    rw [hO] at hleaf
    dsimp only at hleaf
    split at hleaf
    rotate_left
    ·cases hleaf
    rename_i hexs
    obtain⟨rfl,hexc⟩:=B2 hexs
    have hne:O.ex≠.normal:=fun h1=>by rw [h1] at hleaf;simp at hleaf
    have hfit2:gE L.st.n I.kn O.pat.kn=true∧fit t σ L.st.n O.pat fr st=true:=by
     rcases hexc with h1 | ⟨i,h1⟩ | h1
     ·exact absurd h1 hne
     ·rw [h1] at hleaf
      dsimp only at hleaf
      split at hleaf
      ·rename_i h2
       exact⟨h2,hleaf⟩
      ·cases hleaf
     ·rw [h1] at hleaf
      dsimp only at hleaf
      split at hleaf
      ·rename_i h2
       exact⟨h2,hleaf⟩
      ·cases hleaf
    obtain⟨o3,hfit⟩:=hfit2
    have hfr':cY ρ1 (Ext (·∈I.kn) I.st.n st.n) π' fr a':=by
     rcases hexc with h1 | ⟨i,h1⟩ | h1<;>rw [h1] at hfr<;>exact hfr
    obtain⟨k1,k2⟩:=mr E2 hfit o1 hng hgn hh' hfr'
    have houter:=dh (show jK σ L.st.n O.pat.kn=true from (az (by unfold fit at hfit;exact hfit)).2.2.2.2.2)
    have T2:=T1.go g hfit (fg o3) houter
    have hlt:=sJ (az (by unfold pf at o1;exact o1)).2.2.2.2.1
    let πX:Pl:=fun i=>if i<L.st.n then π0 i else AK σ ρ1 π' i
    have same:∀ i∈O.pat.kn,πX i=AK σ ρ1 π' i:=by
     intro i hi
     by_cases hlti:i<L.st.n
     ·simp only [πX,if_pos hlti,T2.base i hi hlti]
     ·simp only [πX,if_neg hlti]
    have ext:∀ i∈O.pat.kn,Ext S L.st.n O.pat.n i:=by
     intro i hi
     by_cases hlti:i<L.st.n
     ·exact .inl (outS i (fg o3 i hi hlti) hlti)
     ·exact .inr ⟨by omega,hlt i hi⟩
    have known:∀ π,a9 (Ext S L.st.n O.pat.n) π πX→a9 (·∈O.pat.kn) π (AK σ ρ1 π'):=fun π hk i hi=>(hk i (ext i hi)).trans (same i hi)
    have hdom:∀ i o,O.pat.st.h.get i=some o→i∈O.pat.kn:=fun i o hi=>k1.at_.dom i o hi
    have post:dA ρ S π0 L.st w (O.ex,O.pat.fr,⟨O.pat.st.h,O.pat.st.n,L.st.pc⟩) e' a' w':=by
     refine⟨hh.pc,πX,⟨o2,fun i hi=>by simp only [πX,if_pos (hSn i hi)],⟨fun π hk=>k1.at_.rep π (known π hk),fun i o hi=>ext i (hdom i o hi)⟩,fun i o hi=>?_,T2.keep,T2.size,T2.same⟩,?_,?_⟩
     ·rw [same i (hdom i o hi)]
      exact T2.sub i o hi
     ·dsimp only
      rcases hexc with h1 | ⟨i,h1⟩ | h1<;>rw [h1] at hex ⊢<;>exact hex
     ·dsimp only
      have:cY ρ (Ext S L.st.n O.pat.n) πX O.pat.fr a':=by
       obtain⟨tc,t1,t2,t3⟩:=k2
       exact⟨tc,t1,fun π hk=>t2 π (known π hk),fun π hk=>t3 π (known π hk)⟩
      rcases hexc with h1 | ⟨i,h1⟩ | h1<;>rw [h1]<;>exact this
    rcases hexc with h1 | ⟨i,h1⟩ | h1
    ·exact absurd h1 hne
    ·rw [h1] at hex
     obtain rfl:e'=.exit i:=hex
     exact post
    ·rw [h1] at hex
     obtain rfl:e'=.ret:=hex
     exact post
 -- the start
 obtain⟨ρ0,E0,hInv0⟩:=h0
 obtain⟨s1,_,hgn,_⟩:=hsh hI0
 have E0:=E0.fx (σ:=σ0) (τ:=lU I0 L.fr L.st σ0.v σ0.a) ⟨rfl,rfl⟩
 obtain⟨k1,k2⟩:=mr E0 hent s1 hng hgn hh hf
 obtain⟨_,_,f3,_,_,f6⟩:=az (by unfold fit at hent;exact hent)
 refine key _ 0 I0 ρ0 _ w a hI0 rfl hInv0 k1 k2 ⟨fun i hi hlt=>?_,fun i o hi=>?_,fun _ _ _=>rfl,Nat.le_refl _,rfl,rfl,rfl⟩
 ·obtain⟨hu,hnm⟩:=dh f6 i hi hlt
  rw [eA hu,hnm]
 ·obtain⟨hu,q,hq,hfo⟩:=g9 f3 (eY hi)
  rw [eA hu]
  exact .inr ⟨_,q,hq,rfl,fun z=>(kt hfo).trans z⟩
end
end Go.Proofs.YtmickljjofbmiaaGreatDoor
namespace Go.Proofs.YtmickljjofbmiaaGreatDoor
open Go
theorem Ow{P:Program}{a b:Outcome}{wa wb:World}:∀ {n1 n2:Nat} {m m1 m2:Machine},runN P n1 m=.next m1→runN P n2 m=.next m2→step P m1=.ended a wa→step P m2=.ended b wb→m1=m2
 | 0,0,m,m1,m2,h1,h2,_,_=>by
  simp only [runN] at h1 h2
  injection h1 with h1
  injection h2 with h2
  rw [←h1,←h2]
 | 0,n2+1,m,m1,m2,h1,h2,e1,_=>by
  simp only [runN] at h1
  injection h1 with h1
  subst h1
  simp [runN,e1] at h2
 | n1+1,0,m,m1,m2,h1,h2,_,e2=>by
  simp only [runN] at h2
  injection h2 with h2
  subst h2
  simp [runN,e2] at h1
 | n1+1,n2+1,m,m1,m2,h1,h2,e1,e2=>by
  cases hs:step P m with
  | next m'=>
   simp only [runN,hs] at h1 h2
   exact Ow h1 h2 e1 e2
  | _=>simp [runN,hs] at h1
theorem OV{P:Program}{f:FuncId}{args:Array Value}{w:World}{v1 v2:Value}(hi:P.inits.idxOf? f=none)(h1:Calls P f args w fun e _=>e=.returned v1)(h2:Calls P f args w fun e _=>e=.returned v2):v1=v2:=by
 obtain⟨e1,w1,fr1,rfl,⟨n1,c1⟩,g1,l1⟩:=h1 []
 obtain⟨e2,w2,fr2,rfl,⟨n2,c2⟩,g2,l2⟩:=h2 []
 have d1:=step_leave_done l1 (by rw [g1];exact hi)
 have d2:=step_leave_done l2 (by rw [g2];exact hi)
 have e:=Ow c1 c2 d1 d2
 rw [e,d2] at d1
 injection d1 with d1
 injection d1 with d1
 exact d1.symm
end Go.Proofs.YtmickljjofbmiaaGreatDoor
namespace Go.Proofs.YtmickljjofbmiaaGreatDoor
open Go
noncomputable section
def pC(pc:PC)(x y:X):Bool:=match x.beq y with
 | true=>true
 | false=>yY 100 pc (mkEq x y) true
def MA(pc:PC):V→V→Bool
 | .int k x,.int j y=>match bq k j with
  | true=>pC pc x y
  | false=>false
 | .bool x,.bool y=>pC pc x y
 | _,_=>false
def uG(pc:PC):List V→List V→Bool
 | [],[]=>true
 | u::l,v::m=>match MA pc u v with
  | true=>uG pc l m
  | false=>false
 | _,_=>false
def tq(a b:Int)(x:X):Bool:=match xU x with
 | some r=>match decide (a≤r.lo) with
  | true=>decide (r.hi≤b)
  | false=>false
 | none=>false
def abJ(pc:PC)(a b:Int)(x:X):Bool:=match tq a b x with
 | true=>true
 | false=>match yY 100 pc (.le (.lit a) x) true with
  | true=>yY 100 pc (.le x (.lit b)) true
  | false=>false
def QL(x:X):Bool:=tq 0 4294967295 x
def Pp(x:X):Bool:=x.beq (.lit 0)
def wN(pc:PC)(ad:X)(w:Nat):Bool:=match yY 100 pc (mkEq (xg ad (.lit (.ofNat w))) (.lit 0)) true with
 | true=>yY 100 pc (mkLe (mkAdd .i64 ad (.lit (.ofNat w))) (.var 31)) true
 | false=>false
def Ds(pc:PC):List V→Bool
 | [.int .i64 (.lit (.ofNat k)),.int .u32 ad,.int .i64 (.lit (.ofNat w)),.int .u32 v,.int .i64 (.lit (.ofNat op)),.bool aq,.bool rl]=>bM (QL ad) (QL v) (match k with
  | 0=>bM (Nat.beq w 0) (Pp ad) (Pp v) (Nat.beq op 0) (Pp aq) (Pp rl)
  | 6=>bM (Nat.beq w 0) (Pp ad) (Nat.beq op 0) true true true
  | 1=>bM (eS w [1,2,4]) (Nat.beq op 0) (wN pc ad w) true true true
  | 2=>bM (eS w [1,2,4]) (Nat.beq op 0) (wN pc ad w) true true true
  | 3=>bM (Nat.beq w 4) (Nat.beq op 0) (wN pc ad 4) true true true
  | 4=>bM (Nat.beq w 4) (Nat.beq op 0) (wN pc ad 4) true true true
  | 5=>bM (Nat.beq w 4) (Nat.ble 50 op) (Nat.ble op 58) (wN pc ad 4) true true
  | _=>false) true true true
 | _=>false
def pr:Nat→List V→Bool
 | 0,[.int .i64 c]=>tq 0 4 c
 | n+1,.int .u32 x::l=>match QL x with
  | true=>pr n l
  | false=>false
 | _,_=>false
def zF(pc:PC):List V→Bool
 | .int .i64 i::.int .u32 p::.int .u32 r::l=>bM (i.beq (.var 0)) (QL p) (pC pc r (.lit 0)) (pr 31 l) true true
 | _=>false
def jD:List V→X
 | []=>.lit 5
 | v::l=>match l with
  | []=>match v with
   | .int _ x=>x
   | _=>.lit 5
  | _=>jD l
def Qh(k w:Nat)(b:B→List B):X:=match k with
 | 1=>.bv ((b .zero).take (8*w)) .zero
 | 3=>.bv ((b .zero).take (8*w)) .zero
 | 5=>.bv ((b .zero).take (8*w)) .zero
 | _=>.lit 0
def Q1(k:Nat):X:=match k with
 | 4=>.eq (.var 33) (.lit 1)
 | _=>.lit 0
def mY:List B:=[.pos 32,.pos 33,.pos 34,.pos 35,.pos 36,.pos 37,.pos 38,.pos 39,.pos 40,.pos 41,.pos 42,.pos 43,.pos 44,.pos 45,.pos 46,.pos 47,.pos 48,.pos 49,.pos 50,.pos 51,.pos 52,.pos 53,.pos 54,.pos 55,.pos 56,.pos 57,.pos 58,.pos 59,.pos 60,.pos 61,.pos 62,.pos 63]
def DN(pc:PC)(a h:List V):List V→Bool
 | .int .u32 p::.int .u32 w::c2::c3::c4::c5::c6::c7::c8::[.int .u32 x,.bool y,.int .i64 rd,.int .u32 val,.int .i64 cs]=>bM (uG pc [c2,c3,c4,c5,c6,c7,c8] a)
  (match a with
   | .int .i64 (.lit (.ofNat k))::_::.int .i64 (.lit (.ofNat wd))::_=>bM (pC pc x (Qh k wd fun _=>mY)) (pC pc y (Q1 k)) true true true true
   | _=>false)
  (pC pc cs (jD h)) (abJ pc 0 31 rd) (bM (QL val) (tq 0 4 cs) true true true true) (bM (QL p) (QL w) (QL x) true true true)
 | _=>false
def NF:List V→PC→Bool
 | [.tuple [.agg h',.agg c'],.tuple [.agg h,.agg c,.int .i64 (.lit (.ofNat e2))],.tuple [.agg a',.int .i64 w'],.tuple [.agg a,.int .i64 w,.int .i64 (.lit (.ofNat e1))]],pc=>
  bM (bM (Nat.beq e1 0) (Nat.beq e2 0) (pC pc w w') true true true) (uG pc a a') (uG pc h h') (uG pc c c') (bM (Ds pc a) (zF pc h) (DN pc a h c) true true true) true
 | _,_=>false
def Ko(f:Nat):Nat→Nat→List V→List V
 | _,0,r=>r
 | j,n+1,r=>.int .u32 (.wrap .u32 (.fn1 f (.lit (Int.ofNat j))))::Ko f (j+1) n r
def tp:V:=.agg (.int .i64 (.var 0)::.int .u32 (.wrap .u32 (.var 1))::Ko 0 0 32 [.int .i64 (.lit 0)])
def GJ(op:Nat):Bool:=match eS op [5,6,7,8,9,10,16,17,18,38,39] with
 | true=>false
 | false=>true
def CE(op:Nat):Bool:=match Nat.ble 28 op with
 | true=>match Nat.beq op 38 with
  | true=>false
  | false=>true
 | false=>false
def tu(op:Nat):V:=match op with
 | 0=>.tuple [.agg [.int .i64 (.lit 0),.int .i64 (.lit 0),.int .i64 (.lit 0),.int .i64 (.lit 0),.int .u32 (.lit 0),.bool (.eq (.var 25) (.lit 1)),.bool (.eq (.var 26) (.lit 1))],.bool (.lit 0)]
 | op=>.tuple [.agg [.int .i64 (.lit (.ofNat op)),.int .i64 (match GJ op with | true=>.var 21 | false=>.lit 0),.int .i64 (.var 22),.int .i64 (.var 23),.int .u32 (match CE op with | true=>.lit 0 | false=>.wrap .u32 (.var 24)),.bool (.eq (.var 25) (.lit 1)),.bool (.eq (.var 26) (.lit 1))],.bool (.lit 1)]
def n4:V:=.int .u32 (.wrap .u32 (.var 30))
def xD:V:=.int .i64 (.var 31)
def Q2:V:=.agg [.int .u32 (.bv mY .zero),.bool (.eq (.var 33) (.lit 1))]
def pcO:PC:=[(.le (.lit 0) (.var 0),true),(.le (.var 0) (.lit 3),true),(.le (.lit 0) (.var 21),true),(.le (.var 21) (.lit 31),true),(.le (.lit 0) (.var 22),true),(.le (.var 22) (.lit 31),true),(.le (.lit 0) (.var 23),true),(.le (.var 23) (.lit 31),true),(.eq (.wrap .u32 (.fn1 0 (.lit 0))) (.lit 0),true),(.le (.lit 0) (.lit 7),true)]
end
end Go.Proofs.YtmickljjofbmiaaGreatDoor
namespace Go.Proofs.YtmickljjofbmiaaGreatDoor
open Go Go.Proofs
variable {ρ:Env} {pc:PC}
theorem jg(hp:av ρ pc){x y:X}(h:pC pc x y=true):x.den ρ=y.den ρ:=by
 unfold pC at h
 split at h
 ·rename_i hb
  rw [X.beq_eq hb]
 ·have:=fB hp h
  rw [eM] at this
  exact eq_of_beq this
theorem Qe(hp:av ρ pc){u v:V}(h:MA pc u v=true)(π:Pl):u.ae ρ π=v.ae ρ π:=by
 unfold MA at h
 split at h
 ·split at h
  ·rename_i hk
   rw [aX hk]
   simp only [V.ae,jg hp h]
  ·cases h
 ·simp only [V.ae,X.tt,jg hp h]
 ·cases h
theorem pA(hp:av ρ pc)(π:Pl):∀ {l m:List V},uG pc l m=true→V.af ρ π l=V.af ρ π m
 | [],[],_=>rfl
 | u::l,v::m,h=>by
  unfold uG at h
  split at h
  ·rename_i h1
   simp only [V.af,Qe hp h1 π,pA hp π h]
  ·cases h
 | [],_::_,h=>by simp [uG] at h
 | _::_,[],h=>by simp [uG] at h
theorem cw{a b:Int}{x:X}(h:tq a b x=true):a≤x.den ρ∧x.den ρ≤b:=by
 unfold tq at h
 split at h
 ·rename_i r hr
  have h3:=jw (ρ:=ρ) hr
  split at h
  ·rename_i h1
   have h1:=of_decide_eq_true h1
   have h2:=of_decide_eq_true h
   obtain⟨h4,h5⟩:=h3
   omega
  ·cases h
 ·cases h
theorem MP{a b:X}:(X.le a b).tt ρ=decide (a.den ρ≤b.den ρ):=by rw [X.tt,X.den,dd]
theorem YP(hp:av ρ pc){a b:Int}{x:X}(h:abJ pc a b x=true):a≤x.den ρ∧x.den ρ≤b:=by
 unfold abJ at h
 split at h
 ·rename_i h1
  exact cw h1
 ·split at h
  ·rename_i h1
   have h1:=fB hp h1
   have h2:=fB hp h
   rw [MP] at h1 h2
   exact⟨of_decide_eq_true h1,of_decide_eq_true h2⟩
  ·cases h
theorem Ei{x:X}(h:Pp x=true):x.den ρ=0:=by
 rw [X.beq_eq h]
 rfl
theorem Sd{w:Nat} (h:eS w [1,2,4]=true):w=1∨w=2∨w=4:=by
 have:=lj h
 simpa using this
structure Acc where
 k:Nat
 ad:Int
 w:Nat
 v:Int
 op:Nat
 aq:Bool
 rl:Bool
def Acc.c(a:Acc):List Value:=[.int .i64 a.k,.int .u32 a.ad,.int .i64 a.w,.int .u32 a.v,.int .i64 a.op,.bool a.aq,.bool a.rl]
structure Acc.Ok (a:Acc) (size:Int):Prop where
 k:a.k≤6
 ad:0≤a.ad∧a.ad≤4294967295
 v:0≤a.v∧a.v≤4294967295
 none:a.k=0∨a.k=6→a.w=0∧a.ad=0∧a.op=0
 zero:a.k=0→a.v=0
 w:1≤a.k→a.k≤2→a.w=1∨a.w=2∨a.w=4
 w4:3≤a.k→a.k≤5→a.w=4
 at_:1≤a.k→a.k≤5→a.ad.tmod a.w=0∧a.ad+a.w≤size
 amo:a.k=5→50≤a.op∧a.op≤58
 op:a.k≠5→a.op=0
theorem QT(hp:av ρ pc){ad:X}{w:Nat}(hw:w≤4)(ha:0≤ad.den ρ∧ad.den ρ≤4294967295)(h:wN pc ad w=true):(ad.den ρ).tmod w=0∧ad.den ρ+w≤ρ.v 31:=by
 unfold wN at h
 split at h
 ·rename_i h1
  have h1:=fB hp h1
  have h2:=fB hp h
  rw [eM,jY] at h1
  have h1:=eq_of_beq h1
  rw [X.tt,z6,dd,vM] at h2
  have h2:=of_decide_eq_true h2
  have e:IntKind.i64.wrap (ad.den ρ+((w:Nat):Int))=ad.den ρ+w:=bn (by simp only [jT];omega) (by simp only [kR];omega)
  refine⟨h1,?_⟩
  rw [show (X.lit (Int.ofNat w)).den ρ=((w:Nat):Int) from rfl,e] at h2
  exact h2
 ·cases h
theorem K4(hp:av ρ pc){l:List V}(h:Ds pc l=true):∃ a:Acc,a.Ok (ρ.v 31)∧(∀ π,V.af ρ π l=a.c)∧∃ x1 x2 x3 x4 x5,l=[.int .i64 (.lit (.ofNat a.k)),x1,.int .i64 (.lit (.ofNat a.w)),x2,x3,x4,x5]:=by
 unfold Ds at h
 split at h
 ·rename_i k ad w v op aq rl
  obtain⟨h1,h2,h3,_⟩:=az h
  have h1:=cw (ρ:=ρ) h1
  have h2:=cw (ρ:=ρ) h2
  refine⟨⟨k,ad.den ρ,w,v.den ρ,op,aq.tt ρ,rl.tt ρ⟩,?_,fun π=>rfl,_,_,_,_,_,rfl⟩
  have go:∀ {k w op:Nat},(1≤k∧k≤5)→((k≤2→w=1∨w=2∨w=4)∧(3≤k→w=4))→((k=5→50≤op∧op≤58)∧(k≠5→op=0))→wN pc ad w=true→Acc.Ok ⟨k,ad.den ρ,w,v.den ρ,op,aq.tt ρ,rl.tt ρ⟩ (ρ.v 31):=by
   intro k w op hk hw ho ha
   have hw4:w≤4:=by
    rcases Nat.lt_or_ge k 3 with hk3 | hk3
    ·have:=hw.1 (by omega);omega
    ·have:=hw.2 hk3;omega
   exact⟨by simp only;omega,h1,h2,fun e=>by simp only at e;omega,fun e=>by simp only at e;omega,fun _ e=>hw.1 e,fun e _=>hw.2 e,fun _ _=>QT hp hw4 h1 ha,ho.1,ho.2⟩
  split at h3
  ·obtain⟨g1,g2,g3,g4,g5,g6⟩:=az h3
   have g1:=Nat.eq_of_beq_eq_true g1
   have g2:=Ei (ρ:=ρ) g2
   have g3:=Ei (ρ:=ρ) g3
   have g4:=Nat.eq_of_beq_eq_true g4
   exact⟨by simp,h1,h2,fun _=>⟨g1,g2,g4⟩,fun _=>g3,fun e=>by simp at e,fun e=>by simp at e,fun e=>by simp at e,fun e=>by simp at e,fun _=>g4⟩
  ·obtain⟨g1,g2,g3,_⟩:=az h3
   have g1:=Nat.eq_of_beq_eq_true g1
   have g2:=Ei (ρ:=ρ) g2
   have g3:=Nat.eq_of_beq_eq_true g3
   exact⟨by simp,h1,h2,fun _=>⟨g1,g2,g3⟩,fun e=>by simp at e,fun _ e=>by simp at e,fun _ e=>by simp at e,fun _ e=>by simp at e,fun e=>by simp at e,fun _=>g3⟩
  ·obtain⟨g1,g2,g3,_⟩:=az h3
   have g1:=Sd g1
   have g2:=Nat.eq_of_beq_eq_true g2
   exact go ⟨by omega,by omega⟩ ⟨fun _=>g1,fun e=>by omega⟩ ⟨fun e=>by omega,fun _=>g2⟩ g3
  ·obtain⟨g1,g2,g3,_⟩:=az h3
   have g1:=Sd g1
   have g2:=Nat.eq_of_beq_eq_true g2
   exact go ⟨by omega,by omega⟩ ⟨fun _=>g1,fun e=>by omega⟩ ⟨fun e=>by omega,fun _=>g2⟩ g3
  ·obtain⟨g1,g2,g3,_⟩:=az h3
   obtain rfl:=Nat.eq_of_beq_eq_true g1
   have g2:=Nat.eq_of_beq_eq_true g2
   exact go ⟨by omega,by omega⟩ ⟨fun e=>by omega,fun _=>rfl⟩ ⟨fun e=>by omega,fun _=>g2⟩ g3
  ·obtain⟨g1,g2,g3,_⟩:=az h3
   obtain rfl:=Nat.eq_of_beq_eq_true g1
   have g2:=Nat.eq_of_beq_eq_true g2
   exact go ⟨by omega,by omega⟩ ⟨fun e=>by omega,fun _=>rfl⟩ ⟨fun e=>by omega,fun _=>g2⟩ g3
  ·obtain⟨g1,g2,g3,g4,_⟩:=az h3
   obtain rfl:=Nat.eq_of_beq_eq_true g1
   have g2:=Nat.le_of_ble_eq_true g2
   have g3:=Nat.le_of_ble_eq_true g3
   exact go ⟨by omega,by omega⟩ ⟨fun e=>by omega,fun _=>rfl⟩ ⟨fun _=>⟨g2,g3⟩,fun e=>absurd rfl e⟩ g4
  ·cases h3
 ·cases h
structure gN where
 id:Int
 pc:Int
 regs:List Int
 cause:Int
def gN.c(h:gN):List Value:=.int .i64 h.id::.int .u32 h.pc::(h.regs.map (Value.int .u32)++[.int .i64 h.cause])
structure gN.Ok (h:gN):Prop where
 id:0≤h.id∧h.id≤3
 pc:0≤h.pc∧h.pc≤4294967295
 len:h.regs.length=32
 regs:∀ z∈h.regs,0≤z∧z≤4294967295
 zero:h.regs[0]?=some 0
 cause:0≤h.cause∧h.cause≤4
theorem xu:∀ {n:Nat} {l:List V},pr n l=true→∃ (zs:List Int) (c:Int),zs.length=n∧(∀ z∈zs,0≤z∧z≤4294967295)∧(0≤c∧c≤4)∧(jD l).den ρ=c∧(∀ v,(jD (v::l)).den ρ=c)∧∀ π,V.af ρ π l=zs.map (Value.int .u32)++[.int .i64 c]
 | 0,l,h=>by
  unfold pr at h
  split at h
  ·rename_i c _
   exact⟨[],c.den ρ,rfl,fun z hz=>by simp at hz,cw h,rfl,fun _=>rfl,fun π=>rfl⟩
  ·rename_i e;cases e
  ·cases h
 | n+1,l,h=>by
  unfold pr at h
  split at h
  ·rename_i e;cases e
  ·rename_i m x l' e
   cases e
   split at h
   ·rename_i hx
    obtain⟨zs,c,h1,h2,h3,h4,h5,h6⟩:=xu h
    have hx:=cw (ρ:=ρ) hx
    refine⟨x.den ρ::zs,c,by simp [h1],fun z hz=>?_,h3,h5 _,fun v=>?_,fun π=>by simp only [V.af,V.ae,h6 π,List.map_cons,List.cons_append]⟩
    ·rcases List.mem_cons.1 hz with rfl | hz
     ·exact hx
     ·exact h2 z hz
    ·show (jD (.int .u32 x::l')).den ρ=c
     exact h5 _
   ·cases h
  ·cases h
theorem GI(hp:av ρ pc)(h0:0≤ρ.v 0∧ρ.v 0≤3){l:List V}(h:zF pc l=true):∃ k:gN,k.Ok∧k.id=ρ.v 0∧(jD l).den ρ=k.cause∧∀ π,V.af ρ π l=k.c:=by
 unfold zF at h
 split at h
 ·rename_i i p r l
  obtain⟨h1,h2,h3,h4,_⟩:=az h
  obtain rfl:=X.beq_eq h1
  have h2:=cw (ρ:=ρ) h2
  have h3:r.den ρ=0:=jg hp h3
  obtain⟨zs,c,g1,g2,g3,g4,g5,g6⟩:=xu (ρ:=ρ) h4
  refine⟨⟨ρ.v 0,p.den ρ,0::zs,c⟩,⟨h0,h2,by simp [g1],fun z hz=>?_,rfl,g3⟩,rfl,?_,fun π=>?_⟩
  ·rcases List.mem_cons.1 hz with rfl | hz
   ·omega
   ·exact g2 z hz
  ·have:jD (.int .i64 (.var 0)::.int .u32 p::.int .u32 r::l)=jD (.int .u32 r::l):=rfl
   rw [this]
   exact g5 _
  ·simp only [V.af,V.ae,g6 π,h3]
   rfl
 ·cases h
structure Dp where
 pc:Int
 word:Int
 x:Int
 ok:Bool
 rd:Int
 val:Int
 cause:Int
def Dp.c(c:Dp)(a:Acc):List Value:=.int .u32 c.pc::.int .u32 c.word::(a.c++[.int .u32 c.x,.bool c.ok,.int .i64 c.rd,.int .u32 c.val,.int .i64 c.cause])
def Z9(k w:Nat)(x:Int):Int:=if k=1∨k=3∨k=5 then x % 2 ^ (8*w) else 0
structure Dp.Ok (c:Dp):Prop where
 pc:0≤c.pc∧c.pc≤4294967295
 word:0≤c.word∧c.word≤4294967295
 x:0≤c.x∧c.x≤4294967295
 rd:0≤c.rd∧c.rd≤31
 val:0≤c.val∧c.val≤4294967295
 cause:0≤c.cause∧c.cause≤4
theorem Le(hp:av ρ pc){a h l:List V}{ac:Acc}(ha:∀ π,V.af ρ π a=ac.c) (has:∃ x1 x2 x3 x4 x5,a=[.int .i64 (.lit (.ofNat ac.k)),x1,.int .i64 (.lit (.ofNat ac.w)),x2,x3,x4,x5]) (hl:DN pc a h l=true):
  ∃ c:Dp,c.Ok∧c.cause=(jD h).den ρ∧c.x=(Qh ac.k ac.w fun _=>mY).den ρ∧c.ok=(Q1 ac.k).tt ρ∧∀ π,V.af ρ π l=c.c ac:=by
 unfold DN at hl
 split at hl
 ·rename_i p w c2 c3 c4 c5 c6 c7 c8 x y rd val cs
  obtain⟨h1,h2,h3,h4,h5,h6⟩:=az hl
  obtain⟨h51,h52,_⟩:=az h5
  obtain⟨h61,h62,h63,_⟩:=az h6
  obtain⟨x1,x2,x3,x4,x5,rfl⟩:=has
  obtain⟨h21,h22,_⟩:=az h2
  have e1:=jg hp h21
  have e2:=jg hp h22
  have e3:=jg hp h3
  refine⟨⟨p.den ρ,w.den ρ,x.den ρ,y.tt ρ,rd.den ρ,val.den ρ,cs.den ρ⟩,⟨cw h61,cw h62,cw h63,YP hp h4,cw h51,cw h52⟩,e3,e1,by simp only [X.tt,e2],fun π=>?_⟩
  have e:=pA hp π h1
  rw [ha π] at e
  have e':V.af ρ π [c2,c3,c4,c5,c6,c7,c8]++V.af ρ π [.int .u32 x,.bool y,.int .i64 rd,.int .u32 val,.int .i64 cs]=ac.c++[.int .u32 (x.den ρ),.bool (y.tt ρ),.int .i64 (rd.den ρ),.int .u32 (val.den ρ),.int .i64 (cs.den ρ)]:=by
   rw [e]
   rfl
  show Value.int .u32 (p.den ρ)::Value.int .u32 (w.den ρ)::(V.af ρ π [c2,c3,c4,c5,c6,c7,c8]++V.af ρ π [.int .u32 x,.bool y,.int .i64 rd,.int .u32 val,.int .i64 cs])=_
  rw [e']
  rfl
 ·cases hl
theorem R8(hp:av ρ pc)(h0:0≤ρ.v 0∧ρ.v 0≤3){l:List V}(h:NF l pc=true):∃ (v4 v3 v2 v1:V) (a:Acc) (k:gN) (c:Dp) (w:Int),l=[v4,v3,v2,v1]∧a.Ok (ρ.v 31)∧k.Ok∧k.id=ρ.v 0∧c.Ok∧c.cause=k.cause∧c.x=(Qh a.k a.w fun _=>mY).den ρ∧c.ok=(Q1 a.k).tt ρ ∧
  (∀ π,v1.ae ρ π=.tuple #[.agg a.c.toArray,.int .i64 w,.int .i64 0])∧(∀ π,v2.ae ρ π=.tuple #[.agg a.c.toArray,.int .i64 w])∧(∀ π,v3.ae ρ π=.tuple #[.agg k.c.toArray,.agg (c.c a).toArray,.int .i64 0])∧∀ π,v4.ae ρ π=.tuple #[.agg k.c.toArray,.agg (c.c a).toArray]:=by
 unfold NF at h
 split at h
 ·rename_i h' c' hh cc e2 a' w' aa w e1
  obtain⟨h1,h2,h3,h4,h5,_⟩:=az h
  obtain⟨g1,g2,g3,_⟩:=az h1
  obtain⟨k1,k2,k3,_⟩:=az h5
  obtain rfl:=Nat.eq_of_beq_eq_true g1
  obtain rfl:=Nat.eq_of_beq_eq_true g2
  have g3:=jg hp g3
  obtain⟨a,a1,a2,a3⟩:=K4 hp k1
  obtain⟨k,b1,b2,b3,b4⟩:=GI hp h0 k2
  obtain⟨c,c1,c2,c3,c4,c5⟩:=Le hp a2 a3 k3
  refine⟨_,_,_,_,a,k,c,w.den ρ,rfl,a1,b1,b2,c1,c2.trans b3,c3,c4,fun π=>?_,fun π=>?_,fun π=>?_,fun π=>?_⟩
  ·simp only [V.ae,V.af,a2 π,X.den];rfl
  ·simp only [V.ae,V.af,←pA hp π h2,a2 π,g3]
  ·simp only [V.ae,V.af,b4 π,c5 π,X.den];rfl
  ·simp only [V.ae,V.af,←pA hp π h3,←pA hp π h4,b4 π,c5 π]
 ·cases h
end Go.Proofs.YtmickljjofbmiaaGreatDoor
namespace Go.Proofs.YtmickljjofbmiaaGreatDoor
open Go
noncomputable section
def i64(x:X):V:=.int .i64 x
def u32(x:X):V:=.int .u32 x
def sq(x:X):X:=.wrap .u32 x
def nl(n:Nat):X:=.lit (.ofNat n)
def tb(f:Nat)(n:X)(i:Nat):X:=.fn2 f n (nl i)
def b1(x:X):V:=.bool (.eq x (.lit 1))
def OM(n:X)(k w:Nat):V:=.agg [i64 (nl k),u32 (match w with | 0=>.lit 0 | _=>sq (tb 1 n 1)),i64 (nl w),u32 (match k with | 0=>.lit 0 | _=>sq (tb 1 n 3)),i64 (match k with | 5=>tb 1 n 4 | _=>.lit 0),b1 (tb 1 n 5),b1 (tb 1 n 6)]
def Z4(n:X):List V:=[i64 (tb 1 n 0),u32 (sq (tb 1 n 1)),i64 (tb 1 n 2),u32 (sq (tb 1 n 3)),i64 (tb 1 n 4),b1 (tb 1 n 5),b1 (tb 1 n 6)]
section
variable {α:Type}
def ZC(n sz:X)(w:Nat)(t nv:R α):R α:=.br (.eq (.rem (sq (tb 1 n 1)) (nl w)) (.lit 0)) (.br (.le (.add (sq (tb 1 n 1)) (nl w)) sz) (.br (.lt (sq (tb 1 n 1)) (.wrap .u32 sz)) t nv) nv) nv
def nzT(sz:X)(t nv:R α):R α:=.br (.lt (.lit 0) (.wrap .u32 sz)) t nv
def GP(n:X)(k:Nat)(t f:R α):R α:=.br (.eq (tb 1 n 0) (nl k)) t f
def Yb(n:X)(w:Nat)(t f:R α):R α:=.br (.eq (tb 1 n 2) (nl w)) t f
def amk(n sz:X)(t nv:R α):R α:=.br (.le (.add (sq (tb 1 n 1)) (nl 1)) sz) (.br (.lt (sq (tb 1 n 1)) (.wrap .u32 sz)) t nv) nv
def wsT(n sz:X)(g:Nat→R α)(nv:R α):R α:=Yb n 1 (amk n sz (g 1) nv) (Yb n 2 (ZC n sz 2 (g 2) nv) (ZC n sz 4 (g 4) nv))
def ri(n sz:X)(g:Nat→Nat→R α)(nv:R α):R α:=
 GP n 0 (nzT sz (g 0 0) nv) (GP n 6 (nzT sz (g 6 0) nv) (GP n 1 (wsT n sz (g 1) nv) (GP n 2 (wsT n sz (g 2) nv) (GP n 3 (ZC n sz 4 (g 3 4) nv) (GP n 4 (ZC n sz 4 (g 4 4) nv) (ZC n sz 4 (g 5 4) nv))))))
end
def Xb(v:V):R Leaf:=.ok {v:=v,objs:=[],n:=100007}
def al1(n sz:X):R Leaf:=ri n sz (fun k w=>Xb (.tuple [OM n k w,i64 (tb 1 n 7),i64 (.lit 0)])) (.stuck "never")
def afZ(n sz:X):R Leaf:=ri n sz (fun k w=>Xb (.tuple [OM n k w,i64 (tb 1 n 7)])) (.stuck "never")
def Ff(g:Nat→X):Nat→Nat→List V→List V
 | _,0,r=>r
 | j,n+1,r=>u32 (g j)::Ff g (j+1) n r
def zE(g:Nat→X):V:=.agg (i64 (.var 42)::Ff g 1 33 [i64 (g 34)])
def lg(f:Nat)(n:X):V:=zE (tb f n)
def yZ(f:Nat)(n:X):V:=.agg (u32 (tb f n 35)::u32 (tb f n 36)::(Z4 n++[u32 (tb f n 37),b1 (tb f n 38),i64 (tb f n 39),u32 (tb f n 40),i64 (tb f n 41)]))
def Zr:V:=zE fun _=>.lit 0
def Zs:V:=zE fun i=>.var (100+i)
def agj:X:=sq (.fn1 10 (.lit 0))
def agk:X:=sq (.fn1 10 (sq (.quo (.var 101) (.lit 4))))
def F6(t:Nat)(a:X):X:=.wrap .u8 (.fn1 t a)
def Xq(n:X):X:=sq (tb 1 n 1)
def Xp(n:X)(i:Nat):X:=match i with
 | 0=>Xq n
 | i=>.add (Xq n) (nl i)
def ldP(t:Nat)(n:X):Nat→X
 | 0=>.lit 0
 | i+1=>.bits 1 .u32 (ldP t n i) (.mul (F6 t (Xp n i)) (nl (256 ^ i)))
def Zu(t:Nat)(n:X):Nat→Nat→X
 | _,0=>.lit 0
 | i,1=>F6 t (Xp n i)
 | i,k+1=>.add (.mul (.lit 256) (Zu t n (i+1) k)) (F6 t (Xp n i))
def al3:V:=.agg [u32 (.lit 0),.bool (.lit 0)]
def Z8(x:X):V:=.agg [u32 x,.bool (.lit 0)]
def al2(at_ n:X):V:=.agg [u32 (.lit 0),.bool (.eq at_ (Xq n))]
end
end Go.Proofs.YtmickljjofbmiaaGreatDoor
namespace Go.Proofs.YtmickljjofbmiaaGreatDoor
open Go
noncomputable section
def hvL(o:Nat)(g:Nat→X):Nat→Nat→List (Nat×X)
 | _,0=>[]
 | j,n+1=>(o+j,g j)::hvL o g (j+1) n
def hv(o:Nat)(g:Nat→X):List (Nat×X):=hvL o g 1 34
def NA:List CK:=[.int .u32,.int .u32,.int .i64,.int .u32,.int .i64,.int .u32,.int .i64,.bool,.bool,.int .u32,.bool,.int .i64,.int .u32,.int .i64]
def pj(i:X):Nat→List X→A→A
 | _,[],a=>a
 | c,x::l,a=>pj i (c+1) l (.put a i c x)
def F9(b:Nat)(n:X):List X:=[tb b n 35,tb b n 36,tb 1 n 0,sq (tb 1 n 1),tb 1 n 2,sq (tb 1 n 3),tb 1 n 4,.eq (tb 1 n 5) (.lit 1),.eq (tb 1 n 6) (.lit 1),tb b n 37,.eq (tb b n 38) (.lit 1),tb b n 39,tb b n 40,tb b n 41]
def Na(pc:X):List X:=pc::[.lit 0,.lit 0,.lit 0,.lit 0,.lit 0,.lit 0,.lit 0,.lit 0,.lit 0,.lit 0,.lit 0,.lit 0,.lit 4]
def DI(v:X)(i:Nat):X:=match i with
 | 3=>.quo v (nl (256 ^ 3))
 | i=>.wrap .u8 (.quo v (nl (256 ^ i)))
def Mw(v:X):Nat→X
 | 0=>v
 | i+1=>.quo (Mw v i) (.lit 256)
def F5(v:X)(i:Nat):X:=match i with
 | 3=>Mw v 3
 | i=>.wrap .u8 (Mw v i)
def Xe(f:X→Nat→X)(n v:X):Nat→Nat→A→A
 | _,0,a=>a
 | i,k+1,a=>Xe f n v (i+1) k (.put a (Xp n i) 0 (f v i))
structure RdX where
 n:X
 n1:X
 res:X
 at_:X
 mem:A
 row:A
structure EndX where
 b:Nat
 mem:A
 res:X
 at_:X
def vX(r:RdX):X:=sq (tb 1 r.n 3)
def F7{α:Type}(f:X→Nat→X)(v2:Nat)(r:RdX)(g:EndX→R α)(sc:R α)(k w:Nat):R α:=match k with
 | 1=>g ⟨match w with | 1=>11 | 2=>12 | _=>13,r.mem,r.res,r.at_⟩
 | 2=>g ⟨10,Xe f r.n (vX r) 0 w r.mem,r.res,r.at_⟩
 | 3=>g ⟨13,r.mem,.lit 1,Xq r.n⟩
 | 4=>sc
 | 5=>g ⟨13,Xe f r.n (sq (tb 2 r.n v2)) 0 4 r.mem,r.res,r.at_⟩
 | _=>g ⟨10,r.mem,r.res,r.at_⟩
def scT{α:Type}(f:X→Nat→X)(r:RdX)(g:EndX→R α):R α:=
 .br r.res (.br (.eq r.at_ (Xq r.n)) (g ⟨14,Xe f r.n (vX r) 0 4 r.mem,.lit 0,r.at_⟩) (g ⟨14,r.mem,.lit 0,r.at_⟩)) (g ⟨10,r.mem,.lit 0,r.at_⟩)
def sc0{α:Type}(r:RdX)(g:EndX→R α):R α:=g ⟨10,r.mem,.lit 0,r.at_⟩
def QM(mem:A):RdX:=⟨.lit 0,.lit 1,.lit 0,.lit 0,mem,.fill (.lit 0)⟩
def ZE(mem row:A):RdX:=⟨.var 100,.add (.var 100) (.lit 1),.var 140,.var 141,mem,row⟩
def ZA(r:RdX)(e:EndX):LM:=.next 1 (Zz ((100,r.n1)::(140,e.res)::(141,e.at_)::hv 100 (tb e.b r.n)) [(30,([.int .u8],e.mem)),(31,(NA,pj r.n 0 (F9 e.b r.n) r.row))])
def afS(r:RdX)(e:EndX):LM:=.out 1 (Zz ((60,r.n1)::(540,e.res)::(541,e.at_)::hv 500 (tb e.b r.n)) [(50,([.int .u8],e.mem)),(60,(NA,pj r.n 0 (F9 e.b r.n) r.row))])
def DW(r:RdX)(e:EndX):R LM:=.br (.eq (tb e.b r.n 41) (.lit 0)) (.ok (ZA r e)) (.ok (afS r e))
def Zq(r:RdX):LM:=.out 1 (Zz ((60,r.n1)::(534,.lit 4)::(540,r.res)::(541,r.at_)::hvL 500 (fun i=>.var (100+i)) 1 33) [(50,([.int .u8],r.mem)),(60,(NA,pj r.n 0 (Na (.var 101)) r.row))])
def Zx:LM:=.out 0 (Zz ((60,.var 100)::(540,.var 140)::(541,.var 141)::hv 500 (fun i=>.var (100+i))) [(50,([.int .u8],.base 30)),(60,(NA,.base 31))])
def QQ:R LM:=ri (.lit 0) (.var 50) (F7 DI 0 (QM (.base 20)) (DW (QM (.base 20))) (sc0 (QM (.base 20)) (DW (QM (.base 20))))) (.ok .never)
def X2{α:Type}(t f:R α):R α:=.br (.eq (.rem (.var 101) (.lit 4)) (.lit 0)) (.br (.lt (sq (.quo (.var 101) (.lit 4))) (.var 40)) t f) f
def K2:R LM:=match ZE (.base 30) (.base 31) with
 | r=>.br (.lt (.var 100) (.var 43)) (.br (.eq (.var 134) (.lit 0)) (X2 (ri (.var 100) (.var 50) (F7 DI 0 r (DW r) (scT DI r (DW r))) (.ok .never)) (.ok (Zq r))) (.ok .never)) (.ok Zx)
def aeK(j:Nat)(r:RdX)(e:EndX):LM:=.next j (Zz ((100,r.n1)::(140,e.res)::(141,e.at_)::hv 100 (tb e.b r.n)) ((31,(NA,pj r.n 0 (F9 e.b r.n) r.row))::match j with | 1=>[] | _=>[(30,([.int .u8],e.mem))]))
def XY(j:Nat)(r:RdX)(e:EndX):R LM:=.ok (aeK (match e.mem with | .put _ _ _ _=>2 | _=>j) r e)
def aez(j:Nat)(r:RdX):LM:=.next j (Zz ((100,r.n1)::(134,.lit 4)::(140,r.res)::(141,r.at_)::hvL 100 (fun i=>.var (100+i)) 1 33) ((31,(NA,pj r.n 0 (Na (.var 101)) r.row))::match j with | 1=>[] | _=>[(30,([.int .u8],r.mem))]))
def Zy(j:Nat):LM:=.out (j-1) (Zz ((60,.var 100)::(540,.var 140)::(541,.var 141)::hv 500 (fun i=>.var (100+i))) ((60,(NA,.base 31))::match j with | 1=>[] | _=>[(50,([.int .u8],.base 30))]))
def aqx:R LM:=ri (.lit 0) (.var 50) (F7 F5 2 (QM (.base 20)) (XY 1 (QM (.base 20))) (sc0 (QM (.base 20)) (XY 1 (QM (.base 20))))) (.ok .never)
def RRl(j:Nat)(mem:A):R LM:=match ZE mem (.base 31) with
 | r=>.br (.lt (.var 100) (.var 43)) (.br (.eq (.var 134) (.lit 0)) (X2 (ri (.var 100) (.var 50) (F7 F5 2 r (XY j r) (scT F5 r (XY j r))) (.ok .never)) (.ok (aez j r))) (.ok (Zy j))) (.ok (Zy j))
def Nt(pc:PC):PC→Bool
 | []=>true
 | (x,b)::l=>match Rs pc x b with
  | true=>Nt pc l
  | false=>false
def uK(g:PC) (s:List V→St→R (V×St)) (args:List V) (st:St):R (V×St):=match Nt st.pc g with
 | true=>s args st
 | false=>.stuck "told: facts"
structure RowX where
 h:V
 w:X
 n:X
 t:Nat
 at_:X
 g:PC
def Y5:V:=.int .i64 (.var 50)
def okE(b:Nat)(n:X):R Leaf:=Xb (.tuple [lg b n,yZ b n,i64 (.lit 0)])
def okR(b:Nat)(n:X):R Leaf:=Xb (.tuple [lg b n,yZ b n])
def Dx(r:RowX)(ld:Nat→X)(f:Nat→X→R Leaf):List (List V×R Leaf):=
 [([r.h,u32 r.w,Y5,al3],f 10 r.n),([r.h,u32 r.w,Y5,Z8 (ld 1)],f 11 r.n),([r.h,u32 r.w,Y5,Z8 (ld 2)],f 12 r.n),([r.h,u32 r.w,Y5,Z8 (ld 4)],f 13 r.n),([r.h,u32 r.w,Y5,al2 r.at_ r.n],f 14 r.n)]
def K5(r:RowX)(f:X→X→R Leaf):List (List V×R Leaf):=[([r.h,u32 r.w,Y5],f r.n (.var 50))]
def K9(r:RowX)(ld:X)(t:R Leaf):List (List V×R Leaf):=[([i64 (tb 1 r.n 4),u32 ld,u32 (sq (tb 1 r.n 3))],t)]
def abL(t:Nat):RowX:=⟨Zr,agj,.lit 0,t,.lit 0,[]⟩
def abM(t:Nat):RowX:=⟨Zs,agk,.var 100,t,.var 141,[(.eq (.var 134) (.lit 0),true)]⟩
abbrev SmX:=List (FuncId×(List V→St→R (V×St)))
def smP(fa fc fm:Nat) (L:List (Nat×List V)) (r:RowX):SmX:=[(fa,uK r.g (bT L 7 (K5 r al1))),(fc,uK r.g (bT L 7 (Dx r (ldP r.t r.n) okE))),(fm,uK r.g (bT L 7 (K9 r (ldP r.t r.n 4) (Xb (.tuple [u32 (sq (tb 2 r.n 0)),i64 (tb 2 r.n 1)])))))]
def smR(fa fc fm:Nat) (L:List (Nat×List V)) (r:RowX):SmX:=[(fa,uK r.g (bT L 7 (K5 r afZ))),(fc,uK r.g (bT L 7 (Dx r (Zu r.t r.n 0) okR))),(fm,uK r.g (bT L 7 (K9 r (Zu r.t r.n 0 4) (Xb (u32 (sq (tb 2 r.n 2)))))))]
end
end Go.Proofs.YtmickljjofbmiaaGreatDoor
namespace Go.Proofs.YtmickljjofbmiaaGreatDoor
open Go Go.Proofs
section
variable {P:Program} {cx:Cx} {ρ:Env} {f:FuncId}
theorem GD{pc:PC}(hp:av ρ pc):∀ {g:PC},Nt pc g=true→av ρ g
 | [],_=>fun f hf=>by cases hf
 | (x,b)::l,h=>by
  unfold Nt at h
  split at h
  ·rename_i h1
   intro f hf
   rcases List.mem_cons.1 hf with rfl | hf
   ·exact Nc hp h1
   ·exact GD hp h f hf
  ·cases h
theorem Ui{g:PC} {s:List V→St→R (V×St)} (h:av ρ g→cV P cx ρ f s):cV P cx ρ f (uK g s):=by
 intro args st v st' hs S π0 w ac n hh ha
 unfold uK at hs
 split at hs
 ·rename_i hg
  exact h (GD hh.pc hg) args st v st' hs S π0 w ac n hh ha
 ·simp [R.ai] at hs
end
def bt(m:Int→Int)(a:Int):Int:=IntKind.u8.wrap (m a)
def ld(m:Int→Int)(a:Int):Nat→Int
 | 0=>0
 | w+1=>bt m a+256*ld m (a+1) w
def QN(m:Int→Int)(a:Int)(w:Nat)(v:Int)(j:Int):Int:=if a≤j∧j<a+w then v / 256 ^ (j-a).toNat % 256 else m j
theorem u8_in(z:Int):0≤IntKind.u8.wrap z∧IntKind.u8.wrap z≤255:=by
 simp [IntKind.wrap,IntKind.bits,IntKind.signed]
 omega
theorem Di(z:Int):IntKind.u8.wrap z=z % 256:=rfl
theorem alY(z:Int):IntKind.u32.wrap z=z % 4294967296:=rfl
theorem R4(m:Int→Int):∀ (w:Nat) (a:Int),0≤ld m a w∧ld m a w<256 ^ w
 | 0,a=>by simp [ld]
 | w+1,a=>by
  obtain⟨h1,h2⟩:=R4 m w (a+1)
  obtain⟨h3,h4⟩:=u8_in (m a)
  rw [ld,Int.pow_succ]
  unfold bt
  omega
def gN.cell(h:gN):Nat→Int
 | 0=>h.id
 | 1=>h.pc
 | i+2=>if i<32 then (h.regs[i]?).getD 0 else h.cause
def Acc.cell(a:Acc):Nat→Int
 | 0=>a.k
 | 1=>a.ad
 | 2=>a.w
 | 3=>a.v
 | 4=>a.op
 | 5=>a7 a.aq
 | _=>a7 a.rl
def Dp.cell(c:Dp):Nat→Int
 | 0=>c.pc
 | 1=>c.word
 | 2=>c.x
 | 3=>a7 c.ok
 | 4=>c.rd
 | 5=>c.val
 | _=>c.cause
def DM(a:Acc)(c:Dp)(j:Nat):Int:=if j<2 then c.cell j else if j<9 then a.cell (j-2) else c.cell (j-7)
section
variable {ρ:Env}
theorem kG(n:Nat):(nl n).den ρ=n:=rfl
theorem bp{n:X}{k:Int}(hn:n.den ρ=k)(f i:Nat):(tb f n i).den ρ=ρ.f2 f k i:=by
 unfold tb
 simp only [X.den,kG,hn]
theorem Gy{x:X}{b:Bool}(hx:x.den ρ=a7 b):(X.eq x (.lit 1)).tt ρ=b:=by
 rw [dR,hx]
 cases b<;>rfl
theorem Zk{x:X}{k:Nat}{j:Nat} (hx:x.den ρ=(k:Int)):(X.eq x (nl j)).tt ρ=decide (k=j):=by
 rw [dR,hx,kG]
 by_cases h:k=j
 ·simp [h]
 ·rw [decide_eq_false h]
  exact beq_eq_false_iff_ne.2 (by omega)
theorem CX(π:Pl)(g:Nat→X)(r:List V):∀ (n j:Nat),V.af ρ π (Ff g j n r)=((List.range' j n).map fun i=>Value.int .u32 ((g i).den ρ))++V.af ρ π r
 | 0,j=>rfl
 | n+1,j=>by
  rw [Ff,List.range'_succ,List.map_cons,List.cons_append,←CX π g r n (j+1)]
  rfl
theorem gN.XN{h:gN}(hk:h.Ok):h.c=.int .i64 h.id::(((List.range' 1 33).map fun i=>Value.int .u32 (h.cell i))++[.int .i64 (h.cell 34)]):=by
 unfold gN.c
 have e:(List.range' 1 33).map (fun i=>Value.int .u32 (h.cell i))=.int .u32 h.pc::h.regs.map (Value.int .u32):=by
  rw [List.range'_succ,List.map_cons]
  congr 1
  refine List.ext_getElem (by simp [hk.len]) fun i h1 h2=>?_
  simp only [List.getElem_map,List.getElem_range']
  simp only [List.length_map] at h2
  have:1+1+1*i=i+2:=by omega
  rw [this]
  show Value.int .u32 (if i<32 then (h.regs[i]?).getD 0 else h.cause)=_
  rw [if_pos (by rw [hk.len] at h2;exact h2),List.getElem?_eq_getElem h2]
  rfl
 rw [e]
 rfl
theorem rQ{g:Nat→X}{h:gN}(hk:h.Ok)(hid:ρ.v 42=h.id) (hg:∀ i,1≤i→i≤34→(g i).den ρ=h.cell i) (π:Pl):(zE g).ae ρ π=.agg h.c.toArray:=by
 unfold zE
 rw [gN.XN hk]
 simp only [V.ae,V.af,i64,CX]
 rw [show (X.var 42).den ρ=h.id from hid,hg 34 (by omega) (by omega)]
 have e:(List.range' 1 33).map (fun i=>Value.int .u32 ((g i).den ρ))=(List.range' 1 33).map fun i=>Value.int .u32 (h.cell i):=by
  refine List.map_congr_left fun i hi=>?_
  obtain⟨j,h1,h2⟩:=List.mem_range'.1 hi
  rw [hg i (by omega) (by omega)]
 rw [e]
theorem ON{n:X}{k:Int}(hn:n.den ρ=k){a:Acc}(had:0≤a.ad∧a.ad≤4294967295)(hv:0≤a.v∧a.v≤4294967295)(ht:∀ i:Nat,i<7→ρ.f2 1 k i=a.cell i)(π:Pl):V.af ρ π (Z4 n)=a.c:=by
 have w:∀ {z:Int},0≤z∧z≤4294967295→IntKind.u32.wrap z=z:=fun h=>bn (by simp only [jT];omega) (by simp only [kR];omega)
 have e5:(X.eq (tb 1 n 5) (.lit 1)).tt ρ=a.aq:=Gy ((bp hn 1 5).trans (ht 5 (by omega)))
 have e6:(X.eq (tb 1 n 6) (.lit 1)).tt ρ=a.rl:=Gy ((bp hn 1 6).trans (ht 6 (by omega)))
 simp only [Z4,V.af,V.ae,i64,u32,b1,sq,X.den,e5,e6,bp hn,ht 0 (by omega),ht 1 (by omega),ht 2 (by omega),ht 3 (by omega),ht 4 (by omega)]
 simp only [Acc.cell,w had,w hv,Acc.c]
theorem Oh{n:X}{k:Int}(hn:n.den ρ=k){a:Acc}(had:0≤a.ad∧a.ad≤4294967295)(hv:0≤a.v∧a.v≤4294967295)(ht:∀ i:Nat,i<7→ρ.f2 1 k i=a.cell i){b:Nat}{c:Dp} (hc:∀ i:Nat,i<7→ρ.f2 b k (35+i:Nat)=c.cell i) (π:Pl):(yZ b n).ae ρ π=.agg (c.c a).toArray:=by
 have e3:(X.eq (tb b n 38) (.lit 1)).tt ρ=c.ok:=Gy ((bp hn b 38).trans (hc 3 (by omega)))
 have h0:ρ.f2 b k (35:Nat)=c.pc:=hc 0 (by omega)
 have h1:ρ.f2 b k (36:Nat)=c.word:=hc 1 (by omega)
 have h2:ρ.f2 b k (37:Nat)=c.x:=hc 2 (by omega)
 have h4:ρ.f2 b k (39:Nat)=c.rd:=hc 4 (by omega)
 have h5:ρ.f2 b k (40:Nat)=c.val:=hc 5 (by omega)
 have h6:ρ.f2 b k (41:Nat)=c.cause:=hc 6 (by omega)
 unfold yZ Dp.c
 simp only [V.ae,V.af,bP,ON hn had hv ht π,i64,u32,b1,e3,bp hn,h0,h1,h2,h4,h5,h6]
section
variable {α:Type} {n sz:X} {k:Int} {a:Acc}
theorem RX{q:Nat}{t f:R α} (h:(tb 1 n 0).den ρ=a.k):(GP n q t f).ai ρ=if a.k=q then t.ai ρ else f.ai ρ:=by
 have:(GP n q t f).ai ρ=if (X.eq (tb 1 n 0) (nl q)).tt ρ then t.ai ρ else f.ai ρ:=rfl
 rw [this,Zk h]
 by_cases e:a.k=q<;>simp [e]
theorem GQ{q:Nat}{t f:R α} (h:(tb 1 n 2).den ρ=a.w):(Yb n q t f).ai ρ=if a.w=q then t.ai ρ else f.ai ρ:=by
 have:(Yb n q t f).ai ρ=if (X.eq (tb 1 n 2) (nl q)).tt ρ then t.ai ρ else f.ai ρ:=rfl
 rw [this,Zk h]
 by_cases e:a.w=q<;>simp [e]
theorem sO{c:X}{t f:R α}(h:c.tt ρ=true):(R.br c t f).ai ρ=t.ai ρ:=by
 rw [R.ai,if_pos h]
theorem Lc{c:X}{t f:R α}(h:c.tt ρ=false):(R.br c t f).ai ρ=f.ai ρ:=by
 rw [R.ai,if_neg (by rw [h];decide)]
theorem cU{x:X}{z:Int}(h:x.den ρ=z)(hz:0≤z∧z≤4294967295):(sq x).den ρ=z:=by
 unfold sq
 rw [X.den,h]
 exact bn (by simp only [jT];omega) (by simp only [kR];omega)
theorem A8{a b:X}:(X.lt a b).tt ρ=decide (a.den ρ<b.den ρ):=by rw [X.tt,X.den,dd]
theorem Ix{size:Int} (h1:(tb 1 n 1).den ρ=a.ad) (had:0≤a.ad∧a.ad≤4294967295) (hs:sz.den ρ=size) (hsz:16≤size∧size≤4096) {w:Nat} (hw:1≤w) (hr:a.ad+w≤size) {t nv:R α}:(R.br (.le (.add (sq (tb 1 n 1)) (nl w)) sz) (.br (.lt (sq (tb 1 n 1)) (.wrap .u32 sz)) t nv) nv).ai ρ=t.ai ρ:=by
 have e1:=cU h1 had
 have e2:(X.wrap .u32 sz).den ρ=size:=by
  rw [X.den,hs]
  exact bn (by simp only [jT];omega) (by simp only [kR];omega)
 rw [sO (by rw [MP];simp only [X.den,e1,kG,hs];exact decide_eq_true hr),sO (by rw [A8,e1,e2];exact decide_eq_true (by omega))]
theorem ET{size:Int} (h1:(tb 1 n 1).den ρ=a.ad) (had:0≤a.ad∧a.ad≤4294967295) (hs:sz.den ρ=size) (hsz:16≤size∧size≤4096) {w:Nat} (hw:1≤w) (hm:a.ad.tmod w=0) (hr:a.ad+w≤size) {t nv:R α}:(ZC n sz w t nv).ai ρ=t.ai ρ:=by
 unfold ZC
 rw [sO (by rw [dR];simp only [X.den,cU h1 had,kG,hm];rfl),Ix h1 had hs hsz hw hr]
theorem Cs{size:Int}(ha:a.Ok size) (h0:(tb 1 n 0).den ρ=a.k) (h1:(tb 1 n 1).den ρ=a.ad) (h2:(tb 1 n 2).den ρ=a.w) (hs:sz.den ρ=size) (hsz:16≤size∧size≤4096) {g:Nat→Nat→R α} {nv:R α}:(ri n sz g nv).ai ρ=(g a.k a.w).ai ρ:=by
 have nz:∀ {t:R α},(nzT sz t nv).ai ρ=t.ai ρ:=by
  intro t
  unfold nzT
  refine sO ?_
  rw [A8,X.den,X.den,hs,show IntKind.u32.wrap size=size from bn (by simp only [jT];omega) (by simp only [kR];omega)]
  exact decide_eq_true (by omega)
 have ws:∀ {g:Nat→R α},1≤a.k→a.k≤2→(wsT n sz g nv).ai ρ=(g a.w).ai ρ:=by
  intro g hk1 hk2
  obtain⟨m,r⟩:=ha.at_ hk1 (by omega)
  unfold wsT
  rw [GQ h2,GQ h2]
  rcases ha.w hk1 hk2 with e | e | e
  ·rw [if_pos e,e]
   rw [e] at r
   exact Ix h1 ha.ad hs hsz (by omega) r
  ·rw [if_neg (by omega),if_pos e,e]
   rw [e] at r m
   exact ET h1 ha.ad hs hsz (by omega) m r
  ·rw [if_neg (by omega),if_neg (by omega),e]
   rw [e] at r m
   exact ET h1 ha.ad hs hsz (by omega) m r
 have four:∀ {t:R α},3≤a.k→a.k≤5→(ZC n sz 4 t nv).ai ρ=t.ai ρ:=by
  intro t h3 h5
  obtain⟨m,r⟩:=ha.at_ (by omega) h5
  have e:=ha.w4 h3 h5
  rw [e] at r m
  exact ET h1 ha.ad hs hsz (by omega) m r
 have hk:=ha.k
 unfold ri
 simp only [RX h0]
 by_cases k0:a.k=0
 ·rw [if_pos k0,nz,k0,(ha.none (.inl k0)).1]
 rw [if_neg k0]
 by_cases k6:a.k=6
 ·rw [if_pos k6,nz,k6,(ha.none (.inr k6)).1]
 rw [if_neg k6]
 by_cases k1:a.k=1
 ·rw [if_pos k1,ws (by omega) (by omega),k1]
 rw [if_neg k1]
 by_cases k2:a.k=2
 ·rw [if_pos k2,ws (by omega) (by omega),k2]
 rw [if_neg k2]
 by_cases k3:a.k=3
 ·rw [if_pos k3,four (by omega) (by omega),k3,ha.w4 (by omega) (by omega)]
 rw [if_neg k3]
 by_cases k4:a.k=4
 ·rw [if_pos k4,four (by omega) (by omega),k4,ha.w4 (by omega) (by omega)]
 rw [if_neg k4]
 have k5:a.k=5:=by omega
 rw [four (by omega) (by omega),k5,ha.w4 (by omega) (by omega)]
end
theorem xW{n:X}{k:Int}(hn:n.den ρ=k){a:Int}(ha:ρ.f2 1 k 1=a)(hz:0≤a∧a≤4294967295)(i:Nat):(Xp n i).den ρ=a+i:=by
 have e:(Xq n).den ρ=a:=cU ((bp hn 1 1).trans ha) hz
 unfold Xp
 split
 ·rw [e];simp
 ·rw [X.den,e,kG]
theorem wo:∀ i:Nat,((256 ^ i:Nat):Int)=256 ^ i
 | 0=>rfl
 | i+1=>by rw [Nat.pow_succ,Int.pow_succ,Int.natCast_mul,wo i];rfl
theorem SQ(i:Nat):2 ^ (8*i)=256 ^ i:=Nat.pow_mul 2 8 i
theorem SN{x y:Int}(i:Nat)(hx:0≤x∧x<256 ^ i)(hy:0≤y∧y<256)(hi:i<4):gq 1 .u32 x (y*256 ^ i)=x+y*256 ^ i:=by
 obtain⟨x,rfl⟩:=Int.eq_ofNat_of_zero_le hx.1
 obtain⟨y,rfl⟩:=Int.eq_ofNat_of_zero_le hy.1
 have h1:x<2 ^ (8*i):=by
  have h:=hx.2
  rw [←wo] at h
  rw [SQ]
  exact Int.ofNat_lt.1 h
 have hy':y<256:=by omega
 have e1:(y:Int)*256 ^ i=((y <<< (8*i):Nat):Int):=by
  rw [Nat.shiftLeft_eq,SQ,Int.natCast_mul,wo]
 have hlt:x+y <<< (8*i)<2 ^ 32:=by
  rw [Nat.shiftLeft_eq]
  have hp:2 ^ (8*i)*256≤2 ^ 32:=by
   rw [show (256:Nat)=2 ^ 8 from rfl,←Nat.pow_add]
   exact Nat.pow_le_pow_right (by omega) (by omega)
  have:y*2 ^ (8*i)≤255*2 ^ (8*i):=Nat.mul_le_mul_right _ (by omega)
  omega
 rw [e1]
 unfold gq
 have b:∀ z:Nat,z<2 ^ 32→(BitVec.ofInt 32 (z:Int)).toNat=z:=by
  intro z hz
  rw [BitVec.toNat_ofInt]
  omega
 show IntKind.u32.wrap ((BitVec.ofInt 32 (x:Int) ||| BitVec.ofInt 32 ((y <<< (8*i):Nat):Int)).toNat:Int)=_
 rw [BitVec.toNat_or,b x (Nat.lt_of_le_of_lt (Nat.le_add_right _ _) hlt),b _ (Nat.lt_of_le_of_lt (Nat.le_add_left _ _) hlt)]
 have e2:x ||| y <<< (8*i)=x+y <<< (8*i):=by
  rw [Nat.or_comm,Nat.add_comm,←Nat.shiftLeft_add_eq_or_of_lt h1]
 rw [e2]
 exact bn (by simp only [jT];omega) (by simp only [kR];omega)
theorem NC(m:Int→Int):∀ (w:Nat) (a:Int),ld m a (w+1)=ld m a w+bt m (a+w)*256 ^ w
 | 0,a=>by simp [ld]
 | w+1,a=>by
  rw [ld,NC m w (a+1),ld,Int.pow_succ,show a+1+(w:Int)=a+((w+1:Nat):Int) by omega]
  rw [Int.mul_add,←Int.mul_assoc,Int.mul_comm 256 (bt m _),Int.mul_assoc,Int.mul_comm 256 (256 ^ w)]
  omega
theorem Et{n:X}{k:Int}(hn:n.den ρ=k){a:Int}(ha:ρ.f2 1 k 1=a)(hz:0≤a∧a≤4294967295){t:Nat}{m:Int→Int}(hm:ρ.f1 t=m):∀ {w:Nat},w≤4→(ldP t n w).den ρ=ld m a w
 | 0,_=>rfl
 | w+1,hw=>by
  rw [NC,ldP,X.den,Et hn ha hz hm (by omega),X.den,kG,F6,X.den,X.den,xW hn ha hz,hm]
  have:=u8_in (m (a+w))
  rw [wo]
  exact SN w (R4 m w a) ⟨this.1,by omega⟩ (by omega)
theorem Eu{n:X}{k:Int}(hn:n.den ρ=k){a:Int}(ha:ρ.f2 1 k 1=a)(hz:0≤a∧a≤4294967295){t:Nat}{m:Int→Int}(hm:ρ.f1 t=m):∀ (w i:Nat),(Zu t n i w).den ρ=ld m (a+i) w
 | 0,i=>by simp [Zu,ld,X.den]
 | 1,i=>by
  rw [Zu,F6,X.den,X.den,xW hn ha hz,hm]
  simp [ld,bt]
 | w+2,i=>by
  show (X.lit 256).den ρ*(Zu t n (i+1) (w+1)).den ρ+IntKind.u8.wrap (ρ.f1 t ((Xp n i).den ρ))=_
  rw [Eu hn ha hz hm (w+1) (i+1),xW hn ha hz,hm,show a+((i+1:Nat):Int)=a+i+1 by omega]
  show 256*ld m (a+i+1) (w+1)+bt m (a+i)=bt m (a+i)+256*ld m (a+i+1) (w+1)
  omega
theorem yV{v:X}{z:Int}(hv:v.den ρ=z)(hz:0≤z∧z≤4294967295){i:Nat}(hi:i<4):(DI v i).den ρ=z / 256 ^ i % 256:=by
 have h4:(0:Int)≤z:=hz.1
 obtain rfl | rfl | rfl | rfl:i=0∨i=1∨i=2∨i=3:=by omega
 ·simp only [DI,X.den,hv,kG,Di]
  rw [Int.tdiv_eq_ediv_of_nonneg h4];rfl
 ·simp only [DI,X.den,hv,kG,Di]
  rw [Int.tdiv_eq_ediv_of_nonneg h4];rfl
 ·simp only [DI,X.den,hv,kG,Di]
  rw [Int.tdiv_eq_ediv_of_nonneg h4];rfl
 ·simp only [DI,X.den,hv,kG]
  rw [Int.tdiv_eq_ediv_of_nonneg h4]
  show z / 16777216=z / 16777216 % 256
  omega
theorem aes{v:X}{z:Int}(hv:v.den ρ=z)(hz:0≤z∧z≤4294967295){i:Nat}(hi:i<4):(F5 v i).den ρ=z / 256 ^ i % 256:=by
 have h4:(0:Int)≤z:=hz.1
 have q:∀ {y:Int},0≤y→y.tdiv 256=y / 256:=fun h=>Int.tdiv_eq_ediv_of_nonneg h
 obtain rfl | rfl | rfl | rfl:i=0∨i=1∨i=2∨i=3:=by omega
 ·simp only [F5,Mw,X.den,hv,Di]
  show z % 256=z / 1 % 256
  omega
 ·simp only [F5,Mw,X.den,hv,Di]
  rw [q h4];rfl
 ·simp only [F5,Mw,X.den,hv,Di]
  rw [q h4,q (y:=z / 256) (by omega)]
  show z / 256 / 256 % 256=z / 65536 % 256
  omega
 ·simp only [F5,Mw,X.den,hv]
  rw [q h4,q (y:=z / 256) (by omega),q (y:=z / 256 / 256) (by omega)]
  show z / 256 / 256 / 256=z / 16777216 % 256
  omega
def qV(ρ:Env)(x:A)(m:Int→Int):Prop:=∀ j:Int,IntKind.u8.wrap (A.den ρ (.int .u8) 0 j x)=IntKind.u8.wrap (m j)
theorem sN{t:Nat}{m:Int→Int}(h:ρ.f1 t=m):qV ρ (.base t) m:=fun j=>by
 show IntKind.u8.wrap (IntKind.u8.wrap (ρ.f1 (t+0) j))=_
 rw [Nat.add_zero,h]
 have:=u8_in (m j)
 exact bn (by simp only [jT];omega) (by simp only [kR];omega)
theorem Oz{f:X→Nat→X}{n:X}{k:Int}(hn:n.den ρ=k){a:Int}(ha:ρ.f2 1 k 1=a)(hz:0≤a∧a≤4294967295){v:X}{z:Int} (hf:∀ i,i<4→(f v i).den ρ=z / 256 ^ i % 256) {m0:Int→Int}:
  ∀ (w i:Nat) (x:A) (m:Int→Int),i+w≤4→qV ρ x m→(∀ j,m j=QN m0 a i z j)→∃ m',qV ρ (Xe f n v i w x) m'∧∀ j,m' j=QN m0 a (i+w) z j
 | 0,i,x,m,_,hx,hm=>⟨m,hx,hm⟩
 | w+1,i,x,m,hi,hx,hm=>by
  have:=Oz hn ha hz hf (m0:=m0) w (i+1) (.put x (Xp n i) 0 (f v i)) (QN m0 a (i+1) z) (by omega) (fun j=>?_) (fun j=>rfl)
  ·rw [show i+(w+1)=i+1+w by omega]
   exact this
  ·have e:A.den ρ (.int .u8) 0 j (.put x (Xp n i) 0 (f v i))=if (0:Nat)=0∧j=a+i then z / 256 ^ i % 256 else A.den ρ (.int .u8) 0 j x:=by
    rw [A.den,xW hn ha hz,hf i (by omega)]
   rw [e]
   by_cases hj:j=a+i
   ·rw [if_pos ⟨rfl,hj⟩]
    unfold QN
    rw [if_pos (by omega),hj,show (a+(i:Int)-a).toNat=i by omega]
   ·rw [if_neg (fun h=>hj h.2),hx j,hm j]
    unfold QN
    by_cases h1:a≤j∧j<a+i
    ·rw [if_pos h1,if_pos (by omega)]
    ·rw [if_neg h1,if_neg (by omega)]
theorem ack{f:X→Nat→X}{n:X}{k:Int}(hn:n.den ρ=k){a:Int}(ha:ρ.f2 1 k 1=a)(hz:0≤a∧a≤4294967295){v:X}{z:Int} (hf:∀ i,i<4→(f v i).den ρ=z / 256 ^ i % 256) {x:A} {m:Int→Int} (hx:qV ρ x m) {w:Nat} (hw:w≤4):qV ρ (Xe f n v 0 w x) (QN m a w z):=by
 obtain⟨m',h1,h2⟩:=Oz hn ha hz hf (m0:=m) w 0 x m (by omega) hx (fun j=>by unfold QN;rw [if_neg (by omega)])
 rw [Nat.zero_add] at h2
 rwa [funext h2] at h1
end
end Go.Proofs.YtmickljjofbmiaaGreatDoor
