/- Symbolic execution: loops of any number of rounds: shapes, and how a state fits one (plain functions). Symbolic execution: loops of any number of rounds: what fits a shape is it. Symbolic execution: a loop of any number of rounds does what is told of it. Symbolic execution: calls over rows and structures, run by themselves (plain functions). Symbolic execution: a call over rows and structures that was run by itself, told where it is made. Symbolic execution: a run over rows that came in. Symbolic execution: rows that came in: what the law's run has of them. Several calls, each from the start with what was known behind the one before: what they leave is looked at together. Symbolic execution: calls of which it is told what they lay anew; a start in which some values are known only to be there. Symbolic execution: calls that are told by symbols. No condition. -/
import Derived.Test.YtfmfhnpkganobaaFwC
import Derived.Test.YtfmfhnpkganobaaFwG
import Derived.Test.YtfmfhnpkganobaaSeX
import Derived.Test.YtfmfhnpkganobaaFwF
import Derived.Test.YtfmfhnpkganobaaFwU
namespace Go.Proofs.Ytfmfhnpkganobaa
open Go
noncomputable section
def optSub{α:Type}(f:α→α→Bool):Option α→Option α→Bool
 | none,_=>true
 | some a,some b=>f a b
 | some _,none=>false
def T.sub{α:Type}(f:α→α→Bool):T α→T α→Bool
 | .nil,_=>true
 | .node l v r,.nil=>and6 (optSub f v none) (T.sub f l .nil) (T.sub f r .nil) true true true
 | .node l v r,.node l' v' r'=>and6 (optSub f v v') (T.sub f l l') (T.sub f r r') true true true
structure LoopI where
 rnd:Option Nat
 body:Code
 fr:Fr
 st:St
 res:COut
structure Tch where
 vs:List Nat
 ts:List (Nat×Nat)
def inR:List (Nat×Nat)→Nat→Bool
 | [],_=>false
 | (t,n)::l,f=>match Nat.ble t f with
  | true=>match Nat.blt f (t+n) with
   | true=>true
   | false=>inR l f
  | false=>inR l f
def noneIn (l:List (Nat×Nat)) (t:Nat):Nat→Bool
 | 0=>true
 | n+1=>match inR l (t+n) with
  | true=>false
  | false=>noneIn l t n
structure Mt where
 v:List (Nat×X)
 a:List (Nat×(List CK×A))
 u:List (Nat×V)
 r:List (Nat×Nat)
def Mt.name(σ:Mt)(i:Nat):Nat:=match look σ.r i with
 | some j=>j
 | none=>i
def X.free(t:Tch):X→Bool
 | .lit _=>true
 | .var i=>!memN i t.vs
 | .add a b=>a.free t&&b.free t
 | .sub a b=>a.free t&&b.free t
 | .mul a b=>a.free t&&b.free t
 | .quo a b=>a.free t&&b.free t
 | .rem a b=>a.free t&&b.free t
 | .wrap _ a=>a.free t
 | .bits _ _ a b=>a.free t&&b.free t
 | .shl _ a b=>a.free t&&b.free t
 | .shr _ a b=>a.free t&&b.free t
 | .eq a b=>a.free t&&b.free t
 | .lt a b=>a.free t&&b.free t
 | .le a b=>a.free t&&b.free t
 | .not a=>a.free t
 | .ite c a b=>c.free t&&(a.free t&&b.free t)
 | .fn1 f a=>!inR t.ts f&&a.free t
 | .fn2 _ a b=>a.free t&&b.free t
 | .slit _=>true
 | .svar _=>true
 | .scat a b=>a.free t&&b.free t
 | .sfn _ a=>a.free t
 | .slen a=>a.free t
 | .seq a b=>a.free t&&b.free t
 | .bv _ _=>true
 | .cube _ _=>true
 | .btext f a b=>!inR t.ts f&&(a.free t&&b.free t)
def fitX(t:Tch)(σ:Mt)(p x:X):Bool:=match p with
 | .var i=>match look σ.v i with
  | some y=>y.beq x
  | none=>match memN i t.vs with
   | true=>false
   | false=>(X.var i).beq x
 | p=>match p.free t with
  | true=>p.beq x
  | false=>false
def fitS(t:Tch)(p x:X):Bool:=match p.free t with
 | true=>p.beq x
 | false=>false
def fitN(σ:Mt)(b c:Nat):Bool:=match look σ.u b with
 | some _=>false
 | none=>Nat.beq (σ.name b) c
def fitCp(σ:Mt):Cp→Cp→Bool
 | .known n,.known m=>Nat.beq n m
 | .room b o n,.room c p m=>and6 (fitN σ b c) (Nat.beq o p) (Nat.beq n m) true true true
 | _,_=>false
def fitXC(t:Tch)(σ:Mt):XC→XC→Bool
 | .known a,.known b=>fitX t σ a b
 | .room a,.room b=>fitX t σ a b
 | _,_=>false
mutual
def fitV(t:Tch)(σ:Mt):V→V→Bool
 | .any k,v=>match look σ.u k with
  | some u=>u.beq v
  | none=>false
 | .int k p,.int j x=>and6 (kindBeq k j) (fitX t σ p x) true true true true
 | .bool p,.bool x=>fitX t σ p x
 | .str p,.str x=>fitS t p x
 | .ptr b o,.ptr c q=>and6 (fitN σ b c) (Nat.beq o q) true true true true
 | .nilptr,.nilptr=>true
 | .slice b o n c,.slice b' o' n' c'=>and6 (fitN σ b b') (Nat.beq o o') (Nat.beq n n') (fitCp σ c c') true true
 | .nilslice,.nilslice=>true
 | .map b,.map c=>fitN σ b c
 | .nilmap,.nilmap=>true
 | .func f a c,.func g d e=>and6 (decBeq f g) (fitVs t σ a d) (fitVs t σ c e) true true true
 | .yield b,.yield c=>fitN σ b c
 | .nilfunc,.nilfunc=>true
 | .iface u v,.iface u' v'=>and6 (Nat.beq u u') (fitV t σ v v') true true true true
 | .niliface,.niliface=>true
 | .agg l,.agg m=>fitVs t σ l m
 | .tuple l,.tuple m=>fitVs t σ l m
 | .wptr b o,.wptr c q=>and6 (Nat.beq b c) (Nat.beq o q) true true true true
 | .wslice b o n c,.wslice b' o' n' c'=>and6 (Nat.beq b b') (Nat.beq o o') (fitX t σ n n') (fitX t σ c c') true true
 | .sptr b o n i,.sptr c q m j=>and6 (fitN σ b c) (Nat.beq o q) (Nat.beq n m) (fitX t σ i j) true true
 | .xslice w b off es n c,.xslice w' b' off' es' n' c'=>and6 (sameW w w') (and6 (fitN σ b b') (match w with | true=>Nat.beq b b' | false=>true) true true true true) (fitX t σ off off') (Nat.beq es es') (fitX t σ n n') (fitXC t σ c c')
 | .xptr w b i es c,.xptr w' b' i' es' c'=>and6 (sameW w w') (and6 (fitN σ b b') (match w with | true=>Nat.beq b b' | false=>true) true true true true) (fitX t σ i i') (Nat.beq es es') (Nat.beq c c') true
 | _,_=>false
def fitVs(t:Tch)(σ:Mt):List V→List V→Bool
 | [],[]=>true
 | p::l,v::m=>and6 (fitV t σ p v) (fitVs t σ l m) true true true true
 | _,_=>false
end
def A.free(t:Tch)(n:Nat):A→Bool
 | .base f=>noneIn t.ts f n
 | .fill x=>x.free t
 | .put a i _ x=>a.free t n&&(i.free t&&x.free t)
def fitA(t:Tch)(σ:Mt)(ks:List CK)(p a:A):Bool:=match p with
 | .base f=>match look σ.a f with
  | some (ks',b)=>match CK.beqs ks ks' with
   | true=>b.beq a
   | false=>false
  | none=>match noneIn t.ts f ks.length with
   | true=>(A.base f).beq a
   | false=>false
 | p=>match p.free t ks.length with
  | true=>p.beq a
  | false=>false
def fitDs(σ:Mt):List SDef→List SDef→Bool
 | [],[]=>true
 | .mark b::l,.mark c::m=>and6 (fitN σ b c) (fitDs σ l m) true true true true
 | _,_=>false
def fitEs(t:Tch)(σ:Mt):List (V×V)→List (V×V)→Bool
 | [],[]=>true
 | (k,v)::l,(j,u)::m=>and6 (fitV t σ k j) (fitV t σ v u) (fitEs t σ l m) true true true
 | _,_=>false
def fitOb(t:Tch)(σ:Mt)(i:Nat):SObj→SObj→Bool
 | .cells c e w,.cells c' e' w'=>and6 (Nat.beq e e') (optNatBeq w w') (fitVs t σ c c') true true true
 | .map es,.map es'=>fitEs t σ es es'
 | .loop s p tm ps as bd d,.loop s' p' tm' ps' as' bd' d'=>and6 (decBeq s s') (optCodeBeq p p') (fitVs t σ tm tm') (fitN σ d d') (natsA ps ps') (and6 (codeBeq as as') (codeBeq bd bd') true true true true)
 | .deferred none,.deferred none=>true
 | .deferred (some []),.deferred (some [])=>true
 | .ro g c,.ro g' c'=>and6 (Nat.beq g g') (fitVs t σ c c') true true true true
 | .win g c n es,.win g' c' n' es'=>and6 (Nat.beq g g') (fitVs t σ c c') (fitX t σ n n') (Nat.beq es es') (Nat.beq (σ.name i) i) true
 | .iter none,.iter none=>true
 | .iter (some b),.iter (some c)=>fitN σ b c
 | .arr a ks n e w,.arr a' ks' n' e' w'=>and6 (fitA t σ ks a a') (CK.beqs ks ks') (fitX t σ n n') (Nat.beq e e') (sameW w w') true
 | .warr g f ks n,.warr g' f' ks' n'=>and6 (Nat.beq g g') (Nat.beq f f') (CK.beqs ks ks') (fitX t σ n n') (noneIn t.ts f ks.length) (Nat.beq (σ.name i) i)
 | _,_=>false
structure Pat where
 fr:Fr
 items:List (Nat×SObj)
 n:Nat
 pc:PC
 kn:List Nat
def itemsH:List (Nat×SObj)→H
 | []=>.nil
 | (i,o)::l=>(itemsH l).set i o
def Pat.st(p:Pat):St:=⟨itemsH p.items,p.n,p.pc⟩
def fitHs(t:Tch)(σ:Mt)(h:H):List (Nat×SObj)→Bool
 | []=>true
 | (i,p)::l=>match look σ.u i with
  | some _=>false
  | none=>match h.get (σ.name i) with
   | some o=>match fitOb t σ i p o with
    | true=>fitHs t σ h l
    | false=>false
   | none=>false
def X.plainV(t:Tch)(σ:Mt):X→Bool
 | .lit _=>true
 | .var i=>match look σ.v i with
  | some _=>true
  | none=>!memN i t.vs
 | .add a b=>a.plainV t σ&&b.plainV t σ
 | .sub a b=>a.plainV t σ&&b.plainV t σ
 | .mul a b=>a.plainV t σ&&b.plainV t σ
 | .lt a b=>a.plainV t σ&&b.plainV t σ
 | .le a b=>a.plainV t σ&&b.plainV t σ
 | .eq a b=>a.plainV t σ&&b.plainV t σ
 | _=>false
def X.fillV(σ:Mt):X→X
 | .var i=>match look σ.v i with
  | some x=>x
  | none=>.var i
 | .add a b=>.add (a.fillV σ) (b.fillV σ)
 | .sub a b=>.sub (a.fillV σ) (b.fillV σ)
 | .mul a b=>.mul (a.fillV σ) (b.fillV σ)
 | .lt a b=>.lt (a.fillV σ) (b.fillV σ)
 | .le a b=>.le (a.fillV σ) (b.fillV σ)
 | .eq a b=>.eq (a.fillV σ) (b.fillV σ)
 | x=>x
def decF(pc:PC)(x:X)(b:Bool):Bool:=match decAtom pc x with
 | some c=>sameW c b
 | none=>match decLin pc x with
  | some c=>sameW c b
  | none=>false
def fitPc(t:Tch)(σ:Mt)(pc:PC):PC→Bool
 | []=>true
 | (x,b)::l=>match x.plainV t σ with
  | true=>match decF pc (x.fillV σ) b with
   | true=>fitPc t σ pc l
   | false=>false
  | false=>false
def nameList(σ:Mt):List (Nat×SObj)→List Nat
 | []=>[]
 | (i,_)::l=>σ.name i::nameList σ l
def outerOk(σ:Mt)(n:Nat):List Nat→Bool
 | []=>true
 | i::l=>match Nat.blt i n with
  | true=>match look σ.u i with
   | some _=>false
   | none=>match Nat.beq (σ.name i) i with
    | true=>outerOk σ n l
    | false=>false
  | false=>outerOk σ n l
def fit(t:Tch)(σ:Mt)(n:Nat)(p:Pat)(fr:Fr)(st:St):Bool:=
 and6 (fitVs t σ p.fr.tm fr.tm) (fitDs σ p.fr.df fr.df) (fitHs t σ st.h p.items) (nodupN (nameList σ p.items)) (fitPc t σ st.pc p.pc) (outerOk σ n p.kn)
def Cp.nms:Cp→List Nat
 | .known _=>[]
 | .room b _ _=>[b]
mutual
def V.nms:V→List Nat
 | .ptr b _=>[b]
 | .slice b _ _ c=>b::c.nms
 | .map b=>[b]
 | .func _ a c=>V.nmss a++V.nmss c
 | .yield b=>[b]
 | .iface _ v=>v.nms
 | .agg l=>V.nmss l
 | .tuple l=>V.nmss l
 | .ite _ a b=>a.nms++b.nms
 | .sptr b _ _ _=>[b]
 | .rest b _ _ _=>[b]
 | .xslice _ b _ _ _ _=>[b]
 | .xptr _ b _ _ _=>[b]
 | .any k=>[k]
 | _=>[]
def V.nmss:List V→List Nat
 | []=>[]
 | v::l=>v.nms++V.nmss l
end
def dNms:List SDef→List Nat
 | []=>[]
 | .mark b::l=>b::dNms l
 | .fn _ a c::l=>V.nmss a++(V.nmss c++dNms l)
def eNms:List (V×V)→List Nat
 | []=>[]
 | (k,v)::l=>k.nms++(v.nms++eNms l)
def SObj.nms:SObj→List Nat
 | .cells c _ _=>V.nmss c
 | .map es=>eNms es
 | .loop _ _ tm _ _ _ d=>d::V.nmss tm
 | .deferred (some l)=>dNms l
 | .ro _ c=>V.nmss c
 | .win _ c _ _=>V.nmss c
 | .iter (some b)=>[b]
 | _=>[]
inductive LL where
 | next (σ:Mt)
 | out (k:Nat) (σ:Mt)
 | never
structure OutP where
 ex:Ex
 pat:Pat
def addN(a b:Nat) (r:List (Nat×Nat)):List (Nat×Nat):=match Nat.beq a b with
 | true=>r
 | false=>match look r a with
  | some _=>r
  | none=>(a,b)::r
mutual
def nmV:V→V→List (Nat×Nat)→List (Nat×Nat)
 | .ptr a _,.ptr b _,r=>addN a b r
 | .slice a _ _ _,.slice b _ _ _,r=>addN a b r
 | .map a,.map b,r=>addN a b r
 | .sptr a _ _ _,.sptr b _ _ _,r=>addN a b r
 | .xslice w a _ _ _ _,.xslice _ b _ _ _ _,r=>match w with
  | true=>r
  | false=>addN a b r
 | .xptr w a _ _ _,.xptr _ b _ _ _,r=>match w with
  | true=>r
  | false=>addN a b r
 | .func _ a c,.func _ b d,r=>nmVs c d (nmVs a b r)
 | .iface _ v,.iface _ u,r=>nmV v u r
 | .agg l,.agg m,r=>nmVs l m r
 | .tuple l,.tuple m,r=>nmVs l m r
 | _,_,r=>r
def nmVs:List V→List V→List (Nat×Nat)→List (Nat×Nat)
 | v::l,u::m,r=>nmVs l m (nmV v u r)
 | _,_,r=>r
end
mutual
def uV:V→V→List (Nat×V)→List (Nat×V)
 | .any k,v,l=>match look l k with
  | some _=>l
  | none=>(k,v)::l
 | .func _ a c,.func _ b d,l=>uVs c d (uVs a b l)
 | .iface _ v,.iface _ u,l=>uV v u l
 | .agg x,.agg y,l=>uVs x y l
 | .tuple x,.tuple y,l=>uVs x y l
 | _,_,l=>l
def uVs:List V→List V→List (Nat×V)→List (Nat×V)
 | v::x,u::y,l=>uVs x y (uV v u l)
 | _,_,l=>l
end
end
end Go.Proofs.Ytfmfhnpkganobaa
namespace Go.Proofs.Ytfmfhnpkganobaa
open Go
section
variable {P:Program} {cx:Cx} {ρ:Env}
end
structure Agree (t:Tch) (ρ1 ρ2:Env):Prop where
 v:∀ i,memN i t.vs=false→ρ2.v i=ρ1.v i
 f1:∀ f,inR t.ts f=false→ρ2.f1 f=ρ1.f1 f
 b:ρ2.b=ρ1.b
 f2:ρ2.f2=ρ1.f2
 s:ρ2.s=ρ1.s
 sf:ρ2.sf=ρ1.sf
 ro:ρ2.ro=ρ1.ro
 win:ρ2.win=ρ1.win
structure EnvRel (t:Tch) (ρ1 ρ2:Env) (σ:Mt):Prop where
 agree:Agree t ρ1 ρ2
 v:∀ i x,look σ.v i=some x→ρ2.v i=x.den ρ1
 a:∀ f ks a,look σ.a f=some (ks,a)→∀ (c:Nat) (k:CK),ks[c]?=some k→∀ j:Int,k.val (k.sym ρ2 f c j)=k.val (a.den ρ1 k c j)
section
variable {t:Tch} {ρ1 ρ2:Env} {σ:Mt} {π1:Pl}
theorem B.agree(A:Agree t ρ1 ρ2)(b:B):b.den ρ2=b.den ρ1:=by cases b<;>simp only [B.den,A.b]
theorem bv_agree(A:Agree t ρ1 ρ2)(b:B):∀ l:List B,bvDen ρ2 l b=bvDen ρ1 l b
 | []=>by simp only [bvDen,B.agree A]
 | c::l=>by simp only [bvDen,B.agree A,bv_agree A b l]
theorem rowText_agree(A:Agree t ρ1 ρ2){f:Nat}(hf:inR t.ts f=false)(lo:Int)(n:Nat):rowText ρ2 f lo n=rowText ρ1 f lo n:=by
 unfold rowText
 rw [A.f1 f hf]
theorem X.free_den(A:Agree t ρ1 ρ2):∀ x:X,x.free t=true→x.den ρ2=x.den ρ1∧x.sden ρ2=x.sden ρ1:=by
 intro x
 induction x with
 | lit n=>exact fun _=>⟨rfl,rfl⟩
 | var i=>exact fun h=>⟨A.v i (by simpa [X.free] using h),rfl⟩
 | slit l=>exact fun _=>⟨rfl,rfl⟩
 | svar i=>exact fun _=>⟨rfl,by simp only [X.sden,A.s]⟩
 | bv l b=>exact fun _=>⟨bv_agree A b l,rfl⟩
 | cube m v=>exact fun _=>⟨by simp only [X.den,cubeB,A.b],rfl⟩
 | wrap k a ia=>exact fun h=>⟨by simp only [X.den,(ia (by simpa [X.free] using h)).1],rfl⟩
 | not a ia=>exact fun h=>⟨by simp only [X.den,(ia (by simpa [X.free] using h)).1],rfl⟩
 | slen a ia=>exact fun h=>⟨by simp only [X.den,(ia (by simpa [X.free] using h)).2],rfl⟩
 | sfn f a ia=>
  intro h
  refine⟨rfl,?_⟩
  have e:=(ia (by simpa [X.free] using h)).1
  simp only [X.sden,e]
  cases f with
  | zero=>rfl
  | succ f=>simp only [fnText,A.sf]
 | fn1 f a ia=>
  intro h
  simp only [X.free,Bool.and_eq_true,Bool.not_eq_true'] at h
  exact⟨by simp only [X.den,(ia h.2).1,A.f1 f h.1],rfl⟩
 | btext f a b ia ib=>
  intro h
  simp only [X.free,Bool.and_eq_true,Bool.not_eq_true'] at h
  exact⟨rfl,by simp only [X.sden,(ia h.2.1).1,(ib h.2.2).1,rowText_agree A h.1]⟩
 | ite c a b ic ia ib=>
  intro h
  simp only [X.free,Bool.and_eq_true] at h
  exact⟨by simp only [X.den,(ic h.1).1,(ia h.2.1).1,(ib h.2.2).1],by simp only [X.sden,(ic h.1).1,(ia h.2.1).2,(ib h.2.2).2]⟩
 | fn2 f a b ia ib=>
  intro h
  simp only [X.free,Bool.and_eq_true] at h
  exact⟨by simp only [X.den,(ia h.1).1,(ib h.2).1,A.f2],rfl⟩
 | scat a b ia ib=>
  intro h
  simp only [X.free,Bool.and_eq_true] at h
  exact⟨rfl,by simp only [X.sden,(ia h.1).2,(ib h.2).2]⟩
 | seq a b ia ib=>
  intro h
  simp only [X.free,Bool.and_eq_true] at h
  exact⟨by simp only [X.den,(ia h.1).2,(ib h.2).2],rfl⟩
 | _=>
  rename_i ia ib
  intro h
  simp only [X.free,Bool.and_eq_true] at h
  exact⟨by simp only [X.den,(ia h.1).1,(ib h.2).1],rfl⟩
theorem fitX_ok(E:EnvRel t ρ1 ρ2 σ){p x:X}(h:fitX t σ p x=true):p.den ρ2=x.den ρ1:=by
 unfold fitX at h
 split at h
 ·rename_i i
  split at h
  ·rename_i y hy
   rw [←X.beq_eq h]
   exact E.v i y hy
  ·split at h
   ·cases h
   ·rename_i hm
    rw [←X.beq_eq h]
    exact E.agree.v i hm
 ·split at h
  ·rename_i hf
   rw [←X.beq_eq h]
   exact (X.free_den E.agree _ hf).1
  ·cases h
theorem fitS_ok(E:EnvRel t ρ1 ρ2 σ){p x:X}(h:fitS t p x=true):p.sden ρ2=x.sden ρ1:=by
 unfold fitS at h
 split at h
 ·rename_i hf
  rw [←X.beq_eq h]
  exact (X.free_den E.agree _ hf).2
 ·cases h
def reN(σ:Mt)(ρ:Env)(π:Pl):Pl:=fun i=>match look σ.u i with
 | some v=>⟨0,0,v.conc ρ π⟩
 | none=>π (σ.name i)
theorem reN_name{i:Nat}(h:look σ.u i=none):reN σ ρ1 π1 i=π1 (σ.name i):=by
 unfold reN
 rw [h]
theorem fitN_ok{b c:Nat}(h:fitN σ b c=true):reN σ ρ1 π1 b=π1 c:=by
 unfold fitN at h
 split at h
 ·cases h
 ·rename_i hu
  rw [reN_name hu,Nat.eq_of_beq_eq_true h]
theorem fitXC_ok(E:EnvRel t ρ1 ρ2 σ){p q:XC}{b c:Nat}(h:fitXC t σ p q=true)(hb:reN σ ρ1 π1 b=π1 c)(o:Nat):p.conc ρ2 (reN σ ρ1 π1) b o=q.conc ρ1 π1 c o:=by
 unfold fitXC at h
 split at h
 ·simp only [XC.conc,fitX_ok E h]
 ·simp only [XC.conc,fitX_ok E h,hb]
 ·cases h
theorem xaddr_fit(E:EnvRel t ρ1 ρ2 σ){w:Bool}{b c:Nat}(hb:reN σ ρ1 π1 b=π1 c) (hw:(match w with | true=>Nat.beq b c | false=>true)=true) (n:Nat):xaddr ρ2 (reN σ ρ1 π1) w b n=xaddr ρ1 π1 w c n:=by
 unfold xaddr
 cases w with
 | true=>
  have:b=c:=Nat.eq_of_beq_eq_true hw
  subst this
  simp only [if_true,E.agree.win]
 | false=>simp only [Bool.false_eq_true,if_false,hb]
mutual
theorem fitV_ok(E:EnvRel t ρ1 ρ2 σ):∀ (p v:V),fitV t σ p v=true→p.conc ρ2 (reN σ ρ1 π1)=v.conc ρ1 π1
 | .any k,v,h=>by
  unfold fitV at h
  split at h
  ·rename_i u hu
   obtain rfl:=V.beq_eq _ _ h
   simp only [V.conc,reN,hu]
  ·cases h
 | .int k p,v,h=>by
  cases v<;>simp only [fitV,Bool.false_eq_true] at h
  obtain⟨h1,h2,_⟩:=and6_ok h
  simp only [V.conc,fitX_ok E h2,kindBeq_eq h1]
 | .bool p,v,h=>by
  cases v<;>simp only [fitV,Bool.false_eq_true] at h
  simp only [V.conc,X.tt,fitX_ok E h]
 | .str p,v,h=>by
  cases v<;>simp only [fitV,Bool.false_eq_true] at h
  simp only [V.conc,fitS_ok E h]
 | .ptr b o,v,h=>by
  cases v<;>simp only [fitV,Bool.false_eq_true] at h
  obtain⟨h1,h2,_⟩:=and6_ok h
  simp only [V.conc,fitN_ok (ρ1:=ρ1) (π1:=π1) h1,Nat.eq_of_beq_eq_true h2]
 | .nilptr,v,h=>by cases v<;>simp only [fitV,Bool.false_eq_true] at h;rfl
 | .slice b o n c,v,h=>by
  cases v<;>simp only [fitV,Bool.false_eq_true] at h
  rename_i b' o' n' c'
  obtain⟨h1,h2,h3,h4,_⟩:=and6_ok h
  have hc:c.conc (reN σ ρ1 π1)=c'.conc π1:=by
   unfold fitCp at h4
   split at h4
   ·rw [Nat.eq_of_beq_eq_true h4]
    rfl
   ·obtain⟨g1,g2,g3,_⟩:=and6_ok h4
    simp only [Cp.conc,fitN_ok (ρ1:=ρ1) (π1:=π1) g1,Nat.eq_of_beq_eq_true g2,Nat.eq_of_beq_eq_true g3]
   ·cases h4
  simp only [V.conc,fitN_ok (ρ1:=ρ1) (π1:=π1) h1,Nat.eq_of_beq_eq_true h2,Nat.eq_of_beq_eq_true h3,hc]
 | .nilslice,v,h=>by cases v<;>simp only [fitV,Bool.false_eq_true] at h;rfl
 | .map b,v,h=>by
  cases v<;>simp only [fitV,Bool.false_eq_true] at h
  simp only [V.conc,fitN_ok (ρ1:=ρ1) (π1:=π1) h]
 | .nilmap,v,h=>by cases v<;>simp only [fitV,Bool.false_eq_true] at h;rfl
 | .func f a c,v,h=>by
  cases v<;>simp only [fitV,Bool.false_eq_true] at h
  obtain⟨h1,h2,h3,_⟩:=and6_ok h
  simp only [V.conc,decBeq_eq h1,fitVs_ok E _ _ h2,fitVs_ok E _ _ h3]
 | .yield b,v,h=>by
  cases v<;>simp only [fitV,Bool.false_eq_true] at h
  simp only [V.conc,fitN_ok (ρ1:=ρ1) (π1:=π1) h]
 | .nilfunc,v,h=>by cases v<;>simp only [fitV,Bool.false_eq_true] at h;rfl
 | .iface u x,v,h=>by
  cases v<;>simp only [fitV,Bool.false_eq_true] at h
  obtain⟨h1,h2,_⟩:=and6_ok h
  simp only [V.conc,Nat.eq_of_beq_eq_true h1,fitV_ok E _ _ h2]
 | .niliface,v,h=>by cases v<;>simp only [fitV,Bool.false_eq_true] at h;rfl
 | .agg l,v,h=>by
  cases v<;>simp only [fitV,Bool.false_eq_true] at h
  simp only [V.conc,fitVs_ok E _ _ h]
 | .tuple l,v,h=>by
  cases v<;>simp only [fitV,Bool.false_eq_true] at h
  simp only [V.conc,fitVs_ok E _ _ h]
 | .wptr b o,v,h=>by
  cases v<;>simp only [fitV,Bool.false_eq_true] at h
  obtain⟨h1,h2,_⟩:=and6_ok h
  simp only [V.conc,E.agree.win,Nat.eq_of_beq_eq_true h1,Nat.eq_of_beq_eq_true h2]
 | .wslice b o n c,v,h=>by
  cases v<;>simp only [fitV,Bool.false_eq_true] at h
  obtain⟨h1,h2,h3,h4,_⟩:=and6_ok h
  simp only [V.conc,E.agree.win,Nat.eq_of_beq_eq_true h1,Nat.eq_of_beq_eq_true h2,fitX_ok E h3,fitX_ok E h4]
 | .sptr b o n i,v,h=>by
  cases v<;>simp only [fitV,Bool.false_eq_true] at h
  obtain⟨h1,h2,h3,h4,_⟩:=and6_ok h
  simp only [V.conc,fitN_ok (ρ1:=ρ1) (π1:=π1) h1,Nat.eq_of_beq_eq_true h2,fitX_ok E h4]
 | .xslice w b off es n c,v,h=>by
  cases v<;>simp only [fitV,Bool.false_eq_true] at h
  obtain⟨h1,h2,h3,h4,h5,h6⟩:=and6_ok h
  obtain⟨h7,h8,_⟩:=and6_ok h2
  obtain rfl:=sameW_eq h1
  have hb:=fitN_ok (ρ1:=ρ1) (π1:=π1) h7
  simp only [V.conc,fitX_ok E h3,fitX_ok E h5,Nat.eq_of_beq_eq_true h4,fitXC_ok E h6 hb,xaddr_fit E hb h8]
 | .xptr w b i es c,v,h=>by
  cases v<;>simp only [fitV,Bool.false_eq_true] at h
  obtain⟨h1,h2,h3,h4,h5,_⟩:=and6_ok h
  obtain⟨h7,h8,_⟩:=and6_ok h2
  obtain rfl:=sameW_eq h1
  have hb:=fitN_ok (ρ1:=ρ1) (π1:=π1) h7
  simp only [V.conc,fitX_ok E h3,Nat.eq_of_beq_eq_true h4,Nat.eq_of_beq_eq_true h5,xaddr_fit E hb h8]
 | .ite _ _ _,v,h=>by cases v<;>simp only [fitV,Bool.false_eq_true] at h
 | .rest _ _ _ _,v,h=>by cases v<;>simp only [fitV,Bool.false_eq_true] at h
theorem fitVs_ok(E:EnvRel t ρ1 ρ2 σ):∀ (l m:List V),fitVs t σ l m=true→V.concs ρ2 (reN σ ρ1 π1) l=V.concs ρ1 π1 m
 | [],[],_=>rfl
 | [],_::_,h=>by simp [fitVs] at h
 | _::_,[],h=>by simp [fitVs] at h
 | p::l,v::m,h=>by
  obtain⟨h1,h2,_⟩:=and6_ok h
  simp only [V.concs,fitV_ok E p v h1,fitVs_ok E l m h2]
end
theorem noneIn_ok {l:List (Nat×Nat)} {f:Nat}:∀ {n:Nat},noneIn l f n=true→∀ c,c<n→inR l (f+c)=false
 | 0,_,c,hc=>by omega
 | n+1,h,c,hc=>by
  unfold noneIn at h
  split at h
  ·cases h
  ·rename_i hn
   by_cases e:c=n
   ·subst e;exact hn
   ·exact noneIn_ok h c (by omega)
theorem sym_agree(A:Agree t ρ1 ρ2){f c:Nat} (h:inR t.ts (f+c)=false) (k:CK) (j:Int):k.sym ρ2 f c j=k.sym ρ1 f c j:=by
 cases k<;>simp only [CK.sym,A.f1 _ h]
theorem A.free_den(G:Agree t ρ1 ρ2){n:Nat}(k:CK){c:Nat}(hc:c<n)(j:Int):∀ a:A,a.free t n=true→a.den ρ2 k c j=a.den ρ1 k c j
 | .base f,h=>sym_agree G (noneIn_ok h c hc) k j
 | .fill x,h=>(X.free_den G x h).1
 | .put a i c' x,h=>by
  simp only [A.free,Bool.and_eq_true] at h
  simp only [A.den,(X.free_den G i h.2.1).1,(X.free_den G x h.2.2).1,A.free_den G k hc j a h.1]
theorem fitOb_froz{i:Nat}{p o:SObj}(h:fitOb t σ i p o=true):p.froz=o.froz:=by
 unfold fitOb at h
 split at h<;>first | rfl | cases h
theorem fitHs_get{h:H}:∀ {l:List (Nat×SObj)} {i:Nat} {p:SObj},fitHs t σ h l=true→(i,p)∈l→look σ.u i=none∧∃ o,h.get (σ.name i)=some o∧fitOb t σ i p o=true
 | [],i,p,_,hm=>by simp at hm
 | (j,q)::l,i,p,hf,hm=>by
  unfold fitHs at hf
  split at hf
  ·cases hf
  ·rename_i hu
   split at hf
   ·rename_i o ho
    split at hf
    ·rename_i hq
     rcases List.mem_cons.1 hm with e | hm
     ·obtain⟨rfl,rfl⟩:i=j∧p=q:=by simpa using e
      exact⟨hu,o,ho,hq⟩
     ·exact fitHs_get hf hm
    ·cases hf
   ·cases hf
theorem itemsH_get{i:Nat}{o:SObj}:∀ {l:List (Nat×SObj)},(itemsH l).get i=some o→(i,o)∈l
 | [],h=>by simp only [itemsH,T.get_nil] at h;cases h
 | (j,p)::l,h=>by
  unfold itemsH at h
  by_cases e:j=i
  ·subst e
   rw [T.get_set_same] at h
   obtain rfl:=Option.some.inj h
   exact List.mem_cons_self
  ·rw [T.get_set_other _ _ e] at h
   exact List.mem_cons_of_mem _ (itemsH_get h)
end
section
variable {ρ:Env} {π π':Pl}
mutual
theorem V.conc_nms:∀ v:V,(∀ b∈v.nms,π b=π' b)→v.conc ρ π=v.conc ρ π'
 | .int _ _,_=>rfl
 | .bool _,_=>rfl
 | .str _,_=>rfl
 | .ptr b o,h=>by simp only [V.conc,h b (by simp [V.nms])]
 | .nilptr,_=>rfl
 | .slice b o n c,h=>by
  have hb:=h b (by simp [V.nms])
  cases c with
  | known m=>simp only [V.conc,Cp.conc,hb]
  | room b' o' m=>simp only [V.conc,Cp.conc,hb,h b' (by simp [V.nms,Cp.nms])]
 | .nilslice,_=>rfl
 | .map b,h=>by simp only [V.conc,h b (by simp [V.nms])]
 | .nilmap,_=>rfl
 | .func f a c,h=>by simp only [V.conc,V.concs_nms a fun b hb=>h b (by simp [V.nms,hb]),V.concs_nms c fun b hb=>h b (by simp [V.nms,hb])]
 | .yield b,h=>by simp only [V.conc,h b (by simp [V.nms])]
 | .nilfunc,_=>rfl
 | .iface t v,h=>by simp only [V.conc,V.conc_nms v fun b hb=>h b (by simpa [V.nms] using hb)]
 | .niliface,_=>rfl
 | .agg l,h=>by simp only [V.conc,V.concs_nms l fun b hb=>h b (by simpa [V.nms] using hb)]
 | .tuple l,h=>by simp only [V.conc,V.concs_nms l fun b hb=>h b (by simpa [V.nms] using hb)]
 | .wptr b o,_=>rfl
 | .wslice b o n c,_=>rfl
 | .ite c a b,h=>by simp only [V.conc,V.conc_nms a fun b hb=>h b (by simp [V.nms,hb]),V.conc_nms b fun b hb=>h b (by simp [V.nms,hb])]
 | .sptr b o n i,h=>by simp only [V.conc,h b (by simp [V.nms])]
 | .rest b o l s,h=>by simp only [V.conc,h b (by simp [V.nms])]
 | .xslice w b off es n c,h=>by
  have hb:=h b (by simp [V.nms])
  cases c<;>simp only [V.conc,XC.conc,xaddr,hb]
 | .xptr w b i es c,h=>by simp only [V.conc,xaddr,h b (by simp [V.nms])]
 | .any k,h=>by simp only [V.conc,h k (by simp [V.nms])]
theorem V.concs_nms:∀ l:List V,(∀ b∈V.nmss l,π b=π' b)→V.concs ρ π l=V.concs ρ π' l
 | [],_=>rfl
 | v::l,h=>by simp only [V.concs,V.conc_nms v fun b hb=>h b (by simp [V.nmss,hb]),V.concs_nms l fun b hb=>h b (by simp [V.nmss,hb])]
end
end
end Go.Proofs.Ytfmfhnpkganobaa
namespace Go.Proofs.Ytfmfhnpkganobaa
open Go
section
variable {P:Program} {cx:Cx} {ρ:Env}
structure Trk (n:Nat) (kn:List Nat) (h:H) (π0:Pl) (h0:H) (w0:World) (π1:Pl) (w1:World):Prop where
 base:∀ i∈kn,i<n→π1 i=π0 i
 sub:∀ i o,h.get i=some o→w0.heap.size≤(π1 i).1∨∃ i0 o0,h0.get i0=some o0∧(π0 i0).1=(π1 i).1∧(o0.froz=true→o.froz=true)
 keep:∀ j,j<w0.heap.size→(∀ i o,h0.get i=some o→(π0 i).1=j→o.froz=true)→w1.heap[j]?=w0.heap[j]?
 size:w0.heap.size≤w1.heap.size
 same:w1.tape=w0.tape∧w1.os=w0.os∧w1.output=w0.output
theorem Trk.go{n:Nat}{kn kn':List Nat}{I p:Pat}{π0 π1 π':Pl}{h0:H}{w0 w1 w':World}{ρ1:Env}{t:Tch}{σ:Mt}{fr:Fr}{st:St}{m:Nat}(T:Trk n kn I.st.h π0 h0 w0 π1 w1) (g:Goes ρ1 (·∈kn) π1 I.st.h w1 m π' st.h w' st.n)
  (hf:fit t σ n p fr st=true) (hkn:∀ i∈kn',i<n→i∈kn) (hp:∀ i∈kn',i<n→look σ.u i=none∧σ.name i=i):Trk n kn' p.st.h π0 h0 w0 (reN σ ρ1 π') w':=by
 unfold fit at hf
 obtain⟨_,_,f3,_⟩:=and6_ok hf
 refine⟨fun i hi hn=>?_,fun i o hi=>?_,fun j hj hne=>?_,Nat.le_trans T.size g.size,⟨g.same.1.trans T.same.1,g.same.2.1.trans T.same.2.1,g.same.2.2.trans T.same.2.2⟩⟩
 ·obtain⟨hu,hnm⟩:=hp i hi hn
  rw [reN_name hu,hnm,g.known i (hkn i hi hn)]
  exact T.base i (hkn i hi hn) hn
 ·obtain⟨hu,q,hq,hfo⟩:=fitHs_get f3 (itemsH_get hi)
  rw [reN_name hu,fitOb_froz hfo]
  rcases g.sub _ q hq with h1 | ⟨i0,o0,h1,h2,z⟩
  ·exact .inl (Nat.le_trans T.size h1)
  ·rw [←h2]
   exact (T.sub i0 o0 h1).imp id fun⟨i1,o1,h3,h4,z'⟩=>⟨i1,o1,h3,h4,fun q=>z (z' q)⟩
 ·rw [g.keep j (Nat.lt_of_lt_of_le hj T.size) fun i o hi e=>?_,T.keep j hj hne]
  rcases T.sub i o hi with h1 | ⟨i0,o0,h1,h2,z⟩
  ·omega
  ·exact z (hne i0 o0 h1 (h2.trans e))
def LL.like:LL→LL→Prop
 | .next σ,.next τ=>σ.v=τ.v∧σ.a=τ.a
 | .out k σ,.out j τ=>k=j∧σ.v=τ.v∧σ.a=τ.a
 | .never,.never=>True
 | _,_=>False
theorem EnvRel.like{t:Tch}{ρ1 ρ2:Env}{σ τ:Mt}(h:σ.v=τ.v∧σ.a=τ.a)(E:EnvRel t ρ1 ρ2 σ):EnvRel t ρ1 ρ2 τ:=⟨E.agree,fun i x hx=>E.v i x (by rw [h.1];exact hx),fun f ks a ha=>E.a f ks a (by rw [h.2];exact ha)⟩
end
end Go.Proofs.Ytfmfhnpkganobaa
namespace Go.Proofs.Ytfmfhnpkganobaa
open Go
noncomputable section
def winHeap:List (Nat×SObj)→H→H
 | [],h=>h
 | (i,o)::l,h=>(winHeap l h).set i o
structure CallP where
 args:List V
 items:List (Nat×SObj)
 n:Nat
 pc:PC
def CallP.st (L:List (Nat×List V)) (p:CallP):St:={h:=winHeap p.items (roHeap L),n:=p.n,pc:=p.pc}
def findA(a:A)(ks:List CK)(len:X):List (A×List CK×X×Nat)→Option Nat
 | []=>none
 | (b,ks',len',t)::l=>match and6 (a.beq b) (CK.beqs ks ks') (len.beq len') true true true with
  | true=>some t
  | false=>findA a ks len l
def weakAt (l:List (A×List CK×X×Nat)) (b:Nat) (st:St):St:=match st.h.get b with
 | some (.arr a ks len e w)=>match findA a ks len l with
  | some t=>{st with h:=st.h.set b (.arr (.base t) ks len e w)}
  | none=>st
 | _=>st
end
end Go.Proofs.Ytfmfhnpkganobaa
namespace Go.Proofs.Ytfmfhnpkganobaa
open Go Go.RowKit
theorem winHeap_get:∀ {ws:List (Nat×SObj)} {h:H} {i:Nat} {o:SObj},(winHeap ws h).get i=some o→(i,o)∈ws∨((∀ x∈ws,x.1≠i)∧h.get i=some o)
 | [],h,i,o,hi=>.inr ⟨fun _ hx=>(by cases hx),hi⟩
 | (j,q)::l,h,i,o,hi=>by
  simp only [winHeap] at hi
  by_cases e:j=i
  ·subst e
   rw [T.get_set_same] at hi
   obtain rfl:=Option.some.inj hi
   exact .inl (List.mem_cons_self ..)
  ·rw [T.get_set_other _ _ e] at hi
   rcases winHeap_get hi with h1 | ⟨h1,h2⟩
   ·exact .inl (List.mem_cons_of_mem _ h1)
   ·refine .inr ⟨fun x hx=>?_,h2⟩
    rcases List.mem_cons.1 hx with rfl | hx
    ·exact e
    ·exact h1 x hx
section
variable {ρ:Env} {σ:Sub} {π:Pl}
end
section
variable {P:Program} {cx cx0:Cx} {ρ:Env} {σ:Sub} {S:Nat→Prop} {π0:Pl} {st st':St} {w:World} {L:List (Nat×List V)} {ng:Nat}
theorem findA_mem{a:A}{ks:List CK}{len:X}{t:Nat}:∀ {l:List (A×List CK×X×Nat)},findA a ks len l=some t→(a,ks,len,t)∈l
 | [],h=>by cases h
 | (b,ks',len',t')::l,h=>by
  unfold findA at h
  split at h
  ·rename_i hb
   obtain⟨h1,h2,h3,_⟩:=and6_ok hb
   rw [A.beq_eq h1,CK.beqs_eq h2,X.beq_eq h3,←Option.some.inj h]
   exact List.mem_cons_self ..
  ·exact List.mem_cons_of_mem _ (findA_mem h)
def WeakOk(ρ:Env) (l:List (A×List CK×X×Nat)):Prop:=∀ x∈l,∀ (j c:Nat) (k:CK),j<(x.2.2.1.den ρ).toNat→x.2.1[c]?=some k→k.val (x.1.den ρ k c j)=k.val (A.den ρ k c j (.base x.2.2.2))
theorem weakAt_less {l:List (A×List CK×X×Nat)} (hl:WeakOk ρ l) (b:Nat) (_:PcOk ρ st.pc):Less ρ st (weakAt l b st):=by
 unfold weakAt
 split
 ·rename_i a ks len e w hg
  split
  ·rename_i t ht
   refine⟨fun h=>h,Nat.le_refl _,fun i o' hi=>?_⟩
   by_cases hb:b=i
   ·subst hb
    dsimp only at hi
    rw [T.get_set_same] at hi
    cases hi
    refine⟨_,hg,fun π ob ⟨cs,h1,h2,h3,h4⟩=>⟨cs,h1,h2,h3,fun j c k hj hk=>?_⟩,rfl⟩
    rw [h4 j c k hj hk,hl _ (findA_mem ht) j c k hj hk]
   ·dsimp only at hi
    rw [T.get_set_other _ _ hb] at hi
    exact⟨o',hi,fun _ _ h=>h,rfl⟩
  ·exact .refl _
 ·exact .refl _
end
end Go.Proofs.Ytfmfhnpkganobaa
namespace Go.Proofs.Ytfmfhnpkganobaa
open Go Go.RowKit
def stRows (L:List (Nat×List V)) (ws:List (Nat×SObj)) (n:Nat) (pc:PC):St:={h:=winHeap ws (roHeap L),n:=n,pc:=pc}
noncomputable def allChkX:EOut→Bool
 | .ok (.ret (.bool x),st)=>chk 1000 st.pc x true
 | .ok _=>false
 | .br _ t f=>match allChkX t with
  | true=>allChkX f
  | false=>false
 | .stuck _=>false
section
variable {P:Program} {cx:Cx} {ρ:Env} {W:World} {L:List (Nat×List V)} {ws:List (Nat×SObj)} {ng nm:Nat} {pc:PC}
theorem allChkX_sel:∀ {r:EOut},allChkX r=true→∃ x st,r.sel ρ=some (.ret (.bool x),st)∧(PcOk ρ st.pc→x.tt ρ=true)
 | .ok a,h=>by
  unfold allChkX at h
  split at h
  ·rename_i x st e
   injection e with e
   subst e
   exact⟨x,st,rfl,fun hp=>chk_ok hp h⟩
  ·cases h
  ·rename_i e;cases e
  ·rename_i e;cases e
 | .br c t f,h=>by
  unfold allChkX at h
  split at h
  ·rename_i ht
   unfold R.sel
   split
   ·exact allChkX_sel ht
   ·exact allChkX_sel h
  ·cases h
 | .stuck _,h=>by simp [allChkX] at h
structure RowsAt (ρ:Env) (W:World) (ws:List (Nat×SObj)) (ng nm:Nat):Prop where
 lo:∀ x∈ws,ng≤x.1∧x.1<nm
 le:ng≤nm
 obj:∀ x∈ws,W.heap[(ρ.win x.1).block]?=some (ρ.ro x.1)
 froz:∀ x∈ws,x.2.froz=true
 is:∀ x∈ws,∀ π:Pl,(π x.1).1=(ρ.win x.1).block→x.2.is ρ π x.1 (ρ.ro x.1)
def πRows(ρ:Env)(ng:Nat):Pl:=fun i=>match Nat.ble ng i with
 | true=>⟨(ρ.win i).block,0,.nilFunc⟩
 | false=>⟨i,0,.nilFunc⟩
end
end Go.Proofs.Ytfmfhnpkganobaa
namespace Go.Proofs.Ytfmfhnpkganobaa
open Go Go.Proofs Go.ChangeShapes Go.WideShapes Go.RowKit
def roW(W:World)(i:Nat):Obj:=(W.heap[i]?).getD (.deferred none)
structure CameIn (W:World) (ks:List CK) (a:Addr) (ln:Nat) (g:Nat→Int→Int):Prop where
 spot:a.spot=none
 row:∃ cs t fr,W.heap[a.block]?=some (.cells cs t fr)∧∀ (j c:Nat) (k:CK),j<ln→ks[c]?=some k→cs[a.off+(j*ks.length+c)]?=some (k.val (match k with
  | .int k=>k.wrap (g c j)
  | .bool=>b2i (g c j==1)))
theorem cameIn_of{W:World}{ks:List CK}{a:Addr}{ln:Nat}{zs:Nat→List Value}(hn:0<ln)(hks:0<ks.length) (h:∀ i,i<ln→AllK ks (zs i)∧∀ j,j<ks.length→W.cell? (a.add (i*ks.length+j))=(zs i)[j]?):
  CameIn W ks a ln fun c j=>cellI ((zs j.toNat).getD c default):=by
 have h0:∃ cs t fr,W.heap[a.block]?=some (.cells cs t fr)∧a.spot=none:=by
  obtain⟨h1,h2⟩:=h 0 hn
  have h3:=h2 0 hks
  have hl:=h1.len
  have:(zs 0)[0]?=some (zs 0)[0]:=List.getElem?_eq_getElem (by omega)
  rw [this] at h3
  unfold World.cell? at h3
  split at h3
  ·rename_i cs t fr hb
   refine⟨cs,t,fr,by simpa [Addr.add] using hb,?_⟩
   cases hs:a.spot with
   | none=>rfl
   | some n=>simp [Addr.add,hs] at h3
  ·cases h3
 obtain⟨cs,t,fr,hb,hs⟩:=h0
 refine⟨hs,cs,t,fr,hb,fun j c k hj hk=>?_⟩
 obtain⟨h1,h2⟩:=h j hj
 have hc:c<ks.length:=(List.getElem?_eq_some_iff.1 hk).1
 obtain⟨v,hv,hok⟩:=h1.get hk
 have h3:=h2 c hc
 rw [hv,add_plain hs] at h3
 unfold World.cell? at h3
 dsimp only at h3
 rw [hb] at h3
 simp only [Option.isSome_none,Bool.false_eq_true,if_false] at h3
 rw [h3,Int.toNat_natCast,List.getD_eq_getElem?_getD,hv,Option.getD_some]
 cases k with
 | int k=>
  obtain⟨z,rfl,hz⟩:=hok
  simp only [CK.val,cellI,wf_wrap hz]
 | bool=>
  obtain⟨b,rfl⟩:=hok
  cases b<;>rfl
theorem CameIn.block{W:World}{ks:List CK}{a:Addr}{ln:Nat}{g:Nat→Int→Int}(h:CameIn W ks a ln g):W.heap[a.block]?=some (roW W a.block):=by
 obtain⟨cs,t,fr,hb,_⟩:=h.row
 simp only [roW,hb,Option.getD_some]
theorem CameIn.is{W:World}{ks:List CK}{a:Addr}{ln:Nat}{g:Nat→Int→Int}(h:CameIn W ks a ln g){ρ:Env}{π:Pl}{b tag t:Nat}{len:X}(hw:ρ.win b=a)(hr:ρ.ro tag=roW W a.block) (hf:∀ c,c<ks.length→ρ.f1 (t+c)=g c) (hl:(len.den ρ).toNat≤ln) (hπ:(π b).1=a.block):
  SObj.is ρ π b (.warr tag t ks len) (roW W a.block):=by
 obtain⟨cs,ty,fr,hb,hc⟩:=h.row
 refine⟨⟨by rw [hw];exact h.spot,by rw [hw,hπ],cs,ty,fr,by simp only [roW,hb,Option.getD_some],fun j c k hj hk=>?_⟩,hr.symm⟩
 dsimp only
 rw [hw,hc j c k (by omega) hk]
 have hcl:c<ks.length:=(List.getElem?_eq_some_iff.1 hk).1
 cases k with
 | int k=>simp only [A.den,CK.sym,hf c hcl]
 | bool=>simp only [A.den,CK.sym,hf c hcl]
end Go.Proofs.Ytfmfhnpkganobaa
namespace Go.Proofs.Ytfmfhnpkganobaa
open Go Go.Proofs
def overR:EOut→(V→St→Bool)→Bool
 | .ok (.ret v,st),k=>k v st
 | .ok _,_=>false
 | .br _ t f,k=>match overR t k with
  | true=>overR f k
  | false=>false
 | .stuck _,_=>false
theorem overR_sel{ρ:Env}{k:V→St→Bool}:∀ {r:EOut},overR r k=true→∃ v st,r.sel ρ=some (.ret v,st)∧k v st=true
 | .ok a,h=>by
  unfold overR at h
  split at h
  ·rename_i v st e
   injection e with e
   subst e
   exact⟨v,st,rfl,h⟩
  ·cases h
  ·rename_i e;cases e
  ·rename_i e;cases e
 | .br c t f,h=>by
  unfold overR at h
  split at h
  ·rename_i ht
   unfold R.sel
   split
   ·exact overR_sel ht
   ·exact overR_sel h
  ·cases h
 | .stuck _,h=>by simp [overR] at h
def comp(call:FuncId→List V→St→EOut) (L:List (Nat×List V)) (ng m:Nat):List (FuncId×List V)→List V→PC→(List V→PC→Bool)→Bool
 | [],acc,pc,k=>k acc pc
 | (f,a)::l,acc,pc,k=>overR (call f a {stG L ng with pc:=pc}) fun v st=>match Nat.ble st.n m with
  | true=>match roThere L st.h with
   | true=>comp call L ng m l (v::acc) st.pc k
   | false=>false
  | false=>false
section
variable {P:Program} {cx cx0:Cx} {ρ:Env} {S:Nat→Prop} {π0:Pl} {st st':St} {w:World} {L:List (Nat×List V)} {ng:Nat}
theorem leaf_post4{ρ':Env}{pc0:PC}(hpc0:PcOk ρ' pc0)(hmix:P.follows .mixedOrders=true)(htt:TOk P cx0.tt)(hft:FOk P cx0.ft)(hsm:SumOk P cx0 ρ')(hng:cx.ng=ng)(hng0:cx0.ng=ng)(hL:∀ x∈L,x.1<ng)(hro:RoAt ρ' L)(hroe:ρ'.ro=ρ.ro)
  {N:Nat} {f:FuncId} {fn:Func} {args:List V} {v v':V} {objs:List (Nat×SObj)} (hsel:((ev cx0 N).call f args {stG L ng with pc:=pc0}).sel ρ'=some (.ret v,st')) (hthere':roThere L st'.h=true) (hv':PcOk ρ' st'.pc→∀ π,v'.conc ρ π=v.conc ρ' π) (hnw:v'.noWin=true)
  (hobjs:∀ x∈objs,ng≤x.1∧∃ o,st'.h.get x.1=some o∧(x.2.plain=true∧o.froz=false)∧∀ π b ob,o.is ρ' π b ob→x.2.is ρ π b ob) (hpure:V.pures args=true) (hfn:P.funcs[f]?=some fn)
  (hh:Here cx ρ S π0 st w) (hthere:roThere L st.h=true) {ac:List Value} (ha:SaysL ρ' S π0 args ac) {n:Nat}:
  CallsIn Fence.wide n P f ac.toArray w (EPost ρ S π0 st w (.ret (v'.ren (sh st.n ng)),{h:=putAll (sh st.n ng) objs st.h,n:=st.n+(st'.n-ng),pc:=st.pc})):=by
 have hπ:∀ g,g<ng→(π0 g).1=g:=fun g hg=>(hh.glob g (by rw [hng];exact hg)).2
 have hSg:∀ g,g<ng→S g:=fun g hg=>(hh.glob g (by rw [hng];exact hg)).1
 have hngn:ng≤st.n:=by
  rcases Nat.lt_or_ge st.n ng with h | h
  ·exact absurd (hSg st.n h) (hh.fresh st.n (Nat.le_refl _))
  ·exact h
 have hW:∀ x∈L,w.heap[x.1]?=some (ρ.ro x.1):=by
  intro x hx
  obtain⟨c,hc⟩:=roThere_get hthere x hx
  obtain⟨ob,h1,_,h2⟩:=(hh.at_.rep π0 fun _ _=>rfl).obj _ _ hc
  rw [hπ _ (hL x hx),h2] at h1
  exact h1
 have hW2:∀ x∈L,w.heap[x.1]?=some (ρ'.ro x.1):=fun x hx=>by rw [hroe];exact hW x hx
 have h0:=(here_stG (cx0:=cx0) (π0:=π0) hng0 hL hro hπ hW2).like (st1:={stG L ng with pc:=pc0}) ⟨rfl,rfl,hpc0⟩
 have ha0:SaysL ρ' (fun i=>i<ng) π0 args ac:=fun π _=>(V.pures_eq hpure).trans (ha π0 fun _ _=>rfl)
 refine ((ev_ok hmix htt hft hsm N).2.2 f args _ _ hsel _ π0 w ac n h0 ha0 ⟨fn,hfn⟩).mono fun e w' hp=>?_
 obtain⟨hpc',πc,g,c,rfl,hv⟩:=hp
 have hb:=below_of hL hπ hW2 g hthere'
 have hle:ng≤st'.n:=g.le
 refine⟨hh.pc,fun i=>if i<st.n then π0 i else πc (i-st.n+ng),?_⟩
 have hpi:∀ b,(fun i=>if i<st.n then π0 i else πc (i-st.n+ng)) (sh st.n ng b)=πc b:=by
  intro b
  dsimp only
  rcases Nat.lt_or_ge b ng with h | h
  ·rw [sh_lt h,if_pos (by omega),g.known b h]
  ·rw [sh_ge h,if_neg (by omega),show b-ng+st.n-st.n+ng=b by omega]
 have hkn:∀ π,Known (Ext S st.n (st.n+(st'.n-ng))) π (fun i=>if i<st.n then π0 i else πc (i-st.n+ng))→Known (Ext (fun i=>i<ng) ng st'.n) (fun b=>π (sh st.n ng b)) πc:=by
  intro π hk b hbb
  dsimp only
  rw [←hpi b]
  refine hk _ ?_
  rcases hbb with h | ⟨h1,h2⟩
  ·rw [sh_lt h]
   exact .inl (hSg b h)
  ·rw [sh_ge h1]
   exact .inr ⟨by omega,by omega⟩
 have hk0:Known S (fun i=>if i<st.n then π0 i else πc (i-st.n+ng)) π0:=by
  intro i hi
  dsimp only
  rw [if_pos]
  rcases Nat.lt_or_ge i st.n with h | h
  ·exact h
  ·exact absurd hi (hh.fresh i h)
 have hold:∀ π,Known (Ext S st.n (st.n+(st'.n-ng))) π (fun i=>if i<st.n then π0 i else πc (i-st.n+ng))→∀ i o,st.h.get i=some o→∃ ob,w.heap[(π i).1]?=some ob∧o.is ρ π i ob:=by
  intro π hk i o hi
  exact (hh.at_.rep π fun j hj=>(hk j (.inl hj)).trans (hk0 j hj)).obj i o hi
 have hnew:∀ x∈objs,w.heap.size≤(πc x.1).1:=by
  intro x hx
  obtain⟨h1,o,h2,h3,hob⟩:=hobjs x hx
  rcases g.sub x.1 o h2 with h | ⟨i0,o0,h4,h5,h6⟩
  ·exact h
  ·obtain⟨y,hy,rfl,rfl⟩:=roHeap_get h4
   rw [h3.2] at h6
   exact absurd (h6 rfl) (by decide)
 refine⟨?_,⟨c,rfl,fun π hk=>?_⟩⟩
 ·refine⟨by dsimp only;omega,hk0,⟨fun π hk=>⟨fun i o hi=>?_,fun i j o o' hi hj e=>?_⟩,fun i o hi=>?_⟩,fun i o hi=>?_,fun j hj hne=>hb.block j hj,hb.size,⟨hb.tape,hb.os,hb.output⟩⟩
  ·rcases putAll_get hi with ⟨x,hx,rfl,rfl⟩ | hi
   ·obtain⟨h1,o,h2,h3,hob⟩:=hobjs x hx
    obtain⟨ob,h4,h5⟩:=(g.at_.rep _ (hkn π hk)).obj x.1 o h2
    exact⟨ob,h4,SObj.is_ren h3.1 (hob _ _ _ h5)⟩
   ·obtain⟨ob,h1,h2⟩:=hold π hk i o hi
    have hlt:(π i).1<w.heap.size:=(Array.getElem?_eq_some_iff.1 h1).1
    exact⟨ob,by rw [hb.block _ hlt];exact h1,h2⟩
  ·have hmix:∀ (i j:Nat) (o:SObj) (x:Nat×SObj),st.h.get i=some o→x∈objs→(π i).1=(π (sh st.n ng x.1)).1→False:=by
    intro i j o x hi hx e
    obtain⟨ob,h1,_⟩:=hold π hk i o hi
    have hlt:(π i).1<w.heap.size:=(Array.getElem?_eq_some_iff.1 h1).1
    have h2:=hnew x hx
    obtain⟨h3,o,h4,_⟩:=hobjs x hx
    have h5:(π (sh st.n ng x.1))=πc x.1:=hkn π hk x.1 (g.at_.dom _ _ h4)
    rw [h5] at e
    omega
   rcases putAll_get hi with ⟨x,hx,rfl,rfl⟩ | hi<;>rcases putAll_get hj with ⟨y,hy,rfl,rfl⟩ | hj
   ·obtain⟨h1,_,h2,h3,_⟩:=hobjs x hx
    obtain⟨h4,_,h5,h6,_⟩:=hobjs y hy
    rcases (g.at_.rep _ (hkn π hk)).inj x.1 y.1 _ _ h2 h5 e with e | e
    ·exact .inl (by rw [e])
    ·rw [h3.2] at e;cases e.1
   ·exact (hmix j 0 _ x hj hx e.symm).elim
   ·exact (hmix i 0 _ y hi hy e).elim
   ·exact (hh.at_.rep π fun j hj=>(hk j (.inl hj)).trans (hk0 j hj)).inj i j _ _ hi hj e
  ·rcases putAll_get hi with ⟨x,hx,rfl,rfl⟩ | hi
   ·obtain⟨h1,_,h2,h3⟩:=hobjs x hx
    rcases g.at_.dom _ _ h2 with h | ⟨_,h⟩
    ·have:x.1<ng:=h
     omega
    ·have h':x.1<st'.n:=h
     rw [sh_ge h1]
     exact .inr ⟨by omega,by dsimp only;omega⟩
   ·exact .inl (hh.at_.dom i o hi)
  ·rcases putAll_get hi with ⟨x,hx,rfl,rfl⟩ | hi
   ·refine .inl ?_
    have:=hnew x hx
    rw [←hpi x.1] at this
    exact this
   ·exact .inr ⟨i,o,hi,congrArg Pc.p (hk0 i (hh.at_.dom i o hi)).symm,id⟩
 ·rw [V.conc_ren _ _ _ _ hnw,hv' hpc']
  exact hv _ (hkn π hk)
end
end Go.Proofs.Ytfmfhnpkganobaa
namespace Go.Proofs.Ytfmfhnpkganobaa
open Go Go.Proofs Go.RowKit
section
variable {cx:Cx} {ρ:Env} {S:Nat→Prop} {π0:Pl} {st:St} {w w':World}
theorem goes_below{h:H}(at0:At ρ S π0 h w)(hb:Below w.heap.size w w')(n:Nat):Goes ρ S π0 h w n π0 h w' n where
 le:=Nat.le_refl _
 known:=fun _ _=>rfl
 at_:=⟨fun π hk=>⟨fun i o hi=>by
   obtain⟨ob,h1,h2⟩:=(at0.rep π fun j hj=>hk j (.inl hj)).obj i o hi
   exact⟨ob,by rw [hb.block _ (Array.getElem?_eq_some_iff.1 h1).1];exact h1,h2⟩,
  fun i j o o' hi hj e=>(at0.rep π fun j hj=>hk j (.inl hj)).inj i j o o' hi hj e⟩,fun i o hi=>.inl (at0.dom i o hi)⟩
 sub:=fun i o hi=>.inr ⟨i,o,hi,rfl,id⟩
 keep:=fun j hj _=>hb.block j hj
 size:=hb.size
 same:=⟨hb.tape,hb.os,hb.output⟩
theorem post_below{v:V}{c:Value}(hh:Here cx ρ S π0 st w)(hb:Below w.heap.size w w')(hv:∀ π,v.conc ρ π=c):EPost ρ S π0 st w (.ret v,st) (.returned c) w':=
 ⟨hh.pc,π0,goes_below hh.at_ hb st.n,c,rfl,fun π _=>hv π⟩
def putO:List (Nat×SObj)→H→H
 | [],h=>h
 | x::l,h=>(putO l h).set x.1 x.2
theorem putO_get{i:Nat}{o:SObj}:∀ {l:List (Nat×SObj)} {h:H},(putO l h).get i=some o→(i,o)∈l∨h.get i=some o
 | [],_,h=>.inr h
 | x::l,h,hi=>by
  unfold putO at hi
  by_cases e:i=x.1
  ·subst e
   rw [T.get_set_same] at hi
   obtain rfl:=Option.some.inj hi
   exact .inl (List.mem_cons_self ..)
  ·rw [T.get_set_other _ _ (fun q=>e q.symm)] at hi
   rcases putO_get hi with h1 | h1
   ·exact .inl (List.mem_cons_of_mem _ h1)
   ·exact .inr h1
theorem post_new {objs:List (Nat×SObj)} {m:Nat} {π1:Pl} {v:V} {c:Value} (hh:Here cx ρ S π0 st w) (hb:Below w.heap.size w w') (hk:∀ i,i<st.n→π1 i=π0 i) (hm:st.n≤m)
  (hobj:∀ x∈objs,st.n≤x.1∧x.1<m∧w.heap.size≤(π1 x.1).1∧∀ π:Pl,(∀ i,st.n≤i→i<m→π i=π1 i)→∃ ob,w'.heap[(π1 x.1).1]?=some ob∧x.2.is ρ π x.1 ob)
  (hinj:∀ x∈objs,∀ y∈objs,(π1 x.1).1=(π1 y.1).1→x.1=y.1) (hv:∀ π:Pl,(∀ i,st.n≤i→i<m→π i=π1 i)→v.conc ρ π=c):EPost ρ S π0 st w (.ret v,{h:=putO objs st.h,n:=m,pc:=st.pc}) (.returned c) w':=by
 have hlt:∀ i,S i→i<st.n:=fun i hi=>by
  rcases Nat.lt_or_ge i st.n with h | h
  ·exact h
  ·exact absurd hi (hh.fresh i h)
 have hold:∀ π,Known (Ext S st.n m) π π1→Known S π π0:=fun π hk1 i hi=>(hk1 i (.inl hi)).trans (hk i (hlt i hi))
 have hnew:∀ π,Known (Ext S st.n m) π π1→∀ i,st.n≤i→i<m→π i=π1 i:=fun π hk1 i h1 h2=>hk1 i (.inr ⟨h1,h2⟩)
 have apart:∀ π,Known (Ext S st.n m) π π1→∀ (i:Nat) (o:SObj) (x:Nat×SObj),st.h.get i=some o→x∈objs→(π i).1=(π x.1).1→False:=fun π hk1 i o x hi hx e=>by
  obtain⟨ob,h1,_⟩:=(hh.at_.rep π (hold π hk1)).obj i o hi
  obtain⟨h2,h3,h4,_⟩:=hobj x hx
  rw [e,hnew π hk1 x.1 h2 h3] at h1
  have:=(Array.getElem?_eq_some_iff.1 h1).1
  omega
 refine⟨hh.pc,π1,⟨hm,fun i hi=>hk i (hlt i hi),⟨fun π hk1=>⟨fun i o hi=>?_,fun i j o o' hi hj e=>?_⟩,fun i o hi=>?_⟩,fun i o hi=>?_,fun j hj _=>hb.block j hj,hb.size,⟨hb.tape,hb.os,hb.output⟩⟩,c,rfl,fun π hk1=>hv π (hnew π hk1)⟩
 ·rcases putO_get hi with h1 | h1
  ·obtain⟨h2,h3,_,h4⟩:=hobj _ h1
   obtain⟨ob,h5,h6⟩:=h4 π (hnew π hk1)
   have e:π i=π1 i:=hnew π hk1 i h2 h3
   exact⟨ob,by rw [e];exact h5,h6⟩
  ·obtain⟨ob,h2,h3⟩:=(hh.at_.rep π (hold π hk1)).obj i o h1
   exact⟨ob,by rw [hb.block _ (Array.getElem?_eq_some_iff.1 h2).1];exact h2,h3⟩
 ·rcases putO_get hi with h1 | h1<;>rcases putO_get hj with h2 | h2
  ·obtain⟨a1,a2,_⟩:=hobj _ h1
   obtain⟨b1,b2,_⟩:=hobj _ h2
   rw [hnew π hk1 i a1 a2,hnew π hk1 j b1 b2] at e
   exact .inl (hinj _ h1 _ h2 e)
  ·exact (apart π hk1 j o' (i,o) h2 h1 e.symm).elim
  ·exact (apart π hk1 i o (j,o') h1 h2 e).elim
  ·exact (hh.at_.rep π (hold π hk1)).inj i j o o' h1 h2 e
 ·rcases putO_get hi with h1 | h1
  ·obtain⟨a1,a2,_⟩:=hobj _ h1
   exact .inr ⟨a1,a2⟩
  ·exact .inl (hh.at_.dom i o h1)
 ·rcases putO_get hi with h1 | h1
  ·exact .inl (hobj _ h1).2.2.1
  ·exact .inr ⟨i,o,h1,congrArg Pc.p (hk i (hlt i (hh.at_.dom i o h1))).symm,id⟩
end
section
variable {P:Program} {cx:Cx} {ρ:Env} {W:World} {L:List (Nat×List V)} {ws:List (Nat×SObj)} {ng nm:Nat} {pc:PC} {πs:Pl}
structure RowsV (ρ:Env) (W:World) (ws:List (Nat×SObj)) (ng nm:Nat) (πs:Pl):Prop where
 glob:∀ i,i<ng→(πs i).1=i
 lo:∀ x∈ws,ng≤x.1∧x.1<nm
 le:ng≤nm
 froz:∀ x∈ws,x.2.froz=true
 is:∀ x∈ws,∀ π:Pl,Known (fun i=>i<nm) π πs→∃ ob,W.heap[(πs x.1).1]?=some ob∧x.2.is ρ π x.1 ob
theorem here_rowsV(hng:cx.ng=ng)(hL:∀ x∈L,x.1<ng)(hro:RoAt ρ L) (hW:∀ x∈L,W.heap[x.1]?=some (ρ.ro x.1)) (hw:RowsV ρ W ws ng nm πs) (hpc:PcOk ρ pc):Here cx ρ (fun i=>i<nm) πs (stRows L ws nm pc) W:=by
 have hget:∀ i o,(winHeap ws (roHeap L)).get i=some o→(i,o)∈ws∨∃ x∈L,i=x.1∧o=.ro x.1 x.2:=by
  intro i o hi
  rcases winHeap_get hi with h | ⟨_,h⟩
  ·exact .inl h
  ·exact .inr (roHeap_get h)
 have hle:=hw.le
 have hfr:∀ i o,(winHeap ws (roHeap L)).get i=some o→o.froz=true:=by
  intro i o hi
  rcases hget i o hi with h | ⟨x,hx,rfl,rfl⟩
  ·exact hw.froz _ h
  ·rfl
 refine⟨hpc,⟨fun π hk=>⟨fun i o hi=>?_,fun i j o o' hi hj e=>?_⟩,fun i o hi=>?_⟩,fun g hg=>?_,fun i hi hs=>?_⟩
 ·rcases hget i o hi with h | ⟨x,hx,rfl,rfl⟩
  ·have hlo:=hw.lo _ h
   obtain⟨ob,h1,h2⟩:=hw.is _ h π hk
   exact⟨ob,by rw [hk i hlo.2];exact h1,h2⟩
  ·have hlt:=hL x hx
   have h1:(π x.1).1=x.1:=by rw [hk x.1 (by show x.1<nm;omega)];exact hw.glob _ hlt
   obtain⟨t,fr,h2⟩:=hro.is x hx
   exact⟨_,by rw [h1];exact hW x hx,⟨t,fr,h2 π⟩,rfl⟩
 ·exact .inr ⟨hfr i o hi,hfr j o' hj⟩
 ·rcases hget i o hi with h | ⟨x,hx,rfl,rfl⟩
  ·exact (hw.lo _ h).2
  ·have:=hL x hx
   show x.1<nm;omega
 ·rw [hng] at hg
  exact⟨by show g<nm;omega,hw.glob g hg⟩
 ·have h1:nm≤i:=hi
  have h2:i<nm:=hs
  omega
theorem law_rowsV{N:Nat}{f:FuncId}{fn:Func}{args:List V}{ac:List Value}(hmix:P.follows .mixedOrders=true)(htt:TOk P cx.tt)(hft:FOk P cx.ft)(hsm:SumOk P cx ρ) (hf:P.funcs[f]?=some fn)
  (hng:cx.ng=ng) (hL:∀ x∈L,x.1<ng) (hro:RoAt ρ L) (hW:∀ x∈L,W.heap[x.1]?=some (ρ.ro x.1)) (hw:RowsV ρ W ws ng nm πs) (hpc:PcOk ρ pc)
  (ht:allChkX ((ev cx N).call f args (stRows L ws nm pc))=true) (ha:SaysL ρ (fun i=>i<nm) πs args ac):
  Calls P f ac.toArray W fun e W'=>e=.returned (.bool true)∧Below W.heap.size W W':=by
 obtain⟨x,st,hsel,hx⟩:=allChkX_sel (ρ:=ρ) ht
 refine (ev_calls hmix htt hft hsm hsel (here_rowsV hng hL hro hW hw hpc) ha hf).mono fun e W' hp=>?_
 obtain⟨hpc',π1,g,c,rfl,hv⟩:=hp
 refine⟨?_,g.same.2.1,g.same.1,g.same.2.2,g.size,fun k hk=>g.keep k hk fun i o hi _=>?_⟩
 ·rw [←hv π1 fun _ _=>rfl]
  simp [V.conc,hx hpc']
 ·rcases winHeap_get hi with h | ⟨_,h⟩
  ·exact hw.froz _ h
  ·obtain⟨x,hx,rfl,rfl⟩:=roHeap_get h
   rfl
end
end Go.Proofs.Ytfmfhnpkganobaa
namespace Go.Proofs.Ytfmfhnpkganobaa
open Go Go.Proofs
section
variable {P:Program} {cx:Cx} {ρ:Env} {L:List (Nat×List V)} {ng:Nat} {f:FuncId}
structure CallsAt (P:Program) (L:List (Nat×List V)) (ng m:Nat) (ro:Nat→Obj) (f:FuncId) (a:List Value) (val:Value):Prop where
 is:∃ (c:Cx) (N:Nat) (ρ':Env) (pc0:PC) (x:List V) (v:V) (st':St),SumOk P c ρ'∧TOk P c.tt∧FOk P c.ft∧c.ng=ng∧ρ'.ro=ro∧RoAt ρ' L∧PcOk ρ' pc0∧((ev c N).call f x {stG L ng with pc:=pc0}).sel ρ'=some (.ret v,st')∧roThere L st'.h=true∧st'.n≤m∧(∀ π,v.conc ρ' π=val)∧V.pures x=true∧∀ π,V.concs ρ' π x=a
theorem CallsAt.post{m:Nat}{ro:Nat→Obj}{a:List Value}{val:Value}(h:CallsAt P L ng m ro f a val)(hmix:P.follows .mixedOrders=true)(hng:cx.ng=ng)(hL:∀ x∈L,x.1<ng){fn:Func} (hfn:P.funcs[f]?=some fn) (hr:ρ.ro=ro) {args:List V} (ha:∀ π,V.concs ρ π args=a) {v:V} (hv:∀ π,v.conc ρ π=val) (hren:∀ r,v.ren r=v) (hnw:v.noWin=true)
  {S:Nat→Prop} {π0:Pl} {st:St} {w:World} {ac:List Value} {n:Nat} (hh:Here cx ρ S π0 st w) (hthere:roThere L st.h=true) (hac:SaysL ρ S π0 args ac):CallsIn Fence.wide n P f ac.toArray w (EPost ρ S π0 st w (.ret v,{st with n:=st.n+m})):=by
 obtain⟨c,N,ρ',pc0,x,u,st',h1,h2,h3,h4,h5,h6,h7,h8,h9,h10,h11,h12,h13⟩:=h.is
 have hargs:SaysL ρ' S π0 x ac:=fun π hk=>by rw [h13 π,←ha π,hac π hk]
 have key:=leaf_post4 (P:=P) (cx:=cx) (cx0:=c) (ρ:=ρ) (ρ':=ρ') h7 hmix h2 h3 h1 hng h4 hL h6 (h5.trans hr.symm) h8 h9 (v':=v) (fun _ π=>(hv π).trans (h11 π).symm) hnw (objs:=[]) (fun x hx=>by simp at hx) h12 hfn hh hthere hargs (n:=n)
 refine key.mono fun e w' hp=>?_
 rw [hren] at hp
 exact EPost.more (st1:={h:=st.h,n:=st.n+(st'.n-ng),pc:=st.pc}) (v:=v) hp (m:=st.n+m) (by show st.n+(st'.n-ng)≤st.n+m;omega)
theorem Here.less{S:Nat→Prop}{π0:Pl}{st st1:St}{w:World}(hh:Here cx ρ S π0 st w)(l:Less ρ st st1)(hn:st1.n=st.n):Here cx ρ S π0 st1 w:=by
 refine⟨l.pc hh.pc,⟨fun π hk=>⟨fun i o hi=>?_,fun i j o o' hi hj e=>?_⟩,fun i o hi=>?_⟩,hh.glob,fun i hi=>hh.fresh i (by rw [←hn];exact hi)⟩
 ·obtain⟨o1,h1,h2,_⟩:=l.h i o hi
  obtain⟨ob,h3,h4⟩:=(hh.at_.rep π hk).obj i o1 h1
  exact⟨ob,h3,h2 π ob h4⟩
 ·obtain⟨o1,h1,_,z1⟩:=l.h i o hi
  obtain⟨o2,h2,_,z2⟩:=l.h j o' hj
  rw [←z1,←z2]
  exact (hh.at_.rep π hk).inj i j _ _ h1 h2 e
 ·obtain⟨o1,h1,_⟩:=l.h i o hi
  exact hh.at_.dom i o1 h1
theorem Goes.from{S:Nat→Prop}{π0 π1:Pl}{st st1:St}{w w':World}{h':H}{n':Nat}(l:Less ρ st st1)(hn:st1.n=st.n)(g:Goes ρ S π0 st1.h w st1.n π1 h' w' n'):Goes ρ S π0 st.h w st.n π1 h' w' n':=by
 rw [hn] at g
 refine⟨g.le,g.known,g.at_,fun i o hi=>?_,fun j hj hf=>?_,g.size,g.same⟩
 ·rcases g.sub i o hi with h | ⟨i0,o0,h1,h2,h3⟩
  ·exact .inl h
  ·obtain⟨o1,k1,_,k3⟩:=l.h i0 o0 h1
   exact .inr ⟨i0,o1,k1,h2,fun q=>h3 (by rw [←k3];exact q)⟩
 ·refine g.keep j hj fun i o hi e=>?_
  obtain⟨o1,k1,_,k3⟩:=l.h i o hi
  rw [←k3]
  exact hf i o1 k1 e
theorem SumAt.via {s:List V→St→R (V×St)} (h:∀ args st v st',(s args st).sel ρ=some (v,st')→PcOk ρ st.pc→∃ (s':List V→St→R (V×St)) (args':List V) (st1:St) (v2:V) (st2:St),SumAt P cx ρ f s'∧(∀ π,V.concs ρ π args'=V.concs ρ π args)∧Less ρ st st1∧st1.n=st.n∧(s' args' st1).sel ρ=some (v2,st2)∧(∀ π,v.conc ρ π=v2.conc ρ π)∧Less ρ st2 st'):SumAt P cx ρ f s:=by
 intro args st v st' hs S π0 w ac n hh ha
 obtain⟨s',args',st1,v2,st2,h1,h2,h3,h4,h5,h6,h7⟩:=h args st v st' hs hh.pc
 have:=h1 args' st1 v2 st2 h5 S π0 w ac n (hh.less h3 h4) (fun π hk=>by rw [h2 π];exact ha π hk)
 refine this.mono fun e w' hp=>?_
 obtain⟨k1,π1,g,k2⟩:=hp
 have hp':EPost ρ S π0 st w (.ret v2,st2) e w':=⟨k1,π1,Goes.from h3 h4 g,by rw [←h4];exact k2⟩
 exact hp'.less ⟨h7,.inr ⟨v2,v,rfl,rfl,h6⟩⟩
end
end Go.Proofs.Ytfmfhnpkganobaa
