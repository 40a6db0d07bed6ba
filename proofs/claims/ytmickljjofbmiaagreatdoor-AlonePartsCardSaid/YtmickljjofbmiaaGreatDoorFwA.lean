/- Symbolic execution, part 1: expressions, values, heaps; what each stands for. Symbolic execution, part 2 a: bits, one by one (plain functions; nothing is proved here). Symbolic execution, part 2: the evaluator (plain functions; nothing is proved here). Symbolic execution: code held against code (plain functions). Symbolic execution, part 3: the evaluator of code and calls (plain functions; nothing is proved here). No condition. -/
import Derived.LoopNIn
import Derived.RangeFuncIn
import Derived.OrdersIn
import Derived.DefersIn
namespace Go.Proofs.YtmickljjofbmiaaGreatDoor
open Go
inductive B where
 | zero
 | one
 | pos (i:Nat)
 | neg (i:Nat)
inductive X where
 | lit (n:Int)
 | var (i:Nat)
 | add (a b:X)
 | sub (a b:X)
 | mul (a b:X)
 | quo (a b:X)
 | rem (a b:X)
 | wrap (k:IntKind) (a:X)
 | bits (o:Nat) (k:IntKind) (a b:X)
 | shl (k:IntKind) (a b:X)
 | shr (k:IntKind) (a b:X)
 | eq (a b:X)
 | lt (a b:X)
 | le (a b:X)
 | not (a:X)
 | ite (c a b:X)
 | fn1 (f:Nat) (a:X)
 | fn2 (f:Nat) (a b:X)
 | slit (l:List Nat)
 | svar (i:Nat)
 | scat (a b:X)
 | sfn (f:Nat) (a:X)
 | slen (a:X)
 | seq (a b:X)
 | bv (l:List B) (t:B)
 | cube (m v:Nat)
 | btext (t:Nat) (lo n:X)
structure Env where
 b:Nat→Bool
 v:Nat→Int
 f1:Nat→Int→Int
 f2:Nat→Int→Int→Int
 s:Nat→List UInt8
 sf:Nat→Int→List UInt8
 ro:Nat→Obj
 win:Nat→Addr
def a7(b:Bool):Int:=if b then 1 else 0
def gq(o:Nat)(k:IntKind)(a b:Int):Int:=
 match o with
 | 0=>k.wrap ((BitVec.ofInt k.bits a &&& BitVec.ofInt k.bits b).toNat:Int)
 | 1=>k.wrap ((BitVec.ofInt k.bits a ||| BitVec.ofInt k.bits b).toNat:Int)
 | 2=>k.wrap ((BitVec.ofInt k.bits a ^^^ BitVec.ofInt k.bits b).toNat:Int)
 | _=>k.wrap ((BitVec.ofInt k.bits a &&& ~~~BitVec.ofInt k.bits b).toNat:Int)
def MD(k:IntKind)(a b:Int):Int:=k.wrap (a*2 ^ (min b.toNat k.bits))
def Bz(k:IntKind)(a b:Int):Int:=a.fdiv (2 ^ (min b.toNat k.bits))
def B.den(ρ:Env):B→Bool
 | .zero=>false
 | .one=>true
 | .pos i=>ρ.b i
 | .neg i=>!ρ.b i
def ar(ρ:Env):List B→B→Int
 | [],t=>-a7 (t.den ρ)
 | b::l,t=>a7 (b.den ρ)+2*ar ρ l t
def Ag(l:List UInt8):List UInt8:=match l.take 1000 with
 | []=>[48]
 | c::l=>c::l
def vr(ρ:Env):Nat→Int→List UInt8
 | 0,n=>[UInt8.ofNat n.toNat]
 | f+1,n=>Ag (ρ.sf (f+1) n)
def uF(ρ:Env)(t:Nat)(lo:Int)(n:Nat):List UInt8:=(List.range n).map fun i:Nat=>UInt8.ofNat (IntKind.u8.wrap (ρ.f1 t (lo+(i:Int)))).toNat
def bg(ρ:Env)(m v:Nat):Bool:=(List.range (m.log2+1)).all fun i=>!m.testBit i || (ρ.b i==v.testBit i)
mutual
def X.den(ρ:Env):X→Int
 | .lit n=>n
 | .var i=>ρ.v i
 | .add a b=>a.den ρ+b.den ρ
 | .sub a b=>a.den ρ-b.den ρ
 | .mul a b=>a.den ρ*b.den ρ
 | .quo a b=>(a.den ρ).tdiv (b.den ρ)
 | .rem a b=>(a.den ρ).tmod (b.den ρ)
 | .wrap k a=>k.wrap (a.den ρ)
 | .bits o k a b=>gq o k (a.den ρ) (b.den ρ)
 | .shl k a b=>MD k (a.den ρ) (b.den ρ)
 | .shr k a b=>Bz k (a.den ρ) (b.den ρ)
 | .eq a b=>a7 (a.den ρ==b.den ρ)
 | .lt a b=>a7 (decide (a.den ρ<b.den ρ))
 | .le a b=>a7 (decide (a.den ρ≤b.den ρ))
 | .not a=>a7 (a.den ρ==0)
 | .ite c a b=>if c.den ρ==0 then b.den ρ else a.den ρ
 | .fn1 f a=>ρ.f1 f (a.den ρ)
 | .fn2 f a b=>ρ.f2 f (a.den ρ) (b.den ρ)
 | .slit _=>0
 | .svar _=>0
 | .scat _ _=>0
 | .sfn _ _=>0
 | .slen a=>((a.bw ρ).length:Int)
 | .seq a b=>a7 (a.bw ρ==b.bw ρ)
 | .bv l t=>ar ρ l t
 | .cube m v=>a7 (bg ρ m v)
 | .btext _ _ _=>0
def X.bw(ρ:Env):X→List UInt8
 | .slit l=>l.map UInt8.ofNat
 | .svar i=>ρ.s i
 | .scat a b=>a.bw ρ++b.bw ρ
 | .sfn f a=>vr ρ f (a.den ρ)
 | .ite c a b=>if c.den ρ==0 then b.bw ρ else a.bw ρ
 | .lit _=>[]
 | .var _=>[]
 | .add _ _=>[]
 | .sub _ _=>[]
 | .mul _ _=>[]
 | .quo _ _=>[]
 | .rem _ _=>[]
 | .wrap _ _=>[]
 | .bits _ _ _ _=>[]
 | .shl _ _ _=>[]
 | .shr _ _ _=>[]
 | .eq _ _=>[]
 | .lt _ _=>[]
 | .le _ _=>[]
 | .not _=>[]
 | .fn1 _ _=>[]
 | .fn2 _ _ _=>[]
 | .slen _=>[]
 | .seq _ _=>[]
 | .bv _ _=>[]
 | .cube _ _=>[]
 | .btext t lo n=>uF ρ t (lo.den ρ) (n.den ρ).toNat
end
def X.tt(ρ:Env)(x:X):Bool:=x.den ρ != 0
def bq:IntKind→IntKind→Bool
 | .i8,.i8=>true
 | .i16,.i16=>true
 | .i32,.i32=>true
 | .i64,.i64=>true
 | .u8,.u8=>true
 | .u16,.u16=>true
 | .u32,.u32=>true
 | .u64,.u64=>true
 | _,_=>false
theorem aX:∀ {a b:IntKind},bq a b=true→a=b:=by
 intro a b;cases a<;>cases b<;>simp [bq]
def aQ:Int→Int→Bool
 | .ofNat a,.ofNat b=>Nat.beq a b
 | .negSucc a,.negSucc b=>Nat.beq a b
 | _,_=>false
theorem bu:∀ {a b:Int},aQ a b=true→a=b:=by
 intro a b;cases a<;>cases b<;>simp [aQ]<;>(intro h;rw [h])
theorem bI(a b:Int):aQ a b=(a==b):=by
 by_cases h:a=b
 ·subst h;cases a<;>simp [aQ]
 ·rw [beq_eq_false_iff_ne.2 h]
  cases hb:aQ a b
  ·rfl
  ·exact absurd (bu hb) h
def eN:List Nat→List Nat→Bool
 | [],[]=>true
 | a::l,b::m=>Nat.beq a b&&eN l m
 | _,_=>false
theorem nw:∀ {a b:List Nat},eN a b=true→a=b
 | [],[],_=>rfl
 | a::l,b::m,h=>by
  simp [eN] at h
  rw [h.1,nw h.2]
 | [],_::_,h=>by simp [eN] at h
 | _::_,[],h=>by simp [eN] at h
def B.beq:B→B→Bool
 | .zero,.zero=>true
 | .one,.one=>true
 | .pos i,.pos j=>Nat.beq i j
 | .neg i,.neg j=>Nat.beq i j
 | _,_=>false
theorem B.beq_eq{a b:B}(h:a.beq b=true):a=b:=by
 cases a<;>cases b<;>simp [B.beq] at h<;>simp [h]
def yU:List B→List B→Bool
 | [],[]=>true
 | a::l,b::m=>match a.beq b with
  | true=>yU l m
  | false=>false
 | _,_=>false
theorem F2:∀ {l m:List B},yU l m=true→l=m
 | [],[],_=>rfl
 | a::l,b::m,h=>by
  unfold yU at h
  split at h
  ·rename_i hb
   rw [B.beq_eq hb,F2 h]
  ·cases h
 | [],_::_,h=>by simp [yU] at h
 | _::_,[],h=>by simp [yU] at h
def X.aY:X→X→Bool
 | .bv l t,.bv m u=>t.beq u&&yU l m
 | .cube m v,.cube n w=>Nat.beq m n&&Nat.beq v w
 | .lit a,.lit b=>aQ a b
 | .var a,.var b=>Nat.beq a b
 | .add a b,.add c d=>a.aY c&&b.aY d
 | .sub a b,.sub c d=>a.aY c&&b.aY d
 | .mul a b,.mul c d=>a.aY c&&b.aY d
 | .quo a b,.quo c d=>a.aY c&&b.aY d
 | .rem a b,.rem c d=>a.aY c&&b.aY d
 | .wrap k a,.wrap j b=>bq k j&&a.aY b
 | .bits o k a b,.bits p j c d=>Nat.beq o p&&bq k j&&a.aY c&&b.aY d
 | .shl k a b,.shl j c d=>bq k j&&a.aY c&&b.aY d
 | .shr k a b,.shr j c d=>bq k j&&a.aY c&&b.aY d
 | .eq a b,.eq c d=>a.aY c&&b.aY d
 | .lt a b,.lt c d=>a.aY c&&b.aY d
 | .le a b,.le c d=>a.aY c&&b.aY d
 | .not a,.not b=>a.aY b
 | .ite c a b,.ite d e f=>c.aY d&&a.aY e&&b.aY f
 | .fn1 f a,.fn1 g b=>Nat.beq f g&&a.aY b
 | .fn2 f a b,.fn2 g c d=>Nat.beq f g&&a.aY c&&b.aY d
 | .slit a,.slit b=>eN a b
 | .svar a,.svar b=>Nat.beq a b
 | .scat a b,.scat c d=>a.aY c&&b.aY d
 | .sfn f a,.sfn g b=>Nat.beq f g&&a.aY b
 | .slen a,.slen b=>a.aY b
 | .seq a b,.seq c d=>a.aY c&&b.aY d
 | .btext t a b,.btext u c d=>Nat.beq t u&&a.aY c&&b.aY d
 | _,_=>false
def X.aag(b:X)(k:Int→Bool):Bool:=match b with
 | .lit m=>k m
 | _=>false
def X.aar(b:X)(k:Nat→Bool):Bool:=match b with
 | .var m=>k m
 | _=>false
def X.aac(b:X)(k:X→X→Bool):Bool:=match b with
 | .add a1 b1=>k a1 b1
 | _=>false
def X.aaq(b:X)(k:X→X→Bool):Bool:=match b with
 | .sub a1 b1=>k a1 b1
 | _=>false
def X.aai(b:X)(k:X→X→Bool):Bool:=match b with
 | .mul a1 b1=>k a1 b1
 | _=>false
def X.aak(b:X)(k:X→X→Bool):Bool:=match b with
 | .quo a1 b1=>k a1 b1
 | _=>false
def X.aal(b:X)(k:X→X→Bool):Bool:=match b with
 | .rem a1 b1=>k a1 b1
 | _=>false
def X.XE(b:X)(k:IntKind→X→Bool):Bool:=match b with
 | .wrap k1 a1=>k k1 a1
 | _=>false
def X.Xx(b:X)(k:Nat→IntKind→X→X→Bool):Bool:=match b with
 | .bits o1 k1 a1 b1=>k o1 k1 a1 b1
 | _=>false
def X.aao(b:X)(k:IntKind→X→X→Bool):Bool:=match b with
 | .shl k1 a1 b1=>k k1 a1 b1
 | _=>false
def X.aap(b:X)(k:IntKind→X→X→Bool):Bool:=match b with
 | .shr k1 a1 b1=>k k1 a1 b1
 | _=>false
def X.aen(b:X)(k:X→X→Bool):Bool:=match b with
 | .eq a1 b1=>k a1 b1
 | _=>false
def X.aep(b:X)(k:X→X→Bool):Bool:=match b with
 | .lt a1 b1=>k a1 b1
 | _=>false
def X.aeo(b:X)(k:X→X→Bool):Bool:=match b with
 | .le a1 b1=>k a1 b1
 | _=>false
def X.aaj(b:X)(k:X→Bool):Bool:=match b with
 | .not a1=>k a1
 | _=>false
def X.aaf(b:X)(k:X→X→X→Bool):Bool:=match b with
 | .ite a1 b1 c1=>k a1 b1 c1
 | _=>false
def X.aad(b:X)(k:Nat→X→Bool):Bool:=match b with
 | .fn1 f1 a1=>k f1 a1
 | _=>false
def X.aae(b:X)(k:Nat→X→X→Bool):Bool:=match b with
 | .fn2 f1 a1 b1=>k f1 a1 b1
 | _=>false
def X.XB(b:X)(k:List Nat→Bool):Bool:=match b with
 | .slit m=>k m
 | _=>false
def X.XD(b:X)(k:Nat→Bool):Bool:=match b with
 | .svar m=>k m
 | _=>false
def X.Xz(b:X)(k:X→X→Bool):Bool:=match b with
 | .scat a1 b1=>k a1 b1
 | _=>false
def X.aan(b:X)(k:Nat→X→Bool):Bool:=match b with
 | .sfn f1 a1=>k f1 a1
 | _=>false
def X.XA(b:X)(k:X→Bool):Bool:=match b with
 | .slen a1=>k a1
 | _=>false
def X.aam(b:X)(k:X→X→Bool):Bool:=match b with
 | .seq a1 b1=>k a1 b1
 | _=>false
def X.aem(b:X)(k:List B→B→Bool):Bool:=match b with
 | .bv m u=>k m u
 | _=>false
def X.Xy(b:X)(k:Nat→Nat→Bool):Bool:=match b with
 | .cube m u=>k m u
 | _=>false
def X.Q4(b:X)(k:Nat→X→X→Bool):Bool:=match b with
 | .btext t1 a1 b1=>k t1 a1 b1
 | _=>false
noncomputable def X.beq(a:X):X→Bool:=X.rec (motive:=fun _=>X→Bool)
 (fun n b=>b.aag fun m=>aQ n m)
 (fun n b=>b.aar fun m=>Nat.beq n m)
 (fun _ _ ia ib b=>b.aac fun a1 b1=>(match ia a1 with | true=>ib b1 | false=>false))
 (fun _ _ ia ib b=>b.aaq fun a1 b1=>(match ia a1 with | true=>ib b1 | false=>false))
 (fun _ _ ia ib b=>b.aai fun a1 b1=>(match ia a1 with | true=>ib b1 | false=>false))
 (fun _ _ ia ib b=>b.aak fun a1 b1=>(match ia a1 with | true=>ib b1 | false=>false))
 (fun _ _ ia ib b=>b.aal fun a1 b1=>(match ia a1 with | true=>ib b1 | false=>false))
 (fun k0 _ ia b=>b.XE fun k1 a1=>(match bq k0 k1 with | true=>ia a1 | false=>false))
 (fun o0 k0 _ _ ia ib b=>b.Xx fun o1 k1 a1 b1=>(match Nat.beq o0 o1 with | true=>(match bq k0 k1 with | true=>(match ia a1 with | true=>ib b1 | false=>false) | false=>false) | false=>false))
 (fun k0 _ _ ia ib b=>b.aao fun k1 a1 b1=>(match bq k0 k1 with | true=>(match ia a1 with | true=>ib b1 | false=>false) | false=>false))
 (fun k0 _ _ ia ib b=>b.aap fun k1 a1 b1=>(match bq k0 k1 with | true=>(match ia a1 with | true=>ib b1 | false=>false) | false=>false))
 (fun _ _ ia ib b=>b.aen fun a1 b1=>(match ia a1 with | true=>ib b1 | false=>false))
 (fun _ _ ia ib b=>b.aep fun a1 b1=>(match ia a1 with | true=>ib b1 | false=>false))
 (fun _ _ ia ib b=>b.aeo fun a1 b1=>(match ia a1 with | true=>ib b1 | false=>false))
 (fun _ ia b=>b.aaj fun a1=>ia a1)
 (fun _ _ _ ia ib ic b=>b.aaf fun a1 b1 c1=>(match ia a1 with | true=>(match ib b1 with | true=>ic c1 | false=>false) | false=>false))
 (fun f0 _ ia b=>b.aad fun f1 a1=>(match Nat.beq f0 f1 with | true=>ia a1 | false=>false))
 (fun f0 _ _ ia ib b=>b.aae fun f1 a1 b1=>(match Nat.beq f0 f1 with | true=>(match ia a1 with | true=>ib b1 | false=>false) | false=>false))
 (fun n b=>b.XB fun m=>eN n m)
 (fun n b=>b.XD fun m=>Nat.beq n m)
 (fun _ _ ia ib b=>b.Xz fun a1 b1=>(match ia a1 with | true=>ib b1 | false=>false))
 (fun f0 _ ia b=>b.aan fun f1 a1=>(match Nat.beq f0 f1 with | true=>ia a1 | false=>false))
 (fun _ ia b=>b.XA fun a1=>ia a1)
 (fun _ _ ia ib b=>b.aam fun a1 b1=>(match ia a1 with | true=>ib b1 | false=>false))
 (fun l t b=>b.aem fun m u=>match t.beq u with | true=>yU l m | false=>false)
 (fun l t b=>b.Xy fun m u=>match Nat.beq l m with | true=>Nat.beq t u | false=>false)
 (fun f0 _ _ ia ib b=>b.Q4 fun f1 a1 b1=>(match Nat.beq f0 f1 with | true=>(match ia a1 with | true=>ib b1 | false=>false) | false=>false))
 a
theorem gW(x y:Bool):(match x with | true=>y | false=>false)=(x&&y):=by cases x<;>rfl
theorem gX(x y z:Bool):(match x with | true=>(match y with | true=>z | false=>false) | false=>false)=(x&&y&&z):=by cases x<;>cases y<;>rfl
theorem gY(x y z u:Bool):(match x with | true=>(match y with | true=>(match z with | true=>u | false=>false) | false=>false) | false=>false)=(x&&y&&z&&u):=by cases x<;>cases y<;>cases z<;>rfl
@[csimp] theorem X.Q7:@X.beq=@X.aY:=by
 funext a
 induction a with
 | lit n=>
  funext b
  cases b<;>first
   | rfl
   | (simp only [X.aY];first | exact gW _ _ | exact gX _ _ _ | exact gY _ _ _ _ | rfl)
 | var n=>
  funext b
  cases b<;>first
   | rfl
   | (simp only [X.aY];first | exact gW _ _ | exact gX _ _ _ | exact gY _ _ _ _ | rfl)
 | add _ _ ia ib=>
  funext b
  cases b<;>first
   | rfl
   | (simp only [X.aY,←ia,←ib];first | exact gW _ _ | exact gX _ _ _ | exact gY _ _ _ _ | rfl)
 | sub _ _ ia ib=>
  funext b
  cases b<;>first
   | rfl
   | (simp only [X.aY,←ia,←ib];first | exact gW _ _ | exact gX _ _ _ | exact gY _ _ _ _ | rfl)
 | mul _ _ ia ib=>
  funext b
  cases b<;>first
   | rfl
   | (simp only [X.aY,←ia,←ib];first | exact gW _ _ | exact gX _ _ _ | exact gY _ _ _ _ | rfl)
 | quo _ _ ia ib=>
  funext b
  cases b<;>first
   | rfl
   | (simp only [X.aY,←ia,←ib];first | exact gW _ _ | exact gX _ _ _ | exact gY _ _ _ _ | rfl)
 | rem _ _ ia ib=>
  funext b
  cases b<;>first
   | rfl
   | (simp only [X.aY,←ia,←ib];first | exact gW _ _ | exact gX _ _ _ | exact gY _ _ _ _ | rfl)
 | wrap _ _ ia=>
  funext b
  cases b<;>first
   | rfl
   | (simp only [X.aY,←ia];first | exact gW _ _ | exact gX _ _ _ | exact gY _ _ _ _ | rfl)
 | bits _ _ _ _ ia ib=>
  funext b
  cases b<;>first
   | rfl
   | (simp only [X.aY,←ia,←ib];first | exact gW _ _ | exact gX _ _ _ | exact gY _ _ _ _ | rfl)
 | shl _ _ _ ia ib=>
  funext b
  cases b<;>first
   | rfl
   | (simp only [X.aY,←ia,←ib];first | exact gW _ _ | exact gX _ _ _ | exact gY _ _ _ _ | rfl)
 | shr _ _ _ ia ib=>
  funext b
  cases b<;>first
   | rfl
   | (simp only [X.aY,←ia,←ib];first | exact gW _ _ | exact gX _ _ _ | exact gY _ _ _ _ | rfl)
 | eq _ _ ia ib=>
  funext b
  cases b<;>first
   | rfl
   | (simp only [X.aY,←ia,←ib];first | exact gW _ _ | exact gX _ _ _ | exact gY _ _ _ _ | rfl)
 | lt _ _ ia ib=>
  funext b
  cases b<;>first
   | rfl
   | (simp only [X.aY,←ia,←ib];first | exact gW _ _ | exact gX _ _ _ | exact gY _ _ _ _ | rfl)
 | le _ _ ia ib=>
  funext b
  cases b<;>first
   | rfl
   | (simp only [X.aY,←ia,←ib];first | exact gW _ _ | exact gX _ _ _ | exact gY _ _ _ _ | rfl)
 | not _ ia=>
  funext b
  cases b<;>first
   | rfl
   | (simp only [X.aY,←ia];first | exact gW _ _ | exact gX _ _ _ | exact gY _ _ _ _ | rfl)
 | ite _ _ _ ia ib ic=>
  funext b
  cases b<;>first
   | rfl
   | (simp only [X.aY,←ia,←ib,←ic];first | exact gW _ _ | exact gX _ _ _ | exact gY _ _ _ _ | rfl)
 | fn1 _ _ ia=>
  funext b
  cases b<;>first
   | rfl
   | (simp only [X.aY,←ia];first | exact gW _ _ | exact gX _ _ _ | exact gY _ _ _ _ | rfl)
 | fn2 _ _ _ ia ib=>
  funext b
  cases b<;>first
   | rfl
   | (simp only [X.aY,←ia,←ib];first | exact gW _ _ | exact gX _ _ _ | exact gY _ _ _ _ | rfl)
 | slit n=>
  funext b
  cases b<;>first
   | rfl
   | (simp only [X.aY];first | exact gW _ _ | exact gX _ _ _ | exact gY _ _ _ _ | rfl)
 | svar n=>
  funext b
  cases b<;>first
   | rfl
   | (simp only [X.aY];first | exact gW _ _ | exact gX _ _ _ | exact gY _ _ _ _ | rfl)
 | scat _ _ ia ib=>
  funext b
  cases b<;>first
   | rfl
   | (simp only [X.aY,←ia,←ib];first | exact gW _ _ | exact gX _ _ _ | exact gY _ _ _ _ | rfl)
 | sfn _ _ ia=>
  funext b
  cases b<;>first
   | rfl
   | (simp only [X.aY,←ia];first | exact gW _ _ | exact gX _ _ _ | exact gY _ _ _ _ | rfl)
 | slen _ ia=>
  funext b
  cases b<;>first
   | rfl
   | (simp only [X.aY,←ia];first | exact gW _ _ | exact gX _ _ _ | exact gY _ _ _ _ | rfl)
 | seq _ _ ia ib=>
  funext b
  cases b<;>first
   | rfl
   | (simp only [X.aY,←ia,←ib];first | exact gW _ _ | exact gX _ _ _ | exact gY _ _ _ _ | rfl)
 | bv l t=>
  funext b
  cases b<;>first
   | rfl
   | (simp only [X.aY];first | exact gW _ _ | exact gX _ _ _ | exact gY _ _ _ _ | rfl)
 | cube l t=>
  funext b
  cases b<;>first
   | rfl
   | (simp only [X.aY];first | exact gW _ _ | exact gX _ _ _ | exact gY _ _ _ _ | rfl)
 | btext _ _ _ ia ib=>
  funext b
  cases b<;>first
   | rfl
   | (simp only [X.aY,←ia,←ib];first | exact gW _ _ | exact gX _ _ _ | exact gY _ _ _ _ | rfl)
theorem X.XI:∀ {a b:X},a.aY b=true→a=b:=by
 intro a
 induction a with
 | bv l t=>intro b h;cases b<;>simp [X.aY] at h;rw [B.beq_eq h.1,F2 h.2]
 | cube m v=>intro b h;cases b<;>simp [X.aY] at h;rw [h.1,h.2]
 | lit n=>intro b h;cases b<;>simp [X.aY] at h;rw [bu h]
 | var n=>intro b h;cases b<;>simp [X.aY] at h;rw [h]
 | svar n=>intro b h;cases b<;>simp [X.aY] at h;rw [h]
 | slit n=>intro b h;cases b<;>simp [X.aY] at h;rw [nw h]
 | add _ _ i j=>intro b h;cases b<;>simp [X.aY] at h;rw [i h.1,j h.2]
 | sub _ _ i j=>intro b h;cases b<;>simp [X.aY] at h;rw [i h.1,j h.2]
 | mul _ _ i j=>intro b h;cases b<;>simp [X.aY] at h;rw [i h.1,j h.2]
 | quo _ _ i j=>intro b h;cases b<;>simp [X.aY] at h;rw [i h.1,j h.2]
 | rem _ _ i j=>intro b h;cases b<;>simp [X.aY] at h;rw [i h.1,j h.2]
 | eq _ _ i j=>intro b h;cases b<;>simp [X.aY] at h;rw [i h.1,j h.2]
 | lt _ _ i j=>intro b h;cases b<;>simp [X.aY] at h;rw [i h.1,j h.2]
 | le _ _ i j=>intro b h;cases b<;>simp [X.aY] at h;rw [i h.1,j h.2]
 | seq _ _ i j=>intro b h;cases b<;>simp [X.aY] at h;rw [i h.1,j h.2]
 | scat _ _ i j=>intro b h;cases b<;>simp [X.aY] at h;rw [i h.1,j h.2]
 | wrap _ _ i=>intro b h;cases b<;>simp [X.aY] at h;rw [aX h.1,i h.2]
 | not _ i=>intro b h;cases b<;>simp [X.aY] at h;rw [i h]
 | slen _ i=>intro b h;cases b<;>simp [X.aY] at h;rw [i h]
 | fn1 _ _ i=>intro b h;cases b<;>simp [X.aY] at h;rw [h.1,i h.2]
 | sfn _ _ i=>intro b h;cases b<;>simp [X.aY] at h;rw [h.1,i h.2]
 | fn2 _ _ _ i j=>intro b h;cases b<;>simp [X.aY] at h;rw [h.1.1,i h.1.2,j h.2]
 | btext _ _ _ i j=>intro b h;cases b<;>simp [X.aY] at h;rw [h.1.1,i h.1.2,j h.2]
 | ite _ _ _ i j k=>intro b h;cases b<;>simp [X.aY] at h;rw [i h.1.1,j h.1.2,k h.2]
 | bits _ _ _ _ i j=>intro b h;cases b<;>simp [X.aY] at h;rw [h.1.1.1,aX h.1.1.2,i h.1.2,j h.2]
 | shl _ _ _ i j=>intro b h;cases b<;>simp [X.aY] at h;rw [aX h.1.1,i h.1.2,j h.2]
 | shr _ _ _ i j=>intro b h;cases b<;>simp [X.aY] at h;rw [aX h.1.1,i h.1.2,j h.2]
theorem X.beq_eq{a b:X}(h:a.beq b=true):a=b:=X.XI (by rw [←X.Q7];exact h)
inductive CK where
 | int (k:IntKind)
 | bool
def CK.beq:CK→CK→Bool
 | .int k,.int j=>bq k j
 | .bool,.bool=>true
 | _,_=>false
theorem CK.beq_eq{a b:CK}(h:a.beq b=true):a=b:=by
 cases a<;>cases b<;>simp [CK.beq] at h
 ·rw [aX h]
 ·rfl
def CK.eV:List CK→List CK→Bool
 | [],[]=>true
 | a::l,b::m=>match a.beq b with
  | true=>CK.eV l m
  | false=>false
 | _,_=>false
theorem CK.bD:∀ {l m:List CK},CK.eV l m=true→l=m
 | [],[],_=>rfl
 | a::l,b::m,h=>by
  unfold CK.eV at h
  split at h
  ·rename_i hb
   rw [CK.beq_eq hb,CK.bD h]
  ·cases h
 | [],_::_,h=>by simp [CK.eV] at h
 | _::_,[],h=>by simp [CK.eV] at h
inductive A where
 | base (t:Nat)
 | fill (x:X)
 | put (a:A) (i:X) (c:Nat) (x:X)
def CK.sym(ρ:Env)(k:CK)(t c:Nat)(j:Int):Int:=match k with
 | .int k=>k.wrap (ρ.f1 (t+c) j)
 | .bool=>a7 (ρ.f1 (t+c) j==1)
def A.den(ρ:Env)(k:CK)(c:Nat)(j:Int):A→Int
 | .base t=>k.sym ρ t c j
 | .fill x=>x.den ρ
 | .put a i c' x=>if c=c'∧j=i.den ρ then x.den ρ else a.den ρ k c j
def CK.val(k:CK)(n:Int):Value:=match k with
 | .int k=>.int k n
 | .bool=>.bool (n != 0)
inductive XC where
 | known (x:X)
 | room (lo:X)
inductive Cp where
 | known (n:Nat)
 | room (b off lo:Nat)
inductive V where
 | int (k:IntKind) (x:X)
 | bool (x:X)
 | str (x:X)
 | ptr (b off:Nat)
 | nilptr
 | slice (b off len:Nat) (cap:Cp)
 | nilslice
 | map (b:Nat)
 | nilmap
 | func (f:Fn) (first cap:List V)
 | yield (b:Nat)
 | nilfunc
 | iface (t:TypeId) (v:V)
 | niliface
 | agg (l:List V)
 | tuple (l:List V)
 | wptr (b off:Nat)
 | wslice (b off:Nat) (len cap:X)
 | ite (c:X) (a b:V)
 | sptr (b off n:Nat) (i:X)
 | rest (b off l size:Nat)
 | xslice (w:Bool) (b:Nat) (off:X) (es:Nat) (len:X) (cap:XC)
 | xptr (w:Bool) (b:Nat) (i:X) (es c:Nat)
 | any (k:Nat)
abbrev V.undef:V:=.tuple []
instance:Inhabited V:=⟨.undef⟩
structure Pc where
 p:Nat
 q:Nat
 v:Value:=.nilFunc
abbrev Pl:=Nat→Pc
def Cp.ae(π:Pl):Cp→Nat
 | .known n=>n
 | .room b off lo=>max ((π b).2-off) lo
def cR(ρ:Env)(π:Pl)(w:Bool)(b n:Nat):Addr:=if w then (ρ.win b).add n else ⟨(π b).1,n,none⟩
def XC.ae(ρ:Env)(π:Pl)(b o:Nat):XC→Nat
 | .known x=>(x.den ρ).toNat
 | .room lo=>max (π b).2 (lo.den ρ).toNat-o
mutual
def V.ae(ρ:Env)(π:Pl):V→Value
 | .int k x=>.int k (x.den ρ)
 | .bool x=>.bool (x.tt ρ)
 | .str x=>.string ⟨(x.bw ρ).toArray⟩
 | .ptr b off=>.pointer (some ⟨(π b).1,off,none⟩)
 | .nilptr=>.pointer none
 | .slice b off len cap=>.slice (some ⟨(π b).1,off,none⟩) len (cap.ae π)
 | .nilslice=>.slice none 0 0
 | .map b=>.map (some (π b).1)
 | .nilmap=>.map none
 | .func f first cap=>.func f (V.af ρ π first).toArray (V.af ρ π cap).toArray
 | .yield b=>.func (.yield (π b).1) #[] #[]
 | .nilfunc=>.nilFunc
 | .iface t v=>.iface t (v.ae ρ π)
 | .niliface=>.nilIface
 | .agg l=>.agg (V.af ρ π l).toArray
 | .tuple l=>.tuple (V.af ρ π l).toArray
 | .wptr b off=>.pointer (some ((ρ.win b).add off))
 | .wslice b off len cap=>.slice (some ((ρ.win b).add off)) (len.den ρ).toNat (cap.den ρ).toNat
 | .ite c a b=>if c.tt ρ then a.ae ρ π else b.ae ρ π
 | .sptr b off _ i=>.pointer (some ⟨(π b).1,off+(i.den ρ).toNat,none⟩)
 | .rest b off l size=>.slice (some ⟨(π b).1,if (π b).2≤l then off else off+l*size,none⟩) 0 ((π b).2-l:Nat)
 | .xslice w b off es len cap=>.slice (some (cR ρ π w b ((off.den ρ).toNat*es))) (len.den ρ).toNat (cap.ae ρ π b (off.den ρ).toNat)
 | .xptr w b i es c=>.pointer (some (cR ρ π w b ((i.den ρ).toNat*es+c)))
 | .any k=>(π k).3
def V.af(ρ:Env)(π:Pl):List V→List Value
 | []=>[]
 | v::l=>v.ae ρ π::V.af ρ π l
end
theorem bC(ρ:Env)(π:Pl)(l:List V):V.af ρ π l=l.map (V.ae ρ π):=by
 induction l with
 | nil=>rfl
 | cons v l ih=>rw [V.af,ih];rfl
section
variable {α:Type}
noncomputable def nth(l:List α):Nat→Option α:=
 List.rec (motive:=fun _=>Nat→Option α) (fun _=>none) (fun a _ ih n=>Nat.rec (motive:=fun _=>Option α) (some a) (fun m _=>ih m) n) l
theorem bO:∀ (l:List α) (n:Nat),nth l n=l[n]?
 | [],_=>by simp [nth]
 | _::_,0=>rfl
 | a::l,n+1=>(show nth (a::l) (n+1)=nth l n from rfl).trans ((bO l n).trans (by simp))
def By:List α→Nat→α→List α
 | [],_,_=>[]
 | a::l,n,b=>match n with
  | 0=>b::l
  | m+1=>a::By l m b
theorem lI:∀ (l:List α) (n:Nat) (b:α),By l n b=l.set n b
 | [],_,_=>rfl
 | _::_,0,_=>rfl
 | _::l,n+1,b=>by simp [By,lI l n b]
def iO:List α→Nat→List α
 | [],_=>[]
 | a::l,n=>match n with
  | 0=>a::l
  | m+1=>iO l m
theorem cN:∀ (l:List α) (n:Nat),iO l n=l.drop n
 | [],_=>by simp [iO]
 | _::_,0=>rfl
 | _::l,n+1=>by simp [iO,cN l n]
def takeN:Nat→List α→Option (List α)
 | 0,_=>some []
 | _+1,[]=>none
 | n+1,a::l=>match takeN n l with
  | some r=>some (a::r)
  | none=>none
theorem cz:∀ (n:Nat) (l r:List α),takeN n l=some r→l.take n=r∧r.length=n∧n≤l.length
 | 0,l,r,h=>by simp [takeN] at h;subst h;simp
 | n+1,[],r,h=>by simp [takeN] at h
 | n+1,a::l,r,h=>by
  simp only [takeN] at h
  cases hr:takeN n l with
  | none=>rw [hr] at h;simp at h
  | some q=>
   rw [hr] at h
   simp only [Option.some.injEq] at h
   subst h
   have:=cz n l q hr
   simp [this.1,this.2.1,this.2.2]
def AA:List α→Nat→List α→Option (List α)
 | l,n,vs=>match n,l with
  | 0,l=>match takeN vs.length l with
   | some _=>some (vs++iO l vs.length)
   | none=>none
  | _+1,[]=>none
  | m+1,a::l=>match AA l m vs with
   | some r=>some (a::r)
   | none=>none
theorem tO:∀ (l:List α) (n:Nat) (vs r:List α),AA l n vs=some r→r=l.take n++vs++l.drop (n+vs.length)∧n+vs.length≤l.length
 | l,0,vs,r,h=>by
  unfold AA at h
  simp only at h
  cases hr:takeN vs.length l with
  | none=>rw [hr] at h;simp at h
  | some q=>
   rw [hr] at h
   simp only [Option.some.injEq,cN] at h
   have:=cz _ _ _ hr
   exact⟨by simp [←h],by omega⟩
 | [],m+1,vs,r,h=>by simp [AA] at h
 | a::l,m+1,vs,r,h=>by
  unfold AA at h
  simp only at h
  cases hr:AA l m vs with
  | none=>rw [hr] at h;simp at h
  | some q=>
   rw [hr] at h
   simp only [Option.some.injEq] at h
   have:=tO l m vs q hr
   subst h
   refine⟨?_,by simp;omega⟩
   rw [this.1]
   simp [show m+1+vs.length=(m+vs.length)+1 by omega]
end
inductive T (α:Type) where
 | nil
 | node (l:T α) (v:Option α) (r:T α)
def nW:Nat→Nat→List Bool
 | 0,_=>[]
 | f+1,n=>match n with
  | 0=>[]
  | m+1=>Nat.beq ((m+1) % 2) 1::nW f ((m+1) / 2)
def bitsOf(n:Nat):List Bool:=nW n n
section
variable {α:Type}
def T.eQ:T α→List Bool→Option α
 | .nil,_=>none
 | .node _ v _,[]=>v
 | .node l _ r,b::bs=>match b with
  | true=>r.eQ bs
  | false=>l.eQ bs
def T.gK:List Bool→T α→Option α→T α
 | [],.nil,v=>.node .nil v .nil
 | [],.node l _ r,v=>.node l v r
 | b::bs,.nil,v=>match b with
  | true=>.node .nil none (T.gK bs .nil v)
  | false=>.node (T.gK bs .nil v) none .nil
 | b::bs,.node l u r,v=>match b with
  | true=>.node l u (T.gK bs r v)
  | false=>.node (T.gK bs l v) u r
def T.get(t:T α)(n:Nat):Option α:=t.eQ (bitsOf n)
def T.set(t:T α)(n:Nat)(v:α):T α:=T.gK (bitsOf n) t (some v)
def T.drop(t:T α)(n:Nat):T α:=T.gK (bitsOf n) t none
theorem OT:∀ (f n m:Nat),n≤f→m≤f→∀ g,n≤g→m≤g→nW f n=nW g m→n=m:=by
 intro f
 induction f using Nat.strongRecOn with
 | _ f ih=>
  intro n m hn hm g hn' hm' h
  cases f with
  | zero=>omega
  | succ f=>
   cases g with
   | zero=>omega
   | succ g=>
    cases n with
    | zero=>cases m with
     | zero=>rfl
     | succ m=>simp [nW] at h
    | succ n=>cases m with
     | zero=>simp [nW] at h
     | succ m=>
      simp only [nW,List.cons.injEq] at h
      obtain⟨h1,h2⟩:=h
      have h3:=ih f (by omega) ((n+1) / 2) ((m+1) / 2) (by omega) (by omega) g (by omega) (by omega) h2
      have h4:(n+1) % 2=(m+1) % 2:=by
       have a1:=Nat.mod_two_eq_zero_or_one (n+1)
       have a2:=Nat.mod_two_eq_zero_or_one (m+1)
       rcases a1 with a1 | a1<;>rcases a2 with a2 | a2<;>simp [a1,a2] at h1 ⊢
      omega
theorem yR:∀ (n f g:Nat),n≤f→n≤g→nW f n=nW g n:=by
 intro n
 induction n using Nat.strongRecOn with
 | _ n ih=>
  intro f g hf hg
  cases n with
  | zero=>cases f<;>cases g<;>rfl
  | succ n=>
   cases f with
   | zero=>omega
   | succ f=>cases g with
    | zero=>omega
    | succ g=>
     simp only [nW]
     rw [ih ((n+1) / 2) (by omega) f g (by omega) (by omega)]
theorem yT{n m:Nat}(h:bitsOf n=bitsOf m):n=m:=by
 unfold bitsOf at h
 rw [yR n n (max n m) (Nat.le_refl _) (by omega),yR m m (max n m) (Nat.le_refl _) (by omega)] at h
 exact OT (max n m) n m (by omega) (by omega) (max n m) (by omega) (by omega) h
theorem T.gx:∀ (bs:List Bool) (t:T α) (v:Option α),(T.gK bs t v).eQ bs=v
 | [],.nil,v=>rfl
 | [],.node l _ r,v=>rfl
 | b::bs,.nil,v=>by cases b<;>simp [T.gK,T.eQ,T.gx bs]
 | b::bs,.node l u r,v=>by cases b<;>simp [T.gK,T.eQ,T.gx bs]
theorem T.er(bs:List Bool):(T.nil:T α).eQ bs=none:=by cases bs<;>rfl
theorem T.dz:∀ (bs cs:List Bool) (t:T α) (v:Option α),bs≠cs→(T.gK bs t v).eQ cs=t.eQ cs
 | [],[],_,_,h=>absurd rfl h
 | [],c::cs,.nil,v,_=>by cases c<;>simp [T.gK,T.eQ]
 | [],c::cs,.node l _ r,v,_=>by cases c<;>simp [T.gK,T.eQ]
 | b::bs,[],.nil,v,_=>by cases b<;>simp [T.gK,T.eQ]
 | b::bs,[],.node l u r,v,_=>by cases b<;>simp [T.gK,T.eQ]
 | b::bs,c::cs,.nil,v,h=>by
  cases b<;>cases c<;>simp only [T.gK,T.eQ]
  ·rw [T.dz bs cs _ v (fun e=>h (by rw [e]))];exact T.er _
  ·rw [T.dz bs cs _ v (fun e=>h (by rw [e]))];exact T.er _
 | b::bs,c::cs,.node l u r,v,h=>by
  cases b<;>cases c<;>simp only [T.gK,T.eQ]
  ·rw [T.dz bs cs _ v (fun e=>h (by rw [e]))]
  ·rw [T.dz bs cs _ v (fun e=>h (by rw [e]))]
theorem T.aN(t:T α)(n:Nat)(v:α):(t.set n v).get n=some v:=T.gx _ _ _
theorem T.aC(t:T α){n m:Nat}(v:α)(h:n≠m):(t.set n v).get m=t.get m:=
 T.dz _ _ _ _ fun e=>h (yT e)
theorem T.lW(t:T α)(n:Nat):(t.drop n).get n=none:=T.gx _ _ _
theorem T.ky(t:T α){n m:Nat}(h:n≠m):(t.drop n).get m=t.get m:=
 T.dz _ _ _ _ fun e=>h (yT e)
theorem T.get_nil(n:Nat):(T.nil:T α).get n=none:=T.er _
end
inductive bL where
 | fn (f:Fn) (cap args:List V)
 | mark (b:Nat)
def bL.ae(ρ:Env)(π:Pl):bL→Deferred
 | .fn f cap args=>{target:=.fn f (V.af ρ π cap).toArray,args:=(V.af ρ π args).toArray}
 | .mark b=>{target:=.collected (π b).1,args:=#[]}
inductive au where
 | cells (c:List V) (elem:TypeId) (wide:Option Nat)
 | map (es:List (V×V))
 | loop (state:LoopState) (pending:Option Code) (tmps:List V) (params:Array Tmp) (assign body:Code) (defers:Nat)
 | deferred (calls:Option (List bL))
 | ro (tag:Nat) (c:List V)
 | win (tag:Nat) (c:List V) (len:X) (es:Nat)
 | iter (m:Option Nat)
 | arr (a:A) (ks:List CK) (len:X) (elem:TypeId) (wide:Bool)
 | warr (tag t:Nat) (ks:List CK) (len:X)
def entriesOf(ρ:Env)(π:Pl) (es:List (V×V)):List (Value×Value):=es.map fun e=>(e.1.ae ρ π,e.2.ae ρ π)
def cu:Value→Value→Prop
 | .int k a,.int j b=>k=j∧a≠b
 | .string a,.string b=>a≠b
 | .bool a,.bool b=>a≠b
 | _,_=>False
def Bf:Option Nat→Nat→List Value→Nat→Prop
 | none,_,spare,_=>spare=[]
 | some size,n,spare,cap=>n+spare.length=cap*size
def jA(ρ:Env)(a:A)(ks:List CK)(n:Nat)(get:Nat→Option Value):Prop:=
 ∀ (j c:Nat) (k:CK),j<n→ks[c]?=some k→get (j*ks.length+c)=some (k.val (a.den ρ k c j))
def au.is(ρ:Env)(π:Pl)(i:Nat):au→Obj→Prop
 | .cells c elem wide,o=>∃ spare:List Value,o=.cells (V.af ρ π c++spare).toArray elem (0,0)∧Bf wide c.length spare (π i).2
 | .map es,o=>∃ (ms:List MapEntry) (clock:Nat),o=.map ms.toArray clock∧(ms.map fun e=>(e.key,e.val)).Perm (entriesOf ρ π es) ∧
   ((entriesOf ρ π es).map (·.1)).Pairwise cu
 | .loop state pending tmps params assign body defers,o=>
  ∃ fn:FuncId,o=.loop {state,pending,fn,tmps:=(V.af ρ π tmps).toArray,params,assign,body,defers:=(π defers).1}
 | .deferred calls,o=>o=.deferred (calls.map fun l=>l.map (bL.ae ρ π))
 | .ro tag c,o=>(∃ (t:TypeId) (fr:Nat×Nat),o=.cells (V.af ρ π c).toArray t fr)∧o=ρ.ro tag
 | .win tag c len es,o=>((ρ.win i).spot=none∧(ρ.win i).block=(π i).1∧∃ (cs:Array Value) (t:TypeId) (fr:Nat×Nat),o=.cells cs t fr∧∀ (j:Nat) (v:V),c[j]?=some v→j<(len.den ρ).toNat*es→cs[(ρ.win i).off+j]?=some (v.ae ρ π))∧o=ρ.ro tag
 | .iter m,o=>match m with
  | none=>o=.mapIter none 0 #[] 0
  | some b=>∃ since last,o=.mapIter (some (π b).1) since #[] last
 | .arr a ks len elem wide,o=>∃ cs:List Value,o=.cells cs.toArray elem (0,0)∧(len.den ρ).toNat*ks.length≤cs.length∧(wide=true→cs.length=(π i).2*ks.length)∧jA ρ a ks (len.den ρ).toNat fun j=>cs[j]?
 | .warr tag t ks len,o=>((ρ.win i).spot=none∧(ρ.win i).block=(π i).1∧∃ (cs:Array Value) (t':TypeId) (fr:Nat×Nat),o=.cells cs t' fr∧jA ρ (.base t) ks (len.den ρ).toNat fun j=>cs[(ρ.win i).off+j]?)∧o=ρ.ro tag
abbrev H:=T au
def au.bG:au→Bool
 | .ro _ _=>true
 | .win _ _ _ _=>true
 | .warr _ _ _ _=>true
 | _=>false
structure dD (ρ:Env) (π:Pl) (h:H) (w:World):Prop where
 obj:∀ i o,h.get i=some o→∃ ob,w.heap[(π i).1]?=some ob∧o.is ρ π i ob
 inj:∀ i j o o',h.get i=some o→h.get j=some o'→(π i).1=(π j).1→i=j∨(o.bG=true∧o'.bG=true)
end Go.Proofs.YtmickljjofbmiaaGreatDoor
namespace Go.Proofs.YtmickljjofbmiaaGreatDoor
open Go
def B.not:B→B
 | .zero=>.one
 | .one=>.zero
 | .pos i=>.neg i
 | .neg i=>.pos i
def B.and(a b:B):Option B:=
 match a with
 | .zero=>some .zero
 | .one=>some b
 | a=>match b with
  | .zero=>some .zero
  | .one=>some a
  | b=>match a.beq b,a.beq b.not with
   | true,_=>some a
   | false,true=>some .zero
   | false,false=>none
def B.or(a b:B):Option B:=match B.and a.not b.not with
 | some c=>some c.not
 | none=>none
def B.xor(a b:B):Option B:=
 match a with
 | .zero=>some b
 | .one=>some b.not
 | a=>match b with
  | .zero=>some a
  | .one=>some a.not
  | b=>match a.beq b,a.beq b.not with
   | true,_=>some .zero
   | false,true=>some .one
   | false,false=>none
def B.diff(a b:B):Option B:=B.and a b.not
def B.op(o:Nat):B→B→Option B:=
 match o with
 | 0=>B.and
 | 1=>B.or
 | 2=>B.xor
 | _=>B.diff
def nX(b:Option B) (r:Option (List B×B)):Option (List B×B):=
 match b with
 | none=>none
 | some b=>match r with
  | none=>none
  | some (l,t)=>some (b::l,t)
def Kh(f:B→B→Option B)(t:B):List B→B→Option (List B×B)
 | [],u=>match f t u with
  | some c=>some ([],c)
  | none=>none
 | c::m,u=>nX (f t c) (Kh f t m u)
def pN(f:B→B→Option B):List B→B→List B→B→Option (List B×B)
 | [],t,m,u=>Kh f t m u
 | b::l,t,m,u=>match m with
  | []=>nX (f b u) (pN f l t [] u)
  | c::m=>nX (f b c) (pN f l t m u)
def wR:Nat→List B→B→List B
 | 0,_,_=>[]
 | n+1,[],t=>match t with
  | .zero=>[]
  | t=>t::wR n [] t
 | n+1,b::l,t=>b::wR n l t
def BT:Nat→List B→B→List B×B
 | _,[],t=>([],t)
 | 0,b::_,_=>([],b)
 | n+1,b::l,t=>match BT n l t with
  | (r,s)=>(b::r,s)
def OK(t:B):List B→List B
 | []=>[]
 | b::l=>match OK t l with
  | []=>match b.beq t with
   | true=>[]
   | false=>[b]
  | c::r=>b::c::r
def G0(t:B):List B→Option Int
 | []=>match t with
  | .zero=>some 0
  | .one=>some (-1)
  | _=>none
 | b::l=>match G0 t l with
  | none=>none
  | some n=>match b with
   | .zero=>some (2*n)
   | .one=>some (2*n+1)
   | _=>none
def z0(l:List B)(t:B):X:=
 match G0 t l with
 | some n=>.lit n
 | none=>.bv (OK t l) t
def z3(k:IntKind)(l:List B)(t:B):X:=
 match k.signed with
 | false=>z0 (wR k.bits l t) .zero
 | true=>match BT (k.bits-1) l t with
  | (r,s)=>z0 r s
def o9:Nat→Nat→List B
 | 0,_=>[]
 | f+1,n=>match n with
  | 0=>[]
  | m+1=>(match Nat.beq ((m+1) % 2) 1 with
   | true=>B.one
   | false=>B.zero)::o9 f ((m+1) / 2)
def Iq:List B→List B
 | []=>[]
 | b::l=>b.not::Iq l
def toB:X→Option (List B×B)
 | .bv l t=>some (l,t)
 | .lit n=>match n with
  | .ofNat n=>match Nat.blt n (2 ^ 70) with
   | true=>some (o9 70 n,.zero)
   | false=>none
  | .negSucc n=>match Nat.blt n (2 ^ 70) with
   | true=>some (Iq (o9 70 n),.one)
   | false=>none
 | _=>none
def aeC:X→Bool
 | .bv _ _=>true
 | _=>false
def wM:Nat→List B→List B
 | 0,l=>l
 | n+1,l=>.zero::wM n l
def y4:Nat→List B→List B
 | 0,l=>l
 | _+1,[]=>[]
 | n+1,_::l=>y4 n l
def PW(n:Nat):Option Nat:=match Nat.beq (2 ^ n.log2) n with
 | true=>match Nat.ble n.log2 64 with
  | true=>some n.log2
  | false=>none
 | false=>none
def OO(x y:B)(c:Bool):Option (B×Bool):=
 match c with
 | false=>match x with
  | .zero=>some (y,false)
  | x=>match y with
   | .zero=>some (x,false)
   | y=>match x,y with
    | .one,.one=>some (.zero,true)
    | _,_=>none
 | true=>match x with
  | .one=>some (y,true)
  | x=>match y with
   | .one=>some (x,true)
   | y=>match x,y with
    | .zero,.zero=>some (.one,false)
    | _,_=>none
def K6(t u:B)(c:Bool):Option (List B×B):=
 match OO t u c with
 | some (s,d)=>match c,d with
  | true,true=>some ([],s)
  | false,false=>some ([],s)
  | _,_=>none
 | none=>none
def QY(t:B):List B→B→Bool→Option (List B×B)
 | [],u,c=>K6 t u c
 | y::m,u,c=>match OO t y c with
  | some (s,d)=>nX (some s) (QY t m u d)
  | none=>none
def Dt:List B→B→List B→B→Bool→Option (List B×B)
 | [],t,m,u,c=>QY t m u c
 | x::l,t,m,u,c=>match m with
  | []=>match OO x u c with
   | some (s,d)=>nX (some s) (Dt l t [] u d)
   | none=>none
  | y::m=>match OO x y c with
   | some (s,d)=>nX (some s) (Dt l t m u d)
   | none=>none
def B.sub(a b:B):Option B:=
 match b with
 | .zero=>some a
 | b=>match a with
  | .one=>some b.not
  | a=>match a.beq b with
   | true=>some .zero
   | false=>none
inductive Q where
 | ff
 | c (m v:Nat)
 | bad
def mV(i:Nat)(b:Bool):Nat:=match b with
 | true=>2 ^ i
 | false=>0
def Q.with(q:Q)(i:Nat)(b:Bool):Q:=
 match q with
 | .ff=>.ff
 | .bad=>.bad
 | .c m v=>match Nat.testBit m i with
  | true=>match Nat.testBit v i,b with
   | true,true=>.c m v
   | false,false=>.c m v
   | _,_=>.ff
  | false=>.c (m ||| 2 ^ i) (v ||| mV i b)
def Q.Kz(q:Q)(a b:B):Q:=
 match a with
 | .zero=>match b with
  | .zero=>q
  | .one=>.ff
  | .pos i=>q.with i false
  | .neg i=>q.with i true
 | .one=>match b with
  | .zero=>.ff
  | .one=>q
  | .pos i=>q.with i true
  | .neg i=>q.with i false
 | .pos i=>match b with
  | .zero=>q.with i false
  | .one=>q.with i true
  | .pos j=>match Nat.beq i j with
   | true=>q
   | false=>.bad
  | .neg j=>match Nat.beq i j with
   | true=>.ff
   | false=>.bad
 | .neg i=>match b with
  | .zero=>q.with i true
  | .one=>q.with i false
  | .pos j=>match Nat.beq i j with
   | true=>.ff
   | false=>.bad
  | .neg j=>match Nat.beq i j with
   | true=>q
   | false=>.bad
def Q.same(q:Q)(a b:B):Q:=
 match q with
 | .ff=>.ff
 | .bad=>.bad
 | .c m v=>Q.Kz (.c m v) a b
def XZ(t:B):List B→B→Q→Q
 | [],u,q=>q.same t u
 | c::m,u,q=>match q with
  | .ff=>.ff
  | q=>XZ t m u (q.same t c)
def Lj:List B→B→List B→B→Q→Q
 | [],t,m,u,q=>XZ t m u q
 | b::l,t,m,u,q=>match q with
  | .ff=>.ff
  | q=>match m with
   | []=>Lj l t [] u (q.same b u)
   | c::m=>Lj l t m u (q.same b c)
inductive G where
 | tt
 | ff
 | c (m v:Nat)
 | n (m v:Nat)
 | bad
def G.NT(q:Q):G:=match q with
 | .ff=>.ff
 | .bad=>.bad
 | .c m v=>.c m v
def single(m:Nat):Bool:=Nat.beq (m &&& (m-1)) 0
def B9(m v:Nat):Option Nat:=match Nat.beq m 0 with
 | true=>none
 | false=>match single m with
  | true=>some (m ^^^ v)
  | false=>none
def G.join(r1 r0:G)(i:Nat)(b:Bool):G:=
 match r1 with
 | .ff=>.ff
 | .tt=>match r0 with
  | .tt=>.tt
  | .ff=>.c (2 ^ i) (mV i b)
  | .n m v=>match (Q.c m v).with i !b with
   | .ff=>.tt
   | .c m v=>.n m v
   | .bad=>.bad
  | .c m v=>match B9 m v with
   | none=>.bad
   | some v=>match (Q.c m v).with i !b with
    | .ff=>.tt
    | .c m v=>.n m v
    | .bad=>.bad
  | .bad=>.bad
 | .c m v=>match r0 with
  | .tt=>.tt
  | .ff=>G.NT ((Q.c m v).with i b)
  | .c m' v'=>match Nat.beq m m',Nat.beq v v' with
   | true,true=>.c m v
   | _,_=>.bad
  | _=>.bad
 | .n m v=>match r0 with
  | .tt=>.tt
  | .ff=>match B9 m v with
   | none=>.bad
   | some v=>G.NT ((Q.c m v).with i b)
  | .n m' v'=>match Nat.beq m m',Nat.beq v v' with
   | true,true=>.n m v
   | _,_=>.bad
  | _=>.bad
 | .bad=>.bad
def Br(t:B):List B→Int→G
 | [],c=>match decide (c≤-1) with
  | true=>.tt
  | false=>match decide (1≤c) with
   | true=>.ff
   | false=>match t with
    | .zero=>.tt
    | .one=>.ff
    | .pos i=>.c (2 ^ i) 0
    | .neg i=>.c (2 ^ i) (2 ^ i)
 | b::l,c=>match b with
  | .zero=>Br t l ((c+1) / 2)
  | .one=>Br t l (c / 2)
  | .pos i=>match aQ ((c+1) / 2) (c / 2) with
   | true=>Br t l (c / 2)
   | false=>G.join (Br t l (c / 2)) (Br t l ((c+1) / 2)) i true
  | .neg i=>match aQ ((c+1) / 2) (c / 2) with
   | true=>Br t l (c / 2)
   | false=>G.join (Br t l (c / 2)) (Br t l ((c+1) / 2)) i false
def iF:List (X×Bool)→Nat×Nat
 | []=>(0,0)
 | (x,b)::pc=>match x with
  | .cube m v=>match b with
   | true=>match iF pc with
    | (M,V)=>(M ||| m,(V &&& (M ^^^ (M &&& m))) ||| (v &&& m))
   | false=>match single m with
    | true=>match iF pc with
     | (M,V)=>(M ||| m,(V &&& (M ^^^ (M &&& m))) ||| ((m ^^^ v) &&& m))
    | false=>iF pc
  | _=>iF pc
def fZ(M V m v:Nat):List (X×Bool)→Bool
 | []=>false
 | (x,b)::pc=>match x with
  | .cube m' v'=>match b with
   | true=>fZ M V m v pc
   | false=>match Nat.beq ((m' &&& M) &&& (v' ^^^ V)) 0 with
    | true=>match m' ^^^ (m' &&& M) with
     | r=>match Nat.beq (r &&& m) r,Nat.beq (v &&& r) (v' &&& r) with
      | true,true=>true
      | _,_=>fZ M V m v pc
    | false=>fZ M V m v pc
  | _=>fZ M V m v pc
def DR(m v:Nat) (pc:List (X×Bool)):Option Bool:=
 match iF pc with
 | (M,V)=>match Nat.beq ((m &&& M) &&& (v ^^^ V)) 0 with
  | false=>some false
  | true=>match Nat.beq (m &&& M) m with
   | true=>some true
   | false=>match fZ M V m v pc with
    | true=>some false
    | false=>none
def gK(M V:Nat)(b:B):B:=
 match b with
 | .pos i=>match Nat.testBit M i with
  | true=>match Nat.testBit V i with
   | true=>.one
   | false=>.zero
  | false=>.pos i
 | .neg i=>match Nat.testBit M i with
  | true=>match Nat.testBit V i with
   | true=>.zero
   | false=>.one
  | false=>.neg i
 | b=>b
def KD(M V:Nat):List B→List B
 | []=>[]
 | b::l=>gK M V b::KD M V l
def zn(x:X):List (X×Bool)→Option Bool
 | []=>none
 | (y,b)::pc=>match y.beq x with
  | true=>some b
  | false=>zn x pc
def KE (pc:List (X×Bool)) (x:X):X:=
 match x with
 | .bv l t=>match iF pc with
  | (M,V)=>match Nat.beq M 0 with
   | true=>.bv l t
   | false=>z0 (KD M V l) (gK M V t)
 | .ite (.eq (.fn1 f a) (.lit n)) x y=>match zn (.eq (.fn1 f a) (.lit n)) pc with
  | some true=>x
  | some false=>y
  | none=>.ite (.eq (.fn1 f a) (.lit n)) x y
 | x=>x
end Go.Proofs.YtmickljjofbmiaaGreatDoor
namespace Go.Proofs.YtmickljjofbmiaaGreatDoor
open Go
noncomputable section
abbrev PC:=List (X×Bool)
structure St where
 h:H
 n:Nat
 pc:PC
inductive R (α:Type) where
 | ok (a:α)
 | br (c:X) (t f:R α)
 | stuck (s:String)
def R.ai{α:Type}(ρ:Env):R α→Option α
 | .ok a=>some a
 | .br c t f=>if c.tt ρ then t.ai ρ else f.ai ρ
 | .stuck _=>none
noncomputable def R.bind{α β:Type}(r:R α)(k:α→R β):R β:=
 R.rec (motive:=fun _=>R β) (fun a=>k a) (fun c _ _ it jf=>.br c it jf) (fun s=>.stuck s) r
def Option.toR{α:Type}(o:Option α)(s:String):R α:=
 match o with
 | some a=>.ok a
 | none=>.stuck s
def jT:IntKind→Int
 | .i8=>-128
 | .i16=>-32768
 | .i32=>-2147483648
 | .i64=>-9223372036854775808
 | _=>0
def kR:IntKind→Int
 | .i8=>127
 | .i16=>32767
 | .i32=>2147483647
 | .i64=>9223372036854775807
 | .u8=>255
 | .u16=>65535
 | .u32=>4294967295
 | .u64=>18446744073709551615
def xL(a b:Int):Int:=match decide (a≤b) with
 | true=>a
 | false=>b
def imax(a b:Int):Int:=match decide (a≤b) with
 | true=>b
 | false=>a
structure Rg where
 lo:Int
 hi:Int
def Rg.abs(r:Rg):Int:=imax r.hi (-r.lo)
def Ov(a b:Rg):Rg:=match decide (0≤a.lo),decide (0≤b.lo) with
 | true,true=>⟨a.lo*b.lo,a.hi*b.hi⟩
 | _,_=>match a.abs*b.abs with
  | m=>⟨-m,m⟩
def Kr(a:Rg)(m:Option Int):Rg:=match m with
 | some m=>match decide (0≤a.lo),decide (0<m) with
  | true,true=>⟨0,a.hi / m⟩
  | _,_=>⟨-a.abs,a.abs⟩
 | none=>⟨-a.abs,a.abs⟩
def Ks(a:Rg)(m:Option Int):Rg:=match m with
 | some m=>match decide (0<m) with
  | true=>match decide (0≤a.lo) with
   | true=>⟨0,xL a.hi (m-1)⟩
   | false=>⟨-(m-1),m-1⟩
  | false=>⟨-a.abs,a.abs⟩
 | none=>match decide (0≤a.lo) with
  | true=>⟨0,a.hi⟩
  | false=>⟨-a.abs,a.abs⟩
def lY(x:X):Option Int:=X.rec (motive:=fun _=>Option Int) (fun n=>some n) (fun _=>none) (fun _ _ _ _=>none) (fun _ _ _ _=>none) (fun _ _ _ _=>none) (fun _ _ _ _=>none) (fun _ _ _ _=>none) (fun _ _ _=>none) (fun _ _ _ _ _ _=>none) (fun _ _ _ _ _=>none) (fun _ _ _ _ _=>none) (fun _ _ _ _=>none) (fun _ _ _ _=>none) (fun _ _ _ _=>none) (fun _ _=>none) (fun _ _ _ _ _ _=>none) (fun _ _ _=>none) (fun _ _ _ _ _=>none) (fun _=>none) (fun _=>none) (fun _ _ _ _=>none) (fun _ _ _=>none) (fun _ _=>none) (fun _ _ _ _=>none) (fun _ _=>none) (fun _ _=>none) (fun _ _ _ _ _=>none) x
theorem R5(n:Int):lY (.lit n)=some n:=rfl
def FG(f:Rg→Rg→Rg)(a b:Option Rg):Option Rg:=match a with
 | none=>none
 | some a=>match b with
  | none=>none
  | some b=>some (f a b)
def ju:X→Option Rg
 | .lit n=>some ⟨n,n⟩
 | .wrap k _=>some ⟨jT k,kR k⟩
 | .bits _ k _ _=>some ⟨jT k,kR k⟩
 | .shl k _ _=>some ⟨jT k,kR k⟩
 | .bv l t=>match t with
  | .zero=>some ⟨0,Int.ofNat (2 ^ l.length)-1⟩
  | _=>some ⟨-Int.ofNat (2 ^ l.length),Int.ofNat (2 ^ l.length)-1⟩
 | .eq _ _=>some ⟨0,1⟩
 | .lt _ _=>some ⟨0,1⟩
 | .le _ _=>some ⟨0,1⟩
 | .not _=>some ⟨0,1⟩
 | .seq _ _=>some ⟨0,1⟩
 | .cube _ _=>some ⟨0,1⟩
 | .ite _ a b=>FG (fun a b=>⟨xL a.lo b.lo,imax a.hi b.hi⟩) (ju a) (ju b)
 | .add a b=>FG (fun a b=>⟨a.lo+b.lo,a.hi+b.hi⟩) (ju a) (ju b)
 | .sub a b=>FG (fun a b=>⟨a.lo-b.hi,a.hi-b.lo⟩) (ju a) (ju b)
 | .mul a b=>FG Ov (ju a) (ju b)
 | .quo a b=>match ju a with
  | some r=>some (Kr r (lY b))
  | none=>none
 | .rem a b=>match ju a with
  | some r=>some (Ks r (lY b))
  | none=>none
 | .shr _ a _=>match ju a with
  | some r=>some ⟨xL r.lo 0,imax r.hi 0⟩
  | none=>none
 | _=>none
def xU(x:X):Option Rg:=X.rec (motive:=fun _=>Option Rg) (fun n=>some ⟨n,n⟩) (fun _=>none) (fun _ _ ia ib=>FG (fun a b=>⟨a.lo+b.lo,a.hi+b.hi⟩) ia ib) (fun _ _ ia ib=>FG (fun a b=>⟨a.lo-b.hi,a.hi-b.lo⟩) ia ib) (fun _ _ ia ib=>FG Ov ia ib)
 (fun _ b ia _=>match ia with
  | some r=>some (Kr r (lY b))
  | none=>none)
 (fun _ b ia _=>match ia with
  | some r=>some (Ks r (lY b))
  | none=>none)
 (fun k _ _=>some ⟨jT k,kR k⟩) (fun _ k _ _ _ _=>some ⟨jT k,kR k⟩) (fun k _ _ _ _=>some ⟨jT k,kR k⟩)
 (fun _ _ _ ia _=>match ia with
  | some r=>some ⟨xL r.lo 0,imax r.hi 0⟩
  | none=>none)
 (fun _ _ _ _=>some ⟨0,1⟩) (fun _ _ _ _=>some ⟨0,1⟩) (fun _ _ _ _=>some ⟨0,1⟩) (fun _ _=>some ⟨0,1⟩) (fun _ _ _ _ ia ib=>FG (fun a b=>⟨xL a.lo b.lo,imax a.hi b.hi⟩) ia ib)
 (fun _ _ _=>none) (fun _ _ _ _ _=>none) (fun _=>none) (fun _=>none) (fun _ _ _ _=>none) (fun _ _ _=>none) (fun _ _=>none) (fun _ _ _ _=>some ⟨0,1⟩)
 (fun l t=>match t with
  | .zero=>some ⟨0,Int.ofNat (2 ^ l.length)-1⟩
  | _=>some ⟨-Int.ofNat (2 ^ l.length),Int.ofNat (2 ^ l.length)-1⟩)
 (fun _ _=>some ⟨0,1⟩) (fun _ _ _ _ _=>none) x
theorem abK(x:X):xU x=ju x:=by
 induction x with
 | add a b ia ib=>show FG _ (xU a) (xU b)=_;rw [ia,ib];rfl
 | sub a b ia ib=>show FG _ (xU a) (xU b)=_;rw [ia,ib];rfl
 | mul a b ia ib=>show FG _ (xU a) (xU b)=_;rw [ia,ib];rfl
 | ite c a b _ ia ib=>show FG _ (xU a) (xU b)=_;rw [ia,ib];rfl
 | quo a b ia _=>show (match xU a with | some r=>some (Kr r (lY b)) | none=>none)=_;rw [ia];rfl
 | rem a b ia _=>show (match xU a with | some r=>some (Ks r (lY b)) | none=>none)=_;rw [ia];rfl
 | shr k a b ia _=>show (match xU a with | some r=>some (Rg.mk (xL r.lo 0) (imax r.hi 0)) | none=>none)=_;rw [ia];rfl
 | _=>rfl
def inK(k:IntKind)(x:X):Bool:=match xU x with
 | some r=>match decide (jT k≤r.lo) with
  | true=>decide (r.hi≤kR k)
  | false=>false
 | none=>false
def ED(x:X):Bool:=match xU x with
 | some r=>decide (0≤r.lo)
 | none=>false
def yn(k:IntKind)(a:X):X:=match a with
 | .mul (.wrap j (.mul x (.lit m))) (.lit n)=>match bq j k with
  | true=>.wrap k (.mul x (.lit (m*n)))
  | false=>.wrap k a
 | a=>.wrap k a
def gM(k:IntKind)(a:X):X:=match inK k a with
 | true=>a
 | false=>yn k a
def mkWrap(k:IntKind):X→X
 | .lit n=>.lit (k.wrap n)
 | .bv l t=>z3 k l t
 | a=>gM k a
def qY{α:Type}(a b:X)(k:List B→B→List B→B→α)(d:α):α:=
 match aeC a,aeC b with
 | false,false=>d
 | _,_=>match toB a with
  | none=>d
  | some (l,t)=>match toB b with
   | none=>d
   | some (m,u)=>k l t m u
def Au(k:IntKind)(d:X):Option (List B×B)→X
 | some (r,s)=>z3 k r s
 | none=>d
def amj:X→Option X
 | .lit n=>some (.lit (-n))
 | _=>none
def FF:X→Bool
 | .lit n=>aQ n 0
 | _=>false
def QV(k:IntKind)(a b:X):X:=match FF b with
 | true=>gM k a
 | false=>match FF a with
  | true=>gM k b
  | false=>gM k (.add a b)
def Ez(k:IntKind)(a b:X):X:=
 match a,b with
 | .lit m,.lit n=>.lit (k.wrap (m+n))
 | a,b=>qY a b (fun l t m u=>Au k (QV k a b) (Dt l t m u false)) (QV k a b)
def mkAdd(k:IntKind)(a b:X):X:=match lY a with
 | some m=>match lY b with
  | some n=>.lit (k.wrap (m+n))
  | none=>Ez k a b
 | none=>Ez k a b
def mkSub(k:IntKind)(a b:X):X:=
 match a,b with
 | .lit m,.lit n=>.lit (k.wrap (m-n))
 | a,.lit n=>qY a (.lit (-n)) (fun l t m u=>Au k (gM k (.sub a (.lit n))) (Dt l t m u false)) (gM k (.sub a (.lit n)))
 | a,b=>qY a b (fun l t m u=>Au k (gM k (.sub a b)) (pN B.sub l t m u)) (gM k (.sub a b))
def NO(k:IntKind)(l:List B)(t:B)(n:Int)(d:X):X:=
 match n with
 | .ofNat n=>match PW n with
  | some s=>z3 k (wM s l) t
  | none=>d
 | _=>d
def mkMul(k:IntKind)(a b:X):X:=
 match a,b with
 | .lit m,.lit n=>.lit (k.wrap (m*n))
 | .bv l t,.lit n=>NO k l t n (gM k (.mul (.bv l t) (.lit n)))
 | .lit n,.bv l t=>NO k l t n (gM k (.mul (.lit n) (.bv l t)))
 | a,b=>gM k (.mul a b)
def S6(k:IntKind)(l:List B)(t:B)(n:Int)(d:X):X:=
 match t,n with
 | .zero,.ofNat n=>match PW n with
  | some s=>z3 k (y4 s l) .zero
  | none=>d
 | _,_=>d
def NM(k:IntKind)(a b:X):X:=
 match a,b with
 | .lit m,.lit n=>.lit (k.wrap (m.tdiv n))
 | .bv l t,.lit n=>S6 k l t n (gM k (.quo (.bv l t) (.lit n)))
 | a,b=>gM k (.quo a b)
def S9(l:List B)(t:B)(n:Int)(d:X):X:=
 match n with
 | .ofNat n=>match t with
  | .zero=>match PW n with
   | some s=>z0 (wR s l .zero) .zero
   | none=>d
  | .one=>match Nat.beq n 2 with
   | true=>match l with
    | b::_=>z0 [] b
    | []=>d
   | false=>d
  | _=>d
 | _=>d
def kOf(n:Int):Option IntKind:=match aQ n 4294967296 with
 | true=>some .u32
 | false=>match aQ n 65536 with
  | true=>some .u16
  | false=>match aQ n 256 with
   | true=>some .u8
   | false=>none
def AN(a:X)(n:Int):X:=match xU a with
 | none=>.rem a (.lit n)
 | some r=>match decide (0≤r.lo) with
  | false=>.rem a (.lit n)
  | true=>match decide (r.hi<n) with
   | true=>a
   | false=>match kOf n with
    | some k=>yn k a
    | none=>.rem a (.lit n)
def xg(a b:X):X:=
 match a,b with
 | .lit m,.lit n=>.lit (m.tmod n)
 | .bv l t,.lit n=>S9 l t n (.rem (.bv l t) (.lit n))
 | a,.lit n=>AN a n
 | a,b=>.rem a b
def Ey(o:Nat)(k:IntKind)(a:X)(m:Int)(d:X):X:=
 match m with
 | .ofNat m=>match ED a,inK k a with
  | true,true=>match PW (m+1) with
   | some j=>match Nat.blt j k.bits with
    | true=>match o with
     | 0=>AN a (Int.ofNat (2 ^ j))
     | 3=>gM k (.sub a (AN a (Int.ofNat (2 ^ j))))
     | _=>d
    | false=>d
   | none=>d
  | _,_=>d
 | _=>d
def M9(o:Nat)(k:IntKind)(a b:X):X:=match b with
 | .lit m=>Ey o k a m (.bits o k a (.lit m))
 | b=>.bits o k a b
def nt(o:Nat)(k:IntKind)(a b:X):X:=
 match a,b with
 | .lit m,.lit n=>.lit (gq o k m n)
 | a,b=>qY a b (fun l t m u=>Au k (M9 o k a b) (pN (B.op o) l t m u)) (M9 o k a b)
def Ij(k:IntKind)(a b:X):X:=
 match a,b with
 | .lit m,.lit n=>.lit (MD k m n)
 | .bv l t,.lit n=>z3 k (wM (min n.toNat k.bits) l) t
 | a,.lit n=>gM k (.mul a (.lit (Int.ofNat (2 ^ (min n.toNat k.bits)))))
 | a,b=>.shl k a b
def tF(k:IntKind)(a b:X):X:=
 match a,b with
 | .lit m,.lit n=>.lit (Bz k m n)
 | .bv l t,.lit n=>z0 (y4 (min n.toNat k.bits) l) t
 | a,.lit n=>match ED a with
  | true=>.quo a (.lit (Int.ofNat (2 ^ (min n.toNat k.bits))))
  | false=>.shr k a (.lit n)
 | a,b=>.shr k a b
def isLit:X→Bool
 | .lit _=>true
 | _=>false
def NT(d:X):Q→X
 | .ff=>.lit 0
 | .c m v=>match Nat.beq m 0 with
  | true=>.lit 1
  | false=>.cube m v
 | .bad=>d
def apart(a b:X):Bool:=match xU a with
 | none=>false
 | some r=>match xU b with
  | none=>false
  | some s=>match decide (r.hi<s.lo) with
   | true=>true
   | false=>decide (s.hi<r.lo)
def MT(k:IntKind)(a:X)(m:Int)(d:X):X:=match xU a with
 | none=>d
 | some r=>match decide (r.hi-r.lo<Int.ofNat (2 ^ k.bits)),decide (jT k≤m),decide (m≤kR k) with
  | true,true,true=>match r.lo+(m-r.lo) % Int.ofNat (2 ^ k.bits) with
   | n=>match decide (n≤r.hi) with
    | true=>.eq a (.lit n)
    | false=>.lit 0
  | _,_,_=>d
def y7(a:X)(m:Int):X:=match apart a (.lit m) with
 | true=>.lit 0
 | false=>match a with
  | .wrap k x=>MT k x m (.eq (.wrap k x) (.lit m))
  | .ite c (.lit p) (.lit q)=>match aQ p m,aQ q m with
   | true,true=>.lit 1
   | true,false=>.ite c (.lit 1) (.lit 0)
   | false,true=>.ite c (.lit 0) (.lit 1)
   | false,false=>.lit 0
  | a=>.eq a (.lit m)
def eqD(a b:X):X:=match b with
 | .lit m=>y7 a m
 | b=>match apart a b with
  | true=>.lit 0
  | false=>.eq a b
def NJ(a b:X):X:=
 match a,b with
 | .lit m,.lit n=>.lit (a7 (aQ m n))
 | .lit m,b=>qY (.lit m) b (fun l t m' u=>NT (y7 b m) (Lj l t m' u (.c 0 0))) (y7 b m)
 | a,b=>qY a b (fun l t m u=>NT (eqD a b) (Lj l t m u (.c 0 0))) (match a.beq b with
  | true=>.lit 1
  | false=>eqD a b)
def mkEq(a b:X):X:=match lY a with
 | some m=>match lY b with
  | some n=>.lit (a7 (aQ m n))
  | none=>NJ a b
 | none=>NJ a b
def ofG(d:X):G→X
 | .tt=>.lit 1
 | .ff=>.lit 0
 | .c m v=>.cube m v
 | .n m v=>.not (.cube m v)
 | .bad=>d
def Mf(d:X):G→X
 | .tt=>.lit 0
 | .ff=>.lit 1
 | .c m v=>.not (.cube m v)
 | .n m v=>.cube m v
 | .bad=>d
def ltD(a b:X):X:=match xU a with
 | none=>.lt a b
 | some r=>match xU b with
  | none=>.lt a b
  | some s=>match decide (r.hi<s.lo) with
   | true=>.lit 1
   | false=>match decide (s.hi≤r.lo) with
    | true=>.lit 0
    | false=>.lt a b
def leD(a b:X):X:=match xU a with
 | none=>.not (.lt b a)
 | some r=>match xU b with
  | none=>.not (.lt b a)
  | some s=>match decide (r.hi≤s.lo) with
   | true=>.lit 1
   | false=>match decide (s.hi<r.lo) with
    | true=>.lit 0
    | false=>.not (.lt b a)
def NL(a b:X):X:=
 match a,b with
 | .lit m,.lit n=>.lit (a7 (decide (m<n)))
 | .bv l t,.lit n=>Mf (.lt (.bv l t) (.lit n)) (Br t l n)
 | .lit n,.bv l t=>ofG (.lt (.lit n) (.bv l t)) (Br t l (n+1))
 | a,b=>ltD a b
def mkLt(a b:X):X:=match lY a with
 | some m=>match lY b with
  | some n=>.lit (a7 (decide (m<n)))
  | none=>NL a b
 | none=>NL a b
def NK(a b:X):X:=
 match a,b with
 | .lit m,.lit n=>.lit (a7 (decide (m≤n)))
 | .bv l t,.lit n=>Mf (.le (.bv l t) (.lit n)) (Br t l (n+1))
 | .lit n,.bv l t=>ofG (.le (.lit n) (.bv l t)) (Br t l n)
 | a,b=>leD a b
def mkLe(a b:X):X:=match lY a with
 | some m=>match lY b with
  | some n=>.lit (a7 (decide (m≤n)))
  | none=>NK a b
 | none=>NK a b
def mkNot:X→X
 | .lit n=>.lit (a7 (aQ n 0))
 | a=>.not a
def M6:X→Option (Option IntKind×X×X)
 | .add y z=>some (none,y,z)
 | .wrap k (.add y z)=>match inK k y with
  | true=>some (some k,y,z)
  | false=>none
 | _=>none
def pM(k:Option IntKind)(x:X):X:=match k with
 | none=>x
 | some k=>.wrap k x
def yf(c a b:X):X:=match M6 b with
 | some (k,y,z)=>match y.beq a with
  | true=>pM k (.add y (.ite c (.lit 0) z))
  | false=>.ite c a b
 | none=>.ite c a b
def kB(c a b:X):X:=match M6 a with
 | some (k,y,z)=>match y.beq b with
  | true=>pM k (.add y (.ite c z (.lit 0)))
  | false=>yf c a b
 | none=>yf c a b
def Ek(c a b:X)(m:Int)(x:X):X:=match b with
 | .sub y (.lit w)=>match aQ m 2147483648,aQ w 4294967296 with
  | true,true=>match x.beq a,y.beq a,inK .u32 a with
   | true,true,true=>.wrap .i32 a
   | _,_,_=>.ite c a b
  | _,_=>.ite c a b
 | _=>kB c a b
def El(c a b:X)(q:X):X:=match a with
 | .add (.rem y (.lit v)) (.lit w)=>match aQ v 4294967296,aQ w 4294967296 with
  | true,true=>match b with
   | .rem z (.lit u)=>match aQ u 4294967296,y.beq q,z.beq q with
    | true,true,true=>.wrap .u32 q
    | _,_,_=>kB c a b
   | _=>kB c a b
  | _,_=>kB c a b
 | _=>kB c a b
def aaF(i:Nat)(vb:Bool)(x y:B):Option B:=match x.beq y with
 | true=>some x
 | false=>match gK (2 ^ i) (mV i vb) x,gK (2 ^ i) (mV i !vb) y with
  | x,y=>match x.beq y with
   | true=>some x
   | false=>match x,y with
    | .one,.zero=>some (match vb with | true=>.pos i | false=>.neg i)
    | .zero,.one=>some (match vb with | true=>.neg i | false=>.pos i)
    | _,_=>none
def Ej(c a b:X)(m v:Nat):X:=match Nat.beq m (2 ^ m.log2) with
 | true=>qY a b (fun l t n u=>match pN (aaF m.log2 (Nat.testBit v m.log2)) l t n u with
  | some (r,s)=>z0 r s
  | none=>.ite c a b) (kB c a b)
 | false=>kB c a b
def aaG(c a b:X):X:=match c with
 | .cube m v=>Ej c a b m v
 | .lt (.rem q (.lit v)) (.lit n)=>match aQ v 4294967296,aQ n 0 with
  | true,true=>El c a b q
  | _,_=>kB c a b
 | .lt x (.lit m)=>Ek c a b m x
 | c=>kB c a b
def mkIte(c a b:X):X:=
 match c with
 | .lit n=>if aQ n 0 then b else a
 | c=>if a.beq b then a else aaG c a b
def vN(c a b:X):X:=
 match c with
 | .lit n=>if aQ n 0 then b else a
 | c=>if a.beq b then a else .ite c a b
def Io:X→Bool
 | .slit l=>match l with
  | []=>false
  | _::_=>true
 | .sfn _ _=>true
 | .scat a b=>match Io a with
  | true=>true
  | false=>Io b
 | _=>false
def isNone:X→Bool
 | .slit l=>match l with
  | []=>true
  | _::_=>false
 | _=>false
def Fp(a b:X):X:=match a.beq b with
 | true=>.lit 1
 | false=>match isNone a,Io b with
  | true,true=>.lit 0
  | _,_=>match Io a,isNone b with
   | true,true=>.lit 0
   | _,_=>.seq a b
def mkSeq(a b:X):X:=
 match a,b with
 | .slit l,.slit m=>.lit (a7 (eN (l.map (· % 256)) (m.map (· % 256))))
 | a,b=>Fp a b
def DO(l:List Nat)(b:X):X:=
 match l with
 | []=>b
 | c::l=>match b with
  | .slit m=>.slit (c::(l++m))
  | .scat (.slit m) r=>.scat (.slit (c::(l++m))) r
  | b=>.scat (.slit (c::l)) b
def rJ(a b:X):X:=match isNone b with
 | true=>a
 | false=>.scat a b
def lk:X→X→X
 | .slit l,b=>DO l b
 | .scat a c,b=>lk a (lk c b)
 | .lit n,b=>rJ (.lit n) b
 | .svar i,b=>rJ (.svar i) b
 | .sfn f a,b=>rJ (.sfn f a) b
 | .ite c x y,b=>rJ (.ite c x y) b
 | .btext t x y,b=>rJ (.btext t x y) b
 | a,b=>.scat a b
def Pv:X→Option Nat
 | .slit l=>some l.length
 | .sfn _ _=>some 1000
 | .scat a b=>match Pv a,Pv b with
  | some m,some n=>some (m+n)
  | _,_=>none
 | _=>none
def z7:X→X
 | .slit l=>.lit l.length
 | a=>.slen a
def G1(a:X):PC→Option Int
 | []=>none
 | (x,b)::pc=>
  let r:=G1 a pc
  let with_ (n:Int):Option Int:=match r with
   | none=>some n
   | some m=>some (if decide (m<n) then n else m)
  match x,b with
  | .eq c (.lit n),true=>if c.beq a then with_ n else r
  | .lt (.lit n) c,true=>if c.beq a then with_ (n+1) else r
  | .le (.lit n) c,true=>if c.beq a then with_ n else r
  | .lt c (.lit n),false=>if c.beq a then with_ n else r
  | .le c (.lit n),false=>if c.beq a then with_ (n+1) else r
  | _,_=>r
def GK(a:X):PC→Option Int
 | []=>none
 | (x,b)::pc=>
  let r:=GK a pc
  let with_ (n:Int):Option Int:=match r with
   | none=>some n
   | some m=>some (if decide (n<m) then n else m)
  match x,b with
  | .eq c (.lit n),true=>if c.beq a then with_ n else r
  | .lt c (.lit n),true=>if c.beq a then with_ (n-1) else r
  | .le c (.lit n),true=>if c.beq a then with_ n else r
  | .lt (.lit n) c,false=>if c.beq a then with_ n else r
  | .le (.lit n) c,false=>if c.beq a then with_ (n-1) else r
  | _,_=>r
def rM(x:X):PC→Option Bool
 | []=>none
 | (y,b)::pc=>if y.beq x then some b else rM x pc
def lv(a b:Option Int):Bool:=
 match a,b with
 | some m,some n=>decide (m<n)
 | _,_=>false
def DG(a:X)(pc:PC):Nat→Int→Int
 | 0,n=>n
 | f+1,n=>match rM (.eq a (.lit n)) pc with
  | some false=>DG a pc f (n+1)
  | _=>n
def sP(a:X)(pc:PC):Nat→Int→Int
 | 0,n=>n
 | f+1,n=>match rM (.eq a (.lit n)) pc with
  | some false=>sP a pc f (n-1)
  | _=>n
def Zv(a:X)(pc:PC):Option Int:=
 match G1 a pc with
 | some n=>some (DG a pc pc.length n)
 | none=>none
def Zt(a:X)(pc:PC):Option Int:=
 match GK a pc with
 | some n=>some (sP a pc pc.length n)
 | none=>none
structure gO where
 ts:List (X×Int)
 k:Int
def Xr(x:X)(c:Int):List (X×Int)→List (X×Int)
 | []=>[(x,c)]
 | (y,d)::l=>match y.beq x with
  | true=>match aQ (d+c) 0 with
   | true=>l
   | false=>(y,d+c)::l
  | false=>(y,d)::Xr x c l
def BG(m:Int):List (X×Int)→List (X×Int)→List (X×Int)
 | [],l=>l
 | (x,c)::r,l=>BG m r (Xr x (m*c) l)
def gO.plus(m:Int)(a b:gO):gO:=match b.k+m*a.k with
 | k=>⟨BG m a.ts b.ts,k⟩
def uP:X→gO
 | .lit n=>⟨[],n⟩
 | .add a b=>(uP b).plus 1 (uP a)
 | .sub a b=>(uP b).plus (-1) (uP a)
 | .mul a b=>match b with
  | .lit n=>match aQ n 0 with
   | true=>⟨[],0⟩
   | false=>(uP a).plus n ⟨[],0⟩
  | b=>match a with
   | .lit n=>match aQ n 0 with
    | true=>⟨[],0⟩
    | false=>(uP b).plus n ⟨[],0⟩
   | a=>⟨[(.mul a b,1)],0⟩
 | x=>⟨[(x,1)],0⟩
def Nm:X→Bool→List gO
 | .lt a b,true=>[(uP a).plus (-1) ((uP b).plus 1 ⟨[],-1⟩)]
 | .lt a b,false=>[(uP b).plus (-1) (uP a)]
 | .le a b,true=>[(uP a).plus (-1) (uP b)]
 | .le a b,false=>[(uP b).plus (-1) ((uP a).plus 1 ⟨[],-1⟩)]
 | .eq a b,true=>[(uP a).plus (-1) (uP b),(uP b).plus (-1) (uP a)]
 | _,_=>[]
def DK(x:X):List (X×Int)→Int
 | []=>0
 | (y,d)::l=>match y.beq x with
  | true=>d
  | false=>DK x l
def aat(x:X)(c:Int):Option gO:=match xU x with
 | none=>none
 | some r=>match decide (0<c) with
  | true=>some ⟨[(x,1)],-r.lo⟩
  | false=>some ⟨[(x,-1)],r.hi⟩
def GL(a:Int):Int:=match decide (0≤a) with
 | true=>a
 | false=>-a
def Nd(x:X)(c:Int)(g f:gO):Option gO:=match DK x f.ts with
 | d=>match decide (0<d*c) with
  | true=>some (f.plus (-(GL c)) (g.plus (GL d) ⟨[],0⟩))
  | false=>none
def mO(rest:gO→Bool)(x:X)(c:Int)(g:gO):List gO→Bool
 | []=>match aat x c with
  | none=>false
  | some f=>match Nd x c g f with
   | none=>false
   | some g'=>rest g'
 | f::fs=>match Nd x c g f with
  | none=>mO rest x c g fs
  | some g'=>match rest g' with
   | true=>true
   | false=>mO rest x c g fs
def Ay:Nat→List gO→gO→Bool
 | 0,_,_=>false
 | n+1,fs,g=>match g.ts with
  | []=>decide (0≤g.k)
  | (x,c)::_=>mO (Ay n fs) x c g fs
def zo:PC→List gO
 | []=>[]
 | (x,b)::pc=>Nm x b++zo pc
def Ip(pc:PC)(g:gO):Bool:=Ay 7 (zo pc) g
def Bm(pc:PC)(a b:X):Bool:=Ip pc ((uP a).plus (-1) (uP b))
def Zw(pc:PC)(a b:X):Bool:=Ip pc ((uP a).plus (-1) ((uP b).plus 1 ⟨[],-1⟩))
def y3(pc:PC):X→Option Bool
 | .lt a b=>match Zw pc a b with
  | true=>some true
  | false=>match Bm pc b a with
   | true=>some false
   | false=>none
 | .le a b=>match Bm pc a b with
  | true=>some true
  | false=>match Zw pc b a with
   | true=>some false
   | false=>none
 | .eq a b=>match Zw pc a b with
  | true=>some false
  | false=>match Zw pc b a with
   | true=>some false
   | false=>match Bm pc a b with
    | true=>match Bm pc b a with
     | true=>some true
     | false=>none
    | false=>none
 | _=>none
def y2(pc:PC)(x:X):Option Bool:=
 match rM x pc with
 | some b=>some b
 | none=>
  match x with
  | .cube m v=>DR m v pc
  | .eq a (.lit n)=>
   match Zv a pc,Zt a pc with
   | lo,hi=>
    if lv (some n) lo || lv hi (some n) then some false
    else match lo,hi with
     | some l,some u=>if aQ l n&&aQ u n then some true else none
     | _,_=>none
  | .lt a (.lit n)=>
   match Zv a pc,Zt a pc with
   | lo,hi=>if lv hi (some n) then some true else if lv (some (n-1)) lo then some false else none
  | .le a (.lit n)=>
   match Zv a pc,Zt a pc with
   | lo,hi=>if lv hi (some (n+1)) then some true else if lv (some n) lo then some false else none
  | .lt (.lit n) a=>
   match Zv a pc,Zt a pc with
   | lo,hi=>if lv (some n) lo then some true else if lv hi (some (n+1)) then some false else none
  | .le (.lit n) a=>
   match Zv a pc,Zt a pc with
   | lo,hi=>if lv (some (n-1)) lo then some true else if lv hi (some n) then some false else none
  | _=>none
def A2:PC→Bool
 | []=>false
 | (x,_)::pc=>match x with
  | .le (.lit 0) (.lit 7)=>true
  | _=>A2 pc
def eI(pc:PC)(x:X):Option Bool:=match y2 pc x with
 | some b=>some b
 | none=>match A2 pc with
  | true=>y3 pc x
  | false=>none
def cT{α:Type}(st:St):X→(St→Bool→R α)→R α
 | .lit n,k=>k st (!aQ n 0)
 | .not y,k=>cT st y fun st b=>k st !b
 | .ite c a b,k=>cT st c fun st t=>match t with
  | true=>cT st a k
  | false=>cT st b k
 | x,k=>match eI st.pc x with
  | some b=>k st b
  | none=>.br x (k {st with pc:=(x,true)::st.pc} true) (k {st with pc:=(x,false)::st.pc} false)
inductive SV where
 | lit (n:Int)
 | atom
 | deep
def X.sv(x:X):SV:=X.rec (motive:=fun _=>SV) (fun n=>.lit n) (fun _=>.atom) (fun _ _ _ _=>.atom) (fun _ _ _ _=>.atom) (fun _ _ _ _=>.atom) (fun _ _ _ _=>.atom) (fun _ _ _ _=>.atom) (fun _ _ _=>.atom) (fun _ _ _ _ _ _=>.atom) (fun _ _ _ _ _=>.atom) (fun _ _ _ _ _=>.atom) (fun _ _ _ _=>.atom) (fun _ _ _ _=>.atom) (fun _ _ _ _=>.atom) (fun _ _=>.deep) (fun _ _ _ _ _ _=>.deep) (fun _ _ _=>.atom) (fun _ _ _ _ _=>.atom) (fun _=>.atom) (fun _=>.atom) (fun _ _ _ _=>.atom) (fun _ _ _=>.atom) (fun _ _=>.atom) (fun _ _ _ _=>.atom) (fun _ _=>.atom) (fun _ _=>.atom) (fun _ _ _ _ _=>.atom) x
def acj{α:Type}(st:St)(x:X)(k:St→Bool→R α):R α:=match eI st.pc x with
 | some b=>k st b
 | none=>.br x (k {st with pc:=(x,true)::st.pc} true) (k {st with pc:=(x,false)::st.pc} false)
def split{α:Type}(st:St)(x:X)(k:St→Bool→R α):R α:=match x.sv with
 | .lit n=>k st (!aQ n 0)
 | .atom=>acj st x k
 | .deep=>cT st x k
theorem mM{α:Type}(st:St)(x:X)(k:St→Bool→R α):split st x k=cT st x k:=by cases x<;>rfl
theorem C7{α:Type}(st:St)(n:Int)(k:St→Bool→R α):split st (.lit n) k=k st (!aQ n 0):=rfl
def je:Bool→Bool→Bool
 | true,b=>b
 | false,true=>false
 | false,false=>true
def XC.beq:XC→XC→Bool
 | .known a,.known b=>a.beq b
 | .room a,.room b=>a.beq b
 | _,_=>false
mutual
def V.beq:V→V→Bool
 | .int k x,.int j y=>bq k j&&x.beq y
 | .bool x,.bool y=>x.beq y
 | .str x,.str y=>x.beq y
 | .ptr b o,.ptr c p=>Nat.beq b c&&Nat.beq o p
 | .nilptr,.nilptr=>true
 | .slice b o n c,.slice b' o' n' c'=>Nat.beq b b'&&Nat.beq o o'&&Nat.beq n n'&&(match c,c' with
  | .known x,.known y=>Nat.beq x y
  | .room x y z,.room x' y' z'=>Nat.beq x x'&&Nat.beq y y'&&Nat.beq z z'
  | _,_=>false)
 | .nilslice,.nilslice=>true
 | .map b,.map c=>Nat.beq b c
 | .nilmap,.nilmap=>true
 | .func (.func f) a b,.func (.func g) c d=>Nat.beq f g&&V.eV a c&&V.eV b d
 | .yield b,.yield c=>Nat.beq b c
 | .nilfunc,.nilfunc=>true
 | .iface t v,.iface u w=>Nat.beq t u&&v.beq w
 | .niliface,.niliface=>true
 | .agg l,.agg m=>V.eV l m
 | .tuple l,.tuple m=>V.eV l m
 | .wptr b o,.wptr c p=>Nat.beq b c&&Nat.beq o p
 | .wslice b o n c,.wslice b' o' n' c'=>Nat.beq b b'&&Nat.beq o o'&&n.beq n'&&c.beq c'
 | .ite c a b,.ite d e f=>c.beq d&&a.beq e&&b.beq f
 | .sptr b o n i,.sptr c p m j=>Nat.beq b c&&Nat.beq o p&&Nat.beq n m&&i.beq j
 | .xslice w b off es n c,.xslice w' b' off' es' n' c'=>je w w'&&Nat.beq b b'&&off.beq off'&&Nat.beq es es'&&n.beq n'&&c.beq c'
 | .xptr w b i es c,.xptr w' b' i' es' c'=>je w w'&&Nat.beq b b'&&i.beq i'&&Nat.beq es es'&&Nat.beq c c'
 | .any i,.any j=>Nat.beq i j
 | _,_=>false
def V.eV:List V→List V→Bool
 | [],[]=>true
 | v::l,w::m=>v.beq w&&V.eV l m
 | _,_=>false
end
def V.isIte:V→Bool
 | .ite _ _ _=>true
 | .any _=>true
 | _=>false
def Cm(c:X)(a b:V):V:=match a.beq b with
 | true=>a
 | false=>.ite c a b
mutual
def bV(c:X)(a:V)(b:V):V:=match a with
 | .int k x=>match b with
  | .int j y=>match bq k j with
   | true=>.int k (mkIte c x y)
   | false=>.ite c (.int k x) (.int j y)
  | b=>.ite c (.int k x) b
 | .bool x=>match b with
  | .bool y=>.bool (mkIte c x y)
  | b=>.ite c (.bool x) b
 | .str x=>match b with
  | .str y=>.str (vN c x y)
  | b=>.ite c (.str x) b
 | .agg l=>match b with
  | .agg m=>match dv c l m with
   | some r=>.agg r
   | none=>.ite c (.agg l) (.agg m)
  | b=>.ite c (.agg l) b
 | .tuple l=>match b with
  | .tuple m=>match dv c l m with
   | some r=>.tuple r
   | none=>.ite c (.tuple l) (.tuple m)
  | b=>.ite c (.tuple l) b
 | .iface t v=>Cm c (.iface t v) b
 | .func f x y=>Cm c (.func f x y) b
 | .ite d x y=>Cm c (.ite d x y) b
 | a=>Cm c a b
def dv(c:X)(l:List V)(m:List V):Option (List V):=match l with
 | []=>match m with
  | []=>some []
  | _::_=>none
 | a::l=>match m with
  | []=>none
  | b::m=>match dv c l m with
   | some r=>some (bV c a b::r)
   | none=>none
end
def dK{α:Type}:Nat→St→V→(St→V→R α)→R α
 | 0,st,v,k=>k st v
 | n+1,st,v,k=>match v with
  | .ite c a b=>split st c fun st t=>match t with
   | true=>dK n st a k
   | false=>dK n st b k
  | v=>k st v
def C0(i:X):Nat→List V→Option V
 | _,[]=>none
 | j,v::l=>match l with
  | []=>some v
  | _=>match C0 i (j+1) l with
   | some r=>some (bV (mkEq i (.lit (Int.ofNat j))) v r)
   | none=>none
def X9(k:IntKind)(f:Nat):Nat→List V→Bool
 | _,[]=>true
 | j,v::l=>match v with
  | .int k' (.wrap k2 (.fn1 g (.lit n)))=>match bq k' k,bq k2 k with
   | true,true=>match Nat.beq g f,aQ n (Int.ofNat j) with
    | true,true=>X9 k f (j+1) l
    | _,_=>false
   | _,_=>false
  | _=>false
def Qg(i:X)(l:List V):Option V:=match l with
 | .int k (.wrap _ (.fn1 f (.lit _)))::_=>match X9 k f 0 l with
  | true=>some (.int k (.wrap k (.fn1 f i)))
  | false=>C0 i 0 l
 | l=>C0 i 0 l
def jx(i:X)(v:V):Nat→List V→List V
 | _,[]=>[]
 | j,u::l=>bV (mkEq i (.lit (Int.ofNat j))) v u::jx i v (j+1) l
mutual
def ofValue:Value→Option V
 | .bool b=>some (.bool (.lit (a7 b)))
 | .int k n=>some (.int k (.lit n))
 | .string s=>some (.str (.slit (s.data.toList.map UInt8.toNat)))
 | .pointer none=>some .nilptr
 | .slice none 0 0=>some .nilslice
 | .map none=>some .nilmap
 | .func f ⟨[]⟩ ⟨[]⟩=>match f with
  | .yield _=>none
  | f=>some (.func f [] [])
 | .nilFunc=>some .nilfunc
 | .iface t v=>(ofValue v).map (.iface t)
 | .nilIface=>some .niliface
 | .agg ⟨l⟩=>(ofValues l).map .agg
 | .tuple ⟨l⟩=>(ofValues l).map .tuple
 | _=>none
def ofValues:List Value→Option (List V)
 | []=>some []
 | v::l=>match ofValue v,ofValues l with
  | some a,some b=>some (a::b)
  | _,_=>none
end
def V.cells:V→List V
 | .agg l=>l
 | v=>[v]
inductive Ex where
 | normal
 | exit (id:Nat)
 | ret
 | panic (v:V)
 | die (v:V)
structure Fr where
 tm:List V
 df:List bL
abbrev cC:=R (Ex×Fr×St)
structure TD where
 d:TypeDesc
 size:Nat
 bytes:Nat
 zero:List V
 agg:Bool
 flat:Bool
structure Cx where
 tt:T TD
 ft:T Func
 sm:FuncId→Option (List V→St→R (V×St))
 ng:Nat
 dm:FuncId→Option (List V→St→Option V→R (Option V×St)):=fun _=>none
 mg:Bool:=false
 js:Bool:=false
 sx:Bool:=false
 lp:Option (Option Nat→Code→Fr→St→Option cC):=none
 so:FuncId→List V→St→Bool:=fun _ _ _=>true
def dq(cx:Cx)(tm:List V):Operand→Option V
 | .tmp t=>match nth tm t with
  | some v=>match v.isIte with
   | true=>none
   | false=>some v
  | none=>some .undef
 | .const v=>ofValue v
 | .global g=>if Nat.blt g cx.ng then some (.ptr g 0) else none
 | .func f=>some (.func (.func f) [] [])
def oE(cx:Cx)(tm:List V)(o:Operand):Option V:=match dq cx tm o with
 | some v=>some v
 | none=>match o with
  | .tmp t=>match nth tm t with
   | some v=>match v with
    | .any k=>some (.any k)
    | _=>none
   | none=>none
  | _=>none
def newObj(st:St)(o:au):St:={st with h:=st.h.set st.n o,n:=st.n+1}
def rowAt(h:H)(b:Nat):Option (List V):=
 match h.get b with
 | some (.cells c _ _)=>some c
 | some (.ro _ c)=>some c
 | _=>none
def cv(h:H)(b off n:Nat):Option (List V):=
 match rowAt h b with
 | some c=>takeN n (iO c off)
 | none=>none
def V.one:V→Bool
 | .any _=>false
 | .agg _=>false
 | .tuple _=>false
 | .ite _ a b=>a.one&&b.one
 | _=>true
def rD:List V→Bool
 | []=>true
 | v::l=>match v.one with
  | true=>rD l
  | false=>false
def putAt(h:H)(b off:Nat)(vs:List V):Option H:=
 match h.get b with
 | some (.cells c e w)=>match rD vs,AA c off vs with
  | true,some c=>some (h.set b (.cells c e w))
  | _,_=>none
 | _=>none
def V.alN:V→Bool
 | .tuple []=>true
 | _=>false
def nZ(tt:T TD)(t:TypeId)(cs:List V)(off:Nat):Option V:=
 match tt.get t with
 | some d=>if d.agg then (match takeN d.size (iO cs off) with | some l=>some (.agg l) | none=>none) else nth cs off
 | none=>none
def mkAnd(a b:X):X:=mkIte a b (.lit 0)
def eqFields(eq:TypeId→V→V→Option X)(tt:T TD)(xs ys:List V):List Field→Option X
 | []=>some (.lit 1)
 | f::fs=>
  match nZ tt f.type xs f.offset,nZ tt f.type ys f.offset with
  | some a,some b=>
   match eq f.type a b,eqFields eq tt xs ys fs with
   | some e,some r=>some (mkAnd e r)
   | _,_=>none
  | _,_=>none
def sY(eq:V→V→Option X)(tt:T TD)(elem:TypeId)(n:Nat)(xs ys:List V):Nat→Nat→Option X
 | _,0=>some (.lit 1)
 | i,m+1=>
  match nZ tt elem xs (i*n),nZ tt elem ys (i*n) with
  | some a,some b=>
   match eq a b,sY eq tt elem n xs ys (i+1) m with
   | some e,some r=>some (mkAnd e r)
   | _,_=>none
  | _,_=>none
def mkIff(a b:X):X:=
 match a,b with
 | .lit m,.lit n=>.lit (a7 (aQ m 0==aQ n 0))
 | .lit m,b=>if aQ m 0 then mkNot b else b
 | a,.lit m=>if aQ m 0 then mkNot a else a
 | a,b=>if a.beq b then .lit 1 else .eq (mkNot a) (mkNot b)
def Dh(tt:T TD):Nat→TypeId→V→V→Option X
 | 0,_,_,_=>none
 | d+1,t,x,y=>
  match tt.get t with
  | none=>none
  | some td=>
   match td.d,x,y with
   | .bool,.bool a,.bool b=>some (mkIff a b)
   | .int _,.int k a,.int k' b=>if bq k k' then some (mkEq a b) else none
   | .string,.str a,.str b=>some (mkSeq a b)
   | .pointer _,.nilptr,.nilptr=>some (.lit 1)
   | .pointer _,.nilptr,.ptr _ _=>some (.lit 0)
   | .pointer _,.ptr _ _,.nilptr=>some (.lit 0)
   | .interface _,.niliface,.iface _ _=>some (.lit 0)
   | .interface _,.iface _ _,.niliface=>some (.lit 0)
   | .struct fields,.agg xs,.agg ys=>if td.flat then eqFields (Dh tt d) tt xs ys fields.toList else none
   | .array len elem,.agg xs,.agg ys=>
    if td.flat then
     match tt.get elem with
     | some e=>sY (Dh tt d elem) tt elem e.size xs ys 0 len
     | none=>none
    else none
   | .slice _,.nilslice,.nilslice=>some (.lit 1)
   | .slice _,.nilslice,.slice _ _ _ _=>some (.lit 0)
   | .slice _,.slice _ _ _ _,.nilslice=>some (.lit 0)
   | .slice _,.nilslice,.wslice _ _ _ _=>some (.lit 0)
   | .slice _,.wslice _ _ _ _,.nilslice=>some (.lit 0)
   | .slice _,.nilslice,.xslice _ _ _ _ _ _=>some (.lit 0)
   | .slice _,.xslice _ _ _ _ _ _,.nilslice=>some (.lit 0)
   | .map _ _,.nilmap,.nilmap=>some (.lit 1)
   | .map _ _,.nilmap,.map _=>some (.lit 0)
   | .map _ _,.map _,.nilmap=>some (.lit 0)
   | .func _ _ _,.nilfunc,.nilfunc=>some (.lit 1)
   | .func _ _ _,.nilfunc,.func _ _ _=>some (.lit 0)
   | .func _ _ _,.func _ _ _,.nilfunc=>some (.lit 0)
   | .func _ _ _,.nilfunc,.yield _=>some (.lit 0)
   | .func _ _ _,.yield _,.nilfunc=>some (.lit 0)
   | _,_,_=>none
inductive OR where
 | val (v:V)
 | skip
 | enter (f:FuncId) (args:List V)
 | round (l:Nat) (args:List V)
 | panic (v:V)
 | defer (d:bL)
abbrev cq:=R (OR×St)
def bm(st:St)(v:V):cq:=.ok (.val v,st)
def fG(st:St)(v:Option V)(s:String):cq:=
 match v with
 | some v=>.ok (.val v,st)
 | none=>.stuck s
def oA(pc:PC)(x:X):X:=match x with
 | .wrap k e=>match A2 pc with
  | true=>match Bm pc (.lit (jT k)) e,Bm pc e (.lit (kR k)) with
   | true,true=>e
   | _,_=>.wrap k e
  | false=>.wrap k e
 | x=>x
def DB(st:St)(op:BinOp)(k:IntKind)(a b:X):cq:=
 match op with
 | .add=>bm st (.int k (oA st.pc (mkAdd k a b)))
 | .sub=>bm st (.int k (oA st.pc (mkSub k a b)))
 | .mul=>bm st (.int k (oA st.pc (mkMul k a b)))
 | .quo=>split st (mkEq b (.lit 0)) fun st z=>match z with
  | true=>.stuck "division by zero"
  | false=>bm st (.int k (NM k a b))
 | .rem=>split st (mkEq b (.lit 0)) fun st z=>match z with
  | true=>.stuck "division by zero"
  | false=>bm st (.int k (xg a b))
 | .and=>bm st (.int k (nt 0 k a b))
 | .or=>bm st (.int k (nt 1 k a b))
 | .xor=>bm st (.int k (nt 2 k a b))
 | .andNot=>bm st (.int k (nt 3 k a b))
 | .eql=>bm st (.bool (mkEq a b))
 | .neq=>bm st (.bool (mkNot (mkEq a b)))
 | .lss=>bm st (.bool (mkLt a b))
 | .leq=>bm st (.bool (mkLe a b))
 | .gtr=>bm st (.bool (mkLt b a))
 | .geq=>bm st (.bool (mkLe b a))
 | _=>.stuck "binop"
def Ra(st:St)(op:BinOp)(k:IntKind)(a b:X):cq:=DB st op k (KE st.pc a) (KE st.pc b)
def AZ(st:St)(op:BinOp)(k:IntKind)(a b:X):cq:=
 split st (mkLt b (.lit 0)) fun st neg=>match neg with
  | true=>.stuck "negative shift"
  | false=>match op with
   | .shl=>bm st (.int k (Ij k a b))
   | .shr=>bm st (.int k (tF k a b))
   | _=>.stuck "shift"
def yj:X:=.lit 1000000000
def Fs(a:X):X:=match Pv a with
 | some n=>match Nat.ble n 1000000000 with
  | true=>.lit 1
  | false=>mkLe (z7 a) yj
 | none=>mkLe (z7 a) yj
def Lb(st:St)(op:BinOp)(a b:X):cq:=
 match op with
 | .add=>split st (Fs a) fun st ok=>match ok with
  | false=>.stuck "long strings"
  | true=>split st (Fs b) fun st ok=>match ok with
   | false=>.stuck "long strings"
   | true=>bm st (.str (lk a b))
 | .eql=>bm st (.bool (mkSeq a b))
 | .neq=>bm st (.bool (mkNot (mkSeq a b)))
 | _=>.stuck "string op"
def Q9(cx:Cx)(st:St)(op:BinOp)(t:TypeId)(x y:V):cq:=
 match op,Dh cx.tt 100 t x y with
 | .eql,some e=>bm st (.bool e)
 | .neq,some e=>bm st (.bool (mkNot e))
 | _,_=>.stuck "equal"
def Ya:BinOp→Bool
 | .shl=>true
 | .shr=>true
 | _=>false
def Ry(cx:Cx)(st:St)(op:BinOp)(t:TypeId)(x y:V):cq:=
 match x,y with
 | .int k a,.int j b=>match Ya op,bq k j with
  | true,_=>AZ st op k a b
  | false,true=>Ra st op k a b
  | false,false=>.stuck "kinds"
 | .str a,.str b=>Lb st op a b
 | x,y=>Q9 cx st op t x y
def aay(st:St)(op:UnOp)(x:V):cq:=
 match op,x with
 | .neg,.int k a=>bm st (.int k (mkSub k (.lit 0) a))
 | .xor,.int k a=>bm st (.int k (nt 2 k (.lit (if k.signed then -1 else k.max)) a))
 | .not,.bool a=>bm st (.bool (mkNot a))
 | _,_=>.stuck "unop"
def MZ(h:H)(b off k:Nat):Option (List V):=
 match Nat.beq k 0 with
 | true=>some []
 | false=>match h.get b with
  | some (.win _ c (.lit (.ofNat m)) es)=>match Nat.ble (off+k) (m*es) with
   | true=>takeN k (iO c off)
   | false=>none
  | _=>none
def jE(h:H)(size n:Nat):V→Option (List V)
 | .slice b off _ _=>cv h b off (n*size)
 | .nilslice=>some []
 | .rest _ _ _ _=>match n with
  | 0=>some []
  | _=>none
 | .wslice b off _ _=>MZ h b off (n*size)
 | .str (.slit l)=>some ((l.take n).map fun c=>.int .u8 (.lit ((c % 256:Nat):Int)))
 | _=>none
def Ew:V→Option Nat
 | .slice _ _ n _=>some n
 | .wslice _ _ (.lit (.ofNat n)) _=>some n
 | .nilslice=>some 0
 | .rest _ _ _ _=>some 0
 | .str (.slit l)=>some l.length
 | _=>none
def Rk:X→X
 | .lit n=>.slit [n.toNat % 256]
 | x=>.sfn 0 x
def De:List V→Option X
 | []=>some (.slit [])
 | v::l=>match v with
  | .int .u8 x=>match De l with
   | some r=>some (lk (Rk x) r)
   | none=>none
  | _=>none
def Mz:V→Option Nat
 | .slice _ _ n _=>some n
 | .wslice _ _ (.lit (.ofNat n)) _=>some n
 | .nilslice=>some 0
 | _=>none
def RB(cx:Cx)(st:St)(src dst:TypeId)(x:V):cq:=
 match cx.tt.get src,cx.tt.get dst with
 | some sd,some td=>match sd.d,td.d with
  | .slice elem,.string=>match cx.tt.get elem,Mz x with
   | some ed,some n=>match ed.d,jE st.h 1 n x with
    | .int .u8,some cs=>match De cs with
     | some r=>bm st (.str r)
     | none=>.stuck "text"
    | _,_=>.stuck "text"
   | _,_=>.stuck "text"
  | _,_=>.stuck "convert"
 | _,_=>.stuck "convert"
def ve(cx:Cx)(st:St)(src dst:TypeId)(x:V):cq:=
 match cx.tt.get src,cx.tt.get dst,x with
 | some _,some td,.int _ a=>match td.d with
  | .int k=>bm st (.int k (mkWrap k a))
  | _=>.stuck "convert"
 | some _,some td,.str a=>match td.d with
  | .string=>bm st (.str a)
  | _=>.stuck "convert string"
 | _,_,x=>RB cx st src dst x
def Ls(c a b:V):Option V:=
 match c with
 | .bool x=>match x with
  | .lit n=>some (if aQ n 0 then b else a)
  | x=>match a,b with
   | .int k u,.int j v=>if bq k j then some (.int k (mkIte x u v)) else none
   | .bool u,.bool v=>some (.bool (mkIte x u v))
   | .str u,.str v=>some (.str (vN x u v))
   | _,_=>none
 | _=>none
def placeOf(tt:T TD)(d:TypeDesc)(i:Nat):Option (Nat×Nat):=
 match d with
 | .struct fields=>match nth fields.toList i with
  | some f=>match tt.get f.type with
   | some td=>some (f.offset,td.size)
   | none=>none
  | none=>none
 | .array _ elem=>match tt.get elem with
  | some td=>some (i*td.size,td.size)
  | none=>none
 | _=>none
def iR(tt:T TD):List Field→Bool
 | []=>true
 | f::fs=>match tt.get f.type with
  | some _=>iR tt fs
  | none=>false
def na(tt:T TD):TypeDesc→Bool
 | .struct fields=>iR tt fields.toList
 | .array _ elem=>match tt.get elem with
  | some _=>true
  | none=>false
 | _=>false
def dr (place:Nat→Option (Nat×Nat)) (cells:List V):List (Nat×V)→Option (List V)
 | []=>some cells
 | (i,v)::rest=>
  match place i with
  | none=>none
  | some (off,size)=>
   let vs:=v.cells
   if Nat.beq vs.length size then
    match AA cells off vs with
    | some cells=>dr place cells rest
    | none=>none
   else none
def eJ(cx:Cx)(tm:List V):List (Nat×Operand)→Option (List (Nat×V))
 | []=>some []
 | (i,o)::l=>match dq cx tm o,eJ cx tm l with
  | some v,some r=>some ((i,v)::r)
  | _,_=>none
def fR(cx:Cx)(tm:List V):List Operand→Option (List V)
 | []=>some []
 | o::l=>match dq cx tm o,fR cx tm l with
  | some v,some r=>some (v::r)
  | _,_=>none
def iE(cx:Cx)(tm:List V):List Operand→Option (List V)
 | []=>some []
 | o::l=>match oE cx tm o,iE cx tm l with
  | some v,some r=>some (v::r)
  | _,_=>none
def bX(z:List V):Nat→List V
 | 0=>[]
 | n+1=>z++bX z n
def mD{α:Type}(st:St)(i:X)(lo:Nat):Nat→(St→Nat→R α)→R α
 | 0,_=>.stuck "index out of range"
 | m+1,k=>split st (mkEq i (.lit lo)) fun st is=>if is then k st lo else mD st i (lo+1) m k
def index{α:Type}(st:St)(i:X)(len:Nat)(k:St→Nat→R α):R α:=
 match i with
 | .lit (.ofNat n)=>if Nat.blt n len then k st n else .stuck "index out of range"
 | .lit _=>.stuck "index out of range"
 | i=>split st (mkLe (.lit 0) i) fun st a=>split st (mkLt i (.lit len)) fun st b=>if a&&b then mD st i 0 len k else .stuck "index out of range"
def kD:V→Option Nat
 | .int _ (.lit (.ofNat n))=>some n
 | _=>none
def aqB(c:X)(a b:V):Option V:=
 match a,b with
 | .int k u,.int j v=>if bq k j then some (.int k (mkIte c u v)) else none
 | .bool u,.bool v=>some (.bool (mkIte c u v))
 | .str u,.str v=>some (.str (vN c u v))
 | _,_=>none
def cF{α:Type}(st:St)(key:V):List (V×V)→Nat→(St→Option (Nat×V)→R α)→R α
 | [],_,k=>k st none
 | (key',v)::es,i,k=>
  match key,key' with
  | .int a x,.int b y=>if bq a b then split st (mkEq x y) fun st is=>if is then k st (some (i,v)) else cF st key es (i+1) k else .stuck "key"
  | .str x,.str y=>split st (mkSeq x y) fun st is=>if is then k st (some (i,v)) else cF st key es (i+1) k
  | .bool x,.bool y=>split st (mkIff x y) fun st is=>if is then k st (some (i,v)) else cF st key es (i+1) k
  | _,_=>.stuck "key"
def tx:TypeDesc→V→Bool
 | .int _,.int _ _=>true
 | .string,.str _=>true
 | .bool,.bool _=>true
 | _,_=>false
def zeroV(td:TD):Option V:=if td.agg then some (.agg td.zero) else td.zero.head?
def jU(ed:TD)(ok:Bool)(st:St) (r:Option (Nat×V)):cq:=
 match r,ok with
 | some (_,v),true=>bm st (.tuple [v,.bool (.lit 1)])
 | some (_,v),false=>bm st v
 | none,true=>match zeroV ed with
  | some z=>bm st (.tuple [z,.bool (.lit 0)])
  | none=>.stuck "lookup: zero"
 | none,false=>match zeroV ed with
  | some z=>bm st z
  | none=>.stuck "lookup: zero"
def s8(cx:Cx)(st:St)(t:TypeId)(x ix:V)(ok:Bool):cq:=
 match cx.tt.get t with
 | some td=>match td.d with
  | .map keyT elem=>
   match cx.tt.get keyT,cx.tt.get elem with
   | some kd,some ed=>
    match tx kd.d ix with
    | true=>match x with
     | .nilmap=>jU ed ok st none
     | .map b=>match st.h.get b with
      | some (.map es)=>cF st ix es 0 (jU ed ok)
      | _=>.stuck "lookup: no map"
     | _=>.stuck "lookup"
    | false=>.stuck "lookup key"
   | _,_=>.stuck "lookup types"
  | _=>.stuck "lookup"
 | none=>.stuck "lookup"
def wA(v:V):List (V×V)→Nat→List (V×V)
 | [],_=>[]
 | (k,u)::l,n=>match n with
  | 0=>(k,v)::l
  | m+1=>(k,u)::wA v l m
def wK(b:Nat) (es:List (V×V)) (key v:V) (st:St) (r:Option (Nat×V)):cq:=
 match r with
 | some (i,_)=>.ok (.skip,{st with h:=st.h.set b (.map (wA v es i))})
 | none=>.ok (.skip,{st with h:=st.h.set b (.map (es++[(key,v)]))})
def k9(cx:Cx)(st:St)(t:TypeId)(x key v:V):cq:=
 match cx.tt.get t with
 | some td=>match td.d with
  | .map keyT _=>
   match cx.tt.get keyT with
   | some kd=>
    match tx kd.d key with
    | true=>match x with
     | .map b=>match st.h.get b with
      | some (.map es)=>cF st key es 0 (wK b es key v)
      | _=>.stuck "update: no map"
     | _=>.stuck "update"
    | false=>.stuck "update key"
   | none=>.stuck "update"
  | _=>.stuck "update"
 | none=>.stuck "update"
def aeu(len:Nat):Cp→Bool
 | .known n=>Nat.ble len n
 | .room _ _ _=>true
def b7(len cap:Nat)(lo hi:Option V):Option (Nat×Nat):=
 match (match hi with | none=>some len | some v=>kD v) with
 | none=>none
 | some h=>
  match (match lo with | none=>some 0 | some v=>kD v) with
  | none=>none
  | some l=>if Nat.ble l h&&Nat.ble h cap then some (l,h) else none
def bf(cap:Nat)(lo hi:Option V)(mx:V):Option (Nat×Nat×Nat):=
 match kD mx with
 | none=>none
 | some m=>match hi with
  | none=>none
  | some vh=>match kD vh with
   | none=>none
   | some h=>match (match lo with | none=>some 0 | some v=>kD v) with
    | none=>none
    | some l=>if Nat.ble l h&&(Nat.ble h m&&Nat.ble m cap) then some (l,h,m) else none
def Gr(cx:Cx)(st:St)(t:TypeId)(x:V)(lo hi:Option V)(mx:V):cq:=
 match cx.tt.get t with
 | none=>.stuck "slice 1"
 | some td=>match td.d,x with
  | .slice elem,.slice b off _ (.known c)=>match cx.tt.get elem with
   | none=>.stuck "slice 2"
   | some ed=>match bf c lo hi mx with
    | some (l,h,m)=>bm st (.slice b (if Nat.beq m l then off else off+l*ed.size) (h-l) (.known (m-l)))
    | none=>.stuck "slice bounds"
  | .slice elem,.slice b off _ (.room _ _ n)=>match cx.tt.get elem with
   | none=>.stuck "slice 3"
   | some ed=>match bf n lo hi mx with
    | some (l,h,m)=>bm st (.slice b (if Nat.beq m l then off else off+l*ed.size) (h-l) (.known (m-l)))
    | none=>.stuck "slice bounds"
  | .slice elem,.nilslice=>match cx.tt.get elem with
   | none=>.stuck "slice 4"
   | some _=>match bf 0 lo hi mx with
    | some _=>bm st .nilslice
    | none=>.stuck "slice bounds"
  | .slice elem,.wslice b off _ _=>match cx.tt.get elem with
   | none=>.stuck "slice 5"
   | some _=>match bf 0 lo hi mx with
    | some _=>bm st (.wslice b off (.lit (.ofNat 0)) (.lit (.ofNat 0)))
    | none=>.stuck "slice bounds"
  | .array n elem,.ptr b off=>match cx.tt.get elem with
   | none=>.stuck "slice 6"
   | some ed=>match bf n lo hi mx with
    | some (l,h,m)=>bm st (.slice b (if Nat.beq m l then off else off+l*ed.size) (h-l) (.known (m-l)))
    | none=>.stuck "slice bounds"
  | _,_=>.stuck "slice: max"
def D6(cx:Cx)(st:St)(t:TypeId)(x:V)(lo hi mx:Option V):cq:=
 match mx with
 | some m=>Gr cx st t x lo hi m
 | none=>
  match cx.tt.get t with
  | none=>.stuck "slice 7"
  | some td=>match td.d,x with
   | .string,.str (.slit l)=>match b7 l.length l.length lo hi with
    | some (a,b)=>bm st (.str (.slit ((l.drop a).take (b-a))))
    | none=>.stuck "slice bounds"
   | .slice elem,.slice b off len cap=>
    match cx.tt.get elem with
    | none=>.stuck "slice 8"
    | some ed=>
     match cap with
     | .known c=>match b7 len c lo hi with
      | some (l,h)=>bm st (.slice b (if Nat.beq c l then off else off+l*ed.size) (h-l) (.known (c-l)))
      | none=>.stuck "slice bounds"
     | .room b' o n=>match b7 len n lo hi with
      | some (l,h)=>match Nat.beq l 0,Nat.blt l n with
       | true,_=>bm st (.slice b off h (.room b' o n))
       | false,true=>bm st (.slice b (off+l*ed.size) (h-l) (.room b' (o+l) (n-l)))
       | false,false=>match Nat.beq o 0,Nat.beq b b' with
        | true,true=>bm st (.rest b off l ed.size)
        | _,_=>.stuck "slice: rest"
      | none=>.stuck "slice bounds"
   | .slice elem,.nilslice=>match cx.tt.get elem with
    | none=>.stuck "slice 9"
    | some _=>match b7 0 0 lo hi with
     | some _=>bm st .nilslice
     | none=>.stuck "slice bounds"
   | .array n elem,.ptr b off=>
    match cx.tt.get elem with
    | none=>.stuck "slice 10"
    | some ed=>match b7 n n lo hi with
     | some (l,h)=>bm st (.slice b (if Nat.beq n l then off else off+l*ed.size) (h-l) (.known (n-l)))
     | none=>.stuck "slice bounds"
   | _,_=>.stuck "slice 11"
def CK.cell(k:CK)(x:X):V:=match k with
 | .int k=>.int k x
 | .bool=>.bool x
def CK.amU(k:CK)(f:Nat)(i:X):X:=match k with
 | .int k=>.wrap k (.fn1 f i)
 | .bool=>.eq (.fn1 f i) (.lit 1)
def MB(pc:PC)(i j:X):Option Bool:=match i.beq j with
 | true=>some true
 | false=>y3 pc (.eq i j)
def A.get(pc:PC)(k:CK)(c:Nat)(i:X):A→X
 | .base t=>k.amU (t+c) i
 | .fill x=>x
 | .put a j c' x=>match Nat.beq c c' with
  | true=>match MB pc i j with
   | some true=>x
   | some false=>a.get pc k c i
   | none=>mkIte (.eq i j) x (a.get pc k c i)
  | false=>a.get pc k c i
def A.cells(pc:PC)(a:A)(i:X):Nat→List CK→List V
 | _,[]=>[]
 | c,k::ks=>k.cell (a.get pc k c i)::a.cells pc i (c+1) ks
def AW(h:H)(w:Bool)(b:Nat):Option (A×List CK×X):=match h.get b with
 | some (.arr a ks len _ _)=>match w with
  | false=>some (a,ks,len)
  | true=>none
 | some (.warr _ t ks len)=>match w with
  | true=>some (.base t,ks,len)
  | false=>none
 | _=>none
def gS(st:St)(x:X)(k:St→cq):cq:=split st x fun st t=>match t with
 | true=>k st
 | false=>.stuck "it must be so"
def mR(a b:X):X:=match FF a with
 | true=>b
 | false=>match lY a with
  | some m=>match lY b with
   | some n=>.lit (m+n)
   | none=>.add a b
  | none=>match FF b with
   | true=>a
   | false=>.add a b
def MM(a b:X):X:=match FF b with
 | true=>a
 | false=>match lY a with
  | some m=>match lY b with
   | some n=>.lit (m-n)
   | none=>.sub a b
  | none=>.sub a b
def nT(st:St)(w:Bool)(b:Nat)(off:X)(es:Nat)(len i:X)(size:Nat):cq:=match Nat.beq size es,Bm st.pc (.lit 0) off with
 | true,true=>gS st (mkLe (.lit 0) i) fun st=>gS st (mkLt i len) fun st=>bm st (.xptr w b (mR off i) es 0)
 | _,_=>.stuck "index of a row"
def Dl(st:St)(td:TD)(w:Bool)(b:Nat)(i:X)(es c:Nat):cq:=match AW st.h w b with
 | some (a,ks,len)=>match Nat.beq ks.length es,Bm st.pc (.lit 0) i,Zw st.pc i len with
  | true,true,true=>match takeN td.size (iO ks c) with
   | some ks=>match a.cells st.pc i c ks with
    | cs=>match td.agg with
     | true=>bm st (.agg cs)
     | false=>match cs with
      | [v]=>bm st v
      | _=>.stuck "load of a row"
   | none=>.stuck "load of a row"
  | _,_,_=>.stuck "load of a row: not within it"
 | none=>.stuck "load of a row"
def dB(i:X):Nat→List CK→List V→A→Option A
 | _,[],[],a=>some a
 | c,k::ks,v::vs,a=>match k,v with
  | .int k,.int j x=>match bq k j with
   | true=>dB i (c+1) ks vs (.put a i c x)
   | false=>none
  | .bool,.bool x=>dB i (c+1) ks vs (.put a i c x)
  | _,_=>none
 | _,_,_,_=>none
def FC(st:St)(td:TD)(w:Bool)(b:Nat)(i:X)(es c:Nat)(v:V):cq:=match w,st.h.get b with
 | false,some (.arr a ks len e wd)=>match Nat.beq ks.length es&&Nat.ble c es,Bm st.pc (.lit 0) i,Zw st.pc i len,Nat.beq v.cells.length td.size with
  | true,true,true,true=>match takeN td.size (iO ks c) with
   | some ks'=>match dB i c ks' v.cells a with
    | some a=>.ok (.skip,{st with h:=st.h.set b (.arr a ks len e wd)})
    | none=>.stuck "store in a row: kinds"
   | none=>.stuck "store in a row"
  | _,_,_,_=>.stuck "store in a row: not within it"
 | _,_=>.stuck "store in a row"
def lS(v:Option V)(d:X):Option X:=match v with
 | none=>some d
 | some v=>match v with
  | .int _ x=>some x
  | _=>none
def IC(st:St)(w:Bool)(b:Nat)(off:X)(es:Nat)(l h m:X):cq:=split st (mkEq m l) fun st t=>match t with
 | true=>bm st (.xslice w b off es (MM h l) (.known (MM m l)))
 | false=>bm st (.xslice w b (mR off l) es (MM h l) (.known (MM m l)))
def FB(cx:Cx)(st:St)(t:TypeId)(w:Bool)(b:Nat)(off:X)(es:Nat)(len:X)(cap:XC)(lo hi mx:Option V):cq:=
 match cx.tt.get t with
 | some td=>match td.d with
  | .slice elem=>match cx.tt.get elem with
   | some ed=>match Nat.beq ed.size es,Bm st.pc (.lit 0) off,lS lo (.lit 0),lS hi len with
    | true,true,some l,some h=>gS st (mkLe (.lit 0) len) fun st=>gS st (mkLe (.lit 0) l) fun st=>gS st (mkLe l h) fun st=>match mx with
     | none=>match cap with
      | .known c=>gS st (mkLe h c) fun st=>IC st w b off es l h c
      | .room lo=>match FF l with
       | true=>gS st (mkLe (mR off h) lo) fun st=>bm st (.xslice w b off es h (.room lo))
       | false=>gS st (mkLe (mR off h) lo) fun st=>gS st (mkLt (mR off l) lo) fun st=>bm st (.xslice w b (mR off l) es (MM h l) (.room lo))
     | some m=>match hi,lS (some m) len with
      | some _,some m=>gS st (mkLe h m) fun st=>match cap with
       | .known c=>gS st (mkLe m c) fun st=>IC st w b off es l h m
       | .room lo=>gS st (mkLe (mR off m) lo) fun st=>IC st w b off es l h m
      | _,_=>.stuck "slice of a row"
    | _,_,_,_=>.stuck "slice of a row"
   | none=>.stuck "slice of a row"
  | _=>.stuck "slice of a row"
 | none=>.stuck "slice of a row"
def vJ:List V→Option (List CK)
 | []=>some []
 | v::l=>match vJ l with
  | some ks=>match v with
   | .int k x=>match FF x with
    | true=>some (.int k::ks)
    | false=>none
   | .bool x=>match FF x with
    | true=>some (.bool::ks)
    | false=>none
   | _=>none
  | none=>none
def iW(ks:List CK)(len:X):Nat→Nat→List V→A→Option A
 | _,0,vs,a=>match vs with
  | []=>some a
  | _=>none
 | j,n+1,vs,a=>match takeN ks.length vs with
  | some cs=>match dB (mR len (.lit (Int.ofNat j))) 0 ks cs a with
   | some a=>iW ks len (j+1) n (iO vs ks.length) a
   | none=>none
  | none=>none
def NN(n bytes:Nat):X:=.lit (Int.ofNat (1000000000 / (bytes+1))-Int.ofNat (n+1))
def vS(st:St)(h:H)(a:A)(ks:List CK)(len:X)(e:TypeId):cq:=bm {st with h:=h.set st.n (.arr a ks len e true),n:=st.n+1} (.xslice false st.n (.lit 0) ks.length len (.room len))
def KX(st:St)(elem:TypeId)(ed:TD)(s:V)(n:Nat)(new:List V):Option cq:=match s with
 | .nilslice=>match Nat.beq n 0,A2 st.pc,vJ ed.zero with
  | false,true,some ks=>match iW ks (.lit 0) 0 n new (.fill (.lit 0)),Nat.beq ed.size 0,Nat.ble ((n+1)*(ed.bytes+1)) 1000000000 with
   | some a,false,true=>some (vS st st.h a ks (.lit (Int.ofNat n)) elem)
   | _,_,_=>none
  | _,_,_=>none
 | .xslice false b off es len cap=>match FF off,st.h.get b with
  | true,some (.arr a ks L e wd)=>match Nat.beq ed.size es,Nat.beq ks.length es,Nat.beq e elem,Nat.beq es 0 with
   | true,true,true,false=>match Bm st.pc (.lit 0) len,Bm st.pc len (NN n ed.bytes),iW ks len 0 n new a with
    | true,true,some a'=>match cap,wd with
     | .room lo,true=>match L.beq len,Bm st.pc lo len with
      | true,true=>some (vS st (st.h.drop b) a' ks (mR len (.lit (Int.ofNat n))) elem)
      | _,_=>some (.stuck "append to a row: room")
     | .known c,false=>match L.beq c with
      | true=>some (split st (mkLe (mR len (.lit (Int.ofNat n))) c) fun st t=>match t with
       | true=>bm {st with h:=st.h.set b (.arr a' ks L e false)} (.xslice false b off es (mR len (.lit (Int.ofNat n))) (.known c))
       | false=>.stuck "append to a row: it is full")
      | false=>some (.stuck "append to a row: not the whole")
     | _,_=>some (.stuck "append to a row")
    | _,_,_=>some (.stuck "append to a row: bounds, kinds")
   | _,_,_,_=>some (.stuck "append to a row: types")
  | _,_=>some (.stuck "append to a part of a row")
 | _=>none
def noRoom:V→Bool
 | .nilslice=>true
 | .slice _ _ n c=>match n with
  | 0=>match c with
   | .known c=>Nat.beq c 0
   | _=>false
  | _=>false
 | .xslice _ _ _ _ len c=>match FF len with
  | true=>match c with
   | .known c=>FF c
   | _=>false
  | false=>false
 | _=>false
def W5(st:St)(elem:TypeId)(ed:TD)(s:V)(w:Bool)(b:Nat)(off:X)(es:Nat)(len:X):cq:=match FF len&&noRoom s with
 | true=>bm st s
 | false=>match AW st.h w b,FF off,noRoom s with
 | some (a,ks,L),true,true=>match Nat.beq ed.size es,Nat.beq ks.length es,Nat.beq es 0,Bm st.pc len L with
  | true,true,false,true=>gS st (mkLe (.lit 0) len) fun st=>match Bm st.pc len (NN 0 ed.bytes) with
   | true=>split st (mkLe len (.lit 0)) fun st t=>match t with
    | true=>bm st s
    | false=>vS st st.h a ks len elem
   | false=>.stuck "a copy of a row: long"
  | _,_,_,_=>.stuck "a copy of a row"
 | _,_,_=>.stuck "a copy of a row"
def FA(cx:Cx)(st:St)(argTypes:List TypeId)(args:List V):Option cq:=match argTypes,args with
 | t::u::_,s::x::_=>match cx.tt.get t,cx.tt.get u with
  | some td,some ud=>match td.d,ud.d with
   | .slice elem,.slice _=>match cx.tt.get elem with
    | some ed=>match x with
     | .xslice w b off es len _=>some (W5 st elem ed s w b off es len)
     | x=>match Ew x with
      | some n=>match jE st.h ed.size n x with
       | some new=>match Nat.beq new.length (n*ed.size) with
        | true=>KX st elem ed s n new
        | false=>none
       | none=>none
      | none=>none
    | none=>none
   | _,_=>none
  | _,_=>none
 | _,_=>none
def W7(st:St)(ed:TD)(d x:V):cq:=match d,x with
 | .xslice false b off es len _,.xslice w b' off' es' len' _=>match st.h.get b,AW st.h w b',FF off,FF off' with
  | some (.arr _ ks L e wd),some (a',ks',L'),true,true=>match Nat.beq ed.size es&&Nat.beq ed.size es',Nat.beq ks.length es,CK.eV ks ks',L.beq len&&len.beq len' with
   | true,true,true,true=>match Bm st.pc len L',Bm st.pc (.lit 0) len with
    | true,true=>bm {st with h:=st.h.set b (.arr a' ks L e wd)} (.int .i64 len)
    | _,_=>.stuck "copy of a row"
   | _,_,_,_=>.stuck "copy of a row"
  | _,_,_,_=>.stuck "copy of a row"
 | _,_=>.stuck "copy of a row"
def W6(cx:Cx)(st:St)(argTypes:List TypeId)(args:List V):Option cq:=match argTypes,args with
 | t::_,d::x::_=>match d with
  | .xslice _ _ _ _ _ _=>match cx.tt.get t with
   | some td=>match td.d with
    | .slice elem=>match cx.tt.get elem with
     | some ed=>some (W7 st ed d x)
     | none=>none
    | _=>none
   | none=>none
  | _=>none
 | _,_=>none
def W8(cx:Cx)(st:St)(argTypes:List TypeId)(args:List V):Option cq:=match argTypes,args with
 | t::_,x::_=>match x with
  | .xslice _ _ _ _ len _=>match cx.tt.get t with
   | some td=>match td.d with
    | .slice _=>some (gS st (mkLe (.lit 0) len) fun st=>bm st (.int .i64 len))
    | _=>none
   | none=>none
  | _=>none
 | _,_=>none
def Xa(st:St)(elem:TypeId)(ed:TD)(l c:X):cq:=match vJ ed.zero,Nat.beq ed.size 0 with
 | some ks,false=>gS st (mkLe (.lit 0) l) fun st=>gS st (mkLe l c) fun st=>match Bm st.pc c (NN 0 ed.bytes) with
  | true=>.ok (.val (.xslice false st.n (.lit 0) ed.size l (.known c)),newObj st (.arr (.fill (.lit 0)) ks c elem false))
  | false=>.stuck "makeSlice: long"
 | _,_=>.stuck "makeSlice: cells"
def A.under(pc:PC)(lo hi:X):A→Option Nat
 | .base t=>some t
 | .fill _=>none
 | .put a i _ _=>match Zw pc i lo with
  | true=>a.under pc lo hi
  | false=>match Bm pc hi i with
   | true=>a.under pc lo hi
   | false=>none
def Dm(cx:Cx)(st:St)(src dst:TypeId)(w:Bool)(b:Nat)(off:X)(es:Nat)(len:X):cq:=match FF len with
 | true=>match cx.tt.get src,cx.tt.get dst with
  | some sd,some td=>match sd.d,td.d with
   | .slice elem,.string=>match cx.tt.get elem with
    | some ed=>match ed.d with
     | .int .u8=>bm st (.str (.slit []))
     | _=>.stuck "text of a row"
    | none=>.stuck "text of a row"
   | _,_=>.stuck "text of a row"
  | _,_=>.stuck "text of a row"
 | false=>match cx.tt.get src,cx.tt.get dst,AW st.h w b with
 | some sd,some td,some (a,ks,L)=>match sd.d,td.d with
  | .slice elem,.string=>match cx.tt.get elem,ks with
   | some ed,[.int .u8]=>match ed.d,Nat.beq es 1&&Bm st.pc (.lit 0) off,Bm st.pc (mR off len) L,a.under st.pc off (mR off len) with
    | .int .u8,true,true,some t=>gS st (mkLe (.lit 0) len) fun st=>bm st (.str (.btext t off len))
    | _,_,_,_=>.stuck "text of a row"
   | _,_=>.stuck "text of a row"
  | _,_=>.stuck "text of a row"
 | _,_,_=>.stuck "text of a row"
def y8(cx:Cx)(st:St)(argTypes:List TypeId)(args:List V):cq:=
 match argTypes,args with
 | t::u::_,s::x::_=>
  match cx.tt.get t,cx.tt.get u with
  | some td,some ud=>match td.d,ud.d with
   | _,.int _=>.stuck "append: make"
   | .slice elem,_=>match cx.tt.get elem with
    | none=>.stuck "append"
    | some ed=>
     match Ew x with
     | none=>.stuck "append: length"
     | some n=>
      match jE st.h ed.size n x with
      | none=>.stuck "append: elements"
      | some new=>
       match Nat.beq new.length (n*ed.size) with
       | false=>.stuck "append: size"
       | true=>
       match s with
       | .nilslice=>
        if Nat.beq n 0 then bm st .nilslice
        else if Nat.ble ((n+1)*(ed.bytes+1)) 1000000000 then
         let st':=newObj st (.cells new elem (some ed.size))
         bm st' (.slice st.n 0 n (.room st.n 0 n))
        else .stuck "append: long"
       | .slice b off len (.known c)=>
        if Nat.ble (len+n) c then
         match putAt st.h b (off+len*ed.size) new with
         | some h=>bm {st with h:=h} (.slice b off (len+n) (.known c))
         | none=>.stuck "append: room"
        else if Nat.ble ((len+n+c+1)*(ed.bytes+1)) 1000000000 then
         match cv st.h b off (len*ed.size) with
         | some old=>
          let st':=newObj st (.cells (old++new) elem (some ed.size))
          bm st' (.slice st.n 0 (len+n) (.room st.n 0 (len+n)))
         | none=>.stuck "append: old"
        else .stuck "append: long"
       | .slice b 0 len (.room b' 0 lo)=>
        match st.h.get b with
        | some (.cells c e (some sz))=>
         if Nat.beq b b'&&Nat.beq sz ed.size&&Nat.beq c.length (len*ed.size)&&Nat.beq e elem&&Nat.ble ((len+n+1)*(ed.bytes+1)) 1000000000&&rD new&&Nat.ble lo len&&Nat.blt 0 sz then
          let st':=newObj {st with h:=st.h.drop b} (.cells (c++new) e (some sz))
          bm st' (.slice st.n 0 (len+n) (.room st.n 0 (len+n)))
         else .stuck "append: room"
        | _=>.stuck "append: room"
       | .wslice b off (.lit (.ofNat 0)) (.lit (.ofNat 0))=>
        if Nat.beq n 0 then bm st (.wslice b off (.lit (.ofNat 0)) (.lit (.ofNat 0)))
        else if Nat.ble ((n+1)*(ed.bytes+1)) 1000000000 then
         let st':=newObj st (.cells new elem (some ed.size))
         bm st' (.slice st.n 0 n (.room st.n 0 n))
        else .stuck "append: long"
       | _=>.stuck "append"
   | _,_=>.stuck "append"
  | _,_=>.stuck "append"
 | _,_=>.stuck "append"
def Lo(cx:Cx)(st:St)(argTypes:List TypeId)(args:List V):cq:=
 match argTypes,args with
 | t::_,d::x::_=>
  match cx.tt.get t with
  | some td=>match td.d with
   | .slice elem=>match cx.tt.get elem,Ew d,Ew x with
    | some ed,some dl,some xl=>
     let n:=min xl dl
     match jE st.h ed.size n x with
     | none=>.stuck "copy"
     | some cs=>
      match d with
      | .nilslice=>bm st (.int .i64 (.lit n))
      | .slice b off _ _=>match putAt st.h b off cs with
       | some h=>bm {st with h:=h} (.int .i64 (.lit n))
       | none=>.stuck "copy"
      | _=>.stuck "copy"
    | _,_,_=>.stuck "copy"
   | _=>.stuck "copy"
  | none=>.stuck "copy"
 | _,_=>.stuck "copy"
def Ni(cx:Cx)(st:St)(argTypes:List TypeId)(args:List V):cq:=
 match argTypes,args with
 | t::_,x::_=>
  match cx.tt.get t with
  | some td=>match td.d,x with
   | .string,.str a=>bm st (.int .i64 (z7 a))
   | .array n _,_=>bm st (.int .i64 (.lit n))
   | .pointer arr,_=>match cx.tt.get arr with
    | some ad=>match ad.d with
     | .array n _=>bm st (.int .i64 (.lit n))
     | _=>.stuck "len"
    | none=>.stuck "len"
   | .slice _,.slice _ _ n _=>bm st (.int .i64 (.lit n))
   | .slice _,.nilslice=>bm st (.int .i64 (.lit 0))
   | .slice _,.rest _ _ _ _=>bm st (.int .i64 (.lit 0))
   | .slice _,.wslice _ _ n _=>split st (mkLe (.lit 0) n) fun st t=>match t with
    | true=>bm st (.int .i64 n)
    | false=>.stuck "len"
   | .map _ _,.nilmap=>bm st (.int .i64 (.lit 0))
   | .map _ _,.map b=>match st.h.get b with
    | some (.map es)=>bm st (.int .i64 (.lit es.length))
    | _=>.stuck "len"
   | _,_=>.stuck "len"
  | none=>.stuck "len"
 | _,_=>.stuck "len"
def G9(gt:Bool)(a b:V):Option V:=
 match a,b with
 | .int k x,.int j y=>if bq k j then some (.int k (if gt then mkIte (mkLt x y) y x else mkIte (mkLt y x) y x)) else none
 | _,_=>none
def LO(gt:Bool):V→List V→Option V
 | a,[]=>some a
 | a,b::l=>match G9 gt a b with
  | some c=>LO gt c l
  | none=>none
def Nj(st:St)(gt:Bool)(a:V)(l:List V)(s:String):cq:=match A2 st.pc,a,l with
 | true,.int k x,[.int j y]=>match bq k j with
  | true=>split st (match gt with | true=>mkLt x y | false=>mkLt y x) fun st t=>bm st (.int k (match t with | true=>y | false=>x))
  | false=>fG st (LO gt a l) s
 | _,a,l=>fG st (LO gt a l) s
def pT(cx:Cx)(st:St)(b:Builtin)(argTypes:List TypeId)(args:List V):cq:=
 match b with
 | .append=>match FA cx st argTypes args with
  | some r=>r
  | none=>y8 cx st argTypes args
 | .copy=>match W6 cx st argTypes args with
  | some r=>r
  | none=>Lo cx st argTypes args
 | .len=>match W8 cx st argTypes args with
  | some r=>r
  | none=>Ni cx st argTypes args
 | .max=>match args with
  | a::l=>Nj st true a l "max"
  | []=>.stuck "max"
 | .min=>match args with
  | a::l=>Nj st false a l "min"
  | []=>.stuck "min"
 | _=>.stuck "builtin"
def CJ(cx:Cx)(tm:List V)(st:St)(c a b:Operand):cq:=
 match dq cx tm c,dq cx tm a,dq cx tm b with
 | some c,some a,some b=>match c with
  | .bool x=>match eI st.pc x with
   | some t=>bm st (match t with | true=>a | false=>b)
   | none=>match Ls c a b with
    | some v=>bm st v
    | none=>split st x fun st t=>bm st (match t with | true=>a | false=>b)
  | _=>.stuck "pick"
 | _,_,_=>.stuck "pick"
def EE(cx:Cx)(st:St)(t:TypeId):cq:=
 match cx.tt.get t with
 | some td=>.ok (.val (.ptr st.n 0),newObj st (.cells td.zero t none))
 | none=>.stuck "alloc"
def PI(cx:Cx)(tm:List V)(st:St)(t:TypeId)(x:Operand):cq:=
 match dq cx tm x with
 | some v=>.ok (.val (.ptr st.n 0),newObj st (.cells v.cells t none))
 | none=>.stuck "box"
def vW(cx:Cx)(tm:List V)(st:St)(t:TypeId) (parts:Array (Nat×Operand)):cq:=
 match cx.tt.get t,eJ cx tm parts.toList with
 | some td,some ps=>match dr (placeOf cx.tt td.d) td.zero ps with
  | some cells=>match na cx.tt td.d with
   | true=>bm st (.agg cells)
   | false=>.stuck "build"
  | none=>.stuck "build"
 | _,_=>.stuck "build"
def gf(cx:Cx)(tm:List V)(st:St)(t:TypeId)(len:Nat) (parts:Array (Nat×Operand)):cq:=
 match cx.tt.get t,eJ cx tm parts.toList with
 | some td,some ps=>match td.d with
  | .slice elem=>match cx.tt.get elem with
   | some ed=>match Nat.ble (len*ed.size) 100000 with
    | true=>match dr (fun i=>some (i*ed.size,ed.size)) (bX ed.zero len) ps with
     | some cells=>.ok (.val (.slice st.n 0 len (.known len)),newObj st (.cells cells elem none))
     | none=>.stuck "buildSlice"
    | false=>.stuck "buildSlice: long"
   | none=>.stuck "buildSlice"
  | _=>.stuck "buildSlice"
 | _,_=>.stuck "buildSlice"
def Dj(h:H)(pc:PC)(b off n:Nat):Option (List V):=
 match h.get b with
 | some (.win _ c len es)=>match Nat.ble (off % es+n) es,eI pc (.lt (.lit (Int.ofNat (off / es))) len) with
  | true,some true=>takeN n (iO c off)
  | _,_=>none
 | _=>none
def gI{α:Type}(st:St)(i:X)(n:Nat)(k:St→R α):R α:=
 split st (mkLe (.lit 0) i) fun st a=>match a with
  | false=>.stuck "index out of range"
  | true=>split st (mkLt i (.lit (Int.ofNat n))) fun st b=>match b with
   | false=>.stuck "index out of range"
   | true=>k st
def Al(cx:Cx)(tm:List V)(st:St)(t:TypeId)(a:Operand):cq:=
 match cx.tt.get t,dq cx tm a with
 | some td,some (.sptr b off n i)=>match td.agg,Nat.beq td.size 1 with
  | false,true=>match cv st.h b off n with
   | some cs=>gI st i n fun st=>fG st (Qg i cs) "load"
   | none=>.stuck "load: no such cells"
  | _,_=>.stuck "load: not one cell"
 | some td,some (.xptr w b i es c)=>Dl st td w b i es c
 | some td,some (.wptr b off)=>match Dj st.h st.pc b off td.size with
  | some cs=>match td.agg with
   | true=>bm st (.agg cs)
   | false=>match cs with
    | [v]=>bm st v
    | _=>.stuck "load"
  | none=>.stuck "load: no such cells"
 | some td,some (.ptr b off)=>match cv st.h b off td.size with
  | some cs=>match td.agg with
   | true=>bm st (.agg cs)
   | false=>match cs with
    | [v]=>bm st v
    | _=>.stuck "load"
  | none=>.stuck "load: no such cells"
 | _,_=>.stuck "load"
def wg(cx:Cx)(tm:List V)(st:St)(t:TypeId)(a x:Operand):cq:=
 match cx.tt.get t,dq cx tm a,dq cx tm x with
 | some td,some (.sptr b off n i),some v=>match Nat.beq v.cells.length td.size,Nat.beq td.size 1 with
  | true,true=>match v.cells with
   | [u]=>match cv st.h b off n with
    | some cs=>gI st i n fun st=>match putAt st.h b off (jx i u 0 cs) with
     | some h=>match u.one with
      | true=>.ok (.skip,{st with h:=h})
      | false=>.stuck "store: size"
     | none=>.stuck "store: no such cells"
    | none=>.stuck "store: no such cells"
   | _=>.stuck "store: size"
  | _,_=>.stuck "store: size"
 | some td,some (.xptr w b i es c),some v=>FC st td w b i es c v
 | some td,some (.ptr b off),some v=>match Nat.beq v.cells.length td.size with
  | true=>match putAt st.h b off v.cells with
   | some h=>.ok (.skip,{st with h:=h})
   | none=>.stuck "store: no such cells"
  | false=>.stuck "store: size"
 | _,_,_=>.stuck "store"
def jZ(cx:Cx)(tm:List V)(st:St)(x:Operand):cq:=
 match dq cx tm x with
 | some (.ptr b off)=>bm st (.ptr b off)
 | some (.sptr b off n i)=>bm st (.sptr b off n i)
 | some (.func (.func f) first cap)=>bm st (.func (.func f) first cap)
 | some (.yield l)=>bm st (.yield l)
 | some (.iface t v)=>bm st (.iface t v)
 | some (.slice b off len cap)=>bm st (.slice b off len cap)
 | some (.xptr w b i es c)=>bm st (.xptr w b i es c)
 | some (.xslice w b off es len cap)=>bm st (.xslice w b off es len cap)
 | _=>.stuck "nilCheck"
def isConst:Operand→Bool
 | .const _=>true
 | _=>false
def LX(cx:Cx)(st:St)(op:BinOp)(t:TypeId):cq:=match cx.tt.get t with
 | some td=>match td.d,op with
  | .interface _,.eql=>bm st (.bool (.lit 1))
  | .interface _,.neq=>bm st (.bool (.lit 0))
  | _,_=>.stuck "nil"
 | none=>.stuck "nil"
def MR:V→V→Bool
 | .niliface,.niliface=>true
 | _,_=>false
def PG(cx:Cx)(tm:List V)(st:St)(op:BinOp)(t:TypeId)(x y:Operand):cq:=
 match dq cx tm x,dq cx tm y with
 | some a,some b=>match MR a b,isConst y with
  | true,true=>LX cx st op t
  | _,_=>Ry cx st op t a b
 | _,_=>.stuck "binop operand"
def oUn(cx:Cx)(tm:List V)(st:St)(op:UnOp)(x:Operand):cq:=
 match dq cx tm x with
 | some a=>aay st op a
 | none=>.stuck "unop"
def kI(cx:Cx)(tm:List V)(st:St)(src dst:TypeId)(x:Operand):cq:=
 match dq cx tm x with
 | some a=>match a with
  | .xslice w b off es len _=>Dm cx st src dst w b off es len
  | a=>ve cx st src dst a
 | none=>.stuck "convert"
def v7(cx:Cx)(tm:List V)(st:St)(t:TypeId)(x:Operand):cq:=
 match cx.tt.get t,dq cx tm x with
 | some td,some v=>match td.d with
  | .interface _=>.stuck "makeInterface"
  | _=>bm st (.iface t v)
 | _,_=>.stuck "makeInterface"
def CG(cx:Cx)(tm:List V)(st:St)(fn:Fn)(first captured:Array Operand):cq:=
 match fn,fR cx tm first.toList,fR cx tm captured.toList with
 | .func f,some a,some b=>bm st (.func (.func f) a b)
 | _,_,_=>.stuck "makeFunc"
def PM(cx:Cx)(tm:List V)(st:St)(t:TypeId)(r:Option Operand):cq:=
 match cx.tt.get t with
 | some td=>match td.d with
  | .map _ _=>match r with
   | none=>.ok (.val (.map st.n),newObj st (.map []))
   | some x=>match dq cx tm x with
    | some (.int _ _)=>.ok (.val (.map st.n),newObj st (.map []))
    | _=>.stuck "makeMap"
  | _=>.stuck "makeMap"
 | none=>.stuck "makeMap"
def gi(cx:Cx)(tm:List V)(st:St)(t:TypeId)(l c:Operand):cq:=
 match cx.tt.get t,(dq cx tm l).bind kD,(dq cx tm c).bind kD with
 | some td,some l,some c=>match td.d with
  | .slice elem=>match cx.tt.get elem with
   | some ed=>match Nat.ble l c&&Nat.ble (c*(ed.bytes+1)) 1000000000 with
    | true=>.ok (.val (.slice st.n 0 l (.known c)),newObj st (.cells (bX ed.zero c) elem none))
    | false=>.stuck "makeSlice: long"
   | none=>.stuck "makeSlice"
  | _=>.stuck "makeSlice"
 | _,_,_=>.stuck "makeSlice"
def SK:V→Option X
 | .int k x=>match bq k .i64,isLit x with
  | true,false=>some x
  | _,_=>none
 | _=>none
def aaE:V→Option X
 | .int k x=>match bq k .i64 with
  | true=>some x
  | false=>none
 | _=>none
def iw(cx:Cx)(tm:List V)(st:St)(t:TypeId)(l c:Operand):cq:=
 match (dq cx tm l).bind aaE,(dq cx tm c).bind SK with
 | some x,some y=>match cx.tt.get t with
  | some td=>match td.d with
   | .slice elem=>match cx.tt.get elem with
    | some ed=>Xa st elem ed x y
    | none=>.stuck "makeSlice"
   | _=>.stuck "makeSlice"
  | none=>.stuck "makeSlice"
 | _,_=>gi cx tm st t l c
def q8(cx:Cx)(tm:List V):Option Operand→Option (Option V)
 | none=>some none
 | some o=>match dq cx tm o with
  | some v=>some (some v)
  | none=>none
def we(cx:Cx)(tm:List V)(st:St)(t:TypeId)(x:Operand)(lo hi mx:Option Operand):cq:=
 match dq cx tm x,q8 cx tm lo,q8 cx tm hi,q8 cx tm mx with
 | some v,some lo,some hi,some mx=>match v with
  | .xslice w b off es len cap=>FB cx st t w b off es len cap lo hi mx
  | v=>D6 cx st t v lo hi mx
 | _,_,_,_=>.stuck "slice operand"
def iu(cx:Cx)(tm:List V)(st:St)(t:TypeId)(x:Operand)(f:Nat):cq:=
 match cx.tt.get t,dq cx tm x with
 | some td,some (.ptr b off)=>match td.d with
  | .struct fields=>match nth fields.toList f with
   | some fd=>match cx.tt.get fd.type with
    | some d=>match Nat.beq d.size 0 with
     | true=>.stuck "fieldAddr: no size"
     | false=>bm st (.ptr b (off+fd.offset))
    | none=>.stuck "fieldAddr"
   | none=>.stuck "fieldAddr"
  | _=>.stuck "fieldAddr"
 | some td,some (.xptr w b i es c)=>match td.d with
  | .struct fields=>match nth fields.toList f with
   | some fd=>match cx.tt.get fd.type with
    | some d=>match Nat.beq d.size 0 with
     | true=>.stuck "fieldAddr: no size"
     | false=>bm st (.xptr w b i es (c+fd.offset))
    | none=>.stuck "fieldAddr"
   | none=>.stuck "fieldAddr"
  | _=>.stuck "fieldAddr"
 | _,_=>.stuck "fieldAddr"
def v5(cx:Cx)(tm:List V)(st:St)(t:TypeId)(x:Operand)(f:Nat):cq:=
 match cx.tt.get t,dq cx tm x with
 | some td,some (.agg cs)=>match td.d with
  | .struct fields=>match nth fields.toList f with
   | some fd=>fG st (nZ cx.tt fd.type cs fd.offset) "field"
   | none=>.stuck "field"
  | _=>.stuck "field"
 | _,_=>.stuck "field"
def lZ(cx:Cx)(i:X)(ed:TD):Bool:=match cx.sx with
 | false=>false
 | true=>match isLit i with
  | true=>false
  | false=>match ed.agg with
   | true=>false
   | false=>Nat.beq ed.size 1
def iv(cx:Cx)(tm:List V)(st:St)(t:TypeId)(x ix:Operand):cq:=
 match cx.tt.get t,dq cx tm x,dq cx tm ix with
 | some td,some v,some (.int _ i)=>match td.d,v with
  | .array len elem,.ptr b off=>match cx.tt.get elem with
   | some ed=>match lZ cx i ed with
    | true=>gI st i len fun st=>bm st (.sptr b off len i)
    | false=>index st i len fun st n=>bm st (.ptr b (off+n*ed.size))
   | none=>.stuck "indexAddr"
  | .slice elem,.slice b off len _=>match cx.tt.get elem with
   | some ed=>match lZ cx i ed with
    | true=>gI st i len fun st=>bm st (.sptr b off len i)
    | false=>index st i len fun st n=>bm st (.ptr b (off+n*ed.size))
   | none=>.stuck "indexAddr"
  | .slice elem,.xslice w b off es len _=>match cx.tt.get elem with
   | some ed=>nT st w b off es len i ed.size
   | none=>.stuck "indexAddr"
  | .slice elem,.wslice b off len _=>match cx.tt.get elem,i with
   | some ed,.lit (.ofNat n)=>split st (mkLt (.lit (.ofNat n)) len) fun st t=>match t with
    | true=>bm st (.wptr b (off+n*ed.size))
    | false=>.stuck "index out of range"
   | _,_=>.stuck "indexAddr"
  | _,_=>.stuck "indexAddr"
 | _,_,_=>.stuck "indexAddr"
def v8(cx:Cx)(tm:List V)(st:St)(t:TypeId)(x ix:Operand):cq:=
 match cx.tt.get t,dq cx tm x,dq cx tm ix with
 | some td,some v,some (.int _ i)=>match td.d,v with
  | .array len elem,.agg cs=>match cx.tt.get elem with
   | some ed=>match lZ cx i ed with
    | true=>match takeN len cs with
     | some l=>gI st i len fun st=>fG st (Qg i l) "index"
     | none=>.stuck "index"
    | false=>index st i len fun st n=>fG st (nZ cx.tt elem cs (n*ed.size)) "index"
   | none=>.stuck "index"
  | .string,.str (.slit l)=>index st i l.length fun st n=>bm st (.int .u8 (.lit ((((nth l n).getD 0) % 256:Nat):Int)))
  | _,_=>.stuck "index"
 | _,_,_=>.stuck "index"
def ny(cx:Cx)(tm:List V)(st:St)(t:TypeId)(x ix:Operand)(ok:Bool):cq:=
 match dq cx tm x,dq cx tm ix with
 | some x,some ix=>s8 cx st t x ix ok
 | _,_=>.stuck "lookup"
def jG(cx:Cx)(tm:List V)(st:St)(t:TypeId)(m k x:Operand):cq:=
 match dq cx tm m,dq cx tm k,dq cx tm x with
 | some m,some k,some x=>k9 cx st t m k x
 | _,_,_=>.stuck "update"
def qg(cx:Cx)(tm:List V)(st:St)(x:Operand)(asserted:TypeId)(ok:Bool):cq:=
 match cx.tt.get asserted,dq cx tm x with
 | some td,some v=>match td.d,v with
  | .interface _,_=>.stuck "typeAssert"
  | _,.iface t v=>match Nat.beq t asserted,ok with
   | true,true=>bm st (.tuple [v,.bool (.lit 1)])
   | true,false=>bm st v
   | false,true=>match zeroV td with
    | some z=>bm st (.tuple [z,.bool (.lit 0)])
    | none=>.stuck "typeAssert"
   | false,false=>.stuck "typeAssert fails"
  | _,.niliface=>match ok with
   | true=>match zeroV td with
    | some z=>bm st (.tuple [z,.bool (.lit 0)])
    | none=>.stuck "typeAssert"
   | false=>.stuck "typeAssert fails"
  | _,_=>.stuck "typeAssert"
 | _,_=>.stuck "typeAssert"
def mC(cx:Cx)(tm:List V)(st:St)(x:Operand)(i:Nat):cq:=
 match dq cx tm x with
 | some (.tuple l)=>fG st (nth l i) "extract"
 | _=>.stuck "extract"
def wc(cx:Cx)(tm:List V)(st:St)(t:TypeId)(x:Operand):cq:=
 match cx.tt.get t,dq cx tm x with
 | some td,some v=>match td.d,v with
  | .map _ _,.nilmap=>.ok (.val (.ptr st.n 0),newObj st (.iter none))
  | .map _ _,.map b=>match st.h.get b with
   | some (.map _)=>.ok (.val (.ptr st.n 0),newObj st (.iter (some b)))
   | _=>.stuck "range"
  | _,_=>.stuck "range"
 | _,_=>.stuck "range"
def CI(cx:Cx)(tm:List V)(st:St)(x:Operand)(isString:Bool):cq:=
 match dq cx tm x,isString with
 | some (.ptr r 0),false=>match st.h.get r with
  | some (.iter none)=>bm st (.tuple [.bool (.lit 0)])
  | some (.iter (some b))=>match st.h.get b with
   | some (.map [])=>bm st (.tuple [.bool (.lit 0)])
   | _=>.stuck "next: a map with entries"
  | _=>.stuck "next"
 | _,_=>.stuck "next"
def xm(cx:Cx)(tm:List V)(st:St)(c:Call):cq:=
 match c.callee with
 | .value f=>match dq cx tm f with
  | some (.func (.func g) first cap)=>match iE cx tm c.args.toList with
   | some args=>match cx.ft.get g with
    | some _=>.ok (.enter g (first++args++cap),st)
    | none=>.stuck "call: unknown function"
   | none=>.stuck "call"
  | some (.yield l)=>match fR cx tm c.args.toList with
   | some args=>.ok (.round l args,st)
   | none=>.stuck "call"
  | _=>.stuck "call"
 | .builtin b=>match fR cx tm c.args.toList with
  | some args=>pT cx st b c.argTypes.toList args
  | none=>.stuck "builtin"
 | .invoke _ _=>.stuck "invoke"
def o5(cx:Cx)(tm:List V)(st:St)(c:Call):cq:=
 match c.callee with
 | .value f=>match dq cx tm f,fR cx tm c.args.toList with
  | some (.func (.func g) first cap),some args=>.ok (.defer (.fn (.func g) cap (first++args)),st)
  | _,_=>.stuck "defer"
 | _=>.stuck "defer"
def v9(cx:Cx)(tm:List V)(st:St)(x:Operand):cq:=
 match dq cx tm x with
 | some (.iface t v)=>.ok (.panic (.iface t v),st)
 | _=>.stuck "panic"
def jz(cx:Cx)(tm:List V)(st:St)(o:Oper):cq:=
 match o.op with
 | .move x=>fG st (oE cx tm x) "move"
 | .assign x=>fG st (oE cx tm x) "assign"
 | .pick c a b=>CJ cx tm st c a b
 | .alloc t=>EE cx st t
 | .box t x=>PI cx tm st t x
 | .build t parts=>vW cx tm st t parts
 | .buildSlice t len parts=>gf cx tm st t len parts
 | .load t a=>Al cx tm st t a
 | .store t a x=>wg cx tm st t a x
 | .nilCheck x=>jZ cx tm st x
 | .binOp op t x y _=>PG cx tm st op t x y
 | .unOp op _ x=>oUn cx tm st op x
 | .convert src dst x=>kI cx tm st src dst x
 | .makeInterface t x=>v7 cx tm st t x
 | .makeFunc fn first captured=>CG cx tm st fn first captured
 | .makeMap t r=>PM cx tm st t r
 | .makeSlice t l c=>iw cx tm st t l c
 | .slice t x lo hi mx=>we cx tm st t x lo hi mx
 | .fieldAddr t x f=>iu cx tm st t x f
 | .field t x f=>v5 cx tm st t x f
 | .indexAddr t x ix=>iv cx tm st t x ix
 | .index t x ix=>v8 cx tm st t x ix
 | .lookup t x ix ok=>ny cx tm st t x ix ok
 | .mapUpdate t m k x=>jG cx tm st t m k x
 | .insert t m k x=>jG cx tm st t m k x
 | .typeAssert x _ asserted ok=>qg cx tm st x asserted ok
 | .extract x i=>mC cx tm st x i
 | .call c=>xm cx tm st c
 | .defer c=>o5 cx tm st c
 | .panic x=>v9 cx tm st x
 | .range t x=>wc cx tm st t x
 | .next x s=>CI cx tm st x s
 | _=>.stuck "operation"
def gJ(r:OR)(st:St):cq:=match r with
 | .val v=>dK 100 st v fun st v=>.ok (.val v,st)
 | r=>.ok (r,st)
def dW(cx:Cx)(tm:List V)(st:St)(o:Oper):cq:=(jz cx tm st o).bind fun (r,st)=>gJ r st
inductive En where
 | ret (v:V)
 | panic (v:V)
abbrev gm:=R (En×St)
structure Self where
 code:Option Nat→Code→Fr→St→cC
 loop:Option Nat→Code→Fr→St→cC
 call:FuncId→List V→St→gm
def dx(tm:List V)(dst:Option Tmp)(v:V):List V:=
 match dst with
 | some d=>By tm d v
 | none=>tm
def mc(tm:List V):List Tmp→List V→List V
 | t::ts,a::as=>mc (By tm t a) ts as
 | _,_=>tm
def Kt(l:Nat)(e:Ex)(fr:Fr)(st:St):gm:=
 match fr.df with
 | []=>
  match st.h.get l with
  | some (.loop _ _ tmps params assign body defers)=>
   match e with
   | .normal=>.ok (.ret (.bool (.lit 1)),{st with h:=st.h.set l (.loop .ready none tmps params assign body defers)})
   | .ret=>.ok (.ret (.bool (.lit 0)),{st with h:=st.h.set l (.loop .done (some .ret) tmps params assign body defers)})
   | .exit id=>.ok (.ret (.bool (.lit 0)),{st with h:=st.h.set l (.loop .done (some (.exit id)) tmps params assign body defers)})
   | .panic _=>.stuck "round: panic"
   | .die _=>.stuck "round: panic"
  | _=>.stuck "round: no loop"
 | _=>.stuck "round: defers"
def qF(self:Self)(l:Nat)(body:Code)(e:Ex)(fr:Fr)(st:St):gm:=
 match e with
 | .normal=>
  match st.h.get l with
  | some (.loop state pending tmps params assign body' defers)=>
   match state with
   | .ready=>(self.code (some l) body fr {st with h:=st.h.set l (.loop .busy pending tmps params assign body' defers)}).bind fun (e,fr,st)=>Kt l e fr st
   | _=>.stuck "round: not ready"
  | _=>.stuck "round: no loop"
 | _=>.stuck "round: assign"
def la(self:Self)(l:Nat)(args:List V)(st:St):gm:=
 match st.h.get l with
 | some (.loop _ _ tmps params assign body _)=>
  match Nat.beq params.toList.length args.length with
  | true=>(self.code (some l) assign {tm:=mc tmps params.toList args,df:=[]} st).bind fun (e,fr,st)=>qF self l body e fr st
  | false=>.stuck "round: arguments"
 | _=>.stuck "round: no loop"
def fO(st:St)(ops:List Oper)(tm:List V)(o:Oper) (k:St→Bool→R (Ex×Fr×St)):cC:=
 match o.guard with
 | none=>k st true
 | some (j,want)=>
  match (nth ops j).bind (·.dst) with
  | none=>k st false
  | some d=>match nth tm d with
   | some (.bool x)=>split st x fun st b=>k st (b==want)
   | some (.ite _ _ _)=>.stuck "guard"
   | some (.any _)=>.stuck "guard"
   | _=>k st false
def Ea{β:Type}(n:Nat)(k:Nat→β):β:=
 match n with
 | 0=>k 0
 | m+1=>k (m+1)
def D9{β:Type}(n:Int)(k:Int→β):β:=
 match n with
 | .ofNat m=>Ea m fun m=>k (.ofNat m)
 | .negSucc m=>Ea m fun m=>k (.negSucc m)
def Ec{β:Type}(x:X)(k:X→β):β:=
 match x with
 | .lit n=>D9 n fun n=>k (.lit n)
 | x=>k x
def oO{β:Type}(v:V)(k:V→β):β:=
 match v with
 | .int a x=>Ec x fun x=>k (.int a x)
 | .bool x=>Ec x fun x=>k (.bool x)
 | v=>k v
def Lx{β:Type}:List V→(List V→β)→β
 | [],k=>k []
 | v::l,k=>Lx l fun l=>k (v::l)
noncomputable def KC{β:Type}(l:List V):Nat→V→(List V→β)→β:=
 List.rec (motive:=fun _=>Nat→V→(List V→β)→β) (fun _ _ k=>k []) (fun a l ih n b k=>Nat.rec (motive:=fun _=>β) (k (b::l)) (fun m _=>ih m b fun l=>k (a::l)) n) l
def kV{β:Type}(l:List V)(d:Option Nat)(v:V)(k:List V→β):β:=
 match d with
 | none=>k l
 | some d=>KC l d v k
def vi(cx:Cx)(self:Self)(rnd:Option Nat)(fr:Fr)(st:St)(o:Oper)(k:Fr→St→cC):cC:=
 (dW cx fr.tm st o).bind fun (r,st)=>
  match r with
  | .val v=>oO v fun v=>kV fr.tm o.dst v fun tm=>k {tm:=tm,df:=fr.df} st
  | .skip=>k {fr with tm:=dx fr.tm o.dst .undef} st
  | .enter f args=>(self.call f args st).bind fun (e,st)=>
   match e with
   | .ret v=>dK 100 st v fun st v=>oO v fun v=>kV fr.tm o.dst v fun tm=>k {tm:=tm,df:=fr.df} st
   | .panic v=>.ok (.panic v,fr,st)
  | .round l args=>(la self l args st).bind fun (e,st)=>
   match e with
   | .ret v=>k {fr with tm:=dx fr.tm o.dst v} st
   | .panic _=>.stuck "panic in a round"
  | .panic v=>.ok (.panic v,fr,st)
  | .defer d=>match rnd with
   | none=>k {tm:=dx fr.tm o.dst .undef,df:=d::fr.df} st
   | some _=>.stuck "defer in a round"
def RK{β:Type}(h:H)(k:H→β):β:=match h with
 | .nil=>k .nil
 | .node l v r=>k (.node l v r)
def tk{β:Type}(st:St)(k:St→β):β:=match st with
 | ⟨h,n,pc⟩=>Ea n fun n=>RK h fun h=>match pc with
  | []=>k ⟨h,n,[]⟩
  | f::l=>k ⟨h,n,f::l⟩
def D8{β:Type}(fr:Fr)(k:Fr→β):β:=match fr with
 | ⟨tm,df⟩=>match df with
  | []=>k ⟨tm,[]⟩
  | d::l=>k ⟨tm,d::l⟩
theorem Ce{β:Type}(n:Nat)(k:Nat→β):Ea n k=k n:=by cases n<;>rfl
theorem Pd{β:Type}(h:H)(k:H→β):RK h k=k h:=by cases h<;>rfl
theorem ku{β:Type}(st:St)(k:St→β):tk st k=k st:=by
 obtain⟨h,n,pc⟩:=st
 simp only [tk,Ce,Pd]
 cases pc<;>rfl
theorem m8{β:Type}(fr:Fr)(k:Fr→β):D8 fr k=k fr:=by
 obtain⟨tm,df⟩:=fr
 cases df<;>rfl
def q7(cx:Cx)(self:Self)(rnd:Option Nat)(ops:List Oper):List Oper→Fr→St→cC
 | [],fr,st=>.ok (.normal,fr,st)
 | o::rest,fr,st=>D8 fr fun fr=>tk st fun st=>fO st ops fr.tm o fun st w=>
  match w with
  | true=>vi cx self rnd fr st o fun fr st=>q7 cx self rnd ops rest fr st
  | false=>kV fr.tm o.dst .undef fun tm=>q7 cx self rnd ops rest {fr with tm:=tm} st
end
end Go.Proofs.YtmickljjofbmiaaGreatDoor
namespace Go.Proofs.YtmickljjofbmiaaGreatDoor
open Go
noncomputable section
theorem andM(a b:Bool):(match a with | true=>b | false=>false)=(a&&b):=by cases a<;>rfl
def ki{α:Type} [DecidableEq α] (a b:α):Bool:=decide (a=b)
def MW(a b:Value):Bool:=match ofValue a,ofValue b with
 | some u,some v=>u.beq v
 | _,_=>false
def Im(a b:Array Nat):Bool:=eN a.toList b.toList
def aP:Operand→Operand→Bool
 | .tmp a,.tmp b=>Nat.beq a b
 | .const a,.const b=>MW a b
 | .global a,.global b=>Nat.beq a b
 | .func a,.func b=>Nat.beq a b
 | _,_=>false
def gz{α:Type}(f:α→α→Bool):List α→List α→Bool
 | [],[]=>true
 | a::l,b::m=>match f a b with
  | true=>gz f l m
  | false=>false
 | _,_=>false
def yp(a b:Array Operand):Bool:=gz aP a.toList b.toList
def j1:Option Operand→Option Operand→Bool
 | none,none=>true
 | some a,some b=>aP a b
 | _,_=>false
def E3(a b:Nat×Operand):Bool:=match Nat.beq a.1 b.1 with
 | true=>aP a.2 b.2
 | false=>false
def Ax (a b:Array (Nat×Operand)):Bool:=gz E3 a.toList b.toList
def uZ:Callee→Callee→Bool
 | .value a,.value b=>aP a b
 | .builtin a,.builtin b=>ki a b
 | _,_=>false
def sR(a b:Call):Bool:=match uZ a.callee b.callee with
 | true=>match yp a.args b.args with
  | true=>Im a.argTypes b.argTypes
  | false=>false
 | false=>false
def SI:Op→Op→Bool
 | .move a0,.move b0=>aP a0 b0
 | .assign a0,.assign b0=>aP a0 b0
 | .pick a0 a1 a2,.pick b0 b1 b2=>(match aP a0 b0 with | true=>(match aP a1 b1 with | true=>aP a2 b2 | false=>false) | false=>false)
 | .alloc a0,.alloc b0=>Nat.beq a0 b0
 | .box a0 a1,.box b0 b1=>(match Nat.beq a0 b0 with | true=>aP a1 b1 | false=>false)
 | .build a0 a1,.build b0 b1=>(match Nat.beq a0 b0 with | true=>Ax a1 b1 | false=>false)
 | .buildSlice a0 a1 a2,.buildSlice b0 b1 b2=>(match Nat.beq a0 b0 with | true=>(match Nat.beq a1 b1 with | true=>Ax a2 b2 | false=>false) | false=>false)
 | .insert a0 a1 a2 a3,.insert b0 b1 b2 b3=>(match Nat.beq a0 b0 with | true=>(match aP a1 b1 with | true=>(match aP a2 b2 with | true=>aP a3 b3 | false=>false) | false=>false) | false=>false)
 | .load a0 a1,.load b0 b1=>(match Nat.beq a0 b0 with | true=>aP a1 b1 | false=>false)
 | .store a0 a1 a2,.store b0 b1 b2=>(match Nat.beq a0 b0 with | true=>(match aP a1 b1 with | true=>aP a2 b2 | false=>false) | false=>false)
 | .ready a0,.ready b0=>Nat.beq a0 b0
 | .waits a0,.waits b0=>Nat.beq a0 b0
 | .nilCheck a0,.nilCheck b0=>aP a0 b0
 | .binOp a0 a1 a2 a3 a4,.binOp b0 b1 b2 b3 b4=>(match ki a0 b0 with | true=>(match Nat.beq a1 b1 with | true=>(match aP a2 b2 with | true=>(match aP a3 b3 with | true=>Nat.beq a4 b4 | false=>false) | false=>false) | false=>false) | false=>false)
 | .unOp a0 a1 a2,.unOp b0 b1 b2=>(match ki a0 b0 with | true=>(match Nat.beq a1 b1 with | true=>aP a2 b2 | false=>false) | false=>false)
 | .convert a0 a1 a2,.convert b0 b1 b2=>(match Nat.beq a0 b0 with | true=>(match Nat.beq a1 b1 with | true=>aP a2 b2 | false=>false) | false=>false)
 | .sliceToArrayPointer a0 a1,.sliceToArrayPointer b0 b1=>(match Nat.beq a0 b0 with | true=>aP a1 b1 | false=>false)
 | .makeInterface a0 a1,.makeInterface b0 b1=>(match Nat.beq a0 b0 with | true=>aP a1 b1 | false=>false)
 | .makeFunc a0 a1 a2,.makeFunc b0 b1 b2=>(match ki a0 b0 with | true=>(match yp a1 b1 with | true=>yp a2 b2 | false=>false) | false=>false)
 | .makeMap a0 a1,.makeMap b0 b1=>(match Nat.beq a0 b0 with | true=>j1 a1 b1 | false=>false)
 | .makeChan a0 a1,.makeChan b0 b1=>(match Nat.beq a0 b0 with | true=>aP a1 b1 | false=>false)
 | .makeSlice a0 a1 a2,.makeSlice b0 b1 b2=>(match Nat.beq a0 b0 with | true=>(match aP a1 b1 with | true=>aP a2 b2 | false=>false) | false=>false)
 | .slice a0 a1 a2 a3 a4,.slice b0 b1 b2 b3 b4=>(match Nat.beq a0 b0 with | true=>(match aP a1 b1 with | true=>(match j1 a2 b2 with | true=>(match j1 a3 b3 with | true=>j1 a4 b4 | false=>false) | false=>false) | false=>false) | false=>false)
 | .fieldAddr a0 a1 a2,.fieldAddr b0 b1 b2=>(match Nat.beq a0 b0 with | true=>(match aP a1 b1 with | true=>Nat.beq a2 b2 | false=>false) | false=>false)
 | .field a0 a1 a2,.field b0 b1 b2=>(match Nat.beq a0 b0 with | true=>(match aP a1 b1 with | true=>Nat.beq a2 b2 | false=>false) | false=>false)
 | .indexAddr a0 a1 a2,.indexAddr b0 b1 b2=>(match Nat.beq a0 b0 with | true=>(match aP a1 b1 with | true=>aP a2 b2 | false=>false) | false=>false)
 | .index a0 a1 a2,.index b0 b1 b2=>(match Nat.beq a0 b0 with | true=>(match aP a1 b1 with | true=>aP a2 b2 | false=>false) | false=>false)
 | .lookup a0 a1 a2 a3,.lookup b0 b1 b2 b3=>(match Nat.beq a0 b0 with | true=>(match aP a1 b1 with | true=>(match aP a2 b2 with | true=>je a3 b3 | false=>false) | false=>false) | false=>false)
 | .mapUpdate a0 a1 a2 a3,.mapUpdate b0 b1 b2 b3=>(match Nat.beq a0 b0 with | true=>(match aP a1 b1 with | true=>(match aP a2 b2 with | true=>aP a3 b3 | false=>false) | false=>false) | false=>false)
 | .mapEntry a0 a1 a2,.mapEntry b0 b1 b2=>(match Nat.beq a0 b0 with | true=>(match aP a1 b1 with | true=>aP a2 b2 | false=>false) | false=>false)
 | .entryStore a0 a1 a2 a3,.entryStore b0 b1 b2 b3=>(match Nat.beq a0 b0 with | true=>(match aP a1 b1 with | true=>(match aP a2 b2 with | true=>aP a3 b3 | false=>false) | false=>false) | false=>false)
 | .range a0 a1,.range b0 b1=>(match Nat.beq a0 b0 with | true=>aP a1 b1 | false=>false)
 | .next a0 a1,.next b0 b1=>(match aP a0 b0 with | true=>je a1 b1 | false=>false)
 | .entry a0,.entry b0=>aP a0 b0
 | .typeAssert a0 a1 a2 a3,.typeAssert b0 b1 b2 b3=>(match aP a0 b0 with | true=>(match Nat.beq a1 b1 with | true=>(match Nat.beq a2 b2 with | true=>je a3 b3 | false=>false) | false=>false) | false=>false)
 | .extract a0 a1,.extract b0 b1=>(match aP a0 b0 with | true=>Nat.beq a1 b1 | false=>false)
 | .call a0,.call b0=>sR a0 b0
 | .go a0,.go b0=>sR a0 b0
 | .defer a0,.defer b0=>sR a0 b0
 | .panic a0,.panic b0=>aP a0 b0
 | .send a0 a1,.send b0 b1=>(match aP a0 b0 with | true=>aP a1 b1 | false=>false)
 | .recv a0 a1 a2,.recv b0 b1 b2=>(match Nat.beq a0 b0 with | true=>(match aP a1 b1 with | true=>je a2 b2 | false=>false) | false=>false)
 | _,_=>false
def DV(a b:Edge):Bool:=match Nat.beq a.on b.on with
 | true=>ki a.ground b.ground
 | false=>false
def iA:Option Nat→Option Nat→Bool
 | none,none=>true
 | some a,some b=>Nat.beq a b
 | _,_=>false
def zC:Option (Nat×Bool)→Option (Nat×Bool)→Bool
 | none,none=>true
 | some (a,x),some (b,y)=>match Nat.beq a b with
  | true=>je x y
  | false=>false
 | _,_=>false
def EX(a b:Oper):Bool:=match iA a.dst b.dst with
 | true=>match SI a.op b.op with
  | true=>match Nat.beq a.type b.type with
   | true=>match ki a.pos b.pos with
    | true=>match gz DV a.after.toList b.after.toList with
     | true=>zC a.guard b.guard
     | false=>false
    | false=>false
   | false=>false
  | false=>false
 | false=>false
def IA(a b:Array Oper):Bool:=gz EX a.toList b.toList
def bz:Code→Code→Bool
 | .skip,.skip=>true
 | .region a0 a1 a2,.region b0 b1 b2=>(match Nat.beq a0 b0 with | true=>(match IA a1 b1 with | true=>je a2 b2 | false=>false) | false=>false)
 | .seq a0 a1,.seq b0 b1=>(match bz a0 b0 with | true=>bz a1 b1 | false=>false)
 | .cond a0 a1 a2,.cond b0 b1 b2=>(match aP a0 b0 with | true=>(match bz a1 b1 with | true=>bz a2 b2 | false=>false) | false=>false)
 | .block a0 a1,.block b0 b1=>(match Nat.beq a0 b0 with | true=>bz a1 b1 | false=>false)
 | .loop a0,.loop b0=>bz a0 b0
 | .rangeFunc a0 a1 a2 a3,.rangeFunc b0 b1 b2 b3=>(match aP a0 b0 with | true=>(match Im a1 b1 with | true=>(match bz a2 b2 with | true=>bz a3 b3 | false=>false) | false=>false) | false=>false)
 | .exit a0,.exit b0=>Nat.beq a0 b0
 | .scope a0,.scope b0=>bz a0 b0
 | .label a0,.label b0=>Nat.beq a0 b0
 | .goto a0,.goto b0=>Nat.beq a0 b0
 | .ret,.ret=>true
 | .refuse a0,.refuse b0=>ki a0 b0
 | _,_=>false
end
end Go.Proofs.YtmickljjofbmiaaGreatDoor
namespace Go.Proofs.YtmickljjofbmiaaGreatDoor
open Go
noncomputable section
def nV(acc:List Nat):List Edge→Nat
 | []=>0
 | e::es=>if Region.binds .any e then 2 ^ e.on ||| ((nth acc e.on).getD 0) ||| nV acc es else nV acc es
def dE:List Oper→List Nat→List Nat
 | [],acc=>acc
 | o::os,acc=>dE os (acc++[nV acc o.after.toList])
def kindOf:Op→Nat
 | .move _ | .assign _ | .pick _ _ _ | .build _ _ | .nilCheck _ | .binOp _ _ _ _ _ | .unOp _ _ _ | .convert _ _ _ | .makeInterface _ _ | .makeFunc _ _ _
 | .slice _ _ _ _ _ | .fieldAddr _ _ _ | .field _ _ _ | .indexAddr _ _ _ | .index _ _ _ | .extract _ _ | .typeAssert _ _ _ _=>0
 | .alloc _ | .box _ _ | .buildSlice _ _ _ | .makeSlice _ _ _=>1
 | .makeMap _ _=>5
 | .load _ _ | .lookup _ _ _ _=>2
 | .call c=>match c.callee with
  | .builtin .len=>2
  | .builtin .max | .builtin .min=>0
  | _=>3
 | .insert _ _ _ _=>4
 | _=>3
def tmpsOf:List Operand→List Nat
 | []=>[]
 | .tmp t::l=>t::tmpsOf l
 | _::l=>tmpsOf l
def eS(n:Nat):List Nat→Bool
 | []=>false
 | m::l=>Nat.beq n m || eS n l
def y5:List Oper→List Nat
 | []=>[]
 | o::l=>match o.dst with
  | some d=>d::y5 l
  | none=>y5 l
def jr:List Nat→Bool
 | []=>true
 | n::l=>!eS n l&&jr l
def ni(me bef t:Nat):List Oper→List Nat→Nat→Bool
 | [],_,_=>true
 | o::l,c::cs,i=>(match o.dst with
   | some d=>!Nat.beq d t || (Nat.testBit bef i || Nat.testBit c me)
   | none=>true)&&ni me bef t l cs (i+1)
 | _::_,[],_=>false
def j7(all:List Oper)(bs:List Nat)(me bef:Nat):List Nat→Bool
 | []=>true
 | t::l=>ni me bef t all bs 0&&j7 all bs me bef l
def kz(all:List Oper)(o:Oper):List Nat:=
 match o.guard with
 | none=>[]
 | some (j,_)=>match (nth all j).bind (·.dst) with
  | some d=>[d]
  | none=>[]
def CN(all:List Oper)(bsA:List Nat):List Oper→List Nat→Nat→Bool
 | [],_,_=>true
 | o::l,b::bs,i=>j7 all bsA i b (tmpsOf o.op.operands.toList)&&j7 all bsA i b (kz all o)&&CN all bsA l bs (i+1)
 | _::_,[],_=>false
def u6(ops:List Oper):Bool:=jr (y5 ops)&&CN ops (dE ops []) ops (dE ops []) 0
structure Sm where
 owner:Nat
 id:Nat
 obj:au
structure Mk where
 owner:Nat
 id:Nat
 ins:List (Nat×V×V)
structure Rd where
 i:Nat
 tm:List V
 o:Oper
 v:V
structure RS where
 fr:Fr
 st:St
 sm:List Sm
 mm:Option Mk
 bigs:List Nat
 reads:List Rd
 lost:Bool:=false
def within(b done:Nat):Bool:=Nat.beq (b &&& done) b
def cM(bef:Nat):List Sm→H→H
 | [],h=>h
 | s::l,h=>if Nat.testBit bef s.owner then (cM bef l h).set s.id s.obj else cM bef l h
def fV(bef:Nat):List Sm→List Sm
 | []=>[]
 | s::l=>if Nat.testBit bef s.owner then fV bef l else s::fV bef l
def oi:List Sm→H→H
 | [],h=>h
 | s::l,h=>(oi l h).set s.id s.obj
def gR:List (Nat×V×V)→List (V×V)
 | []=>[]
 | (_,k,v)::l=>(k,v)::gR l
def wO:Option Mk→H→H
 | none,h=>h
 | some m,h=>h.set m.id (.map (gR m.ins))
def sI(bef:Nat):List Nat→Bool
 | []=>true
 | g::l=>Nat.testBit bef g&&sI bef l
def mL(cx:Cx)(st:St)(r:Rd):Bool:=
 match dW cx r.tm st r.o with
 | .ok (.val u,_)=>u.beq r.v
 | _=>false
def cI(cx:Cx)(st:St)(bef:Nat):List Rd→Bool
 | []=>true
 | r::l=>(Nat.testBit bef r.i || mL cx st r)&&cI cx st bef l
def CC(owner:Nat)(h:H)(lo:Nat):List Sm:=
 match h.get lo with
 | some o=>match o.bG with
  | true=>[]
  | false=>[{owner:=owner,id:=lo,obj:=o}]
 | none=>[]
def dG:V→V→Bool
 | .int k (.lit a),.int j (.lit b)=>bq k j && !aQ a b
 | .str (.slit a),.str (.slit b)=>!eN (a.map (· % 256)) (b.map (· % 256))
 | _,_=>false
def oT(k:V):List (Nat×V×V)→Bool
 | []=>true
 | (_,k',_)::l=>dG k k'&&oT k l
def p8(cx:Cx)(t:TypeId)(key:V):Bool:=
 match cx.tt.get t with
 | some td=>match td.d with
  | .map keyT _=>match cx.tt.get keyT with
   | some kd=>tx kd.d key
   | none=>false
  | _=>false
 | none=>false
def Bh(cx:Cx)(self:Self)(fr:Fr)(st:St)(o:Oper)(k:Fr→St→cC)(kp:V→St→cC):cC:=
 (dW cx fr.tm st o).bind fun (r,st)=>
  match r with
  | .val v=>kV fr.tm o.dst v fun tm=>k {fr with tm:=tm} st
  | .skip=>kV fr.tm o.dst .undef fun tm=>k {fr with tm:=tm} st
  | .enter f args=>(self.call f args st).bind fun (e,st)=>
   match e with
   | .ret v=>kV fr.tm o.dst v fun tm=>k {fr with tm:=tm} st
   | .panic v=>kp v st
  | .round l args=>(la self l args st).bind fun (e,st)=>
   match e with
   | .ret v=>kV fr.tm o.dst v fun tm=>k {fr with tm:=tm} st
   | .panic _=>.stuck "panic in a round"
  | .panic _=>.stuck "a panic in a drawn region"
  | .defer _=>.stuck "a defer in a drawn region"
def du:List Nat→Nat→Nat
 | [],d=>d
 | i::l,d=>du l (d ||| 2 ^ i)
def rC(bs:List Nat)(i:Nat):List Nat→Bool
 | []=>true
 | j::l=>match nth bs j with
  | some b=>match Nat.testBit b i with
   | true=>rC bs i l
   | false=>false
  | none=>false
def SO(n:Nat):List Sm→Bool
 | []=>false
 | s::l=>Nat.beq s.id n || SO n l
def YE(l:List Sm):Option V→Bool
 | some (.ptr b _)=>SO b l
 | some (.sptr b _ _ _)=>SO b l
 | _=>false
def YF(op:Op)(a:Operand→Option V)(l:List Sm):Bool:=match op with
 | .load _ x=>YE l (a x)
 | _=>false
def Fe(op:Op)(a:Operand→Option V):Bool:=match op with
 | .convert _ _ x=>match a x with
  | some (.xslice _ _ _ _ _ _)=>true
  | _=>false
 | _=>false
def gL(op:Op)(a:Operand→Option V)(l:List Sm):Nat:=match kindOf op with
 | 2=>match YF op a l with
  | true=>3
  | false=>2
 | 0=>match Fe op a with
  | true=>2
  | false=>0
 | n=>n
theorem pG{op:Op}{a:Operand→Option V}{l:List Sm}{n:Nat}(h:gL op a l=n)(h3:n≠3)(h2:n≠2):kindOf op=n:=by
 unfold gL at h
 split at h
 ·split at h
  ·exact absurd h.symm h3
  ·exact absurd h.symm h2
 ·rename_i h0
  split at h
  ·exact absurd h.symm h2
  ·rw [h0];exact h
 ·exact h
def RdK(op:Op)(a:Operand→Option V):Prop:=kindOf op=2∨Fe op a=true
theorem KJ{op:Op}{a:Operand→Option V}{l:List Sm}(h:gL op a l=2):RdK op a:=by
 unfold gL at h
 split at h
 ·rename_i h2;exact .inl h2
 ·split at h
  ·rename_i hr;exact .inr hr
  ·cases h
 ·exact .inl h
def oz(cx:Cx)(self:Self)(i:Nat)(o:Oper)(b:Nat)(rs:RS)(st:St)(dep:Bool)(k:RS→cC):cC:=
 match gL o.op (dq cx rs.fr.tm) rs.sm with
 | 0=>(dW cx rs.fr.tm {st with h:=T.nil} o).bind fun (r,st')=>
  match r with
  | .val v=>if Nat.ble st.n st'.n then kV rs.fr.tm o.dst v fun tm=>k {rs with st:={st' with h:=st.h},fr:={rs.fr with tm:=tm}} else .stuck "draw: names"
  | _=>.stuck "draw: value expected"
 | 1=>(dW cx rs.fr.tm {st with h:=T.nil} o).bind fun (r,st')=>
  match r with
  | .val v=>if Nat.blt st.n st'.n then kV rs.fr.tm o.dst v fun tm=>k {rs with st:={st' with h:=st.h},sm:=CC i st'.h st.n++rs.sm,fr:={rs.fr with tm:=tm}} else .stuck "draw: names"
  | _=>.stuck "draw: value expected"
 | 5=>(dW cx rs.fr.tm {st with h:=T.nil} o).bind fun (r,st')=>
  match r with
  | .val v=>match rs.mm,st'.h.get st.n with
   | none,some (.map [])=>if Nat.blt st.n st'.n then kV rs.fr.tm o.dst v fun tm=>k {rs with st:={st' with h:=st.h},mm:=some {owner:=i,id:=st.n,ins:=[]},fr:={rs.fr with tm:=tm}} else .stuck "draw: names"
   | _,_=>.stuck "draw: map"
  | _=>.stuck "draw: value expected"
 | 2=>(dW cx rs.fr.tm st o).bind fun (r,st')=>
  match r with
  | .val v=>kV rs.fr.tm o.dst v fun tm=>k {rs with st:=st',reads:={i:=i,tm:=rs.fr.tm,o:=o,v:=v}::rs.reads,fr:={rs.fr with tm:=tm}}
  | _=>.stuck "draw: value expected"
 | 4=>match o.op with
  | .insert t m key x=>match dq cx rs.fr.tm m,dq cx rs.fr.tm key,dq cx rs.fr.tm x,rs.mm with
   | some (.map mb),some kv,some xv,some mk=>match Nat.beq mb mk.id,Nat.testBit b mk.owner,p8 cx t kv,oT kv mk.ins with
    | true,true,true,true=>kV rs.fr.tm o.dst .undef fun tm=>k {rs with st:=st,mm:=some {mk with ins:=(i,kv,xv)::mk.ins},fr:={rs.fr with tm:=tm}}
    | _,_,_,_=>.stuck "draw: insert"
   | _,_,_,_=>.stuck "draw: insert"
  | _=>.stuck "draw: insert"
 | _=>
  Bh cx self rs.fr {st with h:=cM b rs.sm st.h} o (fun fr st'=>
   if Nat.ble st.n st'.n&&cI cx st' b rs.reads then
    k {fr:=fr,st:=st',sm:=fV b rs.sm,mm:=rs.mm,bigs:=i::rs.bigs,reads:=rs.reads}
   else .stuck "draw: a reader sees other things") fun v st'=>match rs.fr.df with
    | []=>match dep,cI cx {st with h:=cM b rs.sm st.h} b rs.reads with
     | true,true=>.ok (.die v,rs.fr,st')
     | _,_=>.stuck "a panic in a drawn region"
    | _=>.stuck "a panic in a drawn region"
def Ru(t:Nat):List Oper→Option Op
 | []=>none
 | o::l=>match o.dst with
  | some d=>match Nat.beq d t with
   | true=>some o.op
   | false=>Ru t l
  | none=>Ru t l
def zV(all:List Oper):Nat→Operand→Bool
 | 0,_=>false
 | n+1,.tmp t=>match Ru t all with
  | some (.indexAddr _ x _)=>zV all n x
  | some (.fieldAddr _ x _)=>zV all n x
  | some (.alloc _)=>true
  | some (.buildSlice _ _ _)=>true
  | _=>false
 | _,_=>false
def RW(all:List Oper)(o:Oper):Bool:=match kindOf o.op with
 | 3=>true
 | 2=>match o.op with
  | .load _ a=>zV all 5 a
  | _=>false
 | _=>false
def OF(all:List Oper):List (Nat×Oper×Nat)→Nat→List Nat×List (Nat×Oper×Nat)
 | [],_=>([],[])
 | (i,o,b)::l,left=>match OF all l left with
  | (a,r)=>match !RW all o&&Nat.beq (b &&& left) 0 with
   | true=>(i::a,r)
   | false=>(a,(i,o,b)::r)
def OE(all:List Oper):List (Nat×Oper×Nat)→Option (Nat×List (Nat×Oper×Nat))
 | []=>none
 | (i,o,b)::l=>match RW all o with
  | true=>some (i,l)
  | false=>match OE all l with
   | some (j,r)=>some (j,(i,o,b)::r)
   | none=>none
def order(all:List Oper):Nat→Nat→List (Nat×Oper×Nat)→List Nat
 | 0,_,_=>[]
 | n+1,left,l=>match OF all l left with
  | (a,r)=>match OE all r with
   | some (g,r)=>a++g::order all n (left-2 ^ g) r
   | none=>a
def DA(all:List Oper):Nat→List Oper→Nat
 | _,[]=>0
 | i,o::l=>match RW all o with
  | true=>2 ^ i+DA all (i+1) l
  | false=>DA all (i+1) l
def Ir:Nat→List Oper→List Nat→List (Nat×Oper×Nat)
 | i,o::l,b::bs=>(i,o,b)::Ir (i+1) l bs
 | _,_,_=>[]
def Eh(ops:List Oper)(bs:List Nat):List Nat:=order ops (ops.length+1) (DA ops 0 ops) (Ir 0 ops bs)
def km(cx:Cx)(self:Self)(ops:List Oper)(bs:List Nat):List Nat→Nat→RS→cC
 | [],done,rs=>match Nat.beq (done+1) (2 ^ ops.length) with
  | true=>.ok (.normal,rs.fr,{rs.st with h:=wO rs.mm (oi rs.sm rs.st.h)})
  | false=>.stuck "draw: not all"
 | i::rest,done,rs=>match nth ops i,nth bs i with
  | some o,some b=>match within b done&&sI b rs.bigs && !Nat.testBit done i with
   | true=>fO rs.st ops rs.fr.tm o fun st w=>
    match w with
    | false=>kV rs.fr.tm o.dst .undef fun tm=>km cx self ops bs rest (done ||| 2 ^ i) {rs with st:=st,fr:={rs.fr with tm:=tm}}
    | true=>oz cx self i o b rs st (rC bs i rest&&Nat.beq (du rest (done ||| 2 ^ i)+1) (2 ^ ops.length)) (km cx self ops bs rest (done ||| 2 ^ i))
   | false=>.stuck "draw: two calls"
  | _,_=>.stuck "draw"
def drawn(cx:Cx)(self:Self)(ops:List Oper)(bs:List Nat)(fr:Fr)(st:St):cC:=
 km cx self ops bs (Eh ops bs) 0 {fr:=fr,st:=st,sm:=[],mm:=none,bigs:=[],reads:=[]}
def uB(cx:Cx)(tm:List V)(h:H):ResultVar→Option V
 | .tmp t=>match nth tm t with
  | some v=>some v
  | none=>some .undef
 | .cell a t=>match cx.tt.get t,nth tm a with
  | some td,some (.ptr b off)=>match cv h b off td.size with
   | some cs=>if td.agg then some (.agg cs) else (match cs with | [v]=>some v | _=>none)
   | none=>none
  | _,_=>none
def jb(cx:Cx)(tm:List V)(h:H):List ResultVar→Option (List V)
 | []=>some []
 | r::rs=>match uB cx tm h r,jb cx tm h rs with
  | some v,some vs=>some (v::vs)
  | _,_=>none
def px(cx:Cx)(fn:Func)(tm:List V)(h:H):Option V:=
 match jb cx tm h fn.results.toList with
 | some [v]=>some v
 | some vs=>some (.tuple vs)
 | none=>none
def leave(cx:Cx)(fn:Func)(tm:List V):Option V→List bL→St→gm
 | e,[],st=>match e with
  | none=>match px cx fn tm st.h with
   | some v=>.ok (.ret v,st)
   | none=>.stuck "results"
  | some p=>.ok (.panic p,st)
 | e,.mark b::ds,st=>match st.h.get b with
  | some (.deferred (some []))=>leave cx fn tm e ds {st with h:=st.h.set b (.deferred none)}
  | _=>.stuck "mark"
 | e,.fn f cap args::ds,st=>match f with
  | .func g=>match cx.dm g with
   | some s=>(s (args++cap) st e).bind fun (e',st')=>leave cx fn tm e' ds st'
   | none=>.stuck "deferred call"
  | _=>.stuck "deferred call"
def KV(cx:Cx)(f:FuncId)(args:List V)(st:St):Option (List V→St→R (V×St)):=match cx.sm f with
 | some s=>match cx.so f args st with
  | true=>some s
  | false=>none
 | none=>none
def rK(cx:Cx)(self:Self)(f:FuncId)(args:List V)(st:St):gm:=
 match KV cx f args st with
 | some s=>(s args st).bind fun (v,st)=>.ok (.ret v,st)
 | none=>
  match cx.ft.get f with
  | none=>.stuck "no function"
  | some fn=>
   match fn.body with
   | none=>.stuck "no body"
   | some body=>
    (self.code none body {tm:=args++List.replicate (fn.ntmps-args.length) .undef,df:=[]} st).bind fun (e,fr,st)=>
     match e with
     | .normal=>leave cx fn fr.tm none fr.df st
     | .ret=>leave cx fn fr.tm none fr.df st
     | .panic v=>leave cx fn fr.tm (some v) fr.df st
     | .die v=>match fr.df with
      | []=>.ok (.panic v,st)
      | _=>.stuck "die"
     | .exit _=>.stuck "exit"
def qD(self:Self)(rnd:Option Nat)(g:FuncId)(first cap:List V)(params:Array Tmp)(assign body:Code)(tm:List V)(df:List bL)(D:Nat)(st:St):cC:=
 (self.call g (first++.yield st.n::cap) (newObj st (.loop .ready none tm params assign body D))).bind fun (e,st1)=>
  match e with
  | .panic _=>.stuck "panic out of a range"
  | .ret _=>
   match st1.h.get st.n with
   | some (.loop state pending tmps params assign body D)=>
    match state with
    | .busy=>.stuck "loop busy"
    | _=>
     match pending with
     | none=>.ok (.normal,{tm:=tm,df:=df},{st1 with h:=st1.h.set st.n (.loop .exhausted none tmps params assign body D)})
     | some c=>self.code rnd c {tm:=tm,df:=df} {st1 with h:=st1.h.set st.n (.loop .exhausted (some c) tmps params assign body D)}
   | _=>.stuck "loop"
def tg(cx:Cx)(self:Self)(rnd:Option Nat)(f:Operand)(params:Array Tmp)(assign body:Code)(fr:Fr)(st:St):cC:=
 match dq cx fr.tm f with
 | some (.func (.func g) first cap)=>
  match cx.ft.get g with
  | none=>.stuck "range: unknown function"
  | some _=>
   match rnd with
   | some l=>match st.h.get l with
    | some (.loop _ _ _ _ _ _ D)=>qD self rnd g first cap params assign body fr.tm fr.df D st
    | _=>.stuck "loop"
   | none=>qD self rnd g first cap params assign body fr.tm (.mark st.n::fr.df) st.n (newObj st (.deferred (some [])))
 | _=>.stuck "range over what?"
def oB(cx:Cx)(self:Self)(rnd:Option Nat)(c:Code)(fr:Fr)(st:St):cC:=
 match c with
 | .skip=>.ok (.normal,fr,st)
 | .label _=>.ok (.normal,fr,st)
 | .exit id=>.ok (.exit id,fr,st)
 | .ret=>.ok (.ret,fr,st)
 | .seq a b=>(self.code rnd a fr st).bind fun (e,fr,st)=>
  match e with
  | .normal=>self.code rnd b fr st
  | .exit id=>.ok (.exit id,fr,st)
  | .ret=>.ok (.ret,fr,st)
  | .panic v=>.ok (.panic v,fr,st)
  | .die v=>.ok (.die v,fr,st)
 | .cond c x y=>match dq cx fr.tm c with
  | some (.bool b)=>split st b fun st t=>match t with
   | true=>self.code rnd x fr st
   | false=>self.code rnd y fr st
  | _=>.stuck "cond"
 | .block id body=>(self.code rnd body fr st).bind fun (e,fr,st)=>
  match e with
  | .exit i=>match Nat.beq i id with
   | true=>.ok (.normal,fr,st)
   | false=>.ok (.exit i,fr,st)
  | .normal=>.ok (.normal,fr,st)
  | .ret=>.ok (.ret,fr,st)
  | .panic v=>.ok (.panic v,fr,st)
  | .die v=>.ok (.die v,fr,st)
 | .loop body=>self.loop rnd body fr st
 | .scope body=>self.code rnd body fr st
 | .region _ ops draw=>
  match draw with
  | false=>q7 cx self rnd ops.toList ops.toList fr st
  | true=>if u6 ops.toList then drawn cx self ops.toList (dE ops.toList []) fr st else .stuck "draw: temporaries"
 | .rangeFunc f params assign body=>tg cx self rnd f params assign body fr st
 | _=>.stuck "code"
def pV(self:Self)(rnd:Option Nat)(body:Code)(fr:Fr)(st:St):cC:=
 (self.code rnd body fr st).bind fun (e,fr,st)=>
  match e with
  | .normal=>self.loop rnd body fr st
  | .exit id=>.ok (.exit id,fr,st)
  | .ret=>.ok (.ret,fr,st)
  | .panic v=>.ok (.panic v,fr,st)
  | .die v=>.ok (.die v,fr,st)
def zd(cx:Cx)(self:Self)(rnd:Option Nat)(body:Code)(fr:Fr)(st:St):cC:=match cx.lp with
 | none=>pV self rnd body fr st
 | some lp=>match lp rnd body fr st with
  | none=>pV self rnd body fr st
  | some r=>r
def Fo:bL→bL→Bool
 | .fn (.func f) a b,.fn (.func g) c d=>Nat.beq f g&&V.eV a c&&V.eV b d
 | .mark b,.mark c=>Nat.beq b c
 | _,_=>false
def eB:List bL→List bL→Bool
 | [],[]=>true
 | a::l,b::m=>Fo a b&&eB l m
 | _,_=>false
def Mo:Option Nat→Option Nat→Bool
 | none,none=>true
 | some a,some b=>Nat.beq a b
 | _,_=>false
def vE(c:X):List (V×V)→List (V×V)→Option (List (V×V))
 | [],[]=>some []
 | (k,v)::l,(j,u)::m=>match k.beq j with
  | true=>match vE c l m with
   | some r=>some ((k,bV c v u)::r)
   | none=>none
  | false=>none
 | _,_=>none
def bM(a b c d e f:Bool):Bool:=match a with
 | false=>false
 | true=>match b with
  | false=>false
  | true=>match c with
   | false=>false
   | true=>match d with
    | false=>false
    | true=>match e with
     | false=>false
     | true=>f
def A.beq:A→A→Bool
 | .base t,.base u=>Nat.beq t u
 | .fill x,.fill y=>x.beq y
 | .put a i c x,.put b j d y=>bM (a.beq b) (i.beq j) (Nat.beq c d) (x.beq y) true true
 | _,_=>false
def NY(a b:V×V):Bool:=bM (a.1.beq b.1) (a.2.beq b.2) true true true true
def nB:Option Code→Option Code→Bool
 | none,none=>true
 | some a,some b=>bz a b
 | _,_=>false
def wj:Option (List bL)→Option (List bL)→Bool
 | none,none=>true
 | some a,some b=>eB a b
 | _,_=>false
def au.beq:au→au→Bool
 | .cells c e w,.cells c' e' w'=>bM (Nat.beq e e') (iA w w') (V.eV c c') true true true
 | .map es,.map es'=>gz NY es es'
 | .loop s p t ps as bd d,.loop s' p' t' ps' as' bd' d'=>bM (ki s s') (nB p p') (V.eV t t') (Nat.beq d d') (Im ps ps') (bM (bz as as') (bz bd bd') true true true true)
 | .deferred a,.deferred b=>wj a b
 | .ro t c,.ro t' c'=>bM (Nat.beq t t') (V.eV c c') true true true true
 | .win t c n es,.win t' c' n' es'=>bM (Nat.beq t t') (V.eV c c') (n.beq n') (Nat.beq es es') true true
 | .iter a,.iter b=>iA a b
 | .arr a ks n e w,.arr a' ks' n' e' w'=>bM (a.beq a') (CK.eV ks ks') (n.beq n') (Nat.beq e e') (je w w') true
 | .warr g t ks n,.warr g' t' ks' n'=>bM (Nat.beq g g') (Nat.beq t t') (CK.eV ks ks') (n.beq n') true true
 | _,_=>false
def m9(c:X):au→au→Option au
 | .cells l e w,.cells m e' w'=>match Nat.beq e e',Mo w w' with
  | true,true=>match dv c l m with
   | some r=>some (.cells r e w)
   | none=>none
  | _,_=>none
 | .map es,.map es'=>match vE c es es' with
  | some r=>some (.map r)
  | none=>none
 | .deferred (some []),.deferred (some [])=>some (.deferred (some []))
 | .deferred none,.deferred none=>some (.deferred none)
 | .ro t l,.ro t' m=>match Nat.beq t t',V.eV l m with
  | true,true=>some (.ro t l)
  | _,_=>none
 | .win t l n es,.win t' m n' es'=>match Nat.beq t t',V.eV l m with
  | true,true=>match n.beq n',Nat.beq es es' with
   | true,true=>some (.win t l n es)
   | _,_=>none
  | _,_=>none
 | a,b=>match a.beq b with
  | true=>some a
  | false=>none
def R1(c:X):Option au→Option au→Option (Option au)
 | some a,some b=>some (m9 c a b)
 | _,_=>some none
def GY(c:X):H→H→Option H
 | .node l v r,.node l' v' r'=>match R1 c v v' with
  | none=>none
  | some v=>match GY c l l' with
   | none=>none
   | some l=>match GY c r r' with
    | none=>none
    | some r=>some (.node l v r)
 | _,_=>some .nil
def Yp(a b:Nat):Nat:=match Nat.ble a b with
 | true=>b
 | false=>a
def vG(pc:PC)(c:X)(a b:St):Option St:=match GY c a.h b.h with
 | some h=>some {h:=h,n:=Yp a.n b.n,pc:=pc}
 | none=>none
def kq:Ex→Ex→Bool
 | .normal,.normal=>true
 | .exit i,.exit j=>Nat.beq i j
 | .ret,.ret=>true
 | _,_=>false
def pX{β:Type}:List V→(List V→β)→β
 | [],k=>k []
 | v::l,k=>oO v fun v=>pX l fun l=>k (v::l)
def zJ(pc:PC)(c:X)(a b:Ex×Fr×St):Option (Ex×Fr×St):=
 match a,b with
 | (e,fr,st),(e',fr',st')=>match kq e e',eB fr.df fr'.df with
  | true,true=>match dv c fr.tm fr'.tm with
   | some tm=>match vG pc c st st' with
    | some st=>pX tm fun tm=>some (e,{tm:=tm,df:=fr.df},st)
    | none=>none
   | none=>none
  | _,_=>none
def Ep(pc:PC)(c:X)(a b:En×St):Option (En×St):=
 match a,b with
 | (.ret v,st),(.ret u,st')=>match bV c v u with
  | v=>match v.isIte with
   | true=>none
   | false=>match vG pc c st st' with
    | some st=>some (.ret v,st)
    | none=>none
 | _,_=>none
def dZ{α:Type}(j:PC→X→α→α→Option α):PC→R α→R α
 | _,.ok a=>.ok a
 | _,.stuck s=>.stuck s
 | pc,.br c t f=>match dZ j ((c,true)::pc) t,dZ j ((c,false)::pc) f with
  | .ok a,.ok b=>match j pc c a b with
   | some r=>.ok r
   | none=>.br c (.ok a) (.ok b)
  | t,f=>.br c t f
def Y1:Op→Bool
 | .call c=>match c.callee with
  | .builtin _=>true
  | _=>false
 | _=>true
def KF:List Oper→Bool
 | []=>true
 | o::l=>match Y1 o.op with
  | true=>KF l
  | false=>false
def nP:Code→Bool
 | .skip=>true
 | .region _ ops _=>KF ops.toList
 | .seq a b=>match nP a with
  | true=>nP b
  | false=>false
 | .cond _ a b=>match nP a with
  | true=>nP b
  | false=>false
 | .block _ c=>nP c
 | .scope c=>nP c
 | .exit _=>true
 | _=>false
def R2(js:Bool)(c:Code):Bool:=match c with
 | .cond _ a b=>match js with
  | true=>match nP a with
   | true=>nP b
   | false=>false
  | false=>true
 | .block _ c=>match js with
  | true=>nP c
  | false=>true
 | _=>false
def R3(cx:Cx):Bool:=match cx.js with
 | true=>false
 | false=>cx.mg
def aaa:List V→Bool
 | []=>false
 | v::l=>match v with
  | .ite _ _ _=>true
  | _=>aaa l
def Sj(w:List Nat):List Nat→List Nat
 | []=>[]
 | t::l=>match eS t w with
  | true=>Sj w l
  | false=>t::Sj w l
def Ot(w:List Nat):List Oper→List Nat
 | []=>[]
 | o::l=>Sj w (tmpsOf o.op.operands.toList)++Ot (match o.dst,o.guard with
  | some d,none=>d::w
  | _,_=>w) l
def Fw:Code→List Nat
 | .cond c _ _=>tmpsOf [c]
 | .region _ ops _=>Ot [] ops.toList
 | .rangeFunc f _ _ _=>tmpsOf [f]
 | _=>[]
def iU(st:St)(tm:List V):List Nat→(St→List V→cC)→cC
 | [],k=>k st tm
 | t::ts,k=>match nth tm t with
  | some v=>match v.isIte with
   | true=>dK 100 st v fun st v=>iU st (By tm t v) ts k
   | false=>iU st tm ts k
  | none=>iU st tm ts k
def vg(cx:Cx)(self:Self)(rnd:Option Nat)(c:Code)(fr:Fr)(st:St):cC:=match Fw c with
 | []=>oB cx self rnd c fr st
 | t::ts=>iU st fr.tm (t::ts) fun st tm=>oB cx self rnd c {tm:=tm,df:=fr.df} st
def s7(cx:Cx)(self:Self)(rnd:Option Nat)(c:Code)(fr:Fr)(st:St):cC:=
 D8 fr fun fr=>tk st fun st=>
 match cx.mg with
 | false=>oB cx self rnd c fr st
 | true=>match R2 cx.js c with
  | true=>dZ zJ st.pc (vg cx self rnd c fr st)
  | false=>vg cx self rnd c fr st
def s6(cx:Cx)(self:Self)(f:FuncId)(args:List V)(st:St):gm:=
 match R3 cx with
 | false=>rK cx self f args st
 | true=>dZ Ep st.pc (rK cx self f args st)
def ev(cx:Cx):Nat→Self
 | 0=>{code:=fun _ _ _ _=>.stuck "fuel", loop:=fun _ _ _ _=>.stuck "fuel", call:=fun _ _ _=>.stuck "fuel" }
 | n+1=>{code:=s7 cx (ev cx n),loop:=zd cx (ev cx n),call:=s6 cx (ev cx n)}
end
end Go.Proofs.YtmickljjofbmiaaGreatDoor
