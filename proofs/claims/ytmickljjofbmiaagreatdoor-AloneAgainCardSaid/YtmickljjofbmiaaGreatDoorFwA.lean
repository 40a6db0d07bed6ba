/- Symbolic execution, part 1: expressions, values, heaps; what each stands for. Symbolic execution, part 2 a: bits, one by one (plain functions; nothing is proved here). Symbolic execution, part 2: the evaluator (plain functions; nothing is proved here). Symbolic execution: code held against code (plain functions). Symbolic execution, part 3: the evaluator of code and calls (plain functions; nothing is proved here). No condition. -/
import Derived.LoopNIn
import Derived.RangeFuncIn
import Derived.OrdersIn
import Derived.DefersIn
namespace Go.Proofs.YtmickljjofbmiaaGreatDoor
open Go
inductive B where
 | zero
 | one
 | pos (i:Nat)
 | neg (i:Nat)
inductive X where
 | lit (n:Int)
 | var (i:Nat)
 | add (a b:X)
 | sub (a b:X)
 | mul (a b:X)
 | quo (a b:X)
 | rem (a b:X)
 | wrap (k:IntKind) (a:X)
 | bits (o:Nat) (k:IntKind) (a b:X)
 | shl (k:IntKind) (a b:X)
 | shr (k:IntKind) (a b:X)
 | eq (a b:X)
 | lt (a b:X)
 | le (a b:X)
 | not (a:X)
 | ite (c a b:X)
 | fn1 (f:Nat) (a:X)
 | fn2 (f:Nat) (a b:X)
 | slit (l:List Nat)
 | svar (i:Nat)
 | scat (a b:X)
 | sfn (f:Nat) (a:X)
 | slen (a:X)
 | seq (a b:X)
 | bv (l:List B) (t:B)
 | cube (m v:Nat)
 | btext (t:Nat) (lo n:X)
structure Env where
 b:Nat→Bool
 v:Nat→Int
 f1:Nat→Int→Int
 f2:Nat→Int→Int→Int
 s:Nat→List UInt8
 sf:Nat→Int→List UInt8
 ro:Nat→Obj
 win:Nat→Addr
def bc(b:Bool):Int:=if b then 1 else 0
def gR(o:Nat)(k:IntKind)(a b:Int):Int:=
 match o with
 | 0=>k.wrap ((BitVec.ofInt k.bits a &&& BitVec.ofInt k.bits b).toNat:Int)
 | 1=>k.wrap ((BitVec.ofInt k.bits a ||| BitVec.ofInt k.bits b).toNat:Int)
 | 2=>k.wrap ((BitVec.ofInt k.bits a ^^^ BitVec.ofInt k.bits b).toNat:Int)
 | _=>k.wrap ((BitVec.ofInt k.bits a &&& ~~~BitVec.ofInt k.bits b).toNat:Int)
def L3(k:IntKind)(a b:Int):Int:=k.wrap (a*2 ^ (min b.toNat k.bits))
def B6(k:IntKind)(a b:Int):Int:=a.fdiv (2 ^ (min b.toNat k.bits))
def B.den(ρ:Env):B→Bool
 | .zero=>false
 | .one=>true
 | .pos i=>ρ.b i
 | .neg i=>!ρ.b i
def aw(ρ:Env):List B→B→Int
 | [],t=>-bc (t.den ρ)
 | b::l,t=>bc (b.den ρ)+2*aw ρ l t
def Au(l:List UInt8):List UInt8:=match l.take 1000 with
 | []=>[48]
 | c::l=>c::l
def xd(ρ:Env):Nat→Int→List UInt8
 | 0,n=>[UInt8.ofNat n.toNat]
 | f+1,n=>Au (ρ.sf (f+1) n)
def tW(ρ:Env)(t:Nat)(lo:Int)(n:Nat):List UInt8:=(List.range n).map fun i:Nat=>UInt8.ofNat (IntKind.u8.wrap (ρ.f1 t (lo+(i:Int)))).toNat
def bw(ρ:Env)(m v:Nat):Bool:=(List.range (m.log2+1)).all fun i=>!m.testBit i || (ρ.b i==v.testBit i)
mutual
def X.den(ρ:Env):X→Int
 | .lit n=>n
 | .var i=>ρ.v i
 | .add a b=>a.den ρ+b.den ρ
 | .sub a b=>a.den ρ-b.den ρ
 | .mul a b=>a.den ρ*b.den ρ
 | .quo a b=>(a.den ρ).tdiv (b.den ρ)
 | .rem a b=>(a.den ρ).tmod (b.den ρ)
 | .wrap k a=>k.wrap (a.den ρ)
 | .bits o k a b=>gR o k (a.den ρ) (b.den ρ)
 | .shl k a b=>L3 k (a.den ρ) (b.den ρ)
 | .shr k a b=>B6 k (a.den ρ) (b.den ρ)
 | .eq a b=>bc (a.den ρ==b.den ρ)
 | .lt a b=>bc (decide (a.den ρ<b.den ρ))
 | .le a b=>bc (decide (a.den ρ≤b.den ρ))
 | .not a=>bc (a.den ρ==0)
 | .ite c a b=>if c.den ρ==0 then b.den ρ else a.den ρ
 | .fn1 f a=>ρ.f1 f (a.den ρ)
 | .fn2 f a b=>ρ.f2 f (a.den ρ) (b.den ρ)
 | .slit _=>0
 | .svar _=>0
 | .scat _ _=>0
 | .sfn _ _=>0
 | .slen a=>((a.bx ρ).length:Int)
 | .seq a b=>bc (a.bx ρ==b.bx ρ)
 | .bv l t=>aw ρ l t
 | .cube m v=>bc (bw ρ m v)
 | .btext _ _ _=>0
def X.bx(ρ:Env):X→List UInt8
 | .slit l=>l.map UInt8.ofNat
 | .svar i=>ρ.s i
 | .scat a b=>a.bx ρ++b.bx ρ
 | .sfn f a=>xd ρ f (a.den ρ)
 | .ite c a b=>if c.den ρ==0 then b.bx ρ else a.bx ρ
 | .lit _=>[]
 | .var _=>[]
 | .add _ _=>[]
 | .sub _ _=>[]
 | .mul _ _=>[]
 | .quo _ _=>[]
 | .rem _ _=>[]
 | .wrap _ _=>[]
 | .bits _ _ _ _=>[]
 | .shl _ _ _=>[]
 | .shr _ _ _=>[]
 | .eq _ _=>[]
 | .lt _ _=>[]
 | .le _ _=>[]
 | .not _=>[]
 | .fn1 _ _=>[]
 | .fn2 _ _ _=>[]
 | .slen _=>[]
 | .seq _ _=>[]
 | .bv _ _=>[]
 | .cube _ _=>[]
 | .btext t lo n=>tW ρ t (lo.den ρ) (n.den ρ).toNat
end
def X.tt(ρ:Env)(x:X):Bool:=x.den ρ != 0
def bE:IntKind→IntKind→Bool
 | .i8,.i8=>true
 | .i16,.i16=>true
 | .i32,.i32=>true
 | .i64,.i64=>true
 | .u8,.u8=>true
 | .u16,.u16=>true
 | .u32,.u32=>true
 | .u64,.u64=>true
 | _,_=>false
theorem aY:∀ {a b:IntKind},bE a b=true→a=b:=by
 intro a b;cases a<;>cases b<;>simp [bE]
def aQ:Int→Int→Bool
 | .ofNat a,.ofNat b=>Nat.beq a b
 | .negSucc a,.negSucc b=>Nat.beq a b
 | _,_=>false
theorem bz:∀ {a b:Int},aQ a b=true→a=b:=by
 intro a b;cases a<;>cases b<;>simp [aQ]<;>(intro h;rw [h])
theorem bL(a b:Int):aQ a b=(a==b):=by
 by_cases h:a=b
 ·subst h;cases a<;>simp [aQ]
 ·rw [beq_eq_false_iff_ne.2 h]
  cases hb:aQ a b
  ·rfl
  ·exact absurd (bz hb) h
def eZ:List Nat→List Nat→Bool
 | [],[]=>true
 | a::l,b::m=>Nat.beq a b&&eZ l m
 | _,_=>false
theorem oC:∀ {a b:List Nat},eZ a b=true→a=b
 | [],[],_=>rfl
 | a::l,b::m,h=>by
  simp [eZ] at h
  rw [h.1,oC h.2]
 | [],_::_,h=>by simp [eZ] at h
 | _::_,[],h=>by simp [eZ] at h
def B.beq:B→B→Bool
 | .zero,.zero=>true
 | .one,.one=>true
 | .pos i,.pos j=>Nat.beq i j
 | .neg i,.neg j=>Nat.beq i j
 | _,_=>false
theorem B.beq_eq{a b:B}(h:a.beq b=true):a=b:=by
 cases a<;>cases b<;>simp [B.beq] at h<;>simp [h]
def zt:List B→List B→Bool
 | [],[]=>true
 | a::l,b::m=>match a.beq b with
  | true=>zt l m
  | false=>false
 | _,_=>false
theorem I8:∀ {l m:List B},zt l m=true→l=m
 | [],[],_=>rfl
 | a::l,b::m,h=>by
  unfold zt at h
  split at h
  ·rename_i hb
   rw [B.beq_eq hb,I8 h]
  ·cases h
 | [],_::_,h=>by simp [zt] at h
 | _::_,[],h=>by simp [zt] at h
def X.ah:X→X→Bool
 | .bv l t,.bv m u=>t.beq u&&zt l m
 | .cube m v,.cube n w=>Nat.beq m n&&Nat.beq v w
 | .lit a,.lit b=>aQ a b
 | .var a,.var b=>Nat.beq a b
 | .add a b,.add c d=>a.ah c&&b.ah d
 | .sub a b,.sub c d=>a.ah c&&b.ah d
 | .mul a b,.mul c d=>a.ah c&&b.ah d
 | .quo a b,.quo c d=>a.ah c&&b.ah d
 | .rem a b,.rem c d=>a.ah c&&b.ah d
 | .wrap k a,.wrap j b=>bE k j&&a.ah b
 | .bits o k a b,.bits p j c d=>Nat.beq o p&&bE k j&&a.ah c&&b.ah d
 | .shl k a b,.shl j c d=>bE k j&&a.ah c&&b.ah d
 | .shr k a b,.shr j c d=>bE k j&&a.ah c&&b.ah d
 | .eq a b,.eq c d=>a.ah c&&b.ah d
 | .lt a b,.lt c d=>a.ah c&&b.ah d
 | .le a b,.le c d=>a.ah c&&b.ah d
 | .not a,.not b=>a.ah b
 | .ite c a b,.ite d e f=>c.ah d&&a.ah e&&b.ah f
 | .fn1 f a,.fn1 g b=>Nat.beq f g&&a.ah b
 | .fn2 f a b,.fn2 g c d=>Nat.beq f g&&a.ah c&&b.ah d
 | .slit a,.slit b=>eZ a b
 | .svar a,.svar b=>Nat.beq a b
 | .scat a b,.scat c d=>a.ah c&&b.ah d
 | .sfn f a,.sfn g b=>Nat.beq f g&&a.ah b
 | .slen a,.slen b=>a.ah b
 | .seq a b,.seq c d=>a.ah c&&b.ah d
 | .btext t a b,.btext u c d=>Nat.beq t u&&a.ah c&&b.ah d
 | _,_=>false
def X.acO(b:X)(k:Int→Bool):Bool:=match b with
 | .lit m=>k m
 | _=>false
def X.acZ(b:X)(k:Nat→Bool):Bool:=match b with
 | .var m=>k m
 | _=>false
def X.aeX(b:X)(k:X→X→Bool):Bool:=match b with
 | .add a1 b1=>k a1 b1
 | _=>false
def X.aco(b:X)(k:X→X→Bool):Bool:=match b with
 | .sub a1 b1=>k a1 b1
 | _=>false
def X.ac9(b:X)(k:X→X→Bool):Bool:=match b with
 | .mul a1 b1=>k a1 b1
 | _=>false
def X.abZ(b:X)(k:X→X→Bool):Bool:=match b with
 | .quo a1 b1=>k a1 b1
 | _=>false
def X.acW(b:X)(k:X→X→Bool):Bool:=match b with
 | .rem a1 b1=>k a1 b1
 | _=>false
def X.aaK(b:X)(k:IntKind→X→Bool):Bool:=match b with
 | .wrap k1 a1=>k k1 a1
 | _=>false
def X.aae(b:X)(k:Nat→IntKind→X→X→Bool):Bool:=match b with
 | .bits o1 k1 a1 b1=>k o1 k1 a1 b1
 | _=>false
def X.afc(b:X)(k:IntKind→X→X→Bool):Bool:=match b with
 | .shl k1 a1 b1=>k k1 a1 b1
 | _=>false
def X.afi(b:X)(k:IntKind→X→X→Bool):Bool:=match b with
 | .shr k1 a1 b1=>k k1 a1 b1
 | _=>false
def X.aiI(b:X)(k:X→X→Bool):Bool:=match b with
 | .eq a1 b1=>k a1 b1
 | _=>false
def X.aky(b:X)(k:X→X→Bool):Bool:=match b with
 | .lt a1 b1=>k a1 b1
 | _=>false
def X.afR(b:X)(k:X→X→Bool):Bool:=match b with
 | .le a1 b1=>k a1 b1
 | _=>false
def X.acD(b:X)(k:X→Bool):Bool:=match b with
 | .not a1=>k a1
 | _=>false
def X.aeE(b:X)(k:X→X→X→Bool):Bool:=match b with
 | .ite a1 b1 c1=>k a1 b1 c1
 | _=>false
def X.abS(b:X)(k:Nat→X→Bool):Bool:=match b with
 | .fn1 f1 a1=>k f1 a1
 | _=>false
def X.ad2(b:X)(k:Nat→X→X→Bool):Bool:=match b with
 | .fn2 f1 a1 b1=>k f1 a1 b1
 | _=>false
def X.YN(b:X)(k:List Nat→Bool):Bool:=match b with
 | .slit m=>k m
 | _=>false
def X.Y2(b:X)(k:Nat→Bool):Bool:=match b with
 | .svar m=>k m
 | _=>false
def X.Zu(b:X)(k:X→X→Bool):Bool:=match b with
 | .scat a1 b1=>k a1 b1
 | _=>false
def X.adk(b:X)(k:Nat→X→Bool):Bool:=match b with
 | .sfn f1 a1=>k f1 a1
 | _=>false
def X.Yy(b:X)(k:X→Bool):Bool:=match b with
 | .slen a1=>k a1
 | _=>false
def X.adl(b:X)(k:X→X→Bool):Bool:=match b with
 | .seq a1 b1=>k a1 b1
 | _=>false
def X.am6(b:X)(k:List B→B→Bool):Bool:=match b with
 | .bv m u=>k m u
 | _=>false
def X.Zv(b:X)(k:Nat→Nat→Bool):Bool:=match b with
 | .cube m u=>k m u
 | _=>false
def X.Wf(b:X)(k:Nat→X→X→Bool):Bool:=match b with
 | .btext t1 a1 b1=>k t1 a1 b1
 | _=>false
noncomputable def X.beq(a:X):X→Bool:=X.rec (motive:=fun _=>X→Bool)
 (fun n b=>b.acO fun m=>aQ n m)
 (fun n b=>b.acZ fun m=>Nat.beq n m)
 (fun _ _ ia ib b=>b.aeX fun a1 b1=>(match ia a1 with | true=>ib b1 | false=>false))
 (fun _ _ ia ib b=>b.aco fun a1 b1=>(match ia a1 with | true=>ib b1 | false=>false))
 (fun _ _ ia ib b=>b.ac9 fun a1 b1=>(match ia a1 with | true=>ib b1 | false=>false))
 (fun _ _ ia ib b=>b.abZ fun a1 b1=>(match ia a1 with | true=>ib b1 | false=>false))
 (fun _ _ ia ib b=>b.acW fun a1 b1=>(match ia a1 with | true=>ib b1 | false=>false))
 (fun k0 _ ia b=>b.aaK fun k1 a1=>(match bE k0 k1 with | true=>ia a1 | false=>false))
 (fun o0 k0 _ _ ia ib b=>b.aae fun o1 k1 a1 b1=>(match Nat.beq o0 o1 with | true=>(match bE k0 k1 with | true=>(match ia a1 with | true=>ib b1 | false=>false) | false=>false) | false=>false))
 (fun k0 _ _ ia ib b=>b.afc fun k1 a1 b1=>(match bE k0 k1 with | true=>(match ia a1 with | true=>ib b1 | false=>false) | false=>false))
 (fun k0 _ _ ia ib b=>b.afi fun k1 a1 b1=>(match bE k0 k1 with | true=>(match ia a1 with | true=>ib b1 | false=>false) | false=>false))
 (fun _ _ ia ib b=>b.aiI fun a1 b1=>(match ia a1 with | true=>ib b1 | false=>false))
 (fun _ _ ia ib b=>b.aky fun a1 b1=>(match ia a1 with | true=>ib b1 | false=>false))
 (fun _ _ ia ib b=>b.afR fun a1 b1=>(match ia a1 with | true=>ib b1 | false=>false))
 (fun _ ia b=>b.acD fun a1=>ia a1)
 (fun _ _ _ ia ib ic b=>b.aeE fun a1 b1 c1=>(match ia a1 with | true=>(match ib b1 with | true=>ic c1 | false=>false) | false=>false))
 (fun f0 _ ia b=>b.abS fun f1 a1=>(match Nat.beq f0 f1 with | true=>ia a1 | false=>false))
 (fun f0 _ _ ia ib b=>b.ad2 fun f1 a1 b1=>(match Nat.beq f0 f1 with | true=>(match ia a1 with | true=>ib b1 | false=>false) | false=>false))
 (fun n b=>b.YN fun m=>eZ n m)
 (fun n b=>b.Y2 fun m=>Nat.beq n m)
 (fun _ _ ia ib b=>b.Zu fun a1 b1=>(match ia a1 with | true=>ib b1 | false=>false))
 (fun f0 _ ia b=>b.adk fun f1 a1=>(match Nat.beq f0 f1 with | true=>ia a1 | false=>false))
 (fun _ ia b=>b.Yy fun a1=>ia a1)
 (fun _ _ ia ib b=>b.adl fun a1 b1=>(match ia a1 with | true=>ib b1 | false=>false))
 (fun l t b=>b.am6 fun m u=>match t.beq u with | true=>zt l m | false=>false)
 (fun l t b=>b.Zv fun m u=>match Nat.beq l m with | true=>Nat.beq t u | false=>false)
 (fun f0 _ _ ia ib b=>b.Wf fun f1 a1 b1=>(match Nat.beq f0 f1 with | true=>(match ia a1 with | true=>ib b1 | false=>false) | false=>false))
 a
theorem iC(x y:Bool):(match x with | true=>y | false=>false)=(x&&y):=by cases x<;>rfl
theorem iL(x y z:Bool):(match x with | true=>(match y with | true=>z | false=>false) | false=>false)=(x&&y&&z):=by cases x<;>cases y<;>rfl
theorem iG(x y z u:Bool):(match x with | true=>(match y with | true=>(match z with | true=>u | false=>false) | false=>false) | false=>false)=(x&&y&&z&&u):=by cases x<;>cases y<;>cases z<;>rfl
@[csimp] theorem X.Tc:@X.beq=@X.ah:=by
 funext a
 induction a with
 | lit n=>
  funext b
  cases b<;>first
   | rfl
   | (simp only [X.ah];first | exact iC _ _ | exact iL _ _ _ | exact iG _ _ _ _ | rfl)
 | var n=>
  funext b
  cases b<;>first
   | rfl
   | (simp only [X.ah];first | exact iC _ _ | exact iL _ _ _ | exact iG _ _ _ _ | rfl)
 | add _ _ ia ib=>
  funext b
  cases b<;>first
   | rfl
   | (simp only [X.ah,←ia,←ib];first | exact iC _ _ | exact iL _ _ _ | exact iG _ _ _ _ | rfl)
 | sub _ _ ia ib=>
  funext b
  cases b<;>first
   | rfl
   | (simp only [X.ah,←ia,←ib];first | exact iC _ _ | exact iL _ _ _ | exact iG _ _ _ _ | rfl)
 | mul _ _ ia ib=>
  funext b
  cases b<;>first
   | rfl
   | (simp only [X.ah,←ia,←ib];first | exact iC _ _ | exact iL _ _ _ | exact iG _ _ _ _ | rfl)
 | quo _ _ ia ib=>
  funext b
  cases b<;>first
   | rfl
   | (simp only [X.ah,←ia,←ib];first | exact iC _ _ | exact iL _ _ _ | exact iG _ _ _ _ | rfl)
 | rem _ _ ia ib=>
  funext b
  cases b<;>first
   | rfl
   | (simp only [X.ah,←ia,←ib];first | exact iC _ _ | exact iL _ _ _ | exact iG _ _ _ _ | rfl)
 | wrap _ _ ia=>
  funext b
  cases b<;>first
   | rfl
   | (simp only [X.ah,←ia];first | exact iC _ _ | exact iL _ _ _ | exact iG _ _ _ _ | rfl)
 | bits _ _ _ _ ia ib=>
  funext b
  cases b<;>first
   | rfl
   | (simp only [X.ah,←ia,←ib];first | exact iC _ _ | exact iL _ _ _ | exact iG _ _ _ _ | rfl)
 | shl _ _ _ ia ib=>
  funext b
  cases b<;>first
   | rfl
   | (simp only [X.ah,←ia,←ib];first | exact iC _ _ | exact iL _ _ _ | exact iG _ _ _ _ | rfl)
 | shr _ _ _ ia ib=>
  funext b
  cases b<;>first
   | rfl
   | (simp only [X.ah,←ia,←ib];first | exact iC _ _ | exact iL _ _ _ | exact iG _ _ _ _ | rfl)
 | eq _ _ ia ib=>
  funext b
  cases b<;>first
   | rfl
   | (simp only [X.ah,←ia,←ib];first | exact iC _ _ | exact iL _ _ _ | exact iG _ _ _ _ | rfl)
 | lt _ _ ia ib=>
  funext b
  cases b<;>first
   | rfl
   | (simp only [X.ah,←ia,←ib];first | exact iC _ _ | exact iL _ _ _ | exact iG _ _ _ _ | rfl)
 | le _ _ ia ib=>
  funext b
  cases b<;>first
   | rfl
   | (simp only [X.ah,←ia,←ib];first | exact iC _ _ | exact iL _ _ _ | exact iG _ _ _ _ | rfl)
 | not _ ia=>
  funext b
  cases b<;>first
   | rfl
   | (simp only [X.ah,←ia];first | exact iC _ _ | exact iL _ _ _ | exact iG _ _ _ _ | rfl)
 | ite _ _ _ ia ib ic=>
  funext b
  cases b<;>first
   | rfl
   | (simp only [X.ah,←ia,←ib,←ic];first | exact iC _ _ | exact iL _ _ _ | exact iG _ _ _ _ | rfl)
 | fn1 _ _ ia=>
  funext b
  cases b<;>first
   | rfl
   | (simp only [X.ah,←ia];first | exact iC _ _ | exact iL _ _ _ | exact iG _ _ _ _ | rfl)
 | fn2 _ _ _ ia ib=>
  funext b
  cases b<;>first
   | rfl
   | (simp only [X.ah,←ia,←ib];first | exact iC _ _ | exact iL _ _ _ | exact iG _ _ _ _ | rfl)
 | slit n=>
  funext b
  cases b<;>first
   | rfl
   | (simp only [X.ah];first | exact iC _ _ | exact iL _ _ _ | exact iG _ _ _ _ | rfl)
 | svar n=>
  funext b
  cases b<;>first
   | rfl
   | (simp only [X.ah];first | exact iC _ _ | exact iL _ _ _ | exact iG _ _ _ _ | rfl)
 | scat _ _ ia ib=>
  funext b
  cases b<;>first
   | rfl
   | (simp only [X.ah,←ia,←ib];first | exact iC _ _ | exact iL _ _ _ | exact iG _ _ _ _ | rfl)
 | sfn _ _ ia=>
  funext b
  cases b<;>first
   | rfl
   | (simp only [X.ah,←ia];first | exact iC _ _ | exact iL _ _ _ | exact iG _ _ _ _ | rfl)
 | slen _ ia=>
  funext b
  cases b<;>first
   | rfl
   | (simp only [X.ah,←ia];first | exact iC _ _ | exact iL _ _ _ | exact iG _ _ _ _ | rfl)
 | seq _ _ ia ib=>
  funext b
  cases b<;>first
   | rfl
   | (simp only [X.ah,←ia,←ib];first | exact iC _ _ | exact iL _ _ _ | exact iG _ _ _ _ | rfl)
 | bv l t=>
  funext b
  cases b<;>first
   | rfl
   | (simp only [X.ah];first | exact iC _ _ | exact iL _ _ _ | exact iG _ _ _ _ | rfl)
 | cube l t=>
  funext b
  cases b<;>first
   | rfl
   | (simp only [X.ah];first | exact iC _ _ | exact iL _ _ _ | exact iG _ _ _ _ | rfl)
 | btext _ _ _ ia ib=>
  funext b
  cases b<;>first
   | rfl
   | (simp only [X.ah,←ia,←ib];first | exact iC _ _ | exact iL _ _ _ | exact iG _ _ _ _ | rfl)
theorem X.Yx:∀ {a b:X},a.ah b=true→a=b:=by
 intro a
 induction a with
 | bv l t=>intro b h;cases b<;>simp [X.ah] at h;rw [B.beq_eq h.1,I8 h.2]
 | cube m v=>intro b h;cases b<;>simp [X.ah] at h;rw [h.1,h.2]
 | lit n=>intro b h;cases b<;>simp [X.ah] at h;rw [bz h]
 | var n=>intro b h;cases b<;>simp [X.ah] at h;rw [h]
 | svar n=>intro b h;cases b<;>simp [X.ah] at h;rw [h]
 | slit n=>intro b h;cases b<;>simp [X.ah] at h;rw [oC h]
 | add _ _ i j=>intro b h;cases b<;>simp [X.ah] at h;rw [i h.1,j h.2]
 | sub _ _ i j=>intro b h;cases b<;>simp [X.ah] at h;rw [i h.1,j h.2]
 | mul _ _ i j=>intro b h;cases b<;>simp [X.ah] at h;rw [i h.1,j h.2]
 | quo _ _ i j=>intro b h;cases b<;>simp [X.ah] at h;rw [i h.1,j h.2]
 | rem _ _ i j=>intro b h;cases b<;>simp [X.ah] at h;rw [i h.1,j h.2]
 | eq _ _ i j=>intro b h;cases b<;>simp [X.ah] at h;rw [i h.1,j h.2]
 | lt _ _ i j=>intro b h;cases b<;>simp [X.ah] at h;rw [i h.1,j h.2]
 | le _ _ i j=>intro b h;cases b<;>simp [X.ah] at h;rw [i h.1,j h.2]
 | seq _ _ i j=>intro b h;cases b<;>simp [X.ah] at h;rw [i h.1,j h.2]
 | scat _ _ i j=>intro b h;cases b<;>simp [X.ah] at h;rw [i h.1,j h.2]
 | wrap _ _ i=>intro b h;cases b<;>simp [X.ah] at h;rw [aY h.1,i h.2]
 | not _ i=>intro b h;cases b<;>simp [X.ah] at h;rw [i h]
 | slen _ i=>intro b h;cases b<;>simp [X.ah] at h;rw [i h]
 | fn1 _ _ i=>intro b h;cases b<;>simp [X.ah] at h;rw [h.1,i h.2]
 | sfn _ _ i=>intro b h;cases b<;>simp [X.ah] at h;rw [h.1,i h.2]
 | fn2 _ _ _ i j=>intro b h;cases b<;>simp [X.ah] at h;rw [h.1.1,i h.1.2,j h.2]
 | btext _ _ _ i j=>intro b h;cases b<;>simp [X.ah] at h;rw [h.1.1,i h.1.2,j h.2]
 | ite _ _ _ i j k=>intro b h;cases b<;>simp [X.ah] at h;rw [i h.1.1,j h.1.2,k h.2]
 | bits _ _ _ _ i j=>intro b h;cases b<;>simp [X.ah] at h;rw [h.1.1.1,aY h.1.1.2,i h.1.2,j h.2]
 | shl _ _ _ i j=>intro b h;cases b<;>simp [X.ah] at h;rw [aY h.1.1,i h.1.2,j h.2]
 | shr _ _ _ i j=>intro b h;cases b<;>simp [X.ah] at h;rw [aY h.1.1,i h.1.2,j h.2]
theorem X.beq_eq{a b:X}(h:a.beq b=true):a=b:=X.Yx (by rw [←X.Tc];exact h)
inductive CK where
 | int (k:IntKind)
 | bool
def CK.beq:CK→CK→Bool
 | .int k,.int j=>bE k j
 | .bool,.bool=>true
 | _,_=>false
theorem CK.beq_eq{a b:CK}(h:a.beq b=true):a=b:=by
 cases a<;>cases b<;>simp [CK.beq] at h
 ·rw [aY h]
 ·rfl
def CK.fG:List CK→List CK→Bool
 | [],[]=>true
 | a::l,b::m=>match a.beq b with
  | true=>CK.fG l m
  | false=>false
 | _,_=>false
theorem CK.bJ:∀ {l m:List CK},CK.fG l m=true→l=m
 | [],[],_=>rfl
 | a::l,b::m,h=>by
  unfold CK.fG at h
  split at h
  ·rename_i hb
   rw [CK.beq_eq hb,CK.bJ h]
  ·cases h
 | [],_::_,h=>by simp [CK.fG] at h
 | _::_,[],h=>by simp [CK.fG] at h
inductive A where
 | base (t:Nat)
 | fill (x:X)
 | put (a:A) (i:X) (c:Nat) (x:X)
def CK.sym(ρ:Env)(k:CK)(t c:Nat)(j:Int):Int:=match k with
 | .int k=>k.wrap (ρ.f1 (t+c) j)
 | .bool=>bc (ρ.f1 (t+c) j==1)
def A.den(ρ:Env)(k:CK)(c:Nat)(j:Int):A→Int
 | .base t=>k.sym ρ t c j
 | .fill x=>x.den ρ
 | .put a i c' x=>if c=c'∧j=i.den ρ then x.den ρ else a.den ρ k c j
def CK.val(k:CK)(n:Int):Value:=match k with
 | .int k=>.int k n
 | .bool=>.bool (n != 0)
inductive XC where
 | known (x:X)
 | room (lo:X)
inductive Cp where
 | known (n:Nat)
 | room (b off lo:Nat)
inductive V where
 | int (k:IntKind) (x:X)
 | bool (x:X)
 | str (x:X)
 | ptr (b off:Nat)
 | nilptr
 | slice (b off len:Nat) (cap:Cp)
 | nilslice
 | map (b:Nat)
 | nilmap
 | func (f:Fn) (first cap:List V)
 | yield (b:Nat)
 | nilfunc
 | iface (t:TypeId) (v:V)
 | niliface
 | agg (l:List V)
 | tuple (l:List V)
 | wptr (b off:Nat)
 | wslice (b off:Nat) (len cap:X)
 | ite (c:X) (a b:V)
 | sptr (b off n:Nat) (i:X)
 | rest (b off l size:Nat)
 | xslice (w:Bool) (b:Nat) (off:X) (es:Nat) (len:X) (cap:XC)
 | xptr (w:Bool) (b:Nat) (i:X) (es c:Nat)
 | any (k:Nat)
abbrev V.undef:V:=.tuple []
instance:Inhabited V:=⟨.undef⟩
structure Pc where
 p:Nat
 q:Nat
 v:Value:=.nilFunc
abbrev Pl:=Nat→Pc
def Cp.ae(π:Pl):Cp→Nat
 | .known n=>n
 | .room b off lo=>max ((π b).2-off) lo
def cX(ρ:Env)(π:Pl)(w:Bool)(b n:Nat):Addr:=if w then (ρ.win b).add n else ⟨(π b).1,n,none⟩
def XC.ae(ρ:Env)(π:Pl)(b o:Nat):XC→Nat
 | .known x=>(x.den ρ).toNat
 | .room lo=>max (π b).2 (lo.den ρ).toNat-o
mutual
def V.ae(ρ:Env)(π:Pl):V→Value
 | .int k x=>.int k (x.den ρ)
 | .bool x=>.bool (x.tt ρ)
 | .str x=>.string ⟨(x.bx ρ).toArray⟩
 | .ptr b off=>.pointer (some ⟨(π b).1,off,none⟩)
 | .nilptr=>.pointer none
 | .slice b off len cap=>.slice (some ⟨(π b).1,off,none⟩) len (cap.ae π)
 | .nilslice=>.slice none 0 0
 | .map b=>.map (some (π b).1)
 | .nilmap=>.map none
 | .func f first cap=>.func f (V.af ρ π first).toArray (V.af ρ π cap).toArray
 | .yield b=>.func (.yield (π b).1) #[] #[]
 | .nilfunc=>.nilFunc
 | .iface t v=>.iface t (v.ae ρ π)
 | .niliface=>.nilIface
 | .agg l=>.agg (V.af ρ π l).toArray
 | .tuple l=>.tuple (V.af ρ π l).toArray
 | .wptr b off=>.pointer (some ((ρ.win b).add off))
 | .wslice b off len cap=>.slice (some ((ρ.win b).add off)) (len.den ρ).toNat (cap.den ρ).toNat
 | .ite c a b=>if c.tt ρ then a.ae ρ π else b.ae ρ π
 | .sptr b off _ i=>.pointer (some ⟨(π b).1,off+(i.den ρ).toNat,none⟩)
 | .rest b off l size=>.slice (some ⟨(π b).1,if (π b).2≤l then off else off+l*size,none⟩) 0 ((π b).2-l:Nat)
 | .xslice w b off es len cap=>.slice (some (cX ρ π w b ((off.den ρ).toNat*es))) (len.den ρ).toNat (cap.ae ρ π b (off.den ρ).toNat)
 | .xptr w b i es c=>.pointer (some (cX ρ π w b ((i.den ρ).toNat*es+c)))
 | .any k=>(π k).3
def V.af(ρ:Env)(π:Pl):List V→List Value
 | []=>[]
 | v::l=>v.ae ρ π::V.af ρ π l
end
theorem bF(ρ:Env)(π:Pl)(l:List V):V.af ρ π l=l.map (V.ae ρ π):=by
 induction l with
 | nil=>rfl
 | cons v l ih=>rw [V.af,ih];rfl
section
variable {α:Type}
noncomputable def nth(l:List α):Nat→Option α:=
 List.rec (motive:=fun _=>Nat→Option α) (fun _=>none) (fun a _ ih n=>Nat.rec (motive:=fun _=>Option α) (some a) (fun m _=>ih m) n) l
theorem bS:∀ (l:List α) (n:Nat),nth l n=l[n]?
 | [],_=>by simp [nth]
 | _::_,0=>rfl
 | a::l,n+1=>(show nth (a::l) (n+1)=nth l n from rfl).trans ((bS l n).trans (by simp))
def B5:List α→Nat→α→List α
 | [],_,_=>[]
 | a::l,n,b=>match n with
  | 0=>b::l
  | m+1=>a::B5 l m b
theorem mC:∀ (l:List α) (n:Nat) (b:α),B5 l n b=l.set n b
 | [],_,_=>rfl
 | _::_,0,_=>rfl
 | _::l,n+1,b=>by simp [B5,mC l n b]
def ji:List α→Nat→List α
 | [],_=>[]
 | a::l,n=>match n with
  | 0=>a::l
  | m+1=>ji l m
theorem cU:∀ (l:List α) (n:Nat),ji l n=l.drop n
 | [],_=>by simp [ji]
 | _::_,0=>rfl
 | _::l,n+1=>by simp [ji,cU l n]
def takeN:Nat→List α→Option (List α)
 | 0,_=>some []
 | _+1,[]=>none
 | n+1,a::l=>match takeN n l with
  | some r=>some (a::r)
  | none=>none
theorem cI:∀ (n:Nat) (l r:List α),takeN n l=some r→l.take n=r∧r.length=n∧n≤l.length
 | 0,l,r,h=>by simp [takeN] at h;subst h;simp
 | n+1,[],r,h=>by simp [takeN] at h
 | n+1,a::l,r,h=>by
  simp only [takeN] at h
  cases hr:takeN n l with
  | none=>rw [hr] at h;simp at h
  | some q=>
   rw [hr] at h
   simp only [Option.some.injEq] at h
   subst h
   have:=cI n l q hr
   simp [this.1,this.2.1,this.2.2]
def A3:List α→Nat→List α→Option (List α)
 | l,n,vs=>match n,l with
  | 0,l=>match takeN vs.length l with
   | some _=>some (vs++ji l vs.length)
   | none=>none
  | _+1,[]=>none
  | m+1,a::l=>match A3 l m vs with
   | some r=>some (a::r)
   | none=>none
theorem uT:∀ (l:List α) (n:Nat) (vs r:List α),A3 l n vs=some r→r=l.take n++vs++l.drop (n+vs.length)∧n+vs.length≤l.length
 | l,0,vs,r,h=>by
  unfold A3 at h
  simp only at h
  cases hr:takeN vs.length l with
  | none=>rw [hr] at h;simp at h
  | some q=>
   rw [hr] at h
   simp only [Option.some.injEq,cU] at h
   have:=cI _ _ _ hr
   exact⟨by simp [←h],by omega⟩
 | [],m+1,vs,r,h=>by simp [A3] at h
 | a::l,m+1,vs,r,h=>by
  unfold A3 at h
  simp only at h
  cases hr:A3 l m vs with
  | none=>rw [hr] at h;simp at h
  | some q=>
   rw [hr] at h
   simp only [Option.some.injEq] at h
   have:=uT l m vs q hr
   subst h
   refine⟨?_,by simp;omega⟩
   rw [this.1]
   simp [show m+1+vs.length=(m+vs.length)+1 by omega]
end
inductive T (α:Type) where
 | nil
 | node (l:T α) (v:Option α) (r:T α)
def oS:Nat→Nat→List Bool
 | 0,_=>[]
 | f+1,n=>match n with
  | 0=>[]
  | m+1=>Nat.beq ((m+1) % 2) 1::oS f ((m+1) / 2)
def bitsOf(n:Nat):List Bool:=oS n n
section
variable {α:Type}
def T.fk:T α→List Bool→Option α
 | .nil,_=>none
 | .node _ v _,[]=>v
 | .node l _ r,b::bs=>match b with
  | true=>r.fk bs
  | false=>l.fk bs
def T.gN:List Bool→T α→Option α→T α
 | [],.nil,v=>.node .nil v .nil
 | [],.node l _ r,v=>.node l v r
 | b::bs,.nil,v=>match b with
  | true=>.node .nil none (T.gN bs .nil v)
  | false=>.node (T.gN bs .nil v) none .nil
 | b::bs,.node l u r,v=>match b with
  | true=>.node l u (T.gN bs r v)
  | false=>.node (T.gN bs l v) u r
def T.get(t:T α)(n:Nat):Option α:=t.fk (bitsOf n)
def T.set(t:T α)(n:Nat)(v:α):T α:=T.gN (bitsOf n) t (some v)
def T.drop(t:T α)(n:Nat):T α:=T.gN (bitsOf n) t none
theorem Qz:∀ (f n m:Nat),n≤f→m≤f→∀ g,n≤g→m≤g→oS f n=oS g m→n=m:=by
 intro f
 induction f using Nat.strongRecOn with
 | _ f ih=>
  intro n m hn hm g hn' hm' h
  cases f with
  | zero=>omega
  | succ f=>
   cases g with
   | zero=>omega
   | succ g=>
    cases n with
    | zero=>cases m with
     | zero=>rfl
     | succ m=>simp [oS] at h
    | succ n=>cases m with
     | zero=>simp [oS] at h
     | succ m=>
      simp only [oS,List.cons.injEq] at h
      obtain⟨h1,h2⟩:=h
      have h3:=ih f (by omega) ((n+1) / 2) ((m+1) / 2) (by omega) (by omega) g (by omega) (by omega) h2
      have h4:(n+1) % 2=(m+1) % 2:=by
       have a1:=Nat.mod_two_eq_zero_or_one (n+1)
       have a2:=Nat.mod_two_eq_zero_or_one (m+1)
       rcases a1 with a1 | a1<;>rcases a2 with a2 | a2<;>simp [a1,a2] at h1 ⊢
      omega
theorem AA:∀ (n f g:Nat),n≤f→n≤g→oS f n=oS g n:=by
 intro n
 induction n using Nat.strongRecOn with
 | _ n ih=>
  intro f g hf hg
  cases n with
  | zero=>cases f<;>cases g<;>rfl
  | succ n=>
   cases f with
   | zero=>omega
   | succ f=>cases g with
    | zero=>omega
    | succ g=>
     simp only [oS]
     rw [ih ((n+1) / 2) (by omega) f g (by omega) (by omega)]
theorem zB{n m:Nat}(h:bitsOf n=bitsOf m):n=m:=by
 unfold bitsOf at h
 rw [AA n n (max n m) (Nat.le_refl _) (by omega),AA m m (max n m) (Nat.le_refl _) (by omega)] at h
 exact Qz (max n m) n m (by omega) (by omega) (max n m) (by omega) (by omega) h
theorem T.gK:∀ (bs:List Bool) (t:T α) (v:Option α),(T.gN bs t v).fk bs=v
 | [],.nil,v=>rfl
 | [],.node l _ r,v=>rfl
 | b::bs,.nil,v=>by cases b<;>simp [T.gN,T.fk,T.gK bs]
 | b::bs,.node l u r,v=>by cases b<;>simp [T.gN,T.fk,T.gK bs]
theorem T.eN(bs:List Bool):(T.nil:T α).fk bs=none:=by cases bs<;>rfl
theorem T.dM:∀ (bs cs:List Bool) (t:T α) (v:Option α),bs≠cs→(T.gN bs t v).fk cs=t.fk cs
 | [],[],_,_,h=>absurd rfl h
 | [],c::cs,.nil,v,_=>by cases c<;>simp [T.gN,T.fk]
 | [],c::cs,.node l _ r,v,_=>by cases c<;>simp [T.gN,T.fk]
 | b::bs,[],.nil,v,_=>by cases b<;>simp [T.gN,T.fk]
 | b::bs,[],.node l u r,v,_=>by cases b<;>simp [T.gN,T.fk]
 | b::bs,c::cs,.nil,v,h=>by
  cases b<;>cases c<;>simp only [T.gN,T.fk]
  ·rw [T.dM bs cs _ v (fun e=>h (by rw [e]))];exact T.eN _
  ·rw [T.dM bs cs _ v (fun e=>h (by rw [e]))];exact T.eN _
 | b::bs,c::cs,.node l u r,v,h=>by
  cases b<;>cases c<;>simp only [T.gN,T.fk]
  ·rw [T.dM bs cs _ v (fun e=>h (by rw [e]))]
  ·rw [T.dM bs cs _ v (fun e=>h (by rw [e]))]
theorem T.aR(t:T α)(n:Nat)(v:α):(t.set n v).get n=some v:=T.gK _ _ _
theorem T.aL(t:T α){n m:Nat}(v:α)(h:n≠m):(t.set n v).get m=t.get m:=
 T.dM _ _ _ _ fun e=>h (zB e)
theorem T.mN(t:T α)(n:Nat):(t.drop n).get n=none:=T.gK _ _ _
theorem T.lr(t:T α){n m:Nat}(h:n≠m):(t.drop n).get m=t.get m:=
 T.dM _ _ _ _ fun e=>h (zB e)
theorem T.get_nil(n:Nat):(T.nil:T α).get n=none:=T.eN _
end
inductive bN where
 | fn (f:Fn) (cap args:List V)
 | mark (b:Nat)
def bN.ae(ρ:Env)(π:Pl):bN→Deferred
 | .fn f cap args=>{target:=.fn f (V.af ρ π cap).toArray,args:=(V.af ρ π args).toArray}
 | .mark b=>{target:=.collected (π b).1,args:=#[]}
inductive av where
 | cells (c:List V) (elem:TypeId) (wide:Option Nat)
 | map (es:List (V×V))
 | loop (state:LoopState) (pending:Option Code) (tmps:List V) (params:Array Tmp) (assign body:Code) (defers:Nat)
 | deferred (calls:Option (List bN))
 | ro (tag:Nat) (c:List V)
 | win (tag:Nat) (c:List V) (len:X) (es:Nat)
 | iter (m:Option Nat)
 | arr (a:A) (ks:List CK) (len:X) (elem:TypeId) (wide:Bool)
 | warr (tag t:Nat) (ks:List CK) (len:X)
def entriesOf(ρ:Env)(π:Pl) (es:List (V×V)):List (Value×Value):=es.map fun e=>(e.1.ae ρ π,e.2.ae ρ π)
def cw:Value→Value→Prop
 | .int k a,.int j b=>k=j∧a≠b
 | .string a,.string b=>a≠b
 | .bool a,.bool b=>a≠b
 | _,_=>False
def Ah:Option Nat→Nat→List Value→Nat→Prop
 | none,_,spare,_=>spare=[]
 | some size,n,spare,cap=>n+spare.length=cap*size
def j3(ρ:Env)(a:A)(ks:List CK)(n:Nat)(get:Nat→Option Value):Prop:=
 ∀ (j c:Nat) (k:CK),j<n→ks[c]?=some k→get (j*ks.length+c)=some (k.val (a.den ρ k c j))
def av.is(ρ:Env)(π:Pl)(i:Nat):av→Obj→Prop
 | .cells c elem wide,o=>∃ spare:List Value,o=.cells (V.af ρ π c++spare).toArray elem (0,0)∧Ah wide c.length spare (π i).2
 | .map es,o=>∃ (ms:List MapEntry) (clock:Nat),o=.map ms.toArray clock∧(ms.map fun e=>(e.key,e.val)).Perm (entriesOf ρ π es) ∧
   ((entriesOf ρ π es).map (·.1)).Pairwise cw
 | .loop state pending tmps params assign body defers,o=>
  ∃ fn:FuncId,o=.loop {state,pending,fn,tmps:=(V.af ρ π tmps).toArray,params,assign,body,defers:=(π defers).1}
 | .deferred calls,o=>o=.deferred (calls.map fun l=>l.map (bN.ae ρ π))
 | .ro tag c,o=>(∃ (t:TypeId) (fr:Nat×Nat),o=.cells (V.af ρ π c).toArray t fr)∧o=ρ.ro tag
 | .win tag c len es,o=>((ρ.win i).spot=none∧(ρ.win i).block=(π i).1∧∃ (cs:Array Value) (t:TypeId) (fr:Nat×Nat),o=.cells cs t fr∧∀ (j:Nat) (v:V),c[j]?=some v→j<(len.den ρ).toNat*es→cs[(ρ.win i).off+j]?=some (v.ae ρ π))∧o=ρ.ro tag
 | .iter m,o=>match m with
  | none=>o=.mapIter none 0 #[] 0
  | some b=>∃ since last,o=.mapIter (some (π b).1) since #[] last
 | .arr a ks len elem wide,o=>∃ cs:List Value,o=.cells cs.toArray elem (0,0)∧(len.den ρ).toNat*ks.length≤cs.length∧(wide=true→cs.length=(π i).2*ks.length)∧j3 ρ a ks (len.den ρ).toNat fun j=>cs[j]?
 | .warr tag t ks len,o=>((ρ.win i).spot=none∧(ρ.win i).block=(π i).1∧∃ (cs:Array Value) (t':TypeId) (fr:Nat×Nat),o=.cells cs t' fr∧j3 ρ (.base t) ks (len.den ρ).toNat fun j=>cs[(ρ.win i).off+j]?)∧o=ρ.ro tag
abbrev H:=T av
def av.bR:av→Bool
 | .ro _ _=>true
 | .win _ _ _ _=>true
 | .warr _ _ _ _=>true
 | _=>false
structure dT (ρ:Env) (π:Pl) (h:H) (w:World):Prop where
 obj:∀ i o,h.get i=some o→∃ ob,w.heap[(π i).1]?=some ob∧o.is ρ π i ob
 inj:∀ i j o o',h.get i=some o→h.get j=some o'→(π i).1=(π j).1→i=j∨(o.bR=true∧o'.bR=true)
end Go.Proofs.YtmickljjofbmiaaGreatDoor
namespace Go.Proofs.YtmickljjofbmiaaGreatDoor
open Go
def B.not:B→B
 | .zero=>.one
 | .one=>.zero
 | .pos i=>.neg i
 | .neg i=>.pos i
def B.and(a b:B):Option B:=
 match a with
 | .zero=>some .zero
 | .one=>some b
 | a=>match b with
  | .zero=>some .zero
  | .one=>some a
  | b=>match a.beq b,a.beq b.not with
   | true,_=>some a
   | false,true=>some .zero
   | false,false=>none
def B.or(a b:B):Option B:=match B.and a.not b.not with
 | some c=>some c.not
 | none=>none
def B.xor(a b:B):Option B:=
 match a with
 | .zero=>some b
 | .one=>some b.not
 | a=>match b with
  | .zero=>some a
  | .one=>some a.not
  | b=>match a.beq b,a.beq b.not with
   | true,_=>some .zero
   | false,true=>some .one
   | false,false=>none
def B.diff(a b:B):Option B:=B.and a b.not
def B.op(o:Nat):B→B→Option B:=
 match o with
 | 0=>B.and
 | 1=>B.or
 | 2=>B.xor
 | _=>B.diff
def oO(b:Option B) (r:Option (List B×B)):Option (List B×B):=
 match b with
 | none=>none
 | some b=>match r with
  | none=>none
  | some (l,t)=>some (b::l,t)
def KK(f:B→B→Option B)(t:B):List B→B→Option (List B×B)
 | [],u=>match f t u with
  | some c=>some ([],c)
  | none=>none
 | c::m,u=>oO (f t c) (KK f t m u)
def ph(f:B→B→Option B):List B→B→List B→B→Option (List B×B)
 | [],t,m,u=>KK f t m u
 | b::l,t,m,u=>match m with
  | []=>oO (f b u) (ph f l t [] u)
  | c::m=>oO (f b c) (ph f l t m u)
def yb:Nat→List B→B→List B
 | 0,_,_=>[]
 | n+1,[],t=>match t with
  | .zero=>[]
  | t=>t::yb n [] t
 | n+1,b::l,t=>b::yb n l t
def DT:Nat→List B→B→List B×B
 | _,[],t=>([],t)
 | 0,b::_,_=>([],b)
 | n+1,b::l,t=>match DT n l t with
  | (r,s)=>(b::r,s)
def Nz(t:B):List B→List B
 | []=>[]
 | b::l=>match Nz t l with
  | []=>match b.beq t with
   | true=>[]
   | false=>[b]
  | c::r=>b::c::r
def Je(t:B):List B→Option Int
 | []=>match t with
  | .zero=>some 0
  | .one=>some (-1)
  | _=>none
 | b::l=>match Je t l with
  | none=>none
  | some n=>match b with
   | .zero=>some (2*n)
   | .one=>some (2*n+1)
   | _=>none
def Ay(l:List B)(t:B):X:=
 match Je t l with
 | some n=>.lit n
 | none=>.bv (Nz t l) t
def AZ(k:IntKind)(l:List B)(t:B):X:=
 match k.signed with
 | false=>Ay (yb k.bits l t) .zero
 | true=>match DT (k.bits-1) l t with
  | (r,s)=>Ay r s
def pP:Nat→Nat→List B
 | 0,_=>[]
 | f+1,n=>match n with
  | 0=>[]
  | m+1=>(match Nat.beq ((m+1) % 2) 1 with
   | true=>B.one
   | false=>B.zero)::pP f ((m+1) / 2)
def IE:List B→List B
 | []=>[]
 | b::l=>b.not::IE l
def toB:X→Option (List B×B)
 | .bv l t=>some (l,t)
 | .lit n=>match n with
  | .ofNat n=>match Nat.blt n (2 ^ 70) with
   | true=>some (pP 70 n,.zero)
   | false=>none
  | .negSucc n=>match Nat.blt n (2 ^ 70) with
   | true=>some (IE (pP 70 n),.one)
   | false=>none
 | _=>none
def ak3:X→Bool
 | .bv _ _=>true
 | _=>false
def wI:Nat→List B→List B
 | 0,l=>l
 | n+1,l=>.zero::wI n l
def AX:Nat→List B→List B
 | 0,l=>l
 | _+1,[]=>[]
 | n+1,_::l=>AX n l
def Qk(n:Nat):Option Nat:=match Nat.beq (2 ^ n.log2) n with
 | true=>match Nat.ble n.log2 64 with
  | true=>some n.log2
  | false=>none
 | false=>none
def QI(x y:B)(c:Bool):Option (B×Bool):=
 match c with
 | false=>match x with
  | .zero=>some (y,false)
  | x=>match y with
   | .zero=>some (x,false)
   | y=>match x,y with
    | .one,.one=>some (.zero,true)
    | _,_=>none
 | true=>match x with
  | .one=>some (y,true)
  | x=>match y with
   | .one=>some (x,true)
   | y=>match x,y with
    | .zero,.zero=>some (.one,false)
    | _,_=>none
def M1(t u:B)(c:Bool):Option (List B×B):=
 match QI t u c with
 | some (s,d)=>match c,d with
  | true,true=>some ([],s)
  | false,false=>some ([],s)
  | _,_=>none
 | none=>none
def WS(t:B):List B→B→Bool→Option (List B×B)
 | [],u,c=>M1 t u c
 | y::m,u,c=>match QI t y c with
  | some (s,d)=>oO (some s) (WS t m u d)
  | none=>none
def EJ:List B→B→List B→B→Bool→Option (List B×B)
 | [],t,m,u,c=>WS t m u c
 | x::l,t,m,u,c=>match m with
  | []=>match QI x u c with
   | some (s,d)=>oO (some s) (EJ l t [] u d)
   | none=>none
  | y::m=>match QI x y c with
   | some (s,d)=>oO (some s) (EJ l t m u d)
   | none=>none
def B.sub(a b:B):Option B:=
 match b with
 | .zero=>some a
 | b=>match a with
  | .one=>some b.not
  | a=>match a.beq b with
   | true=>some .zero
   | false=>none
inductive Q where
 | ff
 | c (m v:Nat)
 | bad
def oJ(i:Nat)(b:Bool):Nat:=match b with
 | true=>2 ^ i
 | false=>0
def Q.with(q:Q)(i:Nat)(b:Bool):Q:=
 match q with
 | .ff=>.ff
 | .bad=>.bad
 | .c m v=>match Nat.testBit m i with
  | true=>match Nat.testBit v i,b with
   | true,true=>.c m v
   | false,false=>.c m v
   | _,_=>.ff
  | false=>.c (m ||| 2 ^ i) (v ||| oJ i b)
def Q.Il(q:Q)(a b:B):Q:=
 match a with
 | .zero=>match b with
  | .zero=>q
  | .one=>.ff
  | .pos i=>q.with i false
  | .neg i=>q.with i true
 | .one=>match b with
  | .zero=>.ff
  | .one=>q
  | .pos i=>q.with i true
  | .neg i=>q.with i false
 | .pos i=>match b with
  | .zero=>q.with i false
  | .one=>q.with i true
  | .pos j=>match Nat.beq i j with
   | true=>q
   | false=>.bad
  | .neg j=>match Nat.beq i j with
   | true=>.ff
   | false=>.bad
 | .neg i=>match b with
  | .zero=>q.with i true
  | .one=>q.with i false
  | .pos j=>match Nat.beq i j with
   | true=>.ff
   | false=>.bad
  | .neg j=>match Nat.beq i j with
   | true=>q
   | false=>.bad
def Q.same(q:Q)(a b:B):Q:=
 match q with
 | .ff=>.ff
 | .bad=>.bad
 | .c m v=>Q.Il (.c m v) a b
def Z4(t:B):List B→B→Q→Q
 | [],u,q=>q.same t u
 | c::m,u,q=>match q with
  | .ff=>.ff
  | q=>Z4 t m u (q.same t c)
def MX:List B→B→List B→B→Q→Q
 | [],t,m,u,q=>Z4 t m u q
 | b::l,t,m,u,q=>match q with
  | .ff=>.ff
  | q=>match m with
   | []=>MX l t [] u (q.same b u)
   | c::m=>MX l t m u (q.same b c)
inductive G where
 | tt
 | ff
 | c (m v:Nat)
 | n (m v:Nat)
 | bad
def G.NS(q:Q):G:=match q with
 | .ff=>.ff
 | .bad=>.bad
 | .c m v=>.c m v
def single(m:Nat):Bool:=Nat.beq (m &&& (m-1)) 0
def DN(m v:Nat):Option Nat:=match Nat.beq m 0 with
 | true=>none
 | false=>match single m with
  | true=>some (m ^^^ v)
  | false=>none
def G.join(r1 r0:G)(i:Nat)(b:Bool):G:=
 match r1 with
 | .ff=>.ff
 | .tt=>match r0 with
  | .tt=>.tt
  | .ff=>.c (2 ^ i) (oJ i b)
  | .n m v=>match (Q.c m v).with i !b with
   | .ff=>.tt
   | .c m v=>.n m v
   | .bad=>.bad
  | .c m v=>match DN m v with
   | none=>.bad
   | some v=>match (Q.c m v).with i !b with
    | .ff=>.tt
    | .c m v=>.n m v
    | .bad=>.bad
  | .bad=>.bad
 | .c m v=>match r0 with
  | .tt=>.tt
  | .ff=>G.NS ((Q.c m v).with i b)
  | .c m' v'=>match Nat.beq m m',Nat.beq v v' with
   | true,true=>.c m v
   | _,_=>.bad
  | _=>.bad
 | .n m v=>match r0 with
  | .tt=>.tt
  | .ff=>match DN m v with
   | none=>.bad
   | some v=>G.NS ((Q.c m v).with i b)
  | .n m' v'=>match Nat.beq m m',Nat.beq v v' with
   | true,true=>.n m v
   | _,_=>.bad
  | _=>.bad
 | .bad=>.bad
def Ck(t:B):List B→Int→G
 | [],c=>match decide (c≤-1) with
  | true=>.tt
  | false=>match decide (1≤c) with
   | true=>.ff
   | false=>match t with
    | .zero=>.tt
    | .one=>.ff
    | .pos i=>.c (2 ^ i) 0
    | .neg i=>.c (2 ^ i) (2 ^ i)
 | b::l,c=>match b with
  | .zero=>Ck t l ((c+1) / 2)
  | .one=>Ck t l (c / 2)
  | .pos i=>match aQ ((c+1) / 2) (c / 2) with
   | true=>Ck t l (c / 2)
   | false=>G.join (Ck t l (c / 2)) (Ck t l ((c+1) / 2)) i true
  | .neg i=>match aQ ((c+1) / 2) (c / 2) with
   | true=>Ck t l (c / 2)
   | false=>G.join (Ck t l (c / 2)) (Ck t l ((c+1) / 2)) i false
def jb:List (X×Bool)→Nat×Nat
 | []=>(0,0)
 | (x,b)::pc=>match x with
  | .cube m v=>match b with
   | true=>match jb pc with
    | (M,V)=>(M ||| m,(V &&& (M ^^^ (M &&& m))) ||| (v &&& m))
   | false=>match single m with
    | true=>match jb pc with
     | (M,V)=>(M ||| m,(V &&& (M ^^^ (M &&& m))) ||| ((m ^^^ v) &&& m))
    | false=>jb pc
  | _=>jb pc
def gz(M V m v:Nat):List (X×Bool)→Bool
 | []=>false
 | (x,b)::pc=>match x with
  | .cube m' v'=>match b with
   | true=>gz M V m v pc
   | false=>match Nat.beq ((m' &&& M) &&& (v' ^^^ V)) 0 with
    | true=>match m' ^^^ (m' &&& M) with
     | r=>match Nat.beq (r &&& m) r,Nat.beq (v &&& r) (v' &&& r) with
      | true,true=>true
      | _,_=>gz M V m v pc
    | false=>gz M V m v pc
  | _=>gz M V m v pc
def E1(m v:Nat) (pc:List (X×Bool)):Option Bool:=
 match jb pc with
 | (M,V)=>match Nat.beq ((m &&& M) &&& (v ^^^ V)) 0 with
  | false=>some false
  | true=>match Nat.beq (m &&& M) m with
   | true=>some true
   | false=>match gz M V m v pc with
    | true=>some false
    | false=>none
def gN(M V:Nat)(b:B):B:=
 match b with
 | .pos i=>match Nat.testBit M i with
  | true=>match Nat.testBit V i with
   | true=>.one
   | false=>.zero
  | false=>.pos i
 | .neg i=>match Nat.testBit M i with
  | true=>match Nat.testBit V i with
   | true=>.zero
   | false=>.one
  | false=>.neg i
 | b=>b
def Ij(M V:Nat):List B→List B
 | []=>[]
 | b::l=>gN M V b::Ij M V l
def zz(x:X):List (X×Bool)→Option Bool
 | []=>none
 | (y,b)::pc=>match y.beq x with
  | true=>some b
  | false=>zz x pc
def IB (pc:List (X×Bool)) (x:X):X:=
 match x with
 | .bv l t=>match jb pc with
  | (M,V)=>match Nat.beq M 0 with
   | true=>.bv l t
   | false=>Ay (Ij M V l) (gN M V t)
 | .ite (.eq (.fn1 f a) (.lit n)) x y=>match zz (.eq (.fn1 f a) (.lit n)) pc with
  | some true=>x
  | some false=>y
  | none=>.ite (.eq (.fn1 f a) (.lit n)) x y
 | x=>x
end Go.Proofs.YtmickljjofbmiaaGreatDoor
namespace Go.Proofs.YtmickljjofbmiaaGreatDoor
open Go
noncomputable section
abbrev PC:=List (X×Bool)
structure St where
 h:H
 n:Nat
 pc:PC
inductive R (α:Type) where
 | ok (a:α)
 | br (c:X) (t f:R α)
 | stuck (s:String)
def R.ai{α:Type}(ρ:Env):R α→Option α
 | .ok a=>some a
 | .br c t f=>if c.tt ρ then t.ai ρ else f.ai ρ
 | .stuck _=>none
noncomputable def R.bind{α β:Type}(r:R α)(k:α→R β):R β:=
 R.rec (motive:=fun _=>R β) (fun a=>k a) (fun c _ _ it jf=>.br c it jf) (fun s=>.stuck s) r
def j6:IntKind→Int
 | .i8=>-128
 | .i16=>-32768
 | .i32=>-2147483648
 | .i64=>-9223372036854775808
 | _=>0
def lQ:IntKind→Int
 | .i8=>127
 | .i16=>32767
 | .i32=>2147483647
 | .i64=>9223372036854775807
 | .u8=>255
 | .u16=>65535
 | .u32=>4294967295
 | .u64=>18446744073709551615
def yo(a b:Int):Int:=match decide (a≤b) with
 | true=>a
 | false=>b
def imax(a b:Int):Int:=match decide (a≤b) with
 | true=>b
 | false=>a
structure Rg where
 lo:Int
 hi:Int
def Rg.abs(r:Rg):Int:=imax r.hi (-r.lo)
def NB(a b:Rg):Rg:=match decide (0≤a.lo),decide (0≤b.lo) with
 | true,true=>⟨a.lo*b.lo,a.hi*b.hi⟩
 | _,_=>match a.abs*b.abs with
  | m=>⟨-m,m⟩
def Lf(a:Rg)(m:Option Int):Rg:=match m with
 | some m=>match decide (0≤a.lo),decide (0<m) with
  | true,true=>⟨0,a.hi / m⟩
  | _,_=>⟨-a.abs,a.abs⟩
 | none=>⟨-a.abs,a.abs⟩
def Ik(a:Rg)(m:Option Int):Rg:=match m with
 | some m=>match decide (0<m) with
  | true=>match decide (0≤a.lo) with
   | true=>⟨0,yo a.hi (m-1)⟩
   | false=>⟨-(m-1),m-1⟩
  | false=>⟨-a.abs,a.abs⟩
 | none=>match decide (0≤a.lo) with
  | true=>⟨0,a.hi⟩
  | false=>⟨-a.abs,a.abs⟩
def mJ(x:X):Option Int:=X.rec (motive:=fun _=>Option Int) (fun n=>some n) (fun _=>none) (fun _ _ _ _=>none) (fun _ _ _ _=>none) (fun _ _ _ _=>none) (fun _ _ _ _=>none) (fun _ _ _ _=>none) (fun _ _ _=>none) (fun _ _ _ _ _ _=>none) (fun _ _ _ _ _=>none) (fun _ _ _ _ _=>none) (fun _ _ _ _=>none) (fun _ _ _ _=>none) (fun _ _ _ _=>none) (fun _ _=>none) (fun _ _ _ _ _ _=>none) (fun _ _ _=>none) (fun _ _ _ _ _=>none) (fun _=>none) (fun _=>none) (fun _ _ _ _=>none) (fun _ _ _=>none) (fun _ _=>none) (fun _ _ _ _=>none) (fun _ _=>none) (fun _ _=>none) (fun _ _ _ _ _=>none) x
theorem SO(n:Int):mJ (.lit n)=some n:=rfl
def Gz(f:Rg→Rg→Rg)(a b:Option Rg):Option Rg:=match a with
 | none=>none
 | some a=>match b with
  | none=>none
  | some b=>some (f a b)
def jQ:X→Option Rg
 | .lit n=>some ⟨n,n⟩
 | .wrap k _=>some ⟨j6 k,lQ k⟩
 | .bits _ k _ _=>some ⟨j6 k,lQ k⟩
 | .shl k _ _=>some ⟨j6 k,lQ k⟩
 | .bv l t=>match t with
  | .zero=>some ⟨0,Int.ofNat (2 ^ l.length)-1⟩
  | _=>some ⟨-Int.ofNat (2 ^ l.length),Int.ofNat (2 ^ l.length)-1⟩
 | .eq _ _=>some ⟨0,1⟩
 | .lt _ _=>some ⟨0,1⟩
 | .le _ _=>some ⟨0,1⟩
 | .not _=>some ⟨0,1⟩
 | .seq _ _=>some ⟨0,1⟩
 | .cube _ _=>some ⟨0,1⟩
 | .ite _ a b=>Gz (fun a b=>⟨yo a.lo b.lo,imax a.hi b.hi⟩) (jQ a) (jQ b)
 | .add a b=>Gz (fun a b=>⟨a.lo+b.lo,a.hi+b.hi⟩) (jQ a) (jQ b)
 | .sub a b=>Gz (fun a b=>⟨a.lo-b.hi,a.hi-b.lo⟩) (jQ a) (jQ b)
 | .mul a b=>Gz NB (jQ a) (jQ b)
 | .quo a b=>match jQ a with
  | some r=>some (Lf r (mJ b))
  | none=>none
 | .rem a b=>match jQ a with
  | some r=>some (Ik r (mJ b))
  | none=>none
 | .shr _ a _=>match jQ a with
  | some r=>some ⟨yo r.lo 0,imax r.hi 0⟩
  | none=>none
 | _=>none
def yx(x:X):Option Rg:=X.rec (motive:=fun _=>Option Rg) (fun n=>some ⟨n,n⟩) (fun _=>none) (fun _ _ ia ib=>Gz (fun a b=>⟨a.lo+b.lo,a.hi+b.hi⟩) ia ib) (fun _ _ ia ib=>Gz (fun a b=>⟨a.lo-b.hi,a.hi-b.lo⟩) ia ib) (fun _ _ ia ib=>Gz NB ia ib)
 (fun _ b ia _=>match ia with
  | some r=>some (Lf r (mJ b))
  | none=>none)
 (fun _ b ia _=>match ia with
  | some r=>some (Ik r (mJ b))
  | none=>none)
 (fun k _ _=>some ⟨j6 k,lQ k⟩) (fun _ k _ _ _ _=>some ⟨j6 k,lQ k⟩) (fun k _ _ _ _=>some ⟨j6 k,lQ k⟩)
 (fun _ _ _ ia _=>match ia with
  | some r=>some ⟨yo r.lo 0,imax r.hi 0⟩
  | none=>none)
 (fun _ _ _ _=>some ⟨0,1⟩) (fun _ _ _ _=>some ⟨0,1⟩) (fun _ _ _ _=>some ⟨0,1⟩) (fun _ _=>some ⟨0,1⟩) (fun _ _ _ _ ia ib=>Gz (fun a b=>⟨yo a.lo b.lo,imax a.hi b.hi⟩) ia ib)
 (fun _ _ _=>none) (fun _ _ _ _ _=>none) (fun _=>none) (fun _=>none) (fun _ _ _ _=>none) (fun _ _ _=>none) (fun _ _=>none) (fun _ _ _ _=>some ⟨0,1⟩)
 (fun l t=>match t with
  | .zero=>some ⟨0,Int.ofNat (2 ^ l.length)-1⟩
  | _=>some ⟨-Int.ofNat (2 ^ l.length),Int.ofNat (2 ^ l.length)-1⟩)
 (fun _ _=>some ⟨0,1⟩) (fun _ _ _ _ _=>none) x
theorem ad5(x:X):yx x=jQ x:=by
 induction x with
 | add a b ia ib=>show Gz _ (yx a) (yx b)=_;rw [ia,ib];rfl
 | sub a b ia ib=>show Gz _ (yx a) (yx b)=_;rw [ia,ib];rfl
 | mul a b ia ib=>show Gz _ (yx a) (yx b)=_;rw [ia,ib];rfl
 | ite c a b _ ia ib=>show Gz _ (yx a) (yx b)=_;rw [ia,ib];rfl
 | quo a b ia _=>show (match yx a with | some r=>some (Lf r (mJ b)) | none=>none)=_;rw [ia];rfl
 | rem a b ia _=>show (match yx a with | some r=>some (Ik r (mJ b)) | none=>none)=_;rw [ia];rfl
 | shr k a b ia _=>show (match yx a with | some r=>some (Rg.mk (yo r.lo 0) (imax r.hi 0)) | none=>none)=_;rw [ia];rfl
 | _=>rfl
def inK(k:IntKind)(x:X):Bool:=match yx x with
 | some r=>match decide (j6 k≤r.lo) with
  | true=>decide (r.hi≤lQ k)
  | false=>false
 | none=>false
def EZ(x:X):Bool:=match yx x with
 | some r=>decide (0≤r.lo)
 | none=>false
def yO(k:IntKind)(a:X):X:=match a with
 | .mul (.wrap j (.mul x (.lit m))) (.lit n)=>match bE j k with
  | true=>.wrap k (.mul x (.lit (m*n)))
  | false=>.wrap k a
 | a=>.wrap k a
def gS(k:IntKind)(a:X):X:=match inK k a with
 | true=>a
 | false=>yO k a
def mkWrap(k:IntKind):X→X
 | .lit n=>.lit (k.wrap n)
 | .bv l t=>AZ k l t
 | a=>gS k a
def rJ{α:Type}(a b:X)(k:List B→B→List B→B→α)(d:α):α:=
 match ak3 a,ak3 b with
 | false,false=>d
 | _,_=>match toB a with
  | none=>d
  | some (l,t)=>match toB b with
   | none=>d
   | some (m,u)=>k l t m u
def BU(k:IntKind)(d:X):Option (List B×B)→X
 | some (r,s)=>AZ k r s
 | none=>d
def GA:X→Bool
 | .lit n=>aQ n 0
 | _=>false
def Uu(k:IntKind)(a b:X):X:=match GA b with
 | true=>gS k a
 | false=>match GA a with
  | true=>gS k b
  | false=>gS k (.add a b)
def E9(k:IntKind)(a b:X):X:=
 match a,b with
 | .lit m,.lit n=>.lit (k.wrap (m+n))
 | a,b=>rJ a b (fun l t m u=>BU k (Uu k a b) (EJ l t m u false)) (Uu k a b)
def mkAdd(k:IntKind)(a b:X):X:=match mJ a with
 | some m=>match mJ b with
  | some n=>.lit (k.wrap (m+n))
  | none=>E9 k a b
 | none=>E9 k a b
def mkSub(k:IntKind)(a b:X):X:=
 match a,b with
 | .lit m,.lit n=>.lit (k.wrap (m-n))
 | a,.lit n=>rJ a (.lit (-n)) (fun l t m u=>BU k (gS k (.sub a (.lit n))) (EJ l t m u false)) (gS k (.sub a (.lit n)))
 | a,b=>rJ a b (fun l t m u=>BU k (gS k (.sub a b)) (ph B.sub l t m u)) (gS k (.sub a b))
def NN(k:IntKind)(l:List B)(t:B)(n:Int)(d:X):X:=
 match n with
 | .ofNat n=>match Qk n with
  | some s=>AZ k (wI s l) t
  | none=>d
 | _=>d
def mkMul(k:IntKind)(a b:X):X:=
 match a,b with
 | .lit m,.lit n=>.lit (k.wrap (m*n))
 | .bv l t,.lit n=>NN k l t n (gS k (.mul (.bv l t) (.lit n)))
 | .lit n,.bv l t=>NN k l t n (gS k (.mul (.lit n) (.bv l t)))
 | a,b=>gS k (.mul a b)
def WY(k:IntKind)(l:List B)(t:B)(n:Int)(d:X):X:=
 match t,n with
 | .zero,.ofNat n=>match Qk n with
  | some s=>AZ k (AX s l) .zero
  | none=>d
 | _,_=>d
def OJ(k:IntKind)(a b:X):X:=
 match a,b with
 | .lit m,.lit n=>.lit (k.wrap (m.tdiv n))
 | .bv l t,.lit n=>WY k l t n (gS k (.quo (.bv l t) (.lit n)))
 | a,b=>gS k (.quo a b)
def SR(l:List B)(t:B)(n:Int)(d:X):X:=
 match n with
 | .ofNat n=>match t with
  | .zero=>match Qk n with
   | some s=>Ay (yb s l .zero) .zero
   | none=>d
  | .one=>match Nat.beq n 2 with
   | true=>match l with
    | b::_=>Ay [] b
    | []=>d
   | false=>d
  | _=>d
 | _=>d
def kOf(n:Int):Option IntKind:=match aQ n 4294967296 with
 | true=>some .u32
 | false=>match aQ n 65536 with
  | true=>some .u16
  | false=>match aQ n 256 with
   | true=>some .u8
   | false=>none
def zP(a:X)(n:Int):X:=match yx a with
 | none=>.rem a (.lit n)
 | some r=>match decide (0≤r.lo) with
  | false=>.rem a (.lit n)
  | true=>match decide (r.hi<n) with
   | true=>a
   | false=>match kOf n with
    | some k=>yO k a
    | none=>.rem a (.lit n)
def xM(a b:X):X:=
 match a,b with
 | .lit m,.lit n=>.lit (m.tmod n)
 | .bv l t,.lit n=>SR l t n (.rem (.bv l t) (.lit n))
 | a,.lit n=>zP a n
 | a,b=>.rem a b
def FB(o:Nat)(k:IntKind)(a:X)(m:Int)(d:X):X:=
 match m with
 | .ofNat m=>match EZ a,inK k a with
  | true,true=>match Qk (m+1) with
   | some j=>match Nat.blt j k.bits with
    | true=>match o with
     | 0=>zP a (Int.ofNat (2 ^ j))
     | 3=>gS k (.sub a (zP a (Int.ofNat (2 ^ j))))
     | _=>d
    | false=>d
   | none=>d
  | _,_=>d
 | _=>d
def OE(o:Nat)(k:IntKind)(a b:X):X:=match b with
 | .lit m=>FB o k a m (.bits o k a (.lit m))
 | b=>.bits o k a b
def oM(o:Nat)(k:IntKind)(a b:X):X:=
 match a,b with
 | .lit m,.lit n=>.lit (gR o k m n)
 | a,b=>rJ a b (fun l t m u=>BU k (OE o k a b) (ph (B.op o) l t m u)) (OE o k a b)
def IU(k:IntKind)(a b:X):X:=
 match a,b with
 | .lit m,.lit n=>.lit (L3 k m n)
 | .bv l t,.lit n=>AZ k (wI (min n.toNat k.bits) l) t
 | a,.lit n=>gS k (.mul a (.lit (Int.ofNat (2 ^ (min n.toNat k.bits)))))
 | a,b=>.shl k a b
def ur(k:IntKind)(a b:X):X:=
 match a,b with
 | .lit m,.lit n=>.lit (B6 k m n)
 | .bv l t,.lit n=>Ay (AX (min n.toNat k.bits) l) t
 | a,.lit n=>match EZ a with
  | true=>.quo a (.lit (Int.ofNat (2 ^ (min n.toNat k.bits))))
  | false=>.shr k a (.lit n)
 | a,b=>.shr k a b
def isLit:X→Bool
 | .lit _=>true
 | _=>false
def NS(d:X):Q→X
 | .ff=>.lit 0
 | .c m v=>match Nat.beq m 0 with
  | true=>.lit 1
  | false=>.cube m v
 | .bad=>d
def apart(a b:X):Bool:=match yx a with
 | none=>false
 | some r=>match yx b with
  | none=>false
  | some s=>match decide (r.hi<s.lo) with
   | true=>true
   | false=>decide (s.hi<r.lo)
def Lq(k:IntKind)(a:X)(m:Int)(d:X):X:=match yx a with
 | none=>d
 | some r=>match decide (r.hi-r.lo<Int.ofNat (2 ^ k.bits)),decide (j6 k≤m),decide (m≤lQ k) with
  | true,true,true=>match r.lo+(m-r.lo) % Int.ofNat (2 ^ k.bits) with
   | n=>match decide (n≤r.hi) with
    | true=>.eq a (.lit n)
    | false=>.lit 0
  | _,_,_=>d
def BY(a:X)(m:Int):X:=match apart a (.lit m) with
 | true=>.lit 0
 | false=>match a with
  | .wrap k x=>Lq k x m (.eq (.wrap k x) (.lit m))
  | .ite c (.lit p) (.lit q)=>match aQ p m,aQ q m with
   | true,true=>.lit 1
   | true,false=>.ite c (.lit 1) (.lit 0)
   | false,true=>.ite c (.lit 0) (.lit 1)
   | false,false=>.lit 0
  | a=>.eq a (.lit m)
def eqD(a b:X):X:=match b with
 | .lit m=>BY a m
 | b=>match apart a b with
  | true=>.lit 0
  | false=>.eq a b
def Pg(a b:X):X:=
 match a,b with
 | .lit m,.lit n=>.lit (bc (aQ m n))
 | .lit m,b=>rJ (.lit m) b (fun l t m' u=>NS (BY b m) (MX l t m' u (.c 0 0))) (BY b m)
 | a,b=>rJ a b (fun l t m u=>NS (eqD a b) (MX l t m u (.c 0 0))) (match a.beq b with
  | true=>.lit 1
  | false=>eqD a b)
def mkEq(a b:X):X:=match mJ a with
 | some m=>match mJ b with
  | some n=>.lit (bc (aQ m n))
  | none=>Pg a b
 | none=>Pg a b
def ofG(d:X):G→X
 | .tt=>.lit 1
 | .ff=>.lit 0
 | .c m v=>.cube m v
 | .n m v=>.not (.cube m v)
 | .bad=>d
def Mg(d:X):G→X
 | .tt=>.lit 0
 | .ff=>.lit 1
 | .c m v=>.not (.cube m v)
 | .n m v=>.cube m v
 | .bad=>d
def ltD(a b:X):X:=match yx a with
 | none=>.lt a b
 | some r=>match yx b with
  | none=>.lt a b
  | some s=>match decide (r.hi<s.lo) with
   | true=>.lit 1
   | false=>match decide (s.hi≤r.lo) with
    | true=>.lit 0
    | false=>.lt a b
def leD(a b:X):X:=match yx a with
 | none=>.not (.lt b a)
 | some r=>match yx b with
  | none=>.not (.lt b a)
  | some s=>match decide (r.hi≤s.lo) with
   | true=>.lit 1
   | false=>match decide (s.hi<r.lo) with
    | true=>.lit 0
    | false=>.not (.lt b a)
def Of(a b:X):X:=
 match a,b with
 | .lit m,.lit n=>.lit (bc (decide (m<n)))
 | .bv l t,.lit n=>Mg (.lt (.bv l t) (.lit n)) (Ck t l n)
 | .lit n,.bv l t=>ofG (.lt (.lit n) (.bv l t)) (Ck t l (n+1))
 | a,b=>ltD a b
def mkLt(a b:X):X:=match mJ a with
 | some m=>match mJ b with
  | some n=>.lit (bc (decide (m<n)))
  | none=>Of a b
 | none=>Of a b
def OF(a b:X):X:=
 match a,b with
 | .lit m,.lit n=>.lit (bc (decide (m≤n)))
 | .bv l t,.lit n=>Mg (.le (.bv l t) (.lit n)) (Ck t l (n+1))
 | .lit n,.bv l t=>ofG (.le (.lit n) (.bv l t)) (Ck t l n)
 | a,b=>leD a b
def mkLe(a b:X):X:=match mJ a with
 | some m=>match mJ b with
  | some n=>.lit (bc (decide (m≤n)))
  | none=>OF a b
 | none=>OF a b
def mkNot:X→X
 | .lit n=>.lit (bc (aQ n 0))
 | a=>.not a
def N6:X→Option (Option IntKind×X×X)
 | .add y z=>some (none,y,z)
 | .wrap k (.add y z)=>match inK k y with
  | true=>some (some k,y,z)
  | false=>none
 | _=>none
def pv(k:Option IntKind)(x:X):X:=match k with
 | none=>x
 | some k=>.wrap k x
def y6(c a b:X):X:=match N6 b with
 | some (k,y,z)=>match y.beq a with
  | true=>pv k (.add y (.ite c (.lit 0) z))
  | false=>.ite c a b
 | none=>.ite c a b
def lE(c a b:X):X:=match N6 a with
 | some (k,y,z)=>match y.beq b with
  | true=>pv k (.add y (.ite c z (.lit 0)))
  | false=>y6 c a b
 | none=>y6 c a b
def Gi(c a b:X)(m:Int)(x:X):X:=match b with
 | .sub y (.lit w)=>match aQ m 2147483648,aQ w 4294967296 with
  | true,true=>match x.beq a,y.beq a,inK .u32 a with
   | true,true,true=>.wrap .i32 a
   | _,_,_=>.ite c a b
  | _,_=>.ite c a b
 | _=>lE c a b
def FA(c a b:X)(q:X):X:=match a with
 | .add (.rem y (.lit v)) (.lit w)=>match aQ v 4294967296,aQ w 4294967296 with
  | true,true=>match b with
   | .rem z (.lit u)=>match aQ u 4294967296,y.beq q,z.beq q with
    | true,true,true=>.wrap .u32 q
    | _,_,_=>lE c a b
   | _=>lE c a b
  | _,_=>lE c a b
 | _=>lE c a b
def adj(i:Nat)(vb:Bool)(x y:B):Option B:=match x.beq y with
 | true=>some x
 | false=>match gN (2 ^ i) (oJ i vb) x,gN (2 ^ i) (oJ i !vb) y with
  | x,y=>match x.beq y with
   | true=>some x
   | false=>match x,y with
    | .one,.zero=>some (match vb with | true=>.pos i | false=>.neg i)
    | .zero,.one=>some (match vb with | true=>.neg i | false=>.pos i)
    | _,_=>none
def EB(c a b:X)(m v:Nat):X:=match Nat.beq m (2 ^ m.log2) with
 | true=>rJ a b (fun l t n u=>match ph (adj m.log2 (Nat.testBit v m.log2)) l t n u with
  | some (r,s)=>Ay r s
  | none=>.ite c a b) (lE c a b)
 | false=>lE c a b
def acU(c a b:X):X:=match c with
 | .cube m v=>EB c a b m v
 | .lt (.rem q (.lit v)) (.lit n)=>match aQ v 4294967296,aQ n 0 with
  | true,true=>FA c a b q
  | _,_=>lE c a b
 | .lt x (.lit m)=>Gi c a b m x
 | c=>lE c a b
def mkIte(c a b:X):X:=
 match c with
 | .lit n=>if aQ n 0 then b else a
 | c=>if a.beq b then a else acU c a b
def zy(c a b:X):X:=
 match c with
 | .lit n=>if aQ n 0 then b else a
 | c=>if a.beq b then a else .ite c a b
def JY:X→Bool
 | .slit l=>match l with
  | []=>false
  | _::_=>true
 | .sfn _ _=>true
 | .scat a b=>match JY a with
  | true=>true
  | false=>JY b
 | _=>false
def isNone:X→Bool
 | .slit l=>match l with
  | []=>true
  | _::_=>false
 | _=>false
def F1(a b:X):X:=match a.beq b with
 | true=>.lit 1
 | false=>match isNone a,JY b with
  | true,true=>.lit 0
  | _,_=>match JY a,isNone b with
   | true,true=>.lit 0
   | _,_=>.seq a b
def mkSeq(a b:X):X:=
 match a,b with
 | .slit l,.slit m=>.lit (bc (eZ (l.map (· % 256)) (m.map (· % 256))))
 | a,b=>F1 a b
def Gm(l:List Nat)(b:X):X:=
 match l with
 | []=>b
 | c::l=>match b with
  | .slit m=>.slit (c::(l++m))
  | .scat (.slit m) r=>.scat (.slit (c::(l++m))) r
  | b=>.scat (.slit (c::l)) b
def sZ(a b:X):X:=match isNone b with
 | true=>a
 | false=>.scat a b
def lV:X→X→X
 | .slit l,b=>Gm l b
 | .scat a c,b=>lV a (lV c b)
 | .lit n,b=>sZ (.lit n) b
 | .svar i,b=>sZ (.svar i) b
 | .sfn f a,b=>sZ (.sfn f a) b
 | .ite c x y,b=>sZ (.ite c x y) b
 | .btext t x y,b=>sZ (.btext t x y) b
 | a,b=>.scat a b
def QR:X→Option Nat
 | .slit l=>some l.length
 | .sfn _ _=>some 1000
 | .scat a b=>match QR a,QR b with
  | some m,some n=>some (m+n)
  | _,_=>none
 | _=>none
def zT:X→X
 | .slit l=>.lit l.length
 | a=>.slen a
def I5(a:X):PC→Option Int
 | []=>none
 | (x,b)::pc=>
  let r:=I5 a pc
  let with_ (n:Int):Option Int:=match r with
   | none=>some n
   | some m=>some (if decide (m<n) then n else m)
  match x,b with
  | .eq c (.lit n),true=>if c.beq a then with_ n else r
  | .lt (.lit n) c,true=>if c.beq a then with_ (n+1) else r
  | .le (.lit n) c,true=>if c.beq a then with_ n else r
  | .lt c (.lit n),false=>if c.beq a then with_ n else r
  | .le c (.lit n),false=>if c.beq a then with_ (n+1) else r
  | _,_=>r
def IZ(a:X):PC→Option Int
 | []=>none
 | (x,b)::pc=>
  let r:=IZ a pc
  let with_ (n:Int):Option Int:=match r with
   | none=>some n
   | some m=>some (if decide (n<m) then n else m)
  match x,b with
  | .eq c (.lit n),true=>if c.beq a then with_ n else r
  | .lt c (.lit n),true=>if c.beq a then with_ (n-1) else r
  | .le c (.lit n),true=>if c.beq a then with_ n else r
  | .lt (.lit n) c,false=>if c.beq a then with_ n else r
  | .le (.lit n) c,false=>if c.beq a then with_ (n-1) else r
  | _,_=>r
def sQ(x:X):PC→Option Bool
 | []=>none
 | (y,b)::pc=>if y.beq x then some b else sQ x pc
def mi(a b:Option Int):Bool:=
 match a,b with
 | some m,some n=>decide (m<n)
 | _,_=>false
def FT(a:X)(pc:PC):Nat→Int→Int
 | 0,n=>n
 | f+1,n=>match sQ (.eq a (.lit n)) pc with
  | some false=>FT a pc f (n+1)
  | _=>n
def uz(a:X)(pc:PC):Nat→Int→Int
 | 0,n=>n
 | f+1,n=>match sQ (.eq a (.lit n)) pc with
  | some false=>uz a pc f (n-1)
  | _=>n
def loB(a:X)(pc:PC):Option Int:=
 match I5 a pc with
 | some n=>some (FT a pc pc.length n)
 | none=>none
def hiB(a:X)(pc:PC):Option Int:=
 match IZ a pc with
 | some n=>some (uz a pc pc.length n)
 | none=>none
structure ij where
 ts:List (X×Int)
 k:Int
def Zo(x:X)(c:Int):List (X×Int)→List (X×Int)
 | []=>[(x,c)]
 | (y,d)::l=>match y.beq x with
  | true=>match aQ (d+c) 0 with
   | true=>l
   | false=>(y,d+c)::l
  | false=>(y,d)::Zo x c l
def DF(m:Int):List (X×Int)→List (X×Int)→List (X×Int)
 | [],l=>l
 | (x,c)::r,l=>DF m r (Zo x (m*c) l)
def ij.plus(m:Int)(a b:ij):ij:=match b.k+m*a.k with
 | k=>⟨DF m a.ts b.ts,k⟩
def vn:X→ij
 | .lit n=>⟨[],n⟩
 | .add a b=>(vn b).plus 1 (vn a)
 | .sub a b=>(vn b).plus (-1) (vn a)
 | .mul a b=>match b with
  | .lit n=>match aQ n 0 with
   | true=>⟨[],0⟩
   | false=>(vn a).plus n ⟨[],0⟩
  | b=>match a with
   | .lit n=>match aQ n 0 with
    | true=>⟨[],0⟩
    | false=>(vn b).plus n ⟨[],0⟩
   | a=>⟨[(.mul a b,1)],0⟩
 | x=>⟨[(x,1)],0⟩
def N1:X→Bool→List ij
 | .lt a b,true=>[(vn a).plus (-1) ((vn b).plus 1 ⟨[],-1⟩)]
 | .lt a b,false=>[(vn b).plus (-1) (vn a)]
 | .le a b,true=>[(vn a).plus (-1) (vn b)]
 | .le a b,false=>[(vn b).plus (-1) ((vn a).plus 1 ⟨[],-1⟩)]
 | .eq a b,true=>[(vn a).plus (-1) (vn b),(vn b).plus (-1) (vn a)]
 | _,_=>[]
def Fq(x:X):List (X×Int)→Int
 | []=>0
 | (y,d)::l=>match y.beq x with
  | true=>d
  | false=>Fq x l
def adn(x:X)(c:Int):Option ij:=match yx x with
 | none=>none
 | some r=>match decide (0<c) with
  | true=>some ⟨[(x,1)],-r.lo⟩
  | false=>some ⟨[(x,-1)],r.hi⟩
def J0(a:Int):Int:=match decide (0≤a) with
 | true=>a
 | false=>-a
def Pn(x:X)(c:Int)(g f:ij):Option ij:=match Fq x f.ts with
 | d=>match decide (0<d*c) with
  | true=>some (f.plus (-(J0 c)) (g.plus (J0 d) ⟨[],0⟩))
  | false=>none
def na(rest:ij→Bool)(x:X)(c:Int)(g:ij):List ij→Bool
 | []=>match adn x c with
  | none=>false
  | some f=>match Pn x c g f with
   | none=>false
   | some g'=>rest g'
 | f::fs=>match Pn x c g f with
  | none=>na rest x c g fs
  | some g'=>match rest g' with
   | true=>true
   | false=>na rest x c g fs
def Aq:Nat→List ij→ij→Bool
 | 0,_,_=>false
 | n+1,fs,g=>match g.ts with
  | []=>decide (0≤g.k)
  | (x,c)::_=>na (Aq n fs) x c g fs
def BA:PC→List ij
 | []=>[]
 | (x,b)::pc=>N1 x b++BA pc
def J5(pc:PC)(g:ij):Bool:=Aq 7 (BA pc) g
def B1(pc:PC)(a b:X):Bool:=J5 pc ((vn a).plus (-1) (vn b))
def ltL(pc:PC)(a b:X):Bool:=J5 pc ((vn a).plus (-1) ((vn b).plus 1 ⟨[],-1⟩))
def AU(pc:PC):X→Option Bool
 | .lt a b=>match ltL pc a b with
  | true=>some true
  | false=>match B1 pc b a with
   | true=>some false
   | false=>none
 | .le a b=>match B1 pc a b with
  | true=>some true
  | false=>match ltL pc b a with
   | true=>some false
   | false=>none
 | .eq a b=>match ltL pc a b with
  | true=>some false
  | false=>match ltL pc b a with
   | true=>some false
   | false=>match B1 pc a b with
    | true=>match B1 pc b a with
     | true=>some true
     | false=>none
    | false=>none
 | _=>none
def By(pc:PC)(x:X):Option Bool:=
 match sQ x pc with
 | some b=>some b
 | none=>
  match x with
  | .cube m v=>E1 m v pc
  | .eq a (.lit n)=>
   match loB a pc,hiB a pc with
   | lo,hi=>
    if mi (some n) lo || mi hi (some n) then some false
    else match lo,hi with
     | some l,some u=>if aQ l n&&aQ u n then some true else none
     | _,_=>none
  | .lt a (.lit n)=>
   match loB a pc,hiB a pc with
   | lo,hi=>if mi hi (some n) then some true else if mi (some (n-1)) lo then some false else none
  | .le a (.lit n)=>
   match loB a pc,hiB a pc with
   | lo,hi=>if mi hi (some (n+1)) then some true else if mi (some n) lo then some false else none
  | .lt (.lit n) a=>
   match loB a pc,hiB a pc with
   | lo,hi=>if mi (some n) lo then some true else if mi hi (some (n+1)) then some false else none
  | .le (.lit n) a=>
   match loB a pc,hiB a pc with
   | lo,hi=>if mi (some (n-1)) lo then some true else if mi hi (some n) then some false else none
  | _=>none
def BK:PC→Bool
 | []=>false
 | (x,_)::pc=>match x with
  | .le (.lit 0) (.lit 7)=>true
  | _=>BK pc
def eT(pc:PC)(x:X):Option Bool:=match By pc x with
 | some b=>some b
 | none=>match BK pc with
  | true=>AU pc x
  | false=>none
def cZ{α:Type}(st:St):X→(St→Bool→R α)→R α
 | .lit n,k=>k st (!aQ n 0)
 | .not y,k=>cZ st y fun st b=>k st !b
 | .ite c a b,k=>cZ st c fun st t=>match t with
  | true=>cZ st a k
  | false=>cZ st b k
 | x,k=>match eT st.pc x with
  | some b=>k st b
  | none=>.br x (k {st with pc:=(x,true)::st.pc} true) (k {st with pc:=(x,false)::st.pc} false)
inductive SV where
 | lit (n:Int)
 | atom
 | deep
def X.sv(x:X):SV:=X.rec (motive:=fun _=>SV) (fun n=>.lit n) (fun _=>.atom) (fun _ _ _ _=>.atom) (fun _ _ _ _=>.atom) (fun _ _ _ _=>.atom) (fun _ _ _ _=>.atom) (fun _ _ _ _=>.atom) (fun _ _ _=>.atom) (fun _ _ _ _ _ _=>.atom) (fun _ _ _ _ _=>.atom) (fun _ _ _ _ _=>.atom) (fun _ _ _ _=>.atom) (fun _ _ _ _=>.atom) (fun _ _ _ _=>.atom) (fun _ _=>.deep) (fun _ _ _ _ _ _=>.deep) (fun _ _ _=>.atom) (fun _ _ _ _ _=>.atom) (fun _=>.atom) (fun _=>.atom) (fun _ _ _ _=>.atom) (fun _ _ _=>.atom) (fun _ _=>.atom) (fun _ _ _ _=>.atom) (fun _ _=>.atom) (fun _ _=>.atom) (fun _ _ _ _ _=>.atom) x
def adZ{α:Type}(st:St)(x:X)(k:St→Bool→R α):R α:=match eT st.pc x with
 | some b=>k st b
 | none=>.br x (k {st with pc:=(x,true)::st.pc} true) (k {st with pc:=(x,false)::st.pc} false)
def split{α:Type}(st:St)(x:X)(k:St→Bool→R α):R α:=match x.sv with
 | .lit n=>k st (!aQ n 0)
 | .atom=>adZ st x k
 | .deep=>cZ st x k
theorem nw{α:Type}(st:St)(x:X)(k:St→Bool→R α):split st x k=cZ st x k:=by cases x<;>rfl
theorem CW{α:Type}(st:St)(n:Int)(k:St→Bool→R α):split st (.lit n) k=k st (!aQ n 0):=rfl
def jy:Bool→Bool→Bool
 | true,b=>b
 | false,true=>false
 | false,false=>true
def XC.beq:XC→XC→Bool
 | .known a,.known b=>a.beq b
 | .room a,.room b=>a.beq b
 | _,_=>false
mutual
def V.beq:V→V→Bool
 | .int k x,.int j y=>bE k j&&x.beq y
 | .bool x,.bool y=>x.beq y
 | .str x,.str y=>x.beq y
 | .ptr b o,.ptr c p=>Nat.beq b c&&Nat.beq o p
 | .nilptr,.nilptr=>true
 | .slice b o n c,.slice b' o' n' c'=>Nat.beq b b'&&Nat.beq o o'&&Nat.beq n n'&&(match c,c' with
  | .known x,.known y=>Nat.beq x y
  | .room x y z,.room x' y' z'=>Nat.beq x x'&&Nat.beq y y'&&Nat.beq z z'
  | _,_=>false)
 | .nilslice,.nilslice=>true
 | .map b,.map c=>Nat.beq b c
 | .nilmap,.nilmap=>true
 | .func (.func f) a b,.func (.func g) c d=>Nat.beq f g&&V.fG a c&&V.fG b d
 | .yield b,.yield c=>Nat.beq b c
 | .nilfunc,.nilfunc=>true
 | .iface t v,.iface u w=>Nat.beq t u&&v.beq w
 | .niliface,.niliface=>true
 | .agg l,.agg m=>V.fG l m
 | .tuple l,.tuple m=>V.fG l m
 | .wptr b o,.wptr c p=>Nat.beq b c&&Nat.beq o p
 | .wslice b o n c,.wslice b' o' n' c'=>Nat.beq b b'&&Nat.beq o o'&&n.beq n'&&c.beq c'
 | .ite c a b,.ite d e f=>c.beq d&&a.beq e&&b.beq f
 | .sptr b o n i,.sptr c p m j=>Nat.beq b c&&Nat.beq o p&&Nat.beq n m&&i.beq j
 | .xslice w b off es n c,.xslice w' b' off' es' n' c'=>jy w w'&&Nat.beq b b'&&off.beq off'&&Nat.beq es es'&&n.beq n'&&c.beq c'
 | .xptr w b i es c,.xptr w' b' i' es' c'=>jy w w'&&Nat.beq b b'&&i.beq i'&&Nat.beq es es'&&Nat.beq c c'
 | .any i,.any j=>Nat.beq i j
 | _,_=>false
def V.fG:List V→List V→Bool
 | [],[]=>true
 | v::l,w::m=>v.beq w&&V.fG l m
 | _,_=>false
end
def V.isIte:V→Bool
 | .ite _ _ _=>true
 | .any _=>true
 | _=>false
def C6(c:X)(a b:V):V:=match a.beq b with
 | true=>a
 | false=>.ite c a b
mutual
def bY(c:X)(a:V)(b:V):V:=match a with
 | .int k x=>match b with
  | .int j y=>match bE k j with
   | true=>.int k (mkIte c x y)
   | false=>.ite c (.int k x) (.int j y)
  | b=>.ite c (.int k x) b
 | .bool x=>match b with
  | .bool y=>.bool (mkIte c x y)
  | b=>.ite c (.bool x) b
 | .str x=>match b with
  | .str y=>.str (zy c x y)
  | b=>.ite c (.str x) b
 | .agg l=>match b with
  | .agg m=>match dL c l m with
   | some r=>.agg r
   | none=>.ite c (.agg l) (.agg m)
  | b=>.ite c (.agg l) b
 | .tuple l=>match b with
  | .tuple m=>match dL c l m with
   | some r=>.tuple r
   | none=>.ite c (.tuple l) (.tuple m)
  | b=>.ite c (.tuple l) b
 | .iface t v=>C6 c (.iface t v) b
 | .func f x y=>C6 c (.func f x y) b
 | .ite d x y=>C6 c (.ite d x y) b
 | a=>C6 c a b
def dL(c:X)(l:List V)(m:List V):Option (List V):=match l with
 | []=>match m with
  | []=>some []
  | _::_=>none
 | a::l=>match m with
  | []=>none
  | b::m=>match dL c l m with
   | some r=>some (bY c a b::r)
   | none=>none
end
def dR{α:Type}:Nat→St→V→(St→V→R α)→R α
 | 0,st,v,k=>k st v
 | n+1,st,v,k=>match v with
  | .ite c a b=>split st c fun st t=>match t with
   | true=>dR n st a k
   | false=>dR n st b k
  | v=>k st v
def CP(i:X):Nat→List V→Option V
 | _,[]=>none
 | j,v::l=>match l with
  | []=>some v
  | _=>match CP i (j+1) l with
   | some r=>some (bY (mkEq i (.lit (Int.ofNat j))) v r)
   | none=>none
def ZW(k:IntKind)(f:Nat):Nat→List V→Bool
 | _,[]=>true
 | j,v::l=>match v with
  | .int k' (.wrap k2 (.fn1 g (.lit n)))=>match bE k' k,bE k2 k with
   | true,true=>match Nat.beq g f,aQ n (Int.ofNat j) with
    | true,true=>ZW k f (j+1) l
    | _,_=>false
   | _,_=>false
  | _=>false
def Ps(i:X)(l:List V):Option V:=match l with
 | .int k (.wrap _ (.fn1 f (.lit _)))::_=>match ZW k f 0 l with
  | true=>some (.int k (.wrap k (.fn1 f i)))
  | false=>CP i 0 l
 | l=>CP i 0 l
def jT(i:X)(v:V):Nat→List V→List V
 | _,[]=>[]
 | j,u::l=>bY (mkEq i (.lit (Int.ofNat j))) v u::jT i v (j+1) l
mutual
def ofValue:Value→Option V
 | .bool b=>some (.bool (.lit (bc b)))
 | .int k n=>some (.int k (.lit n))
 | .string s=>some (.str (.slit (s.data.toList.map UInt8.toNat)))
 | .pointer none=>some .nilptr
 | .slice none 0 0=>some .nilslice
 | .map none=>some .nilmap
 | .func f ⟨[]⟩ ⟨[]⟩=>match f with
  | .yield _=>none
  | f=>some (.func f [] [])
 | .nilFunc=>some .nilfunc
 | .iface t v=>(ofValue v).map (.iface t)
 | .nilIface=>some .niliface
 | .agg ⟨l⟩=>(ofValues l).map .agg
 | .tuple ⟨l⟩=>(ofValues l).map .tuple
 | _=>none
def ofValues:List Value→Option (List V)
 | []=>some []
 | v::l=>match ofValue v,ofValues l with
  | some a,some b=>some (a::b)
  | _,_=>none
end
def V.cells:V→List V
 | .agg l=>l
 | v=>[v]
inductive Ex where
 | normal
 | exit (id:Nat)
 | ret
 | panic (v:V)
 | die (v:V)
structure Fr where
 tm:List V
 df:List bN
abbrev cM:=R (Ex×Fr×St)
structure TD where
 d:TypeDesc
 size:Nat
 bytes:Nat
 zero:List V
 agg:Bool
 flat:Bool
structure Cx where
 tt:T TD
 ft:T Func
 sm:FuncId→Option (List V→St→R (V×St))
 ng:Nat
 dm:FuncId→Option (List V→St→Option V→R (Option V×St)):=fun _=>none
 mg:Bool:=false
 js:Bool:=false
 sx:Bool:=false
 lp:Option (Option Nat→Code→Fr→St→Option cM):=none
 so:FuncId→List V→St→Bool:=fun _ _ _=>true
def dC(cx:Cx)(tm:List V):Operand→Option V
 | .tmp t=>match nth tm t with
  | some v=>match v.isIte with
   | true=>none
   | false=>some v
  | none=>some .undef
 | .const v=>ofValue v
 | .global g=>if Nat.blt g cx.ng then some (.ptr g 0) else none
 | .func f=>some (.func (.func f) [] [])
def pG(cx:Cx)(tm:List V)(o:Operand):Option V:=match dC cx tm o with
 | some v=>some v
 | none=>match o with
  | .tmp t=>match nth tm t with
   | some v=>match v with
    | .any k=>some (.any k)
    | _=>none
   | none=>none
  | _=>none
def newObj(st:St)(o:av):St:={st with h:=st.h.set st.n o,n:=st.n+1}
def rowAt(h:H)(b:Nat):Option (List V):=
 match h.get b with
 | some (.cells c _ _)=>some c
 | some (.ro _ c)=>some c
 | _=>none
def cF(h:H)(b off n:Nat):Option (List V):=
 match rowAt h b with
 | some c=>takeN n (ji c off)
 | none=>none
def V.one:V→Bool
 | .any _=>false
 | .agg _=>false
 | .tuple _=>false
 | .ite _ a b=>a.one&&b.one
 | _=>true
def sP:List V→Bool
 | []=>true
 | v::l=>match v.one with
  | true=>sP l
  | false=>false
def putAt(h:H)(b off:Nat)(vs:List V):Option H:=
 match h.get b with
 | some (.cells c e w)=>match sP vs,A3 c off vs with
  | true,some c=>some (h.set b (.cells c e w))
  | _,_=>none
 | _=>none
def oT(tt:T TD)(t:TypeId)(cs:List V)(off:Nat):Option V:=
 match tt.get t with
 | some d=>if d.agg then (match takeN d.size (ji cs off) with | some l=>some (.agg l) | none=>none) else nth cs off
 | none=>none
def mkAnd(a b:X):X:=mkIte a b (.lit 0)
def eqFields(eq:TypeId→V→V→Option X)(tt:T TD)(xs ys:List V):List Field→Option X
 | []=>some (.lit 1)
 | f::fs=>
  match oT tt f.type xs f.offset,oT tt f.type ys f.offset with
  | some a,some b=>
   match eq f.type a b,eqFields eq tt xs ys fs with
   | some e,some r=>some (mkAnd e r)
   | _,_=>none
  | _,_=>none
def tR(eq:V→V→Option X)(tt:T TD)(elem:TypeId)(n:Nat)(xs ys:List V):Nat→Nat→Option X
 | _,0=>some (.lit 1)
 | i,m+1=>
  match oT tt elem xs (i*n),oT tt elem ys (i*n) with
  | some a,some b=>
   match eq a b,tR eq tt elem n xs ys (i+1) m with
   | some e,some r=>some (mkAnd e r)
   | _,_=>none
  | _,_=>none
def mkIff(a b:X):X:=
 match a,b with
 | .lit m,.lit n=>.lit (bc (aQ m 0==aQ n 0))
 | .lit m,b=>if aQ m 0 then mkNot b else b
 | a,.lit m=>if aQ m 0 then mkNot a else a
 | a,b=>if a.beq b then .lit 1 else .eq (mkNot a) (mkNot b)
def Fl(tt:T TD):Nat→TypeId→V→V→Option X
 | 0,_,_,_=>none
 | d+1,t,x,y=>
  match tt.get t with
  | none=>none
  | some td=>
   match td.d,x,y with
   | .bool,.bool a,.bool b=>some (mkIff a b)
   | .int _,.int k a,.int k' b=>if bE k k' then some (mkEq a b) else none
   | .string,.str a,.str b=>some (mkSeq a b)
   | .pointer _,.nilptr,.nilptr=>some (.lit 1)
   | .pointer _,.nilptr,.ptr _ _=>some (.lit 0)
   | .pointer _,.ptr _ _,.nilptr=>some (.lit 0)
   | .interface _,.niliface,.iface _ _=>some (.lit 0)
   | .interface _,.iface _ _,.niliface=>some (.lit 0)
   | .struct fields,.agg xs,.agg ys=>if td.flat then eqFields (Fl tt d) tt xs ys fields.toList else none
   | .array len elem,.agg xs,.agg ys=>
    if td.flat then
     match tt.get elem with
     | some e=>tR (Fl tt d elem) tt elem e.size xs ys 0 len
     | none=>none
    else none
   | .slice _,.nilslice,.nilslice=>some (.lit 1)
   | .slice _,.nilslice,.slice _ _ _ _=>some (.lit 0)
   | .slice _,.slice _ _ _ _,.nilslice=>some (.lit 0)
   | .slice _,.nilslice,.wslice _ _ _ _=>some (.lit 0)
   | .slice _,.wslice _ _ _ _,.nilslice=>some (.lit 0)
   | .slice _,.nilslice,.xslice _ _ _ _ _ _=>some (.lit 0)
   | .slice _,.xslice _ _ _ _ _ _,.nilslice=>some (.lit 0)
   | .map _ _,.nilmap,.nilmap=>some (.lit 1)
   | .map _ _,.nilmap,.map _=>some (.lit 0)
   | .map _ _,.map _,.nilmap=>some (.lit 0)
   | .func _ _ _,.nilfunc,.nilfunc=>some (.lit 1)
   | .func _ _ _,.nilfunc,.func _ _ _=>some (.lit 0)
   | .func _ _ _,.func _ _ _,.nilfunc=>some (.lit 0)
   | .func _ _ _,.nilfunc,.yield _=>some (.lit 0)
   | .func _ _ _,.yield _,.nilfunc=>some (.lit 0)
   | _,_,_=>none
inductive OR where
 | val (v:V)
 | skip
 | enter (f:FuncId) (args:List V)
 | round (l:Nat) (args:List V)
 | panic (v:V)
 | defer (d:bN)
abbrev cz:=R (OR×St)
def bq(st:St)(v:V):cz:=.ok (.val v,st)
def fT(st:St)(v:Option V)(s:String):cz:=
 match v with
 | some v=>.ok (.val v,st)
 | none=>.stuck s
def pV(pc:PC)(x:X):X:=match x with
 | .wrap k e=>match BK pc with
  | true=>match B1 pc (.lit (j6 k)) e,B1 pc e (.lit (lQ k)) with
   | true,true=>e
   | _,_=>.wrap k e
  | false=>.wrap k e
 | x=>x
def FU(st:St)(op:BinOp)(k:IntKind)(a b:X):cz:=
 match op with
 | .add=>bq st (.int k (pV st.pc (mkAdd k a b)))
 | .sub=>bq st (.int k (pV st.pc (mkSub k a b)))
 | .mul=>bq st (.int k (pV st.pc (mkMul k a b)))
 | .quo=>split st (mkEq b (.lit 0)) fun st z=>match z with
  | true=>.stuck "division by zero"
  | false=>bq st (.int k (OJ k a b))
 | .rem=>split st (mkEq b (.lit 0)) fun st z=>match z with
  | true=>.stuck "division by zero"
  | false=>bq st (.int k (xM a b))
 | .and=>bq st (.int k (oM 0 k a b))
 | .or=>bq st (.int k (oM 1 k a b))
 | .xor=>bq st (.int k (oM 2 k a b))
 | .andNot=>bq st (.int k (oM 3 k a b))
 | .eql=>bq st (.bool (mkEq a b))
 | .neq=>bq st (.bool (mkNot (mkEq a b)))
 | .lss=>bq st (.bool (mkLt a b))
 | .leq=>bq st (.bool (mkLe a b))
 | .gtr=>bq st (.bool (mkLt b a))
 | .geq=>bq st (.bool (mkLe b a))
 | _=>.stuck "binop"
def SF(st:St)(op:BinOp)(k:IntKind)(a b:X):cz:=FU st op k (IB st.pc a) (IB st.pc b)
def zx(st:St)(op:BinOp)(k:IntKind)(a b:X):cz:=
 split st (mkLt b (.lit 0)) fun st neg=>match neg with
  | true=>.stuck "negative shift"
  | false=>match op with
   | .shl=>bq st (.int k (IU k a b))
   | .shr=>bq st (.int k (ur k a b))
   | _=>.stuck "shift"
def yD:X:=.lit 1000000000
def Gd(a:X):X:=match QR a with
 | some n=>match Nat.ble n 1000000000 with
  | true=>.lit 1
  | false=>mkLe (zT a) yD
 | none=>mkLe (zT a) yD
def LF(st:St)(op:BinOp)(a b:X):cz:=
 match op with
 | .add=>split st (Gd a) fun st ok=>match ok with
  | false=>.stuck "long strings"
  | true=>split st (Gd b) fun st ok=>match ok with
   | false=>.stuck "long strings"
   | true=>bq st (.str (lV a b))
 | .eql=>bq st (.bool (mkSeq a b))
 | .neq=>bq st (.bool (mkNot (mkSeq a b)))
 | _=>.stuck "string op"
def Wd(cx:Cx)(st:St)(op:BinOp)(t:TypeId)(x y:V):cz:=
 match op,Fl cx.tt 100 t x y with
 | .eql,some e=>bq st (.bool e)
 | .neq,some e=>bq st (.bool (mkNot e))
 | _,_=>.stuck "equal"
def Yp:BinOp→Bool
 | .shl=>true
 | .shr=>true
 | _=>false
def Uf(cx:Cx)(st:St)(op:BinOp)(t:TypeId)(x y:V):cz:=
 match x,y with
 | .int k a,.int j b=>match Yp op,bE k j with
  | true,_=>zx st op k a b
  | false,true=>SF st op k a b
  | false,false=>.stuck "kinds"
 | .str a,.str b=>LF st op a b
 | x,y=>Wd cx st op t x y
def acG(st:St)(op:UnOp)(x:V):cz:=
 match op,x with
 | .neg,.int k a=>bq st (.int k (mkSub k (.lit 0) a))
 | .xor,.int k a=>bq st (.int k (oM 2 k (.lit (if k.signed then -1 else k.max)) a))
 | .not,.bool a=>bq st (.bool (mkNot a))
 | _,_=>.stuck "unop"
def Mi(h:H)(b off k:Nat):Option (List V):=
 match Nat.beq k 0 with
 | true=>some []
 | false=>match h.get b with
  | some (.win _ c (.lit (.ofNat m)) es)=>match Nat.ble (off+k) (m*es) with
   | true=>takeN k (ji c off)
   | false=>none
  | _=>none
def ku(h:H)(size n:Nat):V→Option (List V)
 | .slice b off _ _=>cF h b off (n*size)
 | .nilslice=>some []
 | .rest _ _ _ _=>match n with
  | 0=>some []
  | _=>none
 | .wslice b off _ _=>Mi h b off (n*size)
 | .str (.slit l)=>some ((l.take n).map fun c=>.int .u8 (.lit ((c % 256:Nat):Int)))
 | _=>none
def Ej:V→Option Nat
 | .slice _ _ n _=>some n
 | .wslice _ _ (.lit (.ofNat n)) _=>some n
 | .nilslice=>some 0
 | .rest _ _ _ _=>some 0
 | .str (.slit l)=>some l.length
 | _=>none
def WO:X→X
 | .lit n=>.slit [n.toNat % 256]
 | x=>.sfn 0 x
def DR:List V→Option X
 | []=>some (.slit [])
 | v::l=>match v with
  | .int .u8 x=>match DR l with
   | some r=>some (lV (WO x) r)
   | none=>none
  | _=>none
def LI:V→Option Nat
 | .slice _ _ n _=>some n
 | .wslice _ _ (.lit (.ofNat n)) _=>some n
 | .nilslice=>some 0
 | _=>none
def TB(cx:Cx)(st:St)(src dst:TypeId)(x:V):cz:=
 match cx.tt.get src,cx.tt.get dst with
 | some sd,some td=>match sd.d,td.d with
  | .slice elem,.string=>match cx.tt.get elem,LI x with
   | some ed,some n=>match ed.d,ku st.h 1 n x with
    | .int .u8,some cs=>match DR cs with
     | some r=>bq st (.str r)
     | none=>.stuck "text"
    | _,_=>.stuck "text"
   | _,_=>.stuck "text"
  | _,_=>.stuck "convert"
 | _,_=>.stuck "convert"
def wF(cx:Cx)(st:St)(src dst:TypeId)(x:V):cz:=
 match cx.tt.get src,cx.tt.get dst,x with
 | some _,some td,.int _ a=>match td.d with
  | .int k=>bq st (.int k (mkWrap k a))
  | _=>.stuck "convert"
 | some _,some td,.str a=>match td.d with
  | .string=>bq st (.str a)
  | _=>.stuck "convert string"
 | _,_,x=>TB cx st src dst x
def MT(c a b:V):Option V:=
 match c with
 | .bool x=>match x with
  | .lit n=>some (if aQ n 0 then b else a)
  | x=>match a,b with
   | .int k u,.int j v=>if bE k j then some (.int k (mkIte x u v)) else none
   | .bool u,.bool v=>some (.bool (mkIte x u v))
   | .str u,.str v=>some (.str (zy x u v))
   | _,_=>none
 | _=>none
def placeOf(tt:T TD)(d:TypeDesc)(i:Nat):Option (Nat×Nat):=
 match d with
 | .struct fields=>match nth fields.toList i with
  | some f=>match tt.get f.type with
   | some td=>some (f.offset,td.size)
   | none=>none
  | none=>none
 | .array _ elem=>match tt.get elem with
  | some td=>some (i*td.size,td.size)
  | none=>none
 | _=>none
def jD(tt:T TD):List Field→Bool
 | []=>true
 | f::fs=>match tt.get f.type with
  | some _=>jD tt fs
  | none=>false
def om(tt:T TD):TypeDesc→Bool
 | .struct fields=>jD tt fields.toList
 | .array _ elem=>match tt.get elem with
  | some _=>true
  | none=>false
 | _=>false
def dB (place:Nat→Option (Nat×Nat)) (cells:List V):List (Nat×V)→Option (List V)
 | []=>some cells
 | (i,v)::rest=>
  match place i with
  | none=>none
  | some (off,size)=>
   let vs:=v.cells
   if Nat.beq vs.length size then
    match A3 cells off vs with
    | some cells=>dB place cells rest
    | none=>none
   else none
def eV(cx:Cx)(tm:List V):List (Nat×Operand)→Option (List (Nat×V))
 | []=>some []
 | (i,o)::l=>match dC cx tm o,eV cx tm l with
  | some v,some r=>some ((i,v)::r)
  | _,_=>none
def gl(cx:Cx)(tm:List V):List Operand→Option (List V)
 | []=>some []
 | o::l=>match dC cx tm o,gl cx tm l with
  | some v,some r=>some (v::r)
  | _,_=>none
def jc(cx:Cx)(tm:List V):List Operand→Option (List V)
 | []=>some []
 | o::l=>match pG cx tm o,jc cx tm l with
  | some v,some r=>some (v::r)
  | _,_=>none
def b7(z:List V):Nat→List V
 | 0=>[]
 | n+1=>z++b7 z n
def ny{α:Type}(st:St)(i:X)(lo:Nat):Nat→(St→Nat→R α)→R α
 | 0,_=>.stuck "index out of range"
 | m+1,k=>split st (mkEq i (.lit lo)) fun st is=>if is then k st lo else ny st i (lo+1) m k
def index{α:Type}(st:St)(i:X)(len:Nat)(k:St→Nat→R α):R α:=
 match i with
 | .lit (.ofNat n)=>if Nat.blt n len then k st n else .stuck "index out of range"
 | .lit _=>.stuck "index out of range"
 | i=>split st (mkLe (.lit 0) i) fun st a=>split st (mkLt i (.lit len)) fun st b=>if a&&b then ny st i 0 len k else .stuck "index out of range"
def kU:V→Option Nat
 | .int _ (.lit (.ofNat n))=>some n
 | _=>none
def cN{α:Type}(st:St)(key:V):List (V×V)→Nat→(St→Option (Nat×V)→R α)→R α
 | [],_,k=>k st none
 | (key',v)::es,i,k=>
  match key,key' with
  | .int a x,.int b y=>if bE a b then split st (mkEq x y) fun st is=>if is then k st (some (i,v)) else cN st key es (i+1) k else .stuck "key"
  | .str x,.str y=>split st (mkSeq x y) fun st is=>if is then k st (some (i,v)) else cN st key es (i+1) k
  | .bool x,.bool y=>split st (mkIff x y) fun st is=>if is then k st (some (i,v)) else cN st key es (i+1) k
  | _,_=>.stuck "key"
def uR:TypeDesc→V→Bool
 | .int _,.int _ _=>true
 | .string,.str _=>true
 | .bool,.bool _=>true
 | _,_=>false
def zeroV(td:TD):Option V:=if td.agg then some (.agg td.zero) else td.zero.head?
def kD(ed:TD)(ok:Bool)(st:St) (r:Option (Nat×V)):cz:=
 match r,ok with
 | some (_,v),true=>bq st (.tuple [v,.bool (.lit 1)])
 | some (_,v),false=>bq st v
 | none,true=>match zeroV ed with
  | some z=>bq st (.tuple [z,.bool (.lit 0)])
  | none=>.stuck "lookup: zero"
 | none,false=>match zeroV ed with
  | some z=>bq st z
  | none=>.stuck "lookup: zero"
def vg(cx:Cx)(st:St)(t:TypeId)(x ix:V)(ok:Bool):cz:=
 match cx.tt.get t with
 | some td=>match td.d with
  | .map keyT elem=>
   match cx.tt.get keyT,cx.tt.get elem with
   | some kd,some ed=>
    match uR kd.d ix with
    | true=>match x with
     | .nilmap=>kD ed ok st none
     | .map b=>match st.h.get b with
      | some (.map es)=>cN st ix es 0 (kD ed ok)
      | _=>.stuck "lookup: no map"
     | _=>.stuck "lookup"
    | false=>.stuck "lookup key"
   | _,_=>.stuck "lookup types"
  | _=>.stuck "lookup"
 | none=>.stuck "lookup"
def v8(v:V):List (V×V)→Nat→List (V×V)
 | [],_=>[]
 | (k,u)::l,n=>match n with
  | 0=>(k,v)::l
  | m+1=>(k,u)::v8 v l m
def vC(b:Nat) (es:List (V×V)) (key v:V) (st:St) (r:Option (Nat×V)):cz:=
 match r with
 | some (i,_)=>.ok (.skip,{st with h:=st.h.set b (.map (v8 v es i))})
 | none=>.ok (.skip,{st with h:=st.h.set b (.map (es++[(key,v)]))})
def mF(cx:Cx)(st:St)(t:TypeId)(x key v:V):cz:=
 match cx.tt.get t with
 | some td=>match td.d with
  | .map keyT _=>
   match cx.tt.get keyT with
   | some kd=>
    match uR kd.d key with
    | true=>match x with
     | .map b=>match st.h.get b with
      | some (.map es)=>cN st key es 0 (vC b es key v)
      | _=>.stuck "update: no map"
     | _=>.stuck "update"
    | false=>.stuck "update key"
   | none=>.stuck "update"
  | _=>.stuck "update"
 | none=>.stuck "update"
def cg(len cap:Nat)(lo hi:Option V):Option (Nat×Nat):=
 match (match hi with | none=>some len | some v=>kU v) with
 | none=>none
 | some h=>
  match (match lo with | none=>some 0 | some v=>kU v) with
  | none=>none
  | some l=>if Nat.ble l h&&Nat.ble h cap then some (l,h) else none
def bn(cap:Nat)(lo hi:Option V)(mx:V):Option (Nat×Nat×Nat):=
 match kU mx with
 | none=>none
 | some m=>match hi with
  | none=>none
  | some vh=>match kU vh with
   | none=>none
   | some h=>match (match lo with | none=>some 0 | some v=>kU v) with
    | none=>none
    | some l=>if Nat.ble l h&&(Nat.ble h m&&Nat.ble m cap) then some (l,h,m) else none
def G5(cx:Cx)(st:St)(t:TypeId)(x:V)(lo hi:Option V)(mx:V):cz:=
 match cx.tt.get t with
 | none=>.stuck "slice 1"
 | some td=>match td.d,x with
  | .slice elem,.slice b off _ (.known c)=>match cx.tt.get elem with
   | none=>.stuck "slice 2"
   | some ed=>match bn c lo hi mx with
    | some (l,h,m)=>bq st (.slice b (if Nat.beq m l then off else off+l*ed.size) (h-l) (.known (m-l)))
    | none=>.stuck "slice bounds"
  | .slice elem,.slice b off _ (.room _ _ n)=>match cx.tt.get elem with
   | none=>.stuck "slice 3"
   | some ed=>match bn n lo hi mx with
    | some (l,h,m)=>bq st (.slice b (if Nat.beq m l then off else off+l*ed.size) (h-l) (.known (m-l)))
    | none=>.stuck "slice bounds"
  | .slice elem,.nilslice=>match cx.tt.get elem with
   | none=>.stuck "slice 4"
   | some _=>match bn 0 lo hi mx with
    | some _=>bq st .nilslice
    | none=>.stuck "slice bounds"
  | .slice elem,.wslice b off _ _=>match cx.tt.get elem with
   | none=>.stuck "slice 5"
   | some _=>match bn 0 lo hi mx with
    | some _=>bq st (.wslice b off (.lit (.ofNat 0)) (.lit (.ofNat 0)))
    | none=>.stuck "slice bounds"
  | .array n elem,.ptr b off=>match cx.tt.get elem with
   | none=>.stuck "slice 6"
   | some ed=>match bn n lo hi mx with
    | some (l,h,m)=>bq st (.slice b (if Nat.beq m l then off else off+l*ed.size) (h-l) (.known (m-l)))
    | none=>.stuck "slice bounds"
  | _,_=>.stuck "slice: max"
def Ev(cx:Cx)(st:St)(t:TypeId)(x:V)(lo hi mx:Option V):cz:=
 match mx with
 | some m=>G5 cx st t x lo hi m
 | none=>
  match cx.tt.get t with
  | none=>.stuck "slice 7"
  | some td=>match td.d,x with
   | .string,.str (.slit l)=>match cg l.length l.length lo hi with
    | some (a,b)=>bq st (.str (.slit ((l.drop a).take (b-a))))
    | none=>.stuck "slice bounds"
   | .slice elem,.slice b off len cap=>
    match cx.tt.get elem with
    | none=>.stuck "slice 8"
    | some ed=>
     match cap with
     | .known c=>match cg len c lo hi with
      | some (l,h)=>bq st (.slice b (if Nat.beq c l then off else off+l*ed.size) (h-l) (.known (c-l)))
      | none=>.stuck "slice bounds"
     | .room b' o n=>match cg len n lo hi with
      | some (l,h)=>match Nat.beq l 0,Nat.blt l n with
       | true,_=>bq st (.slice b off h (.room b' o n))
       | false,true=>bq st (.slice b (off+l*ed.size) (h-l) (.room b' (o+l) (n-l)))
       | false,false=>match Nat.beq o 0,Nat.beq b b' with
        | true,true=>bq st (.rest b off l ed.size)
        | _,_=>.stuck "slice: rest"
      | none=>.stuck "slice bounds"
   | .slice elem,.nilslice=>match cx.tt.get elem with
    | none=>.stuck "slice 9"
    | some _=>match cg 0 0 lo hi with
     | some _=>bq st .nilslice
     | none=>.stuck "slice bounds"
   | .array n elem,.ptr b off=>
    match cx.tt.get elem with
    | none=>.stuck "slice 10"
    | some ed=>match cg n n lo hi with
     | some (l,h)=>bq st (.slice b (if Nat.beq n l then off else off+l*ed.size) (h-l) (.known (n-l)))
     | none=>.stuck "slice bounds"
   | _,_=>.stuck "slice 11"
def CK.cell(k:CK)(x:X):V:=match k with
 | .int k=>.int k x
 | .bool=>.bool x
def CK.ar2(k:CK)(f:Nat)(i:X):X:=match k with
 | .int k=>.wrap k (.fn1 f i)
 | .bool=>.eq (.fn1 f i) (.lit 1)
def MG(pc:PC)(i j:X):Option Bool:=match i.beq j with
 | true=>some true
 | false=>AU pc (.eq i j)
def A.get(pc:PC)(k:CK)(c:Nat)(i:X):A→X
 | .base t=>k.ar2 (t+c) i
 | .fill x=>x
 | .put a j c' x=>match Nat.beq c c' with
  | true=>match MG pc i j with
   | some true=>x
   | some false=>a.get pc k c i
   | none=>mkIte (.eq i j) x (a.get pc k c i)
  | false=>a.get pc k c i
def A.cells(pc:PC)(a:A)(i:X):Nat→List CK→List V
 | _,[]=>[]
 | c,k::ks=>k.cell (a.get pc k c i)::a.cells pc i (c+1) ks
def A9(h:H)(w:Bool)(b:Nat):Option (A×List CK×X):=match h.get b with
 | some (.arr a ks len _ _)=>match w with
  | false=>some (a,ks,len)
  | true=>none
 | some (.warr _ t ks len)=>match w with
  | true=>some (.base t,ks,len)
  | false=>none
 | _=>none
def iq(st:St)(x:X)(k:St→cz):cz:=split st x fun st t=>match t with
 | true=>k st
 | false=>.stuck "it must be so"
def oz(a b:X):X:=match GA a with
 | true=>b
 | false=>match mJ a with
  | some m=>match mJ b with
   | some n=>.lit (m+n)
   | none=>.add a b
  | none=>match GA b with
   | true=>a
   | false=>.add a b
def LA(a b:X):X:=match GA b with
 | true=>a
 | false=>match mJ a with
  | some m=>match mJ b with
   | some n=>.lit (m-n)
   | none=>.sub a b
  | none=>.sub a b
def ou(st:St)(w:Bool)(b:Nat)(off:X)(es:Nat)(len i:X)(size:Nat):cz:=match Nat.beq size es,B1 st.pc (.lit 0) off with
 | true,true=>iq st (mkLe (.lit 0) i) fun st=>iq st (mkLt i len) fun st=>bq st (.xptr w b (oz off i) es 0)
 | _,_=>.stuck "index of a row"
def DV(st:St)(td:TD)(w:Bool)(b:Nat)(i:X)(es c:Nat):cz:=match A9 st.h w b with
 | some (a,ks,len)=>match Nat.beq ks.length es,B1 st.pc (.lit 0) i,ltL st.pc i len with
  | true,true,true=>match takeN td.size (ji ks c) with
   | some ks=>match a.cells st.pc i c ks with
    | cs=>match td.agg with
     | true=>bq st (.agg cs)
     | false=>match cs with
      | [v]=>bq st v
      | _=>.stuck "load of a row"
   | none=>.stuck "load of a row"
  | _,_,_=>.stuck "load of a row: not within it"
 | none=>.stuck "load of a row"
def dP(i:X):Nat→List CK→List V→A→Option A
 | _,[],[],a=>some a
 | c,k::ks,v::vs,a=>match k,v with
  | .int k,.int j x=>match bE k j with
   | true=>dP i (c+1) ks vs (.put a i c x)
   | false=>none
  | .bool,.bool x=>dP i (c+1) ks vs (.put a i c x)
  | _,_=>none
 | _,_,_,_=>none
def Gb(st:St)(td:TD)(w:Bool)(b:Nat)(i:X)(es c:Nat)(v:V):cz:=match w,st.h.get b with
 | false,some (.arr a ks len e wd)=>match Nat.beq ks.length es&&Nat.ble c es,B1 st.pc (.lit 0) i,ltL st.pc i len,Nat.beq v.cells.length td.size with
  | true,true,true,true=>match takeN td.size (ji ks c) with
   | some ks'=>match dP i c ks' v.cells a with
    | some a=>.ok (.skip,{st with h:=st.h.set b (.arr a ks len e wd)})
    | none=>.stuck "store in a row: kinds"
   | none=>.stuck "store in a row"
  | _,_,_,_=>.stuck "store in a row: not within it"
 | _,_=>.stuck "store in a row"
def mV(v:Option V)(d:X):Option X:=match v with
 | none=>some d
 | some v=>match v with
  | .int _ x=>some x
  | _=>none
def Ko(st:St)(w:Bool)(b:Nat)(off:X)(es:Nat)(l h m:X):cz:=split st (mkEq m l) fun st t=>match t with
 | true=>bq st (.xslice w b off es (LA h l) (.known (LA m l)))
 | false=>bq st (.xslice w b (oz off l) es (LA h l) (.known (LA m l)))
def EO(cx:Cx)(st:St)(t:TypeId)(w:Bool)(b:Nat)(off:X)(es:Nat)(len:X)(cap:XC)(lo hi mx:Option V):cz:=
 match cx.tt.get t with
 | some td=>match td.d with
  | .slice elem=>match cx.tt.get elem with
   | some ed=>match Nat.beq ed.size es,B1 st.pc (.lit 0) off,mV lo (.lit 0),mV hi len with
    | true,true,some l,some h=>iq st (mkLe (.lit 0) len) fun st=>iq st (mkLe (.lit 0) l) fun st=>iq st (mkLe l h) fun st=>match mx with
     | none=>match cap with
      | .known c=>iq st (mkLe h c) fun st=>Ko st w b off es l h c
      | .room lo=>match GA l with
       | true=>iq st (mkLe (oz off h) lo) fun st=>bq st (.xslice w b off es h (.room lo))
       | false=>iq st (mkLe (oz off h) lo) fun st=>iq st (mkLt (oz off l) lo) fun st=>bq st (.xslice w b (oz off l) es (LA h l) (.room lo))
     | some m=>match hi,mV (some m) len with
      | some _,some m=>iq st (mkLe h m) fun st=>match cap with
       | .known c=>iq st (mkLe m c) fun st=>Ko st w b off es l h m
       | .room lo=>iq st (mkLe (oz off m) lo) fun st=>Ko st w b off es l h m
      | _,_=>.stuck "slice of a row"
    | _,_,_,_=>.stuck "slice of a row"
   | none=>.stuck "slice of a row"
  | _=>.stuck "slice of a row"
 | none=>.stuck "slice of a row"
def wA:List V→Option (List CK)
 | []=>some []
 | v::l=>match wA l with
  | some ks=>match v with
   | .int k x=>match GA x with
    | true=>some (.int k::ks)
    | false=>none
   | .bool x=>match GA x with
    | true=>some (.bool::ks)
    | false=>none
   | _=>none
  | none=>none
def jm(ks:List CK)(len:X):Nat→Nat→List V→A→Option A
 | _,0,vs,a=>match vs with
  | []=>some a
  | _=>none
 | j,n+1,vs,a=>match takeN ks.length vs with
  | some cs=>match dP (oz len (.lit (Int.ofNat j))) 0 ks cs a with
   | some a=>jm ks len (j+1) n (ji vs ks.length) a
   | none=>none
  | none=>none
def Ox(n bytes:Nat):X:=.lit (Int.ofNat (1000000000 / (bytes+1))-Int.ofNat (n+1))
def vu(st:St)(h:H)(a:A)(ks:List CK)(len:X)(e:TypeId):cz:=bq {st with h:=h.set st.n (.arr a ks len e true),n:=st.n+1} (.xslice false st.n (.lit 0) ks.length len (.room len))
def KD(st:St)(elem:TypeId)(ed:TD)(s:V)(n:Nat)(new:List V):Option cz:=match s with
 | .nilslice=>match Nat.beq n 0,BK st.pc,wA ed.zero with
  | false,true,some ks=>match jm ks (.lit 0) 0 n new (.fill (.lit 0)),Nat.beq ed.size 0,Nat.ble ((n+1)*(ed.bytes+1)) 1000000000 with
   | some a,false,true=>some (vu st st.h a ks (.lit (Int.ofNat n)) elem)
   | _,_,_=>none
  | _,_,_=>none
 | .xslice false b off es len cap=>match GA off,st.h.get b with
  | true,some (.arr a ks L e wd)=>match Nat.beq ed.size es,Nat.beq ks.length es,Nat.beq e elem,Nat.beq es 0 with
   | true,true,true,false=>match B1 st.pc (.lit 0) len,B1 st.pc len (Ox n ed.bytes),jm ks len 0 n new a with
    | true,true,some a'=>match cap,wd with
     | .room lo,true=>match L.beq len,B1 st.pc lo len with
      | true,true=>some (vu st (st.h.drop b) a' ks (oz len (.lit (Int.ofNat n))) elem)
      | _,_=>some (.stuck "append to a row: room")
     | .known c,false=>match L.beq c with
      | true=>some (split st (mkLe (oz len (.lit (Int.ofNat n))) c) fun st t=>match t with
       | true=>bq {st with h:=st.h.set b (.arr a' ks L e false)} (.xslice false b off es (oz len (.lit (Int.ofNat n))) (.known c))
       | false=>.stuck "append to a row: it is full")
      | false=>some (.stuck "append to a row: not the whole")
     | _,_=>some (.stuck "append to a row")
    | _,_,_=>some (.stuck "append to a row: bounds, kinds")
   | _,_,_,_=>some (.stuck "append to a row: types")
  | _,_=>some (.stuck "append to a part of a row")
 | _=>none
def noRoom:V→Bool
 | .nilslice=>true
 | .slice _ _ n c=>match n with
  | 0=>match c with
   | .known c=>Nat.beq c 0
   | _=>false
  | _=>false
 | .xslice _ _ _ _ len c=>match GA len with
  | true=>match c with
   | .known c=>GA c
   | _=>false
  | false=>false
 | _=>false
def VN(st:St)(elem:TypeId)(ed:TD)(s:V)(w:Bool)(b:Nat)(off:X)(es:Nat)(len:X):cz:=match GA len&&noRoom s with
 | true=>bq st s
 | false=>match A9 st.h w b,GA off,noRoom s with
 | some (a,ks,L),true,true=>match Nat.beq ed.size es,Nat.beq ks.length es,Nat.beq es 0,B1 st.pc len L with
  | true,true,false,true=>iq st (mkLe (.lit 0) len) fun st=>match B1 st.pc len (Ox 0 ed.bytes) with
   | true=>split st (mkLe len (.lit 0)) fun st t=>match t with
    | true=>bq st s
    | false=>vu st st.h a ks len elem
   | false=>.stuck "a copy of a row: long"
  | _,_,_,_=>.stuck "a copy of a row"
 | _,_,_=>.stuck "a copy of a row"
def Ew(cx:Cx)(st:St)(argTypes:List TypeId)(args:List V):Option cz:=match argTypes,args with
 | t::u::_,s::x::_=>match cx.tt.get t,cx.tt.get u with
  | some td,some ud=>match td.d,ud.d with
   | .slice elem,.slice _=>match cx.tt.get elem with
    | some ed=>match x with
     | .xslice w b off es len _=>some (VN st elem ed s w b off es len)
     | x=>match Ej x with
      | some n=>match ku st.h ed.size n x with
       | some new=>match Nat.beq new.length (n*ed.size) with
        | true=>KD st elem ed s n new
        | false=>none
       | none=>none
      | none=>none
    | none=>none
   | _,_=>none
  | _,_=>none
 | _,_=>none
def SS(st:St)(ed:TD)(d x:V):cz:=match d,x with
 | .xslice false b off es len _,.xslice w b' off' es' len' _=>match st.h.get b,A9 st.h w b',GA off,GA off' with
  | some (.arr _ ks L e wd),some (a',ks',L'),true,true=>match Nat.beq ed.size es&&Nat.beq ed.size es',Nat.beq ks.length es,CK.fG ks ks',L.beq len&&len.beq len' with
   | true,true,true,true=>match B1 st.pc len L',B1 st.pc (.lit 0) len with
    | true,true=>bq {st with h:=st.h.set b (.arr a' ks L e wd)} (.int .i64 len)
    | _,_=>.stuck "copy of a row"
   | _,_,_,_=>.stuck "copy of a row"
  | _,_,_,_=>.stuck "copy of a row"
 | _,_=>.stuck "copy of a row"
def XK(cx:Cx)(st:St)(argTypes:List TypeId)(args:List V):Option cz:=match argTypes,args with
 | t::_,d::x::_=>match d with
  | .xslice _ _ _ _ _ _=>match cx.tt.get t with
   | some td=>match td.d with
    | .slice elem=>match cx.tt.get elem with
     | some ed=>some (SS st ed d x)
     | none=>none
    | _=>none
   | none=>none
  | _=>none
 | _,_=>none
def RG(cx:Cx)(st:St)(argTypes:List TypeId)(args:List V):Option cz:=match argTypes,args with
 | t::_,x::_=>match x with
  | .xslice _ _ _ _ len _=>match cx.tt.get t with
   | some td=>match td.d with
    | .slice _=>some (iq st (mkLe (.lit 0) len) fun st=>bq st (.int .i64 len))
    | _=>none
   | none=>none
  | _=>none
 | _,_=>none
def SG(st:St)(elem:TypeId)(ed:TD)(l c:X):cz:=match wA ed.zero,Nat.beq ed.size 0 with
 | some ks,false=>iq st (mkLe (.lit 0) l) fun st=>iq st (mkLe l c) fun st=>match B1 st.pc c (Ox 0 ed.bytes) with
  | true=>.ok (.val (.xslice false st.n (.lit 0) ed.size l (.known c)),newObj st (.arr (.fill (.lit 0)) ks c elem false))
  | false=>.stuck "makeSlice: long"
 | _,_=>.stuck "makeSlice: cells"
def A.under(pc:PC)(lo hi:X):A→Option Nat
 | .base t=>some t
 | .fill _=>none
 | .put a i _ _=>match ltL pc i lo with
  | true=>a.under pc lo hi
  | false=>match B1 pc hi i with
   | true=>a.under pc lo hi
   | false=>none
def D5(cx:Cx)(st:St)(src dst:TypeId)(w:Bool)(b:Nat)(off:X)(es:Nat)(len:X):cz:=match GA len with
 | true=>match cx.tt.get src,cx.tt.get dst with
  | some sd,some td=>match sd.d,td.d with
   | .slice elem,.string=>match cx.tt.get elem with
    | some ed=>match ed.d with
     | .int .u8=>bq st (.str (.slit []))
     | _=>.stuck "text of a row"
    | none=>.stuck "text of a row"
   | _,_=>.stuck "text of a row"
  | _,_=>.stuck "text of a row"
 | false=>match cx.tt.get src,cx.tt.get dst,A9 st.h w b with
 | some sd,some td,some (a,ks,L)=>match sd.d,td.d with
  | .slice elem,.string=>match cx.tt.get elem,ks with
   | some ed,[.int .u8]=>match ed.d,Nat.beq es 1&&B1 st.pc (.lit 0) off,B1 st.pc (oz off len) L,a.under st.pc off (oz off len) with
    | .int .u8,true,true,some t=>iq st (mkLe (.lit 0) len) fun st=>bq st (.str (.btext t off len))
    | _,_,_,_=>.stuck "text of a row"
   | _,_=>.stuck "text of a row"
  | _,_=>.stuck "text of a row"
 | _,_,_=>.stuck "text of a row"
def Bn(cx:Cx)(st:St)(argTypes:List TypeId)(args:List V):cz:=
 match argTypes,args with
 | t::u::_,s::x::_=>
  match cx.tt.get t,cx.tt.get u with
  | some td,some ud=>match td.d,ud.d with
   | _,.int _=>.stuck "append: make"
   | .slice elem,_=>match cx.tt.get elem with
    | none=>.stuck "append"
    | some ed=>
     match Ej x with
     | none=>.stuck "append: length"
     | some n=>
      match ku st.h ed.size n x with
      | none=>.stuck "append: elements"
      | some new=>
       match Nat.beq new.length (n*ed.size) with
       | false=>.stuck "append: size"
       | true=>
       match s with
       | .nilslice=>
        if Nat.beq n 0 then bq st .nilslice
        else if Nat.ble ((n+1)*(ed.bytes+1)) 1000000000 then
         let st':=newObj st (.cells new elem (some ed.size))
         bq st' (.slice st.n 0 n (.room st.n 0 n))
        else .stuck "append: long"
       | .slice b off len (.known c)=>
        if Nat.ble (len+n) c then
         match putAt st.h b (off+len*ed.size) new with
         | some h=>bq {st with h:=h} (.slice b off (len+n) (.known c))
         | none=>.stuck "append: room"
        else if Nat.ble ((len+n+c+1)*(ed.bytes+1)) 1000000000 then
         match cF st.h b off (len*ed.size) with
         | some old=>
          let st':=newObj st (.cells (old++new) elem (some ed.size))
          bq st' (.slice st.n 0 (len+n) (.room st.n 0 (len+n)))
         | none=>.stuck "append: old"
        else .stuck "append: long"
       | .slice b 0 len (.room b' 0 lo)=>
        match st.h.get b with
        | some (.cells c e (some sz))=>
         if Nat.beq b b'&&Nat.beq sz ed.size&&Nat.beq c.length (len*ed.size)&&Nat.beq e elem&&Nat.ble ((len+n+1)*(ed.bytes+1)) 1000000000&&sP new&&Nat.ble lo len&&Nat.blt 0 sz then
          let st':=newObj {st with h:=st.h.drop b} (.cells (c++new) e (some sz))
          bq st' (.slice st.n 0 (len+n) (.room st.n 0 (len+n)))
         else .stuck "append: room"
        | _=>.stuck "append: room"
       | .wslice b off (.lit (.ofNat 0)) (.lit (.ofNat 0))=>
        if Nat.beq n 0 then bq st (.wslice b off (.lit (.ofNat 0)) (.lit (.ofNat 0)))
        else if Nat.ble ((n+1)*(ed.bytes+1)) 1000000000 then
         let st':=newObj st (.cells new elem (some ed.size))
         bq st' (.slice st.n 0 n (.room st.n 0 n))
        else .stuck "append: long"
       | _=>.stuck "append"
   | _,_=>.stuck "append"
  | _,_=>.stuck "append"
 | _,_=>.stuck "append"
def Mp(cx:Cx)(st:St)(argTypes:List TypeId)(args:List V):cz:=
 match argTypes,args with
 | t::_,d::x::_=>
  match cx.tt.get t with
  | some td=>match td.d with
   | .slice elem=>match cx.tt.get elem,Ej d,Ej x with
    | some ed,some dl,some xl=>
     let n:=min xl dl
     match ku st.h ed.size n x with
     | none=>.stuck "copy"
     | some cs=>
      match d with
      | .nilslice=>bq st (.int .i64 (.lit n))
      | .slice b off _ _=>match putAt st.h b off cs with
       | some h=>bq {st with h:=h} (.int .i64 (.lit n))
       | none=>.stuck "copy"
      | _=>.stuck "copy"
    | _,_,_=>.stuck "copy"
   | _=>.stuck "copy"
  | none=>.stuck "copy"
 | _,_=>.stuck "copy"
def NQ(cx:Cx)(st:St)(argTypes:List TypeId)(args:List V):cz:=
 match argTypes,args with
 | t::_,x::_=>
  match cx.tt.get t with
  | some td=>match td.d,x with
   | .string,.str a=>bq st (.int .i64 (zT a))
   | .array n _,_=>bq st (.int .i64 (.lit n))
   | .pointer arr,_=>match cx.tt.get arr with
    | some ad=>match ad.d with
     | .array n _=>bq st (.int .i64 (.lit n))
     | _=>.stuck "len"
    | none=>.stuck "len"
   | .slice _,.slice _ _ n _=>bq st (.int .i64 (.lit n))
   | .slice _,.nilslice=>bq st (.int .i64 (.lit 0))
   | .slice _,.rest _ _ _ _=>bq st (.int .i64 (.lit 0))
   | .slice _,.wslice _ _ n _=>split st (mkLe (.lit 0) n) fun st t=>match t with
    | true=>bq st (.int .i64 n)
    | false=>.stuck "len"
   | .map _ _,.nilmap=>bq st (.int .i64 (.lit 0))
   | .map _ _,.map b=>match st.h.get b with
    | some (.map es)=>bq st (.int .i64 (.lit es.length))
    | _=>.stuck "len"
   | _,_=>.stuck "len"
  | none=>.stuck "len"
 | _,_=>.stuck "len"
def IT(gt:Bool)(a b:V):Option V:=
 match a,b with
 | .int k x,.int j y=>if bE k j then some (.int k (if gt then mkIte (mkLt x y) y x else mkIte (mkLt y x) y x)) else none
 | _,_=>none
def MP(gt:Bool):V→List V→Option V
 | a,[]=>some a
 | a,b::l=>match IT gt a b with
  | some c=>MP gt c l
  | none=>none
def Oe(st:St)(gt:Bool)(a:V)(l:List V)(s:String):cz:=match BK st.pc,a,l with
 | true,.int k x,[.int j y]=>match bE k j with
  | true=>split st (match gt with | true=>mkLt x y | false=>mkLt y x) fun st t=>bq st (.int k (match t with | true=>y | false=>x))
  | false=>fT st (MP gt a l) s
 | _,a,l=>fT st (MP gt a l) s
def rq(cx:Cx)(st:St)(b:Builtin)(argTypes:List TypeId)(args:List V):cz:=
 match b with
 | .append=>match Ew cx st argTypes args with
  | some r=>r
  | none=>Bn cx st argTypes args
 | .copy=>match XK cx st argTypes args with
  | some r=>r
  | none=>Mp cx st argTypes args
 | .len=>match RG cx st argTypes args with
  | some r=>r
  | none=>NQ cx st argTypes args
 | .max=>match args with
  | a::l=>Oe st true a l "max"
  | []=>.stuck "max"
 | .min=>match args with
  | a::l=>Oe st false a l "min"
  | []=>.stuck "min"
 | _=>.stuck "builtin"
def Cz(cx:Cx)(tm:List V)(st:St)(c a b:Operand):cz:=
 match dC cx tm c,dC cx tm a,dC cx tm b with
 | some c,some a,some b=>match c with
  | .bool x=>match eT st.pc x with
   | some t=>bq st (match t with | true=>a | false=>b)
   | none=>match MT c a b with
    | some v=>bq st v
    | none=>split st x fun st t=>bq st (match t with | true=>a | false=>b)
  | _=>.stuck "pick"
 | _,_,_=>.stuck "pick"
def Fk(cx:Cx)(st:St)(t:TypeId):cz:=
 match cx.tt.get t with
 | some td=>.ok (.val (.ptr st.n 0),newObj st (.cells td.zero t none))
 | none=>.stuck "alloc"
def Qw(cx:Cx)(tm:List V)(st:St)(t:TypeId)(x:Operand):cz:=
 match dC cx tm x with
 | some v=>.ok (.val (.ptr st.n 0),newObj st (.cells v.cells t none))
 | none=>.stuck "box"
def xi(cx:Cx)(tm:List V)(st:St)(t:TypeId) (parts:Array (Nat×Operand)):cz:=
 match cx.tt.get t,eV cx tm parts.toList with
 | some td,some ps=>match dB (placeOf cx.tt td.d) td.zero ps with
  | some cells=>match om cx.tt td.d with
   | true=>bq st (.agg cells)
   | false=>.stuck "build"
  | none=>.stuck "build"
 | _,_=>.stuck "build"
def gr(cx:Cx)(tm:List V)(st:St)(t:TypeId)(len:Nat) (parts:Array (Nat×Operand)):cz:=
 match cx.tt.get t,eV cx tm parts.toList with
 | some td,some ps=>match td.d with
  | .slice elem=>match cx.tt.get elem with
   | some ed=>match Nat.ble (len*ed.size) 100000 with
    | true=>match dB (fun i=>some (i*ed.size,ed.size)) (b7 ed.zero len) ps with
     | some cells=>.ok (.val (.slice st.n 0 len (.known len)),newObj st (.cells cells elem none))
     | none=>.stuck "buildSlice"
    | false=>.stuck "buildSlice: long"
   | none=>.stuck "buildSlice"
  | _=>.stuck "buildSlice"
 | _,_=>.stuck "buildSlice"
def CQ(h:H)(pc:PC)(b off n:Nat):Option (List V):=
 match h.get b with
 | some (.win _ c len es)=>match Nat.ble (off % es+n) es,eT pc (.lt (.lit (Int.ofNat (off / es))) len) with
  | true,some true=>takeN n (ji c off)
  | _,_=>none
 | _=>none
def gM{α:Type}(st:St)(i:X)(n:Nat)(k:St→R α):R α:=
 split st (mkLe (.lit 0) i) fun st a=>match a with
  | false=>.stuck "index out of range"
  | true=>split st (mkLt i (.lit (Int.ofNat n))) fun st b=>match b with
   | false=>.stuck "index out of range"
   | true=>k st
def Bg(cx:Cx)(tm:List V)(st:St)(t:TypeId)(a:Operand):cz:=
 match cx.tt.get t,dC cx tm a with
 | some td,some (.sptr b off n i)=>match td.agg,Nat.beq td.size 1 with
  | false,true=>match cF st.h b off n with
   | some cs=>gM st i n fun st=>fT st (Ps i cs) "load"
   | none=>.stuck "load: no such cells"
  | _,_=>.stuck "load: not one cell"
 | some td,some (.xptr w b i es c)=>DV st td w b i es c
 | some td,some (.wptr b off)=>match CQ st.h st.pc b off td.size with
  | some cs=>match td.agg with
   | true=>bq st (.agg cs)
   | false=>match cs with
    | [v]=>bq st v
    | _=>.stuck "load"
  | none=>.stuck "load: no such cells"
 | some td,some (.ptr b off)=>match cF st.h b off td.size with
  | some cs=>match td.agg with
   | true=>bq st (.agg cs)
   | false=>match cs with
    | [v]=>bq st v
    | _=>.stuck "load"
  | none=>.stuck "load: no such cells"
 | _,_=>.stuck "load"
def wO(cx:Cx)(tm:List V)(st:St)(t:TypeId)(a x:Operand):cz:=
 match cx.tt.get t,dC cx tm a,dC cx tm x with
 | some td,some (.sptr b off n i),some v=>match Nat.beq v.cells.length td.size,Nat.beq td.size 1 with
  | true,true=>match v.cells with
   | [u]=>match cF st.h b off n with
    | some cs=>gM st i n fun st=>match putAt st.h b off (jT i u 0 cs) with
     | some h=>match u.one with
      | true=>.ok (.skip,{st with h:=h})
      | false=>.stuck "store: size"
     | none=>.stuck "store: no such cells"
    | none=>.stuck "store: no such cells"
   | _=>.stuck "store: size"
  | _,_=>.stuck "store: size"
 | some td,some (.xptr w b i es c),some v=>Gb st td w b i es c v
 | some td,some (.ptr b off),some v=>match Nat.beq v.cells.length td.size with
  | true=>match putAt st.h b off v.cells with
   | some h=>.ok (.skip,{st with h:=h})
   | none=>.stuck "store: no such cells"
  | false=>.stuck "store: size"
 | _,_,_=>.stuck "store"
def kO(cx:Cx)(tm:List V)(st:St)(x:Operand):cz:=
 match dC cx tm x with
 | some (.ptr b off)=>bq st (.ptr b off)
 | some (.sptr b off n i)=>bq st (.sptr b off n i)
 | some (.func (.func f) first cap)=>bq st (.func (.func f) first cap)
 | some (.yield l)=>bq st (.yield l)
 | some (.iface t v)=>bq st (.iface t v)
 | some (.slice b off len cap)=>bq st (.slice b off len cap)
 | some (.xptr w b i es c)=>bq st (.xptr w b i es c)
 | some (.xslice w b off es len cap)=>bq st (.xslice w b off es len cap)
 | _=>.stuck "nilCheck"
def isConst:Operand→Bool
 | .const _=>true
 | _=>false
def Lu(cx:Cx)(st:St)(op:BinOp)(t:TypeId):cz:=match cx.tt.get t with
 | some td=>match td.d,op with
  | .interface _,.eql=>bq st (.bool (.lit 1))
  | .interface _,.neq=>bq st (.bool (.lit 0))
  | _,_=>.stuck "nil"
 | none=>.stuck "nil"
def MS:V→V→Bool
 | .niliface,.niliface=>true
 | _,_=>false
def Qx(cx:Cx)(tm:List V)(st:St)(op:BinOp)(t:TypeId)(x y:Operand):cz:=
 match dC cx tm x,dC cx tm y with
 | some a,some b=>match MS a b,isConst y with
  | true,true=>Lu cx st op t
  | _,_=>Uf cx st op t a b
 | _,_=>.stuck "binop operand"
def oUn(cx:Cx)(tm:List V)(st:St)(op:UnOp)(x:Operand):cz:=
 match dC cx tm x with
 | some a=>acG st op a
 | none=>.stuck "unop"
def lJ(cx:Cx)(tm:List V)(st:St)(src dst:TypeId)(x:Operand):cz:=
 match dC cx tm x with
 | some a=>match a with
  | .xslice w b off es len _=>D5 cx st src dst w b off es len
  | a=>wF cx st src dst a
 | none=>.stuck "convert"
def wY(cx:Cx)(tm:List V)(st:St)(t:TypeId)(x:Operand):cz:=
 match cx.tt.get t,dC cx tm x with
 | some td,some v=>match td.d with
  | .interface _=>.stuck "makeInterface"
  | _=>bq st (.iface t v)
 | _,_=>.stuck "makeInterface"
def D4(cx:Cx)(tm:List V)(st:St)(fn:Fn)(first captured:Array Operand):cz:=
 match fn,gl cx tm first.toList,gl cx tm captured.toList with
 | .func f,some a,some b=>bq st (.func (.func f) a b)
 | _,_,_=>.stuck "makeFunc"
def Q2(cx:Cx)(tm:List V)(st:St)(t:TypeId)(r:Option Operand):cz:=
 match cx.tt.get t with
 | some td=>match td.d with
  | .map _ _=>match r with
   | none=>.ok (.val (.map st.n),newObj st (.map []))
   | some x=>match dC cx tm x with
    | some (.int _ _)=>.ok (.val (.map st.n),newObj st (.map []))
    | _=>.stuck "makeMap"
  | _=>.stuck "makeMap"
 | none=>.stuck "makeMap"
def gC(cx:Cx)(tm:List V)(st:St)(t:TypeId)(l c:Operand):cz:=
 match cx.tt.get t,(dC cx tm l).bind kU,(dC cx tm c).bind kU with
 | some td,some l,some c=>match td.d with
  | .slice elem=>match cx.tt.get elem with
   | some ed=>match Nat.ble l c&&Nat.ble (c*(ed.bytes+1)) 1000000000 with
    | true=>.ok (.val (.slice st.n 0 l (.known c)),newObj st (.cells (b7 ed.zero c) elem none))
    | false=>.stuck "makeSlice: long"
   | none=>.stuck "makeSlice"
  | _=>.stuck "makeSlice"
 | _,_,_=>.stuck "makeSlice"
def Tp:V→Option X
 | .int k x=>match bE k .i64,isLit x with
  | true,false=>some x
  | _,_=>none
 | _=>none
def acg:V→Option X
 | .int k x=>match bE k .i64 with
  | true=>some x
  | false=>none
 | _=>none
def iV(cx:Cx)(tm:List V)(st:St)(t:TypeId)(l c:Operand):cz:=
 match (dC cx tm l).bind acg,(dC cx tm c).bind Tp with
 | some x,some y=>match cx.tt.get t with
  | some td=>match td.d with
   | .slice elem=>match cx.tt.get elem with
    | some ed=>SG st elem ed x y
    | none=>.stuck "makeSlice"
   | _=>.stuck "makeSlice"
  | none=>.stuck "makeSlice"
 | _,_=>gC cx tm st t l c
def rY(cx:Cx)(tm:List V):Option Operand→Option (Option V)
 | none=>some none
 | some o=>match dC cx tm o with
  | some v=>some (some v)
  | none=>none
def wJ(cx:Cx)(tm:List V)(st:St)(t:TypeId)(x:Operand)(lo hi mx:Option Operand):cz:=
 match dC cx tm x,rY cx tm lo,rY cx tm hi,rY cx tm mx with
 | some v,some lo,some hi,some mx=>match v with
  | .xslice w b off es len cap=>EO cx st t w b off es len cap lo hi mx
  | v=>Ev cx st t v lo hi mx
 | _,_,_,_=>.stuck "slice operand"
def iU(cx:Cx)(tm:List V)(st:St)(t:TypeId)(x:Operand)(f:Nat):cz:=
 match cx.tt.get t,dC cx tm x with
 | some td,some (.ptr b off)=>match td.d with
  | .struct fields=>match nth fields.toList f with
   | some fd=>match cx.tt.get fd.type with
    | some d=>match Nat.beq d.size 0 with
     | true=>.stuck "fieldAddr: no size"
     | false=>bq st (.ptr b (off+fd.offset))
    | none=>.stuck "fieldAddr"
   | none=>.stuck "fieldAddr"
  | _=>.stuck "fieldAddr"
 | some td,some (.xptr w b i es c)=>match td.d with
  | .struct fields=>match nth fields.toList f with
   | some fd=>match cx.tt.get fd.type with
    | some d=>match Nat.beq d.size 0 with
     | true=>.stuck "fieldAddr: no size"
     | false=>bq st (.xptr w b i es (c+fd.offset))
    | none=>.stuck "fieldAddr"
   | none=>.stuck "fieldAddr"
  | _=>.stuck "fieldAddr"
 | _,_=>.stuck "fieldAddr"
def wN(cx:Cx)(tm:List V)(st:St)(t:TypeId)(x:Operand)(f:Nat):cz:=
 match cx.tt.get t,dC cx tm x with
 | some td,some (.agg cs)=>match td.d with
  | .struct fields=>match nth fields.toList f with
   | some fd=>fT st (oT cx.tt fd.type cs fd.offset) "field"
   | none=>.stuck "field"
  | _=>.stuck "field"
 | _,_=>.stuck "field"
def mQ(cx:Cx)(i:X)(ed:TD):Bool:=match cx.sx with
 | false=>false
 | true=>match isLit i with
  | true=>false
  | false=>match ed.agg with
   | true=>false
   | false=>Nat.beq ed.size 1
def iW(cx:Cx)(tm:List V)(st:St)(t:TypeId)(x ix:Operand):cz:=
 match cx.tt.get t,dC cx tm x,dC cx tm ix with
 | some td,some v,some (.int _ i)=>match td.d,v with
  | .array len elem,.ptr b off=>match cx.tt.get elem with
   | some ed=>match mQ cx i ed with
    | true=>gM st i len fun st=>bq st (.sptr b off len i)
    | false=>index st i len fun st n=>bq st (.ptr b (off+n*ed.size))
   | none=>.stuck "indexAddr"
  | .slice elem,.slice b off len _=>match cx.tt.get elem with
   | some ed=>match mQ cx i ed with
    | true=>gM st i len fun st=>bq st (.sptr b off len i)
    | false=>index st i len fun st n=>bq st (.ptr b (off+n*ed.size))
   | none=>.stuck "indexAddr"
  | .slice elem,.xslice w b off es len _=>match cx.tt.get elem with
   | some ed=>ou st w b off es len i ed.size
   | none=>.stuck "indexAddr"
  | .slice elem,.wslice b off len _=>match cx.tt.get elem,i with
   | some ed,.lit (.ofNat n)=>split st (mkLt (.lit (.ofNat n)) len) fun st t=>match t with
    | true=>bq st (.wptr b (off+n*ed.size))
    | false=>.stuck "index out of range"
   | _,_=>.stuck "indexAddr"
  | _,_=>.stuck "indexAddr"
 | _,_,_=>.stuck "indexAddr"
def wX(cx:Cx)(tm:List V)(st:St)(t:TypeId)(x ix:Operand):cz:=
 match cx.tt.get t,dC cx tm x,dC cx tm ix with
 | some td,some v,some (.int _ i)=>match td.d,v with
  | .array len elem,.agg cs=>match cx.tt.get elem with
   | some ed=>match mQ cx i ed with
    | true=>match takeN len cs with
     | some l=>gM st i len fun st=>fT st (Ps i l) "index"
     | none=>.stuck "index"
    | false=>index st i len fun st n=>fT st (oT cx.tt elem cs (n*ed.size)) "index"
   | none=>.stuck "index"
  | .string,.str (.slit l)=>index st i l.length fun st n=>bq st (.int .u8 (.lit ((((nth l n).getD 0) % 256:Nat):Int)))
  | _,_=>.stuck "index"
 | _,_,_=>.stuck "index"
def oE(cx:Cx)(tm:List V)(st:St)(t:TypeId)(x ix:Operand)(ok:Bool):cz:=
 match dC cx tm x,dC cx tm ix with
 | some x,some ix=>vg cx st t x ix ok
 | _,_=>.stuck "lookup"
def ko(cx:Cx)(tm:List V)(st:St)(t:TypeId)(m k x:Operand):cz:=
 match dC cx tm m,dC cx tm k,dC cx tm x with
 | some m,some k,some x=>mF cx st t m k x
 | _,_,_=>.stuck "update"
def qK(cx:Cx)(tm:List V)(st:St)(x:Operand)(asserted:TypeId)(ok:Bool):cz:=
 match cx.tt.get asserted,dC cx tm x with
 | some td,some v=>match td.d,v with
  | .interface _,_=>.stuck "typeAssert"
  | _,.iface t v=>match Nat.beq t asserted,ok with
   | true,true=>bq st (.tuple [v,.bool (.lit 1)])
   | true,false=>bq st v
   | false,true=>match zeroV td with
    | some z=>bq st (.tuple [z,.bool (.lit 0)])
    | none=>.stuck "typeAssert"
   | false,false=>.stuck "typeAssert fails"
  | _,.niliface=>match ok with
   | true=>match zeroV td with
    | some z=>bq st (.tuple [z,.bool (.lit 0)])
    | none=>.stuck "typeAssert"
   | false=>.stuck "typeAssert fails"
  | _,_=>.stuck "typeAssert"
 | _,_=>.stuck "typeAssert"
def m3(cx:Cx)(tm:List V)(st:St)(x:Operand)(i:Nat):cz:=
 match dC cx tm x with
 | some (.tuple l)=>fT st (nth l i) "extract"
 | _=>.stuck "extract"
def vJ(cx:Cx)(tm:List V)(st:St)(t:TypeId)(x:Operand):cz:=
 match cx.tt.get t,dC cx tm x with
 | some td,some v=>match td.d,v with
  | .map _ _,.nilmap=>.ok (.val (.ptr st.n 0),newObj st (.iter none))
  | .map _ _,.map b=>match st.h.get b with
   | some (.map _)=>.ok (.val (.ptr st.n 0),newObj st (.iter (some b)))
   | _=>.stuck "range"
  | _,_=>.stuck "range"
 | _,_=>.stuck "range"
def CF(cx:Cx)(tm:List V)(st:St)(x:Operand)(isString:Bool):cz:=
 match dC cx tm x,isString with
 | some (.ptr r 0),false=>match st.h.get r with
  | some (.iter none)=>bq st (.tuple [.bool (.lit 0)])
  | some (.iter (some b))=>match st.h.get b with
   | some (.map [])=>bq st (.tuple [.bool (.lit 0)])
   | _=>.stuck "next: a map with entries"
  | _=>.stuck "next"
 | _,_=>.stuck "next"
def xT(cx:Cx)(tm:List V)(st:St)(c:Call):cz:=
 match c.callee with
 | .value f=>match dC cx tm f with
  | some (.func (.func g) first cap)=>match jc cx tm c.args.toList with
   | some args=>match cx.ft.get g with
    | some _=>.ok (.enter g (first++args++cap),st)
    | none=>.stuck "call: unknown function"
   | none=>.stuck "call"
  | some (.yield l)=>match gl cx tm c.args.toList with
   | some args=>.ok (.round l args,st)
   | none=>.stuck "call"
  | _=>.stuck "call"
 | .builtin b=>match gl cx tm c.args.toList with
  | some args=>rq cx st b c.argTypes.toList args
  | none=>.stuck "builtin"
 | .invoke _ _=>.stuck "invoke"
def pO(cx:Cx)(tm:List V)(st:St)(c:Call):cz:=
 match c.callee with
 | .value f=>match dC cx tm f,gl cx tm c.args.toList with
  | some (.func (.func g) first cap),some args=>.ok (.defer (.fn (.func g) cap (first++args)),st)
  | _,_=>.stuck "defer"
 | _=>.stuck "defer"
def wc(cx:Cx)(tm:List V)(st:St)(x:Operand):cz:=
 match dC cx tm x with
 | some (.iface t v)=>.ok (.panic (.iface t v),st)
 | _=>.stuck "panic"
def jh(cx:Cx)(tm:List V)(st:St)(o:Oper):cz:=
 match o.op with
 | .move x=>fT st (pG cx tm x) "move"
 | .assign x=>fT st (pG cx tm x) "assign"
 | .pick c a b=>Cz cx tm st c a b
 | .alloc t=>Fk cx st t
 | .box t x=>Qw cx tm st t x
 | .build t parts=>xi cx tm st t parts
 | .buildSlice t len parts=>gr cx tm st t len parts
 | .load t a=>Bg cx tm st t a
 | .store t a x=>wO cx tm st t a x
 | .nilCheck x=>kO cx tm st x
 | .binOp op t x y _=>Qx cx tm st op t x y
 | .unOp op _ x=>oUn cx tm st op x
 | .convert src dst x=>lJ cx tm st src dst x
 | .makeInterface t x=>wY cx tm st t x
 | .makeFunc fn first captured=>D4 cx tm st fn first captured
 | .makeMap t r=>Q2 cx tm st t r
 | .makeSlice t l c=>iV cx tm st t l c
 | .slice t x lo hi mx=>wJ cx tm st t x lo hi mx
 | .fieldAddr t x f=>iU cx tm st t x f
 | .field t x f=>wN cx tm st t x f
 | .indexAddr t x ix=>iW cx tm st t x ix
 | .index t x ix=>wX cx tm st t x ix
 | .lookup t x ix ok=>oE cx tm st t x ix ok
 | .mapUpdate t m k x=>ko cx tm st t m k x
 | .insert t m k x=>ko cx tm st t m k x
 | .typeAssert x _ asserted ok=>qK cx tm st x asserted ok
 | .extract x i=>m3 cx tm st x i
 | .call c=>xT cx tm st c
 | .defer c=>pO cx tm st c
 | .panic x=>wc cx tm st x
 | .range t x=>vJ cx tm st t x
 | .next x s=>CF cx tm st x s
 | _=>.stuck "operation"
def gI(r:OR)(st:St):cz:=match r with
 | .val v=>dR 100 st v fun st v=>.ok (.val v,st)
 | r=>.ok (r,st)
def eD(cx:Cx)(tm:List V)(st:St)(o:Oper):cz:=(jh cx tm st o).bind fun (r,st)=>gI r st
inductive En where
 | ret (v:V)
 | panic (v:V)
abbrev jP:=R (En×St)
structure Self where
 code:Option Nat→Code→Fr→St→cM
 loop:Option Nat→Code→Fr→St→cM
 call:FuncId→List V→St→jP
def dF(tm:List V)(dst:Option Tmp)(v:V):List V:=
 match dst with
 | some d=>B5 tm d v
 | none=>tm
def mM(tm:List V):List Tmp→List V→List V
 | t::ts,a::as=>mM (B5 tm t a) ts as
 | _,_=>tm
def G8(l:Nat)(e:Ex)(fr:Fr)(st:St):jP:=
 match fr.df with
 | []=>
  match st.h.get l with
  | some (.loop _ _ tmps params assign body defers)=>
   match e with
   | .normal=>.ok (.ret (.bool (.lit 1)),{st with h:=st.h.set l (.loop .ready none tmps params assign body defers)})
   | .ret=>.ok (.ret (.bool (.lit 0)),{st with h:=st.h.set l (.loop .done (some .ret) tmps params assign body defers)})
   | .exit id=>.ok (.ret (.bool (.lit 0)),{st with h:=st.h.set l (.loop .done (some (.exit id)) tmps params assign body defers)})
   | .panic _=>.stuck "round: panic"
   | .die _=>.stuck "round: panic"
  | _=>.stuck "round: no loop"
 | _=>.stuck "round: defers"
def qA(self:Self)(l:Nat)(body:Code)(e:Ex)(fr:Fr)(st:St):jP:=
 match e with
 | .normal=>
  match st.h.get l with
  | some (.loop state pending tmps params assign body' defers)=>
   match state with
   | .ready=>(self.code (some l) body fr {st with h:=st.h.set l (.loop .busy pending tmps params assign body' defers)}).bind fun (e,fr,st)=>G8 l e fr st
   | _=>.stuck "round: not ready"
  | _=>.stuck "round: no loop"
 | _=>.stuck "round: assign"
def lh(self:Self)(l:Nat)(args:List V)(st:St):jP:=
 match st.h.get l with
 | some (.loop _ _ tmps params assign body _)=>
  match Nat.beq params.toList.length args.length with
  | true=>(self.code (some l) assign {tm:=mM tmps params.toList args,df:=[]} st).bind fun (e,fr,st)=>qA self l body e fr st
  | false=>.stuck "round: arguments"
 | _=>.stuck "round: no loop"
def gd(st:St)(ops:List Oper)(tm:List V)(o:Oper) (k:St→Bool→R (Ex×Fr×St)):cM:=
 match o.guard with
 | none=>k st true
 | some (j,want)=>
  match (nth ops j).bind (·.dst) with
  | none=>k st false
  | some d=>match nth tm d with
   | some (.bool x)=>split st x fun st b=>k st (b==want)
   | some (.ite _ _ _)=>.stuck "guard"
   | some (.any _)=>.stuck "guard"
   | _=>k st false
def Ge{β:Type}(n:Nat)(k:Nat→β):β:=
 match n with
 | 0=>k 0
 | m+1=>k (m+1)
def FX{β:Type}(n:Int)(k:Int→β):β:=
 match n with
 | .ofNat m=>Ge m fun m=>k (.ofNat m)
 | .negSucc m=>Ge m fun m=>k (.negSucc m)
def E5{β:Type}(x:X)(k:X→β):β:=
 match x with
 | .lit n=>FX n fun n=>k (.lit n)
 | x=>k x
def pd{β:Type}(v:V)(k:V→β):β:=
 match v with
 | .int a x=>E5 x fun x=>k (.int a x)
 | .bool x=>E5 x fun x=>k (.bool x)
 | v=>k v
noncomputable def Kb{β:Type}(l:List V):Nat→V→(List V→β)→β:=
 List.rec (motive:=fun _=>Nat→V→(List V→β)→β) (fun _ _ k=>k []) (fun a l ih n b k=>Nat.rec (motive:=fun _=>β) (k (b::l)) (fun m _=>ih m b fun l=>k (a::l)) n) l
def lT{β:Type}(l:List V)(d:Option Nat)(v:V)(k:List V→β):β:=
 match d with
 | none=>k l
 | some d=>Kb l d v k
def wo(cx:Cx)(self:Self)(rnd:Option Nat)(fr:Fr)(st:St)(o:Oper)(k:Fr→St→cM):cM:=
 (eD cx fr.tm st o).bind fun (r,st)=>
  match r with
  | .val v=>pd v fun v=>lT fr.tm o.dst v fun tm=>k {tm:=tm,df:=fr.df} st
  | .skip=>k {fr with tm:=dF fr.tm o.dst .undef} st
  | .enter f args=>(self.call f args st).bind fun (e,st)=>
   match e with
   | .ret v=>dR 100 st v fun st v=>pd v fun v=>lT fr.tm o.dst v fun tm=>k {tm:=tm,df:=fr.df} st
   | .panic v=>.ok (.panic v,fr,st)
  | .round l args=>(lh self l args st).bind fun (e,st)=>
   match e with
   | .ret v=>k {fr with tm:=dF fr.tm o.dst v} st
   | .panic _=>.stuck "panic in a round"
  | .panic v=>.ok (.panic v,fr,st)
  | .defer d=>match rnd with
   | none=>k {tm:=dF fr.tm o.dst .undef,df:=d::fr.df} st
   | some _=>.stuck "defer in a round"
def Vw{β:Type}(h:H)(k:H→β):β:=match h with
 | .nil=>k .nil
 | .node l v r=>k (.node l v r)
def va{β:Type}(st:St)(k:St→β):β:=match st with
 | ⟨h,n,pc⟩=>Ge n fun n=>Vw h fun h=>match pc with
  | []=>k ⟨h,n,[]⟩
  | f::l=>k ⟨h,n,f::l⟩
def EC{β:Type}(fr:Fr)(k:Fr→β):β:=match fr with
 | ⟨tm,df⟩=>match df with
  | []=>k ⟨tm,[]⟩
  | d::l=>k ⟨tm,d::l⟩
theorem Dx{β:Type}(n:Nat)(k:Nat→β):Ge n k=k n:=by cases n<;>rfl
theorem PN{β:Type}(h:H)(k:H→β):Vw h k=k h:=by cases h<;>rfl
theorem kW{β:Type}(st:St)(k:St→β):va st k=k st:=by
 obtain⟨h,n,pc⟩:=st
 simp only [va,Dx,PN]
 cases pc<;>rfl
theorem nT{β:Type}(fr:Fr)(k:Fr→β):EC fr k=k fr:=by
 obtain⟨tm,df⟩:=fr
 cases df<;>rfl
def rZ(cx:Cx)(self:Self)(rnd:Option Nat)(ops:List Oper):List Oper→Fr→St→cM
 | [],fr,st=>.ok (.normal,fr,st)
 | o::rest,fr,st=>EC fr fun fr=>va st fun st=>gd st ops fr.tm o fun st w=>
  match w with
  | true=>wo cx self rnd fr st o fun fr st=>rZ cx self rnd ops rest fr st
  | false=>lT fr.tm o.dst .undef fun tm=>rZ cx self rnd ops rest {fr with tm:=tm} st
end
end Go.Proofs.YtmickljjofbmiaaGreatDoor
namespace Go.Proofs.YtmickljjofbmiaaGreatDoor
open Go
noncomputable section
theorem andM(a b:Bool):(match a with | true=>b | false=>false)=(a&&b):=by cases a<;>rfl
def kV{α:Type} [DecidableEq α] (a b:α):Bool:=decide (a=b)
def Me(a b:Value):Bool:=match ofValue a,ofValue b with
 | some u,some v=>u.beq v
 | _,_=>false
def Ix(a b:Array Nat):Bool:=eZ a.toList b.toList
def aP:Operand→Operand→Bool
 | .tmp a,.tmp b=>Nat.beq a b
 | .const a,.const b=>Me a b
 | .global a,.global b=>Nat.beq a b
 | .func a,.func b=>Nat.beq a b
 | _,_=>false
def gX{α:Type}(f:α→α→Bool):List α→List α→Bool
 | [],[]=>true
 | a::l,b::m=>match f a b with
  | true=>gX f l m
  | false=>false
 | _,_=>false
def ze(a b:Array Operand):Bool:=gX aP a.toList b.toList
def kM:Option Operand→Option Operand→Bool
 | none,none=>true
 | some a,some b=>aP a b
 | _,_=>false
def Gx(a b:Nat×Operand):Bool:=match Nat.beq a.1 b.1 with
 | true=>aP a.2 b.2
 | false=>false
def zE (a b:Array (Nat×Operand)):Bool:=gX Gx a.toList b.toList
def wu:Callee→Callee→Bool
 | .value a,.value b=>aP a b
 | .builtin a,.builtin b=>kV a b
 | _,_=>false
def tN(a b:Call):Bool:=match wu a.callee b.callee with
 | true=>match ze a.args b.args with
  | true=>Ix a.argTypes b.argTypes
  | false=>false
 | false=>false
def UW:Op→Op→Bool
 | .move a0,.move b0=>aP a0 b0
 | .assign a0,.assign b0=>aP a0 b0
 | .pick a0 a1 a2,.pick b0 b1 b2=>(match aP a0 b0 with | true=>(match aP a1 b1 with | true=>aP a2 b2 | false=>false) | false=>false)
 | .alloc a0,.alloc b0=>Nat.beq a0 b0
 | .box a0 a1,.box b0 b1=>(match Nat.beq a0 b0 with | true=>aP a1 b1 | false=>false)
 | .build a0 a1,.build b0 b1=>(match Nat.beq a0 b0 with | true=>zE a1 b1 | false=>false)
 | .buildSlice a0 a1 a2,.buildSlice b0 b1 b2=>(match Nat.beq a0 b0 with | true=>(match Nat.beq a1 b1 with | true=>zE a2 b2 | false=>false) | false=>false)
 | .insert a0 a1 a2 a3,.insert b0 b1 b2 b3=>(match Nat.beq a0 b0 with | true=>(match aP a1 b1 with | true=>(match aP a2 b2 with | true=>aP a3 b3 | false=>false) | false=>false) | false=>false)
 | .load a0 a1,.load b0 b1=>(match Nat.beq a0 b0 with | true=>aP a1 b1 | false=>false)
 | .store a0 a1 a2,.store b0 b1 b2=>(match Nat.beq a0 b0 with | true=>(match aP a1 b1 with | true=>aP a2 b2 | false=>false) | false=>false)
 | .ready a0,.ready b0=>Nat.beq a0 b0
 | .waits a0,.waits b0=>Nat.beq a0 b0
 | .nilCheck a0,.nilCheck b0=>aP a0 b0
 | .binOp a0 a1 a2 a3 a4,.binOp b0 b1 b2 b3 b4=>(match kV a0 b0 with | true=>(match Nat.beq a1 b1 with | true=>(match aP a2 b2 with | true=>(match aP a3 b3 with | true=>Nat.beq a4 b4 | false=>false) | false=>false) | false=>false) | false=>false)
 | .unOp a0 a1 a2,.unOp b0 b1 b2=>(match kV a0 b0 with | true=>(match Nat.beq a1 b1 with | true=>aP a2 b2 | false=>false) | false=>false)
 | .convert a0 a1 a2,.convert b0 b1 b2=>(match Nat.beq a0 b0 with | true=>(match Nat.beq a1 b1 with | true=>aP a2 b2 | false=>false) | false=>false)
 | .sliceToArrayPointer a0 a1,.sliceToArrayPointer b0 b1=>(match Nat.beq a0 b0 with | true=>aP a1 b1 | false=>false)
 | .makeInterface a0 a1,.makeInterface b0 b1=>(match Nat.beq a0 b0 with | true=>aP a1 b1 | false=>false)
 | .makeFunc a0 a1 a2,.makeFunc b0 b1 b2=>(match kV a0 b0 with | true=>(match ze a1 b1 with | true=>ze a2 b2 | false=>false) | false=>false)
 | .makeMap a0 a1,.makeMap b0 b1=>(match Nat.beq a0 b0 with | true=>kM a1 b1 | false=>false)
 | .makeChan a0 a1,.makeChan b0 b1=>(match Nat.beq a0 b0 with | true=>aP a1 b1 | false=>false)
 | .makeSlice a0 a1 a2,.makeSlice b0 b1 b2=>(match Nat.beq a0 b0 with | true=>(match aP a1 b1 with | true=>aP a2 b2 | false=>false) | false=>false)
 | .slice a0 a1 a2 a3 a4,.slice b0 b1 b2 b3 b4=>(match Nat.beq a0 b0 with | true=>(match aP a1 b1 with | true=>(match kM a2 b2 with | true=>(match kM a3 b3 with | true=>kM a4 b4 | false=>false) | false=>false) | false=>false) | false=>false)
 | .fieldAddr a0 a1 a2,.fieldAddr b0 b1 b2=>(match Nat.beq a0 b0 with | true=>(match aP a1 b1 with | true=>Nat.beq a2 b2 | false=>false) | false=>false)
 | .field a0 a1 a2,.field b0 b1 b2=>(match Nat.beq a0 b0 with | true=>(match aP a1 b1 with | true=>Nat.beq a2 b2 | false=>false) | false=>false)
 | .indexAddr a0 a1 a2,.indexAddr b0 b1 b2=>(match Nat.beq a0 b0 with | true=>(match aP a1 b1 with | true=>aP a2 b2 | false=>false) | false=>false)
 | .index a0 a1 a2,.index b0 b1 b2=>(match Nat.beq a0 b0 with | true=>(match aP a1 b1 with | true=>aP a2 b2 | false=>false) | false=>false)
 | .lookup a0 a1 a2 a3,.lookup b0 b1 b2 b3=>(match Nat.beq a0 b0 with | true=>(match aP a1 b1 with | true=>(match aP a2 b2 with | true=>jy a3 b3 | false=>false) | false=>false) | false=>false)
 | .mapUpdate a0 a1 a2 a3,.mapUpdate b0 b1 b2 b3=>(match Nat.beq a0 b0 with | true=>(match aP a1 b1 with | true=>(match aP a2 b2 with | true=>aP a3 b3 | false=>false) | false=>false) | false=>false)
 | .mapEntry a0 a1 a2,.mapEntry b0 b1 b2=>(match Nat.beq a0 b0 with | true=>(match aP a1 b1 with | true=>aP a2 b2 | false=>false) | false=>false)
 | .entryStore a0 a1 a2 a3,.entryStore b0 b1 b2 b3=>(match Nat.beq a0 b0 with | true=>(match aP a1 b1 with | true=>(match aP a2 b2 with | true=>aP a3 b3 | false=>false) | false=>false) | false=>false)
 | .range a0 a1,.range b0 b1=>(match Nat.beq a0 b0 with | true=>aP a1 b1 | false=>false)
 | .next a0 a1,.next b0 b1=>(match aP a0 b0 with | true=>jy a1 b1 | false=>false)
 | .entry a0,.entry b0=>aP a0 b0
 | .typeAssert a0 a1 a2 a3,.typeAssert b0 b1 b2 b3=>(match aP a0 b0 with | true=>(match Nat.beq a1 b1 with | true=>(match Nat.beq a2 b2 with | true=>jy a3 b3 | false=>false) | false=>false) | false=>false)
 | .extract a0 a1,.extract b0 b1=>(match aP a0 b0 with | true=>Nat.beq a1 b1 | false=>false)
 | .call a0,.call b0=>tN a0 b0
 | .go a0,.go b0=>tN a0 b0
 | .defer a0,.defer b0=>tN a0 b0
 | .panic a0,.panic b0=>aP a0 b0
 | .send a0 a1,.send b0 b1=>(match aP a0 b0 with | true=>aP a1 b1 | false=>false)
 | .recv a0 a1 a2,.recv b0 b1 b2=>(match Nat.beq a0 b0 with | true=>(match aP a1 b1 with | true=>jy a2 b2 | false=>false) | false=>false)
 | _,_=>false
def Gr(a b:Edge):Bool:=match Nat.beq a.on b.on with
 | true=>kV a.ground b.ground
 | false=>false
def iR:Option Nat→Option Nat→Bool
 | none,none=>true
 | some a,some b=>Nat.beq a b
 | _,_=>false
def A2:Option (Nat×Bool)→Option (Nat×Bool)→Bool
 | none,none=>true
 | some (a,x),some (b,y)=>match Nat.beq a b with
  | true=>jy x y
  | false=>false
 | _,_=>false
def EY(a b:Oper):Bool:=match iR a.dst b.dst with
 | true=>match UW a.op b.op with
  | true=>match Nat.beq a.type b.type with
   | true=>match kV a.pos b.pos with
    | true=>match gX Gr a.after.toList b.after.toList with
     | true=>A2 a.guard b.guard
     | false=>false
    | false=>false
   | false=>false
  | false=>false
 | false=>false
def JJ(a b:Array Oper):Bool:=gX EY a.toList b.toList
def bD:Code→Code→Bool
 | .skip,.skip=>true
 | .region a0 a1 a2,.region b0 b1 b2=>(match Nat.beq a0 b0 with | true=>(match JJ a1 b1 with | true=>jy a2 b2 | false=>false) | false=>false)
 | .seq a0 a1,.seq b0 b1=>(match bD a0 b0 with | true=>bD a1 b1 | false=>false)
 | .cond a0 a1 a2,.cond b0 b1 b2=>(match aP a0 b0 with | true=>(match bD a1 b1 with | true=>bD a2 b2 | false=>false) | false=>false)
 | .block a0 a1,.block b0 b1=>(match Nat.beq a0 b0 with | true=>bD a1 b1 | false=>false)
 | .loop a0,.loop b0=>bD a0 b0
 | .rangeFunc a0 a1 a2 a3,.rangeFunc b0 b1 b2 b3=>(match aP a0 b0 with | true=>(match Ix a1 b1 with | true=>(match bD a2 b2 with | true=>bD a3 b3 | false=>false) | false=>false) | false=>false)
 | .exit a0,.exit b0=>Nat.beq a0 b0
 | .scope a0,.scope b0=>bD a0 b0
 | .label a0,.label b0=>Nat.beq a0 b0
 | .goto a0,.goto b0=>Nat.beq a0 b0
 | .ret,.ret=>true
 | .refuse a0,.refuse b0=>kV a0 b0
 | _,_=>false
end
end Go.Proofs.YtmickljjofbmiaaGreatDoor
namespace Go.Proofs.YtmickljjofbmiaaGreatDoor
open Go
noncomputable section
def oP(acc:List Nat):List Edge→Nat
 | []=>0
 | e::es=>if Region.binds .any e then 2 ^ e.on ||| ((nth acc e.on).getD 0) ||| oP acc es else oP acc es
def dX:List Oper→List Nat→List Nat
 | [],acc=>acc
 | o::os,acc=>dX os (acc++[oP acc o.after.toList])
def kindOf:Op→Nat
 | .move _ | .assign _ | .pick _ _ _ | .build _ _ | .nilCheck _ | .binOp _ _ _ _ _ | .unOp _ _ _ | .convert _ _ _ | .makeInterface _ _ | .makeFunc _ _ _
 | .slice _ _ _ _ _ | .fieldAddr _ _ _ | .field _ _ _ | .indexAddr _ _ _ | .index _ _ _ | .extract _ _ | .typeAssert _ _ _ _=>0
 | .alloc _ | .box _ _ | .buildSlice _ _ _ | .makeSlice _ _ _=>1
 | .makeMap _ _=>5
 | .load _ _ | .lookup _ _ _ _=>2
 | .call c=>match c.callee with
  | .builtin .len=>2
  | .builtin .max | .builtin .min=>0
  | _=>3
 | .insert _ _ _ _=>4
 | _=>3
def tmpsOf:List Operand→List Nat
 | []=>[]
 | .tmp t::l=>t::tmpsOf l
 | _::l=>tmpsOf l
def eg(n:Nat):List Nat→Bool
 | []=>false
 | m::l=>Nat.beq n m || eg n l
def Bi:List Oper→List Nat
 | []=>[]
 | o::l=>match o.dst with
  | some d=>d::Bi l
  | none=>Bi l
def jS:List Nat→Bool
 | []=>true
 | n::l=>!eg n l&&jS l
def oo(me bef t:Nat):List Oper→List Nat→Nat→Bool
 | [],_,_=>true
 | o::l,c::cs,i=>(match o.dst with
   | some d=>!Nat.beq d t || (Nat.testBit bef i || Nat.testBit c me)
   | none=>true)&&oo me bef t l cs (i+1)
 | _::_,[],_=>false
def kZ(all:List Oper)(bs:List Nat)(me bef:Nat):List Nat→Bool
 | []=>true
 | t::l=>oo me bef t all bs 0&&kZ all bs me bef l
def lx(all:List Oper)(o:Oper):List Nat:=
 match o.guard with
 | none=>[]
 | some (j,_)=>match (nth all j).bind (·.dst) with
  | some d=>[d]
  | none=>[]
def De(all:List Oper)(bsA:List Nat):List Oper→List Nat→Nat→Bool
 | [],_,_=>true
 | o::l,b::bs,i=>kZ all bsA i b (tmpsOf o.op.operands.toList)&&kZ all bsA i b (lx all o)&&De all bsA l bs (i+1)
 | _::_,[],_=>false
def vW(ops:List Oper):Bool:=jS (Bi ops)&&De ops (dX ops []) ops (dX ops []) 0
structure Sm where
 owner:Nat
 id:Nat
 obj:av
structure Mk where
 owner:Nat
 id:Nat
 ins:List (Nat×V×V)
structure Rd where
 i:Nat
 tm:List V
 o:Oper
 v:V
structure RS where
 fr:Fr
 st:St
 sm:List Sm
 mm:Option Mk
 bigs:List Nat
 reads:List Rd
 lost:Bool:=false
def within(b done:Nat):Bool:=Nat.beq (b &&& done) b
def cS(bef:Nat):List Sm→H→H
 | [],h=>h
 | s::l,h=>if Nat.testBit bef s.owner then (cS bef l h).set s.id s.obj else cS bef l h
def gk(bef:Nat):List Sm→List Sm
 | []=>[]
 | s::l=>if Nat.testBit bef s.owner then gk bef l else s::gk bef l
def o8:List Sm→H→H
 | [],h=>h
 | s::l,h=>(o8 l h).set s.id s.obj
def im:List (Nat×V×V)→List (V×V)
 | []=>[]
 | (_,k,v)::l=>(k,v)::im l
def xL:Option Mk→H→H
 | none,h=>h
 | some m,h=>h.set m.id (.map (im m.ins))
def uY(bef:Nat):List Nat→Bool
 | []=>true
 | g::l=>Nat.testBit bef g&&uY bef l
def nO(cx:Cx)(st:St)(r:Rd):Bool:=
 match eD cx r.tm st r.o with
 | .ok (.val u,_)=>u.beq r.v
 | _=>false
def cP(cx:Cx)(st:St)(bef:Nat):List Rd→Bool
 | []=>true
 | r::l=>(Nat.testBit bef r.i || nO cx st r)&&cP cx st bef l
def C2(owner:Nat)(h:H)(lo:Nat):List Sm:=
 match h.get lo with
 | some o=>match o.bR with
  | true=>[]
  | false=>[{owner:=owner,id:=lo,obj:=o}]
 | none=>[]
def dW:V→V→Bool
 | .int k (.lit a),.int j (.lit b)=>bE k j && !aQ a b
 | .str (.slit a),.str (.slit b)=>!eZ (a.map (· % 256)) (b.map (· % 256))
 | _,_=>false
def pf(k:V):List (Nat×V×V)→Bool
 | []=>true
 | (_,k',_)::l=>dW k k'&&pf k l
def qX(cx:Cx)(t:TypeId)(key:V):Bool:=
 match cx.tt.get t with
 | some td=>match td.d with
  | .map keyT _=>match cx.tt.get keyT with
   | some kd=>uR kd.d key
   | none=>false
  | _=>false
 | none=>false
def D6(cx:Cx)(self:Self)(fr:Fr)(st:St)(o:Oper)(k:Fr→St→cM)(kp:V→St→cM):cM:=
 (eD cx fr.tm st o).bind fun (r,st)=>
  match r with
  | .val v=>lT fr.tm o.dst v fun tm=>k {fr with tm:=tm} st
  | .skip=>lT fr.tm o.dst .undef fun tm=>k {fr with tm:=tm} st
  | .enter f args=>(self.call f args st).bind fun (e,st)=>
   match e with
   | .ret v=>lT fr.tm o.dst v fun tm=>k {fr with tm:=tm} st
   | .panic v=>kp v st
  | .round l args=>(lh self l args st).bind fun (e,st)=>
   match e with
   | .ret v=>lT fr.tm o.dst v fun tm=>k {fr with tm:=tm} st
   | .panic _=>.stuck "panic in a round"
  | .panic _=>.stuck "a panic in a drawn region"
  | .defer _=>.stuck "a defer in a drawn region"
def dK:List Nat→Nat→Nat
 | [],d=>d
 | i::l,d=>dK l (d ||| 2 ^ i)
def sM(bs:List Nat)(i:Nat):List Nat→Bool
 | []=>true
 | j::l=>match nth bs j with
  | some b=>match Nat.testBit b i with
   | true=>sM bs i l
   | false=>false
  | none=>false
def Rx(n:Nat):List Sm→Bool
 | []=>false
 | s::l=>Nat.beq s.id n || Rx n l
def Z6(l:List Sm):Option V→Bool
 | some (.ptr b _)=>Rx b l
 | some (.sptr b _ _ _)=>Rx b l
 | _=>false
def aaj(op:Op)(a:Operand→Option V)(l:List Sm):Bool:=match op with
 | .load _ x=>Z6 l (a x)
 | _=>false
def Fm(op:Op)(a:Operand→Option V):Bool:=match op with
 | .convert _ _ x=>match a x with
  | some (.xslice _ _ _ _ _ _)=>true
  | _=>false
 | _=>false
def gQ(op:Op)(a:Operand→Option V)(l:List Sm):Nat:=match kindOf op with
 | 2=>match aaj op a l with
  | true=>3
  | false=>2
 | 0=>match Fm op a with
  | true=>2
  | false=>0
 | n=>n
theorem po{op:Op}{a:Operand→Option V}{l:List Sm}{n:Nat}(h:gQ op a l=n)(h3:n≠3)(h2:n≠2):kindOf op=n:=by
 unfold gQ at h
 split at h
 ·split at h
  ·exact absurd h.symm h3
  ·exact absurd h.symm h2
 ·rename_i h0
  split at h
  ·exact absurd h.symm h2
  ·rw [h0];exact h
 ·exact h
def RdK(op:Op)(a:Operand→Option V):Prop:=kindOf op=2∨Fm op a=true
theorem GS{op:Op}{a:Operand→Option V}{l:List Sm}(h:gQ op a l=2):RdK op a:=by
 unfold gQ at h
 split at h
 ·rename_i h2;exact .inl h2
 ·split at h
  ·rename_i hr;exact .inr hr
  ·cases h
 ·exact .inl h
def pr(cx:Cx)(self:Self)(i:Nat)(o:Oper)(b:Nat)(rs:RS)(st:St)(dep:Bool)(k:RS→cM):cM:=
 match gQ o.op (dC cx rs.fr.tm) rs.sm with
 | 0=>(eD cx rs.fr.tm {st with h:=T.nil} o).bind fun (r,st')=>
  match r with
  | .val v=>if Nat.ble st.n st'.n then lT rs.fr.tm o.dst v fun tm=>k {rs with st:={st' with h:=st.h},fr:={rs.fr with tm:=tm}} else .stuck "draw: names"
  | _=>.stuck "draw: value expected"
 | 1=>(eD cx rs.fr.tm {st with h:=T.nil} o).bind fun (r,st')=>
  match r with
  | .val v=>if Nat.blt st.n st'.n then lT rs.fr.tm o.dst v fun tm=>k {rs with st:={st' with h:=st.h},sm:=C2 i st'.h st.n++rs.sm,fr:={rs.fr with tm:=tm}} else .stuck "draw: names"
  | _=>.stuck "draw: value expected"
 | 5=>(eD cx rs.fr.tm {st with h:=T.nil} o).bind fun (r,st')=>
  match r with
  | .val v=>match rs.mm,st'.h.get st.n with
   | none,some (.map [])=>if Nat.blt st.n st'.n then lT rs.fr.tm o.dst v fun tm=>k {rs with st:={st' with h:=st.h},mm:=some {owner:=i,id:=st.n,ins:=[]},fr:={rs.fr with tm:=tm}} else .stuck "draw: names"
   | _,_=>.stuck "draw: map"
  | _=>.stuck "draw: value expected"
 | 2=>(eD cx rs.fr.tm st o).bind fun (r,st')=>
  match r with
  | .val v=>lT rs.fr.tm o.dst v fun tm=>k {rs with st:=st',reads:={i:=i,tm:=rs.fr.tm,o:=o,v:=v}::rs.reads,fr:={rs.fr with tm:=tm}}
  | _=>.stuck "draw: value expected"
 | 4=>match o.op with
  | .insert t m key x=>match dC cx rs.fr.tm m,dC cx rs.fr.tm key,dC cx rs.fr.tm x,rs.mm with
   | some (.map mb),some kv,some xv,some mk=>match Nat.beq mb mk.id,Nat.testBit b mk.owner,qX cx t kv,pf kv mk.ins with
    | true,true,true,true=>lT rs.fr.tm o.dst .undef fun tm=>k {rs with st:=st,mm:=some {mk with ins:=(i,kv,xv)::mk.ins},fr:={rs.fr with tm:=tm}}
    | _,_,_,_=>.stuck "draw: insert"
   | _,_,_,_=>.stuck "draw: insert"
  | _=>.stuck "draw: insert"
 | _=>
  D6 cx self rs.fr {st with h:=cS b rs.sm st.h} o (fun fr st'=>
   if Nat.ble st.n st'.n&&cP cx st' b rs.reads then
    k {fr:=fr,st:=st',sm:=gk b rs.sm,mm:=rs.mm,bigs:=i::rs.bigs,reads:=rs.reads}
   else .stuck "draw: a reader sees other things") fun v st'=>match rs.fr.df with
    | []=>match dep,cP cx {st with h:=cS b rs.sm st.h} b rs.reads with
     | true,true=>.ok (.die v,rs.fr,st')
     | _,_=>.stuck "a panic in a drawn region"
    | _=>.stuck "a panic in a drawn region"
def Sh(t:Nat):List Oper→Option Op
 | []=>none
 | o::l=>match o.dst with
  | some d=>match Nat.beq d t with
   | true=>some o.op
   | false=>Sh t l
  | none=>Sh t l
def Bz(all:List Oper):Nat→Operand→Bool
 | 0,_=>false
 | n+1,.tmp t=>match Sh t all with
  | some (.indexAddr _ x _)=>Bz all n x
  | some (.fieldAddr _ x _)=>Bz all n x
  | some (.alloc _)=>true
  | some (.buildSlice _ _ _)=>true
  | _=>false
 | _,_=>false
def RV(all:List Oper)(o:Oper):Bool:=match kindOf o.op with
 | 3=>true
 | 2=>match o.op with
  | .load _ a=>Bz all 5 a
  | _=>false
 | _=>false
def Og(all:List Oper):List (Nat×Oper×Nat)→Nat→List Nat×List (Nat×Oper×Nat)
 | [],_=>([],[])
 | (i,o,b)::l,left=>match Og all l left with
  | (a,r)=>match !RV all o&&Nat.beq (b &&& left) 0 with
   | true=>(i::a,r)
   | false=>(a,(i,o,b)::r)
def N9(all:List Oper):List (Nat×Oper×Nat)→Option (Nat×List (Nat×Oper×Nat))
 | []=>none
 | (i,o,b)::l=>match RV all o with
  | true=>some (i,l)
  | false=>match N9 all l with
   | some (j,r)=>some (j,(i,o,b)::r)
   | none=>none
def order(all:List Oper):Nat→Nat→List (Nat×Oper×Nat)→List Nat
 | 0,_,_=>[]
 | n+1,left,l=>match Og all l left with
  | (a,r)=>match N9 all r with
   | some (g,r)=>a++g::order all n (left-2 ^ g) r
   | none=>a
def FC(all:List Oper):Nat→List Oper→Nat
 | _,[]=>0
 | i,o::l=>match RV all o with
  | true=>2 ^ i+FC all (i+1) l
  | false=>FC all (i+1) l
def Li:Nat→List Oper→List Nat→List (Nat×Oper×Nat)
 | i,o::l,b::bs=>(i,o,b)::Li (i+1) l bs
 | _,_,_=>[]
def Ek(ops:List Oper)(bs:List Nat):List Nat:=order ops (ops.length+1) (FC ops 0 ops) (Li 0 ops bs)
def lI(cx:Cx)(self:Self)(ops:List Oper)(bs:List Nat):List Nat→Nat→RS→cM
 | [],done,rs=>match Nat.beq (done+1) (2 ^ ops.length) with
  | true=>.ok (.normal,rs.fr,{rs.st with h:=xL rs.mm (o8 rs.sm rs.st.h)})
  | false=>.stuck "draw: not all"
 | i::rest,done,rs=>match nth ops i,nth bs i with
  | some o,some b=>match within b done&&uY b rs.bigs && !Nat.testBit done i with
   | true=>gd rs.st ops rs.fr.tm o fun st w=>
    match w with
    | false=>lT rs.fr.tm o.dst .undef fun tm=>lI cx self ops bs rest (done ||| 2 ^ i) {rs with st:=st,fr:={rs.fr with tm:=tm}}
    | true=>pr cx self i o b rs st (sM bs i rest&&Nat.beq (dK rest (done ||| 2 ^ i)+1) (2 ^ ops.length)) (lI cx self ops bs rest (done ||| 2 ^ i))
   | false=>.stuck "draw: two calls"
  | _,_=>.stuck "draw"
def drawn(cx:Cx)(self:Self)(ops:List Oper)(bs:List Nat)(fr:Fr)(st:St):cM:=
 lI cx self ops bs (Ek ops bs) 0 {fr:=fr,st:=st,sm:=[],mm:=none,bigs:=[],reads:=[]}
def u6(cx:Cx)(tm:List V)(h:H):ResultVar→Option V
 | .tmp t=>match nth tm t with
  | some v=>some v
  | none=>some .undef
 | .cell a t=>match cx.tt.get t,nth tm a with
  | some td,some (.ptr b off)=>match cF h b off td.size with
   | some cs=>if td.agg then some (.agg cs) else (match cs with | [v]=>some v | _=>none)
   | none=>none
  | _,_=>none
def jE(cx:Cx)(tm:List V)(h:H):List ResultVar→Option (List V)
 | []=>some []
 | r::rs=>match u6 cx tm h r,jE cx tm h rs with
  | some v,some vs=>some (v::vs)
  | _,_=>none
def pQ(cx:Cx)(fn:Func)(tm:List V)(h:H):Option V:=
 match jE cx tm h fn.results.toList with
 | some [v]=>some v
 | some vs=>some (.tuple vs)
 | none=>none
def leave(cx:Cx)(fn:Func)(tm:List V):Option V→List bN→St→jP
 | e,[],st=>match e with
  | none=>match pQ cx fn tm st.h with
   | some v=>.ok (.ret v,st)
   | none=>.stuck "results"
  | some p=>.ok (.panic p,st)
 | e,.mark b::ds,st=>match st.h.get b with
  | some (.deferred (some []))=>leave cx fn tm e ds {st with h:=st.h.set b (.deferred none)}
  | _=>.stuck "mark"
 | e,.fn f cap args::ds,st=>match f with
  | .func g=>match cx.dm g with
   | some s=>(s (args++cap) st e).bind fun (e',st')=>leave cx fn tm e' ds st'
   | none=>.stuck "deferred call"
  | _=>.stuck "deferred call"
def Ig(cx:Cx)(f:FuncId)(args:List V)(st:St):Option (List V→St→R (V×St)):=match cx.sm f with
 | some s=>match cx.so f args st with
  | true=>some s
  | false=>none
 | none=>none
def sl(cx:Cx)(self:Self)(f:FuncId)(args:List V)(st:St):jP:=
 match Ig cx f args st with
 | some s=>(s args st).bind fun (v,st)=>.ok (.ret v,st)
 | none=>
  match cx.ft.get f with
  | none=>.stuck "no function"
  | some fn=>
   match fn.body with
   | none=>.stuck "no body"
   | some body=>
    (self.code none body {tm:=args++List.replicate (fn.ntmps-args.length) .undef,df:=[]} st).bind fun (e,fr,st)=>
     match e with
     | .normal=>leave cx fn fr.tm none fr.df st
     | .ret=>leave cx fn fr.tm none fr.df st
     | .panic v=>leave cx fn fr.tm (some v) fr.df st
     | .die v=>match fr.df with
      | []=>.ok (.panic v,st)
      | _=>.stuck "die"
     | .exit _=>.stuck "exit"
def qh(self:Self)(rnd:Option Nat)(g:FuncId)(first cap:List V)(params:Array Tmp)(assign body:Code)(tm:List V)(df:List bN)(D:Nat)(st:St):cM:=
 (self.call g (first++.yield st.n::cap) (newObj st (.loop .ready none tm params assign body D))).bind fun (e,st1)=>
  match e with
  | .panic _=>.stuck "panic out of a range"
  | .ret _=>
   match st1.h.get st.n with
   | some (.loop state pending tmps params assign body D)=>
    match state with
    | .busy=>.stuck "loop busy"
    | _=>
     match pending with
     | none=>.ok (.normal,{tm:=tm,df:=df},{st1 with h:=st1.h.set st.n (.loop .exhausted none tmps params assign body D)})
     | some c=>self.code rnd c {tm:=tm,df:=df} {st1 with h:=st1.h.set st.n (.loop .exhausted (some c) tmps params assign body D)}
   | _=>.stuck "loop"
def uv(cx:Cx)(self:Self)(rnd:Option Nat)(f:Operand)(params:Array Tmp)(assign body:Code)(fr:Fr)(st:St):cM:=
 match dC cx fr.tm f with
 | some (.func (.func g) first cap)=>
  match cx.ft.get g with
  | none=>.stuck "range: unknown function"
  | some _=>
   match rnd with
   | some l=>match st.h.get l with
    | some (.loop _ _ _ _ _ _ D)=>qh self rnd g first cap params assign body fr.tm fr.df D st
    | _=>.stuck "loop"
   | none=>qh self rnd g first cap params assign body fr.tm (.mark st.n::fr.df) st.n (newObj st (.deferred (some [])))
 | _=>.stuck "range over what?"
def pM(cx:Cx)(self:Self)(rnd:Option Nat)(c:Code)(fr:Fr)(st:St):cM:=
 match c with
 | .skip=>.ok (.normal,fr,st)
 | .label _=>.ok (.normal,fr,st)
 | .exit id=>.ok (.exit id,fr,st)
 | .ret=>.ok (.ret,fr,st)
 | .seq a b=>(self.code rnd a fr st).bind fun (e,fr,st)=>
  match e with
  | .normal=>self.code rnd b fr st
  | .exit id=>.ok (.exit id,fr,st)
  | .ret=>.ok (.ret,fr,st)
  | .panic v=>.ok (.panic v,fr,st)
  | .die v=>.ok (.die v,fr,st)
 | .cond c x y=>match dC cx fr.tm c with
  | some (.bool b)=>split st b fun st t=>match t with
   | true=>self.code rnd x fr st
   | false=>self.code rnd y fr st
  | _=>.stuck "cond"
 | .block id body=>(self.code rnd body fr st).bind fun (e,fr,st)=>
  match e with
  | .exit i=>match Nat.beq i id with
   | true=>.ok (.normal,fr,st)
   | false=>.ok (.exit i,fr,st)
  | .normal=>.ok (.normal,fr,st)
  | .ret=>.ok (.ret,fr,st)
  | .panic v=>.ok (.panic v,fr,st)
  | .die v=>.ok (.die v,fr,st)
 | .loop body=>self.loop rnd body fr st
 | .scope body=>self.code rnd body fr st
 | .region _ ops draw=>
  match draw with
  | false=>rZ cx self rnd ops.toList ops.toList fr st
  | true=>if vW ops.toList then drawn cx self ops.toList (dX ops.toList []) fr st else .stuck "draw: temporaries"
 | .rangeFunc f params assign body=>uv cx self rnd f params assign body fr st
 | _=>.stuck "code"
def qy(self:Self)(rnd:Option Nat)(body:Code)(fr:Fr)(st:St):cM:=
 (self.code rnd body fr st).bind fun (e,fr,st)=>
  match e with
  | .normal=>self.loop rnd body fr st
  | .exit id=>.ok (.exit id,fr,st)
  | .ret=>.ok (.ret,fr,st)
  | .panic v=>.ok (.panic v,fr,st)
  | .die v=>.ok (.die v,fr,st)
def BI(cx:Cx)(self:Self)(rnd:Option Nat)(body:Code)(fr:Fr)(st:St):cM:=match cx.lp with
 | none=>qy self rnd body fr st
 | some lp=>match lp rnd body fr st with
  | none=>qy self rnd body fr st
  | some r=>r
def FD:bN→bN→Bool
 | .fn (.func f) a b,.fn (.func g) c d=>Nat.beq f g&&V.fG a c&&V.fG b d
 | .mark b,.mark c=>Nat.beq b c
 | _,_=>false
def eM:List bN→List bN→Bool
 | [],[]=>true
 | a::l,b::m=>FD a b&&eM l m
 | _,_=>false
def Ns:Option Nat→Option Nat→Bool
 | none,none=>true
 | some a,some b=>Nat.beq a b
 | _,_=>false
def vA(c:X):List (V×V)→List (V×V)→Option (List (V×V))
 | [],[]=>some []
 | (k,v)::l,(j,u)::m=>match k.beq j with
  | true=>match vA c l m with
   | some r=>some ((k,bY c v u)::r)
   | none=>none
  | false=>none
 | _,_=>none
def bI(a b c d e f:Bool):Bool:=match a with
 | false=>false
 | true=>match b with
  | false=>false
  | true=>match c with
   | false=>false
   | true=>match d with
    | false=>false
    | true=>match e with
     | false=>false
     | true=>f
def A.beq:A→A→Bool
 | .base t,.base u=>Nat.beq t u
 | .fill x,.fill y=>x.beq y
 | .put a i c x,.put b j d y=>bI (a.beq b) (i.beq j) (Nat.beq c d) (x.beq y) true true
 | _,_=>false
def Pj(a b:V×V):Bool:=bI (a.1.beq b.1) (a.2.beq b.2) true true true true
def oa:Option Code→Option Code→Bool
 | none,none=>true
 | some a,some b=>bD a b
 | _,_=>false
def wV:Option (List bN)→Option (List bN)→Bool
 | none,none=>true
 | some a,some b=>eM a b
 | _,_=>false
def av.beq:av→av→Bool
 | .cells c e w,.cells c' e' w'=>bI (Nat.beq e e') (iR w w') (V.fG c c') true true true
 | .map es,.map es'=>gX Pj es es'
 | .loop s p t ps as bd d,.loop s' p' t' ps' as' bd' d'=>bI (kV s s') (oa p p') (V.fG t t') (Nat.beq d d') (Ix ps ps') (bI (bD as as') (bD bd bd') true true true true)
 | .deferred a,.deferred b=>wV a b
 | .ro t c,.ro t' c'=>bI (Nat.beq t t') (V.fG c c') true true true true
 | .win t c n es,.win t' c' n' es'=>bI (Nat.beq t t') (V.fG c c') (n.beq n') (Nat.beq es es') true true
 | .iter a,.iter b=>iR a b
 | .arr a ks n e w,.arr a' ks' n' e' w'=>bI (a.beq a') (CK.fG ks ks') (n.beq n') (Nat.beq e e') (jy w w') true
 | .warr g t ks n,.warr g' t' ks' n'=>bI (Nat.beq g g') (Nat.beq t t') (CK.fG ks ks') (n.beq n') true true
 | _,_=>false
def oi(c:X):av→av→Option av
 | .cells l e w,.cells m e' w'=>match Nat.beq e e',Ns w w' with
  | true,true=>match dL c l m with
   | some r=>some (.cells r e w)
   | none=>none
  | _,_=>none
 | .map es,.map es'=>match vA c es es' with
  | some r=>some (.map r)
  | none=>none
 | .deferred (some []),.deferred (some [])=>some (.deferred (some []))
 | .deferred none,.deferred none=>some (.deferred none)
 | .ro t l,.ro t' m=>match Nat.beq t t',V.fG l m with
  | true,true=>some (.ro t l)
  | _,_=>none
 | .win t l n es,.win t' m n' es'=>match Nat.beq t t',V.fG l m with
  | true,true=>match n.beq n',Nat.beq es es' with
   | true,true=>some (.win t l n es)
   | _,_=>none
  | _,_=>none
 | a,b=>match a.beq b with
  | true=>some a
  | false=>none
def Ws(c:X):Option av→Option av→Option (Option av)
 | some a,some b=>some (oi c a b)
 | _,_=>some none
def GX(c:X):H→H→Option H
 | .node l v r,.node l' v' r'=>match Ws c v v' with
  | none=>none
  | some v=>match GX c l l' with
   | none=>none
   | some l=>match GX c r r' with
    | none=>none
    | some r=>some (.node l v r)
 | _,_=>some .nil
def Zk(a b:Nat):Nat:=match Nat.ble a b with
 | true=>b
 | false=>a
def xj(pc:PC)(c:X)(a b:St):Option St:=match GX c a.h b.h with
 | some h=>some {h:=h,n:=Zk a.n b.n,pc:=pc}
 | none=>none
def k7:Ex→Ex→Bool
 | .normal,.normal=>true
 | .exit i,.exit j=>Nat.beq i j
 | .ret,.ret=>true
 | _,_=>false
def rA{β:Type}:List V→(List V→β)→β
 | [],k=>k []
 | v::l,k=>pd v fun v=>rA l fun l=>k (v::l)
def zZ(pc:PC)(c:X)(a b:Ex×Fr×St):Option (Ex×Fr×St):=
 match a,b with
 | (e,fr,st),(e',fr',st')=>match k7 e e',eM fr.df fr'.df with
  | true,true=>match dL c fr.tm fr'.tm with
   | some tm=>match xj pc c st st' with
    | some st=>rA tm fun tm=>some (e,{tm:=tm,df:=fr.df},st)
    | none=>none
   | none=>none
  | _,_=>none
def E8(pc:PC)(c:X)(a b:En×St):Option (En×St):=
 match a,b with
 | (.ret v,st),(.ret u,st')=>match bY c v u with
  | v=>match v.isIte with
   | true=>none
   | false=>match xj pc c st st' with
    | some st=>some (.ret v,st)
    | none=>none
 | _,_=>none
def eE{α:Type}(j:PC→X→α→α→Option α):PC→R α→R α
 | _,.ok a=>.ok a
 | _,.stuck s=>.stuck s
 | pc,.br c t f=>match eE j ((c,true)::pc) t,eE j ((c,false)::pc) f with
  | .ok a,.ok b=>match j pc c a b with
   | some r=>.ok r
   | none=>.br c (.ok a) (.ok b)
  | t,f=>.br c t f
def Zl:Op→Bool
 | .call c=>match c.callee with
  | .builtin _=>true
  | _=>false
 | _=>true
def GO:List Oper→Bool
 | []=>true
 | o::l=>match Zl o.op with
  | true=>GO l
  | false=>false
def nW:Code→Bool
 | .skip=>true
 | .region _ ops _=>GO ops.toList
 | .seq a b=>match nW a with
  | true=>nW b
  | false=>false
 | .cond _ a b=>match nW a with
  | true=>nW b
  | false=>false
 | .block _ c=>nW c
 | .scope c=>nW c
 | .exit _=>true
 | _=>false
def UP(js:Bool)(c:Code):Bool:=match c with
 | .cond _ a b=>match js with
  | true=>match nW a with
   | true=>nW b
   | false=>false
  | false=>true
 | .block _ c=>match js with
  | true=>nW c
  | false=>true
 | _=>false
def UA(cx:Cx):Bool:=match cx.js with
 | true=>false
 | false=>cx.mg
def VU(w:List Nat):List Nat→List Nat
 | []=>[]
 | t::l=>match eg t w with
  | true=>VU w l
  | false=>t::VU w l
def OQ(w:List Nat):List Oper→List Nat
 | []=>[]
 | o::l=>VU w (tmpsOf o.op.operands.toList)++OQ (match o.dst,o.guard with
  | some d,none=>d::w
  | _,_=>w) l
def Fg:Code→List Nat
 | .cond c _ _=>tmpsOf [c]
 | .region _ ops _=>OQ [] ops.toList
 | .rangeFunc f _ _ _=>tmpsOf [f]
 | _=>[]
def jl(st:St)(tm:List V):List Nat→(St→List V→cM)→cM
 | [],k=>k st tm
 | t::ts,k=>match nth tm t with
  | some v=>match v.isIte with
   | true=>dR 100 st v fun st v=>jl st (B5 tm t v) ts k
   | false=>jl st tm ts k
  | none=>jl st tm ts k
def wz(cx:Cx)(self:Self)(rnd:Option Nat)(c:Code)(fr:Fr)(st:St):cM:=match Fg c with
 | []=>pM cx self rnd c fr st
 | t::ts=>jl st fr.tm (t::ts) fun st tm=>pM cx self rnd c {tm:=tm,df:=fr.df} st
def uS(cx:Cx)(self:Self)(rnd:Option Nat)(c:Code)(fr:Fr)(st:St):cM:=
 EC fr fun fr=>va st fun st=>
 match cx.mg with
 | false=>pM cx self rnd c fr st
 | true=>match UP cx.js c with
  | true=>eE zZ st.pc (wz cx self rnd c fr st)
  | false=>wz cx self rnd c fr st
def tw(cx:Cx)(self:Self)(f:FuncId)(args:List V)(st:St):jP:=
 match UA cx with
 | false=>sl cx self f args st
 | true=>eE E8 st.pc (sl cx self f args st)
def ev(cx:Cx):Nat→Self
 | 0=>{code:=fun _ _ _ _=>.stuck "fuel", loop:=fun _ _ _ _=>.stuck "fuel", call:=fun _ _ _=>.stuck "fuel" }
 | n+1=>{code:=uS cx (ev cx n),loop:=BI cx (ev cx n),call:=tw cx (ev cx n)}
end
end Go.Proofs.YtmickljjofbmiaaGreatDoor
