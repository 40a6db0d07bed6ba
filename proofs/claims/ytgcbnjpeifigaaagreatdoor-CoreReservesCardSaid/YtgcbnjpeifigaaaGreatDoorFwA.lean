/- Symbolic execution, part 1: expressions, values, heaps; what each stands for. Symbolic execution, part 2 a: bits, one by one (plain functions; nothing is proved here). Symbolic execution, part 2: the evaluator (plain functions; nothing is proved here). Symbolic execution: code held against code (plain functions). Symbolic execution, part 3: the evaluator of code and calls (plain functions; nothing is proved here). No condition. -/
import Derived.LoopNIn
import Derived.RangeFuncIn
import Derived.OrdersIn
import Derived.DefersIn
namespace Go.Proofs.YtgcbnjpeifigaaaGreatDoor
open Go
abbrev qqq:=@Nat.eq_of_beq_eq_true
abbrev qqk:=@Option.some.injEq
abbrev qqz:=@Option.some.inj
abbrev qqw:=@Bool.and_eq_true
abbrev qqj:=@Bool.false_eq_true
abbrev qqx:=@Nat.le_of_ble_eq_true
abbrev qqv:=@Prod.mk.injEq
abbrev qq0:=@List.getElem?_eq_getElem
abbrev qq1:=@List.mem_cons_self
abbrev qq2:=@Nat.le_refl
abbrev qq3:=@List.mem_cons_of_mem
abbrev qq4:=@List.mem_singleton
abbrev qq5:=@List.getElem?_eq_some_iff
abbrev qq6:=@Array.getElem?_eq_some_iff
abbrev qq7:=@Nat.mul_le_mul_right
abbrev qq8:=@Nat.add_sub_cancel_left
abbrev qq9:=@List.length_append
abbrev qkq:=@Nat.ble_eq_true_of_le
abbrev qkk:=@Int.tdiv_eq_ediv_of_nonneg
abbrev qkz:=@Nat.lt_or_ge
abbrev qkw:=@Int.toNat_natCast
abbrev qkj:=@List.getElem?_eq_none
abbrev qkx:=@Nat.le_of_lt
abbrev qkv:=@Int.eq_ofNat_of_zero_le
abbrev qk0:=@Nat.add_mul
abbrev qk1:=@List.getElem?_append_left
abbrev qk2:=@Array.getD_eq_getD_getElem?
abbrev qk3:=@Int.tmod_eq_emod_of_nonneg
abbrev qk4:=@Int.fdiv_eq_ediv_of_nonneg
abbrev qk5:=@List.getElem?_map
abbrev qk6:=@List.not_mem_nil
abbrev qk7:=@Nat.zero_add
abbrev qk8:=@List.append_nil
abbrev qk9:=@Prod.mk.inj
abbrev qzq:=@Nat.le_trans
abbrev qzk:=@Bool.not_eq_true'
abbrev qzz:=@List.mem_append
abbrev qzw:=@Nat.lt_of_lt_of_le
abbrev qzj:=@List.eq_nil_of_length_eq_zero
abbrev qzx:=@List.mem_map
abbrev qzv:=@List.length_drop
abbrev qz0:=@List.getElem?_append_right
abbrev qz1:=@Int.mul_assoc
abbrev qz2:=@List.mem_of_getElem?
abbrev qz3:=@List.length_take
abbrev qz4:=@Nat.testBit_two_pow
abbrev qz5:=@List.map_congr_left
abbrev qz6:=@Nat.beq_refl
abbrev qz7:=@Bool.or_eq_true
abbrev qz8:=@List.length_map
abbrev qz9:=@List.getElem_map
abbrev qwq:=@List.append_assoc
inductive B where
 |zero
 |one
 |pos (i:Nat)
 |neg (i:Nat)
inductive X where
 |lit (n:Int)
 |var (i:Nat)
 |add (a b:X)
 |sub (a b:X)
 |mul (a b:X)
 |quo (a b:X)
 |rem (a b:X)
 |wrap (k:IntKind) (a:X)
 |bits (o:Nat) (k:IntKind) (a b:X)
 |shl (k:IntKind) (a b:X)
 |shr (k:IntKind) (a b:X)
 |eq (a b:X)
 |lt (a b:X)
 |le (a b:X)
 |not (a:X)
 |ite (c a b:X)
 |fn1 (f:Nat) (a:X)
 |fn2 (f:Nat) (a b:X)
 |slit (l:List Nat)
 |svar (i:Nat)
 |scat (a b:X)
 |sfn (f:Nat) (a:X)
 |slen (a:X)
 |seq (a b:X)
 |bv (l:List B) (t:B)
 |cube (m v:Nat)
 |btext (t:Nat) (lo n:X)
structure Env where
 b:Nat->Bool
 v:Nat->Int
 f1:Nat->Int->Int
 f2:Nat->Int->Int->Int
 s:Nat->List UInt8
 sf:Nat->Int->List UInt8
 ro:Nat->Obj
 win:Nat->Addr
def bp(b:Bool):Int:=if b then 1 else 0
def gU(o:Nat)(k:IntKind)(a b:Int):Int:=
 match o with
 |0=>k.wrap ((BitVec.ofInt k.bits a &&& BitVec.ofInt k.bits b).toNat:Int)
 |1=>k.wrap ((BitVec.ofInt k.bits a |||BitVec.ofInt k.bits b).toNat:Int)
 |2=>k.wrap ((BitVec.ofInt k.bits a ^^^ BitVec.ofInt k.bits b).toNat:Int)
 |_=>k.wrap ((BitVec.ofInt k.bits a &&& ~~~BitVec.ofInt k.bits b).toNat:Int)
def OX(k:IntKind)(a b:Int):Int:=k.wrap (a*2 ^ (min b.toNat k.bits))
def yr(k:IntKind)(a b:Int):Int:=a.fdiv (2 ^ (min b.toNat k.bits))
def B.den(ρ:Env):B->Bool
 |.zero=>false
 |.one=>true
 |.pos i=>ρ.b i
 |.neg i=>!ρ.b i
def ay(ρ:Env):List B->B->Int
 |[],t=>-bp (t.den ρ)
 |b::l,t=>bp (b.den ρ)+2*ay ρ l t
def B7(l:List UInt8):List UInt8:=match l.take 1000 with
 |[]=>[48]
 |c::l=>c::l
def xm(ρ:Env):Nat->Int->List UInt8
 |0,n=>[UInt8.ofNat n.toNat]
 |f+1,n=>B7 (ρ.sf (f+1) n)
def wq(ρ:Env)(t:Nat)(lo:Int)(n:Nat):List UInt8:=(List.range n).map fun i:Nat=>UInt8.ofNat (IntKind.u8.wrap (ρ.f1 t (lo+(i:Int)))).toNat
def bD(ρ:Env)(m v:Nat):Bool:=(List.range (m.log2+1)).all fun i=>!m.testBit i ||(ρ.b i==v.testBit i)
mutual
def X.den(ρ:Env):X->Int
 |.lit n=>n
 |.var i=>ρ.v i
 |.add a b=>a.den ρ+b.den ρ
 |.sub a b=>a.den ρ-b.den ρ
 |.mul a b=>a.den ρ*b.den ρ
 |.quo a b=>(a.den ρ).tdiv (b.den ρ)
 |.rem a b=>(a.den ρ).tmod (b.den ρ)
 |.wrap k a=>k.wrap (a.den ρ)
 |.bits o k a b=>gU o k (a.den ρ) (b.den ρ)
 |.shl k a b=>OX k (a.den ρ) (b.den ρ)
 |.shr k a b=>yr k (a.den ρ) (b.den ρ)
 |.eq a b=>bp (a.den ρ==b.den ρ)
 |.lt a b=>bp (decide (a.den ρ<b.den ρ))
 |.le a b=>bp (decide (a.den ρ<=b.den ρ))
 |.not a=>bp (a.den ρ==0)
 |.ite c a b=>if c.den ρ==0 then b.den ρ else a.den ρ
 |.fn1 f a=>ρ.f1 f (a.den ρ)
 |.fn2 f a b=>ρ.f2 f (a.den ρ) (b.den ρ)
 |.slit _=>0
 |.svar _=>0
 |.scat _ _=>0
 |.sfn _ _=>0
 |.slen a=>((a.bF ρ).length:Int)
 |.seq a b=>bp (a.bF ρ==b.bF ρ)
 |.bv l t=>ay ρ l t
 |.cube m v=>bp (bD ρ m v)
 |.btext _ _ _=>0
def X.bF(ρ:Env):X->List UInt8
 |.slit l=>l.map UInt8.ofNat
 |.svar i=>ρ.s i
 |.scat a b=>a.bF ρ++b.bF ρ
 |.sfn f a=>xm ρ f (a.den ρ)
 |.ite c a b=>if c.den ρ==0 then b.bF ρ else a.bF ρ
 |.lit _=>[]
 |.var _=>[]
 |.add _ _=>[]
 |.sub _ _=>[]
 |.mul _ _=>[]
 |.quo _ _=>[]
 |.rem _ _=>[]
 |.wrap _ _=>[]
 |.bits _ _ _ _=>[]
 |.shl _ _ _=>[]
 |.shr _ _ _=>[]
 |.eq _ _=>[]
 |.lt _ _=>[]
 |.le _ _=>[]
 |.not _=>[]
 |.fn1 _ _=>[]
 |.fn2 _ _ _=>[]
 |.slen _=>[]
 |.seq _ _=>[]
 |.bv _ _=>[]
 |.cube _ _=>[]
 |.btext t lo n=>wq ρ t (lo.den ρ) (n.den ρ).toNat
end
def X.tt(ρ:Env)(x:X):Bool:=x.den ρ != 0
def bE:IntKind->IntKind->Bool
 |.i8,.i8=>true
 |.i16,.i16=>true
 |.i32,.i32=>true
 |.i64,.i64=>true
 |.u8,.u8=>true
 |.u16,.u16=>true
 |.u32,.u32=>true
 |.u64,.u64=>true
 |_,_=>false
theorem a9:∀ {a b:IntKind},bE a b=true->a=b:=by
 intro a b;cases a<;>cases b<;>simp[bE]
def aT:Int->Int->Bool
 |.ofNat a,.ofNat b=>Nat.beq a b
 |.negSucc a,.negSucc b=>Nat.beq a b
 |_,_=>false
theorem bx:∀ {a b:Int},aT a b=true->a=b:=by
 intro a b;cases a<;>cases b<;>simp[aT]<;>(intro h;rw[h])
theorem bR(a b:Int):aT a b=(a==b):=by
 by_cases h:a=b
 ·subst h;cases a<;>simp[aT]
 ·rw[beq_eq_false_iff_ne.2 h];cases hb:aT a b
  ·rfl
  ·exact absurd (bx hb) h
def fF:List Nat->List Nat->Bool
 |[],[]=>true
 |a::l,b::m=>Nat.beq a b&&fF l m
 |_,_=>false
theorem oA:∀ {a b:List Nat},fF a b=true->a=b
 |[],[],_=>rfl
 |a::l,b::m,h=>by
  simp[fF]at h;rw[h.1,oA h.2]
 |[],_::_,h=>by simp[fF]at h
 |_::_,[],h=>by simp[fF]at h
def B.beq:B->B->Bool
 |.zero,.zero=>true
 |.one,.one=>true
 |.pos i,.pos j=>Nat.beq i j
 |.neg i,.neg j=>Nat.beq i j
 |_,_=>false
theorem B.beq_eq{a b:B}(h:a.beq b=true):a=b:=by
 cases a<;>cases b<;>simp[B.beq]at h<;>simp[h]
def AG:List B->List B->Bool
 |[],[]=>true
 |a::l,b::m=>match a.beq b with
  |true=>AG l m
  |false=>false
 |_,_=>false
theorem Jy:∀ {l m:List B},AG l m=true->l=m
 |[],[],_=>rfl
 |a::l,b::m,h=>by
  unfold AG at h;split at h
  ·rename_i hb;rw[B.beq_eq hb,Jy h]
  ·cases h
 |[],_::_,h=>by simp[AG]at h
 |_::_,[],h=>by simp[AG]at h
def X.bl:X->X->Bool
 |.bv l t,.bv m u=>t.beq u&&AG l m
 |.cube m v,.cube n w=>Nat.beq m n&&Nat.beq v w
 |.lit a,.lit b=>aT a b
 |.var a,.var b=>Nat.beq a b
 |.add a b,.add c d=>a.bl c&&b.bl d
 |.sub a b,.sub c d=>a.bl c&&b.bl d
 |.mul a b,.mul c d=>a.bl c&&b.bl d
 |.quo a b,.quo c d=>a.bl c&&b.bl d
 |.rem a b,.rem c d=>a.bl c&&b.bl d
 |.wrap k a,.wrap j b=>bE k j&&a.bl b
 |.bits o k a b,.bits p j c d=>Nat.beq o p&&bE k j&&a.bl c&&b.bl d
 |.shl k a b,.shl j c d=>bE k j&&a.bl c&&b.bl d
 |.shr k a b,.shr j c d=>bE k j&&a.bl c&&b.bl d
 |.eq a b,.eq c d=>a.bl c&&b.bl d
 |.lt a b,.lt c d=>a.bl c&&b.bl d
 |.le a b,.le c d=>a.bl c&&b.bl d
 |.not a,.not b=>a.bl b
 |.ite c a b,.ite d e f=>c.bl d&&a.bl e&&b.bl f
 |.fn1 f a,.fn1 g b=>Nat.beq f g&&a.bl b
 |.fn2 f a b,.fn2 g c d=>Nat.beq f g&&a.bl c&&b.bl d
 |.slit a,.slit b=>fF a b
 |.svar a,.svar b=>Nat.beq a b
 |.scat a b,.scat c d=>a.bl c&&b.bl d
 |.sfn f a,.sfn g b=>Nat.beq f g&&a.bl b
 |.slen a,.slen b=>a.bl b
 |.seq a b,.seq c d=>a.bl c&&b.bl d
 |.btext t a b,.btext u c d=>Nat.beq t u&&a.bl c&&b.bl d
 |_,_=>false
def X.ajO(b:X)(k:Int->Bool):Bool:=match b with
 |.lit m=>k m
 |_=>false
def X.ajY(b:X)(k:Nat->Bool):Bool:=match b with
 |.var m=>k m
 |_=>false
def X.ajK(b:X)(k:X->X->Bool):Bool:=match b with
 |.add a1 b1=>k a1 b1
 |_=>false
def X.ajX(b:X)(k:X->X->Bool):Bool:=match b with
 |.sub a1 b1=>k a1 b1
 |_=>false
def X.ajP(b:X)(k:X->X->Bool):Bool:=match b with
 |.mul a1 b1=>k a1 b1
 |_=>false
def X.ajR(b:X)(k:X->X->Bool):Bool:=match b with
 |.quo a1 b1=>k a1 b1
 |_=>false
def X.ajS(b:X)(k:X->X->Bool):Bool:=match b with
 |.rem a1 b1=>k a1 b1
 |_=>false
def X.Zr(b:X)(k:IntKind->X->Bool):Bool:=match b with
 |.wrap k1 a1=>k k1 a1
 |_=>false
def X.Zl(b:X)(k:Nat->IntKind->X->X->Bool):Bool:=match b with
 |.bits o1 k1 a1 b1=>k o1 k1 a1 b1
 |_=>false
def X.ajV(b:X)(k:IntKind->X->X->Bool):Bool:=match b with
 |.shl k1 a1 b1=>k k1 a1 b1
 |_=>false
def X.ajW(b:X)(k:IntKind->X->X->Bool):Bool:=match b with
 |.shr k1 a1 b1=>k k1 a1 b1
 |_=>false
def X.aoJ(b:X)(k:X->X->Bool):Bool:=match b with
 |.eq a1 b1=>k a1 b1
 |_=>false
def X.aoL(b:X)(k:X->X->Bool):Bool:=match b with
 |.lt a1 b1=>k a1 b1
 |_=>false
def X.aoK(b:X)(k:X->X->Bool):Bool:=match b with
 |.le a1 b1=>k a1 b1
 |_=>false
def X.ajQ(b:X)(k:X->Bool):Bool:=match b with
 |.not a1=>k a1
 |_=>false
def X.ajN(b:X)(k:X->X->X->Bool):Bool:=match b with
 |.ite a1 b1 c1=>k a1 b1 c1
 |_=>false
def X.ajL(b:X)(k:Nat->X->Bool):Bool:=match b with
 |.fn1 f1 a1=>k f1 a1
 |_=>false
def X.ajM(b:X)(k:Nat->X->X->Bool):Bool:=match b with
 |.fn2 f1 a1 b1=>k f1 a1 b1
 |_=>false
def X.Zp(b:X)(k:List Nat->Bool):Bool:=match b with
 |.slit m=>k m
 |_=>false
def X.Zq(b:X)(k:Nat->Bool):Bool:=match b with
 |.svar m=>k m
 |_=>false
def X.Zn(b:X)(k:X->X->Bool):Bool:=match b with
 |.scat a1 b1=>k a1 b1
 |_=>false
def X.ajU(b:X)(k:Nat->X->Bool):Bool:=match b with
 |.sfn f1 a1=>k f1 a1
 |_=>false
def X.Zo(b:X)(k:X->Bool):Bool:=match b with
 |.slen a1=>k a1
 |_=>false
def X.ajT(b:X)(k:X->X->Bool):Bool:=match b with
 |.seq a1 b1=>k a1 b1
 |_=>false
def X.aoI(b:X)(k:List B->B->Bool):Bool:=match b with
 |.bv m u=>k m u
 |_=>false
def X.Zm(b:X)(k:Nat->Nat->Bool):Bool:=match b with
 |.cube m u=>k m u
 |_=>false
def X.Uy(b:X)(k:Nat->X->X->Bool):Bool:=match b with
 |.btext t1 a1 b1=>k t1 a1 b1
 |_=>false
noncomputable def X.beq(a:X):X->Bool:=X.rec (motive:=fun _=>X->Bool)
 (fun n b=>b.ajO fun m=>aT n m)
 (fun n b=>b.ajY fun m=>Nat.beq n m)
 (fun _ _ ia ib b=>b.ajK fun a1 b1=>(match ia a1 with|true=>ib b1|false=>false))
 (fun _ _ ia ib b=>b.ajX fun a1 b1=>(match ia a1 with|true=>ib b1|false=>false))
 (fun _ _ ia ib b=>b.ajP fun a1 b1=>(match ia a1 with|true=>ib b1|false=>false))
 (fun _ _ ia ib b=>b.ajR fun a1 b1=>(match ia a1 with|true=>ib b1|false=>false))
 (fun _ _ ia ib b=>b.ajS fun a1 b1=>(match ia a1 with|true=>ib b1|false=>false))
 (fun k0 _ ia b=>b.Zr fun k1 a1=>(match bE k0 k1 with|true=>ia a1|false=>false))
 (fun o0 k0 _ _ ia ib b=>b.Zl fun o1 k1 a1 b1=>(match Nat.beq o0 o1 with|true=>(match bE k0 k1 with|true=>(match ia a1 with|true=>ib b1|false=>false)|false=>false)|false=>false))
 (fun k0 _ _ ia ib b=>b.ajV fun k1 a1 b1=>(match bE k0 k1 with|true=>(match ia a1 with|true=>ib b1|false=>false)|false=>false))
 (fun k0 _ _ ia ib b=>b.ajW fun k1 a1 b1=>(match bE k0 k1 with|true=>(match ia a1 with|true=>ib b1|false=>false)|false=>false))
 (fun _ _ ia ib b=>b.aoJ fun a1 b1=>(match ia a1 with|true=>ib b1|false=>false))
 (fun _ _ ia ib b=>b.aoL fun a1 b1=>(match ia a1 with|true=>ib b1|false=>false))
 (fun _ _ ia ib b=>b.aoK fun a1 b1=>(match ia a1 with|true=>ib b1|false=>false))
 (fun _ ia b=>b.ajQ fun a1=>ia a1)
 (fun _ _ _ ia ib ic b=>b.ajN fun a1 b1 c1=>(match ia a1 with|true=>(match ib b1 with|true=>ic c1|false=>false)|false=>false))
 (fun f0 _ ia b=>b.ajL fun f1 a1=>(match Nat.beq f0 f1 with|true=>ia a1|false=>false))
 (fun f0 _ _ ia ib b=>b.ajM fun f1 a1 b1=>(match Nat.beq f0 f1 with|true=>(match ia a1 with|true=>ib b1|false=>false)|false=>false))
 (fun n b=>b.Zp fun m=>fF n m)
 (fun n b=>b.Zq fun m=>Nat.beq n m)
 (fun _ _ ia ib b=>b.Zn fun a1 b1=>(match ia a1 with|true=>ib b1|false=>false))
 (fun f0 _ ia b=>b.ajU fun f1 a1=>(match Nat.beq f0 f1 with|true=>ia a1|false=>false))
 (fun _ ia b=>b.Zo fun a1=>ia a1)
 (fun _ _ ia ib b=>b.ajT fun a1 b1=>(match ia a1 with|true=>ib b1|false=>false))
 (fun l t b=>b.aoI fun m u=>match t.beq u with|true=>AG l m|false=>false)
 (fun l t b=>b.Zm fun m u=>match Nat.beq l m with|true=>Nat.beq t u|false=>false)
 (fun f0 _ _ ia ib b=>b.Uy fun f1 a1 b1=>(match Nat.beq f0 f1 with|true=>(match ia a1 with|true=>ib b1|false=>false)|false=>false))
 a
theorem iX(x y:Bool):(match x with|true=>y|false=>false)=(x&&y):=by cases x<;>rfl
theorem iY(x y z:Bool):(match x with|true=>(match y with|true=>z|false=>false)|false=>false)=(x&&y&&z):=by cases x<;>cases y<;>rfl
theorem iZ(x y z u:Bool):(match x with|true=>(match y with|true=>(match z with|true=>u|false=>false)|false=>false)|false=>false)=(x&&y&&z&&u):=by cases x<;>cases y<;>cases z<;>rfl
@[csimp] theorem X.UC:@X.beq=@X.bl:=by
 funext a;induction a with
 |lit n=>
  funext b;cases b<;>first
   |rfl
   |(simp only[X.bl];first|exact iX _ _|exact iY _ _ _|exact iZ _ _ _ _|rfl)
 |var n=>
  funext b;cases b<;>first
   |rfl
   |(simp only[X.bl];first|exact iX _ _|exact iY _ _ _|exact iZ _ _ _ _|rfl)
 |add _ _ ia ib=>
  funext b;cases b<;>first
   |rfl
   |(simp only[X.bl,<-ia,<-ib];first|exact iX _ _|exact iY _ _ _|exact iZ _ _ _ _|rfl)
 |sub _ _ ia ib=>
  funext b;cases b<;>first
   |rfl
   |(simp only[X.bl,<-ia,<-ib];first|exact iX _ _|exact iY _ _ _|exact iZ _ _ _ _|rfl)
 |mul _ _ ia ib=>
  funext b;cases b<;>first
   |rfl
   |(simp only[X.bl,<-ia,<-ib];first|exact iX _ _|exact iY _ _ _|exact iZ _ _ _ _|rfl)
 |quo _ _ ia ib=>
  funext b;cases b<;>first
   |rfl
   |(simp only[X.bl,<-ia,<-ib];first|exact iX _ _|exact iY _ _ _|exact iZ _ _ _ _|rfl)
 |rem _ _ ia ib=>
  funext b;cases b<;>first
   |rfl
   |(simp only[X.bl,<-ia,<-ib];first|exact iX _ _|exact iY _ _ _|exact iZ _ _ _ _|rfl)
 |wrap _ _ ia=>
  funext b;cases b<;>first
   |rfl
   |(simp only[X.bl,<-ia];first|exact iX _ _|exact iY _ _ _|exact iZ _ _ _ _|rfl)
 |bits _ _ _ _ ia ib=>
  funext b;cases b<;>first
   |rfl
   |(simp only[X.bl,<-ia,<-ib];first|exact iX _ _|exact iY _ _ _|exact iZ _ _ _ _|rfl)
 |shl _ _ _ ia ib=>
  funext b;cases b<;>first
   |rfl
   |(simp only[X.bl,<-ia,<-ib];first|exact iX _ _|exact iY _ _ _|exact iZ _ _ _ _|rfl)
 |shr _ _ _ ia ib=>
  funext b;cases b<;>first
   |rfl
   |(simp only[X.bl,<-ia,<-ib];first|exact iX _ _|exact iY _ _ _|exact iZ _ _ _ _|rfl)
 |eq _ _ ia ib=>
  funext b;cases b<;>first
   |rfl
   |(simp only[X.bl,<-ia,<-ib];first|exact iX _ _|exact iY _ _ _|exact iZ _ _ _ _|rfl)
 |lt _ _ ia ib=>
  funext b;cases b<;>first
   |rfl
   |(simp only[X.bl,<-ia,<-ib];first|exact iX _ _|exact iY _ _ _|exact iZ _ _ _ _|rfl)
 |le _ _ ia ib=>
  funext b;cases b<;>first
   |rfl
   |(simp only[X.bl,<-ia,<-ib];first|exact iX _ _|exact iY _ _ _|exact iZ _ _ _ _|rfl)
 |not _ ia=>
  funext b;cases b<;>first
   |rfl
   |(simp only[X.bl,<-ia];first|exact iX _ _|exact iY _ _ _|exact iZ _ _ _ _|rfl)
 |ite _ _ _ ia ib ic=>
  funext b;cases b<;>first
   |rfl
   |(simp only[X.bl,<-ia,<-ib,<-ic];first|exact iX _ _|exact iY _ _ _|exact iZ _ _ _ _|rfl)
 |fn1 _ _ ia=>
  funext b;cases b<;>first
   |rfl
   |(simp only[X.bl,<-ia];first|exact iX _ _|exact iY _ _ _|exact iZ _ _ _ _|rfl)
 |fn2 _ _ _ ia ib=>
  funext b;cases b<;>first
   |rfl
   |(simp only[X.bl,<-ia,<-ib];first|exact iX _ _|exact iY _ _ _|exact iZ _ _ _ _|rfl)
 |slit n=>
  funext b;cases b<;>first
   |rfl
   |(simp only[X.bl];first|exact iX _ _|exact iY _ _ _|exact iZ _ _ _ _|rfl)
 |svar n=>
  funext b;cases b<;>first
   |rfl
   |(simp only[X.bl];first|exact iX _ _|exact iY _ _ _|exact iZ _ _ _ _|rfl)
 |scat _ _ ia ib=>
  funext b;cases b<;>first
   |rfl
   |(simp only[X.bl,<-ia,<-ib];first|exact iX _ _|exact iY _ _ _|exact iZ _ _ _ _|rfl)
 |sfn _ _ ia=>
  funext b;cases b<;>first
   |rfl
   |(simp only[X.bl,<-ia];first|exact iX _ _|exact iY _ _ _|exact iZ _ _ _ _|rfl)
 |slen _ ia=>
  funext b;cases b<;>first
   |rfl
   |(simp only[X.bl,<-ia];first|exact iX _ _|exact iY _ _ _|exact iZ _ _ _ _|rfl)
 |seq _ _ ia ib=>
  funext b;cases b<;>first
   |rfl
   |(simp only[X.bl,<-ia,<-ib];first|exact iX _ _|exact iY _ _ _|exact iZ _ _ _ _|rfl)
 |bv l t=>
  funext b;cases b<;>first
   |rfl
   |(simp only[X.bl];first|exact iX _ _|exact iY _ _ _|exact iZ _ _ _ _|rfl)
 |cube l t=>
  funext b;cases b<;>first
   |rfl
   |(simp only[X.bl];first|exact iX _ _|exact iY _ _ _|exact iZ _ _ _ _|rfl)
 |btext _ _ _ ia ib=>
  funext b;cases b<;>first
   |rfl
   |(simp only[X.bl,<-ia,<-ib];first|exact iX _ _|exact iY _ _ _|exact iZ _ _ _ _|rfl)
theorem X.Zy:∀ {a b:X},a.bl b=true->a=b:=by
 intro a;induction a with
 |bv l t=>intro b h;cases b<;>simp[X.bl]at h;rw[B.beq_eq h.1,Jy h.2]
 |cube m v=>intro b h;cases b<;>simp[X.bl]at h;rw[h.1,h.2]
 |lit n=>intro b h;cases b<;>simp[X.bl]at h;rw[bx h]
 |var n=>intro b h;cases b<;>simp[X.bl]at h;rw[h]
 |svar n=>intro b h;cases b<;>simp[X.bl]at h;rw[h]
 |slit n=>intro b h;cases b<;>simp[X.bl]at h;rw[oA h]
 |add _ _ i j=>intro b h;cases b<;>simp[X.bl]at h;rw[i h.1,j h.2]
 |sub _ _ i j=>intro b h;cases b<;>simp[X.bl]at h;rw[i h.1,j h.2]
 |mul _ _ i j=>intro b h;cases b<;>simp[X.bl]at h;rw[i h.1,j h.2]
 |quo _ _ i j=>intro b h;cases b<;>simp[X.bl]at h;rw[i h.1,j h.2]
 |rem _ _ i j=>intro b h;cases b<;>simp[X.bl]at h;rw[i h.1,j h.2]
 |eq _ _ i j=>intro b h;cases b<;>simp[X.bl]at h;rw[i h.1,j h.2]
 |lt _ _ i j=>intro b h;cases b<;>simp[X.bl]at h;rw[i h.1,j h.2]
 |le _ _ i j=>intro b h;cases b<;>simp[X.bl]at h;rw[i h.1,j h.2]
 |seq _ _ i j=>intro b h;cases b<;>simp[X.bl]at h;rw[i h.1,j h.2]
 |scat _ _ i j=>intro b h;cases b<;>simp[X.bl]at h;rw[i h.1,j h.2]
 |wrap _ _ i=>intro b h;cases b<;>simp[X.bl]at h;rw[a9 h.1,i h.2]
 |not _ i=>intro b h;cases b<;>simp[X.bl]at h;rw[i h]
 |slen _ i=>intro b h;cases b<;>simp[X.bl]at h;rw[i h]
 |fn1 _ _ i=>intro b h;cases b<;>simp[X.bl]at h;rw[h.1,i h.2]
 |sfn _ _ i=>intro b h;cases b<;>simp[X.bl]at h;rw[h.1,i h.2]
 |fn2 _ _ _ i j=>intro b h;cases b<;>simp[X.bl]at h;rw[h.1.1,i h.1.2,j h.2]
 |btext _ _ _ i j=>intro b h;cases b<;>simp[X.bl]at h;rw[h.1.1,i h.1.2,j h.2]
 |ite _ _ _ i j k=>intro b h;cases b<;>simp[X.bl]at h;rw[i h.1.1,j h.1.2,k h.2]
 |bits _ _ _ _ i j=>intro b h;cases b<;>simp[X.bl]at h;rw[h.1.1.1,a9 h.1.1.2,i h.1.2,j h.2]
 |shl _ _ _ i j=>intro b h;cases b<;>simp[X.bl]at h;rw[a9 h.1.1,i h.1.2,j h.2]
 |shr _ _ _ i j=>intro b h;cases b<;>simp[X.bl]at h;rw[a9 h.1.1,i h.1.2,j h.2]
theorem X.beq_eq{a b:X}(h:a.beq b=true):a=b:=X.Zy (by rw[<-X.UC];exact h)
inductive CK where
 |int (k:IntKind)
 |bool
def CK.beq:CK->CK->Bool
 |.int k,.int j=>bE k j
 |.bool,.bool=>true
 |_,_=>false
theorem CK.beq_eq{a b:CK}(h:a.beq b=true):a=b:=by
 cases a<;>cases b<;>simp[CK.beq]at h
 ·rw[a9 h]
 ·rfl
def CK.cM:List CK->List CK->Bool
 |[],[]=>true
 |a::l,b::m=>match a.beq b with
  |true=>CK.cM l m
  |false=>false
 |_,_=>false
theorem CK.aR:∀ {l m:List CK},CK.cM l m=true->l=m
 |[],[],_=>rfl
 |a::l,b::m,h=>by
  unfold CK.cM at h;split at h
  ·rename_i hb;rw[CK.beq_eq hb,CK.aR h]
  ·cases h
 |[],_::_,h=>by simp[CK.cM]at h
 |_::_,[],h=>by simp[CK.cM]at h
inductive A where
 |base (t:Nat)
 |fill (x:X)
 |put (a:A) (i:X) (c:Nat) (x:X)
def CK.sym(ρ:Env)(k:CK)(t c:Nat)(j:Int):Int:=match k with
 |.int k=>k.wrap (ρ.f1 (t+c) j)
 |.bool=>bp (ρ.f1 (t+c) j==1)
def A.den(ρ:Env)(k:CK)(c:Nat)(j:Int):A->Int
 |.base t=>k.sym ρ t c j
 |.fill x=>x.den ρ
 |.put a i c' x=>if c=c'/\j=i.den ρ then x.den ρ else a.den ρ k c j
def CK.val(k:CK)(n:Int):Value:=match k with
 |.int k=>.int k n
 |.bool=>.bool (n != 0)
inductive XC where
 |known (x:X)
 |room (lo:X)
inductive Cp where
 |known (n:Nat)
 |room (b off lo:Nat)
inductive V where
 |int (k:IntKind) (x:X)
 |bool (x:X)
 |str (x:X)
 |ptr (b off:Nat)
 |nilptr
 |slice (b off len:Nat) (cap:Cp)
 |nilslice
 |map (b:Nat)
 |nilmap
 |func (f:Fn) (first cap:List V)
 |yield (b:Nat)
 |nilfunc
 |iface (t:TypeId) (v:V)
 |niliface
 |agg (l:List V)
 |tuple (l:List V)
 |wptr (b off:Nat)
 |wslice (b off:Nat) (len cap:X)
 |ite (c:X) (a b:V)
 |sptr (b off n:Nat) (i:X)
 |rest (b off l size:Nat)
 |xslice (w:Bool) (b:Nat) (off:X) (es:Nat) (len:X) (cap:XC)
 |xptr (w:Bool) (b:Nat) (i:X) (es c:Nat)
 |any (k:Nat)
abbrev V.undef:V:=.tuple []
instance:Inhabited V:=⟨.undef⟩
structure Pc where
 p:Nat
 q:Nat
 v:Value:=.nilFunc
abbrev Pl:=Nat->Pc
def Cp.ab(π:Pl):Cp->Nat
 |.known n=>n
 |.room b off lo=>max ((π b).2-off) lo
def cU(ρ:Env)(π:Pl)(w:Bool)(b n:Nat):Addr:=if w then(ρ.win b).add n else⟨(π b).1,n,none⟩
def XC.ab(ρ:Env)(π:Pl)(b o:Nat):XC->Nat
 |.known x=>(x.den ρ).toNat
 |.room lo=>max (π b).2 (lo.den ρ).toNat-o
mutual
def V.ab(ρ:Env)(π:Pl):V->Value
 |.int k x=>.int k (x.den ρ)
 |.bool x=>.bool (x.tt ρ)
 |.str x=>.string ⟨(x.bF ρ).toArray⟩
 |.ptr b off=>.pointer (some ⟨(π b).1,off,none⟩)
 |.nilptr=>.pointer none
 |.slice b off len cap=>.slice (some ⟨(π b).1,off,none⟩) len (cap.ab π)
 |.nilslice=>.slice none 0 0
 |.map b=>.map (some (π b).1)
 |.nilmap=>.map none
 |.func f first cap=>.func f (V.ae ρ π first).toArray (V.ae ρ π cap).toArray
 |.yield b=>.func (.yield (π b).1) #[] #[]
 |.nilfunc=>.nilFunc
 |.iface t v=>.iface t (v.ab ρ π)
 |.niliface=>.nilIface
 |.agg l=>.agg (V.ae ρ π l).toArray
 |.tuple l=>.tuple (V.ae ρ π l).toArray
 |.wptr b off=>.pointer (some ((ρ.win b).add off))
 |.wslice b off len cap=>.slice (some ((ρ.win b).add off)) (len.den ρ).toNat (cap.den ρ).toNat
 |.ite c a b=>if c.tt ρ then a.ab ρ π else b.ab ρ π
 |.sptr b off _ i=>.pointer (some ⟨(π b).1,off+(i.den ρ).toNat,none⟩)
 |.rest b off l size=>.slice (some ⟨(π b).1,if(π b).2<=l then off else off+l*size,none⟩) 0 ((π b).2-l:Nat)
 |.xslice w b off es len cap=>.slice (some (cU ρ π w b ((off.den ρ).toNat*es))) (len.den ρ).toNat (cap.ab ρ π b (off.den ρ).toNat)
 |.xptr w b i es c=>.pointer (some (cU ρ π w b ((i.den ρ).toNat*es+c)))
 |.any k=>(π k).3
def V.ae(ρ:Env)(π:Pl):List V->List Value
 |[]=>[]
 |v::l=>v.ab ρ π::V.ae ρ π l
end
theorem aU(ρ:Env)(π:Pl)(l:List V):V.ae ρ π l=l.map (V.ab ρ π):=by
 induction l with
 |nil=>rfl
 |cons v l ih=>rw[V.ae,ih];rfl
section
variable {α:Type}
noncomputable def nth(l:List α):Nat->Option α:=
 List.rec (motive:=fun _=>Nat->Option α) (fun _=>none) (fun a _ ih n=>Nat.rec (motive:=fun _=>Option α) (some a) (fun m _=>ih m) n) l
theorem cr:∀ (l:List α) (n:Nat),nth l n=l[n]?
 |[],_=>by simp[nth]
 |_::_,0=>rfl
 |a::l,n+1=>(show nth (a::l) (n+1)=nth l n from rfl).trans ((cr l n).trans (by simp))
def Dw:List α->Nat->α->List α
 |[],_,_=>[]
 |a::l,n,b=>match n with
  |0=>b::l
  |m+1=>a::Dw l m b
theorem mJ:∀ (l:List α) (n:Nat) (b:α),Dw l n b=l.set n b
 |[],_,_=>rfl
 |_::_,0,_=>rfl
 |_::l,n+1,b=>by simp[Dw,mJ l n b]
def gx:List α->Nat->List α
 |[],_=>[]
 |a::l,n=>match n with
  |0=>a::l
  |m+1=>gx l m
theorem cO:∀ (l:List α) (n:Nat),gx l n=l.drop n
 |[],_=>by simp[gx]
 |_::_,0=>rfl
 |_::l,n+1=>by simp[gx,cO l n]
def takeN:Nat->List α->Option (List α)
 |0,_=>some []
 |_+1,[]=>none
 |n+1,a::l=>match takeN n l with
  |some r=>some (a::r)
  |none=>none
theorem cS:∀ (n:Nat) (l r:List α),takeN n l=some r->l.take n=r/\r.length=n/\n<=l.length
 |0,l,r,h=>by simp[takeN]at h;subst h;simp
 |n+1,[],r,h=>by simp[takeN]at h
 |n+1,a::l,r,h=>by
  simp only[takeN]at h;cases hr:takeN n l with
  |none=>rw[hr]at h;simp at h
  |some q=>
   rw[hr]at h;simp only[qqk]at h;subst h;have:=cS n l q hr;simp[this.1,this.2.1,this.2.2]
def Cr:List α->Nat->List α->Option (List α)
 |l,n,vs=>match n,l with
  |0,l=>match takeN vs.length l with
   |some _=>some (vs++gx l vs.length)
   |none=>none
  |_+1,[]=>none
  |m+1,a::l=>match Cr l m vs with
   |some r=>some (a::r)
   |none=>none
theorem vq:∀ (l:List α) (n:Nat) (vs r:List α),Cr l n vs=some r->r=l.take n++vs++l.drop (n+vs.length)/\n+vs.length<=l.length
 |l,0,vs,r,h=>by
  unfold Cr at h;simp only at h;cases hr:takeN vs.length l with
  |none=>rw[hr]at h;simp at h
  |some q=>
   rw[hr]at h;simp only[qqk,cO]at h;have:=cS _ _ _ hr;exact⟨by simp[<-h],by omega⟩
 |[],m+1,vs,r,h=>by simp[Cr]at h
 |a::l,m+1,vs,r,h=>by
  unfold Cr at h;simp only at h;cases hr:Cr l m vs with
  |none=>rw[hr]at h;simp at h
  |some q=>
   rw[hr]at h;simp only[qqk]at h;have:=vq l m vs q hr;subst h;refine⟨?_,by simp;omega⟩;rw[this.1];simp[show m+1+vs.length=(m+vs.length)+1 by omega]
end
inductive T (α:Type) where
 |nil
 |node (l:T α) (v:Option α) (r:T α)
def o8:Nat->Nat->List Bool
 |0,_=>[]
 |f+1,n=>match n with
  |0=>[]
  |m+1=>Nat.beq ((m+1) % 2) 1::o8 f ((m+1) / 2)
def bitsOf(n:Nat):List Bool:=o8 n n
section
variable {α:Type}
def T.fJ:T α->List Bool->Option α
 |.nil,_=>none
 |.node _ v _,[]=>v
 |.node l _ r,b::bs=>match b with
  |true=>r.fJ bs
  |false=>l.fJ bs
def T.iL:List Bool->T α->Option α->T α
 |[],.nil,v=>.node .nil v .nil
 |[],.node l _ r,v=>.node l v r
 |b::bs,.nil,v=>match b with
  |true=>.node .nil none (T.iL bs .nil v)
  |false=>.node (T.iL bs .nil v) none .nil
 |b::bs,.node l u r,v=>match b with
  |true=>.node l u (T.iL bs r v)
  |false=>.node (T.iL bs l v) u r
def T.get(t:T α)(n:Nat):Option α:=t.fJ (bitsOf n)
def T.set(t:T α)(n:Nat)(v:α):T α:=T.iL (bitsOf n) t (some v)
def T.drop(t:T α)(n:Nat):T α:=T.iL (bitsOf n) t none
theorem RO:∀ (f n m:Nat),n<=f->m<=f->∀ g,n<=g->m<=g->o8 f n=o8 g m->n=m:=by
 intro f;induction f using Nat.strongRecOn with
 |_ f ih=>
  intro n m hn hm g hn' hm' h;cases f with
  |zero=>omega
  |succ f=>
   cases g with
   |zero=>omega
   |succ g=>
    cases n with
    |zero=>cases m with
     |zero=>rfl
     |succ m=>simp[o8]at h
    |succ n=>cases m with
     |zero=>simp[o8]at h
     |succ m=>
      simp only[o8,List.cons.injEq]at h;obtain⟨h1,h2⟩:=h;have h3:=ih f (by omega) ((n+1) / 2) ((m+1) / 2) (by omega) (by omega) g (by omega) (by omega) h2;have h4:(n+1) % 2=(m+1) % 2:=by
       have a1:=Nat.mod_two_eq_zero_or_one (n+1);have a2:=Nat.mod_two_eq_zero_or_one (m+1);rcases a1 with a1|a1<;>rcases a2 with a2|a2<;>simp[a1,a2]at h1 ⊢
      omega
theorem AD:∀ (n f g:Nat),n<=f->n<=g->o8 f n=o8 g n:=by
 intro n;induction n using Nat.strongRecOn with
 |_ n ih=>
  intro f g hf hg;cases n with
  |zero=>cases f<;>cases g<;>rfl
  |succ n=>
   cases f with
   |zero=>omega
   |succ f=>cases g with
    |zero=>omega
    |succ g=>
     simp only[o8];rw[ih ((n+1) / 2) (by omega) f g (by omega) (by omega)]
theorem AF{n m:Nat}(h:bitsOf n=bitsOf m):n=m:=by
 unfold bitsOf at h;rw[AD n n (max n m) (qq2 _) (by omega),AD m m (max n m) (qq2 _) (by omega)]at h;exact RO (max n m) n m (by omega) (by omega) (max n m) (by omega) (by omega) h
theorem T.iv:∀ (bs:List Bool) (t:T α) (v:Option α),(T.iL bs t v).fJ bs=v
 |[],.nil,v=>rfl
 |[],.node l _ r,v=>rfl
 |b::bs,.nil,v=>by cases b<;>simp[T.iL,T.fJ,T.iv bs]
 |b::bs,.node l u r,v=>by cases b<;>simp[T.iL,T.fJ,T.iv bs]
theorem T.fi(bs:List Bool):(T.nil:T α).fJ bs=none:=by cases bs<;>rfl
theorem T.dT:∀ (bs cs:List Bool) (t:T α) (v:Option α),bs≠cs->(T.iL bs t v).fJ cs=t.fJ cs
 |[],[],_,_,h=>absurd rfl h
 |[],c::cs,.nil,v,_=>by cases c<;>simp[T.iL,T.fJ]
 |[],c::cs,.node l _ r,v,_=>by cases c<;>simp[T.iL,T.fJ]
 |b::bs,[],.nil,v,_=>by cases b<;>simp[T.iL,T.fJ]
 |b::bs,[],.node l u r,v,_=>by cases b<;>simp[T.iL,T.fJ]
 |b::bs,c::cs,.nil,v,h=>by
  cases b<;>cases c<;>simp only[T.iL,T.fJ]
  ·rw[T.dT bs cs _ v (fun e=>h (by rw[e]))];exact T.fi _
  ·rw[T.dT bs cs _ v (fun e=>h (by rw[e]))];exact T.fi _
 |b::bs,c::cs,.node l u r,v,h=>by
  cases b<;>cases c<;>simp only[T.iL,T.fJ]
  ·rw[T.dT bs cs _ v (fun e=>h (by rw[e]))]
  ·rw[T.dT bs cs _ v (fun e=>h (by rw[e]))]
theorem T.aP(t:T α)(n:Nat)(v:α):(t.set n v).get n=some v:=T.iv _ _ _
theorem T.aB(t:T α){n m:Nat}(v:α)(h:n≠m):(t.set n v).get m=t.get m:=
 T.dT _ _ _ _ fun e=>h (AF e)
theorem T.mh(t:T α)(n:Nat):(t.drop n).get n=none:=T.iv _ _ _
theorem T.lJ(t:T α){n m:Nat}(h:n≠m):(t.drop n).get m=t.get m:=
 T.dT _ _ _ _ fun e=>h (AF e)
theorem T.get_nil(n:Nat):(T.nil:T α).get n=none:=T.fi _
end
inductive cz where
 |fn (f:Fn) (cap args:List V)
 |mark (b:Nat)
def cz.ab(ρ:Env)(π:Pl):cz->Deferred
 |.fn f cap args=>{target:=.fn f (V.ae ρ π cap).toArray,args:=(V.ae ρ π args).toArray}
 |.mark b=>{target:=.collected (π b).1,args:=#[]}
inductive ak where
 |cells (c:List V) (elem:TypeId) (wide:Option Nat)
 |map (es:List (V×V))
 |loop (state:LoopState) (pending:Option Code) (tmps:List V) (params:Array Tmp) (assign body:Code) (defers:Nat)
 |deferred (calls:Option (List cz))
 |ro (tag:Nat) (c:List V)
 |win (tag:Nat) (c:List V) (len:X) (es:Nat)
 |iter (m:Option Nat)
 |arr (a:A) (ks:List CK) (len:X) (elem:TypeId) (wide:Bool)
 |warr (tag t:Nat) (ks:List CK) (len:X)
 |opt (c:X) (cs:List V) (elem:TypeId)
def entriesOf(ρ:Env)(π:Pl) (es:List (V×V)):List (Value×Value):=es.map fun e=>(e.1.ab ρ π,e.2.ab ρ π)
def cL:Value->Value->Prop
 |.int k a,.int j b=>k=j/\a≠b
 |.string a,.string b=>a≠b
 |.bool a,.bool b=>a≠b
 |_,_=>False
def C2:Option Nat->Nat->List Value->Nat->Prop
 |none,_,spare,_=>spare=[]
 |some size,n,spare,cap=>n+spare.length=cap*size
def ko(ρ:Env)(a:A)(ks:List CK)(n:Nat)(get:Nat->Option Value):Prop:=
 ∀ (j c:Nat) (k:CK),j<n->ks[c]?=some k->get (j*ks.length+c)=some (k.val (a.den ρ k c j))
def ak.is(ρ:Env)(π:Pl)(i:Nat):ak->Obj->Prop
 |.cells c elem wide,o=>∃ spare:List Value,o=.cells (V.ae ρ π c++spare).toArray elem (0,0)/\C2 wide c.length spare (π i).2
 |.map es,o=>∃ (ms:List MapEntry) (clock:Nat),o=.map ms.toArray clock/\(ms.map fun e=>(e.key,e.val)).Perm (entriesOf ρ π es) /\
   ((entriesOf ρ π es).map (·.1)).Pairwise cL
 |.loop state pending tmps params assign body defers,o=>
  ∃ fn:FuncId,o=.loop {state,pending,fn,tmps:=(V.ae ρ π tmps).toArray,params,assign,body,defers:=(π defers).1}
 |.deferred calls,o=>o=.deferred (calls.map fun l=>l.map (cz.ab ρ π))
 |.ro tag c,o=>(∃ (t:TypeId) (fr:Nat×Nat),o=.cells (V.ae ρ π c).toArray t fr)/\o=ρ.ro tag
 |.win tag c len es,o=>((ρ.win i).spot=none/\(ρ.win i).block=(π i).1/\∃ (cs:Array Value) (t:TypeId) (fr:Nat×Nat),o=.cells cs t fr/\∀ (j:Nat) (v:V),c[j]?=some v->j<(len.den ρ).toNat*es->cs[(ρ.win i).off+j]?=some (v.ab ρ π))/\o=ρ.ro tag
 |.iter m,o=>match m with
  |none=>o=.mapIter none 0 #[] 0
  |some b=>∃ since last,o=.mapIter (some (π b).1) since #[] last
 |.arr a ks len elem wide,o=>∃ cs:List Value,o=.cells cs.toArray elem (0,0)/\(len.den ρ).toNat*ks.length<=cs.length/\(wide=true->cs.length=(π i).2*ks.length)/\ko ρ a ks (len.den ρ).toNat fun j=>cs[j]?
 |.warr tag t ks len,o=>((ρ.win i).spot=none/\(ρ.win i).block=(π i).1/\∃ (cs:Array Value) (t':TypeId) (fr:Nat×Nat),o=.cells cs t' fr/\ko ρ (.base t) ks (len.den ρ).toNat fun j=>cs[(ρ.win i).off+j]?)/\o=ρ.ro tag
 |.opt c cs elem,o=>c.tt ρ=true->o=.cells (V.ae ρ π cs).toArray elem (0,0)
abbrev H:=T ak
def ak.bg:ak->Bool
 |.ro _ _=>true
 |.win _ _ _ _=>true
 |.warr _ _ _ _=>true
 |_=>false
structure dK (ρ:Env) (π:Pl) (h:H) (w:World):Prop where
 obj:∀ i o,h.get i=some o->∃ ob,w.heap[(π i).1]?=some ob/\o.is ρ π i ob
 inj:∀ i j o o',h.get i=some o->h.get j=some o'->(π i).1=(π j).1->i=j\/(o.bg=true/\o'.bg=true)
def B.not:B->B
 |.zero=>.one
 |.one=>.zero
 |.pos i=>.neg i
 |.neg i=>.pos i
def B.and(a b:B):Option B:=
 match a with
 |.zero=>some .zero
 |.one=>some b
 |a=>match b with
  |.zero=>some .zero
  |.one=>some a
  |b=>match a.beq b,a.beq b.not with
   |true,_=>some a
   |false,true=>some .zero
   |false,false=>none
def B.or(a b:B):Option B:=match B.and a.not b.not with
 |some c=>some c.not
 |none=>none
def B.xor(a b:B):Option B:=
 match a with
 |.zero=>some b
 |.one=>some b.not
 |a=>match b with
  |.zero=>some a
  |.one=>some a.not
  |b=>match a.beq b,a.beq b.not with
   |true,_=>some .zero
   |false,true=>some .one
   |false,false=>none
def B.diff(a b:B):Option B:=B.and a b.not
def B.op(o:Nat):B->B->Option B:=
 match o with
 |0=>B.and
 |1=>B.or
 |2=>B.xor
 |_=>B.diff
def o9(b:Option B) (r:Option (List B×B)):Option (List B×B):=
 match b with
 |none=>none
 |some b=>match r with
  |none=>none
  |some (l,t)=>some (b::l,t)
def M5(f:B->B->Option B)(t:B):List B->B->Option (List B×B)
 |[],u=>match f t u with
  |some c=>some ([],c)
  |none=>none
 |c::m,u=>o9 (f t c) (M5 f t m u)
def qP(f:B->B->Option B):List B->B->List B->B->Option (List B×B)
 |[],t,m,u=>M5 f t m u
 |b::l,t,m,u=>match m with
  |[]=>o9 (f b u) (qP f l t [] u)
  |c::m=>o9 (f b c) (qP f l t m u)
def yJ:Nat->List B->B->List B
 |0,_,_=>[]
 |n+1,[],t=>match t with
  |.zero=>[]
  |t=>t::yJ n [] t
 |n+1,b::l,t=>b::yJ n l t
def DX:Nat->List B->B->List B×B
 |_,[],t=>([],t)
 |0,b::_,_=>([],b)
 |n+1,b::l,t=>match DX n l t with
  |(r,s)=>(b::r,s)
def Rq(t:B):List B->List B
 |[]=>[]
 |b::l=>match Rq t l with
  |[]=>match b.beq t with
   |true=>[]
   |false=>[b]
  |c::r=>b::c::r
def Km(t:B):List B->Option Int
 |[]=>match t with
  |.zero=>some 0
  |.one=>some (-1)
  |_=>none
 |b::l=>match Km t l with
  |none=>none
  |some n=>match b with
   |.zero=>some (2*n)
   |.one=>some (2*n+1)
   |_=>none
def BS(l:List B)(t:B):X:=
 match Km t l with
 |some n=>.lit n
 |none=>.bv (Rq t l) t
def BT(k:IntKind)(l:List B)(t:B):X:=
 match k.signed with
 |false=>BS (yJ k.bits l t) .zero
 |true=>match DX (k.bits-1) l t with
  |(r,s)=>BS r s
def qo:Nat->Nat->List B
 |0,_=>[]
 |f+1,n=>match n with
  |0=>[]
  |m+1=>(match Nat.beq ((m+1) % 2) 1 with
   |true=>B.one
   |false=>B.zero)::qo f ((m+1) / 2)
def KL:List B->List B
 |[]=>[]
 |b::l=>b.not::KL l
def toB:X->Option (List B×B)
 |.bv l t=>some (l,t)
 |.lit n=>match n with
  |.ofNat n=>match Nat.blt n (2 ^ 70)with
   |true=>some (qo 70 n,.zero)
   |false=>none
  |.negSucc n=>match Nat.blt n (2 ^ 70)with
   |true=>some (KL (qo 70 n),.one)
   |false=>none
 |_=>none
def ao9:X->Bool
 |.bv _ _=>true
 |_=>false
def yD:Nat->List B->List B
 |0,l=>l
 |n+1,l=>.zero::yD n l
def AQ:Nat->List B->List B
 |0,l=>l
 |_+1,[]=>[]
 |n+1,_::l=>AQ n l
def SM(n:Nat):Option Nat:=match Nat.beq (2 ^ n.log2) n with
 |true=>match Nat.ble n.log2 64 with
  |true=>some n.log2
  |false=>none
 |false=>none
def RG(x y:B)(c:Bool):Option (B×Bool):=
 match c with
 |false=>match x with
  |.zero=>some (y,false)
  |x=>match y with
   |.zero=>some (x,false)
   |y=>match x,y with
    |.one,.one=>some (.zero,true)
    |_,_=>none
 |true=>match x with
  |.one=>some (y,true)
  |x=>match y with
   |.one=>some (x,true)
   |y=>match x,y with
    |.zero,.zero=>some (.one,false)
    |_,_=>none
def Nf(t u:B)(c:Bool):Option (List B×B):=
 match RG t u c with
 |some (s,d)=>match c,d with
  |true,true=>some ([],s)
  |false,false=>some ([],s)
  |_,_=>none
 |none=>none
def Up(t:B):List B->B->Bool->Option (List B×B)
 |[],u,c=>Nf t u c
 |y::m,u,c=>match RG t y c with
  |some (s,d)=>o9 (some s) (Up t m u d)
  |none=>none
def FF:List B->B->List B->B->Bool->Option (List B×B)
 |[],t,m,u,c=>Up t m u c
 |x::l,t,m,u,c=>match m with
  |[]=>match RG x u c with
   |some (s,d)=>o9 (some s) (FF l t [] u d)
   |none=>none
  |y::m=>match RG x y c with
   |some (s,d)=>o9 (some s) (FF l t m u d)
   |none=>none
def B.sub(a b:B):Option B:=
 match b with
 |.zero=>some a
 |b=>match a with
  |.one=>some b.not
  |a=>match a.beq b with
   |true=>some .zero
   |false=>none
inductive Q where
 |ff
 |c (m v:Nat)
 |bad
def n5(i:Nat)(b:Bool):Nat:=match b with
 |true=>2 ^ i
 |false=>0
def Q.with(q:Q)(i:Nat)(b:Bool):Q:=
 match q with
 |.ff=>.ff
 |.bad=>.bad
 |.c m v=>match Nat.testBit m i with
  |true=>match Nat.testBit v i,b with
   |true,true=>.c m v
   |false,false=>.c m v
   |_,_=>.ff
  |false=>.c (m |||2 ^ i) (v |||n5 i b)
def Q.MA(q:Q)(a b:B):Q:=
 match a with
 |.zero=>match b with
  |.zero=>q
  |.one=>.ff
  |.pos i=>q.with i false
  |.neg i=>q.with i true
 |.one=>match b with
  |.zero=>.ff
  |.one=>q
  |.pos i=>q.with i true
  |.neg i=>q.with i false
 |.pos i=>match b with
  |.zero=>q.with i false
  |.one=>q.with i true
  |.pos j=>match Nat.beq i j with
   |true=>q
   |false=>.bad
  |.neg j=>match Nat.beq i j with
   |true=>.ff
   |false=>.bad
 |.neg i=>match b with
  |.zero=>q.with i true
  |.one=>q.with i false
  |.pos j=>match Nat.beq i j with
   |true=>.ff
   |false=>.bad
  |.neg j=>match Nat.beq i j with
   |true=>q
   |false=>.bad
def Q.same(q:Q)(a b:B):Q:=
 match q with
 |.ff=>.ff
 |.bad=>.bad
 |.c m v=>Q.MA (.c m v) a b
def eqR(t:B):List B->B->Q->Q
 |[],u,q=>q.same t u
 |c::m,u,q=>match q with
  |.ff=>.ff
  |q=>eqR t m u (q.same t c)
def Nv:List B->B->List B->B->Q->Q
 |[],t,m,u,q=>eqR t m u q
 |b::l,t,m,u,q=>match q with
  |.ff=>.ff
  |q=>match m with
   |[]=>Nv l t [] u (q.same b u)
   |c::m=>Nv l t m u (q.same b c)
inductive G where
 |tt
 |ff
 |c (m v:Nat)
 |n (m v:Nat)
 |bad
def G.Qp(q:Q):G:=match q with
 |.ff=>.ff
 |.bad=>.bad
 |.c m v=>.c m v
def single(m:Nat):Bool:=Nat.beq (m &&& (m-1)) 0
def Ec(m v:Nat):Option Nat:=match Nat.beq m 0 with
 |true=>none
 |false=>match single m with
  |true=>some (m ^^^ v)
  |false=>none
def G.join(r1 r0:G)(i:Nat)(b:Bool):G:=
 match r1 with
 |.ff=>.ff
 |.tt=>match r0 with
  |.tt=>.tt
  |.ff=>.c (2 ^ i) (n5 i b)
  |.n m v=>match(Q.c m v).with i !b with
   |.ff=>.tt
   |.c m v=>.n m v
   |.bad=>.bad
  |.c m v=>match Ec m v with
   |none=>.bad
   |some v=>match(Q.c m v).with i !b with
    |.ff=>.tt
    |.c m v=>.n m v
    |.bad=>.bad
  |.bad=>.bad
 |.c m v=>match r0 with
  |.tt=>.tt
  |.ff=>G.Qp ((Q.c m v).with i b)
  |.c m' v'=>match Nat.beq m m',Nat.beq v v' with
   |true,true=>.c m v
   |_,_=>.bad
  |_=>.bad
 |.n m v=>match r0 with
  |.tt=>.tt
  |.ff=>match Ec m v with
   |none=>.bad
   |some v=>G.Qp ((Q.c m v).with i b)
  |.n m' v'=>match Nat.beq m m',Nat.beq v v' with
   |true,true=>.n m v
   |_,_=>.bad
  |_=>.bad
 |.bad=>.bad
def Dj(t:B):List B->Int->G
 |[],c=>match decide (c<=-1) with
  |true=>.tt
  |false=>match decide (1<=c) with
   |true=>.ff
   |false=>match t with
    |.zero=>.tt
    |.one=>.ff
    |.pos i=>.c (2 ^ i) 0
    |.neg i=>.c (2 ^ i) (2 ^ i)
 |b::l,c=>match b with
  |.zero=>Dj t l ((c+1) / 2)
  |.one=>Dj t l (c / 2)
  |.pos i=>match aT ((c+1) / 2) (c / 2) with
   |true=>Dj t l (c / 2)
   |false=>G.join (Dj t l (c / 2)) (Dj t l ((c+1) / 2)) i true
  |.neg i=>match aT ((c+1) / 2) (c / 2) with
   |true=>Dj t l (c / 2)
   |false=>G.join (Dj t l (c / 2)) (Dj t l ((c+1) / 2)) i false
def jz:List (X×Bool)->Nat×Nat
 |[]=>(0,0)
 |(x,b)::pc=>match x with
  |.cube m v=>match b with
   |true=>match jz pc with
    |(M,V)=>(M |||m,(V &&& (M ^^^ (M &&& m))) |||(v &&& m))
   |false=>match single m with
    |true=>match jz pc with
     |(M,V)=>(M |||m,(V &&& (M ^^^ (M &&& m))) |||((m ^^^ v) &&& m))
    |false=>jz pc
  |_=>jz pc
def gW(M V m v:Nat):List (X×Bool)->Bool
 |[]=>false
 |(x,b)::pc=>match x with
  |.cube m' v'=>match b with
   |true=>gW M V m v pc
   |false=>match Nat.beq ((m' &&& M) &&& (v' ^^^ V)) 0 with
    |true=>match m' ^^^ (m' &&& M)with
     |r=>match Nat.beq (r &&& m) r,Nat.beq (v &&& r) (v' &&& r)with
      |true,true=>true
      |_,_=>gW M V m v pc
    |false=>gW M V m v pc
  |_=>gW M V m v pc
def F4(m v:Nat) (pc:List (X×Bool)):Option Bool:=
 match jz pc with
 |(M,V)=>match Nat.beq ((m &&& M) &&& (v ^^^ V)) 0 with
  |false=>some false
  |true=>match Nat.beq (m &&& M) m with
   |true=>some true
   |false=>match gW M V m v pc with
    |true=>some false
    |false=>none
def iL(M V:Nat)(b:B):B:=
 match b with
 |.pos i=>match Nat.testBit M i with
  |true=>match Nat.testBit V i with
   |true=>.one
   |false=>.zero
  |false=>.pos i
 |.neg i=>match Nat.testBit M i with
  |true=>match Nat.testBit V i with
   |true=>.zero
   |false=>.one
  |false=>.neg i
 |b=>b
def MF(M V:Nat):List B->List B
 |[]=>[]
 |b::l=>iL M V b::MF M V l
def Ba(x:X):List (X×Bool)->Option Bool
 |[]=>none
 |(y,b)::pc=>match y.beq x with
  |true=>some b
  |false=>Ba x pc
def MI (pc:List (X×Bool)) (x:X):X:=
 match x with
 |.bv l t=>match jz pc with
  |(M,V)=>match Nat.beq M 0 with
   |true=>.bv l t
   |false=>BS (MF M V l) (iL M V t)
 |.ite (.eq (.fn1 f a) (.lit n)) x y=>match Ba (.eq (.fn1 f a) (.lit n)) pc with
  |some true=>x
  |some false=>y
  |none=>.ite (.eq (.fn1 f a) (.lit n)) x y
 |x=>x
noncomputable section
abbrev PC:=List (X×Bool)
structure St where
 h:H
 n:Nat
 pc:PC
inductive R (α:Type) where
 |ok (a:α)
 |br (c:X) (t f:R α)
 |stuck (s:String)
def R.ag{α:Type}(ρ:Env):R α->Option α
 |.ok a=>some a
 |.br c t f=>if c.tt ρ then t.ag ρ else f.ag ρ
 |.stuck _=>none
noncomputable def R.bind{α β:Type}(r:R α)(k:α->R β):R β:=
 R.rec (motive:=fun _=>R β) (fun a=>k a) (fun c _ _ it jf=>.br c it jf) (fun s=>.stuck s) r
def m5:IntKind->Int
 |.i8=>-128
 |.i16=>-32768
 |.i32=>-2147483648
 |.i64=>-9223372036854775808
 |_=>0
def nF:IntKind->Int
 |.i8=>127
 |.i16=>32767
 |.i32=>2147483647
 |.i64=>9223372036854775807
 |.u8=>255
 |.u16=>65535
 |.u32=>4294967295
 |.u64=>18446744073709551615
def zx(a b:Int):Int:=match decide (a<=b) with
 |true=>a
 |false=>b
def imax(a b:Int):Int:=match decide (a<=b) with
 |true=>b
 |false=>a
structure Rg where
 lo:Int
 hi:Int
def Rg.abs(r:Rg):Int:=imax r.hi (-r.lo)
def Q5(a b:Rg):Rg:=match decide (0<=a.lo),decide (0<=b.lo) with
 |true,true=>⟨a.lo*b.lo,a.hi*b.hi⟩
 |_,_=>match a.abs*b.abs with
  |m=>⟨-m,m⟩
def Mp(a:Rg)(m:Option Int):Rg:=match m with
 |some m=>match decide (0<=a.lo),decide (0<m) with
  |true,true=>⟨0,a.hi / m⟩
  |_,_=>⟨-a.abs,a.abs⟩
 |none=>⟨-a.abs,a.abs⟩
def Mq(a:Rg)(m:Option Int):Rg:=match m with
 |some m=>match decide (0<m) with
  |true=>match decide (0<=a.lo) with
   |true=>⟨0,zx a.hi (m-1)⟩
   |false=>⟨-(m-1),m-1⟩
  |false=>⟨-a.abs,a.abs⟩
 |none=>match decide (0<=a.lo) with
  |true=>⟨0,a.hi⟩
  |false=>⟨-a.abs,a.abs⟩
def m6(x:X):Option Int:=X.rec (motive:=fun _=>Option Int) (fun n=>some n) (fun _=>none) (fun _ _ _ _=>none) (fun _ _ _ _=>none) (fun _ _ _ _=>none) (fun _ _ _ _=>none) (fun _ _ _ _=>none) (fun _ _ _=>none) (fun _ _ _ _ _ _=>none) (fun _ _ _ _ _=>none) (fun _ _ _ _ _=>none) (fun _ _ _ _=>none) (fun _ _ _ _=>none) (fun _ _ _ _=>none) (fun _ _=>none) (fun _ _ _ _ _ _=>none) (fun _ _ _=>none) (fun _ _ _ _ _=>none) (fun _=>none) (fun _=>none) (fun _ _ _ _=>none) (fun _ _ _=>none) (fun _ _=>none) (fun _ _ _ _=>none) (fun _ _=>none) (fun _ _=>none) (fun _ _ _ _ _=>none) x
theorem VT(n:Int):m6 (.lit n)=some n:=rfl
def Ja(f:Rg->Rg->Rg)(a b:Option Rg):Option Rg:=match a with
 |none=>none
 |some a=>match b with
  |none=>none
  |some b=>some (f a b)
def kg:X->Option Rg
 |.lit n=>some ⟨n,n⟩
 |.wrap k _=>some ⟨m5 k,nF k⟩
 |.bits _ k _ _=>some ⟨m5 k,nF k⟩
 |.shl k _ _=>some ⟨m5 k,nF k⟩
 |.bv l t=>match t with
  |.zero=>some ⟨0,Int.ofNat (2 ^ l.length)-1⟩
  |_=>some ⟨-Int.ofNat (2 ^ l.length),Int.ofNat (2 ^ l.length)-1⟩
 |.eq _ _=>some ⟨0,1⟩
 |.lt _ _=>some ⟨0,1⟩
 |.le _ _=>some ⟨0,1⟩
 |.not _=>some ⟨0,1⟩
 |.seq _ _=>some ⟨0,1⟩
 |.cube _ _=>some ⟨0,1⟩
 |.ite _ a b=>Ja (fun a b=>⟨zx a.lo b.lo,imax a.hi b.hi⟩) (kg a) (kg b)
 |.add a b=>Ja (fun a b=>⟨a.lo+b.lo,a.hi+b.hi⟩) (kg a) (kg b)
 |.sub a b=>Ja (fun a b=>⟨a.lo-b.hi,a.hi-b.lo⟩) (kg a) (kg b)
 |.mul a b=>Ja Q5 (kg a) (kg b)
 |.quo a b=>match kg a with
  |some r=>some (Mp r (m6 b))
  |none=>none
 |.rem a b=>match kg a with
  |some r=>some (Mq r (m6 b))
  |none=>none
 |.shr _ a _=>match kg a with
  |some r=>some ⟨zx r.lo 0,imax r.hi 0⟩
  |none=>none
 |_=>none
def wD(x:X):Option Rg:=X.rec (motive:=fun _=>Option Rg) (fun n=>some ⟨n,n⟩) (fun _=>none) (fun _ _ ia ib=>Ja (fun a b=>⟨a.lo+b.lo,a.hi+b.hi⟩) ia ib) (fun _ _ ia ib=>Ja (fun a b=>⟨a.lo-b.hi,a.hi-b.lo⟩) ia ib) (fun _ _ ia ib=>Ja Q5 ia ib)
 (fun _ b ia _=>match ia with
  |some r=>some (Mp r (m6 b))
  |none=>none)
 (fun _ b ia _=>match ia with
  |some r=>some (Mq r (m6 b))
  |none=>none)
 (fun k _ _=>some ⟨m5 k,nF k⟩) (fun _ k _ _ _ _=>some ⟨m5 k,nF k⟩) (fun k _ _ _ _=>some ⟨m5 k,nF k⟩)
 (fun _ _ _ ia _=>match ia with
  |some r=>some ⟨zx r.lo 0,imax r.hi 0⟩
  |none=>none)
 (fun _ _ _ _=>some ⟨0,1⟩) (fun _ _ _ _=>some ⟨0,1⟩) (fun _ _ _ _=>some ⟨0,1⟩) (fun _ _=>some ⟨0,1⟩) (fun _ _ _ _ ia ib=>Ja (fun a b=>⟨zx a.lo b.lo,imax a.hi b.hi⟩) ia ib)
 (fun _ _ _=>none) (fun _ _ _ _ _=>none) (fun _=>none) (fun _=>none) (fun _ _ _ _=>none) (fun _ _ _=>none) (fun _ _=>none) (fun _ _ _ _=>some ⟨0,1⟩)
 (fun l t=>match t with
  |.zero=>some ⟨0,Int.ofNat (2 ^ l.length)-1⟩
  |_=>some ⟨-Int.ofNat (2 ^ l.length),Int.ofNat (2 ^ l.length)-1⟩)
 (fun _ _=>some ⟨0,1⟩) (fun _ _ _ _ _=>none) x
theorem anO(x:X):wD x=kg x:=by
 induction x with
 |add a b ia ib=>show Ja _ (wD a) (wD b)=_;rw[ia,ib];rfl
 |sub a b ia ib=>show Ja _ (wD a) (wD b)=_;rw[ia,ib];rfl
 |mul a b ia ib=>show Ja _ (wD a) (wD b)=_;rw[ia,ib];rfl
 |ite c a b _ ia ib=>show Ja _ (wD a) (wD b)=_;rw[ia,ib];rfl
 |quo a b ia _=>show(match wD a with|some r=>some (Mp r (m6 b))|none=>none)=_;rw[ia];rfl
 |rem a b ia _=>show(match wD a with|some r=>some (Mq r (m6 b))|none=>none)=_;rw[ia];rfl
 |shr k a b ia _=>show(match wD a with|some r=>some (Rg.mk (zx r.lo 0) (imax r.hi 0))|none=>none)=_;rw[ia];rfl
 |_=>rfl
def inK(k:IntKind)(x:X):Bool:=match wD x with
 |some r=>match decide (m5 k<=r.lo) with
  |true=>decide (r.hi<=nF k)
  |false=>false
 |none=>false
def B6(x:X):Bool:=match wD x with
 |some r=>decide (0<=r.lo)
 |none=>false
def z6(k:IntKind)(a:X):X:=match a with
 |.mul (.wrap j (.mul x (.lit m))) (.lit n)=>match bE j k with
  |true=>.wrap k (.mul x (.lit (m*n)))
  |false=>.wrap k a
 |a=>.wrap k a
def ie(k:IntKind)(a:X):X:=match inK k a with
 |true=>a
 |false=>z6 k a
def mkWrap(k:IntKind):X->X
 |.lit n=>.lit (k.wrap n)
 |.bv l t=>BT k l t
 |a=>ie k a
def sr{α:Type}(a b:X)(k:List B->B->List B->B->α)(d:α):α:=
 match ao9 a,ao9 b with
 |false,false=>d
 |_,_=>match toB a with
  |none=>d
  |some (l,t)=>match toB b with
   |none=>d
   |some (m,u)=>k l t m u
def Ck(k:IntKind)(d:X):Option (List B×B)->X
 |some (r,s)=>BT k r s
 |none=>d
def I9:X->Bool
 |.lit n=>aT n 0
 |_=>false
def Um(k:IntKind)(a b:X):X:=match I9 b with
 |true=>ie k a
 |false=>match I9 a with
  |true=>ie k b
  |false=>ie k (.add a b)
def GS(k:IntKind)(a b:X):X:=
 match a,b with
 |.lit m,.lit n=>.lit (k.wrap (m+n))
 |a,b=>sr a b (fun l t m u=>Ck k (Um k a b) (FF l t m u false)) (Um k a b)
def mkAdd(k:IntKind)(a b:X):X:=match m6 a with
 |some m=>match m6 b with
  |some n=>.lit (k.wrap (m+n))
  |none=>GS k a b
 |none=>GS k a b
def mkSub(k:IntKind)(a b:X):X:=
 match a,b with
 |.lit m,.lit n=>.lit (k.wrap (m-n))
 |a,.lit n=>sr a (.lit (-n)) (fun l t m u=>Ck k (ie k (.sub a (.lit n))) (FF l t m u false)) (ie k (.sub a (.lit n)))
 |a,b=>sr a b (fun l t m u=>Ck k (ie k (.sub a b)) (qP B.sub l t m u)) (ie k (.sub a b))
def Qj(k:IntKind)(l:List B)(t:B)(n:Int)(d:X):X:=
 match n with
 |.ofNat n=>match SM n with
  |some s=>BT k (yD s l) t
  |none=>d
 |_=>d
def mkMul(k:IntKind)(a b:X):X:=
 match a,b with
 |.lit m,.lit n=>.lit (k.wrap (m*n))
 |.bv l t,.lit n=>Qj k l t n (ie k (.mul (.bv l t) (.lit n)))
 |.lit n,.bv l t=>Qj k l t n (ie k (.mul (.lit n) (.bv l t)))
 |a,b=>ie k (.mul a b)
def WZ(k:IntKind)(l:List B)(t:B)(n:Int)(d:X):X:=
 match t,n with
 |.zero,.ofNat n=>match SM n with
  |some s=>BT k (AQ s l) .zero
  |none=>d
 |_,_=>d
def Wh(a:X)(n:Int):X:=match a with
 |.quo x (.lit (.ofNat m))=>match aT n 256,B6 x with
  |true,true=>.quo x (.lit (.ofNat (m*256)))
  |_,_=>.quo (.quo x (.lit (.ofNat m))) (.lit n)
 |a=>.quo a (.lit n)
def Qg(k:IntKind)(a b:X):X:=
 match a,b with
 |.lit m,.lit n=>.lit (k.wrap (m.tdiv n))
 |.bv l t,.lit n=>WZ k l t n (ie k (.quo (.bv l t) (.lit n)))
 |a,.lit n=>ie k (Wh a n)
 |a,b=>ie k (.quo a b)
def W8(l:List B)(t:B)(n:Int)(d:X):X:=
 match n with
 |.ofNat n=>match t with
  |.zero=>match SM n with
   |some s=>BS (yJ s l .zero) .zero
   |none=>d
  |.one=>match Nat.beq n 2 with
   |true=>match l with
    |b::_=>BS [] b
    |[]=>d
   |false=>d
  |_=>d
 |_=>d
def kOf(n:Int):Option IntKind:=match aT n 4294967296 with
 |true=>some .u32
 |false=>match aT n 65536 with
  |true=>some .u16
  |false=>match aT n 256 with
   |true=>some .u8
   |false=>none
def CC(a:X)(n:Int):X:=match wD a with
 |none=>.rem a (.lit n)
 |some r=>match decide (0<=r.lo) with
  |false=>.rem a (.lit n)
  |true=>match decide (r.hi<n) with
   |true=>a
   |false=>match kOf n with
    |some k=>z6 k a
    |none=>.rem a (.lit n)
def yZ(a b:X):X:=
 match a,b with
 |.lit m,.lit n=>.lit (m.tmod n)
 |.bv l t,.lit n=>W8 l t n (.rem (.bv l t) (.lit n))
 |a,.lit n=>match aT n 1 with
  |true=>.lit 0
  |false=>CC a n
 |a,b=>.rem a b
def GQ(o:Nat)(k:IntKind)(a:X)(m:Int)(d:X):X:=
 match m with
 |.ofNat m=>match B6 a,inK k a with
  |true,true=>match SM (m+1)with
   |some j=>match Nat.blt j k.bits with
    |true=>match o with
     |0=>CC a (Int.ofNat (2 ^ j))
     |3=>ie k (.sub a (CC a (Int.ofNat (2 ^ j))))
     |_=>d
    |false=>d
   |none=>d
  |_,_=>d
 |_=>d
def Py(o:Nat)(k:IntKind)(a b:X):X:=match b with
 |.lit m=>GQ o k a m (.bits o k a (.lit m))
 |b=>.bits o k a b
def oy(o:Nat)(k:IntKind)(a b:X):X:=
 match a,b with
 |.lit m,.lit n=>.lit (gU o k m n)
 |a,b=>sr a b (fun l t m u=>Ck k (Py o k a b) (qP (B.op o) l t m u)) (Py o k a b)
def KE(k:IntKind)(a b:X):X:=
 match a,b with
 |.lit m,.lit n=>.lit (OX k m n)
 |.bv l t,.lit n=>BT k (yD (min n.toNat k.bits) l) t
 |a,.lit n=>ie k (.mul a (.lit (Int.ofNat (2 ^ (min n.toNat k.bits)))))
 |a,b=>.shl k a b
def uh(k:IntKind)(a b:X):X:=
 match a,b with
 |.lit m,.lit n=>.lit (yr k m n)
 |.bv l t,.lit n=>BS (AQ (min n.toNat k.bits) l) t
 |a,.lit n=>match B6 a with
  |true=>match Nat.beq (min n.toNat k.bits) 0 with
   |true=>a
   |false=>Wh a (Int.ofNat (2 ^ (min n.toNat k.bits)))
  |false=>.shr k a (.lit n)
 |a,b=>.shr k a b
def isLit:X->Bool
 |.lit _=>true
 |_=>false
def Qp(d:X):Q->X
 |.ff=>.lit 0
 |.c m v=>match Nat.beq m 0 with
  |true=>.lit 1
  |false=>.cube m v
 |.bad=>d
def apart(a b:X):Bool:=match wD a with
 |none=>false
 |some r=>match wD b with
  |none=>false
  |some s=>match decide (r.hi<s.lo) with
   |true=>true
   |false=>decide (s.hi<r.lo)
def O8(k:IntKind)(a:X)(m:Int)(d:X):X:=match wD a with
 |none=>d
 |some r=>match decide (r.hi-r.lo<Int.ofNat (2 ^ k.bits)),decide (m5 k<=m),decide (m<=nF k) with
  |true,true,true=>match r.lo+(m-r.lo) % Int.ofNat (2 ^ k.bits) with
   |n=>match decide (n<=r.hi) with
    |true=>.eq a (.lit n)
    |false=>.lit 0
  |_,_,_=>d
def AV(a:X)(m:Int):X:=match apart a (.lit m)with
 |true=>.lit 0
 |false=>match a with
  |.wrap k x=>O8 k x m (.eq (.wrap k x) (.lit m))
  |.ite c (.lit p) (.lit q)=>match aT p m,aT q m with
   |true,true=>.lit 1
   |true,false=>.ite c (.lit 1) (.lit 0)
   |false,true=>.ite c (.lit 0) (.lit 1)
   |false,false=>.lit 0
  |a=>.eq a (.lit m)
def eqD(a b:X):X:=match b with
 |.lit m=>AV a m
 |b=>match apart a b with
  |true=>.lit 0
  |false=>.eq a b
def Qd(a b:X):X:=
 match a,b with
 |.lit m,.lit n=>.lit (bp (aT m n))
 |.lit m,b=>sr (.lit m) b (fun l t m' u=>Qp (AV b m) (Nv l t m' u (.c 0 0))) (AV b m)
 |a,b=>sr a b (fun l t m u=>Qp (eqD a b) (Nv l t m u (.c 0 0))) (match a.beq b with
  |true=>.lit 1
  |false=>eqD a b)
def mkEq(a b:X):X:=match m6 a with
 |some m=>match m6 b with
  |some n=>.lit (bp (aT m n))
  |none=>Qd a b
 |none=>Qd a b
def ofG(d:X):G->X
 |.tt=>.lit 1
 |.ff=>.lit 0
 |.c m v=>.cube m v
 |.n m v=>.not (.cube m v)
 |.bad=>d
def Ot(d:X):G->X
 |.tt=>.lit 0
 |.ff=>.lit 1
 |.c m v=>.not (.cube m v)
 |.n m v=>.cube m v
 |.bad=>d
def ltD(a b:X):X:=match wD a with
 |none=>.lt a b
 |some r=>match wD b with
  |none=>.lt a b
  |some s=>match decide (r.hi<s.lo) with
   |true=>.lit 1
   |false=>match decide (s.hi<=r.lo) with
    |true=>.lit 0
    |false=>.lt a b
def leD(a b:X):X:=match wD a with
 |none=>.not (.lt b a)
 |some r=>match wD b with
  |none=>.not (.lt b a)
  |some s=>match decide (r.hi<=s.lo) with
   |true=>.lit 1
   |false=>match decide (s.hi<r.lo) with
    |true=>.lit 0
    |false=>.not (.lt b a)
def Qf(a b:X):X:=
 match a,b with
 |.lit m,.lit n=>.lit (bp (decide (m<n)))
 |.bv l t,.lit n=>Ot (.lt (.bv l t) (.lit n)) (Dj t l n)
 |.lit n,.bv l t=>ofG (.lt (.lit n) (.bv l t)) (Dj t l (n+1))
 |a,b=>ltD a b
def mkLt(a b:X):X:=match m6 a with
 |some m=>match m6 b with
  |some n=>.lit (bp (decide (m<n)))
  |none=>Qf a b
 |none=>Qf a b
def Qe(a b:X):X:=
 match a,b with
 |.lit m,.lit n=>.lit (bp (decide (m<=n)))
 |.bv l t,.lit n=>Ot (.le (.bv l t) (.lit n)) (Dj t l (n+1))
 |.lit n,.bv l t=>ofG (.le (.lit n) (.bv l t)) (Dj t l n)
 |a,b=>leD a b
def mkLe(a b:X):X:=match m6 a with
 |some m=>match m6 b with
  |some n=>.lit (bp (decide (m<=n)))
  |none=>Qe a b
 |none=>Qe a b
def mkNot:X->X
 |.lit n=>.lit (bp (aT n 0))
 |a=>.not a
def Pt:X->Option (Option IntKind×X×X)
 |.add y z=>some (none,y,z)
 |.wrap k (.add y z)=>match inK k y with
  |true=>some (some k,y,z)
  |false=>none
 |_=>none
def qO(k:Option IntKind)(x:X):X:=match k with
 |none=>x
 |some k=>.wrap k x
def zZ(c a b:X):X:=match Pt b with
 |some (k,y,z)=>match y.beq a with
  |true=>qO k (.add y (.ite c (.lit 0) z))
  |false=>.ite c a b
 |none=>.ite c a b
def lL(c a b:X):X:=match Pt a with
 |some (k,y,z)=>match y.beq b with
  |true=>qO k (.add y (.ite c z (.lit 0)))
  |false=>zZ c a b
 |none=>zZ c a b
def GA(c a b:X)(m:Int)(x:X):X:=match b with
 |.sub y (.lit w)=>match aT m 2147483648,aT w 4294967296 with
  |true,true=>match x.beq a,y.beq a,inK .u32 a with
   |true,true,true=>.wrap .i32 a
   |_,_,_=>.ite c a b
  |_,_=>.ite c a b
 |_=>lL c a b
def GC(c a b:X)(q:X):X:=match a with
 |.add (.rem y (.lit v)) (.lit w)=>match aT v 4294967296,aT w 4294967296 with
  |true,true=>match b with
   |.rem z (.lit u)=>match aT u 4294967296,y.beq q,z.beq q with
    |true,true,true=>.wrap .u32 q
    |_,_,_=>lL c a b
   |_=>lL c a b
  |_,_=>lL c a b
 |_=>lL c a b
def am8(i:Nat)(vb:Bool)(x y:B):Option B:=match x.beq y with
 |true=>some x
 |false=>match iL (2 ^ i) (n5 i vb) x,iL (2 ^ i) (n5 i !vb) y with
  |x,y=>match x.beq y with
   |true=>some x
   |false=>match x,y with
    |.one,.zero=>some (match vb with|true=>.pos i|false=>.neg i)
    |.zero,.one=>some (match vb with|true=>.neg i|false=>.pos i)
    |_,_=>none
def Gz(c a b:X)(m v:Nat):X:=match Nat.beq m (2 ^ m.log2)with
 |true=>sr a b (fun l t n u=>match qP (am8 m.log2 (Nat.testBit v m.log2)) l t n u with
  |some (r,s)=>BS r s
  |none=>.ite c a b) (lL c a b)
 |false=>lL c a b
def am9(c a b:X):X:=match c with
 |.cube m v=>Gz c a b m v
 |.lt (.rem q (.lit v)) (.lit n)=>match aT v 4294967296,aT n 0 with
  |true,true=>GC c a b q
  |_,_=>lL c a b
 |.lt x (.lit m)=>GA c a b m x
 |c=>lL c a b
def mkIte(c a b:X):X:=
 match c with
 |.lit n=>if aT n 0 then b else a
 |c=>if a.beq b then a else am9 c a b
def BV(c a b:X):X:=
 match c with
 |.lit n=>if aT n 0 then b else a
 |c=>if a.beq b then a else .ite c a b
def KJ:X->Bool
 |.slit l=>match l with
  |[]=>false
  |_::_=>true
 |.sfn _ _=>true
 |.scat a b=>match KJ a with
  |true=>true
  |false=>KJ b
 |_=>false
def isNone:X->Bool
 |.slit l=>match l with
  |[]=>true
  |_::_=>false
 |_=>false
def IK(a b:X):X:=match a.beq b with
 |true=>.lit 1
 |false=>match isNone a,KJ b with
  |true,true=>.lit 0
  |_,_=>match KJ a,isNone b with
   |true,true=>.lit 0
   |_,_=>.seq a b
def mkSeq(a b:X):X:=
 match a,b with
 |.slit l,.slit m=>.lit (bp (fF (l.map (· % 256)) (m.map (· % 256))))
 |a,b=>IK a b
def F1(l:List Nat)(b:X):X:=
 match l with
 |[]=>b
 |c::l=>match b with
  |.slit m=>.slit (c::(l++m))
  |.scat (.slit m) r=>.scat (.slit (c::(l++m))) r
  |b=>.scat (.slit (c::l)) b
def ta(a b:X):X:=match isNone b with
 |true=>a
 |false=>.scat a b
def mr:X->X->X
 |.slit l,b=>F1 l b
 |.scat a c,b=>mr a (mr c b)
 |.lit n,b=>ta (.lit n) b
 |.svar i,b=>ta (.svar i) b
 |.sfn f a,b=>ta (.sfn f a) b
 |.ite c x y,b=>ta (.ite c x y) b
 |.btext t x y,b=>ta (.btext t x y) b
 |a,b=>.scat a b
def Sl:X->Option Nat
 |.slit l=>some l.length
 |.sfn _ _=>some 1000
 |.scat a b=>match Sl a,Sl b with
  |some m,some n=>some (m+n)
  |_,_=>none
 |_=>none
def BZ:X->X
 |.slit l=>.lit l.length
 |a=>.slen a
def Ko(a:X):PC->Option Int
 |[]=>none
 |(x,b)::pc=>
  let r:=Ko a pc;let with_ (n:Int):Option Int:=match r with
   |none=>some n
   |some m=>some (if decide (m<n) then n else m)
  match x,b with
  |.eq c (.lit n),true=>if c.beq a then with_ n else r
  |.lt (.lit n) c,true=>if c.beq a then with_ (n+1) else r
  |.le (.lit n) c,true=>if c.beq a then with_ n else r
  |.lt c (.lit n),false=>if c.beq a then with_ n else r
  |.le c (.lit n),false=>if c.beq a then with_ (n+1) else r
  |_,_=>r
def J7(a:X):PC->Option Int
 |[]=>none
 |(x,b)::pc=>
  let r:=J7 a pc;let with_ (n:Int):Option Int:=match r with
   |none=>some n
   |some m=>some (if decide (n<m) then n else m)
  match x,b with
  |.eq c (.lit n),true=>if c.beq a then with_ n else r
  |.lt c (.lit n),true=>if c.beq a then with_ (n-1) else r
  |.le c (.lit n),true=>if c.beq a then with_ n else r
  |.lt (.lit n) c,false=>if c.beq a then with_ n else r
  |.le (.lit n) c,false=>if c.beq a then with_ (n-1) else r
  |_,_=>r
def tk(x:X):PC->Option Bool
 |[]=>none
 |(y,b)::pc=>if y.beq x then some b else tk x pc
def mw(a b:Option Int):Bool:=
 match a,b with
 |some m,some n=>decide (m<n)
 |_,_=>false
def FW(a:X)(pc:PC):Nat->Int->Int
 |0,n=>n
 |f+1,n=>match tk (.eq a (.lit n)) pc with
  |some false=>FW a pc f (n+1)
  |_=>n
def ur(a:X)(pc:PC):Nat->Int->Int
 |0,n=>n
 |f+1,n=>match tk (.eq a (.lit n)) pc with
  |some false=>ur a pc f (n-1)
  |_=>n
def loB(a:X)(pc:PC):Option Int:=
 match Ko a pc with
 |some n=>some (FW a pc pc.length n)
 |none=>none
def hiB(a:X)(pc:PC):Option Int:=
 match J7 a pc with
 |some n=>some (ur a pc pc.length n)
 |none=>none
structure iN where
 ts:List (X×Int)
 k:Int
def Ze(x:X)(c:Int):List (X×Int)->List (X×Int)
 |[]=>[(x,c)]
 |(y,d)::l=>match y.beq x with
  |true=>match aT (d+c) 0 with
   |true=>l
   |false=>(y,d+c)::l
  |false=>(y,d)::Ze x c l
def DE(m:Int):List (X×Int)->List (X×Int)->List (X×Int)
 |[],l=>l
 |(x,c)::r,l=>DE m r (Ze x (m*c) l)
def iN.plus(m:Int)(a b:iN):iN:=match b.k+m*a.k with
 |k=>⟨DE m a.ts b.ts,k⟩
def wC:X->iN
 |.lit n=>⟨[],n⟩
 |.add a b=>(wC b).plus 1 (wC a)
 |.sub a b=>(wC b).plus (-1) (wC a)
 |.mul a b=>match b with
  |.lit n=>match aT n 0 with
   |true=>⟨[],0⟩
   |false=>(wC a).plus n ⟨[],0⟩
  |b=>match a with
   |.lit n=>match aT n 0 with
    |true=>⟨[],0⟩
    |false=>(wC b).plus n ⟨[],0⟩
   |a=>⟨[(.mul a b,1)],0⟩
 |x=>⟨[(x,1)],0⟩
def PN:X->Bool->List iN
 |.lt a b,true=>[(wC a).plus (-1) ((wC b).plus 1 ⟨[],-1⟩)]
 |.lt a b,false=>[(wC b).plus (-1) (wC a)]
 |.le a b,true=>[(wC a).plus (-1) (wC b)]
 |.le a b,false=>[(wC b).plus (-1) ((wC a).plus 1 ⟨[],-1⟩)]
 |.eq a b,true=>[(wC a).plus (-1) (wC b),(wC b).plus (-1) (wC a)]
 |_,_=>[]
def Fh(x:X):List (X×Int)->Int
 |[]=>0
 |(y,d)::l=>match y.beq x with
  |true=>d
  |false=>Fh x l
def ajh(x:X)(c:Int):Option iN:=match wD x with
 |none=>none
 |some r=>match decide (0<c) with
  |true=>some ⟨[(x,1)],-r.lo⟩
  |false=>some ⟨[(x,-1)],r.hi⟩
def J8(a:Int):Int:=match decide (0<=a) with
 |true=>a
 |false=>-a
def PE(x:X)(c:Int)(g f:iN):Option iN:=match Fh x f.ts with
 |d=>match decide (0<d*c) with
  |true=>some (f.plus (-(J8 c)) (g.plus (J8 d) ⟨[],0⟩))
  |false=>none
def nW(rest:iN->Bool)(x:X)(c:Int)(g:iN):List iN->Bool
 |[]=>match ajh x c with
  |none=>false
  |some f=>match PE x c g f with
   |none=>false
   |some g'=>rest g'
 |f::fs=>match PE x c g f with
  |none=>nW rest x c g fs
  |some g'=>match rest g' with
   |true=>true
   |false=>nW rest x c g fs
def Co:Nat->List iN->iN->Bool
 |0,_,_=>false
 |n+1,fs,g=>match g.ts with
  |[]=>decide (0<=g.k)
  |(x,c)::_=>nW (Co n fs) x c g fs
def Bb:PC->List iN
 |[]=>[]
 |(x,b)::pc=>PN x b++Bb pc
def KK(pc:PC)(g:iN):Bool:=Co 7 (Bb pc) g
def C8(pc:PC)(a b:X):Bool:=KK pc ((wC a).plus (-1) (wC b))
def ltL(pc:PC)(a b:X):Bool:=KK pc ((wC a).plus (-1) ((wC b).plus 1 ⟨[],-1⟩))
def AP(pc:PC):X->Option Bool
 |.lt a b=>match ltL pc a b with
  |true=>some true
  |false=>match C8 pc b a with
   |true=>some false
   |false=>none
 |.le a b=>match C8 pc a b with
  |true=>some true
  |false=>match ltL pc b a with
   |true=>some false
   |false=>none
 |.eq a b=>match ltL pc a b with
  |true=>some false
  |false=>match ltL pc b a with
   |true=>some false
   |false=>match C8 pc a b with
    |true=>match C8 pc b a with
     |true=>some true
     |false=>none
    |false=>none
 |_=>none
def AO(pc:PC)(x:X):Option Bool:=
 match tk x pc with
 |some b=>some b
 |none=>
  match x with
  |.cube m v=>F4 m v pc
  |.eq a (.lit n)=>
   match loB a pc,hiB a pc with
   |lo,hi=>
    if mw (some n) lo ||mw hi (some n)then some false
    else match lo,hi with
     |some l,some u=>if aT l n&&aT u n then some true else none
     |_,_=>none
  |.lt a (.lit n)=>
   match loB a pc,hiB a pc with
   |lo,hi=>if mw hi (some n)then some true else if mw (some (n-1)) lo then some false else none
  |.le a (.lit n)=>
   match loB a pc,hiB a pc with
   |lo,hi=>if mw hi (some (n+1))then some true else if mw (some n) lo then some false else none
  |.lt (.lit n) a=>
   match loB a pc,hiB a pc with
   |lo,hi=>if mw (some n) lo then some true else if mw hi (some (n+1))then some false else none
  |.le (.lit n) a=>
   match loB a pc,hiB a pc with
   |lo,hi=>if mw (some (n-1)) lo then some true else if mw hi (some n)then some false else none
  |_=>none
def CS:PC->Bool
 |[]=>false
 |(x,_)::pc=>match x with
  |.le (.lit 0) (.lit 7)=>true
  |_=>CS pc
def eU(pc:PC)(x:X):Option Bool:=match AO pc x with
 |some b=>some b
 |none=>match CS pc with
  |true=>AP pc x
  |false=>none
def dq{α:Type}(st:St):X->(St->Bool->R α)->R α
 |.lit n,k=>k st (!aT n 0)
 |.not y,k=>dq st y fun st b=>k st !b
 |.ite c a b,k=>dq st c fun st t=>match t with
  |true=>dq st a k
  |false=>dq st b k
 |x,k=>match eU st.pc x with
  |some b=>k st b
  |none=>.br x (k {st with pc:=(x,true)::st.pc} true) (k {st with pc:=(x,false)::st.pc} false)
inductive SV where
 |lit (n:Int)
 |atom
 |deep
def X.sv(x:X):SV:=X.rec (motive:=fun _=>SV) (fun n=>.lit n) (fun _=>.atom) (fun _ _ _ _=>.atom) (fun _ _ _ _=>.atom) (fun _ _ _ _=>.atom) (fun _ _ _ _=>.atom) (fun _ _ _ _=>.atom) (fun _ _ _=>.atom) (fun _ _ _ _ _ _=>.atom) (fun _ _ _ _ _=>.atom) (fun _ _ _ _ _=>.atom) (fun _ _ _ _=>.atom) (fun _ _ _ _=>.atom) (fun _ _ _ _=>.atom) (fun _ _=>.deep) (fun _ _ _ _ _ _=>.deep) (fun _ _ _=>.atom) (fun _ _ _ _ _=>.atom) (fun _=>.atom) (fun _=>.atom) (fun _ _ _ _=>.atom) (fun _ _ _=>.atom) (fun _ _=>.atom) (fun _ _ _ _=>.atom) (fun _ _=>.atom) (fun _ _=>.atom) (fun _ _ _ _ _=>.atom) x
def aoe{α:Type}(st:St)(x:X)(k:St->Bool->R α):R α:=match eU st.pc x with
 |some b=>k st b
 |none=>.br x (k {st with pc:=(x,true)::st.pc} true) (k {st with pc:=(x,false)::st.pc} false)
def split{α:Type}(st:St)(x:X)(k:St->Bool->R α):R α:=match x.sv with
 |.lit n=>k st (!aT n 0)
 |.atom=>aoe st x k
 |.deep=>dq st x k
theorem nU{α:Type}(st:St)(x:X)(k:St->Bool->R α):split st x k=dq st x k:=by cases x<;>rfl
theorem Fi{α:Type}(st:St)(n:Int)(k:St->Bool->R α):split st (.lit n) k=k st (!aT n 0):=rfl
def j0:Bool->Bool->Bool
 |true,b=>b
 |false,true=>false
 |false,false=>true
def XC.beq:XC->XC->Bool
 |.known a,.known b=>a.beq b
 |.room a,.room b=>a.beq b
 |_,_=>false
mutual
def V.beq:V->V->Bool
 |.int k x,.int j y=>bE k j&&x.beq y
 |.bool x,.bool y=>x.beq y
 |.str x,.str y=>x.beq y
 |.ptr b o,.ptr c p=>Nat.beq b c&&Nat.beq o p
 |.nilptr,.nilptr=>true
 |.slice b o n c,.slice b' o' n' c'=>Nat.beq b b'&&Nat.beq o o'&&Nat.beq n n'&&(match c,c' with
  |.known x,.known y=>Nat.beq x y
  |.room x y z,.room x' y' z'=>Nat.beq x x'&&Nat.beq y y'&&Nat.beq z z'
  |_,_=>false)
 |.nilslice,.nilslice=>true
 |.map b,.map c=>Nat.beq b c
 |.nilmap,.nilmap=>true
 |.func (.func f) a b,.func (.func g) c d=>Nat.beq f g&&V.cM a c&&V.cM b d
 |.yield b,.yield c=>Nat.beq b c
 |.nilfunc,.nilfunc=>true
 |.iface t v,.iface u w=>Nat.beq t u&&v.beq w
 |.niliface,.niliface=>true
 |.agg l,.agg m=>V.cM l m
 |.tuple l,.tuple m=>V.cM l m
 |.wptr b o,.wptr c p=>Nat.beq b c&&Nat.beq o p
 |.wslice b o n c,.wslice b' o' n' c'=>Nat.beq b b'&&Nat.beq o o'&&n.beq n'&&c.beq c'
 |.ite c a b,.ite d e f=>c.beq d&&a.beq e&&b.beq f
 |.sptr b o n i,.sptr c p m j=>Nat.beq b c&&Nat.beq o p&&Nat.beq n m&&i.beq j
 |.xslice w b off es n c,.xslice w' b' off' es' n' c'=>j0 w w'&&Nat.beq b b'&&off.beq off'&&Nat.beq es es'&&n.beq n'&&c.beq c'
 |.xptr w b i es c,.xptr w' b' i' es' c'=>j0 w w'&&Nat.beq b b'&&i.beq i'&&Nat.beq es es'&&Nat.beq c c'
 |.any i,.any j=>Nat.beq i j
 |_,_=>false
def V.cM:List V->List V->Bool
 |[],[]=>true
 |v::l,w::m=>v.beq w&&V.cM l m
 |_,_=>false
end
def V.isIte:V->Bool
 |.ite _ _ _=>true
 |.any _=>true
 |_=>false
def Er(c:X)(a b:V):V:=match a.beq b with
 |true=>a
 |false=>.ite c a b
mutual
def cm(c:X)(a:V)(b:V):V:=match a with
 |.int k x=>match b with
  |.int j y=>match bE k j with
   |true=>.int k (mkIte c x y)
   |false=>.ite c (.int k x) (.int j y)
  |b=>.ite c (.int k x) b
 |.bool x=>match b with
  |.bool y=>.bool (mkIte c x y)
  |b=>.ite c (.bool x) b
 |.str x=>match b with
  |.str y=>.str (BV c x y)
  |b=>.ite c (.str x) b
 |.agg l=>match b with
  |.agg m=>match dP c l m with
   |some r=>.agg r
   |none=>.ite c (.agg l) (.agg m)
  |b=>.ite c (.agg l) b
 |.tuple l=>match b with
  |.tuple m=>match dP c l m with
   |some r=>.tuple r
   |none=>.ite c (.tuple l) (.tuple m)
  |b=>.ite c (.tuple l) b
 |.iface t v=>Er c (.iface t v) b
 |.func f x y=>Er c (.func f x y) b
 |.ite d x y=>Er c (.ite d x y) b
 |a=>Er c a b
def dP(c:X)(l:List V)(m:List V):Option (List V):=match l with
 |[]=>match m with
  |[]=>some []
  |_::_=>none
 |a::l=>match m with
  |[]=>none
  |b::m=>match dP c l m with
   |some r=>some (cm c a b::r)
   |none=>none
end
def eB{α:Type}:Nat->St->V->(St->V->R α)->R α
 |0,st,v,k=>k st v
 |n+1,st,v,k=>match v with
  |.ite c a b=>split st c fun st t=>match t with
   |true=>eB n st a k
   |false=>eB n st b k
  |v=>k st v
def Fa(i:X):Nat->List V->Option V
 |_,[]=>none
 |j,v::l=>match l with
  |[]=>some v
  |_=>match Fa i (j+1) l with
   |some r=>some (cm (mkEq i (.lit (Int.ofNat j))) v r)
   |none=>none
def abC(k:IntKind)(f:Nat):Nat->List V->Bool
 |_,[]=>true
 |j,v::l=>match v with
  |.int k' (.wrap k2 (.fn1 g (.lit n)))=>match bE k' k,bE k2 k with
   |true,true=>match Nat.beq g f,aT n (Int.ofNat j)with
    |true,true=>abC k f (j+1) l
    |_,_=>false
   |_,_=>false
  |_=>false
def Tf(i:X)(l:List V):Option V:=match l with
 |.int k (.wrap _ (.fn1 f (.lit _)))::_=>match abC k f 0 l with
  |true=>some (.int k (.wrap k (.fn1 f i)))
  |false=>Fa i 0 l
 |l=>Fa i 0 l
def kj(i:X)(v:V):Nat->List V->List V
 |_,[]=>[]
 |j,u::l=>cm (mkEq i (.lit (Int.ofNat j))) v u::kj i v (j+1) l
mutual
def ofValue:Value->Option V
 |.bool b=>some (.bool (.lit (bp b)))
 |.int k n=>some (.int k (.lit n))
 |.string s=>some (.str (.slit (s.data.toList.map UInt8.toNat)))
 |.pointer none=>some .nilptr
 |.slice none 0 0=>some .nilslice
 |.map none=>some .nilmap
 |.func f ⟨[]⟩ ⟨[]⟩=>match f with
  |.yield _=>none
  |f=>some (.func f [] [])
 |.nilFunc=>some .nilfunc
 |.iface t v=>(ofValue v).map (.iface t)
 |.nilIface=>some .niliface
 |.agg ⟨l⟩=>(ofValues l).map .agg
 |.tuple ⟨l⟩=>(ofValues l).map .tuple
 |_=>none
def ofValues:List Value->Option (List V)
 |[]=>some []
 |v::l=>match ofValue v,ofValues l with
  |some a,some b=>some (a::b)
  |_,_=>none
end
def V.cells:V->List V
 |.agg l=>l
 |v=>[v]
inductive Ex where
 |normal
 |exit (id:Nat)
 |ret
 |panic (v:V)
 |die (v:V)
structure Fr where
 tm:List V
 df:List cz
abbrev ec:=R (Ex×Fr×St)
structure TD where
 d:TypeDesc
 size:Nat
 bytes:Nat
 zero:List V
 agg:Bool
 flat:Bool
structure Cx where
 tt:T TD
 ft:T Func
 sm:FuncId->Option (List V->St->R (V×St))
 ng:Nat
 dm:FuncId->Option (List V->St->Option V->R (Option V×St)):=fun _=>none
 mg:Bool:=false
 js:Bool:=false
 sx:Bool:=false
 lp:Option (Option Nat->Code->Fr->St->Option ec):=none
 so:FuncId->List V->St->Bool:=fun _ _ _=>true
def dM(cx:Cx)(tm:List V):Operand->Option V
 |.tmp t=>match nth tm t with
  |some v=>match v.isIte with
   |true=>none
   |false=>some v
  |none=>some .undef
 |.const v=>ofValue v
 |.global g=>if Nat.blt g cx.ng then some (.ptr g 0)else none
 |.func f=>some (.func (.func f) [] [])
def pP(cx:Cx)(tm:List V)(o:Operand):Option V:=match dM cx tm o with
 |some v=>some v
 |none=>match o with
  |.tmp t=>match nth tm t with
   |some v=>match v with
    |.any k=>some (.any k)
    |_=>none
   |none=>none
  |_=>none
def newObj(st:St)(o:ak):St:={st with h:=st.h.set st.n o,n:=st.n+1}
def rowAt(h:H)(b:Nat):Option (List V):=
 match h.get b with
 |some (.cells c _ _)=>some c
 |some (.ro _ c)=>some c
 |_=>none
def cN(h:H)(b off n:Nat):Option (List V):=
 match rowAt h b with
 |some c=>takeN n (gx c off)
 |none=>none
def V.one:V->Bool
 |.any _=>false
 |.agg _=>false
 |.tuple _=>false
 |.ite _ a b=>a.one&&b.one
 |_=>true
def sY:List V->Bool
 |[]=>true
 |v::l=>match v.one with
  |true=>sY l
  |false=>false
def putAt(h:H)(b off:Nat)(vs:List V):Option H:=
 match h.get b with
 |some (.cells c e w)=>match sY vs,Cr c off vs with
  |true,some c=>some (h.set b (.cells c e w))
  |_,_=>none
 |_=>none
def pd(tt:T TD)(t:TypeId)(cs:List V)(off:Nat):Option V:=
 match tt.get t with
 |some d=>if d.agg then(match takeN d.size (gx cs off)with|some l=>some (.agg l)|none=>none)else nth cs off
 |none=>none
def mkAnd(a b:X):X:=mkIte a b (.lit 0)
def eqFields(eq:TypeId->V->V->Option X)(tt:T TD)(xs ys:List V):List Field->Option X
 |[]=>some (.lit 1)
 |f::fs=>
  match pd tt f.type xs f.offset,pd tt f.type ys f.offset with
  |some a,some b=>
   match eq f.type a b,eqFields eq tt xs ys fs with
   |some e,some r=>some (mkAnd e r)
   |_,_=>none
  |_,_=>none
def ux(eq:V->V->Option X)(tt:T TD)(elem:TypeId)(n:Nat)(xs ys:List V):Nat->Nat->Option X
 |_,0=>some (.lit 1)
 |i,m+1=>
  match pd tt elem xs (i*n),pd tt elem ys (i*n)with
  |some a,some b=>
   match eq a b,ux eq tt elem n xs ys (i+1) m with
   |some e,some r=>some (mkAnd e r)
   |_,_=>none
  |_,_=>none
def mkIff(a b:X):X:=
 match a,b with
 |.lit m,.lit n=>.lit (bp (aT m 0==aT n 0))
 |.lit m,b=>if aT m 0 then mkNot b else b
 |a,.lit m=>if aT m 0 then mkNot a else a
 |a,b=>if a.beq b then .lit 1 else .eq (mkNot a) (mkNot b)
def F9(tt:T TD):Nat->TypeId->V->V->Option X
 |0,_,_,_=>none
 |d+1,t,x,y=>
  match tt.get t with
  |none=>none
  |some td=>
   match td.d,x,y with
   |.bool,.bool a,.bool b=>some (mkIff a b)
   |.int _,.int k a,.int k' b=>if bE k k' then some (mkEq a b)else none
   |.string,.str a,.str b=>some (mkSeq a b)
   |.pointer _,.nilptr,.nilptr=>some (.lit 1)
   |.pointer _,.nilptr,.ptr _ _=>some (.lit 0)
   |.pointer _,.ptr _ _,.nilptr=>some (.lit 0)
   |.interface _,.niliface,.iface _ _=>some (.lit 0)
   |.interface _,.iface _ _,.niliface=>some (.lit 0)
   |.struct fields,.agg xs,.agg ys=>if td.flat then eqFields (F9 tt d) tt xs ys fields.toList else none
   |.array len elem,.agg xs,.agg ys=>
    if td.flat then
     match tt.get elem with
     |some e=>ux (F9 tt d elem) tt elem e.size xs ys 0 len
     |none=>none
    else none
   |.slice _,.nilslice,.nilslice=>some (.lit 1)
   |.slice _,.nilslice,.slice _ _ _ _=>some (.lit 0)
   |.slice _,.slice _ _ _ _,.nilslice=>some (.lit 0)
   |.slice _,.nilslice,.wslice _ _ _ _=>some (.lit 0)
   |.slice _,.wslice _ _ _ _,.nilslice=>some (.lit 0)
   |.slice _,.nilslice,.xslice _ _ _ _ _ _=>some (.lit 0)
   |.slice _,.xslice _ _ _ _ _ _,.nilslice=>some (.lit 0)
   |.map _ _,.nilmap,.nilmap=>some (.lit 1)
   |.map _ _,.nilmap,.map _=>some (.lit 0)
   |.map _ _,.map _,.nilmap=>some (.lit 0)
   |.func _ _ _,.nilfunc,.nilfunc=>some (.lit 1)
   |.func _ _ _,.nilfunc,.func _ _ _=>some (.lit 0)
   |.func _ _ _,.func _ _ _,.nilfunc=>some (.lit 0)
   |.func _ _ _,.nilfunc,.yield _=>some (.lit 0)
   |.func _ _ _,.yield _,.nilfunc=>some (.lit 0)
   |_,_,_=>none
inductive OR where
 |val (v:V)
 |skip
 |enter (f:FuncId) (args:List V)
 |round (l:Nat) (args:List V)
 |panic (v:V)
 |defer (d:cz)
abbrev cJ:=R (OR×St)
def bA(st:St)(v:V):cJ:=.ok (.val v,st)
def gA(st:St)(v:Option V)(s:String):cJ:=
 match v with
 |some v=>.ok (.val v,st)
 |none=>.stuck s
def pJ(pc:PC)(x:X):X:=match x with
 |.wrap k e=>match CS pc with
  |true=>match C8 pc (.lit (m5 k)) e,C8 pc e (.lit (nF k))with
   |true,true=>e
   |_,_=>.wrap k e
  |false=>.wrap k e
 |x=>x
def BI:PC->X->X
 |[],x=>x
 |(y,b)::l,x=>match y,b with
  |.eq z (.lit n),true=>match z.beq x with
   |true=>.lit n
   |false=>BI l x
  |_,_=>BI l x
def FQ(st:St)(op:BinOp)(k:IntKind)(a b:X):cJ:=
 match op with
 |.add=>bA st (.int k (pJ st.pc (mkAdd k a b)))
 |.sub=>bA st (.int k (pJ st.pc (mkSub k a b)))
 |.mul=>bA st (.int k (pJ st.pc (mkMul k a b)))
 |.quo=>split st (mkEq b (.lit 0)) fun st z=>match z with
  |true=>.stuck "division by zero"
  |false=>bA st (.int k (BI st.pc (Qg k a b)))
 |.rem=>split st (mkEq b (.lit 0)) fun st z=>match z with
  |true=>.stuck "division by zero"
  |false=>bA st (.int k (yZ a b))
 |.and=>bA st (.int k (oy 0 k a b))
 |.or=>bA st (.int k (oy 1 k a b))
 |.xor=>bA st (.int k (oy 2 k a b))
 |.andNot=>bA st (.int k (oy 3 k a b))
 |.eql=>bA st (.bool (mkEq a b))
 |.neq=>bA st (.bool (mkNot (mkEq a b)))
 |.lss=>bA st (.bool (mkLt a b))
 |.leq=>bA st (.bool (mkLe a b))
 |.gtr=>bA st (.bool (mkLt b a))
 |.geq=>bA st (.bool (mkLe b a))
 |_=>.stuck "binop"
def UF(st:St)(op:BinOp)(k:IntKind)(a b:X):cJ:=FQ st op k (MI st.pc a) (MI st.pc b)
def CO(st:St)(op:BinOp)(k:IntKind)(a b:X):cJ:=
 split st (mkLt b (.lit 0)) fun st neg=>match neg with
  |true=>.stuck "negative shift"
  |false=>match op with
   |.shl=>bA st (.int k (KE k a b))
   |.shr=>bA st (.int k (uh k a b))
   |_=>.stuck "shift"
def z4:X:=.lit 1000000000
def IL(a:X):X:=match Sl a with
 |some n=>match Nat.ble n 1000000000 with
  |true=>.lit 1
  |false=>mkLe (BZ a) z4
 |none=>mkLe (BZ a) z4
def Nk(st:St)(op:BinOp)(a b:X):cJ:=
 match op with
 |.add=>split st (IL a) fun st ok=>match ok with
  |false=>.stuck "long strings"
  |true=>split st (IL b) fun st ok=>match ok with
   |false=>.stuck "long strings"
   |true=>bA st (.str (mr a b))
 |.eql=>bA st (.bool (mkSeq a b))
 |.neq=>bA st (.bool (mkNot (mkSeq a b)))
 |_=>.stuck "string op"
def UE(cx:Cx)(st:St)(op:BinOp)(t:TypeId)(x y:V):cJ:=
 match op,F9 cx.tt 100 t x y with
 |.eql,some e=>bA st (.bool e)
 |.neq,some e=>bA st (.bool (mkNot e))
 |_,_=>.stuck "equal"
def abD:BinOp->Bool
 |.shl=>true
 |.shr=>true
 |_=>false
def U9(cx:Cx)(st:St)(op:BinOp)(t:TypeId)(x y:V):cJ:=
 match x,y with
 |.int k a,.int j b=>match abD op,bE k j with
  |true,_=>CO st op k a b
  |false,true=>UF st op k a b
  |false,false=>.stuck "kinds"
 |.str a,.str b=>Nk st op a b
 |x,y=>UE cx st op t x y
def amR(st:St)(op:UnOp)(x:V):cJ:=
 match op,x with
 |.neg,.int k a=>bA st (.int k (mkSub k (.lit 0) a))
 |.xor,.int k a=>bA st (.int k (oy 2 k (.lit (if k.signed then -1 else k.max)) a))
 |.not,.bool a=>bA st (.bool (mkNot a))
 |_,_=>.stuck "unop"
def Pk(h:H)(b off k:Nat):Option (List V):=
 match Nat.beq k 0 with
 |true=>some []
 |false=>match h.get b with
  |some (.win _ c (.lit (.ofNat m)) es)=>match Nat.ble (off+k) (m*es)with
   |true=>takeN k (gx c off)
   |false=>none
  |_=>none
def kx(h:H)(size n:Nat):V->Option (List V)
 |.slice b off _ _=>cN h b off (n*size)
 |.nilslice=>some []
 |.rest _ _ _ _=>match n with
  |0=>some []
  |_=>none
 |.wslice b off _ _=>Pk h b off (n*size)
 |.str (.slit l)=>some ((l.take n).map fun c=>.int .u8 (.lit ((c % 256:Nat):Int)))
 |_=>none
def GO:V->Option Nat
 |.slice _ _ n _=>some n
 |.wslice _ _ (.lit (.ofNat n)) _=>some n
 |.nilslice=>some 0
 |.rest _ _ _ _=>some 0
 |.str (.slit l)=>some l.length
 |_=>none
def UQ:X->X
 |.lit n=>.slit [n.toNat % 256]
 |x=>.sfn 0 x
def Ft:List V->Option X
 |[]=>some (.slit [])
 |v::l=>match v with
  |.int .u8 x=>match Ft l with
   |some r=>some (mr (UQ x) r)
   |none=>none
  |_=>none
def OQ:V->Option Nat
 |.slice _ _ n _=>some n
 |.wslice _ _ (.lit (.ofNat n)) _=>some n
 |.nilslice=>some 0
 |_=>none
def Vc(cx:Cx)(st:St)(src dst:TypeId)(x:V):cJ:=
 match cx.tt.get src,cx.tt.get dst with
 |some sd,some td=>match sd.d,td.d with
  |.slice elem,.string=>match cx.tt.get elem,OQ x with
   |some ed,some n=>match ed.d,kx st.h 1 n x with
    |.int .u8,some cs=>match Ft cs with
     |some r=>bA st (.str r)
     |none=>.stuck "text"
    |_,_=>.stuck "text"
   |_,_=>.stuck "text"
  |_,_=>.stuck "convert"
 |_,_=>.stuck "convert"
def xb(cx:Cx)(st:St)(src dst:TypeId)(x:V):cJ:=
 match cx.tt.get src,cx.tt.get dst,x with
 |some _,some td,.int _ a=>match td.d with
  |.int k=>bA st (.int k (mkWrap k a))
  |_=>.stuck "convert"
 |some _,some td,.str a=>match td.d with
  |.string=>bA st (.str a)
  |_=>.stuck "convert string"
 |_,_,x=>Vc cx st src dst x
def NF(c a b:V):Option V:=
 match c with
 |.bool x=>match x with
  |.lit n=>some (if aT n 0 then b else a)
  |x=>match a,b with
   |.int k u,.int j v=>if bE k j then some (.int k (mkIte x u v))else none
   |.bool u,.bool v=>some (.bool (mkIte x u v))
   |.str u,.str v=>some (.str (BV x u v))
   |_,_=>none
 |_=>none
def placeOf(tt:T TD)(d:TypeDesc)(i:Nat):Option (Nat×Nat):=
 match d with
 |.struct fields=>match nth fields.toList i with
  |some f=>match tt.get f.type with
   |some td=>some (f.offset,td.size)
   |none=>none
  |none=>none
 |.array _ elem=>match tt.get elem with
  |some td=>some (i*td.size,td.size)
  |none=>none
 |_=>none
def jN(tt:T TD):List Field->Bool
 |[]=>true
 |f::fs=>match tt.get f.type with
  |some _=>jN tt fs
  |none=>false
def oo(tt:T TD):TypeDesc->Bool
 |.struct fields=>jN tt fields.toList
 |.array _ elem=>match tt.get elem with
  |some _=>true
  |none=>false
 |_=>false
def gp (place:Nat->Option (Nat×Nat)) (cells:List V):List (Nat×V)->Option (List V)
 |[]=>some cells
 |(i,v)::rest=>
  match place i with
  |none=>none
  |some (off,size)=>
   let vs:=v.cells
   if Nat.beq vs.length size then
    match Cr cells off vs with
    |some cells=>gp place cells rest
    |none=>none
   else none
def fB(cx:Cx)(tm:List V):List (Nat×Operand)->Option (List (Nat×V))
 |[]=>some []
 |(i,o)::l=>match dM cx tm o,fB cx tm l with
  |some v,some r=>some ((i,v)::r)
  |_,_=>none
def gO(cx:Cx)(tm:List V):List Operand->Option (List V)
 |[]=>some []
 |o::l=>match dM cx tm o,gO cx tm l with
  |some v,some r=>some (v::r)
  |_,_=>none
def jx(cx:Cx)(tm:List V):List Operand->Option (List V)
 |[]=>some []
 |o::l=>match pP cx tm o,jx cx tm l with
  |some v,some r=>some (v::r)
  |_,_=>none
def b7(z:List V):Nat->List V
 |0=>[]
 |n+1=>z++b7 z n
def nM{α:Type}(st:St)(i:X)(lo:Nat):Nat->(St->Nat->R α)->R α
 |0,_=>.stuck "index out of range"
 |m+1,k=>split st (mkEq i (.lit lo)) fun st is=>if is then k st lo else nM st i (lo+1) m k
def index{α:Type}(st:St)(i:X)(len:Nat)(k:St->Nat->R α):R α:=
 match i with
 |.lit (.ofNat n)=>if Nat.blt n len then k st n else .stuck "index out of range"
 |.lit _=>.stuck "index out of range"
 |i=>split st (mkLe (.lit 0) i) fun st a=>split st (mkLt i (.lit len)) fun st b=>if a&&b then nM st i 0 len k else .stuck "index out of range"
def lO:V->Option Nat
 |.int _ (.lit (.ofNat n))=>some n
 |_=>none
def cX{α:Type}(st:St)(key:V):List (V×V)->Nat->(St->Option (Nat×V)->R α)->R α
 |[],_,k=>k st none
 |(key',v)::es,i,k=>
  match key,key' with
  |.int a x,.int b y=>if bE a b then split st (mkEq x y) fun st is=>if is then k st (some (i,v))else cX st key es (i+1) k else .stuck "key"
  |.str x,.str y=>split st (mkSeq x y) fun st is=>if is then k st (some (i,v))else cX st key es (i+1) k
  |.bool x,.bool y=>split st (mkIff x y) fun st is=>if is then k st (some (i,v))else cX st key es (i+1) k
  |_,_=>.stuck "key"
def uS:TypeDesc->V->Bool
 |.int _,.int _ _=>true
 |.string,.str _=>true
 |.bool,.bool _=>true
 |_,_=>false
def zeroV(td:TD):Option V:=if td.agg then some (.agg td.zero)else td.zero.head?
def kS(ed:TD)(ok:Bool)(st:St) (r:Option (Nat×V)):cJ:=
 match r,ok with
 |some (_,v),true=>bA st (.tuple [v,.bool (.lit 1)])
 |some (_,v),false=>bA st v
 |none,true=>match zeroV ed with
  |some z=>bA st (.tuple [z,.bool (.lit 0)])
  |none=>.stuck "lookup: zero"
 |none,false=>match zeroV ed with
  |some z=>bA st z
  |none=>.stuck "lookup: zero"
def uB(cx:Cx)(st:St)(t:TypeId)(x ix:V)(ok:Bool):cJ:=
 match cx.tt.get t with
 |some td=>match td.d with
  |.map keyT elem=>
   match cx.tt.get keyT,cx.tt.get elem with
   |some kd,some ed=>
    match uS kd.d ix with
    |true=>match x with
     |.nilmap=>kS ed ok st none
     |.map b=>match st.h.get b with
      |some (.map es)=>cX st ix es 0 (kS ed ok)
      |_=>.stuck "lookup: no map"
     |_=>.stuck "lookup"
    |false=>.stuck "lookup key"
   |_,_=>.stuck "lookup types"
  |_=>.stuck "lookup"
 |none=>.stuck "lookup"
def yl(v:V):List (V×V)->Nat->List (V×V)
 |[],_=>[]
 |(k,u)::l,n=>match n with
  |0=>(k,v)::l
  |m+1=>(k,u)::yl v l m
def yz(b:Nat) (es:List (V×V)) (key v:V) (st:St) (r:Option (Nat×V)):cJ:=
 match r with
 |some (i,_)=>.ok (.skip,{st with h:=st.h.set b (.map (yl v es i))})
 |none=>.ok (.skip,{st with h:=st.h.set b (.map (es++[(key,v)]))})
def ml(cx:Cx)(st:St)(t:TypeId)(x key v:V):cJ:=
 match cx.tt.get t with
 |some td=>match td.d with
  |.map keyT _=>
   match cx.tt.get keyT with
   |some kd=>
    match uS kd.d key with
    |true=>match x with
     |.map b=>match st.h.get b with
      |some (.map es)=>cX st key es 0 (yz b es key v)
      |_=>.stuck "update: no map"
     |_=>.stuck "update"
    |false=>.stuck "update key"
   |none=>.stuck "update"
  |_=>.stuck "update"
 |none=>.stuck "update"
def cA(len cap:Nat)(lo hi:Option V):Option (Nat×Nat):=
 match(match hi with|none=>some len|some v=>lO v)with
 |none=>none
 |some h=>
  match(match lo with|none=>some 0|some v=>lO v)with
  |none=>none
  |some l=>if Nat.ble l h&&Nat.ble h cap then some (l,h)else none
def bw(cap:Nat)(lo hi:Option V)(mx:V):Option (Nat×Nat×Nat):=
 match lO mx with
 |none=>none
 |some m=>match hi with
  |none=>none
  |some vh=>match lO vh with
   |none=>none
   |some h=>match(match lo with|none=>some 0|some v=>lO v)with
    |none=>none
    |some l=>if Nat.ble l h&&(Nat.ble h m&&Nat.ble m cap)then some (l,h,m)else none
def JS(cx:Cx)(st:St)(t:TypeId)(x:V)(lo hi:Option V)(mx:V):cJ:=
 match cx.tt.get t with
 |none=>.stuck "slice 1"
 |some td=>match td.d,x with
  |.slice elem,.slice b off _ (.known c)=>match cx.tt.get elem with
   |none=>.stuck "slice 2"
   |some ed=>match bw c lo hi mx with
    |some (l,h,m)=>bA st (.slice b (if Nat.beq m l then off else off+l*ed.size) (h-l) (.known (m-l)))
    |none=>.stuck "slice bounds"
  |.slice elem,.slice b off _ (.room _ _ n)=>match cx.tt.get elem with
   |none=>.stuck "slice 3"
   |some ed=>match bw n lo hi mx with
    |some (l,h,m)=>bA st (.slice b (if Nat.beq m l then off else off+l*ed.size) (h-l) (.known (m-l)))
    |none=>.stuck "slice bounds"
  |.slice elem,.nilslice=>match cx.tt.get elem with
   |none=>.stuck "slice 4"
   |some _=>match bw 0 lo hi mx with
    |some _=>bA st .nilslice
    |none=>.stuck "slice bounds"
  |.slice elem,.wslice b off _ _=>match cx.tt.get elem with
   |none=>.stuck "slice 5"
   |some _=>match bw 0 lo hi mx with
    |some _=>bA st (.wslice b off (.lit (.ofNat 0)) (.lit (.ofNat 0)))
    |none=>.stuck "slice bounds"
  |.array n elem,.ptr b off=>match cx.tt.get elem with
   |none=>.stuck "slice 6"
   |some ed=>match bw n lo hi mx with
    |some (l,h,m)=>bA st (.slice b (if Nat.beq m l then off else off+l*ed.size) (h-l) (.known (m-l)))
    |none=>.stuck "slice bounds"
  |_,_=>.stuck "slice: max"
def Gf(cx:Cx)(st:St)(t:TypeId)(x:V)(lo hi mx:Option V):cJ:=
 match mx with
 |some m=>JS cx st t x lo hi m
 |none=>
  match cx.tt.get t with
  |none=>.stuck "slice 7"
  |some td=>match td.d,x with
   |.string,.str (.slit l)=>match cA l.length l.length lo hi with
    |some (a,b)=>bA st (.str (.slit ((l.drop a).take (b-a))))
    |none=>.stuck "slice bounds"
   |.slice elem,.slice b off len cap=>
    match cx.tt.get elem with
    |none=>.stuck "slice 8"
    |some ed=>
     match cap with
     |.known c=>match cA len c lo hi with
      |some (l,h)=>bA st (.slice b (if Nat.beq c l then off else off+l*ed.size) (h-l) (.known (c-l)))
      |none=>.stuck "slice bounds"
     |.room b' o n=>match cA len n lo hi with
      |some (l,h)=>match Nat.beq l 0,Nat.blt l n with
       |true,_=>bA st (.slice b off h (.room b' o n))
       |false,true=>bA st (.slice b (off+l*ed.size) (h-l) (.room b' (o+l) (n-l)))
       |false,false=>match Nat.beq o 0,Nat.beq b b' with
        |true,true=>bA st (.rest b off l ed.size)
        |_,_=>.stuck "slice: rest"
      |none=>.stuck "slice bounds"
   |.slice elem,.nilslice=>match cx.tt.get elem with
    |none=>.stuck "slice 9"
    |some _=>match cA 0 0 lo hi with
     |some _=>bA st .nilslice
     |none=>.stuck "slice bounds"
   |.array n elem,.ptr b off=>
    match cx.tt.get elem with
    |none=>.stuck "slice 10"
    |some ed=>match cA n n lo hi with
     |some (l,h)=>bA st (.slice b (if Nat.beq n l then off else off+l*ed.size) (h-l) (.known (n-l)))
     |none=>.stuck "slice bounds"
   |_,_=>.stuck "slice 11"
def CK.cell(k:CK)(x:X):V:=match k with
 |.int k=>.int k x
 |.bool=>.bool x
def CK.auL(k:CK)(f:Nat)(i:X):X:=match k with
 |.int k=>.wrap k (.fn1 f i)
 |.bool=>.eq (.fn1 f i) (.lit 1)
def OV(pc:PC)(i j:X):Option Bool:=match i.beq j with
 |true=>some true
 |false=>AP pc (.eq i j)
def A.get(pc:PC)(k:CK)(c:Nat)(i:X):A->X
 |.base t=>k.auL (t+c) i
 |.fill x=>x
 |.put a j c' x=>match Nat.beq c c' with
  |true=>match OV pc i j with
   |some true=>x
   |some false=>a.get pc k c i
   |none=>mkIte (.eq i j) x (a.get pc k c i)
  |false=>a.get pc k c i
def A.cells(pc:PC)(a:A)(i:X):Nat->List CK->List V
 |_,[]=>[]
 |c,k::ks=>k.cell (a.get pc k c i)::a.cells pc i (c+1) ks
def CL(h:H)(w:Bool)(b:Nat):Option (A×List CK×X):=match h.get b with
 |some (.arr a ks len _ _)=>match w with
  |false=>some (a,ks,len)
  |true=>none
 |some (.warr _ t ks len)=>match w with
  |true=>some (.base t,ks,len)
  |false=>none
 |_=>none
def iR(st:St)(x:X)(k:St->cJ):cJ:=split st x fun st t=>match t with
 |true=>k st
 |false=>.stuck "it must be so"
def nh(a b:X):X:=match I9 a with
 |true=>b
 |false=>match m6 a with
  |some m=>match m6 b with
   |some n=>.lit (m+n)
   |none=>.add a b
  |none=>match I9 b with
   |true=>a
   |false=>.add a b
def O3(a b:X):X:=match I9 b with
 |true=>a
 |false=>match m6 a with
  |some m=>match m6 b with
   |some n=>.lit (m-n)
   |none=>.sub a b
  |none=>.sub a b
def oh(st:St)(w:Bool)(b:Nat)(off:X)(es:Nat)(len i:X)(size:Nat):cJ:=match Nat.beq size es,C8 st.pc (.lit 0) off with
 |true,true=>iR st (mkLe (.lit 0) i) fun st=>iR st (mkLt i len) fun st=>bA st (.xptr w b (nh off i) es 0)
 |_,_=>.stuck "index of a row"
def Fy(st:St)(td:TD)(w:Bool)(b:Nat)(i:X)(es c:Nat):cJ:=match CL st.h w b with
 |some (a,ks,len)=>match Nat.beq ks.length es,C8 st.pc (.lit 0) i,ltL st.pc i len with
  |true,true,true=>match takeN td.size (gx ks c)with
   |some ks=>match a.cells st.pc i c ks with
    |cs=>match td.agg with
     |true=>bA st (.agg cs)
     |false=>match cs with
      |[v]=>bA st v
      |_=>.stuck "load of a row"
   |none=>.stuck "load of a row"
  |_,_,_=>.stuck "load of a row: not within it"
 |none=>.stuck "load of a row"
def dX(i:X):Nat->List CK->List V->A->Option A
 |_,[],[],a=>some a
 |c,k::ks,v::vs,a=>match k,v with
  |.int k,.int j x=>match bE k j with
   |true=>dX i (c+1) ks vs (.put a i c x)
   |false=>none
  |.bool,.bool x=>dX i (c+1) ks vs (.put a i c x)
  |_,_=>none
 |_,_,_,_=>none
def I6(st:St)(td:TD)(w:Bool)(b:Nat)(i:X)(es c:Nat)(v:V):cJ:=match w,st.h.get b with
 |false,some (.arr a ks len e wd)=>match Nat.beq ks.length es&&Nat.ble c es,C8 st.pc (.lit 0) i,ltL st.pc i len,Nat.beq v.cells.length td.size with
  |true,true,true,true=>match takeN td.size (gx ks c)with
   |some ks'=>match dX i c ks' v.cells a with
    |some a=>.ok (.skip,{st with h:=st.h.set b (.arr a ks len e wd)})
    |none=>.stuck "store in a row: kinds"
   |none=>.stuck "store in a row"
  |_,_,_,_=>.stuck "store in a row: not within it"
 |_,_=>.stuck "store in a row"
def mW(v:Option V)(d:X):Option X:=match v with
 |none=>some d
 |some v=>match v with
  |.int _ x=>some x
  |_=>none
def KZ(st:St)(w:Bool)(b:Nat)(off:X)(es:Nat)(l h m:X):cJ:=split st (mkEq m l) fun st t=>match t with
 |true=>bA st (.xslice w b off es (O3 h l) (.known (O3 m l)))
 |false=>bA st (.xslice w b (nh off l) es (O3 h l) (.known (O3 m l)))
def I5(cx:Cx)(st:St)(t:TypeId)(w:Bool)(b:Nat)(off:X)(es:Nat)(len:X)(cap:XC)(lo hi mx:Option V):cJ:=
 match cx.tt.get t with
 |some td=>match td.d with
  |.slice elem=>match cx.tt.get elem with
   |some ed=>match Nat.beq ed.size es,C8 st.pc (.lit 0) off,mW lo (.lit 0),mW hi len with
    |true,true,some l,some h=>iR st (mkLe (.lit 0) len) fun st=>iR st (mkLe (.lit 0) l) fun st=>iR st (mkLe l h) fun st=>match mx with
     |none=>match cap with
      |.known c=>iR st (mkLe h c) fun st=>KZ st w b off es l h c
      |.room lo=>match I9 l with
       |true=>iR st (mkLe (nh off h) lo) fun st=>bA st (.xslice w b off es h (.room lo))
       |false=>iR st (mkLe (nh off h) lo) fun st=>iR st (mkLt (nh off l) lo) fun st=>bA st (.xslice w b (nh off l) es (O3 h l) (.room lo))
     |some m=>match hi,mW (some m) len with
      |some _,some m=>iR st (mkLe h m) fun st=>match cap with
       |.known c=>iR st (mkLe m c) fun st=>KZ st w b off es l h m
       |.room lo=>iR st (mkLe (nh off m) lo) fun st=>KZ st w b off es l h m
      |_,_=>.stuck "slice of a row"
    |_,_,_,_=>.stuck "slice of a row"
   |none=>.stuck "slice of a row"
  |_=>.stuck "slice of a row"
 |none=>.stuck "slice of a row"
def xF:List V->Option (List CK)
 |[]=>some []
 |v::l=>match xF l with
  |some ks=>match v with
   |.int k x=>match I9 x with
    |true=>some (.int k::ks)
    |false=>none
   |.bool x=>match I9 x with
    |true=>some (.bool::ks)
    |false=>none
   |_=>none
  |none=>none
def jT(ks:List CK)(len:X):Nat->Nat->List V->A->Option A
 |_,0,vs,a=>match vs with
  |[]=>some a
  |_=>none
 |j,n+1,vs,a=>match takeN ks.length vs with
  |some cs=>match dX (nh len (.lit (Int.ofNat j))) 0 ks cs a with
   |some a=>jT ks len (j+1) n (gx vs ks.length) a
   |none=>none
  |none=>none
def Qi(n bytes:Nat):X:=.lit (Int.ofNat (1000000000 / (bytes+1))-Int.ofNat (n+1))
def xQ(st:St)(h:H)(a:A)(ks:List CK)(len:X)(e:TypeId):cJ:=bA {st with h:=h.set st.n (.arr a ks len e true),n:=st.n+1} (.xslice false st.n (.lit 0) ks.length len (.room len))
def Pz:PC->Bool
 |[]=>false
 |(x,_)::pc=>match x with
  |.le (.lit 0) (.lit 8)=>true
  |_=>Pz pc
def anQ(pc:PC):Bool:=match CS pc with
 |true=>!Pz pc
 |false=>false
def M1(st:St)(elem:TypeId)(ed:TD)(s:V)(n:Nat)(new:List V):Option cJ:=match s with
 |.nilslice=>match Nat.beq n 0,anQ st.pc,xF ed.zero with
  |false,true,some ks=>match jT ks (.lit 0) 0 n new (.fill (.lit 0)),Nat.beq ed.size 0,Nat.ble ((n+1)*(ed.bytes+1)) 1000000000 with
   |some a,false,true=>some (xQ st st.h a ks (.lit (Int.ofNat n)) elem)
   |_,_,_=>none
  |_,_,_=>none
 |.xslice false b off es len cap=>match I9 off,st.h.get b with
  |true,some (.arr a ks L e wd)=>match Nat.beq ed.size es,Nat.beq ks.length es,Nat.beq e elem,Nat.beq es 0 with
   |true,true,true,false=>match C8 st.pc (.lit 0) len,C8 st.pc len (Qi n ed.bytes),jT ks len 0 n new a with
    |true,true,some a'=>match cap,wd with
     |.room lo,true=>match L.beq len,C8 st.pc lo len with
      |true,true=>some (xQ st (st.h.drop b) a' ks (nh len (.lit (Int.ofNat n))) elem)
      |_,_=>some (.stuck "append to a row: room")
     |.known c,false=>match L.beq c with
      |true=>some (split st (mkLe (nh len (.lit (Int.ofNat n))) c) fun st t=>match t with
       |true=>bA {st with h:=st.h.set b (.arr a' ks L e false)} (.xslice false b off es (nh len (.lit (Int.ofNat n))) (.known c))
       |false=>.stuck "append to a row: it is full")
      |false=>some (.stuck "append to a row: not the whole")
     |_,_=>some (.stuck "append to a row")
    |_,_,_=>some (.stuck "append to a row: bounds, kinds")
   |_,_,_,_=>some (.stuck "append to a row: types")
  |_,_=>some (.stuck "append to a part of a row")
 |_=>none
def noRoom:V->Bool
 |.nilslice=>true
 |.slice _ _ n c=>match n with
  |0=>match c with
   |.known c=>Nat.beq c 0
   |_=>false
  |_=>false
 |.xslice _ _ _ _ len c=>match I9 len with
  |true=>match c with
   |.known c=>I9 c
   |_=>false
  |false=>false
 |_=>false
def Y1(st:St)(elem:TypeId)(ed:TD)(s:V)(w:Bool)(b:Nat)(off:X)(es:Nat)(len:X):cJ:=match I9 len&&noRoom s with
 |true=>bA st s
 |false=>match CL st.h w b,I9 off,noRoom s with
 |some (a,ks,L),true,true=>match Nat.beq ed.size es,Nat.beq ks.length es,Nat.beq es 0,C8 st.pc len L with
  |true,true,false,true=>iR st (mkLe (.lit 0) len) fun st=>match C8 st.pc len (Qi 0 ed.bytes)with
   |true=>split st (mkLe len (.lit 0)) fun st t=>match t with
    |true=>bA st s
    |false=>xQ st st.h a ks len elem
   |false=>.stuck "a copy of a row: long"
  |_,_,_,_=>.stuck "a copy of a row"
 |_,_,_=>.stuck "a copy of a row"
def I4(cx:Cx)(st:St)(argTypes:List TypeId)(args:List V):Option cJ:=match argTypes,args with
 |t::u::_,s::x::_=>match cx.tt.get t,cx.tt.get u with
  |some td,some ud=>match td.d,ud.d with
   |.slice elem,.slice _=>match cx.tt.get elem with
    |some ed=>match x with
     |.xslice w b off es len _=>some (Y1 st elem ed s w b off es len)
     |x=>match GO x with
      |some n=>match kx st.h ed.size n x with
       |some new=>match Nat.beq new.length (n*ed.size)with
        |true=>M1 st elem ed s n new
        |false=>none
       |none=>none
      |none=>none
    |none=>none
   |_,_=>none
  |_,_=>none
 |_,_=>none
def Y3(st:St)(ed:TD)(d x:V):cJ:=match d,x with
 |.xslice false b off es len _,.xslice w b' off' es' len' _=>match st.h.get b,CL st.h w b',I9 off,I9 off' with
  |some (.arr _ ks L e wd),some (a',ks',L'),true,true=>match Nat.beq ed.size es&&Nat.beq ed.size es',Nat.beq ks.length es,CK.cM ks ks',L.beq len&&len.beq len' with
   |true,true,true,true=>match C8 st.pc len L',C8 st.pc (.lit 0) len with
    |true,true=>bA {st with h:=st.h.set b (.arr a' ks L e wd)} (.int .i64 len)
    |_,_=>.stuck "copy of a row"
   |_,_,_,_=>.stuck "copy of a row"
  |_,_,_,_=>.stuck "copy of a row"
 |_,_=>.stuck "copy of a row"
def Y2(cx:Cx)(st:St)(argTypes:List TypeId)(args:List V):Option cJ:=match argTypes,args with
 |t::_,d::x::_=>match d with
  |.xslice _ _ _ _ _ _=>match cx.tt.get t with
   |some td=>match td.d with
    |.slice elem=>match cx.tt.get elem with
     |some ed=>some (Y3 st ed d x)
     |none=>none
    |_=>none
   |none=>none
  |_=>none
 |_,_=>none
def Y4(cx:Cx)(st:St)(argTypes:List TypeId)(args:List V):Option cJ:=match argTypes,args with
 |t::_,x::_=>match x with
  |.xslice _ _ _ _ len _=>match cx.tt.get t with
   |some td=>match td.d with
    |.slice _=>some (iR st (mkLe (.lit 0) len) fun st=>bA st (.int .i64 len))
    |_=>none
   |none=>none
  |_=>none
 |_,_=>none
def Y6(st:St)(elem:TypeId)(ed:TD)(l c:X):cJ:=match xF ed.zero,Nat.beq ed.size 0 with
 |some ks,false=>iR st (mkLe (.lit 0) l) fun st=>iR st (mkLe l c) fun st=>match C8 st.pc c (Qi 0 ed.bytes)with
  |true=>.ok (.val (.xslice false st.n (.lit 0) ed.size l (.known c)),newObj st (.arr (.fill (.lit 0)) ks c elem false))
  |false=>.stuck "makeSlice: long"
 |_,_=>.stuck "makeSlice: cells"
def A.under(pc:PC)(lo hi:X):A->Option Nat
 |.base t=>some t
 |.fill _=>none
 |.put a i _ _=>match ltL pc i lo with
  |true=>a.under pc lo hi
  |false=>match C8 pc hi i with
   |true=>a.under pc lo hi
   |false=>none
def Fz(cx:Cx)(st:St)(src dst:TypeId)(w:Bool)(b:Nat)(off:X)(es:Nat)(len:X):cJ:=match I9 len with
 |true=>match cx.tt.get src,cx.tt.get dst with
  |some sd,some td=>match sd.d,td.d with
   |.slice elem,.string=>match cx.tt.get elem with
    |some ed=>match ed.d with
     |.int .u8=>bA st (.str (.slit []))
     |_=>.stuck "text of a row"
    |none=>.stuck "text of a row"
   |_,_=>.stuck "text of a row"
  |_,_=>.stuck "text of a row"
 |false=>match cx.tt.get src,cx.tt.get dst,CL st.h w b with
 |some sd,some td,some (a,ks,L)=>match sd.d,td.d with
  |.slice elem,.string=>match cx.tt.get elem,ks with
   |some ed,[.int .u8]=>match ed.d,Nat.beq es 1&&C8 st.pc (.lit 0) off,C8 st.pc (nh off len) L,a.under st.pc off (nh off len)with
    |.int .u8,true,true,some t=>iR st (mkLe (.lit 0) len) fun st=>bA st (.str (.btext t off len))
    |_,_,_,_=>.stuck "text of a row"
   |_,_=>.stuck "text of a row"
  |_,_=>.stuck "text of a row"
 |_,_,_=>.stuck "text of a row"
def AW(cx:Cx)(st:St)(argTypes:List TypeId)(args:List V):cJ:=
 match argTypes,args with
 |t::u::_,s::x::_=>
  match cx.tt.get t,cx.tt.get u with
  |some td,some ud=>match td.d,ud.d with
   |_,.int _=>.stuck "append: make"
   |.slice elem,_=>match cx.tt.get elem with
    |none=>.stuck "append"
    |some ed=>
     match GO x with
     |none=>.stuck "append: length"
     |some n=>
      match kx st.h ed.size n x with
      |none=>.stuck "append: elements"
      |some new=>
       match Nat.beq new.length (n*ed.size)with
       |false=>.stuck "append: size"
       |true=>
       match s with
       |.nilslice=>
        if Nat.beq n 0 then bA st .nilslice
        else if Nat.ble ((n+1)*(ed.bytes+1)) 1000000000 then
         let st':=newObj st (.cells new elem (some ed.size))
         bA st' (.slice st.n 0 n (.room st.n 0 n))
        else .stuck "append: long"
       |.slice b off len (.known c)=>
        if Nat.ble (len+n) c then
         match putAt st.h b (off+len*ed.size) new with
         |some h=>bA {st with h:=h} (.slice b off (len+n) (.known c))
         |none=>.stuck "append: room"
        else if Nat.ble ((len+n+c+1)*(ed.bytes+1)) 1000000000 then
         match cN st.h b off (len*ed.size)with
         |some old=>
          let st':=newObj st (.cells (old++new) elem (some ed.size))
          bA st' (.slice st.n 0 (len+n) (.room st.n 0 (len+n)))
         |none=>.stuck "append: old"
        else .stuck "append: long"
       |.slice b 0 len (.room b' 0 lo)=>
        if Nat.ble (len+n) lo then
         match putAt st.h b (len*ed.size) new with
         |some h=>bA {st with h:=h} (.slice b 0 (len+n) (.room b' 0 lo))
         |none=>.stuck "append: room"
        else match st.h.get b with
        |some (.cells c e (some sz))=>
         if Nat.beq b b'&&Nat.beq sz ed.size&&Nat.beq c.length (len*ed.size)&&Nat.beq e elem&&Nat.ble ((len+n+1)*(ed.bytes+1)) 1000000000&&sY new&&Nat.ble lo len&&Nat.blt 0 sz then
          let st':=newObj {st with h:=st.h.drop b} (.cells (c++new) e (some sz))
          bA st' (.slice st.n 0 (len+n) (.room st.n 0 (len+n)))
         else .stuck "append: room"
        |_=>.stuck "append: room"
       |.wslice b off (.lit (.ofNat 0)) (.lit (.ofNat 0))=>
        if Nat.beq n 0 then bA st (.wslice b off (.lit (.ofNat 0)) (.lit (.ofNat 0)))
        else if Nat.ble ((n+1)*(ed.bytes+1)) 1000000000 then
         let st':=newObj st (.cells new elem (some ed.size))
         bA st' (.slice st.n 0 n (.room st.n 0 n))
        else .stuck "append: long"
       |_=>.stuck "append"
   |_,_=>.stuck "append"
  |_,_=>.stuck "append"
 |_,_=>.stuck "append"
def NA(cx:Cx)(st:St)(argTypes:List TypeId)(args:List V):cJ:=
 match argTypes,args with
 |t::_,d::x::_=>
  match cx.tt.get t with
  |some td=>match td.d with
   |.slice elem=>match cx.tt.get elem,GO d,GO x with
    |some ed,some dl,some xl=>
     let n:=min xl dl
     match kx st.h ed.size n x with
     |none=>.stuck "copy"
     |some cs=>
      match d with
      |.nilslice=>bA st (.int .i64 (.lit n))
      |.slice b off _ _=>match putAt st.h b off cs with
       |some h=>bA {st with h:=h} (.int .i64 (.lit n))
       |none=>.stuck "copy"
      |_=>.stuck "copy"
    |_,_,_=>.stuck "copy"
   |_=>.stuck "copy"
  |none=>.stuck "copy"
 |_,_=>.stuck "copy"
def PI(cx:Cx)(st:St)(argTypes:List TypeId)(args:List V):cJ:=
 match argTypes,args with
 |t::_,x::_=>
  match cx.tt.get t with
  |some td=>match td.d,x with
   |.string,.str a=>bA st (.int .i64 (BZ a))
   |.array n _,_=>bA st (.int .i64 (.lit n))
   |.pointer arr,_=>match cx.tt.get arr with
    |some ad=>match ad.d with
     |.array n _=>bA st (.int .i64 (.lit n))
     |_=>.stuck "len"
    |none=>.stuck "len"
   |.slice _,.slice _ _ n _=>bA st (.int .i64 (.lit n))
   |.slice _,.nilslice=>bA st (.int .i64 (.lit 0))
   |.slice _,.rest _ _ _ _=>bA st (.int .i64 (.lit 0))
   |.slice _,.wslice _ _ n _=>split st (mkLe (.lit 0) n) fun st t=>match t with
    |true=>bA st (.int .i64 n)
    |false=>.stuck "len"
   |.map _ _,.nilmap=>bA st (.int .i64 (.lit 0))
   |.map _ _,.map b=>match st.h.get b with
    |some (.map es)=>bA st (.int .i64 (.lit es.length))
    |_=>.stuck "len"
   |_,_=>.stuck "len"
  |none=>.stuck "len"
 |_,_=>.stuck "len"
def Kx(gt:Bool)(a b:V):Option V:=
 match a,b with
 |.int k x,.int j y=>if bE k j then some (.int k (if gt then mkIte (mkLt x y) y x else mkIte (mkLt y x) y x))else none
 |_,_=>none
def Nh(gt:Bool):V->List V->Option V
 |a,[]=>some a
 |a,b::l=>match Kx gt a b with
  |some c=>Nh gt c l
  |none=>none
def PJ(st:St)(gt:Bool)(a:V)(l:List V)(s:String):cJ:=match CS st.pc,a,l with
 |true,.int k x,[.int j y]=>match bE k j with
  |true=>split st (match gt with|true=>mkLt x y|false=>mkLt y x) fun st t=>bA st (.int k (match t with|true=>y|false=>x))
  |false=>gA st (Nh gt a l) s
 |_,a,l=>gA st (Nh gt a l) s
def Gb(cx:Cx)(st:St)(argTypes:List TypeId)(args:List V):cJ:=
 match argTypes,args with
 |t::_,x::_=>match cx.tt.get t with
  |some td=>match td.d,x with
   |.slice elem,.slice b off n _=>match cx.tt.get elem with
    |some ed=>match n with
     |0=>bA st (.tuple [])
     |m+1=>match putAt st.h b off (b7 ed.zero (m+1))with
      |some h=>bA {st with h:=h} (.tuple [])
      |none=>.stuck "clear"
    |none=>.stuck "clear"
   |_,_=>.stuck "clear"
  |none=>.stuck "clear"
 |_,_=>.stuck "clear"
def qU(cx:Cx)(st:St)(b:Builtin)(argTypes:List TypeId)(args:List V):cJ:=
 match b with
 |.append=>match I4 cx st argTypes args with
  |some r=>r
  |none=>AW cx st argTypes args
 |.copy=>match Y2 cx st argTypes args with
  |some r=>r
  |none=>NA cx st argTypes args
 |.len=>match Y4 cx st argTypes args with
  |some r=>r
  |none=>PI cx st argTypes args
 |.max=>match args with
  |a::l=>PJ st true a l "max"
  |[]=>.stuck "max"
 |.min=>match args with
  |a::l=>PJ st false a l "min"
  |[]=>.stuck "min"
 |.clear=>Gb cx st argTypes args
 |_=>.stuck "builtin"
def ET(cx:Cx)(tm:List V)(st:St)(c a b:Operand):cJ:=
 match dM cx tm c,dM cx tm a,dM cx tm b with
 |some c,some a,some b=>match c with
  |.bool x=>match eU st.pc x with
   |some t=>bA st (match t with|true=>a|false=>b)
   |none=>match NF c a b with
    |some v=>bA st v
    |none=>split st x fun st t=>bA st (match t with|true=>a|false=>b)
  |_=>.stuck "pick"
 |_,_,_=>.stuck "pick"
def GY(cx:Cx)(st:St)(t:TypeId):cJ:=
 match cx.tt.get t with
 |some td=>.ok (.val (.ptr st.n 0),newObj st (.cells td.zero t none))
 |none=>.stuck "alloc"
def Sx(cx:Cx)(tm:List V)(st:St)(t:TypeId)(x:Operand):cJ:=
 match dM cx tm x with
 |some v=>.ok (.val (.ptr st.n 0),newObj st (.cells v.cells t none))
 |none=>.stuck "box"
def xS(cx:Cx)(tm:List V)(st:St)(t:TypeId) (parts:Array (Nat×Operand)):cJ:=
 match cx.tt.get t,fB cx tm parts.toList with
 |some td,some ps=>match gp (placeOf cx.tt td.d) td.zero ps with
  |some cells=>match oo cx.tt td.d with
   |true=>bA st (.agg cells)
   |false=>.stuck "build"
  |none=>.stuck "build"
 |_,_=>.stuck "build"
def gZ(cx:Cx)(tm:List V)(st:St)(t:TypeId)(len:Nat) (parts:Array (Nat×Operand)):cJ:=
 match cx.tt.get t,fB cx tm parts.toList with
 |some td,some ps=>match td.d with
  |.slice elem=>match cx.tt.get elem with
   |some ed=>match Nat.ble (len*ed.size) 100000 with
    |true=>match gp (fun i=>some (i*ed.size,ed.size)) (b7 ed.zero len) ps with
     |some cells=>.ok (.val (.slice st.n 0 len (.known len)),newObj st (.cells cells elem none))
     |none=>.stuck "buildSlice"
    |false=>.stuck "buildSlice: long"
   |none=>.stuck "buildSlice"
  |_=>.stuck "buildSlice"
 |_,_=>.stuck "buildSlice"
def Fw(h:H)(pc:PC)(b off n:Nat):Option (List V):=
 match h.get b with
 |some (.win _ c len es)=>match Nat.ble (off % es+n) es,eU pc (.lt (.lit (Int.ofNat (off / es))) len)with
  |true,some true=>takeN n (gx c off)
  |_,_=>none
 |_=>none
def iJ{α:Type}(st:St)(i:X)(n:Nat)(k:St->R α):R α:=
 split st (mkLe (.lit 0) i) fun st a=>match a with
  |false=>.stuck "index out of range"
  |true=>split st (mkLt i (.lit (Int.ofNat n))) fun st b=>match b with
   |false=>.stuck "index out of range"
   |true=>k st
def ab5(h:H)(pc:PC)(b:Nat):H:=match h.get b with
 |some (.opt c cs e)=>match eU pc c with
  |some true=>h.set b (.cells cs e none)
  |_=>h
 |_=>h
def Cb(cx:Cx)(tm:List V)(st:St)(t:TypeId)(a:Operand):cJ:=
 match cx.tt.get t,dM cx tm a with
 |some td,some (.sptr b off n i)=>match td.agg,Nat.beq td.size 1 with
  |false,true=>match cN st.h b off n with
   |some cs=>iJ st i n fun st=>gA st (Tf i cs) "load"
   |none=>.stuck "load: no such cells"
  |_,_=>.stuck "load: not one cell"
 |some td,some (.xptr w b i es c)=>Fy st td w b i es c
 |some td,some (.wptr b off)=>match Fw st.h st.pc b off td.size with
  |some cs=>match td.agg with
   |true=>bA st (.agg cs)
   |false=>match cs with
    |[v]=>bA st v
    |_=>.stuck "load"
  |none=>.stuck "load: no such cells"
 |some td,some (.ptr b off)=>match cN (ab5 st.h st.pc b) b off td.size with
  |some cs=>match td.agg with
   |true=>bA st (.agg cs)
   |false=>match cs with
    |[v]=>bA st v
    |_=>.stuck "load"
  |none=>.stuck "load: no such cells"
 |_,_=>.stuck "load"
def x6(cx:Cx)(tm:List V)(st:St)(t:TypeId)(a x:Operand):cJ:=
 match cx.tt.get t,dM cx tm a,dM cx tm x with
 |some td,some (.sptr b off n i),some v=>match Nat.beq v.cells.length td.size,Nat.beq td.size 1 with
  |true,true=>match v.cells with
   |[u]=>match cN st.h b off n with
    |some cs=>iJ st i n fun st=>match putAt st.h b off (kj i u 0 cs)with
     |some h=>match u.one with
      |true=>.ok (.skip,{st with h:=h})
      |false=>.stuck "store: size"
     |none=>.stuck "store: no such cells"
    |none=>.stuck "store: no such cells"
   |_=>.stuck "store: size"
  |_,_=>.stuck "store: size"
 |some td,some (.xptr w b i es c),some v=>I6 st td w b i es c v
 |some td,some (.ptr b off),some v=>match Nat.beq v.cells.length td.size with
  |true=>match putAt st.h b off v.cells with
   |some h=>.ok (.skip,{st with h:=h})
   |none=>.stuck "store: no such cells"
  |false=>.stuck "store: size"
 |_,_,_=>.stuck "store"
def kY(cx:Cx)(tm:List V)(st:St)(x:Operand):cJ:=
 match dM cx tm x with
 |some (.ptr b off)=>bA st (.ptr b off)
 |some (.sptr b off n i)=>bA st (.sptr b off n i)
 |some (.func (.func f) first cap)=>bA st (.func (.func f) first cap)
 |some (.yield l)=>bA st (.yield l)
 |some (.iface t v)=>bA st (.iface t v)
 |some (.slice b off len cap)=>bA st (.slice b off len cap)
 |some (.xptr w b i es c)=>bA st (.xptr w b i es c)
 |some (.xslice w b off es len cap)=>bA st (.xslice w b off es len cap)
 |_=>.stuck "nilCheck"
def isConst:Operand->Bool
 |.const _=>true
 |_=>false
def N8(cx:Cx)(st:St)(op:BinOp)(t:TypeId):cJ:=match cx.tt.get t with
 |some td=>match td.d,op with
  |.interface _,.eql=>bA st (.bool (.lit 1))
  |.interface _,.neq=>bA st (.bool (.lit 0))
  |_,_=>.stuck "nil"
 |none=>.stuck "nil"
def O6:V->V->Bool
 |.niliface,.niliface=>true
 |_,_=>false
def Sw(cx:Cx)(tm:List V)(st:St)(op:BinOp)(t:TypeId)(x y:Operand):cJ:=
 match dM cx tm x,dM cx tm y with
 |some a,some b=>match O6 a b,isConst y with
  |true,true=>N8 cx st op t
  |_,_=>U9 cx st op t a b
 |_,_=>.stuck "binop operand"
def oUn(cx:Cx)(tm:List V)(st:St)(op:UnOp)(x:Operand):cJ:=
 match dM cx tm x with
 |some a=>amR st op a
 |none=>.stuck "unop"
def lR(cx:Cx)(tm:List V)(st:St)(src dst:TypeId)(x:Operand):cJ:=
 match dM cx tm x with
 |some a=>match a with
  |.xslice w b off es len _=>Fz cx st src dst w b off es len
  |a=>xb cx st src dst a
 |none=>.stuck "convert"
def xW(cx:Cx)(tm:List V)(st:St)(t:TypeId)(x:Operand):cJ:=
 match cx.tt.get t,dM cx tm x with
 |some td,some v=>match td.d with
  |.interface _=>.stuck "makeInterface"
  |_=>bA st (.iface t v)
 |_,_=>.stuck "makeInterface"
def ER(cx:Cx)(tm:List V)(st:St)(fn:Fn)(first captured:Array Operand):cJ:=
 match fn,gO cx tm first.toList,gO cx tm captured.toList with
 |.func f,some a,some b=>bA st (.func (.func f) a b)
 |_,_,_=>.stuck "makeFunc"
def SB(cx:Cx)(tm:List V)(st:St)(t:TypeId)(r:Option Operand):cJ:=
 match cx.tt.get t with
 |some td=>match td.d with
  |.map _ _=>match r with
   |none=>.ok (.val (.map st.n),newObj st (.map []))
   |some x=>match dM cx tm x with
    |some (.int _ _)=>.ok (.val (.map st.n),newObj st (.map []))
    |_=>.stuck "makeMap"
  |_=>.stuck "makeMap"
 |none=>.stuck "makeMap"
def gh(cx:Cx)(tm:List V)(st:St)(t:TypeId)(l c:Operand):cJ:=
 match cx.tt.get t,(dM cx tm l).bind lO,(dM cx tm c).bind lO with
 |some td,some l,some c=>match td.d with
  |.slice elem=>match cx.tt.get elem with
   |some ed=>match Nat.ble l c&&Nat.ble (c*(ed.bytes+1)) 1000000000 with
    |true=>.ok (.val (.slice st.n 0 l (.known c)),newObj st (.cells (b7 ed.zero c) elem none))
    |false=>.stuck "makeSlice: long"
   |none=>.stuck "makeSlice"
  |_=>.stuck "makeSlice"
 |_,_,_=>.stuck "makeSlice"
def WC:V->Option X
 |.int k x=>match bE k .i64,isLit x with
  |true,false=>some x
  |_,_=>none
 |_=>none
def am5:V->Option X
 |.int k x=>match bE k .i64 with
  |true=>some x
  |false=>none
 |_=>none
def jj(cx:Cx)(tm:List V)(st:St)(t:TypeId)(l c:Operand):cJ:=
 match(dM cx tm l).bind am5,(dM cx tm c).bind WC with
 |some x,some y=>match cx.tt.get t with
  |some td=>match td.d with
   |.slice elem=>match cx.tt.get elem with
    |some ed=>Y6 st elem ed x y
    |none=>.stuck "makeSlice"
   |_=>.stuck "makeSlice"
  |none=>.stuck "makeSlice"
 |_,_=>gh cx tm st t l c
def sC(cx:Cx)(tm:List V):Option Operand->Option (Option V)
 |none=>some none
 |some o=>match dM cx tm o with
  |some v=>some (some v)
  |none=>none
def xh(cx:Cx)(tm:List V)(st:St)(t:TypeId)(x:Operand)(lo hi mx:Option Operand):cJ:=
 match dM cx tm x,sC cx tm lo,sC cx tm hi,sC cx tm mx with
 |some v,some lo,some hi,some mx=>match v with
  |.xslice w b off es len cap=>I5 cx st t w b off es len cap lo hi mx
  |v=>Gf cx st t v lo hi mx
 |_,_,_,_=>.stuck "slice operand"
def jg(cx:Cx)(tm:List V)(st:St)(t:TypeId)(x:Operand)(f:Nat):cJ:=
 match cx.tt.get t,dM cx tm x with
 |some td,some (.ptr b off)=>match td.d with
  |.struct fields=>match nth fields.toList f with
   |some fd=>match cx.tt.get fd.type with
    |some d=>match Nat.beq d.size 0 with
     |true=>.stuck "fieldAddr: no size"
     |false=>bA st (.ptr b (off+fd.offset))
    |none=>.stuck "fieldAddr"
   |none=>.stuck "fieldAddr"
  |_=>.stuck "fieldAddr"
 |some td,some (.xptr w b i es c)=>match td.d with
  |.struct fields=>match nth fields.toList f with
   |some fd=>match cx.tt.get fd.type with
    |some d=>match Nat.beq d.size 0 with
     |true=>.stuck "fieldAddr: no size"
     |false=>bA st (.xptr w b i es (c+fd.offset))
    |none=>.stuck "fieldAddr"
   |none=>.stuck "fieldAddr"
  |_=>.stuck "fieldAddr"
 |_,_=>.stuck "fieldAddr"
def xV(cx:Cx)(tm:List V)(st:St)(t:TypeId)(x:Operand)(f:Nat):cJ:=
 match cx.tt.get t,dM cx tm x with
 |some td,some (.agg cs)=>match td.d with
  |.struct fields=>match nth fields.toList f with
   |some fd=>gA st (pd cx.tt fd.type cs fd.offset) "field"
   |none=>.stuck "field"
  |_=>.stuck "field"
 |_,_=>.stuck "field"
def m7(cx:Cx)(i:X)(ed:TD):Bool:=match cx.sx with
 |false=>false
 |true=>match isLit i with
  |true=>false
  |false=>match ed.agg with
   |true=>false
   |false=>Nat.beq ed.size 1
def ji(cx:Cx)(tm:List V)(st:St)(t:TypeId)(x ix:Operand):cJ:=
 match cx.tt.get t,dM cx tm x,dM cx tm ix with
 |some td,some v,some (.int _ i)=>match td.d,v with
  |.array len elem,.ptr b off=>match cx.tt.get elem with
   |some ed=>match m7 cx i ed with
    |true=>iJ st i len fun st=>bA st (.sptr b off len i)
    |false=>index st i len fun st n=>bA st (.ptr b (off+n*ed.size))
   |none=>.stuck "indexAddr"
  |.slice elem,.slice b off len _=>match cx.tt.get elem with
   |some ed=>match m7 cx i ed with
    |true=>iJ st i len fun st=>bA st (.sptr b off len i)
    |false=>index st i len fun st n=>bA st (.ptr b (off+n*ed.size))
   |none=>.stuck "indexAddr"
  |.slice elem,.xslice w b off es len _=>match cx.tt.get elem with
   |some ed=>oh st w b off es len i ed.size
   |none=>.stuck "indexAddr"
  |.slice elem,.wslice b off len _=>match cx.tt.get elem,i with
   |some ed,.lit (.ofNat n)=>split st (mkLt (.lit (.ofNat n)) len) fun st t=>match t with
    |true=>bA st (.wptr b (off+n*ed.size))
    |false=>.stuck "index out of range"
   |_,_=>.stuck "indexAddr"
  |_,_=>.stuck "indexAddr"
 |_,_,_=>.stuck "indexAddr"
def xX(cx:Cx)(tm:List V)(st:St)(t:TypeId)(x ix:Operand):cJ:=
 match cx.tt.get t,dM cx tm x,dM cx tm ix with
 |some td,some v,some (.int _ i)=>match td.d,v with
  |.array len elem,.agg cs=>match cx.tt.get elem with
   |some ed=>match m7 cx i ed with
    |true=>match takeN len cs with
     |some l=>iJ st i len fun st=>gA st (Tf i l) "index"
     |none=>.stuck "index"
    |false=>index st i len fun st n=>gA st (pd cx.tt elem cs (n*ed.size)) "index"
   |none=>.stuck "index"
  |.string,.str (.slit l)=>index st i l.length fun st n=>bA st (.int .u8 (.lit ((((nth l n).getD 0) % 256:Nat):Int)))
  |_,_=>.stuck "index"
 |_,_,_=>.stuck "index"
def oE(cx:Cx)(tm:List V)(st:St)(t:TypeId)(x ix:Operand)(ok:Bool):cJ:=
 match dM cx tm x,dM cx tm ix with
 |some x,some ix=>uB cx st t x ix ok
 |_,_=>.stuck "lookup"
def kB(cx:Cx)(tm:List V)(st:St)(t:TypeId)(m k x:Operand):cJ:=
 match dM cx tm m,dM cx tm k,dM cx tm x with
 |some m,some k,some x=>ml cx st t m k x
 |_,_,_=>.stuck "update"
def rp(cx:Cx)(tm:List V)(st:St)(x:Operand)(asserted:TypeId)(ok:Bool):cJ:=
 match cx.tt.get asserted,dM cx tm x with
 |some td,some v=>match td.d,v with
  |.interface _,_=>.stuck "typeAssert"
  |_,.iface t v=>match Nat.beq t asserted,ok with
   |true,true=>bA st (.tuple [v,.bool (.lit 1)])
   |true,false=>bA st v
   |false,true=>match zeroV td with
    |some z=>bA st (.tuple [z,.bool (.lit 0)])
    |none=>.stuck "typeAssert"
   |false,false=>.stuck "typeAssert fails"
  |_,.niliface=>match ok with
   |true=>match zeroV td with
    |some z=>bA st (.tuple [z,.bool (.lit 0)])
    |none=>.stuck "typeAssert"
   |false=>.stuck "typeAssert fails"
  |_,_=>.stuck "typeAssert"
 |_,_=>.stuck "typeAssert"
def nL(cx:Cx)(tm:List V)(st:St)(x:Operand)(i:Nat):cJ:=
 match dM cx tm x with
 |some (.tuple l)=>gA st (nth l i) "extract"
 |_=>.stuck "extract"
def xZ(cx:Cx)(tm:List V)(st:St)(t:TypeId)(x:Operand):cJ:=
 match cx.tt.get t,dM cx tm x with
 |some td,some v=>match td.d,v with
  |.map _ _,.nilmap=>.ok (.val (.ptr st.n 0),newObj st (.iter none))
  |.map _ _,.map b=>match st.h.get b with
   |some (.map _)=>.ok (.val (.ptr st.n 0),newObj st (.iter (some b)))
   |_=>.stuck "range"
  |_,_=>.stuck "range"
 |_,_=>.stuck "range"
def ES(cx:Cx)(tm:List V)(st:St)(x:Operand)(isString:Bool):cJ:=
 match dM cx tm x,isString with
 |some (.ptr r 0),false=>match st.h.get r with
  |some (.iter none)=>bA st (.tuple [.bool (.lit 0)])
  |some (.iter (some b))=>match st.h.get b with
   |some (.map [])=>bA st (.tuple [.bool (.lit 0)])
   |_=>.stuck "next: a map with entries"
  |_=>.stuck "next"
 |_,_=>.stuck "next"
def y5(cx:Cx)(tm:List V)(st:St)(c:Call):cJ:=
 match c.callee with
 |.value f=>match dM cx tm f with
  |some (.func (.func g) first cap)=>match jx cx tm c.args.toList with
   |some args=>match cx.ft.get g with
    |some _=>.ok (.enter g (first++args++cap),st)
    |none=>.stuck "call: unknown function"
   |none=>.stuck "call"
  |some (.yield l)=>match gO cx tm c.args.toList with
   |some args=>.ok (.round l args,st)
   |none=>.stuck "call"
  |_=>.stuck "call"
 |.builtin b=>match gO cx tm c.args.toList with
  |some args=>qU cx st b c.argTypes.toList args
  |none=>.stuck "builtin"
 |.invoke _ _=>.stuck "invoke"
def qk(cx:Cx)(tm:List V)(st:St)(c:Call):cJ:=
 match c.callee with
 |.value f=>match dM cx tm f,gO cx tm c.args.toList with
  |some (.func (.func g) first cap),some args=>.ok (.defer (.fn (.func g) cap (first++args)),st)
  |_,_=>.stuck "defer"
 |_=>.stuck "defer"
def xY(cx:Cx)(tm:List V)(st:St)(x:Operand):cJ:=
 match dM cx tm x with
 |some (.iface t v)=>.ok (.panic (.iface t v),st)
 |_=>.stuck "panic"
def km(cx:Cx)(tm:List V)(st:St)(o:Oper):cJ:=
 match o.op with
 |.move x=>gA st (pP cx tm x) "move"
 |.assign x=>gA st (pP cx tm x) "assign"
 |.pick c a b=>ET cx tm st c a b
 |.alloc t=>GY cx st t
 |.box t x=>Sx cx tm st t x
 |.build t parts=>xS cx tm st t parts
 |.buildSlice t len parts=>gZ cx tm st t len parts
 |.load t a=>Cb cx tm st t a
 |.store t a x=>x6 cx tm st t a x
 |.nilCheck x=>kY cx tm st x
 |.binOp op t x y _=>Sw cx tm st op t x y
 |.unOp op _ x=>oUn cx tm st op x
 |.convert src dst x=>lR cx tm st src dst x
 |.makeInterface t x=>xW cx tm st t x
 |.makeFunc fn first captured=>ER cx tm st fn first captured
 |.makeMap t r=>SB cx tm st t r
 |.makeSlice t l c=>jj cx tm st t l c
 |.slice t x lo hi mx=>xh cx tm st t x lo hi mx
 |.fieldAddr t x f=>jg cx tm st t x f
 |.field t x f=>xV cx tm st t x f
 |.indexAddr t x ix=>ji cx tm st t x ix
 |.index t x ix=>xX cx tm st t x ix
 |.lookup t x ix ok=>oE cx tm st t x ix ok
 |.mapUpdate t m k x=>kB cx tm st t m k x
 |.insert t m k x=>kB cx tm st t m k x
 |.typeAssert x _ asserted ok=>rp cx tm st x asserted ok
 |.extract x i=>nL cx tm st x i
 |.call c=>y5 cx tm st c
 |.defer c=>qk cx tm st c
 |.panic x=>xY cx tm st x
 |.range t x=>xZ cx tm st t x
 |.next x s=>ES cx tm st x s
 |_=>.stuck "operation"
def iK(r:OR)(st:St):cJ:=match r with
 |.val v=>eB 100 st v fun st v=>.ok (.val v,st)
 |r=>.ok (r,st)
def eV(cx:Cx)(tm:List V)(st:St)(o:Oper):cJ:=(km cx tm st o).bind fun(r,st)=>iK r st
inductive En where
 |ret (v:V)
 |panic (v:V)
abbrev j4:=R (En×St)
structure Self where
 code:Option Nat->Code->Fr->St->ec
 loop:Option Nat->Code->Fr->St->ec
 call:FuncId->List V->St->j4
def dQ(tm:List V)(dst:Option Tmp)(v:V):List V:=
 match dst with
 |some d=>Dw tm d v
 |none=>tm
def nk(tm:List V):List Tmp->List V->List V
 |t::ts,a::as=>nk (Dw tm t a) ts as
 |_,_=>tm
def Mu(l:Nat)(e:Ex)(fr:Fr)(st:St):j4:=
 match fr.df with
 |[]=>
  match st.h.get l with
  |some (.loop _ _ tmps params assign body defers)=>
   match e with
   |.normal=>.ok (.ret (.bool (.lit 1)),{st with h:=st.h.set l (.loop .ready none tmps params assign body defers)})
   |.ret=>.ok (.ret (.bool (.lit 0)),{st with h:=st.h.set l (.loop .done (some .ret) tmps params assign body defers)})
   |.exit id=>.ok (.ret (.bool (.lit 0)),{st with h:=st.h.set l (.loop .done (some (.exit id)) tmps params assign body defers)})
   |.panic _=>.stuck "round: panic"
   |.die _=>.stuck "round: panic"
  |_=>.stuck "round: no loop"
 |_=>.stuck "round: defers"
def rW(self:Self)(l:Nat)(body:Code)(e:Ex)(fr:Fr)(st:St):j4:=
 match e with
 |.normal=>
  match st.h.get l with
  |some (.loop state pending tmps params assign body' defers)=>
   match state with
   |.ready=>(self.code (some l) body fr {st with h:=st.h.set l (.loop .busy pending tmps params assign body' defers)}).bind fun(e,fr,st)=>Mu l e fr st
   |_=>.stuck "round: not ready"
  |_=>.stuck "round: no loop"
 |_=>.stuck "round: assign"
def mn(self:Self)(l:Nat)(args:List V)(st:St):j4:=
 match st.h.get l with
 |some (.loop _ _ tmps params assign body _)=>
  match Nat.beq params.toList.length args.length with
  |true=>(self.code (some l) assign {tm:=nk tmps params.toList args,df:=[]} st).bind fun(e,fr,st)=>rW self l body e fr st
  |false=>.stuck "round: arguments"
 |_=>.stuck "round: no loop"
def gK(st:St)(ops:List Oper)(tm:List V)(o:Oper) (k:St->Bool->R (Ex×Fr×St)):ec:=
 match o.guard with
 |none=>k st true
 |some (j,want)=>
  match(nth ops j).bind (·.dst)with
  |none=>k st false
  |some d=>match nth tm d with
   |some (.bool x)=>split st x fun st b=>k st (b==want)
   |some (.ite _ _ _)=>.stuck "guard"
   |some (.any _)=>.stuck "guard"
   |_=>k st false
def Gl{β:Type}(n:Nat)(k:Nat->β):β:=
 match n with
 |0=>k 0
 |m+1=>k (m+1)
def Gk{β:Type}(n:Int)(k:Int->β):β:=
 match n with
 |.ofNat m=>Gl m fun m=>k (.ofNat m)
 |.negSucc m=>Gl m fun m=>k (.negSucc m)
def Gn{β:Type}(x:X)(k:X->β):β:=
 match x with
 |.lit n=>Gk n fun n=>k (.lit n)
 |x=>k x
def pX{β:Type}(v:V)(k:V->β):β:=
 match v with
 |.int a x=>Gn x fun x=>k (.int a x)
 |.bool x=>Gn x fun x=>k (.bool x)
 |v=>k v
noncomputable def ME{β:Type}(l:List V):Nat->V->(List V->β)->β:=
 List.rec (motive:=fun _=>Nat->V->(List V->β)->β) (fun _ _ k=>k []) (fun a l ih n b k=>Nat.rec (motive:=fun _=>β) (k (b::l)) (fun m _=>ih m b fun l=>k (a::l)) n) l
def mc{β:Type}(l:List V)(d:Option Nat)(v:V)(k:List V->β):β:=
 match d with
 |none=>k l
 |some d=>ME l d v k
def xe(cx:Cx)(self:Self)(rnd:Option Nat)(fr:Fr)(st:St)(o:Oper)(k:Fr->St->ec):ec:=
 (eV cx fr.tm st o).bind fun(r,st)=>
  match r with
  |.val v=>pX v fun v=>mc fr.tm o.dst v fun tm=>k {tm:=tm,df:=fr.df} st
  |.skip=>k {fr with tm:=dQ fr.tm o.dst .undef} st
  |.enter f args=>(self.call f args st).bind fun(e,st)=>
   match e with
   |.ret v=>eB 100 st v fun st v=>pX v fun v=>mc fr.tm o.dst v fun tm=>k {tm:=tm,df:=fr.df} st
   |.panic v=>.ok (.panic v,fr,st)
  |.round l args=>(mn self l args st).bind fun(e,st)=>
   match e with
   |.ret v=>k {fr with tm:=dQ fr.tm o.dst v} st
   |.panic _=>.stuck "panic in a round"
  |.panic v=>.ok (.panic v,fr,st)
  |.defer d=>match rnd with
   |none=>k {tm:=dQ fr.tm o.dst .undef,df:=d::fr.df} st
   |some _=>.stuck "defer in a round"
def Vm{β:Type}(h:H)(k:H->β):β:=match h with
 |.nil=>k .nil
 |.node l v r=>k (.node l v r)
def uK{β:Type}(st:St)(k:St->β):β:=match st with
 |⟨h,n,pc⟩=>Gl n fun n=>Vm h fun h=>match pc with
  |[]=>k ⟨h,n,[]⟩
  |f::l=>k ⟨h,n,f::l⟩
def Gj{β:Type}(fr:Fr)(k:Fr->β):β:=match fr with
 |⟨tm,df⟩=>match df with
  |[]=>k ⟨tm,[]⟩
  |d::l=>k ⟨tm,d::l⟩
theorem Ei{β:Type}(n:Nat)(k:Nat->β):Gl n k=k n:=by cases n<;>rfl
theorem R4{β:Type}(h:H)(k:H->β):Vm h k=k h:=by cases h<;>rfl
theorem lI{β:Type}(st:St)(k:St->β):uK st k=k st:=by
 obtain⟨h,n,pc⟩:=st;simp only[uK,Ei,R4];cases pc<;>rfl
theorem oi{β:Type}(fr:Fr)(k:Fr->β):Gj fr k=k fr:=by
 obtain⟨tm,df⟩:=fr;cases df<;>rfl
def sy(cx:Cx)(self:Self)(rnd:Option Nat)(ops:List Oper):List Oper->Fr->St->ec
 |[],fr,st=>.ok (.normal,fr,st)
 |o::rest,fr,st=>Gj fr fun fr=>uK st fun st=>gK st ops fr.tm o fun st w=>
  match w with
  |true=>xe cx self rnd fr st o fun fr st=>sy cx self rnd ops rest fr st
  |false=>mc fr.tm o.dst .undef fun tm=>sy cx self rnd ops rest {fr with tm:=tm} st
end
noncomputable section
theorem andM(a b:Bool):(match a with|true=>b|false=>false)=(a&&b):=by cases a<;>rfl
def lC{α:Type} [DecidableEq α] (a b:α):Bool:=decide (a=b)
def Pb(a b:Value):Bool:=match ofValue a,ofValue b with
 |some u,some v=>u.beq v
 |_,_=>false
def KI(a b:Array Nat):Bool:=fF a.toList b.toList
def aY:Operand->Operand->Bool
 |.tmp a,.tmp b=>Nat.beq a b
 |.const a,.const b=>Pb a b
 |.global a,.global b=>Nat.beq a b
 |.func a,.func b=>Nat.beq a b
 |_,_=>false
def iz{α:Type}(f:α->α->Bool):List α->List α->Bool
 |[],[]=>true
 |a::l,b::m=>match f a b with
  |true=>iz f l m
  |false=>false
 |_,_=>false
def Aa(a b:Array Operand):Bool:=iz aY a.toList b.toList
def kh:Option Operand->Option Operand->Bool
 |none,none=>true
 |some a,some b=>aY a b
 |_,_=>false
def Im(a b:Nat×Operand):Bool:=match Nat.beq a.1 b.1 with
 |true=>aY a.2 b.2
 |false=>false
def Cn (a b:Array (Nat×Operand)):Bool:=iz Im a.toList b.toList
def wQ:Callee->Callee->Bool
 |.value a,.value b=>aY a b
 |.builtin a,.builtin b=>lC a b
 |_,_=>false
def uv(a b:Call):Bool:=match wQ a.callee b.callee with
 |true=>match Aa a.args b.args with
  |true=>KI a.argTypes b.argTypes
  |false=>false
 |false=>false
def Wz:Op->Op->Bool
 |.move a0,.move b0=>aY a0 b0
 |.assign a0,.assign b0=>aY a0 b0
 |.pick a0 a1 a2,.pick b0 b1 b2=>(match aY a0 b0 with|true=>(match aY a1 b1 with|true=>aY a2 b2|false=>false)|false=>false)
 |.alloc a0,.alloc b0=>Nat.beq a0 b0
 |.box a0 a1,.box b0 b1=>(match Nat.beq a0 b0 with|true=>aY a1 b1|false=>false)
 |.build a0 a1,.build b0 b1=>(match Nat.beq a0 b0 with|true=>Cn a1 b1|false=>false)
 |.buildSlice a0 a1 a2,.buildSlice b0 b1 b2=>(match Nat.beq a0 b0 with|true=>(match Nat.beq a1 b1 with|true=>Cn a2 b2|false=>false)|false=>false)
 |.insert a0 a1 a2 a3,.insert b0 b1 b2 b3=>(match Nat.beq a0 b0 with|true=>(match aY a1 b1 with|true=>(match aY a2 b2 with|true=>aY a3 b3|false=>false)|false=>false)|false=>false)
 |.load a0 a1,.load b0 b1=>(match Nat.beq a0 b0 with|true=>aY a1 b1|false=>false)
 |.store a0 a1 a2,.store b0 b1 b2=>(match Nat.beq a0 b0 with|true=>(match aY a1 b1 with|true=>aY a2 b2|false=>false)|false=>false)
 |.ready a0,.ready b0=>Nat.beq a0 b0
 |.waits a0,.waits b0=>Nat.beq a0 b0
 |.nilCheck a0,.nilCheck b0=>aY a0 b0
 |.binOp a0 a1 a2 a3 a4,.binOp b0 b1 b2 b3 b4=>(match lC a0 b0 with|true=>(match Nat.beq a1 b1 with|true=>(match aY a2 b2 with|true=>(match aY a3 b3 with|true=>Nat.beq a4 b4|false=>false)|false=>false)|false=>false)|false=>false)
 |.unOp a0 a1 a2,.unOp b0 b1 b2=>(match lC a0 b0 with|true=>(match Nat.beq a1 b1 with|true=>aY a2 b2|false=>false)|false=>false)
 |.convert a0 a1 a2,.convert b0 b1 b2=>(match Nat.beq a0 b0 with|true=>(match Nat.beq a1 b1 with|true=>aY a2 b2|false=>false)|false=>false)
 |.sliceToArrayPointer a0 a1,.sliceToArrayPointer b0 b1=>(match Nat.beq a0 b0 with|true=>aY a1 b1|false=>false)
 |.makeInterface a0 a1,.makeInterface b0 b1=>(match Nat.beq a0 b0 with|true=>aY a1 b1|false=>false)
 |.makeFunc a0 a1 a2,.makeFunc b0 b1 b2=>(match lC a0 b0 with|true=>(match Aa a1 b1 with|true=>Aa a2 b2|false=>false)|false=>false)
 |.makeMap a0 a1,.makeMap b0 b1=>(match Nat.beq a0 b0 with|true=>kh a1 b1|false=>false)
 |.makeChan a0 a1,.makeChan b0 b1=>(match Nat.beq a0 b0 with|true=>aY a1 b1|false=>false)
 |.makeSlice a0 a1 a2,.makeSlice b0 b1 b2=>(match Nat.beq a0 b0 with|true=>(match aY a1 b1 with|true=>aY a2 b2|false=>false)|false=>false)
 |.slice a0 a1 a2 a3 a4,.slice b0 b1 b2 b3 b4=>(match Nat.beq a0 b0 with|true=>(match aY a1 b1 with|true=>(match kh a2 b2 with|true=>(match kh a3 b3 with|true=>kh a4 b4|false=>false)|false=>false)|false=>false)|false=>false)
 |.fieldAddr a0 a1 a2,.fieldAddr b0 b1 b2=>(match Nat.beq a0 b0 with|true=>(match aY a1 b1 with|true=>Nat.beq a2 b2|false=>false)|false=>false)
 |.field a0 a1 a2,.field b0 b1 b2=>(match Nat.beq a0 b0 with|true=>(match aY a1 b1 with|true=>Nat.beq a2 b2|false=>false)|false=>false)
 |.indexAddr a0 a1 a2,.indexAddr b0 b1 b2=>(match Nat.beq a0 b0 with|true=>(match aY a1 b1 with|true=>aY a2 b2|false=>false)|false=>false)
 |.index a0 a1 a2,.index b0 b1 b2=>(match Nat.beq a0 b0 with|true=>(match aY a1 b1 with|true=>aY a2 b2|false=>false)|false=>false)
 |.lookup a0 a1 a2 a3,.lookup b0 b1 b2 b3=>(match Nat.beq a0 b0 with|true=>(match aY a1 b1 with|true=>(match aY a2 b2 with|true=>j0 a3 b3|false=>false)|false=>false)|false=>false)
 |.mapUpdate a0 a1 a2 a3,.mapUpdate b0 b1 b2 b3=>(match Nat.beq a0 b0 with|true=>(match aY a1 b1 with|true=>(match aY a2 b2 with|true=>aY a3 b3|false=>false)|false=>false)|false=>false)
 |.mapEntry a0 a1 a2,.mapEntry b0 b1 b2=>(match Nat.beq a0 b0 with|true=>(match aY a1 b1 with|true=>aY a2 b2|false=>false)|false=>false)
 |.entryStore a0 a1 a2 a3,.entryStore b0 b1 b2 b3=>(match Nat.beq a0 b0 with|true=>(match aY a1 b1 with|true=>(match aY a2 b2 with|true=>aY a3 b3|false=>false)|false=>false)|false=>false)
 |.range a0 a1,.range b0 b1=>(match Nat.beq a0 b0 with|true=>aY a1 b1|false=>false)
 |.next a0 a1,.next b0 b1=>(match aY a0 b0 with|true=>j0 a1 b1|false=>false)
 |.entry a0,.entry b0=>aY a0 b0
 |.typeAssert a0 a1 a2 a3,.typeAssert b0 b1 b2 b3=>(match aY a0 b0 with|true=>(match Nat.beq a1 b1 with|true=>(match Nat.beq a2 b2 with|true=>j0 a3 b3|false=>false)|false=>false)|false=>false)
 |.extract a0 a1,.extract b0 b1=>(match aY a0 b0 with|true=>Nat.beq a1 b1|false=>false)
 |.call a0,.call b0=>uv a0 b0
 |.go a0,.go b0=>uv a0 b0
 |.defer a0,.defer b0=>uv a0 b0
 |.panic a0,.panic b0=>aY a0 b0
 |.send a0 a1,.send b0 b1=>(match aY a0 b0 with|true=>aY a1 b1|false=>false)
 |.recv a0 a1 a2,.recv b0 b1 b2=>(match Nat.beq a0 b0 with|true=>(match aY a1 b1 with|true=>j0 a2 b2|false=>false)|false=>false)
 |_,_=>false
def F8(a b:Edge):Bool:=match Nat.beq a.on b.on with
 |true=>lC a.ground b.ground
 |false=>false
def jl:Option Nat->Option Nat->Bool
 |none,none=>true
 |some a,some b=>Nat.beq a b
 |_,_=>false
def Bq:Option (Nat×Bool)->Option (Nat×Bool)->Bool
 |none,none=>true
 |some (a,x),some (b,y)=>match Nat.beq a b with
  |true=>j0 x y
  |false=>false
 |_,_=>false
def Ie(a b:Oper):Bool:=match jl a.dst b.dst with
 |true=>match Wz a.op b.op with
  |true=>match Nat.beq a.type b.type with
   |true=>match lC a.pos b.pos with
    |true=>match iz F8 a.after.toList b.after.toList with
     |true=>Bq a.guard b.guard
     |false=>false
    |false=>false
   |false=>false
  |false=>false
 |false=>false
def KU(a b:Array Oper):Bool:=iz Ie a.toList b.toList
def bJ:Code->Code->Bool
 |.skip,.skip=>true
 |.region a0 a1 a2,.region b0 b1 b2=>(match Nat.beq a0 b0 with|true=>(match KU a1 b1 with|true=>j0 a2 b2|false=>false)|false=>false)
 |.seq a0 a1,.seq b0 b1=>(match bJ a0 b0 with|true=>bJ a1 b1|false=>false)
 |.cond a0 a1 a2,.cond b0 b1 b2=>(match aY a0 b0 with|true=>(match bJ a1 b1 with|true=>bJ a2 b2|false=>false)|false=>false)
 |.block a0 a1,.block b0 b1=>(match Nat.beq a0 b0 with|true=>bJ a1 b1|false=>false)
 |.loop a0,.loop b0=>bJ a0 b0
 |.rangeFunc a0 a1 a2 a3,.rangeFunc b0 b1 b2 b3=>(match aY a0 b0 with|true=>(match KI a1 b1 with|true=>(match bJ a2 b2 with|true=>bJ a3 b3|false=>false)|false=>false)|false=>false)
 |.exit a0,.exit b0=>Nat.beq a0 b0
 |.scope a0,.scope b0=>bJ a0 b0
 |.label a0,.label b0=>Nat.beq a0 b0
 |.goto a0,.goto b0=>Nat.beq a0 b0
 |.ret,.ret=>true
 |.refuse a0,.refuse b0=>lC a0 b0
 |_,_=>false
end
noncomputable section
def o7(acc:List Nat):List Edge->Nat
 |[]=>0
 |e::es=>if Region.binds .any e then 2 ^ e.on |||((nth acc e.on).getD 0) |||o7 acc es else o7 acc es
def er:List Oper->List Nat->List Nat
 |[],acc=>acc
 |o::os,acc=>er os (acc++[o7 acc o.after.toList])
def kindOf:Op->Nat
 |.move _|.assign _|.pick _ _ _|.build _ _|.nilCheck _|.binOp _ _ _ _ _|.unOp _ _ _|.convert _ _ _|.makeInterface _ _|.makeFunc _ _ _
 |.slice _ _ _ _ _|.fieldAddr _ _ _|.field _ _ _|.indexAddr _ _ _|.index _ _ _|.extract _ _|.typeAssert _ _ _ _=>0
 |.alloc _|.box _ _|.buildSlice _ _ _|.makeSlice _ _ _=>1
 |.makeMap _ _=>5
 |.load _ _|.lookup _ _ _ _=>2
 |.call c=>match c.callee with
  |.builtin .len=>2
  |.builtin .max|.builtin .min=>0
  |_=>3
 |.insert _ _ _ _=>4
 |_=>3
def tmpsOf:List Operand->List Nat
 |[]=>[]
 |.tmp t::l=>t::tmpsOf l
 |_::l=>tmpsOf l
def dW(n:Nat):List Nat->Bool
 |[]=>false
 |m::l=>Nat.beq n m ||dW n l
def AR:List Oper->List Nat
 |[]=>[]
 |o::l=>match o.dst with
  |some d=>d::AR l
  |none=>AR l
def iC:List Nat->Bool
 |[]=>true
 |n::l=>!dW n l&&iC l
def ou(me bef t:Nat):List Oper->List Nat->Nat->Bool
 |[],_,_=>true
 |o::l,c::cs,i=>(match o.dst with
   |some d=>!Nat.beq d t ||(Nat.testBit bef i ||Nat.testBit c me)
   |none=>true)&&ou me bef t l cs (i+1)
 |_::_,[],_=>false
def lr(all:List Oper)(bs:List Nat)(me bef:Nat):List Nat->Bool
 |[]=>true
 |t::l=>ou me bef t all bs 0&&lr all bs me bef l
def lK(all:List Oper)(o:Oper):List Nat:=
 match o.guard with
 |none=>[]
 |some (j,_)=>match(nth all j).bind (·.dst)with
  |some d=>[d]
  |none=>[]
def EX(all:List Oper)(bsA:List Nat):List Oper->List Nat->Nat->Bool
 |[],_,_=>true
 |o::l,b::bs,i=>lr all bsA i b (tmpsOf o.op.operands.toList)&&lr all bsA i b (lK all o)&&EX all bsA l bs (i+1)
 |_::_,[],_=>false
def wZ(ops:List Oper):Bool:=iC (AR ops)&&EX ops (er ops []) ops (er ops []) 0
structure Sm where
 owner:Nat
 id:Nat
 obj:ak
structure Mk where
 owner:Nat
 id:Nat
 ins:List (Nat×V×V)
structure Rd where
 i:Nat
 tm:List V
 o:Oper
 v:V
structure RS where
 fr:Fr
 st:St
 sm:List Sm
 mm:Option Mk
 bigs:List Nat
 reads:List Rd
 lost:Bool:=false
def within(b done:Nat):Bool:=Nat.beq (b &&& done) b
def de(bef:Nat):List Sm->H->H
 |[],h=>h
 |s::l,h=>if Nat.testBit bef s.owner then(de bef l h).set s.id s.obj else de bef l h
def gS(bef:Nat):List Sm->List Sm
 |[]=>[]
 |s::l=>if Nat.testBit bef s.owner then gS bef l else s::gS bef l
def pA:List Sm->H->H
 |[],h=>h
 |s::l,h=>(pA l h).set s.id s.obj
def iQ:List (Nat×V×V)->List (V×V)
 |[]=>[]
 |(_,k,v)::l=>(k,v)::iQ l
def yF:Option Mk->H->H
 |none,h=>h
 |some m,h=>h.set m.id (.map (iQ m.ins))
def uk(bef:Nat):List Nat->Bool
 |[]=>true
 |g::l=>Nat.testBit bef g&&uk bef l
def nT(cx:Cx)(st:St)(r:Rd):Bool:=
 match eV cx r.tm st r.o with
 |.ok (.val u,_)=>u.beq r.v
 |_=>false
def cZ(cx:Cx)(st:St)(bef:Nat):List Rd->Bool
 |[]=>true
 |r::l=>(Nat.testBit bef r.i ||nT cx st r)&&cZ cx st bef l
def EM(owner:Nat)(h:H)(lo:Nat):List Sm:=
 match h.get lo with
 |some o=>match o.bg with
  |true=>[]
  |false=>[{owner:=owner,id:=lo,obj:=o}]
 |none=>[]
def et:V->V->Bool
 |.int k (.lit a),.int j (.lit b)=>bE k j && !aT a b
 |.str (.slit a),.str (.slit b)=>!fF (a.map (· % 256)) (b.map (· % 256))
 |_,_=>false
def p6(k:V):List (Nat×V×V)->Bool
 |[]=>true
 |(_,k',_)::l=>et k k'&&p6 k l
def q8(cx:Cx)(t:TypeId)(key:V):Bool:=
 match cx.tt.get t with
 |some td=>match td.d with
  |.map keyT _=>match cx.tt.get keyT with
   |some kd=>uS kd.d key
   |none=>false
  |_=>false
 |none=>false
def D5(cx:Cx)(self:Self)(fr:Fr)(st:St)(o:Oper)(k:Fr->St->ec)(kp:V->St->ec):ec:=
 (eV cx fr.tm st o).bind fun(r,st)=>
  match r with
  |.val v=>mc fr.tm o.dst v fun tm=>k {fr with tm:=tm} st
  |.skip=>mc fr.tm o.dst .undef fun tm=>k {fr with tm:=tm} st
  |.enter f args=>(self.call f args st).bind fun(e,st)=>
   match e with
   |.ret v=>mc fr.tm o.dst v fun tm=>k {fr with tm:=tm} st
   |.panic v=>kp v st
  |.round l args=>(mn self l args st).bind fun(e,st)=>
   match e with
   |.ret v=>mc fr.tm o.dst v fun tm=>k {fr with tm:=tm} st
   |.panic _=>.stuck "panic in a round"
  |.panic _=>.stuck "a panic in a drawn region"
  |.defer _=>.stuck "a defer in a drawn region"
def dO:List Nat->Nat->Nat
 |[],d=>d
 |i::l,d=>dO l (d |||2 ^ i)
def sV(bs:List Nat)(i:Nat):List Nat->Bool
 |[]=>true
 |j::l=>match nth bs j with
  |some b=>match Nat.testBit b i with
   |true=>sV bs i l
   |false=>false
  |none=>false
def WG(n:Nat):List Sm->Bool
 |[]=>false
 |s::l=>Nat.beq s.id n ||WG n l
def ab9(l:List Sm):Option V->Bool
 |some (.ptr b _)=>WG b l
 |some (.sptr b _ _ _)=>WG b l
 |_=>false
def aca(op:Op)(a:Operand->Option V)(l:List Sm):Bool:=match op with
 |.load _ x=>ab9 l (a x)
 |_=>false
def IA(op:Op)(a:Operand->Option V):Bool:=match op with
 |.convert _ _ x=>match a x with
  |some (.xslice _ _ _ _ _ _)=>true
  |_=>false
 |_=>false
def iM(op:Op)(a:Operand->Option V)(l:List Sm):Nat:=match kindOf op with
 |2=>match aca op a l with
  |true=>3
  |false=>2
 |0=>match IA op a with
  |true=>2
  |false=>0
 |n=>n
theorem qK{op:Op}{a:Operand->Option V}{l:List Sm}{n:Nat}(h:iM op a l=n)(h3:n≠3)(h2:n≠2):kindOf op=n:=by
 unfold iM at h;split at h
 ·split at h
  ·exact absurd h.symm h3
  ·exact absurd h.symm h2
 ·rename_i h0;split at h
  ·exact absurd h.symm h2
  ·rw[h0];exact h
 ·exact h
def RdK(op:Op)(a:Operand->Option V):Prop:=kindOf op=2\/IA op a=true
theorem MO{op:Op}{a:Operand->Option V}{l:List Sm}(h:iM op a l=2):RdK op a:=by
 unfold iM at h;split at h
 ·rename_i h2;exact .inl h2
 ·split at h
  ·rename_i hr;exact .inr hr
  ·cases h
 ·exact .inl h
def pI(cx:Cx)(self:Self)(i:Nat)(o:Oper)(b:Nat)(rs:RS)(st:St)(dep:Bool)(k:RS->ec):ec:=
 match iM o.op (dM cx rs.fr.tm) rs.sm with
 |0=>(eV cx rs.fr.tm {st with h:=T.nil} o).bind fun(r,st')=>
  match r with
  |.val v=>if Nat.ble st.n st'.n then mc rs.fr.tm o.dst v fun tm=>k {rs with st:={st' with h:=st.h},fr:={rs.fr with tm:=tm}}else .stuck "draw: names"
  |_=>.stuck "draw: value expected"
 |1=>(eV cx rs.fr.tm {st with h:=T.nil} o).bind fun(r,st')=>
  match r with
  |.val v=>if Nat.blt st.n st'.n then mc rs.fr.tm o.dst v fun tm=>k {rs with st:={st' with h:=st.h},sm:=EM i st'.h st.n++rs.sm,fr:={rs.fr with tm:=tm}}else .stuck "draw: names"
  |_=>.stuck "draw: value expected"
 |5=>(eV cx rs.fr.tm {st with h:=T.nil} o).bind fun(r,st')=>
  match r with
  |.val v=>match rs.mm,st'.h.get st.n with
   |none,some (.map [])=>if Nat.blt st.n st'.n then mc rs.fr.tm o.dst v fun tm=>k {rs with st:={st' with h:=st.h},mm:=some {owner:=i,id:=st.n,ins:=[]},fr:={rs.fr with tm:=tm}}else .stuck "draw: names"
   |_,_=>.stuck "draw: map"
  |_=>.stuck "draw: value expected"
 |2=>(eV cx rs.fr.tm st o).bind fun(r,st')=>
  match r with
  |.val v=>mc rs.fr.tm o.dst v fun tm=>k {rs with st:=st',reads:={i:=i,tm:=rs.fr.tm,o:=o,v:=v}::rs.reads,fr:={rs.fr with tm:=tm}}
  |_=>.stuck "draw: value expected"
 |4=>match o.op with
  |.insert t m key x=>match dM cx rs.fr.tm m,dM cx rs.fr.tm key,dM cx rs.fr.tm x,rs.mm with
   |some (.map mb),some kv,some xv,some mk=>match Nat.beq mb mk.id,Nat.testBit b mk.owner,q8 cx t kv,p6 kv mk.ins with
    |true,true,true,true=>mc rs.fr.tm o.dst .undef fun tm=>k {rs with st:=st,mm:=some {mk with ins:=(i,kv,xv)::mk.ins},fr:={rs.fr with tm:=tm}}
    |_,_,_,_=>.stuck "draw: insert"
   |_,_,_,_=>.stuck "draw: insert"
  |_=>.stuck "draw: insert"
 |_=>
  D5 cx self rs.fr {st with h:=de b rs.sm st.h} o (fun fr st'=>
   if Nat.ble st.n st'.n&&cZ cx st' b rs.reads then
    k {fr:=fr,st:=st',sm:=gS b rs.sm,mm:=rs.mm,bigs:=i::rs.bigs,reads:=rs.reads}
   else .stuck "draw: a reader sees other things") fun v st'=>match rs.fr.df with
    |[]=>match dep,cZ cx {st with h:=de b rs.sm st.h} b rs.reads with
     |true,true=>.ok (.die v,rs.fr,st')
     |_,_=>.stuck "a panic in a drawn region"
    |_=>.stuck "a panic in a drawn region"
def U2(t:Nat):List Oper->Option Op
 |[]=>none
 |o::l=>match o.dst with
  |some d=>match Nat.beq d t with
   |true=>some o.op
   |false=>U2 t l
  |none=>U2 t l
def BN(all:List Oper):Nat->Operand->Bool
 |0,_=>false
 |n+1,.tmp t=>match U2 t all with
  |some (.indexAddr _ x _)=>BN all n x
  |some (.fieldAddr _ x _)=>BN all n x
  |some (.alloc _)=>true
  |some (.buildSlice _ _ _)=>true
  |_=>false
 |_,_=>false
def VC(all:List Oper)(o:Oper):Bool:=match kindOf o.op with
 |3=>true
 |2=>match o.op with
  |.load _ a=>BN all 5 a
  |_=>false
 |_=>false
def Ri(all:List Oper):List (Nat×Oper×Nat)->Nat->List Nat×List (Nat×Oper×Nat)
 |[],_=>([],[])
 |(i,o,b)::l,left=>match Ri all l left with
  |(a,r)=>match !VC all o&&Nat.beq (b &&& left) 0 with
   |true=>(i::a,r)
   |false=>(a,(i,o,b)::r)
def Rf(all:List Oper):List (Nat×Oper×Nat)->Option (Nat×List (Nat×Oper×Nat))
 |[]=>none
 |(i,o,b)::l=>match VC all o with
  |true=>some (i,l)
  |false=>match Rf all l with
   |some (j,r)=>some (j,(i,o,b)::r)
   |none=>none
def order(all:List Oper):Nat->Nat->List (Nat×Oper×Nat)->List Nat
 |0,_,_=>[]
 |n+1,left,l=>match Ri all l left with
  |(a,r)=>match Rf all r with
   |some (g,r)=>a++g::order all n (left-2 ^ g) r
   |none=>a
def FP(all:List Oper):Nat->List Oper->Nat
 |_,[]=>0
 |i,o::l=>match VC all o with
  |true=>2 ^ i+FP all (i+1) l
  |false=>FP all (i+1) l
def KN:Nat->List Oper->List Nat->List (Nat×Oper×Nat)
 |i,o::l,b::bs=>(i,o,b)::KN (i+1) l bs
 |_,_,_=>[]
def Ik(ops:List Oper)(bs:List Nat):List Nat:=order ops (ops.length+1) (FP ops 0 ops) (KN 0 ops bs)
def lE(cx:Cx)(self:Self)(ops:List Oper)(bs:List Nat):List Nat->Nat->RS->ec
 |[],done,rs=>match Nat.beq (done+1) (2 ^ ops.length)with
  |true=>.ok (.normal,rs.fr,{rs.st with h:=yF rs.mm (pA rs.sm rs.st.h)})
  |false=>.stuck "draw: not all"
 |i::rest,done,rs=>match nth ops i,nth bs i with
  |some o,some b=>match within b done&&uk b rs.bigs && !Nat.testBit done i with
   |true=>gK rs.st ops rs.fr.tm o fun st w=>
    match w with
    |false=>mc rs.fr.tm o.dst .undef fun tm=>lE cx self ops bs rest (done |||2 ^ i) {rs with st:=st,fr:={rs.fr with tm:=tm}}
    |true=>pI cx self i o b rs st (sV bs i rest&&Nat.beq (dO rest (done |||2 ^ i)+1) (2 ^ ops.length)) (lE cx self ops bs rest (done |||2 ^ i))
   |false=>.stuck "draw: two calls"
  |_,_=>.stuck "draw"
def drawn(cx:Cx)(self:Self)(ops:List Oper)(bs:List Nat)(fr:Fr)(st:St):ec:=
 lE cx self ops bs (Ik ops bs) 0 {fr:=fr,st:=st,sm:=[],mm:=none,bigs:=[],reads:=[]}
def wg(cx:Cx)(tm:List V)(h:H):ResultVar->Option V
 |.tmp t=>match nth tm t with
  |some v=>some v
  |none=>some .undef
 |.cell a t=>match cx.tt.get t,nth tm a with
  |some td,some (.ptr b off)=>match cN h b off td.size with
   |some cs=>if td.agg then some (.agg cs)else(match cs with|[v]=>some v|_=>none)
   |none=>none
  |_,_=>none
def jY(cx:Cx)(tm:List V)(h:H):List ResultVar->Option (List V)
 |[]=>some []
 |r::rs=>match wg cx tm h r,jY cx tm h rs with
  |some v,some vs=>some (v::vs)
  |_,_=>none
def qB(cx:Cx)(fn:Func)(tm:List V)(h:H):Option V:=
 match jY cx tm h fn.results.toList with
 |some [v]=>some v
 |some vs=>some (.tuple vs)
 |none=>none
def leave(cx:Cx)(fn:Func)(tm:List V):Option V->List cz->St->j4
 |e,[],st=>match e with
  |none=>match qB cx fn tm st.h with
   |some v=>.ok (.ret v,st)
   |none=>.stuck "results"
  |some p=>.ok (.panic p,st)
 |e,.mark b::ds,st=>match st.h.get b with
  |some (.deferred (some []))=>leave cx fn tm e ds {st with h:=st.h.set b (.deferred none)}
  |_=>.stuck "mark"
 |e,.fn f cap args::ds,st=>match f with
  |.func g=>match cx.dm g with
   |some s=>(s (args++cap) st e).bind fun(e',st')=>leave cx fn tm e' ds st'
   |none=>.stuck "deferred call"
  |_=>.stuck "deferred call"
def Mh(cx:Cx)(f:FuncId)(args:List V)(st:St):Option (List V->St->R (V×St)):=match cx.sm f with
 |some s=>match cx.so f args st with
  |true=>some s
  |false=>none
 |none=>none
def tg(cx:Cx)(self:Self)(f:FuncId)(args:List V)(st:St):j4:=
 match Mh cx f args st with
 |some s=>(s args st).bind fun(v,st)=>.ok (.ret v,st)
 |none=>
  match cx.ft.get f with
  |none=>.stuck "no function"
  |some fn=>
   match fn.body with
   |none=>.stuck "no body"
   |some body=>
    (self.code none body {tm:=args++List.replicate (fn.ntmps-args.length) .undef,df:=[]} st).bind fun(e,fr,st)=>
     match e with
     |.normal=>leave cx fn fr.tm none fr.df st
     |.ret=>leave cx fn fr.tm none fr.df st
     |.panic v=>leave cx fn fr.tm (some v) fr.df st
     |.die v=>match fr.df with
      |[]=>.ok (.panic v,st)
      |_=>.stuck "die"
     |.exit _=>.stuck "exit"
def rU(self:Self)(rnd:Option Nat)(g:FuncId)(first cap:List V)(params:Array Tmp)(assign body:Code)(tm:List V)(df:List cz)(D:Nat)(st:St):ec:=
 (self.call g (first++.yield st.n::cap) (newObj st (.loop .ready none tm params assign body D))).bind fun(e,st1)=>
  match e with
  |.panic _=>.stuck "panic out of a range"
  |.ret _=>
   match st1.h.get st.n with
   |some (.loop state pending tmps params assign body D)=>
    match state with
    |.busy=>.stuck "loop busy"
    |_=>
     match pending with
     |none=>.ok (.normal,{tm:=tm,df:=df},{st1 with h:=st1.h.set st.n (.loop .exhausted none tmps params assign body D)})
     |some c=>self.code rnd c {tm:=tm,df:=df} {st1 with h:=st1.h.set st.n (.loop .exhausted (some c) tmps params assign body D)}
   |_=>.stuck "loop"
def uE(cx:Cx)(self:Self)(rnd:Option Nat)(f:Operand)(params:Array Tmp)(assign body:Code)(fr:Fr)(st:St):ec:=
 match dM cx fr.tm f with
 |some (.func (.func g) first cap)=>
  match cx.ft.get g with
  |none=>.stuck "range: unknown function"
  |some _=>
   match rnd with
   |some l=>match st.h.get l with
    |some (.loop _ _ _ _ _ _ D)=>rU self rnd g first cap params assign body fr.tm fr.df D st
    |_=>.stuck "loop"
   |none=>rU self rnd g first cap params assign body fr.tm (.mark st.n::fr.df) st.n (newObj st (.deferred (some [])))
 |_=>.stuck "range over what?"
def pM(cx:Cx)(self:Self)(rnd:Option Nat)(c:Code)(fr:Fr)(st:St):ec:=
 match c with
 |.skip=>.ok (.normal,fr,st)
 |.label _=>.ok (.normal,fr,st)
 |.exit id=>.ok (.exit id,fr,st)
 |.ret=>.ok (.ret,fr,st)
 |.seq a b=>(self.code rnd a fr st).bind fun(e,fr,st)=>
  match e with
  |.normal=>self.code rnd b fr st
  |.exit id=>.ok (.exit id,fr,st)
  |.ret=>.ok (.ret,fr,st)
  |.panic v=>.ok (.panic v,fr,st)
  |.die v=>.ok (.die v,fr,st)
 |.cond c x y=>match dM cx fr.tm c with
  |some (.bool b)=>split st b fun st t=>match t with
   |true=>self.code rnd x fr st
   |false=>self.code rnd y fr st
  |_=>.stuck "cond"
 |.block id body=>(self.code rnd body fr st).bind fun(e,fr,st)=>
  match e with
  |.exit i=>match Nat.beq i id with
   |true=>.ok (.normal,fr,st)
   |false=>.ok (.exit i,fr,st)
  |.normal=>.ok (.normal,fr,st)
  |.ret=>.ok (.ret,fr,st)
  |.panic v=>.ok (.panic v,fr,st)
  |.die v=>.ok (.die v,fr,st)
 |.loop body=>self.loop rnd body fr st
 |.scope body=>self.code rnd body fr st
 |.region _ ops draw=>
  match draw with
  |false=>sy cx self rnd ops.toList ops.toList fr st
  |true=>if wZ ops.toList then drawn cx self ops.toList (er ops.toList []) fr st else .stuck "draw: temporaries"
 |.rangeFunc f params assign body=>uE cx self rnd f params assign body fr st
 |_=>.stuck "code"
def qW(self:Self)(rnd:Option Nat)(body:Code)(fr:Fr)(st:St):ec:=
 (self.code rnd body fr st).bind fun(e,fr,st)=>
  match e with
  |.normal=>self.loop rnd body fr st
  |.exit id=>.ok (.exit id,fr,st)
  |.ret=>.ok (.ret,fr,st)
  |.panic v=>.ok (.panic v,fr,st)
  |.die v=>.ok (.die v,fr,st)
def A4(cx:Cx)(self:Self)(rnd:Option Nat)(body:Code)(fr:Fr)(st:St):ec:=match cx.lp with
 |none=>qW self rnd body fr st
 |some lp=>match lp rnd body fr st with
  |none=>qW self rnd body fr st
  |some r=>r
def IJ:cz->cz->Bool
 |.fn (.func f) a b,.fn (.func g) c d=>Nat.beq f g&&V.cM a c&&V.cM b d
 |.mark b,.mark c=>Nat.beq b c
 |_,_=>false
def fm:List cz->List cz->Bool
 |[],[]=>true
 |a::l,b::m=>IJ a b&&fm l m
 |_,_=>false
def OD:Option Nat->Option Nat->Bool
 |none,none=>true
 |some a,some b=>Nat.beq a b
 |_,_=>false
def xz(c:X):List (V×V)->List (V×V)->Option (List (V×V))
 |[],[]=>some []
 |(k,v)::l,(j,u)::m=>match k.beq j with
  |true=>match xz c l m with
   |some r=>some ((k,cm c v u)::r)
   |none=>none
  |false=>none
 |_,_=>none
def bc(a b c d e f:Bool):Bool:=match a with
 |false=>false
 |true=>match b with
  |false=>false
  |true=>match c with
   |false=>false
   |true=>match d with
    |false=>false
    |true=>match e with
     |false=>false
     |true=>f
def A.beq:A->A->Bool
 |.base t,.base u=>Nat.beq t u
 |.fill x,.fill y=>x.beq y
 |.put a i c x,.put b j d y=>bc (a.beq b) (i.beq j) (Nat.beq c d) (x.beq y) true true
 |_,_=>false
def QA(a b:V×V):Bool:=bc (a.1.beq b.1) (a.2.beq b.2) true true true true
def oG:Option Code->Option Code->Bool
 |none,none=>true
 |some a,some b=>bJ a b
 |_,_=>false
def yb:Option (List cz)->Option (List cz)->Bool
 |none,none=>true
 |some a,some b=>fm a b
 |_,_=>false
def ak.beq:ak->ak->Bool
 |.cells c e w,.cells c' e' w'=>bc (Nat.beq e e') (jl w w') (V.cM c c') true true true
 |.map es,.map es'=>iz QA es es'
 |.loop s p t ps as bd d,.loop s' p' t' ps' as' bd' d'=>bc (lC s s') (oG p p') (V.cM t t') (Nat.beq d d') (KI ps ps') (bc (bJ as as') (bJ bd bd') true true true true)
 |.deferred a,.deferred b=>yb a b
 |.ro t c,.ro t' c'=>bc (Nat.beq t t') (V.cM c c') true true true true
 |.win t c n es,.win t' c' n' es'=>bc (Nat.beq t t') (V.cM c c') (n.beq n') (Nat.beq es es') true true
 |.iter a,.iter b=>jl a b
 |.arr a ks n e w,.arr a' ks' n' e' w'=>bc (a.beq a') (CK.cM ks ks') (n.beq n') (Nat.beq e e') (j0 w w') true
 |.warr g t ks n,.warr g' t' ks' n'=>bc (Nat.beq g g') (Nat.beq t t') (CK.cM ks ks') (n.beq n') true true
 |.opt x c e,.opt y d f=>bc (Nat.beq e f) (x.beq y) (V.cM c d) true true true
 |_,_=>false
def om(c:X):ak->ak->Option ak
 |.cells l e w,.cells m e' w'=>match Nat.beq e e',OD w w' with
  |true,true=>match dP c l m with
   |some r=>some (.cells r e w)
   |none=>none
  |_,_=>none
 |.map es,.map es'=>match xz c es es' with
  |some r=>some (.map r)
  |none=>none
 |.deferred (some []),.deferred (some [])=>some (.deferred (some []))
 |.deferred none,.deferred none=>some (.deferred none)
 |.ro t l,.ro t' m=>match Nat.beq t t',V.cM l m with
  |true,true=>some (.ro t l)
  |_,_=>none
 |.win t l n es,.win t' m n' es'=>match Nat.beq t t',V.cM l m with
  |true,true=>match n.beq n',Nat.beq es es' with
   |true,true=>some (.win t l n es)
   |_,_=>none
  |_,_=>none
 |a,b=>match a.beq b with
  |true=>some a
  |false=>none
def VI(c:X):Option ak->Option ak->Option (Option ak)
 |some a,some b=>some (om c a b)
 |_,_=>some none
def Kj(c:X):H->H->Option H
 |.node l v r,.node l' v' r'=>match VI c v v' with
  |none=>none
  |some v=>match Kj c l l' with
   |none=>none
   |some l=>match Kj c r r' with
    |none=>none
    |some r=>some (.node l v r)
 |_,_=>some .nil
def abR(a b:Nat):Nat:=match Nat.ble a b with
 |true=>b
 |false=>a
def xD(pc:PC)(c:X)(a b:St):Option St:=match Kj c a.h b.h with
 |some h=>some {h:=h,n:=abR a.n b.n,pc:=pc}
 |none=>none
def tj:Ex->Ex->Bool
 |.normal,.normal=>true
 |.exit i,.exit j=>Nat.beq i j
 |.ret,.ret=>true
 |_,_=>false
def qZ{β:Type}:List V->(List V->β)->β
 |[],k=>k []
 |v::l,k=>pX v fun v=>qZ l fun l=>k (v::l)
def BA(pc:PC)(c:X)(a b:Ex×Fr×St):Option (Ex×Fr×St):=
 match a,b with
 |(e,fr,st),(e',fr',st')=>match tj e e',fm fr.df fr'.df with
  |true,true=>match dP c fr.tm fr'.tm with
   |some tm=>match xD pc c st st' with
    |some st=>qZ tm fun tm=>some (e,{tm:=tm,df:=fr.df},st)
    |none=>none
   |none=>none
  |_,_=>none
def GJ(pc:PC)(c:X)(a b:En×St):Option (En×St):=
 match a,b with
 |(.ret v,st),(.ret u,st')=>match cm c v u with
  |v=>match v.isIte with
   |true=>none
   |false=>match xD pc c st st' with
    |some st=>some (.ret v,st)
    |none=>none
 |_,_=>none
def eY{α:Type}(j:PC->X->α->α->Option α):PC->R α->R α
 |_,.ok a=>.ok a
 |_,.stuck s=>.stuck s
 |pc,.br c t f=>match eY j ((c,true)::pc) t,eY j ((c,false)::pc) f with
  |.ok a,.ok b=>match j pc c a b with
   |some r=>.ok r
   |none=>.br c (.ok a) (.ok b)
  |t,f=>.br c t f
def acG:Op->Bool
 |.call c=>match c.callee with
  |.builtin _=>true
  |_=>false
 |_=>true
def MK:List Oper->Bool
 |[]=>true
 |o::l=>match acG o.op with
  |true=>MK l
  |false=>false
def oV:Code->Bool
 |.skip=>true
 |.region _ ops _=>MK ops.toList
 |.seq a b=>match oV a with
  |true=>oV b
  |false=>false
 |.cond _ a b=>match oV a with
  |true=>oV b
  |false=>false
 |.block _ c=>oV c
 |.scope c=>oV c
 |.exit _=>true
 |_=>false
def VJ(js:Bool)(c:Code):Bool:=match c with
 |.cond _ a b=>match js with
  |true=>match oV a with
   |true=>oV b
   |false=>false
  |false=>true
 |.block _ c=>match js with
  |true=>oV c
  |false=>true
 |_=>false
def VK(cx:Cx):Bool:=match cx.js with
 |true=>false
 |false=>cx.mg
def V9(w:List Nat):List Nat->List Nat
 |[]=>[]
 |t::l=>match dW t w with
  |true=>V9 w l
  |false=>t::V9 w l
def Q3(w:List Nat):List Oper->List Nat
 |[]=>[]
 |o::l=>V9 w (tmpsOf o.op.operands.toList)++Q3 (match o.dst,o.guard with
  |some d,none=>d::w
  |_,_=>w) l
def IX:Code->List Nat
 |.cond c _ _=>tmpsOf [c]
 |.region _ ops _=>Q3 [] ops.toList
 |.rangeFunc f _ _ _=>tmpsOf [f]
 |_=>[]
def jQ(st:St)(tm:List V):List Nat->(St->List V->ec)->ec
 |[],k=>k st tm
 |t::ts,k=>match nth tm t with
  |some v=>match v.isIte with
   |true=>eB 100 st v fun st v=>jQ st (Dw tm t v) ts k
   |false=>jQ st tm ts k
  |none=>jQ st tm ts k
def xd(cx:Cx)(self:Self)(rnd:Option Nat)(c:Code)(fr:Fr)(st:St):ec:=match IX c with
 |[]=>pM cx self rnd c fr st
 |t::ts=>jQ st fr.tm (t::ts) fun st tm=>pM cx self rnd c {tm:=tm,df:=fr.df} st
def uA(cx:Cx)(self:Self)(rnd:Option Nat)(c:Code)(fr:Fr)(st:St):ec:=
 Gj fr fun fr=>uK st fun st=>
 match cx.mg with
 |false=>pM cx self rnd c fr st
 |true=>match VJ cx.js c with
  |true=>eY BA st.pc (xd cx self rnd c fr st)
  |false=>xd cx self rnd c fr st
def uz(cx:Cx)(self:Self)(f:FuncId)(args:List V)(st:St):j4:=
 match VK cx with
 |false=>tg cx self f args st
 |true=>eY GJ st.pc (tg cx self f args st)
def ev(cx:Cx):Nat->Self
 |0=>{code:=fun _ _ _ _=>.stuck "fuel", loop:=fun _ _ _ _=>.stuck "fuel", call:=fun _ _ _=>.stuck "fuel" }
 |n+1=>{code:=uA cx (ev cx n),loop:=A4 cx (ev cx n),call:=uz cx (ev cx n)}
end
end Go.Proofs.YtgcbnjpeifigaaaGreatDoor
