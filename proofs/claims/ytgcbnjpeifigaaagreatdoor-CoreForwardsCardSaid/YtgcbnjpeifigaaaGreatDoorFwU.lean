/- Symbolic execution: the evaluator with tries does what the one with lists does. No condition. -/
import Derived.Test.YtgcbnjpeifigaaaGreatDoorFwT
import Derived.Test.YtgcbnjpeifigaaaGreatDoorFwD
namespace Go.Proofs.YtgcbnjpeifigaaaGreatDoor
open Go
section
variable {α β:Type}
theorem T.abM:∀ (t:T α) (bs:List Bool),t.look bs=t.fJ bs:=by
 intro t;induction t with
 |nil=>intro bs;cases bs<;>rfl
 |node l v r il ir=>
  intro bs;cases bs with
  |nil=>rfl
  |cons b bs=>cases b with
   |true=>exact ir bs
   |false=>exact il bs
theorem T.GV:∀ (bs:List Bool) (v:α) (k:T α->β),T.apt bs v k=k (T.iL bs .nil (some v))
 |[],v,k=>rfl
 |b::bs,v,k=>by
  cases b with
  |true=>exact T.GV bs v fun x=>k (.node .nil none x)
  |false=>exact T.GV bs v fun x=>k (.node x none .nil)
theorem T.cY:∀ (t:T α) (bs:List Bool) (v:α) (k:T α->β),t.mc bs v k=k (T.iL bs t (some v)):=by
 intro t;induction t with
 |nil=>intro bs v k;exact T.GV bs v k
 |node l u r il ir=>
  intro bs v k;cases bs with
  |nil=>rfl
  |cons b bs=>cases b with
   |true=>exact ir bs v fun x=>k (.node l u x)
   |false=>exact il bs v fun x=>k (.node x u r)
end
theorem Tm.CY(m:Tm)(i:Nat):m.val i=(m.t.get i).getD .undef:=by
 unfold Tm.val;rw[T.abM];show _=(m.t.fJ (bitsOf i)).getD .undef;cases m.t.fJ (bitsOf i)<;>rfl
theorem Tm.yY(m:Tm)(i:Nat):m.l[i]?=if i<m.n then some (m.val i)else none:=by
 unfold Tm.l;rw[qk5];by_cases h:i<m.n
 ·rw[if_pos h,List.getElem?_range h];rfl
 ·rw[if_neg h,qkj (by simpa using h)];rfl
theorem Tm.get_eq(m:Tm)(i:Nat):m.get i=nth m.l i:=by
 rw[cr,Tm.yY];unfold Tm.get;cases h:Nat.blt i m.n with
 |true=>
  have h2:i<m.n:=qqx h;rw[if_pos h2]
 |false=>
  have h2:¬i<m.n:=fun h2=>by rw[show Nat.blt i m.n=true from qkq h2]at h;cases h
  rw[if_neg h2]
theorem Tm.Am{β:Type}(m:Tm)(i:Nat)(v:V)(k:Tm->β):m.ME i v k=k (m.set i v):=by
 unfold Tm.set Tm.ME;simp only[T.cY]
theorem Tm.adt(m:Tm)(i:Nat)(v:V):(m.set i v).l=Dw m.l i v:=by
 have e:m.set i v=⟨m.n,m.t.set i v⟩:=by
  unfold Tm.set Tm.ME;simp only[T.cY];rfl
 rw[mJ,e];refine List.ext_getElem? fun j=>?_
 rw[Tm.yY,List.getElem?_set,Tm.yY];have hl:m.l.length=m.n:=by simp[Tm.l]
 by_cases hij:i=j
 ·subst hij;simp only[Tm.CY,T.aP,if_true,hl];by_cases h:i<m.n<;>simp[h]
 ·simp only[Tm.CY,T.aB _ _ hij,if_neg hij]
theorem Tm.WN(m:Tm)(d:Option Tmp)(v:V):(Tm.dQ m d v).l=_root_.Go.Proofs.YtgcbnjpeifigaaaGreatDoor.dQ m.l d v:=by
 cases d with
 |none=>rfl
 |some d=>exact Tm.adt m d v
theorem jU{β:Type}(m:Tm)(d:Option Tmp)(v:V)(k:Tm->β):nN m d v k=k (m.dQ d v):=by
 cases d with
 |none=>rfl
 |some d=>exact Tm.Am m d v k
def D8:Nat->List V->T V->T V
 |_,[],t=>t
 |i,v::l,t=>D8 (i+1) l (t.set i v)
theorem Bd{β:Type}:∀ (i:Nat) (l:List V) (t:T V) (k:T V->β),JT i l t k=k (D8 i l t)
 |_,[],t,k=>rfl
 |i,v::l,t,k=>by
  unfold JT D8;rw[fh,T.cY];exact Bd (i+1) l _ k
theorem xi:∀ (l:List V) (i:Nat) (t:T V) (j:Nat),(D8 i l t).get j=if i<=j/\j-i<l.length then l[j-i]? else t.get j
 |[],i,t,j=>by simp[D8]
 |v::l,i,t,j=>by
  unfold D8;rw[xi l (i+1)];by_cases h1:i+1<=j/\j-(i+1)<l.length
  ·rw[if_pos h1,if_pos ⟨by omega,by simp;omega⟩,show j-i=(j-(i+1))+1 by omega,List.getElem?_cons_succ]
  ·rw[if_neg h1];by_cases h2:i=j
   ·subst h2;rw[T.aP,if_pos ⟨by omega,by simp⟩,Nat.sub_self];rfl
   ·rw[T.aB _ _ h2,if_neg];rintro⟨h3,h4⟩;simp at h4;exact h1 ⟨by omega,by omega⟩
theorem abW(l:List V):(Tm.of l).l=l:=by
 unfold Tm.of;rw[Bd];refine List.ext_getElem? fun j=>?_
 rw[Tm.yY,Tm.CY];simp only[xi];by_cases h:j<l.length
 ·rw[if_pos h,if_pos ⟨by omega,by simpa using h⟩,Nat.sub_zero,qq0 h];rfl
 ·rw[if_neg h,qkj (by omega)]
theorem acJ(n:Nat)(args:List V):(Tm.start n args).l=args++List.replicate (n-args.length) .undef:=by
 unfold Tm.start;rw[Bd];refine List.ext_getElem? fun j=>?_
 rw[Tm.yY,Tm.CY];simp only[xi];by_cases h:j<args.length
 ·rw[if_pos (by omega),if_pos ⟨by omega,by simpa using h⟩,Nat.sub_zero,qq0 h,qk1 h,qq0 h];rfl
 ·have h3:¬(0<=j/\j-0<args.length):=fun hh=>h (by simpa using hh.2)
  rw[qz0 (by omega),List.getElem?_replicate];simp only[h3,if_false,T.get_nil];by_cases h2:j<args.length+(n-args.length)
  ·rw[if_pos h2,if_pos (by omega)];rfl
  ·rw[if_neg h2,if_neg (by omega)]
theorem xC{β:Type}(c:X)(a b:Option V)(k:Option V->β):∃ r,GK c a b k=k r/\Qx r=cm c (Qx a) (Qx b):=by
 cases a with
 |none=>cases b with
  |none=>exact⟨none,rfl,rfl⟩
  |some b=>exact⟨some (cm c .undef b),fh (cm c .undef b) fun v=>k (some v),rfl⟩
 |some a=>exact⟨some (cm c a (Qx b)),fh (cm c a (Qx b)) fun v=>k (some v),rfl⟩
theorem anw(o:Option V):o.getD .undef=Qx o:=by cases o<;>rfl
theorem BC{β:Type}(c:X):∀ (t:T V) (k:T V->β),∃ r,yU c t k=k r/\∀ bs,Qx (r.fJ bs)=cm c .undef (Qx (t.fJ bs))
 |.nil,k=>⟨.nil,rfl,fun bs=>by rw[T.fi];rfl⟩
 |.node l v r,k=>by
  obtain⟨v1,e1,h1⟩:=xC (β:=β) c none v fun v=>yU c l fun l=>yU c r fun r=>k (.node l v r)
  obtain⟨l1,e2,h2⟩:=BC c l fun l=>yU c r fun r=>k (.node l v1 r)
  obtain⟨r1,e3,h3⟩:=BC c r fun r=>k (.node l1 v1 r)
  refine⟨.node l1 v1 r1,by unfold yU;rw[e1,e2,e3],fun bs=>?_⟩;cases bs with
  |nil=>exact h1
  |cons b bs=>cases b with
   |true=>exact h3 bs
   |false=>exact h2 bs
theorem BB{β:Type}(c:X):∀ (t:T V) (k:T V->β),∃ r,yT c t k=k r/\∀ bs,Qx (r.fJ bs)=cm c (Qx (t.fJ bs)) .undef
 |.nil,k=>⟨.nil,rfl,fun bs=>by rw[T.fi];rfl⟩
 |.node l v r,k=>by
  obtain⟨v1,e1,h1⟩:=xC (β:=β) c v none fun v=>yT c l fun l=>yT c r fun r=>k (.node l v r)
  obtain⟨l1,e2,h2⟩:=BB c l fun l=>yT c r fun r=>k (.node l v1 r)
  obtain⟨r1,e3,h3⟩:=BB c r fun r=>k (.node l1 v1 r)
  refine⟨.node l1 v1 r1,by unfold yT;rw[e1,e2,e3],fun bs=>?_⟩;cases bs with
  |nil=>exact h1
  |cons b bs=>cases b with
   |true=>exact h3 bs
   |false=>exact h2 bs
theorem xE{β:Type}(c:X):∀ (t u:T V) (k:T V->β),∃ r,m4 c t u k=k r/\∀ bs,Qx (r.fJ bs)=cm c (Qx (t.fJ bs)) (Qx (u.fJ bs))
 |.nil,u,k=>by
  obtain⟨r,e,h⟩:=BC c u k;exact⟨r,by unfold m4;exact e,fun bs=>by rw[h,T.fi];rfl⟩
 |.node l v r,u,k=>by
  cases u with
  |nil=>
   obtain⟨x,e,h⟩:=BB c (.node l v r) k;exact⟨x,by unfold m4;exact e,fun bs=>by rw[h,T.fi];rfl⟩
  |node l' v' r'=>
   obtain⟨v1,e1,h1⟩:=xC (β:=β) c v v' fun v=>m4 c l l' fun l=>m4 c r r' fun r=>k (.node l v r)
   obtain⟨l1,e2,h2⟩:=xE c l l' fun l=>m4 c r r' fun r=>k (.node l v1 r)
   obtain⟨r1,e3,h3⟩:=xE c r r' fun r=>k (.node l1 v1 r)
   refine⟨.node l1 v1 r1,by unfold m4;dsimp only;rw[e1,e2,e3],fun bs=>?_⟩;cases bs with
   |nil=>exact h1
   |cons b bs=>cases b with
    |true=>exact h3 bs
    |false=>exact h2 bs
theorem yX(c:X):∀ (l m:List V),l.length=m.length->dP c l m=some (List.zipWith (cm c) l m)
 |[],[],_=>by unfold dP;rfl
 |a::l,b::m,h=>by
  unfold dP;dsimp only;rw[yX c l m (by simpa using h)];rfl
 |[],_::_,h=>by simp at h
 |_::_,[],h=>by simp at h
theorem yW(c:X):∀ (l m:List V),l.length≠m.length->dP c l m=none
 |[],[],h=>absurd rfl h
 |a::l,b::m,h=>by
  unfold dP;dsimp only;rw[yW c l m (by simpa using h)]
 |[],_::_,_=>by unfold dP;rfl
 |_::_,[],_=>by unfold dP;rfl
theorem P7(m:Tm):m.l.length=m.n:=by simp[Tm.l]
theorem Sj(c:X)(a b:Tm):(GL c a b).map Tm.l=dP c a.l b.l:=by
 obtain⟨n,t⟩:=a;obtain⟨m,u⟩:=b;unfold GL;dsimp only;split
 ·rename_i h;obtain rfl:=qqq h;obtain⟨r,e,hr⟩:=xE c t u fun t=>some (Tm.mk n t)
  rw[e,yX c _ _ (by rw[P7,P7])];simp only[Option.map_some,qqk];refine List.ext_getElem? fun j=>?_
  rw[List.getElem?_zipWith,Tm.yY,Tm.yY,Tm.yY];by_cases h:j<n
  ·simp only[h,if_true,Tm.CY,anw];exact congrArg some (hr (bitsOf j))
  ·simp[h]
 ·rename_i h;rw[yW c _ _ fun e=>by rw[P7,P7]at e;dsimp only at e;subst e;rw[qz6]at h;cases h];rfl
theorem Se(v:V):v.Gx=v.isIte:=by cases v<;>rfl
theorem bt(cx:Cx)(tm:Tm)(o:Operand):cV cx tm o=dM cx tm.l o:=by
 cases o with
 |tmp t=>
  simp only[cV,dM,Tm.get_eq];cases nth tm.l t with
  |none=>rfl
  |some v=>cases v<;>rfl
 |_=>rfl
theorem A5(cx:Cx)(tm:Tm)(o:Operand):JQ cx tm o=pP cx tm.l o:=by
 unfold JQ pP;simp only[bt,Tm.get_eq]<;>rfl
theorem Bk{β:Type}(x:X)(k:X->β):Gp x k=k x:=by
 cases x<;>try rfl
 rename_i n;exact Eg n fun n=>k (.lit n)
theorem Bj{β:Type}(v:V)(k:V->β):Gm v k=k v:=by
 cases v<;>try rfl
 ·rename_i a x;exact Bk x fun x=>k (.int a x)
 ·rename_i x;exact Bk x fun x=>k (.bool x)
theorem od(cx:Cx)(tm:Tm):∀ l,mj cx tm l=gO cx tm.l l
 |[]=>rfl
 |o::l=>by simp only[mj,gO,bt,od cx tm l]<;>rfl
theorem yN(cx:Cx)(tm:Tm):∀ l,uy cx tm l=jx cx tm.l l
 |[]=>rfl
 |o::l=>by simp only[uy,jx,A5,yN cx tm l]<;>rfl
theorem pT(cx:Cx)(tm:Tm):∀ l,pS cx tm l=fB cx tm.l l
 |[]=>rfl
 |(i,o)::l=>by simp only[pS,fB,bt,pT cx tm l]<;>rfl
theorem R0(cx:Cx)(tm:Tm)(o:Option Operand):A7 cx tm o=sC cx tm.l o:=by
 cases o<;>simp only[A7,sC,bt]<;>rfl
set_option maxHeartbeats 8000 in
theorem SD(cx:Cx)(tm:Tm)(st:St)(c:Operand)(a:Operand)(b:Operand):Om cx tm st c a b=ET cx tm.l st c a b:=by
 unfold Om ET;simp only[bt]<;>rfl
set_option maxHeartbeats 8000 in
theorem Wd(cx:Cx)(tm:Tm)(st:St)(t:TypeId)(x:Operand):Wc cx tm st t x=Sx cx tm.l st t x:=by
 unfold Wc Sx;simp only[bt]<;>rfl
set_option maxHeartbeats 8000 in
theorem Oa(cx:Cx)(tm:Tm)(st:St)(t:TypeId) (parts:Array (Nat×Operand)):GZ cx tm st t parts=xS cx tm.l st t parts:=by
 unfold GZ xS;simp only[pT]<;>rfl
set_option maxHeartbeats 8000 in
theorem zE(cx:Cx)(tm:Tm)(st:St)(t:TypeId)(len:Nat) (parts:Array (Nat×Operand)):oD cx tm st t len parts=gZ cx tm.l st t len parts:=by
 unfold oD gZ;simp only[pT]<;>rfl
set_option maxHeartbeats 8000 in
theorem SA(cx:Cx)(tm:Tm)(st:St)(t:TypeId)(a:Operand):Oi cx tm st t a=Cb cx tm.l st t a:=by
 unfold Oi Cb;simp only[bt]<;>rfl
set_option maxHeartbeats 8000 in
theorem Oq(cx:Cx)(tm:Tm)(st:St)(t:TypeId)(a:Operand)(x:Operand):G8 cx tm st t a x=x6 cx tm.l st t a x:=by
 unfold G8 x6;simp only[bt]<;>rfl
set_option maxHeartbeats 8000 in
theorem Dm(cx:Cx)(tm:Tm)(st:St)(x:Operand):tL cx tm st x=kY cx tm.l st x:=by
 unfold tL kY;simp only[bt]<;>rfl
set_option maxHeartbeats 8000 in
theorem Wb(cx:Cx)(tm:Tm)(st:St)(op:BinOp)(t:TypeId)(x:Operand)(y:Operand):Wa cx tm st op t x y=Sw cx tm.l st op t x y:=by
 unfold Wa Sw;simp only[bt]<;>rfl
set_option maxHeartbeats 8000 in
theorem abV(cx:Cx)(tm:Tm)(st:St)(op:UnOp)(x:Operand):ann cx tm st op x=oUn cx tm.l st op x:=by
 unfold ann oUn;simp only[bt]<;>rfl
set_option maxHeartbeats 8000 in
theorem Gh(cx:Cx)(tm:Tm)(st:St)(src:TypeId)(dst:TypeId)(x:Operand):xT cx tm st src dst x=lR cx tm.l st src dst x:=by
 unfold xT lR;simp only[bt]<;>rfl
set_option maxHeartbeats 8000 in
theorem Of(cx:Cx)(tm:Tm)(st:St)(t:TypeId)(x:Operand):G3 cx tm st t x=xW cx tm.l st t x:=by
 unfold G3 xW;simp only[bt]<;>rfl
set_option maxHeartbeats 8000 in
theorem Sz(cx:Cx)(tm:Tm)(st:St)(fn:Fn)(first:Array Operand)(captured:Array Operand):Oe cx tm st fn first captured=ER cx tm.l st fn first captured:=by
 unfold Oe ER;simp only[od]<;>rfl
set_option maxHeartbeats 8000 in
theorem Wf(cx:Cx)(tm:Tm)(st:St)(t:TypeId)(r:Option Operand):We cx tm st t r=SB cx tm.l st t r:=by
 unfold We SB;simp only[bt]<;>rfl
set_option maxHeartbeats 8000 in
theorem zG(cx:Cx)(tm:Tm)(st:St)(t:TypeId)(l:Operand)(c:Operand):oF cx tm st t l c=gh cx tm.l st t l c:=by
 unfold oF gh;simp only[bt]<;>rfl
set_option maxHeartbeats 8000 in
theorem Cd(cx:Cx)(tm:Tm)(st:St)(t:TypeId)(l:Operand)(c:Operand):qn cx tm st t l c=jj cx tm.l st t l c:=by
 unfold qn jj;simp only[bt,zG]<;>rfl
set_option maxHeartbeats 8000 in
theorem Oo(cx:Cx)(tm:Tm)(st:St)(t:TypeId)(x:Operand)(lo:Option Operand)(hi:Option Operand)(mx:Option Operand):G7 cx tm st t x lo hi mx=xh cx tm.l st t x lo hi mx:=by
 unfold G7 xh;simp only[bt,R0]<;>rfl
set_option maxHeartbeats 8000 in
theorem B9(cx:Cx)(tm:Tm)(st:St)(t:TypeId)(x:Operand)(f:Nat):ql cx tm st t x f=jg cx tm.l st t x f:=by
 unfold ql jg;simp only[bt]<;>rfl
set_option maxHeartbeats 8000 in
theorem Od(cx:Cx)(tm:Tm)(st:St)(t:TypeId)(x:Operand)(f:Nat):G2 cx tm st t x f=xV cx tm.l st t x f:=by
 unfold G2 xV;simp only[bt]<;>rfl
set_option maxHeartbeats 8000 in
theorem Ca(cx:Cx)(tm:Tm)(st:St)(t:TypeId)(x:Operand)(ix:Operand):qm cx tm st t x ix=ji cx tm.l st t x ix:=by
 unfold qm ji;simp only[bt]<;>rfl
set_option maxHeartbeats 8000 in
theorem Og(cx:Cx)(tm:Tm)(st:St)(t:TypeId)(x:Operand)(ix:Operand):G4 cx tm st t x ix=xX cx tm.l st t x ix:=by
 unfold G4 xX;simp only[bt]<;>rfl
set_option maxHeartbeats 8000 in
theorem KP(cx:Cx)(tm:Tm)(st:St)(t:TypeId)(x:Operand)(ix:Operand)(ok:Bool):Cc cx tm st t x ix ok=oE cx tm.l st t x ix ok:=by
 unfold Cc oE;simp only[bt]<;>rfl
set_option maxHeartbeats 8000 in
theorem y6(cx:Cx)(tm:Tm)(st:St)(t:TypeId)(m:Operand)(k:Operand)(x:Operand):u6 cx tm st t m k x=kB cx tm.l st t m k x:=by
 unfold u6 kB;simp only[bt]<;>rfl
set_option maxHeartbeats 8000 in
theorem KO(cx:Cx)(tm:Tm)(st:St)(x:Operand)(asserted:TypeId)(ok:Bool):B8 cx tm st x asserted ok=rp cx tm.l st x asserted ok:=by
 unfold B8 rp;simp only[bt]<;>rfl
set_option maxHeartbeats 8000 in
theorem G1(cx:Cx)(tm:Tm)(st:St)(x:Operand)(i:Nat):xU cx tm st x i=nL cx tm.l st x i:=by
 unfold xU nL;simp only[bt]<;>rfl
set_option maxHeartbeats 8000 in
theorem Sy(cx:Cx)(tm:Tm)(st:St)(c:Call):Ob cx tm st c=y5 cx tm.l st c:=by
 unfold Ob y5;simp only[bt,od,yN]<;>rfl
set_option maxHeartbeats 8000 in
theorem Oc(cx:Cx)(tm:Tm)(st:St)(c:Call):G0 cx tm st c=qk cx tm.l st c:=by
 unfold G0 qk;simp only[bt,od]<;>rfl
set_option maxHeartbeats 8000 in
theorem Ol(cx:Cx)(tm:Tm)(st:St)(x:Operand):G5 cx tm st x=xY cx tm.l st x:=by
 unfold G5 xY;simp only[bt]<;>rfl
set_option maxHeartbeats 8000 in
theorem On(cx:Cx)(tm:Tm)(st:St)(t:TypeId)(x:Operand):G6 cx tm st t x=xZ cx tm.l st t x:=by
 unfold G6 xZ;simp only[bt]<;>rfl
set_option maxHeartbeats 8000 in
theorem SC(cx:Cx)(tm:Tm)(st:St)(x:Operand)(isString:Bool):Oj cx tm st x isString=ES cx tm.l st x isString:=by
 unfold Oj ES;simp only[bt]<;>rfl
theorem D6(cx:Cx)(tm:Tm)(st:St)(o:Oper):xc cx tm st o=km cx tm.l st o:=by
 have key:∀ op:Op,o.op=op->xc cx tm st o=km cx tm.l st o:=by
  intro op h;unfold xc km;rw[h];cases op
  case move x=>exact congrArg (fun v=>gA st v "move") (A5 cx tm x)
  case assign x=>exact congrArg (fun v=>gA st v "assign") (A5 cx tm x)
  case pick c a b=>exact SD cx tm st c a b
  case alloc t=>rfl
  case box t x=>exact Wd cx tm st t x
  case build t parts=>exact Oa cx tm st t parts
  case buildSlice t len parts=>exact zE cx tm st t len parts
  case load t a=>exact SA cx tm st t a
  case store t a x=>exact Oq cx tm st t a x
  case nilCheck x=>exact Dm cx tm st x
  case binOp op t x y _u4=>exact Wb cx tm st op t x y
  case unOp op _u1 x=>exact abV cx tm st op x
  case convert src dst x=>exact Gh cx tm st src dst x
  case makeInterface t x=>exact Of cx tm st t x
  case makeFunc fn first captured=>exact Sz cx tm st fn first captured
  case makeMap t r=>exact Wf cx tm st t r
  case makeSlice t l c=>exact Cd cx tm st t l c
  case slice t x lo hi mx=>exact Oo cx tm st t x lo hi mx
  case fieldAddr t x f=>exact B9 cx tm st t x f
  case field t x f=>exact Od cx tm st t x f
  case indexAddr t x ix=>exact Ca cx tm st t x ix
  case index t x ix=>exact Og cx tm st t x ix
  case lookup t x ix ok=>exact KP cx tm st t x ix ok
  case mapUpdate t m k x=>exact y6 cx tm st t m k x
  case insert t m k x=>exact y6 cx tm st t m k x
  case typeAssert x _u1 asserted ok=>exact KO cx tm st x asserted ok
  case extract x i=>exact G1 cx tm st x i
  case call c=>exact Sy cx tm st c
  case defer c=>exact Oc cx tm st c
  case panic x=>exact Ol cx tm st x
  case range t x=>exact On cx tm st t x
  case next x s=>exact SC cx tm st x s
  all_goals rfl
 exact key _ rfl
theorem nD(cx:Cx)(tm:Tm)(st:St)(o:Oper):pQ cx tm st o=eV cx tm.l st o:=by
 show(xc cx tm st o).bind _=(km cx tm.l st o).bind _;exact congrArg (fun r:cJ=>r.bind fun x=>iK x.1 x.2) (D6 cx tm st o)
section
variable {α β γ:Type}
noncomputable def R.map(f:α->β)(r:R α):R β:=r.bind fun a=>.ok (f a)
theorem R.map_bind(r:R α)(k:α->R β)(f:β->γ):(r.bind k).map f=r.bind fun a=>(k a).map f:=by
 induction r with
 |ok a=>rfl
 |br c t u i j=>
  show R.br c ((t.bind k).map f) ((u.bind k).map f)=R.br c _ _;rw[i,j];rfl
 |stuck s=>rfl
theorem R.bind_map(r:R α)(f:α->β)(k:β->R γ):(r.map f).bind k=r.bind fun a=>k (f a):=by
 induction r with
 |ok a=>rfl
 |br c t u i j=>
  show R.br c ((t.map f).bind k) ((u.map f).bind k)=R.br c _ _;rw[i,j];rfl
 |stuck s=>rfl
theorem R.bind_congr{r:R α}{k k':α->R β}(h:∀ a,k a=k' a):r.bind k=r.bind k':=by rw[funext h]
theorem OY(f:α->β):∀ (x:X) (st:St) (k:St->Bool->R α),(dq st x k).map f=dq st x fun st b=>(k st b).map f:=by
 intro x;induction x with
 |lit n=>intro st k;rfl
 |not y ih=>intro st k;exact ih st _
 |ite c a b ic ia ib=>
  intro st k;show(dq st c _).map f=dq st c _;rw[ic];congr 1;funext st t;cases t
  ·exact ib st k
  ·exact ia st k
 |_=>
  intro st k;simp only[dq];split<;>rfl
theorem rh{α β:Type}(f:α->β)(x:X)(st:St)(k:St->Bool->R α):(split st x k).map f=split st x fun st b=>(k st b).map f:=by rw[nU,nU,OY]
theorem oW{γ:Type}(n:Nat)(st:St)(c:X)(a b:V)(k:St->V->R γ):eB (n+1) st (V.ite c a b) k=split st c fun st t=>match t with
  |true=>eB n st a k
  |false=>eB n st b k:=rfl
theorem oX(f:α->β):∀ (n:Nat) (st:St) (v:V) (k:St->V->R α),(eB n st v k).map f=eB n st v fun st v=>(k st v).map f
 |0,st,v,k=>rfl
 |n+1,st,v,k=>by
  cases v<;>try rfl
  rename_i c a b;rw[oW,oW,rh];congr 1;funext st t;cases t
  ·exact oX f n st b k
  ·exact oX f n st a k
end
noncomputable def ep(fr:FrT):Fr:=⟨fr.tm.l,fr.df⟩
noncomputable def cq(x:Ex×FrT×St):Ex×Fr×St:=(x.1,ep x.2.1,x.2.2)
structure Rel (s:SelfT) (s':Self):Prop where
 code:∀ rnd c fr st,(s.code rnd c fr st).map cq=s'.code rnd c (ep fr) st
 loop:∀ rnd c fr st,(s.loop rnd c fr st).map cq=s'.loop rnd c (ep fr) st
 call:s.call=s'.call
theorem Au(fr:FrT)(d:Option Tmp)(v:V)(df:List cz):ep ⟨Tm.dQ fr.tm d v,df⟩=⟨dQ (ep fr).tm d v,df⟩:=by
 unfold ep;rw[Tm.WN]
theorem Jh{β:Type}(fr:FrT)(k:FrT->β):JZ fr k=k fr:=by
 obtain⟨tm,df⟩:=fr;cases df<;>rfl
section
variable {cx:Cx} {s:SelfT} {s':Self} (h:Rel s s')
include h
theorem kM{α:Type}(rnd:Option Nat)(c:Code)(fr:FrT)(fr':Fr)(hf:ep fr=fr')(st:St)(k:Ex×Fr×St->R α):(s'.code rnd c fr' st).bind k=(s.code rnd c fr st).bind fun x=>k (cq x):=by
 rw[<-hf,<-h.code,R.bind_map]
theorem Dt(l:Nat)(body:Code)(e:Ex)(fr:FrT)(st:St):tT s l body e fr st=rW s' l body e (ep fr) st:=by
 unfold tT rW;cases e<;>try rfl
 dsimp only;cases st.h.get l with
 |none=>rfl
 |some o=>
  cases o<;>try rfl
  rename_i state _ _ _ _ _ _;cases state<;>try rfl
  dsimp only;rw[kM h _ _ fr _ rfl];exact R.bind_congr fun x=>rfl
theorem yP(l:Nat)(args:List V)(st:St):pU s l args st=mn s' l args st:=by
 unfold pU mn;cases st.h.get l with
 |none=>rfl
 |some o=>
  cases o<;>try rfl
  rename_i _ _ tmps params assign body _;dsimp only;cases Nat.beq params.toList.length args.length with
  |true=>
   dsimp only;rw[kM h _ _ {tm:=Tm.of (nk tmps params.toList args),df:=[]} _ (by unfold ep;rw[abW])];exact R.bind_congr fun(x:Ex×FrT×St)=>Dt h l body x.1 x.2.1 x.2.2
  |false=>rfl
omit h
theorem I1(st:St)(ops:List Oper)(tm:Tm)(o:Oper)(k:St->Bool->bU):(C1 st ops tm o k).map cq=gK st ops tm.l o fun st b=>(k st b).map cq:=by
 unfold C1 gK;cases o.guard with
 |none=>rfl
 |some g=>
  obtain⟨j,want⟩:=g;dsimp only;cases(nth ops j).bind (·.dst)with
  |none=>rfl
  |some d=>
   dsimp only;rw[Tm.get_eq];cases nth tm.l d with
   |none=>rfl
   |some v=>
    cases v<;>try rfl
    exact rh _ _ _ _
include h
omit h
theorem nO{tm:Tm}{df:List cz}{dst:Option Tmp}{k:sc}{k':Fr->St->ec} (hk:∀ tm df st,(k tm df st).map cq=k' ⟨tm.l,df⟩ st) (st:St) (v:V):(yg tm df dst k st v).map cq=k' ⟨dQ tm.l dst v,df⟩ st:=by
 unfold yg;rw[jU];show(k (Tm.dQ tm dst v) df st).map cq=_;rw[hk,Tm.WN]
theorem IP{α:Type}{v:V}(hv:v.isIte=false)(st:St)(k:St->V->R α):eB 100 st v k=k st v:=by
 cases v<;>first|rfl|(simp[V.isIte]at hv)
theorem ML{α β:Type}:∀ (x:X) (st:St) (k:St->Bool->R α) (g:α->R β),(dq st x k).bind g=dq st x fun st b=>(k st b).bind g:=by
 intro x;induction x with
 |lit n=>intro st k g;rfl
 |not y ih=>intro st k g;exact ih st _ g
 |ite c a b ic ia ib=>
  intro st k g;show(dq st c _).bind g=dq st c _;rw[ic];congr 1;funext st t;cases t
  ·exact ib st k g
  ·exact ia st k g
 |_=>
  intro st k g;simp only[dq];split<;>rfl
theorem O0{α β:Type}(x:X)(st:St)(k:St->Bool->R α)(g:α->R β):(split st x k).bind g=split st x fun st b=>(k st b).bind g:=by rw[nU,nU,ML]
theorem qJ{α β:Type}(g:α->R β):∀ (n:Nat) (st:St) (v:V) (k:St->V->R α),(eB n st v k).bind g=eB n st v fun st v=>(k st v).bind g
 |0,st,v,k=>rfl
 |n+1,st,v,k=>by
  cases v<;>try rfl
  rename_i c a b;rw[oW,oW,O0];congr 1;funext st t;cases t
  ·exact qJ g n st b k
  ·exact qJ g n st a k
theorem R.UG{α β:Type}(a:α)(k:α->R β):(R.ok a).bind k=k a:=rfl
theorem R.bind_assoc{α β γ:Type}(r:R α)(k:α->R β)(g:β->R γ):(r.bind k).bind g=r.bind fun a=>(k a).bind g:=by
 induction r with
 |ok a=>rfl
 |br c t u i j=>
  show R.br c ((t.bind k).bind g) ((u.bind k).bind g)=R.br c _ _;rw[i,j];rfl
 |stuck s=>rfl
theorem M0{tm:Tm}{df:List cz}{dst:Option Tmp}{k:sc}{k':Fr->St->ec} (hk:∀ tm df st,(k tm df st).map cq=k' ⟨tm.l,df⟩ st) (v:V) (st:St):
  (YX tm df dst k v st).map cq=eB 100 st v fun st v=>k' ⟨dQ tm.l dst v,df⟩ st:=by
 unfold YX;rw[Se];cases hv:v.isIte with
 |true=>
  dsimp only;rw[oX];congr 1;funext st v;rw[Bj,nO hk]
 |false=>
  dsimp only;rw[IP hv,Bj,nO hk]
include h
theorem EW{rnd:Option Nat}{tm:Tm}{df:List cz}{st:St}{o:Oper}{k:sc}{k':Fr->St->ec} (hk:∀ tm df st,(k tm df st).map cq=k' ⟨tm.l,df⟩ st):(Qw cx s rnd o k tm df st).map cq=xe cx s' rnd ⟨tm.l,df⟩ st o k':=by
 unfold Qw xe eV;rw[D6,R.map_bind,R.bind_assoc];refine R.bind_congr fun x=>?_
 obtain⟨r,st⟩:=x;cases r with
 |val v=>
  dsimp only[adm,iK];rw[M0 hk,qJ];congr 1;funext st v;rw[R.UG];dsimp only;rw[fh,cY]
 |skip=>exact nO hk st .undef
 |enter f args=>
  show((s.call f args st).bind (ac0 tm df o.dst k)).map cq=(s'.call f args st).bind _;rw[R.map_bind,h.call];refine R.bind_congr fun x=>?_
  obtain⟨e,st⟩:=x;cases e with
  |ret v=>
   show(YX tm df o.dst k v st).map cq=eB 100 st v _;rw[M0 hk];congr 1;funext st v;rw[fh,cY]
  |panic v=>rfl
 |round l args=>
  show((pU s l args st).bind (Xe tm df o.dst k)).map cq=(mn s' l args st).bind _;rw[R.map_bind,yP h];refine R.bind_congr fun x=>?_
  obtain⟨e,st⟩:=x;cases e with
  |ret v=>exact nO hk st v
  |panic v=>rfl
 |panic v=>rfl
 |defer d=>
  cases rnd with
  |none=>exact nO hk st .undef
  |some l=>rfl
theorem NO{rnd:Option Nat}{ops:List Oper}{tm:Tm}{df:List cz}{st:St}{o:Oper}{k:sc}{k':Fr->St->ec} (hk:∀ tm df st,(k tm df st).map cq=k' ⟨tm.l,df⟩ st):
  (Gu cx s rnd ops o k tm df st).map cq=gK st ops tm.l o fun st w=>match w with
   |true=>xe cx s' rnd ⟨tm.l,df⟩ st o k'
   |false=>mc tm.l o.dst .undef fun tm=>k' ⟨tm,df⟩ st:=by
 have skip:∀ st,(yg tm df o.dst k st .undef).map cq=mc tm.l o.dst .undef fun tm=>k' ⟨tm,df⟩ st:=fun st=>by rw[nO hk,cY]
 unfold Gu gK;cases o.guard with
 |none=>exact EW h hk
 |some g=>
  obtain⟨j,want⟩:=g;dsimp only;cases(nth ops j).bind (·.dst)with
  |none=>exact skip st
  |some d=>
   dsimp only;rw[Tm.get_eq];cases nth tm.l d with
   |none=>exact skip st
   |some v=>
    dsimp only;cases v<;>try exact skip st
    ·rename_i x;show(split st x (NN cx s rnd o k tm df want)).map cq=split st x _;rw[rh];congr 1;funext st b;unfold NN;cases b==want with
     |true=>exact EW h hk
     |false=>exact skip st
    ·rfl
    ·rfl
theorem A6{rnd:Option Nat}(ops:List Oper):∀ (l:List Oper) (tm:Tm) (df:List cz) (st:St),(NC cx s rnd ops l tm df st).map cq=sy cx s' rnd ops l ⟨tm.l,df⟩ st
 |[],tm,df,st=>rfl
 |o::l,tm,df,st=>by
  show(Gu cx s rnd ops o (NC cx s rnd ops l) tm df st).map cq=_;simp only[sy,oi,lI];exact NO h (k':=fun fr st=>sy cx s' rnd ops l fr st) fun tm df st=>A6 ops l tm df st
theorem ND{rnd:Option Nat}(ops:List Oper)(l:List Oper)(fr:FrT)(st:St):(Vb cx s rnd ops l fr st).map cq=sy cx s' rnd ops l (ep fr) st:=A6 h ops l fr.tm fr.df st
omit h
noncomputable def Pq(r:RdT):Rd:={i:=r.i,tm:=r.tm.l,o:=r.o,v:=r.v}
noncomputable def dv(rs:RST):RS:={fr:=ep rs.fr,st:=rs.st,sm:=rs.sm,mm:=rs.mm,bigs:=rs.bigs,reads:=rs.reads.map Pq,lost:=rs.lost}
theorem II(st:St)(r:RdT):yp cx st r=nT cx st (Pq r):=by
 unfold yp nT;rw[nD];rfl
theorem nj(st:St)(bef:Nat):∀ l,gR cx st bef l=cZ cx st bef (l.map Pq)
 |[]=>rfl
 |r::l=>by
  simp only[gR,cZ,List.map_cons,II,nj st bef l];rfl
include h
theorem Ny{fr:FrT}{st:St}{o:Oper}{k:FrT->St->bU}{k':Fr->St->ec}{kp:V->St->bU}{kp':V->St->ec} (hk:∀ fr st,(k fr st).map cq=k' (ep fr) st) (hkp:∀ v st,(kp v st).map cq=kp' v st):
  (Ga cx s fr st o k kp).map cq=D5 cx s' (ep fr) st o k' kp':=by
 unfold Ga D5;rw[nD,R.map_bind];refine R.bind_congr fun x=>?_
 obtain⟨r,st⟩:=x;have put:∀ (v:V) (st:St),(nN fr.tm o.dst v fun tm=>k {fr with tm:=tm} st).map cq=mc (ep fr).tm o.dst v fun tm=>k' {(ep fr)with tm:=tm} st:=by
  intro v st;simp only[jU,cY];rw[hk];exact congrArg (fun fr=>k' fr st) (Au fr o.dst v fr.df)
 cases r with
 |val v=>exact put v st
 |skip=>exact put .undef st
 |enter f args=>
  dsimp only;rw[R.map_bind,h.call];refine R.bind_congr fun x=>?_
  obtain⟨e,st⟩:=x;cases e with
  |ret v=>exact put v st
  |panic v=>exact hkp v st
 |round l args=>
  dsimp only;rw[R.map_bind,yP h];refine R.bind_congr fun x=>?_
  obtain⟨e,st⟩:=x;cases e with
  |ret v=>exact put v st
  |panic v=>rfl
 |panic v=>rfl
 |defer d=>rfl
theorem Dg{i:Nat}{o:Oper}{b:Nat}{rs:RST}{st:St}{dep:Bool}{k:RST->bU}{k':RS->ec} (hk:∀ rs,(k rs).map cq=k' (dv rs)):(wh cx s i o b rs st dep k).map cq=pI cx s' i o b (dv rs) st dep k':=by
 have fput:∀ v,ep ⟨Tm.dQ rs.fr.tm o.dst v,rs.fr.df⟩=⟨dQ (ep rs.fr).tm o.dst v,rs.fr.df⟩:=fun v=>Au rs.fr o.dst v rs.fr.df
 have big:(Ga cx s rs.fr {st with h:=de b rs.sm st.h} o (fun fr st'=>
   if Nat.ble st.n st'.n&&gR cx st' b rs.reads then
    k {fr:=fr,st:=st',sm:=gS b rs.sm,mm:=rs.mm,bigs:=i::rs.bigs,reads:=rs.reads}
   else .stuck "draw: a reader sees other things") fun v st'=>match rs.fr.df with
    |[]=>match dep,gR cx {st with h:=de b rs.sm st.h} b rs.reads with
     |true,true=>.ok (.die v,rs.fr,st')
     |_,_=>.stuck "a panic in a drawn region"
    |_=>.stuck "a panic in a drawn region").map cq=D5 cx s' (dv rs).fr {st with h:=de b (dv rs).sm st.h} o (fun fr st'=>
   if Nat.ble st.n st'.n&&cZ cx st' b (dv rs).reads then
    k' {fr:=fr,st:=st',sm:=gS b (dv rs).sm,mm:=(dv rs).mm,bigs:=i::(dv rs).bigs,reads:=(dv rs).reads}
   else .stuck "draw: a reader sees other things") fun v st'=>match(dv rs).fr.df with
    |[]=>match dep,cZ cx {st with h:=de b (dv rs).sm st.h} b (dv rs).reads with
     |true,true=>.ok (.die v,(dv rs).fr,st')
     |_,_=>.stuck "a panic in a drawn region"
    |_=>.stuck "a panic in a drawn region" := by
  refine Ny h (fun fr st'=>?_) fun v st'=>?_
  ·rw[nj];show R.map cq (if Nat.ble st.n st'.n&&cZ cx st' b (dv rs).reads then _ else _)=_;split
   ·rw[hk];rfl
   ·rfl
  ·rw[nj];show R.map cq (match rs.fr.df with
    |[]=>match dep,cZ cx {st with h:=de b (dv rs).sm st.h} b (dv rs).reads with
     |true,true=>.ok (.die v,rs.fr,st')
     |_,_=>.stuck "a panic in a drawn region"
    |_=>.stuck "a panic in a drawn region")=(match rs.fr.df with
    |[]=>match dep,cZ cx {st with h:=de b (dv rs).sm st.h} b (dv rs).reads with
     |true,true=>.ok (.die v,(dv rs).fr,st')
     |_,_=>.stuck "a panic in a drawn region"
    |_=>.stuck "a panic in a drawn region")
   split
   ·split<;>rfl
   ·rfl
 have hs:iM o.op (cV cx rs.fr.tm) rs.sm=iM o.op (dM cx (dv rs).fr.tm) (dv rs).sm:=by
  rw[show cV cx rs.fr.tm=dM cx (dv rs).fr.tm from funext fun x=>bt ..];rfl
 unfold wh pI;rw[hs];generalize iM o.op _ _=n
 match n with
 |0=>
  show(R.bind (pQ _ _ _ _) _).map cq=R.bind _ _;rw[nD,R.map_bind];refine R.bind_congr fun x=>?_
  obtain⟨r,st'⟩:=x;cases r<;>try rfl
  rename_i v;dsimp only;split
  ·simp only[jU,cY];rw[hk];simp only[dv,fput];rfl
  ·rfl
 |1=>
  show(R.bind (pQ _ _ _ _) _).map cq=R.bind _ _;rw[nD,R.map_bind];refine R.bind_congr fun x=>?_
  obtain⟨r,st'⟩:=x;cases r<;>try rfl
  rename_i v;dsimp only;split
  ·simp only[jU,cY];rw[hk];simp only[dv,fput];rfl
  ·rfl
 |2=>
  show(R.bind (pQ _ _ _ _) _).map cq=R.bind _ _;rw[nD,R.map_bind];refine R.bind_congr fun x=>?_
  obtain⟨r,st'⟩:=x;cases r<;>try rfl
  rename_i v;simp only[jU,cY];rw[hk];simp only[dv,fput,List.map_cons,Pq];rfl
 |4=>
  show R.map cq (match o.op with|.insert _ _ _ _=>_|_=>_)=(match o.op with|.insert _ _ _ _=>_|_=>_);cases o.op<;>try rfl
  rename_i t m key x;simp only[bt];dsimp only[dv,ep];generalize dM cx rs.fr.tm.l m=a;generalize dM cx rs.fr.tm.l key=kv;generalize dM cx rs.fr.tm.l x=xv;rcases a with _|a
  ·rfl
  cases a<;>try rfl
  rename_i mb;rcases kv with _|kv
  ·rfl
  rcases xv with _|xv
  ·rfl
  cases hm:rs.mm with
  |none=>rfl
  |some mk=>
   dsimp only;generalize Nat.beq mb mk.id=p1;generalize Nat.testBit b mk.owner=p2;generalize q8 cx t kv=p3;generalize p6 kv mk.ins=p4;cases p1<;>cases p2<;>cases p3<;>cases p4<;>try rfl
   simp only[jU,cY];rw[hk];simp only[dv,fput];rfl
 |5=>
  show(R.bind (pQ _ _ _ _) _).map cq=R.bind _ _;rw[nD,R.map_bind];refine R.bind_congr fun x=>?_
  obtain⟨r,st'⟩:=x;cases r<;>try rfl
  rename_i v;dsimp only[dv];generalize T.get st'.h st.n=q;cases hm:rs.mm with
  |some y=>rfl
  |none=>
   rcases q with _|ob
   ·rfl
   cases ob<;>try rfl
   rename_i es;cases es with
   |cons _ _=>rfl
   |nil=>
    dsimp only;split
    ·simp only[jU,cY];rw[hk];simp only[dv,fput];rfl
    ·rfl
 |3=>exact big
 |n+6=>exact big
theorem pO(ops:List Oper)(bs:List Nat):∀ (l:List Nat) (done:Nat) (rs:RST),(qV cx s ops bs l done rs).map cq=lE cx s' ops bs l done (dv rs)
 |[],done,rs=>by
  unfold qV lE;cases Nat.beq (done+1) (2 ^ ops.length)<;>rfl
 |i::rest,done,rs=>by
  unfold qV lE;cases nth ops i with
  |none=>rfl
  |some o=>
   cases nth bs i with
   |none=>rfl
   |some b=>
    dsimp only;show R.map cq (match within b done&&uk b rs.bigs && !Nat.testBit done i with|true=>_|false=>_)=(match within b done&&uk b rs.bigs && !Nat.testBit done i with|true=>_|false=>_);cases within b done&&uk b rs.bigs && !Nat.testBit done i with
    |false=>rfl
    |true=>
     dsimp only;rw[I1];show gK rs.st ops rs.fr.tm.l o _=gK rs.st ops rs.fr.tm.l o _;congr 1;funext st w;cases w with
     |true=>exact Dg h fun rs=>pO ops bs rest _ rs
     |false=>
      simp only[jU,cY];rw[pO ops bs rest];exact congrArg (fun fr=>lE cx s' ops bs rest (done |||2 ^ i) {(dv rs)with st:=st,fr:=fr}) (Au rs.fr o.dst .undef rs.fr.df)
theorem Nt(ops:List Oper)(bs:List Nat)(fr:FrT)(st:St):(F5 cx s ops bs fr st).map cq=drawn cx s' ops bs (ep fr) st:=by
 unfold F5 drawn;exact pO h ops bs _ _ _
omit h
theorem Mo(tm:Tm)(hp:H)(r:ResultVar):CF cx tm hp r=wg cx tm.l hp r:=by
 cases r<;>simp only[CF,wg,Tm.get_eq]<;>rfl
theorem wi(tm:Tm)(hp:H):∀ l,rV cx tm hp l=jY cx tm.l hp l
 |[]=>rfl
 |r::l=>by simp only[rV,jY,Mo,wi tm hp l]<;>rfl
theorem Iy(fn:Func)(tm:Tm)(hp:H):ym cx fn tm hp=qB cx fn tm.l hp:=by
 unfold ym qB;rw[wi];rfl
theorem nG(fn:Func)(tm:Tm):∀ (ds:List cz) (e:Option V) (st:St),oq cx fn tm e ds st=leave cx fn tm.l e ds st
 |[],e,st=>by
  unfold oq leave;cases e with
  |some p=>rfl
  |none=>
   dsimp only;rw[Iy];rfl
 |.mark b::ds,e,st=>by
  unfold oq leave;simp only[nG fn tm ds];rfl
 |.fn f cap args::ds,e,st=>by
  unfold oq leave;simp only[nG fn tm ds];rfl
include h
theorem Nz(f:FuncId)(args:List V)(st:St):zR cx s f args st=tg cx s' f args st:=by
 unfold zR tg;cases Mh cx f args st with
 |some g=>rfl
 |none=>
  dsimp only;cases cx.ft.get f with
  |none=>rfl
  |some fn=>
   dsimp only;cases fn.body with
   |none=>rfl
   |some body=>
    dsimp only;rw[kM h _ _ {tm:=Tm.start fn.ntmps args,df:=[]} _ (by unfold ep;rw[acJ])];refine R.bind_congr fun(x:Ex×FrT×St)=>?_
    obtain⟨e,fr,st⟩:=x;cases e with
    |normal=>exact nG fn fr.tm fr.df none st
    |ret=>exact nG fn fr.tm fr.df none st
    |panic v=>exact nG fn fr.tm fr.df (some v) st
    |die v=>rfl
    |exit i=>rfl
theorem v7{rnd:Option Nat}{g:FuncId}{first cap:List V}{params:Array Tmp}{assign body:Code}{tm:Tm}{df:List cz}{D:Nat}{st:St}:(v5 s rnd g first cap params assign body tm df D st).map cq=rU s' rnd g first cap params assign body tm.l df D st:=by
 unfold v5 rU;rw[R.map_bind,h.call];refine R.bind_congr fun x=>?_
 obtain⟨e,st1⟩:=x;cases e with
 |panic v=>rfl
 |ret v=>
  dsimp only;cases st1.h.get st.n with
  |none=>rfl
  |some o=>
   cases o<;>try rfl
   rename_i state pending _ _ _ _ _;cases state<;>try rfl
   all_goals
    cases pending with
    |none=>rfl
    |some c=>exact h.code rnd c ⟨tm,df⟩ _
theorem Ge{rnd:Option Nat}{f:Operand}{params:Array Tmp}{assign body:Code}{fr:FrT}{st:St}:(A9 cx s rnd f params assign body fr st).map cq=uE cx s' rnd f params assign body (ep fr) st:=by
 unfold A9 uE;rw[bt];show R.map cq (match dM cx fr.tm.l f with|some (.func (.func g) first cap)=>_|_=>_)=(match dM cx fr.tm.l f with|some (.func (.func g) first cap)=>_|_=>_);generalize dM cx fr.tm.l f=a;rcases a with _|a
 ·rfl
 cases a<;>try rfl
 rename_i g first cap
 cases g<;>try rfl
 rename_i g;dsimp only;cases cx.ft.get g with
 |none=>rfl
 |some fn=>
  cases rnd with
  |none=>exact v7 h
  |some l=>
   dsimp only;cases st.h.get l with
   |none=>rfl
   |some o=>
    cases o<;>try rfl
    exact v7 h
theorem pN(rnd:Option Nat)(c:Code)(fr:FrT)(st:St):(zT cx s rnd c fr st).map cq=pM cx s' rnd c (ep fr) st:=by
 cases c<;>try rfl
 ·rename_i ops draw;cases draw with
  |false=>exact ND h _ _ _ _
  |true=>
   show R.map cq (if wZ ops.toList then F5 cx s ops.toList (er ops.toList []) fr st else .stuck "draw: temporaries")=(if wZ ops.toList then drawn cx s' ops.toList (er ops.toList []) (ep fr) st else .stuck "draw: temporaries");split
   ·exact Nt h _ _ _ _
   ·rfl
 ·rename_i a b;show((s.code rnd a fr st).bind _).map cq=(s'.code rnd a (ep fr) st).bind _;rw[kM h _ _ fr _ rfl,R.map_bind];refine R.bind_congr fun(x:Ex×FrT×St)=>?_
  obtain⟨e,fr,st⟩:=x;cases e with
  |normal=>exact h.code rnd b fr st
  |_=>rfl
 ·rename_i c x y;show R.map cq (match cV cx fr.tm c with
   |some (.bool b)=>split st b fun st t=>(match t with
    |true=>s.code rnd x fr st
    |false=>s.code rnd y fr st)
   |_=>.stuck "cond")=_
  rw[bt];show R.map cq (match dM cx fr.tm.l c with|some (.bool b)=>_|_=>_)=(match dM cx fr.tm.l c with|some (.bool b)=>_|_=>_);generalize dM cx fr.tm.l c=a;rcases a with _|a
  ·rfl
  cases a<;>try rfl
  dsimp only;rw[rh];congr 1;funext st t;cases t
  ·exact h.code rnd y fr st
  ·exact h.code rnd x fr st
 ·rename_i id body;show((s.code rnd body fr st).bind _).map cq=(s'.code rnd body (ep fr) st).bind _;rw[kM h _ _ fr _ rfl,R.map_bind];refine R.bind_congr fun(x:Ex×FrT×St)=>?_
  obtain⟨e,fr,st⟩:=x;cases e with
  |exit i=>
   show R.map cq (match Nat.beq i id with|true=>_|false=>_)=(match Nat.beq i id with|true=>_|false=>_);cases Nat.beq i id<;>rfl
  |_=>rfl
 ·exact h.loop rnd _ fr st
 ·exact Ge h
 ·exact h.code rnd _ fr st
theorem uD(rnd:Option Nat)(body:Code)(fr:FrT)(st:St):(uC s rnd body fr st).map cq=qW s' rnd body (ep fr) st:=by
 unfold uC qW;rw[kM h _ _ fr _ rfl,R.map_bind];refine R.bind_congr fun(x:Ex×FrT×St)=>?_
 obtain⟨e,fr,st⟩:=x;cases e with
 |normal=>exact h.loop rnd body fr st
 |_=>rfl
theorem JP(rnd:Option Nat)(body:Code)(fr:FrT)(st:St):(Gd cx s rnd body fr st).map cq=A4 cx s' rnd body (ep fr) st:=by
 unfold Gd A4;cases cx.lp with
 |none=>exact uD h rnd body fr st
 |some lp=>
  dsimp only;show R.map cq (match lp rnd body (ep fr) st with|none=>_|some r=>_)=_;cases lp rnd body (ep fr) st with
  |none=>exact uD h rnd body fr st
  |some r=>
   dsimp only;rw[R.map_bind];refine Eq.trans (R.bind_congr (k':=fun x=>.ok x) fun(x:Ex×Fr×St)=>?_) ?_
   ·obtain⟨e,fr,st⟩:=x;show R.ok (e,ep ⟨Tm.of fr.tm,fr.df⟩,st)=_;unfold ep;rw[abW]
   ·induction r with
    |ok a=>rfl
    |br c t f it jf=>
     show R.br c (t.bind fun x=>.ok x) (f.bind fun x=>.ok x)=_;rw[it,jf]
    |stuck s=>rfl
omit h
theorem yR{β:Type}:∀ (l:List V) (k:List V->β),qZ l k=k l
 |[],k=>rfl
 |v::l,k=>by
  unfold qZ;rw[fh];exact yR l _
theorem Kf(pc:PC)(c:X)(a b:Ex×FrT×St):(GI pc c a b).map cq=BA pc c (cq a) (cq b):=by
 obtain⟨e,fr,st⟩:=a;obtain⟨e',fr',st'⟩:=b;unfold GI BA cq;dsimp only;show Option.map _ (match tj e e',fm fr.df fr'.df with|true,true=>_|_,_=>_)=(match tj e e',fm fr.df fr'.df with|true,true=>_|_,_=>_);cases tj e e'<;>cases fm fr.df fr'.df<;>try rfl
 dsimp only;have hj:=Sj c fr.tm fr'.tm;show _=(match dP c fr.tm.l fr'.tm.l with|some tm=>_|none=>none);rw[<-hj];cases GL c fr.tm fr'.tm with
 |none=>rfl
 |some tm=>
  dsimp only[Option.map_some];cases xD pc c st st' with
  |none=>rfl
  |some st=>
   dsimp only;rw[yR];rfl
theorem tG{α β:Type}(f:α->β){j:PC->X->α->α->Option α}{j':PC->X->β->β->Option β} (hj:∀ pc c a b,(j pc c a b).map f=j' pc c (f a) (f b)):∀ (r:R α) (pc:PC),(eY j pc r).map f=eY j' pc (r.map f)
 |.ok a,pc=>rfl
 |.stuck s,pc=>rfl
 |.br c t u,pc=>by
  have h1:=tG f hj t ((c,true)::pc);have h2:=tG f hj u ((c,false)::pc);show(eY j pc (.br c t u)).map f=eY j' pc (.br c (t.map f) (u.map f));unfold eY;rw[<-h1,<-h2];generalize eY j ((c,true)::pc) t=x;generalize eY j ((c,false)::pc) u=y;cases x<;>try rfl
  cases y<;>try rfl
  rename_i a b;show R.map f (match j pc c a b with|some r=>.ok r|none=>.br c (.ok a) (.ok b))=(match j' pc c (f a) (f b)with|some r=>.ok r|none=>.br c (.ok (f a)) (.ok (f b)));rw[<-hj];cases j pc c a b<;>rfl
theorem jA{k:St->Tm->bU}{k':St->List V->ec} (hk:∀ st tm,(k st tm).map cq=k' st tm.l):∀ (ts:List Nat) (st:St) (tm:Tm),(kZ st tm ts k).map cq=jQ st tm.l ts k'
 |[],st,tm=>hk st tm
 |t::ts,st,tm=>by
  unfold kZ jQ;rw[Tm.get_eq];cases nth tm.l t with
  |none=>exact jA hk ts st tm
  |some v=>
   dsimp only;cases v.isIte with
   |false=>exact jA hk ts st tm
   |true=>
    dsimp only;rw[oX];congr 1;funext st v;rw[jA hk ts,Tm.adt]
include h
theorem yO(rnd:Option Nat)(c:Code)(fr:FrT)(st:St):(zU cx s rnd c fr st).map cq=xd cx s' rnd c (ep fr) st:=by
 unfold zU xd;cases IX c with
 |nil=>exact pN h rnd c fr st
 |cons t ts=>exact jA (fun st tm=>pN h rnd c ⟨tm,fr.df⟩ st) (t::ts) st fr.tm
theorem Gc(rnd:Option Nat)(c:Code)(fr:FrT)(st:St):(Ah cx s rnd c fr st).map cq=uA cx s' rnd c (ep fr) st:=by
 unfold Ah uA;rw[Jh,lI,oi,lI];cases cx.mg with
 |false=>exact pN h rnd c fr st
 |true=>
  dsimp only;cases VJ cx.js c with
  |false=>exact yO h rnd c fr st
  |true=>
   dsimp only;rw[tG cq Kf,yO h]
theorem JO(f:FuncId)(args:List V)(st:St):AZ cx s f args st=uz cx s' f args st:=by
 unfold AZ uz;rw[Nz h];rfl
end
theorem qX(cx:Cx):∀ n,Rel (PL cx n) (ev cx n)
 |0=>⟨fun _ _ _ _=>rfl,fun _ _ _ _=>rfl,rfl⟩
 |n+1=>⟨Gc (qX cx n),JP (cx:=cx) (qX cx n),by funext f args st;exact JO (qX cx n) f args st⟩
theorem cj(cx:Cx)(n:Nat):(ev cx n).call=(PL cx n).call:=(qX cx n).call.symm
end Go.Proofs.YtgcbnjpeifigaaaGreatDoor
