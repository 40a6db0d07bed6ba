/- Symbolic execution: the evaluator with tries does what the one with lists does. No condition. -/
import Derived.Test.YtmickljjofbmiaaGreatDoorFwT
import Derived.Test.YtmickljjofbmiaaGreatDoorFwD
namespace Go.Proofs.YtmickljjofbmiaaGreatDoor
open Go
section
variable {α β:Type}
theorem T.look_eq:∀ (t:T α) (bs:List Bool),t.look bs=t.eQ bs:=by
 intro t
 induction t with
 | nil=>intro bs;cases bs<;>rfl
 | node l v r il ir=>
  intro bs
  cases bs with
  | nil=>rfl
  | cons b bs=>cases b with
   | true=>exact ir bs
   | false=>exact il bs
theorem T.EB:∀ (bs:List Bool) (v:α) (k:T α→β),T.aeJ bs v k=k (T.gK bs .nil (some v))
 | [],v,k=>rfl
 | b::bs,v,k=>by
  cases b with
  | true=>exact T.EB bs v fun x=>k (.node .nil none x)
  | false=>exact T.EB bs v fun x=>k (.node x none .nil)
theorem T.cG:∀ (t:T α) (bs:List Bool) (v:α) (k:T α→β),t.kV bs v k=k (T.gK bs t (some v)):=by
 intro t
 induction t with
 | nil=>intro bs v k;exact T.EB bs v k
 | node l u r il ir=>
  intro bs v k
  cases bs with
  | nil=>rfl
  | cons b bs=>cases b with
   | true=>exact ir bs v fun x=>k (.node l u x)
   | false=>exact il bs v fun x=>k (.node x u r)
end
theorem Tm.Ba(m:Tm)(i:Nat):m.val i=(m.t.get i).getD .undef:=by
 unfold Tm.val
 rw [T.look_eq]
 show _=(m.t.eQ (bitsOf i)).getD .undef
 cases m.t.eQ (bitsOf i)<;>rfl
theorem Tm.xe(m:Tm)(i:Nat):m.l[i]?=if i<m.n then some (m.val i) else none:=by
 unfold Tm.l
 rw [List.getElem?_map]
 by_cases h:i<m.n
 ·rw [if_pos h,List.getElem?_range h];rfl
 ·rw [if_neg h,List.getElem?_eq_none (by simpa using h)];rfl
theorem Tm.get_eq(m:Tm)(i:Nat):m.get i=nth m.l i:=by
 rw [bO,Tm.xe]
 unfold Tm.get
 cases h:Nat.blt i m.n with
 | true=>
  have h2:i<m.n:=Nat.le_of_ble_eq_true h
  rw [if_pos h2]
 | false=>
  have h2:¬i<m.n:=fun h2=>by rw [show Nat.blt i m.n=true from Nat.ble_eq_true_of_le h2] at h;cases h
  rw [if_neg h2]
theorem Tm.yz{β:Type}(m:Tm)(i:Nat)(v:V)(k:Tm→β):m.KC i v k=k (m.set i v):=by
 unfold Tm.set Tm.KC
 simp only [T.cG]
theorem Tm.ZG(m:Tm)(i:Nat)(v:V):(m.set i v).l=By m.l i v:=by
 have e:m.set i v=⟨m.n,m.t.set i v⟩:=by
  unfold Tm.set Tm.KC
  simp only [T.cG]
  rfl
 rw [lI,e]
 refine List.ext_getElem? fun j=>?_
 rw [Tm.xe,List.getElem?_set,Tm.xe]
 have hl:m.l.length=m.n:=by simp [Tm.l]
 by_cases hij:i=j
 ·subst hij
  simp only [Tm.Ba,T.aN,if_true,hl]
  by_cases h:i<m.n<;>simp [h]
 ·simp only [Tm.Ba,T.aC _ _ hij,if_neg hij]
theorem Tm.SR(m:Tm)(d:Option Tmp)(v:V):(Tm.dx m d v).l=_root_.Go.Proofs.YtmickljjofbmiaaGreatDoor.dx m.l d v:=by
 cases d with
 | none=>rfl
 | some d=>exact Tm.ZG m d v
theorem iX{β:Type}(m:Tm)(d:Option Tmp)(v:V)(k:Tm→β):mE m d v k=k (m.dx d v):=by
 cases d with
 | none=>rfl
 | some d=>exact Tm.yz m d v k
def B3:Nat→List V→T V→T V
 | _,[],t=>t
 | i,v::l,t=>B3 (i+1) l (t.set i v)
theorem zq{β:Type}:∀ (i:Nat) (l:List V) (t:T V) (k:T V→β),Gt i l t k=k (B3 i l t)
 | _,[],t,k=>rfl
 | i,v::l,t,k=>by
  unfold Gt B3
  rw [fw,T.cG]
  exact zq (i+1) l _ k
theorem vo:∀ (l:List V) (i:Nat) (t:T V) (j:Nat),(B3 i l t).get j=if i≤j∧j-i<l.length then l[j-i]? else t.get j
 | [],i,t,j=>by simp [B3]
 | v::l,i,t,j=>by
  unfold B3
  rw [vo l (i+1)]
  by_cases h1:i+1≤j∧j-(i+1)<l.length
  ·rw [if_pos h1,if_pos ⟨by omega,by simp;omega⟩,show j-i=(j-(i+1))+1 by omega,List.getElem?_cons_succ]
  ·rw [if_neg h1]
   by_cases h2:i=j
   ·subst h2
    rw [T.aN,if_pos ⟨by omega,by simp⟩,Nat.sub_self]
    rfl
   ·rw [T.aC _ _ h2,if_neg]
    rintro ⟨h3,h4⟩
    simp at h4
    exact h1 ⟨by omega,by omega⟩
theorem aeL(l:List V):(Tm.of l).l=l:=by
 unfold Tm.of
 rw [zq]
 refine List.ext_getElem? fun j=>?_
 rw [Tm.xe,Tm.Ba]
 simp only [vo]
 by_cases h:j<l.length
 ·rw [if_pos h,if_pos ⟨by omega,by simpa using h⟩,Nat.sub_zero,List.getElem?_eq_getElem h]
  rfl
 ·rw [if_neg h,List.getElem?_eq_none (by omega)]
theorem Y2(n:Nat)(args:List V):(Tm.start n args).l=args++List.replicate (n-args.length) .undef:=by
 unfold Tm.start
 rw [zq]
 refine List.ext_getElem? fun j=>?_
 rw [Tm.xe,Tm.Ba]
 simp only [vo]
 by_cases h:j<args.length
 ·rw [if_pos (by omega),if_pos ⟨by omega,by simpa using h⟩,Nat.sub_zero,List.getElem?_eq_getElem h,List.getElem?_append_left h,List.getElem?_eq_getElem h]
  rfl
 ·have h3:¬(0≤j∧j-0<args.length):=fun hh=>h (by simpa using hh.2)
  rw [List.getElem?_append_right (by omega),List.getElem?_replicate]
  simp only [h3,if_false,T.get_nil]
  by_cases h2:j<args.length+(n-args.length)
  ·rw [if_pos h2,if_pos (by omega)];rfl
  ·rw [if_neg h2,if_neg (by omega)]
theorem vF{β:Type}(c:X)(a b:Option V)(k:Option V→β):∃ r,Er c a b k=k r∧NX r=bV c (NX a) (NX b):=by
 cases a with
 | none=>cases b with
  | none=>exact⟨none,rfl,rfl⟩
  | some b=>exact⟨some (bV c .undef b),fw (bV c .undef b) fun v=>k (some v),rfl⟩
 | some a=>exact⟨some (bV c a (NX b)),fw (bV c a (NX b)) fun v=>k (some v),rfl⟩
theorem aaY(o:Option V):o.getD .undef=NX o:=by cases o<;>rfl
theorem zL{β:Type}(c:X):∀ (t:T V) (k:T V→β),∃ r,w9 c t k=k r∧∀ bs,NX (r.eQ bs)=bV c .undef (NX (t.eQ bs))
 | .nil,k=>⟨.nil,rfl,fun bs=>by rw [T.er];rfl⟩
 | .node l v r,k=>by
  obtain⟨v1,e1,h1⟩:=vF (β:=β) c none v fun v=>w9 c l fun l=>w9 c r fun r=>k (.node l v r)
  obtain⟨l1,e2,h2⟩:=zL c l fun l=>w9 c r fun r=>k (.node l v1 r)
  obtain⟨r1,e3,h3⟩:=zL c r fun r=>k (.node l1 v1 r)
  refine⟨.node l1 v1 r1,by unfold w9;rw [e1,e2,e3],fun bs=>?_⟩
  cases bs with
  | nil=>exact h1
  | cons b bs=>cases b with
   | true=>exact h3 bs
   | false=>exact h2 bs
theorem zK{β:Type}(c:X):∀ (t:T V) (k:T V→β),∃ r,w8 c t k=k r∧∀ bs,NX (r.eQ bs)=bV c (NX (t.eQ bs)) .undef
 | .nil,k=>⟨.nil,rfl,fun bs=>by rw [T.er];rfl⟩
 | .node l v r,k=>by
  obtain⟨v1,e1,h1⟩:=vF (β:=β) c v none fun v=>w8 c l fun l=>w8 c r fun r=>k (.node l v r)
  obtain⟨l1,e2,h2⟩:=zK c l fun l=>w8 c r fun r=>k (.node l v1 r)
  obtain⟨r1,e3,h3⟩:=zK c r fun r=>k (.node l1 v1 r)
  refine⟨.node l1 v1 r1,by unfold w8;rw [e1,e2,e3],fun bs=>?_⟩
  cases bs with
  | nil=>exact h1
  | cons b bs=>cases b with
   | true=>exact h3 bs
   | false=>exact h2 bs
theorem vI{β:Type}(c:X):∀ (t u:T V) (k:T V→β),∃ r,lX c t u k=k r∧∀ bs,NX (r.eQ bs)=bV c (NX (t.eQ bs)) (NX (u.eQ bs))
 | .nil,u,k=>by
  obtain⟨r,e,h⟩:=zL c u k
  exact⟨r,by unfold lX;exact e,fun bs=>by rw [h,T.er];rfl⟩
 | .node l v r,u,k=>by
  cases u with
  | nil=>
   obtain⟨x,e,h⟩:=zK c (.node l v r) k
   exact⟨x,by unfold lX;exact e,fun bs=>by rw [h,T.er];rfl⟩
  | node l' v' r'=>
   obtain⟨v1,e1,h1⟩:=vF (β:=β) c v v' fun v=>lX c l l' fun l=>lX c r r' fun r=>k (.node l v r)
   obtain⟨l1,e2,h2⟩:=vI c l l' fun l=>lX c r r' fun r=>k (.node l v1 r)
   obtain⟨r1,e3,h3⟩:=vI c r r' fun r=>k (.node l1 v1 r)
   refine⟨.node l1 v1 r1,by unfold lX;dsimp only;rw [e1,e2,e3],fun bs=>?_⟩
   cases bs with
   | nil=>exact h1
   | cons b bs=>cases b with
    | true=>exact h3 bs
    | false=>exact h2 bs
theorem xd(c:X):∀ (l m:List V),l.length=m.length→dv c l m=some (List.zipWith (bV c) l m)
 | [],[],_=>by unfold dv;rfl
 | a::l,b::m,h=>by
  unfold dv
  dsimp only
  rw [xd c l m (by simpa using h)]
  rfl
 | [],_::_,h=>by simp at h
 | _::_,[],h=>by simp at h
theorem xc(c:X):∀ (l m:List V),l.length≠m.length→dv c l m=none
 | [],[],h=>absurd rfl h
 | a::l,b::m,h=>by
  unfold dv
  dsimp only
  rw [xc c l m (by simpa using h)]
 | [],_::_,_=>by unfold dv;rfl
 | _::_,[],_=>by unfold dv;rfl
theorem NB(m:Tm):m.l.length=m.n:=by simp [Tm.l]
theorem Pt(c:X)(a b:Tm):(Es c a b).map Tm.l=dv c a.l b.l:=by
 obtain⟨n,t⟩:=a
 obtain⟨m,u⟩:=b
 unfold Es
 dsimp only
 split
 ·rename_i h
  obtain rfl:=Nat.eq_of_beq_eq_true h
  obtain⟨r,e,hr⟩:=vI c t u fun t=>some (Tm.mk n t)
  rw [e,xd c _ _ (by rw [NB,NB])]
  simp only [Option.map_some,Option.some.injEq]
  refine List.ext_getElem? fun j=>?_
  rw [List.getElem?_zipWith,Tm.xe,Tm.xe,Tm.xe]
  by_cases h:j<n
  ·simp only [h,if_true,Tm.Ba,aaY]
   exact congrArg some (hr (bitsOf j))
  ·simp [h]
 ·rename_i h
  rw [xc c _ _ fun e=>by rw [NB,NB] at e;dsimp only at e;subst e;rw [Nat.beq_refl] at h;cases h]
  rfl
theorem Po(v:V):v.Eg=v.isIte:=by cases v<;>rfl
theorem ba(cx:Cx)(tm:Tm)(o:Operand):cD cx tm o=dq cx tm.l o:=by
 cases o with
 | tmp t=>
  simp only [cD,dq,Tm.get_eq]
  cases nth tm.l t with
  | none=>rfl
  | some v=>cases v<;>rfl
 | _=>rfl
theorem ze(cx:Cx)(tm:Tm)(o:Operand):Gp cx tm o=oE cx tm.l o:=by
 unfold Gp oE
 simp only [ba,Tm.get_eq]<;>rfl
theorem zw{β:Type}(x:X)(k:X→β):Ed x k=k x:=by
 cases x<;>try rfl
 rename_i n
 exact Cd n fun n=>k (.lit n)
theorem zt{β:Type}(v:V)(k:V→β):Eb v k=k v:=by
 cases v<;>try rfl
 ·rename_i a x
  exact zw x fun x=>k (.int a x)
 ·rename_i x
  exact zw x fun x=>k (.bool x)
theorem m6(cx:Cx)(tm:Tm):∀ l,k8 cx tm l=fR cx tm.l l
 | []=>rfl
 | o::l=>by simp only [k8,fR,ba,m6 cx tm l]<;>rfl
theorem wV(cx:Cx)(tm:Tm):∀ l,sZ cx tm l=iE cx tm.l l
 | []=>rfl
 | o::l=>by simp only [sZ,iE,ze,wV cx tm l]<;>rfl
theorem oJ(cx:Cx)(tm:Tm):∀ l,oI cx tm l=eJ cx tm.l l
 | []=>rfl
 | (i,o)::l=>by simp only [oI,eJ,ba,oJ cx tm l]<;>rfl
theorem O8(cx:Cx)(tm:Tm)(o:Option Operand):zg cx tm o=q8 cx tm.l o:=by
 cases o<;>simp only [zg,q8,ba]<;>rfl
set_option maxHeartbeats 8000 in
theorem PO(cx:Cx)(tm:Tm)(st:St)(c:Operand)(a:Operand)(b:Operand):Mb cx tm st c a b=CJ cx tm.l st c a b:=by
 unfold Mb CJ
 simp only [ba]<;>rfl
set_option maxHeartbeats 8000 in
theorem Sp(cx:Cx)(tm:Tm)(st:St)(t:TypeId)(x:Operand):So cx tm st t x=PI cx tm.l st t x:=by
 unfold So PI
 simp only [ba]<;>rfl
set_option maxHeartbeats 8000 in
theorem Lh(cx:Cx)(tm:Tm)(st:St)(t:TypeId) (parts:Array (Nat×Operand)):EF cx tm st t parts=vW cx tm.l st t parts:=by
 unfold EF vW
 simp only [oJ]<;>rfl
set_option maxHeartbeats 8000 in
theorem xO(cx:Cx)(tm:Tm)(st:St)(t:TypeId)(len:Nat) (parts:Array (Nat×Operand)):nx cx tm st t len parts=gf cx tm.l st t len parts:=by
 unfold nx gf
 simp only [oJ]<;>rfl
set_option maxHeartbeats 8000 in
theorem PL(cx:Cx)(tm:Tm)(st:St)(t:TypeId)(a:Operand):L8 cx tm st t a=Al cx tm.l st t a:=by
 unfold L8 Al
 simp only [ba]<;>rfl
set_option maxHeartbeats 8000 in
theorem Me(cx:Cx)(tm:Tm)(st:St)(t:TypeId)(a:Operand)(x:Operand):ER cx tm st t a x=wg cx tm.l st t a x:=by
 unfold ER wg
 simp only [ba]<;>rfl
set_option maxHeartbeats 8000 in
theorem Bs(cx:Cx)(tm:Tm)(st:St)(x:Operand):r3 cx tm st x=jZ cx tm.l st x:=by
 unfold r3 jZ
 simp only [ba]<;>rfl
set_option maxHeartbeats 8000 in
theorem Sn(cx:Cx)(tm:Tm)(st:St)(op:BinOp)(t:TypeId)(x:Operand)(y:Operand):Sl cx tm st op t x y=PG cx tm.l st op t x y:=by
 unfold Sl PG
 simp only [ba]<;>rfl
set_option maxHeartbeats 8000 in
theorem Ys(cx:Cx)(tm:Tm)(st:St)(op:UnOp)(x:Operand):aaQ cx tm st op x=oUn cx tm.l st op x:=by
 unfold aaQ oUn
 simp only [ba]<;>rfl
set_option maxHeartbeats 8000 in
theorem EG(cx:Cx)(tm:Tm)(st:St)(src:TypeId)(dst:TypeId)(x:Operand):vY cx tm st src dst x=kI cx tm.l st src dst x:=by
 unfold vY kI
 simp only [ba]<;>rfl
set_option maxHeartbeats 8000 in
theorem L6(cx:Cx)(tm:Tm)(st:St)(t:TypeId)(x:Operand):EL cx tm st t x=v7 cx tm.l st t x:=by
 unfold EL v7
 simp only [ba]<;>rfl
set_option maxHeartbeats 8000 in
theorem PK(cx:Cx)(tm:Tm)(st:St)(fn:Fn)(first:Array Operand)(captured:Array Operand):L5 cx tm st fn first captured=CG cx tm.l st fn first captured:=by
 unfold L5 CG
 simp only [m6]<;>rfl
set_option maxHeartbeats 8000 in
theorem Sr(cx:Cx)(tm:Tm)(st:St)(t:TypeId)(r:Option Operand):Sq cx tm st t r=PM cx tm.l st t r:=by
 unfold Sq PM
 simp only [ba]<;>rfl
set_option maxHeartbeats 8000 in
theorem xP(cx:Cx)(tm:Tm)(st:St)(t:TypeId)(l:Operand)(c:Operand):nA cx tm st t l c=gi cx tm.l st t l c:=by
 unfold nA gi
 simp only [ba]<;>rfl
set_option maxHeartbeats 8000 in
theorem Ao(cx:Cx)(tm:Tm)(st:St)(t:TypeId)(l:Operand)(c:Operand):o8 cx tm st t l c=iw cx tm.l st t l c:=by
 unfold o8 iw
 simp only [ba,xP]<;>rfl
set_option maxHeartbeats 8000 in
theorem Md(cx:Cx)(tm:Tm)(st:St)(t:TypeId)(x:Operand)(lo:Option Operand)(hi:Option Operand)(mx:Option Operand):EP cx tm st t x lo hi mx=we cx tm.l st t x lo hi mx:=by
 unfold EP we
 simp only [ba,O8]<;>rfl
set_option maxHeartbeats 8000 in
theorem Aj(cx:Cx)(tm:Tm)(st:St)(t:TypeId)(x:Operand)(f:Nat):o6 cx tm st t x f=iu cx tm.l st t x f:=by
 unfold o6 iu
 simp only [ba]<;>rfl
set_option maxHeartbeats 8000 in
theorem L4(cx:Cx)(tm:Tm)(st:St)(t:TypeId)(x:Operand)(f:Nat):EK cx tm st t x f=v5 cx tm.l st t x f:=by
 unfold EK v5
 simp only [ba]<;>rfl
set_option maxHeartbeats 8000 in
theorem Ak(cx:Cx)(tm:Tm)(st:St)(t:TypeId)(x:Operand)(ix:Operand):o7 cx tm st t x ix=iv cx tm.l st t x ix:=by
 unfold o7 iv
 simp only [ba]<;>rfl
set_option maxHeartbeats 8000 in
theorem L7(cx:Cx)(tm:Tm)(st:St)(t:TypeId)(x:Operand)(ix:Operand):EM cx tm st t x ix=v8 cx tm.l st t x ix:=by
 unfold EM v8
 simp only [ba]<;>rfl
set_option maxHeartbeats 8000 in
theorem Iv(cx:Cx)(tm:Tm)(st:St)(t:TypeId)(x:Operand)(ix:Operand)(ok:Bool):Am cx tm st t x ix ok=ny cx tm.l st t x ix ok:=by
 unfold Am ny
 simp only [ba]<;>rfl
set_option maxHeartbeats 8000 in
theorem xo(cx:Cx)(tm:Tm)(st:St)(t:TypeId)(m:Operand)(k:Operand)(x:Operand):tI cx tm st t m k x=jG cx tm.l st t m k x:=by
 unfold tI jG
 simp only [ba]<;>rfl
set_option maxHeartbeats 8000 in
theorem Iu(cx:Cx)(tm:Tm)(st:St)(x:Operand)(asserted:TypeId)(ok:Bool):Ai cx tm st x asserted ok=qg cx tm.l st x asserted ok:=by
 unfold Ai qg
 simp only [ba]<;>rfl
set_option maxHeartbeats 8000 in
theorem EJ(cx:Cx)(tm:Tm)(st:St)(x:Operand)(i:Nat):vZ cx tm st x i=mC cx tm.l st x i:=by
 unfold vZ mC
 simp only [ba]<;>rfl
set_option maxHeartbeats 8000 in
theorem PJ(cx:Cx)(tm:Tm)(st:St)(c:Call):L1 cx tm st c=xm cx tm.l st c:=by
 unfold L1 xm
 simp only [ba,m6,wV]<;>rfl
set_option maxHeartbeats 8000 in
theorem L3(cx:Cx)(tm:Tm)(st:St)(c:Call):EI cx tm st c=o5 cx tm.l st c:=by
 unfold EI o5
 simp only [ba,m6]<;>rfl
set_option maxHeartbeats 8000 in
theorem Ma(cx:Cx)(tm:Tm)(st:St)(x:Operand):EN cx tm st x=v9 cx tm.l st x:=by
 unfold EN v9
 simp only [ba]<;>rfl
set_option maxHeartbeats 8000 in
theorem Mc(cx:Cx)(tm:Tm)(st:St)(t:TypeId)(x:Operand):EO cx tm st t x=wc cx tm.l st t x:=by
 unfold EO wc
 simp only [ba]<;>rfl
set_option maxHeartbeats 8000 in
theorem PN(cx:Cx)(tm:Tm)(st:St)(x:Operand)(isString:Bool):L9 cx tm st x isString=CI cx tm.l st x isString:=by
 unfold L9 CI
 simp only [ba]<;>rfl
theorem B0(cx:Cx)(tm:Tm)(st:St)(o:Oper):vf cx tm st o=jz cx tm.l st o:=by
 have key:∀ op:Op,o.op=op→vf cx tm st o=jz cx tm.l st o:=by
  intro op h
  unfold vf jz
  rw [h]
  cases op
  case move x=>exact congrArg (fun v=>fG st v "move") (ze cx tm x)
  case assign x=>exact congrArg (fun v=>fG st v "assign") (ze cx tm x)
  case pick c a b=>exact PO cx tm st c a b
  case alloc t=>rfl
  case box t x=>exact Sp cx tm st t x
  case build t parts=>exact Lh cx tm st t parts
  case buildSlice t len parts=>exact xO cx tm st t len parts
  case load t a=>exact PL cx tm st t a
  case store t a x=>exact Me cx tm st t a x
  case nilCheck x=>exact Bs cx tm st x
  case binOp op t x y _u4=>exact Sn cx tm st op t x y
  case unOp op _u1 x=>exact Ys cx tm st op x
  case convert src dst x=>exact EG cx tm st src dst x
  case makeInterface t x=>exact L6 cx tm st t x
  case makeFunc fn first captured=>exact PK cx tm st fn first captured
  case makeMap t r=>exact Sr cx tm st t r
  case makeSlice t l c=>exact Ao cx tm st t l c
  case slice t x lo hi mx=>exact Md cx tm st t x lo hi mx
  case fieldAddr t x f=>exact Aj cx tm st t x f
  case field t x f=>exact L4 cx tm st t x f
  case indexAddr t x ix=>exact Ak cx tm st t x ix
  case index t x ix=>exact L7 cx tm st t x ix
  case lookup t x ix ok=>exact Iv cx tm st t x ix ok
  case mapUpdate t m k x=>exact xo cx tm st t m k x
  case insert t m k x=>exact xo cx tm st t m k x
  case typeAssert x _u1 asserted ok=>exact Iu cx tm st x asserted ok
  case extract x i=>exact EJ cx tm st x i
  case call c=>exact PJ cx tm st c
  case defer c=>exact L3 cx tm st c
  case panic x=>exact Ma cx tm st x
  case range t x=>exact Mc cx tm st t x
  case next x s=>exact PN cx tm st x s
  all_goals rfl
 exact key _ rfl
theorem mo(cx:Cx)(tm:Tm)(st:St)(o:Oper):oF cx tm st o=dW cx tm.l st o:=by
 show (vf cx tm st o).bind _=(jz cx tm.l st o).bind _
 exact congrArg (fun r:cq=>r.bind fun x=>gJ x.1 x.2) (B0 cx tm st o)
section
variable {α β γ:Type}
noncomputable def R.map(f:α→β)(r:R α):R β:=r.bind fun a=>.ok (f a)
theorem R.map_bind(r:R α)(k:α→R β)(f:β→γ):(r.bind k).map f=r.bind fun a=>(k a).map f:=by
 induction r with
 | ok a=>rfl
 | br c t u i j=>
  show R.br c ((t.bind k).map f) ((u.bind k).map f)=R.br c _ _
  rw [i,j]
  rfl
 | stuck s=>rfl
theorem R.bind_map(r:R α)(f:α→β)(k:β→R γ):(r.map f).bind k=r.bind fun a=>k (f a):=by
 induction r with
 | ok a=>rfl
 | br c t u i j=>
  show R.br c ((t.map f).bind k) ((u.map f).bind k)=R.br c _ _
  rw [i,j]
  rfl
 | stuck s=>rfl
theorem R.bind_congr{r:R α}{k k':α→R β}(h:∀ a,k a=k' a):r.bind k=r.bind k':=by rw [funext h]
theorem ME(f:α→β):∀ (x:X) (st:St) (k:St→Bool→R α),(cT st x k).map f=cT st x fun st b=>(k st b).map f:=by
 intro x
 induction x with
 | lit n=>intro st k;rfl
 | not y ih=>intro st k;exact ih st _
 | ite c a b ic ia ib=>
  intro st k
  show (cT st c _).map f=cT st c _
  rw [ic]
  congr 1
  funext st t
  cases t
  ·exact ib st k
  ·exact ia st k
 | _=>
  intro st k
  simp only [cT]
  split<;>rfl
theorem qJ{α β:Type}(f:α→β)(x:X)(st:St)(k:St→Bool→R α):(split st x k).map f=split st x fun st b=>(k st b).map f:=by rw [mM,mM,ME]
theorem nQ{γ:Type}(n:Nat)(st:St)(c:X)(a b:V)(k:St→V→R γ):dK (n+1) st (V.ite c a b) k=split st c fun st t=>match t with
  | true=>dK n st a k
  | false=>dK n st b k:=rfl
theorem nR(f:α→β):∀ (n:Nat) (st:St) (v:V) (k:St→V→R α),(dK n st v k).map f=dK n st v fun st v=>(k st v).map f
 | 0,st,v,k=>rfl
 | n+1,st,v,k=>by
  cases v<;>try rfl
  rename_i c a b
  rw [nQ,nQ,qJ]
  congr 1
  funext st t
  cases t
  ·exact nR f n st b k
  ·exact nR f n st a k
end
noncomputable def fA(fr:FrT):Fr:=⟨fr.tm.l,fr.df⟩
noncomputable def bY(x:Ex×FrT×St):Ex×Fr×St:=(x.1,fA x.2.1,x.2.2)
structure Rel (s:SelfT) (s':Self):Prop where
 code:∀ rnd c fr st,(s.code rnd c fr st).map bY=s'.code rnd c (fA fr) st
 loop:∀ rnd c fr st,(s.loop rnd c fr st).map bY=s'.loop rnd c (fA fr) st
 call:s.call=s'.call
theorem yJ(fr:FrT)(d:Option Tmp)(v:V)(df:List bL):fA ⟨Tm.dx fr.tm d v,df⟩=⟨dx (fA fr).tm d v,df⟩:=by
 unfold fA
 rw [Tm.SR]
theorem GB{β:Type}(fr:FrT)(k:FrT→β):GA fr k=k fr:=by
 obtain⟨tm,df⟩:=fr
 cases df<;>rfl
section
variable {cx:Cx} {s:SelfT} {s':Self} (h:Rel s s')
include h
theorem jQ{α:Type}(rnd:Option Nat)(c:Code)(fr:FrT)(fr':Fr)(hf:fA fr=fr')(st:St)(k:Ex×Fr×St→R α):(s'.code rnd c fr' st).bind k=(s.code rnd c fr st).bind fun x=>k (bY x):=by
 rw [←hf,←h.code,R.bind_map]
theorem Bw(l:Nat)(body:Code)(e:Ex)(fr:FrT)(st:St):se s l body e fr st=qF s' l body e (fA fr) st:=by
 unfold se qF
 cases e<;>try rfl
 dsimp only
 cases st.h.get l with
 | none=>rfl
 | some o=>
  cases o<;>try rfl
  rename_i state _ _ _ _ _ _
  cases state<;>try rfl
  dsimp only
  rw [jQ h _ _ fr _ rfl]
  exact R.bind_congr fun x=>rfl
theorem wX(l:Nat)(args:List V)(st:St):oK s l args st=la s' l args st:=by
 unfold oK la
 cases st.h.get l with
 | none=>rfl
 | some o=>
  cases o<;>try rfl
  rename_i _ _ tmps params assign body _
  dsimp only
  cases Nat.beq params.toList.length args.length with
  | true=>
   dsimp only
   rw [jQ h _ _ {tm:=Tm.of (mc tmps params.toList args),df:=[]} _ (by unfold fA;rw [aeL])]
   exact R.bind_congr fun (x:Ex×FrT×St)=>Bw h l body x.1 x.2.1 x.2.2
  | false=>rfl
omit h
theorem Fx(st:St)(ops:List Oper)(tm:Tm)(o:Oper)(k:St→Bool→cj):(Bd st ops tm o k).map bY=fO st ops tm.l o fun st b=>(k st b).map bY:=by
 unfold Bd fO
 cases o.guard with
 | none=>rfl
 | some g=>
  obtain⟨j,want⟩:=g
  dsimp only
  cases (nth ops j).bind (·.dst) with
  | none=>rfl
  | some d=>
   dsimp only
   rw [Tm.get_eq]
   cases nth tm.l d with
   | none=>rfl
   | some v=>
    cases v<;>try rfl
    exact qJ _ _ _ _
include h
omit h
theorem mF{tm:Tm}{df:List bL}{dst:Option Tmp}{k:qR}{k':Fr→St→cC} (hk:∀ tm df st,(k tm df st).map bY=k' ⟨tm.l,df⟩ st) (st:St) (v:V):(wu tm df dst k st v).map bY=k' ⟨dx tm.l dst v,df⟩ st:=by
 unfold wu
 rw [iX]
 show (k (Tm.dx tm dst v) df st).map bY=_
 rw [hk,Tm.SR]
theorem Fu{α:Type}{v:V}(hv:v.isIte=false)(st:St)(k:St→V→R α):dK 100 st v k=k st v:=by
 cases v<;>first | rfl | (simp [V.isIte] at hv)
theorem KG{α β:Type}:∀ (x:X) (st:St) (k:St→Bool→R α) (g:α→R β),(cT st x k).bind g=cT st x fun st b=>(k st b).bind g:=by
 intro x
 induction x with
 | lit n=>intro st k g;rfl
 | not y ih=>intro st k g;exact ih st _ g
 | ite c a b ic ia ib=>
  intro st k g
  show (cT st c _).bind g=cT st c _
  rw [ic]
  congr 1
  funext st t
  cases t
  ·exact ib st k g
  ·exact ia st k g
 | _=>
  intro st k g
  simp only [cT]
  split<;>rfl
theorem MI{α β:Type}(x:X)(st:St)(k:St→Bool→R α)(g:α→R β):(split st x k).bind g=split st x fun st b=>(k st b).bind g:=by rw [mM,mM,KG]
theorem pE{α β:Type}(g:α→R β):∀ (n:Nat) (st:St) (v:V) (k:St→V→R α),(dK n st v k).bind g=dK n st v fun st v=>(k st v).bind g
 | 0,st,v,k=>rfl
 | n+1,st,v,k=>by
  cases v<;>try rfl
  rename_i c a b
  rw [nQ,nQ,MI]
  congr 1
  funext st t
  cases t
  ·exact pE g n st b k
  ·exact pE g n st a k
theorem R.Rb{α β:Type}(a:α)(k:α→R β):(R.ok a).bind k=k a:=rfl
theorem R.bind_assoc{α β γ:Type}(r:R α)(k:α→R β)(g:β→R γ):(r.bind k).bind g=r.bind fun a=>(k a).bind g:=by
 induction r with
 | ok a=>rfl
 | br c t u i j=>
  show R.br c ((t.bind k).bind g) ((u.bind k).bind g)=R.br c _ _
  rw [i,j]
  rfl
 | stuck s=>rfl
theorem KW{tm:Tm}{df:List bL}{dst:Option Tmp}{k:qR}{k':Fr→St→cC} (hk:∀ tm df st,(k tm df st).map bY=k' ⟨tm.l,df⟩ st) (v:V) (st:St):
  (W1 tm df dst k v st).map bY=dK 100 st v fun st v=>k' ⟨dx tm.l dst v,df⟩ st:=by
 unfold W1
 rw [Po]
 cases hv:v.isIte with
 | true=>
  dsimp only
  rw [nR]
  congr 1
  funext st v
  rw [zt,mF hk]
 | false=>
  dsimp only
  rw [Fu hv,zt,mF hk]
include h
theorem CM{rnd:Option Nat}{tm:Tm}{df:List bL}{st:St}{o:Oper}{k:qR}{k':Fr→St→cC} (hk:∀ tm df st,(k tm df st).map bY=k' ⟨tm.l,df⟩ st):(NW cx s rnd o k tm df st).map bY=vi cx s' rnd ⟨tm.l,df⟩ st o k':=by
 unfold NW vi dW
 rw [B0,R.map_bind,R.bind_assoc]
 refine R.bind_congr fun x=>?_
 obtain⟨r,st⟩:=x
 cases r with
 | val v=>
  dsimp only [ZD,gJ]
  rw [KW hk,pE]
  congr 1
  funext st v
  rw [R.Rb]
  dsimp only
  rw [fw,cG]
 | skip=>exact mF hk st .undef
 | enter f args=>
  show ((s.call f args st).bind (Zi tm df o.dst k)).map bY=(s'.call f args st).bind _
  rw [R.map_bind,h.call]
  refine R.bind_congr fun x=>?_
  obtain⟨e,st⟩:=x
  cases e with
  | ret v=>
   show (W1 tm df o.dst k v st).map bY=dK 100 st v _
   rw [KW hk]
   congr 1
   funext st v
   rw [fw,cG]
  | panic v=>rfl
 | round l args=>
  show ((oK s l args st).bind (Tb tm df o.dst k)).map bY=(la s' l args st).bind _
  rw [R.map_bind,wX h]
  refine R.bind_congr fun x=>?_
  obtain⟨e,st⟩:=x
  cases e with
  | ret v=>exact mF hk st v
  | panic v=>rfl
 | panic v=>rfl
 | defer d=>
  cases rnd with
  | none=>exact mF hk st .undef
  | some l=>rfl
theorem Lz{rnd:Option Nat}{ops:List Oper}{tm:Tm}{df:List bL}{st:St}{o:Oper}{k:qR}{k':Fr→St→cC} (hk:∀ tm df st,(k tm df st).map bY=k' ⟨tm.l,df⟩ st):
  (Ee cx s rnd ops o k tm df st).map bY=fO st ops tm.l o fun st w=>match w with
   | true=>vi cx s' rnd ⟨tm.l,df⟩ st o k'
   | false=>kV tm.l o.dst .undef fun tm=>k' ⟨tm,df⟩ st:=by
 have skip:∀ st,(wu tm df o.dst k st .undef).map bY=kV tm.l o.dst .undef fun tm=>k' ⟨tm,df⟩ st:=fun st=>by rw [mF hk,cG]
 unfold Ee fO
 cases o.guard with
 | none=>exact CM h hk
 | some g=>
  obtain⟨j,want⟩:=g
  dsimp only
  cases (nth ops j).bind (·.dst) with
  | none=>exact skip st
  | some d=>
   dsimp only
   rw [Tm.get_eq]
   cases nth tm.l d with
   | none=>exact skip st
   | some v=>
    dsimp only
    cases v<;>try exact skip st
    ·rename_i x
     show (split st x (Ly cx s rnd o k tm df want)).map bY=split st x _
     rw [qJ]
     congr 1
     funext st b
     unfold Ly
     cases b==want with
     | true=>exact CM h hk
     | false=>exact skip st
    ·rfl
    ·rfl
theorem zf{rnd:Option Nat}(ops:List Oper):∀ (l:List Oper) (tm:Tm) (df:List bL) (st:St),(Lq cx s rnd ops l tm df st).map bY=q7 cx s' rnd ops l ⟨tm.l,df⟩ st
 | [],tm,df,st=>rfl
 | o::l,tm,df,st=>by
  show (Ee cx s rnd ops o (Lq cx s rnd ops l) tm df st).map bY=_
  simp only [q7,m8,ku]
  exact Lz h (k':=fun fr st=>q7 cx s' rnd ops l fr st) fun tm df st=>zf ops l tm df st
theorem Lr{rnd:Option Nat}(ops:List Oper)(l:List Oper)(fr:FrT)(st:St):(RA cx s rnd ops l fr st).map bY=q7 cx s' rnd ops l (fA fr) st:=zf h ops l fr.tm fr.df st
omit h
noncomputable def M5(r:RdT):Rd:={i:=r.i,tm:=r.tm.l,o:=r.o,v:=r.v}
noncomputable def db(rs:RST):RS:={fr:=fA rs.fr,st:=rs.st,sm:=rs.sm,mm:=rs.mm,bigs:=rs.bigs,reads:=rs.reads.map M5,lost:=rs.lost}
theorem Fm(st:St)(r:RdT):wE cx st r=mL cx st (M5 r):=by
 unfold wE mL
 rw [mo]
 rfl
theorem ma(st:St)(bef:Nat):∀ l,fU cx st bef l=cI cx st bef (l.map M5)
 | []=>rfl
 | r::l=>by
  simp only [fU,cI,List.map_cons,Fm,ma st bef l]
  rfl
include h
theorem Lm{fr:FrT}{st:St}{o:Oper}{k:FrT→St→cj}{k':Fr→St→cC}{kp:V→St→cj}{kp':V→St→cC} (hk:∀ fr st,(k fr st).map bY=k' (fA fr) st) (hkp:∀ v st,(kp v st).map bY=kp' v st):
  (D0 cx s fr st o k kp).map bY=Bh cx s' (fA fr) st o k' kp':=by
 unfold D0 Bh
 rw [mo,R.map_bind]
 refine R.bind_congr fun x=>?_
 obtain⟨r,st⟩:=x
 have put:∀ (v:V) (st:St),(mE fr.tm o.dst v fun tm=>k {fr with tm:=tm} st).map bY=kV (fA fr).tm o.dst v fun tm=>k' {(fA fr) with tm:=tm} st:=by
  intro v st
  simp only [iX,cG]
  rw [hk]
  exact congrArg (fun fr=>k' fr st) (yJ fr o.dst v fr.df)
 cases r with
 | val v=>exact put v st
 | skip=>exact put .undef st
 | enter f args=>
  dsimp only
  rw [R.map_bind,h.call]
  refine R.bind_congr fun x=>?_
  obtain⟨e,st⟩:=x
  cases e with
  | ret v=>exact put v st
  | panic v=>exact hkp v st
 | round l args=>
  dsimp only
  rw [R.map_bind,wX h]
  refine R.bind_congr fun x=>?_
  obtain⟨e,st⟩:=x
  cases e with
  | ret v=>exact put v st
  | panic v=>rfl
 | panic v=>rfl
 | defer d=>rfl
theorem Bp{i:Nat}{o:Oper}{b:Nat}{rs:RST}{st:St}{dep:Bool}{k:RST→cj}{k':RS→cC} (hk:∀ rs,(k rs).map bY=k' (db rs)):(u7 cx s i o b rs st dep k).map bY=oz cx s' i o b (db rs) st dep k':=by
 have fput:∀ v,fA ⟨Tm.dx rs.fr.tm o.dst v,rs.fr.df⟩=⟨dx (fA rs.fr).tm o.dst v,rs.fr.df⟩:=fun v=>yJ rs.fr o.dst v rs.fr.df
 have big:(D0 cx s rs.fr {st with h:=cM b rs.sm st.h} o (fun fr st'=>
   if Nat.ble st.n st'.n&&fU cx st' b rs.reads then
    k {fr:=fr,st:=st',sm:=fV b rs.sm,mm:=rs.mm,bigs:=i::rs.bigs,reads:=rs.reads}
   else .stuck "draw: a reader sees other things") fun v st'=>match rs.fr.df with
    | []=>match dep,fU cx {st with h:=cM b rs.sm st.h} b rs.reads with
     | true,true=>.ok (.die v,rs.fr,st')
     | _,_=>.stuck "a panic in a drawn region"
    | _=>.stuck "a panic in a drawn region").map bY=Bh cx s' (db rs).fr {st with h:=cM b (db rs).sm st.h} o (fun fr st'=>
   if Nat.ble st.n st'.n&&cI cx st' b (db rs).reads then
    k' {fr:=fr,st:=st',sm:=fV b (db rs).sm,mm:=(db rs).mm,bigs:=i::(db rs).bigs,reads:=(db rs).reads}
   else .stuck "draw: a reader sees other things") fun v st'=>match (db rs).fr.df with
    | []=>match dep,cI cx {st with h:=cM b (db rs).sm st.h} b (db rs).reads with
     | true,true=>.ok (.die v,(db rs).fr,st')
     | _,_=>.stuck "a panic in a drawn region"
    | _=>.stuck "a panic in a drawn region" := by
  refine Lm h (fun fr st'=>?_) fun v st'=>?_
  ·rw [ma]
   show R.map bY (if Nat.ble st.n st'.n&&cI cx st' b (db rs).reads then _ else _)=_
   split
   ·rw [hk]
    rfl
   ·rfl
  ·rw [ma]
   show R.map bY (match rs.fr.df with
    | []=>match dep,cI cx {st with h:=cM b (db rs).sm st.h} b (db rs).reads with
     | true,true=>.ok (.die v,rs.fr,st')
     | _,_=>.stuck "a panic in a drawn region"
    | _=>.stuck "a panic in a drawn region")=(match rs.fr.df with
    | []=>match dep,cI cx {st with h:=cM b (db rs).sm st.h} b (db rs).reads with
     | true,true=>.ok (.die v,(db rs).fr,st')
     | _,_=>.stuck "a panic in a drawn region"
    | _=>.stuck "a panic in a drawn region")
   split
   ·split<;>rfl
   ·rfl
 have hs:gL o.op (cD cx rs.fr.tm) rs.sm=gL o.op (dq cx (db rs).fr.tm) (db rs).sm:=by
  rw [show cD cx rs.fr.tm=dq cx (db rs).fr.tm from funext fun x=>ba ..]
  rfl
 unfold u7 oz
 rw [hs]
 generalize gL o.op _ _=n
 match n with
 | 0=>
  show (R.bind (oF _ _ _ _) _).map bY=R.bind _ _
  rw [mo,R.map_bind]
  refine R.bind_congr fun x=>?_
  obtain⟨r,st'⟩:=x
  cases r<;>try rfl
  rename_i v
  dsimp only
  split
  ·simp only [iX,cG]
   rw [hk]
   simp only [db,fput]
   rfl
  ·rfl
 | 1=>
  show (R.bind (oF _ _ _ _) _).map bY=R.bind _ _
  rw [mo,R.map_bind]
  refine R.bind_congr fun x=>?_
  obtain⟨r,st'⟩:=x
  cases r<;>try rfl
  rename_i v
  dsimp only
  split
  ·simp only [iX,cG]
   rw [hk]
   simp only [db,fput]
   rfl
  ·rfl
 | 2=>
  show (R.bind (oF _ _ _ _) _).map bY=R.bind _ _
  rw [mo,R.map_bind]
  refine R.bind_congr fun x=>?_
  obtain⟨r,st'⟩:=x
  cases r<;>try rfl
  rename_i v
  simp only [iX,cG]
  rw [hk]
  simp only [db,fput,List.map_cons,M5]
  rfl
 | 4=>
  show R.map bY (match o.op with | .insert _ _ _ _=>_ | _=>_)=(match o.op with | .insert _ _ _ _=>_ | _=>_)
  cases o.op<;>try rfl
  rename_i t m key x
  simp only [ba]
  dsimp only [db,fA]
  generalize dq cx rs.fr.tm.l m=a
  generalize dq cx rs.fr.tm.l key=kv
  generalize dq cx rs.fr.tm.l x=xv
  rcases a with _ | a
  ·rfl
  cases a<;>try rfl
  rename_i mb
  rcases kv with _ | kv
  ·rfl
  rcases xv with _ | xv
  ·rfl
  cases hm:rs.mm with
  | none=>rfl
  | some mk=>
   dsimp only
   generalize Nat.beq mb mk.id=p1
   generalize Nat.testBit b mk.owner=p2
   generalize p8 cx t kv=p3
   generalize oT kv mk.ins=p4
   cases p1<;>cases p2<;>cases p3<;>cases p4<;>try rfl
   simp only [iX,cG]
   rw [hk]
   simp only [db,fput]
   rfl
 | 5=>
  show (R.bind (oF _ _ _ _) _).map bY=R.bind _ _
  rw [mo,R.map_bind]
  refine R.bind_congr fun x=>?_
  obtain⟨r,st'⟩:=x
  cases r<;>try rfl
  rename_i v
  dsimp only [db]
  generalize T.get st'.h st.n=q
  cases hm:rs.mm with
  | some y=>rfl
  | none=>
   rcases q with _ | ob
   ·rfl
   cases ob<;>try rfl
   rename_i es
   cases es with
   | cons _ _=>rfl
   | nil=>
    dsimp only
    split
    ·simp only [iX,cG]
     rw [hk]
     simp only [db,fput]
     rfl
    ·rfl
 | 3=>exact big
 | n+6=>exact big
theorem oD(ops:List Oper)(bs:List Nat):∀ (l:List Nat) (done:Nat) (rs:RST),(pU cx s ops bs l done rs).map bY=km cx s' ops bs l done (db rs)
 | [],done,rs=>by
  unfold pU km
  cases Nat.beq (done+1) (2 ^ ops.length)<;>rfl
 | i::rest,done,rs=>by
  unfold pU km
  cases nth ops i with
  | none=>rfl
  | some o=>
   cases nth bs i with
   | none=>rfl
   | some b=>
    dsimp only
    show R.map bY (match within b done&&sI b rs.bigs && !Nat.testBit done i with | true=>_ | false=>_)=(match within b done&&sI b rs.bigs && !Nat.testBit done i with | true=>_ | false=>_)
    cases within b done&&sI b rs.bigs && !Nat.testBit done i with
    | false=>rfl
    | true=>
     dsimp only
     rw [Fx]
     show fO rs.st ops rs.fr.tm.l o _=fO rs.st ops rs.fr.tm.l o _
     congr 1
     funext st w
     cases w with
     | true=>exact Bp h fun rs=>oD ops bs rest _ rs
     | false=>
      simp only [iX,cG]
      rw [oD ops bs rest]
      exact congrArg (fun fr=>km cx s' ops bs rest (done ||| 2 ^ i) {(db rs) with st:=st,fr:=fr}) (yJ rs.fr o.dst .undef rs.fr.df)
theorem Lg(ops:List Oper)(bs:List Nat)(fr:FrT)(st:St):(DT cx s ops bs fr st).map bY=drawn cx s' ops bs (fA fr) st:=by
 unfold DT drawn
 exact oD h ops bs _ _ _
omit h
theorem Kq(tm:Tm)(hp:H)(r:ResultVar):AQ cx tm hp r=uB cx tm.l hp r:=by
 cases r<;>simp only [AQ,uB,Tm.get_eq]<;>rfl
theorem uC(tm:Tm)(hp:H):∀ l,qE cx tm hp l=jb cx tm.l hp l
 | []=>rfl
 | r::l=>by simp only [qE,jb,Kq,uC tm hp l]<;>rfl
theorem Fc(fn:Func)(tm:Tm)(hp:H):wC cx fn tm hp=px cx fn tm.l hp:=by
 unfold wC px
 rw [uC]
 rfl
theorem mw(fn:Func)(tm:Tm):∀ (ds:List bL) (e:Option V) (st:St),nd cx fn tm e ds st=leave cx fn tm.l e ds st
 | [],e,st=>by
  unfold nd leave
  cases e with
  | some p=>rfl
  | none=>
   dsimp only
   rw [Fc]
   rfl
 | .mark b::ds,e,st=>by
  unfold nd leave
  simp only [mw fn tm ds]
  rfl
 | .fn f cap args::ds,e,st=>by
  unfold nd leave
  simp only [mw fn tm ds]
  rfl
include h
theorem Ln(f:FuncId)(args:List V)(st:St):x6 cx s f args st=rK cx s' f args st:=by
 unfold x6 rK
 cases KV cx f args st with
 | some g=>rfl
 | none=>
  dsimp only
  cases cx.ft.get f with
  | none=>rfl
  | some fn=>
   dsimp only
   cases fn.body with
   | none=>rfl
   | some body=>
    dsimp only
    rw [jQ h _ _ {tm:=Tm.start fn.ntmps args,df:=[]} _ (by unfold fA;rw [Y2])]
    refine R.bind_congr fun (x:Ex×FrT×St)=>?_
    obtain⟨e,fr,st⟩:=x
    cases e with
    | normal=>exact mw fn fr.tm fr.df none st
    | ret=>exact mw fn fr.tm fr.df none st
    | panic v=>exact mw fn fr.tm fr.df (some v) st
    | die v=>rfl
    | exit i=>rfl
theorem uA{rnd:Option Nat}{g:FuncId}{first cap:List V}{params:Array Tmp}{assign body:Code}{tm:Tm}{df:List bL}{D:Nat}{st:St}:(uz s rnd g first cap params assign body tm df D st).map bY=qD s' rnd g first cap params assign body tm.l df D st:=by
 unfold uz qD
 rw [R.map_bind,h.call]
 refine R.bind_congr fun x=>?_
 obtain⟨e,st1⟩:=x
 cases e with
 | panic v=>rfl
 | ret v=>
  dsimp only
  cases st1.h.get st.n with
  | none=>rfl
  | some o=>
   cases o<;>try rfl
   rename_i state pending _ _ _ _ _
   cases state<;>try rfl
   all_goals
    cases pending with
    | none=>rfl
    | some c=>exact h.code rnd c ⟨tm,df⟩ _
theorem D5{rnd:Option Nat}{f:Operand}{params:Array Tmp}{assign body:Code}{fr:FrT}{st:St}:(zk cx s rnd f params assign body fr st).map bY=tg cx s' rnd f params assign body (fA fr) st:=by
 unfold zk tg
 rw [ba]
 show R.map bY (match dq cx fr.tm.l f with | some (.func (.func g) first cap)=>_ | _=>_)=(match dq cx fr.tm.l f with | some (.func (.func g) first cap)=>_ | _=>_)
 generalize dq cx fr.tm.l f=a
 rcases a with _ | a
 ·rfl
 cases a<;>try rfl
 rename_i g first cap
 cases g<;>try rfl
 rename_i g
 dsimp only
 cases cx.ft.get g with
 | none=>rfl
 | some fn=>
  cases rnd with
  | none=>exact uA h
  | some l=>
   dsimp only
   cases st.h.get l with
   | none=>rfl
   | some o=>
    cases o<;>try rfl
    exact uA h
theorem oC(rnd:Option Nat)(c:Code)(fr:FrT)(st:St):(x7 cx s rnd c fr st).map bY=oB cx s' rnd c (fA fr) st:=by
 cases c<;>try rfl
 ·rename_i ops draw
  cases draw with
  | false=>exact Lr h _ _ _ _
  | true=>
   show R.map bY (if u6 ops.toList then DT cx s ops.toList (dE ops.toList []) fr st else .stuck "draw: temporaries")=(if u6 ops.toList then drawn cx s' ops.toList (dE ops.toList []) (fA fr) st else .stuck "draw: temporaries")
   split
   ·exact Lg h _ _ _ _
   ·rfl
 ·rename_i a b
  show ((s.code rnd a fr st).bind _).map bY=(s'.code rnd a (fA fr) st).bind _
  rw [jQ h _ _ fr _ rfl,R.map_bind]
  refine R.bind_congr fun (x:Ex×FrT×St)=>?_
  obtain⟨e,fr,st⟩:=x
  cases e with
  | normal=>exact h.code rnd b fr st
  | _=>rfl
 ·rename_i c x y
  show R.map bY (match cD cx fr.tm c with
   | some (.bool b)=>split st b fun st t=>(match t with
    | true=>s.code rnd x fr st
    | false=>s.code rnd y fr st)
   | _=>.stuck "cond")=_
  rw [ba]
  show R.map bY (match dq cx fr.tm.l c with | some (.bool b)=>_ | _=>_)=(match dq cx fr.tm.l c with | some (.bool b)=>_ | _=>_)
  generalize dq cx fr.tm.l c=a
  rcases a with _ | a
  ·rfl
  cases a<;>try rfl
  dsimp only
  rw [qJ]
  congr 1
  funext st t
  cases t
  ·exact h.code rnd y fr st
  ·exact h.code rnd x fr st
 ·rename_i id body
  show ((s.code rnd body fr st).bind _).map bY=(s'.code rnd body (fA fr) st).bind _
  rw [jQ h _ _ fr _ rfl,R.map_bind]
  refine R.bind_congr fun (x:Ex×FrT×St)=>?_
  obtain⟨e,fr,st⟩:=x
  cases e with
  | exit i=>
   show R.map bY (match Nat.beq i id with | true=>_ | false=>_)=(match Nat.beq i id with | true=>_ | false=>_)
   cases Nat.beq i id<;>rfl
  | _=>rfl
 ·exact h.loop rnd _ fr st
 ·exact D5 h
 ·exact h.code rnd _ fr st
theorem tf(rnd:Option Nat)(body:Code)(fr:FrT)(st:St):(s9 s rnd body fr st).map bY=pV s' rnd body (fA fr) st:=by
 unfold s9 pV
 rw [jQ h _ _ fr _ rfl,R.map_bind]
 refine R.bind_congr fun (x:Ex×FrT×St)=>?_
 obtain⟨e,fr,st⟩:=x
 cases e with
 | normal=>exact h.loop rnd body fr st
 | _=>rfl
theorem Gn(rnd:Option Nat)(body:Code)(fr:FrT)(st:St):(D4 cx s rnd body fr st).map bY=zd cx s' rnd body (fA fr) st:=by
 unfold D4 zd
 cases cx.lp with
 | none=>exact tf h rnd body fr st
 | some lp=>
  dsimp only
  show R.map bY (match lp rnd body (fA fr) st with | none=>_ | some r=>_)=_
  cases lp rnd body (fA fr) st with
  | none=>exact tf h rnd body fr st
  | some r=>
   dsimp only
   rw [R.map_bind]
   refine Eq.trans (R.bind_congr (k':=fun x=>.ok x) fun (x:Ex×Fr×St)=>?_) ?_
   ·obtain⟨e,fr,st⟩:=x
    show R.ok (e,fA ⟨Tm.of fr.tm,fr.df⟩,st)=_
    unfold fA
    rw [aeL]
   ·induction r with
    | ok a=>rfl
    | br c t f it jf=>
     show R.br c (t.bind fun x=>.ok x) (f.bind fun x=>.ok x)=_
     rw [it,jf]
    | stuck s=>rfl
omit h
theorem wZ{β:Type}:∀ (l:List V) (k:List V→β),pX l k=k l
 | [],k=>rfl
 | v::l,k=>by
  unfold pX
  rw [fw]
  exact wZ l _
theorem GV(pc:PC)(c:X)(a b:Ex×FrT×St):(Eo pc c a b).map bY=zJ pc c (bY a) (bY b):=by
 obtain⟨e,fr,st⟩:=a
 obtain⟨e',fr',st'⟩:=b
 unfold Eo zJ bY
 dsimp only
 show Option.map _ (match kq e e',eB fr.df fr'.df with | true,true=>_ | _,_=>_)=(match kq e e',eB fr.df fr'.df with | true,true=>_ | _,_=>_)
 cases kq e e'<;>cases eB fr.df fr'.df<;>try rfl
 dsimp only
 have hj:=Pt c fr.tm fr'.tm
 show _=(match dv c fr.tm.l fr'.tm.l with | some tm=>_ | none=>none)
 rw [←hj]
 cases Es c fr.tm fr'.tm with
 | none=>rfl
 | some tm=>
  dsimp only [Option.map_some]
  cases vG pc c st st' with
  | none=>rfl
  | some st=>
   dsimp only
   rw [wZ]
   rfl
theorem rY{α β:Type}(f:α→β){j:PC→X→α→α→Option α}{j':PC→X→β→β→Option β} (hj:∀ pc c a b,(j pc c a b).map f=j' pc c (f a) (f b)):∀ (r:R α) (pc:PC),(dZ j pc r).map f=dZ j' pc (r.map f)
 | .ok a,pc=>rfl
 | .stuck s,pc=>rfl
 | .br c t u,pc=>by
  have h1:=rY f hj t ((c,true)::pc)
  have h2:=rY f hj u ((c,false)::pc)
  show (dZ j pc (.br c t u)).map f=dZ j' pc (.br c (t.map f) (u.map f))
  unfold dZ
  rw [←h1,←h2]
  generalize dZ j ((c,true)::pc) t=x
  generalize dZ j ((c,false)::pc) u=y
  cases x<;>try rfl
  cases y<;>try rfl
  rename_i a b
  show R.map f (match j pc c a b with | some r=>.ok r | none=>.br c (.ok a) (.ok b))=(match j' pc c (f a) (f b) with | some r=>.ok r | none=>.br c (.ok (f a)) (.ok (f b)))
  rw [←hj]
  cases j pc c a b<;>rfl
theorem iI{k:St→Tm→cj}{k':St→List V→cC} (hk:∀ st tm,(k st tm).map bY=k' st tm.l):∀ (ts:List Nat) (st:St) (tm:Tm),(jh st tm ts k).map bY=iU st tm.l ts k'
 | [],st,tm=>hk st tm
 | t::ts,st,tm=>by
  unfold jh iU
  rw [Tm.get_eq]
  cases nth tm.l t with
  | none=>exact iI hk ts st tm
  | some v=>
   dsimp only
   cases v.isIte with
   | false=>exact iI hk ts st tm
   | true=>
    dsimp only
    rw [nR]
    congr 1
    funext st v
    rw [iI hk ts,Tm.ZG]
include h
theorem wW(rnd:Option Nat)(c:Code)(fr:FrT)(st:St):(x8 cx s rnd c fr st).map bY=vg cx s' rnd c (fA fr) st:=by
 unfold x8 vg
 cases Fw c with
 | nil=>exact oC h rnd c fr st
 | cons t ts=>exact iI (fun st tm=>oC h rnd c ⟨tm,fr.df⟩ st) (t::ts) st fr.tm
theorem D1(rnd:Option Nat)(c:Code)(fr:FrT)(st:St):(zc cx s rnd c fr st).map bY=s7 cx s' rnd c (fA fr) st:=by
 unfold zc s7
 rw [GB,ku,m8,ku]
 cases cx.mg with
 | false=>exact oC h rnd c fr st
 | true=>
  dsimp only
  cases R2 cx.js c with
  | false=>exact wW h rnd c fr st
  | true=>
   dsimp only
   rw [rY bY GV,wW h]
theorem Gm(f:FuncId)(args:List V)(st:St):za cx s f args st=s6 cx s' f args st:=by
 unfold za s6
 rw [Ln h]
 rfl
end
theorem x9(cx:Cx):∀ n,Rel (X1 cx n) (ev cx n)
 | 0=>⟨fun _ _ _ _=>rfl,fun _ _ _ _=>rfl,rfl⟩
 | n+1=>⟨D1 (x9 cx n),Gn (cx:=cx) (x9 cx n),by funext f args st;exact Gm (x9 cx n) f args st⟩
theorem de(cx:Cx)(n:Nat):(ev cx n).call=(X1 cx n).call:=(x9 cx n).call.symm
end Go.Proofs.YtmickljjofbmiaaGreatDoor
