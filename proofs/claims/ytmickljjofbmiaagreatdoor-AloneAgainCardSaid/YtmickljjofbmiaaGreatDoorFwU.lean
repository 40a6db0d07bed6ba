/- Symbolic execution: the evaluator with tries does what the one with lists does. No condition. -/
import Derived.Test.YtmickljjofbmiaaGreatDoorFwT
import Derived.Test.YtmickljjofbmiaaGreatDoorFwD
namespace Go.Proofs.YtmickljjofbmiaaGreatDoor
open Go
section
variable {α β:Type}
theorem T.look_eq:∀ (t:T α) (bs:List Bool),t.look bs=t.fk bs:=by
 intro t
 induction t with
 | nil=>intro bs;cases bs<;>rfl
 | node l v r il ir=>
  intro bs
  cases bs with
  | nil=>rfl
  | cons b bs=>cases b with
   | true=>exact ir bs
   | false=>exact il bs
theorem T.E6:∀ (bs:List Bool) (v:α) (k:T α→β),T.afy bs v k=k (T.gN bs .nil (some v))
 | [],v,k=>rfl
 | b::bs,v,k=>by
  cases b with
  | true=>exact T.E6 bs v fun x=>k (.node .nil none x)
  | false=>exact T.E6 bs v fun x=>k (.node x none .nil)
theorem T.cQ:∀ (t:T α) (bs:List Bool) (v:α) (k:T α→β),t.lT bs v k=k (T.gN bs t (some v)):=by
 intro t
 induction t with
 | nil=>intro bs v k;exact T.E6 bs v k
 | node l u r il ir=>
  intro bs v k
  cases bs with
  | nil=>rfl
  | cons b bs=>cases b with
   | true=>exact ir bs v fun x=>k (.node l u x)
   | false=>exact il bs v fun x=>k (.node x u r)
end
theorem Tm.BB(m:Tm)(i:Nat):m.val i=(m.t.get i).getD .undef:=by
 unfold Tm.val
 rw [T.look_eq]
 show _=(m.t.fk (bitsOf i)).getD .undef
 cases m.t.fk (bitsOf i)<;>rfl
theorem Tm.xV(m:Tm)(i:Nat):m.l[i]?=if i<m.n then some (m.val i) else none:=by
 unfold Tm.l
 rw [List.getElem?_map]
 by_cases h:i<m.n
 ·rw [if_pos h,List.getElem?_range h];rfl
 ·rw [if_neg h,List.getElem?_eq_none (by simpa using h)];rfl
theorem Tm.get_eq(m:Tm)(i:Nat):m.get i=nth m.l i:=by
 rw [bS,Tm.xV]
 unfold Tm.get
 cases h:Nat.blt i m.n with
 | true=>
  have h2:i<m.n:=Nat.le_of_ble_eq_true h
  rw [if_pos h2]
 | false=>
  have h2:¬i<m.n:=fun h2=>by rw [show Nat.blt i m.n=true from Nat.ble_eq_true_of_le h2] at h;cases h
  rw [if_neg h2]
theorem Tm.yh{β:Type}(m:Tm)(i:Nat)(v:V)(k:Tm→β):m.Kb i v k=k (m.set i v):=by
 unfold Tm.set Tm.Kb
 simp only [T.cQ]
theorem Tm.abL(m:Tm)(i:Nat)(v:V):(m.set i v).l=B5 m.l i v:=by
 have e:m.set i v=⟨m.n,m.t.set i v⟩:=by
  unfold Tm.set Tm.Kb
  simp only [T.cQ]
  rfl
 rw [mC,e]
 refine List.ext_getElem? fun j=>?_
 rw [Tm.xV,List.getElem?_set,Tm.xV]
 have hl:m.l.length=m.n:=by simp [Tm.l]
 by_cases hij:i=j
 ·subst hij
  simp only [Tm.BB,T.aR,if_true,hl]
  by_cases h:i<m.n<;>simp [h]
 ·simp only [Tm.BB,T.aL _ _ hij,if_neg hij]
theorem Tm.Ul(m:Tm)(d:Option Tmp)(v:V):(Tm.dF m d v).l=_root_.Go.Proofs.YtmickljjofbmiaaGreatDoor.dF m.l d v:=by
 cases d with
 | none=>rfl
 | some d=>exact Tm.abL m d v
theorem jq{β:Type}(m:Tm)(d:Option Tmp)(v:V)(k:Tm→β):nB m d v k=k (m.dF d v):=by
 cases d with
 | none=>rfl
 | some d=>exact Tm.yh m d v k
def Cn:Nat→List V→T V→T V
 | _,[],t=>t
 | i,v::l,t=>Cn (i+1) l (t.set i v)
theorem AN{β:Type}:∀ (i:Nat) (l:List V) (t:T V) (k:T V→β),J8 i l t k=k (Cn i l t)
 | _,[],t,k=>rfl
 | i,v::l,t,k=>by
  unfold J8 Cn
  rw [fK,T.cQ]
  exact AN (i+1) l _ k
theorem wG:∀ (l:List V) (i:Nat) (t:T V) (j:Nat),(Cn i l t).get j=if i≤j∧j-i<l.length then l[j-i]? else t.get j
 | [],i,t,j=>by simp [Cn]
 | v::l,i,t,j=>by
  unfold Cn
  rw [wG l (i+1)]
  by_cases h1:i+1≤j∧j-(i+1)<l.length
  ·rw [if_pos h1,if_pos ⟨by omega,by simp;omega⟩,show j-i=(j-(i+1))+1 by omega,List.getElem?_cons_succ]
  ·rw [if_neg h1]
   by_cases h2:i=j
   ·subst h2
    rw [T.aR,if_pos ⟨by omega,by simp⟩,Nat.sub_self]
    rfl
   ·rw [T.aL _ _ h2,if_neg]
    rintro ⟨h3,h4⟩
    simp at h4
    exact h1 ⟨by omega,by omega⟩
theorem anj(l:List V):(Tm.of l).l=l:=by
 unfold Tm.of
 rw [AN]
 refine List.ext_getElem? fun j=>?_
 rw [Tm.xV,Tm.BB]
 simp only [wG]
 by_cases h:j<l.length
 ·rw [if_pos h,if_pos ⟨by omega,by simpa using h⟩,Nat.sub_zero,List.getElem?_eq_getElem h]
  rfl
 ·rw [if_neg h,List.getElem?_eq_none (by omega)]
theorem aaT(n:Nat)(args:List V):(Tm.start n args).l=args++List.replicate (n-args.length) .undef:=by
 unfold Tm.start
 rw [AN]
 refine List.ext_getElem? fun j=>?_
 rw [Tm.xV,Tm.BB]
 simp only [wG]
 by_cases h:j<args.length
 ·rw [if_pos (by omega),if_pos ⟨by omega,by simpa using h⟩,Nat.sub_zero,List.getElem?_eq_getElem h,List.getElem?_append_left h,List.getElem?_eq_getElem h]
  rfl
 ·have h3:¬(0≤j∧j-0<args.length):=fun hh=>h (by simpa using hh.2)
  rw [List.getElem?_append_right (by omega),List.getElem?_replicate]
  simp only [h3,if_false,T.get_nil]
  by_cases h2:j<args.length+(n-args.length)
  ·rw [if_pos h2,if_pos (by omega)];rfl
  ·rw [if_neg h2,if_neg (by omega)]
theorem vS{β:Type}(c:X)(a b:Option V)(k:Option V→β):∃ r,Gu c a b k=k r∧OW r=bY c (OW a) (OW b):=by
 cases a with
 | none=>cases b with
  | none=>exact⟨none,rfl,rfl⟩
  | some b=>exact⟨some (bY c .undef b),fK (bY c .undef b) fun v=>k (some v),rfl⟩
 | some a=>exact⟨some (bY c a (OW b)),fK (bY c a (OW b)) fun v=>k (some v),rfl⟩
theorem ae4(o:Option V):o.getD .undef=OW o:=by cases o<;>rfl
theorem B0{β:Type}(c:X):∀ (t:T V) (k:T V→β),∃ r,xK c t k=k r∧∀ bs,OW (r.fk bs)=bY c .undef (OW (t.fk bs))
 | .nil,k=>⟨.nil,rfl,fun bs=>by rw [T.eN];rfl⟩
 | .node l v r,k=>by
  obtain⟨v1,e1,h1⟩:=vS (β:=β) c none v fun v=>xK c l fun l=>xK c r fun r=>k (.node l v r)
  obtain⟨l1,e2,h2⟩:=B0 c l fun l=>xK c r fun r=>k (.node l v1 r)
  obtain⟨r1,e3,h3⟩:=B0 c r fun r=>k (.node l1 v1 r)
  refine⟨.node l1 v1 r1,by unfold xK;rw [e1,e2,e3],fun bs=>?_⟩
  cases bs with
  | nil=>exact h1
  | cons b bs=>cases b with
   | true=>exact h3 bs
   | false=>exact h2 bs
theorem zq{β:Type}(c:X):∀ (t:T V) (k:T V→β),∃ r,yd c t k=k r∧∀ bs,OW (r.fk bs)=bY c (OW (t.fk bs)) .undef
 | .nil,k=>⟨.nil,rfl,fun bs=>by rw [T.eN];rfl⟩
 | .node l v r,k=>by
  obtain⟨v1,e1,h1⟩:=vS (β:=β) c v none fun v=>yd c l fun l=>yd c r fun r=>k (.node l v r)
  obtain⟨l1,e2,h2⟩:=zq c l fun l=>yd c r fun r=>k (.node l v1 r)
  obtain⟨r1,e3,h3⟩:=zq c r fun r=>k (.node l1 v1 r)
  refine⟨.node l1 v1 r1,by unfold yd;rw [e1,e2,e3],fun bs=>?_⟩
  cases bs with
  | nil=>exact h1
  | cons b bs=>cases b with
   | true=>exact h3 bs
   | false=>exact h2 bs
theorem wE{β:Type}(c:X):∀ (t u:T V) (k:T V→β),∃ r,mG c t u k=k r∧∀ bs,OW (r.fk bs)=bY c (OW (t.fk bs)) (OW (u.fk bs))
 | .nil,u,k=>by
  obtain⟨r,e,h⟩:=B0 c u k
  exact⟨r,by unfold mG;exact e,fun bs=>by rw [h,T.eN];rfl⟩
 | .node l v r,u,k=>by
  cases u with
  | nil=>
   obtain⟨x,e,h⟩:=zq c (.node l v r) k
   exact⟨x,by unfold mG;exact e,fun bs=>by rw [h,T.eN];rfl⟩
  | node l' v' r'=>
   obtain⟨v1,e1,h1⟩:=vS (β:=β) c v v' fun v=>mG c l l' fun l=>mG c r r' fun r=>k (.node l v r)
   obtain⟨l1,e2,h2⟩:=wE c l l' fun l=>mG c r r' fun r=>k (.node l v1 r)
   obtain⟨r1,e3,h3⟩:=wE c r r' fun r=>k (.node l1 v1 r)
   refine⟨.node l1 v1 r1,by unfold mG;dsimp only;rw [e1,e2,e3],fun bs=>?_⟩
   cases bs with
   | nil=>exact h1
   | cons b bs=>cases b with
    | true=>exact h3 bs
    | false=>exact h2 bs
theorem xP(c:X):∀ (l m:List V),l.length=m.length→dL c l m=some (List.zipWith (bY c) l m)
 | [],[],_=>by unfold dL;rfl
 | a::l,b::m,h=>by
  unfold dL
  dsimp only
  rw [xP c l m (by simpa using h)]
  rfl
 | [],_::_,h=>by simp at h
 | _::_,[],h=>by simp at h
theorem x6(c:X):∀ (l m:List V),l.length≠m.length→dL c l m=none
 | [],[],h=>absurd rfl h
 | a::l,b::m,h=>by
  unfold dL
  dsimp only
  rw [x6 c l m (by simpa using h)]
 | [],_::_,_=>by unfold dL;rfl
 | _::_,[],_=>by unfold dL;rfl
theorem Ow(m:Tm):m.l.length=m.n:=by simp [Tm.l]
theorem QF(c:X)(a b:Tm):(ES c a b).map Tm.l=dL c a.l b.l:=by
 obtain⟨n,t⟩:=a
 obtain⟨m,u⟩:=b
 unfold ES
 dsimp only
 split
 ·rename_i h
  obtain rfl:=Nat.eq_of_beq_eq_true h
  obtain⟨r,e,hr⟩:=wE c t u fun t=>some (Tm.mk n t)
  rw [e,xP c _ _ (by rw [Ow,Ow])]
  simp only [Option.map_some,Option.some.injEq]
  refine List.ext_getElem? fun j=>?_
  rw [List.getElem?_zipWith,Tm.xV,Tm.xV,Tm.xV]
  by_cases h:j<n
  ·simp only [h,if_true,Tm.BB,ae4]
   exact congrArg some (hr (bitsOf j))
  ·simp [h]
 ·rename_i h
  rw [x6 c _ _ fun e=>by rw [Ow,Ow] at e;dsimp only at e;subst e;rw [Nat.beq_refl] at h;cases h]
  rfl
theorem Q9(v:V):v.FW=v.isIte:=by cases v<;>rfl
theorem bg(cx:Cx)(tm:Tm)(o:Operand):cL cx tm o=dC cx tm.l o:=by
 cases o with
 | tmp t=>
  simp only [cL,dC,Tm.get_eq]
  cases nth tm.l t with
  | none=>rfl
  | some v=>cases v<;>rfl
 | _=>rfl
theorem BG(cx:Cx)(tm:Tm)(o:Operand):Kk cx tm o=pG cx tm.l o:=by
 unfold Kk pG
 simp only [bg,Tm.get_eq]<;>rfl
theorem zo{β:Type}(x:X)(k:X→β):Eo x k=k x:=by
 cases x<;>try rfl
 rename_i n
 exact C8 n fun n=>k (.lit n)
theorem AT{β:Type}(v:V)(k:V→β):Gy v k=k v:=by
 cases v<;>try rfl
 ·rename_i a x
  exact zo x fun x=>k (.int a x)
 ·rename_i x
  exact zo x fun x=>k (.bool x)
theorem oB(cx:Cx)(tm:Tm):∀ l,ma cx tm l=gl cx tm.l l
 | []=>rfl
 | o::l=>by simp only [ma,gl,bg,oB cx tm l]<;>rfl
theorem xD(cx:Cx)(tm:Tm):∀ l,uB cx tm l=jc cx tm.l l
 | []=>rfl
 | o::l=>by simp only [uB,jc,BG,xD cx tm l]<;>rfl
theorem qq(cx:Cx)(tm:Tm):∀ l,pZ cx tm l=eV cx tm.l l
 | []=>rfl
 | (i,o)::l=>by simp only [pZ,eV,bg,qq cx tm l]<;>rfl
theorem Ri(cx:Cx)(tm:Tm)(o:Option Operand):z3 cx tm o=rY cx tm.l o:=by
 cases o<;>simp only [z3,rY,bg]<;>rfl
set_option maxHeartbeats 8000 in
theorem PW(cx:Cx)(tm:Tm)(st:St)(c:Operand)(a:Operand)(b:Operand):Nq cx tm st c a b=Cz cx tm.l st c a b:=by
 unfold Nq Cz
 simp only [bg]<;>rfl
set_option maxHeartbeats 8000 in
theorem RD(cx:Cx)(tm:Tm)(st:St)(t:TypeId)(x:Operand):W6 cx tm st t x=Qw cx tm.l st t x:=by
 unfold W6 Qw
 simp only [bg]<;>rfl
set_option maxHeartbeats 8000 in
theorem M7(cx:Cx)(tm:Tm)(st:St)(t:TypeId) (parts:Array (Nat×Operand)):FR cx tm st t parts=xi cx tm.l st t parts:=by
 unfold FR xi
 simp only [qq]<;>rfl
set_option maxHeartbeats 8000 in
theorem yq(cx:Cx)(tm:Tm)(st:St)(t:TypeId)(len:Nat) (parts:Array (Nat×Operand)):nP cx tm st t len parts=gr cx tm.l st t len parts:=by
 unfold nP gr
 simp only [qq]<;>rfl
set_option maxHeartbeats 8000 in
theorem QK(cx:Cx)(tm:Tm)(st:St)(t:TypeId)(a:Operand):Nl cx tm st t a=Bg cx tm.l st t a:=by
 unfold Nl Bg
 simp only [bg]<;>rfl
set_option maxHeartbeats 8000 in
theorem Nc(cx:Cx)(tm:Tm)(st:St)(t:TypeId)(a:Operand)(x:Operand):EI cx tm st t a x=wO cx tm.l st t a x:=by
 unfold EI wO
 simp only [bg]<;>rfl
set_option maxHeartbeats 8000 in
theorem B8(cx:Cx)(tm:Tm)(st:St)(x:Operand):sS cx tm st x=kO cx tm.l st x:=by
 unfold sS kO
 simp only [bg]<;>rfl
set_option maxHeartbeats 8000 in
theorem Xk(cx:Cx)(tm:Tm)(st:St)(op:BinOp)(t:TypeId)(x:Operand)(y:Operand):Vr cx tm st op t x y=Qx cx tm.l st op t x y:=by
 unfold Vr Qx
 simp only [bg]<;>rfl
set_option maxHeartbeats 8000 in
theorem Za(cx:Cx)(tm:Tm)(st:St)(op:UnOp)(x:Operand):ac0 cx tm st op x=oUn cx tm.l st op x:=by
 unfold ac0 oUn
 simp only [bg]<;>rfl
set_option maxHeartbeats 8000 in
theorem Fz(cx:Cx)(tm:Tm)(st:St)(src:TypeId)(dst:TypeId)(x:Operand):wR cx tm st src dst x=lJ cx tm.l st src dst x:=by
 unfold wR lJ
 simp only [bg]<;>rfl
set_option maxHeartbeats 8000 in
theorem L9(cx:Cx)(tm:Tm)(st:St)(t:TypeId)(x:Operand):EK cx tm st t x=wY cx tm.l st t x:=by
 unfold EK wY
 simp only [bg]<;>rfl
set_option maxHeartbeats 8000 in
theorem Qy(cx:Cx)(tm:Tm)(st:St)(fn:Fn)(first:Array Operand)(captured:Array Operand):M9 cx tm st fn first captured=D4 cx tm.l st fn first captured:=by
 unfold M9 D4
 simp only [oB]<;>rfl
set_option maxHeartbeats 8000 in
theorem V1(cx:Cx)(tm:Tm)(st:St)(t:TypeId)(r:Option Operand):TS cx tm st t r=Q2 cx tm.l st t r:=by
 unfold TS Q2
 simp only [bg]<;>rfl
set_option maxHeartbeats 8000 in
theorem yz(cx:Cx)(tm:Tm)(st:St)(t:TypeId)(l:Operand)(c:Operand):od cx tm st t l c=gC cx tm.l st t l c:=by
 unfold od gC
 simp only [bg]<;>rfl
set_option maxHeartbeats 8000 in
theorem Bq(cx:Cx)(tm:Tm)(st:St)(t:TypeId)(l:Operand)(c:Operand):p8 cx tm st t l c=iV cx tm.l st t l c:=by
 unfold p8 iV
 simp only [bg,yz]<;>rfl
set_option maxHeartbeats 8000 in
theorem L4(cx:Cx)(tm:Tm)(st:St)(t:TypeId)(x:Operand)(lo:Option Operand)(hi:Option Operand)(mx:Option Operand):Fc cx tm st t x lo hi mx=wJ cx tm.l st t x lo hi mx:=by
 unfold Fc wJ
 simp only [bg,Ri]<;>rfl
set_option maxHeartbeats 8000 in
theorem Bl(cx:Cx)(tm:Tm)(st:St)(t:TypeId)(x:Operand)(f:Nat):oY cx tm st t x f=iU cx tm.l st t x f:=by
 unfold oY iU
 simp only [bg]<;>rfl
set_option maxHeartbeats 8000 in
theorem LR(cx:Cx)(tm:Tm)(st:St)(t:TypeId)(x:Operand)(f:Nat):EW cx tm st t x f=wN cx tm.l st t x f:=by
 unfold EW wN
 simp only [bg]<;>rfl
set_option maxHeartbeats 8000 in
theorem A8(cx:Cx)(tm:Tm)(st:St)(t:TypeId)(x:Operand)(ix:Operand):qn cx tm st t x ix=iW cx tm.l st t x ix:=by
 unfold qn iW
 simp only [bg]<;>rfl
set_option maxHeartbeats 8000 in
theorem Ma(cx:Cx)(tm:Tm)(st:St)(t:TypeId)(x:Operand)(ix:Operand):F0 cx tm st t x ix=wX cx tm.l st t x ix:=by
 unfold F0 wX
 simp only [bg]<;>rfl
set_option maxHeartbeats 8000 in
theorem K3(cx:Cx)(tm:Tm)(st:St)(t:TypeId)(x:Operand)(ix:Operand)(ok:Bool):Av cx tm st t x ix ok=oE cx tm.l st t x ix ok:=by
 unfold Av oE
 simp only [bg]<;>rfl
set_option maxHeartbeats 8000 in
theorem xI(cx:Cx)(tm:Tm)(st:St)(t:TypeId)(m:Operand)(k:Operand)(x:Operand):tn cx tm st t m k x=ko cx tm.l st t m k x:=by
 unfold tn ko
 simp only [bg]<;>rfl
set_option maxHeartbeats 8000 in
theorem Ki(cx:Cx)(tm:Tm)(st:St)(x:Operand)(asserted:TypeId)(ok:Bool):Bx cx tm st x asserted ok=qK cx tm.l st x asserted ok:=by
 unfold Bx qK
 simp only [bg]<;>rfl
set_option maxHeartbeats 8000 in
theorem FQ(cx:Cx)(tm:Tm)(st:St)(x:Operand)(i:Nat):w9 cx tm st x i=m3 cx tm.l st x i:=by
 unfold w9 m3
 simp only [bg]<;>rfl
set_option maxHeartbeats 8000 in
theorem QG(cx:Cx)(tm:Tm)(st:St)(c:Call):LS cx tm st c=xT cx tm.l st c:=by
 unfold LS xT
 simp only [bg,oB,xD]<;>rfl
set_option maxHeartbeats 8000 in
theorem LZ(cx:Cx)(tm:Tm)(st:St)(c:Call):Gp cx tm st c=pO cx tm.l st c:=by
 unfold Gp pO
 simp only [bg,oB]<;>rfl
set_option maxHeartbeats 8000 in
theorem MW(cx:Cx)(tm:Tm)(st:St)(x:Operand):Es cx tm st x=wc cx tm.l st x:=by
 unfold Es wc
 simp only [bg]<;>rfl
set_option maxHeartbeats 8000 in
theorem Nk(cx:Cx)(tm:Tm)(st:St)(t:TypeId)(x:Operand):Ef cx tm st t x=vJ cx tm.l st t x:=by
 unfold Ef vJ
 simp only [bg]<;>rfl
set_option maxHeartbeats 8000 in
theorem Q0(cx:Cx)(tm:Tm)(st:St)(x:Operand)(isString:Bool):Ng cx tm st x isString=CF cx tm.l st x isString:=by
 unfold Ng CF
 simp only [bg]<;>rfl
theorem DC(cx:Cx)(tm:Tm)(st:St)(o:Oper):wD cx tm st o=jh cx tm.l st o:=by
 have key:∀ op:Op,o.op=op→wD cx tm st o=jh cx tm.l st o:=by
  intro op h
  unfold wD jh
  rw [h]
  cases op
  case move x=>exact congrArg (fun v=>fT st v "move") (BG cx tm x)
  case assign x=>exact congrArg (fun v=>fT st v "assign") (BG cx tm x)
  case pick c a b=>exact PW cx tm st c a b
  case alloc t=>rfl
  case box t x=>exact RD cx tm st t x
  case build t parts=>exact M7 cx tm st t parts
  case buildSlice t len parts=>exact yq cx tm st t len parts
  case load t a=>exact QK cx tm st t a
  case store t a x=>exact Nc cx tm st t a x
  case nilCheck x=>exact B8 cx tm st x
  case binOp op t x y _u4=>exact Xk cx tm st op t x y
  case unOp op _u1 x=>exact Za cx tm st op x
  case convert src dst x=>exact Fz cx tm st src dst x
  case makeInterface t x=>exact L9 cx tm st t x
  case makeFunc fn first captured=>exact Qy cx tm st fn first captured
  case makeMap t r=>exact V1 cx tm st t r
  case makeSlice t l c=>exact Bq cx tm st t l c
  case slice t x lo hi mx=>exact L4 cx tm st t x lo hi mx
  case fieldAddr t x f=>exact Bl cx tm st t x f
  case field t x f=>exact LR cx tm st t x f
  case indexAddr t x ix=>exact A8 cx tm st t x ix
  case index t x ix=>exact Ma cx tm st t x ix
  case lookup t x ix ok=>exact K3 cx tm st t x ix ok
  case mapUpdate t m k x=>exact xI cx tm st t m k x
  case insert t m k x=>exact xI cx tm st t m k x
  case typeAssert x _u1 asserted ok=>exact Ki cx tm st x asserted ok
  case extract x i=>exact FQ cx tm st x i
  case call c=>exact QG cx tm st c
  case defer c=>exact LZ cx tm st c
  case panic x=>exact MW cx tm st x
  case range t x=>exact Nk cx tm st t x
  case next x s=>exact Q0 cx tm st x s
  all_goals rfl
 exact key _ rfl
theorem ni(cx:Cx)(tm:Tm)(st:St)(o:Oper):qb cx tm st o=eD cx tm.l st o:=by
 show (wD cx tm st o).bind _=(jh cx tm.l st o).bind _
 exact congrArg (fun r:cz=>r.bind fun x=>gI x.1 x.2) (DC cx tm st o)
section
variable {α β γ:Type}
noncomputable def R.map(f:α→β)(r:R α):R β:=r.bind fun a=>.ok (f a)
theorem R.map_bind(r:R α)(k:α→R β)(f:β→γ):(r.bind k).map f=r.bind fun a=>(k a).map f:=by
 induction r with
 | ok a=>rfl
 | br c t u i j=>
  show R.br c ((t.bind k).map f) ((u.bind k).map f)=R.br c _ _
  rw [i,j]
  rfl
 | stuck s=>rfl
theorem R.bind_map(r:R α)(f:α→β)(k:β→R γ):(r.map f).bind k=r.bind fun a=>k (f a):=by
 induction r with
 | ok a=>rfl
 | br c t u i j=>
  show R.br c ((t.map f).bind k) ((u.map f).bind k)=R.br c _ _
  rw [i,j]
  rfl
 | stuck s=>rfl
theorem R.bind_congr{r:R α}{k k':α→R β}(h:∀ a,k a=k' a):r.bind k=r.bind k':=by rw [funext h]
theorem Mf(f:α→β):∀ (x:X) (st:St) (k:St→Bool→R α),(cZ st x k).map f=cZ st x fun st b=>(k st b).map f:=by
 intro x
 induction x with
 | lit n=>intro st k;rfl
 | not y ih=>intro st k;exact ih st _
 | ite c a b ic ia ib=>
  intro st k
  show (cZ st c _).map f=cZ st c _
  rw [ic]
  congr 1
  funext st t
  cases t
  ·exact ib st k
  ·exact ia st k
 | _=>
  intro st k
  simp only [cZ]
  split<;>rfl
theorem rv{α β:Type}(f:α→β)(x:X)(st:St)(k:St→Bool→R α):(split st x k).map f=split st x fun st b=>(k st b).map f:=by rw [nw,nw,Mf]
theorem ot{γ:Type}(n:Nat)(st:St)(c:X)(a b:V)(k:St→V→R γ):dR (n+1) st (V.ite c a b) k=split st c fun st t=>match t with
  | true=>dR n st a k
  | false=>dR n st b k:=rfl
theorem nY(f:α→β):∀ (n:Nat) (st:St) (v:V) (k:St→V→R α),(dR n st v k).map f=dR n st v fun st v=>(k st v).map f
 | 0,st,v,k=>rfl
 | n+1,st,v,k=>by
  cases v<;>try rfl
  rename_i c a b
  rw [ot,ot,rv]
  congr 1
  funext st t
  cases t
  ·exact nY f n st b k
  ·exact nY f n st a k
end
noncomputable def fO(fr:FrT):Fr:=⟨fr.tm.l,fr.df⟩
noncomputable def b9(x:Ex×FrT×St):Ex×Fr×St:=(x.1,fO x.2.1,x.2.2)
structure Rel (s:SelfT) (s':Self):Prop where
 code:∀ rnd c fr st,(s.code rnd c fr st).map b9=s'.code rnd c (fO fr) st
 loop:∀ rnd c fr st,(s.loop rnd c fr st).map b9=s'.loop rnd c (fO fr) st
 call:s.call=s'.call
theorem AP(fr:FrT)(d:Option Tmp)(v:V)(df:List bN):fO ⟨Tm.dF fr.tm d v,df⟩=⟨dF (fO fr).tm d v,df⟩:=by
 unfold fO
 rw [Tm.Ul]
theorem Ll{β:Type}(fr:FrT)(k:FrT→β):Lg fr k=k fr:=by
 obtain⟨tm,df⟩:=fr
 cases df<;>rfl
section
variable {cx:Cx} {s:SelfT} {s':Self} (h:Rel s s')
include h
theorem kG{α:Type}(rnd:Option Nat)(c:Code)(fr:FrT)(fr':Fr)(hf:fO fr=fr')(st:St)(k:Ex×Fr×St→R α):(s'.code rnd c fr' st).bind k=(s.code rnd c fr st).bind fun x=>k (b9 x):=by
 rw [←hf,←h.code,R.bind_map]
theorem Ca(l:Nat)(body:Code)(e:Ex)(fr:FrT)(st:St):sU s l body e fr st=qA s' l body e (fO fr) st:=by
 unfold sU qA
 cases e<;>try rfl
 dsimp only
 cases st.h.get l with
 | none=>rfl
 | some o=>
  cases o<;>try rfl
  rename_i state _ _ _ _ _ _
  cases state<;>try rfl
  dsimp only
  rw [kG h _ _ fr _ rfl]
  exact R.bind_congr fun x=>rfl
theorem ye(l:Nat)(args:List V)(st:St):pX s l args st=lh s' l args st:=by
 unfold pX lh
 cases st.h.get l with
 | none=>rfl
 | some o=>
  cases o<;>try rfl
  rename_i _ _ tmps params assign body _
  dsimp only
  cases Nat.beq params.toList.length args.length with
  | true=>
   dsimp only
   rw [kG h _ _ {tm:=Tm.of (mM tmps params.toList args),df:=[]} _ (by unfold fO;rw [anj])]
   exact R.bind_congr fun (x:Ex×FrT×St)=>Ca h l body x.1 x.2.1 x.2.2
  | false=>rfl
omit h
theorem Em(st:St)(ops:List Oper)(tm:Tm)(o:Oper)(k:St→Bool→cr):(AB st ops tm o k).map b9=gd st ops tm.l o fun st b=>(k st b).map b9:=by
 unfold AB gd
 cases o.guard with
 | none=>rfl
 | some g=>
  obtain⟨j,want⟩:=g
  dsimp only
  cases (nth ops j).bind (·.dst) with
  | none=>rfl
  | some d=>
   dsimp only
   rw [Tm.get_eq]
   cases nth tm.l d with
   | none=>rfl
   | some v=>
    cases v<;>try rfl
    exact rv _ _ _ _
include h
omit h
theorem m8{tm:Tm}{df:List bN}{dst:Option Tmp}{k:rF}{k':Fr→St→cM} (hk:∀ tm df st,(k tm df st).map b9=k' ⟨tm.l,df⟩ st) (st:St) (v:V):(wZ tm df dst k st v).map b9=k' ⟨dF tm.l dst v,df⟩ st:=by
 unfold wZ
 rw [jq]
 show (k (Tm.dF tm dst v) df st).map b9=_
 rw [hk,Tm.Ul]
theorem Er{α:Type}{v:V}(hv:v.isIte=false)(st:St)(k:St→V→R α):dR 100 st v k=k st v:=by
 cases v<;>first | rfl | (simp [V.isIte] at hv)
theorem II{α β:Type}:∀ (x:X) (st:St) (k:St→Bool→R α) (g:α→R β),(cZ st x k).bind g=cZ st x fun st b=>(k st b).bind g:=by
 intro x
 induction x with
 | lit n=>intro st k g;rfl
 | not y ih=>intro st k g;exact ih st _ g
 | ite c a b ic ia ib=>
  intro st k g
  show (cZ st c _).bind g=cZ st c _
  rw [ic]
  congr 1
  funext st t
  cases t
  ·exact ib st k g
  ·exact ia st k g
 | _=>
  intro st k g
  simp only [cZ]
  split<;>rfl
theorem LC{α β:Type}(x:X)(st:St)(k:St→Bool→R α)(g:α→R β):(split st x k).bind g=split st x fun st b=>(k st b).bind g:=by rw [nw,nw,II]
theorem p7{α β:Type}(g:α→R β):∀ (n:Nat) (st:St) (v:V) (k:St→V→R α),(dR n st v k).bind g=dR n st v fun st v=>(k st v).bind g
 | 0,st,v,k=>rfl
 | n+1,st,v,k=>by
  cases v<;>try rfl
  rename_i c a b
  rw [ot,ot,LC]
  congr 1
  funext st t
  cases t
  ·exact p7 g n st b k
  ·exact p7 g n st a k
theorem R.T6{α β:Type}(a:α)(k:α→R β):(R.ok a).bind k=k a:=rfl
theorem R.bind_assoc{α β γ:Type}(r:R α)(k:α→R β)(g:β→R γ):(r.bind k).bind g=r.bind fun a=>(k a).bind g:=by
 induction r with
 | ok a=>rfl
 | br c t u i j=>
  show R.br c ((t.bind k).bind g) ((u.bind k).bind g)=R.br c _ _
  rw [i,j]
  rfl
 | stuck s=>rfl
theorem Jr{tm:Tm}{df:List bN}{dst:Option Tmp}{k:rF}{k':Fr→St→cM} (hk:∀ tm df st,(k tm df st).map b9=k' ⟨tm.l,df⟩ st) (v:V) (st:St):
  (Vx tm df dst k v st).map b9=dR 100 st v fun st v=>k' ⟨dF tm.l dst v,df⟩ st:=by
 unfold Vx
 rw [Q9]
 cases hv:v.isIte with
 | true=>
  dsimp only
  rw [nY]
  congr 1
  funext st v
  rw [AT,m8 hk]
 | false=>
  dsimp only
  rw [Er hv,AT,m8 hk]
include h
theorem Du{rnd:Option Nat}{tm:Tm}{df:List bN}{st:St}{o:Oper}{k:rF}{k':Fr→St→cM} (hk:∀ tm df st,(k tm df st).map b9=k' ⟨tm.l,df⟩ st):(NG cx s rnd o k tm df st).map b9=wo cx s' rnd ⟨tm.l,df⟩ st o k':=by
 unfold NG wo eD
 rw [DC,R.map_bind,R.bind_assoc]
 refine R.bind_congr fun x=>?_
 obtain⟨r,st⟩:=x
 cases r with
 | val v=>
  dsimp only [abE,gI]
  rw [Jr hk,p7]
  congr 1
  funext st v
  rw [R.T6]
  dsimp only
  rw [fK,cQ]
 | skip=>exact m8 hk st .undef
 | enter f args=>
  show ((s.call f args st).bind (abm tm df o.dst k)).map b9=(s'.call f args st).bind _
  rw [R.map_bind,h.call]
  refine R.bind_congr fun x=>?_
  obtain⟨e,st⟩:=x
  cases e with
  | ret v=>
   show (Vx tm df o.dst k v st).map b9=dR 100 st v _
   rw [Jr hk]
   congr 1
   funext st v
   rw [fK,cQ]
  | panic v=>rfl
 | round l args=>
  show ((pX s l args st).bind (Wv tm df o.dst k)).map b9=(lh s' l args st).bind _
  rw [R.map_bind,ye h]
  refine R.bind_congr fun x=>?_
  obtain⟨e,st⟩:=x
  cases e with
  | ret v=>exact m8 hk st v
  | panic v=>rfl
 | panic v=>rfl
 | defer d=>
  cases rnd with
  | none=>exact m8 hk st .undef
  | some l=>rfl
theorem Lt{rnd:Option Nat}{ops:List Oper}{tm:Tm}{df:List bN}{st:St}{o:Oper}{k:rF}{k':Fr→St→cM} (hk:∀ tm df st,(k tm df st).map b9=k' ⟨tm.l,df⟩ st):
  (FL cx s rnd ops o k tm df st).map b9=gd st ops tm.l o fun st w=>match w with
   | true=>wo cx s' rnd ⟨tm.l,df⟩ st o k'
   | false=>lT tm.l o.dst .undef fun tm=>k' ⟨tm,df⟩ st:=by
 have skip:∀ st,(wZ tm df o.dst k st .undef).map b9=lT tm.l o.dst .undef fun tm=>k' ⟨tm,df⟩ st:=fun st=>by rw [m8 hk,cQ]
 unfold FL gd
 cases o.guard with
 | none=>exact Du h hk
 | some g=>
  obtain⟨j,want⟩:=g
  dsimp only
  cases (nth ops j).bind (·.dst) with
  | none=>exact skip st
  | some d=>
   dsimp only
   rw [Tm.get_eq]
   cases nth tm.l d with
   | none=>exact skip st
   | some v=>
    dsimp only
    cases v<;>try exact skip st
    ·rename_i x
     show (split st x (MR cx s rnd o k tm df want)).map b9=split st x _
     rw [rv]
     congr 1
     funext st b
     unfold MR
     cases b==want with
     | true=>exact Du h hk
     | false=>exact skip st
    ·rfl
    ·rfl
theorem Bf{rnd:Option Nat}(ops:List Oper):∀ (l:List Oper) (tm:Tm) (df:List bN) (st:St),(Mj cx s rnd ops l tm df st).map b9=rZ cx s' rnd ops l ⟨tm.l,df⟩ st
 | [],tm,df,st=>rfl
 | o::l,tm,df,st=>by
  show (FL cx s rnd ops o (Mj cx s rnd ops l) tm df st).map b9=_
  simp only [rZ,nT,kW]
  exact Lt h (k':=fun fr st=>rZ cx s' rnd ops l fr st) fun tm df st=>Bf ops l tm df st
theorem LD{rnd:Option Nat}(ops:List Oper)(l:List Oper)(fr:FrT)(st:St):(R2 cx s rnd ops l fr st).map b9=rZ cx s' rnd ops l (fO fr) st:=Bf h ops l fr.tm fr.df st
omit h
noncomputable def NI(r:RdT):Rd:={i:=r.i,tm:=r.tm.l,o:=r.o,v:=r.v}
noncomputable def dr(rs:RST):RS:={fr:=fO rs.fr,st:=rs.st,sm:=rs.sm,mm:=rs.mm,bigs:=rs.bigs,reads:=rs.reads.map NI,lost:=rs.lost}
theorem ET(st:St)(r:RdT):xb cx st r=nO cx st (NI r):=by
 unfold xb nO
 rw [ni]
 rfl
theorem mP(st:St)(bef:Nat):∀ l,gm cx st bef l=cP cx st bef (l.map NI)
 | []=>rfl
 | r::l=>by
  simp only [gm,cP,List.map_cons,ET,mP st bef l]
  rfl
include h
theorem Mw{fr:FrT}{st:St}{o:Oper}{k:FrT→St→cr}{k':Fr→St→cM}{kp:V→St→cr}{kp':V→St→cM} (hk:∀ fr st,(k fr st).map b9=k' (fO fr) st) (hkp:∀ v st,(kp v st).map b9=kp' v st):
  (EF cx s fr st o k kp).map b9=D6 cx s' (fO fr) st o k' kp':=by
 unfold EF D6
 rw [ni,R.map_bind]
 refine R.bind_congr fun x=>?_
 obtain⟨r,st⟩:=x
 have put:∀ (v:V) (st:St),(nB fr.tm o.dst v fun tm=>k {fr with tm:=tm} st).map b9=lT (fO fr).tm o.dst v fun tm=>k' {(fO fr) with tm:=tm} st:=by
  intro v st
  simp only [jq,cQ]
  rw [hk]
  exact congrArg (fun fr=>k' fr st) (AP fr o.dst v fr.df)
 cases r with
 | val v=>exact put v st
 | skip=>exact put .undef st
 | enter f args=>
  dsimp only
  rw [R.map_bind,h.call]
  refine R.bind_congr fun x=>?_
  obtain⟨e,st⟩:=x
  cases e with
  | ret v=>exact put v st
  | panic v=>exact hkp v st
 | round l args=>
  dsimp only
  rw [R.map_bind,ye h]
  refine R.bind_congr fun x=>?_
  obtain⟨e,st⟩:=x
  cases e with
  | ret v=>exact put v st
  | panic v=>rfl
 | panic v=>rfl
 | defer d=>rfl
theorem Cj{i:Nat}{o:Oper}{b:Nat}{rs:RST}{st:St}{dep:Bool}{k:RST→cr}{k':RS→cM} (hk:∀ rs,(k rs).map b9=k' (dr rs)):(vM cx s i o b rs st dep k).map b9=pr cx s' i o b (dr rs) st dep k':=by
 have fput:∀ v,fO ⟨Tm.dF rs.fr.tm o.dst v,rs.fr.df⟩=⟨dF (fO rs.fr).tm o.dst v,rs.fr.df⟩:=fun v=>AP rs.fr o.dst v rs.fr.df
 have big:(EF cx s rs.fr {st with h:=cS b rs.sm st.h} o (fun fr st'=>
   if Nat.ble st.n st'.n&&gm cx st' b rs.reads then
    k {fr:=fr,st:=st',sm:=gk b rs.sm,mm:=rs.mm,bigs:=i::rs.bigs,reads:=rs.reads}
   else .stuck "draw: a reader sees other things") fun v st'=>match rs.fr.df with
    | []=>match dep,gm cx {st with h:=cS b rs.sm st.h} b rs.reads with
     | true,true=>.ok (.die v,rs.fr,st')
     | _,_=>.stuck "a panic in a drawn region"
    | _=>.stuck "a panic in a drawn region").map b9=D6 cx s' (dr rs).fr {st with h:=cS b (dr rs).sm st.h} o (fun fr st'=>
   if Nat.ble st.n st'.n&&cP cx st' b (dr rs).reads then
    k' {fr:=fr,st:=st',sm:=gk b (dr rs).sm,mm:=(dr rs).mm,bigs:=i::(dr rs).bigs,reads:=(dr rs).reads}
   else .stuck "draw: a reader sees other things") fun v st'=>match (dr rs).fr.df with
    | []=>match dep,cP cx {st with h:=cS b (dr rs).sm st.h} b (dr rs).reads with
     | true,true=>.ok (.die v,(dr rs).fr,st')
     | _,_=>.stuck "a panic in a drawn region"
    | _=>.stuck "a panic in a drawn region" := by
  refine Mw h (fun fr st'=>?_) fun v st'=>?_
  ·rw [mP]
   show R.map b9 (if Nat.ble st.n st'.n&&cP cx st' b (dr rs).reads then _ else _)=_
   split
   ·rw [hk]
    rfl
   ·rfl
  ·rw [mP]
   show R.map b9 (match rs.fr.df with
    | []=>match dep,cP cx {st with h:=cS b (dr rs).sm st.h} b (dr rs).reads with
     | true,true=>.ok (.die v,rs.fr,st')
     | _,_=>.stuck "a panic in a drawn region"
    | _=>.stuck "a panic in a drawn region")=(match rs.fr.df with
    | []=>match dep,cP cx {st with h:=cS b (dr rs).sm st.h} b (dr rs).reads with
     | true,true=>.ok (.die v,(dr rs).fr,st')
     | _,_=>.stuck "a panic in a drawn region"
    | _=>.stuck "a panic in a drawn region")
   split
   ·split<;>rfl
   ·rfl
 have hs:gQ o.op (cL cx rs.fr.tm) rs.sm=gQ o.op (dC cx (dr rs).fr.tm) (dr rs).sm:=by
  rw [show cL cx rs.fr.tm=dC cx (dr rs).fr.tm from funext fun x=>bg ..]
  rfl
 unfold vM pr
 rw [hs]
 generalize gQ o.op _ _=n
 match n with
 | 0=>
  show (R.bind (qb _ _ _ _) _).map b9=R.bind _ _
  rw [ni,R.map_bind]
  refine R.bind_congr fun x=>?_
  obtain⟨r,st'⟩:=x
  cases r<;>try rfl
  rename_i v
  dsimp only
  split
  ·simp only [jq,cQ]
   rw [hk]
   simp only [dr,fput]
   rfl
  ·rfl
 | 1=>
  show (R.bind (qb _ _ _ _) _).map b9=R.bind _ _
  rw [ni,R.map_bind]
  refine R.bind_congr fun x=>?_
  obtain⟨r,st'⟩:=x
  cases r<;>try rfl
  rename_i v
  dsimp only
  split
  ·simp only [jq,cQ]
   rw [hk]
   simp only [dr,fput]
   rfl
  ·rfl
 | 2=>
  show (R.bind (qb _ _ _ _) _).map b9=R.bind _ _
  rw [ni,R.map_bind]
  refine R.bind_congr fun x=>?_
  obtain⟨r,st'⟩:=x
  cases r<;>try rfl
  rename_i v
  simp only [jq,cQ]
  rw [hk]
  simp only [dr,fput,List.map_cons,NI]
  rfl
 | 4=>
  show R.map b9 (match o.op with | .insert _ _ _ _=>_ | _=>_)=(match o.op with | .insert _ _ _ _=>_ | _=>_)
  cases o.op<;>try rfl
  rename_i t m key x
  simp only [bg]
  dsimp only [dr,fO]
  generalize dC cx rs.fr.tm.l m=a
  generalize dC cx rs.fr.tm.l key=kv
  generalize dC cx rs.fr.tm.l x=xv
  rcases a with _ | a
  ·rfl
  cases a<;>try rfl
  rename_i mb
  rcases kv with _ | kv
  ·rfl
  rcases xv with _ | xv
  ·rfl
  cases hm:rs.mm with
  | none=>rfl
  | some mk=>
   dsimp only
   generalize Nat.beq mb mk.id=p1
   generalize Nat.testBit b mk.owner=p2
   generalize qX cx t kv=p3
   generalize pf kv mk.ins=p4
   cases p1<;>cases p2<;>cases p3<;>cases p4<;>try rfl
   simp only [jq,cQ]
   rw [hk]
   simp only [dr,fput]
   rfl
 | 5=>
  show (R.bind (qb _ _ _ _) _).map b9=R.bind _ _
  rw [ni,R.map_bind]
  refine R.bind_congr fun x=>?_
  obtain⟨r,st'⟩:=x
  cases r<;>try rfl
  rename_i v
  dsimp only [dr]
  generalize T.get st'.h st.n=q
  cases hm:rs.mm with
  | some y=>rfl
  | none=>
   rcases q with _ | ob
   ·rfl
   cases ob<;>try rfl
   rename_i es
   cases es with
   | cons _ _=>rfl
   | nil=>
    dsimp only
    split
    ·simp only [jq,cQ]
     rw [hk]
     simp only [dr,fput]
     rfl
    ·rfl
 | 3=>exact big
 | n+6=>exact big
theorem qm(ops:List Oper)(bs:List Nat):∀ (l:List Nat) (done:Nat) (rs:RST),(re cx s ops bs l done rs).map b9=lI cx s' ops bs l done (dr rs)
 | [],done,rs=>by
  unfold re lI
  cases Nat.beq (done+1) (2 ^ ops.length)<;>rfl
 | i::rest,done,rs=>by
  unfold re lI
  cases nth ops i with
  | none=>rfl
  | some o=>
   cases nth bs i with
   | none=>rfl
   | some b=>
    dsimp only
    show R.map b9 (match within b done&&uY b rs.bigs && !Nat.testBit done i with | true=>_ | false=>_)=(match within b done&&uY b rs.bigs && !Nat.testBit done i with | true=>_ | false=>_)
    cases within b done&&uY b rs.bigs && !Nat.testBit done i with
    | false=>rfl
    | true=>
     dsimp only
     rw [Em]
     show gd rs.st ops rs.fr.tm.l o _=gd rs.st ops rs.fr.tm.l o _
     congr 1
     funext st w
     cases w with
     | true=>exact Cj h fun rs=>qm ops bs rest _ rs
     | false=>
      simp only [jq,cQ]
      rw [qm ops bs rest]
      exact congrArg (fun fr=>lI cx s' ops bs rest (done ||| 2 ^ i) {(dr rs) with st:=st,fr:=fr}) (AP rs.fr o.dst .undef rs.fr.df)
theorem MU(ops:List Oper)(bs:List Nat)(fr:FrT)(st:St):(Eu cx s ops bs fr st).map b9=drawn cx s' ops bs (fO fr) st:=by
 unfold Eu drawn
 exact qm h ops bs _ _ _
omit h
theorem Lb(tm:Tm)(hp:H)(r:ResultVar):Bt cx tm hp r=u6 cx tm.l hp r:=by
 cases r<;>simp only [Bt,u6,Tm.get_eq]<;>rfl
theorem uO(tm:Tm)(hp:H):∀ l,qC cx tm hp l=jE cx tm.l hp l
 | []=>rfl
 | r::l=>by simp only [qC,jE,Lb,uO tm hp l]<;>rfl
theorem Gg(fn:Func)(tm:Tm)(hp:H):v7 cx fn tm hp=pQ cx fn tm.l hp:=by
 unfold v7 pQ
 rw [uO]
 rfl
theorem nJ(fn:Func)(tm:Tm):∀ (ds:List bN) (e:Option V) (st:St),n5 cx fn tm e ds st=leave cx fn tm.l e ds st
 | [],e,st=>by
  unfold n5 leave
  cases e with
  | some p=>rfl
  | none=>
   dsimp only
   rw [Gg]
   rfl
 | .mark b::ds,e,st=>by
  unfold n5 leave
  simp only [nJ fn tm ds]
  rfl
 | .fn f cap args::ds,e,st=>by
  unfold n5 leave
  simp only [nJ fn tm ds]
  rfl
include h
theorem L1(f:FuncId)(args:List V)(st:St):yF cx s f args st=sl cx s' f args st:=by
 unfold yF sl
 cases Ig cx f args st with
 | some g=>rfl
 | none=>
  dsimp only
  cases cx.ft.get f with
  | none=>rfl
  | some fn=>
   dsimp only
   cases fn.body with
   | none=>rfl
   | some body=>
    dsimp only
    rw [kG h _ _ {tm:=Tm.start fn.ntmps args,df:=[]} _ (by unfold fO;rw [aaT])]
    refine R.bind_congr fun (x:Ex×FrT×St)=>?_
    obtain⟨e,fr,st⟩:=x
    cases e with
    | normal=>exact nJ fn fr.tm fr.df none st
    | ret=>exact nJ fn fr.tm fr.df none st
    | panic v=>exact nJ fn fr.tm fr.df (some v) st
    | die v=>rfl
    | exit i=>rfl
theorem uM{rnd:Option Nat}{g:FuncId}{first cap:List V}{params:Array Tmp}{assign body:Code}{tm:Tm}{df:List bN}{D:Nat}{st:St}:(uq s rnd g first cap params assign body tm df D st).map b9=qh s' rnd g first cap params assign body tm.l df D st:=by
 unfold uq qh
 rw [R.map_bind,h.call]
 refine R.bind_congr fun x=>?_
 obtain⟨e,st1⟩:=x
 cases e with
 | panic v=>rfl
 | ret v=>
  dsimp only
  cases st1.h.get st.n with
  | none=>rfl
  | some o=>
   cases o<;>try rfl
   rename_i state pending _ _ _ _ _
   cases state<;>try rfl
   all_goals
    cases pending with
    | none=>rfl
    | some c=>exact h.code rnd c ⟨tm,df⟩ _
theorem EX{rnd:Option Nat}{f:Operand}{params:Array Tmp}{assign body:Code}{fr:FrT}{st:St}:(z7 cx s rnd f params assign body fr st).map b9=uv cx s' rnd f params assign body (fO fr) st:=by
 unfold z7 uv
 rw [bg]
 show R.map b9 (match dC cx fr.tm.l f with | some (.func (.func g) first cap)=>_ | _=>_)=(match dC cx fr.tm.l f with | some (.func (.func g) first cap)=>_ | _=>_)
 generalize dC cx fr.tm.l f=a
 rcases a with _ | a
 ·rfl
 cases a<;>try rfl
 rename_i g first cap
 cases g<;>try rfl
 rename_i g
 dsimp only
 cases cx.ft.get g with
 | none=>rfl
 | some fn=>
  cases rnd with
  | none=>exact uM h
  | some l=>
   dsimp only
   cases st.h.get l with
   | none=>rfl
   | some o=>
    cases o<;>try rfl
    exact uM h
theorem qp(rnd:Option Nat)(c:Code)(fr:FrT)(st:St):(y5 cx s rnd c fr st).map b9=pM cx s' rnd c (fO fr) st:=by
 cases c<;>try rfl
 ·rename_i ops draw
  cases draw with
  | false=>exact LD h _ _ _ _
  | true=>
   show R.map b9 (if vW ops.toList then Eu cx s ops.toList (dX ops.toList []) fr st else .stuck "draw: temporaries")=(if vW ops.toList then drawn cx s' ops.toList (dX ops.toList []) (fO fr) st else .stuck "draw: temporaries")
   split
   ·exact MU h _ _ _ _
   ·rfl
 ·rename_i a b
  show ((s.code rnd a fr st).bind _).map b9=(s'.code rnd a (fO fr) st).bind _
  rw [kG h _ _ fr _ rfl,R.map_bind]
  refine R.bind_congr fun (x:Ex×FrT×St)=>?_
  obtain⟨e,fr,st⟩:=x
  cases e with
  | normal=>exact h.code rnd b fr st
  | _=>rfl
 ·rename_i c x y
  show R.map b9 (match cL cx fr.tm c with
   | some (.bool b)=>split st b fun st t=>(match t with
    | true=>s.code rnd x fr st
    | false=>s.code rnd y fr st)
   | _=>.stuck "cond")=_
  rw [bg]
  show R.map b9 (match dC cx fr.tm.l c with | some (.bool b)=>_ | _=>_)=(match dC cx fr.tm.l c with | some (.bool b)=>_ | _=>_)
  generalize dC cx fr.tm.l c=a
  rcases a with _ | a
  ·rfl
  cases a<;>try rfl
  dsimp only
  rw [rv]
  congr 1
  funext st t
  cases t
  ·exact h.code rnd y fr st
  ·exact h.code rnd x fr st
 ·rename_i id body
  show ((s.code rnd body fr st).bind _).map b9=(s'.code rnd body (fO fr) st).bind _
  rw [kG h _ _ fr _ rfl,R.map_bind]
  refine R.bind_congr fun (x:Ex×FrT×St)=>?_
  obtain⟨e,fr,st⟩:=x
  cases e with
  | exit i=>
   show R.map b9 (match Nat.beq i id with | true=>_ | false=>_)=(match Nat.beq i id with | true=>_ | false=>_)
   cases Nat.beq i id<;>rfl
  | _=>rfl
 ·exact h.loop rnd _ fr st
 ·exact EX h
 ·exact h.code rnd _ fr st
theorem uI(rnd:Option Nat)(body:Code)(fr:FrT)(st:St):(s9 s rnd body fr st).map b9=qy s' rnd body (fO fr) st:=by
 unfold s9 qy
 rw [kG h _ _ fr _ rfl,R.map_bind]
 refine R.bind_congr fun (x:Ex×FrT×St)=>?_
 obtain⟨e,fr,st⟩:=x
 cases e with
 | normal=>exact h.loop rnd body fr st
 | _=>rfl
theorem G0(rnd:Option Nat)(body:Code)(fr:FrT)(st:St):(F5 cx s rnd body fr st).map b9=BI cx s' rnd body (fO fr) st:=by
 unfold F5 BI
 cases cx.lp with
 | none=>exact uI h rnd body fr st
 | some lp=>
  dsimp only
  show R.map b9 (match lp rnd body (fO fr) st with | none=>_ | some r=>_)=_
  cases lp rnd body (fO fr) st with
  | none=>exact uI h rnd body fr st
  | some r=>
   dsimp only
   rw [R.map_bind]
   refine Eq.trans (R.bind_congr (k':=fun x=>.ok x) fun (x:Ex×Fr×St)=>?_) ?_
   ·obtain⟨e,fr,st⟩:=x
    show R.ok (e,fO ⟨Tm.of fr.tm,fr.df⟩,st)=_
    unfold fO
    rw [anj]
   ·induction r with
    | ok a=>rfl
    | br c t f it jf=>
     show R.br c (t.bind fun x=>.ok x) (f.bind fun x=>.ok x)=_
     rw [it,jf]
    | stuck s=>rfl
omit h
theorem x8{β:Type}:∀ (l:List V) (k:List V→β),rA l k=k l
 | [],k=>rfl
 | v::l,k=>by
  unfold rA
  rw [fK]
  exact x8 l _
theorem Kl(pc:PC)(c:X)(a b:Ex×FrT×St):(Ff pc c a b).map b9=zZ pc c (b9 a) (b9 b):=by
 obtain⟨e,fr,st⟩:=a
 obtain⟨e',fr',st'⟩:=b
 unfold Ff zZ b9
 dsimp only
 show Option.map _ (match k7 e e',eM fr.df fr'.df with | true,true=>_ | _,_=>_)=(match k7 e e',eM fr.df fr'.df with | true,true=>_ | _,_=>_)
 cases k7 e e'<;>cases eM fr.df fr'.df<;>try rfl
 dsimp only
 have hj:=QF c fr.tm fr'.tm
 show _=(match dL c fr.tm.l fr'.tm.l with | some tm=>_ | none=>none)
 rw [←hj]
 cases ES c fr.tm fr'.tm with
 | none=>rfl
 | some tm=>
  dsimp only [Option.map_some]
  cases xj pc c st st' with
  | none=>rfl
  | some st=>
   dsimp only
   rw [x8]
   rfl
theorem sJ{α β:Type}(f:α→β){j:PC→X→α→α→Option α}{j':PC→X→β→β→Option β} (hj:∀ pc c a b,(j pc c a b).map f=j' pc c (f a) (f b)):∀ (r:R α) (pc:PC),(eE j pc r).map f=eE j' pc (r.map f)
 | .ok a,pc=>rfl
 | .stuck s,pc=>rfl
 | .br c t u,pc=>by
  have h1:=sJ f hj t ((c,true)::pc)
  have h2:=sJ f hj u ((c,false)::pc)
  show (eE j pc (.br c t u)).map f=eE j' pc (.br c (t.map f) (u.map f))
  unfold eE
  rw [←h1,←h2]
  generalize eE j ((c,true)::pc) t=x
  generalize eE j ((c,false)::pc) u=y
  cases x<;>try rfl
  cases y<;>try rfl
  rename_i a b
  show R.map f (match j pc c a b with | some r=>.ok r | none=>.br c (.ok a) (.ok b))=(match j' pc c (f a) (f b) with | some r=>.ok r | none=>.br c (.ok (f a)) (.ok (f b)))
  rw [←hj]
  cases j pc c a b<;>rfl
theorem iY{k:St→Tm→cr}{k':St→List V→cM} (hk:∀ st tm,(k st tm).map b9=k' st tm.l):∀ (ts:List Nat) (st:St) (tm:Tm),(kF st tm ts k).map b9=jl st tm.l ts k'
 | [],st,tm=>hk st tm
 | t::ts,st,tm=>by
  unfold kF jl
  rw [Tm.get_eq]
  cases nth tm.l t with
  | none=>exact iY hk ts st tm
  | some v=>
   dsimp only
   cases v.isIte with
   | false=>exact iY hk ts st tm
   | true=>
    dsimp only
    rw [nY]
    congr 1
    funext st v
    rw [iY hk ts,Tm.abL]
include h
theorem xY(rnd:Option Nat)(c:Code)(fr:FrT)(st:St):(yL cx s rnd c fr st).map b9=wz cx s' rnd c (fO fr) st:=by
 unfold yL wz
 cases Fg c with
 | nil=>exact qp h rnd c fr st
 | cons t ts=>exact iY (fun st tm=>qp h rnd c ⟨tm,fr.df⟩ st) (t::ts) st fr.tm
theorem F8(rnd:Option Nat)(c:Code)(fr:FrT)(st:St):(zw cx s rnd c fr st).map b9=uS cx s' rnd c (fO fr) st:=by
 unfold zw uS
 rw [Ll,kW,nT,kW]
 cases cx.mg with
 | false=>exact qp h rnd c fr st
 | true=>
  dsimp only
  cases UP cx.js c with
  | false=>exact xY h rnd c fr st
  | true=>
   dsimp only
   rw [sJ b9 Kl,xY h]
theorem IS(f:FuncId)(args:List V)(st:St):Bu cx s f args st=tw cx s' f args st:=by
 unfold Bu tw
 rw [L1 h]
 rfl
end
theorem yN(cx:Cx):∀ n,Rel (Lw cx n) (ev cx n)
 | 0=>⟨fun _ _ _ _=>rfl,fun _ _ _ _=>rfl,rfl⟩
 | n+1=>⟨F8 (yN cx n),G0 (cx:=cx) (yN cx n),by funext f args st;exact IS (yN cx n) f args st⟩
theorem bP(cx:Cx)(n:Nat):(ev cx n).call=(Lw cx n).call:=(yN cx n).call.symm
end Go.Proofs.YtmickljjofbmiaaGreatDoor
