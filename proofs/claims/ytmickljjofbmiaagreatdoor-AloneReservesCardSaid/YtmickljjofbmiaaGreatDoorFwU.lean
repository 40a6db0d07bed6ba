/- Symbolic execution: the evaluator with tries does what the one with lists does. No condition. -/
import Derived.Test.YtmickljjofbmiaaGreatDoorFwT
import Derived.Test.YtmickljjofbmiaaGreatDoorFwD
namespace Go.Proofs.YtmickljjofbmiaaGreatDoor
open Go
section
variable {α β:Type}
theorem T.look_eq:∀ (t:T α) (bs:List Bool),t.look bs=t.getB bs:=by
 intro t
 induction t with
 | nil=>intro bs;cases bs<;>rfl
 | node l v r il ir=>
  intro bs
  cases bs with
  | nil=>rfl
  | cons b bs=>cases b with
   | true=>exact ir bs
   | false=>exact il bs
theorem T.newK_eq:∀ (bs:List Bool) (v:α) (k:T α→β),T.newK bs v k=k (T.setB bs .nil (some v))
 | [],v,k=>rfl
 | b::bs,v,k=>by
  cases b with
  | true=>exact T.newK_eq bs v fun x=>k (.node .nil none x)
  | false=>exact T.newK_eq bs v fun x=>k (.node x none .nil)
theorem T.putK_eq:∀ (t:T α) (bs:List Bool) (v:α) (k:T α→β),t.putK bs v k=k (T.setB bs t (some v)):=by
 intro t
 induction t with
 | nil=>intro bs v k;exact T.newK_eq bs v k
 | node l u r il ir=>
  intro bs v k
  cases bs with
  | nil=>rfl
  | cons b bs=>cases b with
   | true=>exact ir bs v fun x=>k (.node l u x)
   | false=>exact il bs v fun x=>k (.node x u r)
end
theorem Tm.val_eq(m:Tm)(i:Nat):m.val i=(m.t.get i).getD .undef:=by
 unfold Tm.val
 rw [T.look_eq]
 show _=(m.t.getB (bitsOf i)).getD .undef
 cases m.t.getB (bitsOf i)<;>rfl
theorem Tm.l_get(m:Tm)(i:Nat):m.l[i]?=if i<m.n then some (m.val i) else none:=by
 unfold Tm.l
 rw [List.getElem?_map]
 by_cases h:i<m.n
 ·rw [if_pos h,List.getElem?_range h];rfl
 ·rw [if_neg h,List.getElem?_eq_none (by simpa using h)];rfl
theorem Tm.get_eq(m:Tm)(i:Nat):m.get i=nth m.l i:=by
 rw [nth_eq,Tm.l_get]
 unfold Tm.get
 cases h:Nat.blt i m.n with
 | true=>
  have h2:i<m.n:=Nat.le_of_ble_eq_true h
  rw [if_pos h2]
 | false=>
  have h2:¬i<m.n:=fun h2=>by rw [show Nat.blt i m.n=true from Nat.ble_eq_true_of_le h2] at h;cases h
  rw [if_neg h2]
theorem Tm.setK_eq{β:Type}(m:Tm)(i:Nat)(v:V)(k:Tm→β):m.setK i v k=k (m.set i v):=by
 unfold Tm.set Tm.setK
 simp only [T.putK_eq]
theorem Tm.set_l(m:Tm)(i:Nat)(v:V):(m.set i v).l=setN m.l i v:=by
 have e:m.set i v=⟨m.n,m.t.set i v⟩:=by
  unfold Tm.set Tm.setK
  simp only [T.putK_eq]
  rfl
 rw [setN_eq,e]
 refine List.ext_getElem? fun j=>?_
 rw [Tm.l_get,List.getElem?_set,Tm.l_get]
 have hl:m.l.length=m.n:=by simp [Tm.l]
 by_cases hij:i=j
 ·subst hij
  simp only [Tm.val_eq,T.get_set_same,if_true,hl]
  by_cases h:i<m.n<;>simp [h]
 ·simp only [Tm.val_eq,T.get_set_other _ _ hij,if_neg hij]
theorem Tm.putD_l(m:Tm)(d:Option Tmp)(v:V):(Tm.putD m d v).l=_root_.Go.Proofs.YtmickljjofbmiaaGreatDoor.putD m.l d v:=by
 cases d with
 | none=>rfl
 | some d=>exact Tm.set_l m d v
theorem putKT_eq{β:Type}(m:Tm)(d:Option Tmp)(v:V)(k:Tm→β):putKT m d v k=k (m.putD d v):=by
 cases d with
 | none=>rfl
 | some d=>exact Tm.setK_eq m d v k
def fillG:Nat→List V→T V→T V
 | _,[],t=>t
 | i,v::l,t=>fillG (i+1) l (t.set i v)
theorem fillT_eq{β:Type}:∀ (i:Nat) (l:List V) (t:T V) (k:T V→β),fillT i l t k=k (fillG i l t)
 | _,[],t,k=>rfl
 | i,v::l,t,k=>by
  unfold fillT fillG
  rw [forceV_eq,T.putK_eq]
  exact fillT_eq (i+1) l _ k
theorem fillG_get:∀ (l:List V) (i:Nat) (t:T V) (j:Nat),(fillG i l t).get j=if i≤j∧j-i<l.length then l[j-i]? else t.get j
 | [],i,t,j=>by simp [fillG]
 | v::l,i,t,j=>by
  unfold fillG
  rw [fillG_get l (i+1)]
  by_cases h1:i+1≤j∧j-(i+1)<l.length
  ·rw [if_pos h1,if_pos ⟨by omega,by simp;omega⟩,show j-i=(j-(i+1))+1 by omega,List.getElem?_cons_succ]
  ·rw [if_neg h1]
   by_cases h2:i=j
   ·subst h2
    rw [T.get_set_same,if_pos ⟨by omega,by simp⟩,Nat.sub_self]
    rfl
   ·rw [T.get_set_other _ _ h2,if_neg]
    rintro ⟨h3,h4⟩
    simp at h4
    exact h1 ⟨by omega,by omega⟩
theorem of_l(l:List V):(Tm.of l).l=l:=by
 unfold Tm.of
 rw [fillT_eq]
 refine List.ext_getElem? fun j=>?_
 rw [Tm.l_get,Tm.val_eq]
 simp only [fillG_get]
 by_cases h:j<l.length
 ·rw [if_pos h,if_pos ⟨by omega,by simpa using h⟩,Nat.sub_zero,List.getElem?_eq_getElem h]
  rfl
 ·rw [if_neg h,List.getElem?_eq_none (by omega)]
theorem start_l(n:Nat)(args:List V):(Tm.start n args).l=args++List.replicate (n-args.length) .undef:=by
 unfold Tm.start
 rw [fillT_eq]
 refine List.ext_getElem? fun j=>?_
 rw [Tm.l_get,Tm.val_eq]
 simp only [fillG_get]
 by_cases h:j<args.length
 ·rw [if_pos (by omega),if_pos ⟨by omega,by simpa using h⟩,Nat.sub_zero,List.getElem?_eq_getElem h,List.getElem?_append_left h,List.getElem?_eq_getElem h]
  rfl
 ·have h3:¬(0≤j∧j-0<args.length):=fun hh=>h (by simpa using hh.2)
  rw [List.getElem?_append_right (by omega),List.getElem?_replicate]
  simp only [h3,if_false,T.get_nil]
  by_cases h2:j<args.length+(n-args.length)
  ·rw [if_pos h2,if_pos (by omega)];rfl
  ·rw [if_neg h2,if_neg (by omega)]
theorem joinOV_eq{β:Type}(c:X)(a b:Option V)(k:Option V→β):∃ r,joinOV c a b k=k r∧orU r=joinV c (orU a) (orU b):=by
 cases a with
 | none=>cases b with
  | none=>exact⟨none,rfl,rfl⟩
  | some b=>exact⟨some (joinV c .undef b),forceV_eq (joinV c .undef b) fun v=>k (some v),rfl⟩
 | some a=>exact⟨some (joinV c a (orU b)),forceV_eq (joinV c a (orU b)) fun v=>k (some v),rfl⟩
theorem orU_eq(o:Option V):o.getD .undef=orU o:=by cases o<;>rfl
theorem joinN_eq{β:Type}(c:X):∀ (t:T V) (k:T V→β),∃ r,joinN c t k=k r∧∀ bs,orU (r.getB bs)=joinV c .undef (orU (t.getB bs))
 | .nil,k=>⟨.nil,rfl,fun bs=>by rw [T.getB_nil];rfl⟩
 | .node l v r,k=>by
  obtain⟨v1,e1,h1⟩:=joinOV_eq (β:=β) c none v fun v=>joinN c l fun l=>joinN c r fun r=>k (.node l v r)
  obtain⟨l1,e2,h2⟩:=joinN_eq c l fun l=>joinN c r fun r=>k (.node l v1 r)
  obtain⟨r1,e3,h3⟩:=joinN_eq c r fun r=>k (.node l1 v1 r)
  refine⟨.node l1 v1 r1,by unfold joinN;rw [e1,e2,e3],fun bs=>?_⟩
  cases bs with
  | nil=>exact h1
  | cons b bs=>cases b with
   | true=>exact h3 bs
   | false=>exact h2 bs
theorem joinM_eq{β:Type}(c:X):∀ (t:T V) (k:T V→β),∃ r,joinM c t k=k r∧∀ bs,orU (r.getB bs)=joinV c (orU (t.getB bs)) .undef
 | .nil,k=>⟨.nil,rfl,fun bs=>by rw [T.getB_nil];rfl⟩
 | .node l v r,k=>by
  obtain⟨v1,e1,h1⟩:=joinOV_eq (β:=β) c v none fun v=>joinM c l fun l=>joinM c r fun r=>k (.node l v r)
  obtain⟨l1,e2,h2⟩:=joinM_eq c l fun l=>joinM c r fun r=>k (.node l v1 r)
  obtain⟨r1,e3,h3⟩:=joinM_eq c r fun r=>k (.node l1 v1 r)
  refine⟨.node l1 v1 r1,by unfold joinM;rw [e1,e2,e3],fun bs=>?_⟩
  cases bs with
  | nil=>exact h1
  | cons b bs=>cases b with
   | true=>exact h3 bs
   | false=>exact h2 bs
theorem joinTT_eq{β:Type}(c:X):∀ (t u:T V) (k:T V→β),∃ r,joinTT c t u k=k r∧∀ bs,orU (r.getB bs)=joinV c (orU (t.getB bs)) (orU (u.getB bs))
 | .nil,u,k=>by
  obtain⟨r,e,h⟩:=joinN_eq c u k
  exact⟨r,by unfold joinTT;exact e,fun bs=>by rw [h,T.getB_nil];rfl⟩
 | .node l v r,u,k=>by
  cases u with
  | nil=>
   obtain⟨x,e,h⟩:=joinM_eq c (.node l v r) k
   exact⟨x,by unfold joinTT;exact e,fun bs=>by rw [h,T.getB_nil];rfl⟩
  | node l' v' r'=>
   obtain⟨v1,e1,h1⟩:=joinOV_eq (β:=β) c v v' fun v=>joinTT c l l' fun l=>joinTT c r r' fun r=>k (.node l v r)
   obtain⟨l1,e2,h2⟩:=joinTT_eq c l l' fun l=>joinTT c r r' fun r=>k (.node l v1 r)
   obtain⟨r1,e3,h3⟩:=joinTT_eq c r r' fun r=>k (.node l1 v1 r)
   refine⟨.node l1 v1 r1,by unfold joinTT;dsimp only;rw [e1,e2,e3],fun bs=>?_⟩
   cases bs with
   | nil=>exact h1
   | cons b bs=>cases b with
    | true=>exact h3 bs
    | false=>exact h2 bs
theorem joinVs_some(c:X):∀ (l m:List V),l.length=m.length→joinVs c l m=some (List.zipWith (joinV c) l m)
 | [],[],_=>by unfold joinVs;rfl
 | a::l,b::m,h=>by
  unfold joinVs
  dsimp only
  rw [joinVs_some c l m (by simpa using h)]
  rfl
 | [],_::_,h=>by simp at h
 | _::_,[],h=>by simp at h
theorem joinVs_none(c:X):∀ (l m:List V),l.length≠m.length→joinVs c l m=none
 | [],[],h=>absurd rfl h
 | a::l,b::m,h=>by
  unfold joinVs
  dsimp only
  rw [joinVs_none c l m (by simpa using h)]
 | [],_::_,_=>by unfold joinVs;rfl
 | _::_,[],_=>by unfold joinVs;rfl
theorem l_len(m:Tm):m.l.length=m.n:=by simp [Tm.l]
theorem joinTm_eq(c:X)(a b:Tm):(joinTm c a b).map Tm.l=joinVs c a.l b.l:=by
 obtain⟨n,t⟩:=a
 obtain⟨m,u⟩:=b
 unfold joinTm
 dsimp only
 split
 ·rename_i h
  obtain rfl:=Nat.eq_of_beq_eq_true h
  obtain⟨r,e,hr⟩:=joinTT_eq c t u fun t=>some (Tm.mk n t)
  rw [e,joinVs_some c _ _ (by rw [l_len,l_len])]
  simp only [Option.map_some,Option.some.injEq]
  refine List.ext_getElem? fun j=>?_
  rw [List.getElem?_zipWith,Tm.l_get,Tm.l_get,Tm.l_get]
  by_cases h:j<n
  ·simp only [h,if_true,Tm.val_eq,orU_eq]
   exact congrArg some (hr (bitsOf j))
  ·simp [h]
 ·rename_i h
  rw [joinVs_none c _ _ fun e=>by rw [l_len,l_len] at e;dsimp only at e;subst e;rw [Nat.beq_refl] at h;cases h]
  rfl
theorem isIteR_eq(v:V):v.isIteR=v.isIte:=by cases v<;>rfl
theorem evOT_eq(cx:Cx)(tm:Tm)(o:Operand):evOT cx tm o=evO cx tm.l o:=by
 cases o with
 | tmp t=>
  simp only [evOT,evO,Tm.get_eq]
  cases nth tm.l t with
  | none=>rfl
  | some v=>cases v<;>rfl
 | _=>rfl
theorem evOAT_eq(cx:Cx)(tm:Tm)(o:Operand):evOAT cx tm o=evOA cx tm.l o:=by
 unfold evOAT evOA
 simp only [evOT_eq,Tm.get_eq]<;>rfl
theorem forceXT_eq{β:Type}(x:X)(k:X→β):forceXT x k=k x:=by
 cases x<;>try rfl
 rename_i n
 exact forceI_eq n fun n=>k (.lit n)
theorem forceVT_eq{β:Type}(v:V)(k:V→β):forceVT v k=k v:=by
 cases v<;>try rfl
 ·rename_i a x
  exact forceXT_eq x fun x=>k (.int a x)
 ·rename_i x
  exact forceXT_eq x fun x=>k (.bool x)
theorem evArgsT_eq(cx:Cx)(tm:Tm):∀ l,evArgsT cx tm l=evArgs cx tm.l l
 | []=>rfl
 | o::l=>by simp only [evArgsT,evArgs,evOT_eq,evArgsT_eq cx tm l]<;>rfl
theorem evArgsAT_eq(cx:Cx)(tm:Tm):∀ l,evArgsAT cx tm l=evArgsA cx tm.l l
 | []=>rfl
 | o::l=>by simp only [evArgsAT,evArgsA,evOAT_eq,evArgsAT_eq cx tm l]<;>rfl
theorem evPartsT_eq(cx:Cx)(tm:Tm):∀ l,evPartsT cx tm l=evParts cx tm.l l
 | []=>rfl
 | (i,o)::l=>by simp only [evPartsT,evParts,evOT_eq,evPartsT_eq cx tm l]<;>rfl
theorem evOptT_eq(cx:Cx)(tm:Tm)(o:Option Operand):evOptT cx tm o=evOpt cx tm.l o:=by
 cases o<;>simp only [evOptT,evOpt,evOT_eq]<;>rfl
set_option maxHeartbeats 8000 in
theorem oPickT_eq(cx:Cx)(tm:Tm)(st:St)(c:Operand)(a:Operand)(b:Operand):oPickT cx tm st c a b=oPick cx tm.l st c a b:=by
 unfold oPickT oPick
 simp only [evOT_eq]<;>rfl
set_option maxHeartbeats 8000 in
theorem oBoxT_eq(cx:Cx)(tm:Tm)(st:St)(t:TypeId)(x:Operand):oBoxT cx tm st t x=oBox cx tm.l st t x:=by
 unfold oBoxT oBox
 simp only [evOT_eq]<;>rfl
set_option maxHeartbeats 8000 in
theorem oBuildT_eq(cx:Cx)(tm:Tm)(st:St)(t:TypeId) (parts:Array (Nat×Operand)):oBuildT cx tm st t parts=oBuild cx tm.l st t parts:=by
 unfold oBuildT oBuild
 simp only [evPartsT_eq]<;>rfl
set_option maxHeartbeats 8000 in
theorem oBuildSliceT_eq(cx:Cx)(tm:Tm)(st:St)(t:TypeId)(len:Nat) (parts:Array (Nat×Operand)):oBuildSliceT cx tm st t len parts=oBuildSlice cx tm.l st t len parts:=by
 unfold oBuildSliceT oBuildSlice
 simp only [evPartsT_eq]<;>rfl
set_option maxHeartbeats 8000 in
theorem oLoadT_eq(cx:Cx)(tm:Tm)(st:St)(t:TypeId)(a:Operand):oLoadT cx tm st t a=oLoad cx tm.l st t a:=by
 unfold oLoadT oLoad
 simp only [evOT_eq]<;>rfl
set_option maxHeartbeats 8000 in
theorem oStoreT_eq(cx:Cx)(tm:Tm)(st:St)(t:TypeId)(a:Operand)(x:Operand):oStoreT cx tm st t a x=oStore cx tm.l st t a x:=by
 unfold oStoreT oStore
 simp only [evOT_eq]<;>rfl
set_option maxHeartbeats 8000 in
theorem oNilCheckT_eq(cx:Cx)(tm:Tm)(st:St)(x:Operand):oNilCheckT cx tm st x=oNilCheck cx tm.l st x:=by
 unfold oNilCheckT oNilCheck
 simp only [evOT_eq]<;>rfl
set_option maxHeartbeats 8000 in
theorem oBinT_eq(cx:Cx)(tm:Tm)(st:St)(op:BinOp)(t:TypeId)(x:Operand)(y:Operand):oBinT cx tm st op t x y=oBin cx tm.l st op t x y:=by
 unfold oBinT oBin
 simp only [evOT_eq]<;>rfl
set_option maxHeartbeats 8000 in
theorem oUnT_eq(cx:Cx)(tm:Tm)(st:St)(op:UnOp)(x:Operand):oUnT cx tm st op x=oUn cx tm.l st op x:=by
 unfold oUnT oUn
 simp only [evOT_eq]<;>rfl
set_option maxHeartbeats 8000 in
theorem oConvertT_eq(cx:Cx)(tm:Tm)(st:St)(src:TypeId)(dst:TypeId)(x:Operand):oConvertT cx tm st src dst x=oConvert cx tm.l st src dst x:=by
 unfold oConvertT oConvert
 simp only [evOT_eq]<;>rfl
set_option maxHeartbeats 8000 in
theorem oIfaceT_eq(cx:Cx)(tm:Tm)(st:St)(t:TypeId)(x:Operand):oIfaceT cx tm st t x=oIface cx tm.l st t x:=by
 unfold oIfaceT oIface
 simp only [evOT_eq]<;>rfl
set_option maxHeartbeats 8000 in
theorem oFuncT_eq(cx:Cx)(tm:Tm)(st:St)(fn:Fn)(first:Array Operand)(captured:Array Operand):oFuncT cx tm st fn first captured=oFunc cx tm.l st fn first captured:=by
 unfold oFuncT oFunc
 simp only [evArgsT_eq]<;>rfl
set_option maxHeartbeats 8000 in
theorem oMapT_eq(cx:Cx)(tm:Tm)(st:St)(t:TypeId)(r:Option Operand):oMapT cx tm st t r=oMap cx tm.l st t r:=by
 unfold oMapT oMap
 simp only [evOT_eq]<;>rfl
set_option maxHeartbeats 8000 in
theorem oMakeSlice0T_eq(cx:Cx)(tm:Tm)(st:St)(t:TypeId)(l:Operand)(c:Operand):oMakeSlice0T cx tm st t l c=oMakeSlice0 cx tm.l st t l c:=by
 unfold oMakeSlice0T oMakeSlice0
 simp only [evOT_eq]<;>rfl
set_option maxHeartbeats 8000 in
theorem oMakeSliceT_eq(cx:Cx)(tm:Tm)(st:St)(t:TypeId)(l:Operand)(c:Operand):oMakeSliceT cx tm st t l c=oMakeSlice cx tm.l st t l c:=by
 unfold oMakeSliceT oMakeSlice
 simp only [evOT_eq,oMakeSlice0T_eq]<;>rfl
set_option maxHeartbeats 8000 in
theorem oSliceT_eq(cx:Cx)(tm:Tm)(st:St)(t:TypeId)(x:Operand)(lo:Option Operand)(hi:Option Operand)(mx:Option Operand):oSliceT cx tm st t x lo hi mx=oSlice cx tm.l st t x lo hi mx:=by
 unfold oSliceT oSlice
 simp only [evOT_eq,evOptT_eq]<;>rfl
set_option maxHeartbeats 8000 in
theorem oFieldAddrT_eq(cx:Cx)(tm:Tm)(st:St)(t:TypeId)(x:Operand)(f:Nat):oFieldAddrT cx tm st t x f=oFieldAddr cx tm.l st t x f:=by
 unfold oFieldAddrT oFieldAddr
 simp only [evOT_eq]<;>rfl
set_option maxHeartbeats 8000 in
theorem oFieldT_eq(cx:Cx)(tm:Tm)(st:St)(t:TypeId)(x:Operand)(f:Nat):oFieldT cx tm st t x f=oField cx tm.l st t x f:=by
 unfold oFieldT oField
 simp only [evOT_eq]<;>rfl
set_option maxHeartbeats 8000 in
theorem oIndexAddrT_eq(cx:Cx)(tm:Tm)(st:St)(t:TypeId)(x:Operand)(ix:Operand):oIndexAddrT cx tm st t x ix=oIndexAddr cx tm.l st t x ix:=by
 unfold oIndexAddrT oIndexAddr
 simp only [evOT_eq]<;>rfl
set_option maxHeartbeats 8000 in
theorem oIndexT_eq(cx:Cx)(tm:Tm)(st:St)(t:TypeId)(x:Operand)(ix:Operand):oIndexT cx tm st t x ix=oIndex cx tm.l st t x ix:=by
 unfold oIndexT oIndex
 simp only [evOT_eq]<;>rfl
set_option maxHeartbeats 8000 in
theorem oLookupT_eq(cx:Cx)(tm:Tm)(st:St)(t:TypeId)(x:Operand)(ix:Operand)(ok:Bool):oLookupT cx tm st t x ix ok=oLookup cx tm.l st t x ix ok:=by
 unfold oLookupT oLookup
 simp only [evOT_eq]<;>rfl
set_option maxHeartbeats 8000 in
theorem oUpdateT_eq(cx:Cx)(tm:Tm)(st:St)(t:TypeId)(m:Operand)(k:Operand)(x:Operand):oUpdateT cx tm st t m k x=oUpdate cx tm.l st t m k x:=by
 unfold oUpdateT oUpdate
 simp only [evOT_eq]<;>rfl
set_option maxHeartbeats 8000 in
theorem oAssertT_eq(cx:Cx)(tm:Tm)(st:St)(x:Operand)(asserted:TypeId)(ok:Bool):oAssertT cx tm st x asserted ok=oAssert cx tm.l st x asserted ok:=by
 unfold oAssertT oAssert
 simp only [evOT_eq]<;>rfl
set_option maxHeartbeats 8000 in
theorem oExtractT_eq(cx:Cx)(tm:Tm)(st:St)(x:Operand)(i:Nat):oExtractT cx tm st x i=oExtract cx tm.l st x i:=by
 unfold oExtractT oExtract
 simp only [evOT_eq]<;>rfl
set_option maxHeartbeats 8000 in
theorem oCallT_eq(cx:Cx)(tm:Tm)(st:St)(c:Call):oCallT cx tm st c=oCall cx tm.l st c:=by
 unfold oCallT oCall
 simp only [evOT_eq,evArgsT_eq,evArgsAT_eq]<;>rfl
set_option maxHeartbeats 8000 in
theorem oDeferT_eq(cx:Cx)(tm:Tm)(st:St)(c:Call):oDeferT cx tm st c=oDefer cx tm.l st c:=by
 unfold oDeferT oDefer
 simp only [evOT_eq,evArgsT_eq]<;>rfl
set_option maxHeartbeats 8000 in
theorem oPanicT_eq(cx:Cx)(tm:Tm)(st:St)(x:Operand):oPanicT cx tm st x=oPanic cx tm.l st x:=by
 unfold oPanicT oPanic
 simp only [evOT_eq]<;>rfl
set_option maxHeartbeats 8000 in
theorem oRangeT_eq(cx:Cx)(tm:Tm)(st:St)(t:TypeId)(x:Operand):oRangeT cx tm st t x=oRange cx tm.l st t x:=by
 unfold oRangeT oRange
 simp only [evOT_eq]<;>rfl
set_option maxHeartbeats 8000 in
theorem oNextT_eq(cx:Cx)(tm:Tm)(st:St)(x:Operand)(isString:Bool):oNextT cx tm st x isString=oNext cx tm.l st x isString:=by
 unfold oNextT oNext
 simp only [evOT_eq]<;>rfl
theorem evOp0T_eq(cx:Cx)(tm:Tm)(st:St)(o:Oper):evOp0T cx tm st o=evOp0 cx tm.l st o:=by
 have key:∀ op:Op,o.op=op→evOp0T cx tm st o=evOp0 cx tm.l st o:=by
  intro op h
  unfold evOp0T evOp0
  rw [h]
  cases op
  case move x=>exact congrArg (fun v=>optv st v "move") (evOAT_eq cx tm x)
  case assign x=>exact congrArg (fun v=>optv st v "assign") (evOAT_eq cx tm x)
  case pick c a b=>exact oPickT_eq cx tm st c a b
  case alloc t=>rfl
  case box t x=>exact oBoxT_eq cx tm st t x
  case build t parts=>exact oBuildT_eq cx tm st t parts
  case buildSlice t len parts=>exact oBuildSliceT_eq cx tm st t len parts
  case load t a=>exact oLoadT_eq cx tm st t a
  case store t a x=>exact oStoreT_eq cx tm st t a x
  case nilCheck x=>exact oNilCheckT_eq cx tm st x
  case binOp op t x y _u4=>exact oBinT_eq cx tm st op t x y
  case unOp op _u1 x=>exact oUnT_eq cx tm st op x
  case convert src dst x=>exact oConvertT_eq cx tm st src dst x
  case makeInterface t x=>exact oIfaceT_eq cx tm st t x
  case makeFunc fn first captured=>exact oFuncT_eq cx tm st fn first captured
  case makeMap t r=>exact oMapT_eq cx tm st t r
  case makeSlice t l c=>exact oMakeSliceT_eq cx tm st t l c
  case slice t x lo hi mx=>exact oSliceT_eq cx tm st t x lo hi mx
  case fieldAddr t x f=>exact oFieldAddrT_eq cx tm st t x f
  case field t x f=>exact oFieldT_eq cx tm st t x f
  case indexAddr t x ix=>exact oIndexAddrT_eq cx tm st t x ix
  case index t x ix=>exact oIndexT_eq cx tm st t x ix
  case lookup t x ix ok=>exact oLookupT_eq cx tm st t x ix ok
  case mapUpdate t m k x=>exact oUpdateT_eq cx tm st t m k x
  case insert t m k x=>exact oUpdateT_eq cx tm st t m k x
  case typeAssert x _u1 asserted ok=>exact oAssertT_eq cx tm st x asserted ok
  case extract x i=>exact oExtractT_eq cx tm st x i
  case call c=>exact oCallT_eq cx tm st c
  case defer c=>exact oDeferT_eq cx tm st c
  case panic x=>exact oPanicT_eq cx tm st x
  case range t x=>exact oRangeT_eq cx tm st t x
  case next x s=>exact oNextT_eq cx tm st x s
  all_goals rfl
 exact key _ rfl
theorem evOpT_eq(cx:Cx)(tm:Tm)(st:St)(o:Oper):evOpT cx tm st o=evOp cx tm.l st o:=by
 show (evOp0T cx tm st o).bind _=(evOp0 cx tm.l st o).bind _
 exact congrArg (fun r:Res=>r.bind fun x=>resolveV x.1 x.2) (evOp0T_eq cx tm st o)
section
variable {α β γ:Type}
noncomputable def R.map(f:α→β)(r:R α):R β:=r.bind fun a=>.ok (f a)
theorem R.map_bind(r:R α)(k:α→R β)(f:β→γ):(r.bind k).map f=r.bind fun a=>(k a).map f:=by
 induction r with
 | ok a=>rfl
 | br c t u i j=>
  show R.br c ((t.bind k).map f) ((u.bind k).map f)=R.br c _ _
  rw [i,j]
  rfl
 | stuck s=>rfl
theorem R.bind_map(r:R α)(f:α→β)(k:β→R γ):(r.map f).bind k=r.bind fun a=>k (f a):=by
 induction r with
 | ok a=>rfl
 | br c t u i j=>
  show R.br c ((t.map f).bind k) ((u.map f).bind k)=R.br c _ _
  rw [i,j]
  rfl
 | stuck s=>rfl
theorem R.bind_congr{r:R α}{k k':α→R β}(h:∀ a,k a=k' a):r.bind k=r.bind k':=by rw [funext h]
theorem split0_map(f:α→β):∀ (x:X) (st:St) (k:St→Bool→R α),(split0 st x k).map f=split0 st x fun st b=>(k st b).map f:=by
 intro x
 induction x with
 | lit n=>intro st k;rfl
 | not y ih=>intro st k;exact ih st _
 | ite c a b ic ia ib=>
  intro st k
  show (split0 st c _).map f=split0 st c _
  rw [ic]
  congr 1
  funext st t
  cases t
  ·exact ib st k
  ·exact ia st k
 | _=>
  intro st k
  simp only [split0]
  split<;>rfl
theorem split_map{α β:Type}(f:α→β)(x:X)(st:St)(k:St→Bool→R α):(split st x k).map f=split st x fun st b=>(k st b).map f:=by rw [split_eq,split_eq,split0_map]
theorem splitV_ite{γ:Type}(n:Nat)(st:St)(c:X)(a b:V)(k:St→V→R γ):splitV (n+1) st (V.ite c a b) k=split st c fun st t=>match t with
  | true=>splitV n st a k
  | false=>splitV n st b k:=rfl
theorem splitV_map(f:α→β):∀ (n:Nat) (st:St) (v:V) (k:St→V→R α),(splitV n st v k).map f=splitV n st v fun st v=>(k st v).map f
 | 0,st,v,k=>rfl
 | n+1,st,v,k=>by
  cases v<;>try rfl
  rename_i c a b
  rw [splitV_ite,splitV_ite,split_map]
  congr 1
  funext st t
  cases t
  ·exact splitV_map f n st b k
  ·exact splitV_map f n st a k
end
noncomputable def absF(fr:FrT):Fr:=⟨fr.tm.l,fr.df⟩
noncomputable def absC(x:Ex×FrT×St):Ex×Fr×St:=(x.1,absF x.2.1,x.2.2)
structure Rel (s:SelfT) (s':Self):Prop where
 code:∀ rnd c fr st,(s.code rnd c fr st).map absC=s'.code rnd c (absF fr) st
 loop:∀ rnd c fr st,(s.loop rnd c fr st).map absC=s'.loop rnd c (absF fr) st
 call:s.call=s'.call
theorem absF_put(fr:FrT)(d:Option Tmp)(v:V)(df:List SDef):absF ⟨Tm.putD fr.tm d v,df⟩=⟨putD (absF fr).tm d v,df⟩:=by
 unfold absF
 rw [Tm.putD_l]
theorem forceFrT_eq{β:Type}(fr:FrT)(k:FrT→β):forceFrT fr k=k fr:=by
 obtain⟨tm,df⟩:=fr
 cases df<;>rfl
section
variable {cx:Cx} {s:SelfT} {s':Self} (h:Rel s s')
include h
theorem bind_code{α:Type}(rnd:Option Nat)(c:Code)(fr:FrT)(fr':Fr)(hf:absF fr=fr')(st:St)(k:Ex×Fr×St→R α):(s'.code rnd c fr' st).bind k=(s.code rnd c fr st).bind fun x=>k (absC x):=by
 rw [←hf,←h.code,R.bind_map]
theorem roundBodyT_eq(l:Nat)(body:Code)(e:Ex)(fr:FrT)(st:St):roundBodyT s l body e fr st=roundBody s' l body e (absF fr) st:=by
 unfold roundBodyT roundBody
 cases e<;>try rfl
 dsimp only
 cases st.h.get l with
 | none=>rfl
 | some o=>
  cases o<;>try rfl
  rename_i state _ _ _ _ _ _
  cases state<;>try rfl
  dsimp only
  rw [bind_code h _ _ fr _ rfl]
  exact R.bind_congr fun x=>rfl
theorem evRoundT_eq(l:Nat)(args:List V)(st:St):evRoundT s l args st=evRound s' l args st:=by
 unfold evRoundT evRound
 cases st.h.get l with
 | none=>rfl
 | some o=>
  cases o<;>try rfl
  rename_i _ _ tmps params assign body _
  dsimp only
  cases Nat.beq params.toList.length args.length with
  | true=>
   dsimp only
   rw [bind_code h _ _ {tm:=Tm.of (setZip tmps params.toList args),df:=[]} _ (by unfold absF;rw [of_l])]
   exact R.bind_congr fun (x:Ex×FrT×St)=>roundBodyT_eq h l body x.1 x.2.1 x.2.2
  | false=>rfl
omit h
theorem wantedVT_map(st:St)(ops:List Oper)(tm:Tm)(o:Oper)(k:St→Bool→COutT):(wantedVT st ops tm o k).map absC=wantedV st ops tm.l o fun st b=>(k st b).map absC:=by
 unfold wantedVT wantedV
 cases o.guard with
 | none=>rfl
 | some g=>
  obtain⟨j,want⟩:=g
  dsimp only
  cases (nth ops j).bind (·.dst) with
  | none=>rfl
  | some d=>
   dsimp only
   rw [Tm.get_eq]
   cases nth tm.l d with
   | none=>rfl
   | some v=>
    cases v<;>try rfl
    exact split_map _ _ _ _
include h
omit h
theorem putR_map{tm:Tm}{df:List SDef}{dst:Option Tmp}{k:RegK}{k':Fr→St→COut} (hk:∀ tm df st,(k tm df st).map absC=k' ⟨tm.l,df⟩ st) (st:St) (v:V):(putR tm df dst k st v).map absC=k' ⟨putD tm.l dst v,df⟩ st:=by
 unfold putR
 rw [putKT_eq]
 show (k (Tm.putD tm dst v) df st).map absC=_
 rw [hk,Tm.putD_l]
theorem splitV_plain{α:Type}{v:V}(hv:v.isIte=false)(st:St)(k:St→V→R α):splitV 100 st v k=k st v:=by
 cases v<;>first | rfl | (simp [V.isIte] at hv)
theorem split0_bind{α β:Type}:∀ (x:X) (st:St) (k:St→Bool→R α) (g:α→R β),(split0 st x k).bind g=split0 st x fun st b=>(k st b).bind g:=by
 intro x
 induction x with
 | lit n=>intro st k g;rfl
 | not y ih=>intro st k g;exact ih st _ g
 | ite c a b ic ia ib=>
  intro st k g
  show (split0 st c _).bind g=split0 st c _
  rw [ic]
  congr 1
  funext st t
  cases t
  ·exact ib st k g
  ·exact ia st k g
 | _=>
  intro st k g
  simp only [split0]
  split<;>rfl
theorem split_bind{α β:Type}(x:X)(st:St)(k:St→Bool→R α)(g:α→R β):(split st x k).bind g=split st x fun st b=>(k st b).bind g:=by rw [split_eq,split_eq,split0_bind]
theorem splitV_bind{α β:Type}(g:α→R β):∀ (n:Nat) (st:St) (v:V) (k:St→V→R α),(splitV n st v k).bind g=splitV n st v fun st v=>(k st v).bind g
 | 0,st,v,k=>rfl
 | n+1,st,v,k=>by
  cases v<;>try rfl
  rename_i c a b
  rw [splitV_ite,splitV_ite,split_bind]
  congr 1
  funext st t
  cases t
  ·exact splitV_bind g n st b k
  ·exact splitV_bind g n st a k
theorem R.bind_ok'{α β:Type}(a:α)(k:α→R β):(R.ok a).bind k=k a:=rfl
theorem R.bind_assoc{α β γ:Type}(r:R α)(k:α→R β)(g:β→R γ):(r.bind k).bind g=r.bind fun a=>(k a).bind g:=by
 induction r with
 | ok a=>rfl
 | br c t u i j=>
  show R.br c ((t.bind k).bind g) ((u.bind k).bind g)=R.br c _ _
  rw [i,j]
  rfl
 | stuck s=>rfl
theorem valR_map{tm:Tm}{df:List SDef}{dst:Option Tmp}{k:RegK}{k':Fr→St→COut} (hk:∀ tm df st,(k tm df st).map absC=k' ⟨tm.l,df⟩ st) (v:V) (st:St):
  (valR tm df dst k v st).map absC=splitV 100 st v fun st v=>k' ⟨putD tm.l dst v,df⟩ st:=by
 unfold valR
 rw [isIteR_eq]
 cases hv:v.isIte with
 | true=>
  dsimp only
  rw [splitV_map]
  congr 1
  funext st v
  rw [forceVT_eq,putR_map hk]
 | false=>
  dsimp only
  rw [splitV_plain hv,forceVT_eq,putR_map hk]
include h
theorem operG_map{rnd:Option Nat}{tm:Tm}{df:List SDef}{st:St}{o:Oper}{k:RegK}{k':Fr→St→COut} (hk:∀ tm df st,(k tm df st).map absC=k' ⟨tm.l,df⟩ st):(operG cx s rnd o k tm df st).map absC=evOper cx s' rnd ⟨tm.l,df⟩ st o k':=by
 unfold operG evOper evOp
 rw [evOp0T_eq,R.map_bind,R.bind_assoc]
 refine R.bind_congr fun x=>?_
 obtain⟨r,st⟩:=x
 cases r with
 | val v=>
  dsimp only [operR,resolveV]
  rw [valR_map hk,splitV_bind]
  congr 1
  funext st v
  rw [R.bind_ok']
  dsimp only
  rw [forceV_eq,putK_eq]
 | skip=>exact putR_map hk st .undef
 | enter f args=>
  show ((s.call f args st).bind (callR tm df o.dst k)).map absC=(s'.call f args st).bind _
  rw [R.map_bind,h.call]
  refine R.bind_congr fun x=>?_
  obtain⟨e,st⟩:=x
  cases e with
  | ret v=>
   show (valR tm df o.dst k v st).map absC=splitV 100 st v _
   rw [valR_map hk]
   congr 1
   funext st v
   rw [forceV_eq,putK_eq]
  | panic v=>rfl
 | round l args=>
  show ((evRoundT s l args st).bind (roundR tm df o.dst k)).map absC=(evRound s' l args st).bind _
  rw [R.map_bind,evRoundT_eq h]
  refine R.bind_congr fun x=>?_
  obtain⟨e,st⟩:=x
  cases e with
  | ret v=>exact putR_map hk st v
  | panic v=>rfl
 | panic v=>rfl
 | defer d=>
  cases rnd with
  | none=>exact putR_map hk st .undef
  | some l=>rfl
theorem guardR_map{rnd:Option Nat}{ops:List Oper}{tm:Tm}{df:List SDef}{st:St}{o:Oper}{k:RegK}{k':Fr→St→COut} (hk:∀ tm df st,(k tm df st).map absC=k' ⟨tm.l,df⟩ st):
  (guardR cx s rnd ops o k tm df st).map absC=wantedV st ops tm.l o fun st w=>match w with
   | true=>evOper cx s' rnd ⟨tm.l,df⟩ st o k'
   | false=>putK tm.l o.dst .undef fun tm=>k' ⟨tm,df⟩ st:=by
 have skip:∀ st,(putR tm df o.dst k st .undef).map absC=putK tm.l o.dst .undef fun tm=>k' ⟨tm,df⟩ st:=fun st=>by rw [putR_map hk,putK_eq]
 unfold guardR wantedV
 cases o.guard with
 | none=>exact operG_map h hk
 | some g=>
  obtain⟨j,want⟩:=g
  dsimp only
  cases (nth ops j).bind (·.dst) with
  | none=>exact skip st
  | some d=>
   dsimp only
   rw [Tm.get_eq]
   cases nth tm.l d with
   | none=>exact skip st
   | some v=>
    dsimp only
    cases v<;>try exact skip st
    ·rename_i x
     show (split st x (guardG cx s rnd o k tm df want)).map absC=split st x _
     rw [split_map]
     congr 1
     funext st b
     unfold guardG
     cases b==want with
     | true=>exact operG_map h hk
     | false=>exact skip st
    ·rfl
    ·rfl
theorem evOpsR_map{rnd:Option Nat}(ops:List Oper):∀ (l:List Oper) (tm:Tm) (df:List SDef) (st:St),(evOpsR cx s rnd ops l tm df st).map absC=evOps cx s' rnd ops l ⟨tm.l,df⟩ st
 | [],tm,df,st=>rfl
 | o::l,tm,df,st=>by
  show (guardR cx s rnd ops o (evOpsR cx s rnd ops l) tm df st).map absC=_
  simp only [evOps,forceFr_eq,forceSt_eq]
  exact guardR_map h (k':=fun fr st=>evOps cx s' rnd ops l fr st) fun tm df st=>evOpsR_map ops l tm df st
theorem evOpsT_map{rnd:Option Nat}(ops:List Oper)(l:List Oper)(fr:FrT)(st:St):(evOpsT cx s rnd ops l fr st).map absC=evOps cx s' rnd ops l (absF fr) st:=evOpsR_map h ops l fr.tm fr.df st
omit h
noncomputable def absRd(r:RdT):Rd:={i:=r.i,tm:=r.tm.l,o:=r.o,v:=r.v}
noncomputable def absRS(rs:RST):RS:={fr:=absF rs.fr,st:=rs.st,sm:=rs.sm,mm:=rs.mm,bigs:=rs.bigs,reads:=rs.reads.map absRd,lost:=rs.lost}
theorem sameReadT_eq(st:St)(r:RdT):sameReadT cx st r=sameRead cx st (absRd r):=by
 unfold sameReadT sameRead
 rw [evOpT_eq]
 rfl
theorem readsStayT_eq(st:St)(bef:Nat):∀ l,readsStayT cx st bef l=readsStay cx st bef (l.map absRd)
 | []=>rfl
 | r::l=>by
  simp only [readsStayT,readsStay,List.map_cons,sameReadT_eq,readsStayT_eq st bef l]
  rfl
include h
theorem evBigT_map{fr:FrT}{st:St}{o:Oper}{k:FrT→St→COutT}{k':Fr→St→COut}{kp:V→St→COutT}{kp':V→St→COut} (hk:∀ fr st,(k fr st).map absC=k' (absF fr) st) (hkp:∀ v st,(kp v st).map absC=kp' v st):
  (evBigT cx s fr st o k kp).map absC=evBig cx s' (absF fr) st o k' kp':=by
 unfold evBigT evBig
 rw [evOpT_eq,R.map_bind]
 refine R.bind_congr fun x=>?_
 obtain⟨r,st⟩:=x
 have put:∀ (v:V) (st:St),(putKT fr.tm o.dst v fun tm=>k {fr with tm:=tm} st).map absC=putK (absF fr).tm o.dst v fun tm=>k' {(absF fr) with tm:=tm} st:=by
  intro v st
  simp only [putKT_eq,putK_eq]
  rw [hk]
  exact congrArg (fun fr=>k' fr st) (absF_put fr o.dst v fr.df)
 cases r with
 | val v=>exact put v st
 | skip=>exact put .undef st
 | enter f args=>
  dsimp only
  rw [R.map_bind,h.call]
  refine R.bind_congr fun x=>?_
  obtain⟨e,st⟩:=x
  cases e with
  | ret v=>exact put v st
  | panic v=>exact hkp v st
 | round l args=>
  dsimp only
  rw [R.map_bind,evRoundT_eq h]
  refine R.bind_congr fun x=>?_
  obtain⟨e,st⟩:=x
  cases e with
  | ret v=>exact put v st
  | panic v=>rfl
 | panic v=>rfl
 | defer d=>rfl
theorem drawStepT_map{i:Nat}{o:Oper}{b:Nat}{rs:RST}{st:St}{dep:Bool}{k:RST→COutT}{k':RS→COut} (hk:∀ rs,(k rs).map absC=k' (absRS rs)):(drawStepT cx s i o b rs st dep k).map absC=drawStep cx s' i o b (absRS rs) st dep k':=by
 have fput:∀ v,absF ⟨Tm.putD rs.fr.tm o.dst v,rs.fr.df⟩=⟨putD (absF rs.fr).tm o.dst v,rs.fr.df⟩:=fun v=>absF_put rs.fr o.dst v rs.fr.df
 have big:(evBigT cx s rs.fr {st with h:=withSm b rs.sm st.h} o (fun fr st'=>
   if Nat.ble st.n st'.n&&readsStayT cx st' b rs.reads then
    k {fr:=fr,st:=st',sm:=restSm b rs.sm,mm:=rs.mm,bigs:=i::rs.bigs,reads:=rs.reads}
   else .stuck "draw: a reader sees other things") fun v st'=>match rs.fr.df with
    | []=>match dep,readsStayT cx {st with h:=withSm b rs.sm st.h} b rs.reads with
     | true,true=>.ok (.die v,rs.fr,st')
     | _,_=>.stuck "a panic in a drawn region"
    | _=>.stuck "a panic in a drawn region").map absC=evBig cx s' (absRS rs).fr {st with h:=withSm b (absRS rs).sm st.h} o (fun fr st'=>
   if Nat.ble st.n st'.n&&readsStay cx st' b (absRS rs).reads then
    k' {fr:=fr,st:=st',sm:=restSm b (absRS rs).sm,mm:=(absRS rs).mm,bigs:=i::(absRS rs).bigs,reads:=(absRS rs).reads}
   else .stuck "draw: a reader sees other things") fun v st'=>match (absRS rs).fr.df with
    | []=>match dep,readsStay cx {st with h:=withSm b (absRS rs).sm st.h} b (absRS rs).reads with
     | true,true=>.ok (.die v,(absRS rs).fr,st')
     | _,_=>.stuck "a panic in a drawn region"
    | _=>.stuck "a panic in a drawn region" := by
  refine evBigT_map h (fun fr st'=>?_) fun v st'=>?_
  ·rw [readsStayT_eq]
   show R.map absC (if Nat.ble st.n st'.n&&readsStay cx st' b (absRS rs).reads then _ else _)=_
   split
   ·rw [hk]
    rfl
   ·rfl
  ·rw [readsStayT_eq]
   show R.map absC (match rs.fr.df with
    | []=>match dep,readsStay cx {st with h:=withSm b (absRS rs).sm st.h} b (absRS rs).reads with
     | true,true=>.ok (.die v,rs.fr,st')
     | _,_=>.stuck "a panic in a drawn region"
    | _=>.stuck "a panic in a drawn region")=(match rs.fr.df with
    | []=>match dep,readsStay cx {st with h:=withSm b (absRS rs).sm st.h} b (absRS rs).reads with
     | true,true=>.ok (.die v,(absRS rs).fr,st')
     | _,_=>.stuck "a panic in a drawn region"
    | _=>.stuck "a panic in a drawn region")
   split
   ·split<;>rfl
   ·rfl
 have hs:stepKind o.op (evOT cx rs.fr.tm) rs.sm=stepKind o.op (evO cx (absRS rs).fr.tm) (absRS rs).sm:=by
  rw [show evOT cx rs.fr.tm=evO cx (absRS rs).fr.tm from funext fun x=>evOT_eq ..]
  rfl
 unfold drawStepT drawStep
 rw [hs]
 generalize stepKind o.op _ _=n
 match n with
 | 0=>
  show (R.bind (evOpT _ _ _ _) _).map absC=R.bind _ _
  rw [evOpT_eq,R.map_bind]
  refine R.bind_congr fun x=>?_
  obtain⟨r,st'⟩:=x
  cases r<;>try rfl
  rename_i v
  dsimp only
  split
  ·simp only [putKT_eq,putK_eq]
   rw [hk]
   simp only [absRS,fput]
   rfl
  ·rfl
 | 1=>
  show (R.bind (evOpT _ _ _ _) _).map absC=R.bind _ _
  rw [evOpT_eq,R.map_bind]
  refine R.bind_congr fun x=>?_
  obtain⟨r,st'⟩:=x
  cases r<;>try rfl
  rename_i v
  dsimp only
  split
  ·simp only [putKT_eq,putK_eq]
   rw [hk]
   simp only [absRS,fput]
   rfl
  ·rfl
 | 2=>
  show (R.bind (evOpT _ _ _ _) _).map absC=R.bind _ _
  rw [evOpT_eq,R.map_bind]
  refine R.bind_congr fun x=>?_
  obtain⟨r,st'⟩:=x
  cases r<;>try rfl
  rename_i v
  simp only [putKT_eq,putK_eq]
  rw [hk]
  simp only [absRS,fput,List.map_cons,absRd]
  rfl
 | 4=>
  show R.map absC (match o.op with | .insert _ _ _ _=>_ | _=>_)=(match o.op with | .insert _ _ _ _=>_ | _=>_)
  cases o.op<;>try rfl
  rename_i t m key x
  simp only [evOT_eq]
  dsimp only [absRS,absF]
  generalize evO cx rs.fr.tm.l m=a
  generalize evO cx rs.fr.tm.l key=kv
  generalize evO cx rs.fr.tm.l x=xv
  rcases a with _ | a
  ·rfl
  cases a<;>try rfl
  rename_i mb
  rcases kv with _ | kv
  ·rfl
  rcases xv with _ | xv
  ·rfl
  cases hm:rs.mm with
  | none=>rfl
  | some mk=>
   dsimp only
   generalize Nat.beq mb mk.id=p1
   generalize Nat.testBit b mk.owner=p2
   generalize keyKind cx t kv=p3
   generalize keyNew kv mk.ins=p4
   cases p1<;>cases p2<;>cases p3<;>cases p4<;>try rfl
   simp only [putKT_eq,putK_eq]
   rw [hk]
   simp only [absRS,fput]
   rfl
 | 5=>
  show (R.bind (evOpT _ _ _ _) _).map absC=R.bind _ _
  rw [evOpT_eq,R.map_bind]
  refine R.bind_congr fun x=>?_
  obtain⟨r,st'⟩:=x
  cases r<;>try rfl
  rename_i v
  dsimp only [absRS]
  generalize T.get st'.h st.n=q
  cases hm:rs.mm with
  | some y=>rfl
  | none=>
   rcases q with _ | ob
   ·rfl
   cases ob<;>try rfl
   rename_i es
   cases es with
   | cons _ _=>rfl
   | nil=>
    dsimp only
    split
    ·simp only [putKT_eq,putK_eq]
     rw [hk]
     simp only [absRS,fput]
     rfl
    ·rfl
 | 3=>exact big
 | n+6=>exact big
theorem evDrawT_map(ops:List Oper)(bs:List Nat):∀ (l:List Nat) (done:Nat) (rs:RST),(evDrawT cx s ops bs l done rs).map absC=evDraw cx s' ops bs l done (absRS rs)
 | [],done,rs=>by
  unfold evDrawT evDraw
  cases Nat.beq (done+1) (2 ^ ops.length)<;>rfl
 | i::rest,done,rs=>by
  unfold evDrawT evDraw
  cases nth ops i with
  | none=>rfl
  | some o=>
   cases nth bs i with
   | none=>rfl
   | some b=>
    dsimp only
    show R.map absC (match within b done&&allIn b rs.bigs && !Nat.testBit done i with | true=>_ | false=>_)=(match within b done&&allIn b rs.bigs && !Nat.testBit done i with | true=>_ | false=>_)
    cases within b done&&allIn b rs.bigs && !Nat.testBit done i with
    | false=>rfl
    | true=>
     dsimp only
     rw [wantedVT_map]
     show wantedV rs.st ops rs.fr.tm.l o _=wantedV rs.st ops rs.fr.tm.l o _
     congr 1
     funext st w
     cases w with
     | true=>exact drawStepT_map h fun rs=>evDrawT_map ops bs rest _ rs
     | false=>
      simp only [putKT_eq,putK_eq]
      rw [evDrawT_map ops bs rest]
      exact congrArg (fun fr=>evDraw cx s' ops bs rest (done ||| 2 ^ i) {(absRS rs) with st:=st,fr:=fr}) (absF_put rs.fr o.dst .undef rs.fr.df)
theorem drawnT_map(ops:List Oper)(bs:List Nat)(fr:FrT)(st:St):(drawnT cx s ops bs fr st).map absC=drawn cx s' ops bs (absF fr) st:=by
 unfold drawnT drawn
 exact evDrawT_map h ops bs _ _ _
omit h
theorem resultVT_eq(tm:Tm)(hp:H)(r:ResultVar):resultVT cx tm hp r=resultV cx tm.l hp r:=by
 cases r<;>simp only [resultVT,resultV,Tm.get_eq]<;>rfl
theorem resultsVT_eq(tm:Tm)(hp:H):∀ l,resultsVT cx tm hp l=resultsV cx tm.l hp l
 | []=>rfl
 | r::l=>by simp only [resultsVT,resultsV,resultVT_eq,resultsVT_eq tm hp l]<;>rfl
theorem resultOfT_eq(fn:Func)(tm:Tm)(hp:H):resultOfT cx fn tm hp=resultOf cx fn tm.l hp:=by
 unfold resultOfT resultOf
 rw [resultsVT_eq]
 rfl
theorem leaveT_eq(fn:Func)(tm:Tm):∀ (ds:List SDef) (e:Option V) (st:St),leaveT cx fn tm e ds st=leave cx fn tm.l e ds st
 | [],e,st=>by
  unfold leaveT leave
  cases e with
  | some p=>rfl
  | none=>
   dsimp only
   rw [resultOfT_eq]
   rfl
 | .mark b::ds,e,st=>by
  unfold leaveT leave
  simp only [leaveT_eq fn tm ds]
  rfl
 | .fn f cap args::ds,e,st=>by
  unfold leaveT leave
  simp only [leaveT_eq fn tm ds]
  rfl
include h
theorem evCallT_eq(f:FuncId)(args:List V)(st:St):evCallT cx s f args st=evCall cx s' f args st:=by
 unfold evCallT evCall
 cases useSm cx f args st with
 | some g=>rfl
 | none=>
  dsimp only
  cases cx.ft.get f with
  | none=>rfl
  | some fn=>
   dsimp only
   cases fn.body with
   | none=>rfl
   | some body=>
    dsimp only
    rw [bind_code h _ _ {tm:=Tm.start fn.ntmps args,df:=[]} _ (by unfold absF;rw [start_l])]
    refine R.bind_congr fun (x:Ex×FrT×St)=>?_
    obtain⟨e,fr,st⟩:=x
    cases e with
    | normal=>exact leaveT_eq fn fr.tm fr.df none st
    | ret=>exact leaveT_eq fn fr.tm fr.df none st
    | panic v=>exact leaveT_eq fn fr.tm fr.df (some v) st
    | die v=>rfl
    | exit i=>rfl
theorem rangeGoT_map{rnd:Option Nat}{g:FuncId}{first cap:List V}{params:Array Tmp}{assign body:Code}{tm:Tm}{df:List SDef}{D:Nat}{st:St}:(rangeGoT s rnd g first cap params assign body tm df D st).map absC=rangeGo s' rnd g first cap params assign body tm.l df D st:=by
 unfold rangeGoT rangeGo
 rw [R.map_bind,h.call]
 refine R.bind_congr fun x=>?_
 obtain⟨e,st1⟩:=x
 cases e with
 | panic v=>rfl
 | ret v=>
  dsimp only
  cases st1.h.get st.n with
  | none=>rfl
  | some o=>
   cases o<;>try rfl
   rename_i state pending _ _ _ _ _
   cases state<;>try rfl
   all_goals
    cases pending with
    | none=>rfl
    | some c=>exact h.code rnd c ⟨tm,df⟩ _
theorem evRangeT_map{rnd:Option Nat}{f:Operand}{params:Array Tmp}{assign body:Code}{fr:FrT}{st:St}:(evRangeT cx s rnd f params assign body fr st).map absC=evRange cx s' rnd f params assign body (absF fr) st:=by
 unfold evRangeT evRange
 rw [evOT_eq]
 show R.map absC (match evO cx fr.tm.l f with | some (.func (.func g) first cap)=>_ | _=>_)=(match evO cx fr.tm.l f with | some (.func (.func g) first cap)=>_ | _=>_)
 generalize evO cx fr.tm.l f=a
 rcases a with _ | a
 ·rfl
 cases a<;>try rfl
 rename_i g first cap
 cases g<;>try rfl
 rename_i g
 dsimp only
 cases cx.ft.get g with
 | none=>rfl
 | some fn=>
  cases rnd with
  | none=>exact rangeGoT_map h
  | some l=>
   dsimp only
   cases st.h.get l with
   | none=>rfl
   | some o=>
    cases o<;>try rfl
    exact rangeGoT_map h
theorem evCodeT_map(rnd:Option Nat)(c:Code)(fr:FrT)(st:St):(evCodeT cx s rnd c fr st).map absC=evCode cx s' rnd c (absF fr) st:=by
 cases c<;>try rfl
 ·rename_i ops draw
  cases draw with
  | false=>exact evOpsT_map h _ _ _ _
  | true=>
   show R.map absC (if drawOk ops.toList then drawnT cx s ops.toList (befs ops.toList []) fr st else .stuck "draw: temporaries")=(if drawOk ops.toList then drawn cx s' ops.toList (befs ops.toList []) (absF fr) st else .stuck "draw: temporaries")
   split
   ·exact drawnT_map h _ _ _ _
   ·rfl
 ·rename_i a b
  show ((s.code rnd a fr st).bind _).map absC=(s'.code rnd a (absF fr) st).bind _
  rw [bind_code h _ _ fr _ rfl,R.map_bind]
  refine R.bind_congr fun (x:Ex×FrT×St)=>?_
  obtain⟨e,fr,st⟩:=x
  cases e with
  | normal=>exact h.code rnd b fr st
  | _=>rfl
 ·rename_i c x y
  show R.map absC (match evOT cx fr.tm c with
   | some (.bool b)=>split st b fun st t=>(match t with
    | true=>s.code rnd x fr st
    | false=>s.code rnd y fr st)
   | _=>.stuck "cond")=_
  rw [evOT_eq]
  show R.map absC (match evO cx fr.tm.l c with | some (.bool b)=>_ | _=>_)=(match evO cx fr.tm.l c with | some (.bool b)=>_ | _=>_)
  generalize evO cx fr.tm.l c=a
  rcases a with _ | a
  ·rfl
  cases a<;>try rfl
  dsimp only
  rw [split_map]
  congr 1
  funext st t
  cases t
  ·exact h.code rnd y fr st
  ·exact h.code rnd x fr st
 ·rename_i id body
  show ((s.code rnd body fr st).bind _).map absC=(s'.code rnd body (absF fr) st).bind _
  rw [bind_code h _ _ fr _ rfl,R.map_bind]
  refine R.bind_congr fun (x:Ex×FrT×St)=>?_
  obtain⟨e,fr,st⟩:=x
  cases e with
  | exit i=>
   show R.map absC (match Nat.beq i id with | true=>_ | false=>_)=(match Nat.beq i id with | true=>_ | false=>_)
   cases Nat.beq i id<;>rfl
  | _=>rfl
 ·exact h.loop rnd _ fr st
 ·exact evRangeT_map h
 ·exact h.code rnd _ fr st
theorem evLoop0T_map(rnd:Option Nat)(body:Code)(fr:FrT)(st:St):(evLoop0T s rnd body fr st).map absC=evLoop0 s' rnd body (absF fr) st:=by
 unfold evLoop0T evLoop0
 rw [bind_code h _ _ fr _ rfl,R.map_bind]
 refine R.bind_congr fun (x:Ex×FrT×St)=>?_
 obtain⟨e,fr,st⟩:=x
 cases e with
 | normal=>exact h.loop rnd body fr st
 | _=>rfl
theorem evLoopT_map(rnd:Option Nat)(body:Code)(fr:FrT)(st:St):(evLoopT cx s rnd body fr st).map absC=evLoop cx s' rnd body (absF fr) st:=by
 unfold evLoopT evLoop
 cases cx.lp with
 | none=>exact evLoop0T_map h rnd body fr st
 | some lp=>
  dsimp only
  show R.map absC (match lp rnd body (absF fr) st with | none=>_ | some r=>_)=_
  cases lp rnd body (absF fr) st with
  | none=>exact evLoop0T_map h rnd body fr st
  | some r=>
   dsimp only
   rw [R.map_bind]
   refine Eq.trans (R.bind_congr (k':=fun x=>.ok x) fun (x:Ex×Fr×St)=>?_) ?_
   ·obtain⟨e,fr,st⟩:=x
    show R.ok (e,absF ⟨Tm.of fr.tm,fr.df⟩,st)=_
    unfold absF
    rw [of_l]
   ·induction r with
    | ok a=>rfl
    | br c t f it jf=>
     show R.br c (t.bind fun x=>.ok x) (f.bind fun x=>.ok x)=_
     rw [it,jf]
    | stuck s=>rfl
omit h
theorem forceLVT_eq{β:Type}:∀ (l:List V) (k:List V→β),forceLV l k=k l
 | [],k=>rfl
 | v::l,k=>by
  unfold forceLV
  rw [forceV_eq]
  exact forceLVT_eq l _
theorem joinC1T_map(pc:PC)(c:X)(a b:Ex×FrT×St):(joinC1T pc c a b).map absC=joinC1 pc c (absC a) (absC b):=by
 obtain⟨e,fr,st⟩:=a
 obtain⟨e',fr',st'⟩:=b
 unfold joinC1T joinC1 absC
 dsimp only
 show Option.map _ (match exSame e e',sdefsBeq fr.df fr'.df with | true,true=>_ | _,_=>_)=(match exSame e e',sdefsBeq fr.df fr'.df with | true,true=>_ | _,_=>_)
 cases exSame e e'<;>cases sdefsBeq fr.df fr'.df<;>try rfl
 dsimp only
 have hj:=joinTm_eq c fr.tm fr'.tm
 show _=(match joinVs c fr.tm.l fr'.tm.l with | some tm=>_ | none=>none)
 rw [←hj]
 cases joinTm c fr.tm fr'.tm with
 | none=>rfl
 | some tm=>
  dsimp only [Option.map_some]
  cases joinSt pc c st st' with
  | none=>rfl
  | some st=>
   dsimp only
   rw [forceLVT_eq]
   rfl
theorem mergeR_map{α β:Type}(f:α→β){j:PC→X→α→α→Option α}{j':PC→X→β→β→Option β} (hj:∀ pc c a b,(j pc c a b).map f=j' pc c (f a) (f b)):∀ (r:R α) (pc:PC),(mergeR j pc r).map f=mergeR j' pc (r.map f)
 | .ok a,pc=>rfl
 | .stuck s,pc=>rfl
 | .br c t u,pc=>by
  have h1:=mergeR_map f hj t ((c,true)::pc)
  have h2:=mergeR_map f hj u ((c,false)::pc)
  show (mergeR j pc (.br c t u)).map f=mergeR j' pc (.br c (t.map f) (u.map f))
  unfold mergeR
  rw [←h1,←h2]
  generalize mergeR j ((c,true)::pc) t=x
  generalize mergeR j ((c,false)::pc) u=y
  cases x<;>try rfl
  cases y<;>try rfl
  rename_i a b
  show R.map f (match j pc c a b with | some r=>.ok r | none=>.br c (.ok a) (.ok b))=(match j' pc c (f a) (f b) with | some r=>.ok r | none=>.br c (.ok (f a)) (.ok (f b)))
  rw [←hj]
  cases j pc c a b<;>rfl
theorem openTmpsT_map{k:St→Tm→COutT}{k':St→List V→COut} (hk:∀ st tm,(k st tm).map absC=k' st tm.l):∀ (ts:List Nat) (st:St) (tm:Tm),(openTmpsT st tm ts k).map absC=openTmps st tm.l ts k'
 | [],st,tm=>hk st tm
 | t::ts,st,tm=>by
  unfold openTmpsT openTmps
  rw [Tm.get_eq]
  cases nth tm.l t with
  | none=>exact openTmpsT_map hk ts st tm
  | some v=>
   dsimp only
   cases v.isIte with
   | false=>exact openTmpsT_map hk ts st tm
   | true=>
    dsimp only
    rw [splitV_map]
    congr 1
    funext st v
    rw [openTmpsT_map hk ts,Tm.set_l]
include h
theorem evOpenT_map(rnd:Option Nat)(c:Code)(fr:FrT)(st:St):(evOpenT cx s rnd c fr st).map absC=evOpen cx s' rnd c (absF fr) st:=by
 unfold evOpenT evOpen
 cases topTmps c with
 | nil=>exact evCodeT_map h rnd c fr st
 | cons t ts=>exact openTmpsT_map (fun st tm=>evCodeT_map h rnd c ⟨tm,fr.df⟩ st) (t::ts) st fr.tm
theorem evCodeMT_map(rnd:Option Nat)(c:Code)(fr:FrT)(st:St):(evCodeMT cx s rnd c fr st).map absC=evCodeM cx s' rnd c (absF fr) st:=by
 unfold evCodeMT evCodeM
 rw [forceFrT_eq,forceSt_eq,forceFr_eq,forceSt_eq]
 cases cx.mg with
 | false=>exact evCodeT_map h rnd c fr st
 | true=>
  dsimp only
  cases joins cx.js c with
  | false=>exact evOpenT_map h rnd c fr st
  | true=>
   dsimp only
   rw [mergeR_map absC joinC1T_map,evOpenT_map h]
theorem evCallMT_eq(f:FuncId)(args:List V)(st:St):evCallMT cx s f args st=evCallM cx s' f args st:=by
 unfold evCallMT evCallM
 rw [evCallT_eq h]
 rfl
end
theorem evT_rel(cx:Cx):∀ n,Rel (evT cx n) (ev cx n)
 | 0=>⟨fun _ _ _ _=>rfl,fun _ _ _ _=>rfl,rfl⟩
 | n+1=>⟨evCodeMT_map (evT_rel cx n),evLoopT_map (cx:=cx) (evT_rel cx n),by funext f args st;exact evCallMT_eq (evT_rel cx n) f args st⟩
theorem evT_call(cx:Cx)(n:Nat):(ev cx n).call=(evT cx n).call:=(evT_rel cx n).call.symm
end Go.Proofs.YtmickljjofbmiaaGreatDoor
