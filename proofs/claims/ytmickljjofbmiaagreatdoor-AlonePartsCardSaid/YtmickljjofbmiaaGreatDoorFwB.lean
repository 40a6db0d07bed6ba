/- Symbolic execution, part 3 a: bits mean what they say. Symbolic execution: the bounds that expressions have by themselves. Symbolic execution, part 4: expressions and tests mean what they say. Symbolic execution: values that are one of two; elements whose number is left open. No condition. -/
import Derived.Test.YtmickljjofbmiaaGreatDoorFwA
namespace Go.Proofs.YtmickljjofbmiaaGreatDoor
open Go
section
variable {ρ:Env}
theorem B.fM(b:B):b.not.den ρ=!b.den ρ:=by cases b<;>simp [B.not,B.den]
theorem B.Dw{a b c:B}(h:a.and b=some c):c.den ρ=(a.den ρ&&b.den ρ):=by
 unfold B.and at h
 split at h
 ·injection h with h;subst h;simp [B.den]
 ·injection h with h;subst h;simp [B.den]
 ·split at h
  ·injection h with h;subst h;simp [B.den]
  ·injection h with h;subst h;simp [B.den]
  ·split at h
   ·rename_i hb
    injection h with h;subst h
    rw [B.beq_eq hb];simp
   ·rename_i hb
    injection h with h;subst h
    rw [B.beq_eq hb,B.fM];simp [B.den]
   ·cases h
theorem B.aaZ{a b c:B}(h:a.or b=some c):c.den ρ=(a.den ρ || b.den ρ):=by
 unfold B.or at h
 split at h
 ·rename_i d hd
  injection h with h;subst h
  rw [B.fM,B.Dw hd,B.fM,B.fM]
  cases a.den ρ<;>cases b.den ρ<;>rfl
 ·cases h
theorem B.Zd{a b c:B}(h:a.xor b=some c):c.den ρ=(a.den ρ ^^ b.den ρ):=by
 unfold B.xor at h
 split at h
 ·injection h with h;subst h;simp [B.den]
 ·injection h with h;subst h;rw [B.fM];simp [B.den]
 ·split at h
  ·injection h with h;subst h;simp [B.den]
  ·injection h with h;subst h;rw [B.fM];simp [B.den]
  ·split at h
   ·rename_i hb
    injection h with h;subst h
    rw [B.beq_eq hb];simp [B.den]
   ·rename_i hb
    injection h with h;subst h
    rw [B.beq_eq hb,B.fM];simp [B.den]
   ·cases h
theorem B.Rv{a b c:B}(h:a.diff b=some c):c.den ρ=(a.den ρ && !b.den ρ):=by
 rw [B.Dw (show a.and b.not=some c from h),B.fM]
def cW(ρ:Env)(l:List B)(t:B)(i:Nat):Bool:=match l[i]? with
 | some b=>b.den ρ
 | none=>t.den ρ
theorem eD(t:B)(i:Nat):cW ρ [] t i=t.den ρ:=by simp [cW]
theorem cK(b:B)(l:List B)(t:B):cW ρ (b::l) t 0=b.den ρ:=by simp [cW]
theorem cJ(b:B)(l:List B)(t:B)(i:Nat):cW ρ (b::l) t (i+1)=cW ρ l t i:=by simp [cW]
theorem a8(t:B):ar ρ [] t=-a7 (t.den ρ):=rfl
theorem aB(b:B)(l:List B)(t:B):ar ρ (b::l) t=a7 (b.den ρ)+2*ar ρ l t:=rfl
theorem lR(b:Bool):a7 b=0∨a7 b=1:=by cases b<;>simp [a7]
theorem BN(b:Bool):(a7 b==0)=!b:=by cases b<;>rfl
theorem XG{a b:Bool}(h:a7 a=a7 b):a=b:=by cases a<;>cases b<;>simp [a7] at h ⊢
theorem ad1(l:List B)(t:B):∀ i,cW ρ l t i=decide (ar ρ l t / 2 ^ i % 2=1):=by
 induction l with
 | nil=>
  intro i
  rw [eD,a8]
  cases t.den ρ with
  | false=>simp [a7]
  | true=>
   have:(-a7 true:Int) / 2 ^ i=-1:=by
    show (-1:Int) / 2 ^ i=-1
    have h1:(0:Int)<2 ^ i:=by
     have:=Int.pow_pos (n:=2) (m:=i) (by omega)
     exact this
    exact Int.ediv_eq_neg_one_of_neg_of_le (by omega) (by omega)
   rw [this];rfl
 | cons b l ih=>
  intro i
  cases i with
  | zero=>
   rw [cK,aB]
   cases b.den ρ<;>simp [a7]<;>omega
  | succ i=>
   rw [cJ,ih i,aB]
   have:(a7 (b.den ρ)+2*ar ρ l t) / 2 ^ (i+1)=ar ρ l t / 2 ^ i:=by
    rw [show (2:Int) ^ (i+1)=2*2 ^ i from by rw [Int.pow_succ];omega,←Int.ediv_ediv_of_nonneg (by omega)]
    congr 1
    rcases lR (b.den ρ) with h | h<;>omega
   rw [this]
theorem K0{f:B→B→Option B}{g:Bool→Bool→Bool} (hf:∀ a b c,f a b=some c→c.den ρ=g (a.den ρ) (b.den ρ)) {t:B}:∀ {m:List B} {u:B} {r:List B} {s:B},Kh f t m u=some (r,s)→∀ i,cW ρ r s i=g (t.den ρ) (cW ρ m u i)
 | [],u,r,s,h,i=>by
  unfold Kh at h
  split at h
  ·rename_i c hc
   simp only [Option.some.injEq,Prod.mk.injEq] at h
   obtain⟨rfl,rfl⟩:=h
   rw [eD,eD,hf _ _ _ hc]
  ·cases h
 | c::m,u,r,s,h,i=>by
  unfold Kh nX at h
  split at h
  ·cases h
  ·rename_i d hd
   split at h
   ·cases h
   ·rename_i l' t' hr
    simp only [Option.some.injEq,Prod.mk.injEq] at h
    obtain⟨rfl,rfl⟩:=h
    cases i with
    | zero=>rw [cK,cK,hf _ _ _ hd]
    | succ i=>rw [cJ,cJ,K0 hf hr]
theorem kQ{f:B→B→Option B}{g:Bool→Bool→Bool} (hf:∀ a b c,f a b=some c→c.den ρ=g (a.den ρ) (b.den ρ)):∀ {l:List B} {t:B} {m:List B} {u:B} {r:List B} {s:B},pN f l t m u=some (r,s)→∀ i,cW ρ r s i=g (cW ρ l t i) (cW ρ m u i)
 | [],t,m,u,r,s,h,i=>by
  rw [eD]
  exact K0 hf (by unfold pN at h;exact h) i
 | b::l,t,[],u,r,s,h,i=>by
  unfold pN nX at h
  dsimp only at h
  split at h
  ·cases h
  ·rename_i d hd
   split at h
   ·cases h
   ·rename_i l' t' hr
    simp only [Option.some.injEq,Prod.mk.injEq] at h
    obtain⟨rfl,rfl⟩:=h
    cases i with
    | zero=>rw [cK,cK,eD,hf _ _ _ hd]
    | succ i=>rw [cJ,cJ,kQ hf hr,eD,eD]
 | b::l,t,c::m,u,r,s,h,i=>by
  unfold pN nX at h
  dsimp only at h
  split at h
  ·cases h
  ·rename_i d hd
   split at h
   ·cases h
   ·rename_i l' t' hr
    simp only [Option.some.injEq,Prod.mk.injEq] at h
    obtain⟨rfl,rfl⟩:=h
    cases i with
    | zero=>rw [cK,cK,cK,hf _ _ _ hd]
    | succ i=>rw [cJ,cJ,cJ,kQ hf hr]
def dY(f:Nat→Bool):Nat→Int
 | 0=>0
 | n+1=>a7 (f 0)+2*dY (fun i=>f (i+1)) n
theorem rV{f g:Nat→Bool}:∀ {n:Nat},(∀ i,i<n→f i=g i)→dY f n=dY g n
 | 0,_=>rfl
 | n+1,h=>by rw [dY,dY,h 0 (by omega),rV fun i hi=>h (i+1) (by omega)]
theorem jS(l:List B)(t:B):∀ n,ar ρ l t % 2 ^ n=dY (cW ρ l t) n:=by
 induction l with
 | nil=>
  intro n
  rw [a8]
  have e:cW ρ [] t=fun _=>t.den ρ:=funext fun i=>eD t i
  rw [e]
  induction n with
  | zero=>simp [dY,Int.emod_one]
  | succ n ih=>
   rw [dY,←ih,show (2:Int) ^ (n+1)=2*2 ^ n from by rw [Int.pow_succ];omega]
   have h1:(0:Int)<2 ^ n:=Int.pow_pos (by omega)
   cases t.den ρ with
   | false=>simp [a7]
   | true=>
    show (-1:Int) % (2*2 ^ n)=1+2*(-1 % 2 ^ n)
    rw [Int.emod_eq_add_self_emod,Int.emod_eq_of_lt (by omega) (by omega),Int.emod_eq_add_self_emod,Int.emod_eq_of_lt (a:=-1+2 ^ n) (by omega) (by omega)]
    omega
 | cons b l ih=>
  intro n
  cases n with
  | zero=>simp [dY,Int.emod_one]
  | succ n=>
   rw [dY,cK,show (fun i=>cW ρ (b::l) t (i+1))=cW ρ l t from funext fun i=>cJ b l t i,←ih n,aB,show (2:Int) ^ (n+1)=2*2 ^ n from by rw [Int.pow_succ];omega]
   have h1:(0:Int)<2 ^ n:=Int.pow_pos (by omega)
   have h2:=Int.emod_nonneg (ar ρ l t) (b:=2 ^ n) (by omega)
   have h3:=Int.emod_lt_of_pos (ar ρ l t) h1
   have h4:=Int.mul_ediv_add_emod (ar ρ l t) (2 ^ n)
   have h5:a7 (b.den ρ)+2*ar ρ l t=(a7 (b.den ρ)+2*(ar ρ l t % 2 ^ n))+(2*2 ^ n)*(ar ρ l t / 2 ^ n):=by
    have:2*ar ρ l t=2*(2 ^ n*(ar ρ l t / 2 ^ n)+ar ρ l t % 2 ^ n):=by rw [h4]
    rw [this,Int.mul_add,←Int.mul_assoc]
    omega
   rw [h5,Int.add_mul_emod_self_left]
   refine Int.emod_eq_of_lt ?_ ?_
   ·rcases lR (b.den ρ) with h | h<;>omega
   ·rcases lR (b.den ρ) with h | h<;>omega
theorem pQ:∀ (n:Nat) (l:List B) (t:B),ar ρ (wR n l t) .zero=dY (cW ρ l t) n
 | 0,l,t=>by simp [wR,ar,dY,B.den,a7]
 | n+1,[],t=>by
  have e:cW ρ [] t=fun _=>t.den ρ:=funext fun i=>eD t i
  have ih:=pQ n [] t
  rw [e] at ih ⊢
  unfold wR
  split
  ·have hz:∀ n,dY (fun _=>B.zero.den ρ) n=0:=by
    intro n
    induction n with
    | zero=>rfl
    | succ n ih=>rw [dY,ih];simp [B.den,a7]
   rw [hz]
   simp [ar,B.den,a7]
  ·rw [aB,dY,ih]
 | n+1,b::l,t=>by
  unfold wR
  rw [aB,dY,pQ n l t,cK]
  rw [show (fun i=>cW ρ (b::l) t (i+1))=cW ρ l t from funext fun i=>cJ b l t i]
theorem BU:∀ (n:Nat) (l:List B) (t:B) (r:List B) (s:B),BT n l t=(r,s)→ar ρ r s=dY (cW ρ l t) n-2 ^ n*a7 (cW ρ l t n)
 | n,[],t,r,s,h=>by
  have:r=[]∧s=t:=by cases n<;>simp [BT] at h<;>exact⟨h.1,h.2.symm⟩
  obtain⟨rfl,rfl⟩:=this
  have e:cW ρ [] s=fun _=>s.den ρ:=funext fun i=>eD s i
  rw [e,a8]
  clear h e
  induction n with
  | zero=>simp [dY]
  | succ n ih=>
   have ih':-a7 (s.den ρ)=dY (fun _=>s.den ρ) n-2 ^ n*a7 (s.den ρ):=ih
   rw [dY,show (2:Int) ^ (n+1)=2*2 ^ n from by rw [Int.pow_succ];omega,Int.mul_assoc]
   dsimp only
   omega
 | 0,b::l,t,r,s,h=>by
  simp only [BT,Prod.mk.injEq] at h
  obtain⟨rfl,rfl⟩:=h
  rw [a8,cK]
  simp [dY]
 | n+1,b::l,t,r,s,h=>by
  unfold BT at h
  split at h
  rename_i r' s' hr
  simp only [Prod.mk.injEq] at h
  obtain⟨rfl,rfl⟩:=h
  have ih:=BU n l t r' s' hr
  rw [aB,ih,dY,cK,cJ,show (fun i=>cW ρ (b::l) t (i+1))=cW ρ l t from funext fun i=>cJ b l t i,show (2:Int) ^ (n+1)=2*2 ^ n from by rw [Int.pow_succ];omega,Int.mul_assoc]
  omega
theorem Dg(t:B):∀ l,ar ρ (OK t l) t=ar ρ l t
 | []=>rfl
 | b::l=>by
  have ih:=Dg t l
  unfold OK
  split
  ·rename_i he
   rw [he] at ih
   split
   ·rename_i hb
    rw [aB,←ih,B.beq_eq hb,a8]
    omega
   ·rw [aB,aB,←ih]
  ·rename_i c r he
   rw [he] at ih
   rw [aB,ih,aB]
theorem Ct{t:B}:∀ {l:List B} {n:Int},G0 t l=some n→ar ρ l t=n
 | [],n,h=>by
  unfold G0 at h
  split at h
  ·obtain rfl:=Option.some.inj h
   simp [ar,B.den,a7]
  ·obtain rfl:=Option.some.inj h
   simp [ar,B.den,a7]
  ·cases h
 | b::l,n,h=>by
  unfold G0 at h
  split at h
  ·cases h
  ·rename_i m hm
   have ih:=Ct hm
   rw [aB,ih]
   split at h
   ·obtain rfl:=Option.some.inj h
    simp [B.den,a7]
   ·obtain rfl:=Option.some.inj h
    simp [B.den,a7]
    omega
   ·cases h
theorem gA(l:List B)(t:B):(z0 l t).den ρ=ar ρ l t:=by
 unfold z0
 split
 ·rename_i n h
  simp only [X.den,Ct h]
 ·simp only [X.den,Dg]
theorem nq(f:Nat→Bool):∀ n,dY f (n+1)=dY f n+2 ^ n*a7 (f n)
 | 0=>by simp [dY]
 | n+1=>by
  rw [dY,nq (fun i=>f (i+1)) n,dY,show (2:Int) ^ (n+1)=2*2 ^ n from by rw [Int.pow_succ];omega,Int.mul_assoc]
  omega
theorem oX(f:Nat→Bool):∀ n,0≤dY f n∧dY f n<2 ^ n
 | 0=>by simp [dY]
 | n+1=>by
  have h:=oX (fun i=>f (i+1)) n
  rw [dY,show (2:Int) ^ (n+1)=2*2 ^ n from by rw [Int.pow_succ];omega]
  rcases lR (f 0) with h1 | h1<;>omega
theorem jV(k:IntKind)(l:List B)(t:B):(z3 k l t).den ρ=k.wrap (ar ρ l t):=by
 unfold z3 IntKind.wrap
 have h1:=jS (ρ:=ρ) l t k.bits
 split
 ·rename_i hs
  rw [gA,pQ,←h1,hs]
  simp
 ·rename_i hs
  split
  rename_i r s hr
  rw [gA,BU _ _ _ _ _ hr]
  obtain⟨n,hn⟩:∃ n,k.bits=n+1:=by cases k<;>exact⟨_,rfl⟩
  simp only [hs,Bool.true_and,decide_eq_true_eq]
  rw [h1,hn,Nat.add_sub_cancel,nq]
  have h2:=oX (cW ρ l t) n
  rw [show (2:Int) ^ (n+1)=2*2 ^ n from by rw [Int.pow_succ];omega]
  cases cW ρ l t n with
  | false=>
   rw [if_neg (by simp [a7];omega)]
   simp [a7]
  | true=>
   rw [if_pos (by simp [a7];omega)]
   simp [a7]
   omega
def jq(f:Nat→Bool):Nat→Nat
 | 0=>0
 | n+1=>(f 0).toNat+2*jq (fun i=>f (i+1)) n
theorem iS(f:Nat→Bool):∀ n,((jq f n:Nat):Int)=dY f n
 | 0=>rfl
 | n+1=>by
  rw [jq,dY,←iS (fun i=>f (i+1)) n]
  cases f 0<;>simp [a7]
theorem Py(f:Nat→Bool)(n:Nat):jq f n<2 ^ n:=by
 have h:=(oX f n).2
 rw [←iS] at h
 exact_mod_cast h
theorem rW:∀ (f:Nat→Bool) (n i:Nat),(jq f n).testBit i=(decide (i<n)&&f i)
 | f,0,i=>by simp [jq]
 | f,n+1,0=>by
  rw [jq,Nat.testBit_zero]
  cases f 0<;>simp<;>omega
 | f,n+1,i+1=>by
  rw [jq,Nat.testBit_succ]
  have:((f 0).toNat+2*jq (fun i=>f (i+1)) n) / 2=jq (fun i=>f (i+1)) n:=by
   cases f 0<;>simp<;>omega
  rw [this,rW]
  simp
def Ri(f:Nat→Bool)(n:Nat):BitVec n:=BitVec.ofNat n (jq f n)
theorem rG(f:Nat→Bool)(n:Nat):(Ri f n).toNat=jq f n:=by
 simp [Ri,Nat.mod_eq_of_lt (Py f n)]
theorem ep(f:Nat→Bool)(n i:Nat)(h:i<n):(Ri f n).getLsbD i=f i:=by
 rw [BitVec.getLsbD,rG,rW]
 simp [h]
theorem iT(l:List B)(t:B)(n:Nat):BitVec.ofInt n (ar ρ l t)=Ri (cW ρ l t) n:=by
 apply BitVec.eq_of_toNat_eq
 rw [rG,BitVec.toNat_ofInt]
 have:=jS (ρ:=ρ) l t n
 have h2:((2 ^ n:Nat):Int)=2 ^ n:=by simp
 rw [h2,this,←iS]
 simp
theorem W3(k:IntKind)(l:List B)(t:B):k.wrap (((Ri (cW ρ l t) k.bits).toNat:Nat):Int)=k.wrap (ar ρ l t):=by
 rw [rG,iS,←jS]
 unfold IntKind.wrap
 rw [Int.emod_emod_of_dvd _ (Int.dvd_refl _)]
theorem Rf{o:Nat}(k:IntKind){l:List B}{t:B}{m:List B}{u:B}{r:List B}{s:B} (h:pN (B.op o) l t m u=some (r,s)):gq o k (ar ρ l t) (ar ρ m u)=k.wrap (ar ρ r s):=by
 rw [←W3]
 unfold gq
 split
 ·have hz:=kQ (g:=fun a b=>a&&b) (ρ:=ρ) (fun a b c hc=>B.Dw hc) (show pN B.and l t m u=some (r,s) from h)
  rw [iT,iT]
  congr 3
  apply BitVec.eq_of_getLsbD_eq
  intro i hi
  rw [BitVec.getLsbD_and,ep _ _ _ hi,ep _ _ _ hi,ep _ _ _ hi,hz]
 ·have hz:=kQ (g:=fun a b=>a || b) (ρ:=ρ) (fun a b c hc=>B.aaZ hc) (show pN B.or l t m u=some (r,s) from h)
  rw [iT,iT]
  congr 3
  apply BitVec.eq_of_getLsbD_eq
  intro i hi
  rw [BitVec.getLsbD_or,ep _ _ _ hi,ep _ _ _ hi,ep _ _ _ hi,hz]
 ·have hz:=kQ (g:=fun a b=>a ^^ b) (ρ:=ρ) (fun a b c hc=>B.Zd hc) (show pN B.xor l t m u=some (r,s) from h)
  rw [iT,iT]
  congr 3
  apply BitVec.eq_of_getLsbD_eq
  intro i hi
  rw [BitVec.getLsbD_xor,ep _ _ _ hi,ep _ _ _ hi,ep _ _ _ hi,hz]
 ·rename_i h0 h1 h2
  have hop:B.op o=B.diff:=by
   unfold B.op
   split
   ·exact absurd rfl h0
   ·exact absurd rfl h1
   ·exact absurd rfl h2
   ·rfl
  rw [hop] at h
  have hz:=kQ (g:=fun a b=>a && !b) (ρ:=ρ) (fun a b c hc=>B.Rv hc) h
  rw [iT,iT]
  congr 3
  apply BitVec.eq_of_getLsbD_eq
  intro i hi
  rw [BitVec.getLsbD_and,BitVec.getLsbD_not,ep _ _ _ hi,ep _ _ _ hi,ep _ _ _ hi,hz]
  simp [hi]
theorem r5:∀ (f n:Nat),n<2 ^ f→ar ρ (o9 f n) .zero=n
 | 0,n,h=>by
  have:n=0:=by simpa using h
  subst this
  simp [o9,ar,B.den,a7]
 | f+1,0,_=>by simp [o9,ar,B.den,a7]
 | f+1,m+1,h=>by
  unfold o9
  have h1:(m+1) / 2<2 ^ f:=by
   rw [Nat.pow_succ] at h
   omega
  rw [aB,r5 f ((m+1) / 2) h1]
  cases hb:Nat.beq ((m+1) % 2) 1 with
  | true=>
   have:=Nat.eq_of_beq_eq_true hb
   simp only [B.den,a7,if_true]
   omega
  | false=>
   have:(m+1) % 2≠1:=Nat.ne_of_beq_eq_false hb
   simp only [B.den,a7,Bool.false_eq_true,if_false]
   omega
theorem CF(t:B):∀ l:List B,ar ρ (Iq l) t.not=-1-ar ρ l t
 | []=>by
  rw [Iq,a8,a8,B.fM]
  cases t.den ρ<;>simp [a7]
 | b::l=>by
  rw [Iq,aB,aB,CF t l,B.fM]
  cases b.den ρ<;>simp [a7]<;>omega
theorem OI{x:X}{l:List B}{t:B} (h:toB x=some (l,t)):x.den ρ=ar ρ l t:=by
 unfold toB at h
 split at h
 ·simp only [Option.some.injEq,Prod.mk.injEq] at h
  obtain⟨rfl,rfl⟩:=h
  rfl
 ·split at h
  ·rename_i n
   split at h
   ·rename_i hn
    simp only [Option.some.injEq,Prod.mk.injEq] at h
    obtain⟨rfl,rfl⟩:=h
    rw [r5 70 n (Nat.le_of_ble_eq_true hn)]
    rfl
   ·cases h
  ·rename_i n
   split at h
   ·rename_i hn
    simp only [Option.some.injEq,Prod.mk.injEq] at h
    obtain⟨rfl,rfl⟩:=h
    have:=CF (ρ:=ρ) .zero (o9 70 n)
    rw [r5 70 n (Nat.le_of_ble_eq_true hn)] at this
    show Int.negSucc n=_
    rw [show B.zero.not=B.one from rfl] at this
    rw [this]
    omega
   ·cases h
 ·cases h
theorem eW{α:Type}{Pr:α→Prop}{a b:X}{k:List B→B→List B→B→α}{d:α}(hd:Pr d) (hk:∀ l t m u,a.den ρ=ar ρ l t→b.den ρ=ar ρ m u→Pr (k l t m u)):Pr (qY a b k d):=by
 have h:Pr (match toB a with
   | none=>d
   | some (l,t)=>match toB b with
    | none=>d
    | some (m,u)=>k l t m u):=by
  split
  ·exact hd
  ·rename_i l t ha
   split
   ·exact hd
   ·rename_i m u hb
    exact hk _ _ _ _ (OI ha) (OI hb)
 unfold qY
 split
 ·exact hd
 ·exact h
theorem wi{k:IntKind}{d:X} {o:Option (List B×B)} {n:Int} (hd:d.den ρ=k.wrap n) (h:∀ r s,o=some (r,s)→k.wrap (ar ρ r s)=k.wrap n):(Au k d o).den ρ=k.wrap n:=by
 unfold Au
 split
 ·rw [jV]
  exact h _ _ rfl
 ·exact hd
theorem ss(l:List B)(t:B):∀ n,ar ρ (wM n l) t=ar ρ l t*2 ^ n
 | 0=>by simp [wM]
 | n+1=>by
  rw [wM,aB,ss l t n,Int.pow_succ,show B.zero.den ρ=false from rfl,show a7 false=0 from rfl,Int.zero_add,←Int.mul_assoc,Int.mul_comm 2,Int.mul_assoc,Int.mul_comm 2 (2 ^ n)]
theorem u9(t:B):∀ (n:Nat) (l:List B),ar ρ (y4 n l) t=ar ρ l t / 2 ^ n
 | 0,l=>by simp [y4]
 | n+1,[]=>by
  have h1:(0:Int)<2 ^ (n+1):=Int.pow_pos (by omega)
  rw [y4,a8]
  cases t.den ρ with
  | false=>simp [a7]
  | true=>
   show (-1:Int)=(-1) / 2 ^ (n+1)
   exact (Int.ediv_eq_neg_one_of_neg_of_le (by omega) (by omega)).symm
 | n+1,b::l=>by
  rw [y4,u9 t n l,aB,show (2:Int) ^ (n+1)=2*2 ^ n from by rw [Int.pow_succ];omega,←Int.ediv_ediv_of_nonneg (by omega)]
  congr 1
  rcases lR (b.den ρ) with h | h<;>omega
theorem yr{n s:Nat}(h:PW n=some s):n=2 ^ s:=by
 unfold PW at h
 split at h
 ·rename_i hb
  split at h
  ·obtain rfl:=Option.some.inj h
   exact (Nat.eq_of_beq_eq_true hb).symm
  ·cases h
 ·cases h
theorem eG:∀ l:List B,0≤ar ρ l .zero
 | []=>by simp [ar,B.den,a7]
 | b::l=>by
  have:=eG l
  rw [aB]
  rcases lR (b.den ρ) with h | h<;>omega
theorem qZ:∀ l:List B,ar ρ l .one<0
 | []=>by simp [ar,B.den,a7]
 | b::l=>by
  have:=qZ l
  rw [aB]
  rcases lR (b.den ρ) with h | h<;>omega
theorem sF{x y s:B}{c d:Bool} (h:OO x y c=some (s,d)):a7 (x.den ρ)+a7 (y.den ρ)+a7 c=a7 (s.den ρ)+2*a7 d:=by
 unfold OO at h
 split at h
 ·split at h
  ·simp only [Option.some.injEq,Prod.mk.injEq] at h
   obtain⟨rfl,rfl⟩:=h
   simp [B.den,a7]
  ·split at h
   ·simp only [Option.some.injEq,Prod.mk.injEq] at h
    obtain⟨rfl,rfl⟩:=h
    simp [B.den,a7]
   ·split at h
    ·simp only [Option.some.injEq,Prod.mk.injEq] at h
     obtain⟨rfl,rfl⟩:=h
     simp [B.den,a7]
    ·cases h
 ·split at h
  ·simp only [Option.some.injEq,Prod.mk.injEq] at h
   obtain⟨rfl,rfl⟩:=h
   simp [B.den,a7]
   omega
  ·split at h
   ·simp only [Option.some.injEq,Prod.mk.injEq] at h
    obtain⟨rfl,rfl⟩:=h
    simp [B.den,a7]
    omega
   ·split at h
    ·simp only [Option.some.injEq,Prod.mk.injEq] at h
     obtain⟨rfl,rfl⟩:=h
     simp [B.den,a7]
    ·cases h
theorem K7{t u s:B}{r:List B}{c:Bool} (h:K6 t u c=some (r,s)):-a7 (t.den ρ) + -a7 (u.den ρ)+a7 c=ar ρ r s:=by
 unfold K6 at h
 split at h
 ·rename_i s' d hs
  have:=sF (ρ:=ρ) hs
  split at h
  ·simp only [Option.some.injEq,Prod.mk.injEq] at h
   obtain⟨rfl,rfl⟩:=h
   rw [a8]
   simp only [a7,if_true] at this ⊢
   omega
  ·simp only [Option.some.injEq,Prod.mk.injEq] at h
   obtain⟨rfl,rfl⟩:=h
   rw [a8]
   simp only [a7,Bool.false_eq_true,if_false] at this ⊢
   omega
  ·cases h
 ·cases h
theorem mh{b:B} {o:Option (List B×B)} {r:List B} {s:B} (h:nX (some b) o=some (r,s)):∃ l,o=some (l,s)∧r=b::l:=by
 unfold nX at h
 dsimp only at h
 split at h
 ·cases h
 ·simp only [Option.some.injEq,Prod.mk.injEq] at h
  obtain⟨rfl,rfl⟩:=h
  exact⟨_,rfl,rfl⟩
theorem FP{t:B}:∀ {m:List B} {u:B} {c:Bool} {r:List B} {s:B},QY t m u c=some (r,s)→-a7 (t.den ρ)+ar ρ m u+a7 c=ar ρ r s
 | [],u,c,r,s,h=>K7 (by unfold QY at h;exact h)
 | y::m,u,c,r,s,h=>by
  unfold QY at h
  split at h
  ·rename_i s' d hs
   obtain⟨l',h1,rfl⟩:=mh h
   have:=sF (ρ:=ρ) hs
   have ih:=FP h1
   rw [aB,aB,←ih]
   omega
  ·cases h
theorem oe:∀ {l:List B} {t:B} {m:List B} {u:B} {c:Bool} {r:List B} {s:B},Dt l t m u c=some (r,s)→ar ρ l t+ar ρ m u+a7 c=ar ρ r s
 | [],t,m,u,c,r,s,h=>FP (by unfold Dt at h;exact h)
 | x::l,t,[],u,c,r,s,h=>by
  unfold Dt at h
  dsimp only at h
  split at h
  ·rename_i s' d hs
   obtain⟨l',h1,rfl⟩:=mh h
   have:=sF (ρ:=ρ) hs
   have ih:=oe h1
   rw [a8] at ih
   rw [aB,aB,a8,←ih]
   omega
  ·cases h
 | x::l,t,y::m,u,c,r,s,h=>by
  unfold Dt at h
  dsimp only at h
  split at h
  ·rename_i s' d hs
   obtain⟨l',h1,rfl⟩:=mh h
   have:=sF (ρ:=ρ) hs
   have ih:=oe h1
   rw [aB,aB,aB,←ih]
   omega
  ·cases h
theorem B.yC{a b c:B}(h:B.sub a b=some c):a7 (a.den ρ)-a7 (b.den ρ)=a7 (c.den ρ):=by
 unfold B.sub at h
 split at h
 ·obtain rfl:=Option.some.inj h
  simp [B.den,a7]
 ·split at h
  ·obtain rfl:=Option.some.inj h
   rw [B.fM,show B.one.den ρ=true from rfl]
   cases b.den ρ<;>rfl
  ·split at h
   ·rename_i hb
    obtain rfl:=Option.some.inj h
    rw [B.beq_eq hb]
    simp [B.den,a7]
   ·cases h
theorem ox{b:Option B} {o:Option (List B×B)} {r:List B} {s:B} (h:nX b o=some (r,s)):∃ c l,b=some c∧o=some (l,s)∧r=c::l:=by
 cases b with
 | none=>cases h
 | some c=>
  obtain⟨l,h1,h2⟩:=mh h
  exact⟨c,l,rfl,h1,h2⟩
theorem KM{t:B}:∀ {m:List B} {u:B} {r:List B} {s:B},Kh B.sub t m u=some (r,s)→-a7 (t.den ρ)-ar ρ m u=ar ρ r s
 | [],u,r,s,h=>by
  unfold Kh at h
  split at h
  ·rename_i c hc
   simp only [Option.some.injEq,Prod.mk.injEq] at h
   obtain⟨rfl,rfl⟩:=h
   have:=B.yC (ρ:=ρ) hc
   rw [a8,a8]
   omega
  ·cases h
 | y::m,u,r,s,h=>by
  unfold Kh at h
  obtain⟨c,l,h1,h2,rfl⟩:=ox h
  have:=B.yC (ρ:=ρ) h1
  have ih:=KM h2
  rw [aB,aB,←ih]
  omega
theorem A0:∀ {l:List B} {t:B} {m:List B} {u:B} {r:List B} {s:B},pN B.sub l t m u=some (r,s)→ar ρ l t-ar ρ m u=ar ρ r s
 | [],t,m,u,r,s,h=>KM (by unfold pN at h;exact h)
 | x::l,t,[],u,r,s,h=>by
  unfold pN at h
  obtain⟨c,l',h1,h2,rfl⟩:=ox h
  have:=B.yC (ρ:=ρ) h1
  have ih:=A0 h2
  rw [a8] at ih
  rw [aB,aB,a8,←ih]
  omega
 | x::l,t,y::m,u,r,s,h=>by
  unfold pN at h
  obtain⟨c,l',h1,h2,rfl⟩:=ox h
  have:=B.yC (ρ:=ρ) h1
  have ih:=A0 h2
  rw [aB,aB,aB,←ih]
  omega
theorem bU{m v:Nat}:bg ρ m v=true↔∀ i,m.testBit i=true→ρ.b i=v.testBit i:=by
 unfold bg
 rw [List.all_eq_true]
 constructor
 ·intro h i hi
  have hlt:i<m.log2+1:=by
   rcases Nat.lt_or_ge i (m.log2+1) with h1 | h1
   ·exact h1
   ·have h2:m<2 ^ i:=Nat.lt_of_lt_of_le Nat.lt_log2_self (Nat.pow_le_pow_right (by omega) h1)
    rw [Nat.testBit_lt_two_pow h2] at hi
    cases hi
  have:=h i (List.mem_range.2 hlt)
  simpa [hi] using this
 ·intro h i _
  cases hi:m.testBit i with
  | false=>simp
  | true=>simp [h i hi]
def Q.is(ρ:Env):Q→Prop
 | .ff=>False
 | .c m v=>bg ρ m v=true
 | .bad=>False
theorem mj{i j:Nat}{b:Bool}:(mV i b).testBit j=(b&&decide (i=j)):=by
 cases b<;>simp [mV,Nat.testBit_two_pow]
theorem Xs{m i j:Nat}:(m ||| 2 ^ i).testBit j=(m.testBit j || decide (i=j)):=by
 rw [Nat.testBit_or,Nat.testBit_two_pow]
theorem Q.nS{q:Q}{i:Nat}{b:Bool}(hq:q≠.bad)(hv:∀ m v,q=.c m v→∀ j,v.testBit j=true→m.testBit j=true):
  (q.with i b)≠.bad∧((q.with i b).is ρ↔q.is ρ∧ρ.b i=b)∧∀ m v,q.with i b=.c m v→∀ j,v.testBit j=true→m.testBit j=true:=by
 cases q with
 | ff=>simp [Q.with,Q.is]
 | bad=>exact absurd rfl hq
 | c m v=>
  have hv':=hv m v rfl
  unfold Q.with
  dsimp only
  cases hm:m.testBit i with
  | true=>
   dsimp only
   have hc:Q.is ρ (.c m v)→ρ.b i=v.testBit i:=fun h=>bU.1 h i hm
   cases hvi:v.testBit i<;>cases b<;>dsimp only<;>rw [hvi] at hc
   ·exact⟨by simp,⟨fun h=>⟨h,hc h⟩,fun h=>h.1⟩,fun m' v' e=>hv m' v' e⟩
   ·exact⟨by simp,⟨fun h=>h.elim,fun h=>by have h1:=hc h.1;have h2:=h.2;rw [h1] at h2;cases h2⟩,fun m' v' e=>by cases e⟩
   ·exact⟨by simp,⟨fun h=>h.elim,fun h=>by have h1:=hc h.1;have h2:=h.2;rw [h1] at h2;cases h2⟩,fun m' v' e=>by cases e⟩
   ·exact⟨by simp,⟨fun h=>⟨h,hc h⟩,fun h=>h.1⟩,fun m' v' e=>hv m' v' e⟩
  | false=>
   dsimp only
   have hvi:v.testBit i=false:=by
    cases h:v.testBit i with
    | false=>rfl
    | true=>rw [hv' i h] at hm;cases hm
   have e1:∀ j,(m ||| 2 ^ i).testBit j=(m.testBit j || decide (i=j)):=fun j=>Xs
   have e2:∀ j,(v ||| mV i b).testBit j=(v.testBit j || (b&&decide (i=j))):=by
    intro j
    rw [Nat.testBit_or,mj]
   refine⟨by simp,?_,fun m' v' e j hj=>?_⟩
   ·simp only [Q.is,bU]
    constructor
    ·intro h
     refine⟨fun j hj=>?_,?_⟩
     ·have:=h j (by rw [e1,hj];rfl)
      rw [this,e2]
      by_cases hij:i=j
      ·subst hij;rw [hm] at hj;cases hj
      ·simp [hij]
     ·have:=h i (by rw [e1];simp)
      rw [this,e2,hvi]
      simp
    ·rintro ⟨h1,h2⟩ j hj
     rw [e1] at hj
     rw [e2]
     by_cases hij:i=j
     ·subst hij;rw [hvi,h2];simp
     ·simp only [hij,decide_false,Bool.or_false,Bool.and_false] at hj ⊢
      exact h1 j hj
   ·simp only [Q.c.injEq] at e
    obtain⟨rfl,rfl⟩:=e
    rw [e2] at hj
    rw [e1]
    by_cases hij:i=j
    ·simp [hij]
    ·simp only [hij,decide_false,Bool.and_false,Bool.or_false] at hj
     rw [hv' j hj];rfl
def Q.wf(q:Q):Prop:=∀ m v,q=.c m v→∀ j,v.testBit j=true→m.testBit j=true
theorem Q.Td{q:Q}{a b:B}(hw:q.wf)(h:q.Kz a b≠.bad)(hq:q≠.bad):((q.Kz a b).is ρ↔q.is ρ∧a.den ρ=b.den ρ)∧(q.Kz a b).wf:=by
 have W:=fun (i:Nat) (c:Bool)=>Q.nS (ρ:=ρ) (i:=i) (b:=c) hq hw
 cases a<;>cases b<;>simp only [Q.Kz,B.den] at h ⊢
 case zero.zero=>exact⟨by simp,hw⟩
 case one.one=>exact⟨by simp,hw⟩
 case zero.one=>exact⟨by simp [Q.is],fun m v e=>by cases e⟩
 case one.zero=>exact⟨by simp [Q.is],fun m v e=>by cases e⟩
 case zero.pos i=>exact⟨(W i false).2.1.trans (by cases ρ.b i<;>simp),(W i false).2.2⟩
 case zero.neg i=>exact⟨(W i true).2.1.trans (by cases ρ.b i<;>simp),(W i true).2.2⟩
 case one.pos i=>exact⟨(W i true).2.1.trans (by cases ρ.b i<;>simp),(W i true).2.2⟩
 case one.neg i=>exact⟨(W i false).2.1.trans (by cases ρ.b i<;>simp),(W i false).2.2⟩
 case pos.zero i=>exact⟨(W i false).2.1,(W i false).2.2⟩
 case pos.one i=>exact⟨(W i true).2.1,(W i true).2.2⟩
 case neg.zero i=>exact⟨(W i true).2.1.trans (by simp),(W i true).2.2⟩
 case neg.one i=>exact⟨(W i false).2.1.trans (by simp),(W i false).2.2⟩
 case pos.pos i j=>
  split at h
  ·rename_i hb
   rw [Nat.eq_of_beq_eq_true hb]
   exact⟨by simp,hw⟩
  ·exact absurd rfl h
 case neg.neg i j=>
  split at h
  ·rename_i hb
   rw [Nat.eq_of_beq_eq_true hb]
   exact⟨by simp,hw⟩
  ·exact absurd rfl h
 case pos.neg i j=>
  split at h
  ·rename_i hb
   rw [Nat.eq_of_beq_eq_true hb]
   exact⟨by simp [Q.is],fun m v e=>by cases e⟩
  ·exact absurd rfl h
 case neg.pos i j=>
  split at h
  ·rename_i hb
   rw [Nat.eq_of_beq_eq_true hb]
   exact⟨by simp [Q.is],fun m v e=>by cases e⟩
  ·exact absurd rfl h
theorem Q.yy{q:Q}{a b:B}(hw:q.wf)(h:q.same a b≠.bad):((q.same a b).is ρ↔q.is ρ∧a.den ρ=b.den ρ)∧(q.same a b).wf:=by
 unfold Q.same at h ⊢
 split at h
 ·exact⟨by simp [Q.is],hw⟩
 ·exact absurd rfl h
 ·exact Q.Td hw h (by simp)
theorem uY{a b:Bool}{x y:Int}:(a7 a+2*x=a7 b+2*y)↔(a=b∧x=y):=by
 constructor
 ·intro h
  cases a<;>cases b<;>simp [a7] at h ⊢<;>omega
 ·rintro ⟨rfl,rfl⟩;rfl
theorem wQ(t b:B)(l:List B)(u:B):(ar ρ [] t=ar ρ (b::l) u)↔(t.den ρ=b.den ρ∧ar ρ [] t=ar ρ l u):=by
 have e:ar ρ [] t=a7 (t.den ρ)+2*ar ρ [] t:=by rw [a8];omega
 rw [aB]
 constructor
 ·intro h
  rw [e] at h
  exact uY.1 h
 ·intro h
  rw [e]
  exact uY.2 h
theorem Q.af9{a b:B}:Q.same .bad a b=.bad:=rfl
theorem Rx{t:B}:∀ {m:List B} {u:B} {q:Q},q.wf→XZ t m u q≠.bad→((XZ t m u q).is ρ↔q.is ρ∧ar ρ [] t=ar ρ m u)
 | [],u,q,hw,h=>by
  unfold XZ at h ⊢
  rw [(Q.yy hw h).1,a8,a8]
  constructor
  ·rintro ⟨h1,h2⟩;exact⟨h1,by rw [h2]⟩
  ·rintro ⟨h1,h2⟩;exact⟨h1,XG (by omega)⟩
 | c::m,u,q,hw,h=>by
  unfold XZ at h ⊢
  split at h
  ·simp [Q.is]
  ·have hs:q.same t c≠.bad:=by
    intro hb
    rw [hb] at h
    have:∀ m:List B,XZ t m u .bad=.bad:=by
     intro m
     induction m with
     | nil=>rfl
     | cons c m ih=>unfold XZ;exact ih
    exact h (this m)
   obtain⟨h1,h2⟩:=Q.yy (ρ:=ρ) hw hs
   rw [Rx h2 h,h1,wQ,and_assoc]
theorem xh(u:B):∀ (l:List B) (t:B) (m:List B),Lj l t m u .bad=.bad
 | [],t,m=>by
  unfold Lj
  induction m with
  | nil=>rfl
  | cons c m ih=>unfold XZ;exact ih
 | b::l,t,[]=>by unfold Lj;exact xh u l t []
 | b::l,t,c::m=>by unfold Lj;exact xh u l t m
theorem Lk:∀ {l:List B} {t:B} {m:List B} {u:B} {q:Q},q.wf→Lj l t m u q≠.bad→((Lj l t m u q).is ρ↔q.is ρ∧ar ρ l t=ar ρ m u)
 | [],t,m,u,q,hw,h=>by
  unfold Lj at h ⊢
  exact Rx hw h
 | b::l,t,[],u,q,hw,h=>by
  unfold Lj at h ⊢
  split at h
  ·simp [Q.is]
  ·dsimp only at h ⊢
   have hs:q.same b u≠.bad:=by
    intro hb
    rw [hb,xh] at h
    exact h rfl
   obtain⟨h1,h2⟩:=Q.yy (ρ:=ρ) hw hs
   rw [Lk h2 h,h1,and_assoc,eq_comm (a:=ar ρ (b::l) t),wQ,eq_comm (a:=u.den ρ),eq_comm (a:=ar ρ [] u)]
 | b::l,t,c::m,u,q,hw,h=>by
  unfold Lj at h ⊢
  split at h
  ·simp [Q.is]
  ·dsimp only at h ⊢
   have hs:q.same b c≠.bad:=by
    intro hb
    rw [hb,xh] at h
    exact h rfl
   obtain⟨h1,h2⟩:=Q.yy (ρ:=ρ) hw hs
   rw [Lk h2 h,h1,aB,aB,uY,and_assoc]
theorem wf0:(Q.c 0 0).wf:=by
 intro m v e j hj
 simp only [Q.c.injEq] at e
 obtain⟨rfl,rfl⟩:=e
 exact hj
theorem is0:(Q.c 0 0).is ρ:=bU.2 fun i hi=>by simp at hi
theorem Ng{l:List B}{t:B}{m:List B}{u:B}{d:X} (hd:d.den ρ=a7 (ar ρ l t==ar ρ m u)):(NT d (Lj l t m u (.c 0 0))).den ρ=a7 (ar ρ l t==ar ρ m u):=by
 have key:=Lk (ρ:=ρ) (l:=l) (t:=t) (m:=m) (u:=u) wf0
 cases hq:Lj l t m u (.c 0 0) with
 | bad=>exact hd
 | ff=>
  rw [hq] at key
  have:=(key (by simp)).symm
  have hne:¬ar ρ l t=ar ρ m u:=fun e=>(this.1 ⟨is0,e⟩)
  simp [NT,X.den,hne,a7]
 | c m' v'=>
  rw [hq] at key
  have hk:=key (by simp)
  have hk':bg ρ m' v'=true↔ar ρ l t=ar ρ m u:=by
   refine Iff.trans (show bg ρ m' v'=true↔(Q.c m' v').is ρ from Iff.rfl) (hk.trans ?_)
   exact⟨fun h=>h.2,fun h=>⟨is0,h⟩⟩
  have e:bg ρ m' v'=(ar ρ l t==ar ρ m u):=by
   cases hc:bg ρ m' v' with
   | true=>rw [hk'.1 hc];simp
   | false=>
    have:¬ar ρ l t=ar ρ m u:=fun e=>by rw [hk'.2 e] at hc;cases hc
    simp [this]
  unfold NT
  dsimp only
  split
  ·rename_i hm
   have hm0:m'=0:=Nat.eq_of_beq_eq_true hm
   have:bg ρ m' v'=true:=bU.2 fun i hi=>by rw [hm0] at hi;simp at hi
   rw [←e,this]
   rfl
  ·rw [←e]
   rfl
theorem C5{m:Nat}(h:single m=true){j k:Nat}(hj:m.testBit j=true)(hk:m.testBit k=true):j=k:=by
 have e:=Nat.eq_of_beq_eq_true h
 have key:∀ (n m:Nat),m<2 ^ n→m &&& (m-1)=0→∀ j k,m.testBit j=true→m.testBit k=true→j=k:=by
  intro n
  induction n with
  | zero=>
   intro m hm _ j k hj
   have:m=0:=by simpa using hm
   subst this
   simp at hj
  | succ n ih=>
   intro m hm he j k hj hk
   rcases Nat.mod_two_eq_zero_or_one m with h0 | h1
   ·-- the lowest bit is none
    have hj0:j≠0:=fun e=>by subst e;rw [Nat.testBit_zero] at hj;simp [h0] at hj
    have hk0:k≠0:=fun e=>by subst e;rw [Nat.testBit_zero] at hk;simp [h0] at hk
    obtain⟨j',rfl⟩:=Nat.exists_eq_succ_of_ne_zero hj0
    obtain⟨k',rfl⟩:=Nat.exists_eq_succ_of_ne_zero hk0
    rw [Nat.succ_eq_add_one,Nat.testBit_succ] at hj hk
    have h2:(m / 2) &&& (m / 2-1)=0:=by
     have h3:((m &&& (m-1)) / 2)=(m / 2) &&& ((m-1) / 2):=by
      apply Nat.eq_of_testBit_eq
      intro i
      rw [←Nat.testBit_succ,Nat.testBit_and,Nat.testBit_and,Nat.testBit_succ,Nat.testBit_succ]
     rw [he] at h3
     have hm0:m≠0:=fun e=>by subst e;simp at hj
     have h4:(m-1) / 2=m / 2-1:=by omega
     rw [h4] at h3
     simpa using h3.symm
    have:=ih (m / 2) (by rw [Nat.pow_succ] at hm;omega) h2 j' k' hj hk
    omega
   ·-- the lowest bit is one: then it is all
    have h2:m / 2=0:=by
     have h3:((m &&& (m-1)) / 2)=(m / 2) &&& ((m-1) / 2):=by
      apply Nat.eq_of_testBit_eq
      intro i
      rw [←Nat.testBit_succ,Nat.testBit_and,Nat.testBit_and,Nat.testBit_succ,Nat.testBit_succ]
     rw [he] at h3
     have h4:(m-1) / 2=m / 2:=by omega
     rw [h4,Nat.and_self] at h3
     simpa using h3.symm
    have hm1:m=1:=by omega
    subst hm1
    have f:∀ i,(1:Nat).testBit i=true→i=0:=by
     intro i hi
     have:(2 ^ 0:Nat).testBit i=true:=hi
     rw [Nat.testBit_two_pow] at this
     exact (by simpa using this:0=i).symm
    rw [f j hj,f k hk]
 exact key (m+1) m (Nat.lt_trans (Nat.lt_succ_self m) Nat.lt_two_pow_self) e j k hj hk
theorem Gz{m v v':Nat}(h:B9 m v=some v')(hw:∀ j,v.testBit j=true→m.testBit j=true):(bg ρ m v'=true↔¬bg ρ m v=true)∧∀ j,v'.testBit j=true→m.testBit j=true:=by
 unfold B9 at h
 split at h
 ·cases h
 ·rename_i h0
  split at h
  ·rename_i hs
   obtain rfl:=Option.some.inj h
   have hm0:m≠0:=Nat.ne_of_beq_eq_false h0
   obtain⟨j,hj⟩:=Nat.exists_testBit_of_ne_zero hm0
   have hone:∀ k,m.testBit k=true→k=j:=fun k hk=>C5 hs hk hj
   have e1:bg ρ m v=true↔ρ.b j=v.testBit j:=by
    rw [bU]
    exact⟨fun h=>h j hj,fun h k hk=>by rw [hone k hk];exact h⟩
   have e2:bg ρ m (m ^^^ v)=true↔ρ.b j=!v.testBit j:=by
    rw [bU]
    have:(m ^^^ v).testBit j=!v.testBit j:=by rw [Nat.testBit_xor,hj];simp
    exact⟨fun h=>by rw [h j hj,this],fun h k hk=>by rw [hone k hk,h,this]⟩
   refine⟨?_,fun k hk=>?_⟩
   ·rw [e1,e2]
    cases ρ.b j<;>cases v.testBit j<;>simp
   ·rw [Nat.testBit_xor] at hk
    cases hmk:m.testBit k with
    | true=>rfl
    | false=>
     rw [hmk] at hk
     have:=hw k (by simpa using hk)
     rw [hmk] at this
     exact this
  ·cases h
def G.is(ρ:Env):G→Prop
 | .tt=>True
 | .ff=>False
 | .c m v=>bg ρ m v=true
 | .n m v=>¬bg ρ m v=true
 | .bad=>False
def G.wf:G→Prop
 | .c m v=>∀ j,v.testBit j=true→m.testBit j=true
 | .n m v=>∀ j,v.testBit j=true→m.testBit j=true
 | _=>True
theorem Gc{i:Nat}{b:Bool}:bg ρ (2 ^ i) (mV i b)=true↔ρ.b i=b:=by
 rw [bU]
 constructor
 ·intro h
  have:=h i (by simp)
  rw [this,mj]
  simp
 ·intro h j hj
  rw [Nat.testBit_two_pow] at hj
  have:i=j:=by simpa using hj
  subst this
  rw [h,mj]
  simp
theorem wf1{i:Nat}{b:Bool}:∀ j,(mV i b).testBit j=true→(2 ^ i).testBit j=true:=by
 intro j hj
 rw [mj] at hj
 rw [Nat.testBit_two_pow]
 cases b<;>simp at hj ⊢
 exact hj
theorem Q.Y9{m v:Nat}(h:∀ j,v.testBit j=true→m.testBit j=true):(Q.c m v).wf:=by
 intro m' v' e
 simp only [Q.c.injEq] at e
 obtain⟨rfl,rfl⟩:=e
 exact h
theorem G.Nz{r1 r0:G}{i:Nat}{b:Bool}(w1:r1.wf)(w0:r0.wf)(h1:r1≠.bad)(h0:r0≠.bad)(hm:r0.is ρ→r1.is ρ)(h:G.join r1 r0 i b≠.bad):
  ((G.join r1 r0 i b).is ρ↔if ρ.b i=b then r1.is ρ else r0.is ρ)∧(G.join r1 r0 i b).wf:=by
 cases r1 with
 | bad=>exact absurd rfl h1
 | ff=>
  refine⟨?_,trivial⟩
  have h2:¬r0.is ρ:=fun h=>hm h
  show False↔if ρ.b i=b then False else r0.is ρ
  by_cases hb:ρ.b i=b
  ·simp [hb]
  ·simp [hb,h2]
 | tt=>
  cases r0 with
  | bad=>exact absurd rfl h0
  | tt=>exact⟨by simp [G.join,G.is],trivial⟩
  | ff=>
   refine⟨?_,wf1⟩
   show bg ρ (2 ^ i) (mV i b)=true↔_
   rw [Gc]
   simp [G.is]
  | c m v=>
   unfold G.join at h ⊢
   dsimp only at h ⊢
   cases hf:B9 m v with
   | none=>rw [hf] at h;exact absurd rfl h
   | some v'=>
    rw [hf] at h
    dsimp only at h ⊢
    obtain⟨f1,f2⟩:=Gz (ρ:=ρ) hf w0
    have W:=Q.nS (ρ:=ρ) (q:=.c m v') (i:=i) (b:=!b) (by simp) (Q.Y9 f2)
    have hne:(ρ.b i=!b)↔¬ρ.b i=b:=by cases ρ.b i<;>cases b<;>simp
    split at h
    ·rename_i hq
     rw [hq] at W
     refine⟨?_,trivial⟩
     have:=W.2.1
     simp only [Q.is,false_iff,not_and,f1] at this
     by_cases hb:ρ.b i=b
     ·simp [hb,G.is]
     ·simp only [hb,if_false,G.is,true_iff]
      cases hc:bg ρ m v with
      | true=>rfl
      | false=>exact absurd (hne.2 hb) (this (by simp [hc]))
    ·rename_i m' v'' hq
     rw [hq] at W
     refine⟨?_,W.2.2 m' v'' rfl⟩
     have:=W.2.1
     simp only [G.is]
     rw [show (bg ρ m' v''=true)↔_ from this]
     simp only [Q.is,hne,f1]
     by_cases hb:ρ.b i=b
     ·simp [hb]
     ·simp [hb]
    ·exact absurd rfl h
  | n m v=>
   have W:=Q.nS (ρ:=ρ) (q:=.c m v) (i:=i) (b:=!b) (by simp) (Q.Y9 w0)
   unfold G.join at h ⊢
   dsimp only at h ⊢
   have hne:(ρ.b i=!b)↔¬ρ.b i=b:=by cases ρ.b i<;>cases b<;>simp
   split at h
   ·rename_i hq
    rw [hq] at W
    refine⟨?_,trivial⟩
    have:=W.2.1
    simp only [Q.is,false_iff,not_and] at this
    by_cases hb:ρ.b i=b
    ·simp [hb,G.is]
    ·simp only [hb,if_false,G.is,true_iff]
     exact fun hc=>this hc (hne.2 hb)
   ·rename_i m' v' hq
    rw [hq] at W
    refine⟨?_,W.2.2 m' v' rfl⟩
    have:=W.2.1
    simp only [G.is]
    rw [show (bg ρ m' v'=true)↔_ from this]
    simp only [Q.is,hne]
    by_cases hb:ρ.b i=b
    ·simp [hb]
    ·simp [hb]
   ·exact absurd rfl h
 | c m v=>
  cases r0 with
  | bad=>exact absurd rfl h0
  | tt=>
   refine⟨?_,trivial⟩
   have:=hm trivial
   simp only [G.join,G.is] at this ⊢
   simp [this]
  | ff=>
   have W:=Q.nS (ρ:=ρ) (q:=.c m v) (i:=i) (b:=b) (by simp) (Q.Y9 w1)
   unfold G.join at h ⊢
   dsimp only at h ⊢
   cases hq:(Q.c m v).with i b with
   | bad=>exact absurd hq W.1
   | ff=>
    rw [hq] at W
    refine⟨?_,trivial⟩
    have:=W.2.1
    simp only [Q.is,false_iff,not_and] at this
    simp only [G.NT,G.is,false_iff]
    by_cases hb:ρ.b i=b
    ·simp only [hb,if_true]
     exact fun hc=>this hc hb
    ·simp [hb]
   | c m' v'=>
    rw [hq] at W
    refine⟨?_,W.2.2 m' v' rfl⟩
    have:=W.2.1
    simp only [G.NT,G.is]
    rw [show (bg ρ m' v'=true)↔_ from this]
    simp only [Q.is]
    by_cases hb:ρ.b i=b
    ·simp [hb]
    ·simp [hb]
  | c m' v'=>
   unfold G.join at h ⊢
   dsimp only at h ⊢
   split at h
   ·rename_i ha hb
    rw [Nat.eq_of_beq_eq_true ha,Nat.eq_of_beq_eq_true hb]
    exact⟨by simp,w0⟩
   ·exact absurd rfl h
  | n m' v'=>exact absurd rfl h
 | n m v=>
  cases r0 with
  | bad=>exact absurd rfl h0
  | tt=>
   refine⟨?_,trivial⟩
   have:=hm trivial
   simp only [G.join,G.is] at this ⊢
   simp [this]
  | ff=>
   unfold G.join at h ⊢
   dsimp only at h ⊢
   cases hf:B9 m v with
   | none=>rw [hf] at h;exact absurd rfl h
   | some v'=>
    rw [hf] at h
    dsimp only at h ⊢
    obtain⟨f1,f2⟩:=Gz (ρ:=ρ) hf w1
    have W:=Q.nS (ρ:=ρ) (q:=.c m v') (i:=i) (b:=b) (by simp) (Q.Y9 f2)
    cases hq:(Q.c m v').with i b with
    | bad=>exact absurd hq W.1
    | ff=>
     rw [hq] at W
     refine⟨?_,trivial⟩
     have:=W.2.1
     simp only [Q.is,false_iff,not_and,f1] at this
     simp only [G.NT,G.is,false_iff]
     by_cases hb:ρ.b i=b
     ·simp only [hb,if_true]
      exact fun hc=>this hc hb
     ·simp [hb]
    | c m' v''=>
     rw [hq] at W
     refine⟨?_,W.2.2 m' v'' rfl⟩
     have:=W.2.1
     simp only [G.NT,G.is]
     rw [show (bg ρ m' v''=true)↔_ from this]
     simp only [Q.is,f1]
     by_cases hb:ρ.b i=b
     ·simp [hb]
     ·simp [hb]
  | c m' v'=>exact absurd rfl h
  | n m' v'=>
   unfold G.join at h ⊢
   dsimp only at h ⊢
   split at h
   ·rename_i ha hb
    rw [Nat.eq_of_beq_eq_true ha,Nat.eq_of_beq_eq_true hb]
    exact⟨by simp,w0⟩
   ·exact absurd rfl h
theorem G.Cq{r0:G}{i:Nat}{b:Bool}:G.join .bad r0 i b=.bad:=rfl
theorem G.Co{r1:G}{i:Nat}{b:Bool}(h:G.join r1 .bad i b≠.bad):r1=.ff:=by
 cases r1<;>first | rfl | exact absurd rfl h
theorem jm{t:B}:∀ {l:List B} {c:Int},Br t l c≠.bad→((Br t l c).is ρ↔c≤ar ρ l t)∧(Br t l c).wf
 | [],c,h=>by
  unfold Br at h ⊢
  rw [a8]
  cases h1:decide (c≤-1) with
  | true=>
   have:=of_decide_eq_true h1
   refine⟨⟨fun _=>?_,fun _=>trivial⟩,trivial⟩
   rcases lR (t.den ρ) with h | h<;>omega
  | false=>
   have h1':=of_decide_eq_false h1
   dsimp only
   cases h2:decide (1≤c) with
   | true=>
    have:=of_decide_eq_true h2
    refine⟨⟨fun h=>h.elim,fun h=>?_⟩,trivial⟩
    exfalso
    rcases lR (t.den ρ) with h' | h'<;>omega
   | false=>
    have h2':=of_decide_eq_false h2
    have hc:c=0:=by omega
    subst hc
    dsimp only
    cases t with
    | zero=>simp [G.is,G.wf,B.den,a7]
    | one=>simp [G.is,G.wf,B.den,a7]
    | pos i=>
     refine⟨?_,fun j hj=>by simp at hj⟩
     show bg ρ (2 ^ i) 0=true↔_
     rw [show (0:Nat)=mV i false from rfl,Gc,show (B.pos i).den ρ=ρ.b i from rfl]
     cases ρ.b i<;>simp [a7]
    | neg i=>
     refine⟨?_,fun j hj=>hj⟩
     show bg ρ (2 ^ i) (2 ^ i)=true↔_
     rw [show bg ρ (2 ^ i) (2 ^ i)=bg ρ (2 ^ i) (mV i true) from rfl,Gc,show (B.neg i).den ρ=!ρ.b i from rfl]
     cases ρ.b i<;>simp [a7]
 | b::l,c,h=>by
  unfold Br at h ⊢
  rw [aB]
  have step1:∀ x:Int,(c / 2≤x↔c≤1+2*x):=fun x=>by omega
  have step0:∀ x:Int,((c+1) / 2≤x↔c≤0+2*x):=fun x=>by omega
  cases b with
  | zero=>
   dsimp only at h ⊢
   obtain⟨h1,h2⟩:=jm h
   exact⟨h1.trans (step0 _),h2⟩
  | one=>
   dsimp only at h ⊢
   obtain⟨h1,h2⟩:=jm h
   exact⟨h1.trans (step1 _),h2⟩
  | pos i=>
   dsimp only at h ⊢
   have hd:(B.pos i).den ρ=ρ.b i:=rfl
   rw [hd]
   cases he:aQ ((c+1) / 2) (c / 2) with
   | true=>
    have he':=bu he
    rw [he] at h
    dsimp only at h ⊢
    obtain⟨h1,h2⟩:=jm h
    refine⟨h1.trans ?_,h2⟩
    cases ρ.b i with
    | true=>exact step1 _
    | false=>rw [←he'];exact step0 _
   | false=>
    rw [he] at h
    dsimp only at h ⊢
    have n1:Br t l (c / 2)≠.bad:=fun e=>by rw [e,G.Cq] at h;exact h rfl
    obtain⟨h1,w1⟩:=jm n1
    by_cases n0:Br t l ((c+1) / 2)=.bad
    ·rw [n0] at h ⊢
     have:=G.Co h
     rw [this] at h1 ⊢
     refine⟨⟨fun h=>h.elim,fun h=>?_⟩,trivial⟩
     exact h1.2 (by cases hb:ρ.b i<;>simp [hb,a7] at h<;>omega)
    ·obtain⟨h0,w0⟩:=jm n0
     obtain⟨h2,h3⟩:=G.Nz (ρ:=ρ) w1 w0 n1 n0 (fun h=>h1.2 (by have:=h0.1 h;omega)) h
     refine⟨h2.trans ?_,h3⟩
     cases ρ.b i with
     | true=>simp only [if_true];exact h1.trans (step1 _)
     | false=>simp only [Bool.false_eq_true,if_false];exact h0.trans (step0 _)
  | neg i=>
   dsimp only at h ⊢
   have hd:(B.neg i).den ρ=!ρ.b i:=rfl
   rw [hd]
   cases he:aQ ((c+1) / 2) (c / 2) with
   | true=>
    have he':=bu he
    rw [he] at h
    dsimp only at h ⊢
    obtain⟨h1,h2⟩:=jm h
    refine⟨h1.trans ?_,h2⟩
    cases ρ.b i with
    | false=>exact step1 _
    | true=>rw [←he'];exact step0 _
   | false=>
    rw [he] at h
    dsimp only at h ⊢
    have n1:Br t l (c / 2)≠.bad:=fun e=>by rw [e,G.Cq] at h;exact h rfl
    obtain⟨h1,w1⟩:=jm n1
    by_cases n0:Br t l ((c+1) / 2)=.bad
    ·rw [n0] at h ⊢
     have:=G.Co h
     rw [this] at h1 ⊢
     refine⟨⟨fun h=>h.elim,fun h=>?_⟩,trivial⟩
     exact h1.2 (by cases hb:ρ.b i<;>simp [hb,a7] at h<;>omega)
    ·obtain⟨h0,w0⟩:=jm n0
     obtain⟨h2,h3⟩:=G.Nz (ρ:=ρ) w1 w0 n1 n0 (fun h=>h1.2 (by have:=h0.1 h;omega)) h
     refine⟨h2.trans ?_,h3⟩
     cases ρ.b i with
     | false=>simp only [if_true];exact h1.trans (step1 _)
     | true=>simp only [Bool.true_eq_false,if_false];exact h0.trans (step0 _)
theorem NS{d:X}{g:G}{p:Prop} [Decidable p] (hd:d.den ρ=a7 (decide p)) (h:g≠.bad→(g.is ρ↔p)):(ofG d g).den ρ=a7 (decide p):=by
 cases g with
 | bad=>exact hd
 | tt=>have:=h (by simp);simp only [G.is,true_iff] at this;simp [ofG,X.den,this,a7]
 | ff=>have:=h (by simp);simp only [G.is,false_iff] at this;simp [ofG,X.den,this,a7]
 | c m v=>
  have:=h (by simp)
  simp only [G.is] at this
  simp only [ofG,X.den]
  congr 1
  cases hc:bg ρ m v with
  | true=>simp [this.1 hc]
  | false=>simp;exact fun hp=>by rw [this.2 hp] at hc;cases hc
 | n m v=>
  have:=h (by simp)
  simp only [G.is] at this
  simp only [ofG,X.den,BN]
  congr 1
  cases hc:bg ρ m v with
  | true=>simp;exact fun hp=>(this.2 hp) hc
  | false=>simp;exact this.1 (by simp [hc])
theorem Iw{d:X}{g:G}{p:Prop} [Decidable p] (hd:d.den ρ=a7 (decide p)) (h:g≠.bad→(g.is ρ↔¬p)):(Mf d g).den ρ=a7 (decide p):=by
 cases g with
 | bad=>exact hd
 | tt=>have:=h (by simp);simp only [G.is,true_iff] at this;simp [Mf,X.den,this,a7]
 | ff=>have:=h (by simp);simp only [G.is,false_iff,Decidable.not_not] at this;simp [Mf,X.den,this,a7]
 | c m v=>
  have:=h (by simp)
  simp only [G.is] at this
  simp only [Mf,X.den,BN]
  congr 1
  cases hc:bg ρ m v with
  | true=>simp;exact this.1 hc
  | false=>simp;exact Decidable.not_not.1 fun hp=>by rw [this.2 hp] at hc;cases hc
 | n m v=>
  have:=h (by simp)
  simp only [G.is] at this
  simp only [Mf,X.den]
  congr 1
  cases hc:bg ρ m v with
  | true=>simp;exact Decidable.not_not.1 fun hp=>(this.2 hp) hc
  | false=>simp;exact this.1 (by simp [hc])
theorem rT:∀ {pc:List (X×Bool)},(∀ f∈pc,f.1.tt ρ=f.2)→∀ i,(iF pc).1.testBit i=true→ρ.b i=(iF pc).2.testBit i
 | [],_,i,h=>by simp [iF] at h
 | (x,b)::pc,hp,i,h=>by
  have ih:=rT (pc:=pc) fun f hf=>hp f (List.mem_cons_of_mem _ hf)
  have hx:=hp (x,b) (List.mem_cons_self ..)
  have mix:∀ (M V m v:Nat),(∀ i,M.testBit i=true→ρ.b i=V.testBit i)→(∀ i,m.testBit i=true→ρ.b i=v.testBit i)→∀ i,(M ||| m).testBit i=true→ρ.b i=((V &&& (M ^^^ (M &&& m))) ||| (v &&& m)).testBit i:=by
   intro M V m v hM hm i hi
   simp only [Nat.testBit_or,Nat.testBit_and,Nat.testBit_xor] at hi ⊢
   cases hmi:m.testBit i with
   | true=>rw [hm i hmi];cases M.testBit i<;>simp
   | false=>
    rw [hmi,Bool.or_false] at hi
    rw [hM i hi,hi]
    simp
  unfold iF at h ⊢
  split at h
  ·rename_i m v
   split at h
   ·have hm:bg ρ m v=true:=by
     have:(X.cube m v).tt ρ=true:=hx
     unfold X.tt X.den at this
     cases hc:bg ρ m v with
     | true=>rfl
     | false=>rw [hc] at this;simp [a7] at this
    exact mix _ _ _ _ ih (bU.1 hm) i h
   ·split at h
    ·rename_i hs
     have hm:bg ρ m v=false:=by
      have:(X.cube m v).tt ρ=false:=hx
      unfold X.tt X.den at this
      cases hc:bg ρ m v with
      | false=>rfl
      | true=>rw [hc] at this;simp [a7] at this
     have hone:∀ j,m.testBit j=true→∀ k,m.testBit k=true→j=k:=by
      intro j hj k hk
      exact C5 hs hj hk
     refine mix _ _ _ _ ih (fun j hj=>?_) i h
     rw [Nat.testBit_xor,hj]
     cases hb:ρ.b j with
     | true=>
      cases hv:v.testBit j with
      | false=>rfl
      | true=>
       have:bg ρ m v=true:=bU.2 fun k hk=>by
        obtain rfl:=hone j hj k hk
        rw [hb,hv]
       rw [this] at hm;cases hm
     | false=>
      cases hv:v.testBit j with
      | true=>rfl
      | false=>
       have:bg ρ m v=true:=bU.2 fun k hk=>by
        obtain rfl:=hone j hj k hk
        rw [hb,hv]
       rw [this] at hm;cases hm
    ·exact ih i h
  ·exact ih i h
theorem ti{M V m v:Nat}(hk:∀ i,M.testBit i=true→ρ.b i=V.testBit i):∀ {pc:List (X×Bool)},(∀ f∈pc,f.1.tt ρ=f.2)→fZ M V m v pc=true→bg ρ m v=false
 | [],_,h=>by simp [fZ] at h
 | (x,b)::pc,hp,h=>by
  have ih:=ti (m:=m) (v:=v) hk (pc:=pc) fun f hf=>hp f (List.mem_cons_of_mem _ hf)
  have hx:=hp (x,b) (List.mem_cons_self ..)
  unfold fZ at h
  split at h
  ·rename_i m' v'
   split at h
   ·exact ih h
   ·split at h
    ·rename_i h0
     dsimp only at h
     split at h
     ·rename_i h1 h2
      have e0:=Nat.eq_of_beq_eq_true h0
      have e1:=Nat.eq_of_beq_eq_true h1
      have e2:=Nat.eq_of_beq_eq_true h2
      have hm:bg ρ m' v'=false:=by
       have:(X.cube m' v').tt ρ=false:=hx
       unfold X.tt X.den at this
       cases hc:bg ρ m' v' with
       | false=>rfl
       | true=>rw [hc] at this;simp [a7] at this
      cases hc:bg ρ m v with
      | false=>rfl
      | true=>
       have hc':=bU.1 hc
       have:bg ρ m' v'=true:=bU.2 fun i hi=>by
        have a0:=congrArg (fun x=>x.testBit i) e0
        have a1:=congrArg (fun x=>x.testBit i) e1
        have a2:=congrArg (fun x=>x.testBit i) e2
        simp only [Nat.testBit_and,Nat.testBit_xor,hi,Bool.true_and,Nat.zero_testBit] at a0 a1 a2
        cases hM:M.testBit i with
        | true=>
         rw [hM,Bool.true_and] at a0
         rw [hk i hM]
         revert a0
         cases v'.testBit i<;>cases V.testBit i<;>simp
        | false=>
         rw [hM] at a1 a2
         have hmi:m.testBit i=true:=by simpa using a1
         rw [hc' i hmi]
         simpa using a2
       rw [this] at hm;cases hm
     ·exact ih h
    ·exact ih h
  ·exact ih h
theorem Lf{m v:Nat} {pc:List (X×Bool)} {b:Bool} (hp:∀ f∈pc,f.1.tt ρ=f.2) (h:DR m v pc=some b):bg ρ m v=b:=by
 have hk:=rT hp
 unfold DR at h
 split at h
 rename_i M V hMV
 rw [hMV] at hk
 dsimp only at hk
 split at h
 ·rename_i hb
  obtain rfl:=Option.some.inj h
  cases hc:bg ρ m v with
  | false=>rfl
  | true=>
   have hne:=Nat.ne_of_beq_eq_false hb
   exfalso
   apply hne
   apply Nat.eq_of_testBit_eq
   intro i
   simp only [Nat.testBit_and,Nat.testBit_xor,Nat.zero_testBit]
   cases h1:m.testBit i with
   | false=>simp
   | true=>cases h2:M.testBit i with
    | false=>simp
    | true=>rw [←bU.1 hc i h1,hk i h2];simp
 ·rename_i hb0
  split at h
  ·rename_i hb1
   obtain rfl:=Option.some.inj h
   have e0:=Nat.eq_of_beq_eq_true hb0
   have e1:=Nat.eq_of_beq_eq_true hb1
   refine bU.2 fun i hi=>?_
   have a1:=congrArg (fun x=>x.testBit i) e1
   have a0:=congrArg (fun x=>x.testBit i) e0
   simp only [Nat.testBit_and,Nat.testBit_xor,hi,Bool.true_and,Nat.zero_testBit] at a1 a0
   rw [a1,Bool.true_and] at a0
   rw [hk i a1]
   revert a0
   cases v.testBit i<;>cases V.testBit i<;>simp
  ·split at h
   ·rename_i hf
    obtain rfl:=Option.some.inj h
    exact ti hk hp hf
   ·cases h
theorem AY{M V:Nat}(hk:∀ i,M.testBit i=true→ρ.b i=V.testBit i)(b:B):(gK M V b).den ρ=b.den ρ:=by
 unfold gK
 split
 ·rename_i i
  split
  ·rename_i hi
   split
   ·rename_i hv;simp only [B.den];rw [hk i hi,hv]
   ·rename_i hv;simp only [B.den];rw [hk i hi,hv]
  ·rfl
 ·rename_i i
  split
  ·rename_i hi
   split
   ·rename_i hv;simp only [B.den];rw [hk i hi,hv];rfl
   ·rename_i hv;simp only [B.den];rw [hk i hi,hv];rfl
  ·rfl
 ·rfl
theorem C2{M V:Nat}(hk:∀ i,M.testBit i=true→ρ.b i=V.testBit i)(t:B):∀ l:List B,ar ρ (KD M V l) (gK M V t)=ar ρ l t
 | []=>by rw [KD,a8,a8,AY hk]
 | b::l=>by rw [KD,aB,aB,AY hk,C2 hk t l]
theorem vj{x:X}{b:Bool}:∀ {pc:List (X×Bool)},(∀ f∈pc,f.1.tt ρ=f.2)→zn x pc=some b→x.tt ρ=b
 | [],_,h=>by simp [zn] at h
 | (y,c)::pc,hp,h=>by
  unfold zn at h
  split at h
  ·rename_i hb
   rw [←X.beq_eq hb,hp (y,c) (by simp)]
   exact Option.some.inj h
  ·exact vj (fun f hf=>hp f (by simp [hf])) h
theorem wG {pc:List (X×Bool)} (hp:∀ f∈pc,f.1.tt ρ=f.2) (x:X):(KE pc x).den ρ=x.den ρ:=by
 have hk:=rT hp
 unfold KE
 split
 ·split
  rename_i M V hMV
  rw [hMV] at hk
  split
  ·rfl
  ·rw [gA,C2 hk]
   rfl
 ·split
  ·rename_i hd
   have h:=vj hp hd
   simp only [X.tt,bne_iff_ne,ne_eq] at h
   rw [X.den.eq_16]
   simp [h]
  ·rename_i hd
   have h:=vj hp hd
   simp only [X.tt,bne_eq_false_iff_eq] at h
   rw [X.den.eq_16]
   simp [h]
  ·rfl
 ·rfl
end
end Go.Proofs.YtmickljjofbmiaaGreatDoor
namespace Go.Proofs.YtmickljjofbmiaaGreatDoor
open Go
theorem dd(b:Bool):(a7 b != 0)=b:=by cases b<;>rfl
theorem oq(b:Bool):(a7 b==0)=!b:=by cases b<;>rfl
theorem oo(b:Bool):0≤a7 b∧a7 b≤1:=by cases b<;>decide
theorem qP(k:IntKind)(n:Int):jT k≤k.wrap n∧k.wrap n≤kR k:=by
 unfold IntKind.wrap
 cases k<;>simp only [jT,kR,IntKind.bits,IntKind.signed,Bool.false_and,Bool.true_and,Bool.false_eq_true,if_false,decide_eq_true_eq,Int.reducePow,Nat.reduceSub,ge_iff_le]<;>first | omega | (split<;>omega)
theorem bn{k:IntKind}{n:Int}(h1:jT k≤n)(h2:n≤kR k):k.wrap n=n:=by
 unfold IntKind.wrap
 cases k<;>simp only [jT,kR,IntKind.bits,IntKind.signed,Bool.false_and,Bool.true_and,Bool.false_eq_true,if_false,decide_eq_true_eq,Int.reducePow,Nat.reduceSub,ge_iff_le] at *<;>first | omega | (split<;>omega)
theorem wrap_wrap(k:IntKind)(n:Int):k.wrap (k.wrap n)=k.wrap n:=bn (qP k n).1 (qP k n).2
theorem wrap_mul(k:IntKind)(a b:Int):k.wrap (k.wrap a*b)=k.wrap (a*b):=by
 have e:∀ m:Int,(2 ^ k.bits:Int) ∣ k.wrap m-m:=by
  intro m
  unfold IntKind.wrap
  have h:=Int.emod_add_mul_ediv m (2 ^ k.bits:Int)
  dsimp only
  split
  ·exact⟨-(m / 2 ^ k.bits)-1,by rw [Int.mul_sub,Int.mul_neg];omega⟩
  ·exact⟨-(m / 2 ^ k.bits),by rw [Int.mul_neg];omega⟩
 have key:∀ x y:Int,(2 ^ k.bits:Int) ∣ x-y→k.wrap x=k.wrap y:=by
  intro x y h
  have:x % (2 ^ k.bits:Int)=y % (2 ^ k.bits:Int):=by
   obtain⟨c,hc⟩:=h
   rw [show x=y+2 ^ k.bits*c by omega,Int.add_mul_emod_self_left]
  unfold IntKind.wrap
  rw [this]
 refine key _ _ ?_
 obtain⟨c,hc⟩:=e a
 exact⟨c*b,by rw [←Int.sub_mul,hc,Int.mul_assoc]⟩
theorem Ny(a b:Int):xL a b≤a∧xL a b≤b:=by
 unfold xL
 split
 ·rename_i h;have:=of_decide_eq_true h;omega
 ·rename_i h;have:=of_decide_eq_false h;omega
theorem Ev(a b:Int):a≤imax a b∧b≤imax a b:=by
 unfold imax
 split
 ·rename_i h;have:=of_decide_eq_true h;omega
 ·rename_i h;have:=of_decide_eq_false h;omega
theorem X8(a b:Int):xL a b=a∨xL a b=b:=by
 unfold xL
 split<;>simp
theorem sQ{ρ:Env}:∀ (l:List B) (t:B),-Int.ofNat (2 ^ l.length)≤ar ρ l t∧ar ρ l t≤Int.ofNat (2 ^ l.length)-1
 | [],t=>by
  have:=oo (t.den ρ)
  simp only [ar,List.length_nil,Nat.pow_zero]
  show -1≤_∧_≤(1:Int)-1
  omega
 | b::l,t=>by
  have h1:=sQ (ρ:=ρ) l t
  have h2:=oo (b.den ρ)
  simp only [ar,List.length_cons,Nat.pow_succ]
  have e:Int.ofNat (2 ^ l.length*2)=2*Int.ofNat (2 ^ l.length):=by
   show ((2 ^ l.length*2:Nat):Int)=2*((2 ^ l.length:Nat):Int)
   omega
  rw [e]
  omega
theorem Rj{ρ:Env}{l m:List B}{t u:B}(h:∀ i,cW ρ l t i=cW ρ m u i):ar ρ l t=ar ρ m u:=by
 have h1:=sQ (ρ:=ρ) l t
 have h2:=sQ (ρ:=ρ) m u
 have e1:=jS (ρ:=ρ) l t (l.length+m.length+1)
 have e2:=jS (ρ:=ρ) m u (l.length+m.length+1)
 rw [rV (fun i _=>h i),←e2] at e1
 have p1:(2:Nat) ^ l.length≤2 ^ (l.length+m.length):=Nat.pow_le_pow_right (by omega) (by omega)
 have p2:(2:Nat) ^ m.length≤2 ^ (l.length+m.length):=Nat.pow_le_pow_right (by omega) (by omega)
 have p3:(2:Int) ^ (l.length+m.length+1)=2*((2 ^ (l.length+m.length):Nat):Int):=by rw [Int.pow_succ,Int.mul_comm];simp
 rw [p3] at e1
 have q1:-(((2 ^ l.length:Nat):Int))≤ar ρ l t∧ar ρ l t≤((2 ^ l.length:Nat):Int)-1:=h1
 have q2:-(((2 ^ m.length:Nat):Int))≤ar ρ m u∧ar ρ m u≤((2 ^ m.length:Nat):Int)-1:=h2
 generalize 2 ^ (l.length+m.length)=K at *
 generalize 2 ^ l.length=A at *
 generalize 2 ^ m.length=C at *
 generalize ar ρ l t=x at *
 generalize ar ρ m u=y at *
 have hd:(2*(K:Int)) ∣ (x-y):=Int.dvd_of_emod_eq_zero (by rw [Int.sub_emod,e1];simp)
 have hz:x-y=0:=Int.eq_zero_of_dvd_of_natAbs_lt_natAbs hd (by omega)
 omega
theorem Yq{A B a b:Int}(h1:-A≤a)(h2:a≤A)(h3:-B≤b)(h4:b≤B):-(A*B)≤a*b∧a*b≤A*B:=by
 have e1:=Int.mul_nonneg (show 0≤A-a by omega) (show 0≤B+b by omega)
 have e2:=Int.mul_nonneg (show 0≤A+a by omega) (show 0≤B-b by omega)
 have e3:=Int.mul_nonneg (show 0≤A-a by omega) (show 0≤B-b by omega)
 have e4:=Int.mul_nonneg (show 0≤A+a by omega) (show 0≤B+b by omega)
 simp only [Int.sub_mul,Int.add_mul,Int.mul_sub,Int.mul_add] at e1 e2 e3 e4
 omega
def Rg.has(r:Rg)(n:Int):Prop:=r.lo≤n∧n≤r.hi
theorem Rg.kY{r:Rg}{n:Int}(h:r.has n):-r.abs≤n∧n≤r.abs:=by
 have:=Ev r.hi (-r.lo)
 obtain⟨h1,h2⟩:=h
 unfold Rg.abs
 omega
theorem KS{a b m:Int}(h:-m≤a∧a≤m):-m≤a.tdiv b∧a.tdiv b≤m:=by
 have h1:=Int.natAbs_tdiv a b
 have h2:(a.tdiv b).natAbs≤a.natAbs:=by rw [h1];exact Nat.div_le_self _ _
 omega
theorem A6{a b m:Int}(h:-m≤a∧a≤m):-m≤a.tmod b∧a.tmod b≤m:=by
 have h1:=Int.natAbs_tmod a b
 have h2:(a.tmod b).natAbs≤a.natAbs:=by rw [h1];exact Nat.mod_le _ _
 omega
theorem P6{a b:Rg}{x y:Int}(h1:a.has x)(h2:b.has y):(Ov a b).has (x*y):=by
 unfold Ov
 split
 ·rename_i e1 e2
  have e1:=of_decide_eq_true e1
  have e2:=of_decide_eq_true e2
  obtain⟨h1,h3⟩:=h1
  obtain⟨h2,h4⟩:=h2
  exact⟨Int.mul_le_mul h1 h2 e2 (by omega),Int.mul_le_mul h3 h4 (by omega) (by omega)⟩
 ·exact Yq (Rg.kY h1).1 (Rg.kY h1).2 (Rg.kY h2).1 (Rg.kY h2).2
theorem P7{a:Rg}{x y:Int}{m:Option Int}(h1:a.has x)(h2:∀ n,m=some n→y=n):(Kr a m).has (x.tdiv y):=by
 unfold Kr
 split
 ·rename_i n
  obtain rfl:=h2 n rfl
  split
  ·rename_i e1 e2
   have e1:=of_decide_eq_true e1
   have e2:=of_decide_eq_true e2
   have hx:0≤x:=Int.le_trans e1 h1.1
   refine⟨?_,?_⟩
   ·rw [Int.tdiv_eq_ediv_of_nonneg hx];exact Int.ediv_nonneg hx (by omega)
   ·rw [Int.tdiv_eq_ediv_of_nonneg hx];exact Int.ediv_le_ediv e2 h1.2
  ·exact KS (Rg.kY h1)
 ·exact KS (Rg.kY h1)
theorem P8{a:Rg}{x y:Int}{m:Option Int}(h1:a.has x)(h2:∀ n,m=some n→y=n):(Ks a m).has (x.tmod y):=by
 unfold Ks
 split
 ·rename_i n
  obtain rfl:=h2 n rfl
  split
  ·rename_i e1
   have e1:=of_decide_eq_true e1
   have l1:=Int.tmod_lt_of_pos x e1
   have l2:=Int.lt_tmod_of_pos x e1
   split
   ·rename_i e2
    have e2:=of_decide_eq_true e2
    have hx:0≤x:=Int.le_trans e2 h1.1
    have h3:=Int.tmod_eq_emod_of_nonneg (b:=y) hx
    have h4:=Int.emod_nonneg x (show y≠0 by omega)
    have h5:x % y≤x:=by
     have:=Int.emod_add_mul_ediv x y
     have:=Int.mul_nonneg (show 0≤y by omega) (Int.ediv_nonneg hx (show 0≤y by omega))
     omega
    refine⟨by rw [h3];exact h4,?_⟩
    rcases X8 a.hi (y-1) with e | e<;>dsimp only<;>rw [e]
    ·have:=h1.2;omega
    ·omega
   ·exact⟨by dsimp only;omega,by dsimp only;omega⟩
  ·exact A6 (Rg.kY h1)
 ·split
  ·rename_i e1
   have e1:=of_decide_eq_true e1
   have hx:0≤x:=Int.le_trans e1 h1.1
   obtain⟨h2,h3⟩:=A6 (a:=x) (b:=y) (m:=x) ⟨by omega,Int.le_refl _⟩
   refine⟨?_,Int.le_trans h3 h1.2⟩
   have h4:=Int.natAbs_tmod x y
   have h5:0≤x.tmod y:=Int.tmod_nonneg y hx
   exact h5
  ·exact A6 (Rg.kY h1)
theorem uD{f:Rg→Rg→Rg}{a b:Option Rg}{r:Rg}(h:FG f a b=some r):∃ x y,a=some x∧b=some y∧r=f x y:=by
 unfold FG at h
 split at h
 ·cases h
 ·split at h
  ·cases h
  ·exact⟨_,_,rfl,rfl,(Option.some.inj h).symm⟩
theorem Re(o:Nat)(k:IntKind)(a b:Int):jT k≤gq o k a b∧gq o k a b≤kR k:=by
 unfold gq
 split<;>exact qP k _
theorem eL{ρ:Env}{b:X}(n:Int)(h:lY b=some n):b.den ρ=n:=by
 cases b with
 | lit m=>exact Option.some.inj (show some m=some n from h)
 | _=>exact absurd (show (none:Option Int)=some n from h) (by simp)
theorem YQ{ρ:Env}:∀ {x:X} {r:Rg},ju x=some r→r.has (x.den ρ):=by
 intro x
 induction x with
 | lit n=>intro r h;obtain rfl:=Option.some.inj h;exact⟨Int.le_refl _,Int.le_refl _⟩
 | wrap k a _=>intro r h;obtain rfl:=Option.some.inj h;exact qP k _
 | bits o k a b _ _=>intro r h;obtain rfl:=Option.some.inj h;exact Re o k _ _
 | shl k a b _ _=>intro r h;obtain rfl:=Option.some.inj h;exact qP k _
 | bv l t=>
  intro r h
  unfold ju at h
  have h0:=sQ (ρ:=ρ) l t
  split at h
  ·obtain rfl:=Option.some.inj h
   have:=eG (ρ:=ρ) l
   exact⟨by simp only [X.den];omega,h0.2⟩
  ·obtain rfl:=Option.some.inj h
   exact h0
 | eq a b _ _=>intro r h;obtain rfl:=Option.some.inj h;exact oo _
 | lt a b _ _=>intro r h;obtain rfl:=Option.some.inj h;exact oo _
 | le a b _ _=>intro r h;obtain rfl:=Option.some.inj h;exact oo _
 | not a _=>intro r h;obtain rfl:=Option.some.inj h;exact oo _
 | seq a b _ _=>intro r h;obtain rfl:=Option.some.inj h;exact oo _
 | cube m v=>intro r h;obtain rfl:=Option.some.inj h;exact oo _
 | ite c a b _ ia ib=>
  intro r h
  obtain⟨x,y,hx,hy,rfl⟩:=uD (show FG _ (ju a) (ju b)=some r from h)
  have h1:=ia hx
  have h2:=ib hy
  have m1:=Ny x.lo y.lo
  have m2:=Ev x.hi y.hi
  simp only [X.den]
  split
  ·exact⟨Int.le_trans m1.2 h2.1,Int.le_trans h2.2 m2.2⟩
  ·exact⟨Int.le_trans m1.1 h1.1,Int.le_trans h1.2 m2.1⟩
 | add a b ia ib=>
  intro r h
  obtain⟨x,y,hx,hy,rfl⟩:=uD (show FG _ (ju a) (ju b)=some r from h)
  obtain⟨h1,h2⟩:=ia hx
  obtain⟨h3,h4⟩:=ib hy
  exact⟨by simp only [X.den];omega,by simp only [X.den];omega⟩
 | sub a b ia ib=>
  intro r h
  obtain⟨x,y,hx,hy,rfl⟩:=uD (show FG _ (ju a) (ju b)=some r from h)
  obtain⟨h1,h2⟩:=ia hx
  obtain⟨h3,h4⟩:=ib hy
  exact⟨by simp only [X.den];omega,by simp only [X.den];omega⟩
 | mul a b ia ib=>
  intro r h
  obtain⟨x,y,hx,hy,rfl⟩:=uD (show FG _ (ju a) (ju b)=some r from h)
  exact P6 (ia hx) (ib hy)
 | quo a b ia _=>
  intro r h
  unfold ju at h
  split at h
  ·rename_i s hs
   obtain rfl:=Option.some.inj h
   exact P7 (ia hs) fun n hn=>eL n hn
  ·cases h
 | rem a b ia _=>
  intro r h
  unfold ju at h
  split at h
  ·rename_i s hs
   obtain rfl:=Option.some.inj h
   exact P8 (ia hs) fun n hn=>eL n hn
  ·cases h
 | shr k a b ia _=>
  intro r h
  unfold ju at h
  split at h
  ·rename_i s hs
   obtain rfl:=Option.some.inj h
   obtain⟨h1,h2⟩:=ia hs
   have m1:=Ny s.lo 0
   have m2:=Ev s.hi 0
   simp only [X.den,Bz]
   generalize min (b.den ρ).toNat k.bits=p
   have hp:(0:Int)<2 ^ p:=Int.pow_pos (by omega)
   rw [Int.fdiv_eq_ediv_of_nonneg _ (Int.le_of_lt hp)]
   generalize (2:Int) ^ p=q at hp
   generalize a.den ρ=z at *
   have e:=Int.emod_add_mul_ediv z q
   have e1:=Int.emod_nonneg z (show q≠0 by omega)
   have e2:=Int.emod_lt_of_pos z hp
   refine⟨?_,?_⟩
   ·dsimp only
    rcases Int.lt_or_le z 0 with hz | hz
    ·have:z≤z / q:=by
      rw [Int.le_ediv_iff_mul_le hp]
      have:=Int.mul_le_mul_of_nonpos_left (show z≤0 by omega) (show (1:Int)≤q by omega)
      omega
     omega
    ·have:=Int.ediv_nonneg hz (Int.le_of_lt hp);omega
   ·dsimp only
    rcases Int.lt_or_le z 0 with hz | hz
    ·have:z / q≤0:=Int.ediv_le_of_le_mul hp (by omega)
     omega
    ·have:=Int.ediv_le_self q hz
     omega
  ·cases h
 | _=>intro r h;cases h
theorem jw{ρ:Env}{x:X}{r:Rg}(h:xU x=some r):r.has (x.den ρ):=YQ (by rw [←abK];exact h)
theorem vz{ρ:Env}{k:IntKind}{x:X}(h:inK k x=true):jT k≤x.den ρ∧x.den ρ≤kR k:=by
 unfold inK at h
 split at h
 ·rename_i r hr
  obtain⟨h1,h2⟩:=jw (ρ:=ρ) hr
  split at h
  ·rename_i h3
   have h3:=of_decide_eq_true h3
   have h4:=of_decide_eq_true h
   omega
  ·cases h
 ·cases h
theorem vV{ρ:Env}{x:X}(h:ED x=true):0≤x.den ρ:=by
 unfold ED at h
 split at h
 ·rename_i r hr
  have:=(jw (ρ:=ρ) hr).1
  have:=of_decide_eq_true h
  omega
 ·cases h
theorem xi(ρ:Env)(k:IntKind)(a:X):(yn k a).den ρ=k.wrap (a.den ρ):=by
 unfold yn
 split
 ·split
  ·rename_i j x m n h
   obtain rfl:=aX h
   simp only [X.den]
   rw [wrap_mul,Int.mul_assoc]
  ·simp only [X.den]
 ·simp only [X.den]
theorem da(ρ:Env)(k:IntKind)(a:X):(gM k a).den ρ=k.wrap (a.den ρ):=by
 unfold gM
 split
 ·rename_i h
  have:=vz (ρ:=ρ) h
  rw [bn this.1 this.2]
 ·exact xi ρ k a
end Go.Proofs.YtmickljjofbmiaaGreatDoor
namespace Go.Proofs.YtmickljjofbmiaaGreatDoor
open Go
section
variable (ρ:Env)
theorem im(k:IntKind)(a:X):(mkWrap k a).den ρ=k.wrap (a.den ρ):=by
 unfold mkWrap
 split
 ·simp [X.den]
 ·rw [jV];rfl
 ·exact da ρ k _
theorem fC{a:X}(h:FF a=true):a.den ρ=0:=by
 unfold FF at h
 split at h
 ·simp only [X.den];exact bu h
 ·cases h
theorem QW(k:IntKind)(a b:X):(QV k a b).den ρ=k.wrap (a.den ρ+b.den ρ):=by
 unfold QV
 split
 ·rename_i h
  rw [da,fC ρ h,Int.add_zero]
 ·split
  ·rename_i h
   rw [da,fC ρ h,Int.zero_add]
  ·rw [da];simp only [X.den]
theorem zh(k:IntKind)(a b:X):(Ez k a b).den ρ=k.wrap (a.den ρ+b.den ρ):=by
 unfold Ez;split
 ·simp [X.den]
 ·have hd:(QV k a b).den ρ=k.wrap (a.den ρ+b.den ρ):=QW ρ k a b
  refine eW (ρ:=ρ) (Pr:=fun x:X=>x.den ρ=k.wrap (a.den ρ+b.den ρ)) hd fun l t m u ha hb=>?_
  refine wi (by rw [hd,ha,hb]) fun r s h=>?_
  rw [ha,hb,←oe h]
  simp [a7]
theorem vM(k:IntKind)(a b:X):(mkAdd k a b).den ρ=k.wrap (a.den ρ+b.den ρ):=by
 unfold mkAdd
 split
 ·rename_i m hm
  split
  ·rename_i n hn
   simp only [X.den,eL (ρ:=ρ) m hm,eL (ρ:=ρ) n hn]
  ·exact zh ρ k a b
 ·exact zh ρ k a b
theorem vQ(k:IntKind)(a b:X):(mkSub k a b).den ρ=k.wrap (a.den ρ-b.den ρ):=by
 unfold mkSub;split
 ·simp [X.den]
 ·rename_i n _
  have hd:(gM k (.sub a (.lit n))).den ρ=k.wrap (a.den ρ-(X.lit n).den ρ):=da ρ k _
  refine eW (ρ:=ρ) (Pr:=fun x:X=>x.den ρ=k.wrap (a.den ρ-(X.lit n).den ρ)) hd fun l t m u ha hb=>?_
  refine wi hd fun r s h=>?_
  rw [ha,←oe h,←hb]
  simp [a7,X.den,Int.sub_eq_add_neg]
 ·have hd:(gM k (.sub a b)).den ρ=k.wrap (a.den ρ-b.den ρ):=da ρ k _
  refine eW (ρ:=ρ) (Pr:=fun x:X=>x.den ρ=k.wrap (a.den ρ-b.den ρ)) hd fun l t m u ha hb=>?_
  refine wi hd fun r s h=>?_
  rw [ha,hb,←A0 h]
theorem CB{k:IntKind}{l:List B}{t:B}{n:Int}{d:X} (hd:d.den ρ=k.wrap (ar ρ l t*n)):(NO k l t n d).den ρ=k.wrap (ar ρ l t*n):=by
 unfold NO
 split
 ·rename_i n
  split
  ·rename_i s hs
   rw [jV,ss,yr hs]
   simp
  ·exact hd
 ·exact hd
theorem jW(k:IntKind)(a b:X):(mkMul k a b).den ρ=k.wrap (a.den ρ*b.den ρ):=by
 unfold mkMul;split
 ·simp [X.den]
 ·exact CB ρ (by rw [da];simp only [X.den])
 ·rename_i n l t
  rw [Int.mul_comm]
  exact CB ρ (n:=n) (by rw [da];simp only [X.den,Int.mul_comm])
 ·rw [da];simp only [X.den]
theorem P2{k:IntKind}{l:List B}{t:B}{n:Int}{d:X} (hd:d.den ρ=k.wrap ((ar ρ l t).tdiv n)):(S6 k l t n d).den ρ=k.wrap ((ar ρ l t).tdiv n):=by
 unfold S6
 split
 ·rename_i n
  split
  ·rename_i s hs
   rw [jV,u9,yr hs,Int.tdiv_eq_ediv_of_nonneg (eG l)]
   simp
  ·exact hd
 ·exact hd
theorem CA(k:IntKind)(a b:X):(NM k a b).den ρ=k.wrap ((a.den ρ).tdiv (b.den ρ)):=by
 unfold NM;split
 ·simp [X.den]
 ·exact P2 ρ (by rw [da];simp only [X.den])
 ·rw [da];simp only [X.den]
theorem aaI{n:Int}{k:IntKind}(h:kOf n=some k):k.signed=false∧n=2 ^ k.bits:=by
 unfold kOf at h
 split at h
 ·rename_i e;obtain rfl:=Option.some.inj h;exact⟨rfl,bu e⟩
 ·split at h
  ·rename_i e;obtain rfl:=Option.some.inj h;exact⟨rfl,bu e⟩
  ·split at h
   ·rename_i e;obtain rfl:=Option.some.inj h;exact⟨rfl,bu e⟩
   ·cases h
theorem r8(a:X)(n:Int):(AN a n).den ρ=(a.den ρ).tmod n:=by
 unfold AN
 split
 ·simp only [X.den]
 ·rename_i r hr
  obtain⟨h1,h2⟩:=jw (ρ:=ρ) hr
  split
  ·simp only [X.den]
  ·rename_i h3
   have h3:=of_decide_eq_true h3
   rw [Int.tmod_eq_emod_of_nonneg (by omega)]
   split
   ·rename_i h4
    have h4:=of_decide_eq_true h4
    exact (Int.emod_eq_of_lt (by omega) (by omega)).symm
   ·split
    ·rename_i k hk
     obtain⟨h5,h6⟩:=aaI hk
     rw [xi,h6]
     simp [IntKind.wrap,h5]
    ·simp only [X.den]
     rw [Int.tmod_eq_emod_of_nonneg (by omega)]
theorem P4{l:List B}{t:B}{n:Int}{d:X} (hd:d.den ρ=(ar ρ l t).tmod n):(S9 l t n d).den ρ=(ar ρ l t).tmod n:=by
 unfold S9
 split
 ·rename_i n
  split
  ·split
   ·rename_i s hs
    rw [gA,pQ,←jS,yr hs,Int.tmod_eq_emod_of_nonneg (eG l)]
    simp
   ·exact hd
  ·split
   ·rename_i hn
    have hn':=Nat.eq_of_beq_eq_true hn
    subst hn'
    split
    ·rename_i b l'
     rw [gA,a8]
     have h1:=qZ (ρ:=ρ) (b::l')
     have h2:(ar ρ (b::l') .one).tmod 2=-((-ar ρ (b::l') .one).tmod 2):=by rw [Int.neg_tmod,Int.neg_neg]
     rw [show (Int.ofNat 2)=2 from rfl,h2,Int.tmod_eq_emod_of_nonneg (by omega)]
     rw [aB] at h1 ⊢
     rcases lR (b.den ρ) with h | h<;>omega
    ·exact hd
   ·exact hd
  ·exact hd
 ·exact hd
theorem jY(a b:X):(xg a b).den ρ=(a.den ρ).tmod (b.den ρ):=by
 unfold xg;split
 ·simp [X.den]
 ·exact P4 ρ (by simp [X.den])
 ·exact r8 ρ _ _
 ·simp [X.den]
theorem Sb{k:IntKind}{j:Nat}{x:Int}(hj:j<k.bits)(h0:0≤x)(h1:x≤kR k):
  k.wrap ((BitVec.ofInt k.bits x &&& BitVec.ofInt k.bits (((2 ^ j-1:Nat):Int))).toNat:Int)=x % (2 ^ j:Nat) ∧
  k.wrap ((BitVec.ofInt k.bits x &&& ~~~BitVec.ofInt k.bits (((2 ^ j-1:Nat):Int))).toNat:Int)=x-x % (2 ^ j:Nat):=by
 obtain⟨n,rfl⟩:=Int.eq_ofNat_of_zero_le h0
 have hn:n<2 ^ k.bits:=by
  have:(n:Int)≤kR k:=h1
  cases k<;>simp only [kR,IntKind.bits] at this ⊢<;>omega
 have hp:2 ^ j<2 ^ k.bits:=Nat.pow_lt_pow_right (by omega) hj
 have hp0:0<2 ^ j:=Nat.two_pow_pos j
 have e1:(BitVec.ofInt k.bits (n:Int)).toNat=n:=by
  rw [BitVec.toNat_ofInt]
  have:((n:Int) % ((2 ^ k.bits:Nat):Int))=n:=Int.emod_eq_of_lt (by omega) (by omega)
  rw [this]
  rfl
 have e2:(BitVec.ofInt k.bits ((2 ^ j-1:Nat):Int)).toNat=2 ^ j-1:=by
  rw [BitVec.toNat_ofInt]
  have:(((2 ^ j-1:Nat):Int) % ((2 ^ k.bits:Nat):Int))=((2 ^ j-1:Nat):Int):=Int.emod_eq_of_lt (by omega) (by omega)
  rw [this]
  rfl
 have hm:n % 2 ^ j≤n:=Nat.mod_le _ _
 constructor
 ·rw [BitVec.toNat_and,e1,e2,Nat.and_two_pow_sub_one_eq_mod]
  have h2:jT k≤((n % 2 ^ j:Nat):Int):=by
   have:jT k≤0:=by cases k<;>decide
   omega
  rw [bn h2 (by omega)]
  rfl
 ·have e3:(BitVec.ofInt k.bits (n:Int) &&& ~~~BitVec.ofInt k.bits ((2 ^ j-1:Nat):Int)).toNat=n-n % 2 ^ j:=by
   rw [BitVec.toNat_and,BitVec.toNat_not,e1,e2]
   apply Nat.eq_of_testBit_eq
   intro i
   have h5:n-n % 2 ^ j=2 ^ j*(n / 2 ^ j):=by
    have:=Nat.mod_add_div n (2 ^ j)
    omega
   rw [h5,Nat.testBit_and,Nat.mul_comm,Nat.testBit_mul_two_pow]
   rw [show 2 ^ k.bits-1-(2 ^ j-1)=2 ^ k.bits-((2 ^ j-1)+1) by omega,Nat.testBit_two_pow_sub_succ (by omega)]
   rw [Nat.testBit_two_pow_sub_one]
   by_cases hi:i<j
   ·simp [hi,show ¬j≤i by omega]
   ·have:j≤i:=by omega
    simp [hi,this,Nat.testBit_div_two_pow]
    intro hb
    rcases Nat.lt_or_ge i k.bits with h | h
    ·exact h
    ·have:n<2 ^ i:=Nat.lt_of_lt_of_le hn (Nat.pow_le_pow_right (by omega) h)
     rw [Nat.testBit_lt_two_pow this] at hb
     cases hb
  rw [e3]
  have h2:jT k≤((n-n % 2 ^ j:Nat):Int):=by
   have:jT k≤0:=by cases k<;>decide
   omega
  rw [bn h2 (by omega)]
  have:((n % 2 ^ j:Nat):Int)=(n:Int) % ((2 ^ j:Nat):Int):=by simp
  omega
theorem G8{o:Nat}{k:IntKind}{a:X}{m:Int}{d:X} (hd:d.den ρ=gq o k (a.den ρ) m):(Ey o k a m d).den ρ=gq o k (a.den ρ) m:=by
 unfold Ey
 split
 ·rename_i m
  split
  ·rename_i h1 h2
   split
   ·rename_i j hj
    split
    ·rename_i hb
     have hb:=Nat.le_of_ble_eq_true hb
     have e:=yr hj
     obtain rfl:m=2 ^ j-1:=by omega
     obtain⟨m1,m2⟩:=Sb (x:=a.den ρ) hb (vV h1) (vz (ρ:=ρ) h2).2
     have h0:=vV (ρ:=ρ) h1
     split
     ·rw [r8,Int.tmod_eq_emod_of_nonneg h0]
      exact m1.symm
     ·have h3:=(vz (ρ:=ρ) h2).2
      have h4:0≤a.den ρ % ((2 ^ j:Nat):Int):=Int.emod_nonneg _ (by have:=Nat.two_pow_pos j;omega)
      have h5:a.den ρ % ((2 ^ j:Nat):Int)≤a.den ρ:=by
       have e1:=Int.emod_add_mul_ediv (a.den ρ) ((2 ^ j:Nat):Int)
       have e2:=Int.mul_nonneg (show (0:Int)≤((2 ^ j:Nat):Int) by omega) (Int.ediv_nonneg h0 (show (0:Int)≤((2 ^ j:Nat):Int) by omega))
       omega
      have h6:jT k≤0:=by cases k<;>decide
      rw [da]
      simp only [X.den]
      rw [r8,Int.tmod_eq_emod_of_nonneg h0,show (Int.ofNat (2 ^ j))=((2 ^ j:Nat):Int) from rfl,bn (by omega) (by omega)]
      exact m2.symm
     ·exact hd
    ·exact hd
   ·exact hd
  ·exact hd
 ·exact hd
theorem BQ(o:Nat)(k:IntKind)(a b:X):(M9 o k a b).den ρ=gq o k (a.den ρ) (b.den ρ):=by
 unfold M9
 split
 ·exact G8 ρ rfl
 ·rfl
theorem nu(o:Nat)(k:IntKind)(a b:X):(nt o k a b).den ρ=gq o k (a.den ρ) (b.den ρ):=by
 unfold nt;split
 ·simp [X.den]
 ·refine eW (ρ:=ρ) (Pr:=fun x:X=>x.den ρ=gq o k (a.den ρ) (b.den ρ)) (BQ ρ o k a b) fun l t m u ha hb=>?_
  unfold Au
  split
  ·rename_i r s h
   rw [jV,ha,hb,Rf k h]
  ·exact BQ ρ o k a b
theorem vP(k:IntKind)(a b:X):(Ij k a b).den ρ=MD k (a.den ρ) (b.den ρ):=by
 unfold Ij;split
 ·simp [X.den]
 ·rw [jV,ss];rfl
 ·rw [da]
  simp only [X.den,MD]
  simp
 ·simp [X.den]
theorem ik(k:IntKind)(a b:X):(tF k a b).den ρ=Bz k (a.den ρ) (b.den ρ):=by
 unfold tF;split
 ·simp [X.den]
 ·rw [gA,u9]
  simp only [X.den,Bz]
  rw [Int.fdiv_eq_ediv_of_nonneg]
  exact Int.le_of_lt (Int.pow_pos (by omega))
 ·split
  ·rename_i h
   have h0:=vV (ρ:=ρ) h
   simp only [X.den,Bz]
   rw [Int.tdiv_eq_ediv_of_nonneg h0,Int.fdiv_eq_ediv_of_nonneg]
   ·simp
   ·exact Int.le_of_lt (Int.pow_pos (by omega))
  ·simp [X.den]
 ·simp [X.den]
theorem FT{a b:X}(h:apart a b=true):(a.den ρ==b.den ρ)=false:=by
 unfold apart at h
 split at h
 ·cases h
 ·rename_i r hr
  obtain⟨h1,h2⟩:=jw (ρ:=ρ) hr
  split at h
  ·cases h
  ·rename_i s hs
   obtain⟨h3,h4⟩:=jw (ρ:=ρ) hs
   refine beq_eq_false_iff_ne.2 fun e=>?_
   split at h
   ·rename_i h5
    have h5:=of_decide_eq_true h5
    omega
   ·have h:=of_decide_eq_true h
    omega
theorem W4(k:IntKind)(n m:Int)(h1:jT k≤m)(h2:m≤kR k):k.wrap n=m↔n % (2 ^ k.bits:Int)=m % (2 ^ k.bits:Int):=by
 unfold IntKind.wrap
 cases k<;>simp only [jT,kR,IntKind.bits,IntKind.signed,Bool.false_and,Bool.true_and,Bool.false_eq_true,if_false,decide_eq_true_eq,Int.reducePow,Nat.reduceSub,ge_iff_le] at *<;>first | omega | (split<;>omega)
theorem MU{k:IntKind}{a:X}{m:Int}{d:X} (hd:d.den ρ=a7 (k.wrap (a.den ρ)==m)):(MT k a m d).den ρ=a7 (k.wrap (a.den ρ)==m):=by
 unfold MT
 split
 ·exact hd
 ·rename_i r hr
  obtain⟨h1,h2⟩:=jw (ρ:=ρ) hr
  split
  ·rename_i e1 e2 e3
   have e1:=of_decide_eq_true e1
   have e2:=of_decide_eq_true e2
   have e3:=of_decide_eq_true e3
   have hp:(0:Int)<Int.ofNat (2 ^ k.bits):=by
    show (0:Int)<((2 ^ k.bits:Nat):Int)
    have:=Nat.two_pow_pos k.bits
    omega
   have hpe:Int.ofNat (2 ^ k.bits)=(2:Int) ^ k.bits:=by simp
   have hw:=W4 k (a.den ρ) m e2 e3
   generalize hP:Int.ofNat (2 ^ k.bits)=p at *
   rw [←hpe] at hw
   have key:(k.wrap (a.den ρ)=m)↔a.den ρ=r.lo+(m-r.lo) % p:=by
    rw [hw]
    have q1:=Int.emod_nonneg (m-r.lo) (show p≠0 by omega)
    have q2:=Int.emod_lt_of_pos (m-r.lo) hp
    have q3:=Int.emod_add_mul_ediv (m-r.lo) p
    constructor
    ·intro h
     have h3:(a.den ρ-r.lo) % p=(m-r.lo) % p:=by rw [Int.sub_emod,h,←Int.sub_emod]
     rw [Int.emod_eq_of_lt (by omega) (by omega)] at h3
     omega
    ·intro h
     rw [h,show r.lo+(m-r.lo) % p=m+p * -((m-r.lo) / p) by rw [Int.mul_neg];omega,Int.add_mul_emod_self_left]
   dsimp only
   split
   ·simp only [X.den]
    congr 1
    rw [Bool.eq_iff_iff,beq_iff_eq,beq_iff_eq,key]
   ·rename_i e4
    have e4:=of_decide_eq_false e4
    have:(k.wrap (a.den ρ)==m)=false:=beq_eq_false_iff_ne.2 fun e=>by
     have:=key.1 e
     omega
    rw [this]
    rfl
  ·exact hd
theorem BZ(a:X)(m:Int):(y7 a m).den ρ=a7 (a.den ρ==m):=by
 unfold y7
 split
 ·rename_i h
  have:=FT ρ h
  simp only [X.den] at this
  rw [this]
  rfl
 ·split
  ·exact MU ρ (by simp only [X.den])
  ·rename_i c p q _
   have e:((X.ite c (.lit p) (.lit q)).den ρ==m)=if c.den ρ==0 then q==m else p==m:=by
    simp only [X.den]
    split<;>rfl
   rw [e]
   split<;>rename_i h1 h2<;>rw [bI] at h1 h2<;>rw [h1,h2]<;>simp only [X.den]<;>split<;>rfl
  ·simp only [X.den]
theorem Nf(a b:X):(eqD a b).den ρ=a7 (a.den ρ==b.den ρ):=by
 unfold eqD
 split
 ·exact BZ ρ _ _
 ·split
  ·rename_i h
   rw [FT ρ h]
   rfl
  ·simp only [X.den]
theorem Yn(a b:X):(ltD a b).den ρ=a7 (decide (a.den ρ<b.den ρ)):=by
 unfold ltD
 split
 ·simp only [X.den]
 ·rename_i r hr
  obtain⟨h1,h2⟩:=jw (ρ:=ρ) hr
  split
  ·simp only [X.den]
  ·rename_i s hs
   obtain⟨h3,h4⟩:=jw (ρ:=ρ) hs
   split
   ·rename_i h;have h:=of_decide_eq_true h
    rw [decide_eq_true (by omega)];rfl
   ·split
    ·rename_i h;have h:=of_decide_eq_true h
     rw [decide_eq_false (by omega)];rfl
    ·simp only [X.den]
theorem Yg(a b:X):(leD a b).den ρ=a7 (decide (a.den ρ≤b.den ρ)):=by
 have hd:(X.not (.lt b a)).den ρ=a7 (decide (a.den ρ≤b.den ρ)):=by
  simp only [X.den,oq]
  congr 1
  by_cases h:a.den ρ≤b.den ρ
  ·rw [decide_eq_true h,decide_eq_false (by omega)];rfl
  ·rw [decide_eq_false h,decide_eq_true (by omega)];rfl
 unfold leD
 split
 ·exact hd
 ·rename_i r hr
  obtain⟨h1,h2⟩:=jw (ρ:=ρ) hr
  split
  ·exact hd
  ·rename_i s hs
   obtain⟨h3,h4⟩:=jw (ρ:=ρ) hs
   split
   ·rename_i h;have h:=of_decide_eq_true h
    rw [decide_eq_true (by omega)];rfl
   ·split
    ·rename_i h;have h:=of_decide_eq_true h
     rw [decide_eq_false (by omega)];rfl
    ·exact hd
theorem Cv(a b:X):(NJ a b).den ρ=a7 (a.den ρ==b.den ρ):=by
 unfold NJ
 split
 ·simp only [X.den,bI]
 ·rename_i _ m _
  have hd:(y7 b m).den ρ=a7 ((X.lit m).den ρ==b.den ρ):=by rw [BZ];simp only [X.den];rw [Bool.beq_comm]
  refine eW (ρ:=ρ) (Pr:=fun x:X=>x.den ρ=a7 ((X.lit m).den ρ==b.den ρ)) hd fun l t m' u ha hb=>?_
  have h:=Ng (ρ:=ρ) (l:=l) (t:=t) (m:=m') (u:=u) (d:=y7 b m) (by rw [←ha,←hb];exact hd)
  rw [←ha,←hb] at h
  exact h
 ·refine eW (ρ:=ρ) (Pr:=fun x:X=>x.den ρ=a7 (a.den ρ==b.den ρ)) ?_ fun l t m u ha hb=>?_
  ·split
   ·rename_i he
    rw [X.beq_eq he]
    simp [X.den,a7]
   ·exact Nf ρ a b
  have h:=Ng (ρ:=ρ) (l:=l) (t:=t) (m:=m) (u:=u) (d:=eqD a b) (by rw [←ha,←hb];exact Nf ρ a b)
  rw [←ha,←hb] at h
  exact h
theorem Ie(a b:X):(mkEq a b).den ρ=a7 (a.den ρ==b.den ρ):=by
 unfold mkEq
 split
 ·rename_i m hm
  split
  ·rename_i n hn
   simp only [X.den,bI,eL (ρ:=ρ) m hm,eL (ρ:=ρ) n hn]
  ·exact Cv ρ a b
 ·exact Cv ρ a b
theorem eM(a b:X):(mkEq a b).tt ρ=(a.den ρ==b.den ρ):=by rw [X.tt,Ie,dd]
theorem Cy(a b:X):(NL a b).den ρ=a7 (decide (a.den ρ<b.den ρ)):=by
 unfold NL;split
 ·simp only [X.den];congr
 ·rename_i l t n
  refine Iw (p:=ar ρ l t<n) (by simp only [X.den];rfl) fun h=>?_
  rw [(jm h).1]
  omega
 ·rename_i n l t
  refine NS (p:=n<ar ρ l t) (by simp only [X.den];rfl) fun h=>?_
  rw [(jm h).1]
  omega
 ·exact Yn ρ _ _
theorem Ii(a b:X):(mkLt a b).den ρ=a7 (decide (a.den ρ<b.den ρ)):=by
 unfold mkLt
 split
 ·rename_i m hm
  split
  ·rename_i n hn
   simp only [X.den,eL (ρ:=ρ) m hm,eL (ρ:=ρ) n hn]
  ·exact Cy ρ a b
 ·exact Cy ρ a b
theorem lq(a b:X):(mkLt a b).tt ρ=decide (a.den ρ<b.den ρ):=by rw [X.tt,Ii,dd]
theorem Cw(a b:X):(NK a b).den ρ=a7 (decide (a.den ρ≤b.den ρ)):=by
 unfold NK;split
 ·simp only [X.den];congr
 ·rename_i l t n
  refine Iw (p:=ar ρ l t≤n) (by simp only [X.den];rfl) fun h=>?_
  rw [(jm h).1]
  omega
 ·rename_i n l t
  refine NS (p:=n≤ar ρ l t) (by simp only [X.den];rfl) fun h=>?_
  rw [(jm h).1]
 ·exact Yg ρ _ _
theorem z6(a b:X):(mkLe a b).den ρ=a7 (decide (a.den ρ≤b.den ρ)):=by
 unfold mkLe
 split
 ·rename_i m hm
  split
  ·rename_i n hn
   simp only [X.den,eL (ρ:=ρ) m hm,eL (ρ:=ρ) n hn]
  ·exact Cw ρ a b
 ·exact Cw ρ a b
theorem di(a b:X):(mkLe a b).tt ρ=decide (a.den ρ≤b.den ρ):=by rw [X.tt,z6,dd]
theorem mz(a:X):(mkNot a).tt ρ=!a.tt ρ:=by
 unfold mkNot X.tt;split
 ·simp only [X.den,dd,bI];simp [bne]
 ·simp only [X.den,dd];simp [bne]
theorem Cz(a:X):(mkNot a).den ρ=a7 (!a.tt ρ):=by
 unfold mkNot X.tt;split<;>simp only [X.den,bI]<;>simp [bne]
theorem FO{x y z:X}{k:Option IntKind} (h:M6 x=some (k,y,z)):x.den ρ=(pM k (.add y z)).den ρ∧(pM k y).den ρ=y.den ρ∧∀ w:X,w.den ρ=0→(pM k (.add y w)).den ρ=y.den ρ:=by
 unfold M6 at h
 split at h
 ·simp only [Option.some.injEq,Prod.mk.injEq] at h
  obtain⟨rfl,rfl,rfl⟩:=h
  exact⟨rfl,rfl,fun w hw=>by simp [pM,X.den,hw]⟩
 ·split at h
  ·rename_i hk
   simp only [Option.some.injEq,Prod.mk.injEq] at h
   obtain⟨rfl,rfl,rfl⟩:=h
   have:=vz (ρ:=ρ) hk
   refine⟨rfl,?_,fun w hw=>?_⟩
   ·simp only [pM,X.den];exact bn this.1 this.2
   ·simp only [pM,X.den,hw,Int.add_zero];exact bn this.1 this.2
  ·cases h
 ·cases h
theorem Dk{k:Option IntKind}{y z w:X}(h:z.den ρ=w.den ρ):(pM k (.add y z)).den ρ=(pM k (.add y w)).den ρ:=by
 cases k<;>simp only [pM,X.den,h]
theorem rR(c a b:X):(X.ite c a b).den ρ=if c.tt ρ then a.den ρ else b.den ρ:=by
 by_cases h:c.den ρ=0<;>simp [X.den,X.tt,h]
theorem w6(c a b:X):(yf c a b).den ρ=if c.tt ρ then a.den ρ else b.den ρ:=by
 unfold yf
 split
 ·rename_i k y z hb
  obtain⟨h1,_,h3⟩:=FO ρ hb
  split
  ·rename_i he
   obtain rfl:=X.beq_eq he
   rw [h1]
   split
   ·rename_i hc
    exact h3 _ (by rw [rR,if_pos hc];rfl)
   ·rename_i hc
    exact Dk ρ (by rw [rR,if_neg hc])
  ·exact rR ρ c a b
 ·exact rR ρ c a b
theorem dX(c a b:X):(kB c a b).den ρ=if c.tt ρ then a.den ρ else b.den ρ:=by
 unfold kB
 split
 ·rename_i k y z ha
  obtain⟨h1,_,h3⟩:=FO ρ ha
  split
  ·rename_i he
   obtain rfl:=X.beq_eq he
   rw [h1]
   split
   ·rename_i hc
    exact Dk ρ (by rw [rR,if_pos hc])
   ·rename_i hc
    exact h3 _ (by rw [rR,if_neg hc];rfl)
  ·exact w6 ρ c a b
 ·exact w6 ρ c a b
theorem Qi(z:X)(h1:jT .u32≤z.den ρ)(h2:z.den ρ≤kR .u32):(X.wrap .i32 z).den ρ=if (X.lt z (.lit 2147483648)).tt ρ then z.den ρ else (X.sub z (.lit 4294967296)).den ρ:=by
 simp only [jT,kR] at h1 h2
 have e1:(X.lt z (.lit 2147483648)).tt ρ=decide (z.den ρ<2147483648):=by
  rw [Bool.eq_iff_iff,decide_eq_true_iff]
  simp only [X.tt,X.den,dd]
  exact decide_eq_true_iff
 rw [e1]
 simp only [X.den]
 simp only [IntKind.wrap,IntKind.bits,IntKind.signed,Bool.true_and,decide_eq_true_eq,Int.reducePow,Nat.reduceSub,ge_iff_le]
 rw [Int.emod_eq_of_lt (by omega) (by omega)]
 split<;>split<;>omega
theorem GS{c a b:X}{m:Int}{x:X} (hc:c=.lt x (.lit m)):(Ek c a b m x).den ρ=if c.tt ρ then a.den ρ else b.den ρ:=by
 have hd:(X.ite c a b).den ρ=if c.tt ρ then a.den ρ else b.den ρ:=by
  by_cases h:c.den ρ=0<;>simp [X.den,X.tt,h]
 unfold Ek
 split
 ·split
  ·rename_i y w h1 h2
   split
   ·rename_i h3 h4 h5
    obtain rfl:=bu h1
    obtain rfl:=bu h2
    obtain rfl:=X.beq_eq h3
    obtain rfl:=X.beq_eq h4
    have:=vz (ρ:=ρ) h5
    subst hc
    exact Qi ρ _ this.1 this.2
   ·exact hd
  ·exact hd
 ·exact dX ρ c a b
theorem QI(q:X):(X.wrap .u32 q).den ρ=if (X.lt (.rem q (.lit 4294967296)) (.lit 0)).tt ρ then (X.add (.rem q (.lit 4294967296)) (.lit 4294967296)).den ρ else (X.rem q (.lit 4294967296)).den ρ:=by
 have e1:(X.lt (.rem q (.lit 4294967296)) (.lit 0)).tt ρ=decide ((q.den ρ).tmod 4294967296<0):=by
  rw [Bool.eq_iff_iff,decide_eq_true_iff]
  simp only [X.tt,X.den,dd]
  exact decide_eq_true_iff
 have e2:(X.wrap .u32 q).den ρ=q.den ρ % 4294967296:=by simp [X.den,IntKind.wrap,IntKind.bits,IntKind.signed]
 have e3:(X.add (.rem q (.lit 4294967296)) (.lit 4294967296)).den ρ=(q.den ρ).tmod 4294967296+4294967296:=by simp only [X.den]
 have e4:(X.rem q (.lit 4294967296)).den ρ=(q.den ρ).tmod 4294967296:=by simp only [X.den]
 rw [e1,e2,e3,e4]
 generalize q.den ρ=n
 have e5:0≤n→n.tmod 4294967296=n % 4294967296:=fun h=>Int.tmod_eq_emod_of_nonneg h
 have e6:n<0→n.tmod 4294967296=-((-n) % 4294967296):=fun h=>by
  have h1:=Int.neg_tmod (-n) 4294967296
  have h2:(-n).tmod 4294967296=(-n) % 4294967296:=Int.tmod_eq_emod_of_nonneg (by omega)
  rw [Int.neg_neg,h2] at h1
  exact h1
 rcases Int.lt_or_le n 0 with hn | hn
 ·rw [e6 hn]
  by_cases h:-(-n % 4294967296)<0
  ·rw [if_pos (decide_eq_true h)];omega
  ·rw [if_neg (by simpa using h)];omega
 ·rw [e5 hn,if_neg (by rw [decide_eq_true_eq];omega)]
theorem GU{c a b:X}{q:X} (hc:c=.lt (.rem q (.lit 4294967296)) (.lit 0)):(El c a b q).den ρ=if c.tt ρ then a.den ρ else b.den ρ:=by
 unfold El
 split
 ·split
  ·rename_i y v w h1 h2
   split
   ·split
    ·rename_i z u h3 h4 h5
     obtain rfl:=bu h1
     obtain rfl:=bu h2
     obtain rfl:=bu h3
     obtain rfl:=X.beq_eq h4
     obtain rfl:=X.beq_eq h5
     subst hc
     exact QI ρ _
    ·exact dX ρ c _ _
   ·exact dX ρ c _ _
  ·exact dX ρ c _ _
 ·exact dX ρ c a b
theorem Rh{i:Nat}{vb:Bool}{x y c:B}(h:aaF i vb x y=some c):c.den ρ=if ρ.b i==vb then x.den ρ else y.den ρ:=by
 have one:∀ (w:Bool) (b:B),ρ.b i=w→(gK (2 ^ i) (mV i w) b).den ρ=b.den ρ:=fun w b hw=>AY (fun j hj=>by
  rw [Nat.testBit_two_pow] at hj
  have hj:=of_decide_eq_true hj
  subst hj
  rw [mj,hw]
  simp) b
 unfold aaF at h
 split at h
 ·rename_i he
  obtain rfl:=Option.some.inj h
  rw [B.beq_eq he]
  split<;>rfl
 ·have hx:=one vb x
  have hy:=one (!vb) y
  generalize gK (2 ^ i) (mV i vb) x=x1 at *
  generalize gK (2 ^ i) (mV i !vb) y=y1 at *
  dsimp only at h
  split at h
  ·rename_i he
   obtain rfl:=Option.some.inj h
   have:=B.beq_eq he
   subst this
   cases hb:ρ.b i<;>cases vb<;>simp_all
  ·split at h
   ·obtain rfl:=Option.some.inj h
    cases hb:ρ.b i<;>cases vb<;>simp_all [B.den]
   ·obtain rfl:=Option.some.inj h
    cases hb:ρ.b i<;>cases vb<;>simp_all [B.den]
   ·cases h
theorem GR(c a b:X)(m v:Nat)(hc:c=.cube m v):(Ej c a b m v).den ρ=if c.tt ρ then a.den ρ else b.den ρ:=by
 unfold Ej
 split
 ·rename_i hm
  have hm:=Nat.eq_of_beq_eq_true hm
  refine eW (ρ:=ρ) (Pr:=fun x:X=>x.den ρ=if c.tt ρ then a.den ρ else b.den ρ) (dX ρ c a b) fun l t n u ha hb=>?_
  split
  ·rename_i r s hz
   rw [gA,ha,hb]
   have hbit:=kQ (ρ:=ρ) (g:=fun x y=>if ρ.b m.log2==Nat.testBit v m.log2 then x else y) (fun _ _ _ h=>Rh ρ h) hz
   have ht:c.tt ρ=(ρ.b m.log2==Nat.testBit v m.log2):=by
    subst hc
    simp only [X.tt,X.den,dd]
    rw [Bool.eq_iff_iff,bU,beq_iff_eq]
    constructor
    ·intro h
     exact h m.log2 (by rw [hm,Nat.log2_two_pow];simp)
    ·intro h j hj
     rw [hm,Nat.testBit_two_pow] at hj
     have hj:=of_decide_eq_true hj
     rw [←hj]
     exact h
   rw [ht]
   split
   ·rename_i he
    exact Rj fun i=>by rw [hbit i];simp only [he,if_true]
   ·rename_i he
    exact Rj fun i=>by rw [hbit i];simp only [he,Bool.false_eq_true,if_false]
  ·exact rR ρ c a b
 ·exact dX ρ c a b
theorem R0(c a b:X):(aaG c a b).den ρ=if c.tt ρ then a.den ρ else b.den ρ:=by
 unfold aaG
 split
 ·exact GR ρ _ a b _ _ rfl
 ·split
  ·rename_i h1 h2
   obtain rfl:=bu h1
   obtain rfl:=bu h2
   exact GU ρ rfl
  ·exact dX ρ _ _ _
 ·exact GS ρ rfl
 ·exact dX ρ _ _ _
theorem gd(c a b:X):(mkIte c a b).den ρ=if c.tt ρ then a.den ρ else b.den ρ:=by
 unfold mkIte
 split
 ·rename_i n
  simp only [X.tt,X.den,bI]
  by_cases h:n=0<;>simp [h]
 ·split
  ·rename_i h
   rw [X.beq_eq h];simp
  ·exact R0 ρ _ _ _
theorem oZ(c a b:X):(vN c a b).bw ρ=if c.tt ρ then a.bw ρ else b.bw ρ:=by
 unfold vN X.tt
 split
 ·rename_i n
  simp only [X.den,bI]
  by_cases h:n=0<;>simp [h]
 ·split
  ·rename_i h
   rw [X.beq_eq h];simp
  ·by_cases h:c.den ρ=0<;>simp [X.bw,h]
theorem z5(c a b:X):(mkIte c a b).tt ρ=if c.tt ρ then a.tt ρ else b.tt ρ:=by
 unfold X.tt
 rw [gd]
 unfold X.tt
 split<;>rfl
theorem Ic(a b:X):(mkAnd a b).tt ρ=(a.tt ρ&&b.tt ρ):=by
 unfold mkAnd
 rw [z5]
 cases a.tt ρ<;>simp [X.tt,X.den]
theorem z4(a b:X):(mkIff a b).tt ρ=(a.tt ρ==b.tt ρ):=by
 unfold mkIff
 split
 ·rename_i m n
  simp only [X.tt,X.den,bI,bne]
  cases (m==0)<;>cases (n==0)<;>rfl
 ·rename_i _ m _
  have h:(X.lit m).tt ρ=!aQ m 0:=by simp [X.tt,X.den,bI,bne]
  rw [h]
  split
  ·rename_i hm;rw [mz,hm];cases b.tt ρ<;>rfl
  ·rename_i hm;rw [show aQ m 0=false by simpa using hm];cases b.tt ρ<;>rfl
 ·rename_i m _
  have h:(X.lit m).tt ρ=!aQ m 0:=by simp [X.tt,X.den,bI,bne]
  rw [h]
  split
  ·rename_i hm;rw [mz,hm];cases a.tt ρ<;>rfl
  ·rename_i hm;rw [show aQ m 0=false by simpa using hm];cases a.tt ρ<;>rfl
 ·split
  ·rename_i he
   rw [X.beq_eq he]
   simp [X.tt,X.den]
  ·rw [X.tt]
   simp only [X.den,Cz,dd]
   cases a.tt ρ<;>cases b.tt ρ<;>rfl
theorem ofNat_mod(l:List Nat):(l.map (· % 256)).map UInt8.ofNat=l.map UInt8.ofNat:=by
 rw [List.map_map]
 apply List.map_congr_left
 intro n _
 apply UInt8.toNat.inj
 simp [UInt8.toNat_ofNat']
theorem ofNat_inj:∀ (l m:List Nat),l.map UInt8.ofNat=m.map UInt8.ofNat↔l.map (· % 256)=m.map (· % 256)
 | [],[]=>by simp
 | [],_::_=>by simp
 | _::_,[]=>by simp
 | a::l,b::m=>by
  simp only [List.map_cons,List.cons.injEq,ofNat_inj l m]
  constructor
  ·rintro ⟨h1,h2⟩
   refine⟨?_,h2⟩
   have:=congrArg UInt8.toNat h1
   simpa [UInt8.toNat_ofNat'] using this
  ·rintro ⟨h1,h2⟩
   refine⟨?_,h2⟩
   apply UInt8.toNat.inj
   simpa [UInt8.toNat_ofNat'] using h1
theorem xj(l m:List Nat):eN l m=decide (l=m):=by
 by_cases h:l=m
 ·subst h
  simp only [decide_true]
  induction l with
  | nil=>rfl
  | cons a l ih=>simp [eN,ih]
 ·simp only [h,decide_false]
  cases hb:eN l m
  ·rfl
  ·exact absurd (nw hb) h
theorem PF(l:List UInt8):Ag l≠[]:=by
 unfold Ag
 split<;>simp
theorem LY(l:List UInt8):(Ag l).length≤1000:=by
 unfold Ag
 split
 ·simp
 ·rename_i c m h
  have:(l.take 1000).length≤1000:=by simp;omega
  rw [h] at this
  exact this
theorem Pb(ρ:Env)(f:Nat)(n:Int):vr ρ f n≠[]:=by
 cases f with
 | zero=>simp [vr]
 | succ f=>exact PF _
theorem Lw(ρ:Env)(f:Nat)(n:Int):(vr ρ f n).length≤1000:=by
 cases f with
 | zero=>simp [vr]
 | succ f=>exact LY _
theorem NR:∀ {x:X},Io x=true→x.bw ρ≠[]:=by
 intro x
 induction x with
 | slit l=>
  intro h
  cases l with
  | nil=>simp [Io] at h
  | cons c l=>simp [X.bw]
 | sfn f a _=>intro _;simp only [X.bw];exact Pb _ _ _
 | scat a b ia ib=>
  intro h
  unfold Io at h
  split at h
  ·rename_i ha
   simp [X.bw,ia ha]
  ·simp [X.bw,ib h]
 | _=>intro h;simp [Io] at h
theorem vD{x:X}(h:isNone x=true):x.bw ρ=[]:=by
 unfold isNone at h
 split at h
 ·split at h
  ·rfl
  ·cases h
 ·cases h
theorem xz(a b:X):(Fp a b).den ρ=a7 (a.bw ρ==b.bw ρ):=by
 unfold Fp
 split
 ·rename_i he
  rw [X.beq_eq he]
  simp [X.den,a7]
 ·split
  ·rename_i h1 h2
   have e1:=vD ρ h1
   have e2:=NR ρ h2
   have:(a.bw ρ==b.bw ρ)=false:=by rw [e1];exact beq_eq_false_iff_ne.2 fun e=>e2 e.symm
   rw [this];rfl
  ·split
   ·rename_i h1 h2
    have e1:=vD ρ h2
    have e2:=NR ρ h1
    have:(a.bw ρ==b.bw ρ)=false:=by rw [e1];exact beq_eq_false_iff_ne.2 e2
    rw [this];rfl
   ·simp only [X.den]
theorem oh(a b:X):(mkSeq a b).tt ρ=(a.bw ρ==b.bw ρ):=by
 unfold mkSeq X.tt
 split
 ·rename_i l m
  simp only [X.den,dd,X.bw,xj]
  rw [Bool.eq_iff_iff]
  simp [←ofNat_inj]
 ·rw [xz,dd]
theorem DP(l:List Nat)(b:X):(DO l b).bw ρ=l.map UInt8.ofNat++b.bw ρ:=by
 unfold DO
 split
 ·simp
 ·split<;>simp [X.bw]
theorem iM(a b:X):(rJ a b).bw ρ=a.bw ρ++b.bw ρ:=by
 unfold rJ
 split
 ·rename_i h
  rw [vD ρ h];simp
 ·simp [X.bw]
theorem rZ(a b:X):(lk a b).bw ρ=a.bw ρ++b.bw ρ:=by
 induction a generalizing b with
 | slit l=>unfold lk;rw [DP];simp [X.bw]
 | scat a c ia ic=>unfold lk;rw [ia,ic];simp [X.bw]
 | lit n=>unfold lk;exact iM ρ _ _
 | svar i=>unfold lk;exact iM ρ _ _
 | sfn f a _=>unfold lk;exact iM ρ _ _
 | ite c x y _ _ _=>unfold lk;exact iM ρ _ _
 | btext t x y _ _=>unfold lk;exact iM ρ _ _
 | _=>unfold lk;simp [X.bw]
theorem Yj:∀ {x:X} {n:Nat},Pv x=some n→(x.bw ρ).length≤n:=by
 intro x
 induction x with
 | slit l=>
  intro n h
  obtain rfl:=Option.some.inj (show some l.length=some n from h)
  simp [X.bw]
 | sfn f a _=>
  intro n h
  obtain rfl:=Option.some.inj (show some 1000=some n from h)
  simp only [X.bw]
  exact Lw _ _ _
 | scat a b ia ib=>
  intro n h
  unfold Pv at h
  split at h
  ·rename_i m k hm hk
   obtain rfl:=Option.some.inj h
   have h1:=ia hm
   have h2:=ib hk
   simp only [X.bw,List.length_append]
   omega
  ·cases h
 | _=>intro n h;simp [Pv] at h
theorem vO(a:X):(z7 a).den ρ=((a.bw ρ).length:Int):=by
 unfold z7;split<;>simp [X.den,X.bw]
theorem C4{a:X} (h:(Fs a).tt ρ=true):((a.bw ρ).length:Int)≤1000000000:=by
 have old:(mkLe (z7 a) yj).tt ρ=true→((a.bw ρ).length:Int)≤1000000000:=fun h=>by
  rw [di] at h
  have:=of_decide_eq_true h
  simpa [vO,yj,X.den] using this
 unfold Fs at h
 split at h
 ·rename_i n hn
  split at h
  ·rename_i hb
   have h1:=Yj ρ hn
   have h2:=Nat.le_of_ble_eq_true hb
   omega
  ·exact old h
 ·exact old h
end
def av(ρ:Env)(pc:PC):Prop:=∀ f∈pc,f.1.tt ρ=f.2
theorem pW{ρ:Env}{x:X}:∀ {pc:PC} {b:Bool},av ρ pc→rM x pc=some b→x.tt ρ=b
 | [],_,_,h=>by simp [rM] at h
 | (y,c)::pc,b,hp,h=>by
  unfold rM at h
  split at h
  ·rename_i he
   simp only [Option.some.injEq] at h
   rw [←X.beq_eq he,←h]
   exact hp (y,c) (by simp)
  ·exact pW (fun f hf=>hp f (by simp [hf])) h
theorem dR{ρ:Env}(a b:X):(X.eq a b).tt ρ=(a.den ρ==b.den ρ):=by simp only [X.tt,X.den,dd]
theorem mP{ρ:Env}(a b:X):(X.lt a b).tt ρ=decide (a.den ρ<b.den ρ):=by simp only [X.tt,X.den,dd]
theorem pK{ρ:Env}(a b:X):(X.le a b).tt ρ=decide (a.den ρ≤b.den ρ):=by simp only [X.tt,X.den,dd]
theorem oY{a b:Int} (h:decide (a<b)=true):a<b:=of_decide_eq_true h
theorem oV{a b:Int} (h:decide (a≤b)=true):a≤b:=of_decide_eq_true h
theorem gC{a b:Int} (h:decide (a<b)=false):b≤a:=Int.not_lt.1 (of_decide_eq_false h)
theorem gB{a b:Int} (h:decide (a≤b)=false):b<a:=Int.not_le.1 (of_decide_eq_false h)
theorem ND{ρ:Env}{a:X}:∀ {pc:PC} {n:Int},av ρ pc→G1 a pc=some n→n≤a.den ρ
 | [],_,_,h=>by simp [G1] at h
 | (x,b)::pc,n,hp,h=>by
  have hx:=hp (x,b) (by simp)
  have ih:∀ m,G1 a pc=some m→m≤a.den ρ:=fun m hm=>ND (fun f hf=>hp f (by simp [hf])) hm
  have hw:∀ k:Int,k≤a.den ρ→(match G1 a pc with | none=>some k | some m=>some (if decide (m<k) then k else m))=some n→n≤a.den ρ:=by
   intro k hk h
   cases hr:G1 a pc with
   | none=>rw [hr] at h;simp at h;omega
   | some m=>
    rw [hr] at h
    have:=ih m hr
    simp at h
    split at h<;>omega
  simp only at hx
  unfold G1 at h
  simp only at h
  split at h
  ·split at h
   ·rename_i he;rw [dR,X.beq_eq he] at hx;exact hw _ (by simp [X.den] at hx;omega) h
   ·exact ih n h
  ·split at h
   ·rename_i he;rw [mP,X.beq_eq he] at hx;simp only [X.den] at hx;exact hw _ (by first | (have:=oY hx;omega) | (have:=gC hx;omega)) h
   ·exact ih n h
  ·split at h
   ·rename_i he;rw [pK,X.beq_eq he] at hx;simp only [X.den] at hx;exact hw _ (by first | (have:=oV hx;omega) | (have:=gB hx;omega)) h
   ·exact ih n h
  ·split at h
   ·rename_i he;rw [mP,X.beq_eq he] at hx;simp only [X.den] at hx;exact hw _ (by first | (have:=oY hx;omega) | (have:=gC hx;omega)) h
   ·exact ih n h
  ·split at h
   ·rename_i he;rw [pK,X.beq_eq he] at hx;simp only [X.den] at hx;exact hw _ (by first | (have:=oV hx;omega) | (have:=gB hx;omega)) h
   ·exact ih n h
  ·exact ih n h
theorem Nv{ρ:Env}{a:X}:∀ {pc:PC} {n:Int},av ρ pc→GK a pc=some n→a.den ρ≤n
 | [],_,_,h=>by simp [GK] at h
 | (x,b)::pc,n,hp,h=>by
  have hx:=hp (x,b) (by simp)
  have ih:∀ m,GK a pc=some m→a.den ρ≤m:=fun m hm=>Nv (fun f hf=>hp f (by simp [hf])) hm
  have hw:∀ k:Int,a.den ρ≤k→(match GK a pc with | none=>some k | some m=>some (if decide (k<m) then k else m))=some n→a.den ρ≤n:=by
   intro k hk h
   cases hr:GK a pc with
   | none=>rw [hr] at h;simp at h;omega
   | some m=>
    rw [hr] at h
    have:=ih m hr
    simp at h
    split at h<;>omega
  simp only at hx
  unfold GK at h
  simp only at h
  split at h
  ·split at h
   ·rename_i he;rw [dR,X.beq_eq he] at hx;exact hw _ (by simp [X.den] at hx;omega) h
   ·exact ih n h
  ·split at h
   ·rename_i he;rw [mP,X.beq_eq he] at hx;simp only [X.den] at hx;exact hw _ (by first | (have:=oY hx;omega) | (have:=gC hx;omega)) h
   ·exact ih n h
  ·split at h
   ·rename_i he;rw [pK,X.beq_eq he] at hx;simp only [X.den] at hx;exact hw _ (by first | (have:=oV hx;omega) | (have:=gB hx;omega)) h
   ·exact ih n h
  ·split at h
   ·rename_i he;rw [mP,X.beq_eq he] at hx;simp only [X.den] at hx;exact hw _ (by first | (have:=oY hx;omega) | (have:=gC hx;omega)) h
   ·exact ih n h
  ·split at h
   ·rename_i he;rw [pK,X.beq_eq he] at hx;simp only [X.den] at hx;exact hw _ (by first | (have:=oV hx;omega) | (have:=gB hx;omega)) h
   ·exact ih n h
  ·exact ih n h
theorem BR{ρ:Env}{a:X}{pc:PC}(hp:av ρ pc):∀ (f:Nat) (n:Int),n≤a.den ρ→DG a pc f n≤a.den ρ
 | 0,n,h=>h
 | f+1,n,h=>by
  simp only [DG]
  split
  ·rename_i hf
   have:=pW hp hf
   rw [dR] at this
   simp [X.den] at this
   exact BR hp f (n+1) (by omega)
  ·exact h
theorem wP{ρ:Env}{a:X}{pc:PC}(hp:av ρ pc):∀ (f:Nat) (n:Int),a.den ρ≤n→a.den ρ≤sP a pc f n
 | 0,n,h=>h
 | f+1,n,h=>by
  simp only [sP]
  split
  ·rename_i hf
   have:=pW hp hf
   rw [dR] at this
   simp [X.den] at this
   exact wP hp f (n-1) (by omega)
  ·exact h
theorem R6{ρ:Env}{a:X}{pc:PC}{n:Int}(hp:av ρ pc)(h:Zv a pc=some n):n≤a.den ρ:=by
 unfold Zv at h
 split at h
 ·rename_i m hm
  simp only [Option.some.injEq] at h
  rw [←h]
  exact BR hp _ _ (ND hp hm)
 ·simp at h
theorem RO{ρ:Env}{a:X}{pc:PC}{n:Int}(hp:av ρ pc)(h:Zt a pc=some n):a.den ρ≤n:=by
 unfold Zt at h
 split at h
 ·rename_i m hm
  simp only [Option.some.injEq] at h
  rw [←h]
  exact wP hp _ _ (Nv hp hm)
 ·simp at h
theorem pe{ρ:Env}{a:X}{pc:PC}{n:Int}(hp:av ρ pc) (h:lv (some n) (Zv a pc)=true):n<a.den ρ:=by
 unfold lv at h
 split at h
 ·rename_i m k e1 e2
  simp at h e1
  have:=R6 hp e2
  omega
 ·simp at h
theorem pd{ρ:Env}{a:X}{pc:PC}{n:Int}(hp:av ρ pc) (h:lv (Zt a pc) (some n)=true):a.den ρ<n:=by
 unfold lv at h
 split at h
 ·rename_i m k e1 e2
  simp at h e2
  have:=RO hp e1
  omega
 ·simp at h
theorem Gg{ρ:Env}{pc:PC}{x:X}{b:Bool}(hp:av ρ pc)(h:y2 pc x=some b):x.tt ρ=b:=by
 unfold y2 at h
 split at h
 ·rename_i c hc
  simp only [Option.some.injEq] at h
  rw [←h];exact pW hp hc
 ·split at h
  ·rw [X.tt]
   simp only [X.den,dd]
   exact Lf hp h
  ·simp only at h
   split at h
   ·rename_i hc
    simp only [Option.some.injEq] at h
    rw [dR,←h]
    rw [Bool.or_eq_true] at hc
    rcases hc with hc | hc
    ·have h1:=pe hp hc
     simp [X.den];omega
    ·have h1:=pd hp hc
     simp [X.den];omega
   ·split at h
    ·rename_i l u e1 e2
     split at h
     ·rename_i hb
      simp only [Option.some.injEq] at h
      rw [Bool.and_eq_true] at hb
      have h1:=R6 hp e1
      have h2:=RO hp e2
      have h3:=bu hb.1
      have h4:=bu hb.2
      rw [dR,←h]
      simp [X.den];omega
     ·simp at h
    ·simp at h
  ·simp only at h
   split at h
   ·rename_i hc
    have h1:=pd hp hc
    simp only [Option.some.injEq] at h
    rw [mP,←h];simp only [X.den];first | (exact decide_eq_true (by omega)) | (exact decide_eq_false (by omega))
   ·split at h
    ·rename_i hc
     have h1:=pe hp hc
     simp only [Option.some.injEq] at h
     rw [mP,←h];simp only [X.den];first | (exact decide_eq_true (by omega)) | (exact decide_eq_false (by omega))
    ·simp at h
  ·simp only at h
   split at h
   ·rename_i hc
    have h1:=pd hp hc
    simp only [Option.some.injEq] at h
    rw [pK,←h];simp only [X.den];first | (exact decide_eq_true (by omega)) | (exact decide_eq_false (by omega))
   ·split at h
    ·rename_i hc
     have h1:=pe hp hc
     simp only [Option.some.injEq] at h
     rw [pK,←h];simp only [X.den];first | (exact decide_eq_true (by omega)) | (exact decide_eq_false (by omega))
    ·simp at h
  ·simp only at h
   split at h
   ·rename_i hc
    have h1:=pe hp hc
    simp only [Option.some.injEq] at h
    rw [mP,←h];simp only [X.den];first | (exact decide_eq_true (by omega)) | (exact decide_eq_false (by omega))
   ·split at h
    ·rename_i hc
     have h1:=pd hp hc
     simp only [Option.some.injEq] at h
     rw [mP,←h];simp only [X.den];first | (exact decide_eq_true (by omega)) | (exact decide_eq_false (by omega))
    ·simp at h
  ·simp only at h
   split at h
   ·rename_i hc
    have h1:=pe hp hc
    simp only [Option.some.injEq] at h
    rw [pK,←h];simp only [X.den];first | (exact decide_eq_true (by omega)) | (exact decide_eq_false (by omega))
   ·split at h
    ·rename_i hc
     have h1:=pd hp hc
     simp only [Option.some.injEq] at h
     rw [pK,←h];simp only [X.den];first | (exact decide_eq_true (by omega)) | (exact decide_eq_false (by omega))
    ·simp at h
  ·simp at h
def fJ(ρ:Env):List (X×Int)→Int
 | []=>0
 | (x,c)::l=>c*x.den ρ+fJ ρ l
def gO.den(ρ:Env)(g:gO):Int:=fJ ρ g.ts+g.k
section
variable {ρ:Env}
theorem FQ(x:X)(c:Int):∀ l:List (X×Int),fJ ρ (Xr x c l)=c*x.den ρ+fJ ρ l
 | []=>rfl
 | (y,d)::l=>by
  unfold Xr
  split
  ·rename_i h
   obtain rfl:=X.beq_eq h
   split
   ·rename_i hz
    have hz':=bu hz
    have:d*y.den ρ+c*y.den ρ=0:=by rw [←Int.add_mul,hz',Int.zero_mul]
    simp only [fJ]
    omega
   ·simp only [fJ,Int.add_mul]
    omega
  ·simp only [fJ,FQ x c l]
   omega
theorem BI(m:Int):∀ r l:List (X×Int),fJ ρ (BG m r l)=m*fJ ρ r+fJ ρ l
 | [],l=>by simp [BG,fJ]
 | (x,c)::r,l=>by
  simp only [BG,BI m r,FQ,fJ,Int.mul_add,Int.mul_assoc]
  omega
theorem gO.dO(m:Int)(a b:gO):(gO.plus m a b).den ρ=m*a.den ρ+b.den ρ:=by
 show fJ ρ (BG m a.ts b.ts)+(b.k+m*a.k)=_
 simp only [gO.den,BI,Int.mul_add]
 omega
theorem gO.BV(n:Int):(gO.mk [] n).den ρ=n:=by simp [gO.den,fJ]
theorem nf(x:X):(uP x).den ρ=x.den ρ:=by
 induction x with
 | lit n=>simp [uP,gO.den,fJ,X.den]
 | add a b ia ib=>
  simp only [uP,gO.dO,ia,ib,X.den]
  omega
 | sub a b ia ib=>
  simp only [uP,gO.dO,ia,ib,X.den]
  omega
 | mul a b ia ib=>
  unfold uP
  split
  ·split
   ·rename_i h
    have h':=bu h
    subst h'
    simp [gO.den,fJ,X.den]
   ·simp only [gO.dO,gO.BV,ia,X.den,Int.add_zero]
    exact Int.mul_comm _ _
  ·split
   ·split
    ·rename_i h
     have h':=bu h
     subst h'
     simp [gO.den,fJ,X.den]
    ·simp only [gO.dO,gO.BV,ib,X.den,Int.add_zero]
   ·simp [gO.den,fJ]
 | _=>simp [uP,gO.den,fJ]
theorem RC{x:X}{b:Bool}(h:x.tt ρ=b):∀ f∈Nm x b,0≤f.den ρ:=by
 intro f hf
 unfold Nm at hf
 split at hf
 ·rw [mP] at h
  have:=oY h
  obtain rfl:=List.mem_singleton.1 hf
  simp only [gO.dO,nf,gO.BV]
  omega
 ·rw [mP] at h
  have:=gC h
  obtain rfl:=List.mem_singleton.1 hf
  simp only [gO.dO,nf]
  omega
 ·rw [pK] at h
  have:=oV h
  obtain rfl:=List.mem_singleton.1 hf
  simp only [gO.dO,nf]
  omega
 ·rw [pK] at h
  have:=gB h
  obtain rfl:=List.mem_singleton.1 hf
  simp only [gO.dO,nf,gO.BV]
  omega
 ·rw [dR] at h
  have:=of_decide_eq_true h
  simp only [List.mem_cons,List.not_mem_nil,or_false] at hf
  rcases hf with rfl | rfl<;>simp only [gO.dO,nf]<;>omega
 ·simp at hf
theorem XM{x:X}{c:Int}{f:gO}(h:aat x c=some f):0≤f.den ρ:=by
 unfold aat at h
 split at h
 ·cases h
 ·rename_i r hr
  obtain⟨h1,h2⟩:=jw (ρ:=ρ) hr
  split at h<;>(obtain rfl:=Option.some.inj h;simp only [gO.den,fJ];omega)
theorem Nx(a:Int):0≤GL a∧(a≠0→0<GL a):=by
 unfold GL
 split
 ·rename_i h
  have:=of_decide_eq_true h
  exact⟨this,fun hn=>by omega⟩
 ·rename_i h
  have:=of_decide_eq_false h
  exact⟨by omega,fun hn=>by omega⟩
theorem Gl{x:X}{c:Int}{g f g':gO}(h:Nd x c g f=some g')(hf:0≤f.den ρ)(hg:0≤g'.den ρ):0≤g.den ρ:=by
 unfold Nd at h
 dsimp only at h
 split at h
 ·rename_i hd
  have hd':=of_decide_eq_true hd
  obtain rfl:=Option.some.inj h
  rw [gO.dO,gO.dO,gO.BV] at hg
  have h1:0<GL (DK x f.ts):=(Nx _).2 fun e=>by rw [e,Int.zero_mul] at hd';omega
  have h3:0≤GL c*f.den ρ:=Int.mul_nonneg (Nx c).1 hf
  have h4:0≤GL (DK x f.ts)*g.den ρ:=by rw [Int.neg_mul] at hg;omega
  exact Int.not_lt.1 fun hn=>absurd (Int.mul_neg_of_pos_of_neg h1 hn) (Int.not_lt.2 h4)
 ·cases h
theorem xG{rest:gO→Bool}{x:X}{c:Int}{g:gO}(hr:∀ g',rest g'=true→0≤g'.den ρ):∀ {fs:List gO},(∀ f∈fs,0≤f.den ρ)→mO rest x c g fs=true→0≤g.den ρ
 | [],_,h=>by
  unfold mO at h
  split at h
  ·cases h
  ·rename_i f hf
   split at h
   ·cases h
   ·rename_i g' he
    exact Gl he (XM hf) (hr _ h)
 | f::fs,hfs,h=>by
  unfold mO at h
  have ih:=xG (x:=x) (c:=c) (g:=g) hr (fs:=fs) fun f hf=>hfs f (List.mem_cons_of_mem _ hf)
  split at h
  ·exact ih h
  ·rename_i g' he
   split at h
   ·rename_i hg
    exact Gl he (hfs f List.mem_cons_self) (hr _ hg)
   ·exact ih h
theorem wq{fs:List gO}(hfs:∀ f∈fs,0≤f.den ρ):∀ {n:Nat} {g:gO},Ay n fs g=true→0≤g.den ρ
 | 0,g,h=>by simp [Ay] at h
 | n+1,g,h=>by
  unfold Ay at h
  split at h
  ·rename_i hg
   have:=of_decide_eq_true h
   simp only [gO.den,hg,fJ]
   omega
  ·exact xG (fun g' hg=>wq hfs hg) hfs h
theorem vn:∀ {pc:PC},av ρ pc→∀ f∈zo pc,0≤f.den ρ
 | [],_,f,hf=>by simp [zo] at hf
 | (x,b)::pc,hp,f,hf=>by
  rcases List.mem_append.1 (show f∈Nm x b++zo pc from hf) with hf | hf
  ·exact RC (hp (x,b) List.mem_cons_self) f hf
  ·exact vn (fun f hf=>hp f (List.mem_cons_of_mem _ hf)) f hf
theorem dJ{pc:PC}{a b:X}(hp:av ρ pc)(h:Bm pc a b=true):a.den ρ≤b.den ρ:=by
 have:=wq (vn hp) h
 simp only [gO.dO,nf] at this
 omega
theorem rX{pc:PC}{a b:X}(hp:av ρ pc)(h:Zw pc a b=true):a.den ρ<b.den ρ:=by
 have:=wq (vn hp) h
 simp only [gO.dO,nf,gO.BV] at this
 omega
theorem u5{pc:PC}{x:X}{b:Bool}(hp:av ρ pc)(h:y3 pc x=some b):x.tt ρ=b:=by
 unfold y3 at h
 split at h
 ·rw [mP]
  split at h
  ·rename_i hl
   obtain rfl:=Option.some.inj h
   exact decide_eq_true (rX hp hl)
  ·split at h
   ·rename_i hl
    obtain rfl:=Option.some.inj h
    exact decide_eq_false (Int.not_lt.2 (dJ hp hl))
   ·cases h
 ·rw [pK]
  split at h
  ·rename_i hl
   obtain rfl:=Option.some.inj h
   exact decide_eq_true (dJ hp hl)
  ·split at h
   ·rename_i hl
    obtain rfl:=Option.some.inj h
    exact decide_eq_false (Int.not_le.2 (rX hp hl))
   ·cases h
 ·rw [dR]
  split at h
  ·rename_i hl
   obtain rfl:=Option.some.inj h
   have:=rX hp hl
   exact beq_eq_false_iff_ne.2 (by omega)
  ·split at h
   ·rename_i hl
    obtain rfl:=Option.some.inj h
    have:=rX hp hl
    exact beq_eq_false_iff_ne.2 (by omega)
   ·split at h
    ·rename_i h1
     split at h
     ·rename_i h2
      obtain rfl:=Option.some.inj h
      have:=dJ hp h1
      have:=dJ hp h2
      exact beq_iff_eq.2 (by omega)
     ·cases h
    ·cases h
 ·cases h
end
theorem dF{ρ:Env}{pc:PC}{x:X}{b:Bool}(hp:av ρ pc)(h:eI pc x=some b):x.tt ρ=b:=by
 unfold eI at h
 split at h
 ·rename_i h0
  rw [←Option.some.inj h]
  exact Gg hp h0
 ·split at h
  ·exact u5 hp h
  ·cases h
theorem bo{α β:Type}{ρ:Env}{r:R α}{k:α→R β}{b:β} (h:(r.bind k).ai ρ=some b):∃ a,r.ai ρ=some a∧(k a).ai ρ=some b:=by
 induction r with
 | ok a=>exact⟨a,rfl,h⟩
 | br c t f it jf=>
  simp only [R.bind,R.ai] at h ⊢
  split at h
  ·rename_i hc;simp only [hc,if_true];exact it h
  ·rename_i hc;simp only [hc,if_false,Bool.false_eq_true];exact jf h
 | stuck s=>simp [R.bind,R.ai] at h
structure cn (ρ:Env) (st st':St):Prop where
 h:st'.h=st.h
 n:st'.n=st.n
 pc:av ρ st'.pc
theorem cn.refl{ρ:Env}{st:St}(h:av ρ st.pc):cn ρ st st:=⟨rfl,rfl,h⟩
theorem cn.trans{ρ:Env}{a b c:St}(h:cn ρ a b)(h':cn ρ b c):cn ρ a c:=⟨h'.h.trans h.h,h'.n.trans h.n,h'.pc⟩
theorem MG{α:Type}{ρ:Env}{st:St}{x:X}{k:St→Bool→R α}{a:α}(hp:av ρ st.pc)
  (h:(match eI st.pc x with
   | some b=>k st b
   | none=>R.br x (k {st with pc:=(x,true)::st.pc} true) (k {st with pc:=(x,false)::st.pc} false)).ai ρ=some a):
  ∃ st',cn ρ st st'∧(k st' (x.tt ρ)).ai ρ=some a:=by
 cases hd:eI st.pc x with
 | some b=>
  rw [hd] at h
  exact⟨st,.refl hp,by rw [dF hp hd];exact h⟩
 | none=>
  rw [hd] at h
  simp only [R.ai] at h
  cases hx:x.tt ρ with
  | true=>
   rw [hx,if_pos rfl] at h
   exact⟨{st with pc:=(x,true)::st.pc},⟨rfl,rfl,fun f hf=>(List.mem_cons.1 hf).elim (fun e=>by rw [e];exact hx) (hp f)⟩,h⟩
  | false=>
   rw [hx,if_neg (by simp)] at h
   exact⟨{st with pc:=(x,false)::st.pc},⟨rfl,rfl,fun f hf=>(List.mem_cons.1 hf).elim (fun e=>by rw [e];exact hx) (hp f)⟩,h⟩
theorem MF{α:Type}{ρ:Env}{x:X}:∀ {st:St} {k:St→Bool→R α} {a:α},av ρ st.pc→(cT st x k).ai ρ=some a→
  ∃ st',cn ρ st st'∧(k st' (x.tt ρ)).ai ρ=some a:=by
 induction x with
 | lit n=>
  intro st k a hp h
  refine⟨st,.refl hp,?_⟩
  simp only [cT] at h
  rw [show (X.lit n).tt ρ=!aQ n 0 from by simp [X.tt,X.den,bI,bne]]
  exact h
 | not y ih=>
  intro st k a hp h
  simp only [cT] at h
  obtain⟨st',hl,h'⟩:=ih (k:=fun st b=>k st !b) hp h
  exact⟨st',hl,by rw [show (X.not y).tt ρ=!y.tt ρ from by simp only [X.tt,X.den,bne,oq,Bool.not_not]];exact h'⟩
 | ite c a b ic ia ib=>
  intro st k r hp h
  simp only [cT] at h
  obtain⟨st',hl,h'⟩:=ic (k:=fun st t=>match t with
   | true=>cT st a k
   | false=>cT st b k) hp h
  have e:(X.ite c a b).tt ρ=if c.tt ρ then a.tt ρ else b.tt ρ:=by
   simp only [X.tt,X.den]
   by_cases hc:c.den ρ=0<;>simp [hc]
  cases hc:c.tt ρ with
  | true=>
   rw [hc] at h'
   obtain⟨st2,hl2,h2⟩:=ia hl.pc h'
   exact⟨st2,hl.trans hl2,by rw [e,hc];exact h2⟩
  | false=>
   rw [hc] at h'
   obtain⟨st2,hl2,h2⟩:=ib hl.pc h'
   exact⟨st2,hl.trans hl2,by rw [e,hc];exact h2⟩
 | _=>
  intro st k a hp h
  simp only [cT] at h
  exact MG hp h
theorem aU{α:Type}{ρ:Env}{x:X}{st:St}{k:St→Bool→R α}{a:α}(hp:av ρ st.pc) (h:(split st x k).ai ρ=some a):
  ∃ st',cn ρ st st'∧(k st' (x.tt ρ)).ai ρ=some a:=by
 rw [mM] at h
 exact MF hp h
end Go.Proofs.YtmickljjofbmiaaGreatDoor
namespace Go.Proofs.YtmickljjofbmiaaGreatDoor
open Go
theorem Fn.alM{f g:FuncId}(h:Nat.beq f g=true):f=g:=Nat.eq_of_beq_eq_true h
theorem cQ{a b:Bool}(h:je a b=true):a=b:=by cases a<;>cases b<;>first | rfl | cases h
theorem XC.beq_eq{a b:XC}(h:a.beq b=true):a=b:=by
 cases a<;>cases b<;>simp only [XC.beq,Bool.false_eq_true] at h<;>rw [X.beq_eq h]
mutual
theorem V.beq_eq:∀ (u v:V),u.beq v=true→u=v
 | .int k x,v,h=>by
  cases v<;>simp only [V.beq,Bool.false_eq_true] at h
  simp only [Bool.and_eq_true] at h
  rw [aX h.1,X.beq_eq h.2]
 | .bool x,v,h=>by
  cases v<;>simp only [V.beq,Bool.false_eq_true] at h
  rw [X.beq_eq h]
 | .str x,v,h=>by
  cases v<;>simp only [V.beq,Bool.false_eq_true] at h
  rw [X.beq_eq h]
 | .ptr b o,v,h=>by
  cases v<;>simp only [V.beq,Bool.false_eq_true] at h
  simp only [Bool.and_eq_true] at h
  rw [Nat.eq_of_beq_eq_true h.1,Nat.eq_of_beq_eq_true h.2]
 | .nilptr,v,h=>by cases v<;>simp only [V.beq,Bool.false_eq_true] at h;rfl
 | .slice b o n c,v,h=>by
  cases v<;>simp only [V.beq,Bool.false_eq_true] at h
  rename_i b' o' n' c'
  simp only [Bool.and_eq_true] at h
  obtain⟨⟨⟨h1,h2⟩,h3⟩,h4⟩:=h
  rw [Nat.eq_of_beq_eq_true h1,Nat.eq_of_beq_eq_true h2,Nat.eq_of_beq_eq_true h3]
  cases c<;>cases c'<;>simp only [Bool.and_eq_true,Bool.false_eq_true] at h4
  ·rw [Nat.eq_of_beq_eq_true h4]
  ·rw [Nat.eq_of_beq_eq_true h4.1.1,Nat.eq_of_beq_eq_true h4.1.2,Nat.eq_of_beq_eq_true h4.2]
 | .nilslice,v,h=>by cases v<;>simp only [V.beq,Bool.false_eq_true] at h;rfl
 | .map b,v,h=>by
  cases v<;>simp only [V.beq,Bool.false_eq_true] at h
  rw [Nat.eq_of_beq_eq_true h]
 | .nilmap,v,h=>by cases v<;>simp only [V.beq,Bool.false_eq_true] at h;rfl
 | .func f a b,v,h=>by
  cases f<;>cases v<;>try (simp only [V.beq,Bool.false_eq_true] at h)
  rename_i f g c d
  cases g<;>simp only [V.beq,Bool.false_eq_true] at h
  simp only [Bool.and_eq_true] at h
  rw [Nat.eq_of_beq_eq_true h.1.1,V.bD _ _ h.1.2,V.bD _ _ h.2]
 | .yield b,v,h=>by
  cases v<;>simp only [V.beq,Bool.false_eq_true] at h
  rw [Nat.eq_of_beq_eq_true h]
 | .nilfunc,v,h=>by cases v<;>simp only [V.beq,Bool.false_eq_true] at h;rfl
 | .iface t x,v,h=>by
  cases v<;>simp only [V.beq,Bool.false_eq_true] at h
  simp only [Bool.and_eq_true] at h
  rw [Nat.eq_of_beq_eq_true h.1,V.beq_eq _ _ h.2]
 | .niliface,v,h=>by cases v<;>simp only [V.beq,Bool.false_eq_true] at h;rfl
 | .agg l,v,h=>by
  cases v<;>simp only [V.beq,Bool.false_eq_true] at h
  rw [V.bD _ _ h]
 | .tuple l,v,h=>by
  cases v<;>simp only [V.beq,Bool.false_eq_true] at h
  rw [V.bD _ _ h]
 | .wptr b o,v,h=>by
  cases v<;>simp only [V.beq,Bool.false_eq_true] at h
  simp only [Bool.and_eq_true] at h
  rw [Nat.eq_of_beq_eq_true h.1,Nat.eq_of_beq_eq_true h.2]
 | .wslice b o n c,v,h=>by
  cases v<;>simp only [V.beq,Bool.false_eq_true] at h
  simp only [Bool.and_eq_true] at h
  obtain⟨⟨⟨h1,h2⟩,h3⟩,h4⟩:=h
  rw [Nat.eq_of_beq_eq_true h1,Nat.eq_of_beq_eq_true h2,X.beq_eq h3,X.beq_eq h4]
 | .ite c a b,v,h=>by
  cases v<;>simp only [V.beq,Bool.false_eq_true] at h
  simp only [Bool.and_eq_true] at h
  rw [X.beq_eq h.1.1,V.beq_eq _ _ h.1.2,V.beq_eq _ _ h.2]
 | .sptr b o n i,v,h=>by
  cases v<;>simp only [V.beq,Bool.false_eq_true] at h
  simp only [Bool.and_eq_true] at h
  obtain⟨⟨⟨h1,h2⟩,h3⟩,h4⟩:=h
  rw [Nat.eq_of_beq_eq_true h1,Nat.eq_of_beq_eq_true h2,Nat.eq_of_beq_eq_true h3,X.beq_eq h4]
 | .rest _ _ _ _,v,h=>by simp [V.beq] at h
 | .xslice w b off es n c,v,h=>by
  cases v<;>simp only [V.beq,Bool.false_eq_true] at h
  simp only [Bool.and_eq_true] at h
  obtain⟨⟨⟨⟨⟨h1,h2⟩,h3⟩,h4⟩,h5⟩,h6⟩:=h
  rw [cQ h1,Nat.eq_of_beq_eq_true h2,X.beq_eq h3,Nat.eq_of_beq_eq_true h4,X.beq_eq h5,XC.beq_eq h6]
 | .xptr w b i es c,v,h=>by
  cases v<;>simp only [V.beq,Bool.false_eq_true] at h
  simp only [Bool.and_eq_true] at h
  obtain⟨⟨⟨⟨h1,h2⟩,h3⟩,h4⟩,h5⟩:=h
  rw [cQ h1,Nat.eq_of_beq_eq_true h2,X.beq_eq h3,Nat.eq_of_beq_eq_true h4,Nat.eq_of_beq_eq_true h5]
 | .any i,v,h=>by
  cases v<;>simp only [V.beq,Bool.false_eq_true] at h
  rw [Nat.eq_of_beq_eq_true h]
theorem V.bD:∀ (u v:List V),V.eV u v=true→u=v
 | [],[],_=>rfl
 | [],_::_,h=>by simp [V.eV] at h
 | _::_,[],h=>by simp [V.eV] at h
 | a::l,b::m,h=>by
  simp only [V.eV,Bool.and_eq_true] at h
  rw [V.beq_eq _ _ h.1,V.bD _ _ h.2]
end
section
variable {ρ:Env} {π:Pl}
theorem yh(c:X)(a b:V):(V.ite c a b).ae ρ π=if c.tt ρ then a.ae ρ π else b.ae ρ π:=rfl
theorem bl(c:X)(a b:V):(Cm c a b).ae ρ π=if c.tt ρ then a.ae ρ π else b.ae ρ π:=by
 unfold Cm
 split
 ·rename_i h
  rw [V.beq_eq _ _ h]
  split<;>rfl
 ·rfl
mutual
theorem ig(c:X):∀ a b:V,(bV c a b).ae ρ π=if c.tt ρ then a.ae ρ π else b.ae ρ π
 | .int k x,b=>by
  unfold bV
  cases b with
  | int j y=>
   dsimp only
   split
   ·rename_i h
    obtain rfl:=aX h
    simp only [V.ae,gd]
    split<;>rfl
   ·rfl
  | _=>rfl
 | .bool x,b=>by
  unfold bV
  cases b with
  | bool y=>
   simp only [V.ae,z5]
   split<;>rfl
  | _=>rfl
 | .str x,b=>by
  unfold bV
  cases b with
  | str y=>
   simp only [V.ae,oZ]
   split<;>rfl
  | _=>rfl
 | .agg l,b=>by
  unfold bV
  cases b with
  | agg m=>
   dsimp only
   split
   ·rename_i r h
    simp only [V.ae,iQ c l m h]
    split<;>rfl
   ·rfl
  | _=>rfl
 | .tuple l,b=>by
  unfold bV
  cases b with
  | tuple m=>
   dsimp only
   split
   ·rename_i r h
    simp only [V.ae,iQ c l m h]
    split<;>rfl
   ·rfl
  | _=>rfl
 | .ptr _ _,b=>by unfold bV;exact bl c _ b
 | .nilptr,b=>by unfold bV;exact bl c _ b
 | .slice _ _ _ _,b=>by unfold bV;exact bl c _ b
 | .nilslice,b=>by unfold bV;exact bl c _ b
 | .map _,b=>by unfold bV;exact bl c _ b
 | .nilmap,b=>by unfold bV;exact bl c _ b
 | .func _ _ _,b=>by unfold bV;exact bl c _ b
 | .yield _,b=>by unfold bV;exact bl c _ b
 | .nilfunc,b=>by unfold bV;exact bl c _ b
 | .iface _ _,b=>by unfold bV;exact bl c _ b
 | .niliface,b=>by unfold bV;exact bl c _ b
 | .wptr _ _,b=>by unfold bV;exact bl c _ b
 | .wslice _ _ _ _,b=>by unfold bV;exact bl c _ b
 | .ite _ _ _,b=>by unfold bV;exact bl c _ b
 | .sptr _ _ _ _,b=>by unfold bV;exact bl c _ b
 | .rest _ _ _ _,b=>by unfold bV;exact bl c _ b
 | .xslice _ _ _ _ _ _,b=>by unfold bV;exact bl c _ b
 | .xptr _ _ _ _ _,b=>by unfold bV;exact bl c _ b
 | .any _,b=>by unfold bV;exact bl c _ b
theorem iQ(c:X):∀ (l m:List V) {r:List V},dv c l m=some r→V.af ρ π r=if c.tt ρ then V.af ρ π l else V.af ρ π m
 | [],[],r,h=>by
  obtain rfl:=Option.some.inj (show some []=some r from h)
  split<;>rfl
 | a::l,b::m,r,h=>by
  unfold dv at h
  dsimp only at h
  split at h
  ·rename_i q hq
   obtain rfl:=Option.some.inj h
   have:=iQ c l m hq
   simp only [V.af,ig c a b,this]
   split<;>rfl
  ·cases h
 | [],b::m,r,h=>by unfold dv at h;exact absurd h (by simp)
 | a::l,[],r,h=>by unfold dv at h;exact absurd h (by simp)
end
theorem zN(c:X):∀ (l m:List V) {r:List V},dv c l m=some r→r.length=l.length∧r.length=m.length
 | [],[],r,h=>by
  obtain rfl:=Option.some.inj (show some []=some r from h)
  exact⟨rfl,rfl⟩
 | a::l,b::m,r,h=>by
  unfold dv at h
  dsimp only at h
  split at h
  ·rename_i q hq
   obtain rfl:=Option.some.inj h
   have:=zN c l m hq
   simp only [List.length_cons]
   omega
  ·cases h
 | [],b::m,r,h=>by unfold dv at h;exact absurd h (by simp)
 | a::l,[],r,h=>by unfold dv at h;exact absurd h (by simp)
theorem kN{α:Type}:∀ {n:Nat} {st:St} {v:V} {k:St→V→R α} {a:α},av ρ st.pc→(dK n st v k).ai ρ=some a→
  ∃ st' v',cn ρ st st'∧(∀ π:Pl,v'.ae ρ π=v.ae ρ π)∧(k st' v').ai ρ=some a
 | 0,st,v,k,a,hp,h=>⟨st,v,.refl hp,fun _=>rfl,h⟩
 | n+1,st,v,k,a,hp,h=>by
  unfold dK at h
  split at h
  ·rename_i c x y
   obtain⟨st1,hl,h1⟩:=aU hp h
   split at h1
   ·rename_i hc
    obtain⟨st2,v2,hl2,hv2,h2⟩:=kN hl.pc h1
    exact⟨st2,v2,hl.trans hl2,fun π=>by rw [hv2 π,yh,if_pos hc],h2⟩
   ·rename_i hc
    obtain⟨st2,v2,hl2,hv2,h2⟩:=kN hl.pc h1
    exact⟨st2,v2,hl.trans hl2,fun π=>by rw [hv2 π,yh,if_neg (by rw [hc];simp)],h2⟩
  ·exact⟨st,v,.refl hp,fun _=>rfl,h⟩
theorem AX{i:X}:∀ {l:List V} {j:Nat} {r:V},C0 i j l=some r→∀ n,i.den ρ=((j+n:Nat):Int)→∀ v,l[n]?=some v→r.ae ρ π=v.ae ρ π
 | [],j,r,h,n,hi,v,hv=>by simp at hv
 | u::l,j,r,h,n,hi,v,hv=>by
  unfold C0 at h
  split at h
  ·obtain rfl:=Option.some.inj h
   cases n with
   | zero=>simp at hv;rw [hv]
   | succ n=>simp at hv
  ·split at h
   ·rename_i q hq
    obtain rfl:=Option.some.inj h
    rw [ig,eM]
    simp only [X.den]
    cases n with
    | zero=>
     simp at hv
     have e:(i.den ρ==Int.ofNat j)=true:=by rw [hi];simp
     simp only [e,if_true,hv]
    | succ n=>
     have e:(i.den ρ==Int.ofNat j)=false:=by rw [hi];simp;omega
     simp only [e,Bool.false_eq_true,if_false]
     exact AX hq n (by rw [hi];congr 1;omega) v (by simpa using hv)
   ·cases h
theorem GO{k:IntKind}{f:Nat}:∀ {l:List V} {j:Nat},X9 k f j l=true→∀ (n:Nat) (v:V),l[n]?=some v→v=V.int k (.wrap k (.fn1 f (.lit ((j+n:Nat):Int))))
 | [],j,h,n,v,hv=>by simp at hv
 | u::l,j,h,n,v,hv=>by
  unfold X9 at h
  split at h
  ·split at h
   ·rename_i h1 h2
    split at h
    ·rename_i h3 h4
     cases n with
     | zero=>
      simp at hv
      rw [←hv,aX h1,aX h2,Nat.eq_of_beq_eq_true h3,bu h4]
      rfl
     | succ n=>
      have:=GO h n v (by simpa using hv)
      rw [this,show j+1+n=j+(n+1) by omega]
    ·cases h
   ·cases h
  ·cases h
theorem C1{i:X}{l:List V}{r:V}(h:Qg i l=some r){n:Nat} (hi:i.den ρ=(n:Int)) {v:V} (hv:l[n]?=some v):r.ae ρ π=v.ae ρ π:=by
 have old:C0 i 0 l=some r→r.ae ρ π=v.ae ρ π:=fun h=>AX h n (by rw [hi];simp) v hv
 unfold Qg at h
 split at h
 ·split at h
  ·rename_i hf
   obtain rfl:=Option.some.inj h
   have:=GO hf n v hv
   rw [this]
   simp only [V.ae,X.den,hi,Nat.zero_add]
  ·exact old h
 ·exact old h
theorem A3{i:X}{u:V}:∀ (l:List V) (j:Nat),(jx i u j l).length=l.length
 | [],_=>rfl
 | _::l,j=>by simp [jx,A3 l]
theorem xF{i:X}{u:V}:∀ (l:List V) (j n:Nat),i.den ρ=((j+n:Nat):Int)→V.af ρ π (jx i u j l)=(V.af ρ π l).set n (u.ae ρ π)
 | [],j,n,_=>by simp [jx,V.af]
 | v::l,j,n,h=>by
  simp only [jx,V.af,ig,eM,X.den]
  cases n with
  | zero=>
   have e:(i.den ρ==Int.ofNat j)=true:=by rw [h];simp
   simp only [e,if_true,List.set_cons_zero,List.cons.injEq,true_and]
   have key:∀ (l:List V) (j':Nat),i.den ρ<(j':Int)→V.af ρ π (jx i u j' l)=V.af ρ π l:=by
    intro l
    induction l with
    | nil=>intro j' _;rfl
    | cons w l ih=>
     intro j' hj
     simp only [jx,V.af,ig,eM,X.den]
     have e:(i.den ρ==Int.ofNat j')=false:=beq_eq_false_iff_ne.2 (by simp;omega)
     simp only [e,Bool.false_eq_true,if_false]
     rw [ih (j'+1) (by omega)]
   exact key l (j+1) (by rw [h];omega)
  | succ n=>
   have e:(i.den ρ==Int.ofNat j)=false:=by rw [h];simp;omega
   simp only [e,Bool.false_eq_true,if_false,List.set_cons_succ,List.cons.injEq,true_and]
   exact xF l (j+1) n (by rw [h];congr 1;omega)
end
end Go.Proofs.YtmickljjofbmiaaGreatDoor
