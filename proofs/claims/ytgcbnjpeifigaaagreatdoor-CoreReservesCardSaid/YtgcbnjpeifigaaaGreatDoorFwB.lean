/- Symbolic execution, part 3 a: bits mean what they say. Symbolic execution: the bounds that expressions have by themselves. Symbolic execution, part 4: expressions and tests mean what they say. Symbolic execution: values that are one of two; elements whose number is left open. No condition. -/
import Derived.Test.YtgcbnjpeifigaaaGreatDoorFwA
namespace Go.Proofs.YtgcbnjpeifigaaaGreatDoor
open Go
section
variable {ρ:Env}
theorem B.gI(b:B):b.not.den ρ=!b.den ρ:=by cases b<;>simp[B.not,B.den]
theorem B.FK{a b c:B}(h:a.and b=some c):c.den ρ=(a.den ρ&&b.den ρ):=by
 unfold B.and at h;split at h
 ·injection h with h;subst h;simp[B.den]
 ·injection h with h;subst h;simp[B.den]
 ·split at h
  ·injection h with h;subst h;simp[B.den]
  ·injection h with h;subst h;simp[B.den]
  ·split at h
   ·rename_i hb;injection h with h;subst h;rw[B.beq_eq hb];simp
   ·rename_i hb;injection h with h;subst h;rw[B.beq_eq hb,B.gI];simp[B.den]
   ·cases h
theorem B.anx{a b c:B}(h:a.or b=some c):c.den ρ=(a.den ρ ||b.den ρ):=by
 unfold B.or at h;split at h
 ·rename_i d hd;injection h with h;subst h;rw[B.gI,B.FK hd,B.gI,B.gI];cases a.den ρ<;>cases b.den ρ<;>rfl
 ·cases h
theorem B.acW{a b c:B}(h:a.xor b=some c):c.den ρ=(a.den ρ ^^ b.den ρ):=by
 unfold B.xor at h;split at h
 ·injection h with h;subst h;simp[B.den]
 ·injection h with h;subst h;rw[B.gI];simp[B.den]
 ·split at h
  ·injection h with h;subst h;simp[B.den]
  ·injection h with h;subst h;rw[B.gI];simp[B.den]
  ·split at h
   ·rename_i hb;injection h with h;subst h;rw[B.beq_eq hb];simp[B.den]
   ·rename_i hb;injection h with h;subst h;rw[B.beq_eq hb,B.gI];simp[B.den]
   ·cases h
theorem B.U3{a b c:B}(h:a.diff b=some c):c.den ρ=(a.den ρ && !b.den ρ):=by
 rw[B.FK (show a.and b.not=some c from h),B.gI]
def dw(ρ:Env)(l:List B)(t:B)(i:Nat):Bool:=match l[i]? with
 |some b=>b.den ρ
 |none=>t.den ρ
theorem fW(t:B)(i:Nat):dw ρ [] t i=t.den ρ:=by simp[dw]
theorem dy(b:B)(l:List B)(t:B):dw ρ (b::l) t 0=b.den ρ:=by simp[dw]
theorem dx(b:B)(l:List B)(t:B)(i:Nat):dw ρ (b::l) t (i+1)=dw ρ l t i:=by simp[dw]
theorem bq(t:B):ay ρ [] t=-bp (t.den ρ):=rfl
theorem aC(b:B)(l:List B)(t:B):ay ρ (b::l) t=bp (b.den ρ)+2*ay ρ l t:=rfl
theorem n4(b:Bool):bp b=0\/bp b=1:=by cases b<;>simp[bp]
theorem DL(b:Bool):(bp b==0)=!b:=by cases b<;>rfl
theorem Zw{a b:Bool}(h:bp a=bp b):a=b:=by cases a<;>cases b<;>simp[bp]at h ⊢
theorem M6{f:B->B->Option B}{g:Bool->Bool->Bool} (hf:∀ a b c,f a b=some c->c.den ρ=g (a.den ρ) (b.den ρ)) {t:B}:∀ {m:List B} {u:B} {r:List B} {s:B},M5 f t m u=some (r,s)->∀ i,dw ρ r s i=g (t.den ρ) (dw ρ m u i)
 |[],u,r,s,h,i=>by
  unfold M5 at h;split at h
  ·rename_i c hc;simp only[qqk,qqv]at h;obtain⟨rfl,rfl⟩:=h;rw[fW,fW,hf _ _ _ hc]
  ·cases h
 |c::m,u,r,s,h,i=>by
  unfold M5 o9 at h;split at h
  ·cases h
  ·rename_i d hd;split at h
   ·cases h
   ·rename_i l' t' hr;simp only[qqk,qqv]at h;obtain⟨rfl,rfl⟩:=h;cases i with
    |zero=>rw[dy,dy,hf _ _ _ hd]
    |succ i=>rw[dx,dx,M6 hf hr]
theorem l8{f:B->B->Option B}{g:Bool->Bool->Bool} (hf:∀ a b c,f a b=some c->c.den ρ=g (a.den ρ) (b.den ρ)):∀ {l:List B} {t:B} {m:List B} {u:B} {r:List B} {s:B},qP f l t m u=some (r,s)->∀ i,dw ρ r s i=g (dw ρ l t i) (dw ρ m u i)
 |[],t,m,u,r,s,h,i=>by
  rw[fW];exact M6 hf (by unfold qP at h;exact h) i
 |b::l,t,[],u,r,s,h,i=>by
  unfold qP o9 at h;dsimp only at h;split at h
  ·cases h
  ·rename_i d hd;split at h
   ·cases h
   ·rename_i l' t' hr;simp only[qqk,qqv]at h;obtain⟨rfl,rfl⟩:=h;cases i with
    |zero=>rw[dy,dy,fW,hf _ _ _ hd]
    |succ i=>rw[dx,dx,l8 hf hr,fW,fW]
 |b::l,t,c::m,u,r,s,h,i=>by
  unfold qP o9 at h;dsimp only at h;split at h
  ·cases h
  ·rename_i d hd;split at h
   ·cases h
   ·rename_i l' t' hr;simp only[qqk,qqv]at h;obtain⟨rfl,rfl⟩:=h;cases i with
    |zero=>rw[dy,dy,dy,hf _ _ _ hd]
    |succ i=>rw[dx,dx,dx,l8 hf hr]
def eX(f:Nat->Bool):Nat->Int
 |0=>0
 |n+1=>bp (f 0)+2*eX (fun i=>f (i+1)) n
theorem tC{f g:Nat->Bool}:∀ {n:Nat},(∀ i,i<n->f i=g i)->eX f n=eX g n
 |0,_=>rfl
 |n+1,h=>by rw[eX,eX,h 0 (by omega),tC fun i hi=>h (i+1) (by omega)]
theorem kO(l:List B)(t:B):∀ n,ay ρ l t % 2 ^ n=eX (dw ρ l t) n:=by
 induction l with
 |nil=>
  intro n;rw[bq];have e:dw ρ [] t=fun _=>t.den ρ:=funext fun i=>fW t i
  rw[e];induction n with
  |zero=>simp[eX,Int.emod_one]
  |succ n ih=>
   rw[eX,<-ih,show(2:Int) ^ (n+1)=2*2 ^ n from by rw[Int.pow_succ];omega];have h1:(0:Int)<2 ^ n:=Int.pow_pos (by omega);cases t.den ρ with
   |false=>simp[bp]
   |true=>
    show(-1:Int) % (2*2 ^ n)=1+2*(-1 % 2 ^ n);rw[Int.emod_eq_add_self_emod,Int.emod_eq_of_lt (by omega) (by omega),Int.emod_eq_add_self_emod,Int.emod_eq_of_lt (a:=-1+2 ^ n) (by omega) (by omega)];omega
 |cons b l ih=>
  intro n;cases n with
  |zero=>simp[eX,Int.emod_one]
  |succ n=>
   rw[eX,dy,show(fun i=>dw ρ (b::l) t (i+1))=dw ρ l t from funext fun i=>dx b l t i,<-ih n,aC,show(2:Int) ^ (n+1)=2*2 ^ n from by rw[Int.pow_succ];omega];have h1:(0:Int)<2 ^ n:=Int.pow_pos (by omega);have h2:=Int.emod_nonneg (ay ρ l t) (b:=2 ^ n) (by omega);have h3:=Int.emod_lt_of_pos (ay ρ l t) h1;have h4:=Int.mul_ediv_add_emod (ay ρ l t) (2 ^ n);have h5:bp (b.den ρ)+2*ay ρ l t=(bp (b.den ρ)+2*(ay ρ l t % 2 ^ n))+(2*2 ^ n)*(ay ρ l t / 2 ^ n):=by
    have:2*ay ρ l t=2*(2 ^ n*(ay ρ l t / 2 ^ n)+ay ρ l t % 2 ^ n):=by rw[h4]
    rw[this,Int.mul_add,<-qz1];omega
   rw[h5,Int.add_mul_emod_self_left];refine Int.emod_eq_of_lt ?_ ?_
   ·rcases n4 (b.den ρ)with h|h<;>omega
   ·rcases n4 (b.den ρ)with h|h<;>omega
theorem qS:∀ (n:Nat) (l:List B) (t:B),ay ρ (yJ n l t) .zero=eX (dw ρ l t) n
 |0,l,t=>by simp[yJ,ay,eX,B.den,bp]
 |n+1,[],t=>by
  have e:dw ρ [] t=fun _=>t.den ρ:=funext fun i=>fW t i
  have ih:=qS n [] t;rw[e]at ih ⊢;unfold yJ;split
  ·have hz:∀ n,eX (fun _=>B.zero.den ρ) n=0:=by
    intro n;induction n with
    |zero=>rfl
    |succ n ih=>rw[eX,ih];simp[B.den,bp]
   rw[hz];simp[ay,B.den,bp]
  ·rw[aC,eX,ih]
 |n+1,b::l,t=>by
  unfold yJ;rw[aC,eX,qS n l t,dy];rw[show(fun i=>dw ρ (b::l) t (i+1))=dw ρ l t from funext fun i=>dx b l t i]
theorem DY:∀ (n:Nat) (l:List B) (t:B) (r:List B) (s:B),DX n l t=(r,s)->ay ρ r s=eX (dw ρ l t) n-2 ^ n*bp (dw ρ l t n)
 |n,[],t,r,s,h=>by
  have:r=[]/\s=t:=by cases n<;>simp[DX]at h<;>exact⟨h.1,h.2.symm⟩
  obtain⟨rfl,rfl⟩:=this;have e:dw ρ [] s=fun _=>s.den ρ:=funext fun i=>fW s i
  rw[e,bq];clear h e;induction n with
  |zero=>simp[eX]
  |succ n ih=>
   have ih':-bp (s.den ρ)=eX (fun _=>s.den ρ) n-2 ^ n*bp (s.den ρ):=ih;rw[eX,show(2:Int) ^ (n+1)=2*2 ^ n from by rw[Int.pow_succ];omega,qz1];dsimp only;omega
 |0,b::l,t,r,s,h=>by
  simp only[DX,qqv]at h;obtain⟨rfl,rfl⟩:=h;rw[bq,dy];simp[eX]
 |n+1,b::l,t,r,s,h=>by
  unfold DX at h;split at h;rename_i r' s' hr;simp only[qqv]at h;obtain⟨rfl,rfl⟩:=h;have ih:=DY n l t r' s' hr;rw[aC,ih,eX,dy,dx,show(fun i=>dw ρ (b::l) t (i+1))=dw ρ l t from funext fun i=>dx b l t i,show(2:Int) ^ (n+1)=2*2 ^ n from by rw[Int.pow_succ];omega,qz1];omega
theorem Fv(t:B):∀ l,ay ρ (Rq t l) t=ay ρ l t
 |[]=>rfl
 |b::l=>by
  have ih:=Fv t l;unfold Rq;split
  ·rename_i he;rw[he]at ih;split
   ·rename_i hb;rw[aC,<-ih,B.beq_eq hb,bq];omega
   ·rw[aC,aC,<-ih]
  ·rename_i c r he;rw[he]at ih;rw[aC,ih,aC]
theorem EC{t:B}:∀ {l:List B} {n:Int},Km t l=some n->ay ρ l t=n
 |[],n,h=>by
  unfold Km at h;split at h
  ·obtain rfl:=qqz h;simp[ay,B.den,bp]
  ·obtain rfl:=qqz h;simp[ay,B.den,bp]
  ·cases h
 |b::l,n,h=>by
  unfold Km at h;split at h
  ·cases h
  ·rename_i m hm;have ih:=EC hm;rw[aC,ih];split at h
   ·obtain rfl:=qqz h;simp[B.den,bp]
   ·obtain rfl:=qqz h;simp[B.den,bp];omega
   ·cases h
theorem iA(l:List B)(t:B):(BS l t).den ρ=ay ρ l t:=by
 unfold BS;split
 ·rename_i n h;simp only[X.den,EC h]
 ·simp only[X.den,Fv]
theorem ow(f:Nat->Bool):∀ n,eX f (n+1)=eX f n+2 ^ n*bp (f n)
 |0=>by simp[eX]
 |n+1=>by
  rw[eX,ow (fun i=>f (i+1)) n,eX,show(2:Int) ^ (n+1)=2*2 ^ n from by rw[Int.pow_succ];omega,qz1];omega
theorem qb(f:Nat->Bool):∀ n,0<=eX f n/\eX f n<2 ^ n
 |0=>by simp[eX]
 |n+1=>by
  have h:=qb (fun i=>f (i+1)) n;rw[eX,show(2:Int) ^ (n+1)=2*2 ^ n from by rw[Int.pow_succ];omega];rcases n4 (f 0)with h1|h1<;>omega
theorem kT(k:IntKind)(l:List B)(t:B):(BT k l t).den ρ=k.wrap (ay ρ l t):=by
 unfold BT IntKind.wrap;have h1:=kO (ρ:=ρ) l t k.bits;split
 ·rename_i hs;rw[iA,qS,<-h1,hs];simp
 ·rename_i hs;split;rename_i r s hr;rw[iA,DY _ _ _ _ _ hr];obtain⟨n,hn⟩:∃ n,k.bits=n+1:=by cases k<;>exact⟨_,rfl⟩
  simp only[hs,Bool.true_and,decide_eq_true_eq];rw[h1,hn,Nat.add_sub_cancel,ow];have h2:=qb (dw ρ l t) n;rw[show(2:Int) ^ (n+1)=2*2 ^ n from by rw[Int.pow_succ];omega];cases dw ρ l t n with
  |false=>
   rw[if_neg (by simp[bp];omega)];simp[bp]
  |true=>
   rw[if_pos (by simp[bp];omega)];simp[bp];omega
def j9(f:Nat->Bool):Nat->Nat
 |0=>0
 |n+1=>(f 0).toNat+2*j9 (fun i=>f (i+1)) n
theorem jO(f:Nat->Bool):∀ n,((j9 f n:Nat):Int)=eX f n
 |0=>rfl
 |n+1=>by
  rw[j9,eX,<-jO (fun i=>f (i+1)) n];cases f 0<;>simp[bp]
theorem Sp(f:Nat->Bool)(n:Nat):j9 f n<2 ^ n:=by
 have h:=(qb f n).2;rw[<-jO]at h
 exact_mod_cast h
theorem tD:∀ (f:Nat->Bool) (n i:Nat),(j9 f n).testBit i=(decide (i<n)&&f i)
 |f,0,i=>by simp [j9]
 |f,n+1,0=>by
  rw [j9,Nat.testBit_zero];cases f 0<;>simp<;>omega
 |f,n+1,i+1=>by
  rw [j9,Nat.testBit_succ];have:((f 0).toNat+2*j9 (fun i=>f (i+1)) n) / 2=j9 (fun i=>f (i+1)) n:=by
   cases f 0<;>simp<;>omega
  rw [this,tD];simp
def UL(f:Nat->Bool)(n:Nat):BitVec n:=BitVec.ofNat n (j9 f n)
theorem s8(f:Nat->Bool)(n:Nat):(UL f n).toNat=j9 f n:=by
 simp[UL,Nat.mod_eq_of_lt (Sp f n)]
theorem fg(f:Nat->Bool)(n i:Nat)(h:i<n):(UL f n).getLsbD i=f i:=by
 rw[BitVec.getLsbD,s8,tD];simp[h]
theorem jP(l:List B)(t:B)(n:Nat):BitVec.ofInt n (ay ρ l t)=UL (dw ρ l t) n:=by
 apply BitVec.eq_of_toNat_eq;rw[s8,BitVec.toNat_ofInt];have:=kO (ρ:=ρ) l t n;have h2:((2 ^ n:Nat):Int)=2 ^ n:=by simp
 rw[h2,this,<-jO];simp
theorem Yh(k:IntKind)(l:List B)(t:B):k.wrap (((UL (dw ρ l t) k.bits).toNat:Nat):Int)=k.wrap (ay ρ l t):=by
 rw[s8,jO,<-kO];unfold IntKind.wrap;rw[Int.emod_emod_of_dvd _ (Int.dvd_refl _)]
theorem UK{o:Nat}(k:IntKind){l:List B}{t:B}{m:List B}{u:B}{r:List B}{s:B} (h:qP (B.op o) l t m u=some (r,s)):gU o k (ay ρ l t) (ay ρ m u)=k.wrap (ay ρ r s):=by
 rw[<-Yh];unfold gU;split
 ·have hz:=l8 (g:=fun a b=>a&&b) (ρ:=ρ) (fun a b c hc=>B.FK hc) (show qP B.and l t m u=some (r,s)from h);rw[jP,jP];congr 3;apply BitVec.eq_of_getLsbD_eq;intro i hi;rw[BitVec.getLsbD_and,fg _ _ _ hi,fg _ _ _ hi,fg _ _ _ hi,hz]
 ·have hz:=l8 (g:=fun a b=>a ||b) (ρ:=ρ) (fun a b c hc=>B.anx hc) (show qP B.or l t m u=some (r,s)from h);rw[jP,jP];congr 3;apply BitVec.eq_of_getLsbD_eq;intro i hi;rw[BitVec.getLsbD_or,fg _ _ _ hi,fg _ _ _ hi,fg _ _ _ hi,hz]
 ·have hz:=l8 (g:=fun a b=>a ^^ b) (ρ:=ρ) (fun a b c hc=>B.acW hc) (show qP B.xor l t m u=some (r,s)from h);rw[jP,jP];congr 3;apply BitVec.eq_of_getLsbD_eq;intro i hi;rw[BitVec.getLsbD_xor,fg _ _ _ hi,fg _ _ _ hi,fg _ _ _ hi,hz]
 ·rename_i h0 h1 h2;have hop:B.op o=B.diff:=by
   unfold B.op;split
   ·exact absurd rfl h0
   ·exact absurd rfl h1
   ·exact absurd rfl h2
   ·rfl
  rw[hop]at h;have hz:=l8 (g:=fun a b=>a && !b) (ρ:=ρ) (fun a b c hc=>B.U3 hc) h;rw[jP,jP];congr 3;apply BitVec.eq_of_getLsbD_eq;intro i hi;rw[BitVec.getLsbD_and,BitVec.getLsbD_not,fg _ _ _ hi,fg _ _ _ hi,fg _ _ _ hi,hz];simp[hi]
theorem tN:∀ (f n:Nat),n<2 ^ f->ay ρ (qo f n) .zero=n
 |0,n,h=>by
  have:n=0:=by simpa using h
  subst this;simp[qo,ay,B.den,bp]
 |f+1,0,_=>by simp[qo,ay,B.den,bp]
 |f+1,m+1,h=>by
  unfold qo;have h1:(m+1) / 2<2 ^ f:=by
   rw[Nat.pow_succ]at h;omega
  rw[aC,tN f ((m+1) / 2) h1];cases hb:Nat.beq ((m+1) % 2) 1 with
  |true=>
   have:=qqq hb;simp only[B.den,bp,if_true];omega
  |false=>
   have:(m+1) % 2≠1:=Nat.ne_of_beq_eq_false hb;simp only[B.den,bp,qqj,if_false];omega
theorem EP(t:B):∀ l:List B,ay ρ (KL l) t.not=-1-ay ρ l t
 |[]=>by
  rw[KL,bq,bq,B.gI];cases t.den ρ<;>simp[bp]
 |b::l=>by
  rw[KL,aC,aC,EP t l,B.gI];cases b.den ρ<;>simp[bp]<;>omega
theorem Ro{x:X}{l:List B}{t:B} (h:toB x=some (l,t)):x.den ρ=ay ρ l t:=by
 unfold toB at h;split at h
 ·simp only[qqk,qqv]at h;obtain⟨rfl,rfl⟩:=h;rfl
 ·split at h
  ·rename_i n;split at h
   ·rename_i hn;simp only[qqk,qqv]at h;obtain⟨rfl,rfl⟩:=h;rw[tN 70 n (qqx hn)];rfl
   ·cases h
  ·rename_i n;split at h
   ·rename_i hn;simp only[qqk,qqv]at h;obtain⟨rfl,rfl⟩:=h;have:=EP (ρ:=ρ) .zero (qo 70 n);rw[tN 70 n (qqx hn)]at this;show Int.negSucc n=_;rw[show B.zero.not=B.one from rfl]at this;rw[this];omega
   ·cases h
 ·cases h
theorem fO{α:Type}{Pr:α->Prop}{a b:X}{k:List B->B->List B->B->α}{d:α}(hd:Pr d) (hk:∀ l t m u,a.den ρ=ay ρ l t->b.den ρ=ay ρ m u->Pr (k l t m u)):Pr (sr a b k d):=by
 have h:Pr (match toB a with
   |none=>d
   |some (l,t)=>match toB b with
    |none=>d
    |some (m,u)=>k l t m u):=by
  split
  ·exact hd
  ·rename_i l t ha;split
   ·exact hd
   ·rename_i m u hb;exact hk _ _ _ _ (Ro ha) (Ro hb)
 unfold sr;split
 ·exact hd
 ·exact h
theorem ya{k:IntKind}{d:X} {o:Option (List B×B)} {n:Int} (hd:d.den ρ=k.wrap n) (h:∀ r s,o=some (r,s)->k.wrap (ay ρ r s)=k.wrap n):(Ck k d o).den ρ=k.wrap n:=by
 unfold Ck;split
 ·rw[kT];exact h _ _ rfl
 ·exact hd
theorem tZ(l:List B)(t:B):∀ n,ay ρ (yD n l) t=ay ρ l t*2 ^ n
 |0=>by simp[yD]
 |n+1=>by
  rw[yD,aC,tZ l t n,Int.pow_succ,show B.zero.den ρ=false from rfl,show bp false=0 from rfl,Int.zero_add,<-qz1,Int.mul_comm 2,qz1,Int.mul_comm 2 (2 ^ n)]
theorem w7(t:B):∀ (n:Nat) (l:List B),ay ρ (AQ n l) t=ay ρ l t / 2 ^ n
 |0,l=>by simp[AQ]
 |n+1,[]=>by
  have h1:(0:Int)<2 ^ (n+1):=Int.pow_pos (by omega);rw[AQ,bq];cases t.den ρ with
  |false=>simp[bp]
  |true=>
   show(-1:Int)=(-1) / 2 ^ (n+1);exact(Int.ediv_eq_neg_one_of_neg_of_le (by omega) (by omega)).symm
 |n+1,b::l=>by
  rw[AQ,w7 t n l,aC,show(2:Int) ^ (n+1)=2*2 ^ n from by rw[Int.pow_succ];omega,<-Int.ediv_ediv_of_nonneg (by omega)];congr 1;rcases n4 (b.den ρ)with h|h<;>omega
theorem Ac{n s:Nat}(h:SM n=some s):n=2 ^ s:=by
 unfold SM at h;split at h
 ·rename_i hb;split at h
  ·obtain rfl:=qqz h;exact(qqq hb).symm
  ·cases h
 ·cases h
theorem fA:∀ l:List B,0<=ay ρ l .zero
 |[]=>by simp[ay,B.den,bp]
 |b::l=>by
  have:=fA l;rw[aC];rcases n4 (b.den ρ)with h|h<;>omega
theorem su:∀ l:List B,ay ρ l .one<0
 |[]=>by simp[ay,B.den,bp]
 |b::l=>by
  have:=su l;rw[aC];rcases n4 (b.den ρ)with h|h<;>omega
theorem uf{x y s:B}{c d:Bool} (h:RG x y c=some (s,d)):bp (x.den ρ)+bp (y.den ρ)+bp c=bp (s.den ρ)+2*bp d:=by
 unfold RG at h;split at h
 ·split at h
  ·simp only[qqk,qqv]at h;obtain⟨rfl,rfl⟩:=h;simp[B.den,bp]
  ·split at h
   ·simp only[qqk,qqv]at h;obtain⟨rfl,rfl⟩:=h;simp[B.den,bp]
   ·split at h
    ·simp only[qqk,qqv]at h;obtain⟨rfl,rfl⟩:=h;simp[B.den,bp]
    ·cases h
 ·split at h
  ·simp only[qqk,qqv]at h;obtain⟨rfl,rfl⟩:=h;simp[B.den,bp];omega
  ·split at h
   ·simp only[qqk,qqv]at h;obtain⟨rfl,rfl⟩:=h;simp[B.den,bp];omega
   ·split at h
    ·simp only[qqk,qqv]at h;obtain⟨rfl,rfl⟩:=h;simp[B.den,bp]
    ·cases h
theorem Ng{t u s:B}{r:List B}{c:Bool} (h:Nf t u c=some (r,s)):-bp (t.den ρ) + -bp (u.den ρ)+bp c=ay ρ r s:=by
 unfold Nf at h;split at h
 ·rename_i s' d hs;have:=uf (ρ:=ρ) hs;split at h
  ·simp only[qqk,qqv]at h;obtain⟨rfl,rfl⟩:=h;rw[bq];simp only[bp,if_true]at this ⊢;omega
  ·simp only[qqk,qqv]at h;obtain⟨rfl,rfl⟩:=h;rw[bq];simp only[bp,qqj,if_false]at this ⊢;omega
  ·cases h
 ·cases h
theorem n8{b:B} {o:Option (List B×B)} {r:List B} {s:B} (h:o9 (some b) o=some (r,s)):∃ l,o=some (l,s)/\r=b::l:=by
 unfold o9 at h;dsimp only at h;split at h
 ·cases h
 ·simp only[qqk,qqv]at h;obtain⟨rfl,rfl⟩:=h;exact⟨_,rfl,rfl⟩
theorem Jf{t:B}:∀ {m:List B} {u:B} {c:Bool} {r:List B} {s:B},Up t m u c=some (r,s)->-bp (t.den ρ)+ay ρ m u+bp c=ay ρ r s
 |[],u,c,r,s,h=>Ng (by unfold Up at h;exact h)
 |y::m,u,c,r,s,h=>by
  unfold Up at h;split at h
  ·rename_i s' d hs;obtain⟨l',h1,rfl⟩:=n8 h;have:=uf (ρ:=ρ) hs;have ih:=Jf h1;rw[aC,aC,<-ih];omega
  ·cases h
theorem py:∀ {l:List B} {t:B} {m:List B} {u:B} {c:Bool} {r:List B} {s:B},FF l t m u c=some (r,s)->ay ρ l t+ay ρ m u+bp c=ay ρ r s
 |[],t,m,u,c,r,s,h=>Jf (by unfold FF at h;exact h)
 |x::l,t,[],u,c,r,s,h=>by
  unfold FF at h;dsimp only at h;split at h
  ·rename_i s' d hs;obtain⟨l',h1,rfl⟩:=n8 h;have:=uf (ρ:=ρ) hs;have ih:=py h1;rw[bq]at ih;rw[aC,aC,bq,<-ih];omega
  ·cases h
 |x::l,t,y::m,u,c,r,s,h=>by
  unfold FF at h;dsimp only at h;split at h
  ·rename_i s' d hs;obtain⟨l',h1,rfl⟩:=n8 h;have:=uf (ρ:=ρ) hs;have ih:=py h1;rw[aC,aC,aC,<-ih];omega
  ·cases h
theorem B.An{a b c:B}(h:B.sub a b=some c):bp (a.den ρ)-bp (b.den ρ)=bp (c.den ρ):=by
 unfold B.sub at h;split at h
 ·obtain rfl:=qqz h;simp[B.den,bp]
 ·split at h
  ·obtain rfl:=qqz h;rw[B.gI,show B.one.den ρ=true from rfl];cases b.den ρ<;>rfl
  ·split at h
   ·rename_i hb;obtain rfl:=qqz h;rw[B.beq_eq hb];simp[B.den,bp]
   ·cases h
theorem pF{b:Option B} {o:Option (List B×B)} {r:List B} {s:B} (h:o9 b o=some (r,s)):∃ c l,b=some c/\o=some (l,s)/\r=c::l:=by
 cases b with
 |none=>cases h
 |some c=>
  obtain⟨l,h1,h2⟩:=n8 h;exact⟨c,l,rfl,h1,h2⟩
theorem MR{t:B}:∀ {m:List B} {u:B} {r:List B} {s:B},M5 B.sub t m u=some (r,s)->-bp (t.den ρ)-ay ρ m u=ay ρ r s
 |[],u,r,s,h=>by
  unfold M5 at h;split at h
  ·rename_i c hc;simp only[qqk,qqv]at h;obtain⟨rfl,rfl⟩:=h;have:=B.An (ρ:=ρ) hc;rw[bq,bq];omega
  ·cases h
 |y::m,u,r,s,h=>by
  unfold M5 at h;obtain⟨c,l,h1,h2,rfl⟩:=pF h;have:=B.An (ρ:=ρ) h1;have ih:=MR h2;rw[aC,aC,<-ih];omega
theorem CQ:∀ {l:List B} {t:B} {m:List B} {u:B} {r:List B} {s:B},qP B.sub l t m u=some (r,s)->ay ρ l t-ay ρ m u=ay ρ r s
 |[],t,m,u,r,s,h=>MR (by unfold qP at h;exact h)
 |x::l,t,[],u,r,s,h=>by
  unfold qP at h;obtain⟨c,l',h1,h2,rfl⟩:=pF h;have:=B.An (ρ:=ρ) h1;have ih:=CQ h2;rw[bq]at ih;rw[aC,aC,bq,<-ih];omega
 |x::l,t,y::m,u,r,s,h=>by
  unfold qP at h;obtain⟨c,l',h1,h2,rfl⟩:=pF h;have:=B.An (ρ:=ρ) h1;have ih:=CQ h2;rw[aC,aC,aC,<-ih];omega
theorem cf{m v:Nat}:bD ρ m v=true↔∀ i,m.testBit i=true->ρ.b i=v.testBit i:=by
 unfold bD;rw[List.all_eq_true];constructor
 ·intro h i hi;have hlt:i<m.log2+1:=by
   rcases qkz i (m.log2+1)with h1|h1
   ·exact h1
   ·have h2:m<2 ^ i:=qzw Nat.lt_log2_self (Nat.pow_le_pow_right (by omega) h1);rw[Nat.testBit_lt_two_pow h2]at hi;cases hi
  have:=h i (List.mem_range.2 hlt);simpa[hi]using this
 ·intro h i _;cases hi:m.testBit i with
  |false=>simp
  |true=>simp[h i hi]
def Q.is(ρ:Env):Q->Prop
 |.ff=>False
 |.c m v=>bD ρ m v=true
 |.bad=>False
theorem ny{i j:Nat}{b:Bool}:(n5 i b).testBit j=(b&&decide (i=j)):=by
 cases b<;>simp [n5,qz4]
theorem Zf{m i j:Nat}:(m |||2 ^ i).testBit j=(m.testBit j ||decide (i=j)):=by
 rw [Nat.testBit_or,qz4]
theorem Q.oZ{q:Q}{i:Nat}{b:Bool}(hq:q≠.bad)(hv:∀ m v,q=.c m v->∀ j,v.testBit j=true->m.testBit j=true):
  (q.with i b)≠.bad/\((q.with i b).is ρ↔q.is ρ/\ρ.b i=b)/\∀ m v,q.with i b=.c m v->∀ j,v.testBit j=true->m.testBit j=true:=by
 cases q with
 |ff=>simp [Q.with,Q.is]
 |bad=>exact absurd rfl hq
 |c m v=>
  have hv':=hv m v rfl;unfold Q.with
  dsimp only;cases hm:m.testBit i with
  |true=>
   dsimp only;have hc:Q.is ρ (.c m v)->ρ.b i=v.testBit i:=fun h=>cf.1 h i hm
   cases hvi:v.testBit i<;>cases b<;>dsimp only<;>rw [hvi] at hc
   ·exact⟨by simp,⟨fun h=>⟨h,hc h⟩,fun h=>h.1⟩,fun m' v' e=>hv m' v' e⟩
   ·exact⟨by simp,⟨fun h=>h.elim,fun h=>by have h1:=hc h.1;have h2:=h.2;rw [h1] at h2;cases h2⟩,fun m' v' e=>by cases e⟩
   ·exact⟨by simp,⟨fun h=>h.elim,fun h=>by have h1:=hc h.1;have h2:=h.2;rw [h1] at h2;cases h2⟩,fun m' v' e=>by cases e⟩
   ·exact⟨by simp,⟨fun h=>⟨h,hc h⟩,fun h=>h.1⟩,fun m' v' e=>hv m' v' e⟩
  |false=>
   dsimp only;have hvi:v.testBit i=false:=by
    cases h:v.testBit i with
    |false=>rfl
    |true=>rw [hv' i h] at hm;cases hm
   have e1:∀ j,(m |||2 ^ i).testBit j=(m.testBit j ||decide (i=j)):=fun j=>Zf
   have e2:∀ j,(v |||n5 i b).testBit j=(v.testBit j ||(b&&decide (i=j))):=by
    intro j;rw [Nat.testBit_or,ny]
   refine⟨by simp,?_,fun m' v' e j hj=>?_⟩
   ·simp only [Q.is,cf];constructor
    ·intro h;refine⟨fun j hj=>?_,?_⟩
     ·have:=h j (by rw [e1,hj];rfl);rw [this,e2];by_cases hij:i=j
      ·subst hij;rw [hm] at hj;cases hj
      ·simp [hij]
     ·have:=h i (by rw [e1];simp);rw [this,e2,hvi];simp
    ·rintro ⟨h1,h2⟩ j hj;rw [e1] at hj;rw [e2];by_cases hij:i=j
     ·subst hij;rw [hvi,h2];simp
     ·simp only [hij,decide_false,Bool.or_false,Bool.and_false] at hj ⊢;exact h1 j hj
   ·simp only [Q.c.injEq] at e;obtain⟨rfl,rfl⟩:=e;rw [e2] at hj;rw [e1];by_cases hij:i=j
    ·simp [hij]
    ·simp only [hij,decide_false,Bool.and_false,Bool.or_false] at hj;rw [hv' j hj];rfl
def Q.wf(q:Q):Prop:=∀ m v,q=.c m v->∀ j,v.testBit j=true->m.testBit j=true
theorem Q.Xq{q:Q}{a b:B}(hw:q.wf)(h:q.MA a b≠.bad)(hq:q≠.bad):((q.MA a b).is ρ↔q.is ρ/\a.den ρ=b.den ρ)/\(q.MA a b).wf:=by
 have W:=fun(i:Nat) (c:Bool)=>Q.oZ (ρ:=ρ) (i:=i) (b:=c) hq hw
 cases a<;>cases b<;>simp only[Q.MA,B.den]at h ⊢
 case zero.zero=>exact⟨by simp,hw⟩
 case one.one=>exact⟨by simp,hw⟩
 case zero.one=>exact⟨by simp[Q.is],fun m v e=>by cases e⟩
 case one.zero=>exact⟨by simp[Q.is],fun m v e=>by cases e⟩
 case zero.pos i=>exact⟨(W i false).2.1.trans (by cases ρ.b i<;>simp),(W i false).2.2⟩
 case zero.neg i=>exact⟨(W i true).2.1.trans (by cases ρ.b i<;>simp),(W i true).2.2⟩
 case one.pos i=>exact⟨(W i true).2.1.trans (by cases ρ.b i<;>simp),(W i true).2.2⟩
 case one.neg i=>exact⟨(W i false).2.1.trans (by cases ρ.b i<;>simp),(W i false).2.2⟩
 case pos.zero i=>exact⟨(W i false).2.1,(W i false).2.2⟩
 case pos.one i=>exact⟨(W i true).2.1,(W i true).2.2⟩
 case neg.zero i=>exact⟨(W i true).2.1.trans (by simp),(W i true).2.2⟩
 case neg.one i=>exact⟨(W i false).2.1.trans (by simp),(W i false).2.2⟩
 case pos.pos i j=>
  split at h
  ·rename_i hb;rw[qqq hb];exact⟨by simp,hw⟩
  ·exact absurd rfl h
 case neg.neg i j=>
  split at h
  ·rename_i hb;rw[qqq hb];exact⟨by simp,hw⟩
  ·exact absurd rfl h
 case pos.neg i j=>
  split at h
  ·rename_i hb;rw[qqq hb];exact⟨by simp[Q.is],fun m v e=>by cases e⟩
  ·exact absurd rfl h
 case neg.pos i j=>
  split at h
  ·rename_i hb;rw[qqq hb];exact⟨by simp[Q.is],fun m v e=>by cases e⟩
  ·exact absurd rfl h
theorem Q.Ak{q:Q}{a b:B}(hw:q.wf)(h:q.same a b≠.bad):((q.same a b).is ρ↔q.is ρ/\a.den ρ=b.den ρ)/\(q.same a b).wf:=by
 unfold Q.same at h ⊢;split at h
 ·exact⟨by simp[Q.is],hw⟩
 ·exact absurd rfl h
 ·exact Q.Xq hw h (by simp)
theorem wP{a b:Bool}{x y:Int}:(bp a+2*x=bp b+2*y)↔(a=b/\x=y):=by
 constructor
 ·intro h;cases a<;>cases b<;>simp[bp]at h ⊢<;>omega
 ·rintro⟨rfl,rfl⟩;rfl
theorem yI(t b:B)(l:List B)(u:B):(ay ρ [] t=ay ρ (b::l) u)↔(t.den ρ=b.den ρ/\ay ρ [] t=ay ρ l u):=by
 have e:ay ρ [] t=bp (t.den ρ)+2*ay ρ [] t:=by rw[bq];omega
 rw[aC];constructor
 ·intro h;rw[e]at h;exact wP.1 h
 ·intro h;rw[e];exact wP.2 h
theorem U8{t:B}:∀ {m:List B} {u:B} {q:Q},q.wf->eqR t m u q≠.bad->((eqR t m u q).is ρ↔q.is ρ/\ay ρ [] t=ay ρ m u)
 |[],u,q,hw,h=>by
  unfold eqR at h ⊢;rw[(Q.Ak hw h).1,bq,bq];constructor
  ·rintro⟨h1,h2⟩;exact⟨h1,by rw[h2]⟩
  ·rintro⟨h1,h2⟩;exact⟨h1,Zw (by omega)⟩
 |c::m,u,q,hw,h=>by
  unfold eqR at h ⊢;split at h
  ·simp[Q.is]
  ·have hs:q.same t c≠.bad:=by
    intro hb;rw[hb]at h;have:∀ m:List B,eqR t m u .bad=.bad:=by
     intro m;induction m with
     |nil=>rfl
     |cons c m ih=>unfold eqR;exact ih
    exact h (this m)
   obtain⟨h1,h2⟩:=Q.Ak (ρ:=ρ) hw hs;rw[U8 h2 h,h1,yI,and_assoc]
theorem zQ(u:B):∀ (l:List B) (t:B) (m:List B),Nv l t m u .bad=.bad
 |[],t,m=>by
  unfold Nv;induction m with
  |nil=>rfl
  |cons c m ih=>unfold eqR;exact ih
 |b::l,t,[]=>by unfold Nv;exact zQ u l t []
 |b::l,t,c::m=>by unfold Nv;exact zQ u l t m
theorem Nw:∀ {l:List B} {t:B} {m:List B} {u:B} {q:Q},q.wf->Nv l t m u q≠.bad->((Nv l t m u q).is ρ↔q.is ρ/\ay ρ l t=ay ρ m u)
 |[],t,m,u,q,hw,h=>by
  unfold Nv at h ⊢;exact U8 hw h
 |b::l,t,[],u,q,hw,h=>by
  unfold Nv at h ⊢;split at h
  ·simp[Q.is]
  ·dsimp only at h ⊢;have hs:q.same b u≠.bad:=by
    intro hb;rw[hb,zQ]at h;exact h rfl
   obtain⟨h1,h2⟩:=Q.Ak (ρ:=ρ) hw hs;rw[Nw h2 h,h1,and_assoc,eq_comm (a:=ay ρ (b::l) t),yI,eq_comm (a:=u.den ρ),eq_comm (a:=ay ρ [] u)]
 |b::l,t,c::m,u,q,hw,h=>by
  unfold Nv at h ⊢;split at h
  ·simp[Q.is]
  ·dsimp only at h ⊢;have hs:q.same b c≠.bad:=by
    intro hb;rw[hb,zQ]at h;exact h rfl
   obtain⟨h1,h2⟩:=Q.Ak (ρ:=ρ) hw hs;rw[Nw h2 h,h1,aC,aC,wP,and_assoc]
theorem wf0:(Q.c 0 0).wf:=by
 intro m v e j hj;simp only[Q.c.injEq]at e;obtain⟨rfl,rfl⟩:=e;exact hj
theorem is0:(Q.c 0 0).is ρ:=cf.2 fun i hi=>by simp at hi
theorem PG{l:List B}{t:B}{m:List B}{u:B}{d:X} (hd:d.den ρ=bp (ay ρ l t==ay ρ m u)):(Qp d (Nv l t m u (.c 0 0))).den ρ=bp (ay ρ l t==ay ρ m u):=by
 have key:=Nw (ρ:=ρ) (l:=l) (t:=t) (m:=m) (u:=u) wf0;cases hq:Nv l t m u (.c 0 0)with
 |bad=>exact hd
 |ff=>
  rw[hq]at key;have:=(key (by simp)).symm;have hne:¬ay ρ l t=ay ρ m u:=fun e=>(this.1 ⟨is0,e⟩)
  simp[Qp,X.den,hne,bp]
 |c m' v'=>
  rw[hq]at key;have hk:=key (by simp);have hk':bD ρ m' v'=true↔ay ρ l t=ay ρ m u:=by
   refine Iff.trans (show bD ρ m' v'=true↔(Q.c m' v').is ρ from Iff.rfl) (hk.trans ?_);exact⟨fun h=>h.2,fun h=>⟨is0,h⟩⟩
  have e:bD ρ m' v'=(ay ρ l t==ay ρ m u):=by
   cases hc:bD ρ m' v' with
   |true=>rw[hk'.1 hc];simp
   |false=>
    have:¬ay ρ l t=ay ρ m u:=fun e=>by rw[hk'.2 e]at hc;cases hc
    simp[this]
  unfold Qp;dsimp only;split
  ·rename_i hm;have hm0:m'=0:=qqq hm;have:bD ρ m' v'=true:=cf.2 fun i hi=>by rw[hm0]at hi;simp at hi
   rw[<-e,this];rfl
  ·rw[<-e];rfl
theorem Fg{m:Nat}(h:single m=true){j k:Nat}(hj:m.testBit j=true)(hk:m.testBit k=true):j=k:=by
 have e:=qqq h;have key:∀ (n m:Nat),m<2 ^ n->m &&& (m-1)=0->∀ j k,m.testBit j=true->m.testBit k=true->j=k:=by
  intro n;induction n with
  |zero=>
   intro m hm _ j k hj;have:m=0:=by simpa using hm
   subst this;simp at hj
  |succ n ih=>
   intro m hm he j k hj hk;rcases Nat.mod_two_eq_zero_or_one m with h0|h1
   ·-- the lowest bit is none
    have hj0:j≠0:=fun e=>by subst e;rw[Nat.testBit_zero]at hj;simp[h0]at hj
    have hk0:k≠0:=fun e=>by subst e;rw[Nat.testBit_zero]at hk;simp[h0]at hk
    obtain⟨j',rfl⟩:=Nat.exists_eq_succ_of_ne_zero hj0;obtain⟨k',rfl⟩:=Nat.exists_eq_succ_of_ne_zero hk0;rw[Nat.succ_eq_add_one,Nat.testBit_succ]at hj hk;have h2:(m / 2) &&& (m / 2-1)=0:=by
     have h3:((m &&& (m-1)) / 2)=(m / 2) &&& ((m-1) / 2):=by
      apply Nat.eq_of_testBit_eq;intro i;rw[<-Nat.testBit_succ,Nat.testBit_and,Nat.testBit_and,Nat.testBit_succ,Nat.testBit_succ]
     rw[he]at h3;have hm0:m≠0:=fun e=>by subst e;simp at hj
     have h4:(m-1) / 2=m / 2-1:=by omega
     rw[h4]at h3;simpa using h3.symm
    have:=ih (m / 2) (by rw[Nat.pow_succ]at hm;omega) h2 j' k' hj hk;omega
   ·-- the lowest bit is one: then it is all
    have h2:m / 2=0:=by
     have h3:((m &&& (m-1)) / 2)=(m / 2) &&& ((m-1) / 2):=by
      apply Nat.eq_of_testBit_eq;intro i;rw[<-Nat.testBit_succ,Nat.testBit_and,Nat.testBit_and,Nat.testBit_succ,Nat.testBit_succ]
     rw[he]at h3;have h4:(m-1) / 2=m / 2:=by omega
     rw[h4,Nat.and_self]at h3;simpa using h3.symm
    have hm1:m=1:=by omega
    subst hm1;have f:∀ i,(1:Nat).testBit i=true->i=0:=by
     intro i hi;have:(2 ^ 0:Nat).testBit i=true:=hi;rw[qz4]at this;exact(by simpa using this:0=i).symm
    rw[f j hj,f k hk]
 exact key (m+1) m (Nat.lt_trans (Nat.lt_succ_self m) Nat.lt_two_pow_self) e j k hj hk
theorem JY{m v v':Nat}(h:Ec m v=some v')(hw:∀ j,v.testBit j=true->m.testBit j=true):(bD ρ m v'=true↔¬bD ρ m v=true)/\∀ j,v'.testBit j=true->m.testBit j=true:=by
 unfold Ec at h;split at h
 ·cases h
 ·rename_i h0;split at h
  ·rename_i hs;obtain rfl:=qqz h;have hm0:m≠0:=Nat.ne_of_beq_eq_false h0;obtain⟨j,hj⟩:=Nat.exists_testBit_of_ne_zero hm0;have hone:∀ k,m.testBit k=true->k=j:=fun k hk=>Fg hs hk hj
   have e1:bD ρ m v=true↔ρ.b j=v.testBit j:=by
    rw[cf];exact⟨fun h=>h j hj,fun h k hk=>by rw[hone k hk];exact h⟩
   have e2:bD ρ m (m ^^^ v)=true↔ρ.b j=!v.testBit j:=by
    rw[cf];have:(m ^^^ v).testBit j=!v.testBit j:=by rw[Nat.testBit_xor,hj];simp
    exact⟨fun h=>by rw[h j hj,this],fun h k hk=>by rw[hone k hk,h,this]⟩
   refine⟨?_,fun k hk=>?_⟩
   ·rw[e1,e2];cases ρ.b j<;>cases v.testBit j<;>simp
   ·rw[Nat.testBit_xor]at hk;cases hmk:m.testBit k with
    |true=>rfl
    |false=>
     rw[hmk]at hk;have:=hw k (by simpa using hk);rw[hmk]at this;exact this
  ·cases h
def G.is(ρ:Env):G->Prop
 |.tt=>True
 |.ff=>False
 |.c m v=>bD ρ m v=true
 |.n m v=>¬bD ρ m v=true
 |.bad=>False
def G.wf:G->Prop
 |.c m v=>∀ j,v.testBit j=true->m.testBit j=true
 |.n m v=>∀ j,v.testBit j=true->m.testBit j=true
 |_=>True
theorem PB{i:Nat}{b:Bool}:bD ρ (2 ^ i) (n5 i b)=true↔ρ.b i=b:=by
 rw[cf];constructor
 ·intro h;have:=h i (by simp);rw[this,ny];simp
 ·intro h j hj;rw[qz4]at hj;have:i=j:=by simpa using hj
  subst this;rw[h,ny];simp
theorem wf1{i:Nat}{b:Bool}:∀ j,(n5 i b).testBit j=true->(2 ^ i).testBit j=true:=by
 intro j hj;rw[ny]at hj;rw[qz4];cases b<;>simp at hj ⊢
 exact hj
theorem Q.acT{m v:Nat}(h:∀ j,v.testBit j=true->m.testBit j=true):(Q.c m v).wf:=by
 intro m' v' e;simp only[Q.c.injEq]at e;obtain⟨rfl,rfl⟩:=e;exact h
theorem G.P6{r1 r0:G}{i:Nat}{b:Bool}(w1:r1.wf)(w0:r0.wf)(h1:r1≠.bad)(h0:r0≠.bad)(hm:r0.is ρ->r1.is ρ)(h:G.join r1 r0 i b≠.bad):
  ((G.join r1 r0 i b).is ρ↔if ρ.b i=b then r1.is ρ else r0.is ρ)/\(G.join r1 r0 i b).wf:=by
 cases r1 with
 |bad=>exact absurd rfl h1
 |ff=>
  refine⟨?_,trivial⟩;have h2:¬r0.is ρ:=fun h=>hm h
  show False↔if ρ.b i=b then False else r0.is ρ
  by_cases hb:ρ.b i=b
  ·simp[hb]
  ·simp[hb,h2]
 |tt=>
  cases r0 with
  |bad=>exact absurd rfl h0
  |tt=>exact⟨by simp[G.join,G.is],trivial⟩
  |ff=>
   refine⟨?_,wf1⟩;show bD ρ (2 ^ i) (n5 i b)=true↔_;rw[PB];simp[G.is]
  |c m v=>
   unfold G.join at h ⊢;dsimp only at h ⊢;cases hf:Ec m v with
   |none=>rw[hf]at h;exact absurd rfl h
   |some v'=>
    rw[hf]at h;dsimp only at h ⊢;obtain⟨f1,f2⟩:=JY (ρ:=ρ) hf w0;have W:=Q.oZ (ρ:=ρ) (q:=.c m v') (i:=i) (b:=!b) (by simp) (Q.acT f2);have hne:(ρ.b i=!b)↔¬ρ.b i=b:=by cases ρ.b i<;>cases b<;>simp
    split at h
    ·rename_i hq;rw[hq]at W;refine⟨?_,trivial⟩;have:=W.2.1;simp only[Q.is,false_iff,not_and,f1]at this;by_cases hb:ρ.b i=b
     ·simp[hb,G.is]
     ·simp only[hb,if_false,G.is,true_iff];cases hc:bD ρ m v with
      |true=>rfl
      |false=>exact absurd (hne.2 hb) (this (by simp[hc]))
    ·rename_i m' v'' hq;rw[hq]at W;refine⟨?_,W.2.2 m' v'' rfl⟩;have:=W.2.1;simp only[G.is];rw[show(bD ρ m' v''=true)↔_ from this];simp only[Q.is,hne,f1];by_cases hb:ρ.b i=b
     ·simp[hb]
     ·simp[hb]
    ·exact absurd rfl h
  |n m v=>
   have W:=Q.oZ (ρ:=ρ) (q:=.c m v) (i:=i) (b:=!b) (by simp) (Q.acT w0);unfold G.join at h ⊢;dsimp only at h ⊢;have hne:(ρ.b i=!b)↔¬ρ.b i=b:=by cases ρ.b i<;>cases b<;>simp
   split at h
   ·rename_i hq;rw[hq]at W;refine⟨?_,trivial⟩;have:=W.2.1;simp only[Q.is,false_iff,not_and]at this;by_cases hb:ρ.b i=b
    ·simp[hb,G.is]
    ·simp only[hb,if_false,G.is,true_iff];exact fun hc=>this hc (hne.2 hb)
   ·rename_i m' v' hq;rw[hq]at W;refine⟨?_,W.2.2 m' v' rfl⟩;have:=W.2.1;simp only[G.is];rw[show(bD ρ m' v'=true)↔_ from this];simp only[Q.is,hne];by_cases hb:ρ.b i=b
    ·simp[hb]
    ·simp[hb]
   ·exact absurd rfl h
 |c m v=>
  cases r0 with
  |bad=>exact absurd rfl h0
  |tt=>
   refine⟨?_,trivial⟩;have:=hm trivial;simp only[G.join,G.is]at this ⊢;simp[this]
  |ff=>
   have W:=Q.oZ (ρ:=ρ) (q:=.c m v) (i:=i) (b:=b) (by simp) (Q.acT w1);unfold G.join at h ⊢;dsimp only at h ⊢;cases hq:(Q.c m v).with i b with
   |bad=>exact absurd hq W.1
   |ff=>
    rw[hq]at W;refine⟨?_,trivial⟩;have:=W.2.1;simp only[Q.is,false_iff,not_and]at this;simp only[G.Qp,G.is,false_iff];by_cases hb:ρ.b i=b
    ·simp only[hb,if_true];exact fun hc=>this hc hb
    ·simp[hb]
   |c m' v'=>
    rw[hq]at W;refine⟨?_,W.2.2 m' v' rfl⟩;have:=W.2.1;simp only[G.Qp,G.is];rw[show(bD ρ m' v'=true)↔_ from this];simp only[Q.is];by_cases hb:ρ.b i=b
    ·simp[hb]
    ·simp[hb]
  |c m' v'=>
   unfold G.join at h ⊢;dsimp only at h ⊢;split at h
   ·rename_i ha hb;rw[qqq ha,qqq hb];exact⟨by simp,w0⟩
   ·exact absurd rfl h
  |n m' v'=>exact absurd rfl h
 |n m v=>
  cases r0 with
  |bad=>exact absurd rfl h0
  |tt=>
   refine⟨?_,trivial⟩;have:=hm trivial;simp only[G.join,G.is]at this ⊢;simp[this]
  |ff=>
   unfold G.join at h ⊢;dsimp only at h ⊢;cases hf:Ec m v with
   |none=>rw[hf]at h;exact absurd rfl h
   |some v'=>
    rw[hf]at h;dsimp only at h ⊢;obtain⟨f1,f2⟩:=JY (ρ:=ρ) hf w1;have W:=Q.oZ (ρ:=ρ) (q:=.c m v') (i:=i) (b:=b) (by simp) (Q.acT f2);cases hq:(Q.c m v').with i b with
    |bad=>exact absurd hq W.1
    |ff=>
     rw[hq]at W;refine⟨?_,trivial⟩;have:=W.2.1;simp only[Q.is,false_iff,not_and,f1]at this;simp only[G.Qp,G.is,false_iff];by_cases hb:ρ.b i=b
     ·simp only[hb,if_true];exact fun hc=>this hc hb
     ·simp[hb]
    |c m' v''=>
     rw[hq]at W;refine⟨?_,W.2.2 m' v'' rfl⟩;have:=W.2.1;simp only[G.Qp,G.is];rw[show(bD ρ m' v''=true)↔_ from this];simp only[Q.is,f1];by_cases hb:ρ.b i=b
     ·simp[hb]
     ·simp[hb]
  |c m' v'=>exact absurd rfl h
  |n m' v'=>
   unfold G.join at h ⊢;dsimp only at h ⊢;split at h
   ·rename_i ha hb;rw[qqq ha,qqq hb];exact⟨by simp,w0⟩
   ·exact absurd rfl h
theorem G.Eu{r0:G}{i:Nat}{b:Bool}:G.join .bad r0 i b=.bad:=rfl
theorem G.Et{r1:G}{i:Nat}{b:Bool}(h:G.join r1 .bad i b≠.bad):r1=.ff:=by
 cases r1<;>first|rfl|exact absurd rfl h
theorem j8{t:B}:∀ {l:List B} {c:Int},Dj t l c≠.bad->((Dj t l c).is ρ↔c<=ay ρ l t)/\(Dj t l c).wf
 |[],c,h=>by
  unfold Dj at h ⊢;rw [bq];cases h1:decide (c<=-1) with
  |true=>
   have:=of_decide_eq_true h1;refine⟨⟨fun _=>?_,fun _=>trivial⟩,trivial⟩;rcases n4 (t.den ρ) with h|h<;>omega
  |false=>
   have h1':=of_decide_eq_false h1;dsimp only;cases h2:decide (1<=c) with
   |true=>
    have:=of_decide_eq_true h2;refine⟨⟨fun h=>h.elim,fun h=>?_⟩,trivial⟩;exfalso;rcases n4 (t.den ρ) with h'|h'<;>omega
   |false=>
    have h2':=of_decide_eq_false h2;have hc:c=0:=by omega
    subst hc;dsimp only;cases t with
    |zero=>simp [G.is,G.wf,B.den,bp]
    |one=>simp [G.is,G.wf,B.den,bp]
    |pos i=>
     refine⟨?_,fun j hj=>by simp at hj⟩;show bD ρ (2 ^ i) 0=true↔_;rw [show (0:Nat)=n5 i false from rfl,PB,show (B.pos i).den ρ=ρ.b i from rfl];cases ρ.b i<;>simp [bp]
    |neg i=>
     refine⟨?_,fun j hj=>hj⟩;show bD ρ (2 ^ i) (2 ^ i)=true↔_;rw [show bD ρ (2 ^ i) (2 ^ i)=bD ρ (2 ^ i) (n5 i true) from rfl,PB,show (B.neg i).den ρ=!ρ.b i from rfl];cases ρ.b i<;>simp [bp]
 |b::l,c,h=>by
  unfold Dj at h ⊢;rw [aC];have step1:∀ x:Int,(c / 2<=x↔c<=1+2*x):=fun x=>by omega
  have step0:∀ x:Int,((c+1) / 2<=x↔c<=0+2*x):=fun x=>by omega
  cases b with
  |zero=>
   dsimp only at h ⊢;obtain⟨h1,h2⟩:=j8 h;exact⟨h1.trans (step0 _),h2⟩
  |one=>
   dsimp only at h ⊢;obtain⟨h1,h2⟩:=j8 h;exact⟨h1.trans (step1 _),h2⟩
  |pos i=>
   dsimp only at h ⊢;have hd:(B.pos i).den ρ=ρ.b i:=rfl;rw [hd];cases he:aT ((c+1) / 2) (c / 2) with
   |true=>
    have he':=bx he;rw [he] at h;dsimp only at h ⊢;obtain⟨h1,h2⟩:=j8 h;refine⟨h1.trans ?_,h2⟩;cases ρ.b i with
    |true=>exact step1 _
    |false=>rw [<-he'];exact step0 _
   |false=>
    rw [he] at h;dsimp only at h ⊢;have n1:Dj t l (c / 2)≠.bad:=fun e=>by rw [e,G.Eu] at h;exact h rfl
    obtain⟨h1,w1⟩:=j8 n1;by_cases n0:Dj t l ((c+1) / 2)=.bad
    ·rw [n0] at h ⊢;have:=G.Et h;rw [this] at h1 ⊢;refine⟨⟨fun h=>h.elim,fun h=>?_⟩,trivial⟩;exact h1.2 (by cases hb:ρ.b i<;>simp [hb,bp] at h<;>omega)
    ·obtain⟨h0,w0⟩:=j8 n0;obtain⟨h2,h3⟩:=G.P6 (ρ:=ρ) w1 w0 n1 n0 (fun h=>h1.2 (by have:=h0.1 h;omega)) h;refine⟨h2.trans ?_,h3⟩;cases ρ.b i with
     |true=>simp only [if_true];exact h1.trans (step1 _)
     |false=>simp only [qqj,if_false];exact h0.trans (step0 _)
  |neg i=>
   dsimp only at h ⊢;have hd:(B.neg i).den ρ=!ρ.b i:=rfl;rw [hd];cases he:aT ((c+1) / 2) (c / 2) with
   |true=>
    have he':=bx he;rw [he] at h;dsimp only at h ⊢;obtain⟨h1,h2⟩:=j8 h;refine⟨h1.trans ?_,h2⟩;cases ρ.b i with
    |false=>exact step1 _
    |true=>rw [<-he'];exact step0 _
   |false=>
    rw [he] at h;dsimp only at h ⊢;have n1:Dj t l (c / 2)≠.bad:=fun e=>by rw [e,G.Eu] at h;exact h rfl
    obtain⟨h1,w1⟩:=j8 n1;by_cases n0:Dj t l ((c+1) / 2)=.bad
    ·rw [n0] at h ⊢;have:=G.Et h;rw [this] at h1 ⊢;refine⟨⟨fun h=>h.elim,fun h=>?_⟩,trivial⟩;exact h1.2 (by cases hb:ρ.b i<;>simp [hb,bp] at h<;>omega)
    ·obtain⟨h0,w0⟩:=j8 n0;obtain⟨h2,h3⟩:=G.P6 (ρ:=ρ) w1 w0 n1 n0 (fun h=>h1.2 (by have:=h0.1 h;omega)) h;refine⟨h2.trans ?_,h3⟩;cases ρ.b i with
     |false=>simp only [if_true];exact h1.trans (step1 _)
     |true=>simp only [Bool.true_eq_false,if_false];exact h0.trans (step0 _)
theorem Qo{d:X}{g:G}{p:Prop} [Decidable p] (hd:d.den ρ=bp (decide p)) (h:g≠.bad->(g.is ρ↔p)):(ofG d g).den ρ=bp (decide p):=by
 cases g with
 |bad=>exact hd
 |tt=>have:=h (by simp);simp only[G.is,true_iff]at this;simp[ofG,X.den,this,bp]
 |ff=>have:=h (by simp);simp only[G.is,false_iff]at this;simp[ofG,X.den,this,bp]
 |c m v=>
  have:=h (by simp);simp only[G.is]at this;simp only[ofG,X.den];congr 1;cases hc:bD ρ m v with
  |true=>simp[this.1 hc]
  |false=>simp;exact fun hp=>by rw[this.2 hp]at hc;cases hc
 |n m v=>
  have:=h (by simp);simp only[G.is]at this;simp only[ofG,X.den,DL];congr 1;cases hc:bD ρ m v with
  |true=>simp;exact fun hp=>(this.2 hp) hc
  |false=>simp;exact this.1 (by simp[hc])
theorem KQ{d:X}{g:G}{p:Prop} [Decidable p] (hd:d.den ρ=bp (decide p)) (h:g≠.bad->(g.is ρ↔¬p)):(Ot d g).den ρ=bp (decide p):=by
 cases g with
 |bad=>exact hd
 |tt=>have:=h (by simp);simp only[G.is,true_iff]at this;simp[Ot,X.den,this,bp]
 |ff=>have:=h (by simp);simp only[G.is,false_iff,Decidable.not_not]at this;simp[Ot,X.den,this,bp]
 |c m v=>
  have:=h (by simp);simp only[G.is]at this;simp only[Ot,X.den,DL];congr 1;cases hc:bD ρ m v with
  |true=>simp;exact this.1 hc
  |false=>simp;exact Decidable.not_not.1 fun hp=>by rw[this.2 hp]at hc;cases hc
 |n m v=>
  have:=h (by simp);simp only[G.is]at this;simp only[Ot,X.den];congr 1;cases hc:bD ρ m v with
  |true=>simp;exact Decidable.not_not.1 fun hp=>(this.2 hp) hc
  |false=>simp;exact this.1 (by simp[hc])
theorem tz:∀ {pc:List (X×Bool)},(∀ f∈pc,f.1.tt ρ=f.2)->∀ i,(jz pc).1.testBit i=true->ρ.b i=(jz pc).2.testBit i
 |[],_,i,h=>by simp[jz]at h
 |(x,b)::pc,hp,i,h=>by
  have ih:=tz (pc:=pc) fun f hf=>hp f (qq3 _ hf)
  have hx:=hp (x,b) (qq1 ..);have mix:∀ (M V m v:Nat),(∀ i,M.testBit i=true->ρ.b i=V.testBit i)->(∀ i,m.testBit i=true->ρ.b i=v.testBit i)->∀ i,(M |||m).testBit i=true->ρ.b i=((V &&& (M ^^^ (M &&& m))) |||(v &&& m)).testBit i:=by
   intro M V m v hM hm i hi;simp only[Nat.testBit_or,Nat.testBit_and,Nat.testBit_xor]at hi ⊢;cases hmi:m.testBit i with
   |true=>rw[hm i hmi];cases M.testBit i<;>simp
   |false=>
    rw[hmi,Bool.or_false]at hi;rw[hM i hi,hi];simp
  unfold jz at h ⊢;split at h
  ·rename_i m v;split at h
   ·have hm:bD ρ m v=true:=by
     have:(X.cube m v).tt ρ=true:=hx;unfold X.tt X.den at this;cases hc:bD ρ m v with
     |true=>rfl
     |false=>rw[hc]at this;simp[bp]at this
    exact mix _ _ _ _ ih (cf.1 hm) i h
   ·split at h
    ·rename_i hs;have hm:bD ρ m v=false:=by
      have:(X.cube m v).tt ρ=false:=hx;unfold X.tt X.den at this;cases hc:bD ρ m v with
      |false=>rfl
      |true=>rw[hc]at this;simp[bp]at this
     have hone:∀ j,m.testBit j=true->∀ k,m.testBit k=true->j=k:=by
      intro j hj k hk;exact Fg hs hj hk
     refine mix _ _ _ _ ih (fun j hj=>?_) i h;rw[Nat.testBit_xor,hj];cases hb:ρ.b j with
     |true=>
      cases hv:v.testBit j with
      |false=>rfl
      |true=>
       have:bD ρ m v=true:=cf.2 fun k hk=>by
        obtain rfl:=hone j hj k hk;rw[hb,hv]
       rw[this]at hm;cases hm
     |false=>
      cases hv:v.testBit j with
      |true=>rfl
      |false=>
       have:bD ρ m v=true:=cf.2 fun k hk=>by
        obtain rfl:=hone j hj k hk;rw[hb,hv]
       rw[this]at hm;cases hm
    ·exact ih i h
  ·exact ih i h
theorem uF{M V m v:Nat}(hk:∀ i,M.testBit i=true->ρ.b i=V.testBit i):∀ {pc:List (X×Bool)},(∀ f∈pc,f.1.tt ρ=f.2)->gW M V m v pc=true->bD ρ m v=false
 |[],_,h=>by simp[gW]at h
 |(x,b)::pc,hp,h=>by
  have ih:=uF (m:=m) (v:=v) hk (pc:=pc) fun f hf=>hp f (qq3 _ hf)
  have hx:=hp (x,b) (qq1 ..);unfold gW at h;split at h
  ·rename_i m' v';split at h
   ·exact ih h
   ·split at h
    ·rename_i h0;dsimp only at h;split at h
     ·rename_i h1 h2;have e0:=qqq h0;have e1:=qqq h1;have e2:=qqq h2;have hm:bD ρ m' v'=false:=by
       have:(X.cube m' v').tt ρ=false:=hx;unfold X.tt X.den at this;cases hc:bD ρ m' v' with
       |false=>rfl
       |true=>rw[hc]at this;simp[bp]at this
      cases hc:bD ρ m v with
      |false=>rfl
      |true=>
       have hc':=cf.1 hc;have:bD ρ m' v'=true:=cf.2 fun i hi=>by
        have a0:=congrArg (fun x=>x.testBit i) e0;have a1:=congrArg (fun x=>x.testBit i) e1;have a2:=congrArg (fun x=>x.testBit i) e2;simp only[Nat.testBit_and,Nat.testBit_xor,hi,Bool.true_and,Nat.zero_testBit]at a0 a1 a2;cases hM:M.testBit i with
        |true=>
         rw[hM,Bool.true_and]at a0;rw[hk i hM];revert a0;cases v'.testBit i<;>cases V.testBit i<;>simp
        |false=>
         rw[hM]at a1 a2;have hmi:m.testBit i=true:=by simpa using a1
         rw[hc' i hmi];simpa using a2
       rw[this]at hm;cases hm
     ·exact ih h
    ·exact ih h
  ·exact ih h
theorem Ns{m v:Nat} {pc:List (X×Bool)} {b:Bool} (hp:∀ f∈pc,f.1.tt ρ=f.2) (h:F4 m v pc=some b):bD ρ m v=b:=by
 have hk:=tz hp;unfold F4 at h;split at h;rename_i M V hMV;rw[hMV]at hk;dsimp only at hk;split at h
 ·rename_i hb;obtain rfl:=qqz h;cases hc:bD ρ m v with
  |false=>rfl
  |true=>
   have hne:=Nat.ne_of_beq_eq_false hb;exfalso;apply hne;apply Nat.eq_of_testBit_eq;intro i;simp only[Nat.testBit_and,Nat.testBit_xor,Nat.zero_testBit];cases h1:m.testBit i with
   |false=>simp
   |true=>cases h2:M.testBit i with
    |false=>simp
    |true=>rw[<-cf.1 hc i h1,hk i h2];simp
 ·rename_i hb0;split at h
  ·rename_i hb1;obtain rfl:=qqz h;have e0:=qqq hb0;have e1:=qqq hb1;refine cf.2 fun i hi=>?_
   have a1:=congrArg (fun x=>x.testBit i) e1;have a0:=congrArg (fun x=>x.testBit i) e0;simp only[Nat.testBit_and,Nat.testBit_xor,hi,Bool.true_and,Nat.zero_testBit]at a1 a0;rw[a1,Bool.true_and]at a0;rw[hk i a1];revert a0;cases v.testBit i<;>cases V.testBit i<;>simp
  ·split at h
   ·rename_i hf;obtain rfl:=qqz h;exact uF hk hp hf
   ·cases h
theorem CN{M V:Nat}(hk:∀ i,M.testBit i=true->ρ.b i=V.testBit i)(b:B):(iL M V b).den ρ=b.den ρ:=by
 unfold iL;split
 ·rename_i i;split
  ·rename_i hi;split
   ·rename_i hv;simp only[B.den];rw[hk i hi,hv]
   ·rename_i hv;simp only[B.den];rw[hk i hi,hv]
  ·rfl
 ·rename_i i;split
  ·rename_i hi;split
   ·rename_i hv;simp only[B.den];rw[hk i hi,hv];rfl
   ·rename_i hv;simp only[B.den];rw[hk i hi,hv];rfl
  ·rfl
 ·rfl
theorem Fc{M V:Nat}(hk:∀ i,M.testBit i=true->ρ.b i=V.testBit i)(t:B):∀ l:List B,ay ρ (MF M V l) (iL M V t)=ay ρ l t
 |[]=>by rw[MF,bq,bq,CN hk]
 |b::l=>by rw[MF,aC,aC,CN hk,Fc hk t l]
theorem xf{x:X}{b:Bool}:∀ {pc:List (X×Bool)},(∀ f∈pc,f.1.tt ρ=f.2)->Ba x pc=some b->x.tt ρ=b
 |[],_,h=>by simp[Ba]at h
 |(y,c)::pc,hp,h=>by
  unfold Ba at h;split at h
  ·rename_i hb;rw[<-X.beq_eq hb,hp (y,c) (by simp)];exact qqz h
  ·exact xf (fun f hf=>hp f (by simp[hf])) h
theorem yt {pc:List (X×Bool)} (hp:∀ f∈pc,f.1.tt ρ=f.2) (x:X):(MI pc x).den ρ=x.den ρ:=by
 have hk:=tz hp;unfold MI;split
 ·split;rename_i M V hMV;rw[hMV]at hk;split
  ·rfl
  ·rw[iA,Fc hk];rfl
 ·split
  ·rename_i hd;have h:=xf hp hd;simp only[X.tt,bne_iff_ne,ne_eq]at h;rw[X.den.eq_16];simp[h]
  ·rename_i hd;have h:=xf hp hd;simp only[X.tt,bne_eq_false_iff_eq]at h;rw[X.den.eq_16];simp[h]
  ·rfl
 ·rfl
end
theorem da(b:Bool):(bp b != 0)=b:=by cases b<;>rfl
theorem pD(b:Bool):(bp b==0)=!b:=by cases b<;>rfl
theorem pC(b:Bool):0<=bp b/\bp b<=1:=by cases b<;>decide
theorem sa(k:IntKind)(n:Int):m5 k<=k.wrap n/\k.wrap n<=nF k:=by
 unfold IntKind.wrap;cases k<;>simp only[m5,nF,IntKind.bits,IntKind.signed,Bool.false_and,Bool.true_and,qqj,if_false,decide_eq_true_eq,Int.reducePow,Nat.reduceSub,ge_iff_le]<;>first|omega|(split<;>omega)
theorem bV{k:IntKind}{n:Int}(h1:m5 k<=n)(h2:n<=nF k):k.wrap n=n:=by
 unfold IntKind.wrap;cases k<;>simp only[m5,nF,IntKind.bits,IntKind.signed,Bool.false_and,Bool.true_and,qqj,if_false,decide_eq_true_eq,Int.reducePow,Nat.reduceSub,ge_iff_le]at *<;>first|omega|(split<;>omega)
theorem wrap_wrap(k:IntKind)(n:Int):k.wrap (k.wrap n)=k.wrap n:=bV (sa k n).1 (sa k n).2
theorem wrap_mul(k:IntKind)(a b:Int):k.wrap (k.wrap a*b)=k.wrap (a*b):=by
 have e:∀ m:Int,(2 ^ k.bits:Int) ∣ k.wrap m-m:=by
  intro m;unfold IntKind.wrap;have h:=Int.emod_add_mul_ediv m (2 ^ k.bits:Int);dsimp only;split
  ·exact⟨-(m / 2 ^ k.bits)-1,by rw[Int.mul_sub,Int.mul_neg];omega⟩
  ·exact⟨-(m / 2 ^ k.bits),by rw[Int.mul_neg];omega⟩
 have key:∀ x y:Int,(2 ^ k.bits:Int) ∣ x-y->k.wrap x=k.wrap y:=by
  intro x y h;have:x % (2 ^ k.bits:Int)=y % (2 ^ k.bits:Int):=by
   obtain⟨c,hc⟩:=h;rw[show x=y+2 ^ k.bits*c by omega,Int.add_mul_emod_self_left]
  unfold IntKind.wrap;rw[this]
 refine key _ _ ?_;obtain⟨c,hc⟩:=e a;exact⟨c*b,by rw[<-Int.sub_mul,hc,qz1]⟩
theorem P3(a b:Int):zx a b<=a/\zx a b<=b:=by
 unfold zx;split
 ·rename_i h;have:=of_decide_eq_true h;omega
 ·rename_i h;have:=of_decide_eq_false h;omega
theorem GM(a b:Int):a<=imax a b/\b<=imax a b:=by
 unfold imax;split
 ·rename_i h;have:=of_decide_eq_true h;omega
 ·rename_i h;have:=of_decide_eq_false h;omega
theorem abA(a b:Int):zx a b=a\/zx a b=b:=by
 unfold zx;split<;>simp
theorem uu{ρ:Env}:∀ (l:List B) (t:B),-Int.ofNat (2 ^ l.length)<=ay ρ l t/\ay ρ l t<=Int.ofNat (2 ^ l.length)-1
 |[],t=>by
  have:=pC (t.den ρ);simp only[ay,List.length_nil,Nat.pow_zero];show -1<=_/\_<=(1:Int)-1;omega
 |b::l,t=>by
  have h1:=uu (ρ:=ρ) l t;have h2:=pC (b.den ρ);simp only[ay,List.length_cons,Nat.pow_succ];have e:Int.ofNat (2 ^ l.length*2)=2*Int.ofNat (2 ^ l.length):=by
   show((2 ^ l.length*2:Nat):Int)=2*((2 ^ l.length:Nat):Int);omega
  rw[e];omega
theorem UM{ρ:Env}{l m:List B}{t u:B}(h:∀ i,dw ρ l t i=dw ρ m u i):ay ρ l t=ay ρ m u:=by
 have h1:=uu (ρ:=ρ) l t;have h2:=uu (ρ:=ρ) m u;have e1:=kO (ρ:=ρ) l t (l.length+m.length+1);have e2:=kO (ρ:=ρ) m u (l.length+m.length+1);rw[tC (fun i _=>h i),<-e2]at e1;have p1:(2:Nat) ^ l.length<=2 ^ (l.length+m.length):=Nat.pow_le_pow_right (by omega) (by omega);have p2:(2:Nat) ^ m.length<=2 ^ (l.length+m.length):=Nat.pow_le_pow_right (by omega) (by omega);have p3:(2:Int) ^ (l.length+m.length+1)=2*((2 ^ (l.length+m.length):Nat):Int):=by rw[Int.pow_succ,Int.mul_comm];simp
 rw[p3]at e1;have q1:-(((2 ^ l.length:Nat):Int))<=ay ρ l t/\ay ρ l t<=((2 ^ l.length:Nat):Int)-1:=h1;have q2:-(((2 ^ m.length:Nat):Int))<=ay ρ m u/\ay ρ m u<=((2 ^ m.length:Nat):Int)-1:=h2;generalize 2 ^ (l.length+m.length)=K at *;generalize 2 ^ l.length=A at *;generalize 2 ^ m.length=C at *;generalize ay ρ l t=x at *;generalize ay ρ m u=y at *;have hd:(2*(K:Int)) ∣ (x-y):=Int.dvd_of_emod_eq_zero (by rw[Int.sub_emod,e1];simp);have hz:x-y=0:=Int.eq_zero_of_dvd_of_natAbs_lt_natAbs hd (by omega);omega
theorem abS{A B a b:Int}(h1:-A<=a)(h2:a<=A)(h3:-B<=b)(h4:b<=B):-(A*B)<=a*b/\a*b<=A*B:=by
 have e1:=Int.mul_nonneg (show 0<=A-a by omega) (show 0<=B+b by omega);have e2:=Int.mul_nonneg (show 0<=A+a by omega) (show 0<=B-b by omega);have e3:=Int.mul_nonneg (show 0<=A-a by omega) (show 0<=B-b by omega);have e4:=Int.mul_nonneg (show 0<=A+a by omega) (show 0<=B+b by omega);simp only[Int.sub_mul,Int.add_mul,Int.mul_sub,Int.mul_add]at e1 e2 e3 e4;omega
def Rg.has(r:Rg)(n:Int):Prop:=r.lo<=n/\n<=r.hi
theorem Rg.mf{r:Rg}{n:Int}(h:r.has n):-r.abs<=n/\n<=r.abs:=by
 have:=GM r.hi (-r.lo);obtain⟨h1,h2⟩:=h;unfold Rg.abs;omega
theorem MV{a b m:Int}(h:-m<=a/\a<=m):-m<=a.tdiv b/\a.tdiv b<=m:=by
 have h1:=Int.natAbs_tdiv a b;have h2:(a.tdiv b).natAbs<=a.natAbs:=by rw[h1];exact Nat.div_le_self _ _
 omega
theorem CV{a b m:Int}(h:-m<=a/\a<=m):-m<=a.tmod b/\a.tmod b<=m:=by
 have h1:=Int.natAbs_tmod a b;have h2:(a.tmod b).natAbs<=a.natAbs:=by rw[h1];exact Nat.mod_le _ _
 omega
theorem SY{a b:Rg}{x y:Int}(h1:a.has x)(h2:b.has y):(Q5 a b).has (x*y):=by
 unfold Q5;split
 ·rename_i e1 e2;have e1:=of_decide_eq_true e1;have e2:=of_decide_eq_true e2;obtain⟨h1,h3⟩:=h1;obtain⟨h2,h4⟩:=h2;exact⟨Int.mul_le_mul h1 h2 e2 (by omega),Int.mul_le_mul h3 h4 (by omega) (by omega)⟩
 ·exact abS (Rg.mf h1).1 (Rg.mf h1).2 (Rg.mf h2).1 (Rg.mf h2).2
theorem SZ{a:Rg}{x y:Int}{m:Option Int}(h1:a.has x)(h2:∀ n,m=some n->y=n):(Mp a m).has (x.tdiv y):=by
 unfold Mp;split
 ·rename_i n;obtain rfl:=h2 n rfl;split
  ·rename_i e1 e2;have e1:=of_decide_eq_true e1;have e2:=of_decide_eq_true e2;have hx:0<=x:=Int.le_trans e1 h1.1;refine⟨?_,?_⟩
   ·rw[qkk hx];exact Int.ediv_nonneg hx (by omega)
   ·rw[qkk hx];exact Int.ediv_le_ediv e2 h1.2
  ·exact MV (Rg.mf h1)
 ·exact MV (Rg.mf h1)
theorem Sh{a:Rg}{x y:Int}{m:Option Int}(h1:a.has x)(h2:∀ n,m=some n->y=n):(Mq a m).has (x.tmod y):=by
 unfold Mq;split
 ·rename_i n;obtain rfl:=h2 n rfl;split
  ·rename_i e1;have e1:=of_decide_eq_true e1;have l1:=Int.tmod_lt_of_pos x e1;have l2:=Int.lt_tmod_of_pos x e1;split
   ·rename_i e2;have e2:=of_decide_eq_true e2;have hx:0<=x:=Int.le_trans e2 h1.1;have h3:=qk3 (b:=y) hx;have h4:=Int.emod_nonneg x (show y≠0 by omega);have h5:x % y<=x:=by
     have:=Int.emod_add_mul_ediv x y;have:=Int.mul_nonneg (show 0<=y by omega) (Int.ediv_nonneg hx (show 0<=y by omega));omega
    refine⟨by rw[h3];exact h4,?_⟩;rcases abA a.hi (y-1)with e|e<;>dsimp only<;>rw[e]
    ·have:=h1.2;omega
    ·omega
   ·exact⟨by dsimp only;omega,by dsimp only;omega⟩
  ·exact CV (Rg.mf h1)
 ·split
  ·rename_i e1;have e1:=of_decide_eq_true e1;have hx:0<=x:=Int.le_trans e1 h1.1;obtain⟨h2,h3⟩:=CV (a:=x) (b:=y) (m:=x) ⟨by omega,Int.le_refl _⟩;refine⟨?_,Int.le_trans h3 h1.2⟩;have h4:=Int.natAbs_tmod x y;have h5:0<=x.tmod y:=Int.tmod_nonneg y hx;exact h5
  ·exact CV (Rg.mf h1)
theorem wj{f:Rg->Rg->Rg}{a b:Option Rg}{r:Rg}(h:Ja f a b=some r):∃ x y,a=some x/\b=some y/\r=f x y:=by
 unfold Ja at h;split at h
 ·cases h
 ·split at h
  ·cases h
  ·exact⟨_,_,rfl,rfl,(qqz h).symm⟩
theorem UJ(o:Nat)(k:IntKind)(a b:Int):m5 k<=gU o k a b/\gU o k a b<=nF k:=by
 unfold gU;split<;>exact sa k _
theorem fD{ρ:Env}{b:X}(n:Int)(h:m6 b=some n):b.den ρ=n:=by
 cases b with
 |lit m=>exact qqz (show some m=some n from h)
 |_=>exact absurd (show(none:Option Int)=some n from h) (by simp)
theorem acu{ρ:Env}:∀ {x:X} {r:Rg},kg x=some r->r.has (x.den ρ):=by
 intro x;induction x with
 |lit n=>intro r h;obtain rfl:=qqz h;exact⟨Int.le_refl _,Int.le_refl _⟩
 |wrap k a _=>intro r h;obtain rfl:=qqz h;exact sa k _
 |bits o k a b _ _=>intro r h;obtain rfl:=qqz h;exact UJ o k _ _
 |shl k a b _ _=>intro r h;obtain rfl:=qqz h;exact sa k _
 |bv l t=>
  intro r h;unfold kg at h;have h0:=uu (ρ:=ρ) l t;split at h
  ·obtain rfl:=qqz h;have:=fA (ρ:=ρ) l;exact⟨by simp only[X.den];omega,h0.2⟩
  ·obtain rfl:=qqz h;exact h0
 |eq a b _ _=>intro r h;obtain rfl:=qqz h;exact pC _
 |lt a b _ _=>intro r h;obtain rfl:=qqz h;exact pC _
 |le a b _ _=>intro r h;obtain rfl:=qqz h;exact pC _
 |not a _=>intro r h;obtain rfl:=qqz h;exact pC _
 |seq a b _ _=>intro r h;obtain rfl:=qqz h;exact pC _
 |cube m v=>intro r h;obtain rfl:=qqz h;exact pC _
 |ite c a b _ ia ib=>
  intro r h;obtain⟨x,y,hx,hy,rfl⟩:=wj (show Ja _ (kg a) (kg b)=some r from h);have h1:=ia hx;have h2:=ib hy;have m1:=P3 x.lo y.lo;have m2:=GM x.hi y.hi;simp only[X.den];split
  ·exact⟨Int.le_trans m1.2 h2.1,Int.le_trans h2.2 m2.2⟩
  ·exact⟨Int.le_trans m1.1 h1.1,Int.le_trans h1.2 m2.1⟩
 |add a b ia ib=>
  intro r h;obtain⟨x,y,hx,hy,rfl⟩:=wj (show Ja _ (kg a) (kg b)=some r from h);obtain⟨h1,h2⟩:=ia hx;obtain⟨h3,h4⟩:=ib hy;exact⟨by simp only[X.den];omega,by simp only[X.den];omega⟩
 |sub a b ia ib=>
  intro r h;obtain⟨x,y,hx,hy,rfl⟩:=wj (show Ja _ (kg a) (kg b)=some r from h);obtain⟨h1,h2⟩:=ia hx;obtain⟨h3,h4⟩:=ib hy;exact⟨by simp only[X.den];omega,by simp only[X.den];omega⟩
 |mul a b ia ib=>
  intro r h;obtain⟨x,y,hx,hy,rfl⟩:=wj (show Ja _ (kg a) (kg b)=some r from h);exact SY (ia hx) (ib hy)
 |quo a b ia _=>
  intro r h;unfold kg at h;split at h
  ·rename_i s hs;obtain rfl:=qqz h;exact SZ (ia hs) fun n hn=>fD n hn
  ·cases h
 |rem a b ia _=>
  intro r h;unfold kg at h;split at h
  ·rename_i s hs;obtain rfl:=qqz h;exact Sh (ia hs) fun n hn=>fD n hn
  ·cases h
 |shr k a b ia _=>
  intro r h;unfold kg at h;split at h
  ·rename_i s hs;obtain rfl:=qqz h;obtain⟨h1,h2⟩:=ia hs;have m1:=P3 s.lo 0;have m2:=GM s.hi 0;simp only[X.den,yr];generalize min (b.den ρ).toNat k.bits=p;have hp:(0:Int)<2 ^ p:=Int.pow_pos (by omega);rw[qk4 _ (Int.le_of_lt hp)];generalize (2:Int) ^ p=q at hp;generalize a.den ρ=z at *;have e:=Int.emod_add_mul_ediv z q;have e1:=Int.emod_nonneg z (show q≠0 by omega);have e2:=Int.emod_lt_of_pos z hp;refine⟨?_,?_⟩
   ·dsimp only;rcases Int.lt_or_le z 0 with hz|hz
    ·have:z<=z / q:=by
      rw[Int.le_ediv_iff_mul_le hp];have:=Int.mul_le_mul_of_nonpos_left (show z<=0 by omega) (show(1:Int)<=q by omega);omega
     omega
    ·have:=Int.ediv_nonneg hz (Int.le_of_lt hp);omega
   ·dsimp only;rcases Int.lt_or_le z 0 with hz|hz
    ·have:z / q<=0:=Int.ediv_le_of_le_mul hp (by omega);omega
    ·have:=Int.ediv_le_self q hz;omega
  ·cases h
 |_=>intro r h;cases h
theorem ki{ρ:Env}{x:X}{r:Rg}(h:wD x=some r):r.has (x.den ρ):=acu (by rw[<-anO];exact h)
theorem xq{ρ:Env}{k:IntKind}{x:X}(h:inK k x=true):m5 k<=x.den ρ/\x.den ρ<=nF k:=by
 unfold inK at h;split at h
 ·rename_i r hr;obtain⟨h1,h2⟩:=ki (ρ:=ρ) hr;split at h
  ·rename_i h3;have h3:=of_decide_eq_true h3;have h4:=of_decide_eq_true h;omega
  ·cases h
 ·cases h
theorem rm{ρ:Env}{x:X}(h:B6 x=true):0<=x.den ρ:=by
 unfold B6 at h;split at h
 ·rename_i r hr;have:=(ki (ρ:=ρ) hr).1;have:=of_decide_eq_true h;omega
 ·cases h
theorem yh(ρ:Env)(k:IntKind)(a:X):(z6 k a).den ρ=k.wrap (a.den ρ):=by
 unfold z6;split
 ·split
  ·rename_i j x m n h;obtain rfl:=a9 h;simp only[X.den];rw[wrap_mul,qz1]
  ·simp only[X.den]
 ·simp only[X.den]
theorem c9(ρ:Env)(k:IntKind)(a:X):(ie k a).den ρ=k.wrap (a.den ρ):=by
 unfold ie;split
 ·rename_i h;have:=xq (ρ:=ρ) h;rw[bV this.1 this.2]
 ·exact yh ρ k a
section
variable (ρ:Env)
theorem jd(k:IntKind)(a:X):(mkWrap k a).den ρ=k.wrap (a.den ρ):=by
 unfold mkWrap;split
 ·simp[X.den]
 ·rw[kT];rfl
 ·exact c9 ρ k _
theorem gr{a:X}(h:I9 a=true):a.den ρ=0:=by
 unfold I9 at h;split at h
 ·simp only[X.den];exact bx h
 ·cases h
theorem Un(k:IntKind)(a b:X):(Um k a b).den ρ=k.wrap (a.den ρ+b.den ρ):=by
 unfold Um;split
 ·rename_i h;rw[c9,gr ρ h,Int.add_zero]
 ·split
  ·rename_i h;rw[c9,gr ρ h,Int.zero_add]
  ·rw[c9];simp only[X.den]
theorem BR(k:IntKind)(a b:X):(GS k a b).den ρ=k.wrap (a.den ρ+b.den ρ):=by
 unfold GS;split
 ·simp[X.den]
 ·have hd:(Um k a b).den ρ=k.wrap (a.den ρ+b.den ρ):=Un ρ k a b;refine fO (ρ:=ρ) (Pr:=fun x:X=>x.den ρ=k.wrap (a.den ρ+b.den ρ)) hd fun l t m u ha hb=>?_
  refine ya (by rw[hd,ha,hb]) fun r s h=>?_
  rw[ha,hb,<-py h];simp[bp]
theorem xK(k:IntKind)(a b:X):(mkAdd k a b).den ρ=k.wrap (a.den ρ+b.den ρ):=by
 unfold mkAdd;split
 ·rename_i m hm;split
  ·rename_i n hn;simp only[X.den,fD (ρ:=ρ) m hm,fD (ρ:=ρ) n hn]
  ·exact BR ρ k a b
 ·exact BR ρ k a b
theorem xN(k:IntKind)(a b:X):(mkSub k a b).den ρ=k.wrap (a.den ρ-b.den ρ):=by
 unfold mkSub;split
 ·simp[X.den]
 ·rename_i n _;have hd:(ie k (.sub a (.lit n))).den ρ=k.wrap (a.den ρ-(X.lit n).den ρ):=c9 ρ k _;refine fO (ρ:=ρ) (Pr:=fun x:X=>x.den ρ=k.wrap (a.den ρ-(X.lit n).den ρ)) hd fun l t m u ha hb=>?_
  refine ya hd fun r s h=>?_
  rw[ha,<-py h,<-hb];simp[bp,X.den,Int.sub_eq_add_neg]
 ·have hd:(ie k (.sub a b)).den ρ=k.wrap (a.den ρ-b.den ρ):=c9 ρ k _;refine fO (ρ:=ρ) (Pr:=fun x:X=>x.den ρ=k.wrap (a.den ρ-b.den ρ)) hd fun l t m u ha hb=>?_
  refine ya hd fun r s h=>?_
  rw[ha,hb,<-CQ h]
theorem EL{k:IntKind}{l:List B}{t:B}{n:Int}{d:X} (hd:d.den ρ=k.wrap (ay ρ l t*n)):(Qj k l t n d).den ρ=k.wrap (ay ρ l t*n):=by
 unfold Qj;split
 ·rename_i n;split
  ·rename_i s hs;rw[kT,tZ,Ac hs];simp
  ·exact hd
 ·exact hd
theorem kU(k:IntKind)(a b:X):(mkMul k a b).den ρ=k.wrap (a.den ρ*b.den ρ):=by
 unfold mkMul;split
 ·simp[X.den]
 ·exact EL ρ (by rw[c9];simp only[X.den])
 ·rename_i n l t;rw[Int.mul_comm];exact EL ρ (n:=n) (by rw[c9];simp only[X.den,Int.mul_comm])
 ·rw[c9];simp only[X.den]
theorem SS{k:IntKind}{l:List B}{t:B}{n:Int}{d:X} (hd:d.den ρ=k.wrap ((ay ρ l t).tdiv n)):(WZ k l t n d).den ρ=k.wrap ((ay ρ l t).tdiv n):=by
 unfold WZ;split
 ·rename_i n;split
  ·rename_i s hs;rw[kT,w7,Ac hs,qkk (fA l)];simp
  ·exact hd
 ·exact hd
theorem Me(a:X)(n:Int):(Wh a n).den ρ=(a.den ρ).tdiv n:=by
 unfold Wh;split
 ·rename_i x m;split
  ·rename_i hn h;have h0:=rm (ρ:=ρ) h;have h1:0<=x.den ρ / (m:Int):=Int.ediv_nonneg h0 (by omega);rw[bx hn];simp only[X.den,Int.ofNat_eq_natCast,Int.natCast_mul];rw[qkk h0,qkk h0,qkk h1,Int.ediv_ediv];rw[if_neg (fun z=>absurd z.1 (by omega)),Int.sub_zero];rfl
  ·rfl
 ·rfl
theorem EK(k:IntKind)(a b:X):(Qg k a b).den ρ=k.wrap ((a.den ρ).tdiv (b.den ρ)):=by
 unfold Qg;split
 ·simp[X.den]
 ·exact SS ρ (by rw[c9];simp only[X.den])
 ·rw[c9,Me];simp only[X.den]
 ·rw[c9];simp only[X.den]
theorem ana{n:Int}{k:IntKind}(h:kOf n=some k):k.signed=false/\n=2 ^ k.bits:=by
 unfold kOf at h;split at h
 ·rename_i e;obtain rfl:=qqz h;exact⟨rfl,bx e⟩
 ·split at h
  ·rename_i e;obtain rfl:=qqz h;exact⟨rfl,bx e⟩
  ·split at h
   ·rename_i e;obtain rfl:=qqz h;exact⟨rfl,bx e⟩
   ·cases h
theorem tR(a:X)(n:Int):(CC a n).den ρ=(a.den ρ).tmod n:=by
 unfold CC;split
 ·simp only[X.den]
 ·rename_i r hr;obtain⟨h1,h2⟩:=ki (ρ:=ρ) hr;split
  ·simp only[X.den]
  ·rename_i h3;have h3:=of_decide_eq_true h3;rw[qk3 (by omega)];split
   ·rename_i h4;have h4:=of_decide_eq_true h4;exact(Int.emod_eq_of_lt (by omega) (by omega)).symm
   ·split
    ·rename_i k hk;obtain⟨h5,h6⟩:=ana hk;rw[yh,h6];simp[IntKind.wrap,h5]
    ·simp only[X.den];rw[qk3 (by omega)]
theorem SW{l:List B}{t:B}{n:Int}{d:X} (hd:d.den ρ=(ay ρ l t).tmod n):(W8 l t n d).den ρ=(ay ρ l t).tmod n:=by
 unfold W8;split
 ·rename_i n;split
  ·split
   ·rename_i s hs;rw[iA,qS,<-kO,Ac hs,qk3 (fA l)];simp
   ·exact hd
  ·split
   ·rename_i hn;have hn':=qqq hn;subst hn';split
    ·rename_i b l';rw[iA,bq];have h1:=su (ρ:=ρ) (b::l');have h2:(ay ρ (b::l') .one).tmod 2=-((-ay ρ (b::l') .one).tmod 2):=by rw[Int.neg_tmod,Int.neg_neg]
     rw[show(Int.ofNat 2)=2 from rfl,h2,qk3 (by omega)];rw[aC]at h1 ⊢;rcases n4 (b.den ρ)with h|h<;>omega
    ·exact hd
   ·exact hd
  ·exact hd
 ·exact hd
theorem kW(a b:X):(yZ a b).den ρ=(a.den ρ).tmod (b.den ρ):=by
 unfold yZ;split
 ·simp[X.den]
 ·exact SW ρ (by simp[X.den])
 ·split
  ·rename_i h1;obtain rfl:=bx h1;simp[X.den,Int.tmod_one]
  ·exact tR ρ _ _
 ·simp[X.den]
theorem V1{k:IntKind}{j:Nat}{x:Int}(hj:j<k.bits)(h0:0<=x)(h1:x<=nF k):
  k.wrap ((BitVec.ofInt k.bits x &&& BitVec.ofInt k.bits (((2 ^ j-1:Nat):Int))).toNat:Int)=x % (2 ^ j:Nat) /\
  k.wrap ((BitVec.ofInt k.bits x &&& ~~~BitVec.ofInt k.bits (((2 ^ j-1:Nat):Int))).toNat:Int)=x-x % (2 ^ j:Nat):=by
 obtain⟨n,rfl⟩:=qkv h0;have hn:n<2 ^ k.bits:=by
  have:(n:Int)<=nF k:=h1;cases k<;>simp only[nF,IntKind.bits]at this ⊢<;>omega
 have hp:2 ^ j<2 ^ k.bits:=Nat.pow_lt_pow_right (by omega) hj;have hp0:0<2 ^ j:=Nat.two_pow_pos j;have e1:(BitVec.ofInt k.bits (n:Int)).toNat=n:=by
  rw[BitVec.toNat_ofInt];have:((n:Int) % ((2 ^ k.bits:Nat):Int))=n:=Int.emod_eq_of_lt (by omega) (by omega);rw[this];rfl
 have e2:(BitVec.ofInt k.bits ((2 ^ j-1:Nat):Int)).toNat=2 ^ j-1:=by
  rw[BitVec.toNat_ofInt];have:(((2 ^ j-1:Nat):Int) % ((2 ^ k.bits:Nat):Int))=((2 ^ j-1:Nat):Int):=Int.emod_eq_of_lt (by omega) (by omega);rw[this];rfl
 have hm:n % 2 ^ j<=n:=Nat.mod_le _ _;constructor
 ·rw[BitVec.toNat_and,e1,e2,Nat.and_two_pow_sub_one_eq_mod];have h2:m5 k<=((n % 2 ^ j:Nat):Int):=by
   have:m5 k<=0:=by cases k<;>decide
   omega
  rw[bV h2 (by omega)];rfl
 ·have e3:(BitVec.ofInt k.bits (n:Int) &&& ~~~BitVec.ofInt k.bits ((2 ^ j-1:Nat):Int)).toNat=n-n % 2 ^ j:=by
   rw[BitVec.toNat_and,BitVec.toNat_not,e1,e2];apply Nat.eq_of_testBit_eq;intro i;have h5:n-n % 2 ^ j=2 ^ j*(n / 2 ^ j):=by
    have:=Nat.mod_add_div n (2 ^ j);omega
   rw[h5,Nat.testBit_and,Nat.mul_comm,Nat.testBit_mul_two_pow];rw[show 2 ^ k.bits-1-(2 ^ j-1)=2 ^ k.bits-((2 ^ j-1)+1) by omega,Nat.testBit_two_pow_sub_succ (by omega)];rw[Nat.testBit_two_pow_sub_one];by_cases hi:i<j
   ·simp[hi,show ¬j<=i by omega]
   ·have:j<=i:=by omega
    simp[hi,this,Nat.testBit_div_two_pow];intro hb;rcases qkz i k.bits with h|h
    ·exact h
    ·have:n<2 ^ i:=qzw hn (Nat.pow_le_pow_right (by omega) h);rw[Nat.testBit_lt_two_pow this]at hb;cases hb
  rw[e3];have h2:m5 k<=((n-n % 2 ^ j:Nat):Int):=by
   have:m5 k<=0:=by cases k<;>decide
   omega
  rw[bV h2 (by omega)];have:((n % 2 ^ j:Nat):Int)=(n:Int) % ((2 ^ j:Nat):Int):=by simp
  omega
theorem Kw{o:Nat}{k:IntKind}{a:X}{m:Int}{d:X} (hd:d.den ρ=gU o k (a.den ρ) m):(GQ o k a m d).den ρ=gU o k (a.den ρ) m:=by
 unfold GQ;split
 ·rename_i m;split
  ·rename_i h1 h2;split
   ·rename_i j hj;split
    ·rename_i hb;have hb:=qqx hb;have e:=Ac hj;obtain rfl:m=2 ^ j-1:=by omega
     obtain⟨m1,m2⟩:=V1 (x:=a.den ρ) hb (rm h1) (xq (ρ:=ρ) h2).2;have h0:=rm (ρ:=ρ) h1;split
     ·rw[tR,qk3 h0];exact m1.symm
     ·have h3:=(xq (ρ:=ρ) h2).2;have h4:0<=a.den ρ % ((2 ^ j:Nat):Int):=Int.emod_nonneg _ (by have:=Nat.two_pow_pos j;omega);have h5:a.den ρ % ((2 ^ j:Nat):Int)<=a.den ρ:=by
       have e1:=Int.emod_add_mul_ediv (a.den ρ) ((2 ^ j:Nat):Int);have e2:=Int.mul_nonneg (show(0:Int)<=((2 ^ j:Nat):Int) by omega) (Int.ediv_nonneg h0 (show(0:Int)<=((2 ^ j:Nat):Int) by omega));omega
      have h6:m5 k<=0:=by cases k<;>decide
      rw[c9];simp only[X.den];rw[tR,qk3 h0,show(Int.ofNat (2 ^ j))=((2 ^ j:Nat):Int)from rfl,bV (by omega) (by omega)];exact m2.symm
     ·exact hd
    ·exact hd
   ·exact hd
  ·exact hd
 ·exact hd
theorem DO(o:Nat)(k:IntKind)(a b:X):(Py o k a b).den ρ=gU o k (a.den ρ) (b.den ρ):=by
 unfold Py;split
 ·exact Kw ρ rfl
 ·rfl
theorem oz(o:Nat)(k:IntKind)(a b:X):(oy o k a b).den ρ=gU o k (a.den ρ) (b.den ρ):=by
 unfold oy;split
 ·simp[X.den]
 ·refine fO (ρ:=ρ) (Pr:=fun x:X=>x.den ρ=gU o k (a.den ρ) (b.den ρ)) (DO ρ o k a b) fun l t m u ha hb=>?_
  unfold Ck;split
  ·rename_i r s h;rw[kT,ha,hb,UK k h]
  ·exact DO ρ o k a b
theorem xM(k:IntKind)(a b:X):(KE k a b).den ρ=OX k (a.den ρ) (b.den ρ):=by
 unfold KE;split
 ·simp[X.den]
 ·rw[kT,tZ];rfl
 ·rw[c9];simp only[X.den,OX];simp
 ·simp[X.den]
theorem jc(k:IntKind)(a b:X):(uh k a b).den ρ=yr k (a.den ρ) (b.den ρ):=by
 unfold uh;split
 ·simp[X.den]
 ·rw[iA,w7];simp only[X.den,yr];rw[qk4];exact Int.le_of_lt (Int.pow_pos (by omega))
 ·rename_i n _ _;split
  ·rename_i h;have h0:=rm (ρ:=ρ) h;have e:(match Nat.beq (min n.toNat k.bits) 0 with|true=>a|false=>Wh a (Int.ofNat (2 ^ (min n.toNat k.bits)))).den ρ=(a.den ρ).tdiv ((2 ^ (min n.toNat k.bits):Nat):Int):=by
    split
    ·rename_i hb;rw[qqq hb];exact(Int.tdiv_one _).symm
    ·rw[Me];rfl
   refine e.trans ?_;simp only[X.den,yr];rw[qkk h0,qk4]
   ·simp
   ·exact Int.le_of_lt (Int.pow_pos (by omega))
  ·simp[X.den]
 ·simp[X.den]
theorem Jo{a b:X}(h:apart a b=true):(a.den ρ==b.den ρ)=false:=by
 unfold apart at h;split at h
 ·cases h
 ·rename_i r hr;obtain⟨h1,h2⟩:=ki (ρ:=ρ) hr;split at h
  ·cases h
  ·rename_i s hs;obtain⟨h3,h4⟩:=ki (ρ:=ρ) hs;refine beq_eq_false_iff_ne.2 fun e=>?_
   split at h
   ·rename_i h5;have h5:=of_decide_eq_true h5;omega
   ·have h:=of_decide_eq_true h;omega
theorem Y0(k:IntKind)(n m:Int)(h1:m5 k<=m)(h2:m<=nF k):k.wrap n=m↔n % (2 ^ k.bits:Int)=m % (2 ^ k.bits:Int):=by
 unfold IntKind.wrap;cases k<;>simp only[m5,nF,IntKind.bits,IntKind.signed,Bool.false_and,Bool.true_and,qqj,if_false,decide_eq_true_eq,Int.reducePow,Nat.reduceSub,ge_iff_le]at *<;>first|omega|(split<;>omega)
theorem O9{k:IntKind}{a:X}{m:Int}{d:X} (hd:d.den ρ=bp (k.wrap (a.den ρ)==m)):(O8 k a m d).den ρ=bp (k.wrap (a.den ρ)==m):=by
 unfold O8;split
 ·exact hd
 ·rename_i r hr;obtain⟨h1,h2⟩:=ki (ρ:=ρ) hr;split
  ·rename_i e1 e2 e3;have e1:=of_decide_eq_true e1;have e2:=of_decide_eq_true e2;have e3:=of_decide_eq_true e3;have hp:(0:Int)<Int.ofNat (2 ^ k.bits):=by
    show(0:Int)<((2 ^ k.bits:Nat):Int);have:=Nat.two_pow_pos k.bits;omega
   have hpe:Int.ofNat (2 ^ k.bits)=(2:Int) ^ k.bits:=by simp
   have hw:=Y0 k (a.den ρ) m e2 e3;generalize hP:Int.ofNat (2 ^ k.bits)=p at *;rw[<-hpe]at hw;have key:(k.wrap (a.den ρ)=m)↔a.den ρ=r.lo+(m-r.lo) % p:=by
    rw[hw];have q1:=Int.emod_nonneg (m-r.lo) (show p≠0 by omega);have q2:=Int.emod_lt_of_pos (m-r.lo) hp;have q3:=Int.emod_add_mul_ediv (m-r.lo) p;constructor
    ·intro h;have h3:(a.den ρ-r.lo) % p=(m-r.lo) % p:=by rw[Int.sub_emod,h,<-Int.sub_emod]
     rw[Int.emod_eq_of_lt (by omega) (by omega)]at h3;omega
    ·intro h;rw[h,show r.lo+(m-r.lo) % p=m+p * -((m-r.lo) / p) by rw[Int.mul_neg];omega,Int.add_mul_emod_self_left]
   dsimp only;split
   ·simp only[X.den];congr 1;rw[Bool.eq_iff_iff,beq_iff_eq,beq_iff_eq,key]
   ·rename_i e4;have e4:=of_decide_eq_false e4;have:(k.wrap (a.den ρ)==m)=false:=beq_eq_false_iff_ne.2 fun e=>by
     have:=key.1 e;omega
    rw[this];rfl
  ·exact hd
theorem D4(a:X)(m:Int):(AV a m).den ρ=bp (a.den ρ==m):=by
 unfold AV;split
 ·rename_i h;have:=Jo ρ h;simp only[X.den]at this;rw[this];rfl
 ·split
  ·exact O9 ρ (by simp only[X.den])
  ·rename_i c p q _;have e:((X.ite c (.lit p) (.lit q)).den ρ==m)=if c.den ρ==0 then q==m else p==m:=by
    simp only[X.den];split<;>rfl
   rw[e];split<;>rename_i h1 h2<;>rw[bR]at h1 h2<;>rw[h1,h2]<;>simp only[X.den]<;>split<;>rfl
  ·simp only[X.den]
theorem PF(a b:X):(eqD a b).den ρ=bp (a.den ρ==b.den ρ):=by
 unfold eqD;split
 ·exact D4 ρ _ _
 ·split
  ·rename_i h;rw[Jo ρ h];rfl
  ·simp only[X.den]
theorem abP(a b:X):(ltD a b).den ρ=bp (decide (a.den ρ<b.den ρ)):=by
 unfold ltD;split
 ·simp only [X.den]
 ·rename_i r hr;obtain⟨h1,h2⟩:=ki (ρ:=ρ) hr;split
  ·simp only [X.den]
  ·rename_i s hs;obtain⟨h3,h4⟩:=ki (ρ:=ρ) hs;split
   ·rename_i h;have h:=of_decide_eq_true h;rw [decide_eq_true (by omega)];rfl
   ·split
    ·rename_i h;have h:=of_decide_eq_true h;rw [decide_eq_false (by omega)];rfl
    ·simp only [X.den]
theorem abJ(a b:X):(leD a b).den ρ=bp (decide (a.den ρ<=b.den ρ)):=by
 have hd:(X.not (.lt b a)).den ρ=bp (decide (a.den ρ<=b.den ρ)):=by
  simp only [X.den,pD];congr 1;by_cases h:a.den ρ<=b.den ρ
  ·rw [decide_eq_true h,decide_eq_false (by omega)];rfl
  ·rw [decide_eq_false h,decide_eq_true (by omega)];rfl
 unfold leD;split
 ·exact hd
 ·rename_i r hr;obtain⟨h1,h2⟩:=ki (ρ:=ρ) hr;split
  ·exact hd
  ·rename_i s hs;obtain⟨h3,h4⟩:=ki (ρ:=ρ) hs;split
   ·rename_i h;have h:=of_decide_eq_true h;rw [decide_eq_true (by omega)];rfl
   ·split
    ·rename_i h;have h:=of_decide_eq_true h;rw [decide_eq_false (by omega)];rfl
    ·exact hd
theorem EF(a b:X):(Qd a b).den ρ=bp (a.den ρ==b.den ρ):=by
 unfold Qd;split
 ·simp only[X.den,bR]
 ·rename_i _ m _;have hd:(AV b m).den ρ=bp ((X.lit m).den ρ==b.den ρ):=by rw[D4];simp only[X.den];rw[Bool.beq_comm]
  refine fO (ρ:=ρ) (Pr:=fun x:X=>x.den ρ=bp ((X.lit m).den ρ==b.den ρ)) hd fun l t m' u ha hb=>?_
  have h:=PG (ρ:=ρ) (l:=l) (t:=t) (m:=m') (u:=u) (d:=AV b m) (by rw[<-ha,<-hb];exact hd);rw[<-ha,<-hb]at h;exact h
 ·refine fO (ρ:=ρ) (Pr:=fun x:X=>x.den ρ=bp (a.den ρ==b.den ρ)) ?_ fun l t m u ha hb=>?_
  ·split
   ·rename_i he;rw[X.beq_eq he];simp[X.den,bp]
   ·exact PF ρ a b
  have h:=PG (ρ:=ρ) (l:=l) (t:=t) (m:=m) (u:=u) (d:=eqD a b) (by rw[<-ha,<-hb];exact PF ρ a b);rw[<-ha,<-hb]at h;exact h
theorem KB(a b:X):(mkEq a b).den ρ=bp (a.den ρ==b.den ρ):=by
 unfold mkEq;split
 ·rename_i m hm;split
  ·rename_i n hn;simp only[X.den,bR,fD (ρ:=ρ) m hm,fD (ρ:=ρ) n hn]
  ·exact EF ρ a b
 ·exact EF ρ a b
theorem fE(a b:X):(mkEq a b).tt ρ=(a.den ρ==b.den ρ):=by rw[X.tt,KB,da]
theorem EI(a b:X):(Qf a b).den ρ=bp (decide (a.den ρ<b.den ρ)):=by
 unfold Qf;split
 ·simp only [X.den];congr
 ·rename_i l t n;refine KQ (p:=ay ρ l t<n) (by simp only [X.den];rfl) fun h=>?_
  rw [(j8 h).1];omega
 ·rename_i n l t;refine Qo (p:=n<ay ρ l t) (by simp only [X.den];rfl) fun h=>?_
  rw [(j8 h).1];omega
 ·exact abP ρ _ _
theorem KD(a b:X):(mkLt a b).den ρ=bp (decide (a.den ρ<b.den ρ)):=by
 unfold mkLt;split
 ·rename_i m hm;split
  ·rename_i n hn;simp only [X.den,fD (ρ:=ρ) m hm,fD (ρ:=ρ) n hn]
  ·exact EI ρ a b
 ·exact EI ρ a b
theorem mu(a b:X):(mkLt a b).tt ρ=decide (a.den ρ<b.den ρ):=by rw [X.tt,KD,da]
theorem EG(a b:X):(Qe a b).den ρ=bp (decide (a.den ρ<=b.den ρ)):=by
 unfold Qe;split
 ·simp only [X.den];congr
 ·rename_i l t n;refine KQ (p:=ay ρ l t<=n) (by simp only [X.den];rfl) fun h=>?_
  rw [(j8 h).1];omega
 ·rename_i n l t;refine Qo (p:=n<=ay ρ l t) (by simp only [X.den];rfl) fun h=>?_
  rw [(j8 h).1]
 ·exact abJ ρ _ _
theorem BX(a b:X):(mkLe a b).den ρ=bp (decide (a.den ρ<=b.den ρ)):=by
 unfold mkLe;split
 ·rename_i m hm;split
  ·rename_i n hn;simp only [X.den,fD (ρ:=ρ) m hm,fD (ρ:=ρ) n hn]
  ·exact EG ρ a b
 ·exact EG ρ a b
theorem dF(a b:X):(mkLe a b).tt ρ=decide (a.den ρ<=b.den ρ):=by rw [X.tt,BX,da]
theorem nJ(a:X):(mkNot a).tt ρ=!a.tt ρ:=by
 unfold mkNot X.tt;split
 ·simp only[X.den,da,bR];simp[bne]
 ·simp only[X.den,da];simp[bne]
theorem EJ(a:X):(mkNot a).den ρ=bp (!a.tt ρ):=by
 unfold mkNot X.tt;split<;>simp only[X.den,bR]<;>simp[bne]
theorem Je{x y z:X}{k:Option IntKind} (h:Pt x=some (k,y,z)):x.den ρ=(qO k (.add y z)).den ρ/\(qO k y).den ρ=y.den ρ/\∀ w:X,w.den ρ=0->(qO k (.add y w)).den ρ=y.den ρ:=by
 unfold Pt at h;split at h
 ·simp only[qqk,qqv]at h;obtain⟨rfl,rfl,rfl⟩:=h;exact⟨rfl,rfl,fun w hw=>by simp[qO,X.den,hw]⟩
 ·split at h
  ·rename_i hk;simp only[qqk,qqv]at h;obtain⟨rfl,rfl,rfl⟩:=h;have:=xq (ρ:=ρ) hk;refine⟨rfl,?_,fun w hw=>?_⟩
   ·simp only[qO,X.den];exact bV this.1 this.2
   ·simp only[qO,X.den,hw,Int.add_zero];exact bV this.1 this.2
  ·cases h
 ·cases h
theorem Fx{k:Option IntKind}{y z w:X}(h:z.den ρ=w.den ρ):(qO k (.add y z)).den ρ=(qO k (.add y w)).den ρ:=by
 cases k<;>simp only[qO,X.den,h]
theorem tw(c a b:X):(X.ite c a b).den ρ=if c.tt ρ then a.den ρ else b.den ρ:=by
 by_cases h:c.den ρ=0<;>simp[X.den,X.tt,h]
theorem yS(c a b:X):(zZ c a b).den ρ=if c.tt ρ then a.den ρ else b.den ρ:=by
 unfold zZ;split
 ·rename_i k y z hb;obtain⟨h1,_,h3⟩:=Je ρ hb;split
  ·rename_i he;obtain rfl:=X.beq_eq he;rw[h1];split
   ·rename_i hc;exact h3 _ (by rw[tw,if_pos hc];rfl)
   ·rename_i hc;exact Fx ρ (by rw[tw,if_neg hc])
  ·exact tw ρ c a b
 ·exact tw ρ c a b
theorem eW(c a b:X):(lL c a b).den ρ=if c.tt ρ then a.den ρ else b.den ρ:=by
 unfold lL;split
 ·rename_i k y z ha;obtain⟨h1,_,h3⟩:=Je ρ ha;split
  ·rename_i he;obtain rfl:=X.beq_eq he;rw[h1];split
   ·rename_i hc;exact Fx ρ (by rw[tw,if_pos hc])
   ·rename_i hc;exact h3 _ (by rw[tw,if_neg hc];rfl)
  ·exact yS ρ c a b
 ·exact yS ρ c a b
theorem Ti(z:X)(h1:m5 .u32<=z.den ρ)(h2:z.den ρ<=nF .u32):(X.wrap .i32 z).den ρ=if (X.lt z (.lit 2147483648)).tt ρ then z.den ρ else (X.sub z (.lit 4294967296)).den ρ:=by
 simp only [m5,nF] at h1 h2;have e1:(X.lt z (.lit 2147483648)).tt ρ=decide (z.den ρ<2147483648):=by
  rw [Bool.eq_iff_iff,decide_eq_true_iff];simp only [X.tt,X.den,da];exact decide_eq_true_iff
 rw [e1];simp only [X.den];simp only [IntKind.wrap,IntKind.bits,IntKind.signed,Bool.true_and,decide_eq_true_eq,Int.reducePow,Nat.reduceSub,ge_iff_le];rw [Int.emod_eq_of_lt (by omega) (by omega)];split<;>split<;>omega
theorem Kd{c a b:X}{m:Int}{x:X} (hc:c=.lt x (.lit m)):(GA c a b m x).den ρ=if c.tt ρ then a.den ρ else b.den ρ:=by
 have hd:(X.ite c a b).den ρ=if c.tt ρ then a.den ρ else b.den ρ:=by
  by_cases h:c.den ρ=0<;>simp[X.den,X.tt,h]
 unfold GA;split
 ·split
  ·rename_i y w h1 h2;split
   ·rename_i h3 h4 h5;obtain rfl:=bx h1;obtain rfl:=bx h2;obtain rfl:=X.beq_eq h3;obtain rfl:=X.beq_eq h4;have:=xq (ρ:=ρ) h5;subst hc;exact Ti ρ _ this.1 this.2
   ·exact hd
  ·exact hd
 ·exact eW ρ c a b
theorem T4(q:X):(X.wrap .u32 q).den ρ=if (X.lt (.rem q (.lit 4294967296)) (.lit 0)).tt ρ then (X.add (.rem q (.lit 4294967296)) (.lit 4294967296)).den ρ else (X.rem q (.lit 4294967296)).den ρ:=by
 have e1:(X.lt (.rem q (.lit 4294967296)) (.lit 0)).tt ρ=decide ((q.den ρ).tmod 4294967296<0):=by
  rw [Bool.eq_iff_iff,decide_eq_true_iff];simp only [X.tt,X.den,da];exact decide_eq_true_iff
 have e2:(X.wrap .u32 q).den ρ=q.den ρ % 4294967296:=by simp [X.den,IntKind.wrap,IntKind.bits,IntKind.signed]
 have e3:(X.add (.rem q (.lit 4294967296)) (.lit 4294967296)).den ρ=(q.den ρ).tmod 4294967296+4294967296:=by simp only [X.den]
 have e4:(X.rem q (.lit 4294967296)).den ρ=(q.den ρ).tmod 4294967296:=by simp only [X.den]
 rw [e1,e2,e3,e4];generalize q.den ρ=n;have e5:0<=n->n.tmod 4294967296=n % 4294967296:=fun h=>qk3 h
 have e6:n<0->n.tmod 4294967296=-((-n) % 4294967296):=fun h=>by
  have h1:=Int.neg_tmod (-n) 4294967296;have h2:(-n).tmod 4294967296=(-n) % 4294967296:=qk3 (by omega);rw [Int.neg_neg,h2] at h1;exact h1
 rcases Int.lt_or_le n 0 with hn|hn
 ·rw [e6 hn];by_cases h:-(-n % 4294967296)<0
  ·rw [if_pos (decide_eq_true h)];omega
  ·rw [if_neg (by simpa using h)];omega
 ·rw [e5 hn,if_neg (by rw [decide_eq_true_eq];omega)]
theorem Ke{c a b:X}{q:X} (hc:c=.lt (.rem q (.lit 4294967296)) (.lit 0)):(GC c a b q).den ρ=if c.tt ρ then a.den ρ else b.den ρ:=by
 unfold GC;split
 ·split
  ·rename_i y v w h1 h2;split
   ·split
    ·rename_i z u h3 h4 h5;obtain rfl:=bx h1;obtain rfl:=bx h2;obtain rfl:=bx h3;obtain rfl:=X.beq_eq h4;obtain rfl:=X.beq_eq h5;subst hc;exact T4 ρ _
    ·exact eW ρ c _ _
   ·exact eW ρ c _ _
  ·exact eW ρ c _ _
 ·exact eW ρ c a b
theorem VF{i:Nat}{vb:Bool}{x y c:B}(h:am8 i vb x y=some c):c.den ρ=if ρ.b i==vb then x.den ρ else y.den ρ:=by
 have one:∀ (w:Bool) (b:B),ρ.b i=w->(iL (2 ^ i) (n5 i w) b).den ρ=b.den ρ:=fun w b hw=>CN (fun j hj=>by
  rw[qz4]at hj;have hj:=of_decide_eq_true hj;subst hj;rw[ny,hw];simp) b
 unfold am8 at h;split at h
 ·rename_i he;obtain rfl:=qqz h;rw[B.beq_eq he];split<;>rfl
 ·have hx:=one vb x;have hy:=one (!vb) y;generalize iL (2 ^ i) (n5 i vb) x=x1 at *;generalize iL (2 ^ i) (n5 i !vb) y=y1 at *;dsimp only at h;split at h
  ·rename_i he;obtain rfl:=qqz h;have:=B.beq_eq he;subst this;cases hb:ρ.b i<;>cases vb<;>simp_all
  ·split at h
   ·obtain rfl:=qqz h;cases hb:ρ.b i<;>cases vb<;>simp_all [B.den]
   ·obtain rfl:=qqz h;cases hb:ρ.b i<;>cases vb<;>simp_all [B.den]
   ·cases h
theorem Kc(c a b:X)(m v:Nat)(hc:c=.cube m v):(Gz c a b m v).den ρ=if c.tt ρ then a.den ρ else b.den ρ:=by
 unfold Gz;split
 ·rename_i hm;have hm:=qqq hm;refine fO (ρ:=ρ) (Pr:=fun x:X=>x.den ρ=if c.tt ρ then a.den ρ else b.den ρ) (eW ρ c a b) fun l t n u ha hb=>?_
  split
  ·rename_i r s hz;rw[iA,ha,hb];have hbit:=l8 (ρ:=ρ) (g:=fun x y=>if ρ.b m.log2==Nat.testBit v m.log2 then x else y) (fun _ _ _ h=>VF ρ h) hz;have ht:c.tt ρ=(ρ.b m.log2==Nat.testBit v m.log2):=by
    subst hc;simp only[X.tt,X.den,da];rw[Bool.eq_iff_iff,cf,beq_iff_eq];constructor
    ·intro h;exact h m.log2 (by rw[hm,Nat.log2_two_pow];simp)
    ·intro h j hj;rw[hm,qz4]at hj;have hj:=of_decide_eq_true hj;rw[<-hj];exact h
   rw[ht];split
   ·rename_i he;exact UM fun i=>by rw[hbit i];simp only[he,if_true]
   ·rename_i he;exact UM fun i=>by rw[hbit i];simp only[he,qqj,if_false]
  ·exact tw ρ c a b
 ·exact eW ρ c a b
theorem VG(c a b:X):(am9 c a b).den ρ=if c.tt ρ then a.den ρ else b.den ρ:=by
 unfold am9;split
 ·exact Kc ρ _ a b _ _ rfl
 ·split
  ·rename_i h1 h2;obtain rfl:=bx h1;obtain rfl:=bx h2;exact Ke ρ rfl
  ·exact eW ρ _ _ _
 ·exact Kd ρ rfl
 ·exact eW ρ _ _ _
theorem gY(c a b:X):(mkIte c a b).den ρ=if c.tt ρ then a.den ρ else b.den ρ:=by
 unfold mkIte;split
 ·rename_i n;simp only[X.tt,X.den,bR];by_cases h:n=0<;>simp[h]
 ·split
  ·rename_i h;rw[X.beq_eq h];simp
  ·exact VG ρ _ _ _
theorem qf(c a b:X):(BV c a b).bF ρ=if c.tt ρ then a.bF ρ else b.bF ρ:=by
 unfold BV X.tt;split
 ·rename_i n;simp only[X.den,bR];by_cases h:n=0<;>simp[h]
 ·split
  ·rename_i h;rw[X.beq_eq h];simp
  ·by_cases h:c.den ρ=0<;>simp[X.bF,h]
theorem BW(c a b:X):(mkIte c a b).tt ρ=if c.tt ρ then a.tt ρ else b.tt ρ:=by
 unfold X.tt;rw[gY];unfold X.tt;split<;>rfl
theorem KA(a b:X):(mkAnd a b).tt ρ=(a.tt ρ&&b.tt ρ):=by
 unfold mkAnd;rw[BW];cases a.tt ρ<;>simp[X.tt,X.den]
theorem BU(a b:X):(mkIff a b).tt ρ=(a.tt ρ==b.tt ρ):=by
 unfold mkIff;split
 ·rename_i m n;simp only[X.tt,X.den,bR,bne];cases(m==0)<;>cases(n==0)<;>rfl
 ·rename_i _ m _;have h:(X.lit m).tt ρ=!aT m 0:=by simp[X.tt,X.den,bR,bne]
  rw[h];split
  ·rename_i hm;rw[nJ,hm];cases b.tt ρ<;>rfl
  ·rename_i hm;rw[show aT m 0=false by simpa using hm];cases b.tt ρ<;>rfl
 ·rename_i m _;have h:(X.lit m).tt ρ=!aT m 0:=by simp[X.tt,X.den,bR,bne]
  rw[h];split
  ·rename_i hm;rw[nJ,hm];cases a.tt ρ<;>rfl
  ·rename_i hm;rw[show aT m 0=false by simpa using hm];cases a.tt ρ<;>rfl
 ·split
  ·rename_i he;rw[X.beq_eq he];simp[X.tt,X.den]
  ·rw[X.tt];simp only[X.den,EJ,da];cases a.tt ρ<;>cases b.tt ρ<;>rfl
theorem ofNat_inj:∀ (l m:List Nat),l.map UInt8.ofNat=m.map UInt8.ofNat↔l.map (· % 256)=m.map (· % 256)
 |[],[]=>by simp
 |[],_::_=>by simp
 |_::_,[]=>by simp
 |a::l,b::m=>by
  simp only[List.map_cons,List.cons.injEq,ofNat_inj l m];constructor
  ·rintro⟨h1,h2⟩;refine⟨?_,h2⟩;have:=congrArg UInt8.toNat h1;simpa[UInt8.toNat_ofNat']using this
  ·rintro⟨h1,h2⟩;refine⟨?_,h2⟩;apply UInt8.toNat.inj;simpa[UInt8.toNat_ofNat']using h1
theorem y2(l m:List Nat):fF l m=decide (l=m):=by
 by_cases h:l=m
 ·subst h;simp only [decide_true];induction l with
  |nil=>rfl
  |cons a l ih=>simp [fF,ih]
 ·simp only [h,decide_false];cases hb:fF l m
  ·rfl
  ·exact absurd (oA hb) h
theorem Sv(l:List UInt8):B7 l≠[]:=by
 unfold B7;split<;>simp
theorem N9(l:List UInt8):(B7 l).length<=1000:=by
 unfold B7;split
 ·simp
 ·rename_i c m h;have:(l.take 1000).length<=1000:=by simp;omega
  rw[h]at this;exact this
theorem R2(ρ:Env)(f:Nat)(n:Int):xm ρ f n≠[]:=by
 cases f with
 |zero=>simp[xm]
 |succ f=>exact Sv _
theorem NK(ρ:Env)(f:Nat)(n:Int):(xm ρ f n).length<=1000:=by
 cases f with
 |zero=>simp[xm]
 |succ f=>exact N9 _
theorem Qn:∀ {x:X},KJ x=true->x.bF ρ≠[]:=by
 intro x;induction x with
 |slit l=>
  intro h;cases l with
  |nil=>simp[KJ]at h
  |cons c l=>simp[X.bF]
 |sfn f a _=>intro _;simp only[X.bF];exact R2 _ _ _
 |scat a b ia ib=>
  intro h;unfold KJ at h;split at h
  ·rename_i ha;simp[X.bF,ia ha]
  ·simp[X.bF,ib h]
 |_=>intro h;simp[KJ]at h
theorem xy{x:X}(h:isNone x=true):x.bF ρ=[]:=by
 unfold isNone at h;split at h
 ·split at h
  ·rfl
  ·cases h
 ·cases h
theorem zj(a b:X):(IK a b).den ρ=bp (a.bF ρ==b.bF ρ):=by
 unfold IK;split
 ·rename_i he;rw[X.beq_eq he];simp[X.den,bp]
 ·split
  ·rename_i h1 h2;have e1:=xy ρ h1;have e2:=Qn ρ h2;have:(a.bF ρ==b.bF ρ)=false:=by rw[e1];exact beq_eq_false_iff_ne.2 fun e=>e2 e.symm
   rw[this];rfl
  ·split
   ·rename_i h1 h2;have e1:=xy ρ h2;have e2:=Qn ρ h1;have:(a.bF ρ==b.bF ρ)=false:=by rw[e1];exact beq_eq_false_iff_ne.2 e2
    rw[this];rfl
   ·simp only[X.den]
theorem qg(a b:X):(mkSeq a b).tt ρ=(a.bF ρ==b.bF ρ):=by
 unfold mkSeq X.tt;split
 ·rename_i l m;simp only[X.den,da,X.bF,y2];rw[Bool.eq_iff_iff];simp[<-ofNat_inj]
 ·rw[zj,da]
theorem F2(l:List Nat)(b:X):(F1 l b).bF ρ=l.map UInt8.ofNat++b.bF ρ:=by
 unfold F1;split
 ·simp
 ·split<;>simp[X.bF]
theorem jF(a b:X):(ta a b).bF ρ=a.bF ρ++b.bF ρ:=by
 unfold ta;split
 ·rename_i h;rw[xy ρ h];simp
 ·simp[X.bF]
theorem tI(a b:X):(mr a b).bF ρ=a.bF ρ++b.bF ρ:=by
 induction a generalizing b with
 |slit l=>unfold mr;rw[F2];simp[X.bF]
 |scat a c ia ic=>unfold mr;rw[ia,ic];simp[X.bF]
 |lit n=>unfold mr;exact jF ρ _ _
 |svar i=>unfold mr;exact jF ρ _ _
 |sfn f a _=>unfold mr;exact jF ρ _ _
 |ite c x y _ _ _=>unfold mr;exact jF ρ _ _
 |btext t x y _ _=>unfold mr;exact jF ρ _ _
 |_=>unfold mr;simp[X.bF]
theorem abL:∀ {x:X} {n:Nat},Sl x=some n->(x.bF ρ).length<=n:=by
 intro x;induction x with
 |slit l=>
  intro n h;obtain rfl:=qqz (show some l.length=some n from h);simp[X.bF]
 |sfn f a _=>
  intro n h;obtain rfl:=qqz (show some 1000=some n from h);simp only[X.bF];exact NK _ _ _
 |scat a b ia ib=>
  intro n h;unfold Sl at h;split at h
  ·rename_i m k hm hk;obtain rfl:=qqz h;have h1:=ia hm;have h2:=ib hk;simp only[X.bF,qq9];omega
  ·cases h
 |_=>intro n h;simp[Sl]at h
theorem xL(a:X):(BZ a).den ρ=((a.bF ρ).length:Int):=by
 unfold BZ;split<;>simp[X.den,X.bF]
theorem Ff{a:X} (h:(IL a).tt ρ=true):((a.bF ρ).length:Int)<=1000000000:=by
 have old:(mkLe (BZ a) z4).tt ρ=true->((a.bF ρ).length:Int)<=1000000000:=fun h=>by
  rw[dF]at h;have:=of_decide_eq_true h;simpa[xL,z4,X.den]using this
 unfold IL at h;split at h
 ·rename_i n hn;split at h
  ·rename_i hb;have h1:=abL ρ hn;have h2:=qqx hb;omega
  ·exact old h
 ·exact old h
end
def ai(ρ:Env)(pc:PC):Prop:=∀ f∈pc,f.1.tt ρ=f.2
theorem qY{ρ:Env}{x:X}:∀ {pc:PC} {b:Bool},ai ρ pc->tk x pc=some b->x.tt ρ=b
 |[],_,_,h=>by simp[tk]at h
 |(y,c)::pc,b,hp,h=>by
  unfold tk at h;split at h
  ·rename_i he;simp only[qqk]at h;rw[<-X.beq_eq he,<-h];exact hp (y,c) (by simp)
  ·exact qY (fun f hf=>hp f (by simp[hf])) h
theorem bZ{ρ:Env}(a b:X):(X.eq a b).tt ρ=(a.den ρ==b.den ρ):=by simp only[X.tt,X.den,da]
theorem nX{ρ:Env}(a b:X):(X.lt a b).tt ρ=decide (a.den ρ<b.den ρ):=by simp only [X.tt,X.den,da]
theorem qN{ρ:Env}(a b:X):(X.le a b).tt ρ=decide (a.den ρ<=b.den ρ):=by simp only [X.tt,X.den,da]
theorem qd{a b:Int} (h:decide (a<b)=true):a<b:=of_decide_eq_true h
theorem p9{a b:Int} (h:decide (a<=b)=true):a<=b:=of_decide_eq_true h
theorem iE{a b:Int} (h:decide (a<b)=false):b<=a:=Int.not_lt.1 (of_decide_eq_false h)
theorem iD{a b:Int} (h:decide (a<=b)=false):b<a:=Int.not_le.1 (of_decide_eq_false h)
theorem P8{ρ:Env}{a:X}:∀ {pc:PC} {n:Int},ai ρ pc->Ko a pc=some n->n<=a.den ρ
 |[],_,_,h=>by simp [Ko] at h
 |(x,b)::pc,n,hp,h=>by
  have hx:=hp (x,b) (by simp);have ih:∀ m,Ko a pc=some m->m<=a.den ρ:=fun m hm=>P8 (fun f hf=>hp f (by simp [hf])) hm
  have hw:∀ k:Int,k<=a.den ρ->(match Ko a pc with|none=>some k|some m=>some (if decide (m<k) then k else m))=some n->n<=a.den ρ:=by
   intro k hk h;cases hr:Ko a pc with
   |none=>rw [hr] at h;simp at h;omega
   |some m=>
    rw [hr] at h;have:=ih m hr;simp at h;split at h<;>omega
  simp only at hx;unfold Ko at h;simp only at h;split at h
  ·split at h
   ·rename_i he;rw [bZ,X.beq_eq he] at hx;exact hw _ (by simp [X.den] at hx;omega) h
   ·exact ih n h
  ·split at h
   ·rename_i he;rw [nX,X.beq_eq he] at hx;simp only [X.den] at hx;exact hw _ (by first|(have:=qd hx;omega)|(have:=iE hx;omega)) h
   ·exact ih n h
  ·split at h
   ·rename_i he;rw [qN,X.beq_eq he] at hx;simp only [X.den] at hx;exact hw _ (by first|(have:=p9 hx;omega)|(have:=iD hx;omega)) h
   ·exact ih n h
  ·split at h
   ·rename_i he;rw [nX,X.beq_eq he] at hx;simp only [X.den] at hx;exact hw _ (by first|(have:=qd hx;omega)|(have:=iE hx;omega)) h
   ·exact ih n h
  ·split at h
   ·rename_i he;rw [qN,X.beq_eq he] at hx;simp only [X.den] at hx;exact hw _ (by first|(have:=p9 hx;omega)|(have:=iD hx;omega)) h
   ·exact ih n h
  ·exact ih n h
theorem P0{ρ:Env}{a:X}:∀ {pc:PC} {n:Int},ai ρ pc->J7 a pc=some n->a.den ρ<=n
 |[],_,_,h=>by simp [J7] at h
 |(x,b)::pc,n,hp,h=>by
  have hx:=hp (x,b) (by simp);have ih:∀ m,J7 a pc=some m->a.den ρ<=m:=fun m hm=>P0 (fun f hf=>hp f (by simp [hf])) hm
  have hw:∀ k:Int,a.den ρ<=k->(match J7 a pc with|none=>some k|some m=>some (if decide (k<m) then k else m))=some n->a.den ρ<=n:=by
   intro k hk h;cases hr:J7 a pc with
   |none=>rw [hr] at h;simp at h;omega
   |some m=>
    rw [hr] at h;have:=ih m hr;simp at h;split at h<;>omega
  simp only at hx;unfold J7 at h;simp only at h;split at h
  ·split at h
   ·rename_i he;rw [bZ,X.beq_eq he] at hx;exact hw _ (by simp [X.den] at hx;omega) h
   ·exact ih n h
  ·split at h
   ·rename_i he;rw [nX,X.beq_eq he] at hx;simp only [X.den] at hx;exact hw _ (by first|(have:=qd hx;omega)|(have:=iE hx;omega)) h
   ·exact ih n h
  ·split at h
   ·rename_i he;rw [qN,X.beq_eq he] at hx;simp only [X.den] at hx;exact hw _ (by first|(have:=p9 hx;omega)|(have:=iD hx;omega)) h
   ·exact ih n h
  ·split at h
   ·rename_i he;rw [nX,X.beq_eq he] at hx;simp only [X.den] at hx;exact hw _ (by first|(have:=qd hx;omega)|(have:=iE hx;omega)) h
   ·exact ih n h
  ·split at h
   ·rename_i he;rw [qN,X.beq_eq he] at hx;simp only [X.den] at hx;exact hw _ (by first|(have:=p9 hx;omega)|(have:=iD hx;omega)) h
   ·exact ih n h
  ·exact ih n h
theorem DP{ρ:Env}{a:X}{pc:PC}(hp:ai ρ pc):∀ (f:Nat) (n:Int),n<=a.den ρ->FW a pc f n<=a.den ρ
 |0,n,h=>h
 |f+1,n,h=>by
  simp only[FW];split
  ·rename_i hf;have:=qY hp hf;rw[bZ]at this;simp[X.den]at this;exact DP hp f (n+1) (by omega)
  ·exact h
theorem yG{ρ:Env}{a:X}{pc:PC}(hp:ai ρ pc):∀ (f:Nat) (n:Int),a.den ρ<=n->a.den ρ<=ur a pc f n
 |0,n,h=>h
 |f+1,n,h=>by
  simp only[ur];split
  ·rename_i hf;have:=qY hp hf;rw[bZ]at this;simp[X.den]at this;exact yG hp f (n-1) (by omega)
  ·exact h
theorem VW{ρ:Env}{a:X}{pc:PC}{n:Int}(hp:ai ρ pc)(h:loB a pc=some n):n<=a.den ρ:=by
 unfold loB at h;split at h
 ·rename_i m hm;simp only[qqk]at h;rw[<-h];exact DP hp _ _ (P8 hp hm)
 ·simp at h
theorem Vv{ρ:Env}{a:X}{pc:PC}{n:Int}(hp:ai ρ pc)(h:hiB a pc=some n):a.den ρ<=n:=by
 unfold hiB at h;split at h
 ·rename_i m hm;simp only[qqk]at h;rw[<-h];exact yG hp _ _ (P0 hp hm)
 ·simp at h
theorem qu{ρ:Env}{a:X}{pc:PC}{n:Int}(hp:ai ρ pc) (h:mw (some n) (loB a pc)=true):n<a.den ρ:=by
 unfold mw at h;split at h
 ·rename_i m k e1 e2;simp at h e1;have:=VW hp e2;omega
 ·simp at h
theorem qt{ρ:Env}{a:X}{pc:PC}{n:Int}(hp:ai ρ pc) (h:mw (hiB a pc) (some n)=true):a.den ρ<n:=by
 unfold mw at h;split at h
 ·rename_i m k e1 e2;simp at h e2;have:=Vv hp e1;omega
 ·simp at h
theorem JG{ρ:Env}{pc:PC}{x:X}{b:Bool}(hp:ai ρ pc)(h:AO pc x=some b):x.tt ρ=b:=by
 unfold AO at h;split at h
 ·rename_i c hc;simp only[qqk]at h;rw[<-h];exact qY hp hc
 ·split at h
  ·rw[X.tt];simp only[X.den,da];exact Ns hp h
  ·simp only at h;split at h
   ·rename_i hc;simp only[qqk]at h;rw[bZ,<-h];rw[qz7]at hc;rcases hc with hc|hc
    ·have h1:=qu hp hc;simp[X.den];omega
    ·have h1:=qt hp hc;simp[X.den];omega
   ·split at h
    ·rename_i l u e1 e2;split at h
     ·rename_i hb;simp only[qqk]at h;rw[qqw]at hb;have h1:=VW hp e1;have h2:=Vv hp e2;have h3:=bx hb.1;have h4:=bx hb.2;rw[bZ,<-h];simp[X.den];omega
     ·simp at h
    ·simp at h
  ·simp only at h;split at h
   ·rename_i hc;have h1:=qt hp hc;simp only[qqk]at h;rw[nX,<-h];simp only[X.den];first|(exact decide_eq_true (by omega))|(exact decide_eq_false (by omega))
   ·split at h
    ·rename_i hc;have h1:=qu hp hc;simp only[qqk]at h;rw[nX,<-h];simp only[X.den];first|(exact decide_eq_true (by omega))|(exact decide_eq_false (by omega))
    ·simp at h
  ·simp only at h;split at h
   ·rename_i hc;have h1:=qt hp hc;simp only[qqk]at h;rw[qN,<-h];simp only[X.den];first|(exact decide_eq_true (by omega))|(exact decide_eq_false (by omega))
   ·split at h
    ·rename_i hc;have h1:=qu hp hc;simp only[qqk]at h;rw[qN,<-h];simp only[X.den];first|(exact decide_eq_true (by omega))|(exact decide_eq_false (by omega))
    ·simp at h
  ·simp only at h;split at h
   ·rename_i hc;have h1:=qu hp hc;simp only[qqk]at h;rw[nX,<-h];simp only[X.den];first|(exact decide_eq_true (by omega))|(exact decide_eq_false (by omega))
   ·split at h
    ·rename_i hc;have h1:=qt hp hc;simp only[qqk]at h;rw[nX,<-h];simp only[X.den];first|(exact decide_eq_true (by omega))|(exact decide_eq_false (by omega))
    ·simp at h
  ·simp only at h;split at h
   ·rename_i hc;have h1:=qu hp hc;simp only[qqk]at h;rw[qN,<-h];simp only[X.den];first|(exact decide_eq_true (by omega))|(exact decide_eq_false (by omega))
   ·split at h
    ·rename_i hc;have h1:=qt hp hc;simp only[qqk]at h;rw[qN,<-h];simp only[X.den];first|(exact decide_eq_true (by omega))|(exact decide_eq_false (by omega))
    ·simp at h
  ·simp at h
def gE(ρ:Env):List (X×Int)->Int
 |[]=>0
 |(x,c)::l=>c*x.den ρ+gE ρ l
def iN.den(ρ:Env)(g:iN):Int:=gE ρ g.ts+g.k
section
variable {ρ:Env}
theorem Jg(x:X)(c:Int):∀ l:List (X×Int),gE ρ (Ze x c l)=c*x.den ρ+gE ρ l
 |[]=>rfl
 |(y,d)::l=>by
  unfold Ze;split
  ·rename_i h;obtain rfl:=X.beq_eq h;split
   ·rename_i hz;have hz':=bx hz;have:d*y.den ρ+c*y.den ρ=0:=by rw[<-Int.add_mul,hz',Int.zero_mul]
    simp only[gE];omega
   ·simp only[gE,Int.add_mul];omega
  ·simp only[gE,Jg x c l];omega
theorem DF(m:Int):∀ r l:List (X×Int),gE ρ (DE m r l)=m*gE ρ r+gE ρ l
 |[],l=>by simp[DE,gE]
 |(x,c)::r,l=>by
  simp only[DE,DF m r,Jg,gE,Int.mul_add,qz1];omega
theorem iN.eM(m:Int)(a b:iN):(iN.plus m a b).den ρ=m*a.den ρ+b.den ρ:=by
 show gE ρ (DE m a.ts b.ts)+(b.k+m*a.k)=_;simp only[iN.den,DF,Int.mul_add];omega
theorem iN.DZ(n:Int):(iN.mk [] n).den ρ=n:=by simp[iN.den,gE]
theorem ot(x:X):(wC x).den ρ=x.den ρ:=by
 induction x with
 |lit n=>simp[wC,iN.den,gE,X.den]
 |add a b ia ib=>
  simp only[wC,iN.eM,ia,ib,X.den];omega
 |sub a b ia ib=>
  simp only[wC,iN.eM,ia,ib,X.den];omega
 |mul a b ia ib=>
  unfold wC;split
  ·split
   ·rename_i h;have h':=bx h;subst h';simp[iN.den,gE,X.den]
   ·simp only[iN.eM,iN.DZ,ia,X.den,Int.add_zero];exact Int.mul_comm _ _
  ·split
   ·split
    ·rename_i h;have h':=bx h;subst h';simp[iN.den,gE,X.den]
    ·simp only[iN.eM,iN.DZ,ib,X.den,Int.add_zero]
   ·simp[iN.den,gE]
 |_=>simp[wC,iN.den,gE]
theorem Ve{x:X}{b:Bool}(h:x.tt ρ=b):∀ f∈PN x b,0<=f.den ρ:=by
 intro f hf;unfold PN at hf;split at hf
 ·rw[nX]at h;have:=qd h;obtain rfl:=qq4.1 hf;simp only[iN.eM,ot,iN.DZ];omega
 ·rw[nX]at h;have:=iE h;obtain rfl:=qq4.1 hf;simp only[iN.eM,ot];omega
 ·rw[qN]at h;have:=p9 h;obtain rfl:=qq4.1 hf;simp only[iN.eM,ot];omega
 ·rw[qN]at h;have:=iD h;obtain rfl:=qq4.1 hf;simp only[iN.eM,ot,iN.DZ];omega
 ·rw[bZ]at h;have:=of_decide_eq_true h;simp only[List.mem_cons,qk6,or_false]at hf;rcases hf with rfl|rfl<;>simp only[iN.eM,ot]<;>omega
 ·simp at hf
theorem ZC{x:X}{c:Int}{f:iN}(h:ajh x c=some f):0<=f.den ρ:=by
 unfold ajh at h;split at h
 ·cases h
 ·rename_i r hr;obtain⟨h1,h2⟩:=ki (ρ:=ρ) hr;split at h<;>(obtain rfl:=qqz h;simp only[iN.den,gE];omega)
theorem P2(a:Int):0<=J8 a/\(a≠0->0<J8 a):=by
 unfold J8;split
 ·rename_i h;have:=of_decide_eq_true h;exact⟨this,fun hn=>by omega⟩
 ·rename_i h;have:=of_decide_eq_false h;exact⟨by omega,fun hn=>by omega⟩
theorem JM{x:X}{c:Int}{g f g':iN}(h:PE x c g f=some g')(hf:0<=f.den ρ)(hg:0<=g'.den ρ):0<=g.den ρ:=by
 unfold PE at h;dsimp only at h;split at h
 ·rename_i hd;have hd':=of_decide_eq_true hd;obtain rfl:=qqz h;rw[iN.eM,iN.eM,iN.DZ]at hg;have h1:0<J8 (Fh x f.ts):=(P2 _).2 fun e=>by rw[e,Int.zero_mul]at hd';omega
  have h3:0<=J8 c*f.den ρ:=Int.mul_nonneg (P2 c).1 hf;have h4:0<=J8 (Fh x f.ts)*g.den ρ:=by rw[Int.neg_mul]at hg;omega
  exact Int.not_lt.1 fun hn=>absurd (Int.mul_neg_of_pos_of_neg h1 hn) (Int.not_lt.2 h4)
 ·cases h
theorem zo{rest:iN->Bool}{x:X}{c:Int}{g:iN}(hr:∀ g',rest g'=true->0<=g'.den ρ):∀ {fs:List iN},(∀ f∈fs,0<=f.den ρ)->nW rest x c g fs=true->0<=g.den ρ
 |[],_,h=>by
  unfold nW at h;split at h
  ·cases h
  ·rename_i f hf;split at h
   ·cases h
   ·rename_i g' he;exact JM he (ZC hf) (hr _ h)
 |f::fs,hfs,h=>by
  unfold nW at h;have ih:=zo (x:=x) (c:=c) (g:=g) hr (fs:=fs) fun f hf=>hfs f (qq3 _ hf)
  split at h
  ·exact ih h
  ·rename_i g' he;split at h
   ·rename_i hg;exact JM he (hfs f qq1) (hr _ hg)
   ·exact ih h
theorem ye{fs:List iN}(hfs:∀ f∈fs,0<=f.den ρ):∀ {n:Nat} {g:iN},Co n fs g=true->0<=g.den ρ
 |0,g,h=>by simp[Co]at h
 |n+1,g,h=>by
  unfold Co at h;split at h
  ·rename_i hg;have:=of_decide_eq_true h;simp only[iN.den,hg,gE];omega
  ·exact zo (fun g' hg=>ye hfs hg) hfs h
theorem xg:∀ {pc:PC},ai ρ pc->∀ f∈Bb pc,0<=f.den ρ
 |[],_,f,hf=>by simp[Bb]at hf
 |(x,b)::pc,hp,f,hf=>by
  rcases qzz.1 (show f∈PN x b++Bb pc from hf)with hf|hf
  ·exact Ve (hp (x,b) qq1) f hf
  ·exact xg (fun f hf=>hp f (qq3 _ hf)) f hf
theorem eu{pc:PC}{a b:X}(hp:ai ρ pc)(h:C8 pc a b=true):a.den ρ<=b.den ρ:=by
 have:=ye (xg hp) h;simp only[iN.eM,ot]at this;omega
theorem tE{pc:PC}{a b:X}(hp:ai ρ pc)(h:ltL pc a b=true):a.den ρ<b.den ρ:=by
 have:=ye (xg hp) h;simp only[iN.eM,ot,iN.DZ]at this;omega
theorem wY{pc:PC}{x:X}{b:Bool}(hp:ai ρ pc)(h:AP pc x=some b):x.tt ρ=b:=by
 unfold AP at h;split at h
 ·rw[nX];split at h
  ·rename_i hl;obtain rfl:=qqz h;exact decide_eq_true (tE hp hl)
  ·split at h
   ·rename_i hl;obtain rfl:=qqz h;exact decide_eq_false (Int.not_lt.2 (eu hp hl))
   ·cases h
 ·rw[qN];split at h
  ·rename_i hl;obtain rfl:=qqz h;exact decide_eq_true (eu hp hl)
  ·split at h
   ·rename_i hl;obtain rfl:=qqz h;exact decide_eq_false (Int.not_le.2 (tE hp hl))
   ·cases h
 ·rw[bZ];split at h
  ·rename_i hl;obtain rfl:=qqz h;have:=tE hp hl;exact beq_eq_false_iff_ne.2 (by omega)
  ·split at h
   ·rename_i hl;obtain rfl:=qqz h;have:=tE hp hl;exact beq_eq_false_iff_ne.2 (by omega)
   ·split at h
    ·rename_i h1;split at h
     ·rename_i h2;obtain rfl:=qqz h;have:=eu hp h1;have:=eu hp h2;exact beq_iff_eq.2 (by omega)
     ·cases h
    ·cases h
 ·cases h
end
theorem dz{ρ:Env}{pc:PC}{x:X}{b:Bool}(hp:ai ρ pc)(h:eU pc x=some b):x.tt ρ=b:=by
 unfold eU at h;split at h
 ·rename_i h0;rw[<-qqz h];exact JG hp h0
 ·split at h
  ·exact wY hp h
  ·cases h
theorem bL{α β:Type}{ρ:Env}{r:R α}{k:α->R β}{b:β} (h:(r.bind k).ag ρ=some b):∃ a,r.ag ρ=some a/\(k a).ag ρ=some b:=by
 induction r with
 |ok a=>exact⟨a,rfl,h⟩
 |br c t f it jf=>
  simp only[R.bind,R.ag]at h ⊢;split at h
  ·rename_i hc;simp only[hc,if_true];exact it h
  ·rename_i hc;simp only[hc,if_false,qqj];exact jf h
 |stuck s=>simp[R.bind,R.ag]at h
structure cG (ρ:Env) (st st':St):Prop where
 h:st'.h=st.h
 n:st'.n=st.n
 pc:ai ρ st'.pc
theorem cG.refl{ρ:Env}{st:St}(h:ai ρ st.pc):cG ρ st st:=⟨rfl,rfl,h⟩
theorem cG.trans{ρ:Env}{a b c:St}(h:cG ρ a b)(h':cG ρ b c):cG ρ a c:=⟨h'.h.trans h.h,h'.n.trans h.n,h'.pc⟩
theorem Oh{α:Type}{ρ:Env}{st:St}{x:X}{k:St->Bool->R α}{a:α}(hp:ai ρ st.pc)
  (h:(match eU st.pc x with
   |some b=>k st b
   |none=>R.br x (k {st with pc:=(x,true)::st.pc} true) (k {st with pc:=(x,false)::st.pc} false)).ag ρ=some a):
  ∃ st',cG ρ st st'/\(k st' (x.tt ρ)).ag ρ=some a:=by
 cases hd:eU st.pc x with
 |some b=>
  rw[hd]at h;exact⟨st,.refl hp,by rw[dz hp hd];exact h⟩
 |none=>
  rw[hd]at h;simp only[R.ag]at h;cases hx:x.tt ρ with
  |true=>
   rw[hx,if_pos rfl]at h;exact⟨{st with pc:=(x,true)::st.pc},⟨rfl,rfl,fun f hf=>(List.mem_cons.1 hf).elim (fun e=>by rw[e];exact hx) (hp f)⟩,h⟩
  |false=>
   rw[hx,if_neg (by simp)]at h;exact⟨{st with pc:=(x,false)::st.pc},⟨rfl,rfl,fun f hf=>(List.mem_cons.1 hf).elim (fun e=>by rw[e];exact hx) (hp f)⟩,h⟩
theorem OZ{α:Type}{ρ:Env}{x:X}:∀ {st:St} {k:St->Bool->R α} {a:α},ai ρ st.pc->(dq st x k).ag ρ=some a->
  ∃ st',cG ρ st st'/\(k st' (x.tt ρ)).ag ρ=some a:=by
 induction x with
 |lit n=>
  intro st k a hp h;refine⟨st,.refl hp,?_⟩;simp only[dq]at h;rw[show(X.lit n).tt ρ=!aT n 0 from by simp[X.tt,X.den,bR,bne]];exact h
 |not y ih=>
  intro st k a hp h;simp only[dq]at h;obtain⟨st',hl,h'⟩:=ih (k:=fun st b=>k st !b) hp h;exact⟨st',hl,by rw[show(X.not y).tt ρ=!y.tt ρ from by simp only[X.tt,X.den,bne,pD,Bool.not_not]];exact h'⟩
 |ite c a b ic ia ib=>
  intro st k r hp h;simp only[dq]at h;obtain⟨st',hl,h'⟩:=ic (k:=fun st t=>match t with
   |true=>dq st a k
   |false=>dq st b k) hp h
  have e:(X.ite c a b).tt ρ=if c.tt ρ then a.tt ρ else b.tt ρ:=by
   simp only[X.tt,X.den];by_cases hc:c.den ρ=0<;>simp[hc]
  cases hc:c.tt ρ with
  |true=>
   rw[hc]at h';obtain⟨st2,hl2,h2⟩:=ia hl.pc h';exact⟨st2,hl.trans hl2,by rw[e,hc];exact h2⟩
  |false=>
   rw[hc]at h';obtain⟨st2,hl2,h2⟩:=ib hl.pc h';exact⟨st2,hl.trans hl2,by rw[e,hc];exact h2⟩
 |_=>
  intro st k a hp h;simp only[dq]at h;exact Oh hp h
theorem ah{α:Type}{ρ:Env}{x:X}{st:St}{k:St->Bool->R α}{a:α}(hp:ai ρ st.pc) (h:(split st x k).ag ρ=some a):
  ∃ st',cG ρ st st'/\(k st' (x.tt ρ)).ag ρ=some a:=by
 rw[nU]at h;exact OZ hp h
theorem dj{a b:Bool}(h:j0 a b=true):a=b:=by cases a<;>cases b<;>first|rfl|cases h
theorem XC.beq_eq{a b:XC}(h:a.beq b=true):a=b:=by
 cases a<;>cases b<;>simp only[XC.beq,qqj]at h<;>rw[X.beq_eq h]
mutual
theorem V.beq_eq:∀ (u v:V),u.beq v=true->u=v
 |.int k x,v,h=>by
  cases v<;>simp only[V.beq,qqj]at h
  simp only[qqw]at h;rw[a9 h.1,X.beq_eq h.2]
 |.bool x,v,h=>by
  cases v<;>simp only[V.beq,qqj]at h
  rw[X.beq_eq h]
 |.str x,v,h=>by
  cases v<;>simp only[V.beq,qqj]at h
  rw[X.beq_eq h]
 |.ptr b o,v,h=>by
  cases v<;>simp only[V.beq,qqj]at h
  simp only[qqw]at h;rw[qqq h.1,qqq h.2]
 |.nilptr,v,h=>by cases v<;>simp only[V.beq,qqj]at h;rfl
 |.slice b o n c,v,h=>by
  cases v<;>simp only[V.beq,qqj]at h
  rename_i b' o' n' c';simp only[qqw]at h;obtain⟨⟨⟨h1,h2⟩,h3⟩,h4⟩:=h;rw[qqq h1,qqq h2,qqq h3];cases c<;>cases c'<;>simp only[qqw,qqj]at h4
  ·rw[qqq h4]
  ·rw[qqq h4.1.1,qqq h4.1.2,qqq h4.2]
 |.nilslice,v,h=>by cases v<;>simp only[V.beq,qqj]at h;rfl
 |.map b,v,h=>by
  cases v<;>simp only[V.beq,qqj]at h
  rw[qqq h]
 |.nilmap,v,h=>by cases v<;>simp only[V.beq,qqj]at h;rfl
 |.func f a b,v,h=>by
  cases f<;>cases v<;>try(simp only[V.beq,qqj]at h)
  rename_i f g c d;cases g<;>simp only[V.beq,qqj]at h
  simp only[qqw]at h;rw[qqq h.1.1,V.aR _ _ h.1.2,V.aR _ _ h.2]
 |.yield b,v,h=>by
  cases v<;>simp only[V.beq,qqj]at h
  rw[qqq h]
 |.nilfunc,v,h=>by cases v<;>simp only[V.beq,qqj]at h;rfl
 |.iface t x,v,h=>by
  cases v<;>simp only[V.beq,qqj]at h
  simp only[qqw]at h;rw[qqq h.1,V.beq_eq _ _ h.2]
 |.niliface,v,h=>by cases v<;>simp only[V.beq,qqj]at h;rfl
 |.agg l,v,h=>by
  cases v<;>simp only[V.beq,qqj]at h
  rw[V.aR _ _ h]
 |.tuple l,v,h=>by
  cases v<;>simp only[V.beq,qqj]at h
  rw[V.aR _ _ h]
 |.wptr b o,v,h=>by
  cases v<;>simp only[V.beq,qqj]at h
  simp only[qqw]at h;rw[qqq h.1,qqq h.2]
 |.wslice b o n c,v,h=>by
  cases v<;>simp only[V.beq,qqj]at h
  simp only[qqw]at h;obtain⟨⟨⟨h1,h2⟩,h3⟩,h4⟩:=h;rw[qqq h1,qqq h2,X.beq_eq h3,X.beq_eq h4]
 |.ite c a b,v,h=>by
  cases v<;>simp only[V.beq,qqj]at h
  simp only[qqw]at h;rw[X.beq_eq h.1.1,V.beq_eq _ _ h.1.2,V.beq_eq _ _ h.2]
 |.sptr b o n i,v,h=>by
  cases v<;>simp only[V.beq,qqj]at h
  simp only[qqw]at h;obtain⟨⟨⟨h1,h2⟩,h3⟩,h4⟩:=h;rw[qqq h1,qqq h2,qqq h3,X.beq_eq h4]
 |.rest _ _ _ _,v,h=>by simp[V.beq]at h
 |.xslice w b off es n c,v,h=>by
  cases v<;>simp only[V.beq,qqj]at h
  simp only[qqw]at h;obtain⟨⟨⟨⟨⟨h1,h2⟩,h3⟩,h4⟩,h5⟩,h6⟩:=h;rw[dj h1,qqq h2,X.beq_eq h3,qqq h4,X.beq_eq h5,XC.beq_eq h6]
 |.xptr w b i es c,v,h=>by
  cases v<;>simp only[V.beq,qqj]at h
  simp only[qqw]at h;obtain⟨⟨⟨⟨h1,h2⟩,h3⟩,h4⟩,h5⟩:=h;rw[dj h1,qqq h2,X.beq_eq h3,qqq h4,qqq h5]
 |.any i,v,h=>by
  cases v<;>simp only[V.beq,qqj]at h
  rw[qqq h]
theorem V.aR:∀ (u v:List V),V.cM u v=true->u=v
 |[],[],_=>rfl
 |[],_::_,h=>by simp[V.cM]at h
 |_::_,[],h=>by simp[V.cM]at h
 |a::l,b::m,h=>by
  simp only[V.cM,qqw]at h;rw[V.beq_eq _ _ h.1,V.aR _ _ h.2]
end
section
variable {ρ:Env} {π:Pl}
theorem AM(c:X)(a b:V):(V.ite c a b).ab ρ π=if c.tt ρ then a.ab ρ π else b.ab ρ π:=rfl
theorem bC(c:X)(a b:V):(Er c a b).ab ρ π=if c.tt ρ then a.ab ρ π else b.ab ρ π:=by
 unfold Er;split
 ·rename_i h;rw[V.beq_eq _ _ h];split<;>rfl
 ·rfl
mutual
theorem ja(c:X):∀ a b:V,(cm c a b).ab ρ π=if c.tt ρ then a.ab ρ π else b.ab ρ π
 |.int k x,b=>by
  unfold cm;cases b with
  |int j y=>
   dsimp only;split
   ·rename_i h;obtain rfl:=a9 h;simp only[V.ab,gY];split<;>rfl
   ·rfl
  |_=>rfl
 |.bool x,b=>by
  unfold cm;cases b with
  |bool y=>
   simp only[V.ab,BW];split<;>rfl
  |_=>rfl
 |.str x,b=>by
  unfold cm;cases b with
  |str y=>
   simp only[V.ab,qf];split<;>rfl
  |_=>rfl
 |.agg l,b=>by
  unfold cm;cases b with
  |agg m=>
   dsimp only;split
   ·rename_i r h;simp only[V.ab,jM c l m h];split<;>rfl
   ·rfl
  |_=>rfl
 |.tuple l,b=>by
  unfold cm;cases b with
  |tuple m=>
   dsimp only;split
   ·rename_i r h;simp only[V.ab,jM c l m h];split<;>rfl
   ·rfl
  |_=>rfl
 |.ptr _ _,b=>by unfold cm;exact bC c _ b
 |.nilptr,b=>by unfold cm;exact bC c _ b
 |.slice _ _ _ _,b=>by unfold cm;exact bC c _ b
 |.nilslice,b=>by unfold cm;exact bC c _ b
 |.map _,b=>by unfold cm;exact bC c _ b
 |.nilmap,b=>by unfold cm;exact bC c _ b
 |.func _ _ _,b=>by unfold cm;exact bC c _ b
 |.yield _,b=>by unfold cm;exact bC c _ b
 |.nilfunc,b=>by unfold cm;exact bC c _ b
 |.iface _ _,b=>by unfold cm;exact bC c _ b
 |.niliface,b=>by unfold cm;exact bC c _ b
 |.wptr _ _,b=>by unfold cm;exact bC c _ b
 |.wslice _ _ _ _,b=>by unfold cm;exact bC c _ b
 |.ite _ _ _,b=>by unfold cm;exact bC c _ b
 |.sptr _ _ _ _,b=>by unfold cm;exact bC c _ b
 |.rest _ _ _ _,b=>by unfold cm;exact bC c _ b
 |.xslice _ _ _ _ _ _,b=>by unfold cm;exact bC c _ b
 |.xptr _ _ _ _ _,b=>by unfold cm;exact bC c _ b
 |.any _,b=>by unfold cm;exact bC c _ b
theorem jM(c:X):∀ (l m:List V) {r:List V},dP c l m=some r->V.ae ρ π r=if c.tt ρ then V.ae ρ π l else V.ae ρ π m
 |[],[],r,h=>by
  obtain rfl:=qqz (show some []=some r from h);split<;>rfl
 |a::l,b::m,r,h=>by
  unfold dP at h;dsimp only at h;split at h
  ·rename_i q hq;obtain rfl:=qqz h;have:=jM c l m hq;simp only[V.ae,ja c a b,this];split<;>rfl
  ·cases h
 |[],b::m,r,h=>by unfold dP at h;exact absurd h (by simp)
 |a::l,[],r,h=>by unfold dP at h;exact absurd h (by simp)
end
theorem BE(c:X):∀ (l m:List V) {r:List V},dP c l m=some r->r.length=l.length/\r.length=m.length
 |[],[],r,h=>by
  obtain rfl:=qqz (show some []=some r from h);exact⟨rfl,rfl⟩
 |a::l,b::m,r,h=>by
  unfold dP at h;dsimp only at h;split at h
  ·rename_i q hq;obtain rfl:=qqz h;have:=BE c l m hq;simp only[List.length_cons];omega
  ·cases h
 |[],b::m,r,h=>by unfold dP at h;exact absurd h (by simp)
 |a::l,[],r,h=>by unfold dP at h;exact absurd h (by simp)
theorem lY{α:Type}:∀ {n:Nat} {st:St} {v:V} {k:St->V->R α} {a:α},ai ρ st.pc->(eB n st v k).ag ρ=some a->
  ∃ st' v',cG ρ st st'/\(∀ π:Pl,v'.ab ρ π=v.ab ρ π)/\(k st' v').ag ρ=some a
 |0,st,v,k,a,hp,h=>⟨st,v,.refl hp,fun _=>rfl,h⟩
 |n+1,st,v,k,a,hp,h=>by
  unfold eB at h;split at h
  ·rename_i c x y;obtain⟨st1,hl,h1⟩:=ah hp h;split at h1
   ·rename_i hc;obtain⟨st2,v2,hl2,hv2,h2⟩:=lY hl.pc h1;exact⟨st2,v2,hl.trans hl2,fun π=>by rw[hv2 π,AM,if_pos hc],h2⟩
   ·rename_i hc;obtain⟨st2,v2,hl2,hv2,h2⟩:=lY hl.pc h1;exact⟨st2,v2,hl.trans hl2,fun π=>by rw[hv2 π,AM,if_neg (by rw[hc];simp)],h2⟩
  ·exact⟨st,v,.refl hp,fun _=>rfl,h⟩
theorem CM{i:X}:∀ {l:List V} {j:Nat} {r:V},Fa i j l=some r->∀ n,i.den ρ=((j+n:Nat):Int)->∀ v,l[n]?=some v->r.ab ρ π=v.ab ρ π
 |[],j,r,h,n,hi,v,hv=>by simp at hv
 |u::l,j,r,h,n,hi,v,hv=>by
  unfold Fa at h;split at h
  ·obtain rfl:=qqz h;cases n with
   |zero=>simp at hv;rw[hv]
   |succ n=>simp at hv
  ·split at h
   ·rename_i q hq;obtain rfl:=qqz h;rw[ja,fE];simp only[X.den];cases n with
    |zero=>
     simp at hv;have e:(i.den ρ==Int.ofNat j)=true:=by rw[hi];simp
     simp only[e,if_true,hv]
    |succ n=>
     have e:(i.den ρ==Int.ofNat j)=false:=by rw[hi];simp;omega
     simp only[e,qqj,if_false];exact CM hq n (by rw[hi];congr 1;omega) v (by simpa using hv)
   ·cases h
theorem Kb{k:IntKind}{f:Nat}:∀ {l:List V} {j:Nat},abC k f j l=true->∀ (n:Nat) (v:V),l[n]?=some v->v=V.int k (.wrap k (.fn1 f (.lit ((j+n:Nat):Int))))
 |[],j,h,n,v,hv=>by simp at hv
 |u::l,j,h,n,v,hv=>by
  unfold abC at h;split at h
  ·split at h
   ·rename_i h1 h2;split at h
    ·rename_i h3 h4;cases n with
     |zero=>
      simp at hv;rw[<-hv,a9 h1,a9 h2,qqq h3,bx h4];rfl
     |succ n=>
      have:=Kb h n v (by simpa using hv);rw[this,show j+1+n=j+(n+1) by omega]
    ·cases h
   ·cases h
  ·cases h
theorem Fb{i:X}{l:List V}{r:V}(h:Tf i l=some r){n:Nat} (hi:i.den ρ=(n:Int)) {v:V} (hv:l[n]?=some v):r.ab ρ π=v.ab ρ π:=by
 have old:Fa i 0 l=some r->r.ab ρ π=v.ab ρ π:=fun h=>CM h n (by rw[hi];simp) v hv
 unfold Tf at h;split at h
 ·split at h
  ·rename_i hf;obtain rfl:=qqz h;have:=Kb hf n v hv;rw[this];simp only[V.ab,X.den,hi,qk7]
  ·exact old h
 ·exact old h
theorem CT{i:X}{u:V}:∀ (l:List V) (j:Nat),(kj i u j l).length=l.length
 |[],_=>rfl
 |_::l,j=>by simp[kj,CT l]
theorem zn{i:X}{u:V}:∀ (l:List V) (j n:Nat),i.den ρ=((j+n:Nat):Int)->V.ae ρ π (kj i u j l)=(V.ae ρ π l).set n (u.ab ρ π)
 |[],j,n,_=>by simp[kj,V.ae]
 |v::l,j,n,h=>by
  simp only[kj,V.ae,ja,fE,X.den];cases n with
  |zero=>
   have e:(i.den ρ==Int.ofNat j)=true:=by rw[h];simp
   simp only[e,if_true,List.set_cons_zero,List.cons.injEq,true_and];have key:∀ (l:List V) (j':Nat),i.den ρ<(j':Int)->V.ae ρ π (kj i u j' l)=V.ae ρ π l:=by
    intro l;induction l with
    |nil=>intro j' _;rfl
    |cons w l ih=>
     intro j' hj;simp only[kj,V.ae,ja,fE,X.den];have e:(i.den ρ==Int.ofNat j')=false:=beq_eq_false_iff_ne.2 (by simp;omega);simp only[e,qqj,if_false];rw[ih (j'+1) (by omega)]
   exact key l (j+1) (by rw[h];omega)
  |succ n=>
   have e:(i.den ρ==Int.ofNat j)=false:=by rw[h];simp;omega
   simp only[e,qqj,if_false,List.set_cons_succ,List.cons.injEq,true_and];exact zn l (j+1) n (by rw[h];congr 1;omega)
end
end Go.Proofs.YtgcbnjpeifigaaaGreatDoor
