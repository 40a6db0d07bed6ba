/- Symbolic execution, part 3 a: bits mean what they say. Symbolic execution: the bounds that expressions have by themselves. Symbolic execution, part 4: expressions and tests mean what they say. Symbolic execution: values that are one of two; elements whose number is left open. No condition. -/
import Derived.Test.YtmickljjofbmiaaGreatDoorFwA
namespace Go.Proofs.YtmickljjofbmiaaGreatDoor
open Go
section
variable {ρ:Env}
theorem B.ga(b:B):b.not.den ρ=!b.den ρ:=by cases b<;>simp [B.not,B.den]
theorem B.FJ{a b c:B}(h:a.and b=some c):c.den ρ=(a.den ρ&&b.den ρ):=by
 unfold B.and at h
 split at h
 ·injection h with h;subst h;simp [B.den]
 ·injection h with h;subst h;simp [B.den]
 ·split at h
  ·injection h with h;subst h;simp [B.den]
  ·injection h with h;subst h;simp [B.den]
  ·split at h
   ·rename_i hb
    injection h with h;subst h
    rw [B.beq_eq hb];simp
   ·rename_i hb
    injection h with h;subst h
    rw [B.beq_eq hb,B.ga];simp [B.den]
   ·cases h
theorem B.aeZ{a b c:B}(h:a.or b=some c):c.den ρ=(a.den ρ || b.den ρ):=by
 unfold B.or at h
 split at h
 ·rename_i d hd
  injection h with h;subst h
  rw [B.ga,B.FJ hd,B.ga,B.ga]
  cases a.den ρ<;>cases b.den ρ<;>rfl
 ·cases h
theorem B.Yr{a b c:B}(h:a.xor b=some c):c.den ρ=(a.den ρ ^^ b.den ρ):=by
 unfold B.xor at h
 split at h
 ·injection h with h;subst h;simp [B.den]
 ·injection h with h;subst h;rw [B.ga];simp [B.den]
 ·split at h
  ·injection h with h;subst h;simp [B.den]
  ·injection h with h;subst h;rw [B.ga];simp [B.den]
  ·split at h
   ·rename_i hb
    injection h with h;subst h
    rw [B.beq_eq hb];simp [B.den]
   ·rename_i hb
    injection h with h;subst h
    rw [B.beq_eq hb,B.ga];simp [B.den]
   ·cases h
theorem B.Rs{a b c:B}(h:a.diff b=some c):c.den ρ=(a.den ρ && !b.den ρ):=by
 rw [B.FJ (show a.and b.not=some c from h),B.ga]
def du(ρ:Env)(l:List B)(t:B)(i:Nat):Bool:=match l[i]? with
 | some b=>b.den ρ
 | none=>t.den ρ
theorem fI(t:B)(i:Nat):du ρ [] t i=t.den ρ:=by simp [du]
theorem dk(b:B)(l:List B)(t:B):du ρ (b::l) t 0=b.den ρ:=by simp [du]
theorem dj(b:B)(l:List B)(t:B)(i:Nat):du ρ (b::l) t (i+1)=du ρ l t i:=by simp [du]
theorem bk(t:B):aw ρ [] t=-bc (t.den ρ):=rfl
theorem aB(b:B)(l:List B)(t:B):aw ρ (b::l) t=bc (b.den ρ)+2*aw ρ l t:=rfl
theorem n9(b:Bool):bc b=0∨bc b=1:=by cases b<;>simp [bc]
theorem CL(b:Bool):(bc b==0)=!b:=by cases b<;>rfl
theorem Ze{a b:Bool}(h:bc a=bc b):a=b:=by cases a<;>cases b<;>simp [bc] at h ⊢
theorem Jn{f:B→B→Option B}{g:Bool→Bool→Bool} (hf:∀ a b c,f a b=some c→c.den ρ=g (a.den ρ) (b.den ρ)) {t:B}:∀ {m:List B} {u:B} {r:List B} {s:B},KK f t m u=some (r,s)→∀ i,du ρ r s i=g (t.den ρ) (du ρ m u i)
 | [],u,r,s,h,i=>by
  unfold KK at h
  split at h
  ·rename_i c hc
   simp only [Option.some.injEq,Prod.mk.injEq] at h
   obtain⟨rfl,rfl⟩:=h
   rw [fI,fI,hf _ _ _ hc]
  ·cases h
 | c::m,u,r,s,h,i=>by
  unfold KK oO at h
  split at h
  ·cases h
  ·rename_i d hd
   split at h
   ·cases h
   ·rename_i l' t' hr
    simp only [Option.some.injEq,Prod.mk.injEq] at h
    obtain⟨rfl,rfl⟩:=h
    cases i with
    | zero=>rw [dk,dk,hf _ _ _ hd]
    | succ i=>rw [dj,dj,Jn hf hr]
theorem lu{f:B→B→Option B}{g:Bool→Bool→Bool} (hf:∀ a b c,f a b=some c→c.den ρ=g (a.den ρ) (b.den ρ)):∀ {l:List B} {t:B} {m:List B} {u:B} {r:List B} {s:B},ph f l t m u=some (r,s)→∀ i,du ρ r s i=g (du ρ l t i) (du ρ m u i)
 | [],t,m,u,r,s,h,i=>by
  rw [fI]
  exact Jn hf (by unfold ph at h;exact h) i
 | b::l,t,[],u,r,s,h,i=>by
  unfold ph oO at h
  dsimp only at h
  split at h
  ·cases h
  ·rename_i d hd
   split at h
   ·cases h
   ·rename_i l' t' hr
    simp only [Option.some.injEq,Prod.mk.injEq] at h
    obtain⟨rfl,rfl⟩:=h
    cases i with
    | zero=>rw [dk,dk,fI,hf _ _ _ hd]
    | succ i=>rw [dj,dj,lu hf hr,fI,fI]
 | b::l,t,c::m,u,r,s,h,i=>by
  unfold ph oO at h
  dsimp only at h
  split at h
  ·cases h
  ·rename_i d hd
   split at h
   ·cases h
   ·rename_i l' t' hr
    simp only [Option.some.injEq,Prod.mk.injEq] at h
    obtain⟨rfl,rfl⟩:=h
    cases i with
    | zero=>rw [dk,dk,dk,hf _ _ _ hd]
    | succ i=>rw [dj,dj,dj,lu hf hr]
def eJ(f:Nat→Bool):Nat→Int
 | 0=>0
 | n+1=>bc (f 0)+2*eJ (fun i=>f (i+1)) n
theorem r6{f g:Nat→Bool}:∀ {n:Nat},(∀ i,i<n→f i=g i)→eJ f n=eJ g n
 | 0,_=>rfl
 | n+1,h=>by rw [eJ,eJ,h 0 (by omega),r6 fun i hi=>h (i+1) (by omega)]
theorem kJ(l:List B)(t:B):∀ n,aw ρ l t % 2 ^ n=eJ (du ρ l t) n:=by
 induction l with
 | nil=>
  intro n
  rw [bk]
  have e:du ρ [] t=fun _=>t.den ρ:=funext fun i=>fI t i
  rw [e]
  induction n with
  | zero=>simp [eJ,Int.emod_one]
  | succ n ih=>
   rw [eJ,←ih,show (2:Int) ^ (n+1)=2*2 ^ n from by rw [Int.pow_succ];omega]
   have h1:(0:Int)<2 ^ n:=Int.pow_pos (by omega)
   cases t.den ρ with
   | false=>simp [bc]
   | true=>
    show (-1:Int) % (2*2 ^ n)=1+2*(-1 % 2 ^ n)
    rw [Int.emod_eq_add_self_emod,Int.emod_eq_of_lt (by omega) (by omega),Int.emod_eq_add_self_emod,Int.emod_eq_of_lt (a:=-1+2 ^ n) (by omega) (by omega)]
    omega
 | cons b l ih=>
  intro n
  cases n with
  | zero=>simp [eJ,Int.emod_one]
  | succ n=>
   rw [eJ,dk,show (fun i=>du ρ (b::l) t (i+1))=du ρ l t from funext fun i=>dj b l t i,←ih n,aB,show (2:Int) ^ (n+1)=2*2 ^ n from by rw [Int.pow_succ];omega]
   have h1:(0:Int)<2 ^ n:=Int.pow_pos (by omega)
   have h2:=Int.emod_nonneg (aw ρ l t) (b:=2 ^ n) (by omega)
   have h3:=Int.emod_lt_of_pos (aw ρ l t) h1
   have h4:=Int.mul_ediv_add_emod (aw ρ l t) (2 ^ n)
   have h5:bc (b.den ρ)+2*aw ρ l t=(bc (b.den ρ)+2*(aw ρ l t % 2 ^ n))+(2*2 ^ n)*(aw ρ l t / 2 ^ n):=by
    have:2*aw ρ l t=2*(2 ^ n*(aw ρ l t / 2 ^ n)+aw ρ l t % 2 ^ n):=by rw [h4]
    rw [this,Int.mul_add,←Int.mul_assoc]
    omega
   rw [h5,Int.add_mul_emod_self_left]
   refine Int.emod_eq_of_lt ?_ ?_
   ·rcases n9 (b.den ρ) with h | h<;>omega
   ·rcases n9 (b.den ρ) with h | h<;>omega
theorem qQ:∀ (n:Nat) (l:List B) (t:B),aw ρ (yb n l t) .zero=eJ (du ρ l t) n
 | 0,l,t=>by simp [yb,aw,eJ,B.den,bc]
 | n+1,[],t=>by
  have e:du ρ [] t=fun _=>t.den ρ:=funext fun i=>fI t i
  have ih:=qQ n [] t
  rw [e] at ih ⊢
  unfold yb
  split
  ·have hz:∀ n,eJ (fun _=>B.zero.den ρ) n=0:=by
    intro n
    induction n with
    | zero=>rfl
    | succ n ih=>rw [eJ,ih];simp [B.den,bc]
   rw [hz]
   simp [aw,B.den,bc]
  ·rw [aB,eJ,ih]
 | n+1,b::l,t=>by
  unfold yb
  rw [aB,eJ,qQ n l t,dk]
  rw [show (fun i=>du ρ (b::l) t (i+1))=du ρ l t from funext fun i=>dj b l t i]
theorem CI:∀ (n:Nat) (l:List B) (t:B) (r:List B) (s:B),DT n l t=(r,s)→aw ρ r s=eJ (du ρ l t) n-2 ^ n*bc (du ρ l t n)
 | n,[],t,r,s,h=>by
  have:r=[]∧s=t:=by cases n<;>simp [DT] at h<;>exact⟨h.1,h.2.symm⟩
  obtain⟨rfl,rfl⟩:=this
  have e:du ρ [] s=fun _=>s.den ρ:=funext fun i=>fI s i
  rw [e,bk]
  clear h e
  induction n with
  | zero=>simp [eJ]
  | succ n ih=>
   have ih':-bc (s.den ρ)=eJ (fun _=>s.den ρ) n-2 ^ n*bc (s.den ρ):=ih
   rw [eJ,show (2:Int) ^ (n+1)=2*2 ^ n from by rw [Int.pow_succ];omega,Int.mul_assoc]
   dsimp only
   omega
 | 0,b::l,t,r,s,h=>by
  simp only [DT,Prod.mk.injEq] at h
  obtain⟨rfl,rfl⟩:=h
  rw [bk,dk]
  simp [eJ]
 | n+1,b::l,t,r,s,h=>by
  unfold DT at h
  split at h
  rename_i r' s' hr
  simp only [Prod.mk.injEq] at h
  obtain⟨rfl,rfl⟩:=h
  have ih:=CI n l t r' s' hr
  rw [aB,ih,eJ,dk,dj,show (fun i=>du ρ (b::l) t (i+1))=du ρ l t from funext fun i=>dj b l t i,show (2:Int) ^ (n+1)=2*2 ^ n from by rw [Int.pow_succ];omega,Int.mul_assoc]
  omega
theorem Dw(t:B):∀ l,aw ρ (Nz t l) t=aw ρ l t
 | []=>rfl
 | b::l=>by
  have ih:=Dw t l
  unfold Nz
  split
  ·rename_i he
   rw [he] at ih
   split
   ·rename_i hb
    rw [aB,←ih,B.beq_eq hb,bk]
    omega
   ·rw [aB,aB,←ih]
  ·rename_i c r he
   rw [he] at ih
   rw [aB,ih,aB]
theorem DE{t:B}:∀ {l:List B} {n:Int},Je t l=some n→aw ρ l t=n
 | [],n,h=>by
  unfold Je at h
  split at h
  ·obtain rfl:=Option.some.inj h
   simp [aw,B.den,bc]
  ·obtain rfl:=Option.some.inj h
   simp [aw,B.den,bc]
  ·cases h
 | b::l,n,h=>by
  unfold Je at h
  split at h
  ·cases h
  ·rename_i m hm
   have ih:=DE hm
   rw [aB,ih]
   split at h
   ·obtain rfl:=Option.some.inj h
    simp [B.den,bc]
   ·obtain rfl:=Option.some.inj h
    simp [B.den,bc]
    omega
   ·cases h
theorem gO(l:List B)(t:B):(Ay l t).den ρ=aw ρ l t:=by
 unfold Ay
 split
 ·rename_i n h
  simp only [X.den,DE h]
 ·simp only [X.den,Dw]
theorem oD(f:Nat→Bool):∀ n,eJ f (n+1)=eJ f n+2 ^ n*bc (f n)
 | 0=>by simp [eJ]
 | n+1=>by
  rw [eJ,oD (fun i=>f (i+1)) n,eJ,show (2:Int) ^ (n+1)=2*2 ^ n from by rw [Int.pow_succ];omega,Int.mul_assoc]
  omega
theorem px(f:Nat→Bool):∀ n,0≤eJ f n∧eJ f n<2 ^ n
 | 0=>by simp [eJ]
 | n+1=>by
  have h:=px (fun i=>f (i+1)) n
  rw [eJ,show (2:Int) ^ (n+1)=2*2 ^ n from by rw [Int.pow_succ];omega]
  rcases n9 (f 0) with h1 | h1<;>omega
theorem kC(k:IntKind)(l:List B)(t:B):(AZ k l t).den ρ=k.wrap (aw ρ l t):=by
 unfold AZ IntKind.wrap
 have h1:=kJ (ρ:=ρ) l t k.bits
 split
 ·rename_i hs
  rw [gO,qQ,←h1,hs]
  simp
 ·rename_i hs
  split
  rename_i r s hr
  rw [gO,CI _ _ _ _ _ hr]
  obtain⟨n,hn⟩:∃ n,k.bits=n+1:=by cases k<;>exact⟨_,rfl⟩
  simp only [hs,Bool.true_and,decide_eq_true_eq]
  rw [h1,hn,Nat.add_sub_cancel,oD]
  have h2:=px (du ρ l t) n
  rw [show (2:Int) ^ (n+1)=2*2 ^ n from by rw [Int.pow_succ];omega]
  cases du ρ l t n with
  | false=>
   rw [if_neg (by simp [bc];omega)]
   simp [bc]
  | true=>
   rw [if_pos (by simp [bc];omega)]
   simp [bc]
   omega
def jG(f:Nat→Bool):Nat→Nat
 | 0=>0
 | n+1=>(f 0).toNat+2*jG (fun i=>f (i+1)) n
theorem jw(f:Nat→Bool):∀ n,((jG f n:Nat):Int)=eJ f n
 | 0=>rfl
 | n+1=>by
  rw [jG,eJ,←jw (fun i=>f (i+1)) n]
  cases f 0<;>simp [bc]
theorem PY(f:Nat→Bool)(n:Nat):jG f n<2 ^ n:=by
 have h:=(px f n).2
 rw [←jw] at h
 exact_mod_cast h
theorem sk:∀ (f:Nat→Bool) (n i:Nat),(jG f n).testBit i=(decide (i<n)&&f i)
 | f,0,i=>by simp [jG]
 | f,n+1,0=>by
  rw [jG,Nat.testBit_zero]
  cases f 0<;>simp<;>omega
 | f,n+1,i+1=>by
  rw [jG,Nat.testBit_succ]
  have:((f 0).toNat+2*jG (fun i=>f (i+1)) n) / 2=jG (fun i=>f (i+1)) n:=by
   cases f 0<;>simp<;>omega
  rw [this,sk]
  simp
def Sr(f:Nat→Bool)(n:Nat):BitVec n:=BitVec.ofNat n (jG f n)
theorem r9(f:Nat→Bool)(n:Nat):(Sr f n).toNat=jG f n:=by
 simp [Sr,Nat.mod_eq_of_lt (PY f n)]
theorem eO(f:Nat→Bool)(n i:Nat)(h:i<n):(Sr f n).getLsbD i=f i:=by
 rw [BitVec.getLsbD,r9,sk]
 simp [h]
theorem jA(l:List B)(t:B)(n:Nat):BitVec.ofInt n (aw ρ l t)=Sr (du ρ l t) n:=by
 apply BitVec.eq_of_toNat_eq
 rw [r9,BitVec.toNat_ofInt]
 have:=kJ (ρ:=ρ) l t n
 have h2:((2 ^ n:Nat):Int)=2 ^ n:=by simp
 rw [h2,this,←jw]
 simp
theorem Va(k:IntKind)(l:List B)(t:B):k.wrap (((Sr (du ρ l t) k.bits).toNat:Nat):Int)=k.wrap (aw ρ l t):=by
 rw [r9,jw,←kJ]
 unfold IntKind.wrap
 rw [Int.emod_emod_of_dvd _ (Int.dvd_refl _)]
theorem Ur{o:Nat}(k:IntKind){l:List B}{t:B}{m:List B}{u:B}{r:List B}{s:B} (h:ph (B.op o) l t m u=some (r,s)):gR o k (aw ρ l t) (aw ρ m u)=k.wrap (aw ρ r s):=by
 rw [←Va]
 unfold gR
 split
 ·have hz:=lu (g:=fun a b=>a&&b) (ρ:=ρ) (fun a b c hc=>B.FJ hc) (show ph B.and l t m u=some (r,s) from h)
  rw [jA,jA]
  congr 3
  apply BitVec.eq_of_getLsbD_eq
  intro i hi
  rw [BitVec.getLsbD_and,eO _ _ _ hi,eO _ _ _ hi,eO _ _ _ hi,hz]
 ·have hz:=lu (g:=fun a b=>a || b) (ρ:=ρ) (fun a b c hc=>B.aeZ hc) (show ph B.or l t m u=some (r,s) from h)
  rw [jA,jA]
  congr 3
  apply BitVec.eq_of_getLsbD_eq
  intro i hi
  rw [BitVec.getLsbD_or,eO _ _ _ hi,eO _ _ _ hi,eO _ _ _ hi,hz]
 ·have hz:=lu (g:=fun a b=>a ^^ b) (ρ:=ρ) (fun a b c hc=>B.Yr hc) (show ph B.xor l t m u=some (r,s) from h)
  rw [jA,jA]
  congr 3
  apply BitVec.eq_of_getLsbD_eq
  intro i hi
  rw [BitVec.getLsbD_xor,eO _ _ _ hi,eO _ _ _ hi,eO _ _ _ hi,hz]
 ·rename_i h0 h1 h2
  have hop:B.op o=B.diff:=by
   unfold B.op
   split
   ·exact absurd rfl h0
   ·exact absurd rfl h1
   ·exact absurd rfl h2
   ·rfl
  rw [hop] at h
  have hz:=lu (g:=fun a b=>a && !b) (ρ:=ρ) (fun a b c hc=>B.Rs hc) h
  rw [jA,jA]
  congr 3
  apply BitVec.eq_of_getLsbD_eq
  intro i hi
  rw [BitVec.getLsbD_and,BitVec.getLsbD_not,eO _ _ _ hi,eO _ _ _ hi,eO _ _ _ hi,hz]
  simp [hi]
theorem su:∀ (f n:Nat),n<2 ^ f→aw ρ (pP f n) .zero=n
 | 0,n,h=>by
  have:n=0:=by simpa using h
  subst this
  simp [pP,aw,B.den,bc]
 | f+1,0,_=>by simp [pP,aw,B.den,bc]
 | f+1,m+1,h=>by
  unfold pP
  have h1:(m+1) / 2<2 ^ f:=by
   rw [Nat.pow_succ] at h
   omega
  rw [aB,su f ((m+1) / 2) h1]
  cases hb:Nat.beq ((m+1) % 2) 1 with
  | true=>
   have:=Nat.eq_of_beq_eq_true hb
   simp only [B.den,bc,if_true]
   omega
  | false=>
   have:(m+1) % 2≠1:=Nat.ne_of_beq_eq_false hb
   simp only [B.den,bc,Bool.false_eq_true,if_false]
   omega
theorem Cv(t:B):∀ l:List B,aw ρ (IE l) t.not=-1-aw ρ l t
 | []=>by
  rw [IE,bk,bk,B.ga]
  cases t.den ρ<;>simp [bc]
 | b::l=>by
  rw [IE,aB,aB,Cv t l,B.ga]
  cases b.den ρ<;>simp [bc]<;>omega
theorem NZ{x:X}{l:List B}{t:B} (h:toB x=some (l,t)):x.den ρ=aw ρ l t:=by
 unfold toB at h
 split at h
 ·simp only [Option.some.injEq,Prod.mk.injEq] at h
  obtain⟨rfl,rfl⟩:=h
  rfl
 ·split at h
  ·rename_i n
   split at h
   ·rename_i hn
    simp only [Option.some.injEq,Prod.mk.injEq] at h
    obtain⟨rfl,rfl⟩:=h
    rw [su 70 n (Nat.le_of_ble_eq_true hn)]
    rfl
   ·cases h
  ·rename_i n
   split at h
   ·rename_i hn
    simp only [Option.some.injEq,Prod.mk.injEq] at h
    obtain⟨rfl,rfl⟩:=h
    have:=Cv (ρ:=ρ) .zero (pP 70 n)
    rw [su 70 n (Nat.le_of_ble_eq_true hn)] at this
    show Int.negSucc n=_
    rw [show B.zero.not=B.one from rfl] at this
    rw [this]
    omega
   ·cases h
 ·cases h
theorem fB{α:Type}{Pr:α→Prop}{a b:X}{k:List B→B→List B→B→α}{d:α}(hd:Pr d) (hk:∀ l t m u,a.den ρ=aw ρ l t→b.den ρ=aw ρ m u→Pr (k l t m u)):Pr (rJ a b k d):=by
 have h:Pr (match toB a with
   | none=>d
   | some (l,t)=>match toB b with
    | none=>d
    | some (m,u)=>k l t m u):=by
  split
  ·exact hd
  ·rename_i l t ha
   split
   ·exact hd
   ·rename_i m u hb
    exact hk _ _ _ _ (NZ ha) (NZ hb)
 unfold rJ
 split
 ·exact hd
 ·exact h
theorem vN{k:IntKind}{d:X} {o:Option (List B×B)} {n:Int} (hd:d.den ρ=k.wrap n) (h:∀ r s,o=some (r,s)→k.wrap (aw ρ r s)=k.wrap n):(BU k d o).den ρ=k.wrap n:=by
 unfold BU
 split
 ·rw [kC]
  exact h _ _ rfl
 ·exact hd
theorem sy(l:List B)(t:B):∀ n,aw ρ (wI n l) t=aw ρ l t*2 ^ n
 | 0=>by simp [wI]
 | n+1=>by
  rw [wI,aB,sy l t n,Int.pow_succ,show B.zero.den ρ=false from rfl,show bc false=0 from rfl,Int.zero_add,←Int.mul_assoc,Int.mul_comm 2,Int.mul_assoc,Int.mul_comm 2 (2 ^ n)]
theorem vD(t:B):∀ (n:Nat) (l:List B),aw ρ (AX n l) t=aw ρ l t / 2 ^ n
 | 0,l=>by simp [AX]
 | n+1,[]=>by
  have h1:(0:Int)<2 ^ (n+1):=Int.pow_pos (by omega)
  rw [AX,bk]
  cases t.den ρ with
  | false=>simp [bc]
  | true=>
   show (-1:Int)=(-1) / 2 ^ (n+1)
   exact (Int.ediv_eq_neg_one_of_neg_of_le (by omega) (by omega)).symm
 | n+1,b::l=>by
  rw [AX,vD t n l,aB,show (2:Int) ^ (n+1)=2*2 ^ n from by rw [Int.pow_succ];omega,←Int.ediv_ediv_of_nonneg (by omega)]
  congr 1
  rcases n9 (b.den ρ) with h | h<;>omega
theorem y3{n s:Nat}(h:Qk n=some s):n=2 ^ s:=by
 unfold Qk at h
 split at h
 ·rename_i hb
  split at h
  ·obtain rfl:=Option.some.inj h
   exact (Nat.eq_of_beq_eq_true hb).symm
  ·cases h
 ·cases h
theorem eY:∀ l:List B,0≤aw ρ l .zero
 | []=>by simp [aw,B.den,bc]
 | b::l=>by
  have:=eY l
  rw [aB]
  rcases n9 (b.den ρ) with h | h<;>omega
theorem rW:∀ l:List B,aw ρ l .one<0
 | []=>by simp [aw,B.den,bc]
 | b::l=>by
  have:=rW l
  rw [aB]
  rcases n9 (b.den ρ) with h | h<;>omega
theorem uJ{x y s:B}{c d:Bool} (h:QI x y c=some (s,d)):bc (x.den ρ)+bc (y.den ρ)+bc c=bc (s.den ρ)+2*bc d:=by
 unfold QI at h
 split at h
 ·split at h
  ·simp only [Option.some.injEq,Prod.mk.injEq] at h
   obtain⟨rfl,rfl⟩:=h
   simp [B.den,bc]
  ·split at h
   ·simp only [Option.some.injEq,Prod.mk.injEq] at h
    obtain⟨rfl,rfl⟩:=h
    simp [B.den,bc]
   ·split at h
    ·simp only [Option.some.injEq,Prod.mk.injEq] at h
     obtain⟨rfl,rfl⟩:=h
     simp [B.den,bc]
    ·cases h
 ·split at h
  ·simp only [Option.some.injEq,Prod.mk.injEq] at h
   obtain⟨rfl,rfl⟩:=h
   simp [B.den,bc]
   omega
  ·split at h
   ·simp only [Option.some.injEq,Prod.mk.injEq] at h
    obtain⟨rfl,rfl⟩:=h
    simp [B.den,bc]
    omega
   ·split at h
    ·simp only [Option.some.injEq,Prod.mk.injEq] at h
     obtain⟨rfl,rfl⟩:=h
     simp [B.den,bc]
    ·cases h
theorem LU{t u s:B}{r:List B}{c:Bool} (h:M1 t u c=some (r,s)):-bc (t.den ρ) + -bc (u.den ρ)+bc c=aw ρ r s:=by
 unfold M1 at h
 split at h
 ·rename_i s' d hs
  have:=uJ (ρ:=ρ) hs
  split at h
  ·simp only [Option.some.injEq,Prod.mk.injEq] at h
   obtain⟨rfl,rfl⟩:=h
   rw [bk]
   simp only [bc,if_true] at this ⊢
   omega
  ·simp only [Option.some.injEq,Prod.mk.injEq] at h
   obtain⟨rfl,rfl⟩:=h
   rw [bk]
   simp only [bc,Bool.false_eq_true,if_false] at this ⊢
   omega
  ·cases h
 ·cases h
theorem nV{b:B} {o:Option (List B×B)} {r:List B} {s:B} (h:oO (some b) o=some (r,s)):∃ l,o=some (l,s)∧r=b::l:=by
 unfold oO at h
 dsimp only at h
 split at h
 ·cases h
 ·simp only [Option.some.injEq,Prod.mk.injEq] at h
  obtain⟨rfl,rfl⟩:=h
  exact⟨_,rfl,rfl⟩
theorem Jd{t:B}:∀ {m:List B} {u:B} {c:Bool} {r:List B} {s:B},WS t m u c=some (r,s)→-bc (t.den ρ)+aw ρ m u+bc c=aw ρ r s
 | [],u,c,r,s,h=>LU (by unfold WS at h;exact h)
 | y::m,u,c,r,s,h=>by
  unfold WS at h
  split at h
  ·rename_i s' d hs
   obtain⟨l',h1,rfl⟩:=nV h
   have:=uJ (ρ:=ρ) hs
   have ih:=Jd h1
   rw [aB,aB,←ih]
   omega
  ·cases h
theorem o6:∀ {l:List B} {t:B} {m:List B} {u:B} {c:Bool} {r:List B} {s:B},EJ l t m u c=some (r,s)→aw ρ l t+aw ρ m u+bc c=aw ρ r s
 | [],t,m,u,c,r,s,h=>Jd (by unfold EJ at h;exact h)
 | x::l,t,[],u,c,r,s,h=>by
  unfold EJ at h
  dsimp only at h
  split at h
  ·rename_i s' d hs
   obtain⟨l',h1,rfl⟩:=nV h
   have:=uJ (ρ:=ρ) hs
   have ih:=o6 h1
   rw [bk] at ih
   rw [aB,aB,bk,←ih]
   omega
  ·cases h
 | x::l,t,y::m,u,c,r,s,h=>by
  unfold EJ at h
  dsimp only at h
  split at h
  ·rename_i s' d hs
   obtain⟨l',h1,rfl⟩:=nV h
   have:=uJ (ρ:=ρ) hs
   have ih:=o6 h1
   rw [aB,aB,aB,←ih]
   omega
  ·cases h
theorem B.yT{a b c:B}(h:B.sub a b=some c):bc (a.den ρ)-bc (b.den ρ)=bc (c.den ρ):=by
 unfold B.sub at h
 split at h
 ·obtain rfl:=Option.some.inj h
  simp [B.den,bc]
 ·split at h
  ·obtain rfl:=Option.some.inj h
   rw [B.ga,show B.one.den ρ=true from rfl]
   cases b.den ρ<;>rfl
  ·split at h
   ·rename_i hb
    obtain rfl:=Option.some.inj h
    rw [B.beq_eq hb]
    simp [B.den,bc]
   ·cases h
theorem pC{b:Option B} {o:Option (List B×B)} {r:List B} {s:B} (h:oO b o=some (r,s)):∃ c l,b=some c∧o=some (l,s)∧r=c::l:=by
 cases b with
 | none=>cases h
 | some c=>
  obtain⟨l,h1,h2⟩:=nV h
  exact⟨c,l,rfl,h1,h2⟩
theorem G4{t:B}:∀ {m:List B} {u:B} {r:List B} {s:B},KK B.sub t m u=some (r,s)→-bc (t.den ρ)-aw ρ m u=aw ρ r s
 | [],u,r,s,h=>by
  unfold KK at h
  split at h
  ·rename_i c hc
   simp only [Option.some.injEq,Prod.mk.injEq] at h
   obtain⟨rfl,rfl⟩:=h
   have:=B.yT (ρ:=ρ) hc
   rw [bk,bk]
   omega
  ·cases h
 | y::m,u,r,s,h=>by
  unfold KK at h
  obtain⟨c,l,h1,h2,rfl⟩:=pC h
  have:=B.yT (ρ:=ρ) h1
  have ih:=G4 h2
  rw [aB,aB,←ih]
  omega
theorem Am:∀ {l:List B} {t:B} {m:List B} {u:B} {r:List B} {s:B},ph B.sub l t m u=some (r,s)→aw ρ l t-aw ρ m u=aw ρ r s
 | [],t,m,u,r,s,h=>G4 (by unfold ph at h;exact h)
 | x::l,t,[],u,r,s,h=>by
  unfold ph at h
  obtain⟨c,l',h1,h2,rfl⟩:=pC h
  have:=B.yT (ρ:=ρ) h1
  have ih:=Am h2
  rw [bk] at ih
  rw [aB,aB,bk,←ih]
  omega
 | x::l,t,y::m,u,r,s,h=>by
  unfold ph at h
  obtain⟨c,l',h1,h2,rfl⟩:=pC h
  have:=B.yT (ρ:=ρ) h1
  have ih:=Am h2
  rw [aB,aB,aB,←ih]
  omega
theorem bh{m v:Nat}:bw ρ m v=true↔∀ i,m.testBit i=true→ρ.b i=v.testBit i:=by
 unfold bw
 rw [List.all_eq_true]
 constructor
 ·intro h i hi
  have hlt:i<m.log2+1:=by
   rcases Nat.lt_or_ge i (m.log2+1) with h1 | h1
   ·exact h1
   ·have h2:m<2 ^ i:=Nat.lt_of_lt_of_le Nat.lt_log2_self (Nat.pow_le_pow_right (by omega) h1)
    rw [Nat.testBit_lt_two_pow h2] at hi
    cases hi
  have:=h i (List.mem_range.2 hlt)
  simpa [hi] using this
 ·intro h i _
  cases hi:m.testBit i with
  | false=>simp
  | true=>simp [h i hi]
def Q.is(ρ:Env):Q→Prop
 | .ff=>False
 | .c m v=>bw ρ m v=true
 | .bad=>False
theorem nd{i j:Nat}{b:Bool}:(oJ i b).testBit j=(b&&decide (i=j)):=by
 cases b<;>simp [oJ,Nat.testBit_two_pow]
theorem aaw{m i j:Nat}:(m ||| 2 ^ i).testBit j=(m.testBit j || decide (i=j)):=by
 rw [Nat.testBit_or,Nat.testBit_two_pow]
theorem Q.oA{q:Q}{i:Nat}{b:Bool}(hq:q≠.bad)(hv:∀ m v,q=.c m v→∀ j,v.testBit j=true→m.testBit j=true):
  (q.with i b)≠.bad∧((q.with i b).is ρ↔q.is ρ∧ρ.b i=b)∧∀ m v,q.with i b=.c m v→∀ j,v.testBit j=true→m.testBit j=true:=by
 cases q with
 | ff=>simp [Q.with,Q.is]
 | bad=>exact absurd rfl hq
 | c m v=>
  have hv':=hv m v rfl
  unfold Q.with
  dsimp only
  cases hm:m.testBit i with
  | true=>
   dsimp only
   have hc:Q.is ρ (.c m v)→ρ.b i=v.testBit i:=fun h=>bh.1 h i hm
   cases hvi:v.testBit i<;>cases b<;>dsimp only<;>rw [hvi] at hc
   ·exact⟨by simp,⟨fun h=>⟨h,hc h⟩,fun h=>h.1⟩,fun m' v' e=>hv m' v' e⟩
   ·exact⟨by simp,⟨fun h=>h.elim,fun h=>by have h1:=hc h.1;have h2:=h.2;rw [h1] at h2;cases h2⟩,fun m' v' e=>by cases e⟩
   ·exact⟨by simp,⟨fun h=>h.elim,fun h=>by have h1:=hc h.1;have h2:=h.2;rw [h1] at h2;cases h2⟩,fun m' v' e=>by cases e⟩
   ·exact⟨by simp,⟨fun h=>⟨h,hc h⟩,fun h=>h.1⟩,fun m' v' e=>hv m' v' e⟩
  | false=>
   dsimp only
   have hvi:v.testBit i=false:=by
    cases h:v.testBit i with
    | false=>rfl
    | true=>rw [hv' i h] at hm;cases hm
   have e1:∀ j,(m ||| 2 ^ i).testBit j=(m.testBit j || decide (i=j)):=fun j=>aaw
   have e2:∀ j,(v ||| oJ i b).testBit j=(v.testBit j || (b&&decide (i=j))):=by
    intro j
    rw [Nat.testBit_or,nd]
   refine⟨by simp,?_,fun m' v' e j hj=>?_⟩
   ·simp only [Q.is,bh]
    constructor
    ·intro h
     refine⟨fun j hj=>?_,?_⟩
     ·have:=h j (by rw [e1,hj];rfl)
      rw [this,e2]
      by_cases hij:i=j
      ·subst hij;rw [hm] at hj;cases hj
      ·simp [hij]
     ·have:=h i (by rw [e1];simp)
      rw [this,e2,hvi]
      simp
    ·rintro ⟨h1,h2⟩ j hj
     rw [e1] at hj
     rw [e2]
     by_cases hij:i=j
     ·subst hij;rw [hvi,h2];simp
     ·simp only [hij,decide_false,Bool.or_false,Bool.and_false] at hj ⊢
      exact h1 j hj
   ·simp only [Q.c.injEq] at e
    obtain⟨rfl,rfl⟩:=e
    rw [e2] at hj
    rw [e1]
    by_cases hij:i=j
    ·simp [hij]
    ·simp only [hij,decide_false,Bool.and_false,Bool.or_false] at hj
     rw [hv' j hj];rfl
def Q.wf(q:Q):Prop:=∀ m v,q=.c m v→∀ j,v.testBit j=true→m.testBit j=true
theorem Q.Xg{q:Q}{a b:B}(hw:q.wf)(h:q.Il a b≠.bad)(hq:q≠.bad):((q.Il a b).is ρ↔q.is ρ∧a.den ρ=b.den ρ)∧(q.Il a b).wf:=by
 have W:=fun (i:Nat) (c:Bool)=>Q.oA (ρ:=ρ) (i:=i) (b:=c) hq hw
 cases a<;>cases b<;>simp only [Q.Il,B.den] at h ⊢
 case zero.zero=>exact⟨by simp,hw⟩
 case one.one=>exact⟨by simp,hw⟩
 case zero.one=>exact⟨by simp [Q.is],fun m v e=>by cases e⟩
 case one.zero=>exact⟨by simp [Q.is],fun m v e=>by cases e⟩
 case zero.pos i=>exact⟨(W i false).2.1.trans (by cases ρ.b i<;>simp),(W i false).2.2⟩
 case zero.neg i=>exact⟨(W i true).2.1.trans (by cases ρ.b i<;>simp),(W i true).2.2⟩
 case one.pos i=>exact⟨(W i true).2.1.trans (by cases ρ.b i<;>simp),(W i true).2.2⟩
 case one.neg i=>exact⟨(W i false).2.1.trans (by cases ρ.b i<;>simp),(W i false).2.2⟩
 case pos.zero i=>exact⟨(W i false).2.1,(W i false).2.2⟩
 case pos.one i=>exact⟨(W i true).2.1,(W i true).2.2⟩
 case neg.zero i=>exact⟨(W i true).2.1.trans (by simp),(W i true).2.2⟩
 case neg.one i=>exact⟨(W i false).2.1.trans (by simp),(W i false).2.2⟩
 case pos.pos i j=>
  split at h
  ·rename_i hb
   rw [Nat.eq_of_beq_eq_true hb]
   exact⟨by simp,hw⟩
  ·exact absurd rfl h
 case neg.neg i j=>
  split at h
  ·rename_i hb
   rw [Nat.eq_of_beq_eq_true hb]
   exact⟨by simp,hw⟩
  ·exact absurd rfl h
 case pos.neg i j=>
  split at h
  ·rename_i hb
   rw [Nat.eq_of_beq_eq_true hb]
   exact⟨by simp [Q.is],fun m v e=>by cases e⟩
  ·exact absurd rfl h
 case neg.pos i j=>
  split at h
  ·rename_i hb
   rw [Nat.eq_of_beq_eq_true hb]
   exact⟨by simp [Q.is],fun m v e=>by cases e⟩
  ·exact absurd rfl h
theorem Q.yY{q:Q}{a b:B}(hw:q.wf)(h:q.same a b≠.bad):((q.same a b).is ρ↔q.is ρ∧a.den ρ=b.den ρ)∧(q.same a b).wf:=by
 unfold Q.same at h ⊢
 split at h
 ·exact⟨by simp [Q.is],hw⟩
 ·exact absurd rfl h
 ·exact Q.Xg hw h (by simp)
theorem wQ{a b:Bool}{x y:Int}:(bc a+2*x=bc b+2*y)↔(a=b∧x=y):=by
 constructor
 ·intro h
  cases a<;>cases b<;>simp [bc] at h ⊢<;>omega
 ·rintro ⟨rfl,rfl⟩;rfl
theorem ya(t b:B)(l:List B)(u:B):(aw ρ [] t=aw ρ (b::l) u)↔(t.den ρ=b.den ρ∧aw ρ [] t=aw ρ l u):=by
 have e:aw ρ [] t=bc (t.den ρ)+2*aw ρ [] t:=by rw [bk];omega
 rw [aB]
 constructor
 ·intro h
  rw [e] at h
  exact wQ.1 h
 ·intro h
  rw [e]
  exact wQ.2 h
theorem Uc{t:B}:∀ {m:List B} {u:B} {q:Q},q.wf→Z4 t m u q≠.bad→((Z4 t m u q).is ρ↔q.is ρ∧aw ρ [] t=aw ρ m u)
 | [],u,q,hw,h=>by
  unfold Z4 at h ⊢
  rw [(Q.yY hw h).1,bk,bk]
  constructor
  ·rintro ⟨h1,h2⟩;exact⟨h1,by rw [h2]⟩
  ·rintro ⟨h1,h2⟩;exact⟨h1,Ze (by omega)⟩
 | c::m,u,q,hw,h=>by
  unfold Z4 at h ⊢
  split at h
  ·simp [Q.is]
  ·have hs:q.same t c≠.bad:=by
    intro hb
    rw [hb] at h
    have:∀ m:List B,Z4 t m u .bad=.bad:=by
     intro m
     induction m with
     | nil=>rfl
     | cons c m ih=>unfold Z4;exact ih
    exact h (this m)
   obtain⟨h1,h2⟩:=Q.yY (ρ:=ρ) hw hs
   rw [Uc h2 h,h1,ya,and_assoc]
theorem y9(u:B):∀ (l:List B) (t:B) (m:List B),MX l t m u .bad=.bad
 | [],t,m=>by
  unfold MX
  induction m with
  | nil=>rfl
  | cons c m ih=>unfold Z4;exact ih
 | b::l,t,[]=>by unfold MX;exact y9 u l t []
 | b::l,t,c::m=>by unfold MX;exact y9 u l t m
theorem Mh:∀ {l:List B} {t:B} {m:List B} {u:B} {q:Q},q.wf→MX l t m u q≠.bad→((MX l t m u q).is ρ↔q.is ρ∧aw ρ l t=aw ρ m u)
 | [],t,m,u,q,hw,h=>by
  unfold MX at h ⊢
  exact Uc hw h
 | b::l,t,[],u,q,hw,h=>by
  unfold MX at h ⊢
  split at h
  ·simp [Q.is]
  ·dsimp only at h ⊢
   have hs:q.same b u≠.bad:=by
    intro hb
    rw [hb,y9] at h
    exact h rfl
   obtain⟨h1,h2⟩:=Q.yY (ρ:=ρ) hw hs
   rw [Mh h2 h,h1,and_assoc,eq_comm (a:=aw ρ (b::l) t),ya,eq_comm (a:=u.den ρ),eq_comm (a:=aw ρ [] u)]
 | b::l,t,c::m,u,q,hw,h=>by
  unfold MX at h ⊢
  split at h
  ·simp [Q.is]
  ·dsimp only at h ⊢
   have hs:q.same b c≠.bad:=by
    intro hb
    rw [hb,y9] at h
    exact h rfl
   obtain⟨h1,h2⟩:=Q.yY (ρ:=ρ) hw hs
   rw [Mh h2 h,h1,aB,aB,wQ,and_assoc]
theorem wf0:(Q.c 0 0).wf:=by
 intro m v e j hj
 simp only [Q.c.injEq] at e
 obtain⟨rfl,rfl⟩:=e
 exact hj
theorem is0:(Q.c 0 0).is ρ:=bh.2 fun i hi=>by simp at hi
theorem OD{l:List B}{t:B}{m:List B}{u:B}{d:X} (hd:d.den ρ=bc (aw ρ l t==aw ρ m u)):(NS d (MX l t m u (.c 0 0))).den ρ=bc (aw ρ l t==aw ρ m u):=by
 have key:=Mh (ρ:=ρ) (l:=l) (t:=t) (m:=m) (u:=u) wf0
 cases hq:MX l t m u (.c 0 0) with
 | bad=>exact hd
 | ff=>
  rw [hq] at key
  have:=(key (by simp)).symm
  have hne:¬aw ρ l t=aw ρ m u:=fun e=>(this.1 ⟨is0,e⟩)
  simp [NS,X.den,hne,bc]
 | c m' v'=>
  rw [hq] at key
  have hk:=key (by simp)
  have hk':bw ρ m' v'=true↔aw ρ l t=aw ρ m u:=by
   refine Iff.trans (show bw ρ m' v'=true↔(Q.c m' v').is ρ from Iff.rfl) (hk.trans ?_)
   exact⟨fun h=>h.2,fun h=>⟨is0,h⟩⟩
  have e:bw ρ m' v'=(aw ρ l t==aw ρ m u):=by
   cases hc:bw ρ m' v' with
   | true=>rw [hk'.1 hc];simp
   | false=>
    have:¬aw ρ l t=aw ρ m u:=fun e=>by rw [hk'.2 e] at hc;cases hc
    simp [this]
  unfold NS
  dsimp only
  split
  ·rename_i hm
   have hm0:m'=0:=Nat.eq_of_beq_eq_true hm
   have:bw ρ m' v'=true:=bh.2 fun i hi=>by rw [hm0] at hi;simp at hi
   rw [←e,this]
   rfl
  ·rw [←e]
   rfl
theorem Ch{m:Nat}(h:single m=true){j k:Nat}(hj:m.testBit j=true)(hk:m.testBit k=true):j=k:=by
 have e:=Nat.eq_of_beq_eq_true h
 have key:∀ (n m:Nat),m<2 ^ n→m &&& (m-1)=0→∀ j k,m.testBit j=true→m.testBit k=true→j=k:=by
  intro n
  induction n with
  | zero=>
   intro m hm _ j k hj
   have:m=0:=by simpa using hm
   subst this
   simp at hj
  | succ n ih=>
   intro m hm he j k hj hk
   rcases Nat.mod_two_eq_zero_or_one m with h0 | h1
   ·-- the lowest bit is none
    have hj0:j≠0:=fun e=>by subst e;rw [Nat.testBit_zero] at hj;simp [h0] at hj
    have hk0:k≠0:=fun e=>by subst e;rw [Nat.testBit_zero] at hk;simp [h0] at hk
    obtain⟨j',rfl⟩:=Nat.exists_eq_succ_of_ne_zero hj0
    obtain⟨k',rfl⟩:=Nat.exists_eq_succ_of_ne_zero hk0
    rw [Nat.succ_eq_add_one,Nat.testBit_succ] at hj hk
    have h2:(m / 2) &&& (m / 2-1)=0:=by
     have h3:((m &&& (m-1)) / 2)=(m / 2) &&& ((m-1) / 2):=by
      apply Nat.eq_of_testBit_eq
      intro i
      rw [←Nat.testBit_succ,Nat.testBit_and,Nat.testBit_and,Nat.testBit_succ,Nat.testBit_succ]
     rw [he] at h3
     have hm0:m≠0:=fun e=>by subst e;simp at hj
     have h4:(m-1) / 2=m / 2-1:=by omega
     rw [h4] at h3
     simpa using h3.symm
    have:=ih (m / 2) (by rw [Nat.pow_succ] at hm;omega) h2 j' k' hj hk
    omega
   ·-- the lowest bit is one: then it is all
    have h2:m / 2=0:=by
     have h3:((m &&& (m-1)) / 2)=(m / 2) &&& ((m-1) / 2):=by
      apply Nat.eq_of_testBit_eq
      intro i
      rw [←Nat.testBit_succ,Nat.testBit_and,Nat.testBit_and,Nat.testBit_succ,Nat.testBit_succ]
     rw [he] at h3
     have h4:(m-1) / 2=m / 2:=by omega
     rw [h4,Nat.and_self] at h3
     simpa using h3.symm
    have hm1:m=1:=by omega
    subst hm1
    have f:∀ i,(1:Nat).testBit i=true→i=0:=by
     intro i hi
     have:(2 ^ 0:Nat).testBit i=true:=hi
     rw [Nat.testBit_two_pow] at this
     exact (by simpa using this:0=i).symm
    rw [f j hj,f k hk]
 exact key (m+1) m (Nat.lt_trans (Nat.lt_succ_self m) Nat.lt_two_pow_self) e j k hj hk
theorem J9{m v v':Nat}(h:DN m v=some v')(hw:∀ j,v.testBit j=true→m.testBit j=true):(bw ρ m v'=true↔¬bw ρ m v=true)∧∀ j,v'.testBit j=true→m.testBit j=true:=by
 unfold DN at h
 split at h
 ·cases h
 ·rename_i h0
  split at h
  ·rename_i hs
   obtain rfl:=Option.some.inj h
   have hm0:m≠0:=Nat.ne_of_beq_eq_false h0
   obtain⟨j,hj⟩:=Nat.exists_testBit_of_ne_zero hm0
   have hone:∀ k,m.testBit k=true→k=j:=fun k hk=>Ch hs hk hj
   have e1:bw ρ m v=true↔ρ.b j=v.testBit j:=by
    rw [bh]
    exact⟨fun h=>h j hj,fun h k hk=>by rw [hone k hk];exact h⟩
   have e2:bw ρ m (m ^^^ v)=true↔ρ.b j=!v.testBit j:=by
    rw [bh]
    have:(m ^^^ v).testBit j=!v.testBit j:=by rw [Nat.testBit_xor,hj];simp
    exact⟨fun h=>by rw [h j hj,this],fun h k hk=>by rw [hone k hk,h,this]⟩
   refine⟨?_,fun k hk=>?_⟩
   ·rw [e1,e2]
    cases ρ.b j<;>cases v.testBit j<;>simp
   ·rw [Nat.testBit_xor] at hk
    cases hmk:m.testBit k with
    | true=>rfl
    | false=>
     rw [hmk] at hk
     have:=hw k (by simpa using hk)
     rw [hmk] at this
     exact this
  ·cases h
def G.is(ρ:Env):G→Prop
 | .tt=>True
 | .ff=>False
 | .c m v=>bw ρ m v=true
 | .n m v=>¬bw ρ m v=true
 | .bad=>False
def G.wf:G→Prop
 | .c m v=>∀ j,v.testBit j=true→m.testBit j=true
 | .n m v=>∀ j,v.testBit j=true→m.testBit j=true
 | _=>True
theorem OO{i:Nat}{b:Bool}:bw ρ (2 ^ i) (oJ i b)=true↔ρ.b i=b:=by
 rw [bh]
 constructor
 ·intro h
  have:=h i (by simp)
  rw [this,nd]
  simp
 ·intro h j hj
  rw [Nat.testBit_two_pow] at hj
  have:i=j:=by simpa using hj
  subst this
  rw [h,nd]
  simp
theorem wf1{i:Nat}{b:Bool}:∀ j,(oJ i b).testBit j=true→(2 ^ i).testBit j=true:=by
 intro j hj
 rw [nd] at hj
 rw [Nat.testBit_two_pow]
 cases b<;>simp at hj ⊢
 exact hj
theorem Q.aaI{m v:Nat}(h:∀ j,v.testBit j=true→m.testBit j=true):(Q.c m v).wf:=by
 intro m' v' e
 simp only [Q.c.injEq] at e
 obtain⟨rfl,rfl⟩:=e
 exact h
theorem G.Pb{r1 r0:G}{i:Nat}{b:Bool}(w1:r1.wf)(w0:r0.wf)(h1:r1≠.bad)(h0:r0≠.bad)(hm:r0.is ρ→r1.is ρ)(h:G.join r1 r0 i b≠.bad):
  ((G.join r1 r0 i b).is ρ↔if ρ.b i=b then r1.is ρ else r0.is ρ)∧(G.join r1 r0 i b).wf:=by
 cases r1 with
 | bad=>exact absurd rfl h1
 | ff=>
  refine⟨?_,trivial⟩
  have h2:¬r0.is ρ:=fun h=>hm h
  show False↔if ρ.b i=b then False else r0.is ρ
  by_cases hb:ρ.b i=b
  ·simp [hb]
  ·simp [hb,h2]
 | tt=>
  cases r0 with
  | bad=>exact absurd rfl h0
  | tt=>exact⟨by simp [G.join,G.is],trivial⟩
  | ff=>
   refine⟨?_,wf1⟩
   show bw ρ (2 ^ i) (oJ i b)=true↔_
   rw [OO]
   simp [G.is]
  | c m v=>
   unfold G.join at h ⊢
   dsimp only at h ⊢
   cases hf:DN m v with
   | none=>rw [hf] at h;exact absurd rfl h
   | some v'=>
    rw [hf] at h
    dsimp only at h ⊢
    obtain⟨f1,f2⟩:=J9 (ρ:=ρ) hf w0
    have W:=Q.oA (ρ:=ρ) (q:=.c m v') (i:=i) (b:=!b) (by simp) (Q.aaI f2)
    have hne:(ρ.b i=!b)↔¬ρ.b i=b:=by cases ρ.b i<;>cases b<;>simp
    split at h
    ·rename_i hq
     rw [hq] at W
     refine⟨?_,trivial⟩
     have:=W.2.1
     simp only [Q.is,false_iff,not_and,f1] at this
     by_cases hb:ρ.b i=b
     ·simp [hb,G.is]
     ·simp only [hb,if_false,G.is,true_iff]
      cases hc:bw ρ m v with
      | true=>rfl
      | false=>exact absurd (hne.2 hb) (this (by simp [hc]))
    ·rename_i m' v'' hq
     rw [hq] at W
     refine⟨?_,W.2.2 m' v'' rfl⟩
     have:=W.2.1
     simp only [G.is]
     rw [show (bw ρ m' v''=true)↔_ from this]
     simp only [Q.is,hne,f1]
     by_cases hb:ρ.b i=b
     ·simp [hb]
     ·simp [hb]
    ·exact absurd rfl h
  | n m v=>
   have W:=Q.oA (ρ:=ρ) (q:=.c m v) (i:=i) (b:=!b) (by simp) (Q.aaI w0)
   unfold G.join at h ⊢
   dsimp only at h ⊢
   have hne:(ρ.b i=!b)↔¬ρ.b i=b:=by cases ρ.b i<;>cases b<;>simp
   split at h
   ·rename_i hq
    rw [hq] at W
    refine⟨?_,trivial⟩
    have:=W.2.1
    simp only [Q.is,false_iff,not_and] at this
    by_cases hb:ρ.b i=b
    ·simp [hb,G.is]
    ·simp only [hb,if_false,G.is,true_iff]
     exact fun hc=>this hc (hne.2 hb)
   ·rename_i m' v' hq
    rw [hq] at W
    refine⟨?_,W.2.2 m' v' rfl⟩
    have:=W.2.1
    simp only [G.is]
    rw [show (bw ρ m' v'=true)↔_ from this]
    simp only [Q.is,hne]
    by_cases hb:ρ.b i=b
    ·simp [hb]
    ·simp [hb]
   ·exact absurd rfl h
 | c m v=>
  cases r0 with
  | bad=>exact absurd rfl h0
  | tt=>
   refine⟨?_,trivial⟩
   have:=hm trivial
   simp only [G.join,G.is] at this ⊢
   simp [this]
  | ff=>
   have W:=Q.oA (ρ:=ρ) (q:=.c m v) (i:=i) (b:=b) (by simp) (Q.aaI w1)
   unfold G.join at h ⊢
   dsimp only at h ⊢
   cases hq:(Q.c m v).with i b with
   | bad=>exact absurd hq W.1
   | ff=>
    rw [hq] at W
    refine⟨?_,trivial⟩
    have:=W.2.1
    simp only [Q.is,false_iff,not_and] at this
    simp only [G.NS,G.is,false_iff]
    by_cases hb:ρ.b i=b
    ·simp only [hb,if_true]
     exact fun hc=>this hc hb
    ·simp [hb]
   | c m' v'=>
    rw [hq] at W
    refine⟨?_,W.2.2 m' v' rfl⟩
    have:=W.2.1
    simp only [G.NS,G.is]
    rw [show (bw ρ m' v'=true)↔_ from this]
    simp only [Q.is]
    by_cases hb:ρ.b i=b
    ·simp [hb]
    ·simp [hb]
  | c m' v'=>
   unfold G.join at h ⊢
   dsimp only at h ⊢
   split at h
   ·rename_i ha hb
    rw [Nat.eq_of_beq_eq_true ha,Nat.eq_of_beq_eq_true hb]
    exact⟨by simp,w0⟩
   ·exact absurd rfl h
  | n m' v'=>exact absurd rfl h
 | n m v=>
  cases r0 with
  | bad=>exact absurd rfl h0
  | tt=>
   refine⟨?_,trivial⟩
   have:=hm trivial
   simp only [G.join,G.is] at this ⊢
   simp [this]
  | ff=>
   unfold G.join at h ⊢
   dsimp only at h ⊢
   cases hf:DN m v with
   | none=>rw [hf] at h;exact absurd rfl h
   | some v'=>
    rw [hf] at h
    dsimp only at h ⊢
    obtain⟨f1,f2⟩:=J9 (ρ:=ρ) hf w1
    have W:=Q.oA (ρ:=ρ) (q:=.c m v') (i:=i) (b:=b) (by simp) (Q.aaI f2)
    cases hq:(Q.c m v').with i b with
    | bad=>exact absurd hq W.1
    | ff=>
     rw [hq] at W
     refine⟨?_,trivial⟩
     have:=W.2.1
     simp only [Q.is,false_iff,not_and,f1] at this
     simp only [G.NS,G.is,false_iff]
     by_cases hb:ρ.b i=b
     ·simp only [hb,if_true]
      exact fun hc=>this hc hb
     ·simp [hb]
    | c m' v''=>
     rw [hq] at W
     refine⟨?_,W.2.2 m' v'' rfl⟩
     have:=W.2.1
     simp only [G.NS,G.is]
     rw [show (bw ρ m' v''=true)↔_ from this]
     simp only [Q.is,f1]
     by_cases hb:ρ.b i=b
     ·simp [hb]
     ·simp [hb]
  | c m' v'=>exact absurd rfl h
  | n m' v'=>
   unfold G.join at h ⊢
   dsimp only at h ⊢
   split at h
   ·rename_i ha hb
    rw [Nat.eq_of_beq_eq_true ha,Nat.eq_of_beq_eq_true hb]
    exact⟨by simp,w0⟩
   ·exact absurd rfl h
theorem G.Dq{r0:G}{i:Nat}{b:Bool}:G.join .bad r0 i b=.bad:=rfl
theorem G.C0{r1:G}{i:Nat}{b:Bool}(h:G.join r1 .bad i b≠.bad):r1=.ff:=by
 cases r1<;>first | rfl | exact absurd rfl h
theorem jU{t:B}:∀ {l:List B} {c:Int},Ck t l c≠.bad→((Ck t l c).is ρ↔c≤aw ρ l t)∧(Ck t l c).wf
 | [],c,h=>by
  unfold Ck at h ⊢
  rw [bk]
  cases h1:decide (c≤-1) with
  | true=>
   have:=of_decide_eq_true h1
   refine⟨⟨fun _=>?_,fun _=>trivial⟩,trivial⟩
   rcases n9 (t.den ρ) with h | h<;>omega
  | false=>
   have h1':=of_decide_eq_false h1
   dsimp only
   cases h2:decide (1≤c) with
   | true=>
    have:=of_decide_eq_true h2
    refine⟨⟨fun h=>h.elim,fun h=>?_⟩,trivial⟩
    exfalso
    rcases n9 (t.den ρ) with h' | h'<;>omega
   | false=>
    have h2':=of_decide_eq_false h2
    have hc:c=0:=by omega
    subst hc
    dsimp only
    cases t with
    | zero=>simp [G.is,G.wf,B.den,bc]
    | one=>simp [G.is,G.wf,B.den,bc]
    | pos i=>
     refine⟨?_,fun j hj=>by simp at hj⟩
     show bw ρ (2 ^ i) 0=true↔_
     rw [show (0:Nat)=oJ i false from rfl,OO,show (B.pos i).den ρ=ρ.b i from rfl]
     cases ρ.b i<;>simp [bc]
    | neg i=>
     refine⟨?_,fun j hj=>hj⟩
     show bw ρ (2 ^ i) (2 ^ i)=true↔_
     rw [show bw ρ (2 ^ i) (2 ^ i)=bw ρ (2 ^ i) (oJ i true) from rfl,OO,show (B.neg i).den ρ=!ρ.b i from rfl]
     cases ρ.b i<;>simp [bc]
 | b::l,c,h=>by
  unfold Ck at h ⊢
  rw [aB]
  have step1:∀ x:Int,(c / 2≤x↔c≤1+2*x):=fun x=>by omega
  have step0:∀ x:Int,((c+1) / 2≤x↔c≤0+2*x):=fun x=>by omega
  cases b with
  | zero=>
   dsimp only at h ⊢
   obtain⟨h1,h2⟩:=jU h
   exact⟨h1.trans (step0 _),h2⟩
  | one=>
   dsimp only at h ⊢
   obtain⟨h1,h2⟩:=jU h
   exact⟨h1.trans (step1 _),h2⟩
  | pos i=>
   dsimp only at h ⊢
   have hd:(B.pos i).den ρ=ρ.b i:=rfl
   rw [hd]
   cases he:aQ ((c+1) / 2) (c / 2) with
   | true=>
    have he':=bz he
    rw [he] at h
    dsimp only at h ⊢
    obtain⟨h1,h2⟩:=jU h
    refine⟨h1.trans ?_,h2⟩
    cases ρ.b i with
    | true=>exact step1 _
    | false=>rw [←he'];exact step0 _
   | false=>
    rw [he] at h
    dsimp only at h ⊢
    have n1:Ck t l (c / 2)≠.bad:=fun e=>by rw [e,G.Dq] at h;exact h rfl
    obtain⟨h1,w1⟩:=jU n1
    by_cases n0:Ck t l ((c+1) / 2)=.bad
    ·rw [n0] at h ⊢
     have:=G.C0 h
     rw [this] at h1 ⊢
     refine⟨⟨fun h=>h.elim,fun h=>?_⟩,trivial⟩
     exact h1.2 (by cases hb:ρ.b i<;>simp [hb,bc] at h<;>omega)
    ·obtain⟨h0,w0⟩:=jU n0
     obtain⟨h2,h3⟩:=G.Pb (ρ:=ρ) w1 w0 n1 n0 (fun h=>h1.2 (by have:=h0.1 h;omega)) h
     refine⟨h2.trans ?_,h3⟩
     cases ρ.b i with
     | true=>simp only [if_true];exact h1.trans (step1 _)
     | false=>simp only [Bool.false_eq_true,if_false];exact h0.trans (step0 _)
  | neg i=>
   dsimp only at h ⊢
   have hd:(B.neg i).den ρ=!ρ.b i:=rfl
   rw [hd]
   cases he:aQ ((c+1) / 2) (c / 2) with
   | true=>
    have he':=bz he
    rw [he] at h
    dsimp only at h ⊢
    obtain⟨h1,h2⟩:=jU h
    refine⟨h1.trans ?_,h2⟩
    cases ρ.b i with
    | false=>exact step1 _
    | true=>rw [←he'];exact step0 _
   | false=>
    rw [he] at h
    dsimp only at h ⊢
    have n1:Ck t l (c / 2)≠.bad:=fun e=>by rw [e,G.Dq] at h;exact h rfl
    obtain⟨h1,w1⟩:=jU n1
    by_cases n0:Ck t l ((c+1) / 2)=.bad
    ·rw [n0] at h ⊢
     have:=G.C0 h
     rw [this] at h1 ⊢
     refine⟨⟨fun h=>h.elim,fun h=>?_⟩,trivial⟩
     exact h1.2 (by cases hb:ρ.b i<;>simp [hb,bc] at h<;>omega)
    ·obtain⟨h0,w0⟩:=jU n0
     obtain⟨h2,h3⟩:=G.Pb (ρ:=ρ) w1 w0 n1 n0 (fun h=>h1.2 (by have:=h0.1 h;omega)) h
     refine⟨h2.trans ?_,h3⟩
     cases ρ.b i with
     | false=>simp only [if_true];exact h1.trans (step1 _)
     | true=>simp only [Bool.true_eq_false,if_false];exact h0.trans (step0 _)
theorem OY{d:X}{g:G}{p:Prop} [Decidable p] (hd:d.den ρ=bc (decide p)) (h:g≠.bad→(g.is ρ↔p)):(ofG d g).den ρ=bc (decide p):=by
 cases g with
 | bad=>exact hd
 | tt=>have:=h (by simp);simp only [G.is,true_iff] at this;simp [ofG,X.den,this,bc]
 | ff=>have:=h (by simp);simp only [G.is,false_iff] at this;simp [ofG,X.den,this,bc]
 | c m v=>
  have:=h (by simp)
  simp only [G.is] at this
  simp only [ofG,X.den]
  congr 1
  cases hc:bw ρ m v with
  | true=>simp [this.1 hc]
  | false=>simp;exact fun hp=>by rw [this.2 hp] at hc;cases hc
 | n m v=>
  have:=h (by simp)
  simp only [G.is] at this
  simp only [ofG,X.den,CL]
  congr 1
  cases hc:bw ρ m v with
  | true=>simp;exact fun hp=>(this.2 hp) hc
  | false=>simp;exact this.1 (by simp [hc])
theorem Ie{d:X}{g:G}{p:Prop} [Decidable p] (hd:d.den ρ=bc (decide p)) (h:g≠.bad→(g.is ρ↔¬p)):(Mg d g).den ρ=bc (decide p):=by
 cases g with
 | bad=>exact hd
 | tt=>have:=h (by simp);simp only [G.is,true_iff] at this;simp [Mg,X.den,this,bc]
 | ff=>have:=h (by simp);simp only [G.is,false_iff,Decidable.not_not] at this;simp [Mg,X.den,this,bc]
 | c m v=>
  have:=h (by simp)
  simp only [G.is] at this
  simp only [Mg,X.den,CL]
  congr 1
  cases hc:bw ρ m v with
  | true=>simp;exact this.1 hc
  | false=>simp;exact Decidable.not_not.1 fun hp=>by rw [this.2 hp] at hc;cases hc
 | n m v=>
  have:=h (by simp)
  simp only [G.is] at this
  simp only [Mg,X.den]
  congr 1
  cases hc:bw ρ m v with
  | true=>simp;exact Decidable.not_not.1 fun hp=>(this.2 hp) hc
  | false=>simp;exact this.1 (by simp [hc])
theorem sL:∀ {pc:List (X×Bool)},(∀ f∈pc,f.1.tt ρ=f.2)→∀ i,(jb pc).1.testBit i=true→ρ.b i=(jb pc).2.testBit i
 | [],_,i,h=>by simp [jb] at h
 | (x,b)::pc,hp,i,h=>by
  have ih:=sL (pc:=pc) fun f hf=>hp f (List.mem_cons_of_mem _ hf)
  have hx:=hp (x,b) (List.mem_cons_self ..)
  have mix:∀ (M V m v:Nat),(∀ i,M.testBit i=true→ρ.b i=V.testBit i)→(∀ i,m.testBit i=true→ρ.b i=v.testBit i)→∀ i,(M ||| m).testBit i=true→ρ.b i=((V &&& (M ^^^ (M &&& m))) ||| (v &&& m)).testBit i:=by
   intro M V m v hM hm i hi
   simp only [Nat.testBit_or,Nat.testBit_and,Nat.testBit_xor] at hi ⊢
   cases hmi:m.testBit i with
   | true=>rw [hm i hmi];cases M.testBit i<;>simp
   | false=>
    rw [hmi,Bool.or_false] at hi
    rw [hM i hi,hi]
    simp
  unfold jb at h ⊢
  split at h
  ·rename_i m v
   split at h
   ·have hm:bw ρ m v=true:=by
     have:(X.cube m v).tt ρ=true:=hx
     unfold X.tt X.den at this
     cases hc:bw ρ m v with
     | true=>rfl
     | false=>rw [hc] at this;simp [bc] at this
    exact mix _ _ _ _ ih (bh.1 hm) i h
   ·split at h
    ·rename_i hs
     have hm:bw ρ m v=false:=by
      have:(X.cube m v).tt ρ=false:=hx
      unfold X.tt X.den at this
      cases hc:bw ρ m v with
      | false=>rfl
      | true=>rw [hc] at this;simp [bc] at this
     have hone:∀ j,m.testBit j=true→∀ k,m.testBit k=true→j=k:=by
      intro j hj k hk
      exact Ch hs hj hk
     refine mix _ _ _ _ ih (fun j hj=>?_) i h
     rw [Nat.testBit_xor,hj]
     cases hb:ρ.b j with
     | true=>
      cases hv:v.testBit j with
      | false=>rfl
      | true=>
       have:bw ρ m v=true:=bh.2 fun k hk=>by
        obtain rfl:=hone j hj k hk
        rw [hb,hv]
       rw [this] at hm;cases hm
     | false=>
      cases hv:v.testBit j with
      | true=>rfl
      | false=>
       have:bw ρ m v=true:=bh.2 fun k hk=>by
        obtain rfl:=hone j hj k hk
        rw [hb,hv]
       rw [this] at hm;cases hm
    ·exact ih i h
  ·exact ih i h
theorem tB{M V m v:Nat}(hk:∀ i,M.testBit i=true→ρ.b i=V.testBit i):∀ {pc:List (X×Bool)},(∀ f∈pc,f.1.tt ρ=f.2)→gz M V m v pc=true→bw ρ m v=false
 | [],_,h=>by simp [gz] at h
 | (x,b)::pc,hp,h=>by
  have ih:=tB (m:=m) (v:=v) hk (pc:=pc) fun f hf=>hp f (List.mem_cons_of_mem _ hf)
  have hx:=hp (x,b) (List.mem_cons_self ..)
  unfold gz at h
  split at h
  ·rename_i m' v'
   split at h
   ·exact ih h
   ·split at h
    ·rename_i h0
     dsimp only at h
     split at h
     ·rename_i h1 h2
      have e0:=Nat.eq_of_beq_eq_true h0
      have e1:=Nat.eq_of_beq_eq_true h1
      have e2:=Nat.eq_of_beq_eq_true h2
      have hm:bw ρ m' v'=false:=by
       have:(X.cube m' v').tt ρ=false:=hx
       unfold X.tt X.den at this
       cases hc:bw ρ m' v' with
       | false=>rfl
       | true=>rw [hc] at this;simp [bc] at this
      cases hc:bw ρ m v with
      | false=>rfl
      | true=>
       have hc':=bh.1 hc
       have:bw ρ m' v'=true:=bh.2 fun i hi=>by
        have a0:=congrArg (fun x=>x.testBit i) e0
        have a1:=congrArg (fun x=>x.testBit i) e1
        have a2:=congrArg (fun x=>x.testBit i) e2
        simp only [Nat.testBit_and,Nat.testBit_xor,hi,Bool.true_and,Nat.zero_testBit] at a0 a1 a2
        cases hM:M.testBit i with
        | true=>
         rw [hM,Bool.true_and] at a0
         rw [hk i hM]
         revert a0
         cases v'.testBit i<;>cases V.testBit i<;>simp
        | false=>
         rw [hM] at a1 a2
         have hmi:m.testBit i=true:=by simpa using a1
         rw [hc' i hmi]
         simpa using a2
       rw [this] at hm;cases hm
     ·exact ih h
    ·exact ih h
  ·exact ih h
theorem Ni{m v:Nat} {pc:List (X×Bool)} {b:Bool} (hp:∀ f∈pc,f.1.tt ρ=f.2) (h:E1 m v pc=some b):bw ρ m v=b:=by
 have hk:=sL hp
 unfold E1 at h
 split at h
 rename_i M V hMV
 rw [hMV] at hk
 dsimp only at hk
 split at h
 ·rename_i hb
  obtain rfl:=Option.some.inj h
  cases hc:bw ρ m v with
  | false=>rfl
  | true=>
   have hne:=Nat.ne_of_beq_eq_false hb
   exfalso
   apply hne
   apply Nat.eq_of_testBit_eq
   intro i
   simp only [Nat.testBit_and,Nat.testBit_xor,Nat.zero_testBit]
   cases h1:m.testBit i with
   | false=>simp
   | true=>cases h2:M.testBit i with
    | false=>simp
    | true=>rw [←bh.1 hc i h1,hk i h2];simp
 ·rename_i hb0
  split at h
  ·rename_i hb1
   obtain rfl:=Option.some.inj h
   have e0:=Nat.eq_of_beq_eq_true hb0
   have e1:=Nat.eq_of_beq_eq_true hb1
   refine bh.2 fun i hi=>?_
   have a1:=congrArg (fun x=>x.testBit i) e1
   have a0:=congrArg (fun x=>x.testBit i) e0
   simp only [Nat.testBit_and,Nat.testBit_xor,hi,Bool.true_and,Nat.zero_testBit] at a1 a0
   rw [a1,Bool.true_and] at a0
   rw [hk i a1]
   revert a0
   cases v.testBit i<;>cases V.testBit i<;>simp
  ·split at h
   ·rename_i hf
    obtain rfl:=Option.some.inj h
    exact tB hk hp hf
   ·cases h
theorem zV{M V:Nat}(hk:∀ i,M.testBit i=true→ρ.b i=V.testBit i)(b:B):(gN M V b).den ρ=b.den ρ:=by
 unfold gN
 split
 ·rename_i i
  split
  ·rename_i hi
   split
   ·rename_i hv;simp only [B.den];rw [hk i hi,hv]
   ·rename_i hv;simp only [B.den];rw [hk i hi,hv]
  ·rfl
 ·rename_i i
  split
  ·rename_i hi
   split
   ·rename_i hv;simp only [B.den];rw [hk i hi,hv];rfl
   ·rename_i hv;simp only [B.den];rw [hk i hi,hv];rfl
  ·rfl
 ·rfl
theorem DO{M V:Nat}(hk:∀ i,M.testBit i=true→ρ.b i=V.testBit i)(t:B):∀ l:List B,aw ρ (Ij M V l) (gN M V t)=aw ρ l t
 | []=>by rw [Ij,bk,bk,zV hk]
 | b::l=>by rw [Ij,aB,aB,zV hk,DO hk t l]
theorem wT{x:X}{b:Bool}:∀ {pc:List (X×Bool)},(∀ f∈pc,f.1.tt ρ=f.2)→zz x pc=some b→x.tt ρ=b
 | [],_,h=>by simp [zz] at h
 | (y,c)::pc,hp,h=>by
  unfold zz at h
  split at h
  ·rename_i hb
   rw [←X.beq_eq hb,hp (y,c) (by simp)]
   exact Option.some.inj h
  ·exact wT (fun f hf=>hp f (by simp [hf])) h
theorem w6 {pc:List (X×Bool)} (hp:∀ f∈pc,f.1.tt ρ=f.2) (x:X):(IB pc x).den ρ=x.den ρ:=by
 have hk:=sL hp
 unfold IB
 split
 ·split
  rename_i M V hMV
  rw [hMV] at hk
  split
  ·rfl
  ·rw [gO,DO hk]
   rfl
 ·split
  ·rename_i hd
   have h:=wT hp hd
   simp only [X.tt,bne_iff_ne,ne_eq] at h
   rw [X.den.eq_16]
   simp [h]
  ·rename_i hd
   have h:=wT hp hd
   simp only [X.tt,bne_eq_false_iff_eq] at h
   rw [X.den.eq_16]
   simp [h]
  ·rfl
 ·rfl
end
end Go.Proofs.YtmickljjofbmiaaGreatDoor
namespace Go.Proofs.YtmickljjofbmiaaGreatDoor
open Go
theorem dJ(b:Bool):(bc b != 0)=b:=by cases b<;>rfl
theorem pe(b:Bool):(bc b==0)=!b:=by cases b<;>rfl
theorem qe(b:Bool):0≤bc b∧bc b≤1:=by cases b<;>decide
theorem yK(k:IntKind)(n:Int):j6 k≤k.wrap n∧k.wrap n≤lQ k:=by
 unfold IntKind.wrap
 cases k<;>simp only [j6,lQ,IntKind.bits,IntKind.signed,Bool.false_and,Bool.true_and,Bool.false_eq_true,if_false,decide_eq_true_eq,Int.reducePow,Nat.reduceSub,ge_iff_le]<;>first | omega | (split<;>omega)
theorem bp{k:IntKind}{n:Int}(h1:j6 k≤n)(h2:n≤lQ k):k.wrap n=n:=by
 unfold IntKind.wrap
 cases k<;>simp only [j6,lQ,IntKind.bits,IntKind.signed,Bool.false_and,Bool.true_and,Bool.false_eq_true,if_false,decide_eq_true_eq,Int.reducePow,Nat.reduceSub,ge_iff_le] at *<;>first | omega | (split<;>omega)
theorem wrap_mul(k:IntKind)(a b:Int):k.wrap (k.wrap a*b)=k.wrap (a*b):=by
 have e:∀ m:Int,(2 ^ k.bits:Int) ∣ k.wrap m-m:=by
  intro m
  unfold IntKind.wrap
  have h:=Int.emod_add_mul_ediv m (2 ^ k.bits:Int)
  dsimp only
  split
  ·exact⟨-(m / 2 ^ k.bits)-1,by rw [Int.mul_sub,Int.mul_neg];omega⟩
  ·exact⟨-(m / 2 ^ k.bits),by rw [Int.mul_neg];omega⟩
 have key:∀ x y:Int,(2 ^ k.bits:Int) ∣ x-y→k.wrap x=k.wrap y:=by
  intro x y h
  have:x % (2 ^ k.bits:Int)=y % (2 ^ k.bits:Int):=by
   obtain⟨c,hc⟩:=h
   rw [show x=y+2 ^ k.bits*c by omega,Int.add_mul_emod_self_left]
  unfold IntKind.wrap
  rw [this]
 refine key _ _ ?_
 obtain⟨c,hc⟩:=e a
 exact⟨c*b,by rw [←Int.sub_mul,hc,Int.mul_assoc]⟩
theorem O5(a b:Int):yo a b≤a∧yo a b≤b:=by
 unfold yo
 split
 ·rename_i h;have:=of_decide_eq_true h;omega
 ·rename_i h;have:=of_decide_eq_false h;omega
theorem F6(a b:Int):a≤imax a b∧b≤imax a b:=by
 unfold imax
 split
 ·rename_i h;have:=of_decide_eq_true h;omega
 ·rename_i h;have:=of_decide_eq_false h;omega
theorem aaF(a b:Int):yo a b=a∨yo a b=b:=by
 unfold yo
 split<;>simp
theorem tE{ρ:Env}:∀ (l:List B) (t:B),-Int.ofNat (2 ^ l.length)≤aw ρ l t∧aw ρ l t≤Int.ofNat (2 ^ l.length)-1
 | [],t=>by
  have:=qe (t.den ρ)
  simp only [aw,List.length_nil,Nat.pow_zero]
  show -1≤_∧_≤(1:Int)-1
  omega
 | b::l,t=>by
  have h1:=tE (ρ:=ρ) l t
  have h2:=qe (b.den ρ)
  simp only [aw,List.length_cons,Nat.pow_succ]
  have e:Int.ofNat (2 ^ l.length*2)=2*Int.ofNat (2 ^ l.length):=by
   show ((2 ^ l.length*2:Nat):Int)=2*((2 ^ l.length:Nat):Int)
   omega
  rw [e]
  omega
theorem TG{ρ:Env}{l m:List B}{t u:B}(h:∀ i,du ρ l t i=du ρ m u i):aw ρ l t=aw ρ m u:=by
 have h1:=tE (ρ:=ρ) l t
 have h2:=tE (ρ:=ρ) m u
 have e1:=kJ (ρ:=ρ) l t (l.length+m.length+1)
 have e2:=kJ (ρ:=ρ) m u (l.length+m.length+1)
 rw [r6 (fun i _=>h i),←e2] at e1
 have p1:(2:Nat) ^ l.length≤2 ^ (l.length+m.length):=Nat.pow_le_pow_right (by omega) (by omega)
 have p2:(2:Nat) ^ m.length≤2 ^ (l.length+m.length):=Nat.pow_le_pow_right (by omega) (by omega)
 have p3:(2:Int) ^ (l.length+m.length+1)=2*((2 ^ (l.length+m.length):Nat):Int):=by rw [Int.pow_succ,Int.mul_comm];simp
 rw [p3] at e1
 have q1:-(((2 ^ l.length:Nat):Int))≤aw ρ l t∧aw ρ l t≤((2 ^ l.length:Nat):Int)-1:=h1
 have q2:-(((2 ^ m.length:Nat):Int))≤aw ρ m u∧aw ρ m u≤((2 ^ m.length:Nat):Int)-1:=h2
 generalize 2 ^ (l.length+m.length)=K at *
 generalize 2 ^ l.length=A at *
 generalize 2 ^ m.length=C at *
 generalize aw ρ l t=x at *
 generalize aw ρ m u=y at *
 have hd:(2*(K:Int)) ∣ (x-y):=Int.dvd_of_emod_eq_zero (by rw [Int.sub_emod,e1];simp)
 have hz:x-y=0:=Int.eq_zero_of_dvd_of_natAbs_lt_natAbs hd (by omega)
 omega
theorem YG{A B a b:Int}(h1:-A≤a)(h2:a≤A)(h3:-B≤b)(h4:b≤B):-(A*B)≤a*b∧a*b≤A*B:=by
 have e1:=Int.mul_nonneg (show 0≤A-a by omega) (show 0≤B+b by omega)
 have e2:=Int.mul_nonneg (show 0≤A+a by omega) (show 0≤B-b by omega)
 have e3:=Int.mul_nonneg (show 0≤A-a by omega) (show 0≤B-b by omega)
 have e4:=Int.mul_nonneg (show 0≤A+a by omega) (show 0≤B+b by omega)
 simp only [Int.sub_mul,Int.add_mul,Int.mul_sub,Int.mul_add] at e1 e2 e3 e4
 omega
def Rg.has(r:Rg)(n:Int):Prop:=r.lo≤n∧n≤r.hi
theorem Rg.mD{r:Rg}{n:Int}(h:r.has n):-r.abs≤n∧n≤r.abs:=by
 have:=F6 r.hi (-r.lo)
 obtain⟨h1,h2⟩:=h
 unfold Rg.abs
 omega
theorem IL{a b m:Int}(h:-m≤a∧a≤m):-m≤a.tdiv b∧a.tdiv b≤m:=by
 have h1:=Int.natAbs_tdiv a b
 have h2:(a.tdiv b).natAbs≤a.natAbs:=by rw [h1];exact Nat.div_le_self _ _
 omega
theorem A0{a b m:Int}(h:-m≤a∧a≤m):-m≤a.tmod b∧a.tmod b≤m:=by
 have h1:=Int.natAbs_tmod a b
 have h2:(a.tmod b).natAbs≤a.natAbs:=by rw [h1];exact Nat.mod_le _ _
 omega
theorem Qd{a b:Rg}{x y:Int}(h1:a.has x)(h2:b.has y):(NB a b).has (x*y):=by
 unfold NB
 split
 ·rename_i e1 e2
  have e1:=of_decide_eq_true e1
  have e2:=of_decide_eq_true e2
  obtain⟨h1,h3⟩:=h1
  obtain⟨h2,h4⟩:=h2
  exact⟨Int.mul_le_mul h1 h2 e2 (by omega),Int.mul_le_mul h3 h4 (by omega) (by omega)⟩
 ·exact YG (Rg.mD h1).1 (Rg.mD h1).2 (Rg.mD h2).1 (Rg.mD h2).2
theorem Qu{a:Rg}{x y:Int}{m:Option Int}(h1:a.has x)(h2:∀ n,m=some n→y=n):(Lf a m).has (x.tdiv y):=by
 unfold Lf
 split
 ·rename_i n
  obtain rfl:=h2 n rfl
  split
  ·rename_i e1 e2
   have e1:=of_decide_eq_true e1
   have e2:=of_decide_eq_true e2
   have hx:0≤x:=Int.le_trans e1 h1.1
   refine⟨?_,?_⟩
   ·rw [Int.tdiv_eq_ediv_of_nonneg hx];exact Int.ediv_nonneg hx (by omega)
   ·rw [Int.tdiv_eq_ediv_of_nonneg hx];exact Int.ediv_le_ediv e2 h1.2
  ·exact IL (Rg.mD h1)
 ·exact IL (Rg.mD h1)
theorem Q1{a:Rg}{x y:Int}{m:Option Int}(h1:a.has x)(h2:∀ n,m=some n→y=n):(Ik a m).has (x.tmod y):=by
 unfold Ik
 split
 ·rename_i n
  obtain rfl:=h2 n rfl
  split
  ·rename_i e1
   have e1:=of_decide_eq_true e1
   have l1:=Int.tmod_lt_of_pos x e1
   have l2:=Int.lt_tmod_of_pos x e1
   split
   ·rename_i e2
    have e2:=of_decide_eq_true e2
    have hx:0≤x:=Int.le_trans e2 h1.1
    have h3:=Int.tmod_eq_emod_of_nonneg (b:=y) hx
    have h4:=Int.emod_nonneg x (show y≠0 by omega)
    have h5:x % y≤x:=by
     have:=Int.emod_add_mul_ediv x y
     have:=Int.mul_nonneg (show 0≤y by omega) (Int.ediv_nonneg hx (show 0≤y by omega))
     omega
    refine⟨by rw [h3];exact h4,?_⟩
    rcases aaF a.hi (y-1) with e | e<;>dsimp only<;>rw [e]
    ·have:=h1.2;omega
    ·omega
   ·exact⟨by dsimp only;omega,by dsimp only;omega⟩
  ·exact A0 (Rg.mD h1)
 ·split
  ·rename_i e1
   have e1:=of_decide_eq_true e1
   have hx:0≤x:=Int.le_trans e1 h1.1
   obtain⟨h2,h3⟩:=A0 (a:=x) (b:=y) (m:=x) ⟨by omega,Int.le_refl _⟩
   refine⟨?_,Int.le_trans h3 h1.2⟩
   have h4:=Int.natAbs_tmod x y
   have h5:0≤x.tmod y:=Int.tmod_nonneg y hx
   exact h5
  ·exact A0 (Rg.mD h1)
theorem uP{f:Rg→Rg→Rg}{a b:Option Rg}{r:Rg}(h:Gz f a b=some r):∃ x y,a=some x∧b=some y∧r=f x y:=by
 unfold Gz at h
 split at h
 ·cases h
 ·split at h
  ·cases h
  ·exact⟨_,_,rfl,rfl,(Option.some.inj h).symm⟩
theorem VJ(o:Nat)(k:IntKind)(a b:Int):j6 k≤gR o k a b∧gR o k a b≤lQ k:=by
 unfold gR
 split<;>exact yK k _
theorem eX{ρ:Env}{b:X}(n:Int)(h:mJ b=some n):b.den ρ=n:=by
 cases b with
 | lit m=>exact Option.some.inj (show some m=some n from h)
 | _=>exact absurd (show (none:Option Int)=some n from h) (by simp)
theorem ZQ{ρ:Env}:∀ {x:X} {r:Rg},jQ x=some r→r.has (x.den ρ):=by
 intro x
 induction x with
 | lit n=>intro r h;obtain rfl:=Option.some.inj h;exact⟨Int.le_refl _,Int.le_refl _⟩
 | wrap k a _=>intro r h;obtain rfl:=Option.some.inj h;exact yK k _
 | bits o k a b _ _=>intro r h;obtain rfl:=Option.some.inj h;exact VJ o k _ _
 | shl k a b _ _=>intro r h;obtain rfl:=Option.some.inj h;exact yK k _
 | bv l t=>
  intro r h
  unfold jQ at h
  have h0:=tE (ρ:=ρ) l t
  split at h
  ·obtain rfl:=Option.some.inj h
   have:=eY (ρ:=ρ) l
   exact⟨by simp only [X.den];omega,h0.2⟩
  ·obtain rfl:=Option.some.inj h
   exact h0
 | eq a b _ _=>intro r h;obtain rfl:=Option.some.inj h;exact qe _
 | lt a b _ _=>intro r h;obtain rfl:=Option.some.inj h;exact qe _
 | le a b _ _=>intro r h;obtain rfl:=Option.some.inj h;exact qe _
 | not a _=>intro r h;obtain rfl:=Option.some.inj h;exact qe _
 | seq a b _ _=>intro r h;obtain rfl:=Option.some.inj h;exact qe _
 | cube m v=>intro r h;obtain rfl:=Option.some.inj h;exact qe _
 | ite c a b _ ia ib=>
  intro r h
  obtain⟨x,y,hx,hy,rfl⟩:=uP (show Gz _ (jQ a) (jQ b)=some r from h)
  have h1:=ia hx
  have h2:=ib hy
  have m1:=O5 x.lo y.lo
  have m2:=F6 x.hi y.hi
  simp only [X.den]
  split
  ·exact⟨Int.le_trans m1.2 h2.1,Int.le_trans h2.2 m2.2⟩
  ·exact⟨Int.le_trans m1.1 h1.1,Int.le_trans h1.2 m2.1⟩
 | add a b ia ib=>
  intro r h
  obtain⟨x,y,hx,hy,rfl⟩:=uP (show Gz _ (jQ a) (jQ b)=some r from h)
  obtain⟨h1,h2⟩:=ia hx
  obtain⟨h3,h4⟩:=ib hy
  exact⟨by simp only [X.den];omega,by simp only [X.den];omega⟩
 | sub a b ia ib=>
  intro r h
  obtain⟨x,y,hx,hy,rfl⟩:=uP (show Gz _ (jQ a) (jQ b)=some r from h)
  obtain⟨h1,h2⟩:=ia hx
  obtain⟨h3,h4⟩:=ib hy
  exact⟨by simp only [X.den];omega,by simp only [X.den];omega⟩
 | mul a b ia ib=>
  intro r h
  obtain⟨x,y,hx,hy,rfl⟩:=uP (show Gz _ (jQ a) (jQ b)=some r from h)
  exact Qd (ia hx) (ib hy)
 | quo a b ia _=>
  intro r h
  unfold jQ at h
  split at h
  ·rename_i s hs
   obtain rfl:=Option.some.inj h
   exact Qu (ia hs) fun n hn=>eX n hn
  ·cases h
 | rem a b ia _=>
  intro r h
  unfold jQ at h
  split at h
  ·rename_i s hs
   obtain rfl:=Option.some.inj h
   exact Q1 (ia hs) fun n hn=>eX n hn
  ·cases h
 | shr k a b ia _=>
  intro r h
  unfold jQ at h
  split at h
  ·rename_i s hs
   obtain rfl:=Option.some.inj h
   obtain⟨h1,h2⟩:=ia hs
   have m1:=O5 s.lo 0
   have m2:=F6 s.hi 0
   simp only [X.den,B6]
   generalize min (b.den ρ).toNat k.bits=p
   have hp:(0:Int)<2 ^ p:=Int.pow_pos (by omega)
   rw [Int.fdiv_eq_ediv_of_nonneg _ (Int.le_of_lt hp)]
   generalize (2:Int) ^ p=q at hp
   generalize a.den ρ=z at *
   have e:=Int.emod_add_mul_ediv z q
   have e1:=Int.emod_nonneg z (show q≠0 by omega)
   have e2:=Int.emod_lt_of_pos z hp
   refine⟨?_,?_⟩
   ·dsimp only
    rcases Int.lt_or_le z 0 with hz | hz
    ·have:z≤z / q:=by
      rw [Int.le_ediv_iff_mul_le hp]
      have:=Int.mul_le_mul_of_nonpos_left (show z≤0 by omega) (show (1:Int)≤q by omega)
      omega
     omega
    ·have:=Int.ediv_nonneg hz (Int.le_of_lt hp);omega
   ·dsimp only
    rcases Int.lt_or_le z 0 with hz | hz
    ·have:z / q≤0:=Int.ediv_le_of_le_mul hp (by omega)
     omega
    ·have:=Int.ediv_le_self q hz
     omega
  ·cases h
 | _=>intro r h;cases h
theorem jM{ρ:Env}{x:X}{r:Rg}(h:yx x=some r):r.has (x.den ρ):=ZQ (by rw [←ad5];exact h)
theorem xk{ρ:Env}{k:IntKind}{x:X}(h:inK k x=true):j6 k≤x.den ρ∧x.den ρ≤lQ k:=by
 unfold inK at h
 split at h
 ·rename_i r hr
  obtain⟨h1,h2⟩:=jM (ρ:=ρ) hr
  split at h
  ·rename_i h3
   have h3:=of_decide_eq_true h3
   have h4:=of_decide_eq_true h
   omega
  ·cases h
 ·cases h
theorem vZ{ρ:Env}{x:X}(h:EZ x=true):0≤x.den ρ:=by
 unfold EZ at h
 split at h
 ·rename_i r hr
  have:=(jM (ρ:=ρ) hr).1
  have:=of_decide_eq_true h
  omega
 ·cases h
theorem xu(ρ:Env)(k:IntKind)(a:X):(yO k a).den ρ=k.wrap (a.den ρ):=by
 unfold yO
 split
 ·split
  ·rename_i j x m n h
   obtain rfl:=aY h
   simp only [X.den]
   rw [wrap_mul,Int.mul_assoc]
  ·simp only [X.den]
 ·simp only [X.den]
theorem dg(ρ:Env)(k:IntKind)(a:X):(gS k a).den ρ=k.wrap (a.den ρ):=by
 unfold gS
 split
 ·rename_i h
  have:=xk (ρ:=ρ) h
  rw [bp this.1 this.2]
 ·exact xu ρ k a
end Go.Proofs.YtmickljjofbmiaaGreatDoor
namespace Go.Proofs.YtmickljjofbmiaaGreatDoor
open Go
section
variable (ρ:Env)
theorem iT(k:IntKind)(a:X):(mkWrap k a).den ρ=k.wrap (a.den ρ):=by
 unfold mkWrap
 split
 ·simp [X.den]
 ·rw [kC];rfl
 ·exact dg ρ k _
theorem fQ{a:X}(h:GA a=true):a.den ρ=0:=by
 unfold GA at h
 split at h
 ·simp only [X.den];exact bz h
 ·cases h
theorem Vz(k:IntKind)(a b:X):(Uu k a b).den ρ=k.wrap (a.den ρ+b.den ρ):=by
 unfold Uu
 split
 ·rename_i h
  rw [dg,fQ ρ h,Int.add_zero]
 ·split
  ·rename_i h
   rw [dg,fQ ρ h,Int.zero_add]
  ·rw [dg];simp only [X.den]
theorem AO(k:IntKind)(a b:X):(E9 k a b).den ρ=k.wrap (a.den ρ+b.den ρ):=by
 unfold E9;split
 ·simp [X.den]
 ·have hd:(Uu k a b).den ρ=k.wrap (a.den ρ+b.den ρ):=Vz ρ k a b
  refine fB (ρ:=ρ) (Pr:=fun x:X=>x.den ρ=k.wrap (a.den ρ+b.den ρ)) hd fun l t m u ha hb=>?_
  refine vN (by rw [hd,ha,hb]) fun r s h=>?_
  rw [ha,hb,←o6 h]
  simp [bc]
theorem w5(k:IntKind)(a b:X):(mkAdd k a b).den ρ=k.wrap (a.den ρ+b.den ρ):=by
 unfold mkAdd
 split
 ·rename_i m hm
  split
  ·rename_i n hn
   simp only [X.den,eX (ρ:=ρ) m hm,eX (ρ:=ρ) n hn]
  ·exact AO ρ k a b
 ·exact AO ρ k a b
theorem wL(k:IntKind)(a b:X):(mkSub k a b).den ρ=k.wrap (a.den ρ-b.den ρ):=by
 unfold mkSub;split
 ·simp [X.den]
 ·rename_i n _
  have hd:(gS k (.sub a (.lit n))).den ρ=k.wrap (a.den ρ-(X.lit n).den ρ):=dg ρ k _
  refine fB (ρ:=ρ) (Pr:=fun x:X=>x.den ρ=k.wrap (a.den ρ-(X.lit n).den ρ)) hd fun l t m u ha hb=>?_
  refine vN hd fun r s h=>?_
  rw [ha,←o6 h,←hb]
  simp [bc,X.den,Int.sub_eq_add_neg]
 ·have hd:(gS k (.sub a b)).den ρ=k.wrap (a.den ρ-b.den ρ):=dg ρ k _
  refine fB (ρ:=ρ) (Pr:=fun x:X=>x.den ρ=k.wrap (a.den ρ-b.den ρ)) hd fun l t m u ha hb=>?_
  refine vN hd fun r s h=>?_
  rw [ha,hb,←Am h]
theorem DL{k:IntKind}{l:List B}{t:B}{n:Int}{d:X} (hd:d.den ρ=k.wrap (aw ρ l t*n)):(NN k l t n d).den ρ=k.wrap (aw ρ l t*n):=by
 unfold NN
 split
 ·rename_i n
  split
  ·rename_i s hs
   rw [kC,sy,y3 hs]
   simp
  ·exact hd
 ·exact hd
theorem kN(k:IntKind)(a b:X):(mkMul k a b).den ρ=k.wrap (a.den ρ*b.den ρ):=by
 unfold mkMul;split
 ·simp [X.den]
 ·exact DL ρ (by rw [dg];simp only [X.den])
 ·rename_i n l t
  rw [Int.mul_comm]
  exact DL ρ (n:=n) (by rw [dg];simp only [X.den,Int.mul_comm])
 ·rw [dg];simp only [X.den]
theorem Ql{k:IntKind}{l:List B}{t:B}{n:Int}{d:X} (hd:d.den ρ=k.wrap ((aw ρ l t).tdiv n)):(WY k l t n d).den ρ=k.wrap ((aw ρ l t).tdiv n):=by
 unfold WY
 split
 ·rename_i n
  split
  ·rename_i s hs
   rw [kC,vD,y3 hs,Int.tdiv_eq_ediv_of_nonneg (eY l)]
   simp
  ·exact hd
 ·exact hd
theorem CZ(k:IntKind)(a b:X):(OJ k a b).den ρ=k.wrap ((a.den ρ).tdiv (b.den ρ)):=by
 unfold OJ;split
 ·simp [X.den]
 ·exact Ql ρ (by rw [dg];simp only [X.den])
 ·rw [dg];simp only [X.den]
theorem adv{n:Int}{k:IntKind}(h:kOf n=some k):k.signed=false∧n=2 ^ k.bits:=by
 unfold kOf at h
 split at h
 ·rename_i e;obtain rfl:=Option.some.inj h;exact⟨rfl,bz e⟩
 ·split at h
  ·rename_i e;obtain rfl:=Option.some.inj h;exact⟨rfl,bz e⟩
  ·split at h
   ·rename_i e;obtain rfl:=Option.some.inj h;exact⟨rfl,bz e⟩
   ·cases h
theorem sX(a:X)(n:Int):(zP a n).den ρ=(a.den ρ).tmod n:=by
 unfold zP
 split
 ·simp only [X.den]
 ·rename_i r hr
  obtain⟨h1,h2⟩:=jM (ρ:=ρ) hr
  split
  ·simp only [X.den]
  ·rename_i h3
   have h3:=of_decide_eq_true h3
   rw [Int.tmod_eq_emod_of_nonneg (by omega)]
   split
   ·rename_i h4
    have h4:=of_decide_eq_true h4
    exact (Int.emod_eq_of_lt (by omega) (by omega)).symm
   ·split
    ·rename_i k hk
     obtain⟨h5,h6⟩:=adv hk
     rw [xu,h6]
     simp [IntKind.wrap,h5]
    ·simp only [X.den]
     rw [Int.tmod_eq_emod_of_nonneg (by omega)]
theorem Pq{l:List B}{t:B}{n:Int}{d:X} (hd:d.den ρ=(aw ρ l t).tmod n):(SR l t n d).den ρ=(aw ρ l t).tmod n:=by
 unfold SR
 split
 ·rename_i n
  split
  ·split
   ·rename_i s hs
    rw [gO,qQ,←kJ,y3 hs,Int.tmod_eq_emod_of_nonneg (eY l)]
    simp
   ·exact hd
  ·split
   ·rename_i hn
    have hn':=Nat.eq_of_beq_eq_true hn
    subst hn'
    split
    ·rename_i b l'
     rw [gO,bk]
     have h1:=rW (ρ:=ρ) (b::l')
     have h2:(aw ρ (b::l') .one).tmod 2=-((-aw ρ (b::l') .one).tmod 2):=by rw [Int.neg_tmod,Int.neg_neg]
     rw [show (Int.ofNat 2)=2 from rfl,h2,Int.tmod_eq_emod_of_nonneg (by omega)]
     rw [aB] at h1 ⊢
     rcases n9 (b.den ρ) with h | h<;>omega
    ·exact hd
   ·exact hd
  ·exact hd
 ·exact hd
theorem kE(a b:X):(xM a b).den ρ=(a.den ρ).tmod (b.den ρ):=by
 unfold xM;split
 ·simp [X.den]
 ·exact Pq ρ (by simp [X.den])
 ·exact sX ρ _ _
 ·simp [X.den]
theorem SL{k:IntKind}{j:Nat}{x:Int}(hj:j<k.bits)(h0:0≤x)(h1:x≤lQ k):
  k.wrap ((BitVec.ofInt k.bits x &&& BitVec.ofInt k.bits (((2 ^ j-1:Nat):Int))).toNat:Int)=x % (2 ^ j:Nat) ∧
  k.wrap ((BitVec.ofInt k.bits x &&& ~~~BitVec.ofInt k.bits (((2 ^ j-1:Nat):Int))).toNat:Int)=x-x % (2 ^ j:Nat):=by
 obtain⟨n,rfl⟩:=Int.eq_ofNat_of_zero_le h0
 have hn:n<2 ^ k.bits:=by
  have:(n:Int)≤lQ k:=h1
  cases k<;>simp only [lQ,IntKind.bits] at this ⊢<;>omega
 have hp:2 ^ j<2 ^ k.bits:=Nat.pow_lt_pow_right (by omega) hj
 have hp0:0<2 ^ j:=Nat.two_pow_pos j
 have e1:(BitVec.ofInt k.bits (n:Int)).toNat=n:=by
  rw [BitVec.toNat_ofInt]
  have:((n:Int) % ((2 ^ k.bits:Nat):Int))=n:=Int.emod_eq_of_lt (by omega) (by omega)
  rw [this]
  rfl
 have e2:(BitVec.ofInt k.bits ((2 ^ j-1:Nat):Int)).toNat=2 ^ j-1:=by
  rw [BitVec.toNat_ofInt]
  have:(((2 ^ j-1:Nat):Int) % ((2 ^ k.bits:Nat):Int))=((2 ^ j-1:Nat):Int):=Int.emod_eq_of_lt (by omega) (by omega)
  rw [this]
  rfl
 have hm:n % 2 ^ j≤n:=Nat.mod_le _ _
 constructor
 ·rw [BitVec.toNat_and,e1,e2,Nat.and_two_pow_sub_one_eq_mod]
  have h2:j6 k≤((n % 2 ^ j:Nat):Int):=by
   have:j6 k≤0:=by cases k<;>decide
   omega
  rw [bp h2 (by omega)]
  rfl
 ·have e3:(BitVec.ofInt k.bits (n:Int) &&& ~~~BitVec.ofInt k.bits ((2 ^ j-1:Nat):Int)).toNat=n-n % 2 ^ j:=by
   rw [BitVec.toNat_and,BitVec.toNat_not,e1,e2]
   apply Nat.eq_of_testBit_eq
   intro i
   have h5:n-n % 2 ^ j=2 ^ j*(n / 2 ^ j):=by
    have:=Nat.mod_add_div n (2 ^ j)
    omega
   rw [h5,Nat.testBit_and,Nat.mul_comm,Nat.testBit_mul_two_pow]
   rw [show 2 ^ k.bits-1-(2 ^ j-1)=2 ^ k.bits-((2 ^ j-1)+1) by omega,Nat.testBit_two_pow_sub_succ (by omega)]
   rw [Nat.testBit_two_pow_sub_one]
   by_cases hi:i<j
   ·simp [hi,show ¬j≤i by omega]
   ·have:j≤i:=by omega
    simp [hi,this,Nat.testBit_div_two_pow]
    intro hb
    rcases Nat.lt_or_ge i k.bits with h | h
    ·exact h
    ·have:n<2 ^ i:=Nat.lt_of_lt_of_le hn (Nat.pow_le_pow_right (by omega) h)
     rw [Nat.testBit_lt_two_pow this] at hb
     cases hb
  rw [e3]
  have h2:j6 k≤((n-n % 2 ^ j:Nat):Int):=by
   have:j6 k≤0:=by cases k<;>decide
   omega
  rw [bp h2 (by omega)]
  have:((n % 2 ^ j:Nat):Int)=(n:Int) % ((2 ^ j:Nat):Int):=by simp
  omega
theorem Io{o:Nat}{k:IntKind}{a:X}{m:Int}{d:X} (hd:d.den ρ=gR o k (a.den ρ) m):(FB o k a m d).den ρ=gR o k (a.den ρ) m:=by
 unfold FB
 split
 ·rename_i m
  split
  ·rename_i h1 h2
   split
   ·rename_i j hj
    split
    ·rename_i hb
     have hb:=Nat.le_of_ble_eq_true hb
     have e:=y3 hj
     obtain rfl:m=2 ^ j-1:=by omega
     obtain⟨m1,m2⟩:=SL (x:=a.den ρ) hb (vZ h1) (xk (ρ:=ρ) h2).2
     have h0:=vZ (ρ:=ρ) h1
     split
     ·rw [sX,Int.tmod_eq_emod_of_nonneg h0]
      exact m1.symm
     ·have h3:=(xk (ρ:=ρ) h2).2
      have h4:0≤a.den ρ % ((2 ^ j:Nat):Int):=Int.emod_nonneg _ (by have:=Nat.two_pow_pos j;omega)
      have h5:a.den ρ % ((2 ^ j:Nat):Int)≤a.den ρ:=by
       have e1:=Int.emod_add_mul_ediv (a.den ρ) ((2 ^ j:Nat):Int)
       have e2:=Int.mul_nonneg (show (0:Int)≤((2 ^ j:Nat):Int) by omega) (Int.ediv_nonneg h0 (show (0:Int)≤((2 ^ j:Nat):Int) by omega))
       omega
      have h6:j6 k≤0:=by cases k<;>decide
      rw [dg]
      simp only [X.den]
      rw [sX,Int.tmod_eq_emod_of_nonneg h0,show (Int.ofNat (2 ^ j))=((2 ^ j:Nat):Int) from rfl,bp (by omega) (by omega)]
      exact m2.symm
     ·exact hd
    ·exact hd
   ·exact hd
  ·exact hd
 ·exact hd
theorem Ct(o:Nat)(k:IntKind)(a b:X):(OE o k a b).den ρ=gR o k (a.den ρ) (b.den ρ):=by
 unfold OE
 split
 ·exact Io ρ rfl
 ·rfl
theorem n4(o:Nat)(k:IntKind)(a b:X):(oM o k a b).den ρ=gR o k (a.den ρ) (b.den ρ):=by
 unfold oM;split
 ·simp [X.den]
 ·refine fB (ρ:=ρ) (Pr:=fun x:X=>x.den ρ=gR o k (a.den ρ) (b.den ρ)) (Ct ρ o k a b) fun l t m u ha hb=>?_
  unfold BU
  split
  ·rename_i r s h
   rw [kC,ha,hb,Ur k h]
  ·exact Ct ρ o k a b
theorem wS(k:IntKind)(a b:X):(IU k a b).den ρ=L3 k (a.den ρ) (b.den ρ):=by
 unfold IU;split
 ·simp [X.den]
 ·rw [kC,sy];rfl
 ·rw [dg]
  simp only [X.den,L3]
  simp
 ·simp [X.den]
theorem iE(k:IntKind)(a b:X):(ur k a b).den ρ=B6 k (a.den ρ) (b.den ρ):=by
 unfold ur;split
 ·simp [X.den]
 ·rw [gO,vD]
  simp only [X.den,B6]
  rw [Int.fdiv_eq_ediv_of_nonneg]
  exact Int.le_of_lt (Int.pow_pos (by omega))
 ·split
  ·rename_i h
   have h0:=vZ (ρ:=ρ) h
   simp only [X.den,B6]
   rw [Int.tdiv_eq_ediv_of_nonneg h0,Int.fdiv_eq_ediv_of_nonneg]
   ·simp
   ·exact Int.le_of_lt (Int.pow_pos (by omega))
  ·simp [X.den]
 ·simp [X.den]
theorem Ju{a b:X}(h:apart a b=true):(a.den ρ==b.den ρ)=false:=by
 unfold apart at h
 split at h
 ·cases h
 ·rename_i r hr
  obtain⟨h1,h2⟩:=jM (ρ:=ρ) hr
  split at h
  ·cases h
  ·rename_i s hs
   obtain⟨h3,h4⟩:=jM (ρ:=ρ) hs
   refine beq_eq_false_iff_ne.2 fun e=>?_
   split at h
   ·rename_i h5
    have h5:=of_decide_eq_true h5
    omega
   ·have h:=of_decide_eq_true h
    omega
theorem TU(k:IntKind)(n m:Int)(h1:j6 k≤m)(h2:m≤lQ k):k.wrap n=m↔n % (2 ^ k.bits:Int)=m % (2 ^ k.bits:Int):=by
 unfold IntKind.wrap
 cases k<;>simp only [j6,lQ,IntKind.bits,IntKind.signed,Bool.false_and,Bool.true_and,Bool.false_eq_true,if_false,decide_eq_true_eq,Int.reducePow,Nat.reduceSub,ge_iff_le] at *<;>first | omega | (split<;>omega)
theorem MD{k:IntKind}{a:X}{m:Int}{d:X} (hd:d.den ρ=bc (k.wrap (a.den ρ)==m)):(Lq k a m d).den ρ=bc (k.wrap (a.den ρ)==m):=by
 unfold Lq
 split
 ·exact hd
 ·rename_i r hr
  obtain⟨h1,h2⟩:=jM (ρ:=ρ) hr
  split
  ·rename_i e1 e2 e3
   have e1:=of_decide_eq_true e1
   have e2:=of_decide_eq_true e2
   have e3:=of_decide_eq_true e3
   have hp:(0:Int)<Int.ofNat (2 ^ k.bits):=by
    show (0:Int)<((2 ^ k.bits:Nat):Int)
    have:=Nat.two_pow_pos k.bits
    omega
   have hpe:Int.ofNat (2 ^ k.bits)=(2:Int) ^ k.bits:=by simp
   have hw:=TU k (a.den ρ) m e2 e3
   generalize hP:Int.ofNat (2 ^ k.bits)=p at *
   rw [←hpe] at hw
   have key:(k.wrap (a.den ρ)=m)↔a.den ρ=r.lo+(m-r.lo) % p:=by
    rw [hw]
    have q1:=Int.emod_nonneg (m-r.lo) (show p≠0 by omega)
    have q2:=Int.emod_lt_of_pos (m-r.lo) hp
    have q3:=Int.emod_add_mul_ediv (m-r.lo) p
    constructor
    ·intro h
     have h3:(a.den ρ-r.lo) % p=(m-r.lo) % p:=by rw [Int.sub_emod,h,←Int.sub_emod]
     rw [Int.emod_eq_of_lt (by omega) (by omega)] at h3
     omega
    ·intro h
     rw [h,show r.lo+(m-r.lo) % p=m+p * -((m-r.lo) / p) by rw [Int.mul_neg];omega,Int.add_mul_emod_self_left]
   dsimp only
   split
   ·simp only [X.den]
    congr 1
    rw [Bool.eq_iff_iff,beq_iff_eq,beq_iff_eq,key]
   ·rename_i e4
    have e4:=of_decide_eq_false e4
    have:(k.wrap (a.den ρ)==m)=false:=beq_eq_false_iff_ne.2 fun e=>by
     have:=key.1 e
     omega
    rw [this]
    rfl
  ·exact hd
theorem DX(a:X)(m:Int):(BY a m).den ρ=bc (a.den ρ==m):=by
 unfold BY
 split
 ·rename_i h
  have:=Ju ρ h
  simp only [X.den] at this
  rw [this]
  rfl
 ·split
  ·exact MD ρ (by simp only [X.den])
  ·rename_i c p q _
   have e:((X.ite c (.lit p) (.lit q)).den ρ==m)=if c.den ρ==0 then q==m else p==m:=by
    simp only [X.den]
    split<;>rfl
   rw [e]
   split<;>rename_i h1 h2<;>rw [bL] at h1 h2<;>rw [h1,h2]<;>simp only [X.den]<;>split<;>rfl
  ·simp only [X.den]
theorem NX(a b:X):(eqD a b).den ρ=bc (a.den ρ==b.den ρ):=by
 unfold eqD
 split
 ·exact DX ρ _ _
 ·split
  ·rename_i h
   rw [Ju ρ h]
   rfl
  ·simp only [X.den]
theorem Zb(a b:X):(ltD a b).den ρ=bc (decide (a.den ρ<b.den ρ)):=by
 unfold ltD
 split
 ·simp only [X.den]
 ·rename_i r hr
  obtain⟨h1,h2⟩:=jM (ρ:=ρ) hr
  split
  ·simp only [X.den]
  ·rename_i s hs
   obtain⟨h3,h4⟩:=jM (ρ:=ρ) hs
   split
   ·rename_i h;have h:=of_decide_eq_true h
    rw [decide_eq_true (by omega)];rfl
   ·split
    ·rename_i h;have h:=of_decide_eq_true h
     rw [decide_eq_false (by omega)];rfl
    ·simp only [X.den]
theorem YM(a b:X):(leD a b).den ρ=bc (decide (a.den ρ≤b.den ρ)):=by
 have hd:(X.not (.lt b a)).den ρ=bc (decide (a.den ρ≤b.den ρ)):=by
  simp only [X.den,pe]
  congr 1
  by_cases h:a.den ρ≤b.den ρ
  ·rw [decide_eq_true h,decide_eq_false (by omega)];rfl
  ·rw [decide_eq_false h,decide_eq_true (by omega)];rfl
 unfold leD
 split
 ·exact hd
 ·rename_i r hr
  obtain⟨h1,h2⟩:=jM (ρ:=ρ) hr
  split
  ·exact hd
  ·rename_i s hs
   obtain⟨h3,h4⟩:=jM (ρ:=ρ) hs
   split
   ·rename_i h;have h:=of_decide_eq_true h
    rw [decide_eq_true (by omega)];rfl
   ·split
    ·rename_i h;have h:=of_decide_eq_true h
     rw [decide_eq_false (by omega)];rfl
    ·exact hd
theorem CC(a b:X):(Pg a b).den ρ=bc (a.den ρ==b.den ρ):=by
 unfold Pg
 split
 ·simp only [X.den,bL]
 ·rename_i _ m _
  have hd:(BY b m).den ρ=bc ((X.lit m).den ρ==b.den ρ):=by rw [DX];simp only [X.den];rw [Bool.beq_comm]
  refine fB (ρ:=ρ) (Pr:=fun x:X=>x.den ρ=bc ((X.lit m).den ρ==b.den ρ)) hd fun l t m' u ha hb=>?_
  have h:=OD (ρ:=ρ) (l:=l) (t:=t) (m:=m') (u:=u) (d:=BY b m) (by rw [←ha,←hb];exact hd)
  rw [←ha,←hb] at h
  exact h
 ·refine fB (ρ:=ρ) (Pr:=fun x:X=>x.den ρ=bc (a.den ρ==b.den ρ)) ?_ fun l t m u ha hb=>?_
  ·split
   ·rename_i he
    rw [X.beq_eq he]
    simp [X.den,bc]
   ·exact NX ρ a b
  have h:=OD (ρ:=ρ) (l:=l) (t:=t) (m:=m) (u:=u) (d:=eqD a b) (by rw [←ha,←hb];exact NX ρ a b)
  rw [←ha,←hb] at h
  exact h
theorem Jh(a b:X):(mkEq a b).den ρ=bc (a.den ρ==b.den ρ):=by
 unfold mkEq
 split
 ·rename_i m hm
  split
  ·rename_i n hn
   simp only [X.den,bL,eX (ρ:=ρ) m hm,eX (ρ:=ρ) n hn]
  ·exact CC ρ a b
 ·exact CC ρ a b
theorem eW(a b:X):(mkEq a b).tt ρ=(a.den ρ==b.den ρ):=by rw [X.tt,Jh,dJ]
theorem CR(a b:X):(Of a b).den ρ=bc (decide (a.den ρ<b.den ρ)):=by
 unfold Of;split
 ·simp only [X.den];congr
 ·rename_i l t n
  refine Ie (p:=aw ρ l t<n) (by simp only [X.den];rfl) fun h=>?_
  rw [(jU h).1]
  omega
 ·rename_i n l t
  refine OY (p:=n<aw ρ l t) (by simp only [X.den];rfl) fun h=>?_
  rw [(jU h).1]
  omega
 ·exact Zb ρ _ _
theorem JN(a b:X):(mkLt a b).den ρ=bc (decide (a.den ρ<b.den ρ)):=by
 unfold mkLt
 split
 ·rename_i m hm
  split
  ·rename_i n hn
   simp only [X.den,eX (ρ:=ρ) m hm,eX (ρ:=ρ) n hn]
  ·exact CR ρ a b
 ·exact CR ρ a b
theorem my(a b:X):(mkLt a b).tt ρ=decide (a.den ρ<b.den ρ):=by rw [X.tt,JN,dJ]
theorem Da(a b:X):(OF a b).den ρ=bc (decide (a.den ρ≤b.den ρ)):=by
 unfold OF;split
 ·simp only [X.den];congr
 ·rename_i l t n
  refine Ie (p:=aw ρ l t≤n) (by simp only [X.den];rfl) fun h=>?_
  rw [(jU h).1]
  omega
 ·rename_i n l t
  refine OY (p:=n≤aw ρ l t) (by simp only [X.den];rfl) fun h=>?_
  rw [(jU h).1]
 ·exact YM ρ _ _
theorem BJ(a b:X):(mkLe a b).den ρ=bc (decide (a.den ρ≤b.den ρ)):=by
 unfold mkLe
 split
 ·rename_i m hm
  split
  ·rename_i n hn
   simp only [X.den,eX (ρ:=ρ) m hm,eX (ρ:=ρ) n hn]
  ·exact Da ρ a b
 ·exact Da ρ a b
theorem dv(a b:X):(mkLe a b).tt ρ=decide (a.den ρ≤b.den ρ):=by rw [X.tt,BJ,dJ]
theorem nG(a:X):(mkNot a).tt ρ=!a.tt ρ:=by
 unfold mkNot X.tt;split
 ·simp only [X.den,dJ,bL];simp [bne]
 ·simp only [X.den,dJ];simp [bne]
theorem DG(a:X):(mkNot a).den ρ=bc (!a.tt ρ):=by
 unfold mkNot X.tt;split<;>simp only [X.den,bL]<;>simp [bne]
theorem ID{x y z:X}{k:Option IntKind} (h:N6 x=some (k,y,z)):x.den ρ=(pv k (.add y z)).den ρ∧(pv k y).den ρ=y.den ρ∧∀ w:X,w.den ρ=0→(pv k (.add y w)).den ρ=y.den ρ:=by
 unfold N6 at h
 split at h
 ·simp only [Option.some.injEq,Prod.mk.injEq] at h
  obtain⟨rfl,rfl,rfl⟩:=h
  exact⟨rfl,rfl,fun w hw=>by simp [pv,X.den,hw]⟩
 ·split at h
  ·rename_i hk
   simp only [Option.some.injEq,Prod.mk.injEq] at h
   obtain⟨rfl,rfl,rfl⟩:=h
   have:=xk (ρ:=ρ) hk
   refine⟨rfl,?_,fun w hw=>?_⟩
   ·simp only [pv,X.den];exact bp this.1 this.2
   ·simp only [pv,X.den,hw,Int.add_zero];exact bp this.1 this.2
  ·cases h
 ·cases h
theorem DQ{k:Option IntKind}{y z w:X}(h:z.den ρ=w.den ρ):(pv k (.add y z)).den ρ=(pv k (.add y w)).den ρ:=by
 cases k<;>simp only [pv,X.den,h]
theorem sE(c a b:X):(X.ite c a b).den ρ=if c.tt ρ then a.den ρ else b.den ρ:=by
 by_cases h:c.den ρ=0<;>simp [X.den,X.tt,h]
theorem xW(c a b:X):(y6 c a b).den ρ=if c.tt ρ then a.den ρ else b.den ρ:=by
 unfold y6
 split
 ·rename_i k y z hb
  obtain⟨h1,_,h3⟩:=ID ρ hb
  split
  ·rename_i he
   obtain rfl:=X.beq_eq he
   rw [h1]
   split
   ·rename_i hc
    exact h3 _ (by rw [sE,if_pos hc];rfl)
   ·rename_i hc
    exact DQ ρ (by rw [sE,if_neg hc])
  ·exact sE ρ c a b
 ·exact sE ρ c a b
theorem eA(c a b:X):(lE c a b).den ρ=if c.tt ρ then a.den ρ else b.den ρ:=by
 unfold lE
 split
 ·rename_i k y z ha
  obtain⟨h1,_,h3⟩:=ID ρ ha
  split
  ·rename_i he
   obtain rfl:=X.beq_eq he
   rw [h1]
   split
   ·rename_i hc
    exact DQ ρ (by rw [sE,if_pos hc])
   ·rename_i hc
    exact h3 _ (by rw [sE,if_neg hc];rfl)
  ·exact xW ρ c a b
 ·exact xW ρ c a b
theorem PD(z:X)(h1:j6 .u32≤z.den ρ)(h2:z.den ρ≤lQ .u32):(X.wrap .i32 z).den ρ=if (X.lt z (.lit 2147483648)).tt ρ then z.den ρ else (X.sub z (.lit 4294967296)).den ρ:=by
 simp only [j6,lQ] at h1 h2
 have e1:(X.lt z (.lit 2147483648)).tt ρ=decide (z.den ρ<2147483648):=by
  rw [Bool.eq_iff_iff,decide_eq_true_iff]
  simp only [X.tt,X.den,dJ]
  exact decide_eq_true_iff
 rw [e1]
 simp only [X.den]
 simp only [IntKind.wrap,IntKind.bits,IntKind.signed,Bool.true_and,decide_eq_true_eq,Int.reducePow,Nat.reduceSub,ge_iff_le]
 rw [Int.emod_eq_of_lt (by omega) (by omega)]
 split<;>split<;>omega
theorem I7{c a b:X}{m:Int}{x:X} (hc:c=.lt x (.lit m)):(Gi c a b m x).den ρ=if c.tt ρ then a.den ρ else b.den ρ:=by
 have hd:(X.ite c a b).den ρ=if c.tt ρ then a.den ρ else b.den ρ:=by
  by_cases h:c.den ρ=0<;>simp [X.den,X.tt,h]
 unfold Gi
 split
 ·split
  ·rename_i y w h1 h2
   split
   ·rename_i h3 h4 h5
    obtain rfl:=bz h1
    obtain rfl:=bz h2
    obtain rfl:=X.beq_eq h3
    obtain rfl:=X.beq_eq h4
    have:=xk (ρ:=ρ) h5
    subst hc
    exact PD ρ _ this.1 this.2
   ·exact hd
  ·exact hd
 ·exact eA ρ c a b
theorem Pp(q:X):(X.wrap .u32 q).den ρ=if (X.lt (.rem q (.lit 4294967296)) (.lit 0)).tt ρ then (X.add (.rem q (.lit 4294967296)) (.lit 4294967296)).den ρ else (X.rem q (.lit 4294967296)).den ρ:=by
 have e1:(X.lt (.rem q (.lit 4294967296)) (.lit 0)).tt ρ=decide ((q.den ρ).tmod 4294967296<0):=by
  rw [Bool.eq_iff_iff,decide_eq_true_iff]
  simp only [X.tt,X.den,dJ]
  exact decide_eq_true_iff
 have e2:(X.wrap .u32 q).den ρ=q.den ρ % 4294967296:=by simp [X.den,IntKind.wrap,IntKind.bits,IntKind.signed]
 have e3:(X.add (.rem q (.lit 4294967296)) (.lit 4294967296)).den ρ=(q.den ρ).tmod 4294967296+4294967296:=by simp only [X.den]
 have e4:(X.rem q (.lit 4294967296)).den ρ=(q.den ρ).tmod 4294967296:=by simp only [X.den]
 rw [e1,e2,e3,e4]
 generalize q.den ρ=n
 have e5:0≤n→n.tmod 4294967296=n % 4294967296:=fun h=>Int.tmod_eq_emod_of_nonneg h
 have e6:n<0→n.tmod 4294967296=-((-n) % 4294967296):=fun h=>by
  have h1:=Int.neg_tmod (-n) 4294967296
  have h2:(-n).tmod 4294967296=(-n) % 4294967296:=Int.tmod_eq_emod_of_nonneg (by omega)
  rw [Int.neg_neg,h2] at h1
  exact h1
 rcases Int.lt_or_le n 0 with hn | hn
 ·rw [e6 hn]
  by_cases h:-(-n % 4294967296)<0
  ·rw [if_pos (decide_eq_true h)];omega
  ·rw [if_neg (by simpa using h)];omega
 ·rw [e5 hn,if_neg (by rw [decide_eq_true_eq];omega)]
theorem KR{c a b:X}{q:X} (hc:c=.lt (.rem q (.lit 4294967296)) (.lit 0)):(FA c a b q).den ρ=if c.tt ρ then a.den ρ else b.den ρ:=by
 unfold FA
 split
 ·split
  ·rename_i y v w h1 h2
   split
   ·split
    ·rename_i z u h3 h4 h5
     obtain rfl:=bz h1
     obtain rfl:=bz h2
     obtain rfl:=bz h3
     obtain rfl:=X.beq_eq h4
     obtain rfl:=X.beq_eq h5
     subst hc
     exact Pp ρ _
    ·exact eA ρ c _ _
   ·exact eA ρ c _ _
  ·exact eA ρ c _ _
 ·exact eA ρ c a b
theorem R1{i:Nat}{vb:Bool}{x y c:B}(h:adj i vb x y=some c):c.den ρ=if ρ.b i==vb then x.den ρ else y.den ρ:=by
 have one:∀ (w:Bool) (b:B),ρ.b i=w→(gN (2 ^ i) (oJ i w) b).den ρ=b.den ρ:=fun w b hw=>zV (fun j hj=>by
  rw [Nat.testBit_two_pow] at hj
  have hj:=of_decide_eq_true hj
  subst hj
  rw [nd,hw]
  simp) b
 unfold adj at h
 split at h
 ·rename_i he
  obtain rfl:=Option.some.inj h
  rw [B.beq_eq he]
  split<;>rfl
 ·have hx:=one vb x
  have hy:=one (!vb) y
  generalize gN (2 ^ i) (oJ i vb) x=x1 at *
  generalize gN (2 ^ i) (oJ i !vb) y=y1 at *
  dsimp only at h
  split at h
  ·rename_i he
   obtain rfl:=Option.some.inj h
   have:=B.beq_eq he
   subst this
   cases hb:ρ.b i<;>cases vb<;>simp_all
  ·split at h
   ·obtain rfl:=Option.some.inj h
    cases hb:ρ.b i<;>cases vb<;>simp_all [B.den]
   ·obtain rfl:=Option.some.inj h
    cases hb:ρ.b i<;>cases vb<;>simp_all [B.den]
   ·cases h
theorem GK(c a b:X)(m v:Nat)(hc:c=.cube m v):(EB c a b m v).den ρ=if c.tt ρ then a.den ρ else b.den ρ:=by
 unfold EB
 split
 ·rename_i hm
  have hm:=Nat.eq_of_beq_eq_true hm
  refine fB (ρ:=ρ) (Pr:=fun x:X=>x.den ρ=if c.tt ρ then a.den ρ else b.den ρ) (eA ρ c a b) fun l t n u ha hb=>?_
  split
  ·rename_i r s hz
   rw [gO,ha,hb]
   have hbit:=lu (ρ:=ρ) (g:=fun x y=>if ρ.b m.log2==Nat.testBit v m.log2 then x else y) (fun _ _ _ h=>R1 ρ h) hz
   have ht:c.tt ρ=(ρ.b m.log2==Nat.testBit v m.log2):=by
    subst hc
    simp only [X.tt,X.den,dJ]
    rw [Bool.eq_iff_iff,bh,beq_iff_eq]
    constructor
    ·intro h
     exact h m.log2 (by rw [hm,Nat.log2_two_pow];simp)
    ·intro h j hj
     rw [hm,Nat.testBit_two_pow] at hj
     have hj:=of_decide_eq_true hj
     rw [←hj]
     exact h
   rw [ht]
   split
   ·rename_i he
    exact TG fun i=>by rw [hbit i];simp only [he,if_true]
   ·rename_i he
    exact TG fun i=>by rw [hbit i];simp only [he,Bool.false_eq_true,if_false]
  ·exact sE ρ c a b
 ·exact eA ρ c a b
theorem TK(c a b:X):(acU c a b).den ρ=if c.tt ρ then a.den ρ else b.den ρ:=by
 unfold acU
 split
 ·exact GK ρ _ a b _ _ rfl
 ·split
  ·rename_i h1 h2
   obtain rfl:=bz h1
   obtain rfl:=bz h2
   exact KR ρ rfl
  ·exact eA ρ _ _ _
 ·exact I7 ρ rfl
 ·exact eA ρ _ _ _
theorem gE(c a b:X):(mkIte c a b).den ρ=if c.tt ρ then a.den ρ else b.den ρ:=by
 unfold mkIte
 split
 ·rename_i n
  simp only [X.tt,X.den,bL]
  by_cases h:n=0<;>simp [h]
 ·split
  ·rename_i h
   rw [X.beq_eq h];simp
  ·exact TK ρ _ _ _
theorem qs(c a b:X):(zy c a b).bx ρ=if c.tt ρ then a.bx ρ else b.bx ρ:=by
 unfold zy X.tt
 split
 ·rename_i n
  simp only [X.den,bL]
  by_cases h:n=0<;>simp [h]
 ·split
  ·rename_i h
   rw [X.beq_eq h];simp
  ·by_cases h:c.den ρ=0<;>simp [X.bx,h]
theorem zh(c a b:X):(mkIte c a b).tt ρ=if c.tt ρ then a.tt ρ else b.tt ρ:=by
 unfold X.tt
 rw [gE]
 unfold X.tt
 split<;>rfl
theorem Kt(a b:X):(mkAnd a b).tt ρ=(a.tt ρ&&b.tt ρ):=by
 unfold mkAnd
 rw [zh]
 cases a.tt ρ<;>simp [X.tt,X.den]
theorem zX(a b:X):(mkIff a b).tt ρ=(a.tt ρ==b.tt ρ):=by
 unfold mkIff
 split
 ·rename_i m n
  simp only [X.tt,X.den,bL,bne]
  cases (m==0)<;>cases (n==0)<;>rfl
 ·rename_i _ m _
  have h:(X.lit m).tt ρ=!aQ m 0:=by simp [X.tt,X.den,bL,bne]
  rw [h]
  split
  ·rename_i hm;rw [nG,hm];cases b.tt ρ<;>rfl
  ·rename_i hm;rw [show aQ m 0=false by simpa using hm];cases b.tt ρ<;>rfl
 ·rename_i m _
  have h:(X.lit m).tt ρ=!aQ m 0:=by simp [X.tt,X.den,bL,bne]
  rw [h]
  split
  ·rename_i hm;rw [nG,hm];cases a.tt ρ<;>rfl
  ·rename_i hm;rw [show aQ m 0=false by simpa using hm];cases a.tt ρ<;>rfl
 ·split
  ·rename_i he
   rw [X.beq_eq he]
   simp [X.tt,X.den]
  ·rw [X.tt]
   simp only [X.den,DG,dJ]
   cases a.tt ρ<;>cases b.tt ρ<;>rfl
theorem ofNat_inj:∀ (l m:List Nat),l.map UInt8.ofNat=m.map UInt8.ofNat↔l.map (· % 256)=m.map (· % 256)
 | [],[]=>by simp
 | [],_::_=>by simp
 | _::_,[]=>by simp
 | a::l,b::m=>by
  simp only [List.map_cons,List.cons.injEq,ofNat_inj l m]
  constructor
  ·rintro ⟨h1,h2⟩
   refine⟨?_,h2⟩
   have:=congrArg UInt8.toNat h1
   simpa [UInt8.toNat_ofNat'] using this
  ·rintro ⟨h1,h2⟩
   refine⟨?_,h2⟩
   apply UInt8.toNat.inj
   simpa [UInt8.toNat_ofNat'] using h1
theorem xU(l m:List Nat):eZ l m=decide (l=m):=by
 by_cases h:l=m
 ·subst h
  simp only [decide_true]
  induction l with
  | nil=>rfl
  | cons a l ih=>simp [eZ,ih]
 ·simp only [h,decide_false]
  cases hb:eZ l m
  ·rfl
  ·exact absurd (oC hb) h
theorem Q3(l:List UInt8):Au l≠[]:=by
 unfold Au
 split<;>simp
theorem M8(l:List UInt8):(Au l).length≤1000:=by
 unfold Au
 split
 ·simp
 ·rename_i c m h
  have:(l.take 1000).length≤1000:=by simp;omega
  rw [h] at this
  exact this
theorem P7(ρ:Env)(f:Nat)(n:Int):xd ρ f n≠[]:=by
 cases f with
 | zero=>simp [xd]
 | succ f=>exact Q3 _
theorem Lx(ρ:Env)(f:Nat)(n:Int):(xd ρ f n).length≤1000:=by
 cases f with
 | zero=>simp [xd]
 | succ f=>exact M8 _
theorem NR:∀ {x:X},JY x=true→x.bx ρ≠[]:=by
 intro x
 induction x with
 | slit l=>
  intro h
  cases l with
  | nil=>simp [JY] at h
  | cons c l=>simp [X.bx]
 | sfn f a _=>intro _;simp only [X.bx];exact P7 _ _ _
 | scat a b ia ib=>
  intro h
  unfold JY at h
  split at h
  ·rename_i ha
   simp [X.bx,ia ha]
  ·simp [X.bx,ib h]
 | _=>intro h;simp [JY] at h
theorem vY{x:X}(h:isNone x=true):x.bx ρ=[]:=by
 unfold isNone at h
 split at h
 ·split at h
  ·rfl
  ·cases h
 ·cases h
theorem xQ(a b:X):(F1 a b).den ρ=bc (a.bx ρ==b.bx ρ):=by
 unfold F1
 split
 ·rename_i he
  rw [X.beq_eq he]
  simp [X.den,bc]
 ·split
  ·rename_i h1 h2
   have e1:=vY ρ h1
   have e2:=NR ρ h2
   have:(a.bx ρ==b.bx ρ)=false:=by rw [e1];exact beq_eq_false_iff_ne.2 fun e=>e2 e.symm
   rw [this];rfl
  ·split
   ·rename_i h1 h2
    have e1:=vY ρ h2
    have e2:=NR ρ h1
    have:(a.bx ρ==b.bx ρ)=false:=by rw [e1];exact beq_eq_false_iff_ne.2 e2
    rw [this];rfl
   ·simp only [X.den]
theorem p9(a b:X):(mkSeq a b).tt ρ=(a.bx ρ==b.bx ρ):=by
 unfold mkSeq X.tt
 split
 ·rename_i l m
  simp only [X.den,dJ,X.bx,xU]
  rw [Bool.eq_iff_iff]
  simp [←ofNat_inj]
 ·rw [xQ,dJ]
theorem FE(l:List Nat)(b:X):(Gm l b).bx ρ=l.map UInt8.ofNat++b.bx ρ:=by
 unfold Gm
 split
 ·simp
 ·split<;>simp [X.bx]
theorem jF(a b:X):(sZ a b).bx ρ=a.bx ρ++b.bx ρ:=by
 unfold sZ
 split
 ·rename_i h
  rw [vY ρ h];simp
 ·simp [X.bx]
theorem sN(a b:X):(lV a b).bx ρ=a.bx ρ++b.bx ρ:=by
 induction a generalizing b with
 | slit l=>unfold lV;rw [FE];simp [X.bx]
 | scat a c ia ic=>unfold lV;rw [ia,ic];simp [X.bx]
 | lit n=>unfold lV;exact jF ρ _ _
 | svar i=>unfold lV;exact jF ρ _ _
 | sfn f a _=>unfold lV;exact jF ρ _ _
 | ite c x y _ _ _=>unfold lV;exact jF ρ _ _
 | btext t x y _ _=>unfold lV;exact jF ρ _ _
 | _=>unfold lV;simp [X.bx]
theorem YD:∀ {x:X} {n:Nat},QR x=some n→(x.bx ρ).length≤n:=by
 intro x
 induction x with
 | slit l=>
  intro n h
  obtain rfl:=Option.some.inj (show some l.length=some n from h)
  simp [X.bx]
 | sfn f a _=>
  intro n h
  obtain rfl:=Option.some.inj (show some 1000=some n from h)
  simp only [X.bx]
  exact Lx _ _ _
 | scat a b ia ib=>
  intro n h
  unfold QR at h
  split at h
  ·rename_i m k hm hk
   obtain rfl:=Option.some.inj h
   have h1:=ia hm
   have h2:=ib hk
   simp only [X.bx,List.length_append]
   omega
  ·cases h
 | _=>intro n h;simp [QR] at h
theorem wM(a:X):(zT a).den ρ=((a.bx ρ).length:Int):=by
 unfold zT;split<;>simp [X.den,X.bx]
theorem Dm{a:X} (h:(Gd a).tt ρ=true):((a.bx ρ).length:Int)≤1000000000:=by
 have old:(mkLe (zT a) yD).tt ρ=true→((a.bx ρ).length:Int)≤1000000000:=fun h=>by
  rw [dv] at h
  have:=of_decide_eq_true h
  simpa [wM,yD,X.den] using this
 unfold Gd at h
 split at h
 ·rename_i n hn
  split at h
  ·rename_i hb
   have h1:=YD ρ hn
   have h2:=Nat.le_of_ble_eq_true hb
   omega
  ·exact old h
 ·exact old h
end
def au(ρ:Env)(pc:PC):Prop:=∀ f∈pc,f.1.tt ρ=f.2
theorem qB{ρ:Env}{x:X}:∀ {pc:PC} {b:Bool},au ρ pc→sQ x pc=some b→x.tt ρ=b
 | [],_,_,h=>by simp [sQ] at h
 | (y,c)::pc,b,hp,h=>by
  unfold sQ at h
  split at h
  ·rename_i he
   simp only [Option.some.injEq] at h
   rw [←X.beq_eq he,←h]
   exact hp (y,c) (by simp)
  ·exact qB (fun f hf=>hp f (by simp [hf])) h
theorem cD{ρ:Env}(a b:X):(X.eq a b).tt ρ=(a.den ρ==b.den ρ):=by simp only [X.tt,X.den,dJ]
theorem m4{ρ:Env}(a b:X):(X.lt a b).tt ρ=decide (a.den ρ<b.den ρ):=by simp only [X.tt,X.den,dJ]
theorem qk{ρ:Env}(a b:X):(X.le a b).tt ρ=decide (a.den ρ≤b.den ρ):=by simp only [X.tt,X.den,dJ]
theorem pF{a b:Int} (h:decide (a<b)=true):a<b:=of_decide_eq_true h
theorem pb{a b:Int} (h:decide (a≤b)=true):a≤b:=of_decide_eq_true h
theorem gh{a b:Int} (h:decide (a<b)=false):b≤a:=Int.not_lt.1 (of_decide_eq_false h)
theorem gJ{a b:Int} (h:decide (a≤b)=false):b<a:=Int.not_le.1 (of_decide_eq_false h)
theorem O7{ρ:Env}{a:X}:∀ {pc:PC} {n:Int},au ρ pc→I5 a pc=some n→n≤a.den ρ
 | [],_,_,h=>by simp [I5] at h
 | (x,b)::pc,n,hp,h=>by
  have hx:=hp (x,b) (by simp)
  have ih:∀ m,I5 a pc=some m→m≤a.den ρ:=fun m hm=>O7 (fun f hf=>hp f (by simp [hf])) hm
  have hw:∀ k:Int,k≤a.den ρ→(match I5 a pc with | none=>some k | some m=>some (if decide (m<k) then k else m))=some n→n≤a.den ρ:=by
   intro k hk h
   cases hr:I5 a pc with
   | none=>rw [hr] at h;simp at h;omega
   | some m=>
    rw [hr] at h
    have:=ih m hr
    simp at h
    split at h<;>omega
  simp only at hx
  unfold I5 at h
  simp only at h
  split at h
  ·split at h
   ·rename_i he;rw [cD,X.beq_eq he] at hx;exact hw _ (by simp [X.den] at hx;omega) h
   ·exact ih n h
  ·split at h
   ·rename_i he;rw [m4,X.beq_eq he] at hx;simp only [X.den] at hx;exact hw _ (by first | (have:=pF hx;omega) | (have:=gh hx;omega)) h
   ·exact ih n h
  ·split at h
   ·rename_i he;rw [qk,X.beq_eq he] at hx;simp only [X.den] at hx;exact hw _ (by first | (have:=pb hx;omega) | (have:=gJ hx;omega)) h
   ·exact ih n h
  ·split at h
   ·rename_i he;rw [m4,X.beq_eq he] at hx;simp only [X.den] at hx;exact hw _ (by first | (have:=pF hx;omega) | (have:=gh hx;omega)) h
   ·exact ih n h
  ·split at h
   ·rename_i he;rw [qk,X.beq_eq he] at hx;simp only [X.den] at hx;exact hw _ (by first | (have:=pb hx;omega) | (have:=gJ hx;omega)) h
   ·exact ih n h
  ·exact ih n h
theorem Ol{ρ:Env}{a:X}:∀ {pc:PC} {n:Int},au ρ pc→IZ a pc=some n→a.den ρ≤n
 | [],_,_,h=>by simp [IZ] at h
 | (x,b)::pc,n,hp,h=>by
  have hx:=hp (x,b) (by simp)
  have ih:∀ m,IZ a pc=some m→a.den ρ≤m:=fun m hm=>Ol (fun f hf=>hp f (by simp [hf])) hm
  have hw:∀ k:Int,a.den ρ≤k→(match IZ a pc with | none=>some k | some m=>some (if decide (k<m) then k else m))=some n→a.den ρ≤n:=by
   intro k hk h
   cases hr:IZ a pc with
   | none=>rw [hr] at h;simp at h;omega
   | some m=>
    rw [hr] at h
    have:=ih m hr
    simp at h
    split at h<;>omega
  simp only at hx
  unfold IZ at h
  simp only at h
  split at h
  ·split at h
   ·rename_i he;rw [cD,X.beq_eq he] at hx;exact hw _ (by simp [X.den] at hx;omega) h
   ·exact ih n h
  ·split at h
   ·rename_i he;rw [m4,X.beq_eq he] at hx;simp only [X.den] at hx;exact hw _ (by first | (have:=pF hx;omega) | (have:=gh hx;omega)) h
   ·exact ih n h
  ·split at h
   ·rename_i he;rw [qk,X.beq_eq he] at hx;simp only [X.den] at hx;exact hw _ (by first | (have:=pb hx;omega) | (have:=gJ hx;omega)) h
   ·exact ih n h
  ·split at h
   ·rename_i he;rw [m4,X.beq_eq he] at hx;simp only [X.den] at hx;exact hw _ (by first | (have:=pF hx;omega) | (have:=gh hx;omega)) h
   ·exact ih n h
  ·split at h
   ·rename_i he;rw [qk,X.beq_eq he] at hx;simp only [X.den] at hx;exact hw _ (by first | (have:=pb hx;omega) | (have:=gJ hx;omega)) h
   ·exact ih n h
  ·exact ih n h
theorem DU{ρ:Env}{a:X}{pc:PC}(hp:au ρ pc):∀ (f:Nat) (n:Int),n≤a.den ρ→FT a pc f n≤a.den ρ
 | 0,n,h=>h
 | f+1,n,h=>by
  simp only [FT]
  split
  ·rename_i hf
   have:=qB hp hf
   rw [cD] at this
   simp [X.den] at this
   exact DU hp f (n+1) (by omega)
  ·exact h
theorem x9{ρ:Env}{a:X}{pc:PC}(hp:au ρ pc):∀ (f:Nat) (n:Int),a.den ρ≤n→a.den ρ≤uz a pc f n
 | 0,n,h=>h
 | f+1,n,h=>by
  simp only [uz]
  split
  ·rename_i hf
   have:=qB hp hf
   rw [cD] at this
   simp [X.den] at this
   exact x9 hp f (n-1) (by omega)
  ·exact h
theorem TI{ρ:Env}{a:X}{pc:PC}{n:Int}(hp:au ρ pc)(h:loB a pc=some n):n≤a.den ρ:=by
 unfold loB at h
 split at h
 ·rename_i m hm
  simp only [Option.some.injEq] at h
  rw [←h]
  exact DU hp _ _ (O7 hp hm)
 ·simp at h
theorem XW{ρ:Env}{a:X}{pc:PC}{n:Int}(hp:au ρ pc)(h:hiB a pc=some n):a.den ρ≤n:=by
 unfold hiB at h
 split at h
 ·rename_i m hm
  simp only [Option.some.injEq] at h
  rw [←h]
  exact x9 hp _ _ (Ol hp hm)
 ·simp at h
theorem py{ρ:Env}{a:X}{pc:PC}{n:Int}(hp:au ρ pc) (h:mi (some n) (loB a pc)=true):n<a.den ρ:=by
 unfold mi at h
 split at h
 ·rename_i m k e1 e2
  simp at h e1
  have:=TI hp e2
  omega
 ·simp at h
theorem qo{ρ:Env}{a:X}{pc:PC}{n:Int}(hp:au ρ pc) (h:mi (hiB a pc) (some n)=true):a.den ρ<n:=by
 unfold mi at h
 split at h
 ·rename_i m k e1 e2
  simp at h e2
  have:=XW hp e1
  omega
 ·simp at h
theorem JA{ρ:Env}{pc:PC}{x:X}{b:Bool}(hp:au ρ pc)(h:By pc x=some b):x.tt ρ=b:=by
 unfold By at h
 split at h
 ·rename_i c hc
  simp only [Option.some.injEq] at h
  rw [←h];exact qB hp hc
 ·split at h
  ·rw [X.tt]
   simp only [X.den,dJ]
   exact Ni hp h
  ·simp only at h
   split at h
   ·rename_i hc
    simp only [Option.some.injEq] at h
    rw [cD,←h]
    rw [Bool.or_eq_true] at hc
    rcases hc with hc | hc
    ·have h1:=py hp hc
     simp [X.den];omega
    ·have h1:=qo hp hc
     simp [X.den];omega
   ·split at h
    ·rename_i l u e1 e2
     split at h
     ·rename_i hb
      simp only [Option.some.injEq] at h
      rw [Bool.and_eq_true] at hb
      have h1:=TI hp e1
      have h2:=XW hp e2
      have h3:=bz hb.1
      have h4:=bz hb.2
      rw [cD,←h]
      simp [X.den];omega
     ·simp at h
    ·simp at h
  ·simp only at h
   split at h
   ·rename_i hc
    have h1:=qo hp hc
    simp only [Option.some.injEq] at h
    rw [m4,←h];simp only [X.den];first | (exact decide_eq_true (by omega)) | (exact decide_eq_false (by omega))
   ·split at h
    ·rename_i hc
     have h1:=py hp hc
     simp only [Option.some.injEq] at h
     rw [m4,←h];simp only [X.den];first | (exact decide_eq_true (by omega)) | (exact decide_eq_false (by omega))
    ·simp at h
  ·simp only at h
   split at h
   ·rename_i hc
    have h1:=qo hp hc
    simp only [Option.some.injEq] at h
    rw [qk,←h];simp only [X.den];first | (exact decide_eq_true (by omega)) | (exact decide_eq_false (by omega))
   ·split at h
    ·rename_i hc
     have h1:=py hp hc
     simp only [Option.some.injEq] at h
     rw [qk,←h];simp only [X.den];first | (exact decide_eq_true (by omega)) | (exact decide_eq_false (by omega))
    ·simp at h
  ·simp only at h
   split at h
   ·rename_i hc
    have h1:=py hp hc
    simp only [Option.some.injEq] at h
    rw [m4,←h];simp only [X.den];first | (exact decide_eq_true (by omega)) | (exact decide_eq_false (by omega))
   ·split at h
    ·rename_i hc
     have h1:=qo hp hc
     simp only [Option.some.injEq] at h
     rw [m4,←h];simp only [X.den];first | (exact decide_eq_true (by omega)) | (exact decide_eq_false (by omega))
    ·simp at h
  ·simp only at h
   split at h
   ·rename_i hc
    have h1:=py hp hc
    simp only [Option.some.injEq] at h
    rw [qk,←h];simp only [X.den];first | (exact decide_eq_true (by omega)) | (exact decide_eq_false (by omega))
   ·split at h
    ·rename_i hc
     have h1:=qo hp hc
     simp only [Option.some.injEq] at h
     rw [qk,←h];simp only [X.den];first | (exact decide_eq_true (by omega)) | (exact decide_eq_false (by omega))
    ·simp at h
  ·simp at h
def fY(ρ:Env):List (X×Int)→Int
 | []=>0
 | (x,c)::l=>c*x.den ρ+fY ρ l
def ij.den(ρ:Env)(g:ij):Int:=fY ρ g.ts+g.k
section
variable {ρ:Env}
theorem Ir(x:X)(c:Int):∀ l:List (X×Int),fY ρ (Zo x c l)=c*x.den ρ+fY ρ l
 | []=>rfl
 | (y,d)::l=>by
  unfold Zo
  split
  ·rename_i h
   obtain rfl:=X.beq_eq h
   split
   ·rename_i hz
    have hz':=bz hz
    have:d*y.den ρ+c*y.den ρ=0:=by rw [←Int.add_mul,hz',Int.zero_mul]
    simp only [fY]
    omega
   ·simp only [fY,Int.add_mul]
    omega
  ·simp only [fY,Ir x c l]
   omega
theorem Ds(m:Int):∀ r l:List (X×Int),fY ρ (DF m r l)=m*fY ρ r+fY ρ l
 | [],l=>by simp [DF,fY]
 | (x,c)::r,l=>by
  simp only [DF,Ds m r,Ir,fY,Int.mul_add,Int.mul_assoc]
  omega
theorem ij.et(m:Int)(a b:ij):(ij.plus m a b).den ρ=m*a.den ρ+b.den ρ:=by
 show fY ρ (DF m a.ts b.ts)+(b.k+m*a.k)=_
 simp only [ij.den,Ds,Int.mul_add]
 omega
theorem ij.CU(n:Int):(ij.mk [] n).den ρ=n:=by simp [ij.den,fY]
theorem oq(x:X):(vn x).den ρ=x.den ρ:=by
 induction x with
 | lit n=>simp [vn,ij.den,fY,X.den]
 | add a b ia ib=>
  simp only [vn,ij.et,ia,ib,X.den]
  omega
 | sub a b ia ib=>
  simp only [vn,ij.et,ia,ib,X.den]
  omega
 | mul a b ia ib=>
  unfold vn
  split
  ·split
   ·rename_i h
    have h':=bz h
    subst h'
    simp [ij.den,fY,X.den]
   ·simp only [ij.et,ij.CU,ia,X.den,Int.add_zero]
    exact Int.mul_comm _ _
  ·split
   ·split
    ·rename_i h
     have h':=bz h
     subst h'
     simp [ij.den,fY,X.den]
    ·simp only [ij.et,ij.CU,ib,X.den,Int.add_zero]
   ·simp [ij.den,fY]
 | _=>simp [vn,ij.den,fY]
theorem TY{x:X}{b:Bool}(h:x.tt ρ=b):∀ f∈N1 x b,0≤f.den ρ:=by
 intro f hf
 unfold N1 at hf
 split at hf
 ·rw [m4] at h
  have:=pF h
  obtain rfl:=List.mem_singleton.1 hf
  simp only [ij.et,oq,ij.CU]
  omega
 ·rw [m4] at h
  have:=gh h
  obtain rfl:=List.mem_singleton.1 hf
  simp only [ij.et,oq]
  omega
 ·rw [qk] at h
  have:=pb h
  obtain rfl:=List.mem_singleton.1 hf
  simp only [ij.et,oq]
  omega
 ·rw [qk] at h
  have:=gJ h
  obtain rfl:=List.mem_singleton.1 hf
  simp only [ij.et,oq,ij.CU]
  omega
 ·rw [cD] at h
  have:=of_decide_eq_true h
  simp only [List.mem_cons,List.not_mem_nil,or_false] at hf
  rcases hf with rfl | rfl<;>simp only [ij.et,oq]<;>omega
 ·simp at hf
theorem Yt{x:X}{c:Int}{f:ij}(h:adn x c=some f):0≤f.den ρ:=by
 unfold adn at h
 split at h
 ·cases h
 ·rename_i r hr
  obtain⟨h1,h2⟩:=jM (ρ:=ρ) hr
  split at h<;>(obtain rfl:=Option.some.inj h;simp only [ij.den,fY];omega)
theorem O4(a:Int):0≤J0 a∧(a≠0→0<J0 a):=by
 unfold J0
 split
 ·rename_i h
  have:=of_decide_eq_true h
  exact⟨this,fun hn=>by omega⟩
 ·rename_i h
  have:=of_decide_eq_false h
  exact⟨by omega,fun hn=>by omega⟩
theorem Le{x:X}{c:Int}{g f g':ij}(h:Pn x c g f=some g')(hf:0≤f.den ρ)(hg:0≤g'.den ρ):0≤g.den ρ:=by
 unfold Pn at h
 dsimp only at h
 split at h
 ·rename_i hd
  have hd':=of_decide_eq_true hd
  obtain rfl:=Option.some.inj h
  rw [ij.et,ij.et,ij.CU] at hg
  have h1:0<J0 (Fq x f.ts):=(O4 _).2 fun e=>by rw [e,Int.zero_mul] at hd';omega
  have h3:0≤J0 c*f.den ρ:=Int.mul_nonneg (O4 c).1 hf
  have h4:0≤J0 (Fq x f.ts)*g.den ρ:=by rw [Int.neg_mul] at hg;omega
  exact Int.not_lt.1 fun hn=>absurd (Int.mul_neg_of_pos_of_neg h1 hn) (Int.not_lt.2 h4)
 ·cases h
theorem yi{rest:ij→Bool}{x:X}{c:Int}{g:ij}(hr:∀ g',rest g'=true→0≤g'.den ρ):∀ {fs:List ij},(∀ f∈fs,0≤f.den ρ)→na rest x c g fs=true→0≤g.den ρ
 | [],_,h=>by
  unfold na at h
  split at h
  ·cases h
  ·rename_i f hf
   split at h
   ·cases h
   ·rename_i g' he
    exact Le he (Yt hf) (hr _ h)
 | f::fs,hfs,h=>by
  unfold na at h
  have ih:=yi (x:=x) (c:=c) (g:=g) hr (fs:=fs) fun f hf=>hfs f (List.mem_cons_of_mem _ hf)
  split at h
  ·exact ih h
  ·rename_i g' he
   split at h
   ·rename_i hg
    exact Le he (hfs f List.mem_cons_self) (hr _ hg)
   ·exact ih h
theorem v9{fs:List ij}(hfs:∀ f∈fs,0≤f.den ρ):∀ {n:Nat} {g:ij},Aq n fs g=true→0≤g.den ρ
 | 0,g,h=>by simp [Aq] at h
 | n+1,g,h=>by
  unfold Aq at h
  split at h
  ·rename_i hg
   have:=of_decide_eq_true h
   simp only [ij.den,hg,fY]
   omega
  ·exact yi (fun g' hg=>v9 hfs hg) hfs h
theorem vB:∀ {pc:PC},au ρ pc→∀ f∈BA pc,0≤f.den ρ
 | [],_,f,hf=>by simp [BA] at hf
 | (x,b)::pc,hp,f,hf=>by
  rcases List.mem_append.1 (show f∈N1 x b++BA pc from hf) with hf | hf
  ·exact TY (hp (x,b) List.mem_cons_self) f hf
  ·exact vB (fun f hf=>hp f (List.mem_cons_of_mem _ hf)) f hf
theorem dS{pc:PC}{a b:X}(hp:au ρ pc)(h:B1 pc a b=true):a.den ρ≤b.den ρ:=by
 have:=v9 (vB hp) h
 simp only [ij.et,oq] at this
 omega
theorem sF{pc:PC}{a b:X}(hp:au ρ pc)(h:ltL pc a b=true):a.den ρ<b.den ρ:=by
 have:=v9 (vB hp) h
 simp only [ij.et,oq,ij.CU] at this
 omega
theorem wg{pc:PC}{x:X}{b:Bool}(hp:au ρ pc)(h:AU pc x=some b):x.tt ρ=b:=by
 unfold AU at h
 split at h
 ·rw [m4]
  split at h
  ·rename_i hl
   obtain rfl:=Option.some.inj h
   exact decide_eq_true (sF hp hl)
  ·split at h
   ·rename_i hl
    obtain rfl:=Option.some.inj h
    exact decide_eq_false (Int.not_lt.2 (dS hp hl))
   ·cases h
 ·rw [qk]
  split at h
  ·rename_i hl
   obtain rfl:=Option.some.inj h
   exact decide_eq_true (dS hp hl)
  ·split at h
   ·rename_i hl
    obtain rfl:=Option.some.inj h
    exact decide_eq_false (Int.not_le.2 (sF hp hl))
   ·cases h
 ·rw [cD]
  split at h
  ·rename_i hl
   obtain rfl:=Option.some.inj h
   have:=sF hp hl
   exact beq_eq_false_iff_ne.2 (by omega)
  ·split at h
   ·rename_i hl
    obtain rfl:=Option.some.inj h
    have:=sF hp hl
    exact beq_eq_false_iff_ne.2 (by omega)
   ·split at h
    ·rename_i h1
     split at h
     ·rename_i h2
      obtain rfl:=Option.some.inj h
      have:=dS hp h1
      have:=dS hp h2
      exact beq_iff_eq.2 (by omega)
     ·cases h
    ·cases h
 ·cases h
end
theorem dV{ρ:Env}{pc:PC}{x:X}{b:Bool}(hp:au ρ pc)(h:eT pc x=some b):x.tt ρ=b:=by
 unfold eT at h
 split at h
 ·rename_i h0
  rw [←Option.some.inj h]
  exact JA hp h0
 ·split at h
  ·exact wg hp h
  ·cases h
theorem bB{α β:Type}{ρ:Env}{r:R α}{k:α→R β}{b:β} (h:(r.bind k).ai ρ=some b):∃ a,r.ai ρ=some a∧(k a).ai ρ=some b:=by
 induction r with
 | ok a=>exact⟨a,rfl,h⟩
 | br c t f it jf=>
  simp only [R.bind,R.ai] at h ⊢
  split at h
  ·rename_i hc;simp only [hc,if_true];exact it h
  ·rename_i hc;simp only [hc,if_false,Bool.false_eq_true];exact jf h
 | stuck s=>simp [R.bind,R.ai] at h
structure cC (ρ:Env) (st st':St):Prop where
 h:st'.h=st.h
 n:st'.n=st.n
 pc:au ρ st'.pc
theorem cC.refl{ρ:Env}{st:St}(h:au ρ st.pc):cC ρ st st:=⟨rfl,rfl,h⟩
theorem cC.trans{ρ:Env}{a b c:St}(h:cC ρ a b)(h':cC ρ b c):cC ρ a c:=⟨h'.h.trans h.h,h'.n.trans h.n,h'.pc⟩
theorem Mz{α:Type}{ρ:Env}{st:St}{x:X}{k:St→Bool→R α}{a:α}(hp:au ρ st.pc)
  (h:(match eT st.pc x with
   | some b=>k st b
   | none=>R.br x (k {st with pc:=(x,true)::st.pc} true) (k {st with pc:=(x,false)::st.pc} false)).ai ρ=some a):
  ∃ st',cC ρ st st'∧(k st' (x.tt ρ)).ai ρ=some a:=by
 cases hd:eT st.pc x with
 | some b=>
  rw [hd] at h
  exact⟨st,.refl hp,by rw [dV hp hd];exact h⟩
 | none=>
  rw [hd] at h
  simp only [R.ai] at h
  cases hx:x.tt ρ with
  | true=>
   rw [hx,if_pos rfl] at h
   exact⟨{st with pc:=(x,true)::st.pc},⟨rfl,rfl,fun f hf=>(List.mem_cons.1 hf).elim (fun e=>by rw [e];exact hx) (hp f)⟩,h⟩
  | false=>
   rw [hx,if_neg (by simp)] at h
   exact⟨{st with pc:=(x,false)::st.pc},⟨rfl,rfl,fun f hf=>(List.mem_cons.1 hf).elim (fun e=>by rw [e];exact hx) (hp f)⟩,h⟩
theorem M0{α:Type}{ρ:Env}{x:X}:∀ {st:St} {k:St→Bool→R α} {a:α},au ρ st.pc→(cZ st x k).ai ρ=some a→
  ∃ st',cC ρ st st'∧(k st' (x.tt ρ)).ai ρ=some a:=by
 induction x with
 | lit n=>
  intro st k a hp h
  refine⟨st,.refl hp,?_⟩
  simp only [cZ] at h
  rw [show (X.lit n).tt ρ=!aQ n 0 from by simp [X.tt,X.den,bL,bne]]
  exact h
 | not y ih=>
  intro st k a hp h
  simp only [cZ] at h
  obtain⟨st',hl,h'⟩:=ih (k:=fun st b=>k st !b) hp h
  exact⟨st',hl,by rw [show (X.not y).tt ρ=!y.tt ρ from by simp only [X.tt,X.den,bne,pe,Bool.not_not]];exact h'⟩
 | ite c a b ic ia ib=>
  intro st k r hp h
  simp only [cZ] at h
  obtain⟨st',hl,h'⟩:=ic (k:=fun st t=>match t with
   | true=>cZ st a k
   | false=>cZ st b k) hp h
  have e:(X.ite c a b).tt ρ=if c.tt ρ then a.tt ρ else b.tt ρ:=by
   simp only [X.tt,X.den]
   by_cases hc:c.den ρ=0<;>simp [hc]
  cases hc:c.tt ρ with
  | true=>
   rw [hc] at h'
   obtain⟨st2,hl2,h2⟩:=ia hl.pc h'
   exact⟨st2,hl.trans hl2,by rw [e,hc];exact h2⟩
  | false=>
   rw [hc] at h'
   obtain⟨st2,hl2,h2⟩:=ib hl.pc h'
   exact⟨st2,hl.trans hl2,by rw [e,hc];exact h2⟩
 | _=>
  intro st k a hp h
  simp only [cZ] at h
  exact Mz hp h
theorem aV{α:Type}{ρ:Env}{x:X}{st:St}{k:St→Bool→R α}{a:α}(hp:au ρ st.pc) (h:(split st x k).ai ρ=some a):
  ∃ st',cC ρ st st'∧(k st' (x.tt ρ)).ai ρ=some a:=by
 rw [nw] at h
 exact M0 hp h
end Go.Proofs.YtmickljjofbmiaaGreatDoor
namespace Go.Proofs.YtmickljjofbmiaaGreatDoor
open Go
theorem cW{a b:Bool}(h:jy a b=true):a=b:=by cases a<;>cases b<;>first | rfl | cases h
theorem XC.beq_eq{a b:XC}(h:a.beq b=true):a=b:=by
 cases a<;>cases b<;>simp only [XC.beq,Bool.false_eq_true] at h<;>rw [X.beq_eq h]
mutual
theorem V.beq_eq:∀ (u v:V),u.beq v=true→u=v
 | .int k x,v,h=>by
  cases v<;>simp only [V.beq,Bool.false_eq_true] at h
  simp only [Bool.and_eq_true] at h
  rw [aY h.1,X.beq_eq h.2]
 | .bool x,v,h=>by
  cases v<;>simp only [V.beq,Bool.false_eq_true] at h
  rw [X.beq_eq h]
 | .str x,v,h=>by
  cases v<;>simp only [V.beq,Bool.false_eq_true] at h
  rw [X.beq_eq h]
 | .ptr b o,v,h=>by
  cases v<;>simp only [V.beq,Bool.false_eq_true] at h
  simp only [Bool.and_eq_true] at h
  rw [Nat.eq_of_beq_eq_true h.1,Nat.eq_of_beq_eq_true h.2]
 | .nilptr,v,h=>by cases v<;>simp only [V.beq,Bool.false_eq_true] at h;rfl
 | .slice b o n c,v,h=>by
  cases v<;>simp only [V.beq,Bool.false_eq_true] at h
  rename_i b' o' n' c'
  simp only [Bool.and_eq_true] at h
  obtain⟨⟨⟨h1,h2⟩,h3⟩,h4⟩:=h
  rw [Nat.eq_of_beq_eq_true h1,Nat.eq_of_beq_eq_true h2,Nat.eq_of_beq_eq_true h3]
  cases c<;>cases c'<;>simp only [Bool.and_eq_true,Bool.false_eq_true] at h4
  ·rw [Nat.eq_of_beq_eq_true h4]
  ·rw [Nat.eq_of_beq_eq_true h4.1.1,Nat.eq_of_beq_eq_true h4.1.2,Nat.eq_of_beq_eq_true h4.2]
 | .nilslice,v,h=>by cases v<;>simp only [V.beq,Bool.false_eq_true] at h;rfl
 | .map b,v,h=>by
  cases v<;>simp only [V.beq,Bool.false_eq_true] at h
  rw [Nat.eq_of_beq_eq_true h]
 | .nilmap,v,h=>by cases v<;>simp only [V.beq,Bool.false_eq_true] at h;rfl
 | .func f a b,v,h=>by
  cases f<;>cases v<;>try (simp only [V.beq,Bool.false_eq_true] at h)
  rename_i f g c d
  cases g<;>simp only [V.beq,Bool.false_eq_true] at h
  simp only [Bool.and_eq_true] at h
  rw [Nat.eq_of_beq_eq_true h.1.1,V.bJ _ _ h.1.2,V.bJ _ _ h.2]
 | .yield b,v,h=>by
  cases v<;>simp only [V.beq,Bool.false_eq_true] at h
  rw [Nat.eq_of_beq_eq_true h]
 | .nilfunc,v,h=>by cases v<;>simp only [V.beq,Bool.false_eq_true] at h;rfl
 | .iface t x,v,h=>by
  cases v<;>simp only [V.beq,Bool.false_eq_true] at h
  simp only [Bool.and_eq_true] at h
  rw [Nat.eq_of_beq_eq_true h.1,V.beq_eq _ _ h.2]
 | .niliface,v,h=>by cases v<;>simp only [V.beq,Bool.false_eq_true] at h;rfl
 | .agg l,v,h=>by
  cases v<;>simp only [V.beq,Bool.false_eq_true] at h
  rw [V.bJ _ _ h]
 | .tuple l,v,h=>by
  cases v<;>simp only [V.beq,Bool.false_eq_true] at h
  rw [V.bJ _ _ h]
 | .wptr b o,v,h=>by
  cases v<;>simp only [V.beq,Bool.false_eq_true] at h
  simp only [Bool.and_eq_true] at h
  rw [Nat.eq_of_beq_eq_true h.1,Nat.eq_of_beq_eq_true h.2]
 | .wslice b o n c,v,h=>by
  cases v<;>simp only [V.beq,Bool.false_eq_true] at h
  simp only [Bool.and_eq_true] at h
  obtain⟨⟨⟨h1,h2⟩,h3⟩,h4⟩:=h
  rw [Nat.eq_of_beq_eq_true h1,Nat.eq_of_beq_eq_true h2,X.beq_eq h3,X.beq_eq h4]
 | .ite c a b,v,h=>by
  cases v<;>simp only [V.beq,Bool.false_eq_true] at h
  simp only [Bool.and_eq_true] at h
  rw [X.beq_eq h.1.1,V.beq_eq _ _ h.1.2,V.beq_eq _ _ h.2]
 | .sptr b o n i,v,h=>by
  cases v<;>simp only [V.beq,Bool.false_eq_true] at h
  simp only [Bool.and_eq_true] at h
  obtain⟨⟨⟨h1,h2⟩,h3⟩,h4⟩:=h
  rw [Nat.eq_of_beq_eq_true h1,Nat.eq_of_beq_eq_true h2,Nat.eq_of_beq_eq_true h3,X.beq_eq h4]
 | .rest _ _ _ _,v,h=>by simp [V.beq] at h
 | .xslice w b off es n c,v,h=>by
  cases v<;>simp only [V.beq,Bool.false_eq_true] at h
  simp only [Bool.and_eq_true] at h
  obtain⟨⟨⟨⟨⟨h1,h2⟩,h3⟩,h4⟩,h5⟩,h6⟩:=h
  rw [cW h1,Nat.eq_of_beq_eq_true h2,X.beq_eq h3,Nat.eq_of_beq_eq_true h4,X.beq_eq h5,XC.beq_eq h6]
 | .xptr w b i es c,v,h=>by
  cases v<;>simp only [V.beq,Bool.false_eq_true] at h
  simp only [Bool.and_eq_true] at h
  obtain⟨⟨⟨⟨h1,h2⟩,h3⟩,h4⟩,h5⟩:=h
  rw [cW h1,Nat.eq_of_beq_eq_true h2,X.beq_eq h3,Nat.eq_of_beq_eq_true h4,Nat.eq_of_beq_eq_true h5]
 | .any i,v,h=>by
  cases v<;>simp only [V.beq,Bool.false_eq_true] at h
  rw [Nat.eq_of_beq_eq_true h]
theorem V.bJ:∀ (u v:List V),V.fG u v=true→u=v
 | [],[],_=>rfl
 | [],_::_,h=>by simp [V.fG] at h
 | _::_,[],h=>by simp [V.fG] at h
 | a::l,b::m,h=>by
  simp only [V.fG,Bool.and_eq_true] at h
  rw [V.beq_eq _ _ h.1,V.bJ _ _ h.2]
end
section
variable {ρ:Env} {π:Pl}
theorem BD(c:X)(a b:V):(V.ite c a b).ae ρ π=if c.tt ρ then a.ae ρ π else b.ae ρ π:=rfl
theorem bu(c:X)(a b:V):(C6 c a b).ae ρ π=if c.tt ρ then a.ae ρ π else b.ae ρ π:=by
 unfold C6
 split
 ·rename_i h
  rw [V.beq_eq _ _ h]
  split<;>rfl
 ·rfl
mutual
theorem iM(c:X):∀ a b:V,(bY c a b).ae ρ π=if c.tt ρ then a.ae ρ π else b.ae ρ π
 | .int k x,b=>by
  unfold bY
  cases b with
  | int j y=>
   dsimp only
   split
   ·rename_i h
    obtain rfl:=aY h
    simp only [V.ae,gE]
    split<;>rfl
   ·rfl
  | _=>rfl
 | .bool x,b=>by
  unfold bY
  cases b with
  | bool y=>
   simp only [V.ae,zh]
   split<;>rfl
  | _=>rfl
 | .str x,b=>by
  unfold bY
  cases b with
  | str y=>
   simp only [V.ae,qs]
   split<;>rfl
  | _=>rfl
 | .agg l,b=>by
  unfold bY
  cases b with
  | agg m=>
   dsimp only
   split
   ·rename_i r h
    simp only [V.ae,jk c l m h]
    split<;>rfl
   ·rfl
  | _=>rfl
 | .tuple l,b=>by
  unfold bY
  cases b with
  | tuple m=>
   dsimp only
   split
   ·rename_i r h
    simp only [V.ae,jk c l m h]
    split<;>rfl
   ·rfl
  | _=>rfl
 | .ptr _ _,b=>by unfold bY;exact bu c _ b
 | .nilptr,b=>by unfold bY;exact bu c _ b
 | .slice _ _ _ _,b=>by unfold bY;exact bu c _ b
 | .nilslice,b=>by unfold bY;exact bu c _ b
 | .map _,b=>by unfold bY;exact bu c _ b
 | .nilmap,b=>by unfold bY;exact bu c _ b
 | .func _ _ _,b=>by unfold bY;exact bu c _ b
 | .yield _,b=>by unfold bY;exact bu c _ b
 | .nilfunc,b=>by unfold bY;exact bu c _ b
 | .iface _ _,b=>by unfold bY;exact bu c _ b
 | .niliface,b=>by unfold bY;exact bu c _ b
 | .wptr _ _,b=>by unfold bY;exact bu c _ b
 | .wslice _ _ _ _,b=>by unfold bY;exact bu c _ b
 | .ite _ _ _,b=>by unfold bY;exact bu c _ b
 | .sptr _ _ _ _,b=>by unfold bY;exact bu c _ b
 | .rest _ _ _ _,b=>by unfold bY;exact bu c _ b
 | .xslice _ _ _ _ _ _,b=>by unfold bY;exact bu c _ b
 | .xptr _ _ _ _ _,b=>by unfold bY;exact bu c _ b
 | .any _,b=>by unfold bY;exact bu c _ b
theorem jk(c:X):∀ (l m:List V) {r:List V},dL c l m=some r→V.af ρ π r=if c.tt ρ then V.af ρ π l else V.af ρ π m
 | [],[],r,h=>by
  obtain rfl:=Option.some.inj (show some []=some r from h)
  split<;>rfl
 | a::l,b::m,r,h=>by
  unfold dL at h
  dsimp only at h
  split at h
  ·rename_i q hq
   obtain rfl:=Option.some.inj h
   have:=jk c l m hq
   simp only [V.af,iM c a b,this]
   split<;>rfl
  ·cases h
 | [],b::m,r,h=>by unfold dL at h;exact absurd h (by simp)
 | a::l,[],r,h=>by unfold dL at h;exact absurd h (by simp)
end
theorem Bv(c:X):∀ (l m:List V) {r:List V},dL c l m=some r→r.length=l.length∧r.length=m.length
 | [],[],r,h=>by
  obtain rfl:=Option.some.inj (show some []=some r from h)
  exact⟨rfl,rfl⟩
 | a::l,b::m,r,h=>by
  unfold dL at h
  dsimp only at h
  split at h
  ·rename_i q hq
   obtain rfl:=Option.some.inj h
   have:=Bv c l m hq
   simp only [List.length_cons]
   omega
  ·cases h
 | [],b::m,r,h=>by unfold dL at h;exact absurd h (by simp)
 | a::l,[],r,h=>by unfold dL at h;exact absurd h (by simp)
theorem k8{α:Type}:∀ {n:Nat} {st:St} {v:V} {k:St→V→R α} {a:α},au ρ st.pc→(dR n st v k).ai ρ=some a→
  ∃ st' v',cC ρ st st'∧(∀ π:Pl,v'.ae ρ π=v.ae ρ π)∧(k st' v').ai ρ=some a
 | 0,st,v,k,a,hp,h=>⟨st,v,.refl hp,fun _=>rfl,h⟩
 | n+1,st,v,k,a,hp,h=>by
  unfold dR at h
  split at h
  ·rename_i c x y
   obtain⟨st1,hl,h1⟩:=aV hp h
   split at h1
   ·rename_i hc
    obtain⟨st2,v2,hl2,hv2,h2⟩:=k8 hl.pc h1
    exact⟨st2,v2,hl.trans hl2,fun π=>by rw [hv2 π,BD,if_pos hc],h2⟩
   ·rename_i hc
    obtain⟨st2,v2,hl2,hv2,h2⟩:=k8 hl.pc h1
    exact⟨st2,v2,hl.trans hl2,fun π=>by rw [hv2 π,BD,if_neg (by rw [hc];simp)],h2⟩
  ·exact⟨st,v,.refl hp,fun _=>rfl,h⟩
theorem zF{i:X}:∀ {l:List V} {j:Nat} {r:V},CP i j l=some r→∀ n,i.den ρ=((j+n:Nat):Int)→∀ v,l[n]?=some v→r.ae ρ π=v.ae ρ π
 | [],j,r,h,n,hi,v,hv=>by simp at hv
 | u::l,j,r,h,n,hi,v,hv=>by
  unfold CP at h
  split at h
  ·obtain rfl:=Option.some.inj h
   cases n with
   | zero=>simp at hv;rw [hv]
   | succ n=>simp at hv
  ·split at h
   ·rename_i q hq
    obtain rfl:=Option.some.inj h
    rw [iM,eW]
    simp only [X.den]
    cases n with
    | zero=>
     simp at hv
     have e:(i.den ρ==Int.ofNat j)=true:=by rw [hi];simp
     simp only [e,if_true,hv]
    | succ n=>
     have e:(i.den ρ==Int.ofNat j)=false:=by rw [hi];simp;omega
     simp only [e,Bool.false_eq_true,if_false]
     exact zF hq n (by rw [hi];congr 1;omega) v (by simpa using hv)
   ·cases h
theorem IX{k:IntKind}{f:Nat}:∀ {l:List V} {j:Nat},ZW k f j l=true→∀ (n:Nat) (v:V),l[n]?=some v→v=V.int k (.wrap k (.fn1 f (.lit ((j+n:Nat):Int))))
 | [],j,h,n,v,hv=>by simp at hv
 | u::l,j,h,n,v,hv=>by
  unfold ZW at h
  split at h
  ·split at h
   ·rename_i h1 h2
    split at h
    ·rename_i h3 h4
     cases n with
     | zero=>
      simp at hv
      rw [←hv,aY h1,aY h2,Nat.eq_of_beq_eq_true h3,bz h4]
      rfl
     | succ n=>
      have:=IX h n v (by simpa using hv)
      rw [this,show j+1+n=j+(n+1) by omega]
    ·cases h
   ·cases h
  ·cases h
theorem Dn{i:X}{l:List V}{r:V}(h:Ps i l=some r){n:Nat} (hi:i.den ρ=(n:Int)) {v:V} (hv:l[n]?=some v):r.ae ρ π=v.ae ρ π:=by
 have old:CP i 0 l=some r→r.ae ρ π=v.ae ρ π:=fun h=>zF h n (by rw [hi];simp) v hv
 unfold Ps at h
 split at h
 ·split at h
  ·rename_i hf
   obtain rfl:=Option.some.inj h
   have:=IX hf n v hv
   rw [this]
   simp only [V.ae,X.den,hi,Nat.zero_add]
  ·exact old h
 ·exact old h
theorem zk{i:X}{u:V}:∀ (l:List V) (j:Nat),(jT i u j l).length=l.length
 | [],_=>rfl
 | _::l,j=>by simp [jT,zk l]
theorem xE{i:X}{u:V}:∀ (l:List V) (j n:Nat),i.den ρ=((j+n:Nat):Int)→V.af ρ π (jT i u j l)=(V.af ρ π l).set n (u.ae ρ π)
 | [],j,n,_=>by simp [jT,V.af]
 | v::l,j,n,h=>by
  simp only [jT,V.af,iM,eW,X.den]
  cases n with
  | zero=>
   have e:(i.den ρ==Int.ofNat j)=true:=by rw [h];simp
   simp only [e,if_true,List.set_cons_zero,List.cons.injEq,true_and]
   have key:∀ (l:List V) (j':Nat),i.den ρ<(j':Int)→V.af ρ π (jT i u j' l)=V.af ρ π l:=by
    intro l
    induction l with
    | nil=>intro j' _;rfl
    | cons w l ih=>
     intro j' hj
     simp only [jT,V.af,iM,eW,X.den]
     have e:(i.den ρ==Int.ofNat j')=false:=beq_eq_false_iff_ne.2 (by simp;omega)
     simp only [e,Bool.false_eq_true,if_false]
     rw [ih (j'+1) (by omega)]
   exact key l (j+1) (by rw [h];omega)
  | succ n=>
   have e:(i.den ρ==Int.ofNat j)=false:=by rw [h];simp;omega
   simp only [e,Bool.false_eq_true,if_false,List.set_cons_succ,List.cons.injEq,true_and]
   exact xE l (j+1) n (by rw [h];congr 1;omega)
end
end Go.Proofs.YtmickljjofbmiaaGreatDoor
