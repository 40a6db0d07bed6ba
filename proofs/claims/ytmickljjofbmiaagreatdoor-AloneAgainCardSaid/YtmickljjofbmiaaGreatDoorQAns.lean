/- AloneAgain: the loop of the law's answers is told. No condition. -/
import Derived.Test.YtmickljjofbmiaaGreatDoorQATl
import Derived.Test.YtmickljjofbmiaaGreatDoorQTold
import Derived.Test.YtmickljjofbmiaaGreatDoorQLk
namespace Go.Proofs.YtmickljjofbmiaaGreatDoor
open Go Go.Proofs
noncomputable def dq(ρ:Env)(p:Par)(s0:fg)(n:Nat):Env:={ρ with
 v:=fun i=>if i=100 then (n:Int) else if i=140 then (ie p s0 n:Int) else ρ.v i
 f1:=fun i=>if i=31 then cy p s0 n 0 else if i=32 then cy p s0 n 1 else ρ.f1 i}
structure SpecA (p:Par) (s0:fg) (ρ:Env) (N:Nat):Prop where
 n1:1≤N
 n:ρ.v 60=N
 row:∀ c,c<14→ρ.f1 (60+c)=jN p s0 N c
 a0:ρ.f1 75=cy p s0 N 0
 a1:ρ.f1 76=cy p s0 N 1
 len:ρ.v 62=(ie p s0 N:Int)
 kind:∀ n,n<N→(acc p (ak p s0 n)).k≤6
def aip(ρ:Env)(p:Par)(s0:fg)(N j:Nat)(ρ1:Env):Prop:=∃ n:Nat,ρ1=dq ρ p s0 n∧(j=0→n=0)∧(j≠0→1≤n)∧n≤N∧(j=1→ie p s0 n=0)∧(j=2→1≤ie p s0 n)
section
variable {ρ:Env} {p:Par} {s0:fg} {N:Nat}
theorem neA{i:Nat}(h:eg i tA.vs=false):i≠100∧i≠140:=⟨fun e=>by subst e;exact absurd h (by decide),fun e=>by subst e;exact absurd h (by decide)⟩
theorem arT{i:Nat}(h:Lo tA.ts i=false):i≠31∧i≠32:=⟨fun e=>by subst e;exact absurd h (by decide),fun e=>by subst e;exact absurd h (by decide)⟩
theorem u7{n i:Nat}(h:eg i tA.vs=false):(dq ρ p s0 n).v i=ρ.v i:=by
 obtain⟨h1,h2⟩:=neA h
 simp only [dq,if_neg h1,if_neg h2]
theorem wy{n i:Nat}(h:Lo tA.ts i=false):(dq ρ p s0 n).f1 i=ρ.f1 i:=by
 obtain⟨h1,h2⟩:=arT h
 simp only [dq,if_neg h1,if_neg h2]
theorem SK(n m:Nat):Agree tA (dq ρ p s0 n) (dq ρ p s0 m):=⟨fun i h=>by rw [u7 h,u7 h],fun i h=>by rw [wy h,wy h],rfl,rfl,rfl,rfl,rfl,rfl⟩
theorem aaQ(n:Nat):Agree tA ρ (dq ρ p s0 n):=⟨fun _ h=>u7 h,fun _ h=>wy h,rfl,rfl,rfl,rfl,rfl,rfl⟩
theorem NA(n:Nat):Agree tA (dq ρ p s0 n) ρ:=⟨fun _ h=>(u7 h).symm,fun _ h=>(wy h).symm,rfl,rfl,rfl,rfl,rfl,rfl⟩
theorem Oa{n c:Nat}(h:n<N):jN p s0 N c (n:Int)=mY p (ak p s0 n) c:=by
 unfold jN
 rw [if_pos ⟨by omega,by omega⟩,Int.toNat_natCast]
theorem iQ{α:Type}(S:SpecA p s0 ρ N){n:Nat}(hn:n<N){x:X} (hx:x.den (dq ρ p s0 n)=(n:Int)) {y no:_root_.Go.Proofs.YtmickljjofbmiaaGreatDoor.R α}:(zn x y no).ai (dq ρ p s0 n)=if dz p s0 n=true then y.ai (dq ρ p s0 n) else no.ai (dq ρ p s0 n):=by
 have hk6:=S.kind n hn
 have e:∃ k:Nat,k≤6∧(k6 x).den (dq ρ p s0 n)=(k:Int)∧rh k=dz p s0 n:=by
  have e1:(k6 x).den (dq ρ p s0 n)=IntKind.i64.wrap (mY p (ak p s0 n) 2):=by
   show IntKind.i64.wrap ((dq ρ p s0 n).f1 62 (x.den (dq ρ p s0 n)))=_
   rw [hx,wy (by decide),S.row 2 (by omega),Oa hn]
  have wr:∀ z:Int,0≤z→z≤6→IntKind.i64.wrap z=z:=fun z h1 h2=>bp (by simp only [j6];omega) (by simp only [lQ];omega)
  rw [e1]
  unfold mY dz
  cases hf:dD p (ak p s0 n) with
  | true=>
   refine⟨_,hk6,?_,by rw [Bool.true_and]⟩
   show IntKind.i64.wrap ((acc p (ak p s0 n)).k:Int)=_
   exact wr _ (by omega) (by omega)
  | false=>
   refine⟨0,by omega,?_,rfl⟩
   show IntKind.i64.wrap 0=_
   rfl
 obtain⟨k,hk,ek,ea⟩:=e
 have te:∀ c:Int,(X.eq (k6 x) (.lit c)).tt (dq ρ p s0 n)=((k:Int)==c):=fun c=>by
  rw [cD,ek]
  rfl
 unfold zn
 rw [←ea]
 match k,hk with
 | 0,_=>rw [fR (te 1),fR (te 3),fR (te 4),fR (te 5)];rfl
 | 1,_=>rw [gi (te 1)];rfl
 | 2,_=>rw [fR (te 1),fR (te 3),fR (te 4),fR (te 5)];rfl
 | 3,_=>rw [fR (te 1),gi (te 3)];rfl
 | 4,_=>rw [fR (te 1),fR (te 3),gi (te 4)];rfl
 | 5,_=>rw [fR (te 1),fR (te 3),fR (te 4),gi (te 5)];rfl
 | 6,_=>rw [fR (te 1),fR (te 3),fR (te 4),fR (te 5)];rfl
def Ba(ρ1:Env)(a:A)(r:Nat→Int→Int):Prop:=∀ (c:Nat) (k:CK),ksA[c]?=some k→∀ j:Int,k.val (A.den ρ1 k c j a)=k.val (yy k (r c j))
theorem NY{ρ1 ρ2:Env}{a:A}{r:Nat→Int→Int}(h:Ba ρ1 a r){t:Nat}(h0:ρ2.f1 t=r 0) (h1:ρ2.f1 (t+1)=r 1):∀ (c:Nat) (k:CK),ksA[c]?=some k→∀ j:Int,k.val (k.sym ρ2 t c j)=k.val (A.den ρ1 k c j a):=by
 intro c k hk j
 rw [h c k hk j]
 match c,hk with
 | 0,hk=>rw [nK (by rw [Nat.add_zero,h0])]
 | 1,hk=>rw [nK (by rw [h1])]
theorem WI{ρ1:Env}{t:Nat}{r:Nat→Int→Int}(h0:ρ1.f1 t=r 0) (h1:ρ1.f1 (t+1)=r 1):Ba ρ1 (.base t) r:=by
 intro c k hk j
 show k.val (k.sym ρ1 t c j)=_
 match c,hk with
 | 0,hk=>rw [nK (by rw [Nat.add_zero,h0])]
 | 1,hk=>rw [nK (by rw [h1])]
theorem Kq{ρ1:Env}{n:Nat}(h:ie p s0 n=0):Ba ρ1 (.fill (.lit 0)) (cy p s0 n):=by
 intro c k hk j
 rw [Lm h]
 match c,hk with
 | 0,hk=>obtain rfl:=Option.some.inj hk;rfl
 | 1,hk=>obtain rfl:=Option.some.inj hk;rfl
theorem EP(S:SpecA p s0 ρ N){n:Nat}(hn:n<N)(ha:dz p s0 n=true){x at_:X} (hx:x.den (dq ρ p s0 n)=(n:Int)) (hat:at_.den (dq ρ p s0 n)=(ie p s0 n:Int)) {a:A} (h:Ba (dq ρ p s0 n) a (cy p s0 n)):Ba (dq ρ p s0 n) (NU at_ x a) (cy p s0 (n+1)):=by
 have f:∀ c,c<14→(dq ρ p s0 n).f1 (60+c) (n:Int)=mY p (ak p s0 n) c:=fun c hc=>by
  have e:Lo tA.ts (60+c)=false:=by
   have key:∀ k:Fin 14,Lo tA.ts (60+k.val)=false:=by decide
   exact key ⟨c,hc⟩
  rw [wy e,S.row c hc,Oa hn]
 intro c k hk j
 rw [Md ha]
 match c,hk with
 | 0,hk=>
  have hh:=h 0 k hk j
  obtain rfl:=Option.some.inj hk
  show Value.int .u32 (if (0:Nat)=1∧j=at_.den (dq ρ p s0 n) then _ else if (0:Nat)=0∧j=at_.den (dq ρ p s0 n) then IntKind.u32.wrap ((dq ρ p s0 n).f1 (60+9) (x.den (dq ρ p s0 n))) else A.den (dq ρ p s0 n) (.int .u32) 0 j a)=_
  rw [if_neg (by omega),hat,hx,f 9 (by omega)]
  by_cases e:j=ie p s0 n
  ·rw [if_pos ⟨rfl,e⟩,if_pos e]
   rfl
  ·rw [if_neg (fun q=>e q.2),if_neg e]
   exact hh
 | 1,hk=>
  have hh:=h 1 k hk j
  obtain rfl:=Option.some.inj hk
  show Value.bool ((if (1:Nat)=1∧j=at_.den (dq ρ p s0 n) then bc ((dq ρ p s0 n).f1 (60+10) (x.den (dq ρ p s0 n))==1) else if (1:Nat)=0∧j=at_.den (dq ρ p s0 n) then _ else A.den (dq ρ p s0 n) .bool 1 j a) != 0)=_
  rw [hat,hx,f 10 (by omega)]
  by_cases e:j=ie p s0 n
  ·rw [if_pos ⟨rfl,e⟩,if_pos e]
   rfl
  ·rw [if_neg (fun q=>e q.2),if_neg (fun q=>absurd q.1 (by omega)),if_neg e]
   exact hh
def Wr(ρ:Env)(p:Par)(s0:fg)(N:Nat)(ρ1:Env)(x:LM):Prop:=match x with
 | .next j' σ=>∃ ρ2,bK tA ρ1 ρ2 σ∧aip ρ p s0 N j' ρ2∧(ρ.v 60-ρ2.v 100).toNat<(ρ.v 60-ρ1.v 100).toNat
 | .out k σ=>bK tA ρ1 ρ σ∧∃ O,nth [Ar,zj] k=some O∧yI.res.ai ρ=some (O.ex,O.pat.fr,⟨O.pat.st.h,O.pat.st.n,yI.st.pc⟩)
 | .never=>False
theorem NM(S:SpecA p s0 ρ N){n:Nat}(hn:n<N)(ha:dz p s0 n=false)(hz:ie p s0 n=0){x1:X} (h1:x1.den (dq ρ p s0 n)=((n+1:Nat):Int)):Wr ρ p s0 N (dq ρ p s0 n) (aeB x1):=by
 refine⟨dq ρ p s0 (n+1),⟨SK n (n+1),fun i x h=>?_,fun f ks a h=>(cq h).elim⟩,⟨n+1,rfl,fun h=>by omega,fun _=>by omega,by omega,fun _=>by rw [sC ha,hz],fun h=>by omega⟩,?_⟩
 ·rcases bm h with ⟨rfl,rfl⟩ | h
  ·rw [h1];rfl
  ·exact (cq h).elim
 ·show (ρ.v 60-((n+1:Nat):Int)).toNat<(ρ.v 60-(n:Int)).toNat
  rw [S.n]
  omega
theorem yM(S:SpecA p s0 ρ N){n:Nat}(hn:n<N){x1 at1:X} (h1:x1.den (dq ρ p s0 n)=((n+1:Nat):Int)) (hat:at1.den (dq ρ p s0 n)=(ie p s0 (n+1):Int)) (hc:1≤ie p s0 (n+1)) {a:A} (h:Ba (dq ρ p s0 n) a (cy p s0 (n+1))):Wr ρ p s0 N (dq ρ p s0 n) (Rp x1 at1 a):=by
 refine⟨dq ρ p s0 (n+1),⟨SK n (n+1),fun i x h=>?_,m6 (NY h rfl rfl)⟩,⟨n+1,rfl,fun h=>by omega,fun _=>by omega,by omega,fun h=>by omega,fun _=>hc⟩,?_⟩
 ·rcases bm h with ⟨rfl,rfl⟩ | h
  ·rw [h1];rfl
  rcases bm h with ⟨rfl,rfl⟩ | h
  ·rw [hat];rfl
  ·exact (cq h).elim
 ·show (ρ.v 60-((n+1:Nat):Int)).toNat<(ρ.v 60-(n:Int)).toNat
  rw [S.n]
  omega
theorem aaM{cx:Cx}(hng:cx.ng=7) (hal:SumOk Tryz.prog (jL []) ρ) (hro:∀ ρ1:Env,ρ1.ro=ρ.ro→SumOk Tryz.prog (jL []) ρ1) (S:SpecA p s0 ρ N):cK Tryz.prog cx ρ yI:=by
 have hst:=agy
 simp only [Bool.and_eq_true] at hst
 obtain⟨k1,k2,k3⟩:=hst
 have c0:ie p s0 0=0:=rfl
 have hn1:=S.n1
 have hres:∀ (z:Bool),(z=true↔ie p s0 N=0)→(X.eq (.var 62) (.lit 0)).tt ρ=z:=fun z hz=>by
  rw [cD]
  show (ρ.v 62==0)=z
  rw [S.len]
  cases z with
  | true=>exact beq_iff_eq.2 (by rw [hz.1 rfl];rfl)
  | false=>exact beq_eq_false_iff_ne.2 fun e=>absurd (hz.2 (by omega)) (by decide)
 refine sV (cxB:=fun _=>jL []) (t:=tA) (Is:=[yv,Ec,Ey]) (outs:=[Ar,zj]) (lls:=[QJ,MC,Lr]) (N:=4000) (ng:=7) (I0:=yv) ⟨[],[],[],[]⟩ (aip ρ p s0 N) (fun ρ1=>(ρ.v 60-ρ1.v 100).toNat)
  (fun j ρ1 hI=>?_) (fun j=>rfl) hng (fun j I ll hI hll=>?_) (fun j I hI=>?_) k1 k2 rfl k3 ⟨dq ρ p s0 0,⟨aaQ 0,fun i x h=>(cq h).elim,fun f ks q h=>(cq h).elim⟩,0,rfl,fun _=>rfl,fun h=>absurd rfl h,by omega,fun _=>rfl,fun h=>by cases h⟩ (fun j ρ1 I ll hI hll hinv hpc=>?_)
 ·obtain⟨n,rfl,_⟩:=hI
  exact (lW ba fZ fS (hro (dq ρ p s0 n) rfl) 4000).1
 ·match j,hI,hll with
  | 0,hI,hll=>
   obtain rfl:=Option.some.inj (show some yv=some I from hI)
   obtain rfl:=Option.some.inj (show some QJ=some ll from hll)
   exact aay
  | 1,hI,hll=>
   obtain rfl:=Option.some.inj (show some Ec=some I from hI)
   obtain rfl:=Option.some.inj (show some MC=some ll from hll)
   exact Yk
  | 2,hI,hll=>
   obtain rfl:=Option.some.inj (show some Ey=some I from hI)
   obtain rfl:=Option.some.inj (show some Lr=some ll from hll)
   exact ZM
 ·match j,hI with
  | 0,_=>exact⟨_,rfl⟩
  | 1,_=>exact⟨_,rfl⟩
  | 2,_=>exact⟨_,rfl⟩
 ·obtain⟨n,rfl,h0,h1,hn,hz,hp⟩:=hinv
  suffices h:∃ x,ll.ai (dq ρ p s0 n)=some x∧Wr ρ p s0 N (dq ρ p s0 n) x by
   obtain⟨x,hx,he⟩:=h
   refine⟨x,hx,?_⟩
   cases x<;>exact he
  have tlt_:(X.lt (.var 100) (.var 60)).tt (dq ρ p s0 n)=decide (n<N):=by
   rw [lj]
   show decide ((n:Int)<ρ.v 60)=_
   rw [S.n]
   by_cases e:n<N
   ·rw [decide_eq_true e];exact decide_eq_true (by omega)
   ·rw [decide_eq_false e];exact decide_eq_false (by omega)
  match j,hI,hll with
  | 0,hI,hll=>
   obtain rfl:=h0 rfl
   obtain rfl:=Option.some.inj (show some QJ=some ll from hll)
   cases ha:dz p s0 0 with
   | true=>
    refine⟨_,by rw [QJ,iQ S (by omega) rfl,if_pos ha];rfl,yM S (by omega) rfl (by rw [gf ha,c0];rfl) (by rw [gf ha];omega) (EP S (by omega) ha rfl rfl (Kq c0))⟩
   | false=>
    exact⟨_,by rw [QJ,iQ S (by omega) rfl,if_neg (by rw [ha];decide)];rfl,NM S (by omega) ha c0 rfl⟩
  | 1,hI,hll=>
   obtain rfl:=Option.some.inj (show some MC=some ll from hll)
   have z:=hz rfl
   by_cases hlt:n<N
   ·have t1:=tlt_.trans (decide_eq_true hlt)
    cases ha:dz p s0 n with
    | true=>
     refine⟨_,by rw [MC,gi t1,iQ S hlt rfl,if_pos ha];rfl,yM S hlt rfl (by rw [gf ha,z];rfl) (by rw [gf ha];omega) (EP S hlt ha rfl (by rw [z];rfl) (Kq z))⟩
    | false=>exact⟨_,by rw [MC,gi t1,iQ S hlt rfl,if_neg (by rw [ha];decide)];rfl,NM S hlt ha z rfl⟩
   ·obtain rfl:n=N:=by omega
    refine⟨.out 0 (B4 [] []),by rw [MC,fR (tlt_.trans (decide_eq_false hlt))];rfl,⟨NA n,fun i x h=>(cq h).elim,fun f ks q h=>(cq h).elim⟩,Ar,rfl,?_⟩
    exact gi (hres true ⟨fun _=>z,fun _=>rfl⟩)
  | 2,hI,hll=>
   obtain rfl:=Option.some.inj (show some Lr=some ll from hll)
   have z:=hp rfl
   have hb:Ba (dq ρ p s0 n) (.base 31) (cy p s0 n):=WI rfl rfl
   by_cases hlt:n<N
   ·have t1:=tlt_.trans (decide_eq_true hlt)
    cases ha:dz p s0 n with
    | true=>
     refine⟨_,by rw [Lr,gi t1,iQ S hlt rfl,if_pos ha];rfl,yM S hlt rfl (by
      rw [gf ha]
      rfl) (by rw [gf ha];omega) (EP S hlt ha rfl rfl hb)⟩
    | false=>
     refine⟨_,by rw [Lr,gi t1,iQ S hlt rfl,if_neg (by rw [ha];decide)];rfl,yM S hlt rfl (by
      rw [sC ha]
      rfl) (by rw [sC ha];omega) fun c k hk j=>?_⟩
     rw [P8 ha]
     exact hb c k hk j
   ·obtain rfl:n=N:=by omega
    refine⟨.out 1 (B4 [(62,.var 140)] [(75,(ksA,.base 31))]),by rw [Lr,fR (tlt_.trans (decide_eq_false hlt))];rfl,⟨NA n,fun i x h=>?_,m6 (NY hb S.a0 S.a1)⟩,zj,rfl,?_⟩
    ·rcases bm h with ⟨rfl,rfl⟩ | h
     ·rw [S.len];rfl
     ·exact (cq h).elim
    ·exact fR (hres false ⟨(fun h=>by cases h),fun h=>by omega⟩)
end
end Go.Proofs.YtmickljjofbmiaaGreatDoor
