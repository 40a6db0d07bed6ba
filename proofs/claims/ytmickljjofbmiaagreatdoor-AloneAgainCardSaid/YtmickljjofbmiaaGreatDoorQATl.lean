/- Alone: alone.Run's loop, and the document's, are told. No condition. -/
import Derived.Test.YtmickljjofbmiaaGreatDoorALoop
import Derived.Test.YtmickljjofbmiaaGreatDoorALk0
namespace Go.Proofs.YtmickljjofbmiaaGreatDoor
open Go Go.Proofs
theorem zM.at{p:Par}{s0:fg}{ρ:Env}(B:zM p s0 ρ)(n:Nat):zM p s0 (cf ρ p s0 n):=⟨B.T.at n,B.code,B.len,B.bytes,B.h,B.res,B.at_,B.id,B.len1,B.size⟩
theorem alm{P:Nat→CK→Prop} (h:P 0 (.int .u8)):∀ (c:Nat) (k:CK),[CK.int .u8][c]?=some k→P c k:=by
 intro c k hk
 match c,hk with
 | 0,hk=>obtain rfl:=Option.some.inj hk;exact h
theorem y8{ρ1 ρ2:Env}{x:A}{m:Int→Int}(h:rN ρ1 x m)(hr:tk ρ1 x){t:Nat}(ht:ρ2.f1 t=m):∀ (c:Nat) (k:CK),[CK.int .u8][c]?=some k→∀ j:Int,k.val (k.sym ρ2 t c j)=k.val (A.den ρ1 k c j x):=by
 refine alm fun j=>?_
 show Value.int .u8 (IntKind.u8.wrap (ρ2.f1 (t+0) j))=Value.int .u8 (A.den ρ1 (.int .u8) 0 j x)
 rw [Nat.add_zero,ht,←h j]
 have:=hr j
 rw [bp (k:=.u8) (by simp only [j6];omega) (by simp only [lQ];omega)]
theorem mu{ρ1 ρ2:Env}{x:A}{r:Nat→Int→Int}(h:nD ρ1 x r){t:Nat} (ht:∀ c,c<14→ρ2.f1 (t+c)=r c):∀ (c:Nat) (k:CK),xG[c]?=some k→∀ j:Int,k.val (k.sym ρ2 t c j)=k.val (A.den ρ1 k c j x):=fun c k hk j=>by
 rw [nK (by rw [ht c (xg hk)]),←h c k hk j]
theorem Xd{p:Par}{s:fg}(hc:s.h.cause=0)(hf:dD p s=true):X8 p s=⟨(ki p s).1,pt p s,tx p s,Iv p s⟩:=by
 unfold X8
 rw [decide_eq_true hc]
 simp only [hf]
theorem GY{p:Par}{s:fg}(hc:s.h.cause=0)(hf:dD p s=false):X8 p s={s with h:={s.h with cause:=4}}:=by
 unfold X8
 rw [decide_eq_true hc]
 simp only [hf]
theorem ub{α:Type}{ρ:Env}{p:Par}{s:fg}(h1:ρ.v 101=s.h.pc)(h2:ρ.v 40=p.len){t f:R α}:(Z8 t f).ai ρ=if dD p s=true then t.ai ρ else f.ai ρ:=by
 have e1:(X.eq (.rem (.var 101) (.lit 4)) (.lit 0)).tt ρ=decide (s.h.pc.tmod 4=0):=by
  rw [cD]
  show ((ρ.v 101).tmod 4==0)=_
  rw [h1]
  by_cases h:s.h.pc.tmod 4=0
  ·simp [h]
  ·rw [decide_eq_false h];exact beq_eq_false_iff_ne.2 h
 have e2:(X.lt (rU (.quo (.var 101) (.lit 4))) (.var 40)).tt ρ=decide (IntKind.u32.wrap (s.h.pc.tdiv 4)<p.len):=by
  rw [lj]
  show decide (IntKind.u32.wrap ((ρ.v 101).tdiv 4)<ρ.v 40)=_
  rw [h1,h2]
 unfold Z8 dD
 cases d1:decide (s.h.pc.tmod 4=0) with
 | false=>rw [fR (e1.trans d1)];simp
 | true=>
  rw [gi (e1.trans d1)]
  cases d2:decide (IntKind.u32.wrap (s.h.pc.tdiv 4)<p.len) with
  | false=>rw [fR (e2.trans d2)];simp
  | true=>rw [gi (e2.trans d2)];simp
section
variable {W:World} {p:Par} (hro:aZ p.ro) (hW:∀ x∈aj,W.heap[x.1]?=some (p.ro x.1))
variable {s0:fg} {ρ:Env} (B:zM p s0 ρ)
include hro hW B
theorem PL{n:Nat} (hc:(ak p s0 n).h.cause=0) (hf:dD p (ak p s0 n)=true) {rn:X} (hn:rn.den (cf ρ p s0 n)=(n:Int)) {e:EndX} (he:EndOk p (ak p s0 n) (cf ρ p s0 n) e):
  (∀ i,1≤i→i≤34→(tb e.b rn i).den (cf ρ p s0 n)=(ak p s0 (n+1)).h.cell i)∧(tb e.b rn 41).den (cf ρ p s0 n)=(ak p s0 (n+1)).h.cause∧e.res.den (cf ρ p s0 n)=bc (ak p s0 (n+1)).res∧e.at_.den (cf ρ p s0 n)=(ak p s0 (n+1)).at_∧rN (cf ρ p s0 n) e.mem (ak p s0 (n+1)).m:=by
 have hs:=(pI hro hW B n).1
 have hb:10≤m9 p (ak p s0 n)∧m9 p (ak p s0 n)≤14:=by
  unfold m9
  split<;>(try split)<;>omega
 have h:=jO hro hW hs hc (m9 p (ak p s0 n))
 have en:ak p s0 (n+1)=⟨(ki p (ak p s0 n)).1,pt p (ak p s0 n),tx p (ak p s0 n),Iv p (ak p s0 n)⟩:=Xd hc hf
 rw [en,he.b]
 have T:=B.T.at n
 refine⟨fun i h1 h2=>(a9 hn _ _).trans (T.hart _ n i hb.1 hb.2 h2),?_,he.res,he.at_,he.mem⟩
 have e6:=(a9 hn (m9 p (ak p s0 n)) 41).trans (T.com _ n 6 hb.1 hb.2 (by omega))
 rw [e6]
 exact h.cause
theorem V6{n:Nat} (hc:(ak p s0 n).h.cause=0) (hf:dD p (ak p s0 n)=true) {rn:X} (hn:rn.den (cf ρ p s0 n)=(n:Int)) {e:EndX} (he:EndOk p (ak p s0 n) (cf ρ p s0 n) e) {row:A} (hrow:nD (cf ρ p s0 n) row (jN p s0 n)):nD (cf ρ p s0 n) (lN rn 0 (yn e.b rn) row) (jN p s0 (n+1)):=by
 refine uw hrow hn rfl ?_
 rw [he.b]
 exact PJ hro hW (B.T.at n) (pI hro hW B n).1 hc hn hf
omit hro hW B in
theorem Nb{ρ1 ρ2:Env}(hag:Agree tM ρ1 ρ2){o kn kr ka:Nat}{xn xr xa:X}{g:Nat→X} {asg:List (Nat×(List CK×A))} (hn:ρ2.v kn=xn.den ρ1) (hr:ρ2.v kr=xr.den ρ1) (ha:ρ2.v ka=xa.den ρ1) (hg:∀ i,1≤i→i≤34→ρ2.v (o+i)=(g i).den ρ1) (has:∀ f ks a,look asg f=some (ks,a)→∀ (c:Nat) (k:CK),ks[c]?=some k→∀ j:Int,k.val (k.sym ρ2 f c j)=k.val (A.den ρ1 k c j a)):bK tM ρ1 ρ2 (B4 ((kn,xn)::(kr,xr)::(ka,xa)::hv o g) asg):=by
 refine⟨hag,fun i x h=>?_,has⟩
 rcases bm h with ⟨rfl,rfl⟩ | h
 ·exact hn
 rcases bm h with ⟨rfl,rfl⟩ | h
 ·exact hr
 rcases bm h with ⟨rfl,rfl⟩ | h
 ·exact ha
 ·obtain⟨q,h1,h2,rfl,rfl⟩:=pW h
  exact hg q h1 (by omega)
omit hro hW B in
theorem vf{ρ1 ρ2:Env}{t1 t2:Nat}{ks1 ks2:List CK}{a1 a2:A} (h1:∀ (c:Nat) (k:CK),ks1[c]?=some k→∀ j:Int,k.val (k.sym ρ2 t1 c j)=k.val (A.den ρ1 k c j a1)) (h2:∀ (c:Nat) (k:CK),ks2[c]?=some k→∀ j:Int,k.val (k.sym ρ2 t2 c j)=k.val (A.den ρ1 k c j a2)):∀ f ks a,look [(t1,(ks1,a1)),(t2,(ks2,a2))] f=some (ks,a)→∀ (c:Nat) (k:CK),ks[c]?=some k→∀ j:Int,k.val (k.sym ρ2 f c j)=k.val (A.den ρ1 k c j a):=by
 intro f ks a h
 rcases bm h with ⟨rfl,e⟩ | h
 ·obtain⟨rfl,rfl⟩:=Prod.mk.inj e
  exact h1
 rcases bm h with ⟨rfl,e⟩ | h
 ·obtain⟨rfl,rfl⟩:=Prod.mk.inj e
  exact h2
 ·exact (cq h).elim
omit hro hW B in
theorem m6{ρ1 ρ2:Env}{t1:Nat}{ks1:List CK}{a1:A} (h1:∀ (c:Nat) (k:CK),ks1[c]?=some k→∀ j:Int,k.val (k.sym ρ2 t1 c j)=k.val (A.den ρ1 k c j a1)):∀ f ks a,look [(t1,(ks1,a1))] f=some (ks,a)→∀ (c:Nat) (k:CK),ks[c]?=some k→∀ j:Int,k.val (k.sym ρ2 f c j)=k.val (A.den ρ1 k c j a):=by
 intro f ks a h
 rcases bm h with ⟨rfl,e⟩ | h
 ·obtain⟨rfl,rfl⟩:=Prod.mk.inj e
  exact h1
 ·exact (cq h).elim
omit hro hW B in
theorem NO{N n:Nat}(S:SpecM p s0 ρ N)(hn:n≤N) (hlt:(n:Int)<ρ.v 43) (hc:(ak p s0 n).h.cause=0):n+1≤N∧((ak p s0 (n+1)).h.cause≠0→N=n+1):=by
 have h1:n+1≤N:=by
  rcases Nat.lt_or_ge n N with h | h
  ·exact h
  ·obtain rfl:N=n:=by omega
   rcases S.stop with h | h
   ·omega
   ·exact absurd hc h
 refine⟨h1,fun hne=>?_⟩
 rcases Nat.lt_or_ge (n+1) N with h | h
 ·exact absurd (S.go (n+1) h) hne
 ·omega
def ajA(ρ:Env)(p:Par)(s0:fg)(N j:Nat)(ρ1:Env):Prop:=∃ n:Nat,ρ1=cf ρ p s0 n∧(j=0→n=0)∧(j≠0→1≤n)∧n≤N∧(ak p s0 n).h.cause=0
def abI(ρ:Env)(p:Par)(s0:fg)(N:Nat)(ρ1:Env)(x:LM):Prop:=match x with
 | .next j' σ=>∃ ρ2,bK tM ρ1 ρ2 σ∧ajA ρ p s0 N j' ρ2∧(ρ.v 43-ρ2.v 100).toNat<(ρ.v 43-ρ1.v 100).toNat
 | .out k σ=>bK tM ρ1 ρ σ∧∃ O,nth [uk,sq] k=some O∧yr.res.ai ρ=some (O.ex,O.pat.fr,⟨O.pat.st.h,O.pat.st.n,yr.st.pc⟩)
 | .never=>False
omit hro hW B in
theorem On{N:Nat}(S:SpecM p s0 ρ N) (h:(ak p s0 N).h.cause≠0):yr.res.ai ρ=some (sq.ex,sq.pat.fr,⟨sq.pat.st.h,sq.pat.st.n,yr.st.pc⟩):=by
 have e:(X.eq (.var 534) (.lit 0)).tt ρ=false:=by
  rw [cD]
  exact beq_eq_false_iff_ne.2 (by rw [show (X.var 534).den ρ=ρ.v (500+34) from rfl,S.hart 34 (by omega) (by omega)];exact h)
 exact fR e
omit hro hW B in
theorem ZF{N:Nat}(S:SpecM p s0 ρ N) (h:(ak p s0 N).h.cause=0):yr.res.ai ρ=some (uk.ex,uk.pat.fr,⟨uk.pat.st.h,uk.pat.st.n,yr.st.pc⟩):=by
 have e:(X.eq (.var 534) (.lit 0)).tt ρ=true:=by
  rw [cD,show (X.var 534).den ρ=ρ.v (500+34) from rfl,S.hart 34 (by omega) (by omega)]
  exact beq_iff_eq.2 h
 exact gi e
theorem SQ{N n:Nat}(S:SpecM p s0 ρ N)(hn:n≤N) (hlt:(n:Int)<ρ.v 43) (hc:(ak p s0 n).h.cause=0) (hf:dD p (ak p s0 n)=true) {r:RdX} (R:RdOk p (ak p s0 n) (cf ρ p s0 n) n r) (hrow:nD (cf ρ p s0 n) r.row (jN p s0 n)) {e:EndX} (he:EndOk p (ak p s0 n) (cf ρ p s0 n) e):
  ∃ x,(Fb r e).ai (cf ρ p s0 n)=some x∧abI ρ p s0 N (cf ρ p s0 n) x:=by
 obtain⟨e1,e2,e3,e4,e5⟩:=PL hro hW B hc hf R.n he
 have e6:=V6 hro hW B hc hf R.n he hrow
 obtain⟨s1,s2⟩:=NO S hn hlt hc
 by_cases hz:(ak p s0 (n+1)).h.cause=0
 ·refine⟨abe r e,gi (by rw [cD,e2,hz];rfl),cf ρ p s0 (n+1),?_,⟨n+1,rfl,fun h=>by omega,fun _=>by omega,s1,hz⟩,?_⟩
  ·refine Nb (aes n (n+1)) (by rw [R.n1];rfl) (by rw [e3];rfl) (by rw [e4];rfl) (fun i h1 h2=>by rw [e1 i h1 h2];exact gq h1 h2) (vf (y8 e5 he.rg rfl) (mu e6 fun c hc=>pT hc))
  ·show (ρ.v 43-((n+1:Nat):Int)).toNat<(ρ.v 43-(n:Int)).toNat
   omega
 ·obtain rfl:=s2 hz
  refine⟨akD r e,fR (by rw [cD,e2];exact beq_eq_false_iff_ne.2 hz),?_,sq,rfl,On S hz⟩
  exact Nb (Ep n) (by rw [R.n1,S.n];rfl) (by rw [e3,S.res]) (by rw [e4,S.at_]) (fun i h1 h2=>by rw [e1 i h1 h2];exact S.hart i h1 h2) (vf (y8 e5 he.rg S.mem) (mu e6 S.row))
omit hro hW in
theorem alC:RdOk p (ak p s0 0) (cf ρ p s0 0) 0 (rd0 (.base 20)):=by
 refine⟨rfl,rfl,?_,?_,?_,⟨20,rfl⟩⟩
 ·show (0:Int)=bc s0.res
  rw [B.res];rfl
 ·exact B.at_.symm
 ·exact uL (ρ:=cf ρ p s0 0) (t:=20) (m:=s0.m) B.bytes
omit hro hW B in
theorem akd{n:Nat}{t:Nat} (ht:(cf ρ p s0 n).f1 t=(ak p s0 n).m) {row:A}:RdOk p (ak p s0 n) (cf ρ p s0 n) n (rd1 (.base t) row):=⟨rfl,rfl,rfl,rfl,uL ht,⟨t,rfl⟩⟩
theorem Kz{α:Type}{n:Nat} (hc:(ak p s0 n).h.cause=0) {rn:X} (hn:rn.den (cf ρ p s0 n)=(n:Int)) {g:Nat→Nat→_root_.Go.Proofs.YtmickljjofbmiaaGreatDoor.R α} {nv:_root_.Go.Proofs.YtmickljjofbmiaaGreatDoor.R α}:(rK rn (.var 50) g nv).ai (cf ρ p s0 n)=(g (acc p (ak p s0 n)).k (acc p (ak p s0 n)).w).ai (cf ρ p s0 n):=by
 have ha:=fA hro hW (pI hro hW B n).1 hc
 have T:=B.T.at n
 exact wC ha ((a9 hn 1 0).trans (T.acc n 0 (by omega))) ((a9 hn 1 1).trans (T.acc n 1 (by omega))) ((a9 hn 1 2).trans (T.acc n 2 (by omega))) (show (X.var 50).den (cf ρ p s0 n)=p.size from T.size) B.size
theorem Yf{cx:Cx}(hng:cx.ng=7){N:Nat}(S:SpecM p s0 ρ N):cK Tryz.prog cx ρ yr:=by
 have hst:=akQ
 simp only [Bool.and_eq_true] at hst
 obtain⟨k1,k2,k3⟩:=hst
 have h00:=m5 B
 refine sV (cxB:=fun j=>match j with | 0=>jL (PM (Ia 20)) | _=>jL (PM (GW 30))) (t:=tM) (Is:=[Ae,IK]) (outs:=[uk,sq]) (lls:=[Vj,Mb]) (N:=4000) (ng:=7) (I0:=Ae) ⟨[],[],[],[]⟩ (ajA ρ p s0 N) (fun ρ1=>(ρ.v 43-ρ1.v 100).toNat)
  (fun j ρ1 hI=>?_) (fun j=>by cases j<;>rfl) hng (fun j I ll hI hll=>?_) (fun j I hI=>?_) k1 k2 rfl k3 ⟨cf ρ p s0 0,⟨Y3 0,fun i x h=>(cq h).elim,fun f ks q h=>(cq h).elim⟩,0,rfl,fun _=>rfl,fun h=>absurd rfl h,by omega,h00.2.2.2⟩ (fun j ρ1 I ll hI hll hinv hpc=>?_)
 ·obtain⟨n,rfl,h0,h1,hn,hc⟩:=hI
  have hs:=pI hro hW B n
  cases j with
  | zero=>
   obtain rfl:=h0 rfl
   exact (lW ba fZ fS (Ob hro hW (B.at 0).T (OM (B.at 0) 20 B.bytes) hs.1 hs.2.1 (fun _=>hc) B.size) 4000).1
  | succ j=>
   exact (lW ba fZ fS (Ob hro hW (B.at n).T (Zy B.T B.code n hs.1 hs.2.1 (t:=30) rfl) hs.1 hs.2.1 (fun _=>hc) B.size) 4000).1
 ·match j,hI,hll with
  | 0,hI,hll=>
   obtain rfl:=Option.some.inj (show some Ae=some I from hI)
   obtain rfl:=Option.some.inj (show some Vj=some ll from hll)
   exact ZR
  | 1,hI,hll=>
   obtain rfl:=Option.some.inj (show some IK=some I from hI)
   obtain rfl:=Option.some.inj (show some Mb=some ll from hll)
   exact ZC
 ·match j,hI with
  | 0,_=>exact⟨_,rfl⟩
  | 1,_=>exact⟨_,rfl⟩
 ·obtain⟨n,rfl,h0,h1,hn,hc⟩:=hinv
  have hs:=pI hro hW B n
  suffices h:∃ x,ll.ai (cf ρ p s0 n)=some x∧abI ρ p s0 N (cf ρ p s0 n) x by
   obtain⟨x,hx,he⟩:=h
   refine⟨x,hx,?_⟩
   cases x<;>exact he
  match j,hI,hll with
  | 0,hI,hll=>
   obtain rfl:=h0 rfl
   obtain rfl:=Option.some.inj (show some Vj=some ll from hll)
   have R:=alC B
   obtain⟨e,he,hsel⟩:=Jw hro hW (B.T.at 0) R hs.1 hc (fun v z hv hz i hi=>AD hv hz hi) (v2:=0) (fun _=>(B.T.at 0).am0 0) (g:=Fb (rd0 (.base 20))) (sc:=sc0 (rd0 (.base 20)) (Fb (rd0 (.base 20)))) (fun h4=>acp R h4 B.res)
   have:=S.n1
   have:=S.most
   obtain⟨x,hx,hend⟩:=SQ hro hW B S (n:=0) (by omega) (by omega) hc (Vd B) R GP he
   exact⟨x,by rw [Vj,Kz hro hW B hc rfl,hsel];exact hx,hend⟩
  | 1,hI,hll=>
   obtain rfl:=Option.some.inj (show some Mb=some ll from hll)
   have hmost:=S.most
   by_cases hlt:(n:Int)<ρ.v 43
   ·have t1:(X.lt (.var 100) (.var 43)).tt (cf ρ p s0 n)=true:=by rw [lj];exact decide_eq_true hlt
    have t2:(X.eq (.var 134) (.lit 0)).tt (cf ρ p s0 n)=true:=by
     rw [cD,show (X.var 134).den (cf ρ p s0 n)=(cf ρ p s0 n).v (100+34) from rfl,gq (by omega) (by omega)]
     exact beq_iff_eq.2 hc
    have hpcv:(cf ρ p s0 n).v 101=(ak p s0 n).h.pc:=gq (i:=1) (by omega) (by omega)
    cases hf:dD p (ak p s0 n) with
    | true=>
     have R:RdOk p (ak p s0 n) (cf ρ p s0 n) n (rd1 (.base 30) (.base 31)):=akd rfl
     obtain⟨e,he,hsel⟩:=Jw hro hW (B.T.at n) R hs.1 hc (fun v z hv hz i hi=>AD hv hz hi) (v2:=0) (fun _=>(B.T.at n).am0 n) (g:=Fb (rd1 (.base 30) (.base 31))) (sc:=scT F3 (rd1 (.base 30) (.base 31)) (Fb (rd1 (.base 30) (.base 31)))) (fun h4=>ab6 hro hW (B.T.at n) R hs.1 hc (fun v z hv hz i hi=>AD hv hz hi) h4)
     obtain⟨x,hx,hend⟩:=SQ hro hW B S hn hlt hc hf R (nN fun c hc=>pT hc) he
     refine⟨x,?_,hend⟩
     unfold Mb
     rw [gi t1,gi t2,ub (p:=p) (s:=ak p s0 n) hpcv B.len,if_pos hf,Kz hro hW B hc rfl,hsel]
     exact hx
    | false=>
     have en:ak p s0 (n+1)=_:=GY hc hf
     have hz:(ak p s0 (n+1)).h.cause≠0:=by rw [en];simp
     obtain⟨s1,s2⟩:=NO S hn hlt hc
     obtain rfl:=s2 hz
     refine⟨aah (rd1 (.base 30) (.base 31)),?_,?_,sq,rfl,On S hz⟩
     ·unfold Mb
      rw [gi t1,gi t2,ub (p:=p) (s:=ak p s0 n) hpcv B.len,if_neg (by rw [hf];decide)]
      rfl
     ·have e6:nD (cf ρ p s0 n) (lN (.var 100) 0 (Jb (.var 101)) (.base 31)) (jN p s0 (n+1)):=uw (nN fun c hc=>pT hc) rfl rfl (Dc hs.1 hpcv hf)
      refine⟨Ep n,fun i x h=>?_,vf (y8 (uL rfl) (ri 30) (by rw [S.mem,en];rfl)) (mu e6 S.row)⟩
      rcases bm h with ⟨rfl,rfl⟩ | h
      ·rw [S.n];rfl
      rcases bm h with ⟨rfl,rfl⟩ | h
      ·rw [show (534:Nat)=500+34 from rfl,S.hart 34 (by omega) (by omega),en];rfl
      rcases bm h with ⟨rfl,rfl⟩ | h
      ·rw [S.res,en];rfl
      rcases bm h with ⟨rfl,rfl⟩ | h
      ·rw [S.at_,en];rfl
      ·obtain⟨q,q1,q2,rfl,rfl⟩:=pW h
       rw [S.hart q q1 (by omega),en]
       show gF.cell {(ak p s0 n).h with cause:=4} q=(cf ρ p s0 n).v (100+q)
       rw [gq q1 (by omega)]
       match q,q1,q2 with
       | 1,_,_=>rfl
       | q+2,_,h2=>
        show (if q<32 then _ else _)=(if q<32 then _ else _)
        rw [if_pos (by omega),if_pos (by omega)]
   ·have t1:(X.lt (.var 100) (.var 43)).tt (cf ρ p s0 n)=false:=by rw [lj];exact decide_eq_false hlt
    obtain rfl:N=n:=by omega
    refine⟨abw,by unfold Mb;rw [fR t1];rfl,?_,uk,rfl,ZF S hc⟩
    exact Nb (Ep N) (by rw [S.n];rfl) (by rw [S.res];rfl) (by rw [S.at_];rfl) (fun i q1 q2=>by rw [S.hart i q1 q2];exact (gq q1 q2).symm) (vf (y8 (uL rfl) (ri 30) S.mem) (mu (nN fun c hc=>pT hc) S.row))
end
end Go.Proofs.YtmickljjofbmiaaGreatDoor
