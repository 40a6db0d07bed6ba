/- Alone: alone.Run's loop, and the document's, are told. No condition. -/
import Derived.Test.YtmickljjofbmiaaGreatDoorALoop
import Derived.Test.YtmickljjofbmiaaGreatDoorALk0
namespace Go.Proofs.YtmickljjofbmiaaGreatDoor
open Go Go.Proofs
theorem FK.at{p:Par}{s0:jB}{ρ:Env}(B:FK p s0 ρ)(n:Nat):FK p s0 (ck ρ p s0 n):=⟨B.T.at n,B.code,B.len,B.bytes,B.h,B.res,B.at_,B.id,B.len1,B.size⟩
theorem ae1{P:Nat→CK→Prop} (h:P 0 (.int .u8)):∀ (c:Nat) (k:CK),[CK.int .u8][c]?=some k→P c k:=by
 intro c k hk
 match c,hk with
 | 0,hk=>obtain rfl:=Option.some.inj hk;exact h
theorem yl{ρ1 ρ2:Env}{x:A}{m:Int→Int}(h:qV ρ1 x m)(hr:sy ρ1 x){t:Nat}(ht:ρ2.f1 t=m):∀ (c:Nat) (k:CK),[CK.int .u8][c]?=some k→∀ j:Int,k.val (k.sym ρ2 t c j)=k.val (A.den ρ1 k c j x):=by
 refine ae1 fun j=>?_
 show Value.int .u8 (IntKind.u8.wrap (ρ2.f1 (t+0) j))=Value.int .u8 (A.den ρ1 (.int .u8) 0 j x)
 rw [Nat.add_zero,ht,←h j]
 have:=hr j
 rw [bn (k:=.u8) (by simp only [jT];omega) (by simp only [kR];omega)]
theorem yx{ρ1 ρ2:Env}{x:A}{r:Nat→Int→Int}(h:sD ρ1 x r){t:Nat} (ht:∀ c,c<14→ρ2.f1 (t+c)=r c):∀ (c:Nat) (k:CK),NA[c]?=some k→∀ j:Int,k.val (k.sym ρ2 t c j)=k.val (A.den ρ1 k c j x):=fun c k hk j=>by
 rw [KQ (by rw [ht c (vK hk)]),←h c k hk j]
theorem aaO{p:Par}{s:jB}(hc:s.h.cause=0)(hf:fS p s=true):Xd p s=⟨(O2 p s).1,qS p s,wB p s,K1 p s⟩:=by
 unfold Xd
 rw [decide_eq_true hc]
 simp only [hf]
theorem Sk{p:Par}{s:jB}(hc:s.h.cause=0)(hf:fS p s=false):Xd p s={s with h:={s.h with cause:=4}}:=by
 unfold Xd
 rw [decide_eq_true hc]
 simp only [hf]
theorem Gs{α:Type}{ρ:Env}{p:Par}{s:jB}(h1:ρ.v 101=s.h.pc)(h2:ρ.v 40=p.len){t f:R α}:(X2 t f).ai ρ=if fS p s=true then t.ai ρ else f.ai ρ:=by
 have e1:(X.eq (.rem (.var 101) (.lit 4)) (.lit 0)).tt ρ=decide (s.h.pc.tmod 4=0):=by
  rw [dR]
  show ((ρ.v 101).tmod 4==0)=_
  rw [h1]
  by_cases h:s.h.pc.tmod 4=0
  ·simp [h]
  ·rw [decide_eq_false h];exact beq_eq_false_iff_ne.2 h
 have e2:(X.lt (sq (.quo (.var 101) (.lit 4))) (.var 40)).tt ρ=decide (IntKind.u32.wrap (s.h.pc.tdiv 4)<p.len):=by
  rw [A8]
  show decide (IntKind.u32.wrap ((ρ.v 101).tdiv 4)<ρ.v 40)=_
  rw [h1,h2]
 unfold X2 fS
 cases d1:decide (s.h.pc.tmod 4=0) with
 | false=>rw [Lc (e1.trans d1)];simp
 | true=>
  rw [sO (e1.trans d1)]
  cases d2:decide (IntKind.u32.wrap (s.h.pc.tdiv 4)<p.len) with
  | false=>rw [Lc (e2.trans d2)];simp
  | true=>rw [sO (e2.trans d2)];simp
section
variable {W:World} {p:Par} (hro:bx p.ro) (hW:∀ x∈aj,W.heap[x.1]?=some (p.ro x.1))
variable {s0:jB} {ρ:Env} (B:FK p s0 ρ)
include hro hW B
theorem O6{n:Nat} (hc:(aA p s0 n).h.cause=0) (hf:fS p (aA p s0 n)=true) {rn:X} (hn:rn.den (ck ρ p s0 n)=(n:Int)) {e:EndX} (he:EndOk p (aA p s0 n) (ck ρ p s0 n) e):
  (∀ i,1≤i→i≤34→(tb e.b rn i).den (ck ρ p s0 n)=(aA p s0 (n+1)).h.cell i)∧(tb e.b rn 41).den (ck ρ p s0 n)=(aA p s0 (n+1)).h.cause∧e.res.den (ck ρ p s0 n)=a7 (aA p s0 (n+1)).res∧e.at_.den (ck ρ p s0 n)=(aA p s0 (n+1)).at_∧qV (ck ρ p s0 n) e.mem (aA p s0 (n+1)).m:=by
 have hs:=(KI hro hW B n).1
 have hb:10≤xK p (aA p s0 n)∧xK p (aA p s0 n)≤14:=by
  unfold xK
  split<;>(try split)<;>omega
 have h:=ow hro hW hs hc (xK p (aA p s0 n))
 have en:aA p s0 (n+1)=⟨(O2 p (aA p s0 n)).1,qS p (aA p s0 n),wB p (aA p s0 n),K1 p (aA p s0 n)⟩:=aaO hc hf
 rw [en,he.b]
 have T:=B.T.at n
 refine⟨fun i h1 h2=>(bp hn _ _).trans (T.hart _ n i hb.1 hb.2 h2),?_,he.res,he.at_,he.mem⟩
 have e6:=(bp hn (xK p (aA p s0 n)) 41).trans (T.com _ n 6 hb.1 hb.2 (by omega))
 rw [e6]
 exact h.cause
theorem Rn{n:Nat} (hc:(aA p s0 n).h.cause=0) (hf:fS p (aA p s0 n)=true) {rn:X} (hn:rn.den (ck ρ p s0 n)=(n:Int)) {e:EndX} (he:EndOk p (aA p s0 n) (ck ρ p s0 n) e) {row:A} (hrow:sD (ck ρ p s0 n) row (si p s0 n)):sD (ck ρ p s0 n) (pj rn 0 (F9 e.b rn) row) (si p s0 (n+1)):=by
 refine Ky hrow hn rfl ?_
 rw [he.b]
 exact OY hro hW (B.T.at n) (KI hro hW B n).1 hc hn hf
omit hro hW B in
theorem My{ρ1 ρ2:Env}(hag:Agree tM ρ1 ρ2){o kn kr ka:Nat}{xn xr xa:X}{g:Nat→X} {asg:List (Nat×(List CK×A))} (hn:ρ2.v kn=xn.den ρ1) (hr:ρ2.v kr=xr.den ρ1) (ha:ρ2.v ka=xa.den ρ1) (hg:∀ i,1≤i→i≤34→ρ2.v (o+i)=(g i).den ρ1) (has:∀ f ks a,look asg f=some (ks,a)→∀ (c:Nat) (k:CK),ks[c]?=some k→∀ j:Int,k.val (k.sym ρ2 f c j)=k.val (A.den ρ1 k c j a)):b8 tM ρ1 ρ2 (Zz ((kn,xn)::(kr,xr)::(ka,xa)::hv o g) asg):=by
 refine⟨hag,fun i x h=>?_,has⟩
 rcases dN h with ⟨rfl,rfl⟩ | h
 ·exact hn
 rcases dN h with ⟨rfl,rfl⟩ | h
 ·exact hr
 rcases dN h with ⟨rfl,rfl⟩ | h
 ·exact ha
 ·obtain⟨q,h1,h2,rfl,rfl⟩:=zT h
  exact hg q h1 (by omega)
omit hro hW B in
theorem tC{ρ1 ρ2:Env}{t1 t2:Nat}{ks1 ks2:List CK}{a1 a2:A} (h1:∀ (c:Nat) (k:CK),ks1[c]?=some k→∀ j:Int,k.val (k.sym ρ2 t1 c j)=k.val (A.den ρ1 k c j a1)) (h2:∀ (c:Nat) (k:CK),ks2[c]?=some k→∀ j:Int,k.val (k.sym ρ2 t2 c j)=k.val (A.den ρ1 k c j a2)):∀ f ks a,look [(t1,(ks1,a1)),(t2,(ks2,a2))] f=some (ks,a)→∀ (c:Nat) (k:CK),ks[c]?=some k→∀ j:Int,k.val (k.sym ρ2 f c j)=k.val (A.den ρ1 k c j a):=by
 intro f ks a h
 rcases dN h with ⟨rfl,e⟩ | h
 ·obtain⟨rfl,rfl⟩:=Prod.mk.inj e
  exact h1
 rcases dN h with ⟨rfl,e⟩ | h
 ·obtain⟨rfl,rfl⟩:=Prod.mk.inj e
  exact h2
 ·exact (my h).elim
omit hro hW B in
theorem aeF{ρ1 ρ2:Env}{t1:Nat}{ks1:List CK}{a1:A} (h1:∀ (c:Nat) (k:CK),ks1[c]?=some k→∀ j:Int,k.val (k.sym ρ2 t1 c j)=k.val (A.den ρ1 k c j a1)):∀ f ks a,look [(t1,(ks1,a1))] f=some (ks,a)→∀ (c:Nat) (k:CK),ks[c]?=some k→∀ j:Int,k.val (k.sym ρ2 f c j)=k.val (A.den ρ1 k c j a):=by
 intro f ks a h
 rcases dN h with ⟨rfl,e⟩ | h
 ·obtain⟨rfl,rfl⟩:=Prod.mk.inj e
  exact h1
 ·exact (my h).elim
omit hro hW B in
theorem OA{N n:Nat}(S:SpecM p s0 ρ N)(hn:n≤N) (hlt:(n:Int)<ρ.v 43) (hc:(aA p s0 n).h.cause=0):n+1≤N∧((aA p s0 (n+1)).h.cause≠0→N=n+1):=by
 have h1:n+1≤N:=by
  rcases Nat.lt_or_ge n N with h | h
  ·exact h
  ·obtain rfl:N=n:=by omega
   rcases S.stop with h | h
   ·omega
   ·exact absurd hc h
 refine⟨h1,fun hne=>?_⟩
 rcases Nat.lt_or_ge (n+1) N with h | h
 ·exact absurd (S.go (n+1) h) hne
 ·omega
def aee(ρ:Env)(p:Par)(s0:jB)(N j:Nat)(ρ1:Env):Prop:=∃ n:Nat,ρ1=ck ρ p s0 n∧(j=0→n=0)∧(j≠0→1≤n)∧n≤N∧(aA p s0 n).h.cause=0
def Zf(ρ:Env)(p:Par)(s0:jB)(N:Nat)(ρ1:Env)(x:LM):Prop:=match x with
 | .next j' σ=>∃ ρ2,b8 tM ρ1 ρ2 σ∧aee ρ p s0 N j' ρ2∧(ρ.v 43-ρ2.v 100).toNat<(ρ.v 43-ρ1.v 100).toNat
 | .out k σ=>b8 tM ρ1 ρ σ∧∃ O,nth [su,ry] k=some O∧BD.res.ai ρ=some (O.ex,O.pat.fr,⟨O.pat.st.h,O.pat.st.n,BD.st.pc⟩)
 | .never=>False
omit hro hW B in
theorem M3{N:Nat}(S:SpecM p s0 ρ N) (h:(aA p s0 N).h.cause≠0):BD.res.ai ρ=some (ry.ex,ry.pat.fr,⟨ry.pat.st.h,ry.pat.st.n,BD.st.pc⟩):=by
 have e:(X.eq (.var 534) (.lit 0)).tt ρ=false:=by
  rw [dR]
  exact beq_eq_false_iff_ne.2 (by rw [show (X.var 534).den ρ=ρ.v (500+34) from rfl,S.hart 34 (by omega) (by omega)];exact h)
 exact Lc e
omit hro hW B in
theorem Xk{N:Nat}(S:SpecM p s0 ρ N) (h:(aA p s0 N).h.cause=0):BD.res.ai ρ=some (su.ex,su.pat.fr,⟨su.pat.st.h,su.pat.st.n,BD.st.pc⟩):=by
 have e:(X.eq (.var 534) (.lit 0)).tt ρ=true:=by
  rw [dR,show (X.var 534).den ρ=ρ.v (500+34) from rfl,S.hart 34 (by omega) (by omega)]
  exact beq_iff_eq.2 h
 exact sO e
theorem QP{N n:Nat}(S:SpecM p s0 ρ N)(hn:n≤N) (hlt:(n:Int)<ρ.v 43) (hc:(aA p s0 n).h.cause=0) (hf:fS p (aA p s0 n)=true) {r:RdX} (R:RdOk p (aA p s0 n) (ck ρ p s0 n) n r) (hrow:sD (ck ρ p s0 n) r.row (si p s0 n)) {e:EndX} (he:EndOk p (aA p s0 n) (ck ρ p s0 n) e):
  ∃ x,(DW r e).ai (ck ρ p s0 n)=some x∧Zf ρ p s0 N (ck ρ p s0 n) x:=by
 obtain⟨e1,e2,e3,e4,e5⟩:=O6 hro hW B hc hf R.n he
 have e6:=Rn hro hW B hc hf R.n he hrow
 obtain⟨s1,s2⟩:=OA S hn hlt hc
 by_cases hz:(aA p s0 (n+1)).h.cause=0
 ·refine⟨ZA r e,sO (by rw [dR,e2,hz];rfl),ck ρ p s0 (n+1),?_,⟨n+1,rfl,fun h=>by omega,fun _=>by omega,s1,hz⟩,?_⟩
  ·refine My (Z6 n (n+1)) (by rw [R.n1];rfl) (by rw [e3];rfl) (by rw [e4];rfl) (fun i h1 h2=>by rw [e1 i h1 h2];exact g8 h1 h2) (tC (yl e5 he.rg rfl) (yx e6 fun c hc=>sX hc))
  ·show (ρ.v 43-((n+1:Nat):Int)).toNat<(ρ.v 43-(n:Int)).toNat
   omega
 ·obtain rfl:=s2 hz
  refine⟨afS r e,Lc (by rw [dR,e2];exact beq_eq_false_iff_ne.2 hz),?_,ry,rfl,M3 S hz⟩
  exact My (Dv n) (by rw [R.n1,S.n];rfl) (by rw [e3,S.res]) (by rw [e4,S.at_]) (fun i h1 h2=>by rw [e1 i h1 h2];exact S.hart i h1 h2) (tC (yl e5 he.rg S.mem) (yx e6 S.row))
omit hro hW in
theorem afh:RdOk p (aA p s0 0) (ck ρ p s0 0) 0 (QM (.base 20)):=by
 refine⟨rfl,rfl,?_,?_,?_,⟨20,rfl⟩⟩
 ·show (0:Int)=a7 s0.res
  rw [B.res];rfl
 ·exact B.at_.symm
 ·exact sN (ρ:=ck ρ p s0 0) (t:=20) (m:=s0.m) B.bytes
omit hro hW B in
theorem af0{n:Nat}{t:Nat} (ht:(ck ρ p s0 n).f1 t=(aA p s0 n).m) {row:A}:RdOk p (aA p s0 n) (ck ρ p s0 n) n (ZE (.base t) row):=⟨rfl,rfl,rfl,rfl,sN ht,⟨t,rfl⟩⟩
theorem GZ{α:Type}{n:Nat} (hc:(aA p s0 n).h.cause=0) {rn:X} (hn:rn.den (ck ρ p s0 n)=(n:Int)) {g:Nat→Nat→_root_.Go.Proofs.YtmickljjofbmiaaGreatDoor.R α} {nv:_root_.Go.Proofs.YtmickljjofbmiaaGreatDoor.R α}:(ri rn (.var 50) g nv).ai (ck ρ p s0 n)=(g (acc p (aA p s0 n)).k (acc p (aA p s0 n)).w).ai (ck ρ p s0 n):=by
 have ha:=fQ hro hW (KI hro hW B n).1 hc
 have T:=B.T.at n
 exact Cs ha ((bp hn 1 0).trans (T.acc n 0 (by omega))) ((bp hn 1 1).trans (T.acc n 1 (by omega))) ((bp hn 1 2).trans (T.acc n 2 (by omega))) (show (X.var 50).den (ck ρ p s0 n)=p.size from T.size) B.size
theorem alG{cx:Cx}(hng:cx.ng=7){N:Nat}(S:SpecM p s0 ρ N):oc Tryz.prog cx ρ BD:=by
 have hst:=aeb
 simp only [Bool.and_eq_true] at hst
 obtain⟨k1,k2,k3⟩:=hst
 have h00:=pF B
 refine LI (cxB:=fun j=>match j with | 0=>O4 (Qj (abL 20)) | _=>O4 (Qj (abM 30))) (t:=tM) (Is:=[yD,FJ]) (outs:=[su,ry]) (lls:=[QQ,K2]) (N:=4000) (ng:=7) (I0:=yD) ⟨[],[],[],[]⟩ (aee ρ p s0 N) (fun ρ1=>(ρ.v 43-ρ1.v 100).toNat)
  (fun j ρ1 hI=>?_) (fun j=>by cases j<;>rfl) hng (fun j I ll hI hll=>?_) (fun j I hI=>?_) k1 k2 rfl k3 ⟨ck ρ p s0 0,⟨Xt 0,fun i x h=>(my h).elim,fun f ks q h=>(my h).elim⟩,0,rfl,fun _=>rfl,fun h=>absurd rfl h,by omega,h00.2.2.2⟩ (fun j ρ1 I ll hI hll hinv hpc=>?_)
 ·obtain⟨n,rfl,h0,h1,hn,hc⟩:=hI
  have hs:=KI hro hW B n
  cases j with
  | zero=>
   obtain rfl:=h0 rfl
   exact (q9 cr pL oQ (OC hro hW (B.at 0).T (YT (B.at 0) 20 B.bytes) hs.1 hs.2.1 (fun _=>hc) B.size) 4000).1
  | succ j=>
   exact (q9 cr pL oQ (OC hro hW (B.at n).T (YU B.T B.code n hs.1 hs.2.1 (t:=30) rfl) hs.1 hs.2.1 (fun _=>hc) B.size) 4000).1
 ·match j,hI,hll with
  | 0,hI,hll=>
   obtain rfl:=Option.some.inj (show some yD=some I from hI)
   obtain rfl:=Option.some.inj (show some QQ=some ll from hll)
   exact Xi
  | 1,hI,hll=>
   obtain rfl:=Option.some.inj (show some FJ=some I from hI)
   obtain rfl:=Option.some.inj (show some K2=some ll from hll)
   exact Xj
 ·match j,hI with
  | 0,_=>exact⟨_,rfl⟩
  | 1,_=>exact⟨_,rfl⟩
 ·obtain⟨n,rfl,h0,h1,hn,hc⟩:=hinv
  have hs:=KI hro hW B n
  suffices h:∃ x,ll.ai (ck ρ p s0 n)=some x∧Zf ρ p s0 N (ck ρ p s0 n) x by
   obtain⟨x,hx,he⟩:=h
   refine⟨x,hx,?_⟩
   cases x<;>exact he
  match j,hI,hll with
  | 0,hI,hll=>
   obtain rfl:=h0 rfl
   obtain rfl:=Option.some.inj (show some QQ=some ll from hll)
   have R:=afh B
   obtain⟨e,he,hsel⟩:=F8 hro hW (B.T.at 0) R hs.1 hc (fun v z hv hz i hi=>yV hv hz hi) (v2:=0) (fun _=>(B.T.at 0).am0 0) (g:=DW (QM (.base 20))) (sc:=sc0 (QM (.base 20)) (DW (QM (.base 20)))) (fun h4=>abS R h4 B.res)
   have:=S.n1
   have:=S.most
   obtain⟨x,hx,hend⟩:=QP hro hW B S (n:=0) (by omega) (by omega) hc (aaz B) R RE he
   exact⟨x,by rw [QQ,GZ hro hW B hc rfl,hsel];exact hx,hend⟩
  | 1,hI,hll=>
   obtain rfl:=Option.some.inj (show some K2=some ll from hll)
   have hmost:=S.most
   by_cases hlt:(n:Int)<ρ.v 43
   ·have t1:(X.lt (.var 100) (.var 43)).tt (ck ρ p s0 n)=true:=by rw [A8];exact decide_eq_true hlt
    have t2:(X.eq (.var 134) (.lit 0)).tt (ck ρ p s0 n)=true:=by
     rw [dR,show (X.var 134).den (ck ρ p s0 n)=(ck ρ p s0 n).v (100+34) from rfl,g8 (by omega) (by omega)]
     exact beq_iff_eq.2 hc
    have hpcv:(ck ρ p s0 n).v 101=(aA p s0 n).h.pc:=g8 (i:=1) (by omega) (by omega)
    cases hf:fS p (aA p s0 n) with
    | true=>
     have R:RdOk p (aA p s0 n) (ck ρ p s0 n) n (ZE (.base 30) (.base 31)):=af0 rfl
     obtain⟨e,he,hsel⟩:=F8 hro hW (B.T.at n) R hs.1 hc (fun v z hv hz i hi=>yV hv hz hi) (v2:=0) (fun _=>(B.T.at n).am0 n) (g:=DW (ZE (.base 30) (.base 31))) (sc:=scT DI (ZE (.base 30) (.base 31)) (DW (ZE (.base 30) (.base 31)))) (fun h4=>abT hro hW (B.T.at n) R hs.1 hc (fun v z hv hz i hi=>yV hv hz hi) h4)
     obtain⟨x,hx,hend⟩:=QP hro hW B S hn hlt hc hf R (yO fun c hc=>sX hc) he
     refine⟨x,?_,hend⟩
     unfold K2
     rw [sO t1,sO t2,Gs (p:=p) (s:=aA p s0 n) hpcv B.len,if_pos hf,GZ hro hW B hc rfl,hsel]
     exact hx
    | false=>
     have en:aA p s0 (n+1)=_:=Sk hc hf
     have hz:(aA p s0 (n+1)).h.cause≠0:=by rw [en];simp
     obtain⟨s1,s2⟩:=OA S hn hlt hc
     obtain rfl:=s2 hz
     refine⟨Zq (ZE (.base 30) (.base 31)),?_,?_,ry,rfl,M3 S hz⟩
     ·unfold K2
      rw [sO t1,sO t2,Gs (p:=p) (s:=aA p s0 n) hpcv B.len,if_neg (by rw [hf];decide)]
      rfl
     ·have e6:sD (ck ρ p s0 n) (pj (.var 100) 0 (Na (.var 101)) (.base 31)) (si p s0 (n+1)):=Ky (yO fun c hc=>sX hc) rfl rfl (OX hs.1 hpcv hf)
      refine⟨Dv n,fun i x h=>?_,tC (yl (sN rfl) (pP 30) (by rw [S.mem,en];rfl)) (yx e6 S.row)⟩
      rcases dN h with ⟨rfl,rfl⟩ | h
      ·rw [S.n];rfl
      rcases dN h with ⟨rfl,rfl⟩ | h
      ·rw [show (534:Nat)=500+34 from rfl,S.hart 34 (by omega) (by omega),en];rfl
      rcases dN h with ⟨rfl,rfl⟩ | h
      ·rw [S.res,en];rfl
      rcases dN h with ⟨rfl,rfl⟩ | h
      ·rw [S.at_,en];rfl
      ·obtain⟨q,q1,q2,rfl,rfl⟩:=zT h
       rw [S.hart q q1 (by omega),en]
       show gN.cell {(aA p s0 n).h with cause:=4} q=(ck ρ p s0 n).v (100+q)
       rw [g8 q1 (by omega)]
       match q,q1,q2 with
       | 1,_,_=>rfl
       | q+2,_,h2=>
        show (if q<32 then _ else _)=(if q<32 then _ else _)
        rw [if_pos (by omega),if_pos (by omega)]
   ·have t1:(X.lt (.var 100) (.var 43)).tt (ck ρ p s0 n)=false:=by rw [A8];exact decide_eq_false hlt
    obtain rfl:N=n:=by omega
    refine⟨Zx,by unfold K2;rw [Lc t1];rfl,?_,su,rfl,Xk S hc⟩
    exact My (Dv N) (by rw [S.n];rfl) (by rw [S.res];rfl) (by rw [S.at_];rfl) (fun i q1 q2=>by rw [S.hart i q1 q2];exact (g8 q1 q2).symm) (tC (yl (sN rfl) (pP 30) S.mem) (yx (yO fun c hc=>sX hc) S.row))
end
end Go.Proofs.YtmickljjofbmiaaGreatDoor
