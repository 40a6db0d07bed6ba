/- AloneAgain: the loop of alone.Told is told. No condition. -/
import Derived.Test.YtmickljjofbmiaaGreatDoorQATl
import Derived.Test.YtmickljjofbmiaaGreatDoorQTold
import Derived.Test.YtmickljjofbmiaaGreatDoorQLk
namespace Go.Proofs.YtmickljjofbmiaaGreatDoor
open Go Go.Proofs
structure RunQ (p:Par) (s0:fg) (N:Nat) (ρ:Env):Prop where
 B:zM p s0 ρ
 T:CX p s0 N ρ
structure SpecQ (p:Par) (s0:fg) (ρ:Env) (N:Nat):Prop where
 n1:1≤N
 most:(N:Int)≤ρ.v 43
 go:∀ j,j<N→(ak p s0 j).h.cause=0
 stop:(N:Int)=ρ.v 43∨(ak p s0 N).h.cause≠0
 n:ρ.v 60=N
 hart:∀ i,1≤i→i≤34→ρ.v (500+i)=(ak p s0 N).h.cell i
 at_:ρ.v 540=(ie p s0 N:Int)
 row:∀ c,c<14→ρ.f1 (60+c)=jN p s0 N c
def afG(ρ:Env)(p:Par)(s0:fg)(N j:Nat)(ρ1:Env):Prop:=∃ n:Nat,ρ1=bV ρ p s0 n∧(j=0→n=0)∧(j≠0→1≤n)∧n≤N∧(ak p s0 n).h.cause=0
structure LoopQ where
 L:LoopI
 I0:mW
 I1:mW
 O0:OutP
 O1:OutP
def Up(Q:LoopQ)(ρ:Env)(p:Par)(s0:fg)(N:Nat)(ρ1:Env)(x:LM):Prop:=match x with
 | .next j' σ=>∃ ρ2,bK tM ρ1 ρ2 σ∧afG ρ p s0 N j' ρ2∧(ρ.v 43-ρ2.v 100).toNat<(ρ.v 43-ρ1.v 100).toNat
 | .out k σ=>bK tM ρ1 ρ σ∧∃ O,nth [Q.O0,Q.O1] k=some O∧Q.L.res.ai ρ=some (O.ex,O.pat.fr,⟨O.pat.st.h,O.pat.st.n,Q.L.st.pc⟩)
 | .never=>False
structure LoopQ.Ok (Q:LoopQ) (nil:Bool):Prop where
 res:Q.L.res=.br (.eq (.var 534) (.lit 0)) (.ok (Q.O0.ex,Q.O0.pat.fr,⟨Q.O0.pat.st.h,Q.O0.pat.st.n,Q.L.st.pc⟩)) (.ok (Q.O1.ex,Q.O1.pat.fr,⟨Q.O1.pat.st.h,Q.O1.pat.st.n,Q.L.st.pc⟩))
 chk0:ep tM Q.L.st.n Q.I0 [Q.I0,Q.I1] [Q.O0,Q.O1] ((ev (jL (Cm (Ia 20) (.lit 0))) 4000).code Q.L.rnd Q.L.body Q.I0.fr Q.I0.st) (LP nil)=true
 chk1:ep tM Q.L.st.n Q.I1 [Q.I0,Q.I1] [Q.O0,Q.O1] ((ev (jL (Cm (GW 30) (.sub (.add (.var 140) (.lit 1)) (.lit 1)))) 4000).code Q.L.rnd Q.L.body Q.I1.fr Q.I1.st) (EL nil)=true
 ok:(gW 7 Q.L [Q.I0,Q.I1]&&(kx 7 Q.L.st.n [Q.O0,Q.O1]&&fit tM (iI Q.I0 Q.L.fr Q.L.st [] []) Q.L.st.n Q.I0 Q.L.fr Q.L.st))=true
section
variable {ρ1 ρ2:Env}
theorem E3(hag:Agree tM ρ1 ρ2){o kn ka:Nat}{xn xa:X}{g:Nat→X} {asg:List (Nat×(List CK×A))} (hn:ρ2.v kn=xn.den ρ1) (ha:ρ2.v ka=xa.den ρ1) (hg:∀ i,1≤i→i≤34→ρ2.v (o+i)=(g i).den ρ1) (has:∀ f ks a,look asg f=some (ks,a)→∀ (c:Nat) (k:CK),ks[c]?=some k→∀ j:Int,k.val (k.sym ρ2 f c j)=k.val (A.den ρ1 k c j a)):bK tM ρ1 ρ2 (B4 ((kn,xn)::(ka,xa)::hv o g) asg):=by
 refine⟨hag,fun i x h=>?_,has⟩
 rcases bm h with ⟨rfl,rfl⟩ | h
 ·exact hn
 rcases bm h with ⟨rfl,rfl⟩ | h
 ·exact ha
 ·obtain⟨q,h1,h2,rfl,rfl⟩:=pW h
  exact hg q h1 (by omega)
end
section
variable {W:World} {p:Par} (hro:aZ p.ro) (hW:∀ x∈aj,W.heap[x.1]?=some (p.ro x.1))
variable {s0:fg} {ρ:Env} {N:Nat} (B:RunQ p s0 N ρ) (S:SpecQ p s0 ρ N)
include hro hW B
theorem A4{n:Nat}(hn:n<N) (hc:(ak p s0 n).h.cause=0) (hf:dD p (ak p s0 n)=true) {rn:X} (hrn:rn.den (bV ρ p s0 n)=(n:Int)) {b:Nat} (hb:b=if rh (acc p (ak p s0 n)).k then 15 else 10):
  (∀ i,1≤i→i≤34→(tb b rn i).den (bV ρ p s0 n)=(ak p s0 (n+1)).h.cell i)∧(tb b rn 41).den (bV ρ p s0 n)=(ak p s0 (n+1)).h.cause∧∀ i:Nat,i<7→(tb b rn (35+i)).den (bV ρ p s0 n)=(ki p (ak p s0 n)).2.cell i:=by
 have hs:=(pI hro hW B.B n).1
 have h:=jO hro hW hs hc (m9 p (ak p s0 n))
 have en:ak p s0 (n+1)=⟨(ki p (ak p s0 n)).1,pt p (ak p s0 n),tx p (ak p s0 n),Iv p (ak p s0 n)⟩:=Xd hc hf
 have T:=B.T.at n
 have key:(∀ i,i≤34→(tb b rn i).den (bV ρ p s0 n)=(ki p (ak p s0 n)).1.cell i)∧∀ i:Nat,i<7→(tb b rn (35+i)).den (bV ρ p s0 n)=(ki p (ak p s0 n)).2.cell i:=by
  cases hk:rh (acc p (ak p s0 n)).k with
  | true=>
   rw [hk] at hb
   obtain rfl:b=15:=hb
   have e:=aaR hro hW hs hc (N:=N) (by unfold dz;rw [hf,hk];rfl) hn
   rw [←e]
   exact⟨fun i hi=>(a9 hrn _ _).trans (T.hart n i hi),fun i hi=>(a9 hrn _ _).trans (T.com n i hi)⟩
  | false=>
   rw [hk] at hb
   obtain rfl:b=10:=hb
   have e:=adY hk h.acc.k
   have e2:LN p (ak p s0 n) 10=ki p (ak p s0 n):=by
    unfold ki
    rw [e]
    rfl
   rw [←e2]
   exact⟨fun i hi=>(a9 hrn _ _).trans (T.T.hart 10 n i (by omega) (by omega) hi),fun i hi=>(a9 hrn _ _).trans (T.T.com 10 n i (by omega) (by omega) hi)⟩
 rw [en]
 exact⟨fun i _ h2=>key.1 i h2,(key.2 6 (by omega)).trans h.cause,key.2⟩
theorem Qs{n:Nat}(hn:n<N) (hc:(ak p s0 n).h.cause=0) (hf:dD p (ak p s0 n)=true) {rn:X} (hrn:rn.den (bV ρ p s0 n)=(n:Int)) {b:Nat} (hb:b=if rh (acc p (ak p s0 n)).k then 15 else 10):
  ∀ (c:Nat) (q:CK),xG[c]?=some q→q.val ((((yn b rn)[c]?).getD (.lit 0)).den (bV ρ p s0 n))=q.val (yy q (mY p (ak p s0 n) c)):=by
 have hs:=(pI hro hW B.B n).1
 have ha:=fA hro hW hs hc
 have h:=jO hro hW hs hc (m9 p (ak p s0 n))
 have tc:=(A4 hro hW B hn hc hf hrn hb).2.2
 have ec:∀ i,mY p (ak p s0 n) i=Ab (acc p (ak p s0 n)) (ki p (ak p s0 n)).2 i:=fun i=>by
  unfold mY
  rw [hf]
 have ta:∀ i:Nat,i<7→(tb 1 rn i).den (bV ρ p s0 n)=(acc p (ak p s0 n)).cell i:=fun i hi=>(a9 hrn 1 i).trans ((B.T.at n).T.acc n i hi)
 intro c q hq
 rw [ec c]
 refine ND ⟨_,ha⟩ h.com (fun i hi=>?_) c q hq
 match i,hi with
 | 0,_=>exact tc 0 (by omega)
 | 1,_=>exact tc 1 (by omega)
 | 2,_=>exact ta 0 (by omega)
 | 3,_=>exact cO (ta 1 (by omega)) ha.ad
 | 4,_=>exact ta 2 (by omega)
 | 5,_=>exact cO (ta 3 (by omega)) ha.v
 | 6,_=>exact ta 4 (by omega)
 | 7,_=>exact rE (ta 5 (by omega))
 | 8,_=>exact rE (ta 6 (by omega))
 | 9,_=>exact tc 2 (by omega)
 | 10,_=>exact rE (tc 3 (by omega))
 | 11,_=>exact tc 4 (by omega)
 | 12,_=>exact tc 5 (by omega)
 | 13,_=>exact tc 6 (by omega)
theorem DY{α:Type}{n:Nat} (hc:(ak p s0 n).h.cause=0) {rn:X} (hn:rn.den (bV ρ p s0 n)=(n:Int)) {g:Nat→Nat→_root_.Go.Proofs.YtmickljjofbmiaaGreatDoor.R α} {nv:_root_.Go.Proofs.YtmickljjofbmiaaGreatDoor.R α}:(rK rn (.var 50) g nv).ai (bV ρ p s0 n)=(g (acc p (ak p s0 n)).k (acc p (ak p s0 n)).w).ai (bV ρ p s0 n):=by
 have ha:=fA hro hW (pI hro hW B.B n).1 hc
 have T:=(B.T.at n).T
 exact wC ha ((a9 hn 1 0).trans (T.acc n 0 (by omega))) ((a9 hn 1 1).trans (T.acc n 1 (by omega))) ((a9 hn 1 2).trans (T.acc n 2 (by omega))) (show (X.var 50).den (bV ρ p s0 n)=p.size from T.size) B.B.size
include S
omit hro hW B in
theorem Td{n:Nat}(hn:n≤N) (hlt:(n:Int)<ρ.v 43) (hc:(ak p s0 n).h.cause=0):n+1≤N∧((ak p s0 (n+1)).h.cause≠0→N=n+1):=by
 have h1:n+1≤N:=by
  rcases Nat.lt_or_ge n N with h | h
  ·exact h
  ·obtain rfl:N=n:=by omega
   rcases S.stop with h | h
   ·omega
   ·exact absurd hc h
 refine⟨h1,fun hne=>?_⟩
 rcases Nat.lt_or_ge (n+1) N with h | h
 ·exact absurd (S.go (n+1) h) hne
 ·omega
omit hro hW B in
theorem abv{Q:LoopQ}{nil:Bool}(K:Q.Ok nil) (h:(ak p s0 N).h.cause≠0):Q.L.res.ai ρ=some (Q.O1.ex,Q.O1.pat.fr,⟨Q.O1.pat.st.h,Q.O1.pat.st.n,Q.L.st.pc⟩):=by
 rw [K.res]
 refine fR ?_
 rw [cD]
 exact beq_eq_false_iff_ne.2 (by rw [show (X.var 534).den ρ=ρ.v (500+34) from rfl,S.hart 34 (by omega) (by omega)];exact h)
omit hro hW B in
theorem amu{Q:LoopQ}{nil:Bool}(K:Q.Ok nil) (h:(ak p s0 N).h.cause=0):Q.L.res.ai ρ=some (Q.O0.ex,Q.O0.pat.fr,⟨Q.O0.pat.st.h,Q.O0.pat.st.n,Q.L.st.pc⟩):=by
 rw [K.res]
 refine gi ?_
 rw [cD,show (X.var 534).den ρ=ρ.v (500+34) from rfl,S.hart 34 (by omega) (by omega)]
 exact beq_iff_eq.2 h
theorem Et{Q:LoopQ}{nil:Bool}(K:Q.Ok nil){n:Nat}(hn:n≤N) (hlt:(n:Int)<ρ.v 43) (hc:(ak p s0 n).h.cause=0) (hf:dD p (ak p s0 n)=true) {r:RdQ} (rn:r.n.den (bV ρ p s0 n)=(n:Int)) (rn1:r.n1.den (bV ρ p s0 n)=((n+1:Nat):Int)) (hrow:nD (bV ρ p s0 n) r.row (jN p s0 n))
  {b:Nat} (hb:b=if rh (acc p (ak p s0 n)).k then 15 else 10) {at1:X} (hat:at1.den (bV ρ p s0 n)=(ie p s0 (n+1):Int)):∃ x,(aaz r b at1).ai (bV ρ p s0 n)=some x∧Up Q ρ p s0 N (bV ρ p s0 n) x:=by
 obtain⟨s1,s2⟩:=Td S hn hlt hc
 obtain⟨e1,e2,_⟩:=A4 hro hW B (by omega) hc hf rn hb
 have e6:nD (bV ρ p s0 n) (lN r.n 0 (yn b r.n) r.row) (jN p s0 (n+1)):=uw hrow rn rfl (Qs hro hW B (by omega) hc hf rn hb)
 by_cases hz:(ak p s0 (n+1)).h.cause=0
 ·refine⟨abt r b at1,gi (by rw [cD,e2,hz];rfl),bV ρ p s0 (n+1),?_,⟨n+1,rfl,fun h=>by omega,fun _=>by omega,s1,hz⟩,?_⟩
  ·exact E3 (ab3 n (n+1)) (by rw [rn1];rfl) (by rw [hat];rfl) (fun i h1 h2=>by rw [e1 i h1 h2];exact iF h1 h2) (m6 (mu e6 fun c hc=>uX hc))
  ·show (ρ.v 43-((n+1:Nat):Int)).toNat<(ρ.v 43-(n:Int)).toNat
   omega
 ·obtain rfl:=s2 hz
  refine⟨ail r b at1,fR (by rw [cD,e2];exact beq_eq_false_iff_ne.2 hz),?_,Q.O1,rfl,abv S K hz⟩
  exact E3 (El n) (by rw [rn1,S.n]) (by rw [hat,S.at_]) (fun i h1 h2=>by rw [e1 i h1 h2];exact S.hart i h1 h2) (m6 (mu e6 S.row))
theorem Ld{Q:LoopQ}{nil:Bool}(K:Q.Ok nil)(hnil:nil=true→ie p s0 N=0){t:Bool}{n:Nat}(ht:t=true→n=0)(hn:n≤N) (hlt:(n:Int)<ρ.v 43) (hc:(ak p s0 n).h.cause=0) (hf:dD p (ak p s0 n)=true) {r:RdQ} (rn:r.n.den (bV ρ p s0 n)=(n:Int)) (rn1:r.n1.den (bV ρ p s0 n)=((n+1:Nat):Int)) (rat:r.at_.den (bV ρ p s0 n)=(ie p s0 n:Int)) (hrow:nD (bV ρ p s0 n) r.row (jN p s0 n)) {w:Nat}:
  ∃ x,(O6 nil t r (acc p (ak p s0 n)).k w).ai (bV ρ p s0 n)=some x∧Up Q ρ p s0 N (bV ρ p s0 n) x:=by
 obtain⟨s1,_⟩:=Td S hn hlt hc
 unfold O6
 cases hk:rh (acc p (ak p s0 n)).k with
 | false=>
  have ea:dz p s0 n=false:=by unfold dz;rw [hk,Bool.and_false]
  exact Et hro hW B S K hn hlt hc hf rn rn1 hrow (by rw [hk];rfl) (by rw [rat,sC ea])
 | true=>
  have ea:dz p s0 n=true:=by unfold dz;rw [hk,hf];rfl
  have hlt2:=ac4 ea (show n<N by omega)
  cases nil with
  | true=>have:=hnil rfl;omega
  | false=>
   cases t with
   | true=>
    obtain rfl:=ht rfl
    exact Et hro hW B S K hn hlt hc hf rn rn1 hrow (by rw [hk];rfl) (by rw [gf ea];rfl)
   | false=>
    have e140:(bV ρ p s0 n).v 140=(ie p s0 n:Int):=rfl
    have e62:(bV ρ p s0 n).v 62=(ie p s0 N:Int):=(B.T.at n).len
    have tl:(X.lt (.var 140) (.var 62)).tt (bV ρ p s0 n)=true:=by
     rw [lj]
     show decide ((bV ρ p s0 n).v 140<(bV ρ p s0 n).v 62)=true
     rw [e140,e62]
     exact decide_eq_true (by omega)
    obtain⟨x,hx,he⟩:=Et hro hW B S K hn hlt hc hf rn rn1 hrow (b:=15) (at1:=.add (.var 140) (.lit 1)) (by rw [hk];rfl) (by
     show (bV ρ p s0 n).v 140+1=_
     rw [e140,gf ea]
     omega)
    exact⟨x,(gi tl).trans hx,he⟩
theorem Df{cx:Cx}(hng:cx.ng=7){Q:LoopQ}{nil:Bool}(K:Q.Ok nil)(hnil:nil=true→ie p s0 N=0):cK Tryz.prog cx ρ Q.L:=by
 have hst:=K.ok
 simp only [Bool.and_eq_true] at hst
 obtain⟨k1,k2,k3⟩:=hst
 have h00:=m5 B.B
 have hrow1:∀ n t,(bV ρ p s0 n).f1 t=(ak p s0 n).m→RowOk p (ak p s0 n) (bV ρ p s0 n) n (GW t):=fun n t ht=>by
  have hs:=pI hro hW B.B n
  refine⟨rfl,fun π=>?_,fun π=>?_,ht,rfl⟩
  ·show U9.ae (bV ρ p s0 n) π=_
   refine ly hs.1 (by rw [(B.T.at n).T.id,hs.2.1]) (fun i h1 h2=>?_) π
   exact iF h1 h2
  ·have e:(bV ρ p s0 n).v 101=(ak p s0 n).h.pc:=iF (i:=1) (by omega) (by omega)
   show Value.int .u32 (IntKind.u32.wrap (ρ.f1 10 (IntKind.u32.wrap (((bV ρ p s0 n).v 101).tdiv 4))))=Value.int .u32 (eI p (ak p s0 n))
   rw [e,B.B.code]
   unfold eI
   have:0≤IntKind.u32.wrap (p.code (IntKind.u32.wrap ((ak p s0 n).h.pc.tdiv 4))):=by simp [IntKind.wrap,IntKind.bits,IntKind.signed];omega
   rw [Int.toNat_of_nonneg this]
 have hrow0:RowOk p (ak p s0 0) (bV ρ p s0 0) 0 (Ia 20):=by
  have R:=OM B.B 20 B.B.bytes
  have T:=B.T.at 0
  refine⟨rfl,fun π=>?_,fun π=>?_,(sK (by decide)).trans R.t,?_⟩
  ·refine Eq.trans ?_ (R.h π)
   show (V.agg (.int .i64 (.var 42)::Ak (fun _=>.lit 0) 1 33 [i64 (.lit 0)])).ae (bV ρ p s0 0) π=(V.agg (.int .i64 (.var 42)::Ak (fun _=>.lit 0) 1 33 [i64 (.lit 0)])).ae ρ π
   simp only [V.ae,V.af,vG]
   rw [show (X.var 42).den (bV ρ p s0 0)=(X.var 42).den ρ from jg (by decide)]
   rfl
  ·exact Eq.trans rfl (R.w π)
  ·exact R.at_
 refine sV (cxB:=fun j=>match j with | 0=>jL (Cm (Ia 20) (.lit 0)) | _=>jL (Cm (GW 30) (.sub (.add (.var 140) (.lit 1)) (.lit 1)))) (t:=tM) (Is:=[Q.I0,Q.I1]) (outs:=[Q.O0,Q.O1]) (lls:=[LP nil,EL nil]) (N:=4000) (ng:=7) (I0:=Q.I0) ⟨[],[],[],[]⟩ (afG ρ p s0 N) (fun ρ1=>(ρ.v 43-ρ1.v 100).toNat)
  (fun j ρ1 hI=>?_) (fun j=>by cases j<;>rfl) hng (fun j I ll hI hll=>?_) (fun j I hI=>?_) k1 k2 rfl k3 ⟨bV ρ p s0 0,⟨Zd 0,fun i x h=>(cq h).elim,fun f ks q h=>(cq h).elim⟩,0,rfl,fun _=>rfl,fun h=>absurd rfl h,by omega,h00.2.2.2⟩ (fun j ρ1 I ll hI hll hinv hpc=>?_)
 ·obtain⟨n,rfl,h0,h1,hn,hc⟩:=hI
  have hs:=pI hro hW B.B n
  cases j with
  | zero=>
   obtain rfl:=h0 rfl
   exact (lW ba fZ fS (O8 hro hW (B.T.at 0) hrow0 (at_:=.lit 0) rfl hs.1 hs.2.1 (fun _=>hc) B.B.size) 4000).1
  | succ j=>
   exact (lW ba fZ fS (O8 hro hW (B.T.at n) (hrow1 n 30 rfl) (at_:=.sub (.add (.var 140) (.lit 1)) (.lit 1)) (by
    show (ie p s0 n:Int)+1-1=_
    omega) hs.1 hs.2.1 (fun _=>hc) B.B.size) 4000).1
 ·match j,hI,hll with
  | 0,hI,hll=>
   obtain rfl:=Option.some.inj (show some Q.I0=some I from hI)
   obtain rfl:=Option.some.inj (show some (LP nil)=some ll from hll)
   exact K.chk0
  | 1,hI,hll=>
   obtain rfl:=Option.some.inj (show some Q.I1=some I from hI)
   obtain rfl:=Option.some.inj (show some (EL nil)=some ll from hll)
   exact K.chk1
 ·match j,hI with
  | 0,_=>exact⟨_,rfl⟩
  | 1,_=>exact⟨_,rfl⟩
 ·obtain⟨n,rfl,h0,h1,hn,hc⟩:=hinv
  have hs:=pI hro hW B.B n
  suffices h:∃ x,ll.ai (bV ρ p s0 n)=some x∧Up Q ρ p s0 N (bV ρ p s0 n) x by
   obtain⟨x,hx,he⟩:=h
   refine⟨x,hx,?_⟩
   cases x<;>exact he
  match j,hI,hll with
  | 0,hI,hll=>
   obtain rfl:=h0 rfl
   obtain rfl:=Option.some.inj (show some (LP nil)=some ll from hll)
   have:=S.n1
   have:=S.most
   obtain⟨x,hx,hend⟩:=Ld hro hW B S K hnil (t:=true) (r:=am4) (fun _=>rfl) (by omega) (by omega) hc (Vd B.B) rfl rfl rfl GP
   exact⟨x,by rw [LP,DY hro hW B hc rfl];exact hx,hend⟩
  | 1,hI,hll=>
   obtain rfl:=Option.some.inj (show some (EL nil)=some ll from hll)
   have hmost:=S.most
   have rat:(Wc nil).at_.den (bV ρ p s0 n)=(ie p s0 n:Int):=by
    cases nil with
    | true=>
     have h2:=Ag (p:=p) (s0:=s0) hn
     have h3:=hnil rfl
     show (0:Int)=_
     omega
    | false=>rfl
   by_cases hlt:(n:Int)<ρ.v 43
   ·have t1:(X.lt (.var 100) (.var 43)).tt (bV ρ p s0 n)=true:=by rw [lj];exact decide_eq_true hlt
    have t2:(X.eq (.var 134) (.lit 0)).tt (bV ρ p s0 n)=true:=by
     rw [cD,show (X.var 134).den (bV ρ p s0 n)=(bV ρ p s0 n).v (100+34) from rfl,iF (by omega) (by omega)]
     exact beq_iff_eq.2 hc
    have hpcv:(bV ρ p s0 n).v 101=(ak p s0 n).h.pc:=iF (i:=1) (by omega) (by omega)
    cases hf:dD p (ak p s0 n) with
    | true=>
     obtain⟨x,hx,hend⟩:=Ld hro hW B S K hnil (t:=false) (r:=Wc nil) (fun h=>by cases h) hn hlt hc hf rfl rfl rat (nN fun c hc=>uX hc)
     refine⟨x,?_,hend⟩
     unfold EL
     rw [gi t1,gi t2,ub (p:=p) (s:=ak p s0 n) hpcv B.B.len,if_pos hf,DY hro hW B hc rfl]
     exact hx
    | false=>
     have en:ak p s0 (n+1)=_:=GY hc hf
     have hz:(ak p s0 (n+1)).h.cause≠0:=by rw [en];simp
     obtain⟨s1,s2⟩:=Td S hn hlt hc
     obtain rfl:=s2 hz
     have ea:dz p s0 n=false:=by unfold dz;rw [hf];rfl
     refine⟨abn (Wc nil),?_,?_,Q.O1,rfl,abv S K hz⟩
     ·unfold EL
      rw [gi t1,gi t2,ub (p:=p) (s:=ak p s0 n) hpcv B.B.len,if_neg (by rw [hf];decide)]
      rfl
     ·have e6:nD (bV ρ p s0 n) (lN (.var 100) 0 (Jb (.var 101)) (.base 31)) (jN p s0 (n+1)):=uw (nN fun c hc=>uX hc) rfl rfl (Dc hs.1 hpcv hf)
      refine⟨El n,fun i x h=>?_,m6 (mu e6 S.row)⟩
      rcases bm h with ⟨rfl,rfl⟩ | h
      ·rw [S.n];rfl
      rcases bm h with ⟨rfl,rfl⟩ | h
      ·rw [show (534:Nat)=500+34 from rfl,S.hart 34 (by omega) (by omega),en];rfl
      rcases bm h with ⟨rfl,rfl⟩ | h
      ·rw [S.at_,sC ea,rat]
      ·obtain⟨q,q1,q2,rfl,rfl⟩:=pW h
       rw [S.hart q q1 (by omega),en]
       show gF.cell {(ak p s0 n).h with cause:=4} q=(bV ρ p s0 n).v (100+q)
       rw [iF q1 (by omega)]
       match q,q1,q2 with
       | 1,_,_=>rfl
       | q+2,_,h2=>
        show (if q<32 then _ else _)=(if q<32 then _ else _)
        rw [if_pos (by omega),if_pos (by omega)]
   ·have t1:(X.lt (.var 100) (.var 43)).tt (bV ρ p s0 n)=false:=by rw [lj];exact decide_eq_false hlt
    obtain rfl:N=n:=by omega
    refine⟨abM,by unfold EL;rw [fR t1];rfl,?_,Q.O0,rfl,amu S K hc⟩
    exact E3 (El N) (by rw [S.n];rfl) (by rw [S.at_];rfl) (fun i q1 q2=>by rw [S.hart i q1 q2];exact (iF q1 q2).symm) (m6 (mu (nN fun c hc=>uX hc) S.row))
end
end Go.Proofs.YtmickljjofbmiaaGreatDoor
