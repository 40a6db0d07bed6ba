/- CorePlay's loop over acts is told, if each round's look is right. No condition. -/
import Derived.Test.YtgcbnjpeifigaaaGreatDoorJTr
set_option maxRecDepth 100000
namespace Go.Proofs.YtgcbnjpeifigaaaGreatDoor
open Go Go.Proofs
theorem Al{α β:Type}{ρ:Env}{f:α->β}:∀ {r:R α},(R.map f r).ag ρ=(r.ag ρ).map f
 |.ok x=>rfl
 |.stuck s=>rfl
 |.br c a b=>by
  show(R.br c (R.map f a) (R.map f b)).ag ρ=_;simp only[R.ag];split
  ·exact Al
  ·exact Al
theorem qq{ρ:Env}{q:QS}:∀ {t:bU},ve q t=true->∃ e fr st,t.ag ρ=some (e,fr,st)/\Ou q e (ep fr) st=true
 |.ok (e,fr,st),h=>⟨e,fr,st,rfl,h⟩
 |.stuck s,h=>by cases h
 |.br c a b,h=>by
  unfold ve at h;split at h
  ·rename_i h1;simp only[R.ag];split
   ·exact qq h1
   ·exact qq h
  ·cases h
theorem apn(ρ:Env):∃ k,k<9/\ai ρ (kdF k):=by
 by_cases h:1<=NU.den ρ/\NU.den ρ<=7
 ·obtain⟨h1,h2⟩:=h;obtain⟨k,hk⟩:=qkv (show 0<=NU.den ρ by omega);have one:(X.eq NU (nl k)).tt ρ=true:=by
   rw[bZ,hk];exact beq_self_eq_true _
  have two:∀ {x:X} {b:Bool},x.tt ρ=b->k=4->ai ρ [(.eq NU (.lit 4),true),(x,b)]:=by
   intro x b hx e f hf;subst e;simp only[List.mem_cons,qk6,or_false]at hf;rcases hf with rfl|rfl
   ·exact one
   ·exact hx
  have go:∀ n,n=k->kdF n=[(.eq NU (nl n),true)]->ai ρ (kdF n):=by
   intro n e h f hf;rw[h]at hf;have hf:=qq4.1 hf;subst hf e;exact one
  rcases(show k=1\/k=2\/k=3\/k=4\/k=5\/k=6\/k=7 by omega)with e|e|e|e|e|e|e
  ·exact⟨1,by omega,go 1 e.symm rfl⟩
  ·exact⟨2,by omega,go 2 e.symm rfl⟩
  ·exact⟨3,by omega,go 3 e.symm rfl⟩
  ·cases hp:pkX.tt ρ with
   |true=>exact⟨4,by omega,two hp e⟩
   |false=>exact⟨8,by omega,two hp e⟩
  ·exact⟨5,by omega,go 5 e.symm rfl⟩
  ·exact⟨6,by omega,go 6 e.symm rfl⟩
  ·exact⟨7,by omega,go 7 e.symm rfl⟩
 ·refine⟨0,by omega,?_⟩;have go:∀ n:Nat,1<=n->n<=7->(X.eq NU (nl n)).tt ρ=false:=by
   intro n h1 h2;rw[bZ];cases hb:(NU.den ρ==(nl n).den ρ)with
   |false=>rfl
   |true=>
    have hb:=eq_of_beq hb;have:NU.den ρ=(n:Int):=hb;omega
  intro f hf;unfold kdF at hf;simp only[List.mem_cons,qk6,or_false]at hf;rcases hf with rfl|rfl|rfl|rfl|rfl|rfl|rfl
  ·exact go 1 (by omega) (by omega)
  ·exact go 2 (by omega) (by omega)
  ·exact go 3 (by omega) (by omega)
  ·exact go 4 (by omega) (by omega)
  ·exact go 5 (by omega) (by omega)
  ·exact go 6 (by omega) (by omega)
  ·exact go 7 (by omega) (by omega)
noncomputable section
def LJ:LoopI:=⟨none,Jc,⟨Nb,[]⟩,JSt,.ok (OJ.ex,OJ.pat.fr,⟨OJ.pat.st.h,OJ.pat.st.n,RD⟩)⟩
def r15:List Nat:=[0,1,2,3,4,5,6,7,8,9,10,11,12,13,14]
end
theorem Tg:Pv r15=true:=by kernel_rfl
theorem ab8:FI r15 r15=true:=by kernel_rfl
theorem U7:Qs=true:=by kernel_rfl
theorem aoB:y8 7 OJ.pat=true:=by kernel_rfl
theorem Iw{j:Nat}(h:j<15):j∈r15:=by
 unfold r15;simp only[List.mem_cons,qk6,or_false];omega
theorem Ji:∀ {l:List Nat},Pv l=true->∀ j∈l,kL 7 LJ (nc (aN j))=true
 |i::l,h,j,hj=>by
  unfold Pv at h;split at h
  ·rename_i h1;rcases List.mem_cons.1 hj with rfl|hj
   ·exact h1
   ·exact Ji h j hj
  ·cases h
theorem Ay{j:Nat}:∀ {l:List Nat},um j l=true->bX Y8 (nc (aN j)).kn OJ.pat.kn=true/\∀ i∈l,bX Y8 (nc (aN j)).kn (nc (aN i)).kn=true
 |[],h=>⟨h,fun i hi=>by cases hi⟩
 |k::l,h=>by
  unfold um at h;split at h
  ·rename_i h1;obtain⟨h2,h3⟩:=Ay h;exact⟨h2,fun i hi=>(List.mem_cons.1 hi).elim (fun e=>e▸h1) (h3 i)⟩
  ·cases h
theorem DI{m:List Nat}:∀ {l:List Nat},FI m l=true->∀ j∈l,um j m=true
 |i::l,h,j,hj=>by
  unfold FI at h;split at h
  ·rename_i h1;rcases List.mem_cons.1 hj with rfl|hj
   ·exact h1
   ·exact DI h j hj
  ·cases h
theorem anG{q:QS}(hn:q.n<=4):aN (5*q.s+q.n)=q:=by
 obtain⟨s,n⟩:=q;have hn:n<=4:=hn;show(⟨(5*s+n) / 5,(5*s+n) % 5⟩:QS)=⟨s,n⟩;congr 1<;>omega
theorem qQ{ρ:Env}:∀ {l:List X},Uq l=true->∀ i,aS ρ l i=0
 |[],_,i=>rfl
 |x::l,h,i=>by
  unfold Uq at h;split at h
  ·rename_i h1;cases i with
   |zero=>
    show x.den ρ=0;rw[X.beq_eq h1];rfl
   |succ i=>exact qQ h i
  ·cases h
def uO(tm:List V)(i:Nat):Option V:=if 40<=i then tm[i-40]? else none
theorem Jk:∀ {l:List V} {o i:Nat},i<l.length->(RL o l)[i]?=some (.any (40+(o+i)))
 |[],o,i,h=>by simp at h
 |x::l,o,0,h=>rfl
 |x::l,o,i+1,h=>by
  have:=Jk (l:=l) (o:=o+1) (i:=i) (by simpa using h);rw[show o+(i+1)=o+1+i by omega,<-this];rfl
theorem Jl:∀ {l:List V} {o:Nat},(RL o l).length=l.length
 |[],_=>rfl
 |x::l,o=>by
  show(RL (o+1) l).length+1=l.length+1;rw[Jl]
set_option maxRecDepth 20000 in
theorem Wg:uj Zd=true:=by kernel_rfl
theorem abm{ρ0 ρ1:Env}(A:eC tK ρ0 ρ1){fr:Fr}{st:St} (hdf:fr.df=[]) (hfx:pb st Zd=true) (hlen:fr.tm.length=Nb.length):FitS Y8 ρ1 ρ0 OJ.pat fr st id (uO fr.tm):=by
 have hu:∀ i,i<22->uO fr.tm i=none:=fun i hi=>by
  unfold uO;rw[if_neg (by omega)]
 refine⟨fun i o hm=>?_,fun i j o o' _ _ e=>e,fun _ f hf=>absurd (show f∈[]from hf) qk6,fun i _ hi=>⟨hu i hi,rfl⟩,fun π1=>?_,rfl,hdf⟩
 ·obtain⟨g1,g2,g3⟩:=sX Wg i o hm;refine⟨hu i g2,o,pW hfx i o hm,rfl,fun π1 ob ho=>?_⟩;have E:=σ0_rel A.symm;have:=uG (π1:=π1) E (i:=i) (by rfl) g1 ho;rw[reN_σ0]at this;exact ak.Bx (show π1 i=Ai id (uO fr.tm) ρ1 π1 i by rw[cQ (hu i g2)];rfl) (fun b hb=>show π1 b=Ai id (uO fr.tm) ρ1 π1 b by rw[cQ (hu b (g3 b hb))];rfl) this
 ·show V.ae ρ0 _ (RL 0 Nb)=_;rw[aU,aU];refine List.ext_getElem? fun i=>?_
  rw[qk5,qk5];by_cases hi:i<fr.tm.length
  ·have hget:=Jk (o:=0) (l:=Nb) (i:=i) (by omega);rw[qk7]at hget;rw[hget,qq0 hi];show some ((Ai id (uO fr.tm) ρ1 π1 (40+i)).3)=some _;have hu:uO fr.tm (40+i)=some fr.tm[i]:=by
    unfold uO;rw[if_pos (by omega),show 40+i-40=i by omega,qq0 hi]
   rw[v9 hu]
  ·rw[qkj (by rw[Jl];omega),qkj (by omega)];rfl
section
variable {ρ0:Env} {W:World} (hro:aZ ρ0.ro) (hW:∀ x∈aj,W.heap[x.1]?=some (ρ0.ro x.1))
include hro hW
omit hro hW in
theorem aq4{q:QS}{S:KS}(hO:S.Ok ρ0 q):∃ r,r<2/\ai (af ρ0 S) (rsF r):=by
 by_cases h:S.rf=1
 ·refine⟨1,by omega,fun f hf=>?_⟩;have hf:=qq4.1 hf;subst hf;show(X.eq (.var 240) (.lit 1)).tt (af ρ0 S)=true;rw[bZ];show(S.rf==1)=true;rw[h];rfl
 ·refine⟨0,by omega,fun f hf=>?_⟩;rcases List.mem_cons.1 hf with rfl|hf
  ·show(X.eq (.var 240) (.lit 1)).tt (af ρ0 S)=false;rw[bZ];show(S.rf==1)=false;cases hb:(S.rf==1)with
   |false=>rfl
   |true=>exact absurd (eq_of_beq hb) h
  ·have hf:=qq4.1 hf;subst hf;show(X.eq (.var 140) (.lit 0)).tt (af ρ0 S)=true;rw[bZ];show(S.ax==0)=true;rw[hO.res h];rfl
theorem Xf{q:QS}{S:KS}(hO:S.Ok ρ0 q)(hJ:ai ρ0 RD){k r0:Nat}(hchk:ao q k r0=true):∃ e fr st,((ev (cxJ q) 4001).code none Jc (nc q).fr (stK q k r0)).ag (af ρ0 S)=some (e,fr,st) /\
  (ai (af ρ0 S) st.pc->(e=.normal/\∃ q' S',q'.s<=2/\q'.n<=4/\S'.Ok ρ0 q'/\S'.ix=S.ix+1/\S.ix<ρ0.v 50/\∃ r u,FitS Y8 (af ρ0 S) (af ρ0 S') (nc q') fr st r u)\/(e=.exit 0/\∃ r u,FitS Y8 (af ρ0 S) ρ0 OJ.pat fr st r u)):=by
 unfold ao runK at hchk;obtain⟨e,fr,st,hsel,hlf⟩:=qq (ρ:=af ρ0 S) hchk;have hrel:=(qX (cxJ q) 4001).code none Jc ⟨Tm.of (nc q).fr.tm,[]⟩ (stK q k r0);have hfr:ep ⟨Tm.of (nc q).fr.tm,[]⟩=(nc q).fr:=by
  unfold ep;rw[abW];rfl
 rw[hfr]at hrel;refine⟨e,ep fr,st,?_,fun hp=>?_⟩
 ·rw[<-hrel,Al,hsel];rfl
 ·unfold Ou at hlf;split at hlf
  ·split at hlf
   ·rename_i q' d m hparts;split at hlf
    ·rename_i hfit;have hfit2:=hfit;unfold Vf amU at hfit2;obtain⟨_,_,_,_,_,a6⟩:=ar hfit2;obtain⟨e1,e2,e3,_⟩:=ar a6;have hs:=qqx e1;have hn:=qqx e2;obtain⟨t1,t2,t3⟩:=YR hro hW hO hp hs hn e3 hlf;exact .inl ⟨rfl,q',_,hs,hn,t1,rfl,t3,_,_,Vk (qe ρ0 S) hJ hp hfit t2 t1.st⟩
    ·cases hlf
   ·cases hlf
  ·split at hlf
   ·rename_i hdf;split at hlf
    ·rename_i hfx;exact .inr ⟨rfl,_,_,abm (qe ρ0 S) hdf hfx (qqq hlf)⟩
    ·cases hlf
   ·cases hlf
  ·cases hlf
omit hro hW in
theorem U6(hJ:ai ρ0 RD):∃ S:KS,S.Ok ρ0 ⟨0,0⟩/\∃ r u,FitS Y8 ρ0 (af ρ0 S) (nc ⟨0,0⟩) ⟨Nb,[]⟩ JSt r u:=by
 have h:=U7;unfold Qs at h;split at h
 ·rename_i q d m hparts;split at h
  ·rename_i hfit;obtain⟨a1,a2,a3,a4,a5,a6⟩:=ar h;obtain⟨b1,b2,b3,_⟩:=ar a3;obtain⟨c1,c2,c3,_⟩:=ar a4;obtain⟨s,n⟩:=q;obtain rfl:s=0:=qqq a1;obtain rfl:n=0:=qqq a2;have L:d.Len ⟨0,0⟩:=⟨qqq c1,qqq c2,qqq c3,(fun z=>by cases z),qqq a5,qqq a6⟩
   have A0:eC tK ρ0 ρ0:=⟨fun _ _=>rfl,fun _ _=>rfl,rfl,rfl,rfl,rfl,rfl,rfl⟩
   have F:=Vk (fr:=⟨Nb,[]⟩) (st:=JSt) A0 hJ hJ hfit L (fun k hk=>absurd hk (Nat.not_lt_zero k));refine⟨d.ks ρ0 0 (.lit 0),⟨⟨⟨?_,?_,by simp[KS.hw],?_,?_,?_⟩,am3⟩,rfl,Nat.zero_le 4,Nat.zero_le 2,?_,(fun k hk=>absurd hk (Nat.not_lt_zero k)),(fun k hk=>absurd hk (Nat.not_lt_zero k)),(fun z=>absurd (show(0:Nat)=2 from z) (by decide)),fun _=>?_⟩,_,_,F⟩
   ·have h1:=hJ (.le (.lit 0) (.var 42),true) (by unfold RD;simp);have h2:=hJ (.le (.var 42) (.lit 3),true) (by unfold RD;simp);have h1:(X.le (.lit 0) (.var 42)).tt ρ0=true:=h1;have h2:(X.le (.var 42) (.lit 3)).tt ρ0=true:=h2;rw[cT]at h1 h2;exact⟨of_decide_eq_true h1,of_decide_eq_true h2⟩
   ·show 0<=aS ρ0 d.hx 0/\aS ρ0 d.hx 0<=_;rw[qQ b1];omega
   ·intro z hz;obtain⟨i,_,rfl⟩:=qzx.1 hz;show 0<=aS ρ0 d.hx (i+1)/\aS ρ0 d.hx (i+1)<=_;rw[qQ b1];omega
   ·show((List.range 32).map fun i=>aS ρ0 d.hx (i+1))[0]?=some 0;simp only[qk5];rw[show(List.range 32)[0]?=some 0 from rfl];show some (aS ρ0 d.hx (0+1))=some 0;rw[qQ b1]
   ·show 0<=aS ρ0 d.hx 33/\aS ρ0 d.hx 33<=4;rw[qQ b1];omega
   ·show 0<=aS ρ0 d.rg 12/\aS ρ0 d.rg 12<=3;rw[qQ b2];omega
   ·show d.ax.den ρ0=0;rw[X.beq_eq b3];rfl
  ·cases h
 ·cases h
theorem abN{jK:Cx}(hng:jK.ng=7) (hchk:∀ j k r,j<15->k<9->r<2->ao (aN j) k r=true)
  (hsm:∀ q S,q.s<=2->q.n<=4->S.Ok ρ0 q->SumOk Tryz.prog (cxJ q) (af ρ0 S)):ij Tryz.prog jK ρ0 LJ:=by
 by_cases hJ:ai ρ0 RD
 ·refine Qa (ι:={j:Nat // j<15}) (cxB:=fun j=>cxJ (aN j.1)) (N:=4001) (ng:=7) (x:=0) (O:=OJ) (Is:=fun j=>nc (aN j.1)) (fun j ρ1=>∃ S:KS,ρ1=af ρ0 S/\S.Ok ρ0 (aN j.1)) (fun ρ1=>(ρ1.v 50-ρ1.v 100).toNat)
   ?_ (fun _=>rfl) hng rfl (fun j=>Ji Tg j.1 (Iw j.2)) aoB (by decide) rfl rfl (fun _=>?_) ?_
  ·rintro j ρ1 ⟨S,rfl,hO⟩;exact(sD bG dh dV (hsm _ S hO.s hO.le hO) 4001).1
  ·obtain⟨S,hO,r,u,F⟩:=U6 hJ;exact⟨⟨0,Nat.zero_lt_succ 14⟩,af ρ0 S,⟨S,rfl,hO⟩,r,u,F⟩
  ·rintro j ρ1 ⟨S,rfl,hO⟩ hp;obtain⟨k,hk8,hk⟩:=apn (af ρ0 S);obtain⟨r0,hr2,hr⟩:=aq4 hO;obtain⟨e,fr,st,hsel,hcase⟩:=Xf hro hW hO hJ (hchk j.1 k r0 j.2 hk8 hr2);refine⟨kdF k++(rsF r0++(nc (aN j.1)).pc),e,fr,st,ai.FL hk (ai.FL hr hp),hsel,fun hp2=>?_⟩;have ho:=Ay (DI ab8 j.1 (Iw j.2));rcases hcase hp2 with⟨he,q',S',h1,h2,h3,h4,h5,r,u,F⟩|⟨he,r,u,F⟩
   ·have hj':5*q'.s+q'.n<15:=by omega
    have eq':=anG (q:=q') h2;refine .inl ⟨he,⟨5*q'.s+q'.n,hj'⟩,af ρ0 S',⟨S',rfl,by rw[eq'];exact h3⟩,?_,ho.2 _ (Iw hj'),r,u,by rw[eq'];exact F⟩;show(ρ0.v 50-S'.ix).toNat<(ρ0.v 50-S.ix).toNat;omega
   ·exact .inr ⟨he,ho.1,r,u,F⟩
 ·intro res hres S π0 w a ro n hh;exact absurd hh.pc hJ
end
end Go.Proofs.YtgcbnjpeifigaaaGreatDoor
