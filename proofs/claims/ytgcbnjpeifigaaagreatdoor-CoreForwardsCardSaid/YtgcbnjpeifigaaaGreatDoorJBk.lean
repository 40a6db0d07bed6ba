/- CorePlay: the calls of a buffer and of a row of stores come to their trees (the first). CorePlay: what is told of a buffer's All, Head, Pop, Push. CorePlay: what is told of a buffer's Head, Pop, Push, of the document's Check. CorePlay: what is told of Act, Commit, Amo, of the program and of the document. No condition. -/
import Derived.Test.YtgcbnjpeifigaaaGreatDoorJBo
import Derived.Test.YtgcbnjpeifigaaaGreatDoorJTr
set_option maxRecDepth 100000
namespace Go.Proofs.YtgcbnjpeifigaaaGreatDoor
open Go Go.Proofs
theorem atC:eI (fun f=>eI (fun n=>cw (aqT f n) (eA cxB 39 (pB f n [] [])) (.ok (asU n))) r5) r4=true:=by kernel_rfl
theorem apj:eI (fun f=>eI (fun n=>cw [oB (jZ f n)] (eA cxB 46 (pB f n [] [])) (.ok (Rv n))) r5) r4=true:=by kernel_rfl
theorem atM:eI (fun f=>eI (fun n=>cw [oB (Mr f (ao4 (n+1)) ((f+1) % 4) n)] (eA cxB 50 (pB f (n+1) [] [])) (.ok (Rv (n+1)))) r4) r4=true:=by kernel_rfl
theorem atN:eI (fun f=>eI (fun n=>eI (fun w=>cw [oB (Mr f (amh n w) f (n+1))] (eA cxB 128 (aqU f n w)) (.ok (i64 (.lit 0)))) w3) r4) r4=true:=by kernel_rfl
theorem atE:eI (fun f=>eI (fun w=>cw [oB (jZ f 4)] (eA cxB 128 (aqU f 4 w)) (.ok (i64 (.lit 240)))) w3) r4=true:=by kernel_rfl
theorem atD:eI (fun w=>cw [] (eA cxB 140 (aup w)) (.ok (i64 (.lit 0)))) w3=true:=by kernel_rfl
open Go.RowKit
theorem eG{st:St}{b o n:Nat}(h:ss st b o n=true):st.h.get b=some (.cells (s7 o n) im none):=by
 unfold ss at h;split at h
 ·rename_i c e hg;split at h
  ·rename_i he;rw[hg,qqq he,V.aR _ _ h]
  ·cases h
 ·cases h
theorem an2{ρ:Env} {s:List V->St->R (V×St)} {args:List V} {st:St} {x:V×St} (h:(sG s args st).ag ρ=some x):bB aj st.h=true/\(s args st).ag ρ=some x:=by
 unfold sG at h;split at h
 ·rename_i h1;exact⟨h1,h⟩
 ·simp[R.ag]at h
def lq(c:Cx)(ρ:Env)(f:FuncId) (s:List V->St->R (V×St)):Prop:=∀ (args:List V) (st:St) (v:V) (st':St),(s args st).ag ρ=some (v,st')->bB aj st.h=true->∀ (S:Nat->Prop) (π0:Pl) (w:World) (ac:List Value) (n:Nat),b8 c ρ S π0 st w->bz ρ S π0 args ac->CallsIn Fence.wide n Tryz.prog f ac.toArray w (EPost ρ S π0 st w (.ret v,st'))
theorem lq.at{c:Cx}{ρ:Env}{f:FuncId} {s:List V->St->R (V×St)} (h:lq c ρ f s):fM Tryz.prog c ρ f (sG s):=by
 intro args st v st' hs S π0 w ac n hh ha;obtain⟨h1,h2⟩:=an2 hs;exact h args st v st' h2 h1 S π0 w ac n hh ha
theorem yu{ρ:Env}:SumOk Tryz.prog cxB ρ:=yv Ur
section
variable {ρ0:Env} {S:KS} {q:QS}
theorem IV(hO:S.Ok ρ0 q):StsOk S.sx q.n:=by
 refine⟨fun k hk=>(hO.st k hk).rg.1,fun k hk=>?_,fun k hk=>(hO.st k hk).rg.2⟩;have:=(hO.st k hk).w;omega
theorem mG(hO:S.Ok ρ0 q):RingOk S.sx S.rg (S.rg 12).toNat q.n:=by
 have h:=hO.first
 exact⟨hO.le,by omega,by omega,hO.ring,IV hO⟩
theorem jq(hO:S.Ok ρ0 q){π:Pl}{r:List V}:∀ {n k:Nat},k+n<=q.n->V.ae (af ρ0 S) π (qL k n r)=M8 S.sx k n++V.ae (af ρ0 S) π r
 |0,_,_=>rfl
 |n+1,k,h=>by
  have hle:=hO.le;have ih:=jq hO (π:=π) (r:=r) (n:=n) (k:=k+1) (by omega);have s:=IV hO;show Value.int .u32 (IntKind.u32.wrap ((af ρ0 S).v (400+3*k)))::.int .i64 ((af ρ0 S).v (401+3*k))::.int .u32 (IntKind.u32.wrap ((af ρ0 S).v (402+3*k)))::V.ae (af ρ0 S) π (qL (k+1) n r)=_;rw[ih,zC ρ0 S (by omega),show 401+3*k=400+(3*k+1) by omega,zC ρ0 S (by omega),show 402+3*k=400+(3*k+2) by omega,zC ρ0 S (by omega),fy (s.a k (by omega)),fy (s.v k (by omega))];rfl
theorem MN(hO:S.Ok ρ0 q){k:Nat}(h:k<q.n){π:Pl}:V.ae (af ρ0 S) π (stX k)=[.int .u32 (S.sx (3*k)),.int .i64 (S.sx (3*k+1)),.int .u32 (S.sx (3*k+2))]:=by
 have:=jq hO (π:=π) (r:=[]) (n:=1) (k:=k) (by omega);have e:qL k 1 []=stX k:=rfl;rw[e]at this;rw[this];rfl
end
section
variable {c:Cx} {ρ:Env} {S:Nat→Prop} {π0:Pl} {st st':St} {w:World}
theorem FJ(hng:c.ng=7)(hro:aZ ρ.ro){sx rg:Nat->Int}{f n b o:Nat}(hR:RingOk sx rg f n) (hv:∀ i,i<13->ρ.v (o+i)=rg i) (hb:st.h.get b=some (.cells (s7 o n) im none)) (hthere:bB aj st.h=true) {cs:List V} (hcs:∀ π,V.ae ρ π cs=M8 sx 0 n) {v:V}
  (hs:(RJ n cs st).ag ρ=some (v,st')) (hh:b8 c ρ S π0 st w) {ac:List Value} (ha:bz ρ S π0 [.ptr b 0] ac) {m:Nat}:CallsIn Fence.wide m Tryz.prog 39 ac.toArray w (EPost ρ S π0 st w (.ret v,st')):=by
 have E:EnvB (gq ρ sx rg 0 0 0 fun _=>0) sx rg:=ky;have hk:=a8 (a8 atC f (fR hR.fl)) n (ni hR.le);have key:∀ {tv:V} {h':H},(∀ π,tv.ab ρ π=(asU n).ab (gq ρ sx rg 0 0 0 fun _=>0) (fun i=>π (rn [(14,b)] st.n 100 i)))->(∀ j o',h'.get j=some o'->(j=b/\o'=.cells (s7 o n) im none)\/(∃ i cc ce e wd,(i,.cells cc e wd)∈(match n with|0=>[]|n=>[(100+(3+3*n),ak.cells (UA 0 n []) pe (some 3))])/\100<=i/\j=i-100+st.n/\o'=.cells ce e wd/\∀ π π',V.ae (gq ρ sx rg 0 0 0 fun _=>0) π' cc=V.ae ρ π ce)\/(j≠b/\st.h.get j=some o'))->
   CallsIn Fence.wide m Tryz.prog 39 ac.toArray w (EPost ρ S π0 st w (.ret tv,{h:=h',n:=st.n+bm,pc:=st.pc})):=fun hv' hget=>
  nA (ρ:=ρ) (ρ':=gq ρ sx rg 0 0 0 fun _=>0) hng dh dV rfl yu rfl hro Tryz.func39 hb (fun π=>du hv) E hR hthere rfl ai.eL (fun _ _=>rfl) (ring':=jZ f n) (c':=s7 o n) hk rfl hv' (fun π π'=>by rw[du hv,jn E hR]) hget hh ha
 cases n with
 |zero=>
  simp only[RJ,sJ,R.ag,qqk,qqv]at hs;obtain⟨rfl,rfl⟩:=hs;exact key (fun π=>rfl) fun j o' hj=>by
   by_cases e:j=b
   ·subst e;rw[hb]at hj;exact .inl ⟨rfl,(qqz hj).symm⟩
   ·exact .inr (.inr ⟨e,hj⟩)
 |succ n=>
  have e0:RJ (n+1) cs st=.ok (.slice (st.n+(3+3*(n+1))) 0 (n+1) (.room (st.n+(3+3*(n+1))) 0 (n+1)),{st with h:=st.h.set (st.n+(3+3*(n+1))) (.cells cs pe (some 3)),n:=st.n+bm}):=rfl;rw[e0]at hs;simp only[R.ag,qqk,qqv]at hs;obtain⟨rfl,rfl⟩:=hs;have hrn:rn [(14,b)] st.n 100 (100+(3+3*(n+1)))=st.n+(3+3*(n+1)):=by
   unfold rn;rw[show Nat.blt (100+(3+3*(n+1))) 100=false by
    cases hb:Nat.blt (100+(3+3*(n+1))) 100 with
    |false=>rfl
    |true=>have:=qqx hb;omega]
   dsimp only;omega
  refine key (fun π=>?_) fun j o' hj=>?_
  ·have:∀ (b1 b2:Nat) (π1 π2:Pl),π1 b1=π2 b2->(V.slice b1 0 (n+1) (.room b1 0 (n+1))).ab ρ π1=(V.slice b2 0 (n+1) (.room b2 0 (n+1))).ab (gq ρ sx rg 0 0 0 fun _=>0) π2:=by
    intro b1 b2 π1 π2 e;simp only[V.ab,Cp.ab,e]
   exact this _ _ _ _ (by rw[hrn])
  ·by_cases e:j=st.n+(3+3*(n+1))
   ·subst e;rw[T.aP]at hj;obtain rfl:=qqz hj;refine .inr (.inl ⟨100+(3+3*(n+1)),UA 0 (n+1) [],cs,pe,some 3,qq1 ..,by omega,by omega,rfl,fun π π'=>?_⟩);rw[hcs,uq E hR.ok hR.le (by omega)];exact qk8 _
   ·rw[T.aB _ _ (Ne.symm e)]at hj;by_cases e:j=b
    ·subst e;rw[hb]at hj;exact .inl ⟨rfl,(qqz hj).symm⟩
    ·exact .inr (.inr ⟨e,hj⟩)
end
def sU(sx:Nat->Int)(n:Nat)(a w v:Int)(i:Nat):Int:=if i<3*n then sx i else if i=3*n then a else if i=3*n+1 then w else v
section
variable {sx rg:Nat→Int} {n:Nat}
theorem S0{a w v:Int}{f:Nat}(h:RingOk sx rg f n)(hn:n<4)(ha:0<=a/\a<=4294967295)(hw:0<=w/\w<=255)(hv:0<=v/\v<=4294967295):RingOk (sU sx n a w v) (nd rg n a w v) f (n+1):=by
 have hf:=h.fl;have e0:sU sx n a w v (3*n)=a:=by unfold sU;rw[if_neg (by omega),if_pos rfl]
 have e1:sU sx n a w v (3*n+1)=w:=by unfold sU;rw[if_neg (by omega),if_neg (by omega),if_pos rfl]
 have e2:sU sx n a w v (3*n+2)=v:=by unfold sU;rw[if_neg (by omega),if_neg (by omega),if_neg (by omega)]
 have es:∀ i,i<3*n->sU sx n a w v i=sx i:=fun i hi=>if_pos hi
 have hfirst:=h.first
 have hfn:(rg 12).toNat=f:=by omega
 refine⟨by omega,hf,by unfold nd;rw[if_pos rfl];exact hfirst,fun k hk c hc=>?_,?_⟩
 ·unfold nd;rw[if_neg (by omega),hfn];by_cases hkn:k=n
  ·subst hkn;rw[if_pos (by omega)];obtain rfl|rfl|rfl:c=0\/c=1\/c=2:=by omega
   ·rw[if_pos (by omega),Nat.add_zero,e0]
   ·rw[if_neg (by omega),if_pos (by omega),e1]
   ·rw[if_neg (by omega),if_neg (by omega),e2]
  ·have:=Ms (f:=f) (n:=n) (k:=k) (by omega) (by omega);rw[if_neg (by omega),es _ (by omega)];exact h.ring k (by omega) c hc
 ·refine⟨fun k hk=>?_,fun k hk=>?_,fun k hk=>?_⟩<;>by_cases hkn:k=n
  ·rw[hkn,e0];exact ha
  ·rw[es _ (by omega)];exact h.ok.a k (by omega)
  ·rw[hkn,e1];exact hw
  ·rw[es _ (by omega)];exact h.ok.w k (by omega)
  ·rw[hkn,e2];exact hv
  ·rw[es _ (by omega)];exact h.ok.v k (by omega)
theorem Xb{f:Nat} (h:RingOk sx rg f (n+1)):RingOk (fun i=>sx (i+3)) (qv rg) ((f+1) % 4) n:=by
 have hf:=h.fl;have hle:=h.le;have hfirst:=h.first
 have hfn:(rg 12).toNat=f:=by omega
 refine⟨by omega,by omega,by unfold qv;rw[if_pos rfl];omega,fun k hk c hc=>?_,⟨fun k hk=>?_,fun k hk=>?_,fun k hk=>?_⟩⟩
 ·unfold qv;rw[if_neg (by omega),if_neg (by omega)];have:=h.ring (k+1) (by omega) c hc;rw[show 3*(k+1)+c=3*k+c+3 by omega,show(f+(k+1)) % 4=((f+1) % 4+k) % 4 by omega]at this;exact this
 ·have:=h.ok.a (k+1) (by omega);rw[show 3*(k+1)=3*k+3 by omega]at this;exact this
 ·have:=h.ok.w (k+1) (by omega);rw[show 3*(k+1)+1=3*k+1+3 by omega]at this;exact this
 ·have:=h.ok.v (k+1) (by omega);rw[show 3*(k+1)+2=3*k+2+3 by omega]at this;exact this
theorem Fj{sx':Nat->Int}:∀ {m k:Nat},(∀ i,3*k<=i->i<3*(k+m)->sx i=sx' i)->M8 sx k m=M8 sx' k m
 |0,_,_=>rfl
 |m+1,k,h=>by
  unfold M8;rw[h (3*k) (by omega) (by omega),h (3*k+1) (by omega) (by omega),h (3*k+2) (by omega) (by omega),Fj fun i h1 h2=>h i (by omega) (by omega)]
theorem Fk:∀ {m k:Nat},M8 (fun i=>sx (i+3)) k m=M8 sx (k+1) m
 |0,_=>rfl
 |m+1,k=>by
  unfold M8;rw[Fk];rfl
theorem MM:∀ {m k:Nat},M8 sx k (m+1)=M8 sx k m++[.int .u32 (sx (3*(k+m))),.int .i64 (sx (3*(k+m)+1)),.int .u32 (sx (3*(k+m)+2))]
 |0,k=>rfl
 |m+1,k=>by
  rw[M8,MM (m:=m) (k:=k+1),show k+1+m=k+(m+1) by omega];rfl
end
section
variable {c:Cx} {ρ0:Env} {S:KS} {q:QS}
variable {W:World} (hro:aZ ρ0.ro) (hW:∀ x∈aj,W.heap[x.1]?=some (ρ0.ro x.1))
include hro hW
theorem ajC(hng:c.ng=7)(hO:S.Ok ρ0 q):lq c (af ρ0 S) 39 (anh q.n):=by
 intro args st v st' hs hthere S1 π0 w ac n hh ha;have hle:=hO.le;unfold anh at hs;split at hs;rotate_left
 ·simp[R.ag]at hs
 rename_i b;split at hs
 ·-- as it was
  split at hs
  ·rename_i hb;exact FJ (ρ:=af ρ0 S) hng hro (mG hO) (o:=200) (fun i hi=>zA ρ0 S hi) (eG hb) hthere (fun π=>by
    rw[jq hO (by omega)];exact qk8 _) hs hh ha
  ·simp[R.ag]at hs
 ·-- behind a push
  generalize hw:tQ st.pc=wd at hs;dsimp only at hs;split at hs
  ·rename_i h1;obtain⟨b1,b2,b3,_⟩:=ar h1;have hn4:=qqx b1;rw[<-hw]at b3;obtain⟨hc,hk2,hkw⟩:=ry hh.pc b3 fun hc=>cC hro hW hO.hw hc
   have haO:(S.acc ρ0).Ok 16:=cC hro hW hO.hw hc;have hst:=Uk hro hW hO hc hk2;have hwr:=hst.w;have hd0:np.den (af ρ0 S)=(S.acc ρ0).ad:=fU rfl haO.ad;have hd2:I0.den (af ρ0 S)=(S.acc ρ0).v:=oY rfl haO.v;refine FJ (ρ:=af ρ0 S) hng hro (S0 (a:=(S.acc ρ0).ad) (w:=(S.acc ρ0).w) (v:=(S.acc ρ0).v) (mG hO) (by omega) haO.ad (by omega) haO.v) (o:=500) (fun i hi=>?_) (eG b2) hthere (fun π=>?_) hs hh ha
   ·rw[VQ ρ0 S hi,hO.n]
   ·rw[jq hO (by omega),MM,qk7,show M8 (sU S.sx q.n (S.acc ρ0).ad (S.acc ρ0).w (S.acc ρ0).v) 0 q.n=M8 S.sx 0 q.n from Fj fun i _ hi=>if_pos (by omega)];congr 1;have e0:sU S.sx q.n (S.acc ρ0).ad (S.acc ρ0).w (S.acc ρ0).v (3*q.n)=(S.acc ρ0).ad:=by unfold sU;rw[if_neg (by omega),if_pos rfl]
    have e1:sU S.sx q.n (S.acc ρ0).ad (S.acc ρ0).w (S.acc ρ0).v (3*q.n+1)=(S.acc ρ0).w:=by unfold sU;rw[if_neg (by omega),if_neg (by omega),if_pos rfl]
    have e2:sU S.sx q.n (S.acc ρ0).ad (S.acc ρ0).w (S.acc ρ0).v (3*q.n+2)=(S.acc ρ0).v:=by unfold sU;rw[if_neg (by omega),if_neg (by omega),if_neg (by omega)]
    rw[e0,e1,e2,<-hd0,<-hd2,hkw,hw];rfl
  ·simp[R.ag]at hs
 ·-- behind a pop
  split at hs
  ·simp[R.ag]at hs
  ·rename_i m hm;split at hs
   ·rename_i hb;have hr:=mG hO;rw[hm]at hr;refine FJ (ρ:=af ρ0 S) hng hro (Xb hr) (o:=530) (fun i hi=>VP ρ0 S hi) (eG hb) hthere (fun π=>?_) hs hh ha;rw[jq hO (by omega),Fk];exact qk8 _
   ·simp[R.ag]at hs
 ·simp[R.ag]at hs
end
section
variable {cx cx0:Cx} {ρ ρ':Env} {S:Nat→Prop} {π0:Pl} {st:St} {w:World}
theorem Ej{mb:Nat}(hng:cx.ng=7)(htt:nu Tryz.prog cx0.tt)(hft:sl Tryz.prog cx0.ft)(hng0:cx0.ng=7)(hsm:SumOk Tryz.prog cx0 ρ')(hr:ρ'.ro=ρ.ro)(hro:aZ ρ'.ro){f:FuncId}{fn:Func} (hfn:Tryz.prog.funcs[f]?=some fn) {args0 args:List V} {pc0:PC} (hthere:bB aj st.h=true) (hnm:V.gz args0=[])
  (hpc:ai ρ' pc0) (hargs:∀ π π',V.ae ρ π args=V.ae ρ' π' args0) {t:R V} (hk:jE mb [] (eA cx0 f ⟨args0,[],100,pc0⟩) t=true) {v0 tv:V} (hsel:t.ag ρ'=some v0) (hv:∀ π π',tv.ab ρ π=v0.ab ρ' π')
  (hh:b8 cx ρ S π0 st w) {ac:List Value} (ha:bz ρ S π0 args ac) {n:Nat}:CallsIn Fence.wide n Tryz.prog f ac.toArray w (EPost ρ S π0 st w (.ret tv,{h:=st.h,n:=st.n+mb,pc:=st.pc})):=by
 refine tV (us:=[]) (r:=[]) (p:=⟨args0,[],100,pc0⟩) hng htt hft hng0 hsm hr hro hfn rfl ?_ (fun π=>hargs _ _) hk hsel (fun π=>hv _ _) (fun j o' hj=>.inr ⟨hj,fun i hi=>by cases hi⟩) hh ha;refine⟨by show 7<=100;omega,fun g _=>⟨rfl,rfl⟩,hthere,(fun i v h=>by cases h),?_,(fun i o h=>by cases h),(fun i o j o' h=>by cases h),hpc⟩;show dU 7 _ (V.gz args0)=true;rw[hnm];rfl
theorem Bl{b:Nat}{c:List V} (hb:st.h.get b=some (.cells c im none)) {ex:List (Nat×ak)} {ρ'':Env}:∀ j o',st.h.get j=some o'->(j=b/\o'=.cells c im none)\/(∃ i cc ce e wd,(i,.cells cc e wd)∈ex/\100<=i/\j=i-100+st.n/\o'=.cells ce e wd/\∀ π π',V.ae ρ'' π' cc=V.ae ρ π ce)\/(j≠b/\st.h.get j=some o'):=by
 intro j o' hj;by_cases e:j=b
 ·subst e;rw[hb]at hj;exact .inl ⟨rfl,(qqz hj).symm⟩
 ·exact .inr (.inr ⟨e,hj⟩)
theorem PW{b:Nat}{c':List V} {ex:List (Nat×ak)} {ρ'':Env}:∀ j o',(st.h.set b (.cells c' im none)).get j=some o'->(j=b/\o'=.cells c' im none)\/(∃ i cc ce e wd,(i,.cells cc e wd)∈ex/\100<=i/\j=i-100+st.n/\o'=.cells ce e wd/\∀ π π',V.ae ρ'' π' cc=V.ae ρ π ce)\/(j≠b/\st.h.get j=some o'):=by
 intro j o' hj;by_cases e:j=b
 ·subst e;rw[T.aP]at hj;exact .inl ⟨rfl,(qqz hj).symm⟩
 ·rw[T.aB _ _ (Ne.symm e)]at hj;exact .inr (.inr ⟨e,hj⟩)
end
section
variable {ρ':Env} {sx rg:Nat→Int} {f n:Nat}
theorem R6(E:EnvB ρ' sx rg)(h:RingOk sx rg f n){p:Nat}(hp:p<4){π:Pl}:V.ae ρ' π (ao4 n ((p+4-f) % 4) p)=[.int .u32 (qv rg (3*p)),.int .i64 (qv rg (3*p+1)),.int .u32 (qv rg (3*p+2))]:=by
 have hf:=h.fl;have hfirst:=h.first
 have hfn:(rg 12).toNat=f:=by omega
 by_cases hk:p=f
 ·have e:(p+4-f) % 4=0:=by omega
  rw[e];have z:∀ c,c<3->qv rg (3*p+c)=0:=fun c hc=>by
   unfold qv;rw[if_neg (by omega),if_pos (by omega)]
  rw[z 1 (by omega),z 2 (by omega),show 3*p=3*p+0 from rfl,z 0 (by omega)];rfl
 ·have e:∃ k,(p+4-f) % 4=k+1:=⟨(p+4-f) % 4-1,by omega⟩
  obtain⟨k,e⟩:=e;have z:∀ c,c<3->qv rg (3*p+c)=rg (3*p+c):=fun c hc=>by
   unfold qv;rw[if_neg (by omega),if_neg (by omega)]
  have:=Gs E h hp (π:=π);rw[z 1 (by omega),z 2 (by omega),show qv rg (3*p)=rg (3*p)from z 0 (by omega),<-this,e];rfl
theorem R7(E:EnvB ρ' sx rg)(h:RingOk sx rg f n)(hn:n<4){a v:Int}{w:Nat}(ha:0<=a/\a<=4294967295)(hv:0<=v/\v<=4294967295)(h1:ρ'.v 730=a)(h2:ρ'.v 731=v){p:Nat}(hp:p<4){π:Pl}:V.ae ρ' π (amh n w ((p+4-f) % 4) p)=[.int .u32 (nd rg n a w v (3*p)),.int .i64 (nd rg n a w v (3*p+1)),.int .u32 (nd rg n a w v (3*p+2))]:=by
 have hf:=h.fl;have hfirst:=h.first
 have hfn:(rg 12).toNat=f:=by omega
 unfold amh;split
 ·rename_i hb;have hb:=qqq hb;have e0:nd rg n a w v (3*p)=a:=by unfold nd;rw[if_neg (by omega),if_pos (by omega),if_pos (by omega)]
  have e1:nd rg n a w v (3*p+1)=w:=by unfold nd;rw[if_neg (by omega),if_pos (by omega),if_neg (by omega),if_pos (by omega)]
  have e2:nd rg n a w v (3*p+2)=v:=by unfold nd;rw[if_neg (by omega),if_pos (by omega),if_neg (by omega),if_neg (by omega)]
  rw[e0,e1,e2];show[Value.int .u32 (IntKind.u32.wrap (ρ'.v 730)),.int .i64 w,.int .u32 (IntKind.u32.wrap (ρ'.v 731))]=_;rw[h1,h2,fy ha,fy hv]
 ·rename_i hb;have hb:(p+4-f) % 4≠n:=fun e=>by
   rw[e,qz6]at hb;cases hb
  have z:∀ c,c<3->nd rg n a w v (3*p+c)=rg (3*p+c):=fun c hc=>by
   unfold nd;rw[if_neg (by omega),if_neg (by omega)]
  rw[z 1 (by omega),z 2 (by omega),show nd rg n a w v (3*p)=rg (3*p)from z 0 (by omega)];exact Gs E h hp
end
section
variable {c:Cx} {ρ0:Env} {S:KS} {q:QS}
variable {W:World} (hro:aZ ρ0.ro)
include hro
theorem anF(hng:c.ng=7)(hO:S.Ok ρ0 q):lq c (af ρ0 S) 50 (an4 q.n):=by
 intro args st v st' hs hthere S1 π0 w ac n hh ha;have hle:=hO.le;have hR:=mG hO;unfold an4 at hs;split at hs;rotate_left
 ·simp[R.ag]at hs
 rename_i b;split at hs;rotate_left
 ·simp[R.ag]at hs
 rename_i m hb hm;simp only[R.ag,qqk,qqv]at hs;obtain⟨rfl,rfl⟩:=hs;rw[hm]at hR;have E:EnvB (gq (af ρ0 S) S.sx S.rg 0 0 0 fun _=>0) S.sx S.rg:=ky;have hf:=hR.fl;have hfirst:=hR.first
 have hk:=a8 (a8 atM _ (fR hR.fl)) m (fR (by omega));refine nA (ρ:=af ρ0 S) (ρ':=gq (af ρ0 S) S.sx S.rg 0 0 0 fun _=>0) hng dh dV rfl yu rfl hro Tryz.func50 (n0:=m+1) (rg:=S.rg) (eG (n:=m+1) (by rw[<-show q.n=m+1 from hm];exact hb)) (fun π=>du fun i hi=>zA ρ0 S hi) E hR hthere rfl ai.eL (fun _ _=>rfl) (ex:=[]) (c':=s7 530 m) hk rfl (fun π=>?_) (fun π π'=>?_) PW hh ha
 ·show Value.tuple #[.agg (V.ae (af ρ0 S) π (stX 0)).toArray,.bool _]=Value.tuple #[.agg (V.ae _ _ (bS 0)).toArray,.bool _];rw[MN hO (by omega),qR E hR.ok hR.le (by omega)];rfl
 ·rw[du (rg:=qv S.rg) fun i hi=>VP ρ0 S hi,tS (rg:=qv S.rg) fun p hp=>R6 E hR hp];congr 1;show((((S.rg 12).toNat+1) % 4:Nat):Int)=(S.rg 12+1) % 4;omega
theorem abv(hng:c.ng=7)(hO:S.Ok ρ0 q):lq c (af ρ0 S) 46 (Xm q.n):=by
 intro args st v st' hs hthere S1 π0 w ac n hh ha;have hle:=hO.le;have hR:=mG hO;unfold Xm at hs;split at hs;rotate_left
 ·simp [R.ag] at hs
 rename_i b;split at hs;rotate_left
 ·simp [R.ag] at hs
 rename_i hb;have E:EnvB (gq (af ρ0 S) S.sx S.rg 0 0 0 fun _=>0) S.sx S.rg:=ky;have hk:=a8 (a8 apj _ (fR hR.fl)) q.n (ni (by omega));have key:∀ {st1:St} {tv:V},cG (af ρ0 S) st st1->(∀ π,tv.ab (af ρ0 S) π=(Rv q.n).ab (gq (af ρ0 S) S.sx S.rg 0 0 0 fun _=>0) (fun i=>π (rn [(14,b)] st1.n 100 i)))->CallsIn Fence.wide n Tryz.prog 46 ac.toArray w (EPost (af ρ0 S) S1 π0 st w (.ret tv,{h:=st1.h,n:=st1.n+bm,pc:=st1.pc})):=by
  intro st1 tv hl hv;have hb1:st1.h.get b=some (.cells (s7 200 q.n) im none):=by rw [hl.h];exact eG hb
  refine (nA (ρ:=af ρ0 S) (ρ':=gq (af ρ0 S) S.sx S.rg 0 0 0 fun _=>0) hng dh dV rfl yu rfl hro Tryz.func46 (n0:=q.n) (rg:=S.rg) hb1 (fun π=>du fun i hi=>zA ρ0 S hi) E hR (by rw [hl.h];exact hthere) rfl ai.eL (fun _ _=>rfl) (ex:=[]) (c':=s7 200 q.n) hk rfl hv (fun π π'=>?_) (Bl hb1) (hh.iw hl) ha).mono fun e w' hp=>EPost.iw hl hp
  rw [du (rg:=S.rg) fun i hi=>zA ρ0 S hi,jn E hR]
 split at hs
 ·rename_i hq;simp only [sJ,R.ag,qqk,qqv] at hs;obtain⟨rfl,rfl⟩:=hs;exact key (.refl hh.pc) fun π=>by rw [hq];rfl
 ·rename_i hq;have hq1:1<=q.n:=by
   rcases Nat.eq_zero_or_pos q.n with h|h
   ·exact absurd h hq
   ·exact h
  have hst:=hO.st 0 hq1;rw [Nat.mul_zero,qk7,qk7] at hst;have hval:∀ π π',(V.tuple [.agg (stX 0),.bool (.lit 1)]).ab (af ρ0 S) π=(Rv q.n).ab (gq (af ρ0 S) S.sx S.rg 0 0 0 fun _=>0) π':=fun π π'=>by
   obtain⟨m,hm⟩:∃ m,q.n=m+1:=⟨q.n-1,by omega⟩
   rw [hm];show Value.tuple #[.agg (V.ae (af ρ0 S) π (stX 0)).toArray,.bool _]=Value.tuple #[.agg (V.ae _ _ (bS 0)).toArray,.bool _];rw [MN hO (by omega),qR E hR.ok hR.le (by omega)];rfl
  have hA:hdX.den (af ρ0 S)=S.sx 0:=gT (zC ρ0 S (i:=0) (by omega)) hst.rg.1;have fin:∀ {st1:St} {wd:Nat},cG (af ρ0 S) st st1->S.sx 1=wd->(J6 q.n wd st1).ag (af ρ0 S)=some (v,st')->CallsIn Fence.wide n Tryz.prog 46 ac.toArray w (EPost (af ρ0 S) S1 π0 st w (.ret v,st')):=by
   intro st1 wd hl hwd h1;unfold J6 at h1;split at h1;rotate_left
   ·simp [R.ag] at h1
   rename_i cc e hg;split at h1;rotate_left
   ·simp [R.ag] at h1
   rename_i hcc;obtain rfl:=V.aR _ _ hcc;simp only [R.ag,qqk,qqv] at h1;obtain⟨rfl,rfl⟩:=h1;refine (key (st1:=st1) (tv:=.tuple [.agg (stX 0),.bool (.lit 1)]) hl (fun π=>hval _ _)).mono fun e w' hp=>hp.less ⟨⟨fun hp1=>?_,qq2 _,fun i o' hi=>?_⟩,.inr ⟨_,_,rfl,rfl,fun π=>?_⟩⟩
   ·have hal:=hst.al;have hle2:=hst.le;have h0:=hst.a;rw [hwd] at hal hle2;have hw1:1<=wd:=by have:=hst.w;omega
    refine ai.app (VV hA h0 (by omega) (NR hA h0 hle2 (ai.gw ?_ (ai.gw ?_ ai.eL)))) hp1
    ·show (X.eq (.rem hdX (nl wd)) (.lit 0)).tt (af ρ0 S)=true;rw [bZ];show ((hdX.den (af ρ0 S)).tmod (wd:Int)==0)=true;rw [hA,qk3 h0,hal];rfl
    ·show (X.eq (va 401) (nl wd)).tt (af ρ0 S)=true;rw [bZ];show ((af ρ0 S).v 401==(wd:Int))=true;rw [show (af ρ0 S).v 401=S.sx 1 from zC ρ0 S (i:=1) (by omega),hwd];exact beq_self_eq_true _
   ·by_cases ei:i=26
    ·subst ei;rw [T.aP] at hi;obtain rfl:=qqz hi;refine⟨_,hg,fun π ob ho=>jG ho ?_ rfl,rfl⟩;obtain⟨m,hm⟩:∃ m,q.n=m+1:=⟨q.n-1,by omega⟩
     rw [hm];show V.ae (af ρ0 S) π (stX 0++qL 1 m [])=V.ae (af ρ0 S) π ([u32 hdX,i64 (nl wd),u32 (nq (va 402))]++qL 1 m []);rw [aW,aW];congr 1;show [Value.int .u32 _,.int .i64 ((af ρ0 S).v 401),.int .u32 _]=[Value.int .u32 _,.int .i64 (wd:Int),.int .u32 _];rw [show (af ρ0 S).v 401=S.sx 1 from zC ρ0 S (i:=1) (by omega),hwd];rfl
    ·rw [T.aB _ _ (Ne.symm ei)] at hi;exact⟨o',hi,fun _ _ h=>h,rfl⟩
   ·show Value.tuple #[.agg #[.int .u32 _,.int .i64 (wd:Int),.int .u32 _],.bool _]=Value.tuple #[.agg #[.int .u32 _,.int .i64 ((af ρ0 S).v 401),.int .u32 _],.bool _];rw [show (af ρ0 S).v 401=S.sx 1 from zC ρ0 S (i:=1) (by omega),hwd];rfl
  have h401:∀ k:Nat,(X.eq (va 401) (nl k)).tt (af ρ0 S)=decide (S.sx 1=k):=fun k=>by
   rw [bZ];show ((af ρ0 S).v 401==(k:Int))=_;rw [show (af ρ0 S).v 401=S.sx 1 from zC ρ0 S (i:=1) (by omega)];rfl
  obtain⟨st1,hl1,h1⟩:=ah hh.pc hs;rw [show (X.eq (va 401) (.lit 1))=X.eq (va 401) (nl 1) from rfl,h401] at h1;split at h1
  ·rename_i e;exact fin hl1 (of_decide_eq_true e) h1
  ·rename_i e;have e:=of_decide_eq_false e;obtain⟨st2,hl2,h2⟩:=ah hl1.pc h1;rw [show (X.eq (va 401) (.lit 2))=X.eq (va 401) (nl 2) from rfl,h401] at h2;split at h2
   ·rename_i e2;exact fin (hl1.trans hl2) (of_decide_eq_true e2) h2
   ·rename_i e2;have e2:=of_decide_eq_false e2;refine fin (hl1.trans hl2) ?_ h2;have:=hst.w;omega
variable (hW:∀ x∈aj,W.heap[x.1]?=some (ρ0.ro x.1))
include hW
theorem WM(hO:S.Ok ρ0 q) (hc:(S.hw ρ0).h.cause=0) (hk:(S.acc ρ0).k=2) {wd:Nat} (hw:(S.acc ρ0).w=wd) {ρ':Env} (h1:ρ'.v 730=(S.acc ρ0).ad) (h2:ρ'.v 731=(S.acc ρ0).v):ai ρ' ((.eq (.rem aX (nl wd)) (.lit 0),true)::vlF wd):=by
 have haO:(S.acc ρ0).Ok 16:=cC hro hW hO.hw hc;have hat:=haO.at_ (by omega) (by omega);have hval:=haO.val hk;have hwr:=haO.w (by omega) (by omega);rw[hw]at hat hval hwr;have hv:(nq (va 731)).den ρ'=(S.acc ρ0).v:=gT h2 haO.v;refine ai.gw ?_ ?_
 ·show(X.eq (.rem aX (nl wd)) (.lit 0)).tt ρ'=true;rw[bZ];show((aX.den ρ').tmod (wd:Int)==0)=true;rw[show aX.den ρ'=(S.acc ρ0).ad from gT h1 haO.ad,hat.1];rfl
 ·have h0:=haO.v.1;rcases hwr with e|e|e<;>rw[e]at hval ⊢
  ·have:((2 ^ (8*1)-1:Nat):Int)=255:=by decide
   rw[this]at hval;refine ai.gw ?_ (ai.gw ?_ ai.eL)
   ·show(X.eq (.quo (nq (va 731)) (.lit 256)) (.lit 0)).tt ρ'=true;rw[bZ];show(((nq (va 731)).den ρ').tdiv 256==0)=true;rw[hv,qkk h0,show(S.acc ρ0).v / 256=0 by omega];rfl
   ·show(X.le (nq (va 731)) (.lit 255)).tt ρ'=true;rw[cT,hv];exact decide_eq_true hval
  ·have:((2 ^ (8*2)-1:Nat):Int)=65535:=by decide
   rw[this]at hval;refine ai.gw ?_ (ai.gw ?_ ai.eL)
   ·show(X.eq (.quo (nq (va 731)) (.lit 65536)) (.lit 0)).tt ρ'=true;rw[bZ];show(((nq (va 731)).den ρ').tdiv 65536==0)=true;rw[hv,qkk h0,show(S.acc ρ0).v / 65536=0 by omega];rfl
   ·show(X.le (nq (va 731)) (.lit 65535)).tt ρ'=true;rw[cT,hv];exact decide_eq_true hval
  ·exact ai.eL
theorem ace(hng:c.ng=7)(hO:S.Ok ρ0 q):lq c (af ρ0 S) 128 (Xn q.n):=by
 intro args st v st' hs hthere S1 π0 w ac n hh ha;have hle:=hO.le;have hR:=mG hO;unfold Xn at hs;split at hs;rotate_left
 ·simp[R.ag]at hs
 rename_i b s;split at hs;rotate_left
 ·simp[R.ag]at hs
 rename_i wd hb;split at hs;rotate_left
 ·simp[R.ag]at hs
 rename_i hs1 hpf;have hs1:=V.beq_eq _ _ hs1;obtain⟨hc,hk2,hkw⟩:=ry hh.pc hpf fun hc=>cC hro hW hO.hw hc
 have haO:(S.acc ρ0).Ok 16:=cC hro hW hO.hw hc;have hwr:=haO.w (by omega) (by omega);have hd0:np.den (af ρ0 S)=(S.acc ρ0).ad:=fU rfl haO.ad;have hd2:I0.den (af ρ0 S)=(S.acc ρ0).v:=oY rfl haO.v;generalize hw:tQ st.pc=wd at *;have E:EnvB (gq (af ρ0 S) S.sx S.rg (S.acc ρ0).ad (S.acc ρ0).v 0 fun _=>0) S.sx S.rg:=ky;have hpc:=WM hro hW hO hc hk2 hkw (ρ':=gq (af ρ0 S) S.sx S.rg (S.acc ρ0).ad (S.acc ρ0).v 0 fun _=>0) F7 U5;have hargs:∀ π π',V.ae (af ρ0 S) π [s]=V.ae (gq (af ρ0 S) S.sx S.rg (S.acc ρ0).ad (S.acc ρ0).v 0 fun _=>0) π' [.agg (bP wd)]:=by
  intro π π';rw[hs1];show[Value.agg #[.int .u32 (np.den (af ρ0 S)),.int .i64 (wd:Int),.int .u32 (I0.den (af ρ0 S))]]=[Value.agg #[.int .u32 (aX.den _),.int .i64 (wd:Int),.int .u32 ((nq (va 731)).den _)]];rw[hd0,hd2,show aX.den _=(S.acc ρ0).ad from gT F7 haO.ad,show(nq (va 731)).den _=(S.acc ρ0).v from gT U5 haO.v]
 split at hs
 ·rename_i hq;simp only[sJ,R.ag,qqk,qqv]at hs;obtain⟨rfl,rfl⟩:=hs;have hk:=a8 (a8 atE _ (fR hR.fl)) wd (Pf (by omega));rw[hq]at hb hR;refine nA (ρ:=af ρ0 S) (ρ':=gq (af ρ0 S) S.sx S.rg (S.acc ρ0).ad (S.acc ρ0).v 0 fun _=>0) hng dh dV rfl yu rfl hro Tryz.func128 (n0:=4) (rg:=S.rg) (eG hb) (fun π=>du fun i hi=>zA ρ0 S hi) E hR hthere rfl hpc hargs (ex:=[]) (c':=s7 200 4) hk rfl (fun π=>rfl) (fun π π'=>?_) (Bl (eG hb)) hh ha;rw[du (rg:=S.rg) fun i hi=>zA ρ0 S hi,jn E hR]
 ·rename_i hq;simp only[R.ag,qqk,qqv]at hs;obtain⟨rfl,rfl⟩:=hs;have hq4:q.n<4:=by
   rcases qkz q.n 4 with h|h
   ·exact h
   ·exact absurd (show q.n=4 by omega) hq
  have hk:=a8 (a8 (a8 atN _ (fR hR.fl)) q.n (fR hq4)) wd (Pf (by omega));have hfirst:=hR.first
  refine nA (ρ:=af ρ0 S) (ρ':=gq (af ρ0 S) S.sx S.rg (S.acc ρ0).ad (S.acc ρ0).v 0 fun _=>0) hng dh dV rfl yu rfl hro Tryz.func128 (n0:=q.n) (rg:=S.rg) (eG hb) (fun π=>du fun i hi=>zA ρ0 S hi) E hR hthere rfl hpc hargs (ex:=[]) (c':=s7 500 (q.n+1)) hk rfl (fun π=>rfl) (fun π π'=>?_) PW hh ha;rw[du (rg:=nd S.rg q.n (S.acc ρ0).ad wd (S.acc ρ0).v) fun i hi=>by rw[VQ ρ0 S hi,hO.n,hkw],tS (rg:=nd S.rg q.n (S.acc ρ0).ad wd (S.acc ρ0).v) fun p hp=>R7 E hR hq4 haO.ad haO.v F7 U5 hp];congr 1;exact hfirst.symm
theorem UU(hng:c.ng=7)(hO:S.Ok ρ0 q):lq c (af ρ0 S) 140 an0:=by
 intro args st v st' hs hthere S1 π0 w ac n hh ha;unfold an0 at hs;split at hs;rotate_left
 ·simp[R.ag]at hs
 rename_i s wd;split at hs;rotate_left
 ·simp[R.ag]at hs
 rename_i hs1 hpf;have hs1:=V.beq_eq _ _ hs1;obtain⟨hc,hk2,hkw⟩:=ry hh.pc hpf fun hc=>cC hro hW hO.hw hc
 have haO:(S.acc ρ0).Ok 16:=cC hro hW hO.hw hc;have hwr:=haO.w (by omega) (by omega);have hd0:np.den (af ρ0 S)=(S.acc ρ0).ad:=fU rfl haO.ad;have hd2:I0.den (af ρ0 S)=(S.acc ρ0).v:=oY rfl haO.v;generalize hw:tQ st.pc=wd at *;simp only[sJ,R.ag,qqk,qqv]at hs;obtain⟨rfl,rfl⟩:=hs;have hpc:=WM hro hW hO hc hk2 hkw (ρ':=gq (af ρ0 S) S.sx S.rg (S.acc ρ0).ad (S.acc ρ0).v 0 fun _=>0) F7 U5;have hk:=a8 atD wd (Pf (by omega));refine Ej (ρ:=af ρ0 S) (ρ':=gq (af ρ0 S) S.sx S.rg (S.acc ρ0).ad (S.acc ρ0).v 0 fun _=>0) hng dh dV rfl yu rfl hro Tryz.func140 (args0:=[.agg (bP wd)]) hthere rfl hpc (fun π π'=>?_) hk rfl (fun _ _=>rfl) hh ha;rw[hs1];show[Value.agg #[.int .u32 (np.den (af ρ0 S)),.int .i64 (wd:Int),.int .u32 (I0.den (af ρ0 S))]]=[Value.agg #[.int .u32 (aX.den _),.int .i64 (wd:Int),.int .u32 ((nq (va 731)).den _)]];rw[hd0,hd2,show aX.den _=(S.acc ρ0).ad from gT F7 haO.ad,show(nq (va 731)).den _=(S.acc ρ0).v from gT U5 haO.v]
end
end Go.Proofs.YtgcbnjpeifigaaaGreatDoor
namespace Go.Proofs.YtgcbnjpeifigaaaGreatDoor
open Go Go.Proofs
section
variable {ρ0:Env} {S:KS} {q:QS}
theorem aby{i:Nat}(h1:1<=i)(h2:i<=34):(S.hw ρ0).h.cell i=S.hx (i-1):=by
 match i with
 |0=>omega
 |1=>rfl
 |j+2=>
  show(if j<32 then((((List.range 32).map fun i=>S.hx (i+1))[j]?).getD 0)else S.hx 33)=_;split
  ·rename_i hj;rw[qk5,List.getElem?_range hj];rfl
  ·rw[show j+2-1=33 by omega]
theorem ao6:((S.hw ρ0).w:Int)=IntKind.u32.wrap (ρ0.f1 10 (IntKind.u32.wrap ((S.hx 0).tdiv 4))):=by
 show(((IntKind.u32.wrap (ρ0.f1 10 (IntKind.u32.wrap ((S.hx 0).tdiv 4)))).toNat:Nat):Int)=_;rw[Rr];omega
theorem Bv(hO:S.Ok ρ0 q)(π:Pl):V.ae (af ρ0 S) π hwV=[.agg (S.hw ρ0).h.c.toArray,.int .u32 (S.hw ρ0).w,.int .i64 16]:=by
 have h1:Vp.ab (af ρ0 S) π=.agg (S.hw ρ0).h.c.toArray:=Br (ρ:=af ρ0 S) hO.hw.h rfl (fun i h1 h2=>by
  rw[aby h1 h2];have:=VO ρ0 S (i:=i-1) (by omega);rw[show 101+(i-1)=100+i by omega]at this;exact this) π
 show[Vp.ab (af ρ0 S) π,.int .u32 (IntKind.u32.wrap ((af ρ0 S).f1 10 (IntKind.u32.wrap (((af ρ0 S).v 101).tdiv 4)))),.int .i64 16]=_;rw[h1,show(af ρ0 S).v 101=S.hx 0 from VO ρ0 S (i:=0) (by omega),ao6];rfl
theorem eZ:∀ i:Nat,i<=6->(tc 1 i).den (af ρ0 S)=(S.acc ρ0).cell i:=by
 intro i hi;show(if 300<=301/\301<316 then S.Dy ρ0 301 ((i:Int).toNat)else ρ0.f1 301 i)=_;rw[if_pos (by decide),qkw];unfold KS.Dy;rw[if_pos rfl,if_pos hi]
theorem Re:(tc 1 7).den (af ρ0 S)=(wI (S.hw ρ0)).2:=rfl
section
variable {c:Cx} {W:World} (hro:aZ ρ0.ro) (hW:∀ x∈aj,W.heap[x.1]?=some (ρ0.ro x.1))
include hro hW
theorem ajA(hng:c.ng=7)(hO:S.Ok ρ0 q):lq c (af ρ0 S) 41 (Ta false):=by
 intro args st v st' hs hthere S1 π0 w ac n hh ha;unfold Ta at hs;split at hs;rotate_left
 ·simp[R.ag]at hs
 rename_i h1 h2;obtain rfl:=V.aR _ _ h1;have hc:=nB hh.pc h2;have haO:(S.acc ρ0).Ok 16:=cC hro hW hO.hw hc;have hst:=sT hro hW hO.hw hc (x:=0) (ok:=false) (by omega);refine r8 (a:=[.agg (S.hw ρ0).h.c.toArray,.int .u32 (S.hw ρ0).w,.int .i64 16]) (val:=.tuple #[.agg (S.acc ρ0).c.toArray,.int .i64 (wI (S.hw ρ0)).2,.int .i64 0]) Tryz.func41 hng hs (fun p hp=>?_) hst.act (Bv hO) hthere hh ha;rw[Ez haO (eZ 0 (by omega)) (eZ 2 (by omega))]at hp;simp only[R.ag,qqk]at hp;subst hp;refine⟨Ps haO eZ,fun π=>?_,fun _=>rfl,rfl⟩;show Value.tuple #[(Uj (S.acc ρ0).k (S.acc ρ0).w).ab (af ρ0 S) π,.int .i64 ((tc 1 7).den (af ρ0 S)),.int .i64 0]=_;rw[DD haO eZ,Re]
theorem aci(hng:c.ng=7)(hO:S.Ok ρ0 q):lq c (af ρ0 S) 98 (Ta true):=by
 intro args st v st' hs hthere S1 π0 w ac n hh ha;unfold Ta at hs;split at hs;rotate_left
 ·simp[R.ag]at hs
 rename_i h1 h2;obtain rfl:=V.aR _ _ h1;have hc:=nB hh.pc h2;have haO:(S.acc ρ0).Ok 16:=cC hro hW hO.hw hc;have hst:=sT hro hW hO.hw hc (x:=0) (ok:=false) (by omega);refine r8 (a:=[.agg (S.hw ρ0).h.c.toArray,.int .u32 (S.hw ρ0).w,.int .i64 16]) (val:=.tuple #[.agg (S.acc ρ0).c.toArray,.int .i64 (wI (S.hw ρ0)).2]) Tryz.func98 hng hs (fun p hp=>?_) hst.ract (Bv hO) hthere hh ha;rw[Ez haO (eZ 0 (by omega)) (eZ 2 (by omega))]at hp;simp only[R.ag,qqk]at hp;subst hp;refine⟨Ps haO eZ,fun π=>?_,fun _=>rfl,rfl⟩;show Value.tuple #[(Uj (S.acc ρ0).k (S.acc ρ0).w).ab (af ρ0 S) π,.int .i64 ((tc 1 7).den (af ρ0 S))]=_;rw[DD haO eZ,Re]
theorem RF (hc:(S.hw ρ0).h.cause=0) (hO:S.Ok ρ0 q) (π:Pl):V.ae (af ρ0 S) π Ug=(S.acc ρ0).c:=by
 have haO:(S.acc ρ0).Ok 16:=cC hro hW hO.hw hc;have had:np.den (af ρ0 S)=(S.acc ρ0).ad:=fU rfl haO.ad;have hvl:I0.den (af ρ0 S)=(S.acc ρ0).v:=oY rfl haO.v;show[Value.int .i64 ((tc 1 0).den (af ρ0 S)),.int .u32 (np.den (af ρ0 S)),.int .i64 ((tc 1 2).den (af ρ0 S)),.int .u32 (I0.den (af ρ0 S)),.int .i64 ((tc 1 4).den (af ρ0 S)),.bool ((X.eq (tc 1 5) (.lit 1)).tt (af ρ0 S)),.bool ((X.eq (tc 1 6) (.lit 1)).tt (af ρ0 S))]=_;rw[eZ 0 (by omega),eZ 2 (by omega),eZ 4 (by omega),had,hvl,yQ (eZ 5 (by omega)),yQ (eZ 6 (by omega))];rfl
omit hro hW in
theorem Pw{pc:PC} (hp:ai (af ρ0 S) pc) {a:V} {b:Nat} (h:ajF pc a=some b) (hf:0<=(S.fwd ρ0).1/\(S.fwd ρ0).1<=4294967295):
  ∃ (x:Int) (ok:Bool),(0<=x/\x<=4294967295)/\(∀ π,a.ab (af ρ0 S) π=.agg #[.int .u32 x,.bool ok])/\∀ i:Nat,(tc b i).den (af ρ0 S)=De (se (S.hw ρ0) x ok) i:=by
 have z0:(X.lit 0).tt (af ρ0 S)=false:=rfl;have z1:(X.lit 1).tt (af ρ0 S)=true:=rfl;unfold ajF at h;split at h;rotate_left
 ·cases h
 split at h
 ·obtain rfl:=qqz h;exact⟨0,false,by omega,fun π=>rfl,fun i=>rfl⟩
 ·obtain rfl:=qqz h;exact⟨0,true,by omega,fun π=>rfl,fun i=>rfl⟩
 ·obtain rfl:=qqz h;exact⟨(S.fwd ρ0).1,false,hf,fun π=>rfl,fun i=>rfl⟩
 ·obtain rfl:=qqz h;exact⟨S.has ρ0,false,Gv,fun π=>rfl,fun i=>rfl⟩
 ·rename_i y;split at h
  ·rename_i h1 h2;obtain rfl:=qqz h;have e:=bQ hp h2 _ (qq1 ..);refine⟨0,true,by omega,fun π=>?_,fun i=>rfl⟩;show Value.agg #[.int .u32 0,.bool ((X.eq (.var 140) y).tt (af ρ0 S))]=_;rw[show(X.eq (.var 140) y).tt (af ρ0 S)=true from e]
  ·obtain rfl:=qqz h;have e:=bQ hp (show ck pc [((X.var 140).eq y,false)]=true by assumption) _ (qq1 ..);refine⟨0,false,by omega,fun π=>?_,fun i=>rfl⟩;show Value.agg #[.int .u32 0,.bool ((X.eq (.var 140) y).tt (af ρ0 S))]=_;rw[show(X.eq (.var 140) y).tt (af ρ0 S)=false from e]
  ·cases h
 ·cases h
theorem JC(hO:S.Ok ρ0 q) (hc:(S.hw ρ0).h.cause=0) {b:Nat} {x:Int} {ok:Bool} (hx:0<=x/\x<=4294967295) (ht:∀ i:Nat,(tc b i).den (af ρ0 S)=De (se (S.hw ρ0) x ok) i) (π:Pl):
  (PZ b).ab (af ρ0 S) π=.agg (se (S.hw ρ0) x ok).1.c.toArray/\(aa0 b).ab (af ρ0 S) π=.agg ((se (S.hw ρ0) x ok).2.c (S.acc ρ0)).toArray:=by
 have hst:=sT hro hW hO.hw hc (x:=x) (ok:=ok) hx;constructor
 ·refine Br hst.hart ?_ (fun i h1 h2=>?_) π
  ·rw[hst.id];rfl
  ·rw[ht];unfold De;rw[if_pos h2]
 ·have hcell:∀ j:Nat,(tc b (35+j)).den (af ρ0 S)=(se (S.hw ρ0) x ok).2.cell j:=fun j=>by
   rw[ht];unfold De;rw[if_neg (by omega),qq8]
  have haA:=RF hro hW hc hO π;show Value.agg (V.ae (af ρ0 S) π (u32 (tc b 35)::u32 (tc b 36)::(Ug++[u32 (tc b 37),b1 (tc b 38),i64 (tc b 39),u32 (tc b 40),i64 (tc b 41)]))).toArray=_;unfold M9.c;have e:V.ae (af ρ0 S) π (u32 (tc b 35)::u32 (tc b 36)::(Ug++[u32 (tc b 37),b1 (tc b 38),i64 (tc b 39),u32 (tc b 40),i64 (tc b 41)])) =
    Value.int .u32 ((tc b (35+0)).den (af ρ0 S))::.int .u32 ((tc b (35+1)).den (af ρ0 S))::(V.ae (af ρ0 S) π Ug++[.int .u32 ((tc b (35+2)).den (af ρ0 S)),.bool ((X.eq (tc b (35+3)) (.lit 1)).tt (af ρ0 S)),.int .i64 ((tc b (35+4)).den (af ρ0 S)),.int .u32 ((tc b (35+5)).den (af ρ0 S)),.int .i64 ((tc b (35+6)).den (af ρ0 S))]):=rfl
  rw[e,haA,hcell,hcell,hcell,yQ (hcell 3),hcell,hcell,hcell];rfl
omit hro hW in
theorem JB{args:List V}{h w s a:V} (ha:args=[h,w,s,a]) (h1:V.cM [h,w,s] hwV=true) (hO:S.Ok ρ0 q) {x:Int} {ok:Bool} (h2:∀ π,a.ab (af ρ0 S) π=.agg #[.int .u32 x,.bool ok]) (π:Pl):
  V.ae (af ρ0 S) π args=[.agg (S.hw ρ0).h.c.toArray,.int .u32 (S.hw ρ0).w,.int .i64 16,.agg #[.int .u32 x,.bool ok]]:=by
 subst ha;have e:=V.aR _ _ h1;have:=Bv hO π;rw[<-e]at this;show V.ae (af ρ0 S) π ([h,w,s]++[a])=_;rw[aW,this];show _++[a.ab (af ρ0 S) π]=_;rw[h2];rfl
theorem aa1(hng:c.ng=7)(hO:S.Ok ρ0 q):lq c (af ρ0 S) 152 (Tc false):=by
 intro args st v st' hs hthere S1 π0 w ac n hh ha;unfold Tc at hs;split at hs;rotate_left
 ·simp[R.ag]at hs
 rename_i h w1 s a;split at hs;rotate_left
 ·simp[R.ag]at hs
 rename_i b hb h1 h2;have hc:=nB hh.pc h2;obtain⟨x,ok,hx,hav,ht⟩:=Pw hh.pc hb (NM hro hW hO hc);have hst:=sT hro hW hO.hw hc (x:=x) (ok:=ok) hx;refine r8 (a:=[.agg (S.hw ρ0).h.c.toArray,.int .u32 (S.hw ρ0).w,.int .i64 16,.agg #[.int .u32 x,.bool ok]]) (val:=.tuple #[.agg (se (S.hw ρ0) x ok).1.c.toArray,.agg ((se (S.hw ρ0) x ok).2.c (S.acc ρ0)).toArray,.int .i64 0]) Tryz.func152 hng hs (fun p hp=>?_) hst.commit (JB rfl h1 hO hav) hthere hh ha;simp only[R.ag,qqk]at hp;subst hp;refine⟨ai.eL,fun π=>?_,fun _=>rfl,rfl⟩;obtain⟨e1,e2⟩:=JC hro hW hO hc hx ht π;show Value.tuple #[(PZ b).ab (af ρ0 S) π,(aa0 b).ab (af ρ0 S) π,.int .i64 0]=_;rw[e1,e2]
theorem W2(hng:c.ng=7)(hO:S.Ok ρ0 q):lq c (af ρ0 S) 143 (Tc true):=by
 intro args st v st' hs hthere S1 π0 w ac n hh ha;unfold Tc at hs;split at hs;rotate_left
 ·simp[R.ag]at hs
 rename_i h w1 s a;split at hs;rotate_left
 ·simp[R.ag]at hs
 rename_i b hb h1 h2;have hc:=nB hh.pc h2;obtain⟨x,ok,hx,hav,ht⟩:=Pw hh.pc hb (NM hro hW hO hc);have hst:=sT hro hW hO.hw hc (x:=x) (ok:=ok) hx;refine r8 (a:=[.agg (S.hw ρ0).h.c.toArray,.int .u32 (S.hw ρ0).w,.int .i64 16,.agg #[.int .u32 x,.bool ok]]) (val:=.tuple #[.agg (se (S.hw ρ0) x ok).1.c.toArray,.agg ((se (S.hw ρ0) x ok).2.c (S.acc ρ0)).toArray]) Tryz.func143 hng hs (fun p hp=>?_) hst.rcommit (JB rfl h1 hO hav) hthere hh ha;simp only[R.ag,qqk]at hp;subst hp;refine⟨ai.eL,fun π=>?_,fun _=>rfl,rfl⟩;obtain⟨e1,e2⟩:=JC hro hW hO hc hx ht π;show Value.tuple #[(PZ b).ab (af ρ0 S) π,(aa0 b).ab (af ρ0 S) π]=_;rw[e1,e2]
theorem Jj(hO:S.Ok ρ0 q) (hc:(S.hw ρ0).h.cause=0) (π:Pl):V.ae (af ρ0 S) π aoG=[.int .i64 (S.acc ρ0).op,.int .u32 (S.has ρ0),.int .u32 (S.acc ρ0).v]:=by
 have haO:(S.acc ρ0).Ok 16:=cC hro hW hO.hw hc;show[Value.int .i64 ((tc 1 4).den (af ρ0 S)),.int .u32 (S.has ρ0),.int .u32 (I0.den (af ρ0 S))]=_;rw[eZ 4 (by omega),show I0.den (af ρ0 S)=(S.acc ρ0).v from oY rfl haO.v];rfl
theorem DK(hO:S.Ok ρ0 q){pc:PC} (hp:ai (af ρ0 S) pc) (h:ck pc [(.le (.lit 50) (tc 1 4),true),(.eq (.var 134) (.lit 0),true)]=true):(S.hw ρ0).h.cause=0/\(S.acc ρ0).k=5:=by
 have k1:=bQ hp h _ (qq1 ..);have k2:=bQ hp h (.eq (.var 134) (.lit 0),true) (by simp);have k2:(X.eq (.var 134) (.lit 0)).tt (af ρ0 S)=true:=k2;rw[bZ]at k2;have hc:(S.hw ρ0).h.cause=0:=eq_of_beq k2;refine⟨hc,?_⟩;have haO:(S.acc ρ0).Ok 16:=cC hro hW hO.hw hc;have k1:(X.le (.lit 50) (tc 1 4)).tt (af ρ0 S)=true:=k1;rw[cT,eZ 4 (by omega)]at k1;have k1:(50:Int)<=((S.acc ρ0).op:Nat):=of_decide_eq_true k1;by_cases h5:(S.acc ρ0).k=5
 ·exact h5
 ·have:=haO.op h5;omega
theorem ajE(hng:c.ng=7)(hO:S.Ok ρ0 q):lq c (af ρ0 S) 132 (Tb false):=by
 intro args st v st' hs hthere S1 π0 w ac n hh ha;unfold Tb at hs;split at hs;rotate_left
 ·simp[R.ag]at hs
 rename_i h1 h2;obtain rfl:=V.aR _ _ h1;obtain⟨hc,hk⟩:=DK hro hW hO hh.pc h2;obtain⟨a1,a2,a3⟩:=Us hro hW hO.hw hc (x:=S.has ρ0) Gv;refine r8 (a:=[.int .i64 (S.acc ρ0).op,.int .u32 (S.has ρ0),.int .u32 (S.acc ρ0).v]) (val:=.tuple #[.int .u32 (zt (S.hw ρ0) (S.has ρ0)).1,.int .i64 (zt (S.hw ρ0) (S.has ρ0)).2]) Tryz.func132 hng hs (fun p hp=>?_) a1 (Jj hro hW hO hc) hthere hh ha;simp only[R.ag,qqk]at hp;subst hp;refine⟨ai.eL,fun π=>?_,fun _=>rfl,rfl⟩;show Value.tuple #[.int .u32 ((nq (tc 2 0)).den (af ρ0 S)),.int .i64 ((tc 2 1).den (af ρ0 S))]=_;rw[gT (x:=tc 2 0) (z:=(zt (S.hw ρ0) (S.has ρ0)).1) rfl a3];rfl
theorem acj(hng:c.ng=7)(hO:S.Ok ρ0 q):lq c (af ρ0 S) 106 (Tb true):=by
 intro args st v st' hs hthere S1 π0 w ac n hh ha;unfold Tb at hs;split at hs;rotate_left
 ·simp[R.ag]at hs
 rename_i h1 h2;obtain rfl:=V.aR _ _ h1;obtain⟨hc,hk⟩:=DK hro hW hO hh.pc h2;obtain⟨a1,a2,a3⟩:=Us hro hW hO.hw hc (x:=S.has ρ0) Gv;refine r8 (a:=[.int .i64 (S.acc ρ0).op,.int .u32 (S.has ρ0),.int .u32 (S.acc ρ0).v]) (val:=.int .u32 (zt (S.hw ρ0) (S.has ρ0)).1) Tryz.func106 hng hs (fun p hp=>?_) (a2 hk) (Jj hro hW hO hc) hthere hh ha;simp only[R.ag,qqk]at hp;subst hp;refine⟨ai.eL,fun π=>?_,fun _=>rfl,rfl⟩;show Value.int .u32 ((nq (tc 2 0)).den (af ρ0 S))=_;rw[gT (x:=tc 2 0) (z:=(zt (S.hw ρ0) (S.has ρ0)).1) rfl a3]
end
end
end Go.Proofs.YtgcbnjpeifigaaaGreatDoor
