/- CorePlay: what is told of the document's Read, of the cache's Copy; all that is told in a round. CorePlay: what is told of the cache's Copy; all that is told in a round. No condition. -/
import Derived.Test.YtgcbnjpeifigaaaGreatDoorJBq
import Derived.Test.YtgcbnjpeifigaaaGreatDoorJBf
import Derived.Test.YtgcbnjpeifigaaaGreatDoorJBk
import Derived.Test.YtgcbnjpeifigaaaGreatDoorJGo
namespace Go.Proofs.YtgcbnjpeifigaaaGreatDoor
open Go Go.Proofs Go.RowKit
section
variable {ρ:Env} {us:List (Nat×V)} {r:List (Nat×Nat)} {i:Nat}
theorem KW{c:X}{cs:List V}{e:TypeId}(hc:c.tt ρ=true) (hcs:∀ (r':Nat->Nat),(∀ j,j<100->r' j=eD r j)->∀ π,V.ae ρ π cs=V.ae ρ (fw us r' ρ π) cs):
  ∀ (r':Nat->Nat),(∀ j,j<100->r' j=eD r j)->∀ π ob,((ak.opt c cs e).is ρ π (eD r i) ob↔(ak.cells cs e none).is ρ (fw us r' ρ π) i ob):=by
 intro r' hr' π ob;constructor
 ·intro h;refine⟨[],?_,rfl⟩;rw[qk8,<-hcs r' hr' π];exact h hc
 ·rintro⟨sp,h1,h2⟩ _;have h2:sp=[]:=h2;rw[h1,h2,qk8,<-hcs r' hr' π]
end
theorem MZ {us:List (Nat×V)} {i:Nat} (h:∀ v,jt us i=some v->False):jt us i=none:=by
 cases hu:jt us i with
 |none=>rfl
 |some v=>exact(h v hu).elim
section
variable {c:Cx} {ρ0:Env} {S:KS} {q:QS}
variable {W:World} (hro:aZ ρ0.ro) (hW:∀ x∈aj,W.heap[x.1]?=some (ρ0.ro x.1))
include hro hW
theorem Mj(hng:c.ng=7)(hO:S.Ok ρ0 q){st:St}{a wv:V}(h1:W4 st a wv=true){s:Nat} (hsq:q.s=s\/(s=0/\q.s≠2)) (hs3:s=0\/s=2) (h27:s=2->st.h.get 27=some (.cells (eK (fX 0).lx) nZ.line (some 18))) (hthere:bB aj st.h=true) {S1:Nat->Prop} {π0:Pl} {w:World} {ac:List Value} {n:Nat} (hh:b8 c (af ρ0 S) S1 π0 st w)
  (ha:bz (af ρ0 S) S1 π0 [.agg (v8 (fX 0) s 27),a,wv] ac):CallsIn Fence.wide n Tryz.prog 103 ac.toArray w (EPost (af ρ0 S) S1 π0 st w (.ret (Ml s),{h:=st.h,n:=st.n+bm,pc:=st.pc})):=by
 obtain⟨k,hk3,hav,hc,hwk,hk1,hk5⟩:=Mi hh.pc h1 fun hc=>cC hro hW hO.hw hc
 have haO:(S.acc ρ0).Ok 16:=cC hro hW hO.hw hc;have hat:=haO.at_ hk1 hk5;rw[hwk]at hat;have hal:=oc hat.1;have had0:=haO.ad.1;generalize ho:(S.acc ρ0).ad.toNat=o at *;have hoz:(S.acc ρ0).ad=(o:Int):=by omega
 have hd0:np.den (af ρ0 S)=(o:Int):=by rw[<-hoz];exact fU rfl haO.ad
 have hsm:s∈[0,1,2]:=by simp only[List.mem_cons,qk6,or_false];omega
 have hmul:∃ i,o=k*i/\i<16 / k:=⟨o / k,by
  rcases hk3 with e|e|e<;>subst e<;>omega,by
  rcases hk3 with e|e|e<;>subst e<;>omega⟩
 obtain⟨i,hi1,hi2⟩:=hmul;have hchk:cw (i27 s) (eA cxB 103 (WI s o k)) (.ok (rdL s (rdD o (k-1))))=true:=by
  rw[hi1];rcases hk3 with e|e|e<;>subst e
  ·exact og (a8 atS _ hsm) (show i<16 from hi2)
  ·exact og (a8 atT _ hsm) (show i<8 from hi2)
  ·exact og (a8 atU _ hsm) (show i<4 from hi2)
 obtain⟨lf,l1,l2,l3,l4⟩:=g9 (ρ:=af ρ0 S) hchk rfl;let tl:List V:=.bool (fX 0).wf::u32 (.lit 0)::.bool (fX 0).wx::.bool (fX 0).gf::eK (fX 0).bk;let us:List (Nat×V):=(30,i64 (va 42))::(31,i64 (.lit 1))::(32,i64 (.lit 1))::wE 33 tl [];have hlen:tl.length=22:=rfl;have hcell:v8 (fX 0) s 27=i64 (va 42)::i64 (.lit 1)::i64 (.lit 1)::zD s 27::tl:=rfl;have hus:∀ i v,jt us i=some v->30<=i/\i<55/\v∈v8 (fX 0) s 27:=by
  intro i v h;rw[hcell];have h:(if 30=i then some (i64 (va 42))else if 31=i then some (i64 (.lit 1))else if 32=i then some (i64 (.lit 1))else jt (wE 33 tl []) i)=some v:=h;split at h
  ·exact⟨by omega,by omega,by rw[<-qqz h];exact qq1 ..⟩
  split at h
  ·exact⟨by omega,by omega,by rw[<-qqz h];exact qq3 _ (qq1 ..)⟩
  split at h
  ·exact⟨by omega,by omega,by rw[<-qqz h];exact qq3 _ (qq1 ..)⟩
  obtain⟨g1,g2,g3⟩:=r9 (r:=[]) (l:=tl) (o:=33) (i:=i);by_cases hr:33<=i/\i<55
  ·have:=g3 (i-33) (by omega) (by omega);rw[this]at h;exact⟨by omega,hr.2,qq3 _ (qq3 _ (qq3 _ (qq3 _ (qz2 h))))⟩
  ·by_cases hlt:i<33
   ·rw[g1 hlt]at h;cases h
   ·rw[g2 (by omega)]at h;cases h
 have u27:jt us 27=none:=MZ fun v h=>by
  have:=(hus 27 v h).1;omega
 have hre:∀ (r':Nat->Nat),(∀ j,j<100->r' j=eD [] j)->∀ π,fw us r' (af ρ0 S) π 27=π 27:=fun r' hr' π=>by
  rw[dC u27,hr' 27 (by omega)];rfl
 have hval:s=2->(rdD o (k-1)).den (af ρ0 S)=S.has ρ0:=fun h2=>by
  have hq2:q.s=2:=by omega
  have hb:∀ i,i<k->(Nl (o+i)).den (af ρ0 S)=S.byte (o+i)/\0<=S.byte (o+i)/\S.byte (o+i)<=255:=fun i hi=>⟨FX hO hq2 (by omega),hO.byte hq2 (o+i) (by omega)⟩
  rw[Q0 (b:=S.byte) fun i hi=>(hb i (by omega)).1,Vu hk3 hwk (by rw[ho];exact fun i hi=>(hb i hi).2),ho,show k-1+1=k by omega]
 refine u7 (ρ:=af ρ0 S) (ρ':=af ρ0 S) (cx0:=cxB) hng dh dV rfl yu rfl hro Tryz.func103 (us:=us) (r:=[]) (p:=WI s o k) rfl ?_ (fun i j _ _ e=>e) (fun g hg=>⟨rfl,MZ fun v h=>?_⟩) hthere (fun i v h=>?_) ?_ ai.eL (fun π=>?_) l1 (fun y hy=>by rw[l3];exact hy) l4 (fun π=>?_) hh ha
 ·intro i o0 hi;have hi:(i,o0)∈i27 s:=hi;rcases hs3 with e|e<;>subst e
  ·cases hi
  ·have hi:=qq4.1 hi;injection hi with e1 e2;subst e1 e2;exact⟨u27,by omega,rfl,rfl,_,h27 rfl,rfl,cD (r:=[]) u27 (by omega) fun r' hr' π=>Kn hO (by omega)⟩
 ·have:=(hus g v h).1;omega
 ·obtain⟨h1,h2,h3⟩:=hus i v h;exact⟨by omega,_,h3,.inr (.inr (qq1 ..))⟩
 ·rcases hs3 with e|e<;>subst e<;>rfl
 ·have hu:∀ i v,jt us i=some v->(fw us (eD []) (af ρ0 S) π i).3=v.ab (af ρ0 S) π:=fun i v h=>by rw[wc h]
  have e22:V.ae (af ρ0 S) (fw us (eD []) (af ρ0 S) π) (Az 33 22 [])=V.ae (af ρ0 S) π tl:=by
   rw[wM];have:V.ae (af ρ0 S) (fw us (eD []) (af ρ0 S) π) []=[]:=rfl;rw[this,qk8,aU];refine List.ext_getElem (by simp[hlen]) fun i h1 h2=>?_
   simp only[qz9,List.getElem_range'];simp only[qz8]at h2;refine hu _ _ ?_;show(if 30=33+1*i then _ else if 31=33+1*i then _ else if 32=33+1*i then _ else jt (wE 33 tl []) (33+1*i))=_;rw[if_neg (by omega),if_neg (by omega),if_neg (by omega),(r9 (r:=[]) (l:=tl) (o:=33) (i:=33+1*i)).2.2 i h2 (by omega),qq0 h2]
  have hln:(zD s 27).ab (af ρ0 S) π=(zD s 27).ab (af ρ0 S) (fw us (eD []) (af ρ0 S) π):=by
   have:=hre (eD []) (fun _ _=>rfl) π;rcases hs3 with e|e<;>subst e<;>simp only[zD,V.ab,Cp.ab,this]
  show Value.agg (V.ae (af ρ0 S) π (v8 (fX 0) s 27)).toArray::V.ae (af ρ0 S) π [a,wv]=[Value.agg (V.ae (af ρ0 S) (fw us (eD []) (af ρ0 S) π) (.any 30::.any 31::.any 32::zD s 27::Az 33 22 [])).toArray,.int .u32 (o:Int),.int .i64 (k:Int)];rw[hcell,hav];show Value.agg (_::_::_::(zD s 27).ab _ _::V.ae _ _ tl).toArray::[Value.int .u32 (np.den (af ρ0 S)),.int .i64 (k:Int)]=[Value.agg ((fw us (eD []) (af ρ0 S) π 30).3::(fw us (eD []) (af ρ0 S) π 31).3::(fw us (eD []) (af ρ0 S) π 32).3::(zD s 27).ab _ _::V.ae _ _ (Az 33 22 [])).toArray,_,_]
  rw[hd0,e22,hln,hu 30 (i64 (va 42)) rfl,hu 31 (i64 (.lit 1)) rfl,hu 32 (i64 (.lit 1)) rfl]
 ·rw[l2];exact Mf hval _ _
theorem W6(hng:c.ng=7)(hO:S.Ok ρ0 q):lq c (af ρ0 S) 103 (OT nZ q.s):=by
 intro args st v st' hs hthere S1 π0 w ac n hh ha;have hsO:=hO.s;unfold OT at hs;split at hs;rotate_left
 ·simp[R.ag]at hs
 rename_i l a wv;split at hs
 ·split at hs;rotate_left
  ·simp[R.ag]at hs
  rename_i h1 hq _ _ h2 h3;obtain rfl:=V.aR _ _ h2;simp only[sJ,R.ag,qqk,qqv]at hs;obtain⟨rfl,rfl⟩:=hs;exact Mj hro hW hng hO h1 (.inl hq) (.inr rfl) (fun _=>gi h3) hthere hh ha
 ·split at hs;rotate_left
  ·simp[R.ag]at hs
  rename_i h1 hq _ h2;obtain rfl:=V.aR _ _ h2;simp only[sJ,R.ag,qqk,qqv]at hs;obtain⟨rfl,rfl⟩:=hs;exact Mj hro hW hng hO h1 (.inr ⟨rfl,hq⟩) (.inl rfl) (fun h=>by cases h) hthere hh ha
 ·simp[R.ag]at hs
end
theorem Kq{α:Type}{i:Nat}{q:α}:∀ {l:List (Nat×α)},look l i=some q->(i,q)∈l
 |(k,a)::l,h=>by
  unfold look at h;split at h
  ·rename_i hb;rw[<-qqq hb,<-qqz h];exact qq1 ..
  ·exact qq3 _ (Kq h)
theorem tM {l:List (Nat×ak)}:∀ {os:List (Nat×ak)},u9 l os=true->∀ x∈os,x∈l
 |(i,o)::m,h,x,hx=>by
  unfold u9 at h;split at h
  ·rename_i q hq;split at h
   ·rename_i hb;rcases List.mem_cons.1 hx with rfl|hx
    ·rw[<-ak.beq_eq hb];exact Kq hq
    ·exact tM h x hx
   ·cases h
  ·cases h
theorem NV {os:List (Nat×ak)} {v:V} {r:R Leaf} (h:GN os v r=true):∃ lf,r=.ok lf/\lf.v=v/\(∀ x∈os,x∈lf.objs)/\lf.n<=100+bm:=by
 unfold GN at h;split at h
 ·rename_i lf;obtain⟨h1,h2,h3,_⟩:=ar h;exact⟨lf,rfl,V.beq_eq _ _ h1,tM h2,qqx h3⟩
 ·cases h
theorem zW{g:Bool->Bool}(h:R3 g=true):∀ a,g a=true:=by
 unfold R3 at h;split at h
 ·rename_i h1;intro a;cases a with
  |true=>exact h1
  |false=>exact h
 ·cases h
def Zg(ns:List Nat):List (Nat×ak)->Bool
 |[]=>true
 |(_,o)::l=>match dU 7 ns o.iB with
  |true=>Zg ns l
  |false=>false
theorem Pu{ns:List Nat}:∀ {l:List (Nat×ak)},Zg ns l=true->∀ i o,(i,o)∈l->dU 7 ns o.iB=true
 |(j,a)::l,h,i,o,hi=>by
  unfold Zg at h;split at h
  ·rename_i h1;rcases List.mem_cons.1 hi with e|hi
   ·injection e with _ e;rw[e];exact h1
   ·exact Pu h i o hi
  ·cases h
section
variable {c:Cx} {ρ0:Env} {S:KS} {q:QS}
theorem RW{ρ:Env}{st:St}{s:Nat}(T:SetIs st s)(hs3:s=0\/s=1\/s=2){a g:Bool} (ha:(fX 0).wf.tt ρ=a) (hg:(fX 0).gf.tt ρ=g):Ue ρ ρ [] [] st (pCp s a g).items:=by
 have hre:∀ (r':Nat->Nat),(∀ j,j<100->r' j=eD [] j)->∀ (π:Pl) j,j<100->fw [] r' ρ π j=π j:=fun r' hr' π j hj=>by
  rw[dC rfl,hr' j hj];rfl
 have kn:R3 (fun a=>R3 fun g=>eI (fun s=>Zg (eJ (pCp s a g).items++ma []) (pCp s a g).items) [0,1,2])=true:=by kernel_rfl
 have hsm:s∈[0,1,2]:=by simp only[List.mem_cons,qk6,or_false];omega
 intro i o0 hi;have hkn:=Pu (a8 (zW (zW kn a) g) s hsm) i o0 hi;have hi:(i,o0)∈(19,ak.cells [i64 (va 42),.ptr 18 0,ptV a 23,ptV g 24] nZ.cache none)::(18,ak.cells [.slice 17 0 1 (.known 1),i64 (.lit 1)] T7 none)::(17,ak.cells [qI s 25] nZ.set none)::(apo s++(ao7 a++ao8 g)):=hi;rcases List.mem_cons.1 hi with hi|hi
 ·injection hi with e1 e2;subst e1 e2;refine⟨rfl,by omega,rfl,hkn,_,T.c19,rfl,cD (r:=[]) rfl (by omega) fun r' hr' π=>?_⟩;have c1:(C9 (fX 0).wf 23).ab ρ π=(ptV a 23).ab ρ (fw [] r' ρ π):=by
   show(if(fX 0).wf.tt ρ then Value.pointer (some ⟨(π 23).1,0,none⟩)else .pointer none)=_;rw[ha];cases a with
   |true=>
    show _=Value.pointer (some ⟨(fw [] r' ρ π 23).1,0,none⟩);rw[hre r' hr' π 23 (by omega)];rfl
   |false=>rfl
  have c2:(C9 (fX 0).gf 24).ab ρ π=(ptV g 24).ab ρ (fw [] r' ρ π):=by
   show(if(fX 0).gf.tt ρ then Value.pointer (some ⟨(π 24).1,0,none⟩)else .pointer none)=_;rw[hg];cases g with
   |true=>
    show _=Value.pointer (some ⟨(fw [] r' ρ π 24).1,0,none⟩);rw[hre r' hr' π 24 (by omega)];rfl
   |false=>rfl
  show[Value.int .i64 (ρ.v 42),.pointer (some ⟨(π 18).1,0,none⟩),(C9 (fX 0).wf 23).ab ρ π,(C9 (fX 0).gf 24).ab ρ π]=[Value.int .i64 (ρ.v 42),.pointer (some ⟨(fw [] r' ρ π 18).1,0,none⟩),(ptV a 23).ab ρ (fw [] r' ρ π),(ptV g 24).ab ρ (fw [] r' ρ π)];rw[c1,c2,hre r' hr' π 18 (by omega)]
 rcases List.mem_cons.1 hi with hi|hi
 ·injection hi with e1 e2;subst e1 e2;refine⟨rfl,by omega,rfl,hkn,_,T.c18,rfl,cD (r:=[]) rfl (by omega) fun r' hr' π=>?_⟩;show[Value.slice (some ⟨(π 17).1,0,none⟩) 1 1,.int .i64 1]=[Value.slice (some ⟨(fw [] r' ρ π 17).1,0,none⟩) 1 1,.int .i64 1];rw[hre r' hr' π 17 (by omega)]
 rcases List.mem_cons.1 hi with hi|hi
 ·injection hi with e1 e2;subst e1 e2;refine⟨rfl,by omega,rfl,hkn,_,T.c17,rfl,cD (r:=[]) rfl (by omega) fun r' hr' π=>?_⟩;have h25:=hre r' hr' π 25 (by omega);show[(qI s 25).ab ρ π]=[(qI s 25).ab ρ (fw [] r' ρ π)];rcases hs3 with e|e|e<;>subst e<;>simp only[qI,V.ab,Cp.ab,h25]
 rcases qzz.1 hi with hi|hi
 ·rcases T.c25 with e|⟨e,hg⟩|⟨e,hg⟩
  ·rw[e]at hi;cases hi
  ·rw[e]at hi;have hi:=qq4.1 hi;injection hi with e1 e2;subst e1 e2;exact⟨rfl,by omega,rfl,hkn,_,hg,rfl,cD (r:=[]) rfl (by omega) fun r' hr' π=>rfl⟩
  ·rw[e]at hi;have hi:=qq4.1 hi;injection hi with e1 e2;subst e1 e2;exact⟨rfl,by omega,rfl,hkn,_,hg,rfl,cD (r:=[]) rfl (by omega) fun r' hr' π=>nI rfl⟩
 rcases qzz.1 hi with hi|hi
 ·cases a with
  |false=>cases hi
  |true=>
   have hi:=qq4.1 hi;injection hi with e1 e2;subst e1 e2;exact⟨rfl,by omega,rfl,hkn,_,T.c23,rfl,KW (r:=[]) ha fun r' hr' π=>rfl⟩
 ·cases g with
  |false=>cases hi
  |true=>
   have hi:=qq4.1 hi;injection hi with e1 e2;subst e1 e2;exact⟨rfl,by omega,rfl,hkn,_,T.c24,rfl,KW (r:=[]) hg fun r' hr' π=>nI rfl⟩
variable {W:World} (hro:aZ ρ0.ro) (hW:∀ x∈aj,W.heap[x.1]?=some (ρ0.ro x.1))
include hro
theorem aa2(hng:c.ng=7):lq c (af ρ0 S) 14 (Xj nZ T7):=by
 intro args st v st' hs hthere S1 π0 w ac n hh ha;unfold Xj at hs;split at hs;rotate_left
 ·simp[R.ag]at hs
 split at hs;rotate_left
 ·simp[R.ag]at hs
 rename_i s h1;have T:=MD h1;have hs3:s=0\/s=1\/s=2:=by
  rcases T.c25 with e|⟨e,_⟩|⟨e,_⟩
  ·exact .inl e
  ·exact .inr (.inl e)
  ·exact .inr (.inr e)
 simp only[R.ag,qqk,qqv]at hs;obtain⟨rfl,rfl⟩:=hs;have hsm:s∈[0,1,2]:=by simp only[List.mem_cons,qk6,or_false];omega
 generalize ga:(fX 0).wf.tt (af ρ0 S)=a;generalize gg:(fX 0).gf.tt (af ρ0 S)=g;obtain⟨lf,l1,l2,l3,l4⟩:=NV (zW (zW (a8 kCp s hsm) a) g);refine u7 (ρ:=af ρ0 S) (ρ':=af ρ0 S) (cx0:=cxB) hng dh dV rfl yu rfl hro Tryz.func14 (us:=[]) (r:=[]) (p:=pCp s a g) rfl (RW T hs3 ga gg) (fun i j _ _ e=>e) (fun g _=>⟨rfl,rfl⟩) hthere (fun i v h=>by cases h) ?_ ai.eL (fun π=>?_) (by rw[l1];rfl) l3 l4 (fun π=>?_) hh ha
 ·have:∀ s a g,s=0\/s=1\/s=2->dU 7 (eJ (pCp s a g).items++ma []) (V.gz (pCp s a g).args)=true:=by
   intro s a g hs;rcases hs with e|e|e<;>subst e<;>cases a<;>cases g<;>rfl
  exact this s a g hs3
 ·rfl
 ·rw[l2];show Value.pointer (some ⟨(π (st.n+(2+s))).1,0,none⟩)=.pointer (some ⟨(fw [] (rn [] st.n 100) (af ρ0 S) π (100+(2+s))).1,0,none⟩);have:rn [] st.n 100 (100+(2+s))=st.n+(2+s):=by
   unfold rn;rw[show Nat.blt (100+(2+s)) 100=false by
    cases hb:Nat.blt (100+(2+s)) 100 with
    |false=>rfl
    |true=>have:=qqx hb;omega]
   dsimp only;omega
  rw[dC rfl,this]
include hW
theorem auJ(hO:S.Ok ρ0 q):SumOk Tryz.prog (cxJ q) (af ρ0 S):=
 lX (l:=smJ q) ⟨(ajA hro hW rfl hO).at,(aci hro hW rfl hO).at,(aa1 hro hW rfl hO).at,(W2 hro hW rfl hO).at,(ajE hro hW rfl hO).at,(acj hro hW rfl hO).at,(amY hro hW rfl hO).at,(abq hro hW rfl hO).at,(acM hro hW rfl hO).at,(anA hro hW rfl hO).at,(ajC hro hW rfl hO).at,(abv hro rfl hO).at,(anF hro rfl hO).at,(ace hro hW rfl hO).at,
  (UU hro hW rfl hO).at,(acm hro hW rfl hO).at,(W6 hro hW rfl hO).at,(aa2 hro rfl).at,trivial⟩ rfl
end
end Go.Proofs.YtgcbnjpeifigaaaGreatDoor
