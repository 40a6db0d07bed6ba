/- Symbolic execution, part 28: a drawn region, one step, second half. No condition. -/
import Derived.Test.YtgcbnjpeifigaaaGreatDoorFwE
namespace Go.Proofs.YtgcbnjpeifigaaaGreatDoor
open Go
section
variable {P:Program} {cx:Cx} {slf:Self} {ρ:Env} {ops:Array Oper} {bs ord:List Nat} {f:Nat->RS} {S:Nat->Prop} {π0:Pl} {fr:Fr} {st:St} {w:World} {a:Act}
 {E:Nat->Prop} {t:Nat} {π1:Pl} {a1:Act} {w1:World} {p i:Nat} {o:Oper} {b:Nat}
theorem abI(p:Nat):∀ t,p<t->(∀ r,p<r->r<t->¬gj ord f r)\/∃ r,p<r/\r<t/\gj ord f r/\∀ q,r<q->q<t->¬gj ord f q:=by
 intro t;induction t with
 |zero=>intro h;omega
 |succ t ih=>
  intro h;by_cases hb:p<t/\gj ord f t
  ·exact .inr ⟨t,hb.1,by omega,hb.2,fun q h1 h2=>by omega⟩
  ·by_cases hp:p<t
   ·rcases ih hp with h1|⟨r,h1,h2,h3,h4⟩
    ·refine .inl fun r hr1 hr2 hbr=>?_
     by_cases e:r=t
     ·subst e;exact hb ⟨hp,hbr⟩
     ·exact h1 r hr1 (by omega) hbr
    ·refine .inr ⟨r,h1,by omega,h3,fun q hq1 hq2 hbq=>?_⟩;by_cases e:q=t
     ·subst e;exact hb ⟨hp,hbq⟩
     ·exact h4 q hq1 (by omega) hbq
   ·exact .inl fun r h1 h2=>by omega
theorem Tk(R:sn P cx slf ρ ops bs ord f S π0 fr st w a)(I:Inv ρ ops bs ord f S π0 fr st w E t π1 a1 w1)(X:Nxt ops bs ord E p i o b) (hpc:ai ρ (f p).st.pc) (hl:(∀ q,q<=ord.length->ai ρ (f q).st.pc)\/t<=p)
  {st1:St} (hw:WantF ρ ops o (f p) st1 true) {v:V} {st':St} (hk:RdK o.op (dM cx (f p).fr.tm))
  (h:(eV cx (f p).fr.tm st1 o).ag ρ=some (.val v,st'))
  (hd:f (p+1)={f p with st:=st',reads:={i:=i,tm:=(f p).fr.tm,o:=o,v:=v}::(f p).reads,fr:={(f p).fr with tm:=dQ (f p).fr.tm o.dst v}}):nt P ops o a1 w1 (uc ρ ops bs ord f S π0 fr st w E p):=by
 obtain⟨h1,h2⟩:=hw.pc hpc;obtain⟨hsh,hsn⟩:=oU hk h;have hn:(f (p+1)).st.n=(f p).st.n:=by rw[hd];exact hsn.trans hw.n
 have hm:(f (p+1)).mm=(f p).mm:=by rw[hd]
 have hsm:∀ s:Sm,(f (p+1)).sm≠s::(f p).sm:=by rw[hd];exact tJ
 obtain⟨k1,k2⟩:=zN.plain (E:=E) (t:=t) R X hm hsm
 -- what is left to do, once the reader has been seen to see the same
 have fin:∀ (sx sx':St) (u:V),sx.h=(f t).st.h->ai ρ sx.pc->(eV cx (f p).fr.tm sx o).ag ρ=some (.val u,sx')->u=v->(ai ρ sx'.pc->ai ρ st'.pc)->nt P ops o a1 w1 (uc ρ ops bs ord f S π0 fr st w E p):=by
  intro sx sx' u hsx hpcx hx hu hp2;obtain⟨h3,h4⟩:=oU hk hx;have hview:∀ j x,sx.h.get j=some x->zN ops bs ord f E t j x:=fun j x hj=>.inl (by rw[<-hsx];exact hj)
  obtain⟨hpc2,π2,w2,g,hbk⟩:=I.op R X hview hpcx hx (by rw[h4];intro j a1 a2;omega);obtain⟨c,e,hs⟩:=hbk;refine pG (h2 _ (I.guard R X)) (gd h (by simp)) e ⟨by rw[hd];exact hp2 hpc2,t,π2,?_⟩;have g':=I.gg.frame (G':=zN ops bs ord f (fun q=>E q\/q=p) t) hview g fun j x hj=>by
   rcases k1 j x hj with hj|hj
   ·exact .inl (by rw[h3,hsx];exact hj)
   ·exact .inr ⟨.inr hj,by rw[hsx];exact I.clear j x hj⟩
  rw[h4,Ext.eE]at g' hs;refine I.next R X (B3 (by rw[hd])) (v:=v) (by rw[hd]) g.known ?_ (fun j x hj=>I.clear j x (k2 j x hj)) ?_
  ·rw[hn,Ext.eE];exact g'
  ·rw[hn,Ext.eE,<-hu];exact hs
 by_cases htp:t<=p
 ·exact fin st1 st' v (by rw[hw.h,I.IU R X htp]) h1 h rfl id
 ·have hall:∀ q,q<=ord.length->ai ρ (f q).st.pc:=by
   rcases hl with hl|hl
   ·exact hl
   ·exact absurd hl htp
  have hp1:ai ρ st'.pc:=by have:=hall (p+1) X.pos.lt;rw[hd]at this;exact this
  have nbp:¬gj ord f p:=B3 (by rw[hd]);rcases abI (ord:=ord) (f:=f) p t (by omega)with hno|⟨r,hr1,hr2,hr3,hr4⟩
  ·refine fin st1 st' v ?_ h1 h rfl id;rw[hw.h];refine(R.tr.qF (by omega) I.tle fun r h3 h4 hb=>?_).symm;by_cases e:r=p
   ·subst e;exact nbp hb
   ·exact hno r (by omega) h4 hb
  ·obtain⟨j,o',b',hpos,_⟩:=R.tr.pos (p:=r) (by have:=I.tle;omega);have hE:E r:=(I.stage r hr3).2 hr2;rcases R.tr.late (rd:={i:=i,tm:=(f p).fr.tm,o:=o,v:=v}) (q:=p) (by rw[hd];exact qq1) hpos hr1 hr3 with hbit|hsame
   ·exact absurd (I.closed r j o' b' hE hpos p i X.pos.ix hbit) X.new
   ·have hst:(f (r+1)).st.h=(f t).st.h:=(R.tr.qF (by omega) I.tle fun q h3 h4=>hr4 q (by omega) h4).symm;unfold nT at hsame;split at hsame
    ·rename_i u sx' hev;refine fin (f (r+1)).st sx' u hst (hall (r+1) (by have:=I.tle;omega)) (by rw[hev];rfl) (V.beq_eq u v hsame) fun _=>hp1
    ·simp at hsame
theorem xr:∀ l:List (Nat×V×V),iQ l=l.map (·.2)
 |[]=>rfl
 |(_,k,v)::l=>by simp[iQ,xr l]
theorem Kh{ord:List Nat}{E:Nat->Prop}{p i:Nat}{kv xv:V} {new old:List (Nat×V×V)} (hi:ord[p]?=some i) (hinj:∀ r,ord[r]?=some i->r=p) (hE:¬E p)
  (hap:(new++(i,kv,xv)::old).Pairwise fun x y=>x.1≠y.1):
  (iQ (fK ord E (new++(i,kv,xv)::old))++[(kv,xv)]).Perm (iQ (fK ord (fun q=>E q\/q=p) (new++(i,kv,xv)::old))):=by
 classical
 have same:∀ l:List (Nat×V×V),(∀ x∈l,x.1≠i)->fK ord (fun q=>E q\/q=p) l=fK ord E l:=by
  intro l hl;unfold fK;apply List.filter_congr;intro x hx;rw[decide_eq_decide];constructor
  ·rintro⟨r,h6|rfl,h7⟩
   ·exact⟨r,h6,h7⟩
   ·rw[hi]at h7;injection h7 with h7;exact absurd h7.symm (hl x hx)
  ·rintro⟨r,h6,h7⟩;exact⟨r,.inl h6,h7⟩
 have app:∀ (E:Nat->Prop) (l m:List (Nat×V×V)),fK ord E (l++m)=fK ord E l++fK ord E m:=fun E l m=>by unfold fK;rw[List.filter_append]
 rw[List.pairwise_append]at hap;obtain⟨_,h2,h3⟩:=hap;have hnew:∀ x∈new,x.1≠i:=fun x hx=>h3 x hx (i,kv,xv) (by simp)
 have hold:∀ x∈old,x.1≠i:=fun x hx=>(List.rel_of_pairwise_cons h2 hx).symm
 have e1:fK ord E ((i,kv,xv)::old)=fK ord E old:=by
  unfold fK;rw[List.filter_cons_of_neg];rw[decide_eq_true_eq];rintro⟨r,h4,h5⟩;obtain rfl:=hinj r h5;exact hE h4
 have e2:fK ord (fun q=>E q\/q=p) ((i,kv,xv)::old)=(i,kv,xv)::fK ord E old:=by
  rw[<-same old hold];unfold fK;rw[List.filter_cons_of_pos];rw[decide_eq_true_eq];exact⟨p,.inr rfl,hi⟩
 rw[app,app,e1,e2,same new hnew];simp only[xr,List.map_append,List.map_cons,qwq];apply List.Perm.append_left;exact List.perm_append_comm
theorem MP(R:sn P cx slf ρ ops bs ord f S π0 fr st w a)(I:Inv ρ ops bs ord f S π0 fr st w E t π1 a1 w1)(X:Nxt ops bs ord E p i o b) (hpc:ai ρ (f p).st.pc)
  {st1:St} (hw:WantF ρ ops o (f p) st1 true) {ty:TypeId} {m key x:Operand} {kv xv:V} {mk:Mk} (ho:o.op=.insert ty m key x) (em:dM cx (f p).fr.tm m=some (.map mk.id)) (ek:dM cx (f p).fr.tm key=some kv) (ex:dM cx (f p).fr.tm x=some xv)
  (_hm:(f p).mm=some mk) (hb:Nat.testBit b mk.owner=true) (hk:q8 cx ty kv=true)
  (hd:f (p+1)={f p with st:=st1,mm:=some {mk with ins:=(i,kv,xv)::mk.ins},fr:={(f p).fr with tm:=dQ (f p).fr.tm o.dst .undef}}):nt P ops o a1 w1 (uc ρ ops bs ord f S π0 fr st w E p):=by
 obtain⟨h1,h2⟩:=hw.pc hpc;have hn:(f (p+1)).st.n=(f p).st.n:=by rw[hd];exact hw.n
 -- the map at the end
 obtain⟨new,hfin,_⟩:=R.tr.z5 (p:=p+1) (m:={mk with ins:=(i,kv,xv)::mk.ins}) (by rw[hd]) (q:=ord.length) X.pos.lt (qq2 _);dsimp only at hfin;obtain⟨q,hq⟩:=R.tr.mm R.mm0 (qq2 _) _ hfin;have hqix:ord[q]?=some mk.owner:=hq.ix;have hEq:E q:=X.ready q mk.owner hqix hb;generalize hL:new++(i,kv,xv)::mk.ins=L at hfin hq;have hperm:(iQ (fK ord E L)++[(kv,xv)]).Perm (iQ (fK ord (fun q=>E q\/q=p) L)):=by
  rw[<-hL];refine Kh X.pos.ix (fun r hr=>R.tr.inj hr X.pos.ix) X.new ?_;have:=hq.apart;rw[<-hL]at this;exact this
 have hmg:I8 ord f E mk.id (.map (iQ (fK ord E L))):=⟨q,_,hEq,hfin,hqix,rfl,rfl⟩
 -- what the operation sees
 let hx:H:=(T.nil:H).set mk.id (.map (iQ (fK ord E L)));have hview:∀ j y,hx.get j=some y->zN ops bs ord f E t j y:=by
  intro j y hj;by_cases e:mk.id=j
  ·subst e;simp only[hx]at hj;rw[T.aP]at hj;cases hj;exact .inr (.inr hmg)
  ·simp only[hx]at hj;rw[T.aB _ _ e,T.get_nil]at hj;simp at hj
 have hnone:∀ j,j≠mk.id->hx.get j=none:=fun j hj=>by
  simp only[hx];rw[T.aB _ _ fun e=>hj e.symm,T.get_nil]
 have hev:eV cx (f p).fr.tm {st1 with h:=hx} o=.ok (.skip,{st1 with h:=hx.set mk.id (.map (iQ (fK ord E L)++[(kv,xv)]))}):=by
  suffices km cx (f p).fr.tm {st1 with h:=hx} o=.ok (.skip,{st1 with h:=hx.set mk.id (.map (iQ (fK ord E L)++[(kv,xv)]))}) by
   unfold eV;rw[this];rfl
  unfold km;rw[ho];dsimp only;unfold kB;rw[em,ek,ex];dsimp only;unfold q8 at hk;unfold ml;split at hk
  ·rename_i td htd
   try rw[htd]
   try dsimp only
   split at hk
   ·rename_i keyT el htdd
    try rw[htdd]
    try dsimp only
    split at hk
    ·rename_i kd hkd
     try rw[hkd]
     try dsimp only
     rw[hk];dsimp only;have:hx.get mk.id=some (.map (iQ (fK ord E L))):=T.aP _ _ _;rw[this];dsimp only;rw[sE]
     ·rfl
     ·intro y hy;rw[xr,qzx]at hy;obtain⟨z,hz,rfl⟩:=hy;obtain⟨hz,r,hr1,hr2⟩:=Ka.1 hz;have hun:=hq.cL;dsimp only at hun;rw[<-hL]at hz hun;rw[List.pairwise_append]at hun;obtain⟨_,u2,u3⟩:=hun;rcases qzz.1 hz with hz|hz
      ·exact zy (u3 z hz (i,kv,xv) (by simp))
      ·rcases List.mem_cons.1 hz with rfl|hz
       ·exact absurd (R.tr.inj hr2 X.pos.ix▸hr1) X.new
       ·exact List.rel_of_pairwise_cons u2 hz
    ·simp at hk
   ·simp at hk
  ·simp at hk
 obtain⟨hpc2,π2,w2,g,hbk⟩:=I.op R X (st1:={st1 with h:=hx}) (r:=.skip) (st2:={st1 with h:=hx.set mk.id (.map (iQ (fK ord E L)++[(kv,xv)]))}) hview h1 (by rw[hev];rfl) (by intro j c1 c2;exact absurd c2 (by simpa using c1));have e:(execOp a1.eval o).run P w1=.ok .skip w2:=hbk;have hsm:∀ s:Sm,(f (p+1)).sm≠s::(f p).sm:=by rw[hd];exact tJ
 have hnd:∀ c,o.op≠.defer c:=fun c e=>by rw[ho]at e;simp at e
 refine .inr ⟨h2 _ (I.guard R X),hnd,.inr (.inl ⟨w2,e,by rw[hd];exact h1,t,π2,?_⟩)⟩
 -- the entries in the order of the list
 have g2:dt ρ (i9 S ord f E) π1 hx w1 st1.n π2 (hx.set mk.id (.map (iQ (fK ord (fun q=>E q\/q=p) L)))) w2 st1.n:=
  ⟨g.le,g.known,g.at_.abQ hperm,fun j y hj=>by
   by_cases e:mk.id=j
   ·subst e;rw[T.aP]at hj;cases hj;exact g.sub mk.id (.map (iQ (fK ord E L)++[(kv,xv)])) (T.aP _ _ _)
   ·rw[T.aB _ _ e]at hj;exact g.sub j y (by dsimp only;rw[T.aB _ _ e];exact hj),g.keep,g.size,g.same⟩
 have hsg:∀ j y,FC ops bs ord f (fun q=>E q\/q=p) j y->FC ops bs ord f E j y:=fun j y h=>h.less (fun _=>Iff.rfl) hsm
 have hmgid:∀ j y,I8 ord f (fun q=>E q\/q=p) j y->j=mk.id/\y=.map (iQ (fK ord (fun q=>E q\/q=p) L)):=by
  rintro j y ⟨q',m',c1,c2,c3,c4,c5⟩;rw[hfin]at c2;injection c2 with c2;subst c2;exact⟨c4,c5⟩
 have hclr:(f t).st.h.get mk.id=none:=I.clear _ _ (.inr hmg);have g':=I.gg.frame (G':=zN ops bs ord f (fun q=>E q\/q=p) t) hview g2 fun j y hj=>by
  rcases hj with hj|hj|hj
  ·refine .inr ⟨.inl hj,hnone j fun e=>?_⟩;rw[e,hclr]at hj;simp at hj
  ·have hj':=hsg j y hj;refine .inr ⟨.inr (.inl hj'),hnone j fun e=>?_⟩;obtain⟨q',s,c1,c2,c3,c4,c5⟩:=hj';exact R.tr.arf c2 hq (c4.symm.trans e)
  ·obtain⟨rfl,rfl⟩:=hmgid j y hj;exact .inl (T.aP _ _ _)
 rw[Ext.eE]at g';refine I.next R X (B3 (by rw[hd])) (v:=.undef) (by rw[hd]) g.known ?_ ?_ jo
 ·rw[hn,Ext.eE];exact g'
 ·rintro j y (hj|hj)
  ·exact I.clear j y (.inl (hsg j y hj))
  ·obtain⟨rfl,rfl⟩:=hmgid j y hj;exact hclr
end
end Go.Proofs.YtgcbnjpeifigaaaGreatDoor
