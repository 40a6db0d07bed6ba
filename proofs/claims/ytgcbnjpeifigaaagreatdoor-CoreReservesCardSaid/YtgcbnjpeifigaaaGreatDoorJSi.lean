/- A call that is told by a run of it at a shape that has what the caller has (names filled by a list). A loop by its rounds, where what a state has of a shape is told by what it stands for. No condition. -/
import Derived.Test.YtgcbnjpeifigaaaGreatDoorFwH
namespace Go.Proofs.YtgcbnjpeifigaaaGreatDoor
open Go Go.Proofs Go.RowKit
theorem GR{a:Nat}:∀ {l:List Nat},a∈l->dW a l=true
 |b::l,h=>by
  unfold dW;rcases List.mem_cons.1 h with rfl|h
  ·rw[qz6];rfl
  ·rw[GR h,Bool.or_true]
section
variable {P:Program} {cx cx0:Cx} {ρ ρ':Env} {S:Nat→Prop} {π0:Pl} {st st':St} {w:World} {L:List (Nat×List V)} {ng:Nat}
def jt:List (Nat×V)->Nat->Option V
 |[],_=>none
 |(k,v)::l,i=>if k=i then some v else jt l i
def ma:List (Nat×V)->List Nat
 |[]=>[]
 |(k,_)::l=>k::ma l
def fw (us:List (Nat×V)) (r:Nat->Nat) (ρ:Env) (π:Pl):Pl:=fun i=>match jt us i with
 |some v=>⟨0,0,v.ab ρ π⟩
 |none=>π (r i)
theorem dC {us:List (Nat×V)} {r:Nat->Nat} {π:Pl} {i:Nat} (h:jt us i=none):fw us r ρ π i=π (r i):=by
 unfold fw;rw[h]
theorem wc {us:List (Nat×V)} {r:Nat->Nat} {π:Pl} {i:Nat} {v:V} (h:jt us i=some v):fw us r ρ π i=⟨0,0,v.ab ρ π⟩:=by
 unfold fw;rw[h]
theorem Ru{i:Nat}:∀ {us:List (Nat×V)},i∈ma us->∃ v,jt us i=some v
 |(k,v)::l,h=>by
  unfold jt;by_cases e:k=i
  ·exact⟨v,by rw[if_pos e]⟩
  ·rw[if_neg e];exact Ru ((List.mem_cons.1 h).elim (fun q=>absurd q.symm e) id)
structure SiteAt (L:List (Nat×List V)) (ng:Nat) (ρ ρ':Env) (us:List (Nat×V)) (p:gk) (r:List (Nat×Nat)) (args:List V) (st:St) (π0:Pl) (w:World):Prop where
 gn:ng<=p.n
 gs:∀ g,g<ng->eD r g=g/\jt us g=none
 there:bB L st.h=true
 un:∀ i v,jt us i=some v->i<p.n/\∃ l,v∈l/\((∃ b e wd,st.h.get b=some (.cells l e wd))\/l=args\/.agg l∈args)
 kn:dU ng (eJ p.items++ma us) (V.gz p.args)=true
 it:∀ i o,(i,o)∈p.items->jt us i=none/\∃ q,st.h.get (eD r i)=some q/\(o.bg=false->q.bg=false)/\i<p.n/\dU ng (eJ p.items++ma us) o.iB=true/\∀ ob,w.heap[(π0 (eD r i)).1]?=some ob->q.is ρ π0 (eD r i) ob->o.is ρ' (fw us (eD r) ρ π0) i ob
 inj:∀ i o j o',(i,o)∈p.items->(j,o')∈p.items->eD r i=eD r j->i=j\/(o.bg=true/\o'.bg=true)
 pc:ai ρ' p.pc
structure LeafTold (ρ ρ':Env) (us:List (Nat×V)) (r:List (Nat×Nat)) (st:St) (p:gk) (lf:Leaf) (tv:V) (h':H) (m:Nat):Prop where
 v:∀ π,tv.ab ρ π=lf.v.ab ρ' (fw us (rn r st.n p.n) ρ π)
 get:∀ j o',h'.get j=some o'->(∃ i o,(i,o)∈lf.objs/\jt us i=none/\rn r st.n p.n i=j/\∀ π ob,o.is ρ' (fw us (rn r st.n p.n) ρ π) i ob->o'.is ρ π j ob)\/(st.h.get j=some o'/\∀ i∈dE p.items,eD r i≠j)
 m:lf.n<=m
theorem RV{π1 π2:Pl}{c:List V}{s1 s2:List Value} (h:(V.ae ρ π1 c++s1).toArray=(V.ae ρ π2 c++s2).toArray):∀ v∈c,v.ab ρ π1=v.ab ρ π2:=by
 have h:=congrArg Array.toList h;have h:V.ae ρ π1 c++s1=V.ae ρ π2 c++s2:=h;obtain⟨h1,_⟩:=List.append_inj h (by rw[au,au]);intro v hv;rw[aU,aU]at h1;exact List.map_inj_left.1 h1 v hv
theorem yx(hmix:P.follows .mixedOrders=true)(htt:nu P cx0.tt)(hft:sl P cx0.ft)(hsm:SumOk P cx0 ρ')(hr:∀ g,g<ng->ρ'.ro g=ρ.ro g)(hng:cx.ng=ng)(hng0:cx0.ng=ng)(hL:∀ x∈L,x.1<ng)(hro:RoAt ρ' L)
  {N:Nat} {f:FuncId} {fn:Func} {us:List (Nat×V)} {p:gk} {r:List (Nat×Nat)} {args:List V} (hfn:P.funcs[f]?=some fn) (T:SiteAt L ng ρ ρ' us p r args st π0 w)
  (hargs:V.ae ρ π0 args=V.ae ρ' (fw us (eD r) ρ π0) p.args) {lf:Leaf} (hlf:(sK p ((ev cx0 N).call f p.args (p.st L))).ag ρ'=some lf) {tv:V} {h':H} {m:Nat} (D:LeafTold ρ ρ' us r st p lf tv h' m)
  (hh:b8 cx ρ S π0 st w) {ac:List Value} (ha:bz ρ S π0 args ac) {n:Nat}:
  CallsIn Fence.wide n P f ac.toArray w (EPost ρ S π0 st w (.ret tv,{h:=h',n:=st.n+(m-p.n),pc:=st.pc})):=by
 obtain⟨st',os,ns,hsel,hnw,hos,hobjs,hn⟩:=xI hlf;have hgn:=T.gn;have q3:=T.kn;have q6:=T.there;have hπ:∀ g,g<ng->(π0 g).1=g:=fun g hg=>(hh.glob g (by rw[hng];exact hg)).2
 have hSg:∀ g,g<ng->S g:=fun g hg=>(hh.glob g (by rw[hng];exact hg)).1
 have hSn:∀ i,S i->i<st.n:=fun i hi=>by
  rcases qkz i st.n with h|h
  ·exact h
  ·exact absurd hi (hh.fresh i h)
 have hrep0:=hh.at_.rep π0 fun _ _=>rfl
 have hW:∀ x∈L,w.heap[x.1]?=some (ρ.ro x.1):=by
  intro x hx;obtain⟨c,hc⟩:=eP q6 x hx;obtain⟨ob,h1,_,h2⟩:=hrep0.obj _ _ hc;rw[hπ _ (hL x hx),h2]at h1;exact h1
 -- values of which nothing is said stay what they are
 have hstab:∀ π,bo S π π0->∀ i v,jt us i=some v->v.ab ρ π=v.ab ρ π0:=by
  intro π hk i v hv;have hl:∀ l:List V,V.ae ρ π l=V.ae ρ π0 l->∀ v∈l,v.ab ρ π=v.ab ρ π0:=fun l h=>by
   rw[aU,aU]at h;exact List.map_inj_left.1 h
  have hargs0:V.ae ρ π args=V.ae ρ π0 args:=(ha π hk).trans (ha π0 fun _ _=>rfl).symm;obtain⟨_,l,hm,⟨b,e,wd,hb⟩|rfl|hb⟩:=T.un i v hv
  ·obtain⟨ob,h1,sp,h2,_⟩:=(hh.at_.rep π hk).obj b _ hb;obtain⟨ob',h1',sp',h2',_⟩:=hrep0.obj b _ hb;rw[hk b (hh.at_.dom _ _ hb),h1']at h1;obtain rfl:=qqz h1;rw[h2]at h2';injection h2' with h2';exact RV h2' v hm
  ·exact hl _ hargs0 v hm
  ·have h3:Value.agg (V.ae ρ π l).toArray=.agg (V.ae ρ π0 l).toArray:=hl _ hargs0 _ hb;injection h3 with h3;exact hl l (congrArg Array.toList h3) v hm
 let S':Nat->Prop:=fun i=>knX ng (eJ p.items++ma us) i=true
 let π':Pl:=fw us (eD r) ρ π0;have hSi:∀ i o,(i,o)∈p.items->S' i:=by
  intro i o ho;show knX ng _ i=true;unfold knX;split
  ·rfl
  ·exact GR (List.mem_append_left _ (kA (BQ ho)))
 have hSgl:∀ g,g<ng->S' g:=by
  intro g hg;show knX ng _ g=true;unfold knX;rw[show Nat.blt g ng=true from qkq hg]
 have hS':∀ i,S' i->i<p.n/\(jt us i=none->S (eD r i)):=by
  intro i hi;have hi:knX ng (eJ p.items++ma us) i=true:=hi;unfold knX at hi;split at hi
  ·rename_i hb;have:=qqx hb;exact⟨by omega,fun _=>by rw[(T.gs i this).1];exact hSg i this⟩
  ·rcases qzz.1 (kA hi)with hi|hi
   ·obtain⟨o,ho⟩:=Bz (GR hi);obtain⟨_,q,h1,_,h5,_⟩:=T.it i o ho;exact⟨h5,fun _=>hh.at_.dom _ _ h1⟩
   ·obtain⟨v,hv⟩:=Ru hi;exact⟨(T.un i v hv).1,fun e=>by rw[hv]at e;cases e⟩
 have hget:∀ i o,(p.st L).h.get i=some o->(i,o)∈p.items\/∃ x∈L,i=x.1/\o=.ro x.1 x.2:=by
  intro i o hi;rcases mR hi with h|⟨_,h⟩
  ·exact .inl h
  ·exact .inr (dD h)
 have hun:∀ i o,(p.st L).h.get i=some o->jt us i=none:=by
  intro i o hi;rcases hget i o hi with h|⟨x,hx,rfl,rfl⟩
  ·exact(T.it i o h).1
  ·exact(T.gs _ (hL x hx)).2
 -- in the caller's heap
 have hq:∀ i o,(p.st L).h.get i=some o->∃ q,st.h.get (eD r i)=some q/\(o.bg=false->q.bg=false)/\S' i:=by
  intro i o hi;rcases hget i o hi with h|⟨x,hx,rfl,rfl⟩
  ·obtain⟨_,q,h1,h2,_⟩:=T.it i o h;exact⟨q,h1,h2,hSi i o h⟩
  ·obtain⟨c,hc⟩:=eP q6 x hx;exact⟨.ro x.1 c,by rw[(T.gs _ (hL x hx)).1];exact hc,(fun z=>by cases z),hSgl _ (hL x hx)⟩
 have hin:∀ i o,(p.st L).h.get i=some o->o.bg=false->i∈dE p.items:=by
  intro i o hi hz;rcases hget i o hi with h|⟨x,hx,rfl,rfl⟩
  ·exact mq h hz
  ·cases hz
 have hpn:∀ {i},jt us i=none->π' i=π0 (eD r i):=fun h=>dC h
 have h0:b8 cx0 ρ' S' π' (p.st L) w:=by
  refine⟨T.pc,⟨fun π hk=>⟨fun i o hi=>?_,fun i j o o' hi hj e=>?_⟩,fun i o hi=>?_⟩,fun g hg=>?_,fun i hi hs=>?_⟩
  ·rcases hget i o hi with h|⟨x,hx,rfl,rfl⟩
   ·obtain⟨h8,q,h1,_,_,h4,h6'⟩:=T.it i o h;obtain⟨ob,h5,h6⟩:=hrep0.obj _ _ h1;have h7:=h6' _ h5 h6;refine⟨ob,by rw[hk i (hSi i o h),hpn h8];exact h5,ak.Bx (hk i (hSi i o h)).symm (fun b hb=>(hk b (Aw h4 b hb)).symm) h7⟩
   ·obtain⟨t,fr,h2⟩:=hro.is x hx;have h1:(π x.1).1=x.1:=by
     rw[hk x.1 (hSgl _ (hL x hx)),hpn (T.gs _ (hL x hx)).2,(T.gs _ (hL x hx)).1];exact hπ _ (hL x hx)
    exact⟨_,by rw[h1,hr _ (hL x hx)];exact hW x hx,⟨t,fr,h2 π⟩,rfl⟩
  ·obtain⟨q,a1,a2,a3⟩:=hq i o hi;obtain⟨q',b1,b2,b3⟩:=hq j o' hj;rw[hk i a3,hk j b3,hpn (hun i o hi),hpn (hun j o' hj)]at e;have fz:∀ {o:ak} {q:ak},(o.bg=false->q.bg=false)->q.bg=true->o.bg=true:=fun{o q} h z=>by
    cases hz:o.bg with
    |true=>rfl
    |false=>rw[h hz]at z;cases z
   rcases hrep0.inj _ _ _ _ a1 b1 e with e|e
   ·rcases hget i o hi with hi'|⟨x,hx,rfl,rfl⟩<;>rcases hget j o' hj with hj'|⟨y,hy,rfl,rfl⟩
    ·exact T.inj i o j o' hi' hj' e
    ·rw[e]at a1;obtain rfl:q=q':=qqz (a1.symm.trans b1);refine .inr ⟨fz a2 ?_,rfl⟩;obtain⟨cy,hcy⟩:=eP q6 y hy;rw[(T.gs _ (hL y hy)).1,hcy]at b1;rw[<-qqz b1];rfl
    ·rw[<-e]at b1;obtain rfl:q=q':=qqz (a1.symm.trans b1);refine .inr ⟨rfl,fz b2 ?_⟩;obtain⟨cx,hcx⟩:=eP q6 x hx;rw[(T.gs _ (hL x hx)).1,hcx]at a1;rw[<-qqz a1];rfl
    ·exact .inr ⟨rfl,rfl⟩
   ·exact .inr ⟨fz a2 e.1,fz b2 e.2⟩
  ·exact(hq i o hi).choose_spec.2.2
  ·rw[hng0]at hg;refine⟨hSgl g hg,?_⟩;rw[hpn (T.gs g hg).2,(T.gs g hg).1];exact hπ g hg
  ·have:=(hS' i hs).1;have hi:p.n<=i:=hi;omega
 have ha0:bz ρ' S' π' p.args ac:=by
  intro π hk;rw[V.cW p.args fun b hb=>hk b (Aw q3 b hb)];show V.ae ρ' (fw us (eD r) ρ π0) p.args=ac;rw[<-hargs];exact ha π0 fun _ _=>rfl
 refine((sD hmix htt hft hsm N).2.2 f p.args _ _ hsel _ π' w ac n h0 ha0 ⟨fn,hfn⟩).mono fun e w' hp=>?_
 obtain⟨hpc',πc,g,c,rfl,hv⟩:=hp;have hle:p.n<=st'.n:=g.le;have hmn:st'.n<=m:=hn▸D.m;let π1:Pl:=fun i=>if i<st.n then π0 i else πc (i-st.n+p.n)
 have rnl:∀ {b},b<p.n->rn r st.n p.n b=eD r b:=fun{b} h=>by
  unfold rn;rw[show Nat.blt b p.n=true from qkq h]
 have wD:∀ {b},p.n<=b->rn r st.n p.n b=b-p.n+st.n:=fun{b} h=>by
  unfold rn;rw[show Nat.blt b p.n=false by
   cases hb:Nat.blt b p.n with
   |false=>rfl
   |true=>have:=qqx hb;omega]
 have hpi:∀ b,Ext S' p.n st'.n b->jt us b=none->π1 (rn r st.n p.n b)=πc b:=by
  intro b hb hu;rcases hb with h|⟨h1,h2⟩
  ·obtain⟨h4,h3⟩:=hS' b h;rw[rnl h4,g.known b h];simp only[π1,if_pos (hSn _ (h3 hu))];exact(hpn hu).symm
  ·rw[wD h1];simp only[π1];rw[if_neg (by omega),show b-p.n+st.n-st.n+p.n=b by omega]
 have hext:∀ b,Ext S' p.n st'.n b->jt us b=none->Ext S st.n (st.n+(m-p.n)) (rn r st.n p.n b):=by
  intro b hb hu;rcases hb with h|⟨h1,h2⟩
  ·obtain⟨h4,h3⟩:=hS' b h;rw[rnl h4];exact .inl (h3 hu)
  ·rw[wD h1];have h2':b<st'.n:=h2;exact .inr ⟨by omega,by omega⟩
 have hk0:bo S π1 π0:=by
  intro i hi;simp only[π1,if_pos (hSn i hi)]
 have hkS:∀ π,bo (Ext S st.n (st.n+(m-p.n))) π π1->bo S π π0:=fun π hk i hi=>(hk i (.inl hi)).trans (hk0 i hi)
 have hkn:∀ π,bo (Ext S st.n (st.n+(m-p.n))) π π1->bo (Ext S' p.n st'.n) (fw us (rn r st.n p.n) ρ π) πc:=by
  intro π hk b hb;cases hu:jt us b with
  |none=>
   rw[dC hu,<-hpi b hb hu];exact hk _ (hext b hb hu)
  |some v=>
   rw[wc hu,hstab π (hkS π hk) b v hu];rcases hb with h|⟨h1,_⟩
   ·rw[g.known b h];exact(wc hu).symm
   ·have:=(T.un b v hu).1;omega
 -- what is left
 have hob:∀ i o,(i,o)∈lf.objs->st'.h.get i=some o/\o.plain=true:=by
  intro i o h1;rw[hobjs]at h1;rcases qzz.1 h1 with h1|h1
  ·exact(Ew hos).1 _ h1
  ·exact(gP _ h1).2
 have hover:∀ i o,(p.st L).h.get i=some o->o.bg=false->i∈dE p.items:=hin;have hold:∀ π,bo (Ext S st.n (st.n+(m-p.n))) π π1->∀ i o,st.h.get i=some o->π i=π0 i:=fun π hk i o hi=>hkS π hk i (hh.at_.dom i o hi)
 have hlt:∀ i o,st.h.get i=some o->(π0 i).1<w.heap.size:=by
  intro i o hi;obtain⟨ob,h1,_⟩:=hrep0.obj i o hi;exact(qq6.1 h1).1
 have hmix2:∀ (j:Nat) (o':ak) (i:Nat) (o:ak),st.h.get j=some o'->(∀ y∈dE p.items,eD r y≠j)->(i,o)∈lf.objs->(πc i).1=(π0 j).1->False:=by
  intro j o' i o hj hno hx e;obtain⟨h1,h2⟩:=hob i o hx;rcases g.sub i o h1 with h|⟨i0,o0,h4,h5,h6⟩
  ·have:=hlt j o' hj;omega
  ·cases hz:o0.bg with
   |true=>
    have:=h6 hz;rw[ak.lT h2]at this;cases this
   |false=>
    obtain⟨q,a1,a2,_⟩:=hq i0 o0 h4;rw[hpn (hun i0 o0 h4)]at h5;rcases hrep0.inj _ _ _ _ a1 hj (h5.trans e)with e'|e'
    ·exact hno i0 (hin i0 o0 h4 hz) e'
    ·rw[a2 hz]at e';cases e'.1
 refine⟨hh.pc,π1,⟨by dsimp only;omega,hk0,⟨fun π hk=>⟨fun j o' hj=>?_,fun j j2 o' o2' hj hj2 e=>?_⟩,fun j o' hj=>?_⟩,fun j o' hj=>?_,fun j hj hne=>?_,g.size,g.same⟩,c,rfl,fun π hk=>?_⟩
 ·rcases D.get j o' hj with⟨i,o,hx,hu,rfl,h4⟩|⟨hj,hno⟩
  ·obtain⟨h1,h2⟩:=hob i o hx;obtain⟨ob,h5,h6⟩:=(g.at_.rep _ (hkn π hk)).obj i o h1;rw[dC hu]at h5;exact⟨ob,h5,h4 _ _ h6⟩
  ·rw[hold π hk j o' hj];obtain⟨ob,h1,h2⟩:=(hh.at_.rep π (hkS π hk)).obj j o' hj;rw[hold π hk j o' hj]at h1;refine⟨ob,?_,h2⟩;rw[g.keep _ (hlt j o' hj) fun i' o' hi' e=>?_,h1];cases hz:o'.bg with
   |true=>rfl
   |false=>
    obtain⟨q,a1,a2,_⟩:=hq i' o' hi';rw[hpn (hun i' o' hi')]at e;rcases hrep0.inj _ _ _ _ a1 hj e with e'|e'
    ·exact absurd e' (hno i' (hin i' o' hi' hz))
    ·rw[a2 hz]at e';cases e'.1
 ·rcases D.get j o' hj with⟨i,o,hx,hu,rfl,_⟩|⟨hj,hno⟩<;>rcases D.get j2 o2' hj2 with⟨i2,o2,hx2,hu2,rfl,_⟩|⟨hj2,hno2⟩
  ·obtain⟨h1,h2⟩:=hob i o hx;obtain⟨h3,_⟩:=hob i2 o2 hx2;have hrep:=(g.at_.rep _ (hkn π hk)).inj i i2 _ _ h1 h3;rw[dC hu,dC hu2]at hrep;rcases hrep e with e|e
   ·exact .inl (by rw[e])
   ·rw[ak.lT h2]at e;cases e.1
  ·have hd:=g.at_.dom _ _ (hob i o hx).1;rw[hk _ (hext _ hd hu),hpi _ hd hu,hold π hk j2 o2' hj2]at e;exact(hmix2 j2 o2' i o hj2 hno2 hx e).elim
  ·have hd:=g.at_.dom _ _ (hob i2 o2 hx2).1;rw[hk _ (hext _ hd hu2),hpi _ hd hu2,hold π hk j o' hj]at e;exact(hmix2 j o' i2 o2 hj hno hx2 e.symm).elim
  ·exact(hh.at_.rep π (hkS π hk)).inj j j2 _ _ hj hj2 e
 ·rcases D.get j o' hj with⟨i,o,hx,hu,rfl,_⟩|⟨hj,_⟩
  ·exact hext _ (g.at_.dom _ _ (hob i o hx).1) hu
  ·exact .inl (hh.at_.dom j o' hj)
 ·rcases D.get j o' hj with⟨i,o,hx,hu,rfl,_⟩|⟨hj,_⟩
  ·obtain⟨h1,h2⟩:=hob i o hx;rw[hpi _ (g.at_.dom _ _ h1) hu];rcases g.sub i o h1 with h|⟨i0,o0,h5,h6,h7⟩
   ·exact .inl h
   ·obtain⟨q,a1,a2,_⟩:=hq i0 o0 h5;rw[hpn (hun i0 o0 h5)]at h6;refine .inr ⟨_,q,a1,h6,fun hz=>?_⟩;have:=h7 (by
     cases hz':o0.bg with
     |true=>rfl
     |false=>rw[a2 hz']at hz;cases hz)
    rw[ak.lT h2]at this;cases this
  ·exact .inr ⟨j,o',hj,congrArg Pc.p (hk0 j (hh.at_.dom j o' hj)).symm,id⟩
 ·refine g.keep j hj fun i o hi e=>?_
  obtain⟨q,a1,a2,_⟩:=hq i o hi;rw[hpn (hun i o hi)]at e;have z:=hne _ q a1 e;cases hz:o.bg with
  |true=>rfl
  |false=>rw[a2 hz]at z;cases z
 ·rw[D.v];exact hv _ (hkn π hk)
end
end Go.Proofs.YtgcbnjpeifigaaaGreatDoor
namespace Go.Proofs.YtgcbnjpeifigaaaGreatDoor
open Go Go.Proofs
def Ai(r:Nat->Nat)(u:Nat->Option V)(ρ:Env)(π:Pl):Pl:=fun i=>match u i with
 |some v=>⟨0,0,v.ab ρ π⟩
 |none=>π (r i)
theorem cQ{r:Nat->Nat}{u:Nat->Option V}{ρ:Env}{π:Pl}{i:Nat}(h:u i=none):Ai r u ρ π i=π (r i):=by
 unfold Ai;rw[h]
theorem v9{r:Nat->Nat}{u:Nat->Option V}{ρ:Env}{π:Pl}{i:Nat}{v:V}(h:u i=some v):Ai r u ρ π i=⟨0,0,v.ab ρ π⟩:=by
 unfold Ai;rw[h]
structure FitS (n:Nat) (ρ1 ρ2:Env) (p:DC) (fr:Fr) (st:St) (r:Nat->Nat) (u:Nat->Option V):Prop where
 obj:∀ i o,(i,o)∈p.items->u i=none/\∃ q,st.h.get (r i)=some q/\q.bg=o.bg/\∀ π1 ob,q.is ρ1 π1 (r i) ob->o.is ρ2 (Ai r u ρ1 π1) i ob
 inj:∀ i j o o',(i,o)∈p.items->(j,o')∈p.items->r i=r j->i=j
 pc:ai ρ1 st.pc->ai ρ2 p.pc
 out:∀ i∈p.kn,i<n->u i=none/\r i=i
 tm:∀ π1,V.ae ρ2 (Ai r u ρ1 π1) p.fr.tm=V.ae ρ1 π1 fr.tm
 df:p.fr.df=[]/\fr.df=[]
section
variable {P:Program} {cx:Cx} {ρ:Env}
theorem xk{n ng:Nat}{p:DC}{fr:Fr}{st:St}{ρ1 ρ2:Env}{r:Nat->Nat}{u:Nat->Option V}{S1:Nat->Prop}{π1:Pl}{w:World}{a:Act}(F:FitS n ρ1 ρ2 p fr st r u)(hp:y8 ng p=true)(hng:cx.ng=ng)(hn:ng<=n)
  (h:b8 cx ρ1 S1 π1 st w) (hfr:eg ρ1 S1 π1 fr a):b8 cx ρ2 (·∈p.kn) (Ai r u ρ1 π1) p.st w/\eg ρ2 (·∈p.kn) (Ai r u ρ1 π1) p.fr a:=by
 unfold y8 at hp;obtain⟨p1,p2,p3,p4,p5,_⟩:=ar hp;constructor
 ·refine⟨F.pc h.pc,⟨fun π hk=>⟨fun i o hi=>?_,fun i j o o' hi hj e=>?_⟩,fun i o hi=>(lM p4 i o (fQ hi)).1⟩,fun g hg=>?_,fun i hi hm=>?_⟩
  ·have hm:=fQ hi;obtain⟨k1,k2⟩:=lM p4 i o hm;obtain⟨hu,q,hq,_,hfo⟩:=F.obj i o hm;obtain⟨ob,g1,g2⟩:=(h.at_.rep π1 fun _ _=>rfl).obj _ q hq;refine⟨ob,?_,?_⟩
   ·rw[hk i k1,cQ hu];exact g1
   ·exact ak.Bx (hk i k1).symm (fun b hb=>(hk b (k2 b hb)).symm) (hfo _ _ g2)
  ·have hmi:=fQ hi;have hmj:=fQ hj;obtain⟨hui,qi,hqi,hfi,_⟩:=F.obj i o hmi;obtain⟨huj,qj,hqj,hfj,_⟩:=F.obj j o' hmj;rw[hk i (lM p4 i o hmi).1,hk j (lM p4 j o' hmj).1,cQ hui,cQ huj]at e;rcases(h.at_.rep π1 fun _ _=>rfl).inj _ _ _ _ hqi hqj e with e|e
   ·exact .inl (F.inj i j o o' hmi hmj e)
   ·exact .inr ⟨hfi.symm.trans e.1,hfj.symm.trans e.2⟩
  ·rw[hng]at hg;have hm:=Bm p1 g hg;obtain⟨hu,hnm⟩:=F.out g hm (by omega);refine⟨hm,?_⟩;rw[cQ hu,hnm];exact(h.glob g (by rw[hng];exact hg)).2
  ·have:=nx p5 i hm;have hi':p.n<=i:=hi;omega
 ·obtain⟨tc,h1,h2,h3⟩:=hfr;obtain⟨d1,d2⟩:=F.df;refine⟨tc,h1,fun π hk=>?_,fun π hk=>?_⟩
  ·rw[V.cW p.fr.tm fun b hb=>hk b (IW p2 b hb),F.tm];exact h2 π1 fun _ _=>rfl
  ·have:=h3 π1 fun _ _=>rfl
   rw[d2]at this;rw[d1,<-this];rfl
theorem Trk.goS{n:Nat}{kn kn':List Nat}{Ih:H}{p:DC}{π0 π1 π':Pl}{h0:H}{w0 w1 w':World}{ρ1 ρ2:Env}{r:Nat->Nat}{u:Nat->Option V}{fr:Fr}{st:St}{m:Nat}(T:Trk n kn Ih π0 h0 w0 π1 w1) (g:dt ρ1 (·∈kn) π1 Ih w1 m π' st.h w' st.n)
  (F:FitS n ρ1 ρ2 p fr st r u) (hkn:∀ i∈kn',i<n->i∈kn) (hp:∀ i∈kn',i<n->i∈p.kn):Trk n kn' p.st.h π0 h0 w0 (Ai r u ρ1 π') w':=by
 refine⟨fun i hi hn=>?_,fun i o hi=>?_,fun j hj hne=>?_,qzq T.size g.size,⟨g.same.1.trans T.same.1,g.same.2.1.trans T.same.2.1,g.same.2.2.trans T.same.2.2⟩⟩
 ·obtain⟨hu,hnm⟩:=F.out i (hp i hi hn) hn;rw[cQ hu,hnm,g.known i (hkn i hi hn)];exact T.base i (hkn i hi hn) hn
 ·obtain⟨hu,q,hq,hfo,_⟩:=F.obj i o (fQ hi);rw[cQ hu,<-hfo];rcases g.sub _ q hq with h1|⟨i0,o0,h1,h2,z⟩
  ·exact .inl (qzq T.size h1)
  ·rw[<-h2];exact(T.sub i0 o0 h1).imp id fun⟨i1,o1,h3,h4,z'⟩=>⟨i1,o1,h3,h4,fun q=>z (z' q)⟩
 ·rw[g.keep j (qzw hj T.size) fun i o hi e=>?_,T.keep j hj hne];rcases T.sub i o hi with h1|⟨i0,o0,h1,h2,z⟩
  ·omega
  ·exact z (hne i0 o0 h1 (h2.trans e))
theorem Qa{ι:Type}{cxB:ι->Cx}{L:LoopI}{Is:ι->DC}{O:OutP}{x N ng:Nat}(Inv:ι->Env->Prop)(μ:Env->Nat)
  (hcode:∀ j ρ1,Inv j ρ1->iW P (cxB j) ρ1 (ev (cxB j) N).code) (hngB:∀ j,(cxB j).ng=ng) (hng:cx.ng=ng) (hrn:L.rnd=none)
  (hst:∀ j,kL ng L (Is j)=true) (hO:y8 ng O.pat=true) (hOn:L.st.n<=O.pat.n) (hOx:O.ex=.exit x) (hR:L.res=.ok (O.ex,O.pat.fr,⟨O.pat.st.h,O.pat.st.n,L.st.pc⟩))
  (h0:ai ρ L.st.pc->∃ j ρ0,Inv j ρ0/\∃ r u,FitS L.st.n ρ ρ0 (Is j) L.fr L.st r u)
  (hstep:∀ j ρ1,Inv j ρ1->ai ρ1 (Is j).pc->∃ pc' e fr st,ai ρ1 pc'/\((ev (cxB j) N).code none L.body (Is j).fr ⟨(Is j).st.h,(Is j).st.n,pc'⟩).ag ρ1=some (e,fr,st) /\
   (ai ρ1 st.pc->(e=.normal/\∃ j' ρ2,Inv j' ρ2/\μ ρ2<μ ρ1/\bX L.st.n (Is j).kn (Is j').kn=true/\∃ r u,FitS L.st.n ρ1 ρ2 (Is j') fr st r u)\/(e=.exit x/\bX L.st.n (Is j).kn O.pat.kn=true/\∃ r u,FitS L.st.n ρ1 ρ O.pat fr st r u))):ij P cx ρ L:=by
 intro res hres S π0 w a ro n hh hf hr;have hSn:∀ i,S i->i<L.st.n:=fun i hi=>Nat.lt_of_not_le fun hle=>hh.fresh i hle hi
 have cB:∀ (j:ι) {ρ1 K π1 st1 w1},b8 cx ρ1 K π1 st1 w1->b8 (cxB j) ρ1 K π1 st1 w1:=fun j _ _ _ _ _ h=>⟨h.pc,h.at_,fun g hg=>h.glob g (by rw[hng,<-hngB j];exact hg),h.fresh⟩
 have hsh:∀ j,y8 ng (Is j)=true/\(∀ i∈(Is j).kn,i<L.st.n->S i)/\ng<=L.st.n:=by
  intro j;obtain⟨s1,s3,s4,s5,_⟩:=ar (by have:=hst j;unfold kL at this;exact this);refine⟨s1,fun i hi hlt=>?_,qqx s4⟩;rcases oI s3 i hi hlt with h1|⟨o,h1⟩
  ·exact(hh.glob i (by rw[hng];exact h1)).1
  ·exact hh.at_.dom i o h1
 have hrnd:∀ {K:Nat->Prop} {π1:Pl},lk K π1 none ro:=by
  intro K π1;rw[hrn]at hr;cases ro with
  |none=>trivial
  |some _=>exact hr.elim
 have key:∀ (m:Nat) (j:ι) (ρ1:Env) (π1:Pl) (w1:World) (a1:Act),μ ρ1=m->Inv j ρ1->b8 cx ρ1 (·∈(Is j).kn) π1 (Is j).st w1->eg ρ1 (·∈(Is j).kn) π1 (Is j).fr a1->Trk L.st.n (Is j).kn (Is j).st.h π0 L.st.h w π1 w1->
   ju (FN ro) n P L.body (eF ρ S π0 L.st w res) a1 w1:=by
  intro m;induction m using Nat.strongRecOn with
  |_ m ih=>
   intro j ρ1 π1 w1 a1 hm hInv hh1 hf1 T1;obtain⟨s1,outS,hgn⟩:=hsh j;obtain⟨pc',e,fr,st,hpc1,hraw,hcase⟩:=hstep j ρ1 hInv hh1.pc;have hh2:b8 cx ρ1 (·∈(Is j).kn) π1 ⟨(Is j).st.h,(Is j).st.n,pc'⟩ w1:=⟨hpc1,hh1.at_,hh1.glob,hh1.fresh⟩
   refine uY (wpIn_mono (hcode j ρ1 hInv none L.body (Is j).fr _ _ hraw _ π1 w1 a1 ro n (cB j hh2) hf1 hrnd) ?_);rintro e' a' w' ⟨pc2,π',g,hex,hfr⟩;dsimp only at pc2 g hex hfr;have hh':=hh2.go g pc2;rcases hcase pc2 with⟨rfl,j',ρ2,hInv2,hlt,hou,r,u,F⟩|⟨rfl,hou,r,u,F⟩
   ·obtain rfl:e'=.normal:=hex;obtain⟨k1,k2⟩:=xk F (hsh j').1 hng hgn hh' hfr;exact ih (μ ρ2) (by omega) j' ρ2 _ w' a' rfl hInv2 k1 k2 (T1.goS g F (jR hou) fun _ h _=>h)
   ·rw[hR]at hres;obtain rfl:=qqz hres;obtain⟨k1,k2⟩:=xk F hO hng hgn hh' hfr;have T2:=T1.goS (kn':=O.pat.kn) g F (jR hou) fun _ h _=>h
    have hlt:=nx (ar (by unfold y8 at hO;exact hO)).2.2.2.2.1;let πX:Pl:=fun i=>if i<L.st.n then π0 i else Ai r u ρ1 π' i
    have same:∀ i∈O.pat.kn,πX i=Ai r u ρ1 π' i:=by
     intro i hi;by_cases hlti:i<L.st.n
     ·simp only[πX,if_pos hlti,T2.base i hi hlti]
     ·simp only[πX,if_neg hlti]
    have ext:∀ i∈O.pat.kn,Ext S L.st.n O.pat.n i:=by
     intro i hi;by_cases hlti:i<L.st.n
     ·exact .inl (outS i (jR hou i hi hlti) hlti)
     ·exact .inr ⟨by omega,hlt i hi⟩
    have known:∀ π,bo (Ext S L.st.n O.pat.n) π πX->bo (·∈O.pat.kn) π (Ai r u ρ1 π'):=fun π hk i hi=>(hk i (ext i hi)).trans (same i hi)
    have hdom:∀ i o,O.pat.st.h.get i=some o->i∈O.pat.kn:=fun i o hi=>k1.at_.dom i o hi
    rw[hOx];have post:eF ρ S π0 L.st w (.exit x,O.pat.fr,⟨O.pat.st.h,O.pat.st.n,L.st.pc⟩) e' a' w':=by
     refine⟨hh.pc,πX,⟨hOn,fun i hi=>by simp only[πX,if_pos (hSn i hi)],⟨fun π hk=>k1.at_.rep π (known π hk),fun i o hi=>ext i (hdom i o hi)⟩,fun i o hi=>?_,T2.keep,T2.size,T2.same⟩,hex,?_⟩
     ·rw[same i (hdom i o hi)];exact T2.sub i o hi
     ·obtain⟨tc,t1,t2,t3⟩:=k2;exact⟨tc,t1,fun π hk=>t2 π (known π hk),fun π hk=>t3 π (known π hk)⟩
    obtain rfl:e'=.exit x:=hex;exact post
 obtain⟨j,ρ0,hInv0,r,u,F⟩:=h0 hh.pc;obtain⟨k1,k2⟩:=xk F (hsh j).1 hng (hsh j).2.2 hh hf;refine key _ j ρ0 _ w a rfl hInv0 k1 k2 ⟨fun i hi hlt=>?_,fun i o hi=>?_,fun _ _ _=>rfl,qq2 _,rfl,rfl,rfl⟩
 ·obtain⟨hu,hnm⟩:=F.out i hi hlt;rw[cQ hu,hnm]
 ·obtain⟨hu,q,hq,hfo,_⟩:=F.obj i o (fQ hi);rw[cQ hu];exact .inr ⟨_,q,hq,rfl,fun z=>hfo▸z⟩
end
end Go.Proofs.YtgcbnjpeifigaaaGreatDoor
