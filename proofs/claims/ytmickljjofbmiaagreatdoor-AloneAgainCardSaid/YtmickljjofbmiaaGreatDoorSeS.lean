/- Symbolic execution, part 28: a drawn region, one step, second half. No condition. -/
import Derived.Test.YtmickljjofbmiaaGreatDoorFwE
namespace Go.Proofs.YtmickljjofbmiaaGreatDoor
open Go
section
variable {P:Program} {cx:Cx} {slf:Self} {ρ:Env} {ops:Array Oper} {bs ord:List Nat} {f:Nat→RS} {S:Nat→Prop} {π0:Pl} {fr:Fr} {st:St} {w:World} {a:Act}
 {E:Nat→Prop} {t:Nat} {π1:Pl} {a1:Act} {w1:World} {p i:Nat} {o:Oper} {b:Nat}
theorem ZS(p:Nat):∀ t,p<t→(∀ r,p<r→r<t→¬fM ord f r)∨∃ r,p<r∧r<t∧fM ord f r∧∀ q,r<q→q<t→¬fM ord f q:=by
 intro t
 induction t with
 | zero=>intro h;omega
 | succ t ih=>
  intro h
  by_cases hb:p<t∧fM ord f t
  ·exact .inr ⟨t,hb.1,by omega,hb.2,fun q h1 h2=>by omega⟩
  ·by_cases hp:p<t
   ·rcases ih hp with h1 | ⟨r,h1,h2,h3,h4⟩
    ·refine .inl fun r hr1 hr2 hbr=>?_
     by_cases e:r=t
     ·subst e;exact hb ⟨hp,hbr⟩
     ·exact h1 r hr1 (by omega) hbr
    ·refine .inr ⟨r,h1,by omega,h3,fun q hq1 hq2 hbq=>?_⟩
     by_cases e:q=t
     ·subst e;exact hb ⟨hp,hbq⟩
     ·exact h4 q hq1 (by omega) hbq
   ·exact .inl fun r h1 h2=>by omega
theorem Qj(R:rS P cx slf ρ ops bs ord f S π0 fr st w a)(I:Inv ρ ops bs ord f S π0 fr st w E t π1 a1 w1)(X:Nxt ops bs ord E p i o b) (hpc:au ρ (f p).st.pc) (hl:(∀ q,q≤ord.length→au ρ (f q).st.pc)∨t≤p)
  {st1:St} (hw:WantF ρ ops o (f p) st1 true) {v:V} {st':St} (hk:RdK o.op (dC cx (f p).fr.tm))
  (h:(eD cx (f p).fr.tm st1 o).ai ρ=some (.val v,st'))
  (hd:f (p+1)={f p with st:=st',reads:={i:=i,tm:=(f p).fr.tm,o:=o,v:=v}::(f p).reads,fr:={(f p).fr with tm:=dF (f p).fr.tm o.dst v}}):nr P ops o a1 w1 (tI ρ ops bs ord f S π0 fr st w E p):=by
 obtain⟨h1,h2⟩:=hw.pc hpc
 obtain⟨hsh,hsn⟩:=oG hk h
 have hn:(f (p+1)).st.n=(f p).st.n:=by rw [hd];exact hsn.trans hw.n
 have hm:(f (p+1)).mm=(f p).mm:=by rw [hd]
 have hsm:∀ s:Sm,(f (p+1)).sm≠s::(f p).sm:=by rw [hd];exact sO
 obtain⟨k1,k2⟩:=yQ.plain (E:=E) (t:=t) R X hm hsm
 -- what is left to do, once the reader has been seen to see the same
 have fin:∀ (sx sx':St) (u:V),sx.h=(f t).st.h→au ρ sx.pc→(eD cx (f p).fr.tm sx o).ai ρ=some (.val u,sx')→u=v→(au ρ sx'.pc→au ρ st'.pc)→nr P ops o a1 w1 (tI ρ ops bs ord f S π0 fr st w E p):=by
  intro sx sx' u hsx hpcx hx hu hp2
  obtain⟨h3,h4⟩:=oG hk hx
  have hview:∀ j x,sx.h.get j=some x→yQ ops bs ord f E t j x:=fun j x hj=>.inl (by rw [←hsx];exact hj)
  obtain⟨hpc2,π2,w2,g,hbk⟩:=I.op R X hview hpcx hx (by rw [h4];intro j a1 a2;omega)
  obtain⟨c,e,hs⟩:=hbk
  refine pg (h2 _ (I.guard R X)) (fL h (by simp)) e ⟨by rw [hd];exact hp2 hpc2,t,π2,?_⟩
  have g':=I.gg.frame (G':=yQ ops bs ord f (fun q=>E q∨q=p) t) hview g fun j x hj=>by
   rcases k1 j x hj with hj | hj
   ·exact .inl (by rw [h3,hsx];exact hj)
   ·exact .inr ⟨.inr hj,by rw [hsx];exact I.clear j x hj⟩
  rw [h4,Ext.dZ] at g' hs
  refine I.next R X (AS (by rw [hd])) (v:=v) (by rw [hd]) g.known ?_ (fun j x hj=>I.clear j x (k2 j x hj)) ?_
  ·rw [hn,Ext.dZ];exact g'
  ·rw [hn,Ext.dZ,←hu];exact hs
 by_cases htp:t≤p
 ·exact fin st1 st' v (by rw [hw.h,I.FP R X htp]) h1 h rfl id
 ·have hall:∀ q,q≤ord.length→au ρ (f q).st.pc:=by
   rcases hl with hl | hl
   ·exact hl
   ·exact absurd hl htp
  have hp1:au ρ st'.pc:=by have:=hall (p+1) X.pos.lt;rw [hd] at this;exact this
  have nbp:¬fM ord f p:=AS (by rw [hd])
  rcases ZS (ord:=ord) (f:=f) p t (by omega) with hno | ⟨r,hr1,hr2,hr3,hr4⟩
  ·refine fin st1 st' v ?_ h1 h rfl id
   rw [hw.h]
   refine (R.tr.pS (by omega) I.s7 fun r h3 h4 hb=>?_).symm
   by_cases e:r=p
   ·subst e;exact nbp hb
   ·exact hno r (by omega) h4 hb
  ·obtain⟨j,o',b',hpos,_⟩:=R.tr.pos (p:=r) (by have:=I.s7;omega)
   have hE:E r:=(I.stage r hr3).2 hr2
   rcases R.tr.late (rd:={i:=i,tm:=(f p).fr.tm,o:=o,v:=v}) (q:=p) (by rw [hd];exact List.mem_cons_self) hpos hr1 hr3 with hbit | hsame
   ·exact absurd (I.closed r j o' b' hE hpos p i X.pos.ix hbit) X.new
   ·have hst:(f (r+1)).st.h=(f t).st.h:=(R.tr.pS (by omega) I.s7 fun q h3 h4=>hr4 q (by omega) h4).symm
    unfold nO at hsame
    split at hsame
    ·rename_i u sx' hev
     refine fin (f (r+1)).st sx' u hst (hall (r+1) (by have:=I.s7;omega)) (by rw [hev];rfl) (V.beq_eq u v hsame) fun _=>hp1
    ·simp at hsame
theorem xp:∀ l:List (Nat×V×V),im l=l.map (·.2)
 | []=>rfl
 | (_,k,v)::l=>by simp [im,xp l]
theorem KQ{ord:List Nat}{E:Nat→Prop}{p i:Nat}{kv xv:V} {new old:List (Nat×V×V)} (hi:ord[p]?=some i) (hinj:∀ r,ord[r]?=some i→r=p) (hE:¬E p)
  (hap:(new++(i,kv,xv)::old).Pairwise fun x y=>x.1≠y.1):
  (im (fj ord E (new++(i,kv,xv)::old))++[(kv,xv)]).Perm (im (fj ord (fun q=>E q∨q=p) (new++(i,kv,xv)::old))):=by
 classical
 have same:∀ l:List (Nat×V×V),(∀ x∈l,x.1≠i)→fj ord (fun q=>E q∨q=p) l=fj ord E l:=by
  intro l hl
  unfold fj
  apply List.filter_congr
  intro x hx
  rw [decide_eq_decide]
  constructor
  ·rintro ⟨r,h6 | rfl,h7⟩
   ·exact⟨r,h6,h7⟩
   ·rw [hi] at h7
    injection h7 with h7
    exact absurd h7.symm (hl x hx)
  ·rintro ⟨r,h6,h7⟩;exact⟨r,.inl h6,h7⟩
 have app:∀ (E:Nat→Prop) (l m:List (Nat×V×V)),fj ord E (l++m)=fj ord E l++fj ord E m:=fun E l m=>by unfold fj;rw [List.filter_append]
 rw [List.pairwise_append] at hap
 obtain⟨_,h2,h3⟩:=hap
 have hnew:∀ x∈new,x.1≠i:=fun x hx=>h3 x hx (i,kv,xv) (by simp)
 have hold:∀ x∈old,x.1≠i:=fun x hx=>(List.rel_of_pairwise_cons h2 hx).symm
 have e1:fj ord E ((i,kv,xv)::old)=fj ord E old:=by
  unfold fj
  rw [List.filter_cons_of_neg]
  rw [decide_eq_true_eq]
  rintro ⟨r,h4,h5⟩
  obtain rfl:=hinj r h5
  exact hE h4
 have e2:fj ord (fun q=>E q∨q=p) ((i,kv,xv)::old)=(i,kv,xv)::fj ord E old:=by
  rw [←same old hold]
  unfold fj
  rw [List.filter_cons_of_pos]
  rw [decide_eq_true_eq]
  exact⟨p,.inr rfl,hi⟩
 rw [app,app,e1,e2,same new hnew]
 simp only [xp,List.map_append,List.map_cons,List.append_assoc]
 apply List.Perm.append_left
 exact List.perm_append_comm
theorem JR(R:rS P cx slf ρ ops bs ord f S π0 fr st w a)(I:Inv ρ ops bs ord f S π0 fr st w E t π1 a1 w1)(X:Nxt ops bs ord E p i o b) (hpc:au ρ (f p).st.pc)
  {st1:St} (hw:WantF ρ ops o (f p) st1 true) {ty:TypeId} {m key x:Operand} {kv xv:V} {mk:Mk} (ho:o.op=.insert ty m key x) (em:dC cx (f p).fr.tm m=some (.map mk.id)) (ek:dC cx (f p).fr.tm key=some kv) (ex:dC cx (f p).fr.tm x=some xv)
  (_hm:(f p).mm=some mk) (hb:Nat.testBit b mk.owner=true) (hk:qX cx ty kv=true)
  (hd:f (p+1)={f p with st:=st1,mm:=some {mk with ins:=(i,kv,xv)::mk.ins},fr:={(f p).fr with tm:=dF (f p).fr.tm o.dst .undef}}):nr P ops o a1 w1 (tI ρ ops bs ord f S π0 fr st w E p):=by
 obtain⟨h1,h2⟩:=hw.pc hpc
 have hn:(f (p+1)).st.n=(f p).st.n:=by rw [hd];exact hw.n
 -- the map at the end
 obtain⟨new,hfin,_⟩:=R.tr.yW (p:=p+1) (m:={mk with ins:=(i,kv,xv)::mk.ins}) (by rw [hd]) (q:=ord.length) X.pos.lt (Nat.le_refl _)
 dsimp only at hfin
 obtain⟨q,hq⟩:=R.tr.mm R.mm0 (Nat.le_refl _) _ hfin
 have hqix:ord[q]?=some mk.owner:=hq.ix
 have hEq:E q:=X.ready q mk.owner hqix hb
 generalize hL:new++(i,kv,xv)::mk.ins=L at hfin hq
 have hperm:(im (fj ord E L)++[(kv,xv)]).Perm (im (fj ord (fun q=>E q∨q=p) L)):=by
  rw [←hL]
  refine KQ X.pos.ix (fun r hr=>R.tr.inj hr X.pos.ix) X.new ?_
  have:=hq.apart
  rw [←hL] at this
  exact this
 have hmg:GC ord f E mk.id (.map (im (fj ord E L))):=⟨q,_,hEq,hfin,hqix,rfl,rfl⟩
 -- what the operation sees
 let hx:H:=(T.nil:H).set mk.id (.map (im (fj ord E L)))
 have hview:∀ j y,hx.get j=some y→yQ ops bs ord f E t j y:=by
  intro j y hj
  by_cases e:mk.id=j
  ·subst e
   simp only [hx] at hj
   rw [T.aR] at hj
   cases hj
   exact .inr (.inr hmg)
  ·simp only [hx] at hj
   rw [T.aL _ _ e,T.get_nil] at hj
   simp at hj
 have hnone:∀ j,j≠mk.id→hx.get j=none:=fun j hj=>by
  simp only [hx]
  rw [T.aL _ _ fun e=>hj e.symm,T.get_nil]
 have hev:eD cx (f p).fr.tm {st1 with h:=hx} o=.ok (.skip,{st1 with h:=hx.set mk.id (.map (im (fj ord E L)++[(kv,xv)]))}):=by
  suffices jh cx (f p).fr.tm {st1 with h:=hx} o=.ok (.skip,{st1 with h:=hx.set mk.id (.map (im (fj ord E L)++[(kv,xv)]))}) by
   unfold eD
   rw [this]
   rfl
  unfold jh
  rw [ho]
  dsimp only
  unfold ko
  rw [em,ek,ex]
  dsimp only
  unfold qX at hk
  unfold mF
  split at hk
  ·rename_i td htd
   try rw [htd]
   try dsimp only
   split at hk
   ·rename_i keyT el htdd
    try rw [htdd]
    try dsimp only
    split at hk
    ·rename_i kd hkd
     try rw [hkd]
     try dsimp only
     rw [hk]
     dsimp only
     have:hx.get mk.id=some (.map (im (fj ord E L))):=T.aR _ _ _
     rw [this]
     dsimp only
     rw [rR]
     ·rfl
     ·intro y hy
      rw [xp,List.mem_map] at hy
      obtain⟨z,hz,rfl⟩:=hy
      obtain⟨hz,r,hr1,hr2⟩:=G1.1 hz
      have hun:=hq.cw
      dsimp only at hun
      rw [←hL] at hz hun
      rw [List.pairwise_append] at hun
      obtain⟨_,u2,u3⟩:=hun
      rcases List.mem_append.1 hz with hz | hz
      ·exact yp (u3 z hz (i,kv,xv) (by simp))
      ·rcases List.mem_cons.1 hz with rfl | hz
       ·exact absurd (R.tr.inj hr2 X.pos.ix▸hr1) X.new
       ·exact List.rel_of_pairwise_cons u2 hz
    ·simp at hk
   ·simp at hk
  ·simp at hk
 obtain⟨hpc2,π2,w2,g,hbk⟩:=I.op R X (st1:={st1 with h:=hx}) (r:=.skip) (st2:={st1 with h:=hx.set mk.id (.map (im (fj ord E L)++[(kv,xv)]))}) hview h1 (by rw [hev];rfl) (by intro j c1 c2;exact absurd c2 (by simpa using c1))
 have e:(execOp a1.eval o).run P w1=.ok .skip w2:=hbk
 have hsm:∀ s:Sm,(f (p+1)).sm≠s::(f p).sm:=by rw [hd];exact sO
 have hnd:∀ c,o.op≠.defer c:=fun c e=>by rw [ho] at e;simp at e
 refine .inr ⟨h2 _ (I.guard R X),hnd,.inr (.inl ⟨w2,e,by rw [hd];exact h1,t,π2,?_⟩)⟩
 -- the entries in the order of the list
 have g2:di ρ (iK S ord f E) π1 hx w1 st1.n π2 (hx.set mk.id (.map (im (fj ord (fun q=>E q∨q=p) L)))) w2 st1.n:=
  ⟨g.le,g.known,g.at_.aaG hperm,fun j y hj=>by
   by_cases e:mk.id=j
   ·subst e
    rw [T.aR] at hj
    cases hj
    exact g.sub mk.id (.map (im (fj ord E L)++[(kv,xv)])) (T.aR _ _ _)
   ·rw [T.aL _ _ e] at hj
    exact g.sub j y (by dsimp only;rw [T.aL _ _ e];exact hj),g.keep,g.size,g.same⟩
 have hsg:∀ j y,Gl ops bs ord f (fun q=>E q∨q=p) j y→Gl ops bs ord f E j y:=fun j y h=>h.less (fun _=>Iff.rfl) hsm
 have hmgid:∀ j y,GC ord f (fun q=>E q∨q=p) j y→j=mk.id∧y=.map (im (fj ord (fun q=>E q∨q=p) L)):=by
  rintro j y ⟨q',m',c1,c2,c3,c4,c5⟩
  rw [hfin] at c2
  injection c2 with c2
  subst c2
  exact⟨c4,c5⟩
 have hclr:(f t).st.h.get mk.id=none:=I.clear _ _ (.inr hmg)
 have g':=I.gg.frame (G':=yQ ops bs ord f (fun q=>E q∨q=p) t) hview g2 fun j y hj=>by
  rcases hj with hj | hj | hj
  ·refine .inr ⟨.inl hj,hnone j fun e=>?_⟩
   rw [e,hclr] at hj
   simp at hj
  ·have hj':=hsg j y hj
   refine .inr ⟨.inr (.inl hj'),hnone j fun e=>?_⟩
   obtain⟨q',s,c1,c2,c3,c4,c5⟩:=hj'
   exact R.tr.al9 c2 hq (c4.symm.trans e)
  ·obtain⟨rfl,rfl⟩:=hmgid j y hj
   exact .inl (T.aR _ _ _)
 rw [Ext.dZ] at g'
 refine I.next R X (AS (by rw [hd])) (v:=.undef) (by rw [hd]) g.known ?_ ?_ iz
 ·rw [hn,Ext.dZ];exact g'
 ·rintro j y (hj | hj)
  ·exact I.clear j y (.inl (hsg j y hj))
  ·obtain⟨rfl,rfl⟩:=hmgid j y hj
   exact hclr
end
end Go.Proofs.YtmickljjofbmiaaGreatDoor
