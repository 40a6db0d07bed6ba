/- Symbolic execution, part 29: calls and stores in a drawn region; the whole region. Symbolic execution: ways that are joined. Symbolic execution, part 30: drawn regions are sound; the evaluator is sound. Symbolic execution: a deferred function that asks recover first. Symbolic execution, part 31: tables of types and functions, checked entry by entry. Symbolic execution, part 32: what a call leaves, in names of its own; summaries (plain functions). Symbolic execution, part 33: what a call leaves, in names of its own; summaries out of runs. No condition. -/
import Derived.Test.YtgcbnjpeifigaaaGreatDoorSeS
import Derived.Test.YtgcbnjpeifigaaaGreatDoorFwC
import Derived.RecoverIn
import Derived.Test.YtgcbnjpeifigaaaGreatDoorFwA
import Derived.Below
namespace Go.Proofs.YtgcbnjpeifigaaaGreatDoor
open Go
theorem lh{b j:Nat}{x:ak}:∀ {l:List Sm} {h:H},(de b l h).get j=some x->(∃ s∈l,Nat.testBit b s.owner=true/\j=s.id/\x=s.obj)\/h.get j=some x
 |[],h,e=>.inr e
 |s::l,h,e=>by
  simp only[de]at e;split at e
  ·rename_i hb;by_cases ej:s.id=j
   ·subst ej;rw[T.aP]at e;injection e with e;exact .inl ⟨s,qq1,hb,rfl,e.symm⟩
   ·rw[T.aB _ _ ej]at e;rcases lh e with⟨s',h1,h2⟩|h1
    ·exact .inl ⟨s',qq3 _ h1,h2⟩
    ·exact .inr h1
  ·rcases lh e with⟨s',h1,h2⟩|h1
   ·exact .inl ⟨s',qq3 _ h1,h2⟩
   ·exact .inr h1
theorem DJ{j:Nat}{x:ak}:∀ {l:List Sm} {h:H},(pA l h).get j=some x->(∃ s∈l,j=s.id/\x=s.obj)\/h.get j=some x
 |[],h,e=>.inr e
 |s::l,h,e=>by
  simp only[pA]at e;by_cases ej:s.id=j
  ·subst ej;rw[T.aP]at e;injection e with e;exact .inl ⟨s,qq1,rfl,e.symm⟩
  ·rw[T.aB _ _ ej]at e;rcases DJ e with⟨s',h1,h2⟩|h1
   ·exact .inl ⟨s',qq3 _ h1,h2⟩
   ·exact .inr h1
section
variable {P:Program} {cx:Cx} {slf:Self} {ρ:Env} {ops:Array Oper} {bs ord:List Nat} {f:Nat->RS} {S:Nat->Prop} {π0:Pl} {fr:Fr} {st:St} {w:World} {a:Act}
 {E:Nat->Prop} {t:Nat} {π1:Pl} {a1:Act} {w1:World} {p i:Nat} {o:Oper} {b:Nat}
theorem X0(R:sn P cx slf ρ ops bs ord f S π0 fr st w a)(I:Inv ρ ops bs ord f S π0 fr st w E t π1 a1 w1)(X:Nxt ops bs ord E p i o b) (hpc:ai ρ (f p).st.pc)
  {st1:St} (hw:WantF ρ ops o (f p) st1 true) {v:V} {st':St} (h:BigR cx slf ρ (f p).fr.tm {st1 with h:=de b (f p).sm st1.h} o false v st') (_hlen:st1.n<=st'.n)
  (hd:f (p+1)={fr:={(f p).fr with tm:=dQ (f p).fr.tm o.dst v},st:=st',sm:=gS b (f p).sm,mm:=(f p).mm,bigs:=i::(f p).bigs,reads:=(f p).reads}):nt P ops o a1 w1 (uc ρ ops bs ord f S π0 fr st w E p):=by
 obtain⟨h1,h2⟩:=hw.pc hpc;have hbig:gj ord f p:=⟨i,X.pos.ix,by rw[hd]⟩
 have htp:t<=p:=Nat.le_of_not_lt fun hlt=>X.new ((I.stage p hbig).2 hlt)
 have hst:=I.IU R X htp;have hn:(f (p+1)).st.n=st'.n:=by rw[hd]
 have hf:=R.tr.fresh (E:=E) R.n0 X.pos.lt X.new;rw[hn,<-hw.n]at hf
 -- who came ahead stands ahead
 have hEp:∀ q,E q->q<p:=by
  intro q hq;rcases Nat.lt_trichotomy q p with h3|h3|h3
  ·exact h3
  ·exact absurd (h3▸hq) X.new
  ·obtain⟨j,o',b',hpos,_⟩:=R.tr.pos (I.lt q hq);exact absurd (I.closed q j o' b' hq hpos p i X.pos.ix (R.tr.wO R.UD hpos h3 hbig X.pos.ix)) X.new
 have hids:∀ j,(f p).st.n<=j->¬i9 S ord f E j:=by
  rintro j hj (h3|⟨q,h3,h4,h5,h6⟩)
  ·exact R.n0 j (qzq (R.tr.mono (Nat.zero_le p) (qkx X.pos.lt)) hj) h3
  ·have:=R.tr.mono (p:=q+1) (q:=p) (hEp q h4) (qkx X.pos.lt);omega
 -- what it sees
 let hx:H:=de b (f p).sm st1.h;have hview:∀ j y,hx.get j=some y->zN ops bs ord f E t j y:=by
  intro j y hj;rcases lh hj with⟨s,h3,h4,h5,h6⟩|h3
  ·obtain⟨q,hq⟩:=R.tr.sm R.sm0 (qkx X.pos.lt) s h3;have hEq:E q:=X.ready q s.owner hq.ix h4;refine .inr (.inl ⟨q,s,hEq,⟨by omega,hq.ix,hq.made,hq.id,hq.wide,hq.keepsMm,fun r j x c hr hb hpos=>hq.free r j x c (by have:=hq.lt;omega) hb hpos,hq.thaw⟩,fun r j x c hr hb hpos=>hq.free r j x c (hEp r hr) hb hpos,h5,h6⟩)
  ·refine .inl ?_;rw[hst,<-hw.h];exact h3
 -- the operation, and the call
 have key:∀ (hnd:∀ c,o.op≠.defer c),nt P ops o a1 w1 fun a' w'=>∃ π2 c,ai ρ st'.pc/\dt ρ (i9 S ord f E) π1 hx w1 st1.n π2 st'.h w' st'.n/\pg ρ (Ext (i9 S ord f E) st1.n st'.n) π2 v c/\a'=a1.put o.dst c:=by
  intro hnd;have hwant:=h2 _ (I.guard R X);cases h with
  |val he=>
   obtain⟨hpc2,π2,w2,g,hbk⟩:=I.op R X (st1:={st1 with h:=hx}) hview h1 he hf;obtain⟨c,e,hs⟩:=hbk;exact pG hwant hnd e ⟨π2,c,hpc2,g,hs,rfl⟩
  |skip he=>
   obtain⟨hpc2,π2,w2,g,hbk⟩:=I.op R X (st1:={st1 with h:=hx}) hview h1 he hf;exact .inr ⟨hwant,hnd,.inr (.inl ⟨w2,hbk,π2,undef,hpc2,g,jo,rfl⟩)⟩
  |@enter fn args v s1 s2 he hc=>
   have hf1:Ar (i9 S ord f E) st1.n s1.n:=fun j h3 h4=>hids j (by rw[<-hw.n];exact h3)
   obtain⟨hpc2,π2,w2,g,hbk⟩:=I.op R X (st1:={st1 with h:=hx}) hview h1 he hf1;obtain⟨rfl,cs,fnb,e,hargs,hfn⟩:=hbk;have hhere:b8 cx ρ (Ext (i9 S ord f E) st1.n s1.n) π2 s1 w2:=⟨hpc2,g.at_,(Inv.PX R I).go g.known fun _=>.inl,fun j h3 h4=>by
    have hle:=g.le;rcases h4 with h4|⟨h4,h5⟩
    ·exact hids j (by rw[<-hw.n];dsimp only at hle;omega) h4
    ·omega⟩
   refine .inr ⟨hwant,hnd,.inr (.inr (.inl ⟨fn,cs.toArray,w2,e,fun n=>?_⟩))⟩;refine CallsIn.mono (R.call fn args s1 (.ret v,st') hc _ π2 w2 cs n hhere hargs ⟨fnb,hfn⟩) ?_;rintro e' w3 ⟨hpc3,π3,g3,hen⟩;obtain⟨c,rfl,hs⟩:=hen;have g13:=g.trans g3;dsimp only at g13 hs g3 g;rw[Ext.j3 g.le g3.le]at hs;exact⟨c,rfl,π3,c,hpc3,g13,hs,rfl⟩
  |@round l args v s1 s2 he hc=>
   have hf1:Ar (i9 S ord f E) st1.n s1.n:=fun j h3 h4=>hids j (by rw[<-hw.n];exact h3)
   obtain⟨hpc2,π2,w2,g,hbk⟩:=I.op R X (st1:={st1 with h:=hx}) hview h1 he hf1;obtain⟨rfl,cs,e,hargs⟩:=hbk;have hhere:b8 cx ρ (Ext (i9 S ord f E) st1.n s1.n) π2 s1 w2:=⟨hpc2,g.at_,(Inv.PX R I).go g.known fun _=>.inl,fun j h3 h4=>by
    have hle:=g.le;rcases h4 with h4|⟨h4,h5⟩
    ·exact hids j (by rw[<-hw.n];dsimp only at hle;omega) h4
    ·omega⟩
   obtain⟨fn,tmps,assign,body,hy,_⟩:=R.round l args s1 (.ret v,st') hc _ π2 w2 cs 0 hhere hargs;refine .inr ⟨hwant,hnd,.inr (.inr (.inr ⟨(π2 l).1,fn,tmps,assign,body,w2,e.trans hy,fun n=>?_⟩))⟩;obtain⟨fn',tmps',assign',body',hy',hR⟩:=R.round l args s1 (.ret v,st') hc _ π2 w2 cs n hhere hargs;rw[hy]at hy';injection hy' with hy' _;injection hy' with _ e1 e2 e3 e4;subst e1 e2 e3 e4;refine RoundIn.mono hR ?_;rintro e' w3 ⟨hpc3,π3,g3,hen⟩;obtain⟨c,rfl,hs⟩:=hen;have g13:=g.trans g3;dsimp only at g13 hs g3 g;rw[Ext.j3 g.le g3.le]at hs;exact⟨c,rfl,π3,c,hpc3,g13,hs,rfl⟩
 have hnd:∀ c,o.op≠.defer c:=by
  cases h with
  |val he=>exact gd he (by simp)
  |skip he=>exact gd he (by simp)
  |enter he _=>exact gd he (by simp)
  |round he _=>exact gd he (by simp)
 refine(key hnd).mono ?_;rintro a2 w2 ⟨π2,c,hpc2,g,hs,rfl⟩;refine⟨by rw[hd];exact hpc2,p+1,π2,?_⟩;have hm:(f (p+1)).mm=(f p).mm:=by rw[hd]
 have hsm:∀ s:Sm,(f (p+1)).sm≠s::(f p).sm:=by
  rw[hd];intro s e;have:∀ l:List Sm,(gS b l).length<=l.length:=by
   intro l;induction l with
   |nil=>simp[gS]
   |cons x l ih=>simp only[gS];split<;>simp<;>omega
  have h3:=this (f p).sm;have h4:=congrArg List.length e;simp only[List.length_cons]at h4;omega
 have hids':=J9 (S:=S) (ord:=ord) (f:=f) (E:=E) X.pos.lt;rw[hn,<-hw.n]at hids'
 -- small things that are not seen
 have hunseen:∀ j y,FC ops bs ord f (fun q=>E q\/q=p) j y\/I8 ord f (fun q=>E q\/q=p) j y->(FC ops bs ord f E j y\/I8 ord f E j y)/\hx.get j=none:=by
  intro j y hj;have hE:FC ops bs ord f E j y\/I8 ord f E j y:=(zN.plain (E:=E) (t:=t) R X hm hsm).2 j y hj;refine⟨hE,?_⟩;cases hg:hx.get j with
  |none=>rfl
  |some z=>
   exfalso;rcases lh hg with⟨s,h3,h4,h5,h6⟩|h3
   ·obtain⟨q,hq⟩:=R.tr.sm R.sm0 (qkx X.pos.lt) s h3;rcases hj with⟨q',s',c1,c2,c3,c4,c5⟩|⟨q',m,c1,c2,c3,c4,c5⟩
    ·have:=R.tr.aoc hq c2 (h5.symm.trans c4);subst this;have:=c3 p i o b (.inr rfl) hbig X.pos;rw[h4]at this;simp at this
    ·obtain⟨q'',hq''⟩:=R.tr.mm R.mm0 (qq2 _) m c2;exact R.tr.arf hq hq'' (h5.symm.trans c4)
   ·have:=I.clear j y hE;rw[hst,<-hw.h,h3]at this;simp at this
 refine⟨X.pos.lt,fun q hq=>hq.elim (I.lt q) fun e=>e▸X.pos.lt,fun r hr=>?_,?_,?_,?_,?_⟩
 ·constructor
  ·rintro(h3|rfl)
   ·have:=hEp r h3;omega
   ·omega
  ·intro h3;by_cases e:r=p
   ·exact .inr e
   ·exact .inl (Inv.Jr R X hr (by omega))
 ·rintro r j x c (hr|rfl) hpos q g hq hbit
  ·exact .inl (I.closed r j x c hr hpos q g hq hbit)
  ·obtain⟨_,_,rfl⟩:=X.pos.uniq hpos;exact .inl (X.ready q g hq hbit)
 ·rw[hids'];refine I.gg.frame (G':=zN ops bs ord f (fun q=>E q\/q=p) (p+1)) hview g fun j y hj=>?_
  rcases hj with hj|hj
  ·rw[hd]at hj;exact .inl hj
  ·obtain⟨h3,h4⟩:=hunseen j y hj;exact .inr ⟨.inr h3,h4⟩
 ·intro j y hj;obtain⟨h3,h4⟩:=hunseen j y hj;have hz:y.bg=false:=by
   rcases h3 with⟨_,_,_,q,_,_,rfl⟩|⟨_,_,_,_,_,_,rfl⟩
   ·exact q.thaw
   ·rfl
  have:=I.gg.still hview g (.inr h3) hz h4;rw[hd];exact this
 ·rw[hids',R.tr.Rm X.pos (v:=v) (by rw[hd])];exact(I.fr.known g.known fun j hj=>.inl hj).put hs
theorem aa8(R:sn P cx slf ρ ops bs ord f S π0 fr st w a)(I:Inv ρ ops bs ord f S π0 fr st w E t π1 a1 w1)(X:Nxt ops bs ord E p i o b) (hpc:ai ρ (f p).st.pc)
  {st1:St} (hw:WantF ρ ops o (f p) st1 true) {v:V} {st2:St} (h:RA cx slf ρ (f p).fr.tm {st1 with h:=de b (f p).sm st1.h} o v st2) (hbig:gj ord f p) (hdf:(f p).fr.df=[])
  {Q:Exit->Act->World->Prop} {K:Act->World->Prop} {ro:Option Nat} {n:Nat} (hQ:∀ e a w',eF ρ S π0 st w (.die v,(f p).fr,st2) e a w'->Q e a w'):wpOpIn (FN ro) n P ops Q i K a1 w1:=by
 obtain⟨h1,h2⟩:=hw.pc hpc;have htp:t<=p:=Nat.le_of_not_lt fun hlt=>X.new ((I.stage p hbig).2 hlt)
 have hst:=I.IU R X htp
 -- who came ahead stands ahead
 have hEp:∀ q,E q->q<p:=by
  intro q hq;rcases Nat.lt_trichotomy q p with h3|h3|h3
  ·exact h3
  ·exact absurd (h3▸hq) X.new
  ·obtain⟨j,o',b',hpos,_⟩:=R.tr.pos (I.lt q hq);exact absurd (I.closed q j o' b' hq hpos p i X.pos.ix (R.tr.wO R.UD hpos h3 hbig X.pos.ix)) X.new
 have hids:∀ j,(f p).st.n<=j->¬i9 S ord f E j:=by
  rintro j hj (h3|⟨q,h3,h4,h5,h6⟩)
  ·exact R.n0 j (qzq (R.tr.mono (Nat.zero_le p) (qkx X.pos.lt)) hj) h3
  ·have:=R.tr.mono (p:=q+1) (q:=p) (hEp q h4) (qkx X.pos.lt);omega
 -- what it sees
 let hx:H:=de b (f p).sm st1.h;have hview:∀ j y,hx.get j=some y->zN ops bs ord f E t j y:=by
  intro j y hj;rcases lh hj with⟨s,h3,h4,h5,h6⟩|h3
  ·obtain⟨q,hq⟩:=R.tr.sm R.sm0 (qkx X.pos.lt) s h3;have hEq:E q:=X.ready q s.owner hq.ix h4;refine .inr (.inl ⟨q,s,hEq,⟨by omega,hq.ix,hq.made,hq.id,hq.wide,hq.keepsMm,fun r j x c hr hb hpos=>hq.free r j x c (by have:=hq.lt;omega) hb hpos,hq.thaw⟩,fun r j x c hr hb hpos=>hq.free r j x c (hEp r hr) hb hpos,h5,h6⟩)
  ·refine .inl ?_;rw[hst,<-hw.h];exact h3
 obtain⟨fn,args,s1,he,hc⟩:=h;have hf1:Ar (i9 S ord f E) st1.n s1.n:=fun j h3 h4=>hids j (by rw[<-hw.n];exact h3)
 have hnd:∀ c,o.op≠.defer c:=gd he (by simp);obtain⟨hpc2,π2,w2,g,hbk⟩:=I.op R X (st1:={st1 with h:=hx}) hview h1 he hf1;obtain⟨rfl,cs,fnb,e,hargs,hfn⟩:=hbk;have hhere:b8 cx ρ (Ext (i9 S ord f E) st1.n s1.n) π2 s1 w2:=⟨hpc2,g.at_,(Inv.PX R I).go g.known fun _=>.inl,fun j h3 h4=>by
  have hle:=g.le;rcases h4 with h4|⟨h4,h5⟩
  ·exact hids j (by rw[<-hw.n];dsimp only at hle;omega) h4
  ·omega⟩
 unfold wpOpIn;rw[X.pos.op];dsimp only;rw[h2 _ (I.guard R X),if_pos rfl];refine⟨fun _ _=>trivial,?_⟩;have hsem:o.semAt (FN ro).round a1.eval=execOp a1.eval o:=Oper.semAt_eq _ a1.eval o hnd;rw[hsem,e,Oper.uponIn_enter];refine⟨fun hd=>by simp at hd,?_⟩;refine CallsIn.mono (F:=FN ro) (R.call fn args s1 (.panic v,st2) hc _ π2 w2 cs (n-1) hhere hargs ⟨fnb,hfn⟩) ?_;rintro e' w3 ⟨hpc3,π3,g3,hen⟩;obtain⟨c,rfl,hs⟩:=hen;have g13:=g.trans g3;dsimp only at g13 hs g3 g hpc3;rw[Ext.j3 g.le g3.le]at hs;have hn0:(f 0).st.n=st.n:=by rw[R.zero]
 have hle:st.n<=st1.n:=by rw[hw.n,<-hn0];exact R.tr.mono (Nat.zero_le _) (qkx X.pos.lt)
 have hle2:st1.n<=st2.n:=g13.le;have hsub:∀ j,Ext (i9 S ord f E) st1.n st2.n j->Ext S st.n st2.n j:=by
  rintro j ((h3|⟨q,h3,h4,h5,h6⟩)|⟨h3,h4⟩)
  ·exact .inl h3
  ·have e1:=R.tr.mono (p:=0) (q:=q) (Nat.zero_le _) (qkx h3);have e2:=R.tr.mono (p:=q+1) (q:=p) (hEp q h4) (qkx X.pos.lt);rw[<-hw.n]at e2;exact .inr ⟨by omega,by omega⟩
  ·exact .inr ⟨by omega,h4⟩
 have A:=(I.gg.frame (G':=fun j y=>st2.h.get j=some y) hview g13 fun j y hj=>.inl hj).names hsub;refine hQ _ _ _ ⟨hpc3,π3,⟨qzq hle hle2,A.known,A.view fun _ _ h=>h,A.sub,A.keep,A.size,A.same⟩,⟨c,rfl,fun π hk=>hs π fun j hj=>hk j (hsub j hj)⟩,fun _=>?_⟩;obtain⟨tc,_,_,h3⟩:=I.fr;have h4:=h3 π1 fun _ _=>rfl
 have h5:fr.df=[]:=by
  have:=(R.tr.pY (qkx X.pos.lt)).1;rw[R.zero,hdf]at this;exact this.symm
 dsimp only at h4;rw[h5]at h4;exact h4.symm
theorem CP(R:sn P cx slf ρ ops bs ord f S π0 fr st w a)(I:Inv ρ ops bs ord f S π0 fr st w E t π1 a1 w1)(X:Nxt ops bs ord E p i o b) (hpc:ai ρ (f p).st.pc) (hnl:(f (p+1)).lost=false) (hl:(∀ q,q<=ord.length->ai ρ (f q).st.pc)\/t<=p):
  nt P ops o a1 w1 (uc ρ ops bs ord f S π0 fr st w E p):=by
 obtain⟨st1,tt,hw,⟨rfl,hd⟩|⟨rfl,hd⟩⟩:=(R.tr.at X.pos).act
 ·exact step_skip R I X hpc hw hd
 ·generalize hf:f (p+1)=rs at hd hnl;cases hd with
  |pure hk h hn=>exact Tj R I X hpc hw h hf
  |small hk h hn=>exact O1 R I X hpc hw h hf
  |map hk hm h hh hn=>exact step_map R I X hpc hw h hh hn hm hf
  |read hk h=>exact Tk R I X hpc hl hw hk h hf
  |insert ho em ek ex hm hb hk hn=>exact MP R I X hpc hw ho em ek ex hm hb hk hf
  |@big L v st' h hn hr=>
   obtain rfl:L=false:=hnl;exact X0 R I X hpc hw h hn hf
theorem xu(R:sn P cx slf ρ ops bs ord f S π0 fr st w a)(hE:∀ q,¬E q){w':World}(h1:w'.heap=w.heap)(h2:w'.tape=w.tape/\w'.os=w.os/\w'.output=w.output):Inv ρ ops bs ord f S π0 fr st w E 0 π0 a w':=by
 have hids:∀ i,i9 S ord f E i↔S i:=fun i=>⟨fun h=>h.elim id fun⟨q,_,h,_⟩=>absurd h (hE q),.inl⟩
 have hg:∀ i o,zN ops bs ord f E 0 i o->st.h.get i=some o:=by
  rintro i o (h|⟨q,s,h,_⟩|⟨q,m,h,_⟩)
  ·rw[R.zero]at h;exact h
  ·exact absurd h (hE q)
  ·exact absurd h (hE q)
 refine⟨Nat.zero_le _,fun p h=>absurd h (hE p),fun p _=>⟨fun h=>absurd h (hE p),fun h=>by omega⟩,fun p _ _ _ h=>absurd h (hE p),?_,?_,?_⟩
 ·have at0:At ρ S π0 st.h w':=R.here.at_.heap h1;refine⟨fun _ _=>rfl,fun i hi=>.inl hi,fun π hk=>?_,fun i o hi=>.inl (R.here.at_.dom i o (hg i o hi)),fun i o hi=>.inr ⟨i,o,hg i o hi,rfl,id⟩,fun j _ _=>by rw[h1],by rw[h1];exact qq2 _,h2⟩;have:=at0.rep π fun i hi=>hk i (.inl hi)
  exact⟨fun i o hi=>this.obj i o (hg i o hi),fun i j o o' hi hj e=>this.inj i j o o' (hg i o hi) (hg j o' hj) e⟩
 ·rintro i o (⟨q,s,h,_⟩|⟨q,m,h,_⟩)
  ·exact absurd h (hE q)
  ·exact absurd h (hE q)
 ·rw[Tr.YQ hE,R.zero];exact R.fr.known (fun _ _=>rfl) fun i hi=>.inl hi
theorem Bc(R:sn P cx slf ρ ops bs ord f S π0 fr st w a){m:Nat}(hm:m<=ord.length) (hk:∀ p,p<=m->(f p).lost=false):∀ p,p<=m->ai ρ (f p).st.pc/\∃ t π1 a1 w1,t<=p/\Inv ρ ops bs ord f S π0 fr st w (fun q=>q<p) t π1 a1 w1:=by
 intro p;induction p with
 |zero=>
  intro _;refine⟨by rw[R.zero];exact R.here.pc,0,π0,a,w,qq2 _,?_⟩;exact xu R (fun q h=>by omega) rfl ⟨rfl,rfl,rfl⟩
 |succ p ih=>
  intro hp;obtain⟨hpc,t,π1,a1,w1,htp,I⟩:=ih (by omega);obtain⟨i,o,b,hpos,_⟩:=R.tr.pos (p:=p) (by omega);have X:Nxt ops bs ord (fun q=>q<p) p i o b:=⟨hpos,by omega,fun q g hq hbit=>by
   obtain⟨q',h1,h2⟩:=R.tr.before hpos hbit;obtain rfl:=R.tr.inj hq h2;exact h1⟩
  obtain⟨a2,w2,hpc2,t2,π2,I2⟩:=(CP R I X hpc (hk _ hp) (.inr htp)).exists;have hE:(fun q=>q<p\/q=p)=fun q=>q<p+1:=funext fun q=>propext (by omega)
  rw[hE]at I2;by_cases h2:t2<=p+1
  ·exact⟨hpc2,t2,π2,a2,w2,h2,I2⟩
  ·-- no call between
   refine⟨hpc2,p+1,π2,a2,w2,qq2 _,?_⟩;have hst:(f t2).st.h=(f (p+1)).st.h:=R.tr.qF (by omega) I2.tle fun r h3 h4 hb=>by
    have:=(I2.stage r hb).2 h4;omega
   refine⟨by omega,I2.lt,fun r hb=>Iff.rfl,I2.closed,?_,?_,I2.fr⟩
   ·refine I2.gg.less ?_;rintro i o (h|h)
    ·exact .inl (by rw[hst];exact h)
    ·exact .inr h
   ·rw[<-hst];exact I2.clear
end
section
variable {ρ:Env}
theorem SK{a b:Option Nat}(h:OD a b=true):a=b:=by
 unfold OD at h;split at h
 ·rfl
 ·rw[qqq h]
 ·cases h
theorem Es{π:Pl}{c:X}:∀ {es fs r:List (V×V)},xz c es fs=some r->entriesOf ρ π r=if c.tt ρ then entriesOf ρ π es else entriesOf ρ π fs
 |[],[],r,h=>by
  obtain rfl:=qqz (show some []=some r from h);split<;>rfl
 |(k,v)::l,(j,u)::m,r,h=>by
  unfold xz at h;split at h
  ·rename_i hk;split at h
   ·rename_i q hq;obtain rfl:=qqz h;obtain rfl:=V.beq_eq _ _ hk;have:=Es (π:=π) hq;simp only[entriesOf]at this;simp only[entriesOf,List.map_cons,ja,this];split<;>rfl
   ·cases h
  ·cases h
 |[],_::_,r,h=>by simp[xz]at h
 |_::_,[],r,h=>by simp[xz]at h
theorem BD{π:Pl}{c:X}{o1 o2 o:ak}{i:Nat}{ob:Obj}(h:om c o1 o2=some o) (hi:(if c.tt ρ then o1 else o2).is ρ π i ob):o.is ρ π i ob:=by
 unfold om at h;split at h
 ·split at h
  ·rename_i h1 h2;split at h
   ·rename_i r hr;obtain rfl:=qqz h;obtain rfl:=qqq h1;obtain rfl:=SK h2;have hc:=jM (ρ:=ρ) (π:=π) c _ _ hr;obtain⟨l1,l2⟩:=BE c _ _ hr;split at hi<;>rename_i ht<;>simp only[ht,if_true,qqj,if_false]at hc
    ·obtain⟨spare,e1,e2⟩:=hi;exact⟨spare,by rw[hc];exact e1,by rw[l1];exact e2⟩
    ·obtain⟨spare,e1,e2⟩:=hi;exact⟨spare,by rw[hc];exact e1,by rw[l2];exact e2⟩
   ·cases h
  ·cases h
 ·split at h
  ·rename_i r hr;obtain rfl:=qqz h;have hc:=Es (ρ:=ρ) (π:=π) hr;split at hi<;>rename_i ht<;>simp only[ht,if_true,qqj,if_false]at hc
   ·obtain⟨ms,clock,e1,e2,e3⟩:=hi;exact⟨ms,clock,e1,by rw[hc];exact e2,by rw[hc];exact e3⟩
   ·obtain⟨ms,clock,e1,e2,e3⟩:=hi;exact⟨ms,clock,e1,by rw[hc];exact e2,by rw[hc];exact e3⟩
  ·cases h
 ·obtain rfl:=qqz h;split at hi<;>exact hi
 ·obtain rfl:=qqz h;split at hi<;>exact hi
 ·split at h
  ·rename_i h1 h2;obtain rfl:=qqz h;obtain rfl:=qqq h1;obtain rfl:=V.aR _ _ h2;split at hi<;>exact hi
  ·cases h
 ·split at h
  ·rename_i h1 h2;split at h
   ·rename_i h3 h4;obtain rfl:=qqz h;obtain rfl:=qqq h1;obtain rfl:=V.aR _ _ h2;obtain rfl:=X.beq_eq h3;obtain rfl:=qqq h4;split at hi<;>exact hi
   ·cases h
  ·cases h
 ·split at h
  ·rename_i hb;obtain rfl:=qqz h;obtain rfl:=ak.beq_eq hb;split at hi<;>exact hi
  ·cases h
theorem Sg{c:X}{a b:Option ak}{o:ak} (h:VI c a b=some (some o)):∃ o1 o2,a=some o1/\b=some o2/\om c o1 o2=some o:=by
 unfold VI at h;split at h
 ·rename_i o1 o2;exact⟨o1,o2,rfl,rfl,qqz h⟩
 ·simp at h
theorem uR{c:X}{o1 o2 o:ak}(h:om c o1 o2=some o):o1.bg=o.bg/\o2.bg=o.bg:=by
 unfold om at h;split at h
 ·split at h
  ·split at h
   ·obtain rfl:=qqz h;exact⟨rfl,rfl⟩
   ·cases h
  ·cases h
 ·split at h
  ·obtain rfl:=qqz h;exact⟨rfl,rfl⟩
  ·cases h
 ·obtain rfl:=qqz h;exact⟨rfl,rfl⟩
 ·obtain rfl:=qqz h;exact⟨rfl,rfl⟩
 ·split at h
  ·obtain rfl:=qqz h;exact⟨rfl,rfl⟩
  ·cases h
 ·split at h
  ·split at h
   ·obtain rfl:=qqz h;exact⟨rfl,rfl⟩
   ·cases h
  ·cases h
 ·split at h
  ·rename_i hb;obtain rfl:=qqz h;rw[<-ak.beq_eq hb];exact⟨rfl,rfl⟩
  ·cases h
theorem Si{c:X}:∀ {x y z:H} {bs:List Bool} {o:ak},Kj c x y=some z->z.fJ bs=some o->∃ o1 o2,x.fJ bs=some o1/\y.fJ bs=some o2/\om c o1 o2=some o:=by
 intro x;induction x with
 |nil=>
  intro y z bs o h hz;obtain rfl:=qqz (show some T.nil=some z from h);rw[T.fi]at hz;cases hz
 |node l v r il ir=>
  intro y z bs o h hz;cases y with
  |nil=>
   obtain rfl:=qqz (show some T.nil=some z from h);rw[T.fi]at hz;cases hz
  |node l' v' r'=>
   unfold Kj at h;split at h
   ·cases h
   ·rename_i vv hv;split at h
    ·cases h
    ·rename_i ll hl;split at h
     ·cases h
     ·rename_i rr hr;obtain rfl:=qqz h;cases bs with
      |nil=>
       simp only[T.fJ]at hz ⊢;subst hz;exact Sg hv
      |cons b bs=>
       cases b with
       |true=>exact ir hr hz
       |false=>exact il hl hz
structure zq (ρ:Env) (a b:St):Prop where
 pc:ai ρ a.pc->ai ρ b.pc
 n:a.n<=b.n
 h:∀ i o',b.h.get i=some o'->∃ o,a.h.get i=some o/\(∀ π ob,o.is ρ π i ob->o'.is ρ π i ob)/\o.bg=o'.bg
theorem zq.refl(a:St):zq ρ a a:=⟨fun h=>h,qq2 _,fun _ o h=>⟨o,h,fun _ _ h=>h,rfl⟩⟩
theorem zq.trans{a b c:St}(h1:zq ρ a b)(h2:zq ρ b c):zq ρ a c:=by
 refine⟨fun h=>h2.pc (h1.pc h),qzq h1.n h2.n,fun i o h=>?_⟩;obtain⟨o1,h3,h4,z1⟩:=h2.h i o h;obtain⟨o2,h5,h6,z2⟩:=h1.h i o1 h3;exact⟨o2,h5,fun π ob h=>h4 π ob (h6 π ob h),z2.trans z1⟩
theorem abK(a b:Nat):a<=abR a b/\b<=abR a b:=by
 unfold abR;split
 ·rename_i h;have:=qqx h;omega
 ·rename_i h;have:¬a<=b:=fun hle=>by rw[qkq hle]at h;cases h
  omega
theorem yV{pc:PC}{c:X}{a b s:St}(hp:ai ρ pc)(h:xD pc c a b=some s):zq ρ (if c.tt ρ then a else b) s:=by
 unfold xD at h;split at h
 ·rename_i hh hj;obtain rfl:=qqz h;have m:=abK a.n b.n;refine⟨fun _=>hp,by split<;>dsimp only<;>omega,fun i o' hi=>?_⟩;obtain⟨o1,o2,h1,h2,h3⟩:=Si hj hi;split
  ·rename_i hc;exact⟨o1,h1,fun π ob hob=>BD h3 (by rw[if_pos hc];exact hob),(uR h3).1⟩
  ·rename_i hc;exact⟨o2,h2,fun π ob hob=>BD h3 (by rw[if_neg hc];exact hob),(uR h3).2⟩
 ·cases h
variable {S:Nat→Prop} {π0 π1:Pl} {st:St} {w w':World}
theorem dt.less{h:H}{n:Nat}{a b:St}(g:dt ρ S π0 h w n π1 a.h w' a.n)(l:zq ρ a b):dt ρ S π0 h w n π1 b.h w' b.n:=by
 have hk:∀ π,bo (Ext S n b.n) π π1->bo (Ext S n a.n) π π1:=fun π hp i hi=>hp i (hi.elim .inl fun⟨h1,h2⟩=>.inr ⟨h1,qzw h2 l.n⟩)
 refine⟨qzq g.le l.n,g.known,⟨fun π hp=>⟨fun i o hi=>?_,fun i j o o' hi hj e=>?_⟩,fun i o hi=>?_⟩,fun i o hi=>?_,g.keep,g.size,g.same⟩
 ·obtain⟨o1,h1,h2,_⟩:=l.h i o hi;obtain⟨ob,h3,h4⟩:=(g.at_.rep π (hk π hp)).obj i o1 h1;exact⟨ob,h3,h2 π ob h4⟩
 ·obtain⟨o1,h1,_,z1⟩:=l.h i o hi;obtain⟨o2,h2,_,z2⟩:=l.h j o' hj;rw[<-z1,<-z2];exact(g.at_.rep π (hk π hp)).inj i j _ _ h1 h2 e
 ·obtain⟨o1,h1,_⟩:=l.h i o hi;exact(g.at_.dom i o1 h1).elim .inl fun⟨h3,h4⟩=>.inr ⟨h3,qzw h4 l.n⟩
 ·obtain⟨o1,h1,_,z1⟩:=l.h i o hi;rw[<-z1];exact g.sub i o1 h1
def pt(ρ:Env)(a b:Ex×Fr×St):Prop:=zq ρ a.2.2 b.2.2/\(∀ π,V.ae ρ π b.2.1.tm=V.ae ρ π a.2.1.tm)/\b.2.1.df=a.2.1.df/\(b.1=a.1)
def pv(ρ:Env)(a b:En×St):Prop:=zq ρ a.2 b.2/\(b.1=a.1\/∃ v u,a.1=.ret v/\b.1=.ret u/\∀ π,u.ab ρ π=v.ab ρ π)
theorem pt.refl(a:Ex×Fr×St):pt ρ a a:=⟨.refl _,fun _=>rfl,rfl,rfl⟩
theorem pt.trans{a b c:Ex×Fr×St}(h1:pt ρ a b)(h2:pt ρ b c):pt ρ a c:=⟨h1.1.trans h2.1,fun π=>(h2.2.1 π).trans (h1.2.1 π),h2.2.2.1.trans h1.2.2.1,h2.2.2.2.trans h1.2.2.2⟩
theorem pv.refl(a:En×St):pv ρ a a:=⟨.refl _,.inl rfl⟩
theorem pv.trans{a b c:En×St}(h1:pv ρ a b)(h2:pv ρ b c):pv ρ a c:=by
 refine⟨h1.1.trans h2.1,?_⟩;rcases h2.2 with e|⟨v,u,e1,e2,e3⟩
 ·rw[e];exact h1.2
 ·rcases h1.2 with e|⟨v',u',e1',e2',e3'⟩
  ·exact .inr ⟨v,u,e▸e1,e2,e3⟩
  ·rw[e1]at e2';injection e2' with e2';subst e2';exact .inr ⟨v',u,e1',e2,fun π=>(e3 π).trans (e3' π)⟩
theorem eF.less{a b:Ex×Fr×St}{e:Exit}{act:Act}(h:eF ρ S π0 st w a e act w')(l:pt ρ a b):eF ρ S π0 st w b e act w':=by
 obtain⟨hpc,π1,g,hex,hfr⟩:=h;obtain⟨l1,l2,l3,l4⟩:=l;have hk:∀ π,bo (Ext S st.n b.2.2.n) π π1->bo (Ext S st.n a.2.2.n) π π1:=fun π hp i hi=>hp i (hi.elim .inl fun⟨h1,h2⟩=>.inr ⟨h1,qzw h2 l1.n⟩)
 have fr:eg ρ (Ext S st.n a.2.2.n) π1 a.2.1 act->eg ρ (Ext S st.n b.2.2.n) π1 b.2.1 act:=fun⟨tc,h1,h2,h3⟩=>
  ⟨tc,h1,fun π hp=>(l2 π).trans (h2 π (hk π hp)),fun π hp=>by rw[l3];exact h3 π (hk π hp)⟩
 refine⟨l1.pc hpc,π1,g.less l1,?_,?_⟩
 ·rw[l4];cases hx:a.1 with
  |panic v=>
   rw[hx]at hex;obtain⟨c,e1,e2⟩:=hex;exact⟨c,e1,fun π hp=>e2 π (hk π hp)⟩
  |die v=>
   rw[hx]at hex;obtain⟨c,e1,e2⟩:=hex;exact⟨c,e1,fun π hp=>e2 π (hk π hp)⟩
  |_=>rw[hx]at hex;exact hex
 ·rw[l4];cases hx:a.1 with
  |die v=>rw[hx]at hfr;intro h0;exact hfr (by rw[<-l3];exact h0)
  |_=>rw[hx]at hfr;exact fr hfr
theorem EPost.less{a b:En×St}{e:Ending}(h:EPost ρ S π0 st w a e w')(l:pv ρ a b):EPost ρ S π0 st w b e w':=by
 obtain⟨hpc,π1,g,hen⟩:=h;obtain⟨l1,l2⟩:=l;have hk:∀ π,bo (Ext S st.n b.2.n) π π1->bo (Ext S st.n a.2.n) π π1:=fun π hp i hi=>hp i (hi.elim .inl fun⟨h1,h2⟩=>.inr ⟨h1,qzw h2 l1.n⟩)
 refine⟨l1.pc hpc,π1,g.less l1,?_⟩;rcases l2 with e0|⟨v,u,e0,e1,e2⟩
 ·rw[e0];cases hx:a.1 with
  |ret v=>
   rw[hx]at hen;obtain⟨c,e1,e2⟩:=hen;exact⟨c,e1,fun π hp=>e2 π (hk π hp)⟩
  |panic v=>
   rw[hx]at hen;obtain⟨c,e1,e2⟩:=hen;exact⟨c,e1,fun π hp=>e2 π (hk π hp)⟩
 ·rw[e0]at hen;rw[e1];obtain⟨c,e3,e4⟩:=hen;exact⟨c,e3,fun π hp=>(e2 π).trans (e4 π (hk π hp))⟩
theorem Bi{β:Type}:∀ (l:List V) (k:List V->β),qZ l k=k l
 |[],_=>rfl
 |v::l,k=>by simp[qZ,fh,Bi l]
theorem R1{a b:Ex}(h:tj a b=true):a=b:=by
 unfold tj at h;split at h
 ·rfl
 ·rw[qqq h]
 ·rfl
 ·cases h
theorem Kg{pc:PC}{c:X}{a b r:Ex×Fr×St}(hp:ai ρ pc)(h:BA pc c a b=some r):pt ρ (if c.tt ρ then a else b) r:=by
 unfold BA at h;split at h;rename_i e fr st e' fr' st';split at h
 ·rename_i h1 h2;split at h
  ·rename_i tm htm;split at h
   ·rename_i s hs;rw[Bi]at h;obtain rfl:=qqz h;have l:=yV hp hs;have hc:=fun π=>jM (ρ:=ρ) (π:=π) c _ _ htm
    have e1:=R1 h1;have e2:=mI h2;by_cases ht:c.tt ρ=true
    ·simp only[ht,if_true]at l hc ⊢;exact⟨l,hc,rfl,rfl⟩
    ·simp only[ht]at l hc ⊢;exact⟨l,hc,e2,e1⟩
   ·cases h
  ·cases h
 ·cases h
theorem Ki{pc:PC}{c:X}{a b r:En×St}(hp:ai ρ pc)(h:GJ pc c a b=some r):pv ρ (if c.tt ρ then a else b) r:=by
 unfold GJ at h;split at h
 ·rename_i v st u st';dsimp only at h;split at h
  ·cases h
  ·split at h
   ·rename_i s hs;obtain rfl:=qqz h;have l:=yV hp hs;have hc:=fun π=>ja (ρ:=ρ) (π:=π) c v u
    by_cases ht:c.tt ρ=true
    ·simp only[ht,if_true]at l hc ⊢;exact⟨l,.inr ⟨v,_,rfl,rfl,hc⟩⟩
    ·simp only[ht]at l hc ⊢;exact⟨l,.inr ⟨u,_,rfl,rfl,hc⟩⟩
   ·cases h
 ·cases h
theorem ox{α:Type}{j:PC->X->α->α->Option α}(W:α->α->Prop)(hr:∀ a,W a a)(ht:∀ a b c,W a b->W b c->W a c) (hj:∀ pc c a b r,ai ρ pc->j pc c a b=some r->W (if c.tt ρ then a else b) r):
  ∀ (r:R α) (pc:PC) (x:α),ai ρ pc->(eY j pc r).ag ρ=some x->∃ y,r.ag ρ=some y/\W y x
 |.ok a,pc,x,hp,h=>by
  unfold eY at h;obtain rfl:=qqz (show some a=some x from h);exact⟨a,rfl,hr a⟩
 |.stuck s,pc,x,hp,h=>by simp[eY,R.ag]at h
 |.br c t f,pc,x,hp,h=>by
  have more:∀ b,c.tt ρ=b->ai ρ ((c,b)::pc):=fun b hb g hg=>by
   rcases List.mem_cons.1 hg with rfl|hg
   ·exact hb
   ·exact hp g hg
  have it:=ox W hr ht hj t ((c,true)::pc);have jf:=ox W hr ht hj f ((c,false)::pc);have plain:((R.br c (eY j ((c,true)::pc) t) (eY j ((c,false)::pc) f)).ag ρ=some x)->∃ y,(R.br c t f).ag ρ=some y/\W y x:=by
   intro h;unfold R.ag at h ⊢;split at h
   ·rename_i hc;rw[if_pos hc];exact it x (more _ hc) h
   ·rename_i hc;rw[if_neg hc];exact jf x (more _ (by simpa using hc)) h
  unfold eY at h;split at h
  ·rename_i a b ea eb;split at h
   ·rename_i r hjr;obtain rfl:=qqz (show some r=some x from h);have:=hj pc c a b r hp hjr;unfold R.ag;split
    ·rename_i hc;rw[if_pos hc]at this;obtain⟨y,h1,h2⟩:=it a (more _ hc) (by rw[ea];rfl);exact⟨y,h1,ht _ _ _ h2 this⟩
    ·rename_i hc;rw[if_neg hc]at this;obtain⟨y,h1,h2⟩:=jf b (more _ (by simpa using hc)) (by rw[eb];rfl);exact⟨y,h1,ht _ _ _ h2 this⟩
   ·exact plain (by rw[ea,eb];exact h)
  ·exact plain h
theorem kC{k:St->List V->ec}{res:Ex×Fr×St}:∀ {ts:List Nat} {st:St} {tm:List V},ai ρ st.pc->(jQ st tm ts k).ag ρ=some res->
  ∃ st' tm',cG ρ st st'/\(∀ π,V.ae ρ π tm'=V.ae ρ π tm)/\(k st' tm').ag ρ=some res
 |[],st,tm,hp,h=>⟨st,tm,.refl hp,fun _=>rfl,h⟩
 |t::ts,st,tm,hp,h=>by
  unfold jQ at h;split at h
  ·rename_i v hv;split at h
   ·obtain⟨st1,v1,hl,hv1,h1⟩:=lY hp h;obtain⟨st2,tm2,hl2,htm,h2⟩:=kC hl.pc h1;refine⟨st2,tm2,hl.trans hl2,fun π=>(htm π).trans ?_,h2⟩;rw[mJ,aU,aU,List.map_set,hv1];rw[cr]at hv;obtain⟨hlt,hget⟩:=qq5.1 hv;have:V.ab ρ π v=(List.map (V.ab ρ π) tm)[t]'(by simpa using hlt):=by simp[hget]
    rw[this,List.set_getElem_self]
   ·exact kC hp h
  ·exact kC hp h
end
section
variable {P:Program} {cx:Cx} {ρ:Env} {slf:Self}
theorem yK (h:iW P cx ρ (pM cx slf)) {rnd:Option Nat} {c:Code} {fr:Fr} {st:St} {res:Ex×Fr×St} (e:(xd cx slf rnd c fr st).ag ρ=some res) {S:Nat->Prop} {π0:Pl} {w:World} {a:Act} {ro:Option Nat} {n:Nat} (hh:b8 cx ρ S π0 st w) (hf:eg ρ S π0 fr a) (hr:lk S π0 rnd ro):
  c.wpIn (FN ro) n P (eF ρ S π0 st w res) a w:=by
 unfold xd at e;split at e
 ·exact h rnd c fr st res e S π0 w a ro n hh hf hr
 ·obtain⟨st1,tm1,hl,htm,e1⟩:=kC hh.pc e;obtain⟨tc,h1,h2,h3⟩:=hf;refine wpIn_mono (h rnd c _ st1 res e1 S π0 w a ro n (hh.iw hl) ⟨tc,h1,fun π hk=>(htm π).trans (h2 π hk),h3⟩ hr) fun e a w' hp=>?_
  exact eF.iw hl hp
theorem UW (h:iW P cx ρ (pM cx slf)):iW P cx ρ (uA cx slf):=by
 intro rnd c fr st res e S π0 w a ro n hh hf hr;unfold uA at e;rw[oi,lI]at e;split at e
 ·exact h rnd c fr st res e S π0 w a ro n hh hf hr
 ·split at e
  ·obtain⟨y,e1,l⟩:=ox (pt ρ) pt.refl (fun _ _ _=>pt.trans) (fun _ _ _ _ _ hp hj=>Kg hp hj) _ _ _ hh.pc e;exact wpIn_mono (yK h e1 hh hf hr) fun e a w' hp=>hp.less l
  ·exact yK h e hh hf hr
theorem UR (h:lg P cx ρ (tg cx slf)):lg P cx ρ (uz cx slf):=by
 intro f args st res e S π0 w ac n hh ha hfn;unfold uz at e;split at e
 ·exact h f args st res e S π0 w ac n hh ha hfn
 ·obtain⟨y,e1,l⟩:=ox (pv ρ) pv.refl (fun _ _ _=>pv.trans) (fun _ _ _ _ _ hp hj=>Ki hp hj) _ _ _ hh.pc e;exact CallsIn.mono (h f args st y e1 S π0 w ac n hh ha hfn) fun e w' hp=>hp.less l
end
theorem wN{acc:List Nat}{j:Nat}:∀ {es:List Edge},Nat.testBit (o7 acc es) j=true->∃ e∈es,Region.binds .any e=true/\(e.on=j\/∃ c,acc[e.on]?=some c/\Nat.testBit c j=true)
 |[],h=>by simp[o7]at h
 |e::es,h=>by
  simp only[o7]at h;split at h
  ·rename_i hb;simp only[Nat.testBit_or,qz7,qz4,decide_eq_true_eq,cr]at h;rcases h with(h|h)|h
   ·exact⟨e,by simp,hb,.inl h⟩
   ·cases hc:acc[e.on]? with
    |none=>rw[hc]at h;simp at h
    |some c=>rw[hc]at h;exact⟨e,by simp,hb,.inr ⟨c,hc,by simpa using h⟩⟩
   ·obtain⟨e',h1,h2⟩:=wN h;exact⟨e',by simp[h1],h2⟩
  ·obtain⟨e',h1,h2⟩:=wN h;exact⟨e',by simp[h1],h2⟩
theorem DN{acc:List Nat}:∀ {es:List Edge} {e:Edge},e∈es->Region.binds .any e=true->Nat.testBit (o7 acc es) e.on=true
 |x::es,e,h,hb=>by
  simp only[o7];rcases List.mem_cons.1 h with rfl|h
  ·rw[if_pos hb];simp[Nat.testBit_or]
  ·have:=DN (acc:=acc) h hb;split
   ·simp[Nat.testBit_or,this]
   ·exact this
theorem AB:∀ (os:List Oper) (acc:List Nat),(∃ l,er os acc=acc++l) /\
  ∀ k o b,os[k]?=some o->(er os acc)[acc.length+k]?=some b->b=o7 ((er os acc).take (acc.length+k)) o.after.toList
 |[],acc=>⟨⟨[],by simp[er]⟩,fun k o b h=>by simp at h⟩
 |x::os,acc=>by
  simp only[er];obtain⟨⟨l,h1⟩,h2⟩:=AB os (acc++[o7 acc x.after.toList]);refine⟨⟨o7 acc x.after.toList::l,by rw[h1];simp⟩,fun k o b hk hb=>?_⟩;cases k with
  |zero=>
   simp only[List.length_cons,Nat.zero_lt_succ,qq0,List.getElem_cons_zero,qqk]at hk;subst hk;rw[h1]at hb ⊢;simp only[Nat.add_zero,qwq,List.singleton_append]at hb ⊢;rw[qz0 (qq2 _)]at hb;simp only[Nat.sub_self,List.length_cons,Nat.zero_lt_succ,qq0,List.getElem_cons_zero,qqk]at hb;rw[List.take_left];exact hb.symm
  |succ k=>
   simp only[List.getElem?_cons_succ]at hk;have:=h2 k o b hk (by simpa[Nat.add_assoc,Nat.add_comm 1]using hb);simpa[Nat.add_assoc,Nat.add_comm 1]using this
theorem UB(os:List Oper):∀ acc,(er os acc).length=acc.length+os.length:=by
 induction os with
 |nil=>intro acc;simp[er]
 |cons o os ih=>intro acc;simp only[er,ih];simp;omega
theorem RN{os:List Oper}{i j c:Nat} (h:((er os []).take i)[j]?=some c):(er os [])[j]?=some c/\j<i:=by
 rw[List.getElem?_take]at h;split at h
 ·exact⟨h,by assumption⟩
 ·simp at h
section
variable {P:Program} {cx:Cx} {slf:Self} {ρ:Env} {ops:Array Oper} {ord:List Nat} {f:Nat->RS} {S:Nat->Prop} {π0:Pl} {fr:Fr} {st:St} {w:World} {a:Act}
 {t:Nat} {π1:Pl} {a1:Act} {w1:World}
def pa(ord:List Nat)(listed:Array Bool)(p:Nat):Prop:=∃ i,ord[p]?=some i/\listed[i]?=some true
theorem U4 (R:sn P cx slf ρ ops (er ops.toList []) ord f S π0 fr st w a) {E:Nat->Prop} (I:Inv ρ ops (er ops.toList []) ord f S π0 fr st w E t π1 a1 w1) (hE:∀ q,q<ord.length->E q) (hpc:ai ρ (f ord.length).st.pc):
  eF ρ S π0 st w (.normal,(f ord.length).fr,{(f ord.length).st with h:=yF (f ord.length).mm (pA (f ord.length).sm (f ord.length).st.h)}) .normal a1 w1:=by
 have hn0:(f 0).st.n=st.n:=by rw[R.zero]
 have hle:st.n<=(f ord.length).st.n:=by rw[<-hn0];exact R.tr.mono (Nat.zero_le _) (qq2 _)
 have hids:∀ i,i9 S ord f E i->Ext S st.n (f ord.length).st.n i:=by
  rintro i (h|⟨q,h1,h2,h3,h4⟩)
  ·exact .inl h
  ·have e1:=R.tr.mono (p:=0) (q:=q) (Nat.zero_le _) (qkx h1);have e2:=R.tr.mono (p:=q+1) (q:=ord.length) h1 (qq2 _);exact .inr ⟨by omega,by omega⟩
 have hst:(f t).st.h=(f ord.length).st.h:=(R.tr.qF I.tle (qq2 _) fun r h1 h2 hb=>by
  have:=(I.stage r hb).1 (hE r h2);omega).symm
 have hview:∀ i o,(yF (f ord.length).mm (pA (f ord.length).sm (f ord.length).st.h)).get i=some o->zN ops (er ops.toList []) ord f E t i o:=by
  have sm:∀ i o,(pA (f ord.length).sm (f ord.length).st.h).get i=some o->zN ops (er ops.toList []) ord f E t i o:=by
   intro i o h;rcases DJ h with⟨s,h1,h2,h3⟩|h1
   ·obtain⟨q,hq⟩:=R.tr.sm R.sm0 (qq2 _) s h1;refine .inr (.inl ⟨q,s,hE q hq.lt,⟨by omega,hq.ix,hq.made,hq.id,hq.wide,hq.keepsMm,fun r j x c hr hb hpos=>hq.free r j x c (by have:=hq.lt;omega) hb hpos,hq.thaw⟩,fun r j x c hr hb hpos=>hq.free r j x c (I.lt r hr) hb hpos,h2,h3⟩)
   ·exact .inl (by rw[hst];exact h1)
  intro i o h;cases hm:(f ord.length).mm with
  |none=>rw[hm]at h;exact sm i o h
  |some m=>
   rw[hm]at h;simp only[yF]at h;obtain⟨q,hq⟩:=R.tr.mm R.mm0 (qq2 _) m hm;by_cases e:m.id=i
   ·subst e;rw[T.aP]at h;injection h with h;refine .inr (.inr ⟨q,m,hE q hq.lt,hm,hq.ix,rfl,?_⟩);rw[<-h];have:fK ord E m.ins=m.ins:=VB fun x hx=>by
     obtain⟨r,h1,h2,h3⟩:=hq.ins x hx;exact⟨r,hE r h2,h3⟩
    rw[this]
   ·rw[T.aB _ _ e]at h;exact sm i o h
 have A:=(I.gg.less (G':=fun i o=>(yF (f ord.length).mm (pA (f ord.length).sm (f ord.length).st.h)).get i=some o) hview).names hids;refine⟨hpc,π1,⟨hle,A.known,A.view fun _ _ h=>h,A.sub,A.keep,A.size,A.same⟩,rfl,?_⟩;have hfr:=I.fr;rw[R.tr.acQ hE]at hfr;have hdf:(f ord.length).fr={tm:=(f ord.length).fr.tm,df:=fr.df}:=by
  have:=(R.tr.pY (qq2 ord.length)).1;rw[R.zero]at this;dsimp only at this;rw[<-this]
 rw[<-hdf]at hfr;exact hfr.known (fun _ _=>rfl) hids
theorem CA (tr:Tr cx slf ρ ops (er ops.toList []) ord f) {E:Nat->Prop} {listed:Array Bool} (hE:∀ q,E q↔pa ord listed q) (hin:∀ j,listed[j]?=some true->∃ q:Nat,ord[q]?=some j) {i:Nat} {o:Oper} {b:Nat}
  (hclosed:∀ p i o b,E p->Pos ops (er ops.toList []) ord p i o b->∀ q g,ord[q]?=some g->Nat.testBit b g=true->E q) (hop:ops[i]?=some o) (hbe:(er ops.toList [])[i]?=some b)
  (hr:(o.after.all fun e=>!Region.binds .any e ||listed.getD e.on false)=true):∀ g,Nat.testBit b g=true->∃ q,ord[q]?=some g/\E q:=by
 intro g hbit;have hb:b=o7 ((er ops.toList []).take i) o.after.toList:=by
  obtain⟨_,h2⟩:=AB ops.toList [];have:=h2 i o b (by rw[Array.getElem?_toList];exact hop) (by simpa using hbe);simpa using this
 rw[hb]at hbit;obtain⟨e,h1,h2,h3⟩:=wN hbit;rw[Array.all_eq_true']at hr;have hl:=hr e (by simpa using h1);rw[h2]at hl;simp only[Bool.not_true,Bool.false_or]at hl;have hl':listed[e.on]?=some true:=by
  rw[qk2]at hl;cases hv:listed[e.on]? with
  |none=>rw[hv]at hl;simp at hl
  |some v=>rw[hv]at hl;simp at hl;rw[hl]
 obtain⟨r,hr⟩:=hin _ hl';have hEr:E r:=(hE r).2 ⟨e.on,hr,hl'⟩;rcases h3 with h3|⟨c,h3,h4⟩
 ·exact⟨r,by rw[hr,h3],hEr⟩
 ·obtain⟨h5,h6⟩:=RN h3;obtain⟨j',o',b',hpos',_⟩:=tr.pos (qq5.1 hr).1;obtain rfl:e.on=j':=by have:=hr.symm.trans hpos'.ix;simpa using this
  obtain rfl:c=b':=by have:=h5.symm.trans hpos'.be;simpa using this
  obtain⟨q,hq⟩:=tr.before hpos' h4;exact⟨q,hq.2,hclosed r _ o' c hEr hpos' q g hq.2 h4⟩
theorem El{fuel:Nat}{listed:Array Bool}{i:Nat} (hli:listed[i]?=some false) (hf:(listed.toList.filter (! ·)).length<=fuel+1):((listed.setIfInBounds i true).toList.filter (! ·)).length<=fuel:=by
 have key:∀ (l:List Bool) (i:Nat),l[i]?=some false->((l.set i true).filter (! ·)).length+1=(l.filter (! ·)).length:=by
  intro l;induction l with
  |nil=>intro i h;simp at h
  |cons x l ih=>
   intro i h;cases i with
   |zero=>simp at h;subst h;simp
   |succ i=>
    simp only[List.getElem?_cons_succ]at h;have:=ih i h;cases x<;>simp<;>omega
 have:=key listed.toList i (by rw[Array.getElem?_toList];exact hli);simp only[Array.toList_setIfInBounds];omega
theorem Dh (tr:Tr cx slf ρ ops (er ops.toList []) ord f) {listed:Array Bool} {i p:Nat} (hp:ord[p]?=some i) (hli:listed[i]?=some false):pa ord (listed.setIfInBounds i true)=fun q=>pa ord listed q\/q=p:=by
 have hlt:i<listed.size:=(qq6.1 hli).1;funext q;apply propext;unfold pa;constructor
 ·rintro⟨j,h1,h2⟩;by_cases e:i=j
  ·subst e;exact .inr (tr.inj h1 hp)
  ·rw[Array.getElem?_setIfInBounds_ne e]at h2;exact .inl ⟨j,h1,h2⟩
 ·rintro(⟨j,h1,h2⟩|rfl)
  ·refine⟨j,h1,?_⟩;by_cases e:i=j
   ·subst e;rw[hli]at h2;simp at h2
   ·rw[Array.getElem?_setIfInBounds_ne e];exact h2
  ·exact⟨i,hp,by rw[Array.getElem?_setIfInBounds_self_of_lt (by omega)]⟩
theorem CB{listed:Array Bool}(hsz:listed.size=ops.size){i:Nat}(hi:i∈Region.ready .any ops listed):∃ o,ops[i]?=some o/\listed[i]?=some false/\(o.after.all fun e=>!Region.binds .any e ||listed.getD e.on false)=true:=by
 unfold Region.ready at hi;rw[List.mem_filter,List.mem_range]at hi;obtain⟨hi1,hi2⟩:=hi;simp only[qqw,qzk]at hi2;obtain⟨hi2,hi3⟩:=hi2;have hli:listed[i]?=some false:=by
  rw[Array.getElem?_eq_getElem (by omega)];rw[qk2,Array.getElem?_eq_getElem (by omega)]at hi2;simpa using hi2
 rw[Array.getElem?_eq_getElem hi1]at hi3;simp only[Option.map_some,Option.getD_some]at hi3;exact⟨_,Array.getElem?_eq_getElem hi1,hli,hi3⟩
theorem B5 (tr:Tr cx slf ρ ops (er ops.toList []) ord f) {listed:Array Bool} (hsz:listed.size=ops.size) (hr:Region.ready .any ops listed=[]):∀ q,q<ord.length->pa ord listed q:=by
 intro q;induction q using Nat.strongRecOn with
 |_ q ih=>
  intro hq;obtain⟨i,o,b,hpos,_⟩:=tr.pos hq;have hi:i<ops.size:=(qq6.1 hpos.op).1;cases hl:listed[i]? with
  |none=>rw[Array.getElem?_eq_none_iff]at hl;omega
  |some v=>
   cases v with
   |true=>exact⟨i,hpos.ix,hl⟩
   |false=>
    exfalso;have:i∈Region.ready .any ops listed:=by
     unfold Region.ready;rw[List.mem_filter];refine⟨List.mem_range.2 hi,?_⟩;rw[hpos.op];simp only[Option.map_some,Option.getD_some,qqw,qzk];refine⟨by rw[qk2,hl];rfl,?_⟩;rw[Array.all_eq_true'];intro e he;cases hb:Region.binds .any e with
     |false=>rfl
     |true=>
      have hbit:Nat.testBit b e.on=true:=by
       obtain⟨_,h2⟩:=AB ops.toList [];have:=h2 i o b (by rw[Array.getElem?_toList];exact hpos.op) (by simpa using hpos.be);rw[this];exact DN (by simpa using he) hb
      obtain⟨r,h3,h4⟩:=tr.before hpos hbit;obtain⟨j,h5,h6⟩:=ih r h3 (by omega);rw[h4]at h5;injection h5 with h5;subst h5;simp[h6]
    rw[hr]at this;simp at this
theorem ajJ (R:sn P cx slf ρ ops (er ops.toList []) ord f S π0 fr st w a) (full:dO ord 0+1=2 ^ ops.size) (hkept:∀ q,q<=ord.length->(f q).lost=false) (hpcs:∀ q,q<=ord.length->ai ρ (f q).st.pc) {Q:Exit->Act->World->Prop} {ro:Option Nat} {n:Nat}
  (hQ:∀ a1 w1,eF ρ S π0 st w (.normal,(f ord.length).fr,{(f ord.length).st with h:=yF (f ord.length).mm (pA (f ord.length).sm (f ord.length).st.h)}) .normal a1 w1->Q .normal a1 w1):
  ∀ (fuel:Nat) (listed:Array Bool) (a1:Act) (w1:World),listed.size=ops.size->(listed.toList.filter (! ·)).length<=fuel->
   (∃ t π1,Inv ρ ops (er ops.toList []) ord f S π0 fr st w (pa ord listed) t π1 a1 w1)->wpAnyIn (FN ro) n P .any ops Q fuel listed a1 w1:=by
 have hend:∀ (listed:Array Bool) (a1:Act) (w1:World),(∃ t π1,Inv ρ ops (er ops.toList []) ord f S π0 fr st w (pa ord listed) t π1 a1 w1)->(∀ q,q<ord.length->pa ord listed q)->Q .normal a1 w1:=
  fun listed a1 w1 ⟨t,π1,I⟩ hE=>hQ a1 w1 (U4 R I hE (hpcs _ (qq2 _)))
 intro fuel;induction fuel with
 |zero=>
  intro listed a1 w1 hsz hf hI;have hz:listed.toList.filter (! ·)=[]:=qzj (by omega);have htrue:∀ i,i<ops.size->listed[i]?=some true:=by
   intro i hi;have hi':i<listed.size:=by omega
   have:=List.filter_eq_nil_iff.1 hz (listed[i]) (by rw[<-Array.getElem_toList];exact List.getElem_mem _);rw[Array.getElem?_eq_getElem hi'];simpa using this
  refine⟨?_,hend listed a1 w1 hI fun q hq=>?_⟩
  ·unfold Region.ready;rw[List.filter_eq_nil_iff];intro i hi;rw[List.mem_range]at hi;simp[htrue i hi]
  ·obtain⟨i,o,b,hpos,_⟩:=R.tr.pos hq;exact⟨i,hpos.ix,htrue i (qq6.1 hpos.op).1⟩
 |succ fuel ih=>
  intro listed a1 w1 hsz hf hI;refine⟨fun hr=>hend listed a1 w1 hI (B5 R.tr hsz hr),fun i hi=>?_⟩;obtain⟨o,hop,hli,hrd⟩:=CB hsz hi;obtain⟨p,hp⟩:=Ij full (qq6.1 hop).1;obtain⟨i',o',b,hpos,_⟩:=R.tr.pos (qq5.1 hp).1;obtain rfl:i=i':=by have:=hp.symm.trans hpos.ix;simpa using this
  obtain rfl:o=o':=by have:=hop.symm.trans hpos.op;simpa using this
  obtain⟨t,π1,I⟩:=hI;have X:Nxt ops (er ops.toList []) ord (pa ord listed) p i o b:=by
   refine⟨hpos,?_,fun q g hq hbit=>?_⟩
   ·rintro⟨j,h1,h2⟩;rw[hp]at h1;injection h1 with h1;subst h1;rw[hli]at h2;simp at h2
   ·obtain⟨q',h1,h2⟩:=CA R.tr (fun _=>Iff.rfl) (fun j hj=>Ij full (by have:=(qq6.1 hj).1;omega)) I.closed hop hpos.be hrd g hbit;obtain rfl:=R.tr.inj hq h1;exact h2
  refine nt.wp hpos.op ((CP R I X (hpcs p (qkx hpos.lt)) (hkept _ hpos.lt) (.inl hpcs)).mono ?_);rintro a2 w2 ⟨_,t2,π2,I2⟩;refine ih (listed.setIfInBounds i true) a2 w2 (by simpa using hsz) (El hli hf) ⟨t2,π2,?_⟩;rw[Dh R.tr hp hli];exact I2
theorem Av{bs:List Nat}{i j b:Nat}:∀ {l:List Nat},sV bs i l=true->j∈l->bs[j]?=some b->Nat.testBit b i=true
 |[],_,h,_=>by simp at h
 |x::l,hd,hm,hb=>by
  simp only[sV,cr]at hd;split at hd
  ·rename_i c hc;split at hd
   ·rename_i hbit;rcases List.mem_cons.1 hm with rfl|hm
    ·rw[hc]at hb;injection hb with hb;rw[<-hb];exact hbit
    ·exact Av hd hm hb
   ·simp at hd
  ·simp at hd
theorem Zk{l1 l2:List Nat}{i:Nat} (R:sn P cx slf ρ ops (er ops.toList []) (l1++[i]) f S π0 fr st w a) (full:dO (l1++i::l2) 0+1=2 ^ ops.size) (hdep:sV (er ops.toList []) i l2=true) (hkept:∀ q,q<=l1.length->(f q).lost=false)
  (hpcs:∀ q,q<=(l1++[i]).length->ai ρ (f q).st.pc) {o:Oper} {b:Nat} {st1 st2:St} {v:V} (hop:ops[i]?=some o) (hbe:(er ops.toList [])[i]?=some b) (hw:WantF ρ ops o (f l1.length) st1 true)
  (hD:RA cx slf ρ (f l1.length).fr.tm {st1 with h:=de b (f l1.length).sm st1.h} o v st2) (hbig:(f (l1.length+1)).bigs=i::(f l1.length).bigs) (hdf:(f l1.length).fr.df=[]) {Q:Exit->Act->World->Prop} {ro:Option Nat} {n:Nat}
  (hQ:∀ e a w',eF ρ S π0 st w (.die v,(f l1.length).fr,st2) e a w'->Q e a w'):
  ∀ (fuel:Nat) (listed:Array Bool) (a1:Act) (w1:World),listed.size=ops.size->(listed.toList.filter (! ·)).length<=fuel->listed[i]?=some false->(∀ j,listed[j]?=some true->∃ q:Nat,(l1++[i])[q]?=some j)->
   (∃ t π1,Inv ρ ops (er ops.toList []) (l1++[i]) f S π0 fr st w (pa (l1++[i]) listed) t π1 a1 w1)->wpAnyIn (FN ro) n P .any ops Q fuel listed a1 w1:=by
 have hix:(l1++[i])[l1.length]?=some i:=by simp
 have hposi:Pos ops (er ops.toList []) (l1++[i]) l1.length i o b:=⟨hix,hop,hbe⟩
 have hnr:∀ listed:Array Bool,listed.size=ops.size->listed[i]?=some false->Region.ready .any ops listed≠[]:=by
  intro listed hsz hli hr;obtain⟨j,h1,h2⟩:=B5 R.tr hsz hr l1.length (by simp);rw[hix]at h1;injection h1 with h1;subst h1;rw[hli]at h2;simp at h2
 intro fuel;induction fuel with
 |zero=>
  intro listed a1 w1 hsz hf hli _ _;exfalso;have hz:listed.toList.filter (! ·)=[]:=qzj (by omega);obtain⟨hlt,hv⟩:=qq6.1 hli;have:=List.filter_eq_nil_iff.1 hz (listed[i]) (by rw[<-Array.getElem_toList];exact List.getElem_mem _);rw[hv]at this;simp at this
 |succ fuel ih=>
  intro listed a1 w1 hsz hf hli hin hI;refine⟨fun hr=>absurd hr (hnr listed hsz hli),fun j hj=>?_⟩;obtain⟨oj,hopj,hlj,hrd⟩:=CB hsz hj;obtain⟨t,π1,I⟩:=hI;obtain⟨bj,hbj⟩:∃ bj,(er ops.toList [])[j]?=some bj:=by
   have:j<(er ops.toList []).length:=by rw[UB];simpa using(qq6.1 hopj).1
   exact⟨_,qq0 this⟩
  have hbits:=CA R.tr (fun _=>Iff.rfl) hin I.closed hopj hbj hrd;have hnot:∀ q:Nat,(l1++[i])[q]?=some j->¬pa (l1++[i]) listed q:=by
   rintro q hq ⟨j',h1,h2⟩;rw[hq]at h1;injection h1 with h1;subst h1;rw[hlj]at h2;simp at h2
  by_cases hin1:∃ p:Nat,(l1++[i])[p]?=some j
  ·obtain⟨p,hp⟩:=hin1;have X:Nxt ops (er ops.toList []) (l1++[i]) (pa (l1++[i]) listed) p j oj bj:=by
    refine⟨⟨hp,hopj,hbj⟩,hnot p hp,fun q g hq hbit=>?_⟩;obtain⟨q',h1,h2⟩:=hbits g hbit;obtain rfl:=R.tr.inj hq h1;exact h2
   have hple:p<(l1++[i]).length:=X.pos.lt;by_cases hpl:p=l1.length
   ·subst hpl;obtain⟨rfl,rfl,rfl⟩:=X.pos.uniq hposi;exact aa8 R I X (hpcs _ (qkx hple)) hw hD ⟨_,hix,hbig⟩ hdf hQ
   ·have hlt:p<l1.length:=by simp at hple;omega
    have hne:i≠j:=by
     rintro rfl;exact hpl (R.tr.inj hp hix)
    refine nt.wp hopj ((CP R I X (hpcs p (qkx hple)) (hkept _ hlt) (.inl hpcs)).mono ?_);rintro a2 w2 ⟨_,t2,π2,I2⟩;refine ih (listed.setIfInBounds j true) a2 w2 (by simpa using hsz) (El hlj hf) (by rw[Array.getElem?_setIfInBounds_ne hne.symm];exact hli) ?_ ⟨t2,π2,?_⟩
    ·intro g hg;by_cases e:j=g
     ·subst e;exact⟨p,hp⟩
     ·rw[Array.getElem?_setIfInBounds_ne e]at hg;exact hin g hg
    ·rw[Dh R.tr hp hlj];exact I2
  ·exfalso;obtain⟨q,hq⟩:=Ij full (qq6.1 hopj).1;have hmem:j∈l2:=by
    have:=qz2 hq;rcases qzz.1 this with h1|h1
    ·obtain⟨q',h2⟩:=List.mem_iff_getElem?.1 (List.mem_append_left [i] h1);exact absurd ⟨q',h2⟩ hin1
    ·rcases List.mem_cons.1 h1 with rfl|h1
     ·exact absurd ⟨_,hix⟩ hin1
     ·exact h1
   have:=Av hdep hmem hbj;obtain⟨q',h1,h2⟩:=hbits i this;obtain rfl:=R.tr.inj h1 hix;obtain⟨j',h3,h4⟩:=h2;rw[hix]at h3;injection h3 with h3;subst h3;rw[hli]at h4;simp at h4
theorem aa9(hmix:P.follows .mixedOrders=true)(htt:nu P cx.tt)(hft:sl P cx.ft)(hcall:lg P cx ρ slf.call)(hround:ub P cx ρ slf):Ua P cx ρ slf:=by
 intro rnd ro id ops fr st res hd e S π0 w a n h hf hr;unfold drawn at e;unfold wZ at hd;simp only[qqw]at hd;rcases JL _ 0 _ rfl e with⟨f,h0,h1,hk,h2,rfl⟩|⟨f,l1,i,l2,h0,hD⟩
 ·have R:sn P cx slf ρ ops (er ops.toList []) (Ik ops.toList (er ops.toList [])) f S π0 fr st w a:=
   ⟨htt,hft,hcall,hround,⟨h1,hd.1,hd.2⟩,h0,h,hf⟩
  refine wpIn_region_any hmix ?_;have hpcs:=fun q hq=>(Bc R (m:=_) (qq2 _) hk q hq).1
  refine ajJ R h2 hk hpcs (fun _ _ hp=>hp) ops.size _ a _ (by simp) (by simp) ⟨0,π0,?_⟩;refine xu R ?_ rfl ⟨rfl,rfl,rfl⟩;rintro q ⟨i,_,hi⟩;rw[Array.getElem?_replicate]at hi;split at hi<;>simp at hi
 ·obtain⟨o,b,st1,v,st2,hop,hbe,hw,hdie,hbig,hst,rfl⟩:=hD.die;have R:sn P cx slf ρ ops (er ops.toList []) (l1++[i]) f S π0 fr st w a:=
   ⟨htt,hft,hcall,hround,⟨hD.stp,hd.1,hd.2⟩,h0,h,hf⟩
  have full:=hD.full;rw[hD.cut]at full;refine wpIn_region_any hmix ?_;have hpcs1:=fun q hq=>(Bc R (m:=l1.length) (by simp) hD.kept q hq).1
  have hpcs:∀ q,q<=(l1++[i]).length->ai ρ (f q).st.pc:=by
   intro q hq;by_cases e1:q<=l1.length
   ·exact hpcs1 q e1
   ·obtain rfl:q=l1.length+1:=by simp at hq;omega
    rw[hst];exact(hw.pc (hpcs1 _ (qq2 _))).1
  refine Zk R full hD.dep hD.kept hpcs hop hbe hw hdie hbig hD.df (fun _ _ _ hp=>hp) ops.size _ a _ (by simp) (by simp) ?_ ?_ ⟨0,π0,?_⟩
  ·rw[Array.getElem?_replicate,if_pos (qq6.1 hop).1]
  ·intro j hj;rw[Array.getElem?_replicate]at hj;split at hj<;>simp at hj
  ·refine xu R ?_ rfl ⟨rfl,rfl,rfl⟩;rintro q ⟨i,_,hi⟩;rw[Array.getElem?_replicate]at hi;split at hi<;>simp at hi
theorem sD{P:Program}{cx:Cx}{ρ:Env}(hmix:P.follows .mixedOrders=true)(htt:nu P cx.tt)(hft:sl P cx.ft)(hsm:SumOk P cx ρ):
  ∀ n,iW P cx ρ (ev cx n).code/\wG P cx ρ (ev cx n).loop/\lg P cx ρ (ev cx n).call
 |0=>⟨fun _ _ _ _ _ h=>by simp[ev,R.ag]at h,fun _ _ _ _ _ h=>by simp[ev,R.ag]at h,fun _ _ _ _ h=>by simp[ev,R.ag]at h⟩
 |n+1=>by
  obtain⟨h1,h2,h3⟩:=sD hmix htt hft hsm n;exact⟨UW (aah htt hft h1 h2 h3 (aa9 hmix htt hft h3 (Mw h1))),abO hsm h1 h2,UR (aaY htt hft hsm h1)⟩
theorem Vd{P:Program}{cx:Cx}{ρ:Env}(hmix:P.follows .mixedOrders=true)(htt:nu P cx.tt)(hft:sl P cx.ft)(hsm:SumOk P cx ρ){n:Nat}{f:FuncId}{args:List V}{st:St}{res:En×St}
  (h:((ev cx n).call f args st).ag ρ=some res) {S:Nat->Prop} {π0:Pl} {w:World} {ac:List Value} {fn:Func} (hh:b8 cx ρ S π0 st w) (ha:bz ρ S π0 args ac) (hfn:P.funcs[f]?=some fn):
  Calls P f ac.toArray w (EPost ρ S π0 st w res):=
 callsIn_wide.1 ((sD hmix htt hft hsm n).2.2 f args st res h S π0 w ac 0 hh ha ⟨fn,hfn⟩)
end
def anC:Option V->V
 |none=>.niliface
 |some v=>v
noncomputable def acr(cx:Cx)(N:Nat)(ntmps d:Nat)(rest:Code)(args:List V)(st:St)(e:Option V):R (Option V×St):=
 ((ev cx N).code none rest {tm:=Dw (args++List.replicate (ntmps-args.length) .undef) d (anC e),df:=[]} st).bind fun(ex,fr,st)=>match ex,fr.df with
  |.normal,[]=>.ok (none,st)
  |.ret,[]=>.ok (none,st)
  |_,_=>.stuck "deferred"
theorem W7{P:Program}{cx cx0:Cx}{ρ:Env}(hmix:P.follows .mixedOrders=true)(htt:nu P cx0.tt)(hft:sl P cx0.ft)(hsm:SumOk P cx0 ρ)(hng:cx.ng=cx0.ng){g:FuncId}{fn:Func}{id d N:Nat}{o:Oper}{rest:Code}
  (hf:P.funcs[g]?=some fn) (hb:fn.body=some (.seq (.region id #[o] false) rest)) (ho:o.op=.call {callee:=.builtin .recover,args:=#[],argTypes:=#[]}) (hg:o.guard=none) (hd:o.dst=some d) (hres:fn.results=#[])
  (hname:fn.name ≠ "runtime.NumGoroutine"):Pp P cx ρ g (acr cx0 N fn.ntmps d rest):=by
 refine⟨⟨fn,_,hf,hb,hname⟩,fun args st e e' st' h S π0 w ac u n hh ha hu=>?_⟩;have hh0:b8 cx0 ρ S π0 st w:=⟨hh.pc,hh.at_,fun g hg=>hh.glob g (by rw[hng];exact hg),hh.fresh⟩
 unfold acr at h;obtain⟨⟨ex,fr1,st1⟩,h1,h2⟩:=bL h;have hex:(ex=.normal\/ex=.ret)/\fr1.df=[]/\e'=none/\st'=st1:=by
  dsimp only at h2;split at h2
  ·rename_i e1 e2;simp only[R.ag,qqk,qqv]at h2;exact⟨.inl rfl,e2,h2.1.symm,h2.2.symm⟩
  ·rename_i e1 e2;simp only[R.ag,qqk,qqv]at h2;exact⟨.inr rfl,e2,h2.1.symm,h2.2.symm⟩
  ·simp[R.ag]at h2
 obtain⟨hex,hdf,rfl,rfl⟩:=hex;refine callsDIn_of_wpSIn (F:=Fence.wide) hf hb trivial fun c₀ cs hc0=>?_
 refine wpSIn_seq (wpSIn_region ?_);have hlen:ac.length=args.length:=by rw[<-ha π0 fun _ _=>rfl,au]
 have hcode:=(sD hmix htt hft hsm N).1 none rest _ st _ h1 S π0 w;have hrun:∀ ev,(execOp ev o).run P w=.ok .recover w:=by
  intro ev;simp[execOp,ho,Go.resolve,invoke,builtin]
 have go:∀ (v:Value) (c₁:Frame) (u1:FrameMode),pg ρ S π0 (anC e) v->c₁={c₀ with mode:=u1}->settle u1=.returning->
   rest.wpSIn Fence.wide n P (bodyPostS P fn c₀ cs fun en u' w'=>(∃ c,en=.returned c)/\ai ρ st'.pc/\∃ π1,dt ρ S π0 st.h w st.n π1 st'.h w' st'.n/\As ρ (Ext S st.n st'.n) π1 none (settle u'))
    (({tmps:=ac.toArray++Array.replicate (fn.ntmps-ac.toArray.size) undef,defers:=[]}:Act).put o.dst v) (c₁::cs) w:=by
  intro v c₁ u1 hv hc1 hset;refine wpSIn_of_wpIn rfl ?_;have hf0:eg ρ S π0 {tm:=Dw (args++List.replicate (fn.ntmps-args.length) .undef) d (anC e),df:=[]} (({tmps:=ac.toArray++Array.replicate (fn.ntmps-ac.toArray.size) undef,defers:=[]}:Act).put o.dst v):=by
   have h0:eg ρ S π0 {tm:=args++List.replicate (fn.ntmps-args.length) .undef,df:=[]} {tmps:=ac.toArray++Array.replicate (fn.ntmps-ac.toArray.size) undef,defers:=[]}:=by
    refine⟨ac++List.replicate (fn.ntmps-args.length) undef,by simp[hlen],ha.append ?_,fun π hk=>rfl⟩;intro π hk;rw[aU,List.map_replicate];rfl
   have:=h0.put (dst:=o.dst) hv;rw[hd]at this ⊢;exact this
  refine wpIn_mono (F:=FN none) (hcode _ none n hh0 hf0 trivial) ?_;rintro ee a' w' ⟨hpc,π1,g1,hx,hfr⟩;have hfr:eg ρ (Ext S st.n st'.n) π1 fr1 a':=by rcases hex with rfl|rfl<;>exact hfr
  obtain⟨tc,f1,f2,f3⟩:=hfr;have hdef:a'.defers=[]:=by
   have:=f3 π1 fun _ _=>rfl
   rw[hdf]at this;exact this.symm
  have hr:(results fn a'.tmps).run P w'=.ok (.tuple #[]) w':=by simp[results,hres]
  have hfin:(∃ c,Ending.returned (.tuple #[])=.returned c)/\ai ρ st'.pc/\∃ π1,dt ρ S π0 st.h w st.n π1 st'.h w' st'.n/\As ρ (Ext S st.n st'.n) π1 none (settle u1):=⟨⟨_,rfl⟩,hpc,π1,g1,hset⟩
  dsimp only at hx;rcases hex with rfl|rfl
  ·obtain rfl:ee=.normal:=hx;exact⟨hdef,u1,by rw[hc1],_,hr,hfin⟩
  ·obtain rfl:ee=.ret:=hx;exact⟨hdef,u1,by rw[hc1],_,hr,hfin⟩
 have hw:∀ y,Region.wanted o y=true:=fun y=>by simp[Region.wanted,hg]
 show wpOpsSIn Fence.wide n P #[o] _ [0] _ _ _;simp only[wpOpsSIn,List.getElem?_toArray,List.getElem?_cons_zero,hw,if_true,hrun];refine⟨fun _ _=>trivial,?_⟩;cases e with
 |none=>
  have hu0:u=.returning:=hu;have:recoverD (c₀::cs)=none:=by simp[recoverD,hc0,hu0]
  rw[this];dsimp only;exact go .nilIface c₀ c₀.mode (fun _ _=>rfl) rfl (by rw[hc0,hu0];rfl)
 |some v=>
  obtain⟨c,rfl,hv⟩:=hu;have:recoverD (c₀::cs)=some (c,{c₀ with mode:=.panicking [{v:=c,recovered:=true}]}::cs):=by simp[recoverD,hc0]
  rw[this];dsimp only;exact go c _ _ hv rfl rfl
section
variable {α:Type}
def T.list:T α->List Bool->List (List Bool×α)
 |.nil,_=>[]
 |.node l v r,p=>(match v with|some a=>[(p,a)]|none=>[])++T.list l (false::p)++T.list r (true::p)
theorem T.BK:∀ (t:T α) (bs p:List Bool) (a:α),t.fJ bs=some a->(bs.reverse++p,a)∈t.list p
 |.nil,_,_,_,h=>by simp[T.fJ]at h
 |.node l v r,[],p,a,h=>by
  simp only[T.fJ]at h;subst h;simp[T.list]
 |.node l v r,b::bs,p,a,h=>by
  cases b with
  |true=>
   have:=T.BK r bs (true::p) a h;simp only[T.list];exact qzz.2 (.inr (by simpa using this))
  |false=>
   have:=T.BK l bs (false::p) a h;simp only[T.list];exact qzz.2 (.inl (qzz.2 (.inr (by simpa using this))))
def kr:List Bool->Nat->Nat
 |[],n=>n
 |b::bs,n=>kr bs (2*n+(match b with|true=>1|false=>0))
theorem pE:∀ (a b:List Bool) (m:Nat),kr (a++b) m=kr b (kr a m)
 |[],b,m=>rfl
 |x::a,b,m=>by simp only[List.cons_append,kr,pE a b]
theorem Dc:∀ (f n:Nat),n<=f->kr (o8 f n).reverse 0=n:=by
 intro f;induction f using Nat.strongRecOn with
 |_ f ih=>
  intro n h;cases f with
  |zero=>
   obtain rfl:n=0:=by omega
   rfl
  |succ f=>cases n with
   |zero=>rfl
   |succ n=>
    simp only[o8,List.reverse_cons];rw[pE,ih f (by omega) ((n+1) / 2) (by omega)];have h2:=Nat.mod_two_eq_zero_or_one (n+1);simp only[kr];rcases h2 with h2|h2<;>rw[h2]<;>simp<;>omega
theorem AE(n:Nat):kr (bitsOf n).reverse 0=n:=Dc n n (qq2 n)
def T.items(t:T α):List (Nat×α):=(t.list []).map fun x=>(kr x.1 0,x.2)
theorem T.Ep{t:T α}{n:Nat}{a:α}(h:t.get n=some a):(n,a)∈t.items:=by
 have:=T.BK t (bitsOf n) [] a h;simp only[qk8]at this;refine qzx.2 ⟨_,this,?_⟩;simp[AE]
def Ao(p:Nat->α->Prop):List (Nat×α)->Prop
 |[]=>True
 |x::l=>p x.1 x.2/\Ao p l
theorem Ao.mem{p:Nat->α->Prop}:∀ {l:List (Nat×α)},Ao p l->∀ {n a},(n,a)∈l->p n a
 |[],_,_,_,h=>by simp at h
 |x::l,hl,n,a,h=>by
  rcases List.mem_cons.1 h with rfl|h
  ·exact hl.1
  ·exact hl.2.mem h
end
theorem nu.G9{P:Program}{tt:T TD} {l:List (Nat×TD)} (h:tt.items=l) (ha:Ao (iO P) l):nu P tt:=
 fun _ _ hg=>ha.mem (h▸T.Ep hg)
def ajw(P:Program)(f:Nat)(fn:Func):Prop:=P.funcs[f]?=some fn/\(fn.name == "runtime.NumGoroutine")=false/\fn.body.isSome=true
theorem sl.G9{P:Program}{ft:T Func} {l:List (Nat×Func)} (h:ft.items=l) (ha:Ao (ajw P) l):sl P ft:=
 fun _ _ hg=>ha.mem (h▸T.Ep hg)
def xw:V->Bool
 |.agg _=>true
 |_=>false
theorem iO.of{P:Program}{t:TypeId}{td:TD}(i:TypeInfo)(hi:P.info? t=some i)(hu:P.underlying t=some td.d)(hs:i.size=td.size/\i.bytes=td.bytes/\td.zero.length=td.size) (hz:(i.zero.bind ofValue).map (fun v=>(v.cells,xw v))=some (td.zero,td.agg))
  (ha:td.agg=(match td.d with|.struct _|.array _ _=>true|_=>false))
  (hf:td.flat=true->td.agg=true->P.eqGuardType P.depth t=false/\P.stoodInHeld t=false/\(match td.d with|.struct fs=>fs.toList.all fun f=>f.name != "_" |_=>true)=true):iO P t td:=by
 refine⟨⟨i,hi,hs.1,hs.2.1,?_⟩,hu,hs.2.2,ha,hf⟩;cases hiz:i.zero with
 |none=>rw[hiz]at hz;simp at hz
 |some z=>
  rw[hiz]at hz;simp only[Option.bind_some]at hz;cases hv:ofValue z with
  |none=>rw[hv]at hz;simp at hz
  |some v=>
   rw[hv]at hz;simp only[Option.map_some,qqk,qqv]at hz;obtain⟨h1,h2⟩:=hz;have hc:∀ ρ π,v.ab ρ π=z:=fun ρ π=>jk ρ π z v hv
   refine⟨z,rfl,fun ρ π=>by rw[<-hc ρ π,eR _ _ _ (lS hv),h1],fun hag=>?_,fun hag l e=>?_⟩
   ·rw[hag]at h2;cases v<;>simp only[xw,qqj]at h2
    exact⟨_,(hc ⟨fun _=>false,fun _=>0,fun _ _=>0,fun _ _ _=>0,fun _=>[],fun _ _=>[],fun _=>.deferred none,fun _=>⟨0,0,none⟩⟩ fun _=>⟨0,0,.nilFunc⟩).symm⟩
   ·rw[hag]at h2;have:=hc ⟨fun _=>false,fun _=>0,fun _ _=>0,fun _ _ _=>0,fun _=>[],fun _ _=>[],fun _=>.deferred none,fun _=>⟨0,0,none⟩⟩ fun _=>⟨0,0,.nilFunc⟩
    rw[e]at this;have hni:=lS hv;cases v<;>simp only[xw,Bool.true_eq_false]at h2<;>first|(simp[V.isIte]at hni;done)|simp[V.ab]at this
noncomputable section
def Cp.we(r:Nat->Nat):Cp->Cp
 |.known n=>.known n
 |.room b o n=>.room (r b) o n
mutual
def V.we(r:Nat->Nat):V->V
 |.int k x=>.int k x
 |.bool x=>.bool x
 |.str x=>.str x
 |.ptr b o=>.ptr (r b) o
 |.nilptr=>.nilptr
 |.slice b o n c=>.slice (r b) o n (c.we r)
 |.nilslice=>.nilslice
 |.map b=>.map (r b)
 |.nilmap=>.nilmap
 |.func f a c=>.func f (V.Dr r a) (V.Dr r c)
 |.yield b=>.yield (r b)
 |.nilfunc=>.nilfunc
 |.iface t v=>.iface t (v.we r)
 |.niliface=>.niliface
 |.agg l=>.agg (V.Dr r l)
 |.tuple l=>.tuple (V.Dr r l)
 |.wptr b off=>.wptr b off
 |.wslice b off len cap=>.wslice b off len cap
 |.ite c a b=>.ite c (a.we r) (b.we r)
 |.sptr b off n i=>.sptr (r b) off n i
 |.rest b off l z=>.rest (r b) off l z
 |.xslice w b off es len cap=>.xslice w (match w with|true=>b|false=>r b) off es len cap
 |.xptr w b i es c=>.xptr w (match w with|true=>b|false=>r b) i es c
 |.any k=>.any (r k)
def V.Dr(r:Nat->Nat):List V->List V
 |[]=>[]
 |v::l=>v.we r::V.Dr r l
end
mutual
def V.pure:V->Bool
 |.ptr _ _=>false
 |.slice _ _ _ _=>false
 |.map _=>false
 |.yield _=>false
 |.wptr _ _=>false
 |.wslice _ _ _ _=>false
 |.sptr _ _ _ _=>false
 |.rest _ _ _ _=>false
 |.xslice _ _ _ _ _ _=>false
 |.xptr _ _ _ _ _=>false
 |.any _=>false
 |.ite _ a b=>a.pure&&b.pure
 |.func _ a c=>V.dN a&&V.dN c
 |.iface _ v=>v.pure
 |.agg l=>V.dN l
 |.tuple l=>V.dN l
 |_=>true
def V.dN:List V->Bool
 |[]=>true
 |v::l=>v.pure&&V.dN l
end
mutual
def V.dA:V->Bool
 |.xslice w _ _ _ _ cap=>match w with
  |true=>match cap with
   |.known _=>true
   |.room _=>false
  |false=>true
 |.ite _ a b=>a.dA&&b.dA
 |.func _ a c=>V.lQ a&&V.lQ c
 |.iface _ v=>v.dA
 |.agg l=>V.lQ l
 |.tuple l=>V.lQ l
 |_=>true
def V.lQ:List V->Bool
 |[]=>true
 |v::l=>v.dA&&V.lQ l
end
def oC:List (V×V)->Bool
 |[]=>true
 |(k,v)::l=>k.dA&&(v.dA&&oC l)
def Q4(r:Nat->Nat):List (V×V)->List (V×V)
 |[]=>[]
 |(k,v)::l=>(k.we r,v.we r)::Q4 r l
def ak.we(r:Nat->Nat):ak->ak
 |.cells c e w=>.cells (V.Dr r c) e w
 |.map es=>.map (Q4 r es)
 |o=>o
def ak.plain:ak->Bool
 |.cells c _ _=>V.lQ c
 |.map es=>oC es
 |.arr _ _ _ _ _=>true
 |_=>false
def sh(m n:Nat)(i:Nat):Nat:=match Nat.blt i n with
 |true=>i
 |false=>i-n+m
def kc(r:Nat->Nat):List (Nat×ak)->H->H
 |[],h=>h
 |(b,o)::l,h=>(kc r l h).set (r b) (o.we r)
def lW:List (Nat×List V)->H
 |[]=>.nil
 |(i,c)::l=>(lW l).set i (.ro i c)
def bB:List (Nat×List V)->H->Bool
 |[],_=>true
 |(i,_)::l,h=>match h.get i with
  |some (.ro j _)=>Nat.beq i j&&bB l h
  |_=>false
def sk (L:List (Nat×List V)) (n:Nat):St:={h:=lW L,n:=n,pc:=[]}
structure Leaf where
 v:V
 objs:List (Nat×ak)
 n:Nat
mutual
def V.names:V->List Nat
 |.ptr b _=>[b]
 |.slice b _ _ _=>[b]
 |.map b=>[b]
 |.sptr b _ _ _=>[b]
 |.rest b _ _ _=>[b]
 |.xslice w b _ _ _ _=>match w with
  |true=>[]
  |false=>[b]
 |.xptr w b _ _ _=>match w with
  |true=>[]
  |false=>[b]
 |.any k=>[k]
 |.ite _ a b=>a.names++b.names
 |.func _ a c=>V.xP a++V.xP c
 |.iface _ v=>v.names
 |.agg l=>V.xP l
 |.tuple l=>V.xP l
 |_=>[]
def V.xP:List V->List Nat
 |[]=>[]
 |v::l=>v.names++V.xP l
end
def lN(h:H)(ng:Nat):List Nat->List (Nat×ak)
 |[]=>[]
 |b::l=>match Nat.ble ng b with
  |true=>match h.get b with
   |some o=>match o.plain with
    |true=>(b,o)::lN h ng l
    |false=>lN h ng l
   |none=>lN h ng l
  |false=>lN h ng l
def Qk:List (V×V)->List Nat
 |[]=>[]
 |(k,v)::l=>k.names++(v.names++Qk l)
def ak.names:ak->List Nat
 |.cells c _ _=>V.xP c
 |.map es=>Qk es
 |_=>[]
def r6(h:H)(ng:Nat):List Nat->List Nat
 |[]=>[]
 |b::l=>match Nat.ble ng b with
  |true=>match h.get b with
   |some o=>o.names++r6 h ng l
   |none=>r6 h ng l
  |false=>r6 h ng l
def wK:List Nat->List Nat->List Nat
 |[],l=>l
 |b::m,l=>match dW b l with
  |true=>wK m l
  |false=>wK m (b::l)
def reach(h:H)(ng:Nat):Nat->List Nat->List Nat
 |0,l=>l
 |n+1,l=>match r6 h ng l with
  |[]=>l
  |m=>reach h ng n (wK m l)
def cP (L:List (Nat×List V)) (ng:Nat):j4->R Leaf
 |.ok (.ret v,st)=>match bB L st.h&&v.dA with
  |true=>.ok {v:=v,objs:=lN st.h ng (reach st.h ng 5 (wK v.names [])),n:=st.n}
  |false=>.stuck "a table has gone"
 |.ok (.panic _,_)=>.stuck "a panic"
 |.br c t f=>.br c (cP L ng t) (cP L ng f)
 |.stuck s=>.stuck s
def Bo(ng:Nat):R Leaf->St->R (V×St)
 |.ok lf,st=>.ok (lf.v.we (sh st.n ng),{h:=kc (sh st.n ng) lf.objs st.h,n:=st.n+(lf.n-ng),pc:=st.pc})
 |.br c t f,st=>split st c fun st b=>match b with
  |true=>Bo ng t st
  |false=>Bo ng f st
 |.stuck s,_=>.stuck s
def bY (L:List (Nat×List V)) (ng:Nat):List (List V×R Leaf)->List V->St->R (V×St)
 |[],_,_=>.stuck "summary: arguments"
 |(args0,tr)::l,args,st=>match V.cM args args0 with
  |true=>match bB L st.h with
   |true=>Bo ng tr st
   |false=>.stuck "summary: tables"
  |false=>bY L ng l args st
structure Sub where
 v:List (Nat×X)
 n:Nat
 b:List B
 s:List (Nat×X)
 f:List (Nat×Nat×Nat):=[]
def qM:List (Nat×Nat×Nat)->Nat->Nat
 |[],f=>f
 |(t,n,u)::l,f=>match Nat.ble t f with
  |true=>match Nat.blt f (t+n)with
   |true=>f-t+u
   |false=>qM l f
  |false=>qM l f
def j6 (l:List (Nat×Nat×Nat)) (t:Nat):Nat->Bool
 |0=>true
 |m+1=>match Nat.beq (qM l (t+m)) (qM l t+m)with
  |true=>j6 l t m
  |false=>false
def A.j6 (l:List (Nat×Nat×Nat)) (m:Nat):A->Bool
 |.base t=>Go.Proofs.YtgcbnjpeifigaaaGreatDoor.j6 l t m
 |.fill _=>true
 |.put a _ _ _=>a.j6 l m
def ak.adu (l:List (Nat×Nat×Nat)):ak->Bool
 |.arr a ks _ _ _=>a.j6 l ks.length
 |.warr _ t ks _=>j6 l t ks.length
 |_=>true
def look{α:Type}:List (Nat×α)->Nat->Option α
 |[],_=>none
 |(j,a)::l,i=>match Nat.beq j i with
  |true=>some a
  |false=>look l i
def Vh(σ:Sub)(i:Nat):Option B:=match Nat.blt i σ.n with
 |true=>nth σ.b (σ.n-1-i)
 |false=>none
def wJ(σ:Sub)(i:Nat)(c:B):Sub:=match Nat.beq i σ.n with
 |true=>{σ with n:=i+1,b:=c::σ.b}
 |false=>σ
def B.put(σ:Sub):B->B
 |.zero=>.zero
 |.one=>.one
 |.pos i=>match Vh σ i with
  |some c=>c
  |none=>.pos i
 |.neg i=>match Vh σ i with
  |some c=>c.not
  |none=>.neg i
def K3(σ:Sub):List B->List B
 |[]=>[]
 |b::l=>b.put σ::K3 σ l
def Q.want(q:Q)(c:B)(x:Bool):Q:=
 match c with
 |.zero=>match x with
  |true=>.ff
  |false=>q
 |.one=>match x with
  |true=>q
  |false=>.ff
 |.pos j=>q.with j x
 |.neg j=>q.with j !x
def n9(σ:Sub)(m v:Nat):Nat->Q->Q
 |0,q=>q
 |n+1,q=>match Nat.testBit m n with
  |true=>n9 σ m v n (q.want ((B.pos n).put σ) (Nat.testBit v n))
  |false=>n9 σ m v n q
def F3(σ:Sub)(m v:Nat):X:=Qp (.lit 0) (n9 σ m v (m.log2+1) (.c 0 0))
def ajB(a b:X):X:=match a,b with
 |.lit m,.lit n=>.lit (m+n)
 |a,b=>sr a b (fun l t m u=>match FF l t m u false with
  |some (r,s)=>BS r s
  |none=>.add a b) (.add a b)
mutual
def X.put(σ:Sub):X->X
 |.lit n=>.lit n
 |.var i=>match look σ.v i with
  |some x=>x
  |none=>.var i
 |.wrap k (.add a b)=>mkAdd k (a.put σ) (b.put σ)
 |.wrap k (.sub a b)=>mkSub k (a.put σ) (b.put σ)
 |.wrap k (.mul a b)=>mkMul k (a.put σ) (b.put σ)
 |.wrap k (.quo a b)=>Qg k (a.put σ) (b.put σ)
 |.wrap k a=>mkWrap k (a.put σ)
 |.add a b=>ajB (a.put σ) (b.put σ)
 |.sub a b=>.sub (a.put σ) (b.put σ)
 |.mul a b=>.mul (a.put σ) (b.put σ)
 |.quo a b=>.quo (a.put σ) (b.put σ)
 |.rem a b=>yZ (a.put σ) (b.put σ)
 |.bits o k a b=>oy o k (a.put σ) (b.put σ)
 |.shl k a b=>KE k (a.put σ) (b.put σ)
 |.shr k a b=>uh k (a.put σ) (b.put σ)
 |.eq a b=>mkEq (a.put σ) (b.put σ)
 |.lt a b=>mkLt (a.put σ) (b.put σ)
 |.le a b=>mkLe (a.put σ) (b.put σ)
 |.not a=>mkNot (a.put σ)
 |.ite c a b=>mkIte (c.put σ) (a.put σ) (b.put σ)
 |.fn1 f a=>.fn1 (qM σ.f f) (a.put σ)
 |.fn2 f a b=>.fn2 f (a.put σ) (b.put σ)
 |.slen a=>BZ (a.fL σ)
 |.seq a b=>mkSeq (a.fL σ) (b.fL σ)
 |.bv l t=>BS (K3 σ l) (t.put σ)
 |.cube m v=>F3 σ m v
 |.slit l=>.slit l
 |.svar i=>.svar i
 |.scat a b=>.scat a b
 |.sfn f a=>.sfn f a
 |.btext t a b=>.btext t a b
def X.fL(σ:Sub):X->X
 |.svar i=>match look σ.s i with
  |some x=>x
  |none=>.svar i
 |.scat a b=>mr (a.fL σ) (b.fL σ)
 |.sfn f a=>.sfn f (a.put σ)
 |.ite c a b=>BV (c.put σ) (a.fL σ) (b.fL σ)
 |.btext t a b=>.btext (qM σ.f t) (a.put σ) (b.put σ)
 |x=>x
end
def XC.put(σ:Sub):XC->XC
 |.known x=>.known (x.put σ)
 |.room x=>.room (x.put σ)
def A.subst(σ:Sub):A->A
 |.base t=>.base (qM σ.f t)
 |.fill x=>.fill (x.put σ)
 |.put a i c x=>.put (a.subst σ) (i.put σ) c (x.put σ)
mutual
def V.put(σ:Sub):V->V
 |.int k x=>.int k (x.put σ)
 |.bool x=>.bool (x.put σ)
 |.str x=>.str (x.fL σ)
 |.func f a c=>.func f (V.vr σ a) (V.vr σ c)
 |.iface t v=>.iface t (v.put σ)
 |.agg l=>.agg (V.vr σ l)
 |.tuple l=>.tuple (V.vr σ l)
 |.wslice b off len cap=>.wslice b off (len.put σ) (cap.put σ)
 |.ite c a b=>.ite (c.put σ) (a.put σ) (b.put σ)
 |.sptr b off n i=>.sptr b off n (i.put σ)
 |.xslice w b off es len cap=>.xslice w b (off.put σ) es (len.put σ) (cap.put σ)
 |.xptr w b i es c=>.xptr w b (i.put σ) es c
 |v=>v
def V.vr(σ:Sub):List V->List V
 |[]=>[]
 |v::l=>v.put σ::V.vr σ l
end
def E0(σ:Sub):List (V×V)->List (V×V)
 |[]=>[]
 |(k,v)::l=>(k.put σ,v.put σ)::E0 σ l
def ak.put(σ:Sub):ak->ak
 |.cells c e w=>.cells (V.vr σ c) e w
 |.map es=>.map (E0 σ es)
 |.arr a ks len e w=>.arr (a.subst σ) ks (len.put σ) e w
 |.warr g t ks len=>.warr g (qM σ.f t) ks (len.put σ)
 |o=>o
def oK(σ:Sub):List (Nat×ak)->List (Nat×ak)
 |[]=>[]
 |(b,o)::l=>(b,o.put σ)::oK σ l
def re:List B->List B->B->Sub->Sub
 |[],_,_,σ=>σ
 |p::ps,l,t,σ=>match l with
  |[]=>re ps [] t (match p with
   |.pos i=>wJ σ i t
   |_=>σ)
  |c::l=>re ps l t (match p with
   |.pos i=>wJ σ i c
   |_=>σ)
def BO(p a:X)(σ:Sub):Sub:=
 match p with
 |.var i=>{σ with v:=(i,a)::σ.v}
 |.wrap _ (.var i)=>{σ with v:=(i,a)::σ.v}
 |.svar i=>{σ with s:=(i,a)::σ.s}
 |.bv ps _=>match toB a with
  |some (l,t)=>re ps l t σ
  |none=>σ
 |.cube m _=>match a with
  |.lit n=>wJ σ m.log2 (match aT n 0 with|true=>B.zero|false=>B.one)
  |.cube m' v'=>wJ σ m.log2 (match Nat.beq v' 0 with|true=>B.neg m'.log2|false=>B.pos m'.log2)
  |_=>σ
 |_=>σ
mutual
def b9:V->V->Sub->Sub
 |.int _ p,.int _ a,σ=>BO p a σ
 |.bool p,.bool a,σ=>BO p a σ
 |.str p,.str a,σ=>BO p a σ
 |.agg l,.agg m,σ=>kz l m σ
 |.tuple l,.tuple m,σ=>kz l m σ
 |_,_,σ=>σ
def kz:List V->List V->Sub->Sub
 |v::l,w::m,σ=>kz l m (b9 v w σ)
 |_,_,σ=>σ
end
def Bn(ng:Nat)(σ:Sub):R Leaf->St->R (V×St)
 |.ok lf,st=>.ok ((lf.v.put σ).we (sh st.n ng),{h:=kc (sh st.n ng) (oK σ lf.objs) st.h,n:=st.n+(lf.n-ng),pc:=st.pc})
 |.br c t f,st=>split st (c.put σ) fun st b=>match b with
  |true=>Bn ng σ t st
  |false=>Bn ng σ f st
 |.stuck s,_=>.stuck s
def ac7(a b:V):Bool:=
 match a with
 |.int _ (.lit a)=>match b with
  |.int _ (.lit b)=>aT a b
  |.int _ _=>false
  |_=>true
 |.str (.slit a)=>match b with
  |.str (.slit b)=>fF a b
  |.str _=>false
  |_=>true
 |_=>true
def Vl:List V->List V->Bool
 |a::l,b::m=>match ac7 a b with
  |true=>Vl l m
  |false=>false
 |_,_=>true
def ao2(a b:V):Bool:=
 match a with
 |.agg l=>match b with
  |.agg m=>Vl l m
  |_=>true
 |a=>ac7 a b
def ac6:List V->List V->Bool
 |a::l,b::m=>match ao2 a b with
  |true=>ac6 l m
  |false=>false
 |_,_=>true
def cb (L:List (Nat×List V)) (ng:Nat):List (List V×R Leaf)->List V->St->R (V×St)
 |[],_,_=>.stuck "summary: arguments"
 |(args0,tr)::l,args,st=>match ac6 args0 args with
  |false=>cb L ng l args st
  |true=>match kz args0 args {v:=[],n:=0,b:=[],s:=[]}with
   |σ=>match V.cM args (V.vr σ args0)with
    |true=>match bB L st.h with
     |true=>Bn ng σ tr st
     |false=>.stuck "summary: tables"
    |false=>cb L ng l args st
def holds(pc:PC):X->Option Bool
 |.lit n=>some (!aT n 0)
 |.not a=>match holds pc a with
  |some b=>some !b
  |none=>none
 |.ite c a b=>match holds pc c with
  |some true=>holds pc a
  |some false=>holds pc b
  |none=>none
 |x=>eU pc x
def MB:Bool->Bool->Bool
 |true,b=>b
 |false,true=>false
 |false,false=>true
def zr(pc:PC)(c:X)(b:Bool):PC:=match c with
 |.not y=>zr pc y (!b)
 |c=>(c,b)::pc
def sP(pc:PC):Nat->X->X
 |0,x=>x
 |n+1,x=>match x with
  |.ite c a b=>match holds pc c with
   |some true=>sP pc n a
   |some false=>sP pc n b
   |none=>.ite c a b
  |x=>MI pc x
def apa:X->Option X
 |.ite c _ _=>some c
 |_=>none
def C7:Nat->PC->X->Bool->Bool
 |0,_,_,_=>false
 |f+1,pc,x,b=>match x with
  |.lit n=>MB (!aT n 0) b
  |.not a=>C7 f pc a (!b)
  |.ite c p q=>match holds pc c with
   |some true=>C7 f pc p b
   |some false=>C7 f pc q b
   |none=>match C7 f pc c true with
    |true=>C7 f pc p b
    |false=>match C7 f (zr pc c true) p b with
     |true=>C7 f (zr pc c false) q b
     |false=>false
  |.eq u v=>match sP pc 100 u,sP pc 100 v with
   |u,v=>match holds pc (mkEq u v)with
    |some t=>MB t b
    |none=>match apa u with
     |some c=>match C7 f (zr pc c true) (.eq u v) b with
      |true=>C7 f (zr pc c false) (.eq u v) b
      |false=>false
     |none=>match apa v with
      |some c=>match C7 f (zr pc c true) (.eq u v) b with
       |true=>C7 f (zr pc c false) (.eq u v) b
       |false=>false
      |none=>false
  |x=>match holds pc x with
   |some t=>MB t b
   |none=>false
def tW:List (FuncId×(List V->St->R (V×St)))->FuncId->Option (List V->St->R (V×St))
 |[],_=>none
 |(g,s)::l,f=>match Nat.beq f g with
  |true=>some s
  |false=>tW l f
end
open Go.RowKit
mutual
theorem V.jJ(ρ:Env)(π:Pl)(r:Nat->Nat):∀ v:V,v.dA=true->(v.we r).ab ρ π=v.ab ρ (fun i=>π (r i))
 |.int k x,_=>rfl
 |.bool x,_=>rfl
 |.str x,_=>rfl
 |.ptr b o,_=>rfl
 |.nilptr,_=>rfl
 |.slice b o n c,_=>by cases c<;>rfl
 |.nilslice,_=>rfl
 |.map b,_=>rfl
 |.nilmap,_=>rfl
 |.func f a c,h=>by
  simp only[V.dA,qqw]at h;simp only[V.we,V.ab,V.kQ ρ π r a h.1,V.kQ ρ π r c h.2]
 |.yield b,_=>rfl
 |.nilfunc,_=>rfl
 |.iface t v,h=>by
  simp only[V.dA]at h;simp only[V.we,V.ab,V.jJ ρ π r v h]
 |.niliface,_=>rfl
 |.agg l,h=>by
  simp only[V.dA]at h;simp only[V.we,V.ab,V.kQ ρ π r l h]
 |.tuple l,h=>by
  simp only[V.dA]at h;simp only[V.we,V.ab,V.kQ ρ π r l h]
 |.wptr _ _,_=>rfl
 |.wslice _ _ _ _,_=>rfl
 |.ite c a b,h=>by
  simp only[V.dA,qqw]at h;simp only[V.we,V.ab,V.jJ ρ π r a h.1,V.jJ ρ π r b h.2]
 |.sptr _ _ _ _,_=>rfl
 |.rest _ _ _ _,_=>rfl
 |.xslice w b off es len cap,h=>by
  cases w with
  |true=>cases cap with
   |known _=>rfl
   |room _=>simp[V.dA]at h
  |false=>cases cap<;>rfl
 |.xptr w b i es c,_=>by cases w<;>rfl
 |.any _,_=>rfl
theorem V.kQ(ρ:Env)(π:Pl)(r:Nat->Nat):∀ l:List V,V.lQ l=true->V.ae ρ π (V.Dr r l)=V.ae ρ (fun i=>π (r i)) l
 |[],_=>rfl
 |v::l,h=>by
  simp only[V.lQ,qqw]at h;simp only[V.Dr,V.ae,V.jJ ρ π r v h.1,V.kQ ρ π r l h.2]
end
mutual
theorem V.Ad{ρ:Env}{π π':Pl}:∀ {v:V},v.pure=true->v.ab ρ π=v.ab ρ π'
 |.int _ _,_=>rfl
 |.bool _,_=>rfl
 |.str _,_=>rfl
 |.ptr _ _,h=>by simp[V.pure]at h
 |.nilptr,_=>rfl
 |.slice _ _ _ _,h=>by simp[V.pure]at h
 |.nilslice,_=>rfl
 |.map _,h=>by simp[V.pure]at h
 |.nilmap,_=>rfl
 |.func _ a c,h=>by
  simp only[V.pure,qqw]at h;simp only[V.ab,V.jS (π':=π') h.1,V.jS (π':=π') h.2]
 |.yield _,h=>by simp[V.pure]at h
 |.wptr _ _,h=>by simp[V.pure]at h
 |.wslice _ _ _ _,h=>by simp[V.pure]at h
 |.sptr _ _ _ _,h=>by simp[V.pure]at h
 |.rest _ _ _ _,h=>by simp[V.pure]at h
 |.xslice _ _ _ _ _ _,h=>by simp[V.pure]at h
 |.xptr _ _ _ _ _,h=>by simp[V.pure]at h
 |.any _,h=>by simp[V.pure]at h
 |.ite c a b,h=>by
  simp only[V.pure,qqw]at h;simp only[V.ab,V.Ad (π:=π) (π':=π') h.1,V.Ad (π:=π) (π':=π') h.2]
 |.nilfunc,_=>rfl
 |.iface _ v,h=>by
  simp only[V.pure]at h;simp only[V.ab,V.Ad (π':=π') h]
 |.niliface,_=>rfl
 |.agg l,h=>by
  simp only[V.pure]at h;simp only[V.ab,V.jS (π':=π') h]
 |.tuple l,h=>by
  simp only[V.pure]at h;simp only[V.ab,V.jS (π':=π') h]
theorem V.jS{ρ:Env}{π π':Pl}:∀ {l:List V},V.dN l=true->V.ae ρ π l=V.ae ρ π' l
 |[],_=>rfl
 |v::l,h=>by
  simp only[V.dN,qqw]at h;simp only[V.ae,V.Ad (π':=π') h.1,V.jS (π':=π') h.2]
end
theorem V.zf(r:Nat->Nat):∀ l:List V,(V.Dr r l).length=l.length
 |[]=>rfl
 |_::l=>by simp[V.Dr,V.zf r l]
theorem pL(ρ:Env)(π:Pl)(r:Nat->Nat):∀ es:List (V×V),oC es=true->entriesOf ρ π (Q4 r es)=entriesOf ρ (fun i=>π (r i)) es
 |[],_=>rfl
 |(k,v)::l,h=>by
  simp only[oC,qqw]at h;have:=pL ρ π r l h.2.2;simp only[entriesOf]at this;simp only[entriesOf,Q4,List.map_cons,V.jJ _ _ _ _ h.1,V.jJ _ _ _ _ h.2.1,this]
theorem ak.VE{ρ:Env}{π:Pl}{r:Nat->Nat}{b:Nat}{ob:Obj}:∀ {o:ak},o.plain=true->o.is ρ (fun i=>π (r i)) b ob->(o.we r).is ρ π (r b) ob
 |.cells c e w,hp,⟨spare,h1,h2⟩=>⟨spare,by rw[V.kQ _ _ _ _ hp];exact h1,by rw[V.zf];exact h2⟩
 |.map es,hp,⟨ms,clock,h1,h2,h3⟩=>⟨ms,clock,h1,by rw[pL _ _ _ _ hp];exact h2,by rw[pL _ _ _ _ hp];exact h3⟩
 |.loop _ _ _ _ _ _ _,h,_=>by simp[ak.plain]at h
 |.deferred _,h,_=>by simp[ak.plain]at h
 |.ro _ _,h,_=>by simp[ak.plain]at h
 |.win _ _ _ _,h,_=>by simp[ak.plain]at h
 |.iter _,h,_=>by simp[ak.plain]at h
 |.arr a ks len e w,_,⟨cs,h1,h2,h3,h4⟩=>⟨cs,h1,h2,h3,h4⟩
 |.warr _ _ _ _,h,_=>by simp[ak.plain]at h
 |.opt _ _ _,h,_=>by simp[ak.plain]at h
theorem dB{r:Nat->Nat}{h:H}{i:Nat}{o:ak}:∀ {l:List (Nat×ak)},(kc r l h).get i=some o->(∃ x∈l,i=r x.1/\o=x.2.we r)\/h.get i=some o
 |[],e=>.inr e
 |(b,o')::l,e=>by
  unfold kc at e;by_cases hi:r b=i
  ·subst hi;rw[T.aP]at e;exact .inl ⟨(b,o'),by simp,rfl,(qqz e).symm⟩
  ·rw[T.aB _ _ hi]at e;rcases dB e with⟨x,hx,h1,h2⟩|h1
   ·exact .inl ⟨x,by simp[hx],h1,h2⟩
   ·exact .inr h1
structure RoAt (ρ:Env) (L:List (Nat×List V)):Prop where
 is:∀ x∈L,∃ t fr,∀ π,ρ.ro x.1=.cells (V.ae ρ π x.2).toArray t fr
theorem dD{i:Nat}{o:ak}:∀ {L:List (Nat×List V)},(lW L).get i=some o->∃ x∈L,i=x.1/\o=.ro x.1 x.2
 |[],e=>by
  unfold lW at e;rw[T.get_nil]at e;cases e
 |(j,c)::l,e=>by
  unfold lW at e;by_cases hi:j=i
  ·subst hi;rw[T.aP]at e;exact⟨(j,c),by simp,rfl,(qqz e).symm⟩
  ·rw[T.aB _ _ hi]at e;obtain⟨x,hx,h1,h2⟩:=dD e;exact⟨x,by simp[hx],h1,h2⟩
theorem eP{h:H}:∀ {L:List (Nat×List V)},bB L h=true->∀ x∈L,∃ c,h.get x.1=some (.ro x.1 c)
 |[],_,x,hx=>by simp at hx
 |(i,c)::l,e,x,hx=>by
  unfold bB at e;split at e
  ·rename_i j c' hj;simp only[qqw]at e;rcases List.mem_cons.1 hx with rfl|hx
   ·exact⟨c',by rw[hj,qqq e.1]⟩
   ·exact eP e.2 x hx
  ·cases e
section
variable {P:Program} {cx cx0:Cx} {ρ:Env} {S:Nat→Prop} {π0:Pl} {st st':St} {w:World} {L:List (Nat×List V)} {ng:Nat}
theorem uN(hng:cx0.ng=ng)(hL:∀ x∈L,x.1<ng)(hro:RoAt ρ L) (hπ:∀ g,g<ng->(π0 g).1=g) (hW:∀ x∈L,w.heap[x.1]?=some (ρ.ro x.1)):b8 cx0 ρ (fun i=>i<ng) π0 (sk L ng) w:=by
 refine⟨by simp[sk,ai],⟨fun π hk=>⟨fun i o hi=>?_,fun i j o o' hi hj e=>?_⟩,fun i o hi=>?_⟩,fun g hg=>?_,fun i hi hs=>?_⟩
 ·obtain⟨x,hx,rfl,rfl⟩:=dD hi;have h1:(π x.1).1=x.1:=by rw[hk x.1 (hL x hx)];exact hπ _ (hL x hx)
  obtain⟨t,fr,h2⟩:=hro.is x hx;exact⟨_,by rw[h1];exact hW x hx,⟨t,fr,h2 π⟩,rfl⟩
 ·obtain⟨x,hx,rfl,rfl⟩:=dD hi;obtain⟨y,hy,rfl,rfl⟩:=dD hj;exact .inr ⟨rfl,rfl⟩
 ·obtain⟨x,hx,rfl,rfl⟩:=dD hi;exact hL x hx
 ·rw[hng]at hg;exact⟨hg,hπ g hg⟩
 ·have h1:ng<=i:=hi;have h2:i<ng:=hs;omega
theorem ak.lT{o:ak}(h:o.plain=true):o.bg=false:=by
 cases o<;>first|rfl|(simp[ak.plain]at h)
theorem Jq(_:∀ x∈L,x.1<ng) (_:∀ g,g<ng->(π0 g).1=g) (_:∀ x∈L,w.heap[x.1]?=some (ρ.ro x.1)) {π1:Pl} {w':World} {n':Nat} {h':H} (g:dt ρ (fun i=>i<ng) π0 (lW L) w ng π1 h' w' n') (_:bB L h'=true):Below w.heap.size w w':=by
 refine⟨g.same.2.1,g.same.1,g.same.2.2,g.size,fun k hk=>?_⟩;refine g.keep k hk fun i o hi _=>?_
 obtain⟨x,hx,rfl,rfl⟩:=dD hi;rfl
theorem Q8{m n i:Nat}(h:i<n):sh m n i=i:=by
 unfold sh;rw[show Nat.blt i n=true from qkq h]
theorem Fe{m n i:Nat}(h:n<=i):sh m n i=i-n+m:=by
 unfold sh;rw[show Nat.blt i n=false by
  cases hb:Nat.blt i n with
  |false=>rfl
  |true=>have:=qqx hb;omega]
theorem NW{ρ':Env}(hmix:P.follows .mixedOrders=true)(htt:nu P cx0.tt)(hft:sl P cx0.ft)(hsm:SumOk P cx0 ρ')(hng:cx.ng=ng)(hng0:cx0.ng=ng)(hL:∀ x∈L,x.1<ng)(hro:RoAt ρ' L)(hroe:ρ'.ro=ρ.ro)
  {N:Nat} {f:FuncId} {fn:Func} {args:List V} {v v':V} {objs:List (Nat×ak)} (hsel:((ev cx0 N).call f args (sk L ng)).ag ρ'=some (.ret v,st')) (hthere':bB L st'.h=true) (hv':ai ρ' st'.pc->∀ π,v'.ab ρ π=v.ab ρ' π) (hnw:v'.dA=true)
  (hobjs:∀ x∈objs,ng<=x.1/\∃ o,st'.h.get x.1=some o/\(x.2.plain=true/\o.bg=false)/\∀ π b ob,o.is ρ' π b ob->x.2.is ρ π b ob) (hpure:V.dN args=true) (hfn:P.funcs[f]?=some fn)
  (hh:b8 cx ρ S π0 st w) (hthere:bB L st.h=true) {ac:List Value} (ha:bz ρ' S π0 args ac) {n:Nat}:
  CallsIn Fence.wide n P f ac.toArray w (EPost ρ S π0 st w (.ret (v'.we (sh st.n ng)),{h:=kc (sh st.n ng) objs st.h,n:=st.n+(st'.n-ng),pc:=st.pc})):=by
 have hπ:∀ g,g<ng->(π0 g).1=g:=fun g hg=>(hh.glob g (by rw[hng];exact hg)).2
 have hSg:∀ g,g<ng->S g:=fun g hg=>(hh.glob g (by rw[hng];exact hg)).1
 have hngn:ng<=st.n:=by
  rcases qkz st.n ng with h|h
  ·exact absurd (hSg st.n h) (hh.fresh st.n (qq2 _))
  ·exact h
 have hW:∀ x∈L,w.heap[x.1]?=some (ρ.ro x.1):=by
  intro x hx;obtain⟨c,hc⟩:=eP hthere x hx;obtain⟨ob,h1,_,h2⟩:=(hh.at_.rep π0 fun _ _=>rfl).obj _ _ hc;rw[hπ _ (hL x hx),h2]at h1;exact h1
 have hW2:∀ x∈L,w.heap[x.1]?=some (ρ'.ro x.1):=fun x hx=>by rw[hroe];exact hW x hx
 have h0:=uN (cx0:=cx0) (π0:=π0) hng0 hL hro hπ hW2;have ha0:bz ρ' (fun i=>i<ng) π0 args ac:=fun π _=>(V.jS hpure).trans (ha π0 fun _ _=>rfl)
 refine((sD hmix htt hft hsm N).2.2 f args _ _ hsel _ π0 w ac n h0 ha0 ⟨fn,hfn⟩).mono fun e w' hp=>?_
 obtain⟨hpc',πc,g,c,rfl,hv⟩:=hp;have hb:=Jq hL hπ hW2 g hthere';have hle:ng<=st'.n:=g.le;refine⟨hh.pc,fun i=>if i<st.n then π0 i else πc (i-st.n+ng),?_⟩;have hpi:∀ b,(fun i=>if i<st.n then π0 i else πc (i-st.n+ng)) (sh st.n ng b)=πc b:=by
  intro b;dsimp only;rcases qkz b ng with h|h
  ·rw[Q8 h,if_pos (by omega),g.known b h]
  ·rw[Fe h,if_neg (by omega),show b-ng+st.n-st.n+ng=b by omega]
 have hkn:∀ π,bo (Ext S st.n (st.n+(st'.n-ng))) π (fun i=>if i<st.n then π0 i else πc (i-st.n+ng))->bo (Ext (fun i=>i<ng) ng st'.n) (fun b=>π (sh st.n ng b)) πc:=by
  intro π hk b hbb;dsimp only;rw[<-hpi b];refine hk _ ?_;rcases hbb with h|⟨h1,h2⟩
  ·rw[Q8 h];exact .inl (hSg b h)
  ·rw[Fe h1];exact .inr ⟨by omega,by omega⟩
 have hk0:bo S (fun i=>if i<st.n then π0 i else πc (i-st.n+ng)) π0:=by
  intro i hi;dsimp only;rw[if_pos];rcases qkz i st.n with h|h
  ·exact h
  ·exact absurd hi (hh.fresh i h)
 have hold:∀ π,bo (Ext S st.n (st.n+(st'.n-ng))) π (fun i=>if i<st.n then π0 i else πc (i-st.n+ng))->∀ i o,st.h.get i=some o->∃ ob,w.heap[(π i).1]?=some ob/\o.is ρ π i ob:=by
  intro π hk i o hi;exact(hh.at_.rep π fun j hj=>(hk j (.inl hj)).trans (hk0 j hj)).obj i o hi
 have hnew:∀ x∈objs,w.heap.size<=(πc x.1).1:=by
  intro x hx;obtain⟨h1,o,h2,h3,hob⟩:=hobjs x hx;rcases g.sub x.1 o h2 with h|⟨i0,o0,h4,h5,h6⟩
  ·exact h
  ·obtain⟨y,hy,rfl,rfl⟩:=dD h4;rw[h3.2]at h6;exact absurd (h6 rfl) (by decide)
 refine⟨?_,⟨c,rfl,fun π hk=>?_⟩⟩
 ·refine⟨by dsimp only;omega,hk0,⟨fun π hk=>⟨fun i o hi=>?_,fun i j o o' hi hj e=>?_⟩,fun i o hi=>?_⟩,fun i o hi=>?_,fun j hj hne=>hb.block j hj,hb.size,⟨hb.tape,hb.os,hb.output⟩⟩
  ·rcases dB hi with⟨x,hx,rfl,rfl⟩|hi
   ·obtain⟨h1,o,h2,h3,hob⟩:=hobjs x hx;obtain⟨ob,h4,h5⟩:=(g.at_.rep _ (hkn π hk)).obj x.1 o h2;exact⟨ob,h4,ak.VE h3.1 (hob _ _ _ h5)⟩
   ·obtain⟨ob,h1,h2⟩:=hold π hk i o hi;have hlt:(π i).1<w.heap.size:=(qq6.1 h1).1;exact⟨ob,by rw[hb.block _ hlt];exact h1,h2⟩
  ·have hmix:∀ (i j:Nat) (o:ak) (x:Nat×ak),st.h.get i=some o->x∈objs->(π i).1=(π (sh st.n ng x.1)).1->False:=by
    intro i j o x hi hx e;obtain⟨ob,h1,_⟩:=hold π hk i o hi;have hlt:(π i).1<w.heap.size:=(qq6.1 h1).1;have h2:=hnew x hx;obtain⟨h3,o,h4,_⟩:=hobjs x hx;have h5:(π (sh st.n ng x.1))=πc x.1:=hkn π hk x.1 (g.at_.dom _ _ h4);rw[h5]at e;omega
   rcases dB hi with⟨x,hx,rfl,rfl⟩|hi<;>rcases dB hj with⟨y,hy,rfl,rfl⟩|hj
   ·obtain⟨h1,_,h2,h3,_⟩:=hobjs x hx;obtain⟨h4,_,h5,h6,_⟩:=hobjs y hy;rcases(g.at_.rep _ (hkn π hk)).inj x.1 y.1 _ _ h2 h5 e with e|e
    ·exact .inl (by rw[e])
    ·rw[h3.2]at e;cases e.1
   ·exact(hmix j 0 _ x hj hx e.symm).elim
   ·exact(hmix i 0 _ y hi hy e).elim
   ·exact(hh.at_.rep π fun j hj=>(hk j (.inl hj)).trans (hk0 j hj)).inj i j _ _ hi hj e
  ·rcases dB hi with⟨x,hx,rfl,rfl⟩|hi
   ·obtain⟨h1,_,h2,h3⟩:=hobjs x hx;rcases g.at_.dom _ _ h2 with h|⟨_,h⟩
    ·have:x.1<ng:=h;omega
    ·have h':x.1<st'.n:=h;rw[Fe h1];exact .inr ⟨by omega,by dsimp only;omega⟩
   ·exact .inl (hh.at_.dom i o hi)
  ·rcases dB hi with⟨x,hx,rfl,rfl⟩|hi
   ·refine .inl ?_;have:=hnew x hx;rw[<-hpi x.1]at this;exact this
   ·exact .inr ⟨i,o,hi,congrArg Pc.p (hk0 i (hh.at_.dom i o hi)).symm,id⟩
 ·rw[V.jJ _ _ _ _ hnw,hv' hpc'];exact hv _ (hkn π hk)
theorem tA{ρ':Env}(hmix:P.follows .mixedOrders=true)(htt:nu P cx0.tt)(hft:sl P cx0.ft)(hsm:SumOk P cx0 ρ')(hng:cx.ng=ng)(hng0:cx0.ng=ng)(hL:∀ x∈L,x.1<ng)(hro:RoAt ρ' L)(hroe:ρ'.ro=ρ.ro)
  {N:Nat} {f:FuncId} {fn:Func} {args:List V} {v v':V} {objs:List (Nat×ak)} (hsel:((ev cx0 N).call f args (sk L ng)).ag ρ'=some (.ret v,st')) (hthere':bB L st'.h=true) (hv':∀ π,v'.ab ρ π=v.ab ρ' π) (hnw:v'.dA=true)
  (hobjs:∀ x∈objs,ng<=x.1/\∃ o,st'.h.get x.1=some o/\(x.2.plain=true/\o.bg=false)/\∀ π b ob,o.is ρ' π b ob->x.2.is ρ π b ob) (hpure:V.dN args=true) (hfn:P.funcs[f]?=some fn)
  (hh:b8 cx ρ S π0 st w) (hthere:bB L st.h=true) {ac:List Value} (ha:bz ρ' S π0 args ac) {n:Nat}:
  CallsIn Fence.wide n P f ac.toArray w (EPost ρ S π0 st w (.ret (v'.we (sh st.n ng)),{h:=kc (sh st.n ng) objs st.h,n:=st.n+(st'.n-ng),pc:=st.pc})):=
 NW hmix htt hft hsm hng hng0 hL hro hroe hsel hthere' (fun _=>hv') hnw hobjs hpure hfn hh hthere ha
theorem Sk(hmix:P.follows .mixedOrders=true)(htt:nu P cx0.tt)(hft:sl P cx0.ft)(hsm:SumOk P cx0 ρ)(hng:cx.ng=ng)(hng0:cx0.ng=ng)(hL:∀ x∈L,x.1<ng)(hro:RoAt ρ L)
  {N:Nat} {f:FuncId} {fn:Func} {args:List V} {v:V} {objs:List (Nat×ak)} (hsel:((ev cx0 N).call f args (sk L ng)).ag ρ=some (.ret v,st')) (hthere':bB L st'.h=true) (hnw:v.dA=true)
  (hobjs:∀ x∈objs,ng<=x.1/\st'.h.get x.1=some x.2/\x.2.plain=true) (hpure:V.dN args=true) (hfn:P.funcs[f]?=some fn)
  (hh:b8 cx ρ S π0 st w) (hthere:bB L st.h=true) {ac:List Value} (ha:bz ρ S π0 args ac) {n:Nat}:
  CallsIn Fence.wide n P f ac.toArray w (EPost ρ S π0 st w (.ret (v.we (sh st.n ng)),{h:=kc (sh st.n ng) objs st.h,n:=st.n+(st'.n-ng),pc:=st.pc})):=
 tA hmix htt hft hsm hng hng0 hL hro rfl hsel hthere' (fun _=>rfl) hnw (fun x hx=>⟨(hobjs x hx).1,x.2,(hobjs x hx).2.1,⟨(hobjs x hx).2.2,ak.lT (hobjs x hx).2.2⟩,fun _ _ _ h=>h⟩) hpure hfn hh hthere ha
theorem gP{h:H}{ng:Nat}:∀ {l:List Nat},∀ x∈lN h ng l,ng<=x.1/\h.get x.1=some x.2/\x.2.plain=true
 |[],x,hx=>by simp[lN]at hx
 |b::l,x,hx=>by
  unfold lN at hx;split at hx
  ·rename_i hb;split at hx
   ·rename_i o ho;split at hx
    ·rename_i hp;rcases List.mem_cons.1 hx with rfl|hx
     ·exact⟨qqx hb,ho,hp⟩
     ·exact gP x hx
    ·exact gP x hx
   ·exact gP x hx
  ·exact gP x hx
theorem jb{lf:Leaf}:∀ {r:j4},(cP L ng r).ag ρ=some lf->∃ st',r.ag ρ=some (.ret lf.v,st')/\bB L st'.h=true/\lf.v.dA=true/\lf.objs=lN st'.h ng (reach st'.h ng 5 (wK lf.v.names []))/\lf.n=st'.n
 |.ok (.ret v,st),h=>by
  unfold cP at h;split at h
  ·rename_i ht;rw[qqw]at ht;simp only[R.ag,qqk]at h;subst h;exact⟨st,rfl,ht.1,ht.2,rfl,rfl⟩
  ·simp[R.ag]at h
 |.ok (.panic _,_),h=>by simp[cP,R.ag]at h
 |.br c t f,h=>by
  unfold cP at h;unfold R.ag at h ⊢;split at h
  ·rename_i hc;rw[if_pos hc];exact jb h
  ·rename_i hc;rw[if_neg hc];exact jb h
 |.stuck _,h=>by simp[cP,R.ag]at h
theorem qh{v:V}:∀ {r:R Leaf} {st:St},ai ρ st.pc->(Bo ng r st).ag ρ=some (v,st')->
  ∃ lf st1,r.ag ρ=some lf/\cG ρ st st1/\v=lf.v.we (sh st1.n ng)/\st'={h:=kc (sh st1.n ng) lf.objs st1.h,n:=st1.n+(lf.n-ng),pc:=st1.pc}
 |.ok lf,st,hp,h=>by
  simp only[Bo,R.ag,qqk,qqv]at h;exact⟨lf,st,rfl,.refl hp,h.1.symm,h.2.symm⟩
 |.br c t f,st,hp,h=>by
  unfold Bo at h;obtain⟨st1,hl,h1⟩:=ah hp h;split at h1
  ·rename_i hc;obtain⟨lf,st2,h2,h3,h4⟩:=qh hl.pc h1;exact⟨lf,st2,by unfold R.ag;rw[if_pos hc];exact h2,hl.trans h3,h4⟩
  ·rename_i hc;obtain⟨lf,st2,h2,h3,h4⟩:=qh hl.pc h1;exact⟨lf,st2,by unfold R.ag;rw[if_neg (by simp[hc])];exact h2,hl.trans h3,h4⟩
 |.stuck _,_,_,h=>by simp[Bo,R.ag]at h
def bM(cx0:Cx) (L:List (Nat×List V)) (ng N:Nat) (f:FuncId) (t:List (List V×R Leaf)):Prop:=
 ∀ x∈t,V.dN x.1=true/\cP L ng ((ev cx0 N).call f x.1 (sk L ng))=x.2
theorem bM.nil{N:Nat}{f:FuncId}:bM cx0 L ng N f []:=fun x hx=>by simp at hx
theorem bM.cons{N:Nat}{f:FuncId}{a:List V}{tr:R Leaf} {l:List (List V×R Leaf)} (h1:V.dN a=true) (h2:cP L ng ((ev cx0 N).call f a (sk L ng))=tr) (h:bM cx0 L ng N f l):bM cx0 L ng N f ((a,tr)::l):=
 fun x hx=>by
  rcases List.mem_cons.1 hx with rfl|hx
  ·exact⟨h1,h2⟩
  ·exact h x hx
def fM(P:Program)(cx:Cx)(ρ:Env)(f:FuncId) (s:List V->St->R (V×St)):Prop:=
 ∀ args st v st',(s args st).ag ρ=some (v,st')->∀ S π0 w ac n,b8 cx ρ S π0 st w->bz ρ S π0 args ac->CallsIn Fence.wide n P f ac.toArray w (EPost ρ S π0 st w (.ret v,st'))
theorem Fp(hmix:P.follows .mixedOrders=true)(htt:nu P cx0.tt)(hft:sl P cx0.ft)(hsm:SumOk P cx0 ρ)(hng:cx.ng=ng)(hng0:cx0.ng=ng)(hL:∀ x∈L,x.1<ng)(hro:RoAt ρ L)
  {N:Nat} {f:FuncId} {fn:Func} (hfn:P.funcs[f]?=some fn):∀ {t:List (List V×R Leaf)},bM cx0 L ng N f t->fM P cx ρ f (bY L ng t)
 |[],_,args,st,v,st',h,_,_,_,_,_,_,_=>by simp[bY,R.ag]at h
 |(a0,tr)::l,ht,args,st,v,st',h,S,π0,w,ac,n,hh,ha=>by
  unfold bY at h;split at h
  ·rename_i hb;obtain rfl:=V.aR _ _ hb;split at h
   ·rename_i hthere;obtain⟨lf,st1,h1,hl,rfl,rfl⟩:=qh hh.pc h;obtain⟨h2,h3⟩:=ht _ (qq1 ..);dsimp only at h2 h3;rw[<-h3]at h1;obtain⟨st2,h4,h5,hnw,h6,h7⟩:=jb h1;have hh1:=hh.iw hl;have:=Sk hmix htt hft hsm hng hng0 hL hro h4 h5 hnw (objs:=lf.objs) (by rw[h6];exact gP) h2 hfn hh1 (by rw[hl.h];exact hthere) ha (n:=n);refine this.mono fun e w' hp=>EPost.iw hl ?_
    rw[h7];exact hp
   ·simp[R.ag]at h
  ·exact Fp hmix htt hft hsm hng hng0 hL hro hfn (fun x hx=>ht x (qq3 _ hx)) args st v st' h S π0 w ac n hh ha
end
end Go.Proofs.YtgcbnjpeifigaaaGreatDoor
