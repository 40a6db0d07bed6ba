/- Symbolic execution, part 26: a drawn region, operation by operation: what is known goes on. Symbolic execution, part 27: a drawn region, one step. No condition. -/
import Derived.Test.YtgcbnjpeifigaaaGreatDoorFwD
namespace Go.Proofs.YtgcbnjpeifigaaaGreatDoor
open Go
theorem eg.known{ρ:Env}{S S':Nat->Prop}{π0 π1:Pl}{fr:Fr}{a:Act}(h:eg ρ S π0 fr a)(hk:bo S π1 π0)(hs:∀ i,S i->S' i):eg ρ S' π1 fr a:=
 let⟨tc,h1,h2,h3⟩:=h
 ⟨tc,h1,h2.go hk hs,h3.go hk hs⟩
structure sn (P:Program) (cx:Cx) (slf:Self) (ρ:Env) (ops:Array Oper) (bs ord:List Nat) (f:Nat->RS) (S:Nat->Prop) (π0:Pl) (fr:Fr) (st:St) (w:World) (a:Act):Prop where
 tt:nu P cx.tt
 ft:sl P cx.ft
 call:lg P cx ρ slf.call
 round:ub P cx ρ slf
 tr:Tr cx slf ρ ops bs ord f
 zero:f 0={fr:=fr,st:=st,sm:=[],mm:=none,bigs:=[],reads:=[]}
 here:b8 cx ρ S π0 st w
 fr:eg ρ S π0 fr a
structure Inv (ρ:Env) (ops:Array Oper) (bs ord:List Nat) (f:Nat->RS) (S:Nat->Prop) (π0:Pl) (fr:Fr) (st:St) (w:World) (E:Nat->Prop) (t:Nat) (π1:Pl) (a1:Act) (w1:World):Prop where
 tle:t<=ord.length
 lt:∀ p,E p->p<ord.length
 stage:∀ p,gj ord f p->(E p↔p<t)
 closed:∀ p i o b,E p->Pos ops bs ord p i o b->∀ q g,ord[q]?=some g->Nat.testBit b g=true->E q
 gg:lj ρ S π0 st.h w (i9 S ord f E) π1 (zN ops bs ord f E t) w1
 clear:∀ i o,FC ops bs ord f E i o\/I8 ord f E i o->(f t).st.h.get i=none
 fr:eg ρ (i9 S ord f E) π1 {tm:=Jb ops ord f E,df:=fr.df} a1
section
variable {P:Program} {cx:Cx} {slf:Self} {ρ:Env} {ops:Array Oper} {bs ord:List Nat} {f:Nat->RS} {S:Nat->Prop} {π0:Pl} {fr:Fr} {st:St} {w:World} {a:Act}
 {E:Nat->Prop} {t:Nat} {π1:Pl} {a1:Act} {w1:World} {p i:Nat} {o:Oper} {b:Nat}
structure Nxt (ops:Array Oper) (bs ord:List Nat) (E:Nat->Prop) (p i:Nat) (o:Oper) (b:Nat):Prop where
 pos:Pos ops bs ord p i o b
 new:¬E p
 ready:∀ q g,ord[q]?=some g->Nat.testBit b g=true->E q
theorem sn.mm0(R:sn P cx slf ρ ops bs ord f S π0 fr st w a):(f 0).mm=none:=by rw[R.zero]
theorem sn.sm0(R:sn P cx slf ρ ops bs ord f S π0 fr st w a):(f 0).sm=[]:=by rw[R.zero]
theorem sn.UD(R:sn P cx slf ρ ops bs ord f S π0 fr st w a):(f 0).bigs=[]:=by rw[R.zero]
theorem sn.n0(R:sn P cx slf ρ ops bs ord f S π0 fr st w a):∀ i,(f 0).st.n<=i->¬S i:=by rw[R.zero];exact R.here.fresh
theorem Inv.Jr(R:sn P cx slf ρ ops bs ord f S π0 fr st w a)(X:Nxt ops bs ord E p i o b){r:Nat}(hb:gj ord f r)(hr:r<p):E r:=by
 obtain⟨g,hg,e⟩:=hb;exact X.ready r g hg (R.tr.wO R.UD X.pos hr ⟨g,hg,e⟩ hg)
theorem Inv.IU(R:sn P cx slf ρ ops bs ord f S π0 fr st w a)(I:Inv ρ ops bs ord f S π0 fr st w E t π1 a1 w1)(X:Nxt ops bs ord E p i o b)(h:t<=p):(f t).st.h=(f p).st.h:=by
 refine(R.tr.qF h (qkx X.pos.lt) ?_).symm;intro r h1 h2 hb;have:=(I.stage r hb).1 (Inv.Jr R X hb h2);omega
theorem Inv.next(I:Inv ρ ops bs ord f S π0 fr st w E t π1 a1 w1)(R:sn P cx slf ρ ops bs ord f S π0 fr st w a)(X:Nxt ops bs ord E p i o b)(hb:¬gj ord f p){v:V}{c:Value}{π2:Pl}{w2:World}
  (hv:(f (p+1)).fr={(f p).fr with tm:=dQ (f p).fr.tm o.dst v}) (hk:bo (i9 S ord f E) π2 π1)
  (hg:lj ρ S π0 st.h w (Ext (i9 S ord f E) (f p).st.n (f (p+1)).st.n) π2 (zN ops bs ord f (fun q=>E q\/q=p) t) w2)
  (hc:∀ i o,FC ops bs ord f (fun q=>E q\/q=p) i o\/I8 ord f (fun q=>E q\/q=p) i o->(f t).st.h.get i=none)
  (hs:pg ρ (Ext (i9 S ord f E) (f p).st.n (f (p+1)).st.n) π2 v c):Inv ρ ops bs ord f S π0 fr st w (fun q=>E q\/q=p) t π2 (a1.put o.dst c) w2:=by
 have hids:=J9 (S:=S) (ord:=ord) (f:=f) (E:=E) X.pos.lt;refine⟨I.tle,fun q hq=>hq.elim (I.lt q) fun e=>e▸X.pos.lt,fun r hr=>?_,?_,by rw[hids];exact hg,hc,?_⟩
 ·rw[<-I.stage r hr];exact⟨fun h=>h.elim id fun e=>absurd (e▸hr) hb,.inl⟩
 ·rintro r j x c (hr|rfl) hpos q g hq hbit
  ·exact .inl (I.closed r j x c hr hpos q g hq hbit)
  ·obtain⟨_,_,rfl⟩:=X.pos.uniq hpos;exact .inl (X.ready q g hq hbit)
 ·rw[hids,R.tr.Rm X.pos hv];exact(I.fr.known hk fun i hi=>.inl hi).put hs
theorem Inv.guard(R:sn P cx slf ρ ops bs ord f S π0 fr st w a)(I:Inv ρ ops bs ord f S π0 fr st w E t π1 a1 w1)(X:Nxt ops bs ord E p i o b):∀ d∈lK ops.toList o,∃ π,a1.tmps[d]?=((f p).fr.tm[d]?).map (V.ab ρ π):=by
 intro d hd;obtain⟨tc,h1,h2,_⟩:=I.fr;refine⟨π1,?_⟩;rw[<-(R.tr.NG X.pos X.new I.closed X.ready).2 d hd,h1,List.getElem?_toArray,<-h2 π1 fun _ _=>rfl,bu]
theorem Inv.ev(R:sn P cx slf ρ ops bs ord f S π0 fr st w a)(I:Inv ρ ops bs ord f S π0 fr st w E t π1 a1 w1)(X:Nxt ops bs ord E p i o b)(st1:St):eV cx (f p).fr.tm st1 o=eV cx (Jb ops ord f E) st1 o:=
 NB (fun x hx=>((R.tr.NG X.pos X.new I.closed X.ready).1 x hx).1) fun x hx=>((R.tr.NG X.pos X.new I.closed X.ready).1 x hx).2
theorem Inv.PX(R:sn P cx slf ρ ops bs ord f S π0 fr st w a)(I:Inv ρ ops bs ord f S π0 fr st w E t π1 a1 w1):DB cx (i9 S ord f E) π1:=R.here.glob.go I.gg.known I.gg.mono
theorem Inv.op(R:sn P cx slf ρ ops bs ord f S π0 fr st w a)(I:Inv ρ ops bs ord f S π0 fr st w E t π1 a1 w1)(X:Nxt ops bs ord E p i o b){st1 st2:St}{r:OR}(hv:∀ i o,st1.h.get i=some o->zN ops bs ord f E t i o)
  (hpc:ai ρ st1.pc) (h:(eV cx (f p).fr.tm st1 o).ag ρ=some (r,st2)) (hf:Ar (i9 S ord f E) st1.n st2.n):
  ai ρ st2.pc/\∃ π2 w2,dt ρ (i9 S ord f E) π1 st1.h w1 st1.n π2 st2.h w2 st2.n/\aow P ρ (Ext (i9 S ord f E) st1.n st2.n) π2 w1 ((execOp a1.eval o).run P w1) w2 r:=by
 obtain⟨tc,h1,h2,_⟩:=I.fr;rw[Inv.ev R I X]at h;exact Qv R.tt R.ft (I.gg.view hv) (Inv.PX R I) h2 h1 hpc h hf
theorem zN.plain(R:sn P cx slf ρ ops bs ord f S π0 fr st w a)(X:Nxt ops bs ord E p i o b) (hm:(f (p+1)).mm=(f p).mm) (hs:∀ s:Sm,(f (p+1)).sm≠s::(f p).sm):
  (∀ i o,zN ops bs ord f (fun q=>E q\/q=p) t i o->zN ops bs ord f E t i o) /\
  (∀ i o,FC ops bs ord f (fun q=>E q\/q=p) i o\/I8 ord f (fun q=>E q\/q=p) i o->FC ops bs ord f E i o\/I8 ord f E i o):=by
 have key:∀ i o,FC ops bs ord f (fun q=>E q\/q=p) i o\/I8 ord f (fun q=>E q\/q=p) i o->FC ops bs ord f E i o\/I8 ord f E i o:=by
  rintro i o (h|h)
  ·exact .inl (h.less (fun _=>Iff.rfl) hs)
  ·exact .inr (h.less R.tr R.mm0 X.pos hm)
 refine⟨fun i o h=>?_,key⟩;rcases h with h|h
 ·exact .inl h
 ·exact .inr (key i o h)
theorem tJ{l:List Sm}(s:Sm):l≠s::l:=fun e=>by have:=congrArg List.length e;simp at this
theorem B3 (h:(f (p+1)).bigs=(f p).bigs):¬gj ord f p:=fun⟨g,_,hg⟩=>by
 rw[h]at hg;have:=congrArg List.length hg;simp at this
theorem pG{K:Act->World->Prop}{w2:World}{c:Value} (hw:Region.wanted o (yielded ops a1.tmps)=true) (hd:∀ c,o.op≠.defer c) (e:(execOp a1.eval o).run P w1=.ok (.value c) w2) (h:K (a1.put o.dst c) w2):nt P ops o a1 w1 K:=
 .inr ⟨hw,hd,.inl ⟨c,w2,e,h⟩⟩
end
section
variable {P:Program} {cx:Cx} {slf:Self} {ρ:Env} {ops:Array Oper} {bs ord:List Nat} {f:Nat->RS} {S:Nat->Prop} {π0:Pl} {fr:Fr} {st:St} {w:World} {a:Act}
 {E:Nat->Prop} {t:Nat} {π1:Pl} {a1:Act} {w1:World} {p i:Nat} {o:Oper} {b:Nat}
def uc(ρ:Env)(ops:Array Oper)(bs ord:List Nat)(f:Nat->RS)(S:Nat->Prop)(π0:Pl)(fr:Fr)(st:St)(w:World)(E:Nat->Prop)(p:Nat)(a':Act)(w':World):Prop:=
 ai ρ (f (p+1)).st.pc/\∃ t' π',Inv ρ ops bs ord f S π0 fr st w (fun q=>E q\/q=p) t' π' a' w'
theorem step_skip(R:sn P cx slf ρ ops bs ord f S π0 fr st w a)(I:Inv ρ ops bs ord f S π0 fr st w E t π1 a1 w1)(X:Nxt ops bs ord E p i o b) (hpc:ai ρ (f p).st.pc) {st1:St} (hw:WantF ρ ops o (f p) st1 false)
  (hd:f (p+1)={f p with st:=st1,fr:={(f p).fr with tm:=dQ (f p).fr.tm o.dst .undef}}):nt P ops o a1 w1 (uc ρ ops bs ord f S π0 fr st w E p):=by
 obtain⟨h1,h2⟩:=hw.pc hpc;refine .inl ⟨h2 _ (I.guard R X),?_,t,π1,?_⟩
 ·rw[hd];exact h1
 ·have hm:(f (p+1)).mm=(f p).mm:=by rw[hd]
  have hs:∀ s:Sm,(f (p+1)).sm≠s::(f p).sm:=by rw[hd];exact tJ
  have hb:(f (p+1)).bigs=(f p).bigs:=by rw[hd]
  have hn:(f (p+1)).st.n=(f p).st.n:=by rw[hd];exact hw.n
  obtain⟨k1,k2⟩:=zN.plain (E:=E) (t:=t) R X hm hs;refine I.next R X (B3 hb) (v:=.undef) (by rw[hd]) (fun _ _=>rfl) ?_ (fun i o h=>I.clear i o (k2 i o h)) jo;rw[hn,Ext.eE];exact I.gg.less k1
theorem nK:∀ i o,(T.nil:H).get i=some o->zN ops bs ord f E t i o:=fun i o h=>by rw[T.get_nil]at h;simp at h
theorem Tj(R:sn P cx slf ρ ops bs ord f S π0 fr st w a)(I:Inv ρ ops bs ord f S π0 fr st w E t π1 a1 w1)(X:Nxt ops bs ord E p i o b) (hpc:ai ρ (f p).st.pc) {st1:St} (hw:WantF ρ ops o (f p) st1 true) {v:V} {st':St}
  (h:(eV cx (f p).fr.tm {st1 with h:=T.nil} o).ag ρ=some (.val v,st'))
  (hd:f (p+1)={f p with st:={st' with h:=st1.h},fr:={(f p).fr with tm:=dQ (f p).fr.tm o.dst v}}):nt P ops o a1 w1 (uc ρ ops bs ord f S π0 fr st w E p):=by
 obtain⟨h1,h2⟩:=hw.pc hpc;have hn:(f (p+1)).st.n=st'.n:=by rw[hd]
 have hf:=R.tr.fresh (E:=E) R.n0 X.pos.lt X.new;rw[hn,<-hw.n]at hf;obtain⟨hpc2,π2,w2,g,hbk⟩:=I.op R X (st1:={st1 with h:=T.nil}) nK h1 h hf;obtain⟨c,e,hs⟩:=hbk;refine pG (h2 _ (I.guard R X)) (gd h (by simp)) e ⟨by rw[hd];exact hpc2,t,π2,?_⟩;have hm:(f (p+1)).mm=(f p).mm:=by rw[hd]
 have hsm:∀ s:Sm,(f (p+1)).sm≠s::(f p).sm:=by rw[hd];exact tJ
 obtain⟨k1,k2⟩:=zN.plain (E:=E) (t:=t) R X hm hsm;have g':=I.gg.frame (G':=zN ops bs ord f (fun q=>E q\/q=p) t) nK g fun i o hi=>.inr ⟨k1 i o hi,T.get_nil i⟩
 refine I.next R X (B3 (by rw[hd])) (v:=v) (by rw[hd]) g.known ?_ (fun i o h=>I.clear i o (k2 i o h)) ?_
 ·rw[hn,<-hw.n];exact g'
 ·rw[hn,<-hw.n];exact hs
theorem O1(R:sn P cx slf ρ ops bs ord f S π0 fr st w a)(I:Inv ρ ops bs ord f S π0 fr st w E t π1 a1 w1)(X:Nxt ops bs ord E p i o b) (hpc:ai ρ (f p).st.pc) {st1:St} (hw:WantF ρ ops o (f p) st1 true) {v:V} {st':St}
  (h:(eV cx (f p).fr.tm {st1 with h:=T.nil} o).ag ρ=some (.val v,st'))
  (hd:f (p+1)={f p with st:={st' with h:=st1.h},sm:=EM i st'.h st1.n++(f p).sm,fr:={(f p).fr with tm:=dQ (f p).fr.tm o.dst v}}):nt P ops o a1 w1 (uc ρ ops bs ord f S π0 fr st w E p):=by
 obtain⟨h1,h2⟩:=hw.pc hpc;have hn:(f (p+1)).st.n=st'.n:=by rw[hd]
 have hf:=R.tr.fresh (E:=E) R.n0 X.pos.lt X.new;have hf0:=hf;rw[hn,<-hw.n]at hf;obtain⟨hpc2,π2,w2,g,hbk⟩:=I.op R X (st1:={st1 with h:=T.nil}) nK h1 h hf;obtain⟨c,e,hs⟩:=hbk;refine pG (h2 _ (I.guard R X)) (gd h (by simp)) e ⟨by rw[hd];exact hpc2,t,π2,?_⟩;have hm:(f (p+1)).mm=(f p).mm:=by rw[hd]
 -- what is new
 have hnew:∀ j x,FC ops bs ord f (fun q=>E q\/q=p) j x->FC ops bs ord f E j x\/(st'.h.get j=some x/\j=(f p).st.n/\(f p).st.n<(f (p+1)).st.n):=by
  rintro j x ⟨q,s,b1|rfl,b2,b3,b4,b5⟩
  ·exact .inl ⟨q,s,b1,b2,fun r j x b hr=>b3 r j x b (.inl hr),b4,b5⟩
  ·refine .inr ⟨?_,by rw[b4,b2.id],b2.wide⟩;have hmd:=b2.made;rw[hd]at hmd;simp only[EM]at hmd;split at hmd
   ·rename_i ob hob;split at hmd
    ·exact absurd hmd (tJ s)
    injection hmd with hmd;rw[b4,b5,<-hmd];exact hob
   ·exact absurd hmd (tJ s)
 have hmm:∀ j x,I8 ord f (fun q=>E q\/q=p) j x->I8 ord f E j x:=fun j x h=>h.less R.tr R.mm0 X.pos hm
 have g':=I.gg.frame (G':=zN ops bs ord f (fun q=>E q\/q=p) t) nK g fun j x hj=>by
  rcases hj with hj|hj|hj
  ·exact .inr ⟨.inl hj,T.get_nil j⟩
  ·rcases hnew j x hj with hj|⟨hj,_⟩
   ·exact .inr ⟨.inr (.inl hj),T.get_nil j⟩
   ·exact .inl hj
  ·exact .inr ⟨.inr (.inr (hmm j x hj)),T.get_nil j⟩
 refine I.next R X (B3 (by rw[hd])) (v:=v) (by rw[hd]) g.known ?_ ?_ ?_
 ·rw[hn,<-hw.n];exact g'
 ·rintro j x (hj|hj)
  ·rcases hnew j x hj with hj|⟨_,hj,hlt⟩
   ·exact I.clear j x (.inl hj)
   ·cases hg:(f t).st.h.get j with
    |none=>rfl
    |some y=>exact absurd (I.gg.dom j y (.inl hg)) (hf0 j (by omega) (by omega))
  ·exact I.clear j x (.inr (hmm j x hj))
 ·rw[hn,<-hw.n];exact hs
theorem step_map(R:sn P cx slf ρ ops bs ord f S π0 fr st w a)(I:Inv ρ ops bs ord f S π0 fr st w E t π1 a1 w1)(X:Nxt ops bs ord E p i o b) (hpc:ai ρ (f p).st.pc) {st1:St} (hw:WantF ρ ops o (f p) st1 true) {v:V} {st':St}
  (h:(eV cx (f p).fr.tm {st1 with h:=T.nil} o).ag ρ=some (.val v,st')) (hh:st'.h.get st1.n=some (.map [])) (hlt:st1.n<st'.n) (hmm0:(f p).mm=none)
  (hd:f (p+1)={f p with st:={st' with h:=st1.h},mm:=some {owner:=i,id:=st1.n,ins:=[]},fr:={(f p).fr with tm:=dQ (f p).fr.tm o.dst v}}):nt P ops o a1 w1 (uc ρ ops bs ord f S π0 fr st w E p):=by
 obtain⟨h1,h2⟩:=hw.pc hpc;have hn:(f (p+1)).st.n=st'.n:=by rw[hd]
 have hf:=R.tr.fresh (E:=E) R.n0 X.pos.lt X.new;have hf0:=hf;rw[hn,<-hw.n]at hf;obtain⟨hpc2,π2,w2,g,hbk⟩:=I.op R X (st1:={st1 with h:=T.nil}) nK h1 h hf;obtain⟨c,e,hs⟩:=hbk;refine pG (h2 _ (I.guard R X)) (gd h (by simp)) e ⟨by rw[hd];exact hpc2,t,π2,?_⟩;have hsm:∀ s:Sm,(f (p+1)).sm≠s::(f p).sm:=by rw[hd];exact tJ
 have hnew:∀ j x,I8 ord f (fun q=>E q\/q=p) j x->st'.h.get j=some x/\j=st1.n:=by
  rintro j x ⟨q,m,b1,b2,b3,b4,b5⟩
  -- the map at the end is this one
  obtain⟨new,c1,_⟩:=R.tr.z5 (p:=p+1) (m:={owner:=i,id:=st1.n,ins:=[]}) (by rw[hd]) (q:=ord.length) X.pos.lt (qq2 _);rw[b2]at c1;injection c1 with c1;have hid:m.id=st1.n:=by rw[c1]
  have how:m.owner=i:=by rw[c1]
  refine⟨?_,by rw[b4,hid]⟩;have hins:fK ord (fun q=>E q\/q=p) m.ins=[]:=by
   apply List.eq_nil_iff_forall_not_mem.2;intro y hy;obtain⟨hy,r,hr,hry⟩:=Ka.1 hy;have hrl:r<ord.length:=(qq5.1 hry).1;obtain⟨j',o',b',hpos,_⟩:=R.tr.pos hrl;have ej:y.1=j':=by have:=hry.symm.trans hpos.ix;simpa using this
   obtain⟨mk,kv,xv,d1,d2,d3⟩:=R.tr.apr R.mm0 b2 hy hpos ej;rcases hr with hr|rfl
   ·rw[how]at d3;exact X.new (I.closed r j' o' b' hr hpos p i X.pos.ix d3)
   ·rw[hmm0]at d1;simp at d1
  rw[b4,b5,hid,hins];exact hh
 have hsg:∀ j x,FC ops bs ord f (fun q=>E q\/q=p) j x->FC ops bs ord f E j x:=fun j x h=>h.less (fun _=>Iff.rfl) hsm
 have g':=I.gg.frame (G':=zN ops bs ord f (fun q=>E q\/q=p) t) nK g fun j x hj=>by
  rcases hj with hj|hj|hj
  ·exact .inr ⟨.inl hj,T.get_nil j⟩
  ·exact .inr ⟨.inr (.inl (hsg j x hj)),T.get_nil j⟩
  ·exact .inl (hnew j x hj).1
 refine I.next R X (B3 (by rw[hd])) (v:=v) (by rw[hd]) g.known ?_ ?_ ?_
 ·rw[hn,<-hw.n];exact g'
 ·rintro j x (hj|hj)
  ·exact I.clear j x (.inl (hsg j x hj))
  ·have hj':=(hnew j x hj).2;cases hg:(f t).st.h.get j with
   |none=>rfl
   |some y=>exact absurd (I.gg.dom j y (.inl hg)) (hf0 j (by rw[hj',hw.n];exact qq2 _) (by rw[hj',hn];exact hlt))
 ·rw[hn,<-hw.n];exact hs
end
end Go.Proofs.YtgcbnjpeifigaaaGreatDoor
