/- Symbolic execution, part 26: a drawn region, operation by operation: what is known goes on. Symbolic execution, part 27: a drawn region, one step. No condition. -/
import Derived.Test.YtmickljjofbmiaaGreatDoorFwD
namespace Go.Proofs.YtmickljjofbmiaaGreatDoor
open Go
theorem cY.known{ρ:Env}{S S':Nat→Prop}{π0 π1:Pl}{fr:Fr}{a:Act}(h:cY ρ S π0 fr a)(hk:a9 S π1 π0)(hs:∀ i,S i→S' i):cY ρ S' π1 fr a:=
 let ⟨tc,h1,h2,h3⟩:=h
 ⟨tc,h1,h2.go hk hs,h3.go hk hs⟩
structure qW (P:Program) (cx:Cx) (slf:Self) (ρ:Env) (ops:Array Oper) (bs ord:List Nat) (f:Nat→RS) (S:Nat→Prop) (π0:Pl) (fr:Fr) (st:St) (w:World) (a:Act):Prop where
 tt:mQ P cx.tt
 ft:rz P cx.ft
 call:j4 P cx ρ slf.call
 round:sC P cx ρ slf
 tr:Tr cx slf ρ ops bs ord f
 zero:f 0={fr:=fr,st:=st,sm:=[],mm:=none,bigs:=[],reads:=[]}
 here:cg cx ρ S π0 st w
 fr:cY ρ S π0 fr a
structure Inv (ρ:Env) (ops:Array Oper) (bs ord:List Nat) (f:Nat→RS) (S:Nat→Prop) (π0:Pl) (fr:Fr) (st:St) (w:World) (E:Nat→Prop) (t:Nat) (π1:Pl) (a1:Act) (w1:World):Prop where
 tle:t≤ord.length
 lt:∀ p,E p→p<ord.length
 stage:∀ p,fz ord f p→(E p↔p<t)
 closed:∀ p i o b,E p→Pos ops bs ord p i o b→∀ q g,ord[q]?=some g→Nat.testBit b g=true→E q
 gg:j5 ρ S π0 st.h w (ie S ord f E) π1 (xV ops bs ord f E t) w1
 clear:∀ i o,Dq ops bs ord f E i o∨FE ord f E i o→(f t).st.h.get i=none
 fr:cY ρ (ie S ord f E) π1 {tm:=FI ops ord f E,df:=fr.df} a1
section
variable {P:Program} {cx:Cx} {slf:Self} {ρ:Env} {ops:Array Oper} {bs ord:List Nat} {f:Nat→RS} {S:Nat→Prop} {π0:Pl} {fr:Fr} {st:St} {w:World} {a:Act}
 {E:Nat→Prop} {t:Nat} {π1:Pl} {a1:Act} {w1:World} {p i:Nat} {o:Oper} {b:Nat}
structure Nxt (ops:Array Oper) (bs ord:List Nat) (E:Nat→Prop) (p i:Nat) (o:Oper) (b:Nat):Prop where
 pos:Pos ops bs ord p i o b
 new:¬E p
 ready:∀ q g,ord[q]?=some g→Nat.testBit b g=true→E q
theorem qW.mm0(R:qW P cx slf ρ ops bs ord f S π0 fr st w a):(f 0).mm=none:=by rw [R.zero]
theorem qW.sm0(R:qW P cx slf ρ ops bs ord f S π0 fr st w a):(f 0).sm=[]:=by rw [R.zero]
theorem qW.Q8(R:qW P cx slf ρ ops bs ord f S π0 fr st w a):(f 0).bigs=[]:=by rw [R.zero]
theorem qW.n0(R:qW P cx slf ρ ops bs ord f S π0 fr st w a):∀ i,(f 0).st.n≤i→¬S i:=by rw [R.zero];exact R.here.fresh
theorem Inv.FW(R:qW P cx slf ρ ops bs ord f S π0 fr st w a)(X:Nxt ops bs ord E p i o b){r:Nat}(hb:fz ord f r)(hr:r<p):E r:=by
 obtain⟨g,hg,e⟩:=hb
 exact X.ready r g hg (R.tr.uX R.Q8 X.pos hr ⟨g,hg,e⟩ hg)
theorem Inv.Fv(R:qW P cx slf ρ ops bs ord f S π0 fr st w a)(I:Inv ρ ops bs ord f S π0 fr st w E t π1 a1 w1)(X:Nxt ops bs ord E p i o b)(h:t≤p):(f t).st.h=(f p).st.h:=by
 refine (R.tr.pB h (Nat.le_of_lt X.pos.lt) ?_).symm
 intro r h1 h2 hb
 have:=(I.stage r hb).1 (Inv.FW R X hb h2)
 omega
theorem Inv.next(I:Inv ρ ops bs ord f S π0 fr st w E t π1 a1 w1)(R:qW P cx slf ρ ops bs ord f S π0 fr st w a)(X:Nxt ops bs ord E p i o b)(hb:¬fz ord f p){v:V}{c:Value}{π2:Pl}{w2:World}
  (hv:(f (p+1)).fr={(f p).fr with tm:=dx (f p).fr.tm o.dst v}) (hk:a9 (ie S ord f E) π2 π1)
  (hg:j5 ρ S π0 st.h w (Ext (ie S ord f E) (f p).st.n (f (p+1)).st.n) π2 (xV ops bs ord f (fun q=>E q∨q=p) t) w2)
  (hc:∀ i o,Dq ops bs ord f (fun q=>E q∨q=p) i o∨FE ord f (fun q=>E q∨q=p) i o→(f t).st.h.get i=none)
  (hs:n6 ρ (Ext (ie S ord f E) (f p).st.n (f (p+1)).st.n) π2 v c):Inv ρ ops bs ord f S π0 fr st w (fun q=>E q∨q=p) t π2 (a1.put o.dst c) w2:=by
 have hids:=GM (S:=S) (ord:=ord) (f:=f) (E:=E) X.pos.lt
 refine⟨I.tle,fun q hq=>hq.elim (I.lt q) fun e=>e▸X.pos.lt,fun r hr=>?_,?_,by rw [hids];exact hg,hc,?_⟩
 ·rw [←I.stage r hr]
  exact⟨fun h=>h.elim id fun e=>absurd (e▸hr) hb,.inl⟩
 ·rintro r j x c (hr | rfl) hpos q g hq hbit
  ·exact .inl (I.closed r j x c hr hpos q g hq hbit)
  ·obtain⟨_,_,rfl⟩:=X.pos.uniq hpos
   exact .inl (X.ready q g hq hbit)
 ·rw [hids,R.tr.OG X.pos hv]
  exact (I.fr.known hk fun i hi=>.inl hi).put hs
theorem Inv.guard(R:qW P cx slf ρ ops bs ord f S π0 fr st w a)(I:Inv ρ ops bs ord f S π0 fr st w E t π1 a1 w1)(X:Nxt ops bs ord E p i o b):∀ d∈kz ops.toList o,∃ π,a1.tmps[d]?=((f p).fr.tm[d]?).map (V.ae ρ π):=by
 intro d hd
 obtain⟨tc,h1,h2,_⟩:=I.fr
 refine⟨π1,?_⟩
 rw [←(R.tr.Lt X.pos X.new I.closed X.ready).2 d hd,h1,List.getElem?_toArray,←h2 π1 fun _ _=>rfl,bk]
theorem Inv.ev(R:qW P cx slf ρ ops bs ord f S π0 fr st w a)(I:Inv ρ ops bs ord f S π0 fr st w E t π1 a1 w1)(X:Nxt ops bs ord E p i o b)(st1:St):dW cx (f p).fr.tm st1 o=dW cx (FI ops ord f E) st1 o:=
 Lp (fun x hx=>((R.tr.Lt X.pos X.new I.closed X.ready).1 x hx).1) fun x hx=>((R.tr.Lt X.pos X.new I.closed X.ready).1 x hx).2
theorem Inv.Nu(R:qW P cx slf ρ ops bs ord f S π0 fr st w a)(I:Inv ρ ops bs ord f S π0 fr st w E t π1 a1 w1):BE cx (ie S ord f E) π1:=R.here.glob.go I.gg.known I.gg.mono
theorem Inv.op(R:qW P cx slf ρ ops bs ord f S π0 fr st w a)(I:Inv ρ ops bs ord f S π0 fr st w E t π1 a1 w1)(X:Nxt ops bs ord E p i o b){st1 st2:St}{r:OR}(hv:∀ i o,st1.h.get i=some o→xV ops bs ord f E t i o)
  (hpc:av ρ st1.pc) (h:(dW cx (f p).fr.tm st1 o).ai ρ=some (r,st2)) (hf:yG (ie S ord f E) st1.n st2.n):
  av ρ st2.pc∧∃ π2 w2,cS ρ (ie S ord f E) π1 st1.h w1 st1.n π2 st2.h w2 st2.n∧aec P ρ (Ext (ie S ord f E) st1.n st2.n) π2 w1 ((execOp a1.eval o).run P w1) w2 r:=by
 obtain⟨tc,h1,h2,_⟩:=I.fr
 rw [Inv.ev R I X] at h
 exact NV R.tt R.ft (I.gg.view hv) (Inv.Nu R I) h2 h1 hpc h hf
theorem xV.plain(R:qW P cx slf ρ ops bs ord f S π0 fr st w a)(X:Nxt ops bs ord E p i o b) (hm:(f (p+1)).mm=(f p).mm) (hs:∀ s:Sm,(f (p+1)).sm≠s::(f p).sm):
  (∀ i o,xV ops bs ord f (fun q=>E q∨q=p) t i o→xV ops bs ord f E t i o) ∧
  (∀ i o,Dq ops bs ord f (fun q=>E q∨q=p) i o∨FE ord f (fun q=>E q∨q=p) i o→Dq ops bs ord f E i o∨FE ord f E i o):=by
 have key:∀ i o,Dq ops bs ord f (fun q=>E q∨q=p) i o∨FE ord f (fun q=>E q∨q=p) i o→Dq ops bs ord f E i o∨FE ord f E i o:=by
  rintro i o (h | h)
  ·exact .inl (h.less (fun _=>Iff.rfl) hs)
  ·exact .inr (h.less R.tr R.mm0 X.pos hm)
 refine⟨fun i o h=>?_,key⟩
 rcases h with h | h
 ·exact .inl h
 ·exact .inr (key i o h)
theorem rh{l:List Sm}(s:Sm):l≠s::l:=fun e=>by have:=congrArg List.length e;simp at this
theorem Ad (h:(f (p+1)).bigs=(f p).bigs):¬fz ord f p:=fun⟨g,_,hg⟩=>by
 rw [h] at hg
 have:=congrArg List.length hg
 simp at this
theorem oy{K:Act→World→Prop}{w2:World}{c:Value} (hw:Region.wanted o (yielded ops a1.tmps)=true) (hd:∀ c,o.op≠.defer c) (e:(execOp a1.eval o).run P w1=.ok (.value c) w2) (h:K (a1.put o.dst c) w2):md P ops o a1 w1 K:=
 .inr ⟨hw,hd,.inl ⟨c,w2,e,h⟩⟩
end
end Go.Proofs.YtmickljjofbmiaaGreatDoor
namespace Go.Proofs.YtmickljjofbmiaaGreatDoor
open Go
section
variable {P:Program} {cx:Cx} {slf:Self} {ρ:Env} {ops:Array Oper} {bs ord:List Nat} {f:Nat→RS} {S:Nat→Prop} {π0:Pl} {fr:Fr} {st:St} {w:World} {a:Act}
 {E:Nat→Prop} {t:Nat} {π1:Pl} {a1:Act} {w1:World} {p i:Nat} {o:Oper} {b:Nat}
def sE(ρ:Env)(ops:Array Oper)(bs ord:List Nat)(f:Nat→RS)(S:Nat→Prop)(π0:Pl)(fr:Fr)(st:St)(w:World)(E:Nat→Prop)(p:Nat)(a':Act)(w':World):Prop:=
 av ρ (f (p+1)).st.pc∧∃ t' π',Inv ρ ops bs ord f S π0 fr st w (fun q=>E q∨q=p) t' π' a' w'
theorem step_skip(R:qW P cx slf ρ ops bs ord f S π0 fr st w a)(I:Inv ρ ops bs ord f S π0 fr st w E t π1 a1 w1)(X:Nxt ops bs ord E p i o b) (hpc:av ρ (f p).st.pc) {st1:St} (hw:WantF ρ ops o (f p) st1 false)
  (hd:f (p+1)={f p with st:=st1,fr:={(f p).fr with tm:=dx (f p).fr.tm o.dst .undef}}):md P ops o a1 w1 (sE ρ ops bs ord f S π0 fr st w E p):=by
 obtain⟨h1,h2⟩:=hw.pc hpc
 refine .inl ⟨h2 _ (I.guard R X),?_,t,π1,?_⟩
 ·rw [hd];exact h1
 ·have hm:(f (p+1)).mm=(f p).mm:=by rw [hd]
  have hs:∀ s:Sm,(f (p+1)).sm≠s::(f p).sm:=by rw [hd];exact rh
  have hb:(f (p+1)).bigs=(f p).bigs:=by rw [hd]
  have hn:(f (p+1)).st.n=(f p).st.n:=by rw [hd];exact hw.n
  obtain⟨k1,k2⟩:=xV.plain (E:=E) (t:=t) R X hm hs
  refine I.next R X (Ad hb) (v:=.undef) (by rw [hd]) (fun _ _=>rfl) ?_ (fun i o h=>I.clear i o (k2 i o h)) iB
  rw [hn,Ext.dM]
  exact I.gg.less k1
theorem mB:∀ i o,(T.nil:H).get i=some o→xV ops bs ord f E t i o:=fun i o h=>by rw [T.get_nil] at h;simp at h
theorem Qk(R:qW P cx slf ρ ops bs ord f S π0 fr st w a)(I:Inv ρ ops bs ord f S π0 fr st w E t π1 a1 w1)(X:Nxt ops bs ord E p i o b) (hpc:av ρ (f p).st.pc) {st1:St} (hw:WantF ρ ops o (f p) st1 true) {v:V} {st':St}
  (h:(dW cx (f p).fr.tm {st1 with h:=T.nil} o).ai ρ=some (.val v,st'))
  (hd:f (p+1)={f p with st:={st' with h:=st1.h},fr:={(f p).fr with tm:=dx (f p).fr.tm o.dst v}}):md P ops o a1 w1 (sE ρ ops bs ord f S π0 fr st w E p):=by
 obtain⟨h1,h2⟩:=hw.pc hpc
 have hn:(f (p+1)).st.n=st'.n:=by rw [hd]
 have hf:=R.tr.fresh (E:=E) R.n0 X.pos.lt X.new
 rw [hn,←hw.n] at hf
 obtain⟨hpc2,π2,w2,g,hbk⟩:=I.op R X (st1:={st1 with h:=T.nil}) mB h1 h hf
 obtain⟨c,e,hs⟩:=hbk
 refine oy (h2 _ (I.guard R X)) (fy h (by simp)) e ⟨by rw [hd];exact hpc2,t,π2,?_⟩
 have hm:(f (p+1)).mm=(f p).mm:=by rw [hd]
 have hsm:∀ s:Sm,(f (p+1)).sm≠s::(f p).sm:=by rw [hd];exact rh
 obtain⟨k1,k2⟩:=xV.plain (E:=E) (t:=t) R X hm hsm
 have g':=I.gg.frame (G':=xV ops bs ord f (fun q=>E q∨q=p) t) mB g fun i o hi=>.inr ⟨k1 i o hi,T.get_nil i⟩
 refine I.next R X (Ad (by rw [hd])) (v:=v) (by rw [hd]) g.known ?_ (fun i o h=>I.clear i o (k2 i o h)) ?_
 ·rw [hn,←hw.n];exact g'
 ·rw [hn,←hw.n];exact hs
theorem MK(R:qW P cx slf ρ ops bs ord f S π0 fr st w a)(I:Inv ρ ops bs ord f S π0 fr st w E t π1 a1 w1)(X:Nxt ops bs ord E p i o b) (hpc:av ρ (f p).st.pc) {st1:St} (hw:WantF ρ ops o (f p) st1 true) {v:V} {st':St}
  (h:(dW cx (f p).fr.tm {st1 with h:=T.nil} o).ai ρ=some (.val v,st'))
  (hd:f (p+1)={f p with st:={st' with h:=st1.h},sm:=CC i st'.h st1.n++(f p).sm,fr:={(f p).fr with tm:=dx (f p).fr.tm o.dst v}}):md P ops o a1 w1 (sE ρ ops bs ord f S π0 fr st w E p):=by
 obtain⟨h1,h2⟩:=hw.pc hpc
 have hn:(f (p+1)).st.n=st'.n:=by rw [hd]
 have hf:=R.tr.fresh (E:=E) R.n0 X.pos.lt X.new
 have hf0:=hf
 rw [hn,←hw.n] at hf
 obtain⟨hpc2,π2,w2,g,hbk⟩:=I.op R X (st1:={st1 with h:=T.nil}) mB h1 h hf
 obtain⟨c,e,hs⟩:=hbk
 refine oy (h2 _ (I.guard R X)) (fy h (by simp)) e ⟨by rw [hd];exact hpc2,t,π2,?_⟩
 have hm:(f (p+1)).mm=(f p).mm:=by rw [hd]
 -- what is new
 have hnew:∀ j x,Dq ops bs ord f (fun q=>E q∨q=p) j x→Dq ops bs ord f E j x∨(st'.h.get j=some x∧j=(f p).st.n∧(f p).st.n<(f (p+1)).st.n):=by
  rintro j x ⟨q,s,b1 | rfl,b2,b3,b4,b5⟩
  ·exact .inl ⟨q,s,b1,b2,fun r j x b hr=>b3 r j x b (.inl hr),b4,b5⟩
  ·refine .inr ⟨?_,by rw [b4,b2.id],b2.wide⟩
   have hmd:=b2.made
   rw [hd] at hmd
   simp only [CC] at hmd
   split at hmd
   ·rename_i ob hob
    split at hmd
    ·exact absurd hmd (rh s)
    injection hmd with hmd
    rw [b4,b5,←hmd]
    exact hob
   ·exact absurd hmd (rh s)
 have hmm:∀ j x,FE ord f (fun q=>E q∨q=p) j x→FE ord f E j x:=fun j x h=>h.less R.tr R.mm0 X.pos hm
 have g':=I.gg.frame (G':=xV ops bs ord f (fun q=>E q∨q=p) t) mB g fun j x hj=>by
  rcases hj with hj | hj | hj
  ·exact .inr ⟨.inl hj,T.get_nil j⟩
  ·rcases hnew j x hj with hj | ⟨hj,_⟩
   ·exact .inr ⟨.inr (.inl hj),T.get_nil j⟩
   ·exact .inl hj
  ·exact .inr ⟨.inr (.inr (hmm j x hj)),T.get_nil j⟩
 refine I.next R X (Ad (by rw [hd])) (v:=v) (by rw [hd]) g.known ?_ ?_ ?_
 ·rw [hn,←hw.n];exact g'
 ·rintro j x (hj | hj)
  ·rcases hnew j x hj with hj | ⟨_,hj,hlt⟩
   ·exact I.clear j x (.inl hj)
   ·cases hg:(f t).st.h.get j with
    | none=>rfl
    | some y=>exact absurd (I.gg.dom j y (.inl hg)) (hf0 j (by omega) (by omega))
  ·exact I.clear j x (.inr (hmm j x hj))
 ·rw [hn,←hw.n];exact hs
theorem step_map(R:qW P cx slf ρ ops bs ord f S π0 fr st w a)(I:Inv ρ ops bs ord f S π0 fr st w E t π1 a1 w1)(X:Nxt ops bs ord E p i o b) (hpc:av ρ (f p).st.pc) {st1:St} (hw:WantF ρ ops o (f p) st1 true) {v:V} {st':St}
  (h:(dW cx (f p).fr.tm {st1 with h:=T.nil} o).ai ρ=some (.val v,st')) (hh:st'.h.get st1.n=some (.map [])) (hlt:st1.n<st'.n) (hmm0:(f p).mm=none)
  (hd:f (p+1)={f p with st:={st' with h:=st1.h},mm:=some {owner:=i,id:=st1.n,ins:=[]},fr:={(f p).fr with tm:=dx (f p).fr.tm o.dst v}}):md P ops o a1 w1 (sE ρ ops bs ord f S π0 fr st w E p):=by
 obtain⟨h1,h2⟩:=hw.pc hpc
 have hn:(f (p+1)).st.n=st'.n:=by rw [hd]
 have hf:=R.tr.fresh (E:=E) R.n0 X.pos.lt X.new
 have hf0:=hf
 rw [hn,←hw.n] at hf
 obtain⟨hpc2,π2,w2,g,hbk⟩:=I.op R X (st1:={st1 with h:=T.nil}) mB h1 h hf
 obtain⟨c,e,hs⟩:=hbk
 refine oy (h2 _ (I.guard R X)) (fy h (by simp)) e ⟨by rw [hd];exact hpc2,t,π2,?_⟩
 have hsm:∀ s:Sm,(f (p+1)).sm≠s::(f p).sm:=by rw [hd];exact rh
 have hnew:∀ j x,FE ord f (fun q=>E q∨q=p) j x→st'.h.get j=some x∧j=st1.n:=by
  rintro j x ⟨q,m,b1,b2,b3,b4,b5⟩
  -- the map at the end is this one
  obtain⟨new,c1,_⟩:=R.tr.ym (p:=p+1) (m:={owner:=i,id:=st1.n,ins:=[]}) (by rw [hd]) (q:=ord.length) X.pos.lt (Nat.le_refl _)
  rw [b2] at c1
  injection c1 with c1
  have hid:m.id=st1.n:=by rw [c1]
  have how:m.owner=i:=by rw [c1]
  refine⟨?_,by rw [b4,hid]⟩
  have hins:eR ord (fun q=>E q∨q=p) m.ins=[]:=by
   apply List.eq_nil_iff_forall_not_mem.2
   intro y hy
   obtain⟨hy,r,hr,hry⟩:=GN.1 hy
   have hrl:r<ord.length:=(List.getElem?_eq_some_iff.1 hry).1
   obtain⟨j',o',b',hpos,_⟩:=R.tr.pos hrl
   have ej:y.1=j':=by have:=hry.symm.trans hpos.ix;simpa using this
   obtain⟨mk,kv,xv,d1,d2,d3⟩:=R.tr.aeG R.mm0 b2 hy hpos ej
   rcases hr with hr | rfl
   ·rw [how] at d3
    exact X.new (I.closed r j' o' b' hr hpos p i X.pos.ix d3)
   ·rw [hmm0] at d1
    simp at d1
  rw [b4,b5,hid,hins]
  exact hh
 have hsg:∀ j x,Dq ops bs ord f (fun q=>E q∨q=p) j x→Dq ops bs ord f E j x:=fun j x h=>h.less (fun _=>Iff.rfl) hsm
 have g':=I.gg.frame (G':=xV ops bs ord f (fun q=>E q∨q=p) t) mB g fun j x hj=>by
  rcases hj with hj | hj | hj
  ·exact .inr ⟨.inl hj,T.get_nil j⟩
  ·exact .inr ⟨.inr (.inl (hsg j x hj)),T.get_nil j⟩
  ·exact .inl (hnew j x hj).1
 refine I.next R X (Ad (by rw [hd])) (v:=v) (by rw [hd]) g.known ?_ ?_ ?_
 ·rw [hn,←hw.n];exact g'
 ·rintro j x (hj | hj)
  ·exact I.clear j x (.inl (hsg j x hj))
  ·have hj':=(hnew j x hj).2
   cases hg:(f t).st.h.get j with
   | none=>rfl
   | some y=>exact absurd (I.gg.dom j y (.inl hg)) (hf0 j (by rw [hj',hw.n];exact Nat.le_refl _) (by rw [hj',hn];exact hlt))
 ·rw [hn,←hw.n];exact hs
end
end Go.Proofs.YtmickljjofbmiaaGreatDoor
