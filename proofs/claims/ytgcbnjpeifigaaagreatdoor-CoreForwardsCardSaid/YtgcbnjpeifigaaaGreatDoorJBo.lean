/- CorePlay: what the tables of a round stand for: the hart, its word, the access, what each answer makes of it. CorePlay: a call is told by its contract's tree, where a ring is what the contract's ring is. No condition. -/
import Derived.Test.YtgcbnjpeifigaaaGreatDoorAStep
import Derived.Test.YtgcbnjpeifigaaaGreatDoorFwH
import Derived.Test.YtgcbnjpeifigaaaGreatDoorJLm
import Derived.Test.YtgcbnjpeifigaaaGreatDoorJSi
import Derived.Test.YtgcbnjpeifigaaaGreatDoorJLp
import Derived.Test.YtgcbnjpeifigaaaGreatDoorABits
namespace Go.Proofs.YtgcbnjpeifigaaaGreatDoor
open Go Go.Proofs
def gM.cell(h:gM):Nat->Int
 |0=>h.id
 |1=>h.pc
 |i+2=>if i<32 then(h.regs[i]?).getD 0 else h.cause
def Acc.cell(a:Acc):Nat->Int
 |0=>a.k
 |1=>a.ad
 |2=>a.w
 |3=>a.v
 |4=>a.op
 |5=>bp a.aq
 |_=>bp a.rl
def M9.cell(c:M9):Nat->Int
 |0=>c.pc
 |1=>c.word
 |2=>c.x
 |3=>bp c.ok
 |4=>c.rd
 |5=>c.val
 |_=>c.cause
theorem Rt(z:Int):IntKind.u8.wrap z=z % 256:=rfl
theorem Rr(z:Int):IntKind.u32.wrap z=z % 4294967296:=rfl
section
variable {ρ:Env}
theorem YP(f i:Nat):(tc f i).den ρ=ρ.f1 (300+f) i:=rfl
theorem yQ{x:X}{b:Bool}(hx:x.den ρ=bp b):(X.eq x (.lit 1)).tt ρ=b:=by
 rw[bZ,hx];cases b<;>rfl
theorem rX(π:Pl)(g:Nat->X)(r:List V):∀ (n j:Nat),V.ae ρ π (S5 g j n r)=((List.range' j n).map fun i=>Value.int .u32 ((g i).den ρ))++V.ae ρ π r
 |0,j=>rfl
 |n+1,j=>by
  rw[S5,List.range'_succ,List.map_cons,List.cons_append,<-rX π g r n (j+1)];rfl
theorem gM.aaX{h:gM}(hk:h.Ok):h.c=.int .i64 h.id::(((List.range' 1 33).map fun i=>Value.int .u32 (h.cell i))++[.int .i64 (h.cell 34)]):=by
 unfold gM.c;have e:(List.range' 1 33).map (fun i=>Value.int .u32 (h.cell i))=.int .u32 h.pc::h.regs.map (Value.int .u32):=by
  rw[List.range'_succ,List.map_cons];congr 1;refine List.ext_getElem (by simp[hk.len]) fun i h1 h2=>?_
  simp only[qz9,List.getElem_range'];simp only[qz8]at h2;have:1+1+1*i=i+2:=by omega
  rw[this];show Value.int .u32 (if i<32 then(h.regs[i]?).getD 0 else h.cause)=_;rw[if_pos (by rw[hk.len]at h2;exact h2),qq0 h2];rfl
 rw[e];rfl
theorem Br{g:Nat->X}{h:gM}(hk:h.Ok)(hid:ρ.v 42=h.id) (hg:∀ i,1<=i->i<=34->(g i).den ρ=h.cell i) (π:Pl):(PY g).ab ρ π=.agg h.c.toArray:=by
 unfold PY Bs;rw[gM.aaX hk];simp only[V.ab,V.ae,i64,rX];rw[show(X.var 42).den ρ=h.id from hid,hg 34 (by omega) (by omega)];have e:(List.range' 1 33).map (fun i=>Value.int .u32 ((g i).den ρ))=(List.range' 1 33).map fun i=>Value.int .u32 (h.cell i):=by
  refine qz5 fun i hi=>?_
  obtain⟨j,h1,h2⟩:=List.mem_range'.1 hi;rw[hg i (by omega) (by omega)]
 rw[e]
theorem lu{α:Type}{c:X}{t f:R α}(h:c.tt ρ=true):(R.br c t f).ag ρ=t.ag ρ:=by
 rw[R.ag,if_pos h]
theorem eQ{α:Type}{c:X}{t f:R α}(h:c.tt ρ=false):(R.br c t f).ag ρ=f.ag ρ:=by
 rw[R.ag,if_neg (by rw[h];decide)]
theorem Rw{x:X}{z:Int}(h:x.den ρ=z)(hz:0<=z/\z<=4294967295):(nq x).den ρ=z:=by
 unfold nq;rw[X.den,h];exact bV (by simp only[m5];omega) (by simp only[nF];omega)
theorem bN{a b:X}:(X.lt a b).tt ρ=decide (a.den ρ<b.den ρ):=by rw [X.tt,X.den,da]
theorem cT{a b:X}:(X.le a b).tt ρ=decide (a.den ρ<=b.den ρ):=by rw [X.tt,X.den,da]
end
instance:Nonempty Acc:=⟨⟨0,0,0,0,0,false,false⟩⟩
instance:Nonempty gM:=⟨⟨0,0,[],0⟩⟩
instance:Nonempty M9:=⟨⟨0,0,0,false,0,0,0⟩⟩
theorem Acc.aoW{a b:Acc}(h:a.c=b.c):a=b:=by
 obtain⟨k,ad,w,v,op,aq,rl⟩:=a;obtain⟨k',ad',w',v',op',aq',rl'⟩:=b;simp only[Acc.c,List.cons.injEq,Value.int.injEq,Value.bool.injEq,true_and,and_true,Int.natCast_inj]at h;obtain⟨h1,h2,h3,h4,h5,h6,h7⟩:=h;subst h1 h2 h3 h4 h5 h6 h7;rfl
structure HW where
 ro:Nat->Obj
 h:gM
 w:Nat
section
variable (d:HW)
noncomputable def wI:Acc×Int:=Classical.epsilon fun q=>bI Tryz.prog aj 7 100000 d.ro 41 [.agg d.h.c.toArray,.int .u32 d.w,.int .i64 16] (.tuple #[.agg q.1.c.toArray,.int .i64 q.2,.int .i64 0])
noncomputable def se(x:Int)(ok:Bool):gM×M9:=Classical.epsilon fun q=>StepIs d.ro d.h d.w 16 x ok (wI d).1 (wI d).2 q.1 q.2
noncomputable def acc:Acc:=(wI d).1
noncomputable def zt(x:Int):Int×Int:=Classical.epsilon fun q=>bI Tryz.prog aj 7 100000 d.ro 132 [.int .i64 (acc d).op,.int .u32 x,.int .u32 (acc d).v] (.tuple #[.int .u32 q.1,.int .i64 q.2])/\((acc d).k=5->bI Tryz.prog aj 7 100000 d.ro 106 [.int .i64 (acc d).op,.int .u32 x,.int .u32 (acc d).v] (.int .u32 q.1))/\0<=q.1/\q.1<=4294967295
end
structure HW.Ok (d:HW):Prop where
 h:d.h.Ok
 w:d.w<4294967296
section
variable {W:World} {d:HW} (hro:aZ d.ro) (hW:∀ x∈aj,W.heap[x.1]?=some (d.ro x.1))
include hro hW
omit hro in
theorem bI.det{m m':Nat}{f:FuncId}{fn:Func} (hfn:Tryz.prog.funcs[f]?=some fn) (hi:Tryz.prog.inits.idxOf? f=none) {a:List Value} {v1 v2:Value} (h1:bI Tryz.prog aj 7 m d.ro f a v1) (h2:bI Tryz.prog aj 7 m' d.ro f a v2):v1=v2:=by
 have go:∀ {m:Nat} {v:Value},bI Tryz.prog aj 7 m d.ro f a v->Calls Tryz.prog f a.toArray W fun e _=>e=.returned v:=by
  intro m v h;obtain⟨c,N,ρ,pc0,x,u,st',e1,e2,e3,e4,e5,e6,e7,e8,e9,e10,e11,e12,e13⟩:=h.is;have h0:=(uN (cx0:=c) (π0:=πStart) (w:=W) e4 dS e6 (fun _ _=>rfl) (by rw[e5];exact hW)).iw (st1:={sk aj 7 with pc:=pc0}) ⟨rfl,rfl,e7⟩;refine callsIn_wide.1 (((sD bG e2 e3 e1 N).2.2 f x _ _ e8 _ πStart W _ 0 h0 (fun π _=>e13 π) ⟨fn,hfn⟩).mono fun e w' hp=>?_);obtain⟨_,π1,_,c',hc',hv⟩:=hp;rw[hc',<-hv π1 (fun _ _=>rfl),e11]
 exact RQ hi (go h1) (go h2)
theorem sT(hd:d.Ok)(hc:d.h.cause=0){x:Int}{ok:Bool}(hx:0<=x/\x<=4294967295):StepIs d.ro d.h d.w 16 x ok (acc d) (wI d).2 (se d x ok).1 (se d x ok).2:=by
 obtain⟨a,w,k,c,h⟩:=acK hro hW hd.h hc hd.w (size:=16) (ok:=ok) hx;have h1:bI Tryz.prog aj 7 100000 d.ro 41 [.agg d.h.c.toArray,.int .u32 d.w,.int .i64 16] (.tuple #[.agg (wI d).1.c.toArray,.int .i64 (wI d).2,.int .i64 0]):=
  Classical.epsilon_spec (p:=fun q:Acc×Int=>bI Tryz.prog aj 7 100000 d.ro 41 [.agg d.h.c.toArray,.int .u32 d.w,.int .i64 16] (.tuple #[.agg q.1.c.toArray,.int .i64 q.2,.int .i64 0])) ⟨(a,w),h.act⟩
 have e:=bI.det hW Tryz.func41 (by kernel_rfl) h1 h.act;injection e with e;have e:=congrArg Array.toList e;simp only[List.cons.injEq,and_true]at e;obtain⟨e1,e2⟩:=e;injection e1 with e1;have e1:=congrArg Array.toList e1;injection e2 with _ e2;have ea:(wI d).1=a:=Acc.aoW e1;have key:∃ q:gM×M9,StepIs d.ro d.h d.w 16 x ok (wI d).1 (wI d).2 q.1 q.2:=⟨(k,c),by rw[ea,e2];exact h⟩
 exact Classical.epsilon_spec key
theorem cC(hd:d.Ok)(hc:d.h.cause=0):(acc d).Ok 16:=(sT hro hW hd hc (x:=0) (ok:=false) (by omega)).acc
theorem Us(hd:d.Ok)(hc:d.h.cause=0){x:Int}(hx:0<=x/\x<=4294967295):bI Tryz.prog aj 7 100000 d.ro 132 [.int .i64 (acc d).op,.int .u32 x,.int .u32 (acc d).v] (.tuple #[.int .u32 (zt d x).1,.int .i64 (zt d x).2])/\((acc d).k=5->bI Tryz.prog aj 7 100000 d.ro 106 [.int .i64 (acc d).op,.int .u32 x,.int .u32 (acc d).v] (.int .u32 (zt d x).1))/\0<=(zt d x).1/\(zt d x).1<=4294967295:=by
 have ha:=cC hro hW hd hc;obtain⟨n,e,r,h1,h2,h3,h4,h5⟩:=ajD hro hW (op:=(acc d).op) (a:=x) (b:=(acc d).v) (by
  by_cases h:(acc d).k=5
  ·exact .inr (ha.amo h)
  ·exact .inl (ha.op h)) hx ha.v
 exact Classical.epsilon_spec (p:=fun q:Int×Int=>bI Tryz.prog aj 7 100000 d.ro 132 [.int .i64 (acc d).op,.int .u32 x,.int .u32 (acc d).v] (.tuple #[.int .u32 q.1,.int .i64 q.2])/\((acc d).k=5->bI Tryz.prog aj 7 100000 d.ro 106 [.int .i64 (acc d).op,.int .u32 x,.int .u32 (acc d).v] (.int .u32 q.1))/\0<=q.1/\q.1<=4294967295)
  ⟨(n,e),h1,fun hk=>by rw[<-h3 (by have:=ha.amo hk;omega)];exact h2,h4⟩
end
open Go.RowKit
noncomputable section
def cxB:Cx:={cx with sx:=true,js:=true}
def eA(c:Cx)(f:FuncId)(p:gk):R Leaf:=sK p ((PL c 4001).call f p.args (p.st aj))
def eI(g:Nat->Bool):List Nat->Bool
 |[]=>true
 |i::l=>match g i with
  |true=>eI g l
  |false=>false
def r4:List Nat:=[0,1,2,3]
def r5:List Nat:=[0,1,2,3,4]
def w3:List Nat:=[1,2,4]
end
theorem a8{g:Nat->Bool}:∀ {l:List Nat},eI g l=true->∀ i∈l,g i=true
 |a::l,h,i,hi=>by
  unfold eI at h;split at h
  ·rename_i h1;rcases List.mem_cons.1 hi with rfl|hi
   ·exact h1
   ·exact a8 h i hi
  ·cases h
theorem fR{f:Nat}(h:f<4):f∈r4:=by
 unfold r4;simp only[List.mem_cons,qk6,or_false];omega
theorem ni{f:Nat}(h:f<=4):f∈r5:=by
 unfold r5;simp only[List.mem_cons,qk6,or_false];omega
theorem Pf{w:Nat}(h:w=1\/w=2\/w=4):w∈w3:=by
 unfold w3;simp only[List.mem_cons,qk6,or_false];omega
theorem EU:∀ {l m:List (Nat×ak)},x7 l m=true->l=m
 |[],[],_=>rfl
 |(i,a)::l,(j,b)::m,h=>by
  unfold x7 at h;split at h
  ·rename_i h1 h2;rw[qqq h1,ak.beq_eq h2,EU h]
  ·cases h
 |[],_::_,h=>by simp[x7]at h
 |_::_,[],h=>by simp[x7]at h
theorem g9{ρ:Env}{mb:Nat} {os:List (Nat×ak)} {v:V}:∀ {r:R Leaf} {t:R V},jE mb os r t=true->t.ag ρ=some v->∃ lf,r.ag ρ=some lf/\lf.v=v/\lf.objs=os/\lf.n<=100+mb
 |.ok lf,t,h,hs=>by
  unfold jE at h;split at h
  ·simp only[R.ag,qqk]at hs;subst hs;unfold VS at h;obtain⟨h1,h2,h3,_⟩:=ar h;exact⟨lf,rfl,V.beq_eq _ _ h1,EU h2,qqx h3⟩
  ·cases h
 |.br c a b,t,h,hs=>by
  unfold jE at h;split at h
  ·split at h
   ·rename_i hc;obtain rfl:=X.beq_eq hc;split at h
    ·rename_i h1;simp only[R.ag]at hs ⊢;split at hs
     ·rename_i hcc;rw[if_pos hcc];exact g9 h1 hs
     ·rename_i hcc;rw[if_neg hcc];exact g9 h hs
    ·cases h
   ·cases h
  ·cases h
 |.stuck _,t,h,hs=>by simp[jE]at h
theorem jG{ρ1 ρ2:Env}{π1 π2:Pl}{i j:Nat}{c1 c2:List V}{e:TypeId}{w:Option Nat}{ob:Obj} (h:(ak.cells c1 e w).is ρ1 π1 i ob) (hc:V.ae ρ1 π1 c1=V.ae ρ2 π2 c2) (hπ:(π1 i).2=(π2 j).2):(ak.cells c2 e w).is ρ2 π2 j ob:=by
 obtain⟨sp,h1,h2⟩:=h;refine⟨sp,by rw[<-hc];exact h1,?_⟩;have:c2.length=c1.length:=by rw[<-au ρ2 π2 c2,<-hc,au]
 rw[this,<-hπ];exact h2
section
variable {ρ:Env}
theorem ai.app{a b:PC}(h1:ai ρ a)(h2:ai ρ b):ai ρ (a++b):=fun f hf=>(qzz.1 hf).elim (h1 f) (h2 f)
theorem ai.gw{f:X×Bool}{b:PC}(h1:f.1.tt ρ=f.2)(h2:ai ρ b):ai ρ (f::b):=fun g hg=>(List.mem_cons.1 hg).elim (fun e=>e▸h1) (h2 g)
theorem ai.eL:ai ρ []:=fun f hf=>by cases hf
end
section
variable {cx cx0:Cx} {ρ ρ':Env} {S:Nat→Prop} {π0:Pl} {st:St} {w:World}
theorem tV{mb:Nat}(hng:cx.ng=7)(htt:nu Tryz.prog cx0.tt)(hft:sl Tryz.prog cx0.ft)(hng0:cx0.ng=7)(hsm:SumOk Tryz.prog cx0 ρ')(hr:ρ'.ro=ρ.ro)(hro:aZ ρ'.ro){f:FuncId}{fn:Func} (hfn:Tryz.prog.funcs[f]?=some fn) {us:List (Nat×V)} {p:gk} {r:List (Nat×Nat)} {args:List V} (hn:p.n=100)
  (T:SiteAt aj 7 ρ ρ' us p r args st π0 w) (hargs:∀ π,V.ae ρ π args=V.ae ρ' (fw us (eD r) ρ π) p.args) {os:List (Nat×ak)} {t:R V} (hk:jE mb os (eA cx0 f p) t=true) {v0 tv:V} {h':H} (hsel:t.ag ρ'=some v0)
  (hv:∀ π,tv.ab ρ π=v0.ab ρ' (fw us (rn r st.n 100) ρ π))
  (hget:∀ j o',h'.get j=some o'->(∃ i o,(i,o)∈os/\jt us i=none/\rn r st.n 100 i=j/\∀ π ob,o.is ρ' (fw us (rn r st.n 100) ρ π) i ob->o'.is ρ π j ob)\/(st.h.get j=some o'/\∀ i∈dE p.items,eD r i≠j))
  (hh:b8 cx ρ S π0 st w) {ac:List Value} (ha:bz ρ S π0 args ac) {n:Nat}:CallsIn Fence.wide n Tryz.prog f ac.toArray w (EPost ρ S π0 st w (.ret tv,{h:=h',n:=st.n+mb,pc:=st.pc})):=by
 unfold eA at hk;rw[<-cj]at hk;obtain⟨lf,h1,h2,h3,h4⟩:=g9 hk hsel;have:=yx (cx:=cx) (cx0:=cx0) (ρ:=ρ) (ρ':=ρ') (S:=S) (π0:=π0) (st:=st) (w:=w) (L:=aj) (ng:=7) bG htt hft hsm (fun _ _=>by rw[hr]) hng hng0 dS (hro ρ' rfl) hfn T (hargs π0) h1 (tv:=tv) (h':=h') (m:=100+mb) ⟨fun π=>by rw[h2,hn];exact hv π,fun j o' hj=>by rw[h3,hn];exact hget j o' hj,h4⟩ hh ha (n:=n);rw[hn,qq8]at this;exact this
def E4(rg:Nat->Int)(f n:Int):List Value:=[.int .u32 (rg 0),.int .i64 (rg 1),.int .u32 (rg 2),.int .u32 (rg 3),.int .i64 (rg 4),.int .u32 (rg 5),.int .u32 (rg 6),.int .i64 (rg 7),.int .u32 (rg 8),.int .u32 (rg 9),.int .i64 (rg 10),.int .u32 (rg 11),.int .i64 f,.int .i64 n]
theorem du{π:Pl}{o n:Nat}{rg:Nat->Int} (h:∀ i,i<13->ρ.v (o+i)=rg i):V.ae ρ π (s7 o n)=E4 rg (rg 12) n:=by
 have e:V.ae ρ π (s7 o n)=E4 (fun i=>ρ.v (o+i)) (ρ.v (o+12)) n:=rfl;rw[e];unfold E4;dsimp only;rw[h 0 (by omega),h 1 (by omega),h 2 (by omega),h 3 (by omega),h 4 (by omega),h 5 (by omega),h 6 (by omega),h 7 (by omega),h 8 (by omega),h 9 (by omega),h 10 (by omega),h 11 (by omega),h 12 (by omega)]
theorem tS{π:Pl}{f f' n':Nat}{g:Nat->Nat->List V}{rg:Nat->Int} (h:∀ p,p<4->V.ae ρ π (g ((p+4-f) % 4) p)=[.int .u32 (rg (3*p)),.int .i64 (rg (3*p+1)),.int .u32 (rg (3*p+2))]):V.ae ρ π (Mr f g f' n')=E4 rg f' n':=by
 unfold Mr rG rG rG rG rG;simp only[aW];rw[h 0 (by omega),h (0+1) (by omega),h (0+1+1) (by omega),h (0+1+1+1) (by omega)];rfl
def gq(ρ:Env)(sx rg:Nat->Int)(a vl wd:Int)(hs:Nat->Int):Env:={ρ with v:=fun i=>if i<700 then ρ.v i else if i<712 then sx (i-700)else if i<715 then 0 else if i<727 then rg (i-715)else if i=730 then a else if i=731 then vl else if i=732 then wd else if i<740 then 0 else if i<756 then hs (i-740)else ρ.v i}
section
variable {sx rg hs:Nat→Int} {a vl wd:Int}
theorem RZ{i:Nat}(h:i<700):(gq ρ sx rg a vl wd hs).v i=ρ.v i:=if_pos h
theorem atw{i:Nat}(h:i<12):(gq ρ sx rg a vl wd hs).v (700+i)=sx i:=by
 show(if _ then _ else _)=_;rw[if_neg (by omega),if_pos (by omega),qq8]
theorem atv{i:Nat}(h:i<12):(gq ρ sx rg a vl wd hs).v (715+i)=rg i:=by
 show(if _ then _ else _)=_;rw[if_neg (by omega),if_neg (by omega),if_neg (by omega),if_pos (by omega),qq8]
theorem atu{i:Nat}(h:i<16):(gq ρ sx rg a vl wd hs).v (740+i)=hs i:=by
 show(if _ then _ else _)=_
 iterate 8 rw[if_neg (by omega)]
 rw[if_pos (by omega),qq8]
theorem F7:(gq ρ sx rg a vl wd hs).v 730=a:=rfl
theorem U5:(gq ρ sx rg a vl wd hs).v 731=vl:=rfl
theorem aba:(gq ρ sx rg a vl wd hs).v 732=wd:=rfl
end
structure StsOk (sx:Nat->Int) (n:Nat):Prop where
 a:∀ k,k<n->0<=sx (3*k)/\sx (3*k)<=4294967295
 w:∀ k,k<n->0<=sx (3*k+1)/\sx (3*k+1)<=255
 v:∀ k,k<n->0<=sx (3*k+2)/\sx (3*k+2)<=4294967295
structure RingOk (sx rg:Nat->Int) (f n:Nat):Prop where
 le:n<=4
 fl:f<4
 first:rg 12=f
 ring:∀ k,k<n->∀ c,c<3->rg (3*((f+k) % 4)+c)=sx (3*k+c)
 ok:StsOk sx n
theorem gT{x:X}{z:Int}(h:x.den ρ=z)(hz:0<=z/\z<=4294967295):(nq x).den ρ=z:=by
 unfold nq;rw[X.den,h];exact bV (by simp only[m5];omega) (by simp only[nF];omega)
theorem IZ{x:X}{z:Int}(h:x.den ρ=z)(hz:0<=z/\z<=255):(X.wrap .u8 x).den ρ=z:=by
 rw[X.den,h];exact bV (by simp only[m5];omega) (by simp only[nF];omega)
structure EnvB (ρ':Env) (sx rg:Nat->Int):Prop where
 s:∀ i,i<12->ρ'.v (700+i)=sx i
 r:∀ i,i<12->ρ'.v (715+i)=rg i
theorem ky{sx rg hs:Nat->Int}{a vl wd:Int}:EnvB (gq ρ sx rg a vl wd hs) sx rg:=⟨fun _ h=>atw h,fun _ h=>atv h⟩
section
variable {sx rg:Nat→Int} {f n:Nat}
theorem wF(E:EnvB ρ' sx rg)(h:StsOk sx n)(hn:n<=4){k:Nat}(hk:k<n):(AX k).den ρ'=sx (3*k)   := gT (by rw[<-E.s (3*k) (by omega)];show ρ'.v _=ρ'.v _;congr 1) (h.a k hk)
theorem sS(E:EnvB ρ' sx rg)(h:StsOk sx n)(hn:n<=4){k:Nat}(hk:k<n):(WX k).den ρ'=sx (3*k+1):=IZ (by rw[<-E.s (3*k+1) (by omega)];show ρ'.v _=ρ'.v _;congr 1;omega) (h.w k hk)
theorem Nc(E:EnvB ρ' sx rg)(h:StsOk sx n)(hn:n<=4){k:Nat}(hk:k<n):(VX k).den ρ'=sx (3*k+2)   := gT (by rw[<-E.s (3*k+2) (by omega)];show ρ'.v _=ρ'.v _;congr 1;omega) (h.v k hk)
theorem qR(E:EnvB ρ' sx rg)(h:StsOk sx n)(hn:n<=4){k:Nat}(hk:k<n){π:Pl}:V.ae ρ' π (bS k)=[.int .u32 (sx (3*k)),.int .i64 (sx (3*k+1)),.int .u32 (sx (3*k+2))]:=by
 show[Value.int .u32 ((AX k).den ρ'),.int .i64 ((WX k).den ρ'),.int .u32 ((VX k).den ρ')]=_;rw[wF E h hn hk,sS E h hn hk,Nc E h hn hk]
theorem Zx(E:EnvB ρ' sx rg){p:Nat}(hp:p<4){π:Pl}:V.ae ρ' π (bO p)=[.int .u32 (rg (3*p)),.int .i64 (rg (3*p+1)),.int .u32 (rg (3*p+2))]:=by
 show[Value.int .u32 (ρ'.v (715+3*p)),.int .i64 (ρ'.v (716+3*p)),.int .u32 (ρ'.v (717+3*p))]=_;rw[E.r (3*p) (by omega),show 716+3*p=715+(3*p+1) by omega,E.r (3*p+1) (by omega),show 717+3*p=715+(3*p+2) by omega,E.r (3*p+2) (by omega)]
theorem Gs(E:EnvB ρ' sx rg)(h:RingOk sx rg f n){p:Nat}(hp:p<4){π:Pl}:V.ae ρ' π (gB n ((p+4-f) % 4) p)=[.int .u32 (rg (3*p)),.int .i64 (rg (3*p+1)),.int .u32 (rg (3*p+2))]:=by
 have hf:=h.fl;unfold gB;split
 ·rename_i hb;have hb:=qqx hb;rw[qR E h.ok h.le hb];have e:(f+(p+4-f) % 4) % 4=p:=by omega
  have r0:=h.ring _ hb 0 (by omega);have r1:=h.ring _ hb 1 (by omega);have r2:=h.ring _ hb 2 (by omega);rw[e]at r0 r1 r2;rw[r1,r2,show 3*p=3*p+0 from rfl,r0];rfl
 ·exact Zx E hp
theorem jn(E:EnvB ρ' sx rg)(h:RingOk sx rg f n){π:Pl}:V.ae ρ' π (jZ f n)=E4 rg (rg 12) n:=by
 rw[h.first];exact tS fun p hp=>Gs E h hp
def M8(sx:Nat->Int):Nat->Nat->List Value
 |_,0=>[]
 |k,n+1=>.int .u32 (sx (3*k))::.int .i64 (sx (3*k+1))::.int .u32 (sx (3*k+2))::M8 sx (k+1) n
theorem uq(E:EnvB ρ' sx rg)(h:StsOk sx n)(hn:n<=4){π:Pl}{r:List V}:∀ {m k:Nat},k+m<=n->V.ae ρ' π (UA k m r)=M8 sx k m++V.ae ρ' π r
 |0,k,_=>rfl
 |m+1,k,hk=>by
  show V.ae ρ' π (bS k++UA (k+1) m r)=_;rw[aW,qR E h hn (by omega),uq E h hn (m:=m) (k:=k+1) (by omega)];rfl
end
theorem ank{b i:Nat}(h:i<14):eD [(14,b)] i=i:=by
 unfold eD look;rw[show Nat.beq 14 i=false by
  cases hb:Nat.beq 14 i with
  |false=>rfl
  |true=>have:=qqq hb;omega]
 rfl
theorem nA(hng:cx.ng=7)(htt:nu Tryz.prog cx0.tt)(hft:sl Tryz.prog cx0.ft)(hng0:cx0.ng=7)(hsm:SumOk Tryz.prog cx0 ρ')(hr:ρ'.ro=ρ.ro)(hro:aZ ρ'.ro){f:FuncId}{fn:Func} (hfn:Tryz.prog.funcs[f]?=some fn) {sx rg:Nat->Int} {f0 n0 b:Nat} {args0:List V} {pc0:PC} {args:List V} {c:List V}
  (hb:st.h.get b=some (.cells c im none)) (hc:∀ π,V.ae ρ π c=E4 rg (rg 12) n0) (E:EnvB ρ' sx rg) (hR:RingOk sx rg f0 n0) (hthere:bB aj st.h=true) (hnm:V.gz args0=[]) (hpc:ai ρ' pc0) (hargs:∀ π π',V.ae ρ π args=V.ae ρ' π' args0)
  {ring':List V} {ex:List (Nat×ak)} {t:R V} (hk:cw (oB ring'::ex) (eA cx0 f (pB f0 n0 args0 pc0)) t=true) {v0 tv:V} {h':H} {c':List V} (hsel:t.ag ρ'=some v0) (hv:∀ π,tv.ab ρ π=v0.ab ρ' (fun i=>π (rn [(14,b)] st.n 100 i)))
  (hc':∀ π π',V.ae ρ' π' ring'=V.ae ρ π c')
  (hget:∀ j o',h'.get j=some o'->(j=b/\o'=.cells c' im none)\/(∃ i cc ce e wd,(i,.cells cc e wd)∈ex/\100<=i/\j=i-100+st.n/\o'=.cells ce e wd/\∀ π π',V.ae ρ' π' cc=V.ae ρ π ce)\/(j≠b/\st.h.get j=some o'))
  (hh:b8 cx ρ S π0 st w) {ac:List Value} (ha:bz ρ S π0 (.ptr b 0::args) ac) {n:Nat}:CallsIn Fence.wide n Tryz.prog f ac.toArray w (EPost ρ S π0 st w (.ret tv,{h:=h',n:=st.n+bm,pc:=st.pc})):=by
 have hre:∀ (r:Nat->Nat) (π:Pl),fw [] r ρ π=fun i=>π (r i):=fun r π=>rfl
 refine tV (mb:=bm) (us:=[]) (r:=[(14,b)]) (p:=pB f0 n0 args0 pc0) hng htt hft hng0 hsm hr hro hfn rfl ?_ ?_ hk hsel hv ?_ hh ha
 ·refine⟨by show 7<=100;omega,fun g hg=>⟨ank (by omega),rfl⟩,hthere,(fun i v h=>by cases h),?_,?_,?_,hpc⟩
  ·show dU 7 ([14]++[]) (14::V.gz args0)=true;rw[hnm];rfl
  ·intro i o hi;obtain⟨rfl,rfl⟩:i=14/\o=.cells (jZ f0 n0) im none:=by
    rcases List.mem_cons.1 hi with h|h
    ·injection h with h1 h2;exact⟨h1,h2⟩
    ·cases h
   refine⟨rfl,_,hb,(fun _=>rfl),by show 14<100;omega,?_,fun ob _ ho=>?_⟩
   ·have:∀ f n,f<4->n<=4->dU 7 ([14]++[]) (ak.cells (jZ f n) im none).iB=true:=by
     intro f n hf hn;have h1:eI (fun f=>eI (fun n=>dU 7 ([14]++[]) (ak.cells (jZ f n) im none).iB) r5) r4=true:=by kernel_rfl
     exact a8 (a8 h1 f (fR hf)) n (ni hn)
    exact this _ _ hR.fl hR.le
   ·refine jG ho ?_ ?_
    ·rw[hc,jn E hR]
    ·rfl
  ·intro i o j o' hi hj _;have h1:=qq4.1 hi;have h2:=qq4.1 hj;injection h1 with h1;injection h2 with h2;exact .inl (by rw[h1,h2])
 ·intro π;show Value.pointer (some ⟨(π b).1,0,none⟩)::V.ae ρ π args=Value.pointer (some ⟨(π b).1,0,none⟩)::V.ae ρ' _ args0;rw[hargs]
 ·intro j o' hj;rcases hget j o' hj with⟨rfl,rfl⟩|⟨i,cc,ce,e,wd,hm,h100,rfl,rfl,hcc⟩|⟨hne,hj⟩
  ·exact .inl ⟨14,_,qq1 ..,rfl,rfl,fun π ob ho=>jG ho (hc' _ _) rfl⟩
  ·have hrn:rn [(14,b)] st.n 100 i=i-100+st.n:=by
    unfold rn;rw[show Nat.blt i 100=false by
     cases hb:Nat.blt i 100 with
     |false=>rfl
     |true=>have:=qqx hb;omega]
   refine .inl ⟨i,_,qq3 _ hm,rfl,hrn,fun π ob ho=>jG ho (hcc _ _) ?_⟩;show(π (rn [(14,b)] st.n 100 i)).2=_;rw[hrn]
  ·refine .inr ⟨hj,fun i hi=>?_⟩;have h1:i=14:=qq4.1 hi;rw[h1];exact fun e=>hne e.symm
end
end Go.Proofs.YtgcbnjpeifigaaaGreatDoor
