/- How a law of one answer is told: the heap's start out of what is laid, the end's reading. Summaries in short: rows that are looked at together, lists of summaries. No condition. -/
import Derived.Test.YtgcbnjpeifigaaaGreatDoorJTab
import Derived.Test.YtgcbnjpeifigaaaGreatDoorFwF
import Derived.Test.YtgcbnjpeifigaaaGreatDoorFwU
import Derived.Test.YtgcbnjpeifigaaaGreatDoorFwG
import Derived.Test.YtgcbnjpeifigaaaGreatDoorRows
import Derived.ProofKit
import Derived.LaidMore
import Derived.OpenShut
import Derived.Carry
import Derived.Stop.Joined
import Derived.MakeChecks
namespace Go.Proofs.YtgcbnjpeifigaaaGreatDoor
open Go Go.Proofs Go.ChangeShapes Go.WideShapes Go.RowKit
theorem KX:ownKnob Tryz.prog.godebug=none:=by kernel_rfl
theorem uT:laidOutB Tryz.prog=true:=by kernel_rfl
theorem bG:Tryz.prog.follows .mixedOrders=true:=by kernel_rfl
section
variable {H:Type} {enc:TypeId×Value→H} {P:Program}
theorem Fl(hl:laidOutB P=true){W W':World}(hb:Below W.heap.size W W'):∀ {ts:List TypeId} {vs:List Value} {ds:List (DataW H)} {ps:List MemPlace},(∀ t∈ts,P.readableRec t=true/\t<P.types.size)->
  DataW.TrodAll enc P W 0 (fun _=>true) true ts vs ds ps->(∀ x∈ps,x.block<W.heap.size)->DataW.TrodAll enc P W' 0 (fun b=>decide (b<W.heap.size)) true ts vs ds ps
 |[],_,_,_,_,h,_=>by
  obtain⟨rfl,rfl,rfl⟩:=trodAll_nil h;trivial
 |t::ts,_,_,_,ht,h,hp=>by
  obtain⟨v,vs1,d,ds1,a,b,rfl,rfl,rfl,h1,h2⟩:=trodAll_cons h;exact trodAll_cons_mk (Below.trod hl (ht t (by simp)).1 (ht t (by simp)).2 h1 hb fun x hx=>hp x (by simp [hx])) (Fl hl hb (fun t h=>ht t (by simp [h])) h2 fun x hx=>hp x (by simp [hx]))
theorem MG{f:Func}{s:ChangeSpec}{W W':World}{args:Array Value} {ds gs:List (DataW H)} {before:List MemPlace} {tb:TypeId} (hl:laidOutB P=true) (hts:∀ t∈f.params.toList,P.readableRec t=true/\t<P.types.size)
  (hres:f.resultTypes=#[tb]) (htb:P.underlying tb=some .bool) (hs:s.vars=[]) (hW:DataW.Whole enc P f.params.toList s.vars false W args.toList ds gs before)
  (hfn:s.fn H ds={results:=[.lit (.bool true)],args:=ds}) (hb:Below W.heap.size W W'):s.post enc P f false true false false W args (.bool true) W':=by
 have hW0:=hW;obtain⟨p,q,hA,hV,rfl,hfz,hnd⟩:=hW0;rw[hs]at hV;obtain⟨rfl,rfl⟩:=trodVars_none hV;refine⟨ds,[],p++[],[],p,[],hW,?_,?_,?_,hb.frame _,fun h=>by cases h⟩
 ·rw[qk8,hfn,hres];exact trodAll_mk1 (shut_bool htb _)
 ·rw[qk8,hfn];exact Fl hl hb hts hA fun x hx=>by simpa using hW.lt x (by simp[hx])
 ·rw[qk8,hfn,hs];rfl
theorem anP{t e:TypeId}{k:IntKind}{n fuel:Nat}{cs:List Value}{l:List Int}{w:World}{base:Nat}{spare:Nat->Bool}{held:Bool}{p:List MemPlace} (ht:P.underlying t=some (.array n e)) (he:P.underlying e=some (.int k)) (hc:P.cellsOf e=1) (hct:P.cellsOf t=n) (hn:l.length=n)
  (h:DataW.trod enc P w base spare held fuel t cs=some (.agg (l.map fun i=>.lit (.int k i)),p)):cs=l.map (.int k):=by
 obtain⟨xs,m,_,ex,hlen,hl,hel⟩:=DataW.trod_array ht h;rw[hct]at hlen;simp only[qqv,DataW.agg.injEq]at ex;refine List.ext_getElem? fun i=>?_
 by_cases hi:i<n
 ·have h1:=hel i hi;rw[hc]at h1;have hx:i<xs.length:=by omega
  rw[qq0 hx]at h1;obtain⟨q,e1,e2,_⟩:=DataW.trod_int he h1;have e3:(xs.map (·.1))[i]?=(l.map fun i=>(.lit (.int k i):DataW H))[i]?:=by rw[ex.1]
  rw[qk5,qq0 hx,qk5,qq0 (by omega),e2]at e3;simp only[Option.map_some,qqk,DataW.lit.injEq,Lit.int.injEq,true_and]at e3;have e4:=congrArg (fun l=>l[0]?) e1;simp only[List.getElem?_take,List.getElem?_drop]at e4;simp only[Nat.mul_one,Nat.add_zero,List.getElem?_cons_zero]at e4;have e5:cs[i]?=some (.int k l[i]):=by simpa[e3]using e4
  rw[e5,qk5,qq0 (by omega)];rfl
 ·rw[qkj (by omega),qkj (by simp;omega)]
end
def Uz(i:Nat):Int:=match i with|9=>1|10=>1|11=>1|12=>1|13=>1|32=>1|_=>0
def n3:Nat->List Int
 |0=>[]
 |n+1=>Uz (255-n)::n3 n
def AA:Nat->List V
 |0=>[]
 |n+1=>.int .u8 (.lit (Uz (255-n)))::AA n
theorem dp(ρ:Env)(π:Pl):∀ n,V.ae ρ π (AA n)=(n3 n).map (.int .u8)
 |0=>rfl
 |n+1=>by simp only[AA,n3,V.ae,V.ab,X.den,List.map_cons,dp ρ π n]
def aj:List (Nat×List V):=[(0,AA 256)]
def πStart:Pl:=fun i=>⟨i,0,.nilFunc⟩
theorem dS:∀ x∈aj,x.1<7:=by
 intro x hx;simp only[aj,qq4]at hx;subst hx;show 0<7;omega
theorem amZ:Tryz.prog.globalNamed "strings.asciiSpace" = some 0:=by kernel_rfl
theorem Jp:(Rows.laid_strings_asciiSpace:DataW Unit)=.agg ((n3 256).map fun i=>.lit (.int .u8 i)):=by kernel_rfl
theorem aof:(Tryz.prog.globals[0]?).map (·.type)=some 327:=by kernel_rfl
theorem aoj:Tryz.prog.underlying 327=some (.array 256 5):=by kernel_rfl
theorem arl:Tryz.prog.underlying 5=some (.int .u8):=by kernel_rfl
theorem sq:∀ n,(n3 n).length=n
 |0=>rfl
 |n+1=>by simp[n3,sq n]
theorem Qq{W:World}(h:laidMetH Tryz.prog Rows.corePlayRow.laid W):∃ t fr,W.heap[0]?=some (.cells ((n3 256).map (.int .u8)).toArray t fr):=by
 rw[MakeChecks.laidMetH_plain _ _ _ (by kernel_rfl)]at h;obtain⟨ps,⟨g0,t0,cs0,f0,p0,q0,hg0,ht0,hv0,hd0,⟨g1,t1,cs1,f1,p1,q1,hg1,ht1,hv1,hd1,⟨g2,t2,cs2,f2,p2,q2,hg2,ht2,hv2,hd2,⟨g3,t3,cs3,f3,p3,q3,hg3,ht3,hv3,hd3,⟨g4,t4,cs4,f4,p4,q4,hg4,ht4,hv4,hd4,_,_⟩,_⟩,_⟩,_⟩,_⟩,_,_⟩:=h;obtain rfl:=qqz (amZ.symm.trans hg4);obtain rfl:=qqz (aof.symm.trans ht4);rw[Jp]at hd4;have hcs:=anP aoj arl (by kernel_rfl) (by kernel_rfl) (sq _) hd4;simp only[World.var?,hg4,Option.bind_some]at hv4;split at hv4
 ·rename_i c t fr hb;obtain rfl:=qqz hv4;exact⟨t,fr,by rw[hb,<-hcs]⟩
 ·cases hv4
theorem MJ{P:Program}{cx:Cx}{ρ:Env} {l:List (FuncId×(List V->St->R (V×St)))} (hl:∀ x∈l,fM P cx ρ x.1 x.2) (h:cx.sm=tW l) (hd:∀ g s,cx.dm g=some s->Pp P cx ρ g s) (hp:cx.lp=none:=by rfl):SumOk P cx ρ:=by
 refine⟨?_,hd,fun lp hl=>by rw[hp]at hl;cases hl⟩;intro f s hs args st v st' he S π0 w ac n hh ha;rw[h]at hs;have:∃ x∈l,x.1=f/\x.2=s:=by
  clear h hl;induction l with
  |nil=>simp[tW]at hs
  |cons x l ih=>
   obtain⟨g,s'⟩:=x;unfold tW at hs;split at hs
   ·rename_i hb;exact⟨(g,s'),by simp,(qqq hb).symm,qqz hs⟩
   ·obtain⟨x,h1,h2⟩:=ih hs;exact⟨x,by simp[h1],h2⟩
 obtain⟨x,h1,rfl,rfl⟩:=this;exact hl x h1 args st v st' he S π0 w ac n hh ha
def aZ(ro:Nat->Obj):Prop:=∀ ρ:Env,ρ.ro=ro->RoAt ρ aj
theorem Ur{ρ:Env}:SumOk Tryz.prog cx ρ:=by
 refine⟨fun f s h=>?_,fun g s h=>?_,fun _ h=>by cases h⟩
 ·have:(none:Option (List V->St->R (V×St)))=some s:=h;cases this
 ·have:(none:Option (List V->St->Option V->R (Option V×St)))=some s:=h;cases this
theorem yv{P:Program}{c c':Cx}{ρ:Env}(h:SumOk P c ρ)(e1:c'.sm=c.sm:=by rfl)(e2:c'.dm=c.dm:=by rfl)(e3:c'.ng=c.ng:=by rfl)(e4:c'.lp=c.lp:=by rfl):SumOk P c' ρ:=by
 have back:∀ {S:Nat->Prop} {π0:Pl} {st:St} {w:World},b8 c' ρ S π0 st w->b8 c ρ S π0 st w:=fun hh=>⟨hh.pc,hh.at_,fun g hg=>hh.glob g (by rw[e3];exact hg),hh.fresh⟩
 refine⟨fun f s hs args st v st' he S π0 w ac n hh ha=>h.sum f s (by rw[<-e1];exact hs) args st v st' he S π0 w ac n (back hh) ha,fun g s hs=>?_,fun lp hl rnd c0 fr st r res h1 h2 S π0 w a ro n hh hf hr=>h.lp lp (by rw[<-e4];exact hl) rnd c0 fr st r res h1 h2 S π0 w a ro n (back hh) hf hr⟩;obtain⟨h1,h2⟩:=h.dm g s (by rw[<-e2];exact hs);exact⟨h1,fun args st e e' st' he S π0 w ac u n hh ha hu=>h2 args st e e' st' he S π0 w ac u n (back hh) ha hu⟩
noncomputable def anL:Code:=match Tryz.f77.body with
 |some (.seq _ r)=>r
 |_=>.skip
noncomputable def acp:Oper:=match Tryz.f77.body with
 |some (.seq (.region _ ops _) _)=>ops.getD 0 default
 |_=>default
noncomputable def acn:Nat:=match Tryz.f77.body with
 |some (.seq (.region i _ _) _)=>i
 |_=>0
noncomputable def anM:Code:=match Tryz.f79.body with
 |some (.seq _ r)=>r
 |_=>.skip
noncomputable def acq:Oper:=match Tryz.f79.body with
 |some (.seq (.region _ ops _) _)=>ops.getD 0 default
 |_=>default
noncomputable def aco:Nat:=match Tryz.f79.body with
 |some (.seq (.region i _ _) _)=>i
 |_=>0
noncomputable def rest52:Code:=match Tryz.f52.body with
 |some (.seq _ r)=>r
 |_=>.skip
noncomputable def recOp52:Oper:=match Tryz.f52.body with
 |some (.seq (.region _ ops _) _)=>ops.getD 0 default
 |_=>default
noncomputable def recId52:Nat:=match Tryz.f52.body with
 |some (.seq (.region i _ _) _)=>i
 |_=>0
noncomputable def RX(g:FuncId):Option (List V->St->Option V->R (Option V×St)):=match Nat.beq g 77 with
 |true=>some (acr cx 4000 15 5 anL)
 |false=>match Nat.beq g 79 with
  |true=>some (acr cx 4000 16 6 anM)
  |false=>match Nat.beq g 52 with
   |true=>some (acr cx 4000 15 5 rest52)
   |false=>none
theorem PD{c:Cx}{ρ:Env}(hng:c.ng=7):∀ g s,RX g=some s->Pp Tryz.prog c ρ g s:=by
 intro g s h;unfold RX at h;split at h
 ·rename_i hb;obtain rfl:=qqq hb;obtain rfl:=qqz h;exact W7 (id:=acn) (o:=acp) (fn:=Tryz.f77) bG dh dV Ur hng Tryz.func77 (by kernel_rfl) (by kernel_rfl) (by kernel_rfl) (by kernel_rfl) (by kernel_rfl) (by decide +kernel)
 split at h
 ·rename_i hb;obtain rfl:=qqq hb;obtain rfl:=qqz h;exact W7 (id:=aco) (o:=acq) (fn:=Tryz.f79) bG dh dV Ur hng Tryz.func79 (by kernel_rfl) (by kernel_rfl) (by kernel_rfl) (by kernel_rfl) (by kernel_rfl) (by decide +kernel)
 split at h
 ·rename_i hb;obtain rfl:=qqq hb;obtain rfl:=qqz h;exact W7 (id:=recId52) (o:=recOp52) (fn:=Tryz.f52) bG dh dV Ur hng Tryz.func52 (by kernel_rfl) (by kernel_rfl) (by kernel_rfl) (by kernel_rfl) (by kernel_rfl) (by decide +kernel)
 cases h
noncomputable def cxD:Cx:={cx with dm:=RX}
theorem aoE{ρ:Env}:SumOk Tryz.prog cxD ρ:=by
 refine⟨fun f s h=>?_,PD rfl,fun _ h=>by cases h⟩;have:(none:Option (List V->St->R (V×St)))=some s:=h;cases this
theorem lX{cx:Cx}{ρ:Env} {l:List (FuncId×(List V->St->R (V×St)))} (hl:Ao (fun f s=>fM Tryz.prog cx ρ f s) l) (h:cx.sm=tW l) (hng:cx.ng=7:=by rfl) (hd:cx.dm=RX:=by rfl) (hp:cx.lp=none:=by rfl):SumOk Tryz.prog cx ρ:=MJ (fun _ hx=>hl.mem hx) h (by rw[hd];exact PD hng) hp
def Row(cx:Cx)(f:Nat)(a:List V)(r:R Leaf):Prop:=cP aj 7 ((ev cx 4000).call f a (sk aj 7))=r
theorem Row.of{cx:Cx}{f:Nat}{a:List V}{r:R Leaf} (h:cP aj 7 ((PL cx 4000).call f a (sk aj 7))=r):Row cx f a r:=by
 unfold Row;rw[cj];exact h
end Go.Proofs.YtgcbnjpeifigaaaGreatDoor
namespace Go.Proofs.YtgcbnjpeifigaaaGreatDoor
open Go Go.Proofs
def sg1:Nat->Nat->Nat->List B->List B
 |_,_,0,l=>l
 |k,a,n+1,l=>(match k with|0=>.zero|1=>.one|2=>.pos a|_=>.neg a)::sg1 k (a+1) n l
def sgL:List (Nat×Nat×Nat)->List B
 |[]=>[]
 |(k,a,n)::l=>sg1 k a n (sgL l)
def sg (l:List (Nat×Nat×Nat)) (t:B):X:=.bv (sgL l) t
def lf(n:Nat)(v:V):R Leaf:=.ok {v:=v,objs:=[],n:=n}
def rq:List (Nat×ak)->List (Nat×ak)->Bool
 |[],[]=>true
 |(i,o)::l,(j,p)::m=>match Nat.beq i j,o.beq p with
  |true,true=>rq l m
  |_,_=>false
 |_,_=>false
theorem Ce:∀ {l m:List (Nat×ak)},rq l m=true->l=m
 |[],[],_=>rfl
 |(i,o)::l,(j,p)::m,h=>by
  unfold rq at h;split at h
  ·rename_i h1 h2;rw[qqq h1,ak.beq_eq h2,Ce h]
  ·cases h
 |[],_::_,h=>by simp[rq]at h
 |_::_,[],h=>by simp[rq]at h
noncomputable def qC:R Leaf->R Leaf->Bool
 |.ok a,r=>match r with
  |.ok b=>match a.v.beq b.v,Nat.beq a.n b.n with
   |true,true=>rq a.objs b.objs
   |_,_=>false
  |_=>false
 |.br c t f,r=>match r with
  |.br d u g=>match c.beq d with
   |true=>match qC t u with
    |true=>qC f g
    |false=>false
   |false=>false
  |_=>false
 |.stuck _,_=>false
theorem CJ:∀ {a b:R Leaf},qC a b=true->a=b
 |.ok ⟨v,o,n⟩,.ok ⟨v',o',n'⟩,h=>by
  simp only[qC]at h;split at h
  ·rename_i h1 h2;rw[V.beq_eq _ _ h1,qqq h2,Ce h]
  ·cases h
 |.ok _,.br _ _ _,h=>by simp[qC]at h
 |.ok _,.stuck _,h=>by simp[qC]at h
 |.br c t f,.br d u g,h=>by
  simp only[qC]at h;split at h
  ·rename_i h1;split at h
   ·rename_i h2;rw[X.beq_eq h1,CJ h2,CJ h]
   ·cases h
  ·cases h
 |.br _ _ _,.ok _,h=>by simp[qC]at h
 |.br _ _ _,.stuck _,h=>by simp[qC]at h
 |.stuck _,_,h=>by simp[qC]at h
noncomputable def IE(cx:Cx)(f:Nat):List (List V×R Leaf)->Bool
 |[]=>true
 |(a,r)::l=>match V.dN a with
  |true=>match qC (cP aj 7 ((PL cx 4000).call f a (sk aj 7))) r with
   |true=>IE cx f l
   |false=>false
  |false=>false
theorem aG{cx:Cx}{f:Nat}:∀ {t:List (List V×R Leaf)},IE cx f t=true->bM cx aj 7 4000 f t
 |[],_=>.nil
 |(a,r)::l,h=>by
  unfold IE at h;split at h
  ·rename_i h1;split at h
   ·rename_i h2;exact .cons h1 (Row.of (CJ h2)) (aG h)
   ·cases h
  ·cases h
abbrev l9:=List (FuncId×(List V->St->R (V×St)))
noncomputable def jK(l:l9):Cx:={cx with dm:=RX,sm:=tW l}
def aO(ro:Nat->Obj)(l:l9):Prop:=∀ ρ:Env,ρ.ro=ro->∀ c:Cx,c.ng=7->Ao (fun f s=>fM Tryz.prog c ρ f s) l
theorem aO.nil{ro:Nat->Obj}:aO ro []:=fun _ _ _ _=>trivial
theorem aO.ok{ro:Nat->Obj}{l:l9}(h:aO ro l){ρ:Env}(hr:ρ.ro=ro){c:Cx}(e:c.sm=tW l)(hng:c.ng=7:=by rfl)(hd:c.dm=RX:=by rfl)(hp:c.lp=none:=by rfl):SumOk Tryz.prog c ρ:=lX (h ρ hr c hng) e hng hd hp
theorem aO.Dy{ro:Nat->Obj}{l:l9}(h:aO ro l)(hro:aZ ro){f:FuncId}{fn:Func} (hfn:Tryz.prog.funcs[f]?=some fn) {t:List (List V×R Leaf)} (ht:bM (jK l) aj 7 4000 f t):aO ro ((f,bY aj 7 t)::l):=
 fun ρ hr c hc=>⟨Fp (cx0:=jK l) bG dh dV (h.ok hr rfl) hc rfl dS (hro ρ hr) hfn ht,h ρ hr c hc⟩
theorem aO.par{ro:Nat->Obj}{l:l9}(h:aO ro l)(hro:aZ ro){f:FuncId}{fn:Func} (hfn:Tryz.prog.funcs[f]?=some fn) {t:List (List V×R Leaf)} (ht:bM (jK l) aj 7 4000 f t):aO ro ((f,cb aj 7 t)::l):=
 fun ρ hr c hc=>⟨r7 (cx0:=jK l) bG dh dV (fun _ e=>h.ok (e.trans hr) rfl) hc rfl dS (fun ρ' e=>hro ρ' (e.trans hr)) hfn ht,h ρ hr c hc⟩
noncomputable def lz(c:Cx):Cx:={c with mg:=true}
theorem aO.m8{ro:Nat->Obj}{l:l9}(h:aO ro l)(hro:aZ ro){f:FuncId}{fn:Func} (hfn:Tryz.prog.funcs[f]?=some fn) {t:List (List V×R Leaf)} (ht:bM (lz (jK l)) aj 7 4000 f t):aO ro ((f,cb aj 7 t)::l):=
 fun ρ hr c hc=>⟨r7 (cx0:=lz (jK l)) bG dh dV (fun _ e=>h.ok (e.trans hr) rfl) hc rfl dS (fun ρ' e=>hro ρ' (e.trans hr)) hfn ht,h ρ hr c hc⟩
end Go.Proofs.YtgcbnjpeifigaaaGreatDoor
