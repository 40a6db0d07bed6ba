/- How a law of one answer is told: the heap's start out of what is laid, the end's reading. Summaries in short: rows that are looked at together, lists of summaries. No condition. -/
import Derived.Test.YtmickljjofbmiaaGreatDoorATab
import Derived.Test.YtmickljjofbmiaaGreatDoorFwF
import Derived.Test.YtmickljjofbmiaaGreatDoorFwU
import Derived.Test.YtmickljjofbmiaaGreatDoorFwG
import Derived.Test.YtmickljjofbmiaaGreatDoorRows
import Derived.ProofKit
import Derived.LaidMore
import Derived.OpenShut
import Derived.Carry
import Derived.Stop.Joined
import Derived.MakeChecks
namespace Go.Proofs.YtmickljjofbmiaaGreatDoor
open Go Go.Proofs Go.ChangeShapes Go.WideShapes Go.RowKit
theorem afT:ownKnob Tryz.prog.godebug=none:=by kernel_rfl
theorem Ye:laidOutB Tryz.prog=true:=by kernel_rfl
theorem cr:Tryz.prog.follows .mixedOrders=true:=by kernel_rfl
section
variable {H:Type} {enc:TypeId×Value→H} {P:Program}
theorem C8(hl:laidOutB P=true){W W':World}(hb:Below W.heap.size W W'):∀ {ts:List TypeId} {vs:List Value} {ds:List (DataW H)} {ps:List MemPlace},(∀ t∈ts,P.readableRec t=true∧t<P.types.size)→
  DataW.TrodAll enc P W 0 (fun _=>true) true ts vs ds ps→(∀ x∈ps,x.block<W.heap.size)→DataW.TrodAll enc P W' 0 (fun b=>decide (b<W.heap.size)) true ts vs ds ps
 | [],_,_,_,_,h,_=>by
  obtain⟨rfl,rfl,rfl⟩:=trodAll_nil h
  trivial
 | t::ts,_,_,_,ht,h,hp=>by
  obtain⟨v,vs1,d,ds1,a,b,rfl,rfl,rfl,h1,h2⟩:=trodAll_cons h
  exact trodAll_cons_mk (Below.trod hl (ht t (by simp)).1 (ht t (by simp)).2 h1 hb fun x hx=>hp x (by simp [hx])) (C8 hl hb (fun t h=>ht t (by simp [h])) h2 fun x hx=>hp x (by simp [hx]))
theorem agb{f:Func}{s:ChangeSpec}{W W':World}{args:Array Value} {ds gs:List (DataW H)} {before:List MemPlace} {tb:TypeId} (hl:laidOutB P=true) (hts:∀ t∈f.params.toList,P.readableRec t=true∧t<P.types.size)
  (hres:f.resultTypes=#[tb]) (htb:P.underlying tb=some .bool) (hs:s.vars=[]) (hW:DataW.Whole enc P f.params.toList s.vars false W args.toList ds gs before)
  (hfn:s.fn H ds={results:=[.lit (.bool true)],args:=ds}) (hb:Below W.heap.size W W'):s.post enc P f false true false false W args (.bool true) W':=by
 have hW0:=hW
 obtain⟨p,q,hA,hV,rfl,hfz,hnd⟩:=hW0
 rw [hs] at hV
 obtain⟨rfl,rfl⟩:=trodVars_none hV
 refine⟨ds,[],p++[],[],p,[],hW,?_,?_,?_,hb.frame _,fun h=>by cases h⟩
 ·rw [List.append_nil,hfn,hres]
  exact trodAll_mk1 (shut_bool htb _)
 ·rw [List.append_nil,hfn]
  exact C8 hl hb hts hA fun x hx=>by simpa using hW.lt x (by simp [hx])
 ·rw [List.append_nil,hfn,hs]
  rfl
theorem abN{t e:TypeId}{k:IntKind}{n fuel:Nat}{cs:List Value}{l:List Int}{w:World}{base:Nat}{spare:Nat→Bool}{held:Bool}{p:List MemPlace} (ht:P.underlying t=some (.array n e)) (he:P.underlying e=some (.int k)) (hc:P.cellsOf e=1) (hct:P.cellsOf t=n) (hn:l.length=n)
  (h:DataW.trod enc P w base spare held fuel t cs=some (.agg (l.map fun i=>.lit (.int k i)),p)):cs=l.map (.int k):=by
 obtain⟨xs,m,_,ex,hlen,hl,hel⟩:=DataW.trod_array ht h
 rw [hct] at hlen
 simp only [Prod.mk.injEq,DataW.agg.injEq] at ex
 refine List.ext_getElem? fun i=>?_
 by_cases hi:i<n
 ·have h1:=hel i hi
  rw [hc] at h1
  have hx:i<xs.length:=by omega
  rw [List.getElem?_eq_getElem hx] at h1
  obtain⟨q,e1,e2,_⟩:=DataW.trod_int he h1
  have e3:(xs.map (·.1))[i]?=(l.map fun i=>(.lit (.int k i):DataW H))[i]?:=by rw [ex.1]
  rw [List.getElem?_map,List.getElem?_eq_getElem hx,List.getElem?_map,List.getElem?_eq_getElem (by omega),e2] at e3
  simp only [Option.map_some,Option.some.injEq,DataW.lit.injEq,Lit.int.injEq,true_and] at e3
  have e4:=congrArg (fun l=>l[0]?) e1
  simp only [List.getElem?_take,List.getElem?_drop] at e4
  simp only [Nat.mul_one,Nat.add_zero,List.getElem?_cons_zero] at e4
  have e5:cs[i]?=some (.int k l[i]):=by simpa [e3] using e4
  rw [e5,List.getElem?_map,List.getElem?_eq_getElem (by omega)]
  rfl
 ·rw [List.getElem?_eq_none (by omega),List.getElem?_eq_none (by simp;omega)]
end
def Q5(i:Nat):Int:=match i with | 9=>1 | 10=>1 | 11=>1 | 12=>1 | 13=>1 | 32=>1 | _=>0
def rF:Nat→List Int
 | 0=>[]
 | n+1=>Q5 (255-n)::rF n
def yN:Nat→List V
 | 0=>[]
 | n+1=>.int .u8 (.lit (Q5 (255-n)))::yN n
theorem sM(ρ:Env)(π:Pl):∀ n,V.af ρ π (yN n)=(rF n).map (.int .u8)
 | 0=>rfl
 | n+1=>by simp only [yN,rF,V.af,V.ae,X.den,List.map_cons,sM ρ π n]
def aj:List (Nat×List V):=[(0,yN 256)]
def alW:St:=qK aj 7
def Z3(i:Nat):Prop:=i<7
def πStart:Pl:=fun i=>⟨i,0,.nilFunc⟩
theorem fp:∀ x∈aj,x.1<7:=by
 intro x hx
 simp only [aj,List.mem_singleton] at hx
 subst hx
 show 0<7
 omega
theorem aaC:Tryz.prog.globalNamed "strings.asciiSpace" = some 0:=by kernel_rfl
theorem FU:(Rows.laid_strings_asciiSpace:DataW Unit)=.agg ((rF 256).map fun i=>.lit (.int .u8 i)):=by kernel_rfl
theorem acn:(Tryz.prog.globals[0]?).map (·.type)=some 179:=by kernel_rfl
theorem acq:Tryz.prog.underlying 179=some (.array 256 5):=by kernel_rfl
theorem agi:Tryz.prog.underlying 5=some (.int .u8):=by kernel_rfl
theorem qX:∀ n,(rF n).length=n
 | 0=>rfl
 | n+1=>by simp [rF,qX n]
theorem Yt{W:World}(h:laidMetH Tryz.prog Rows.aloneRunRow.laid W):∃ t fr,W.heap[0]?=some (.cells ((rF 256).map (.int .u8)).toArray t fr):=by
 rw [MakeChecks.laidMetH_plain _ _ _ (by kernel_rfl)] at h
 obtain⟨ps,⟨g0,t0,cs0,f0,p0,q0,hg0,ht0,hv0,hd0,⟨g1,t1,cs1,f1,p1,q1,hg1,ht1,hv1,hd1,⟨g2,t2,cs2,f2,p2,q2,hg2,ht2,hv2,hd2,⟨g3,t3,cs3,f3,p3,q3,hg3,ht3,hv3,hd3,⟨g4,t4,cs4,f4,p4,q4,hg4,ht4,hv4,hd4,_,_⟩,_⟩,_⟩,_⟩,_⟩,_,_⟩:=h
 obtain rfl:=Option.some.inj (aaC.symm.trans hg4)
 obtain rfl:=Option.some.inj (acn.symm.trans ht4)
 rw [FU] at hd4
 have hcs:=abN acq agi (by kernel_rfl) (by kernel_rfl) (qX _) hd4
 simp only [World.var?,hg4,Option.bind_some] at hv4
 split at hv4
 ·rename_i c t fr hb
  obtain rfl:=Option.some.inj hv4
  exact⟨t,fr,by rw [hb,←hcs]⟩
 ·cases hv4
def YS(W:World)(i:Nat):Obj:=(W.heap[i]?).getD (.deferred none)
theorem AU{ρ:Env}{W:World}(h:laidMetH Tryz.prog Rows.aloneRunRow.laid W)(hr:ρ.ro=YS W):RoAt ρ aj∧∀ x∈aj,W.heap[x.1]?=some (ρ.ro x.1):=by
 obtain⟨t,fr,h0⟩:=Yt h
 refine⟨⟨fun x hx=>?_⟩,fun x hx=>?_⟩<;>simp only [aj,List.mem_singleton] at hx<;>subst hx<;>rw [hr]<;>simp only [YS,h0,Option.getD_some]
 exact⟨t,fr,fun π=>by rw [sM]⟩
def agf(pc:PC):St:={h:=fW aj,n:=7,pc:=pc}
theorem alO{cx:Cx}{ρ:Env}{W:World}{N:Nat}{f:FuncId}{fn:Func}{args:List V}{ac:List Value}{pc:PC}(htt:mQ Tryz.prog cx.tt)(hft:rz Tryz.prog cx.ft)(hng:cx.ng=7)(hsm:SumOk Tryz.prog cx ρ) (hf:Tryz.prog.funcs[f]?=some fn)
  (hL:laidMetH Tryz.prog Rows.aloneRunRow.laid W) (hr:ρ.ro=YS W) (hpc:av ρ pc) (ht:rA aj ((ev cx N).call f args (agf pc))=true) (ha:bK ρ Z3 πStart args ac):
  Calls Tryz.prog f ac.toArray W fun e W'=>e=.returned (.bool true)∧Below W.heap.size W W':=by
 obtain⟨x,st,hsel,hx,hthere⟩:=rB (ρ:=ρ) ht
 obtain⟨h1,h2⟩:=AU hL hr
 have hh:=(oS (π0:=πStart) hng fp h1 (fun _ _=>rfl) h2).fx (st1:=agf pc) ⟨rfl,rfl,hpc⟩
 refine (zm cr htt hft hsm hsel hh ha hf).mono fun e W' hp=>?_
 obtain⟨hpc',π1,g,c,rfl,hv⟩:=hp
 refine⟨?_,yQ fp (fun _ _=>rfl) h2 g hthere⟩
 rw [←hv π1 fun _ _=>rfl]
 simp [V.ae,hx hpc']
theorem TA{P:Program}{cx:Cx}{ρ:Env} {l:List (FuncId×(List V→St→R (V×St)))} (hl:∀ x∈l,cV P cx ρ x.1 x.2) (h:cx.sm=BA l) (hd:∀ g s,cx.dm g=some s→M4 P cx ρ g s) (hp:cx.lp=none:=by rfl):SumOk P cx ρ:=by
 refine⟨?_,hd,fun lp hl=>by rw [hp] at hl;cases hl⟩
 intro f s hs args st v st' he S π0 w ac n hh ha
 rw [h] at hs
 have:∃ x∈l,x.1=f∧x.2=s:=by
  clear h hl
  induction l with
  | nil=>simp [BA] at hs
  | cons x l ih=>
   obtain⟨g,s'⟩:=x
   unfold BA at hs
   split at hs
   ·rename_i hb
    exact⟨(g,s'),by simp,(Nat.eq_of_beq_eq_true hb).symm,Option.some.inj hs⟩
   ·obtain⟨x,h1,h2⟩:=ih hs
    exact⟨x,by simp [h1],h2⟩
 obtain⟨x,h1,rfl,rfl⟩:=this
 exact hl x h1 args st v st' he S π0 w ac n hh ha
def bx(ro:Nat→Obj):Prop:=∀ ρ:Env,ρ.ro=ro→RoAt ρ aj
theorem ZF{W:World}(h:laidMetH Tryz.prog Rows.aloneRunRow.laid W):bx (YS W):=fun _ hr=>(AU h hr).1
theorem ael{ρ:Env}:SumOk Tryz.prog cx ρ:=by
 refine⟨fun f s h=>?_,fun g s h=>?_,fun _ h=>by cases h⟩
 ·have:(none:Option (List V→St→R (V×St)))=some s:=h
  cases this
 ·have:(none:Option (List V→St→Option V→R (Option V×St)))=some s:=h
  cases this
theorem Db{P:Program}{c c':Cx}{ρ:Env}(h:SumOk P c ρ)(e1:c'.sm=c.sm:=by rfl)(e2:c'.dm=c.dm:=by rfl)(e3:c'.ng=c.ng:=by rfl)(e4:c'.lp=c.lp:=by rfl):SumOk P c' ρ:=by
 have back:∀ {S:Nat→Prop} {π0:Pl} {st:St} {w:World},cg c' ρ S π0 st w→cg c ρ S π0 st w:=fun hh=>⟨hh.pc,hh.at_,fun g hg=>hh.glob g (by rw [e3];exact hg),hh.fresh⟩
 refine⟨fun f s hs args st v st' he S π0 w ac n hh ha=>h.sum f s (by rw [←e1];exact hs) args st v st' he S π0 w ac n (back hh) ha,fun g s hs=>?_,fun lp hl rnd c0 fr st r res h1 h2 S π0 w a ro n hh hf hr=>h.lp lp (by rw [←e4];exact hl) rnd c0 fr st r res h1 h2 S π0 w a ro n (back hh) hf hr⟩
 obtain⟨h1,h2⟩:=h.dm g s (by rw [←e2];exact hs)
 exact⟨h1,fun args st e e' st' he S π0 w ac u n hh ha hu=>h2 args st e e' st' he S π0 w ac u n (back hh) ha hu⟩
noncomputable def abI:Code:=match Tryz.f61.body with
 | some (.seq _ r)=>r
 | _=>.skip
noncomputable def YO:Oper:=match Tryz.f61.body with
 | some (.seq (.region _ ops _) _)=>ops.getD 0 default
 | _=>default
noncomputable def YN:Nat:=match Tryz.f61.body with
 | some (.seq (.region i _ _) _)=>i
 | _=>0
noncomputable def XW(g:FuncId):Option (List V→St→Option V→R (Option V×St)):=match Nat.beq g 61 with
 | true=>some (abF cx 4000 15 5 abI)
 | false=>none
theorem Zj{c:Cx}{ρ:Env}(hng:c.ng=7):∀ g s,XW g=some s→M4 Tryz.prog c ρ g s:=by
 intro g s h
 unfold XW at h
 split at h
 ·rename_i hb
  obtain rfl:=Nat.eq_of_beq_eq_true hb
  obtain rfl:=Option.some.inj h
  exact abG (id:=YN) (o:=YO) (fn:=Tryz.f61) cr pL oQ ael hng Tryz.func61 (by kernel_rfl) (by kernel_rfl) (by kernel_rfl) (by kernel_rfl) (by kernel_rfl) (by decide +kernel)
 cases h
noncomputable def cxD:Cx:={cx with dm:=XW}
theorem aek{ρ:Env}:SumOk Tryz.prog cxD ρ:=by
 refine⟨fun f s h=>?_,Zj rfl,fun _ h=>by cases h⟩
 have:(none:Option (List V→St→R (V×St)))=some s:=h
 cases this
theorem uI{cx:Cx}{ρ:Env} {l:List (FuncId×(List V→St→R (V×St)))} (hl:yE (fun f s=>cV Tryz.prog cx ρ f s) l) (h:cx.sm=BA l) (hng:cx.ng=7:=by rfl) (hd:cx.dm=XW:=by rfl) (hp:cx.lp=none:=by rfl):SumOk Tryz.prog cx ρ:=TA (fun _ hx=>hl.mem hx) h (by rw [hd];exact Zj hng) hp
def Row(cx:Cx)(f:Nat)(a:List V)(r:R Leaf):Prop:=cy aj 7 ((ev cx 4000).call f a (qK aj 7))=r
theorem Row.of{cx:Cx}{f:Nat}{a:List V}{r:R Leaf} (h:cy aj 7 ((X1 cx 4000).call f a (qK aj 7))=r):Row cx f a r:=by
 unfold Row
 rw [de]
 exact h
end Go.Proofs.YtmickljjofbmiaaGreatDoor
namespace Go.Proofs.YtmickljjofbmiaaGreatDoor
open Go Go.Proofs
def sg1:Nat→Nat→Nat→List B→List B
 | _,_,0,l=>l
 | k,a,n+1,l=>(match k with | 0=>.zero | 1=>.one | 2=>.pos a | _=>.neg a)::sg1 k (a+1) n l
def sgL:List (Nat×Nat×Nat)→List B
 | []=>[]
 | (k,a,n)::l=>sg1 k a n (sgL l)
def sg (l:List (Nat×Nat×Nat)) (t:B):X:=.bv (sgL l) t
def lf(n:Nat)(v:V):R Leaf:=.ok {v:=v,objs:=[],n:=n}
def qk:List (Nat×au)→List (Nat×au)→Bool
 | [],[]=>true
 | (i,o)::l,(j,p)::m=>match Nat.beq i j,o.beq p with
  | true,true=>qk l m
  | _,_=>false
 | _,_=>false
theorem Ap:∀ {l m:List (Nat×au)},qk l m=true→l=m
 | [],[],_=>rfl
 | (i,o)::l,(j,p)::m,h=>by
  unfold qk at h
  split at h
  ·rename_i h1 h2
   rw [Nat.eq_of_beq_eq_true h1,au.beq_eq h2,Ap h]
  ·cases h
 | [],_::_,h=>by simp [qk] at h
 | _::_,[],h=>by simp [qk] at h
noncomputable def py:R Leaf→R Leaf→Bool
 | .ok a,r=>match r with
  | .ok b=>match a.v.beq b.v,Nat.beq a.n b.n with
   | true,true=>qk a.objs b.objs
   | _,_=>false
  | _=>false
 | .br c t f,r=>match r with
  | .br d u g=>match c.beq d with
   | true=>match py t u with
    | true=>py f g
    | false=>false
   | false=>false
  | _=>false
 | .stuck _,_=>false
theorem AT:∀ {a b:R Leaf},py a b=true→a=b
 | .ok ⟨v,o,n⟩,.ok ⟨v',o',n'⟩,h=>by
  simp only [py] at h
  split at h
  ·rename_i h1 h2
   rw [V.beq_eq _ _ h1,Nat.eq_of_beq_eq_true h2,Ap h]
  ·cases h
 | .ok _,.br _ _ _,h=>by simp [py] at h
 | .ok _,.stuck _,h=>by simp [py] at h
 | .br c t f,.br d u g,h=>by
  simp only [py] at h
  split at h
  ·rename_i h1
   split at h
   ·rename_i h2
    rw [X.beq_eq h1,AT h2,AT h]
   ·cases h
  ·cases h
 | .br _ _ _,.ok _,h=>by simp [py] at h
 | .br _ _ _,.stuck _,h=>by simp [py] at h
 | .stuck _,_,h=>by simp [py] at h
noncomputable def Fj(cx:Cx)(f:Nat):List (List V×R Leaf)→Bool
 | []=>true
 | (a,r)::l=>match V.dt a with
  | true=>match py (cy aj 7 ((X1 cx 4000).call f a (qK aj 7))) r with
   | true=>Fj cx f l
   | false=>false
  | false=>false
theorem aF{cx:Cx}{f:Nat}:∀ {t:List (List V×R Leaf)},Fj cx f t=true→bE cx aj 7 4000 f t
 | [],_=>.nil
 | (a,r)::l,h=>by
  unfold Fj at h
  split at h
  ·rename_i h1
   split at h
   ·rename_i h2
    exact .cons h1 (Row.of (AT h2)) (aF h)
   ·cases h
  ·cases h
abbrev j6:=List (FuncId×(List V→St→R (V×St)))
noncomputable def kf(l:j6):Cx:={cx with dm:=XW,sm:=BA l}
def aL(ro:Nat→Obj)(l:j6):Prop:=∀ ρ:Env,ρ.ro=ro→∀ c:Cx,c.ng=7→yE (fun f s=>cV Tryz.prog c ρ f s) l
theorem aL.nil{ro:Nat→Obj}:aL ro []:=fun _ _ _ _=>trivial
theorem aL.ok{ro:Nat→Obj}{l:j6}(h:aL ro l){ρ:Env}(hr:ρ.ro=ro){c:Cx}(e:c.sm=BA l)(hng:c.ng=7:=by rfl)(hd:c.dm=XW:=by rfl)(hp:c.lp=none:=by rfl):SumOk Tryz.prog c ρ:=uI (h ρ hr c hng) e hng hd hp
theorem aL.QO{ro:Nat→Obj}{l:j6}(h:aL ro l)(hro:bx ro){f:FuncId}{fn:Func} (hfn:Tryz.prog.funcs[f]?=some fn) {t:List (List V×R Leaf)} (ht:bE (kf l) aj 7 4000 f t):aL ro ((f,bT aj 7 t)::l):=
 fun ρ hr c hc=>⟨Da (cx0:=kf l) cr pL oQ (h.ok hr rfl) hc rfl fp (hro ρ hr) hfn ht,h ρ hr c hc⟩
theorem aL.par{ro:Nat→Obj}{l:j6}(h:aL ro l)(hro:bx ro){f:FuncId}{fn:Func} (hfn:Tryz.prog.funcs[f]?=some fn) {t:List (List V×R Leaf)} (ht:bE (kf l) aj 7 4000 f t):aL ro ((f,bS aj 7 t)::l):=
 fun ρ hr c hc=>⟨qN (cx0:=kf l) cr pL oQ (fun _ e=>h.ok (e.trans hr) rfl) hc rfl fp (fun ρ' e=>hro ρ' (e.trans hr)) hfn ht,h ρ hr c hc⟩
noncomputable def kg(c:Cx):Cx:={c with mg:=true}
theorem aL.lh{ro:Nat→Obj}{l:j6}(h:aL ro l)(hro:bx ro){f:FuncId}{fn:Func} (hfn:Tryz.prog.funcs[f]?=some fn) {t:List (List V×R Leaf)} (ht:bE (kg (kf l)) aj 7 4000 f t):aL ro ((f,bS aj 7 t)::l):=
 fun ρ hr c hc=>⟨qN (cx0:=kg (kf l)) cr pL oQ (fun _ e=>h.ok (e.trans hr) rfl) hc rfl fp (fun ρ' e=>hro ρ' (e.trans hr)) hfn ht,h ρ hr c hc⟩
end Go.Proofs.YtmickljjofbmiaaGreatDoor
