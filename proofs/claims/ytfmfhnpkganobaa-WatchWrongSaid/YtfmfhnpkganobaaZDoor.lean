/- How a law of one answer is told: the heap's start out of what is laid, the end's reading. core.New of any words: what it lays anew. core.New as a summary: of words that are only there, or too many. No condition. -/
import Derived.Test.YtfmfhnpkganobaaZTab
import Derived.Test.YtfmfhnpkganobaaFwF
import Derived.Test.YtfmfhnpkganobaaFwU
import Derived.Test.YtfmfhnpkganobaaFwG
import Derived.Test.YtfmfhnpkganobaaRows
import Derived.ProofKit
import Derived.OpenShut
import Derived.Carry
import Derived.Stop.Joined
import Derived.Test.YtfmfhnpkganobaaFwH
set_option maxRecDepth 100000
namespace Go.Proofs.Ytfmfhnpkganobaa
open Go Go.Proofs Go.ChangeShapes Go.WideShapes Go.RowKit
theorem own_door:ownKnob Try.prog.godebug=none:=by kernel_rfl
theorem laidOut_door:laidOutB Try.prog=true:=by kernel_rfl
theorem mixed_door:Try.prog.follows .mixedOrders=true:=by kernel_rfl
section
variable {H:Type} {enc:TypeId×Value→H} {P:Program}
theorem stays_all(hl:laidOutB P=true){W W':World}(hb:Below W.heap.size W W'):∀ {ts:List TypeId} {vs:List Value} {ds:List (DataW H)} {ps:List MemPlace},(∀ t∈ts,P.readableRec t=true∧t<P.types.size)→
  DataW.TrodAll enc P W 0 (fun _=>true) true ts vs ds ps→(∀ x∈ps,x.block<W.heap.size)→DataW.TrodAll enc P W' 0 (fun b=>decide (b<W.heap.size)) true ts vs ds ps
 | [],_,_,_,_,h,_=>by
  obtain⟨rfl,rfl,rfl⟩:=trodAll_nil h
  trivial
 | t::ts,_,_,_,ht,h,hp=>by
  obtain⟨v,vs1,d,ds1,a,b,rfl,rfl,rfl,h1,h2⟩:=trodAll_cons h
  exact trodAll_cons_mk (Below.trod hl (ht t (by simp)).1 (ht t (by simp)).2 h1 hb fun x hx=>hp x (by simp [hx])) (stays_all hl hb (fun t h=>ht t (by simp [h])) h2 fun x hx=>hp x (by simp [hx]))
theorem shut_law{f:Func}{s:ChangeSpec}{W W':World}{args:Array Value} {ds gs:List (DataW H)} {before:List MemPlace} {tb:TypeId} (hl:laidOutB P=true) (hts:∀ t∈f.params.toList,P.readableRec t=true∧t<P.types.size)
  (hres:f.resultTypes=#[tb]) (htb:P.underlying tb=some .bool) (hs:s.vars=[]) (hW:DataW.Whole enc P f.params.toList s.vars false W args.toList ds gs before)
  (hfn:s.fn H ds={results:=[.lit (.bool true)],args:=ds}) (hb:Below W.heap.size W W'):s.post enc P f false true false false W args (.bool true) W':=by
 have hW0:=hW
 obtain⟨p,q,hA,hV,rfl,hfz,hnd⟩:=hW0
 rw [hs] at hV
 obtain⟨rfl,rfl⟩:=trodVars_none hV
 refine⟨ds,[],p++[],[],p,[],hW,?_,?_,?_,hb.frame _,fun h=>by cases h⟩
 ·rw [List.append_nil,hfn,hres]
  exact trodAll_mk1 (shut_bool htb _)
 ·rw [List.append_nil,hfn]
  exact stays_all hl hb hts hA fun x hx=>by simpa using hW.lt x (by simp [hx])
 ·rw [List.append_nil,hfn,hs]
  rfl
end
def LStart:List (Nat×List V):=[]
theorem LStart_lt:∀ x∈LStart,x.1<0:=fun x hx=>by cases hx
theorem ro_nil{ρ:Env}:RoAt ρ LStart:=⟨fun x hx=>by cases hx⟩
theorem heap_nil{W:World}{ρ:Env}:∀ x∈LStart,W.heap[x.1]?=some (ρ.ro x.1):=fun x hx=>by cases hx
theorem smOf_sum{P:Program}{cx:Cx}{ρ:Env} {l:List (FuncId×(List V→St→R (V×St)))} (hl:∀ x∈l,SumAt P cx ρ x.1 x.2) (h:cx.sm=smOf l) (hd:∀ g s,cx.dm g=some s→DefAt P cx ρ g s) (hp:cx.lp=none:=by rfl):SumOk P cx ρ:=by
 refine⟨?_,hd,fun lp hl=>by rw [hp] at hl;cases hl⟩
 intro f s hs args st v st' he S π0 w ac n hh ha
 rw [h] at hs
 have:∃ x∈l,x.1=f∧x.2=s:=by
  clear h hl
  induction l with
  | nil=>simp [smOf] at hs
  | cons x l ih=>
   obtain⟨g,s'⟩:=x
   unfold smOf at hs
   split at hs
   ·rename_i hb
    exact⟨(g,s'),by simp,(Nat.eq_of_beq_eq_true hb).symm,Option.some.inj hs⟩
   ·obtain⟨x,h1,h2⟩:=ih hs
    exact⟨x,by simp [h1],h2⟩
 obtain⟨x,h1,rfl,rfl⟩:=this
 exact hl x h1 args st v st' he S π0 w ac n hh ha
theorem allcx{ρ:Env}:SumOk Try.prog cx ρ:=by
 refine⟨fun f s h=>?_,fun g s h=>?_,fun _ h=>by cases h⟩
 ·have:(none:Option (List V→St→R (V×St)))=some s:=h
  cases this
 ·have:(none:Option (List V→St→Option V→R (Option V×St)))=some s:=h
  cases this
theorem sum_flags{P:Program}{c c':Cx}{ρ:Env}(h:SumOk P c ρ)(e1:c'.sm=c.sm:=by rfl)(e2:c'.dm=c.dm:=by rfl)(e3:c'.ng=c.ng:=by rfl)(e4:c'.lp=c.lp:=by rfl):SumOk P c' ρ:=by
 have back:∀ {S:Nat→Prop} {π0:Pl} {st:St} {w:World},Here c' ρ S π0 st w→Here c ρ S π0 st w:=fun hh=>⟨hh.pc,hh.at_,fun g hg=>hh.glob g (by rw [e3];exact hg),hh.fresh⟩
 refine⟨fun f s hs args st v st' he S π0 w ac n hh ha=>h.sum f s (by rw [←e1];exact hs) args st v st' he S π0 w ac n (back hh) ha,fun g s hs=>?_,fun lp hl rnd c0 fr st r res h1 h2 S π0 w a ro n hh hf hr=>h.lp lp (by rw [←e4];exact hl) rnd c0 fr st r res h1 h2 S π0 w a ro n (back hh) hf hr⟩
 obtain⟨h1,h2⟩:=h.dm g s (by rw [←e2];exact hs)
 exact⟨h1,fun args st e e' st' he S π0 w ac u n hh ha hu=>h2 args st e e' st' he S π0 w ac u n (back hh) ha hu⟩
noncomputable def cxD:Cx:=cx
theorem allD{ρ:Env}:SumOk Try.prog cxD ρ:=allcx
theorem smOf_okL{cx:Cx}{ρ:Env} {l:List (FuncId×(List V→St→R (V×St)))} (hl:AllL (fun f s=>SumAt Try.prog cx ρ f s) l) (h:cx.sm=smOf l) (hd:cx.dm=fun _=>none:=by rfl) (hp:cx.lp=none:=by rfl):SumOk Try.prog cx ρ:=smOf_sum (fun _ hx=>hl.mem hx) h (by rw [hd];intro g s h;cases h) hp
end Go.Proofs.Ytfmfhnpkganobaa
namespace Go.Proofs.Ytfmfhnpkganobaa
open Go Go.Proofs Go.RowKit
def Fit(W:World)(cv:Value):Prop:=cv=.slice none 0 0∨(∃ (a:Addr) (cap:Nat),cv=.slice (some a) 0 cap)∨∃ (a:Addr) (n cap:Nat) (g:Nat→Int→Int),cv=.slice (some a) n cap∧1≤n∧n≤1024∧n≤cap∧CameIn W [.int .u32] a n g
def zw:Nat→List V
 | 0=>[]
 | n+1=>.int .u32 (.lit 0)::zw n
def bufC:List V:=[.int .u32 (.lit 0),.int .i64 (.lit 0),.int .u32 (.lit 0),.int .u32 (.lit 0),.int .i64 (.lit 0),.int .u32 (.lit 0),.int .u32 (.lit 0),.int .i64 (.lit 0),.int .u32 (.lit 0),.int .u32 (.lit 0),.int .i64 (.lit 0),.int .u32 (.lit 0),.int .i64 (.lit 0),.int .i64 (.lit 0)]
def coreC(i x:X)(b:Nat)(code:V):List V:=.int .i64 i::(zw 33++[.int .i64 (.lit 0),code,.int .i64 x,.ptr b 0,.int .i64 (.lit 0),.nilptr])
def zv:Nat→List Value
 | 0=>[]
 | n+1=>.int .u32 0::zv n
def bufV:List Value:=[.int .u32 0,.int .i64 0,.int .u32 0,.int .u32 0,.int .i64 0,.int .u32 0,.int .u32 0,.int .i64 0,.int .u32 0,.int .u32 0,.int .i64 0,.int .u32 0,.int .i64 0,.int .i64 0]
def coreV(i x:Int)(b:Nat)(code:Value):List Value:=.int .i64 i::(zv 33++[.int .i64 0,code,.int .i64 x,.pointer (some ⟨b,0,none⟩),.int .i64 0,.pointer none])
theorem bufC_conc(ρ:Env)(π:Pl):V.concs ρ π bufC=bufV:=rfl
theorem coreC_conc(ρ:Env)(π:Pl)(i x:X)(b:Nat)(code:V):V.concs ρ π (coreC i x b code)=coreV (i.den ρ) (x.den ρ) (π b).1 (code.conc ρ π):=rfl
def CoreRet(W:World)(i x:Int)(e:Ending)(w':World):Prop:=∃ B0 B1 u,e=.returned (.tuple #[.pointer (some ⟨B1,0,none⟩),.int .i64 0])∧W.heap.size≤B0∧W.heap.size≤B1∧B0≠B1∧w'.heap[B0]?=some (.cells bufV.toArray 175 (0,0))∧w'.heap[B1]?=some (.cells (coreV i x B0 u).toArray 147 (0,0))∧Below W.heap.size W w'
noncomputable def coreLook(bN cN:Nat)(code:V)(v:V)(st:St):Bool:=match V.beq v (.tuple [.ptr cN 0,.int .i64 (.lit 0)]),Nat.beq bN cN,st.h.get bN,st.h.get cN with
 | true,false,some (.cells b tb none),some (.cells c tc none)=>match V.beqs b bufC,Nat.beq tb 175,V.beqs c (coreC (.var 61) (.var 60) bN code),Nat.beq tc 147 with
  | true,true,true,true=>true
  | _,_,_,_=>false
 | _,_,_,_=>false
def corePc(l:PC):PC:=[(.le (.lit 0) (.var 61),true),(.lt (.var 61) (.lit 4),true),(.le (.lit 0) (.var 60),true),(.le (.var 60) (.lit 4096),true)]++(l++[(.le (.lit 0) (.lit 7),true)])
noncomputable def coreRun(arg:V) (ws:List (Nat×SObj)) (l:PC) (bN cN:Nat) (code:V):Bool:=overR ((evT {cxD with sx:=true,js:=true} 4000).call 24 [.int .i64 (.var 61),arg,.int .i64 (.var 60)] (stRows LStart ws 8 (corePc l))) (coreLook bN cN code)
def emA:V:=.xslice true 7 (.lit 0) 1 (.lit 0) (.known (.var 51))
def opA:V:=.xslice true 7 (.lit 0) 1 (.var 50) (.known (.var 51))
def opW:List (Nat×SObj):=[(7,.warr 7 20 [.int .u32] (.var 50))]
def opL:PC:=[(.le (.lit 1) (.var 50),true),(.le (.var 50) (.lit 1024),true),(.le (.var 50) (.var 51),true)]
theorem core_nil:coreRun .nilslice [] [] 8 9 .nilslice=true:=by kernel_rfl
theorem core_empty:coreRun emA [] [(.le (.lit 0) (.var 51),true)] 9 10 (.slice 8 0 0 (.known 0))=true:=by kernel_rfl
theorem core_open:coreRun opA opW opL 10 11 (.xslice false 9 (.lit 0) 1 (.var 50) (.room (.var 50)))=true:=by kernel_rfl
def lgL:PC:=[(.lt (.lit 1024) (.var 50),true),(.le (.var 50) (.var 51),true)]
noncomputable def nilLook(v:V)(_:St):Bool:=V.beq v (.tuple [.nilptr,.int .i64 (.lit 2)])
theorem core_long:overR ((evT {cxD with sx:=true,js:=true} 4000).call 24 [.int .i64 (.var 61),opA,.int .i64 (.var 60)] (stRows LStart [] 8 (corePc lgL))) nilLook=true:=by kernel_rfl
def LongRet(W:World)(e:Ending)(w':World):Prop:=e=.returned (.tuple #[.pointer none,.int .i64 2])∧Below W.heap.size W w'
theorem tle{ρ:Env}{x y:X}(h:x.den ρ≤y.den ρ):(X.le x y).tt ρ=true:=by rw [tt_le];exact decide_eq_true h
theorem tlt{ρ:Env}{x y:X}(h:x.den ρ<y.den ρ):(X.lt x y).tt ρ=true:=by rw [tt_lt];exact decide_eq_true h
theorem pcNil{ρ:Env}:PcOk ρ []:=fun f hf=>by cases hf
theorem pcCons{ρ:Env}{x:X}{b:Bool}{pc:PC}(h:x.tt ρ=b)(hp:PcOk ρ pc):PcOk ρ ((x,b)::pc):=fun f hf=>by
 rcases List.mem_cons.1 hf with rfl | hf
 ·exact h
 ·exact hp f hf
theorem pcApp{ρ:Env}{p q:PC}(hp:PcOk ρ p)(hq:PcOk ρ q):PcOk ρ (p++q):=fun f hf=>(List.mem_append.1 hf).elim (hp f) (hq f)
section
variable {W:World} {ρ:Env} {πs:Pl} {ws:List (Nat×SObj)} {i x:Int}
theorem core_go(hw:RowsV ρ W ws 0 8 πs){l:PC} (hpc:PcOk ρ (corePc l)) {arg:V} {cv:Value} (ha:∀ π,arg.conc ρ π=cv) (hi:ρ.v 61=i) (hx:ρ.v 60=x) {bN cN:Nat} {code:V} (hr:coreRun arg ws l bN cN code=true):Calls Try.prog 24 #[.int .i64 i,cv,.int .i64 x] W (CoreRet W i x):=by
 unfold coreRun at hr
 rw [←evT_call] at hr
 obtain⟨v,st,hsel,hk⟩:=overR_sel (ρ:=ρ) hr
 have hs:SumOk Try.prog {cxD with sx:=true,js:=true} ρ:=sum_flags (c:=cxD) allD
 have hh:=here_rowsV (cx:={cxD with sx:=true,js:=true}) (ng:=0) rfl LStart_lt ro_nil heap_nil hw hpc
 have hargs:SaysL ρ (fun i=>i<8) πs [.int .i64 (.var 61),arg,.int .i64 (.var 60)] [.int .i64 i,cv,.int .i64 x]:=fun π _=>by
  show [Value.int .i64 (ρ.v 61),arg.conc ρ π,Value.int .i64 (ρ.v 60)]=_
  rw [ha,hi,hx]
 refine (ev_calls mixed_door tt_ok ft_ok hs hsel hh hargs Try.func24).mono fun e w' hp=>?_
 obtain⟨_,π1,g,c,rfl,hv⟩:=hp
 have hold:∀ i o,(stRows LStart ws 8 (corePc l)).h.get i=some o→o.froz=true:=fun i o hi=>by
  rcases winHeap_get hi with h | ⟨_,h⟩
  ·exact hw.froz _ h
  ·obtain⟨y,hy,rfl,rfl⟩:=roHeap_get h
   rfl
 have hnew:∀ i o,st.h.get i=some o→o.froz=false→W.heap.size≤(π1 i).1:=fun i o hi hf=>by
  rcases g.sub i o hi with h | ⟨i0,o0,h1,_,h2⟩
  ·exact h
  ·rw [h2 (hold i0 o0 h1)] at hf
   cases hf
 unfold coreLook at hk
 split at hk
 ·rename_i b tb c' tc e1 e2 e3 e4
  split at hk
  ·rename_i k1 k2 k3 k4
   have rep:=g.at_.rep π1 fun _ _=>rfl
   obtain⟨ob,o1,sp,o2,o3⟩:=rep.obj bN _ e3
   obtain⟨oc,p1,sq,p2,p3⟩:=rep.obj cN _ e4
   have s1:sp=[]:=by simpa [wideIs] using o3
   have s2:sq=[]:=by simpa [wideIs] using p3
   rw [o2,s1,List.append_nil,V.beqs_eq _ _ k1,bufC_conc,Nat.eq_of_beq_eq_true k2] at o1
   rw [p2,s2,List.append_nil,V.beqs_eq _ _ k3,coreC_conc,Nat.eq_of_beq_eq_true k4] at p1
   have hc:=(hv π1 fun _ _=>rfl).symm
   rw [V.beq_eq _ _ e1] at hc
   have q1:(X.var 61).den ρ=i:=hi
   have q2:(X.var 60).den ρ=x:=hx
   rw [q1,q2] at p1
   refine⟨(π1 bN).1,(π1 cN).1,code.conc ρ π1,by rw [hc];rfl,hnew bN _ e3 rfl,hnew cN _ e4 rfl,fun e=>?_,o1,p1,g.same.2.1,g.same.1,g.same.2.2,g.size,fun k hk=>g.keep k hk fun i o hi _=>hold i o hi⟩
   rcases rep.inj bN cN _ _ e3 e4 e with h | h
   ·rw [h,Nat.beq_refl] at e2
    cases e2
   ·cases h.1
  ·cases hk
 ·cases hk
end
def coreEnv(W:World)(i x n cap:Int)(a:Addr)(g:Nat→Int→Int):Env:=
 {b:=fun _=>false
  v:=fun k=>if k=60 then x else if k=61 then i else if k=50 then n else cap
  f1:=fun k=>g (k-20)
  f2:=fun _ _ _=>0,s:=fun _=>[],sf:=fun _ _=>[]
  ro:=fun k=>match Nat.ble 7 k with
   | true=>roW W a.block
   | false=>roW W k
  win:=fun _=>a}
section
variable {W:World} {i x:Int}
theorem hpcE(hi:0≤i∧i<4)(hx:0≤x∧x≤4096)(n cap:Int)(a:Addr)(g:Nat→Int→Int){l:PC} (h:PcOk (coreEnv W i x n cap a g) (l++[(.le (.lit 0) (.lit 7),true)])):PcOk (coreEnv W i x n cap a g) (corePc l):=pcCons (tle hi.1) (pcCons (tlt hi.2) (pcCons (tle hx.1) (pcCons (tle hx.2) h)))
theorem core_ret{cv:Value}(hf:Fit W cv)(hi:0≤i∧i<4)(hx:0≤x∧x≤4096):Calls Try.prog 24 #[.int .i64 i,cv,.int .i64 x] W (CoreRet W i x):=by
 have add0:∀ a:Addr,a.add 0=a:=fun a=>by simp [Addr.add]
 rcases hf with rfl | ⟨a,cap,rfl⟩ | ⟨a,n,cap,g,rfl,h1,h2,h3,hc⟩
 ·exact core_go (ρ:=coreEnv W i x 0 0 ⟨0,0,none⟩ fun _ _=>0) (πs:=πRows (coreEnv W i x 0 0 ⟨0,0,none⟩ fun _ _=>0) 0) ⟨(fun i hi=>absurd hi (Nat.not_lt_zero i)),(fun y hy=>by cases hy),by decide,(fun y hy=>by cases hy),fun y hy=>by cases hy⟩ (hpcE hi hx 0 0 _ _ (l:=[]) (pcCons rfl pcNil)) (fun π=>rfl) rfl rfl core_nil
 ·exact core_go (ρ:=coreEnv W i x 0 cap a fun _ _=>0) (πs:=πRows (coreEnv W i x 0 cap a fun _ _=>0) 0) ⟨(fun i hi=>absurd hi (Nat.not_lt_zero i)),(fun y hy=>by cases hy),by decide,(fun y hy=>by cases hy),fun y hy=>by cases hy⟩ (hpcE hi hx 0 cap a _ (l:=[(.le (.lit 0) (.var 51),true)]) (pcCons (tle (x:=.lit 0) (y:=.var 51) (show (0:Int)≤(cap:Int) from Int.natCast_nonneg cap)) (pcCons rfl pcNil))) (fun π=>by
   show Value.slice (some (a.add 0)) 0 ((cap:Int)).toNat=_
   rw [add0,Int.toNat_natCast]) rfl rfl core_empty
 ·exact core_go (ρ:=coreEnv W i x n cap a g) (πs:=πRows (coreEnv W i x n cap a g) 0) ⟨(fun i hi=>absurd hi (Nat.not_lt_zero i)),(fun y hy=>by
    obtain rfl:=List.mem_singleton.1 hy
    decide),by decide,(fun y hy=>by
    obtain rfl:=List.mem_singleton.1 hy
    rfl),fun y hy π hk=>by
    obtain rfl:=List.mem_singleton.1 hy
    exact⟨roW W a.block,hc.block,hc.is (t:=20) rfl rfl (fun c hc=>by
     match c,hc with
     | 0,_=>rfl) (by show ((n:Int)).toNat≤n;omega) (by rw [hk 7 (by decide)];rfl)⟩⟩
   (hpcE hi hx n cap a g (l:=opL) (pcCons (tle (x:=.lit 1) (y:=.var 50) (show (1:Int)≤n by omega)) (pcCons (tle (x:=.var 50) (y:=.lit 1024) (show (n:Int)≤1024 by omega)) (pcCons (tle (x:=.var 50) (y:=.var 51) (show (n:Int)≤cap by omega)) (pcCons rfl pcNil))))) (fun π=>by
   show Value.slice (some (a.add 0)) ((n:Int)).toNat ((cap:Int)).toNat=_
   rw [add0,Int.toNat_natCast,Int.toNat_natCast]) rfl rfl core_open
theorem long_ret{a:Addr}{n cap:Nat}(hn:1024<n∧n≤cap)(hi:0≤i∧i<4)(hx:0≤x∧x≤4096):Calls Try.prog 24 #[.int .i64 i,.slice (some a) n cap,.int .i64 x] W (LongRet W):=by
 have add0:∀ a:Addr,a.add 0=a:=fun a=>by simp [Addr.add]
 let ρ:Env:=coreEnv W i x n cap a fun _ _=>0
 have hw:RowsV ρ W [] 0 8 (πRows ρ 0):=⟨(fun i hi=>absurd hi (Nat.not_lt_zero i)),(fun y hy=>by cases hy),by decide,(fun y hy=>by cases hy),fun y hy=>by cases hy⟩
 have hpc:PcOk ρ (corePc lgL):=hpcE hi hx n cap a _ (l:=lgL) (pcCons (tlt (x:=.lit 1024) (y:=.var 50) (show (1024:Int)<n by omega)) (pcCons (tle (x:=.var 50) (y:=.var 51) (show (n:Int)≤cap by omega)) (pcCons rfl pcNil)))
 have hr:=core_long
 rw [←evT_call] at hr
 obtain⟨v,st,hsel,hk⟩:=overR_sel (ρ:=ρ) hr
 have hs:SumOk Try.prog {cxD with sx:=true,js:=true} ρ:=sum_flags (c:=cxD) allD
 have hh:=here_rowsV (cx:={cxD with sx:=true,js:=true}) (ng:=0) rfl LStart_lt ro_nil heap_nil hw hpc
 have hargs:SaysL ρ (fun i=>i<8) (πRows ρ 0) [.int .i64 (.var 61),opA,.int .i64 (.var 60)] [.int .i64 i,.slice (some a) n cap,.int .i64 x]:=fun π _=>by
  show [Value.int .i64 i,Value.slice (some (a.add 0)) ((n:Int)).toNat ((cap:Int)).toNat,Value.int .i64 x]=_
  rw [add0,Int.toNat_natCast,Int.toNat_natCast]
 refine (ev_calls mixed_door tt_ok ft_ok hs hsel hh hargs Try.func24).mono fun e w' hp=>?_
 obtain⟨_,π1,g,c,rfl,hv⟩:=hp
 refine⟨?_,g.same.2.1,g.same.1,g.same.2.2,g.size,fun k hk=>g.keep k hk fun i o hi _=>?_⟩
 ·rw [←hv π1 fun _ _=>rfl,V.beq_eq _ _ hk]
  rfl
 ·rcases winHeap_get hi with h | ⟨_,h⟩
  ·cases h
  ·obtain⟨y,hy,rfl,rfl⟩:=roHeap_get h
   rfl
end
end Go.Proofs.Ytfmfhnpkganobaa
namespace Go.Proofs.Ytfmfhnpkganobaa
open Go Go.Proofs Go.RowKit
def anys:Nat→Nat→List V
 | _,0=>[]
 | q,n+1=>.any q::anys (q+1) n
def FitAt(ρ:Env)(j:Nat):Prop:=∃ cs t fr cv,ρ.ro 8=.cells cs t fr∧cs[(ρ.win 8).off+j]?=some cv∧((ρ.v (110+j)=0∧(cv=.slice none 0 0∨(∃ (a:Addr) (cap:Nat),cv=.slice (some a) 0 cap)∨∃ cap:Nat,cv=.slice (some (ρ.win (10+j))) (ρ.v (52+2*j)).toNat cap∧1≤ρ.v (52+2*j)∧ρ.v (52+2*j)≤1024∧ρ.v (52+2*j)≤cap))∨(ρ.v (110+j)≠0∧∃ (a:Addr) (n cap:Nat),cv=.slice (some a) n cap∧1024<n∧n≤cap))
def coreAt(k0:Nat)(st:St)(j q:Nat):Bool:=match Nat.blt j k0,st.h.get 8,st.h.get (10+j) with
 | true,some (.win t c (.lit k) es),some (.warr _ _ [.int .u32] (.var n))=>match Nat.beq t 8,Nat.beq es 1,Nat.blt j k.toNat,Nat.beq n (52+2*j) with
  | true,true,true,true=>match c[j]? with
   | some (.any q')=>Nat.beq q q'
   | _=>false
  | _,_,_,_=>false
 | _,_,_=>false
def coreO(i x:X)(n:Nat):List (Nat×SObj):=[(n+1,.cells (coreC i x n (.any (n+2))) 147 none),(n,.cells bufC 175 none)]
noncomputable def coreS(k0:Nat)(args:List V)(st:St):R (V×St):=match args with
 | [.int .i64 (.lit (.ofNat j)),.any q,.int .i64 x]=>match coreAt k0 st j q,leL st.pc (.lit 0) x,leL st.pc x (.lit 4096) with
  | true,true,true=>.br (.eq (.var (110+j)) (.lit 0)) (.ok (.tuple [.ptr (st.n+1) 0,.int .i64 (.lit 0)],{h:=putO (coreO (.lit (.ofNat j)) x st.n) st.h,n:=st.n+3,pc:=st.pc})) (.ok (.tuple [.nilptr,.int .i64 (.lit 2)],st))
  | _,_,_=>.stuck "core.New"
 | _=>.stuck "core.New"
theorem coreS_ok{cx:Cx}{ρ:Env}{k0:Nat}(hk0:k0≤4)(hfit:∀ j,j<k0→FitAt ρ j):SumAt Try.prog cx ρ 24 (coreS k0):=by
 intro args st v st' hs S π0 w ac n hh ha
 unfold coreS at hs
 split at hs
 ·rename_i j q x
  split at hs
  ·rename_i h1 h2 h3
   have x0:(0:Int)≤x.den ρ:=leL_ok hh.pc h2
   have x1:x.den ρ≤4096:=leL_ok hh.pc h3
   have rep:=hh.at_.rep π0 fun _ _=>rfl
   unfold coreAt at h1
   split at h1
   ·rename_i t c k es e1 s n' hj g8 g10
    split at h1
    ·rename_i k1 k2 k3 k4
     split at h1
     ·rename_i q' hq
      have jk:j<k0:=Nat.le_of_ble_eq_true hj
      have j4:j<4:=by omega
      obtain rfl:=Nat.eq_of_beq_eq_true k1
      obtain rfl:=Nat.eq_of_beq_eq_true k2
      obtain rfl:=Nat.eq_of_beq_eq_true k4
      obtain rfl:=Nat.eq_of_beq_eq_true h1
      obtain⟨o8,a1,⟨_,_,cs,ty,fr,a2,a3⟩,a4⟩:=rep.obj _ _ g8
      have hcell:=a3 j (.any q) hq (by
       have:=Nat.le_of_ble_eq_true k3
       show j<((X.lit k).den ρ).toNat*1
       simp only [X.den]
       omega)
      rw [a2] at a4
      have hF:FitAt ρ j:=hfit j jk
      obtain⟨cs',ty',fr',cv,b1,b2,b3⟩:=hF
      rw [←a4] at b1
      obtain⟨rfl,_,_⟩:=Obj.cells.inj b1
      rw [hcell] at b2
      have hcv:(π0 q).3=cv:=Option.some.inj b2
      obtain⟨o10,c1,⟨c2,c3,cs2,ty2,fr2,c4,c5⟩,_⟩:=rep.obj _ _ g10
      have hacl:ac=[.int .i64 (j:Int),cv,.int .i64 (x.den ρ)]:=by
       rw [←ha π0 fun _ _=>rfl,←hcv]
       rfl
      rcases b3 with ⟨z0,b3⟩ | ⟨z0,a,n',cap,rfl,n1,n2⟩
      case inr=>
       have tf:(X.eq (.var (110+j)) (.lit 0)).tt ρ=false:=by rw [tt_eq];exact beq_eq_false_iff_ne.2 z0
       simp only [R.sel,tf,Bool.false_eq_true,if_false,Option.some.injEq,Prod.mk.injEq] at hs
       obtain⟨rfl,rfl⟩:=hs
       rw [hacl]
       refine (callsIn_wide.2 (long_ret (W:=w) (a:=a) ⟨n1,n2⟩ (i:=(j:Int)) (x:=x.den ρ) ⟨by omega,by omega⟩ ⟨x0,x1⟩)).mono fun e w' hp=>?_
       obtain⟨rfl,hb⟩:=hp
       exact post_below hh hb fun π=>rfl
      have tf:(X.eq (.var (110+j)) (.lit 0)).tt ρ=true:=by rw [tt_eq];exact beq_iff_eq.2 z0
      simp only [R.sel,tf,if_true,Option.some.injEq,Prod.mk.injEq] at hs
      obtain⟨rfl,rfl⟩:=hs
      have hfitw:Fit w cv:=by
       rcases b3 with h | ⟨a,cap,h⟩ | ⟨cap,h,h5,h6,h7⟩
       ·exact .inl h
       ·exact .inr (.inl ⟨a,cap,h⟩)
       ·refine .inr (.inr ⟨_,_,cap,fun c j=>ρ.f1 (s+c) j,h,by omega,by omega,by omega,c2,cs2,ty2,fr2,by rw [c3,c1,c4],fun j' c k hj' hk=>?_⟩)
        have:=c5 j' c k hj' hk
        match c,hk with
        | 0,hk=>
         obtain rfl:=Option.some.inj hk
         exact this
      have key:=core_ret (W:=w) hfitw (i:=(j:Int)) (x:=x.den ρ) ⟨by omega,by omega⟩ ⟨x0,x1⟩
      rw [hacl]
      refine (callsIn_wide.2 key).mono fun e w' hp=>?_
      obtain⟨B0,B1,u,rfl,d1,d2,d3,d4,d5,hb⟩:=hp
      let π1:Pl:=fun i=>if i<st.n then π0 i else if i=st.n then ⟨B0,0,.nilFunc⟩ else if i=st.n+1 then ⟨B1,0,.nilFunc⟩ else ⟨0,0,u⟩
      have p0:π1 st.n=⟨B0,0,.nilFunc⟩:=by
       show (if st.n<st.n then _ else if st.n=st.n then _ else _)=_
       rw [if_neg (by omega),if_pos rfl]
      have p1:π1 (st.n+1)=⟨B1,0,.nilFunc⟩:=by
       show (if st.n+1<st.n then _ else if st.n+1=st.n then _ else if st.n+1=st.n+1 then _ else _)=_
       rw [if_neg (by omega),if_neg (by omega),if_pos rfl]
      have p2:π1 (st.n+2)=⟨0,0,u⟩:=by
       show (if st.n+2<st.n then _ else if st.n+2=st.n then _ else if st.n+2=st.n+1 then _ else _)=_
       rw [if_neg (by omega),if_neg (by omega),if_neg (by omega)]
      refine post_new (π1:=π1) hh hb (fun i hi=>if_pos hi) (by omega) (fun y hy=>?_) (fun y hy z hz e=>?_) fun π hk=>?_
      ·simp only [coreO,List.mem_cons,List.not_mem_nil,or_false] at hy
       rcases hy with rfl | rfl
       ·refine⟨by dsimp only;omega,by dsimp only;omega,by dsimp only;rw [p1];exact d2,fun π hk=>⟨_,by dsimp only;rw [p1];exact d5,[],?_,rfl⟩⟩
        rw [coreC_conc,List.append_nil,hk st.n (by omega) (by omega),p0]
        show _=Obj.cells (coreV _ _ _ (π (st.n+2)).3).toArray _ _
        rw [hk (st.n+2) (by omega) (by omega),p2]
        rfl
       ·refine⟨by dsimp only;omega,by dsimp only;omega,by dsimp only;rw [p0];exact d1,fun π hk=>⟨_,by dsimp only;rw [p0];exact d4,[],?_,rfl⟩⟩
        rw [bufC_conc,List.append_nil]
      ·simp only [coreO,List.mem_cons,List.not_mem_nil,or_false] at hy hz
       rcases hy with rfl | rfl<;>rcases hz with rfl | rfl
       ·rfl
       ·dsimp only at e ⊢
        rw [p0,p1] at e
        exact (d3 e.symm).elim
       ·dsimp only at e ⊢
        rw [p0,p1] at e
        exact (d3 e).elim
       ·rfl
      ·show Value.tuple #[.pointer (some ⟨(π (st.n+1)).1,0,none⟩),.int .i64 0]=_
       rw [hk (st.n+1) (by omega) (by omega),p1]
     ·cases h1
    ·cases h1
   ·cases h1
  ·simp [R.sel] at hs
 ·simp [R.sel] at hs
end Go.Proofs.Ytfmfhnpkganobaa
