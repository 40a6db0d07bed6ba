/- WatchWrong: known, vast, bytes.Equal as summaries; the law's cases. No condition. -/
import Derived.Test.YtfmfhnpkganobaaZVa
import Derived.Test.YtfmfhnpkganobaaFwH
namespace Go.Proofs.Ytfmfhnpkganobaa
open Go Go.Proofs Go.ChangeShapes Go.WideShapes Go.ChangeAt Go.RowKit
def knR:R Leaf:=(.ok {v:=(.bool (.lit 1)),objs:=[],n:=39})
noncomputable def cxF:Cx:={cxD with sx:=true,js:=true}
set_option maxRecDepth 100000 in
theorem kn_0:leafOf LStart 0 ((evT cxF 4000).call 6 [] (stG LStart 0))=knR:=by kernel_rfl
def knT:List (List V×R Leaf):=[([],knR)]
theorem knT_ok:TabOk cxF LStart 0 4000 6 knT:=.cons rfl (by rw [evT_call];exact kn_0) .nil
theorem allF{ρ:Env}:SumOk Try.prog cxF ρ:=sum_flags (c:=cxD) allD
theorem knAt{cx:Cx}{ρ:Env}(hng:cx.ng=0):SumAt Try.prog cx ρ 6 (sumTab LStart 0 knT):=sumTab_ok (cx0:=cxF) mixed_door tt_ok ft_ok allF hng rfl LStart_lt ro_nil Try.func6 knT_ok
def rowOk(row:Bool)(st:St):Bool:=match row with
 | false=>true
 | true=>match st.h.get 8 with
  | some (.win t _ _ _)=>Nat.beq t 8
  | _=>false
noncomputable def vastS(arg lv:V)(row:Bool)(args:List V)(st:St):R (V×St):=match V.beqs args [arg,lv],rowOk row st with
 | true,true=>.ok (.bool (.eq (.var 68) (.lit 1)),st)
 | _,_=>.stuck "vast"
theorem vastS_ok{cx:Cx}{ρ:Env}{d:GD}{z row:Bool}{arg lv:V}(harg:∀ π,arg.conc ρ π=d.setup z)(hlv:∀ π,lv.conc ρ π=d.chs)(hz:z=true→d.k=0)(hrow:row=false→d.k=0)
  (hrow':row=true→d.Row∧ρ.win 8=d.a∧ρ.ro 8=roW d.W d.a.block) (h68:ρ.v 68=b2i (d.vb z)):SumAt Try.prog cx ρ 5 (vastS arg lv row):=by
 intro args st v st' hs S π0 w ac n hh ha
 unfold vastS at hs
 split at hs
 ·rename_i h1 h2
  simp only [R.sel,Option.some.injEq,Prod.mk.injEq] at hs
  obtain⟨rfl,rfl⟩:=hs
  have rep:=hh.at_.rep π0 fun _ _=>rfl
  have hR:1≤d.k→d.Row∧w.heap[d.a.block]?=some (roW d.W d.a.block):=fun k1=>by
   cases row with
   | false=>have:=hrow rfl;omega
   | true=>
    obtain⟨R,e1,e2⟩:=hrow' rfl
    unfold rowOk at h2
    dsimp only at h2
    split at h2
    ·rename_i t' c len es g8
     obtain⟨o8,a1,⟨a2,a3,_⟩,a4⟩:=rep.obj _ _ g8
     obtain rfl:=Nat.eq_of_beq_eq_true h2
     rw [e1] at a2 a3
     exact⟨R,by rw [a4,e2,←a3] at a1;exact a1⟩
    ·cases h2
  have key:=vast_ret (W:=w) (d:=d) z hz hR
  have hac:ac.toArray=#[d.setup z,d.chs]:=by
   rw [←ha π0 fun _ _=>rfl,V.beqs_eq _ _ h1]
   show [arg.conc ρ π0,lv.conc ρ π0].toArray=_
   rw [harg,hlv]
  rw [hac]
  refine (callsIn_wide.2 key).mono fun e w' hp=>?_
  obtain⟨rfl,hbl⟩:=hp
  refine post_below hh hbl fun π=>?_
  show Value.bool ((X.eq (.var 68) (.lit 1)).tt ρ)=_
  rw [tt_eq]
  show Value.bool (ρ.v 68==1)=_
  rw [h68]
  cases d.vb z<;>rfl
 ·simp [R.sel] at hs
def putX:X:=.bits 2 .u8 (.wrap .u8 (.fn1 200 (.var 96))) (.lit 1)
def wkL:List (A×List CK×X×Nat):=[(.put (.base 200) (.var 96) 0 putX,[.int .u8],.var 50,210)]
def seqF:X:=.seq (.btext 200 (.lit 0) (.var 50)) (.btext 210 (.lit 0) (.var 50))
def eqSt(b:Nat)(st:St):St:=match weakAt wkL b st with
 | st1=>{st1 with pc:=(seqF,false)::st1.pc}
noncomputable def outV:EOut→R (V×St)
 | .ok (.ret v,st)=>.ok (v,st)
 | .ok (.panic _,_)=>.stuck "panic"
 | .br c t f=>.br c (outV t) (outV f)
 | .stuck s=>.stuck s
theorem outV_sel{ρ:Env}{v:V}{st:St}:∀ {r:EOut},(outV r).sel ρ=some (v,st)→r.sel ρ=some (.ret v,st)
 | .ok (.ret v',st'),h=>by
  simp only [outV,R.sel,Option.some.injEq,Prod.mk.injEq] at h
  obtain⟨rfl,rfl⟩:=h
  rfl
 | .ok (.panic _,_),h=>by simp [outV,R.sel] at h
 | .br c t f,h=>by
  simp only [outV,R.sel] at h ⊢
  split
  ·rename_i hc
   rw [if_pos hc] at h
   exact outV_sel h
  ·rename_i hc
   rw [if_neg hc] at h
   exact outV_sel h
 | .stuck _,h=>by simp [outV,R.sel] at h
noncomputable def equalS(args:List V)(st:St):R (V×St):=match args with
 | [.xslice false b o es l c,.xslice false b' o' es' l' c']=>match leL st.pc (.lit 0) (.var 96),leL st.pc (.var 96) (.sub (.var 50) (.lit 1)) with
  | true,true=>outV ((evT cxF 4000).call 37 [.xslice false b o es l c,.xslice false b' o' es' l' c'] (eqSt b' st))
  | _,_=>.stuck "equal"
 | _=>.stuck "equal"
def TurnOk(ρ:Env):Prop:=∀ j:Int,ρ.f1 210 j=if j=ρ.v 96 then putX.den ρ else ρ.f1 200 j
theorem xor_ne:∀ b:Fin 256,bitsI 2 .u8 (IntKind.u8.wrap (b.val:Int)) 1≠IntKind.u8.wrap (b.val:Int):=by decide +kernel
theorem u8_in(z:Int):0≤IntKind.u8.wrap z∧IntKind.u8.wrap z<256:=by
 simp [IntKind.wrap,IntKind.bits,IntKind.signed]
 omega
theorem u8_id{z:Int}(h:0≤z∧z<256):IntKind.u8.wrap z=z:=by
 simp [IntKind.wrap,IntKind.bits,IntKind.signed]
 omega
theorem seq_ne{ρ:Env}(ht:TurnOk ρ)(h1:0≤ρ.v 96)(h2:ρ.v 96<ρ.v 50):seqF.tt ρ=false:=by
 unfold seqF
 rw [X.tt,X.den,b2i_tt]
 refine beq_eq_false_iff_ne.2 fun e=>?_
 have e:rowText ρ 200 0 (ρ.v 50).toNat=rowText ρ 210 0 (ρ.v 50).toNat:=e
 unfold rowText at e
 have e1:=congrArg (fun l=>l[(ρ.v 96).toNat]?) e
 have hlt:(ρ.v 96).toNat<(ρ.v 50).toNat:=by omega
 simp only [List.getElem?_map,List.getElem?_range hlt,Option.map_some,Option.some.injEq,Int.zero_add] at e1
 have ej:(((ρ.v 96).toNat:Nat):Int)=ρ.v 96:=by omega
 rw [ej,ht (ρ.v 96),if_pos rfl] at e1
 have h3:=u8_in (ρ.f1 200 (ρ.v 96))
 have hb:=xor_ne ⟨(IntKind.u8.wrap (ρ.f1 200 (ρ.v 96))).toNat,by omega⟩
 have e3:(((IntKind.u8.wrap (ρ.f1 200 (ρ.v 96))).toNat:Nat):Int)=IntKind.u8.wrap (ρ.f1 200 (ρ.v 96)):=by omega
 dsimp only at hb
 rw [e3,u8_id h3] at hb
 have e4:putX.den ρ=bitsI 2 .u8 (IntKind.u8.wrap (ρ.f1 200 (ρ.v 96))) 1:=rfl
 rw [e4] at e1
 have h5:∀ z:Int,IntKind.u8.wrap (bitsI 2 .u8 z 1)=bitsI 2 .u8 z 1:=fun z=>u8_id (u8_in _)
 rw [h5] at e1
 have h6:=u8_in (((BitVec.ofInt IntKind.u8.bits (IntKind.u8.wrap (ρ.f1 200 (ρ.v 96))) ^^^ BitVec.ofInt IntKind.u8.bits 1).toNat:Nat):Int)
 have e5:bitsI 2 .u8 (IntKind.u8.wrap (ρ.f1 200 (ρ.v 96))) 1=IntKind.u8.wrap (((BitVec.ofInt IntKind.u8.bits (IntKind.u8.wrap (ρ.f1 200 (ρ.v 96))) ^^^ BitVec.ofInt IntKind.u8.bits 1).toNat:Nat):Int):=rfl
 have h7:0≤bitsI 2 .u8 (IntKind.u8.wrap (ρ.f1 200 (ρ.v 96))) 1∧bitsI 2 .u8 (IntKind.u8.wrap (ρ.f1 200 (ρ.v 96))) 1<256:=by rw [e5];exact h6
 refine hb ?_
 have e6:=congrArg UInt8.toNat e1
 rw [UInt8.toNat_ofNat_of_lt' (by show _<256;omega),UInt8.toNat_ofNat_of_lt' (by show _<256;omega)] at e6
 omega
theorem wkL_ok{ρ:Env}(ht:TurnOk ρ):WeakOk ρ wkL:=by
 intro x hx j c k hj hk
 obtain rfl:=List.mem_singleton.1 hx
 match c,hk with
 | 0,hk=>
  obtain rfl:=Option.some.inj hk
  show Value.int .u8 (if (0:Nat)=0∧(j:Int)=ρ.v 96 then putX.den ρ else IntKind.u8.wrap (ρ.f1 200 j))=Value.int .u8 (IntKind.u8.wrap (ρ.f1 210 j))
  rw [ht]
  by_cases e:(j:Int)=ρ.v 96
  ·rw [if_pos ⟨rfl,e⟩,if_pos e]
   have e4:putX.den ρ=IntKind.u8.wrap (((BitVec.ofInt IntKind.u8.bits (IntKind.u8.wrap (ρ.f1 200 (ρ.v 96))) ^^^ BitVec.ofInt IntKind.u8.bits 1).toNat:Nat):Int):=rfl
   rw [e4,u8_id (u8_in _)]
  ·rw [if_neg fun h=>e h.2,if_neg e]
theorem equalS_ok{cx:Cx}{ρ:Env}(hng:cx.ng=0)(ht:TurnOk ρ):SumAt Try.prog cx ρ 37 equalS:=by
 refine SumAt.via fun args st v st' hs hpc=>?_
 unfold equalS at hs
 split at hs
 ·rename_i b o es l c b' o' es' l' c'
  split at hs
  ·rename_i h1 h2
   have k1:(0:Int)≤ρ.v 96:=leL_ok hpc h1
   have k2:ρ.v 96≤ρ.v 50-1:=leL_ok hpc h2
   have lw:=weakAt_less (wkL_ok ht) b' (st:=st) hpc
   have hn:(weakAt wkL b' st).n=st.n:=by
    unfold weakAt
    split
    ·split<;>rfl
    ·rfl
   refine⟨fun a s=>outV ((ev cxF 4000).call 37 a s),_,eqSt b' st,v,st',fun args st v st' hs S π0 w ac n hh ha=>?_,fun _=>rfl,⟨fun h=>?_,?_,fun i o h=>lw.h i o h⟩,hn,by rw [evT_call];exact hs,fun _=>rfl,.refl _⟩
   ·have hh':Here cxF ρ S π0 st w:=⟨hh.pc,hh.at_,(fun g hg=>absurd hg (Nat.not_lt_zero g)),hh.fresh⟩
    exact (ev_ok mixed_door tt_ok ft_ok allF 4000).2.2 37 args _ _ (outV_sel hs) S π0 w ac n hh' ha ⟨_,Try.func37⟩
   ·exact pcCons (seq_ne ht k1 (by omega)) (lw.pc h)
   ·exact lw.n
  ·simp [R.sel] at hs
 ·simp [R.sel] at hs
def GD.op(d:GD)(j:Nat):Bool:=match d.nilc j with
 | true=>false
 | false=>Nat.ble 1 (d.n j)
def GD.at'(d:GD)(j:Nat):Addr:=match d.op j with
 | true=>d.p j
 | false=>d.a
def lWin(d:GD)(i:Nat):Addr:=if i=7 then d.mp else if i=8 then d.a else if i=9 then d.la else d.at' (i-10)
noncomputable def lEnv(d:GD)(z:Bool)(gm:Nat→Int→Int)(gc:Nat→Nat→Int→Int):Env:=
 {b:=fun _=>false
  v:=fun i=>if i=50 then d.ml else if i=51 then d.mc else if i=90 then d.w else if i=91 then d.s else if i=92 then d.cap else if i=93 then d.k else if i=94 then d.ll else if i=95 then d.lc else if i=96 then d.at_ else if i=68 then b2i (d.vb z) else if 110≤i then (if 1024<d.len (i-110) then 1 else 0) else d.len ((i-52) / 2)
  f1:=fun i=>if i=210 then fun j=>if j=d.at_ then bitsI 2 .u8 (IntKind.u8.wrap (gm 0 d.at_)) 1 else gm 0 j else if i<300 then gm (i-200) else gc ((i-300) / 10) (i % 10)
  f2:=fun _ _ _=>0,s:=fun _=>[],sf:=fun _ _=>[]
  ro:=fun i=>match Nat.ble 7 i with
   | true=>roW d.W (lWin d i).block
   | false=>roW d.W i
  win:=lWin d}
def lPl(d:GD)(i:Nat):Pc:=if 20≤i∧i<26 then ⟨0,0,d.cell (i-20)⟩ else match Nat.ble 7 i with
 | true=>⟨(lWin d i).block,0,.nilFunc⟩
 | false=>⟨i,0,.nilFunc⟩
def mV:Nat→V
 | 0=>.nilslice
 | 1=>.xslice true 7 (.lit 0) 1 (.lit 0) (.known (.var 51))
 | _=>.xslice true 7 (.lit 0) 1 (.var 50) (.known (.var 51))
def mPc:Nat→PC
 | 0=>[]
 | 1=>[(.le (.lit 0) (.var 51),true)]
 | _=>[(.le (.lit 1) (.var 50),true),(.le (.var 50) (.var 51),true)]
def mR:Nat→List (Nat×SObj)
 | 0=>[]
 | 1=>[]
 | _=>[(7,.warr 7 200 [.int .u8] (.var 50))]
def kV:Nat→V
 | 0=>.nilslice
 | 1=>.wslice 8 0 (.lit 0) (.var 92)
 | 6=>.wslice 8 0 (.var 93) (.var 92)
 | k+1=>.wslice 8 0 (.lit (.ofNat k)) (.var 92)
def wR:Nat→List (Nat×SObj)
 | 0=>[]
 | k+1=>wR k++[(10+k,.warr (10+k) (300+10*k) [.int .u32] (.var (52+2*k)))]
def kR:Nat→List (Nat×SObj)
 | 0=>[]
 | 1=>[]
 | 6=>[(8,.win 8 [] (.var 93) 1)]
 | k+1=>(8,.win 8 (anys 20 k) (.lit (.ofNat k)) 1)::wR k
def pow:Nat→Int
 | 0=>1
 | 1=>2
 | 2=>4
 | 3=>8
 | 4=>16
 | 5=>32
 | _=>64
def sX:Nat→X
 | 0=>.var 91
 | 1=>.var 91
 | 2=>.var 91
 | 3=>.var 91
 | s+4=>.lit (pow s)
def sPc:Nat→PC
 | 0=>[]
 | 1=>[(.lt (.var 91) (.lit 1),true)]
 | 2=>[(.lt (.var 91) (.lit 1),false),(.lt (.lit 64) (.var 91),true)]
 | 3=>[(.lt (.var 91) (.lit 1),false),(.lt (.lit 64) (.var 91),false),(.eq (.bits 0 .i64 (.var 91) (.sub (.var 91) (.lit 1))) (.lit 0),false)]
 | _=>[]
def fPc(b:Bool):PC:=match b with
 | true=>[(.lt (.lit 4) (.var 93),true)]
 | false=>[]
def argV(codes mem:V)(sets:X):V:=.agg [codes,mem,.int .i64 sets,.int .i64 (.var 90)]
def hasR:Nat→Bool
 | 0=>false
 | 1=>false
 | _=>true
noncomputable def smV(k:Nat)(arg lv:V)(row:Bool):List (FuncId×(List V→St→R (V×St))):=[(6,sumTab LStart 0 knT),(24,coreS k),(5,vastS arg lv row),(37,equalS)]
noncomputable def cxV(k:Nat)(arg lv:V)(row:Bool):Cx:={cxD with sm:=smOf (smV k arg lv row),sx:=true,mg:=false,js:=true}
def k0(c:Nat):Nat:=match c with
 | 6=>0
 | c=>c-1
noncomputable def runW(lz:Bool)(c i s:Nat):Bool:=allChkX ((evT (cxV (k0 c) (argV (kV c) (mV i) (sX s)) (gCh lz) (hasR c)) 4000).call 3 [argV (kV c) (mV i) (sX s),gCh lz,.int .i64 (.var 96)] (stRows LStart (mR i++kR c) 26 (mPc i++(fPc (Nat.beq c 6&&Nat.beq i 2)++(sPc s++[(.le (.lit 0) (.lit 7),true)])))))
end Go.Proofs.Ytfmfhnpkganobaa
