/- AloneReserves: the law's code, its cases. No condition. -/
import Derived.Test.YtmickljjofbmiaaGreatDoorPEnv
set_option maxRecDepth 100000
namespace Go.Proofs.YtmickljjofbmiaaGreatDoor
open Go Go.Proofs Go.ChangeShapes Go.WideShapes Go.ChangeAt Go.RowKit
def bX(z:X)(c:Int):X:=.bits 1 .u32 (.lit c) (.mul (.mul (.rem z (.lit 2)) (.lit 2)) (.lit 32768))
def sX(z:X)(k:Int):X:=.eq (.rem z (.lit 6)) (.lit k)
def wdX(z:X):X:=.ite (sX z 0) (bX z 268444591) (.ite (sX z 1) (bX z 268444591) (.ite (sX z 2) (bX z 404759599) (.ite (sX z 3) (bX z 404759599) (bX z 2105379))))
def wX(i:Nat):X:=wdX (.wrap .u8 (.fn1 21 (.lit (.ofNat i))))
def codesP:Nat→Nat→List V
 | _,0=>[]
 | i,n+1=>u32 (wX i)::codesP (i+1) n
def codeP(n:Nat):List V:=u32 (.lit 4194579)::codesP 0 n
def bI(z c:Int):Int:=bitsI 1 .u32 c (z.tmod 2*2*32768)
def wI(z:Int):Int:=if b2i (z.tmod 6==0)==0 then (if b2i (z.tmod 6==1)==0 then (if b2i (z.tmod 6==2)==0 then (if b2i (z.tmod 6==3)==0 then bI z 2105379 else bI z 404759599) else bI z 404759599) else bI z 268444591) else bI z 268444591
def gcP(g:Int→Int)(j:Int):Int:=if j=0 then 4194579 else wI (IntKind.u8.wrap (g (j-1)))
theorem wrap32{z:Int}(h:0≤z∧z<4294967296):IntKind.u32.wrap z=z:=by
 simp [IntKind.wrap,IntKind.bits,IntKind.signed]
 omega
theorem wrap_in32(z:Int):0≤IntKind.u32.wrap z∧IntKind.u32.wrap z<4294967296:=by
 simp [IntKind.wrap,IntKind.bits,IntKind.signed]
 omega
theorem wI_in(z:Int):0≤wI z∧wI z<4294967296:=by
 have h:∀ c,0≤bI z c∧bI z c<4294967296:=fun c=>wrap_in32 _
 unfold wI
 repeat' split
 all_goals exact h _
theorem codesP_get{ρ:Env}{π:Pl}:∀ {n i j:Nat},j<n→(V.concs ρ π (codesP i n))[j]?=some (.int .u32 (wI (IntKind.u8.wrap (ρ.f1 21 ((i+j:Nat):Int)))))
 | n+1,i,0,_=>rfl
 | n+1,i,j+1,h=>by
  show (V.concs ρ π (codesP (i+1) n))[j]?=_
  rw [codesP_get (by omega),show i+1+j=i+(j+1) by omega]
theorem codesP_len{ρ:Env}{π:Pl}:∀ {n i:Nat},(V.concs ρ π (codesP i n)).length=n
 | 0,_=>rfl
 | n+1,i=>by
  show (V.concs ρ π (codesP (i+1) n)).length+1=_
  rw [codesP_len]
structure RsvOk (n:Nat) (ρ:Env):Prop where
 v40:ρ.v 40=((n+1:Nat):Int)
 v42:ρ.v 42=0
 v43:ρ.v 43=60
 v50:ρ.v 50=16
 code:ρ.f1 10=gcP (ρ.f1 21)
 mem:ρ.f1 20=fun _=>0
theorem less_set{ρ:Env}{st:St}{b:Nat}{o o':SObj}(hg:st.h.get b=some o)(hi:∀ π ob,o.is ρ π b ob→o'.is ρ π b ob)(hf:o.froz=o'.froz):Less ρ st {st with h:=st.h.set b o'}:=by
 refine⟨fun h=>h,Nat.le_refl _,fun i q hq=>?_⟩
 by_cases e:i=b
 ·subst e
  dsimp only at hq
  rw [T.get_set_same] at hq
  obtain rfl:=Option.some.inj hq
  exact⟨_,hg,hi,hf⟩
 ·dsimp only at hq
  rw [T.get_set_other _ _ (fun q=>e q.symm)] at hq
  exact⟨q,hq,fun _ _ h=>h,rfl⟩
def arrP(e:TypeId):SObj:=.arr (.base 10) [.int .u32] (.var 40) e false
def recP(n b:Nat)(st:St):Option St:=match st.h.get b with
 | some (.cells c e (some 1))=>match V.beqs c (codeP n) with
  | true=>some {st with h:=st.h.set b (arrP e)}
  | false=>none
 | some o=>match o with
  | .arr _ _ _ _ _=>some st
  | _=>none
 | none=>none
def z16:Nat→List V
 | 0=>[]
 | n+1=>.int .u8 (.lit 0)::z16 n
theorem z16_get{ρ:Env}{π:Pl}:∀ {n j:Nat},j<n→(V.concs ρ π (z16 n))[j]?=some (Value.int .u8 0)
 | n+1,0,_=>rfl
 | n+1,j+1,h=>z16_get (n:=n) (by omega)
def arrZ(e:TypeId):SObj:=.arr (.base 20) [.int .u8] (.var 50) e false
def recZ(b:Nat)(st:St):Option St:=match st.h.get b with
 | some (.cells c e none)=>match V.beqs c (z16 16) with
  | true=>some {st with h:=st.h.set b (arrZ e)}
  | false=>none
 | _=>none
def zSl(b:Nat):V:=.slice b 0 16 (.known 16)
def zXs(b:Nat):V:=.xslice false b (.lit 0) 1 (.var 50) (.known (.var 50))
def recI(b:Nat)(st:St):Option St:=match st.h.get b with
 | some (.cells [.slice z o k c] e none)=>match V.beqs [.slice z o k c] [zSl z],recZ z st with
  | true,some st1=>match st1.h.get b with
   | some q=>match q.beq (.cells [.slice z o k c] e none) with
    | true=>some {st1 with h:=st1.h.set b (.cells [zXs z] e none)}
    | false=>none
   | none=>none
  | _,_=>none
 | _=>none
def cdP(n b:Nat):V:=.slice b 0 (n+1) (.room b 0 (n+1))
def cdX(b:Nat):V:=.xslice false b (.lit 0) 1 (.var 40) (.room (.var 40))
def runP(n:Nat) (s:List V→St→R (V×St)) (args:List V) (st:St):R (V×St):=match args with
 | [.slice b o k c,.ptr m q,x,y]=>match V.beqs [.slice b o k c,.ptr m q,x,y] [cdP n b,.ptr m 0,i64 (.lit 0),i64 (.lit 60)],recP n b st with
  | true,some st1=>match recI m st1 with
   | some st2=>s [cdX b,.ptr m 0,i64 (.var 42),i64 (.var 43)] st2
   | none=>.stuck "image"
  | _,_=>.stuck "code"
 | _=>.stuck "code"
def refP(n:Nat) (s:List V→St→R (V×St)) (args:List V) (st:St):R (V×St):=match args with
 | [.slice b o k c,.slice z o' k' c',x,y]=>match V.beqs [.slice b o k c,.slice z o' k' c',x,y] [cdP n b,zSl z,i64 (.lit 0),i64 (.lit 60)],recP n b st with
  | true,some st1=>match recZ z st1 with
   | some st2=>s [cdX b,zXs z,i64 (.var 42),i64 (.var 43)] st2
   | none=>.stuck "bytes"
  | _,_=>.stuck "code"
 | _=>.stuck "code"
section
variable {n:Nat} {ρ:Env} (h:RsvOk n ρ)
include h
theorem recP_less{b:Nat}{st st1:St}(hr:recP n b st=some st1):Less ρ st st1∧st1.n=st.n:=by
 unfold recP at hr
 split at hr
 ·rename_i c e hg
  split at hr
  ·rename_i hb
   obtain rfl:=Option.some.inj hr
   refine⟨less_set hg (fun π ob ho=>?_) rfl,rfl⟩
   rw [V.beqs_eq _ _ hb] at ho
   obtain⟨sp,h1,_⟩:=ho
   have hl:(V.concs ρ π (codeP n)).length=n+1:=by
    show (V.concs ρ π (codesP 0 n)).length+1=_
    rw [codesP_len]
   refine⟨V.concs ρ π (codeP n)++sp,h1,?_,(fun h=>by cases h),fun j c k hj hk=>?_⟩
   ·show (ρ.v 40).toNat*1≤_
    rw [h.v40,List.length_append,hl]
    omega
   ·have hj:j<(ρ.v 40).toNat:=hj
    rw [h.v40] at hj
    match c,hk with
    | 0,hk=>
     obtain rfl:=Option.some.inj hk
     show (V.concs ρ π (codeP n)++sp)[j*1+0]?=some (Value.int .u32 (IntKind.u32.wrap (ρ.f1 10 j)))
     rw [h.code,Nat.mul_one,Nat.add_zero,List.getElem?_append_left (by rw [hl];omega)]
     match j,hj with
     | 0,_=>rfl
     | j+1,hj=>
      show (V.concs ρ π (codesP 0 n))[j]?=_
      rw [codesP_get (by omega)]
      have e:gcP (ρ.f1 21) (((j+1:Nat)):Int)=wI (IntKind.u8.wrap (ρ.f1 21 ((0+j:Nat):Int))):=by
       unfold gcP
       rw [if_neg (by omega),show (((j+1:Nat)):Int)-1=((0+j:Nat):Int) by omega]
      rw [e,wrap32 (wI_in _)]
  ·cases hr
 ·split at hr
  ·obtain rfl:=Option.some.inj hr
   exact⟨.refl _,rfl⟩
  ·cases hr
 ·cases hr
theorem recZ_less{b:Nat}{st st1:St}(hr:recZ b st=some st1):Less ρ st st1∧st1.n=st.n:=by
 unfold recZ at hr
 split at hr
 ·rename_i c e hg
  split at hr
  ·rename_i hb
   obtain rfl:=Option.some.inj hr
   refine⟨less_set hg (fun π ob ho=>?_) rfl,rfl⟩
   rw [V.beqs_eq _ _ hb] at ho
   obtain⟨sp,h1,h2⟩:=ho
   have h2:sp=[]:=h2
   rw [h2,List.append_nil] at h1
   refine⟨_,h1,?_,(fun h=>by cases h),fun j c k hj hk=>?_⟩
   ·show (ρ.v 50).toNat*1≤16
    rw [h.v50]
    decide
   ·have hj:j<(ρ.v 50).toNat:=hj
    rw [h.v50] at hj
    have hj:j<16:=hj
    match c,hk with
    | 0,hk=>
     obtain rfl:=Option.some.inj hk
     show (V.concs ρ π (z16 16))[j*1+0]?=some (Value.int .u8 (IntKind.u8.wrap (ρ.f1 20 j)))
     rw [h.mem,Nat.mul_one,Nat.add_zero]
     exact z16_get hj
  ·cases hr
 ·cases hr
theorem zXs_conc{b:Nat}{π:Pl}:(zXs b).conc ρ π=(zSl b).conc ρ π:=by
 show Value.slice (some ⟨(π b).1,0*1,none⟩) (ρ.v 50).toNat (ρ.v 50).toNat=Value.slice (some ⟨(π b).1,0,none⟩) 16 16
 rw [h.v50]
 rfl
theorem cdX_conc{b:Nat}{π:Pl}:(cdX b).conc ρ π=(cdP n b).conc ρ π:=by
 show Value.slice (some ⟨(π b).1,0*1,none⟩) (ρ.v 40).toNat (max (π b).2 (ρ.v 40).toNat-0)=Value.slice (some ⟨(π b).1,0,none⟩) (n+1) (max ((π b).2-0) (n+1))
 rw [h.v40,Int.toNat_natCast]
 rfl
theorem recI_less{b:Nat}{st st1:St}(hr:recI b st=some st1):Less ρ st st1∧st1.n=st.n:=by
 unfold recI at hr
 split at hr
 ·rename_i z o k c e hg
  split at hr
  ·rename_i s1 hb hz
   obtain⟨l1,l2⟩:=recZ_less h hz
   split at hr
   ·rename_i q hq
    split at hr
    ·rename_i he
     obtain rfl:=Option.some.inj hr
     rw [SObj.beq_eq he] at hq
     refine⟨l1.trans (less_set hq (fun π ob ho=>?_) rfl),l2⟩
     rw [V.beqs_eq _ _ hb] at ho
     obtain⟨sp,h1,h2⟩:=ho
     refine⟨sp,?_,h2⟩
     have e:V.concs ρ π [zXs z]=V.concs ρ π [zSl z]:=by
      show [(zXs z).conc ρ π]=[(zSl z).conc ρ π]
      rw [zXs_conc h]
     rw [e]
     exact h1
    ·cases hr
   ·cases hr
  ·cases hr
 ·cases hr
theorem runP_ok{cx:Cx}{f:FuncId} {s:List V→St→R (V×St)} (hs:SumAt Tryz.prog cx ρ f s):SumAt Tryz.prog cx ρ f (runP n s):=by
 refine SumAt.via fun args st v st' hv hpc=>?_
 unfold runP at hv
 split at hv
 ·rename_i b o k c m q x y
  split at hv
  ·rename_i st1 h1 h2
   split at hv
   ·rename_i st2 h3
    obtain⟨l1,l2⟩:=recP_less h h2
    obtain⟨l3,l4⟩:=recI_less h h3
    refine⟨s,_,st2,v,st',hs,fun π=>?_,l1.trans l3,l4.trans l2,hv,fun _=>rfl,.refl _⟩
    rw [V.beqs_eq _ _ h1]
    show [(cdX b).conc ρ π,(V.ptr m 0).conc ρ π,.int .i64 (ρ.v 42),.int .i64 (ρ.v 43)]=[(cdP n b).conc ρ π,(V.ptr m 0).conc ρ π,.int .i64 0,.int .i64 60]
    rw [cdX_conc h,h.v42,h.v43]
   ·simp [R.sel] at hv
  ·simp [R.sel] at hv
 ·simp [R.sel] at hv
theorem refP_ok{cx:Cx}{f:FuncId} {s:List V→St→R (V×St)} (hs:SumAt Tryz.prog cx ρ f s):SumAt Tryz.prog cx ρ f (refP n s):=by
 refine SumAt.via fun args st v st' hv hpc=>?_
 unfold refP at hv
 split at hv
 ·rename_i b o k c z o' k' c' x y
  split at hv
  ·rename_i st1 h1 h2
   split at hv
   ·rename_i st2 h3
    obtain⟨l1,l2⟩:=recP_less h h2
    obtain⟨l3,l4⟩:=recZ_less h h3
    refine⟨s,_,st2,v,st',hs,fun π=>?_,l1.trans l3,l4.trans l2,hv,fun _=>rfl,.refl _⟩
    rw [V.beqs_eq _ _ h1]
    show [(cdX b).conc ρ π,(zXs z).conc ρ π,.int .i64 (ρ.v 42),.int .i64 (ρ.v 43)]=[(cdP n b).conc ρ π,(zSl z).conc ρ π,.int .i64 0,.int .i64 60]
    rw [cdX_conc h,zXs_conc h,h.v42,h.v43]
   ·simp [R.sel] at hv
  ·simp [R.sel] at hv
 ·simp [R.sel] at hv
end
def le(a b:X):X×Bool:=(.le a b,true)
def lt(a b:X):X×Bool:=(.lt a b,true)
def zA:Nat→PC
 | 0=>[]
 | 1=>[(.eq (.var 67) (.lit 0),true),(.seq (.btext 50 (.lit 0) (.var 50)) (.btext 20 (.lit 0) (.var 50)),true),le (.lit 1) (.var 60),le (.var 60) (.lit 300)]
 | _=>[(.eq (.var 67) (.lit 0),false),le (.lit 1) (.var 60),le (.var 60) (.lit 300)]
noncomputable def soK(f:FuncId)(args:List V)(st:St):Bool:=match f with
 | 10=>pcFits sb0 st.pc ARP.pc
 | 11=>pcFits sb0 st.pc RRP.pc
 | 12=>match args with
  | .xslice _ _ _ _ (.var _) _::_=>true
  | _=>false
 | _=>true
noncomputable def smP_(n:Nat):SmL:=[(8,sumTab LStart 7 sumKn),(12,sumSites LStart 7 CMP CMR [sb0]),(10,runP n (sumSites LStart 7 ARP ARR [sb0])),(11,refP n (sumSites LStart 7 RRP RRR [sb0]))]
noncomputable def cxP(n:Nat):Cx:={cxRd (smP_ n) with so:=soK}
def rsvPc:PC:=[le (.lit 1) (.var 40),le (.var 40) (.lit 200),le (.var 40) (.var 41),le (.lit 16) (.var 50),le (.var 50) (.lit 4096),le (.var 50) (.var 51),le (.lit 0) (.var 42),le (.var 42) (.lit 3),le (.lit 1) (.var 43),le (.var 43) (.lit 300)]
def nX(n:Nat):X:=.lit (.ofNat n)
noncomputable def okP(n z:Nat):Bool:=allChkX ((evT (cxP n) 4000).call 3 [.xslice true 9 (.lit 0) 1 (nX n) (.known (.var 45))] (stRows LStart [(9,.warr 9 21 [.int .u8] (nX n))] 10 (le (nX n) (.var 45)::(rsvPc++(zA z++[le (.lit 0) (.lit 7)])))))
def rv0:V:=.tuple [.agg [i64 (.lit 19),i64 (.lit 2),i64 (.lit 0),i64 (.lit 0),u32 (.lit 4),.bool (.lit 0),.bool (.lit 0)],.bool (.lit 1)]
def rowD:List (List V×_root_.Go.Proofs.YtmickljjofbmiaaGreatDoor.R Leaf):=[([u32 (.lit 4194579)],lf 1007 rv0)]
noncomputable def smN:SmL:=[(8,sumTab LStart 7 sumKn),(79,sumTab LStart 7 rowD),(53,sumTab LStart 7 rowD)]
noncomputable def cx0:Cx:={cxRd smN with so:=fun _ _ _=>true}
theorem rv_run:(match (evT (cxL []) 4000).call 79 [u32 (.lit 4194579)] (stG LStart 7) with
 | .ok (.ret v,st)=>V.beq v rv0&&(roThere LStart st.h&&Nat.ble st.n 1000)
 | _=>false)=true:=by kernel_rfl
section
variable {W:World} {ρ:Env} (hro:RoAt ρ LStart) (hW:∀ x∈LStart,W.heap[x.1]?=some (ρ.ro x.1))
include hro hW
theorem dec0:∃ val,(∀ π,rv0.conc ρ π=val)∧CallsAt Tryz.prog LStart 7 1000 ρ.ro 79 [.int .u32 4194579] val∧CallsAt Tryz.prog LStart 7 1000 ρ.ro 53 [.int .u32 4194579] val:=by
 obtain⟨d,_,h1,h2⟩:=dec_ex (RoAll.of hro) (n:=4194579) (by decide)
 have hr:=rv_run
 rw [←evT_call] at hr
 have h0:CallsAt Tryz.prog LStart 7 1000 ρ.ro 79 [.int .u32 4194579] (rv0.conc ρ πStart):=by
  split at hr
  ·rename_i v st e
   simp only [Bool.and_eq_true] at hr
   refine⟨cxL [],4000,ρ,[],[u32 (.lit 4194579)],v,st,smOf_okL (l:=[]) trivial rfl,tt_ok,ft_ok,rfl,rfl,hro,pcNil,?_,hr.2.1,Nat.le_of_ble_eq_true hr.2.2,fun π=>?_,rfl,fun π=>rfl⟩
   ·show ((ev (cxL []) 4000).call 79 [u32 (.lit 4194579)] {stG LStart 7 with pc:=[]}).sel ρ=_
    rw [show ({stG LStart 7 with pc:=[]}:St)=stG LStart 7 from rfl,e]
    rfl
   ·rw [V.beq_eq _ _ hr.1]
    rfl
  ·cases hr
 have e:=CallsAt.det (p:=⟨ρ.ro,fun _=>0,0,0,0⟩) hW Tryz.func79 (by kernel_rfl) h1 h0
 rw [e] at h2
 exact⟨_,fun π=>rfl,h0,h2⟩
theorem allN0:SumOk Tryz.prog cx0 ρ:=by
 obtain⟨val,hv,h1,h2⟩:=dec0 hro hW
 have told:∀ {f:FuncId} {fn:Func},Tryz.prog.funcs[f]?=some fn→CallsAt Tryz.prog LStart 7 1000 ρ.ro f [.int .u32 4194579] val→SumAt Tryz.prog cx0 ρ f (sumTab LStart 7 rowD):=fun hfn hd=>
  sumTab_told (m:=1000) mixed_door rfl LStart_lt hfn fun y hy=>by
   obtain rfl:=List.mem_singleton.1 hy
   refine⟨_,_,hd,fun _=>rfl,fun l hl=>?_⟩
   obtain rfl:=Option.some.inj hl
   exact⟨rfl,rfl,hv,fun _=>rfl,rfl⟩
 exact smOf_okL (l:=smN) ⟨(atKn (RoAll.of hro) _ rfl _ rfl).1,told Tryz.func79 h1,told Tryz.func53 h2,trivial⟩ rfl
end
noncomputable def outV:EOut→_root_.Go.Proofs.YtmickljjofbmiaaGreatDoor.R (V×St)
 | .ok (.ret v,st)=>.ok (v,st)
 | .ok (.panic _,_)=>.stuck "panic"
 | .br c t f=>.br c (outV t) (outV f)
 | .stuck s=>.stuck s
theorem outV_sel{ρ:Env}{v:V}{st:St}:∀ {r:EOut},(outV r).sel ρ=some (v,st)→r.sel ρ=some (.ret v,st)
 | .ok (.ret v',st'),h=>by
  simp only [outV,R.sel,Option.some.injEq,Prod.mk.injEq] at h
  obtain⟨rfl,rfl⟩:=h
  rfl
 | .ok (.panic _,_),h=>by simp [outV,R.sel] at h
 | .br c t f,h=>by
  simp only [outV,R.sel] at h ⊢
  split<;>rename_i hc
  ·rw [if_pos hc] at h
   exact outV_sel h
  ·rw [if_neg hc] at h
   exact outV_sel h
 | .stuck _,h=>by simp [outV,R.sel] at h
noncomputable def runN(args:List V)(st:St):_root_.Go.Proofs.YtmickljjofbmiaaGreatDoor.R (V×St):=match args with
 | [c,.ptr m q,x,y]=>match recI m st with
  | some st1=>outV ((evT cx0 4000).call 10 [c,.ptr m q,x,y] st1)
  | none=>.stuck "image"
 | _=>.stuck "image"
noncomputable def refN(args:List V)(st:St):_root_.Go.Proofs.YtmickljjofbmiaaGreatDoor.R (V×St):=match args with
 | [c,.slice z o k e,x,y]=>match V.beq (.slice z o k e) (zSl z),recZ z st with
  | true,some st1=>outV ((evT cx0 4000).call 11 [c,zXs z,x,y] st1)
  | _,_=>.stuck "bytes"
 | _=>.stuck "bytes"
noncomputable def cxN:Cx:={cxRd [(8,sumTab LStart 7 sumKn),(10,runN),(11,refN)] with so:=fun _ _ _=>true}
section
variable {W:World} {ρ:Env} (hro:RoAt ρ LStart) (hW:∀ x∈LStart,W.heap[x.1]?=some (ρ.ro x.1)) {n:Nat} (h:RsvOk n ρ)
include hro hW h
theorem allW:SumOk Tryz.prog cxN ρ:=by
 have self:∀ {f:FuncId} {fn:Func},Tryz.prog.funcs[f]?=some fn→SumAt Tryz.prog cxN ρ f fun a s=>outV ((ev cx0 4000).call f a s):=fun {f _} hfn args st v st' hs S π0 w ac n hh ha=>
  (ev_ok mixed_door tt_ok ft_ok (allN0 hro hW) 4000).2.2 f args _ _ (outV_sel hs) S π0 w ac n ⟨hh.pc,hh.at_,hh.glob,hh.fresh⟩ ha ⟨_,hfn⟩
 refine smOf_okL (l:=[(8,sumTab LStart 7 sumKn),(10,runN),(11,refN)]) ⟨(atKn (RoAll.of hro) _ rfl _ rfl).1,SumAt.via fun args st v st' hv hpc=>?_,SumAt.via fun args st v st' hv hpc=>?_,trivial⟩ rfl
 ·replace hv:(runN args st).sel ρ=some (v,st'):=hv
  unfold runN at hv
  split at hv
  ·split at hv
   ·rename_i st1 h1
    obtain⟨l1,l2⟩:=recI_less h h1
    exact⟨_,_,st1,v,st',self Tryz.func10,fun _=>rfl,l1,l2,by rw [evT_call];exact hv,fun _=>rfl,.refl _⟩
   ·simp [R.sel] at hv
  ·simp [R.sel] at hv
 ·replace hv:(refN args st).sel ρ=some (v,st'):=hv
  unfold refN at hv
  split at hv
  ·rename_i c z o k e x y
   split at hv
   ·rename_i st1 h0 h1
    obtain⟨l1,l2⟩:=recZ_less h h1
    refine⟨_,[c,zXs z,x,y],st1,v,st',self Tryz.func11,fun π=>?_,l1,l2,by rw [evT_call];exact hv,fun _=>rfl,.refl _⟩
    rw [V.beq_eq _ _ h0]
    show [c.conc ρ π,(zXs z).conc ρ π,x.conc ρ π,y.conc ρ π]=[c.conc ρ π,(zSl z).conc ρ π,x.conc ρ π,y.conc ρ π]
    rw [zXs_conc h]
   ·simp [R.sel] at hv
  ·simp [R.sel] at hv
end
noncomputable def okN(v:V)(pc:PC):Bool:=allChkX ((evT cxN 4000).call 3 [v] (stRows LStart [] 10 (pc++[le (.lit 16) (.var 50),le (.var 50) (.lit 4096),le (.lit 0) (.lit 7)])))
theorem run_nil:okN .nilslice []=true:=by kernel_rfl
theorem run_empty:okN (.xslice true 9 (.lit 0) 1 (.lit 0) (.known (.var 45))) [le (.lit 0) (.var 45)]=true:=by kernel_rfl
theorem run_many:okN (.xslice true 9 (.lit 0) 1 (.var 44) (.known (.var 45))) [lt (.lit 40) (.var 44),le (.var 44) (.var 45)]=true:=by kernel_rfl
end Go.Proofs.YtmickljjofbmiaaGreatDoor
