/- AloneOne: the law's cases, as runs. No condition. -/
import Derived.Test.YtmickljjofbmiaaGreatDoorOEnv
set_option maxRecDepth 100000
namespace Go.Proofs.YtmickljjofbmiaaGreatDoor
open Go Go.Proofs Go.ChangeShapes Go.WideShapes Go.ChangeAt Go.RowKit
def e0X:X:=.bits 1 .u32 (.bits 1 .u32 (.wrap .u32 (.sub (.var 44) (.rem (.var 44) (.lit 4096)))) (.lit 640)) (.lit 55)
def e1X:X:=.bits 1 .u32 (.bits 1 .u32 (.bits 1 .u32 (.wrap .u32 (.mul (.rem (.var 44) (.lit 2048)) (.lit 1048576))) (.lit 163840)) (.lit 640)) (.lit 19)
def codeC:List V:=[u32 e0X,u32 e1X,u32 (.lit 7340819),u32 (.var 45)]
def gcO(x y:Int)(j:Int):Int:=if j=0 then bitsI 1 .u32 (bitsI 1 .u32 (IntKind.u32.wrap (x-x.tmod 4096)) 640) 55 else if j=1 then bitsI 1 .u32 (bitsI 1 .u32 (bitsI 1 .u32 (IntKind.u32.wrap (x.tmod 2048*1048576)) 163840) 640) 19 else if j=2 then 7340819 else y
def arrO(e:TypeId):SObj:=.arr (.base 10) [.int .u32] (.var 40) e false
def recO(b:Nat)(st:St):Option St:=match st.h.get b with
 | some (.cells c e none)=>match V.beqs c codeC with
  | true=>some {st with h:=st.h.set b (arrO e)}
  | false=>none
 | some o=>match o with
  | .arr _ _ _ _ _=>some st
  | _=>none
 | none=>none
def recSm (s:List V→St→R (V×St)) (args:List V) (st:St):R (V×St):=match args with
 | .slice b o n c::m::al=>match V.beqs (.slice b o n c::al) [.slice b 0 4 (.known 4),i64 (.lit 2),i64 (.lit 4)],recO b st with
  | true,some st1=>s [.xslice false b (.lit 0) 1 (.var 40) (.known (.var 40)),m,i64 (.var 42),i64 (.var 43)] st1
  | _,_=>.stuck "code"
 | _=>.stuck "code"
structure OneOk (ρ:Env):Prop where
 v40:ρ.v 40=4
 v42:ρ.v 42=2
 v43:ρ.v 43=4
 code:ρ.f1 10=gcO (ρ.v 44) (ρ.v 45)
 word:0≤ρ.v 45∧ρ.v 45<4294967296
theorem wrap32{z:Int}(h:0≤z∧z<4294967296):IntKind.u32.wrap z=z:=by
 simp [IntKind.wrap,IntKind.bits,IntKind.signed]
 omega
theorem wrap_in32(z:Int):0≤IntKind.u32.wrap z∧IntKind.u32.wrap z<4294967296:=by
 simp [IntKind.wrap,IntKind.bits,IntKind.signed]
 omega
theorem arrO_is{ρ:Env}(h:OneOk ρ){π:Pl}{b:Nat}{e:TypeId}{ob:Obj} (ho:(SObj.cells codeC e none).is ρ π b ob):(arrO e).is ρ π b ob:=by
 obtain⟨sp,h1,h2⟩:=ho
 have h2:sp=[]:=h2
 rw [h2,List.append_nil] at h1
 refine⟨V.concs ρ π codeC,h1,?_,(fun h=>by cases h),fun j c k hj hk=>?_⟩
 ·show (ρ.v 40).toNat*1≤4
  rw [h.v40]
  decide
 ·have hj:j<(ρ.v 40).toNat:=hj
  rw [h.v40] at hj
  match c,hk with
  | 0,hk=>
   obtain rfl:=Option.some.inj hk
   show (V.concs ρ π codeC)[j*1+0]?=some (Value.int .u32 (IntKind.u32.wrap (ρ.f1 10 j)))
   rw [h.code]
   match j,hj with
   | 0,_=>
    show some (Value.int .u32 (IntKind.u32.wrap _))=some (Value.int .u32 (IntKind.u32.wrap (IntKind.u32.wrap _)))
    rw [wrap32 (wrap_in32 _)]
    rfl
   | 1,_=>
    show some (Value.int .u32 (IntKind.u32.wrap _))=some (Value.int .u32 (IntKind.u32.wrap (IntKind.u32.wrap _)))
    rw [wrap32 (wrap_in32 _)]
    rfl
   | 2,_=>rfl
   | 3,_=>
    show some (Value.int .u32 (ρ.v 45))=some (Value.int .u32 (IntKind.u32.wrap (ρ.v 45)))
    rw [wrap32 h.word]
theorem recO_less{ρ:Env}(h:OneOk ρ){b:Nat}{st st1:St}(hr:recO b st=some st1):Less ρ st st1∧st1.n=st.n:=by
 unfold recO at hr
 split at hr
 ·rename_i c e hg
  split at hr
  ·rename_i hb
   obtain rfl:=Option.some.inj hr
   refine⟨⟨fun h=>h,Nat.le_refl _,fun i o hi=>?_⟩,rfl⟩
   by_cases e:i=b
   ·subst e
    dsimp only at hi
    rw [T.get_set_same] at hi
    obtain rfl:=Option.some.inj hi
    refine⟨_,hg,fun π ob ho=>?_,rfl⟩
    rw [V.beqs_eq _ _ hb] at ho
    exact arrO_is h ho
   ·dsimp only at hi
    rw [T.get_set_other _ _ (fun q=>e q.symm)] at hi
    exact⟨o,hi,fun _ _ h=>h,rfl⟩
  ·cases hr
 ·split at hr
  ·obtain rfl:=Option.some.inj hr
   exact⟨.refl _,rfl⟩
  ·cases hr
 ·cases hr
theorem recSm_ok{cx:Cx}{ρ:Env}(h:OneOk ρ){f:FuncId} {s:List V→St→R (V×St)} (hs:SumAt Tryz.prog cx ρ f s):SumAt Tryz.prog cx ρ f (recSm s):=by
 refine SumAt.via fun args st v st' hv hpc=>?_
 unfold recSm at hv
 split at hv
 ·rename_i b o n c m al
  split at hv
  ·rename_i st1 h1 h2
   obtain⟨l1,l2⟩:=recO_less h h2
   have e:=V.beqs_eq _ _ h1
   obtain⟨e1,e2⟩:=List.cons.inj e
   injection e1 with _ e3 e4 e5
   subst e2 e3 e4 e5
   refine⟨s,_,st1,v,st',hs,fun π=>?_,l1,l2,hv,fun _=>rfl,.refl _⟩
   show [Value.slice (some ⟨(π b).1,0*1,none⟩) (ρ.v 40).toNat (ρ.v 40).toNat,m.conc ρ π,.int .i64 (ρ.v 42),.int .i64 (ρ.v 43)]=[Value.slice (some ⟨(π b).1,0,none⟩) 4 4,m.conc ρ π,.int .i64 2,.int .i64 4]
   rw [h.v40,h.v42,h.v43]
   rfl
  ·simp [R.sel] at hv
 ·simp [R.sel] at hv
def le(a b:X):X×Bool:=(.le a b,true)
def lt(a b:X):X×Bool:=(.lt a b,true)
def bSl:V:=.xslice true 9 (.lit 0) 1 (.var 50) (.known (.var 51))
def bA:Nat→V×PC
 | 0=>(.nilslice,[])
 | 1=>(.xslice true 9 (.lit 0) 1 (.lit 0) (.known (.var 51)),[le (.lit 0) (.var 51)])
 | 2=>(bSl,[le (.lit 1) (.var 50),lt (.var 50) (.lit 16),le (.var 50) (.var 51)])
 | 3=>(bSl,[le (.lit 16) (.var 50),le (.var 50) (.lit 4096),le (.var 50) (.var 51)])
 | _=>(bSl,[lt (.lit 4096) (.var 50),le (.var 50) (.var 51)])
def zA:Nat→PC
 | 0=>[]
 | 1=>[(.eq (.var 67) (.lit 0),true),(.seq (.btext 50 (.lit 0) (.var 50)) (.btext 20 (.lit 0) (.var 50)),true),le (.lit 1) (.var 60),le (.var 60) (.lit 300)]
 | _=>[(.eq (.var 67) (.lit 0),false),le (.lit 1) (.var 60),le (.var 60) (.lit 300)]
noncomputable def soK(f:FuncId)(args:List V)(st:St):Bool:=match f with
 | 10=>pcFits sb0 st.pc ARP.pc
 | 11=>pcFits sb0 st.pc RRP.pc
 | 12=>match args with
  | .xslice _ _ _ _ (.var _) _::_=>true
  | _=>false
 | _=>true
noncomputable def smOne:SmL:=[(8,sumTab LStart 7 sumKn),(12,sumSites LStart 7 CMP CMR [sb0]),(10,recSm (sumSites LStart 7 ARP ARR [sb0])),(11,recSm (sumSites LStart 7 RRP RRR [sb0]))]
noncomputable def cxOne:Cx:={cxRd smOne with so:=soK}
def wsO(j:Nat):List (Nat×SObj):=match Nat.ble 2 j with
 | true=>[(9,.warr 9 20 [.int .u8] (.var 50))]
 | false=>[]
def onePc:PC:=[le (.lit 1) (.var 40),le (.var 40) (.lit 200),le (.var 40) (.var 41),le (.lit 0) (.var 42),le (.var 42) (.lit 3),le (.lit 1) (.var 43),le (.var 43) (.lit 300)]
def pcOne(j z:Nat):PC:=(bA j).2++(onePc++(zA z++[le (.lit 0) (.lit 7)]))
noncomputable def okOne(j z:Nat):Bool:=allChkX ((evT cxOne 4000).call 5 [.int .u32 (.var 45),(bA j).1,.int .u32 (.var 44)] (stRows LStart (wsO j) 10 (pcOne j z)))
theorem runO00:okOne 0 0=true:=by kernel_rfl
theorem runO10:okOne 1 0=true:=by kernel_rfl
theorem runO20:okOne 2 0=true:=by kernel_rfl
theorem runO31:okOne 3 1=true:=by kernel_rfl
theorem runO32:okOne 3 2=true:=by kernel_rfl
theorem runO40:okOne 4 0=true:=by kernel_rfl
def zOk(j z:Nat):Prop:=match Nat.beq j 3 with
 | true=>z=1∨z=2
 | false=>z=0
theorem run_all{j z:Nat}(hj:j<5)(hz:zOk j z):okOne j z=true:=by
 match j,hj,hz with
 | 0,_,hz=>obtain rfl:z=0:=hz;exact runO00
 | 1,_,hz=>obtain rfl:z=0:=hz;exact runO10
 | 2,_,hz=>obtain rfl:z=0:=hz;exact runO20
 | 3,_,hz=>
  rcases (show z=1∨z=2 from hz) with rfl | rfl
  ·exact runO31
  ·exact runO32
 | 4,_,hz=>obtain rfl:z=0:=hz;exact runO40
end Go.Proofs.YtmickljjofbmiaaGreatDoor
