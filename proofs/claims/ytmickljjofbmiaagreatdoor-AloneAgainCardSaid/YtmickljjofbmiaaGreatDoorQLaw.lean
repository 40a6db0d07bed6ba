/- AloneAgain: the law's cases, as runs. No condition. -/
import Derived.Test.YtmickljjofbmiaaGreatDoorQEnv
set_option maxRecDepth 100000
namespace Go.Proofs.YtmickljjofbmiaaGreatDoor
open Go Go.Proofs Go.ChangeShapes Go.WideShapes Go.ChangeAt Go.RowKit
def YC (s:List V→St→_root_.Go.Proofs.YtmickljjofbmiaaGreatDoor.R (V×St)) (args:List V) (st:St):_root_.Go.Proofs.YtmickljjofbmiaaGreatDoor.R (V×St):=match args with
 | a::b::c::l=>match V.beq c (i64 (.lit 1)) with
  | true=>s (a::b::i64 (.var 42)::l) st
  | false=>.stuck "number"
 | _=>.stuck "number"
theorem N4{cx:Cx}{ρ:Env}(h:ρ.v 42=1){f:FuncId} {s:List V→St→_root_.Go.Proofs.YtmickljjofbmiaaGreatDoor.R (V×St)} (hs:ct Tryz.prog cx ρ f s):ct Tryz.prog cx ρ f (YC s):=by
 refine ct.via fun args st v st' hv hpc=>?_
 unfold YC at hv
 split at hv
 ·rename_i a b c l
  split at hv
  ·rename_i h1
   refine⟨s,_,st,v,st',hs,fun π=>?_,.refl _,rfl,hv,fun _=>rfl,.refl _⟩
   rw [V.beq_eq _ _ h1]
   show a.ae ρ π::b.ae ρ π::.int .i64 (ρ.v 42)::V.af ρ π l=a.ae ρ π::b.ae ρ π::.int .i64 1::V.af ρ π l
   rw [h]
  ·simp [R.ai] at hv
 ·simp [R.ai] at hv
noncomputable def Vg(z:Nat):List V→St→_root_.Go.Proofs.YtmickljjofbmiaaGreatDoor.R (V×St):=match z with
 | 0=>fun _ _=>.stuck "told"
 | 1=>dQ aj 7 TNP TNR [sT]
 | _=>dQ aj 7 TQP TQR [sT]
noncomputable def soQ(f:FuncId)(args:List V)(st:St):Bool:=match f with
 | 10=>vz sb0 st.pc ARP.pc
 | 16=>vz sT st.pc TNP.pc
 | 12=>match args with
  | .xslice _ _ _ _ (.var _) _::_=>true
  | _=>false
 | 17=>match args with
  | .xslice _ _ _ _ (.var _) _::_=>true
  | _=>false
 | _=>true
noncomputable def ajy(z:Nat):kP:=[(8,bW aj 7 W4),(12,dQ aj 7 CMP CMR [sb0]),(10,YC (dQ aj 7 ARP ARR [sb0])),(17,dQ aj 7 ANP ANR [sb0]),(16,YC (Vg z))]
noncomputable def aaB(z:Nat):Cx:={jL (ajy z) with so:=soQ}
def le(a b:X):X×Bool:=(.le a b,true)
def lt(a b:X):X×Bool:=(.lt a b,true)
def cSl:V:=.xslice true 8 (.lit 0) 1 (.var 40) (.known (.var 41))
def bSl:V:=.xslice true 9 (.lit 0) 1 (.var 50) (.known (.var 51))
def cA:Nat→V×PC
 | 0=>(.nilslice,[])
 | 1=>(.xslice true 8 (.lit 0) 1 (.lit 0) (.known (.var 41)),[le (.lit 0) (.var 41)])
 | 2=>(cSl,[le (.lit 1) (.var 40),le (.var 40) (.lit 200),le (.var 40) (.var 41)])
 | _=>(cSl,[lt (.lit 200) (.var 40),le (.var 40) (.var 41)])
def bA:Nat→V×PC
 | 0=>(.nilslice,[])
 | 1=>(.xslice true 9 (.lit 0) 1 (.lit 0) (.known (.var 51)),[le (.lit 0) (.var 51)])
 | 2=>(bSl,[le (.lit 1) (.var 50),lt (.var 50) (.lit 16),le (.var 50) (.var 51)])
 | 3=>(bSl,[le (.lit 16) (.var 50),le (.var 50) (.lit 4096),le (.var 50) (.var 51)])
 | _=>(bSl,[lt (.lit 4096) (.var 50),le (.var 50) (.var 51)])
def kA:Nat→PC
 | 0=>[lt (.var 43) (.lit 0)]
 | 1=>[le (.var 43) (.lit 0),le (.lit 0) (.var 43)]
 | 2=>[le (.lit 1) (.var 43),le (.var 43) (.lit 300)]
 | _=>[lt (.lit 300) (.var 43)]
def zA:Nat→PC
 | 0=>[]
 | 1=>[(.eq (.var 62) (.lit 0),true),le (.lit 1) (.var 60),le (.var 60) (.lit 300)]
 | _=>[le (.lit 1) (.var 62),le (.var 62) (.lit 300),le (.lit 1) (.var 60),le (.var 60) (.lit 300)]
def ZV(i j:Nat):List (Nat×av):=(match Nat.ble 2 i with
 | true=>[(8,.warr 8 10 [.int .u32] (.var 40))]
 | false=>[])++(match Nat.ble 2 j with
 | true=>[(9,.warr 9 20 [.int .u8] (.var 50))]
 | false=>[])
def alQ(i j k z:Nat):PC:=(cA i).2++((bA j).2++(kA k++(zA z++[le (.lit 0) (.var 42),le (.var 42) (.lit 3),le (.lit 0) (.lit 7)])))
noncomputable def BR(i j k z:Nat):Bool:=mo ((Lw (aaB z) 4000).call 6 [(cA i).1,(bA j).1,i64 (.var 43)] (LX aj (ZV i j) 10 (alQ i j k z)))
noncomputable def dU(i j:Nat):Bool:=bI (BR i j 0 0) (BR i j 1 0) (match Nat.beq i 2&&Nat.beq j 3 with
 | true=>bI (BR i j 2 1) (BR i j 2 2) true true true true
 | false=>BR i j 2 0) (BR i j 3 0) true true
theorem aiT:bI (dU 0 0) (dU 0 1) (dU 0 2) (dU 0 3) (dU 0 4) true=true:=by kernel_rfl
theorem ajr:bI (dU 1 0) (dU 1 1) (dU 1 2) (dU 1 3) (dU 1 4) true=true:=by kernel_rfl
theorem ak5:bI (dU 2 0) (dU 2 1) (dU 2 2) (dU 2 3) (dU 2 4) true=true:=by kernel_rfl
theorem alk:bI (dU 3 0) (dU 3 1) (dU 3 2) (dU 3 3) (dU 3 4) true=true:=by kernel_rfl
def zOk(i j k z:Nat):Prop:=match Nat.beq i 2&&Nat.beq j 3&&Nat.beq k 2 with
 | true=>z=1∨z=2
 | false=>z=0
theorem aas{i j k z:Nat}(hi:i<4)(hj:j<5)(hk:k<4)(hz:zOk i j k z):BR i j k z=true:=by
 have key:dU i j=true:=by
  match i,hi with
  | 0,_=>
   obtain⟨h0,h1,h2,h3,h4,_⟩:=ax aiT
   match j,hj with
   | 0,_=>exact h0
   | 1,_=>exact h1
   | 2,_=>exact h2
   | 3,_=>exact h3
   | 4,_=>exact h4
  | 1,_=>
   obtain⟨h0,h1,h2,h3,h4,_⟩:=ax ajr
   match j,hj with
   | 0,_=>exact h0
   | 1,_=>exact h1
   | 2,_=>exact h2
   | 3,_=>exact h3
   | 4,_=>exact h4
  | 2,_=>
   obtain⟨h0,h1,h2,h3,h4,_⟩:=ax ak5
   match j,hj with
   | 0,_=>exact h0
   | 1,_=>exact h1
   | 2,_=>exact h2
   | 3,_=>exact h3
   | 4,_=>exact h4
  | 3,_=>
   obtain⟨h0,h1,h2,h3,h4,_⟩:=ax alk
   match j,hj with
   | 0,_=>exact h0
   | 1,_=>exact h1
   | 2,_=>exact h2
   | 3,_=>exact h3
   | 4,_=>exact h4
 obtain⟨h0,h1,h2,h3,_⟩:=ax key
 unfold zOk at hz
 match k,hk with
 | 0,_=>rw [show Nat.beq 0 2=false from rfl,Bool.and_false] at hz;obtain rfl:=hz;exact h0
 | 1,_=>rw [show Nat.beq 1 2=false from rfl,Bool.and_false] at hz;obtain rfl:=hz;exact h1
 | 2,_=>
  rw [show Nat.beq 2 2=true from rfl,Bool.and_true] at hz
  cases hc:Nat.beq i 2&&Nat.beq j 3 with
  | true=>
   rw [hc] at hz h2
   obtain⟨g1,g2,_⟩:=ax h2
   rcases hz with rfl | rfl
   ·exact g1
   ·exact g2
  | false=>
   rw [hc] at hz h2
   obtain rfl:=hz
   exact h2
 | 3,_=>rw [show Nat.beq 3 2=false from rfl,Bool.and_false] at hz;obtain rfl:=hz;exact h3
end Go.Proofs.YtmickljjofbmiaaGreatDoor
