/- AloneRun: the law's cases, as runs. No condition. -/
import Derived.Test.YtmickljjofbmiaaGreatDoorAEnv
set_option maxRecDepth 100000
namespace Go.Proofs.YtmickljjofbmiaaGreatDoor
open Go Go.Proofs Go.ChangeShapes Go.WideShapes Go.ChangeAt Go.RowKit
def le(a b:X):X×Bool:=(.le a b,true)
def lt(a b:X):X×Bool:=(.lt a b,true)
def cSl:V:=.xslice true 8 (.lit 0) 1 (.var 40) (.known (.var 41))
def bSl:V:=.xslice true 9 (.lit 0) 1 (.var 50) (.known (.var 51))
def cA:Nat→V×PC
 | 0=>(.nilslice,[])
 | 1=>(.xslice true 8 (.lit 0) 1 (.lit 0) (.known (.var 41)),[le (.lit 0) (.var 41)])
 | 2=>(cSl,[le (.lit 1) (.var 40),le (.var 40) (.lit 200),le (.var 40) (.var 41)])
 | _=>(cSl,[lt (.lit 200) (.var 40),le (.var 40) (.var 41)])
def bA:Nat→V×PC
 | 0=>(.nilslice,[])
 | 1=>(.xslice true 9 (.lit 0) 1 (.lit 0) (.known (.var 51)),[le (.lit 0) (.var 51)])
 | 2=>(bSl,[le (.lit 1) (.var 50),lt (.var 50) (.lit 16),le (.var 50) (.var 51)])
 | 3=>(bSl,[le (.lit 16) (.var 50),le (.var 50) (.lit 4096),le (.var 50) (.var 51)])
 | _=>(bSl,[lt (.lit 4096) (.var 50),le (.var 50) (.var 51)])
def xsA:Nat→PC
 | 0=>[lt (.var 42) (.lit 0),le (.var 43) (.lit 300)]
 | 1=>[lt (.lit 3) (.var 42),le (.var 43) (.lit 300)]
 | 2=>[le (.lit 0) (.var 42),le (.var 42) (.lit 3),lt (.var 43) (.lit 0)]
 | 3=>[le (.lit 0) (.var 42),le (.var 42) (.lit 3),le (.var 43) (.lit 0),le (.lit 0) (.var 43)]
 | 4=>[le (.lit 0) (.var 42),le (.var 42) (.lit 3),le (.lit 1) (.var 43),le (.var 43) (.lit 300)]
 | _=>[lt (.lit 300) (.var 43)]
def zA:Nat→PC
 | 0=>[]
 | 1=>[(.eq (.var 67) (.lit 0),true),(.seq (.btext 50 (.lit 0) (.var 50)) (.btext 20 (.lit 0) (.var 50)),true),le (.lit 1) (.var 60),le (.var 60) (.lit 300)]
 | _=>[(.eq (.var 67) (.lit 0),false),le (.lit 1) (.var 60),le (.var 60) (.lit 300)]
def wsOf(i j:Nat):List (Nat×SObj):=(match Nat.ble 2 i with
 | true=>[(8,.warr 8 10 [.int .u32] (.var 40))]
 | false=>[])++(match Nat.ble 2 j with
 | true=>[(9,.warr 9 20 [.int .u8] (.var 50))]
 | false=>[])
def pcOf(i j k z:Nat):PC:=(cA i).2++((bA j).2++(xsA k++(zA z++[le (.lit 0) (.lit 7)])))
noncomputable def okRun(i j k z:Nat):Bool:=allChkX ((evT cxK 4000).call 4 [(cA i).1,(bA j).1,.agg [.int .i64 (.var 42),.int .i64 (.var 43)]] (stRows LStart (wsOf i j) 10 (pcOf i j k z)))
noncomputable def okRuns(i j:Nat):Bool:=and6 (okRun i j 0 0) (okRun i j 1 0) (okRun i j 2 0) (okRun i j 3 0) (match Nat.beq i 2&&Nat.beq j 3 with
 | true=>and6 (okRun i j 4 1) (okRun i j 4 2) true true true true
 | false=>okRun i j 4 0) (okRun i j 5 0)
theorem runs0:and6 (okRuns 0 0) (okRuns 0 1) (okRuns 0 2) (okRuns 0 3) (okRuns 0 4) true=true:=by kernel_rfl
theorem runs1:and6 (okRuns 1 0) (okRuns 1 1) (okRuns 1 2) (okRuns 1 3) (okRuns 1 4) true=true:=by kernel_rfl
theorem runs2:and6 (okRuns 2 0) (okRuns 2 1) (okRuns 2 2) (okRuns 2 3) (okRuns 2 4) true=true:=by kernel_rfl
theorem runs3:and6 (okRuns 3 0) (okRuns 3 1) (okRuns 3 2) (okRuns 3 3) (okRuns 3 4) true=true:=by kernel_rfl
def zOk(i j k z:Nat):Prop:=match Nat.beq i 2&&Nat.beq j 3&&Nat.beq k 4 with
 | true=>z=1∨z=2
 | false=>z=0
theorem run_all{i j k z:Nat}(hi:i<4)(hj:j<5)(hk:k<6)(hz:zOk i j k z):okRun i j k z=true:=by
 have key:okRuns i j=true:=by
  match i,hi with
  | 0,_=>
   obtain⟨h0,h1,h2,h3,h4,_⟩:=and6_ok runs0
   match j,hj with
   | 0,_=>exact h0
   | 1,_=>exact h1
   | 2,_=>exact h2
   | 3,_=>exact h3
   | 4,_=>exact h4
  | 1,_=>
   obtain⟨h0,h1,h2,h3,h4,_⟩:=and6_ok runs1
   match j,hj with
   | 0,_=>exact h0
   | 1,_=>exact h1
   | 2,_=>exact h2
   | 3,_=>exact h3
   | 4,_=>exact h4
  | 2,_=>
   obtain⟨h0,h1,h2,h3,h4,_⟩:=and6_ok runs2
   match j,hj with
   | 0,_=>exact h0
   | 1,_=>exact h1
   | 2,_=>exact h2
   | 3,_=>exact h3
   | 4,_=>exact h4
  | 3,_=>
   obtain⟨h0,h1,h2,h3,h4,_⟩:=and6_ok runs3
   match j,hj with
   | 0,_=>exact h0
   | 1,_=>exact h1
   | 2,_=>exact h2
   | 3,_=>exact h3
   | 4,_=>exact h4
 obtain⟨h0,h1,h2,h3,h4,h5⟩:=and6_ok key
 unfold zOk at hz
 match k,hk with
 | 0,_=>rw [show Nat.beq 0 4=false from rfl,Bool.and_false] at hz;obtain rfl:=hz;exact h0
 | 1,_=>rw [show Nat.beq 1 4=false from rfl,Bool.and_false] at hz;obtain rfl:=hz;exact h1
 | 2,_=>rw [show Nat.beq 2 4=false from rfl,Bool.and_false] at hz;obtain rfl:=hz;exact h2
 | 3,_=>rw [show Nat.beq 3 4=false from rfl,Bool.and_false] at hz;obtain rfl:=hz;exact h3
 | 4,_=>
  rw [show Nat.beq 4 4=true from rfl,Bool.and_true] at hz
  cases hc:Nat.beq i 2&&Nat.beq j 3 with
  | true=>
   rw [hc] at hz h4
   obtain⟨g1,g2,_⟩:=and6_ok h4
   rcases hz with rfl | rfl
   ·exact g1
   ·exact g2
  | false=>
   rw [hc] at hz h4
   obtain rfl:=hz
   exact h4
 | 5,_=>rw [show Nat.beq 5 4=false from rfl,Bool.and_false] at hz;obtain rfl:=hz;exact h5
end Go.Proofs.YtmickljjofbmiaaGreatDoor
