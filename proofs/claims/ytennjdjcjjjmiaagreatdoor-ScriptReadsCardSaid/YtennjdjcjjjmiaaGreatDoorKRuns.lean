/- ScriptReads: the law's runs. No condition. -/
import Derived.Test.YtennjdjcjjjmiaaGreatDoorKLoops
namespace Go.Proofs.YtennjdjcjjjmiaaGreatDoor
open Go
noncomputable def wksA (args : List V) (st : St) : R (V × St) := match args with
  | [] => match st.h.get 7 with
    | some (.warr 7 _ _ _) => .ok (.bool (.lit 1), st)
    | _ => .stuck "works"
  | _ => .stuck "works"
noncomputable def smZ : Bool → FuncId → Option (List V → St → R (V × St))
  | true => cx8.sm
  | false => smOf [(8, wksA)]
noncomputable def cxL (z : Bool) : Cx := { cx8 with sm := smZ z, sx := true, mg := true, js := true, lp := some (lpOf [AL z, BL z, CL z]) }
def LZ : Bool → List (Nat × List V)
  | true => LStart
  | false => []
def readsWs : List (Nat × SObj) := [(7, .warr 7 10 [.int .u8] (.var 60))]
def readsPc : PC := [(.le (.var 62) (.var 63), true), (.le (.var 63) (.var 62), true), (.le (.lit 0) (.var 62), true), (.le (.var 62) (.lit 3000), true), (.le (.var 60) (.var 61), true), (.le (.var 60) (.lit 3000), true), (.le (.lit 0) (.var 60), true), (.le (.lit 0) (.lit 7), true)]
def readsArgs : List V := [.xslice true 7 (.lit 0) 1 (.var 60) (.known (.var 61))]
set_option maxRecDepth 100000 in
theorem reads_run : ∀ z, allChkW (LZ z) readsWs ((evT (cxL z) 4000).call 5 readsArgs (stRows (LZ z) readsWs 8 readsPc)) = true
  | true => by kernel_rfl
  | false => by kernel_rfl
def longPc : PC := [(.le (.var 60) (.var 61), true), (.lt (.lit 3000) (.var 60), true), (.le (.lit 0) (.var 60), true), (.le (.lit 0) (.lit 7), true)]
set_option maxRecDepth 100000 in
theorem reads_long : ∀ z, allChkW (LZ z) readsWs ((evT (cxL z) 4000).call 5 readsArgs (stRows (LZ z) readsWs 8 longPc)) = true
  | true => by kernel_rfl
  | false => by kernel_rfl
noncomputable def cxN : Cx := { cx8 with sx := true, mg := true, js := true }
set_option maxRecDepth 100000 in
theorem reads_nil : allChk LStart ((evT cxN 4000).call 5 [.nilslice] (stPc [])) = true := by kernel_rfl
set_option maxRecDepth 100000 in
theorem reads_none : allChk LStart ((evT cxN 4000).call 5 [.xslice true 7 (.lit 0) 1 (.lit 0) (.known (.var 61))] (stPc [(.le (.lit 0) (.var 61), true), (.le (.lit 0) (.lit 7), true)])) = true := by kernel_rfl
end Go.Proofs.YtennjdjcjjjmiaaGreatDoor
