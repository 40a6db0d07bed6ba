/- AloneParts: what may come in, as cases; the law's loop where it is come to. No condition. -/
import Derived.Test.YtmickljjofbmiaaGreatDoorSLp
import Derived.Test.YtmickljjofbmiaaGreatDoorATold
namespace Go.Proofs.YtmickljjofbmiaaGreatDoor
open Go Go.Proofs Go.ChangeShapes Go.WideShapes Go.ChangeAt Go.RowKit
def le (a b : X) : X × Bool := (.le a b, true)
def lt (a b : X) : X × Bool := (.lt a b, true)
def cSl : V := .xslice true 8 (.lit 0) 1 (.var 40) (.known (.var 41))
def bSl : V := .xslice true 9 (.lit 0) 1 (.var 50) (.known (.var 51))
def cA : Nat → V × PC
 | 0 => (.nilslice, [])
 | 1 => (.xslice true 8 (.lit 0) 1 (.lit 0) (.known (.var 41)), [le (.lit 0) (.var 41)])
 | 2 => (cSl, [le (.lit 1) (.var 40), le (.var 40) (.lit 200), le (.var 40) (.var 41)])
 | _ => (cSl, [lt (.lit 200) (.var 40), le (.var 40) (.var 41)])
def bA : Nat → V × PC
 | 0 => (.nilslice, [])
 | 1 => (.xslice true 9 (.lit 0) 1 (.lit 0) (.known (.var 51)), [le (.lit 0) (.var 51)])
 | 2 => (bSl, [le (.lit 1) (.var 50), lt (.var 50) (.lit 16), le (.var 50) (.var 51)])
 | 3 => (bSl, [le (.lit 16) (.var 50), le (.var 50) (.lit 4096), le (.var 50) (.var 51)])
 | _ => (bSl, [lt (.lit 4096) (.var 50), le (.var 50) (.var 51)])
def xsS : Nat → PC
 | 0 => [lt (.lit 300) (.var 44)]
 | 1 => [le (.var 44) (.lit 300), lt (.var 43) (.lit 0)]
 | 2 => [le (.var 44) (.lit 300), le (.lit 0) (.var 43), lt (.var 44) (.var 43)]
 | 3 => [le (.var 43) (.lit 0), le (.lit 0) (.var 43), le (.var 44) (.lit 0), le (.lit 0) (.var 44)]
 | 4 => [le (.var 43) (.lit 0), le (.lit 0) (.var 43), le (.lit 1) (.var 44), le (.var 44) (.lit 300)]
 | _ => [le (.lit 1) (.var 43), le (.var 43) (.var 44), le (.lit 1) (.var 44), le (.var 44) (.lit 300), le (.var 43) (.lit 300)]
def zS : Nat → PC
 | 0 => []
 | 1 => [(.eq (.var 67) (.lit 0), true), (.seq (.btext 50 (.lit 0) (.var 50)) (.btext 20 (.lit 0) (.var 50)), true), le (.lit 1) (.var 60), le (.var 60) (.var 43), le (.var 60) (.var 80), le (.var 60) (.lit 300), le (.var 80) (.lit 300)]
 | 2 => [(.eq (.var 67) (.lit 0), false), (.seq (.btext 50 (.lit 0) (.var 50)) (.btext 55 (.lit 0) (.var 50)), true), le (.lit 1) (.var 60), le (.var 60) (.var 43), le (.var 60) (.var 80), le (.var 60) (.lit 300), le (.var 80) (.lit 300)]
 | _ => [le (.lit 1) (.var 80), le (.var 80) (.lit 300)]
def pcOf (i j k z : Nat) : PC := (cA i).2 ++ ((bA j).2 ++ (xsS k ++ (zS z ++ [le (.lit 0) (.var 42), le (.var 42) (.lit 3), le (.lit 0) (.lit 7)])))
noncomputable def ppPc (z k : Nat) : PC := (PPPcs.getD k []) ++ pcOf 2 3 5 z
noncomputable def PPL (z k : Nat) : LoopI := ⟨none, PPBody, PPFr, ⟨rS PPIt, PPn, ppPc z k⟩, match z with
 | 1 => .ok (PPO0.ex, PPO0.pat.fr, ⟨PPO0.pat.st.h, PPO0.pat.st.n, ppPc z k⟩)
 | _ => .ok (PPO1.ex, PPO1.pat.fr, ⟨PPO1.pat.st.h, PPO1.pat.st.n, ppPc z k⟩)⟩
def tPP : Tch := ⟨[100], [(30, 1), (55, 1)]⟩
noncomputable def smPP (n : X) : j6 := [(19, eT aj PT0P PT0R PT1P PT1R n), (20, amoP aj n)]
end Go.Proofs.YtmickljjofbmiaaGreatDoor
