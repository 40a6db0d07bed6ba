/- ScriptStarts: the law's cases. No condition. -/
import Derived.Test.YtodbpiifjpnnbaaGreatDoorVGr
import Derived.Test.YtodbpiifjpnnbaaGreatDoorVOk
namespace Go.Proofs.YtodbpiifjpnnbaaGreatDoor
open Go Go.Proofs Go.ChangeShapes Go.WideShapes Go.ChangeAt Go.RowKit
def GD.op (d : GD) (j : Nat) : Bool := match d.nilc j with
 | true => false
 | false => Nat.ble 1 (d.n j)
def GD.at_ (d : GD) (j : Nat) : Addr := match d.op j with
 | true => d.p j
 | false => d.a
def lWin (d : GD) (i : Nat) : Addr := if i = 7 then d.mp else if i = 8 then d.a else d.at_ (i - 10)
def lEnv (d : GD) (gm : Nat → Int → Int) (gc : Nat → Nat → Int → Int) : Env :=
 {b := fun _ => false
  v := fun i => if i = 50 then d.ml else if i = 51 then d.mc else if i = 90 then d.w else if i = 91 then d.s else if i = 92 then d.cap else if i = 93 then d.k else d.len ((i - 52) / 2)
  f1 := fun i => if i < 300 then gm (i - 200) else gc ((i - 300) / 10) (i % 10)
  f2 := fun _ _ _ => 0, s := fun _ => [], sf := fun _ _ => []
  ro := fun i => match Nat.ble 7 i with
   | true => roW d.W (lWin d i).block
   | false => roW d.W i
  win := lWin d }
def lPl (d : GD) (i : Nat) : Pc := if 20 ≤ i ∧ i < 26 then ⟨0, 0, d.cell (i - 20)⟩ else match Nat.ble 7 i with
 | true => ⟨(lWin d i).block, 0, .nilFunc⟩
 | false => ⟨i, 0, .nilFunc⟩
def mV : Nat → V
 | 0 => .nilslice
 | 1 => .xslice true 7 (.lit 0) 1 (.lit 0) (.known (.var 51))
 | _ => .xslice true 7 (.lit 0) 1 (.var 50) (.known (.var 51))
def mPc : Nat → PC
 | 0 => []
 | 1 => [(.le (.lit 0) (.var 51), true)]
 | _ => [(.le (.lit 1) (.var 50), true), (.le (.var 50) (.var 51), true)]
def mR : Nat → List (Nat × SObj)
 | 0 => []
 | 1 => []
 | _ => [(7, .warr 7 200 [.int .u8] (.var 50))]
def mSm : PC := [(.le (.var 50) (.lit 1024), true)]
def kV (z : Bool) (k : Nat) : V := match z with
 | true => .nilslice
 | false => .wslice 8 0 (.lit (.ofNat k)) (.var 92)
def wR : Nat → List (Nat × SObj)
 | 0 => []
 | k + 1 => wR k ++ [(10 + k, .warr (10 + k) (300 + 10 * k) [.int .u32] (.var (52 + 2 * k)))]
def kR (k : Nat) : List (Nat × SObj) := match k with
 | 0 => []
 | k + 1 => (8, .win 8 (anys 20 (k + 1)) (.lit (.ofNat (k + 1))) 1) :: wR (k + 1)
def pow : Nat → Int
 | 0 => 1
 | 1 => 2
 | 2 => 4
 | 3 => 8
 | 4 => 16
 | 5 => 32
 | _ => 64
def sX : Nat → X
 | 0 => .var 91
 | 1 => .var 91
 | 2 => .var 91
 | 3 => .var 91
 | s + 4 => .lit (pow s)
def sPc : Nat → PC
 | 0 => []
 | 1 => [(.lt (.var 91) (.lit 1), true)]
 | 2 => [(.lt (.var 91) (.lit 1), false), (.lt (.lit 64) (.var 91), true)]
 | 3 => [(.lt (.var 91) (.lit 1), false), (.lt (.lit 64) (.var 91), false), (.eq (.bits 0 .i64 (.var 91) (.sub (.var 91) (.lit 1))) (.lit 0), false)]
 | _ => []
def argV (codes mem : V) (sets : X) : V := .agg [codes, mem, .int .i64 sets, .int .i64 (.var 90)]
noncomputable def smV (k : Nat) (arg : V) (row b : Bool) : List (FuncId × (List V → St → R (V × St))) := [(5, sumTab LStart 7 sum5), (38, coreS k), (4, greatS arg row b)]
noncomputable def cxV (k : Nat) (arg : V) (row b : Bool) : Cx := { cxD with sm := smOf (smV k arg row b), sx := true, mg := false, js := true }
noncomputable def runV (k : Nat) (arg : V) (row b : Bool) (ws : List (Nat × SObj)) (pc : PC) : Bool := allChkX ((evT (cxV k arg row b) 4000).call 3 [arg] (stRows LStart ws 26 (pc ++ [(.le (.lit 0) (.lit 7), true)])))
noncomputable def runS (z : Bool) (k i s : Nat) : Bool := runV (if k < 5 then k else 0) (argV (kV z k) (mV i) (sX s)) (Nat.blt 0 k) false (mR i ++ kR k) (mPc i ++ (mSm ++ sPc s))
noncomputable def runG (z o : Bool) (k i : Nat) : Bool := runV 0 (argV (match o with
 | true => .wslice 8 0 (.var 93) (.var 92)
 | false => kV z k) (mV i) (.var 91)) (match o with
 | true => false
 | false => Nat.blt 0 k) true (match o with
 | true => []
 | false => mR i ++ kR k) (match o with
 | true => (.lt (.lit 6) (.var 93), true) :: mPc i
 | false => mPc i)
end Go.Proofs.YtodbpiifjpnnbaaGreatDoor
