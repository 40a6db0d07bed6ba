/- What harts, words and answers are made of, as variables. No condition. -/
import Derived.Test.YtcachlbljjpjdaaGreatDoorHBase
import Derived.Test.YtcachlbljjpjdaaGreatDoorHSumS
namespace Go.Proofs.YtcachlbljjpjdaaGreatDoor
open Go Go.Proofs Go.RowKit

noncomputable def cxL : Cx := { cx59 with sx := true }
def doneX (w : X) : List V := [hartX 0 0, .agg [.int .u32 w, .int .i64 (.wrap .i64 (.var 3)), .int .u32 (wordX 32 32), .bool (flagX 64)]]
def doneB (w a : Nat) (ok : Bool) (i : Nat) : Bool := if i < 32 then w.testBit i else if i < 64 then a.testBit (i - 32) else ok
def doneVar (id pc cause n : Int) (i : Nat) : Int := match i with
  | 0 => id
  | 1 => pc
  | 2 => cause
  | _ => n
def doneEnv (ρ : Env) (id pc : Int) (regs : List Int) (cause n : Int) (w a : Nat) (ok : Bool) : Env := { ρ with b := doneB w a ok, v := doneVar id pc cause n, f1 := fun _ z => regs.getD z.toNat 0 }
theorem regs_get (l : List Int) (j : Nat) (hj : j < l.length) : l.getD (Int.ofNat j).toNat 0 = l[j] := by
  rw [List.getD_eq_getElem?_getD, show (Int.ofNat j).toNat = j from rfl, List.getElem?_eq_getElem hj]
  rfl
def env0 (W : World) : Env := { b := fun _ => false, v := fun _ => 0, f1 := fun _ _ => 0, f2 := fun _ _ _ => 0, s := fun _ => [], sf := fun _ _ => [], ro := roOf W, win := fun _ => ⟨0, 0, none⟩ }
end Go.Proofs.YtcachlbljjpjdaaGreatDoor
