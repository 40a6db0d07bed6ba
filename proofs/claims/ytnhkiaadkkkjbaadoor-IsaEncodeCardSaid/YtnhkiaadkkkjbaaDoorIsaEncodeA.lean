/- IsaEncode: what is to be run, and an Op that is none. No condition. -/
import Derived.Test.YtnhkiaadkkkjbaaDoorSumOk
namespace Go.Proofs.YtnhkiaadkkkjbaaDoor
open Go Go.Proofs
set_option maxRecDepth 100000

/-- Without the tables of Ops that are written out. -/
noncomputable def cxF : Cx := { cx with sm := smOf [(10, sumPar LStart 7 sum10), (32, sumPar LStart 7 sum32), (23, sumPar LStart 7 sum23), (25, sumTab LStart 7 sum25), (13, sumTab LStart 7 sum13), (39, sumTab LStart 7 sum39)] }
theorem allF {ro : Nat → Obj} (h : RoAll ro) {ρ : Env} (hr : ρ.ro = ro) : SumOk Tryd.prog cxF ρ :=
  smOf_okL (l := [(10, sumPar LStart 7 sum10), (32, sumPar LStart 7 sum32), (23, sumPar LStart 7 sum23), (25, sumTab LStart 7 sum25), (13, sumTab LStart 7 sum13), (39, sumTab LStart 7 sum39)]) ⟨at10 h hr rfl, at32 h hr rfl, at23 h hr rfl, at25 h hr rfl, at13 h hr rfl, at39 h hr rfl, trivial⟩ rfl
def tooLow (i : Nat) : PC := [(.lt (.var i) (.lit 0), true)]
def tooHigh (i : Nat) : PC := [(.le (.lit 32) (.var i), true)]
noncomputable def encAt (k : Nat) (a b c : X) (pc : PC) : Bool := allTrue LStart ((ev cx10 4000).call 5 [instX (.lit (Int.ofNat k)) a b c] (stPc pc))
noncomputable def encRun (k : Nat) : Bool :=
  encAt k (wordX 0 5) (wordX 5 5) (wordX 10 5) [] && (encAt k (.var 1) (.var 2) (.var 3) (tooLow 1) && (encAt k (.var 1) (.var 2) (.var 3) (tooHigh 1) &&
    (encAt k (wordX 0 5) (.var 2) (.var 3) (tooLow 2) && (encAt k (wordX 0 5) (.var 2) (.var 3) (tooHigh 2) && (encAt k (wordX 0 5) (wordX 5 5) (.var 3) (tooLow 3) && encAt k (wordX 0 5) (wordX 5 5) (.var 3) (tooHigh 3))))))
def noOp : Nat → PC
  | 0 => []
  | k + 1 => (.eq (.var 0) (.lit (Int.ofNat (k + 1))), false) :: noOp k
theorem enc_other : allTrue LStart ((ev cxF 4000).call 5 [instX (.var 0) (.var 1) (.var 2) (.var 3)] (stPc (noOp 59))) = true := by kernel_rfl
end Go.Proofs.YtnhkiaadkkkjbaaDoor
