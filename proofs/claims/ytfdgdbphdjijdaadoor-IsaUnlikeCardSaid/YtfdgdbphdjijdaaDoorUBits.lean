/- IsaUnlike: what is looked at of isa.Encode, Text, Decode of one instruction. No condition. -/
import Derived.Test.YtfdgdbphdjijdaaDoorGBits
import Derived.Test.YtfdgdbphdjijdaaDoorULaw
import Derived.Test.YtfdgdbphdjijdaaDoorFwF
namespace Go.Proofs.YtfdgdbphdjijdaaDoor
open Go Go.Proofs
def topB : Bool → List B
 | true => [.one]
 | false => []
def flagL : Bool → V
 | true => .bool (.lit 1)
 | false => .bool (.lit 0)
def instF (w o a b c : X) (p q : Bool) : V := .agg [.int .i64 o, .int .i64 a, .int .i64 b, .int .i64 c, .int .u32 w, flagL p, flagL q]
def rdX : X := wordX 0 5
def r1X : X := wordX 5 5
def r2X : X := wordX 10 5
def sgnX : Bool → X
 | true => .bv (posL 15 31) .one
 | false => .bv (posL 15 31) .zero
def upX (hi : Bool) : X := .bv (posL 27 19 ++ topB hi) .zero
def lowX : X := .bv (posL 15 12) .zero
def numX (x r : X) : X := mkCat (.sfn 1 x) r
def xnX (x r : X) : X := mkCat (.slit [120]) (numX x r)
def cmX (r : X) : X := mkCat (.slit [44, 32]) r
def noX : X := .slit []
def parX (x : X) : X := mkCat (.slit [40]) (xnX x (.slit [41]))
def toldX (hi : Bool) : Nat → X
 | 0 => xnX rdX (cmX (numX (upX hi) noX))
 | 1 => xnX rdX (cmX (numX (sgnX hi) noX))
 | 2 => xnX rdX (cmX (numX (sgnX hi) (parX r1X)))
 | 3 => xnX r1X (cmX (xnX r2X (cmX (numX (sgnX hi) noX))))
 | 4 => xnX r2X (cmX (numX (sgnX hi) (parX r1X)))
 | 5 => xnX rdX (cmX (xnX r1X (cmX (numX (sgnX hi) noX))))
 | 6 => xnX rdX (cmX (xnX r1X (cmX (xnX r2X noX))))
 | 7 => numX (sgnX hi) noX
 | 8 => noX
 | 9 => xnX rdX (cmX (parX r1X))
 | 10 => xnX rdX (cmX (xnX r2X (cmX (parX r1X))))
 | _ => xnX rdX noX
def natsOf : List UInt8 → List Nat
 | [] => []
 | c :: l => c.toNat :: natsOf l
def utxX (k : Nat) (hi p q : Bool) : X := mkCat (.slit (natsOf (nameOf k ++ sufOf p q))) (match Nat.beq (formOf k) 8 with
 | true => noX
 | false => mkCat (.slit [32]) (toldX hi (formOf k)))
noncomputable def eqC (pc : PC) (x y : X) : Bool := match x.beq y with
 | true => true
 | false => match (simpX pc x).beq (simpX pc y) with
  | true => true
  | false => chk 1000 pc (.eq x y) true
noncomputable def sameT (pc : PC) : X → X → Bool
 | .slit a, y => match y with
  | .slit b => natsBeq a b
  | _ => false
 | .scat a b, y => match y with
  | .scat c d => match sameT pc a c with
   | true => sameT pc b d
   | false => false
  | _ => false
 | .sfn f x, y => match y with
  | .sfn g z => match Nat.beq f g with
   | true => eqC pc x z
   | false => false
  | _ => false
 | _, _ => false
noncomputable def uCall (c : Cx) (f : FuncId) (a : V) (pc : PC) (k : V → PC → Bool) : Bool := overR ((evT c 4000).call f [a] { stG LStart 7 with pc := pc }) fun v st => match Nat.ble st.n 10000 with
 | true => match roThere LStart st.h with
  | true => k v st.pc
  | false => false
 | false => false
def zRd (f : Nat) : Bool := Nat.beq f 3 || (Nat.beq f 4 || (Nat.beq f 7 || Nat.beq f 8))
def zR1 (f : Nat) : Bool := Nat.beq f 0 || (Nat.beq f 1 || (Nat.beq f 7 || (Nat.beq f 8 || Nat.beq f 11)))
def zR2 (f : Nat) : Bool := !(Nat.beq f 3 || (Nat.beq f 4 || (Nat.beq f 6 || Nat.beq f 10)))
def zIm (f : Nat) : Bool := Nat.ble 6 f && !(Nat.beq f 7)
noncomputable def zeroOk (pc : PC) (hi : Bool) (f : Nat) : Bool := (!(zRd f) || eqC pc rdX (.lit 0)) && ((!(zR1 f) || eqC pc r1X (.lit 0)) && ((!(zR2 f) || eqC pc r2X (.lit 0)) && ((!(zIm f) || eqC pc (immH (topB hi)) (.lit 0)) && (!(Nat.beq f 0) || eqC pc lowX (.lit 0)))))
noncomputable def decOk (k : Nat) (hi p q : Bool) (v : V) (pc : PC) : Bool := match v with
 | .tuple [.agg [.int .i64 o, .int .i64 a, .int .i64 b, .int .i64 c, .int .u32 i, .bool p', .bool q'], .bool is] => chk 1000 pc is true && (eqC pc o (.lit (Int.ofNat k)) && (eqC pc a rdX && (eqC pc b r1X && (eqC pc c r2X && (eqC pc i (immH (topB hi)) && (chk 1000 pc p' p && chk 1000 pc q' q))))))
 | _ => false
def noneE (v : V) (_ : PC) : Bool := match v with
 | .tuple [.int .u32 (.lit z), .int .i64 (.lit e)] => intBeq z 0 && intBeq e 2
 | _ => false
def noneT (v : V) (_ : PC) : Bool := match v with
 | .tuple [.str t, .int .i64 (.lit e)] => isNone t && intBeq e 2
 | _ => false
noncomputable def lookT (k : Nat) (hi p q : Bool) (w : X) (v : V) (pc : PC) : Bool := match v with
 | .tuple [.str t, .int .i64 (.lit e)] => intBeq e 0 && (sameT pc t (utxX k hi p q) && (zeroOk pc hi (formOf k) && uCall cxT 13 (.int .u32 w) pc (decOk k hi p q)))
 | _ => false
noncomputable def lookE (k : Nat) (hi p q : Bool) (x : V) (v : V) (pc : PC) : Bool := match noneE v pc with
 | true => uCall cxT 5 x pc noneT
 | false => match v with
  | .tuple [.int .u32 w, .int .i64 (.lit e)] => intBeq e 0 && uCall cxT 5 x pc (lookT k hi p q w)
  | _ => false
noncomputable def inAt (k : Nat) (hi p q : Bool) : Bool := match instF (immH (topB hi)) (.lit (Int.ofNat k)) rdX r1X r2X p q with
 | x => uCall cxT 9 x [] (lookE k hi p q x)
noncomputable def outAt (c : Cx) (x : V) (pc : PC) : Bool := uCall c 9 x pc fun v1 pc1 => noneE v1 pc1 && uCall c 5 x pc1 noneT
noncomputable def inRun (k : Nat) (hi : Bool) : Bool := inAt k hi false false && (inAt k hi true false && (inAt k hi false true && inAt k hi true true))
noncomputable def outRun (k : Nat) : Bool := match X.lit (Int.ofNat k) with
 | o => outAt cxT (instX immX o (.var 1) (.var 2) (.var 3)) (tooLow 1) && (outAt cxT (instX immX o (.var 1) (.var 2) (.var 3)) (tooHigh 1) && (outAt cxT (instX immX o rdX (.var 2) (.var 3)) (tooLow 2) && (outAt cxT (instX immX o rdX (.var 2) (.var 3)) (tooHigh 2) &&
  (outAt cxT (instX immX o rdX r1X (.var 3)) (tooLow 3) && outAt cxT (instX immX o rdX r1X (.var 3)) (tooHigh 3)))))
noncomputable def uRun (k : Nat) : Bool := inRun k false && (inRun k true && outRun k)
noncomputable def uOther : Bool := outAt cxO (instX immX (.var 0) (.var 1) (.var 2) (.var 3)) (noOp 59)
end Go.Proofs.YtfdgdbphdjijdaaDoor
