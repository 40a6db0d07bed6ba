/- AloneParts: what rounds of the law's loop of r7 end in (plain functions). No condition. -/
import Derived.Test.YtmickljjofbmiaaGreatDoorFwH
namespace Go.Proofs.YtmickljjofbmiaaGreatDoor
open Go
noncomputable section
def kdX (n : X) : X := .wrap .i64 (.fn1 77 n)
def okC (n : X) : X := .eq (.fn1 85 n) (.lit 1)
def adX2 (n : X) : X := .wrap .u32 (.fn1 78 n)
def wdX (n : X) : X := .wrap .i64 (.fn1 79 n)
def vlX (n : X) : X := .wrap .u32 (.fn1 80 n)
def adJ (ad : X) : Nat → X
 | 0 => ad
 | i + 1 => .add ad (nl (i + 1))
def stP (ad v : X) : Nat → Nat → A → A
 | _, 0, a => a
 | i, k + 1, a => stP ad v (i + 1) k (.put a (adJ ad i) 0 (F5 v i))
def wT (wd : X) (g : Nat → R LM) : R LM := .br (.lt (.lit 0) wd) (.br (.lt (.lit 1) wd) (.br (.lt (.lit 2) wd) (.br (.lt (.lit 3) wd) (g 4) (g 3)) (g 2)) (g 1)) (g 0)
def putL (n1 : X) (mem : A) : LM := .next 2 (Zz [(100, n1)] [(30, ([.int .u8], mem))])
def notL (j : Nat) (n1 : X) (mem : A) : LM := .next j (Zz [(100, n1)] (match j with | 1 => [] | _ => [(30, ([.int .u8], mem))]))
def PPt (j : Nat) (n n1 : X) (mem : A) : R LM :=
 .br (.eq (kdX n) (.lit 2)) (wT (wdX n) fun w => .ok (putL n1 (stP (adX2 n) (vlX n) 0 w mem)))
  (.br (.eq (kdX n) (.lit 4)) (.br (okC n) (wT (wdX n) fun w => .ok (putL n1 (stP (adX2 n) (vlX n) 0 w mem))) (.ok (notL j n1 mem)))
   (.br (.eq (kdX n) (.lit 5)) (.ok (putL n1 (stP (adX2 n) (sq (tb 2 n 2)) 0 4 mem))) (.ok (notL j n1 mem))))
def PPl0 : R LM := PPt 1 (.lit 0) (.lit 1) (.base 20)
def PPl (j : Nat) (mem : A) : R LM := .br (.lt (.var 100) (.var 60)) (PPt j (.var 100) (.add (.var 100) (.lit 1)) mem) (.ok (.out (j - 1) (Zz [] (match j with | 1 => [] | _ => [(55, ([.int .u8], mem))]))))
def unU : X → X
 | .wrap .u32 y => y
 | y => y
def putPc (a w : X) : PC := [(.le (.lit 0) a, true), (.le (.lit 0) w, true), (.le w (.lit 4), true), (.le (.add a w) (.var 50), true)]
def putSg (ad w x : X) : Sub := { v := [(63, unU ad), (64, w), (65, unU x)], n := 0, b := [], s := [] }
def eT (L : List (Nat × List V)) (p0 : nU) (r0 : R Leaf) (p1 : nU) (r1 : R Leaf) (n : X) (a : List V) (st : St) : R (V × St) := match a with
 | [sl, .int .u32 ad, .int .i64 w, .int .u32 x] => match bM (X.beq ad (adX2 n)) (match X.beq w (wdX n) with
   | true => true
   | false => bM (X.beq w (.lit 4)) (Nt st.pc [(.eq (kdX n) (.lit 5), true)]) true true true true) true true true true with
  | true => match sl with
   | .xslice true _ _ _ _ _ => uL L 7 p0 r0 [putSg ad w x] a { st with pc := putPc ad w ++ st.pc }
   | _ => uL L 7 p1 r1 [putSg ad w x] a { st with pc := putPc ad w ++ st.pc }
  | false => .stuck "put"
 | _ => .stuck "put"
def amoP (L : List (Nat × List V)) (n : X) : List V → St → R (V × St) :=
 uK [(.eq (kdX n) (.lit 5), true)] (bT L 7 [([.int .i64 (.wrap .i64 (.fn1 81 n)), .int .u32 (.wrap .u32 (.fn1 84 n)), .int .u32 (vlX n)], Xb (u32 (sq (tb 2 n 2))))])
def weak2 (l : List (A × List CK × X × Nat)) (v : V) (st : St) : St := match v with
 | .tuple (_ :: .xslice false b _ _ _ _ :: _) => Be l b st
 | _ => st
def weakS2 (l : List (A × List CK × X × Nat)) (s : List V → St → R (V × St)) (args : List V) (st : St) : R (V × St) := (s args st).bind fun (v, st) => .ok (v, weak2 l v st)
end
end Go.Proofs.YtmickljjofbmiaaGreatDoor
