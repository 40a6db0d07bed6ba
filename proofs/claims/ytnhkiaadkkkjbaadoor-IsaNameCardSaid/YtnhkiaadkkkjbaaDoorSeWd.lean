/- Symbolic execution, part 32: what a call leaves, in names of its own; summaries (plain functions). No condition. -/
import Derived.Test.YtnhkiaadkkkjbaaDoorSe3
namespace Go.Proofs.YtnhkiaadkkkjbaaDoor
open Go
noncomputable section

def Cp.ren (r : Nat → Nat) : Cp → Cp
  | .known n => .known n
  | .room b o => .room (r b) o
mutual
def V.ren (r : Nat → Nat) : V → V
  | .int k x => .int k x
  | .bool x => .bool x
  | .str x => .str x
  | .ptr b o => .ptr (r b) o
  | .nilptr => .nilptr
  | .slice b o n c => .slice (r b) o n (c.ren r)
  | .nilslice => .nilslice
  | .map b => .map (r b)
  | .nilmap => .nilmap
  | .func f a c => .func f (V.rens r a) (V.rens r c)
  | .yield b => .yield (r b)
  | .nilfunc => .nilfunc
  | .iface t v => .iface t (v.ren r)
  | .niliface => .niliface
  | .agg l => .agg (V.rens r l)
  | .tuple l => .tuple (V.rens r l)
def V.rens (r : Nat → Nat) : List V → List V
  | [] => []
  | v :: l => v.ren r :: V.rens r l
end
mutual
/-- A value in which no block is named. -/
def V.pure : V → Bool
  | .ptr _ _ => false
  | .slice _ _ _ _ => false
  | .map _ => false
  | .yield _ => false
  | .func _ a c => V.pures a && V.pures c
  | .iface _ v => v.pure
  | .agg l => V.pures l
  | .tuple l => V.pures l
  | _ => true
def V.pures : List V → Bool
  | [] => true
  | v :: l => v.pure && V.pures l
end
def renEs (r : Nat → Nat) : List (V × V) → List (V × V)
  | [] => []
  | (k, v) :: l => (k.ren r, v.ren r) :: renEs r l
def SObj.ren (r : Nat → Nat) : SObj → SObj
  | .cells c e w => .cells (V.rens r c) e w
  | .map es => .map (renEs r es)
  | o => o
def SObj.plain : SObj → Bool
  | .cells _ _ _ => true
  | .map _ => true
  | _ => false
/-- Names from one on are moved. -/
def sh (m n : Nat) (i : Nat) : Nat := match Nat.blt i n with
  | true => i
  | false => i - n + m
def putAll (r : Nat → Nat) : List (Nat × SObj) → H → H
  | [], h => h
  | (b, o) :: l, h => (putAll r l h).set (r b) (o.ren r)
def roHeap : List (Nat × List V) → H
  | [] => .nil
  | (i, c) :: l => (roHeap l).set i (.ro i c)
def roThere : List (Nat × List V) → H → Bool
  | [], _ => true
  | (i, _) :: l, h => match h.get i with
    | some (.ro j _) => Nat.beq i j && roThere l h
    | _ => false
def stG (L : List (Nat × List V)) (n : Nat) : St := { h := roHeap L, n := n, pc := [] }
structure Leaf where
  v : V
  objs : List (Nat × SObj)
  n : Nat
mutual
def V.names : V → List Nat
  | .ptr b _ => [b]
  | .slice b _ _ _ => [b]
  | .map b => [b]
  | .func _ a c => V.namess a ++ V.namess c
  | .iface _ v => v.names
  | .agg l => V.namess l
  | .tuple l => V.namess l
  | _ => []
def V.namess : List V → List Nat
  | [] => []
  | v :: l => v.names ++ V.namess l
end
def keepOf (h : H) (ng : Nat) : List Nat → List (Nat × SObj)
  | [] => []
  | b :: l => match Nat.ble ng b with
    | true => match h.get b with
      | some o => match o.plain with
        | true => (b, o) :: keepOf h ng l
        | false => keepOf h ng l
      | none => keepOf h ng l
    | false => keepOf h ng l
def leafOf (L : List (Nat × List V)) (ng : Nat) : EOut → R Leaf
  | .ok (.ret v, st) => match roThere L st.h with
    | true => .ok { v := v, objs := keepOf st.h ng v.names, n := st.n }
    | false => .stuck "a table has gone"
  | .ok (.panic _, _) => .stuck "a panic"
  | .br c t f => .br c (leafOf L ng t) (leafOf L ng f)
  | .stuck s => .stuck s
def goSum (ng : Nat) : R Leaf → St → R (V × St)
  | .ok lf, st => .ok (lf.v.ren (sh st.n ng), { h := putAll (sh st.n ng) lf.objs st.h, n := st.n + (lf.n - ng), pc := st.pc })
  | .br c t f, st => split st c fun st b => match b with
    | true => goSum ng t st
    | false => goSum ng f st
  | .stuck s, _ => .stuck s
/-- What a function does at arguments that are written out. -/
def sumTab (L : List (Nat × List V)) (ng : Nat) : List (List V × R Leaf) → List V → St → R (V × St)
  | [], _, _ => .stuck "summary: arguments"
  | (args0, tr) :: l, args, st => match V.beqs args args0 with
    | true => match roThere L st.h with
      | true => goSum ng tr st
      | false => .stuck "summary: tables"
    | false => sumTab L ng l args st
/-- Summaries, one function at a time. -/
def smOf : List (FuncId × (List V → St → R (V × St))) → FuncId → Option (List V → St → R (V × St))
  | [], _ => none
  | (g, s) :: l, f => match Nat.beq f g with
    | true => some s
    | false => smOf l f
end
end Go.Proofs.YtnhkiaadkkkjbaaDoor
