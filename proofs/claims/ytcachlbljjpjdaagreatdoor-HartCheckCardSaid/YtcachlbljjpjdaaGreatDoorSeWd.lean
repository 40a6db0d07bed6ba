/- Symbolic execution, part 32: what a call leaves, in names of its own; summaries (plain functions). No condition. -/
import Derived.Test.YtcachlbljjpjdaaGreatDoorSe3
namespace Go.Proofs.YtcachlbljjpjdaaGreatDoor
open Go
noncomputable section

def Cp.ren (r : Nat → Nat) : Cp → Cp
  | .known n => .known n
  | .room b o => .room (r b) o
mutual
def V.ren (r : Nat → Nat) : V → V
  | .int k x => .int k x
  | .bool x => .bool x
  | .str x => .str x
  | .ptr b o => .ptr (r b) o
  | .nilptr => .nilptr
  | .slice b o n c => .slice (r b) o n (c.ren r)
  | .nilslice => .nilslice
  | .map b => .map (r b)
  | .nilmap => .nilmap
  | .func f a c => .func f (V.rens r a) (V.rens r c)
  | .yield b => .yield (r b)
  | .nilfunc => .nilfunc
  | .iface t v => .iface t (v.ren r)
  | .niliface => .niliface
  | .agg l => .agg (V.rens r l)
  | .tuple l => .tuple (V.rens r l)
  | .wptr b off => .wptr b off
  | .wslice b off len cap => .wslice b off len cap
  | .ite c a b => .ite c (a.ren r) (b.ren r)
  | .sptr b off n i => .sptr (r b) off n i
def V.rens (r : Nat → Nat) : List V → List V
  | [] => []
  | v :: l => v.ren r :: V.rens r l
end
mutual
/-- A value in which no block is named. -/
def V.pure : V → Bool
  | .ptr _ _ => false
  | .slice _ _ _ _ => false
  | .map _ => false
  | .yield _ => false
  | .wptr _ _ => false
  | .wslice _ _ _ _ => false
  | .sptr _ _ _ _ => false
  | .ite _ a b => a.pure && b.pure
  | .func _ a c => V.pures a && V.pures c
  | .iface _ v => v.pure
  | .agg l => V.pures l
  | .tuple l => V.pures l
  | _ => true
def V.pures : List V → Bool
  | [] => true
  | v :: l => v.pure && V.pures l
end
mutual
/-- A value without windows. -/
def V.noWin : V → Bool
  | .wptr _ _ => false
  | .wslice _ _ _ _ => false
  | .ite _ a b => a.noWin && b.noWin
  | .func _ a c => V.noWins a && V.noWins c
  | .iface _ v => v.noWin
  | .agg l => V.noWins l
  | .tuple l => V.noWins l
  | _ => true
def V.noWins : List V → Bool
  | [] => true
  | v :: l => v.noWin && V.noWins l
end
def noWinEs : List (V × V) → Bool
  | [] => true
  | (k, v) :: l => k.noWin && (v.noWin && noWinEs l)
def renEs (r : Nat → Nat) : List (V × V) → List (V × V)
  | [] => []
  | (k, v) :: l => (k.ren r, v.ren r) :: renEs r l
def SObj.ren (r : Nat → Nat) : SObj → SObj
  | .cells c e w => .cells (V.rens r c) e w
  | .map es => .map (renEs r es)
  | o => o
def SObj.plain : SObj → Bool
  | .cells c _ _ => V.noWins c
  | .map es => noWinEs es
  | _ => false
/-- Names from one on are moved. -/
def sh (m n : Nat) (i : Nat) : Nat := match Nat.blt i n with
  | true => i
  | false => i - n + m
def putAll (r : Nat → Nat) : List (Nat × SObj) → H → H
  | [], h => h
  | (b, o) :: l, h => (putAll r l h).set (r b) (o.ren r)
def roHeap : List (Nat × List V) → H
  | [] => .nil
  | (i, c) :: l => (roHeap l).set i (.ro i c)
def roThere : List (Nat × List V) → H → Bool
  | [], _ => true
  | (i, _) :: l, h => match h.get i with
    | some (.ro j _) => Nat.beq i j && roThere l h
    | _ => false
def stG (L : List (Nat × List V)) (n : Nat) : St := { h := roHeap L, n := n, pc := [] }
structure Leaf where
  v : V
  objs : List (Nat × SObj)
  n : Nat
mutual
def V.names : V → List Nat
  | .ptr b _ => [b]
  | .slice b _ _ _ => [b]
  | .map b => [b]
  | .sptr b _ _ _ => [b]
  | .ite _ a b => a.names ++ b.names
  | .func _ a c => V.namess a ++ V.namess c
  | .iface _ v => v.names
  | .agg l => V.namess l
  | .tuple l => V.namess l
  | _ => []
def V.namess : List V → List Nat
  | [] => []
  | v :: l => v.names ++ V.namess l
end
def keepOf (h : H) (ng : Nat) : List Nat → List (Nat × SObj)
  | [] => []
  | b :: l => match Nat.ble ng b with
    | true => match h.get b with
      | some o => match o.plain with
        | true => (b, o) :: keepOf h ng l
        | false => keepOf h ng l
      | none => keepOf h ng l
    | false => keepOf h ng l
def namesEs : List (V × V) → List Nat
  | [] => []
  | (k, v) :: l => k.names ++ (v.names ++ namesEs l)
def SObj.names : SObj → List Nat
  | .cells c _ _ => V.namess c
  | .map es => namesEs es
  | _ => []
def stepNames (h : H) (ng : Nat) : List Nat → List Nat
  | [] => []
  | b :: l => match Nat.ble ng b with
    | true => match h.get b with
      | some o => o.names ++ stepNames h ng l
      | none => stepNames h ng l
    | false => stepNames h ng l
def addNew : List Nat → List Nat → List Nat
  | [], l => l
  | b :: m, l => match memN b l with
    | true => addNew m l
    | false => addNew m (b :: l)
/-- What can be reached. -/
def reach (h : H) (ng : Nat) : Nat → List Nat → List Nat
  | 0, l => l
  | n + 1, l => match stepNames h ng l with
    | [] => l
    | m => reach h ng n (addNew m l)
def leafOf (L : List (Nat × List V)) (ng : Nat) : EOut → R Leaf
  | .ok (.ret v, st) => match roThere L st.h && v.noWin with
    | true => .ok { v := v, objs := keepOf st.h ng (reach st.h ng 5 (addNew v.names [])), n := st.n }
    | false => .stuck "a table has gone"
  | .ok (.panic _, _) => .stuck "a panic"
  | .br c t f => .br c (leafOf L ng t) (leafOf L ng f)
  | .stuck s => .stuck s
def goSum (ng : Nat) : R Leaf → St → R (V × St)
  | .ok lf, st => .ok (lf.v.ren (sh st.n ng), { h := putAll (sh st.n ng) lf.objs st.h, n := st.n + (lf.n - ng), pc := st.pc })
  | .br c t f, st => split st c fun st b => match b with
    | true => goSum ng t st
    | false => goSum ng f st
  | .stuck s, _ => .stuck s
/-- What a function does at arguments that are written out. -/
def sumTab (L : List (Nat × List V)) (ng : Nat) : List (List V × R Leaf) → List V → St → R (V × St)
  | [], _, _ => .stuck "summary: arguments"
  | (args0, tr) :: l, args, st => match V.beqs args args0 with
    | true => match roThere L st.h with
      | true => goSum ng tr st
      | false => .stuck "summary: tables"
    | false => sumTab L ng l args st

/-! ### A run's variables are filled -/
structure Sub where
  v : List (Nat × X)
  n : Nat
  b : List B
  s : List (Nat × X)
def look {α : Type} : List (Nat × α) → Nat → Option α
  | [], _ => none
  | (j, a) :: l, i => match Nat.beq j i with
    | true => some a
    | false => look l i
/-- Bits are filled from the first one on; the last one that was filled stands ahead. -/
def lookB (σ : Sub) (i : Nat) : Option B := match Nat.blt i σ.n with
  | true => nth σ.b (σ.n - 1 - i)
  | false => none
def addBit (σ : Sub) (i : Nat) (c : B) : Sub := match Nat.beq i σ.n with
  | true => { σ with n := i + 1, b := c :: σ.b }
  | false => σ
def B.put (σ : Sub) : B → B
  | .zero => .zero
  | .one => .one
  | .pos i => match lookB σ i with
    | some c => c
    | none => .pos i
  | .neg i => match lookB σ i with
    | some c => c.not
    | none => .neg i
def putBs (σ : Sub) : List B → List B
  | [] => []
  | b :: l => b.put σ :: putBs σ l
/-- A bit is to be so. -/
def Q.want (q : Q) (c : B) (x : Bool) : Q :=
  match c with
  | .zero => match x with
    | true => .ff
    | false => q
  | .one => match x with
    | true => q
    | false => .ff
  | .pos j => q.with j x
  | .neg j => q.with j !x
def cubeGo (σ : Sub) (m v : Nat) : Nat → Q → Q
  | 0, q => q
  | n + 1, q => match Nat.testBit m n with
    | true => cubeGo σ m v n (q.want ((B.pos n).put σ) (Nat.testBit v n))
    | false => cubeGo σ m v n q
def cubePut (σ : Sub) (m v : Nat) : X := ofQ (.lit 0) (cubeGo σ m v (m.log2 + 1) (.c 0 0))
mutual
def X.put (σ : Sub) : X → X
  | .lit n => .lit n
  | .var i => match look σ.v i with
    | some x => x
    | none => .var i
  | .wrap k (.add a b) => mkAdd k (a.put σ) (b.put σ)
  | .wrap k (.sub a b) => mkSub k (a.put σ) (b.put σ)
  | .wrap k (.mul a b) => mkMul k (a.put σ) (b.put σ)
  | .wrap k (.quo a b) => mkQuo k (a.put σ) (b.put σ)
  | .wrap k a => mkWrap k (a.put σ)
  | .add a b => .add (a.put σ) (b.put σ)
  | .sub a b => .sub (a.put σ) (b.put σ)
  | .mul a b => .mul (a.put σ) (b.put σ)
  | .quo a b => .quo (a.put σ) (b.put σ)
  | .rem a b => mkRem (a.put σ) (b.put σ)
  | .bits o k a b => mkBits o k (a.put σ) (b.put σ)
  | .shl k a b => mkShl k (a.put σ) (b.put σ)
  | .shr k a b => mkShr k (a.put σ) (b.put σ)
  | .eq a b => mkEq (a.put σ) (b.put σ)
  | .lt a b => mkLt (a.put σ) (b.put σ)
  | .le a b => mkLe (a.put σ) (b.put σ)
  | .not a => mkNot (a.put σ)
  | .ite c a b => mkIte (c.put σ) (a.put σ) (b.put σ)
  | .fn1 f a => .fn1 f (a.put σ)
  | .fn2 f a b => .fn2 f (a.put σ) (b.put σ)
  | .slen a => mkLen (a.putS σ)
  | .seq a b => mkSeq (a.putS σ) (b.putS σ)
  | .bv l t => mkBv (putBs σ l) (t.put σ)
  | .cube m v => cubePut σ m v
  | .slit l => .slit l
  | .svar i => .svar i
  | .scat a b => .scat a b
  | .sfn f a => .sfn f a
def X.putS (σ : Sub) : X → X
  | .svar i => match look σ.s i with
    | some x => x
    | none => .svar i
  | .scat a b => mkCat (a.putS σ) (b.putS σ)
  | .sfn f a => .sfn f (a.put σ)
  | .ite c a b => mkIteS (c.put σ) (a.putS σ) (b.putS σ)
  | x => x
end
mutual
def V.put (σ : Sub) : V → V
  | .int k x => .int k (x.put σ)
  | .bool x => .bool (x.put σ)
  | .str x => .str (x.putS σ)
  | .func f a c => .func f (V.puts σ a) (V.puts σ c)
  | .iface t v => .iface t (v.put σ)
  | .agg l => .agg (V.puts σ l)
  | .tuple l => .tuple (V.puts σ l)
  | .wslice b off len cap => .wslice b off (len.put σ) (cap.put σ)
  | .ite c a b => .ite (c.put σ) (a.put σ) (b.put σ)
  | .sptr b off n i => .sptr b off n (i.put σ)
  | v => v
def V.puts (σ : Sub) : List V → List V
  | [] => []
  | v :: l => v.put σ :: V.puts σ l
end
def putEs (σ : Sub) : List (V × V) → List (V × V)
  | [] => []
  | (k, v) :: l => (k.put σ, v.put σ) :: putEs σ l
def SObj.put (σ : Sub) : SObj → SObj
  | .cells c e w => .cells (V.puts σ c) e w
  | .map es => .map (putEs σ es)
  | o => o
def putObjs (σ : Sub) : List (Nat × SObj) → List (Nat × SObj)
  | [] => []
  | (b, o) :: l => (b, o.put σ) :: putObjs σ l
/-- How the variables are to be filled: it is tried behind. -/
def matchBs : List B → List B → B → Sub → Sub
  | [], _, _, σ => σ
  | p :: ps, l, t, σ => match l with
    | [] => matchBs ps [] t (match p with
      | .pos i => addBit σ i t
      | _ => σ)
    | c :: l => matchBs ps l t (match p with
      | .pos i => addBit σ i c
      | _ => σ)
def matchX (p a : X) (σ : Sub) : Sub :=
  match p with
  | .var i => { σ with v := (i, a) :: σ.v }
  | .wrap _ (.var i) => { σ with v := (i, a) :: σ.v }
  | .svar i => { σ with s := (i, a) :: σ.s }
  | .bv ps _ => match toB a with
    | some (l, t) => matchBs ps l t σ
    | none => σ
  | .cube m _ => match a with
    | .lit n => addBit σ m.log2 (match intBeq n 0 with | true => B.zero | false => B.one)
    | .cube m' v' => addBit σ m.log2 (match Nat.beq v' 0 with | true => B.neg m'.log2 | false => B.pos m'.log2)
    | _ => σ
  | _ => σ
mutual
def matchV : V → V → Sub → Sub
  | .int _ p, .int _ a, σ => matchX p a σ
  | .bool p, .bool a, σ => matchX p a σ
  | .str p, .str a, σ => matchX p a σ
  | .agg l, .agg m, σ => matchVs l m σ
  | .tuple l, .tuple m, σ => matchVs l m σ
  | _, _, σ => σ
def matchVs : List V → List V → Sub → Sub
  | v :: l, w :: m, σ => matchVs l m (matchV v w σ)
  | _, _, σ => σ
end
def goPar (ng : Nat) (σ : Sub) : R Leaf → St → R (V × St)
  | .ok lf, st => .ok ((lf.v.put σ).ren (sh st.n ng), { h := putAll (sh st.n ng) (putObjs σ lf.objs) st.h, n := st.n + (lf.n - ng), pc := st.pc })
  | .br c t f, st => split st (c.put σ) fun st b => match b with
    | true => goPar ng σ t st
    | false => goPar ng σ f st
  | .stuck s, _ => .stuck s
/-- Numbers and texts that are written out, held against each other first. -/
def fitsX (a b : V) : Bool :=
  match a with
  | .int _ (.lit a) => match b with
    | .int _ (.lit b) => intBeq a b
    | .int _ _ => false
    | _ => true
  | .str (.slit a) => match b with
    | .str (.slit b) => natsBeq a b
    | .str _ => false
    | _ => true
  | _ => true
def fitsXs : List V → List V → Bool
  | a :: l, b :: m => match fitsX a b with
    | true => fitsXs l m
    | false => false
  | _, _ => true
def fitsV (a b : V) : Bool :=
  match a with
  | .agg l => match b with
    | .agg m => fitsXs l m
    | _ => true
  | a => fitsX a b
def fitsL : List V → List V → Bool
  | a :: l, b :: m => match fitsV a b with
    | true => fitsL l m
    | false => false
  | _, _ => true
/-- What a function does, its variables filled. -/
def sumPar (L : List (Nat × List V)) (ng : Nat) : List (List V × R Leaf) → List V → St → R (V × St)
  | [], _, _ => .stuck "summary: arguments"
  | (args0, tr) :: l, args, st => match fitsL args0 args with
    | false => sumPar L ng l args st
    | true => match matchVs args0 args { v := [], n := 0, b := [], s := [] } with
      | σ => match V.beqs args (V.puts σ args0) with
        | true => match roThere L st.h with
          | true => goPar ng σ tr st
          | false => .stuck "summary: tables"
        | false => sumPar L ng l args st
/-- A truth, by what is known. -/
def holds (pc : PC) : X → Option Bool
  | .lit n => some (!intBeq n 0)
  | .not a => match holds pc a with
    | some b => some !b
    | none => none
  | .ite c a b => match holds pc c with
    | some true => holds pc a
    | some false => holds pc b
    | none => none
  | x => decAtom pc x
def sameB : Bool → Bool → Bool
  | true, b => b
  | false, true => false
  | false, false => true
/-- Facts and their contraries. -/
def addF (pc : PC) (c : X) (b : Bool) : PC := match c with
  | .not y => addF pc y (!b)
  | c => (c, b) :: pc
/-- With what is known, within. -/
def simpD (pc : PC) : Nat → X → X
  | 0, x => x
  | n + 1, x => match x with
    | .ite c a b => match holds pc c with
      | some true => simpD pc n a
      | some false => simpD pc n b
      | none => .ite c a b
    | x => simpX pc x
def iteC : X → Option X
  | .ite c _ _ => some c
  | _ => none
/-- Is it so, by what is known? Where a part hangs on a test, both ways are looked at. -/
def chk : Nat → PC → X → Bool → Bool
  | 0, _, _, _ => false
  | f + 1, pc, x, b => match x with
    | .lit n => sameB (!intBeq n 0) b
    | .not a => chk f pc a (!b)
    | .ite c p q => match holds pc c with
      | some true => chk f pc p b
      | some false => chk f pc q b
      | none => match chk f pc c true with
        | true => chk f pc p b
        | false => match chk f (addF pc c true) p b with
          | true => chk f (addF pc c false) q b
          | false => false
    | .eq u v => match simpD pc 100 u, simpD pc 100 v with
      | u, v => match holds pc (mkEq u v) with
        | some t => sameB t b
        | none => match iteC u with
          | some c => match chk f (addF pc c true) (.eq u v) b with
            | true => chk f (addF pc c false) (.eq u v) b
            | false => false
          | none => match iteC v with
            | some c => match chk f (addF pc c true) (.eq u v) b with
              | true => chk f (addF pc c false) (.eq u v) b
              | false => false
            | none => false
    | x => match holds pc x with
      | some t => sameB t b
      | none => false
def allChk (L : List (Nat × List V)) : EOut → Bool
  | .ok (.ret (.bool x), st) => match chk 1000 st.pc x true with
    | true => roThere L st.h
    | _ => false
  | .ok _ => false
  | .br _ t f => match allChk L t with
    | true => allChk L f
    | false => false
  | .stuck _ => false
/-- All ends are 'true', and the tables lie there. -/
def allTrue (L : List (Nat × List V)) : EOut → Bool
  | .ok (.ret (.bool x), st) => match holds st.pc x with
    | some true => roThere L st.h
    | _ => false
  | .ok _ => false
  | .br _ t f => match allTrue L t with
    | true => allTrue L f
    | false => false
  | .stuck _ => false
/-- Summaries, one function at a time. -/
def smOf : List (FuncId × (List V → St → R (V × St))) → FuncId → Option (List V → St → R (V × St))
  | [], _ => none
  | (g, s) :: l, f => match Nat.beq f g with
    | true => some s
    | false => smOf l f
end
end Go.Proofs.YtcachlbljjpjdaaGreatDoor
