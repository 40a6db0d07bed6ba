/- Symbolic execution, part 2 a: bits, one by one (plain functions; nothing is proved here). No condition. -/
import Derived.Test.YtcachlbljjpjdaaGreatDoorSe1
namespace Go.Proofs.YtcachlbljjpjdaaGreatDoor
open Go

def B.not : B → B
  | .zero => .one
  | .one => .zero
  | .pos i => .neg i
  | .neg i => .pos i
def B.and (a b : B) : Option B :=
  match a with
  | .zero => some .zero
  | .one => some b
  | a => match b with
    | .zero => some .zero
    | .one => some a
    | b => match a.beq b, a.beq b.not with
      | true, _ => some a
      | false, true => some .zero
      | false, false => none
def B.or (a b : B) : Option B := match B.and a.not b.not with
  | some c => some c.not
  | none => none
def B.xor (a b : B) : Option B :=
  match a with
  | .zero => some b
  | .one => some b.not
  | a => match b with
    | .zero => some a
    | .one => some a.not
    | b => match a.beq b, a.beq b.not with
      | true, _ => some .zero
      | false, true => some .one
      | false, false => none
def B.diff (a b : B) : Option B := B.and a b.not
def B.op (o : Nat) : B → B → Option B :=
  match o with
  | 0 => B.and
  | 1 => B.or
  | 2 => B.xor
  | _ => B.diff
def consB (b : Option B) (r : Option (List B × B)) : Option (List B × B) :=
  match b with
  | none => none
  | some b => match r with
    | none => none
    | some (l, t) => some (b :: l, t)
def zipR (f : B → B → Option B) (t : B) : List B → B → Option (List B × B)
  | [], u => match f t u with
    | some c => some ([], c)
    | none => none
  | c :: m, u => consB (f t c) (zipR f t m u)
def zipB (f : B → B → Option B) : List B → B → List B → B → Option (List B × B)
  | [], t, m, u => zipR f t m u
  | b :: l, t, m, u => match m with
    | [] => consB (f b u) (zipB f l t [] u)
    | c :: m => consB (f b c) (zipB f l t m u)
/-- The lowest n bits, and nothing above. -/
def clipU : Nat → List B → B → List B
  | 0, _, _ => []
  | n + 1, [], t => match t with
    | .zero => []
    | t => t :: clipU n [] t
  | n + 1, b :: l, t => b :: clipU n l t
/-- The lowest n bits, and the next one for ever. -/
def clipS : Nat → List B → B → List B × B
  | _, [], t => ([], t)
  | 0, b :: _, _ => ([], b)
  | n + 1, b :: l, t => match clipS n l t with
    | (r, s) => (b :: r, s)
def trimB (t : B) : List B → List B
  | [] => []
  | b :: l => match trimB t l with
    | [] => match b.beq t with
      | true => []
      | false => [b]
    | c :: r => b :: c :: r
def litOf (t : B) : List B → Option Int
  | [] => match t with
    | .zero => some 0
    | .one => some (-1)
    | _ => none
  | b :: l => match litOf t l with
    | none => none
    | some n => match b with
      | .zero => some (2 * n)
      | .one => some (2 * n + 1)
      | _ => none
def mkBv (l : List B) (t : B) : X :=
  match litOf t l with
  | some n => .lit n
  | none => .bv (trimB t l) t
def mkBvW (k : IntKind) (l : List B) (t : B) : X :=
  match k.signed with
  | false => mkBv (clipU k.bits l t) .zero
  | true => match clipS (k.bits - 1) l t with
    | (r, s) => mkBv r s
def ofNatB : Nat → Nat → List B
  | 0, _ => []
  | f + 1, n => match n with
    | 0 => []
    | m + 1 => (match Nat.beq ((m + 1) % 2) 1 with
      | true => B.one
      | false => B.zero) :: ofNatB f ((m + 1) / 2)
def notsB : List B → List B
  | [] => []
  | b :: l => b.not :: notsB l
def toB : X → Option (List B × B)
  | .bv l t => some (l, t)
  | .lit n => match n with
    | .ofNat n => match Nat.blt n (2 ^ 70) with
      | true => some (ofNatB 70 n, .zero)
      | false => none
    | .negSucc n => match Nat.blt n (2 ^ 70) with
      | true => some (notsB (ofNatB 70 n), .one)
      | false => none
  | _ => none
def isBv : X → Bool
  | .bv _ _ => true
  | _ => false
def zerosB : Nat → List B → List B
  | 0, l => l
  | n + 1, l => .zero :: zerosB n l
def dropB : Nat → List B → List B
  | 0, l => l
  | _ + 1, [] => []
  | n + 1, _ :: l => dropB n l
/-- Is it a power of two? -/
def pow2 (n : Nat) : Option Nat := match Nat.beq (2 ^ n.log2) n with
  | true => match Nat.ble n.log2 64 with
    | true => some n.log2
    | false => none
  | false => none
/-- Adding, where what is carried is known. -/
def add1 (x y : B) (c : Bool) : Option (B × Bool) :=
  match c with
  | false => match x with
    | .zero => some (y, false)
    | x => match y with
      | .zero => some (x, false)
      | y => match x, y with
        | .one, .one => some (.zero, true)
        | _, _ => none
  | true => match x with
    | .one => some (y, true)
    | x => match y with
      | .one => some (x, true)
      | y => match x, y with
        | .zero, .zero => some (.one, false)
        | _, _ => none
def addEnd (t u : B) (c : Bool) : Option (List B × B) :=
  match add1 t u c with
  | some (s, d) => match c, d with
    | true, true => some ([], s)
    | false, false => some ([], s)
    | _, _ => none
  | none => none
def addR (t : B) : List B → B → Bool → Option (List B × B)
  | [], u, c => addEnd t u c
  | y :: m, u, c => match add1 t y c with
    | some (s, d) => consB (some s) (addR t m u d)
    | none => none
def addB : List B → B → List B → B → Bool → Option (List B × B)
  | [], t, m, u, c => addR t m u c
  | x :: l, t, m, u, c => match m with
    | [] => match add1 x u c with
      | some (s, d) => consB (some s) (addB l t [] u d)
      | none => none
    | y :: m => match add1 x y c with
      | some (s, d) => consB (some s) (addB l t m u d)
      | none => none
/-- Taking away, where nothing is borrowed. -/
def B.sub (a b : B) : Option B :=
  match b with
  | .zero => some a
  | b => match a with
    | .one => some b.not
    | a => match a.beq b with
      | true => some .zero
      | false => none

/-! ### Tests -/
inductive Q where
  | ff
  | c (m v : Nat)
  | bad
def bitN (i : Nat) (b : Bool) : Nat := match b with
  | true => 2 ^ i
  | false => 0
def Q.with (q : Q) (i : Nat) (b : Bool) : Q :=
  match q with
  | .ff => .ff
  | .bad => .bad
  | .c m v => match Nat.testBit m i with
    | true => match Nat.testBit v i, b with
      | true, true => .c m v
      | false, false => .c m v
      | _, _ => .ff
    | false => .c (m ||| 2 ^ i) (v ||| bitN i b)
def Q.same1 (q : Q) (a b : B) : Q :=
  match a with
  | .zero => match b with
    | .zero => q
    | .one => .ff
    | .pos i => q.with i false
    | .neg i => q.with i true
  | .one => match b with
    | .zero => .ff
    | .one => q
    | .pos i => q.with i true
    | .neg i => q.with i false
  | .pos i => match b with
    | .zero => q.with i false
    | .one => q.with i true
    | .pos j => match Nat.beq i j with
      | true => q
      | false => .bad
    | .neg j => match Nat.beq i j with
      | true => .ff
      | false => .bad
  | .neg i => match b with
    | .zero => q.with i true
    | .one => q.with i false
    | .pos j => match Nat.beq i j with
      | true => .ff
      | false => .bad
    | .neg j => match Nat.beq i j with
      | true => q
      | false => .bad
/-- Two bits are the same. -/
def Q.same (q : Q) (a b : B) : Q :=
  match q with
  | .ff => .ff
  | .bad => .bad
  | .c m v => Q.same1 (.c m v) a b
def eqR (t : B) : List B → B → Q → Q
  | [], u, q => q.same t u
  | c :: m, u, q => match q with
    | .ff => .ff
    | q => eqR t m u (q.same t c)
def eqB : List B → B → List B → B → Q → Q
  | [], t, m, u, q => eqR t m u q
  | b :: l, t, m, u, q => match q with
    | .ff => .ff
    | q => match m with
      | [] => eqB l t [] u (q.same b u)
      | c :: m => eqB l t m u (q.same b c)
/-- Is it at least c? Certain, never, all of these, not all of these. -/
inductive G where
  | tt
  | ff
  | c (m v : Nat)
  | n (m v : Nat)
  | bad
def G.ofQ (q : Q) : G := match q with
  | .ff => .ff
  | .bad => .bad
  | .c m v => .c m v
/-- What is known of the variables. -/
def single (m : Nat) : Bool := Nat.beq (m &&& (m - 1)) 0
/-- One bit alone: not to be so is to be the contrary. -/
def flip1 (m v : Nat) : Option Nat := match Nat.beq m 0 with
  | true => none
  | false => match single m with
    | true => some (m ^^^ v)
    | false => none
def G.join (r1 r0 : G) (i : Nat) (b : Bool) : G :=
  match r1 with
  | .ff => .ff
  | .tt => match r0 with
    | .tt => .tt
    | .ff => .c (2 ^ i) (bitN i b)
    | .n m v => match (Q.c m v).with i !b with
      | .ff => .tt
      | .c m v => .n m v
      | .bad => .bad
    | .c m v => match flip1 m v with
      | none => .bad
      | some v => match (Q.c m v).with i !b with
        | .ff => .tt
        | .c m v => .n m v
        | .bad => .bad
    | .bad => .bad
  | .c m v => match r0 with
    | .tt => .tt
    | .ff => G.ofQ ((Q.c m v).with i b)
    | .c m' v' => match Nat.beq m m', Nat.beq v v' with
      | true, true => .c m v
      | _, _ => .bad
    | _ => .bad
  | .n m v => match r0 with
    | .tt => .tt
    | .ff => match flip1 m v with
      | none => .bad
      | some v => G.ofQ ((Q.c m v).with i b)
    | .n m' v' => match Nat.beq m m', Nat.beq v v' with
      | true, true => .n m v
      | _, _ => .bad
    | _ => .bad
  | .bad => .bad
def geB (t : B) : List B → Int → G
  | [], c => match decide (c ≤ -1) with
    | true => .tt
    | false => match decide (1 ≤ c) with
      | true => .ff
      | false => match t with
        | .zero => .tt
        | .one => .ff
        | .pos i => .c (2 ^ i) 0
        | .neg i => .c (2 ^ i) (2 ^ i)
  | b :: l, c => match b with
    | .zero => geB t l ((c + 1) / 2)
    | .one => geB t l (c / 2)
    | .pos i => match intBeq ((c + 1) / 2) (c / 2) with
      | true => geB t l (c / 2)
      | false => G.join (geB t l (c / 2)) (geB t l ((c + 1) / 2)) i true
    | .neg i => match intBeq ((c + 1) / 2) (c / 2) with
      | true => geB t l (c / 2)
      | false => G.join (geB t l (c / 2)) (geB t l ((c + 1) / 2)) i false
def knownOf : List (X × Bool) → Nat × Nat
  | [] => (0, 0)
  | (x, b) :: pc => match x with
    | .cube m v => match b with
      | true => match knownOf pc with
        | (M, V) => (M ||| m, (V &&& (M ^^^ (M &&& m))) ||| (v &&& m))
      | false => match single m with
        | true => match knownOf pc with
          | (M, V) => (M ||| m, (V &&& (M ^^^ (M &&& m))) ||| ((m ^^^ v) &&& m))
        | false => knownOf pc
    | _ => knownOf pc
def falseCube (M V m v : Nat) : List (X × Bool) → Bool
  | [] => false
  | (x, b) :: pc => match x with
    | .cube m' v' => match b with
      | true => falseCube M V m v pc
      | false => match Nat.beq ((m' &&& M) &&& (v' ^^^ V)) 0 with
        | true => match m' ^^^ (m' &&& M) with
          | r => match Nat.beq (r &&& m) r, Nat.beq (v &&& r) (v' &&& r) with
            | true, true => true
            | _, _ => falseCube M V m v pc
        | false => falseCube M V m v pc
    | _ => falseCube M V m v pc
def decCube (m v : Nat) (pc : List (X × Bool)) : Option Bool :=
  match knownOf pc with
  | (M, V) => match Nat.beq ((m &&& M) &&& (v ^^^ V)) 0 with
    | false => some false
    | true => match Nat.beq (m &&& M) m with
      | true => some true
      | false => match falseCube M V m v pc with
        | true => some false
        | false => none
def setB (M V : Nat) (b : B) : B :=
  match b with
  | .pos i => match Nat.testBit M i with
    | true => match Nat.testBit V i with
      | true => .one
      | false => .zero
    | false => .pos i
  | .neg i => match Nat.testBit M i with
    | true => match Nat.testBit V i with
      | true => .zero
      | false => .one
    | false => .neg i
  | b => b
def setsB (M V : Nat) : List B → List B
  | [] => []
  | b :: l => setB M V b :: setsB M V l
/-- With what is known. -/
def simpX (pc : List (X × Bool)) (x : X) : X :=
  match x with
  | .bv l t => match knownOf pc with
    | (M, V) => match Nat.beq M 0 with
      | true => .bv l t
      | false => mkBv (setsB M V l) (setB M V t)
  | x => x
end Go.Proofs.YtcachlbljjpjdaaGreatDoor
