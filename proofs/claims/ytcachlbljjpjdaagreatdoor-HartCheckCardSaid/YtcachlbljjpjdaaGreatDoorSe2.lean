/- Symbolic execution, part 2: the evaluator (plain functions; nothing is proved here). No condition. -/
import Derived.Test.YtcachlbljjpjdaaGreatDoorSeBd
namespace Go.Proofs.YtcachlbljjpjdaaGreatDoor
open Go
noncomputable section

abbrev PC := List (X × Bool)
structure St where
  h : H
  n : Nat
  pc : PC
inductive R (α : Type) where
  | ok (a : α)
  | br (c : X) (t f : R α)
  | stuck (s : String)
def R.sel {α : Type} (ρ : Env) : R α → Option α
  | .ok a => some a
  | .br c t f => if c.tt ρ then t.sel ρ else f.sel ρ
  | .stuck _ => none
noncomputable def R.bind {α β : Type} (r : R α) (k : α → R β) : R β :=
  R.rec (motive := fun _ => R β) (fun a => k a) (fun c _ _ it jf => .br c it jf) (fun s => .stuck s) r
def Option.toR {α : Type} (o : Option α) (s : String) : R α :=
  match o with
  | some a => .ok a
  | none => .stuck s

/-! ### Bounds that expressions have by themselves -/
def kLo : IntKind → Int
  | .i8 => -128
  | .i16 => -32768
  | .i32 => -2147483648
  | .i64 => -9223372036854775808
  | _ => 0
def kHi : IntKind → Int
  | .i8 => 127
  | .i16 => 32767
  | .i32 => 2147483647
  | .i64 => 9223372036854775807
  | .u8 => 255
  | .u16 => 65535
  | .u32 => 4294967295
  | .u64 => 18446744073709551615
def imin (a b : Int) : Int := match decide (a ≤ b) with
  | true => a
  | false => b
def imax (a b : Int) : Int := match decide (a ≤ b) with
  | true => b
  | false => a
structure Rg where
  lo : Int
  hi : Int
def Rg.abs (r : Rg) : Int := imax r.hi (-r.lo)
def rgMul (a b : Rg) : Rg := match decide (0 ≤ a.lo), decide (0 ≤ b.lo) with
  | true, true => ⟨a.lo * b.lo, a.hi * b.hi⟩
  | _, _ => match a.abs * b.abs with
    | m => ⟨-m, m⟩
def rgQuo (a : Rg) (m : Option Int) : Rg := match m with
  | some m => match decide (0 ≤ a.lo), decide (0 < m) with
    | true, true => ⟨0, a.hi / m⟩
    | _, _ => ⟨-a.abs, a.abs⟩
  | none => ⟨-a.abs, a.abs⟩
def rgRem (a : Rg) (m : Option Int) : Rg := match m with
  | some m => match decide (0 < m) with
    | true => match decide (0 ≤ a.lo) with
      | true => ⟨0, imin a.hi (m - 1)⟩
      | false => ⟨-(m - 1), m - 1⟩
    | false => ⟨-a.abs, a.abs⟩
  | none => match decide (0 ≤ a.lo) with
    | true => ⟨0, a.hi⟩
    | false => ⟨-a.abs, a.abs⟩
def litI : X → Option Int
  | .lit n => some n
  | _ => none
def rg2 (f : Rg → Rg → Rg) (a b : Option Rg) : Option Rg := match a with
  | none => none
  | some a => match b with
    | none => none
    | some b => some (f a b)
/-- Within which bounds it surely is. -/
def rng : X → Option Rg
  | .lit n => some ⟨n, n⟩
  | .wrap k _ => some ⟨kLo k, kHi k⟩
  | .bits _ k _ _ => some ⟨kLo k, kHi k⟩
  | .shl k _ _ => some ⟨kLo k, kHi k⟩
  | .bv l t => match t with
    | .zero => some ⟨0, Int.ofNat (2 ^ l.length) - 1⟩
    | _ => some ⟨-Int.ofNat (2 ^ l.length), Int.ofNat (2 ^ l.length) - 1⟩
  | .eq _ _ => some ⟨0, 1⟩
  | .lt _ _ => some ⟨0, 1⟩
  | .le _ _ => some ⟨0, 1⟩
  | .not _ => some ⟨0, 1⟩
  | .seq _ _ => some ⟨0, 1⟩
  | .cube _ _ => some ⟨0, 1⟩
  | .ite _ a b => rg2 (fun a b => ⟨imin a.lo b.lo, imax a.hi b.hi⟩) (rng a) (rng b)
  | .add a b => rg2 (fun a b => ⟨a.lo + b.lo, a.hi + b.hi⟩) (rng a) (rng b)
  | .sub a b => rg2 (fun a b => ⟨a.lo - b.hi, a.hi - b.lo⟩) (rng a) (rng b)
  | .mul a b => rg2 rgMul (rng a) (rng b)
  | .quo a b => match rng a with
    | some r => some (rgQuo r (litI b))
    | none => none
  | .rem a b => match rng a with
    | some r => some (rgRem r (litI b))
    | none => none
  | .shr _ a _ => match rng a with
    | some r => some ⟨imin r.lo 0, imax r.hi 0⟩
    | none => none
  | _ => none
def inK (k : IntKind) (x : X) : Bool := match rng x with
  | some r => match decide (kLo k ≤ r.lo) with
    | true => decide (r.hi ≤ kHi k)
    | false => false
  | none => false
def nonneg (x : X) : Bool := match rng x with
  | some r => decide (0 ≤ r.lo)
  | none => false

/-! ### Making expressions -/
def mulWrap (k : IntKind) (a : X) : X := match a with
  | .mul (.wrap j (.mul x (.lit m))) (.lit n) => match kindBeq j k with
    | true => .wrap k (.mul x (.lit (m * n)))
    | false => .wrap k a
  | a => .wrap k a
def wrapR (k : IntKind) (a : X) : X := match inK k a with
  | true => a
  | false => mulWrap k a
def mkWrap (k : IntKind) : X → X
  | .lit n => .lit (k.wrap n)
  | .bv l t => mkBvW k l t
  | a => wrapR k a
/-- Two operands as bits, if one of them is bits. -/
def bothB {α : Type} (a b : X) (k : List B → B → List B → B → α) (d : α) : α :=
  match isBv a, isBv b with
  | false, false => d
  | _, _ => match toB a with
    | none => d
    | some (l, t) => match toB b with
      | none => d
      | some (m, u) => k l t m u
def optBv (k : IntKind) (d : X) : Option (List B × B) → X
  | some (r, s) => mkBvW k r s
  | none => d
def negLit : X → Option X
  | .lit n => some (.lit (-n))
  | _ => none
def isZ : X → Bool
  | .lit n => intBeq n 0
  | _ => false
def addD (k : IntKind) (a b : X) : X := match isZ b with
  | true => wrapR k a
  | false => match isZ a with
    | true => wrapR k b
    | false => wrapR k (.add a b)
def mkAdd (k : IntKind) (a b : X) : X :=
  match a, b with
  | .lit m, .lit n => .lit (k.wrap (m + n))
  | a, b => bothB a b (fun l t m u => optBv k (addD k a b) (addB l t m u false)) (addD k a b)
def mkSub (k : IntKind) (a b : X) : X :=
  match a, b with
  | .lit m, .lit n => .lit (k.wrap (m - n))
  | a, .lit n => bothB a (.lit (-n)) (fun l t m u => optBv k (wrapR k (.sub a (.lit n))) (addB l t m u false)) (wrapR k (.sub a (.lit n)))
  | a, b => bothB a b (fun l t m u => optBv k (wrapR k (.sub a b)) (zipB B.sub l t m u)) (wrapR k (.sub a b))
def mulBv (k : IntKind) (l : List B) (t : B) (n : Int) (d : X) : X :=
  match n with
  | .ofNat n => match pow2 n with
    | some s => mkBvW k (zerosB s l) t
    | none => d
  | _ => d
def mkMul (k : IntKind) (a b : X) : X :=
  match a, b with
  | .lit m, .lit n => .lit (k.wrap (m * n))
  | .bv l t, .lit n => mulBv k l t n (wrapR k (.mul (.bv l t) (.lit n)))
  | .lit n, .bv l t => mulBv k l t n (wrapR k (.mul (.lit n) (.bv l t)))
  | a, b => wrapR k (.mul a b)
def quoBv (k : IntKind) (l : List B) (t : B) (n : Int) (d : X) : X :=
  match t, n with
  | .zero, .ofNat n => match pow2 n with
    | some s => mkBvW k (dropB s l) .zero
    | none => d
  | _, _ => d
def mkQuo (k : IntKind) (a b : X) : X :=
  match a, b with
  | .lit m, .lit n => .lit (k.wrap (m.tdiv n))
  | .bv l t, .lit n => quoBv k l t n (wrapR k (.quo (.bv l t) (.lit n)))
  | a, b => wrapR k (.quo a b)
def remBv (l : List B) (t : B) (n : Int) (d : X) : X :=
  match n with
  | .ofNat n => match t with
    | .zero => match pow2 n with
      | some s => mkBv (clipU s l .zero) .zero
      | none => d
    | .one => match Nat.beq n 2 with
      | true => match l with
        | b :: _ => mkBv [] b
        | [] => d
      | false => d
    | _ => d
  | _ => d
def kOf (n : Int) : Option IntKind := match intBeq n 4294967296 with
  | true => some .u32
  | false => match intBeq n 65536 with
    | true => some .u16
    | false => match intBeq n 256 with
      | true => some .u8
      | false => none
/-- What is left of a number that is not below nought. -/
def remLit (a : X) (n : Int) : X := match rng a with
  | none => .rem a (.lit n)
  | some r => match decide (0 ≤ r.lo) with
    | false => .rem a (.lit n)
    | true => match decide (r.hi < n) with
      | true => a
      | false => match kOf n with
        | some k => mulWrap k a
        | none => .rem a (.lit n)
def mkRem (a b : X) : X :=
  match a, b with
  | .lit m, .lit n => .lit (m.tmod n)
  | .bv l t, .lit n => remBv l t n (.rem (.bv l t) (.lit n))
  | a, .lit n => remLit a n
  | a, b => .rem a b
/-- The lowest bits of a number that is not below nought, or the others. -/
def maskLit (o : Nat) (k : IntKind) (a : X) (m : Int) (d : X) : X :=
  match m with
  | .ofNat m => match nonneg a, inK k a with
    | true, true => match pow2 (m + 1) with
      | some j => match Nat.blt j k.bits with
        | true => match o with
          | 0 => remLit a (Int.ofNat (2 ^ j))
          | 3 => wrapR k (.sub a (remLit a (Int.ofNat (2 ^ j))))
          | _ => d
        | false => d
      | none => d
    | _, _ => d
  | _ => d
def bitsD (o : Nat) (k : IntKind) (a b : X) : X := match b with
  | .lit m => maskLit o k a m (.bits o k a (.lit m))
  | b => .bits o k a b
def mkBits (o : Nat) (k : IntKind) (a b : X) : X :=
  match a, b with
  | .lit m, .lit n => .lit (bitsI o k m n)
  | a, b => bothB a b (fun l t m u => optBv k (bitsD o k a b) (zipB (B.op o) l t m u)) (bitsD o k a b)
def mkShl (k : IntKind) (a b : X) : X :=
  match a, b with
  | .lit m, .lit n => .lit (shlI k m n)
  | .bv l t, .lit n => mkBvW k (zerosB (min n.toNat k.bits) l) t
  | a, .lit n => wrapR k (.mul a (.lit (Int.ofNat (2 ^ (min n.toNat k.bits)))))
  | a, b => .shl k a b
def mkShr (k : IntKind) (a b : X) : X :=
  match a, b with
  | .lit m, .lit n => .lit (shrI k m n)
  | .bv l t, .lit n => mkBv (dropB (min n.toNat k.bits) l) t
  | a, .lit n => match nonneg a with
    | true => .quo a (.lit (Int.ofNat (2 ^ (min n.toNat k.bits))))
    | false => .shr k a (.lit n)
  | a, b => .shr k a b
def isLit : X → Bool
  | .lit _ => true
  | _ => false
def ofQ (d : X) : Q → X
  | .ff => .lit 0
  | .c m v => match Nat.beq m 0 with
    | true => .lit 1
    | false => .cube m v
  | .bad => d
/-- Two numbers whose bounds lie apart are not the same. -/
def apart (a b : X) : Bool := match rng a with
  | none => false
  | some r => match rng b with
    | none => false
    | some s => match decide (r.hi < s.lo) with
      | true => true
      | false => decide (s.hi < r.lo)
/-- The number that is wrapped, where it is one alone. -/
def unwrap (k : IntKind) (a : X) (m : Int) (d : X) : X := match rng a with
  | none => d
  | some r => match decide (r.hi - r.lo < Int.ofNat (2 ^ k.bits)), decide (kLo k ≤ m), decide (m ≤ kHi k) with
    | true, true, true => match r.lo + (m - r.lo) % Int.ofNat (2 ^ k.bits) with
      | n => match decide (n ≤ r.hi) with
        | true => .eq a (.lit n)
        | false => .lit 0
    | _, _, _ => d
def eqLit (a : X) (m : Int) : X := match apart a (.lit m) with
  | true => .lit 0
  | false => match a with
    | .wrap k x => unwrap k x m (.eq (.wrap k x) (.lit m))
    | .ite c (.lit p) (.lit q) => match intBeq p m, intBeq q m with
      | true, true => .lit 1
      | true, false => .ite c (.lit 1) (.lit 0)
      | false, true => .ite c (.lit 0) (.lit 1)
      | false, false => .lit 0
    | a => .eq a (.lit m)
def eqD (a b : X) : X := match b with
  | .lit m => eqLit a m
  | b => match apart a b with
    | true => .lit 0
    | false => .eq a b
def mkEq (a b : X) : X :=
  match a, b with
  | .lit m, .lit n => .lit (b2i (intBeq m n))
  | .lit m, b => bothB (.lit m) b (fun l t m' u => ofQ (eqLit b m) (eqB l t m' u (.c 0 0))) (eqLit b m)
  | a, b => bothB a b (fun l t m u => ofQ (eqD a b) (eqB l t m u (.c 0 0))) (match a.beq b with
    | true => .lit 1
    | false => eqD a b)
def ofG (d : X) : G → X
  | .tt => .lit 1
  | .ff => .lit 0
  | .c m v => .cube m v
  | .n m v => .not (.cube m v)
  | .bad => d
def ofGn (d : X) : G → X
  | .tt => .lit 0
  | .ff => .lit 1
  | .c m v => .not (.cube m v)
  | .n m v => .cube m v
  | .bad => d
def ltD (a b : X) : X := match rng a with
  | none => .lt a b
  | some r => match rng b with
    | none => .lt a b
    | some s => match decide (r.hi < s.lo) with
      | true => .lit 1
      | false => match decide (s.hi ≤ r.lo) with
        | true => .lit 0
        | false => .lt a b
def leD (a b : X) : X := match rng a with
  | none => .not (.lt b a)
  | some r => match rng b with
    | none => .not (.lt b a)
    | some s => match decide (r.hi ≤ s.lo) with
      | true => .lit 1
      | false => match decide (s.hi < r.lo) with
        | true => .lit 0
        | false => .not (.lt b a)
def mkLt (a b : X) : X :=
  match a, b with
  | .lit m, .lit n => .lit (b2i (decide (m < n)))
  | .bv l t, .lit n => ofGn (.lt (.bv l t) (.lit n)) (geB t l n)
  | .lit n, .bv l t => ofG (.lt (.lit n) (.bv l t)) (geB t l (n + 1))
  | a, b => ltD a b
def mkLe (a b : X) : X :=
  match a, b with
  | .lit m, .lit n => .lit (b2i (decide (m ≤ n)))
  | .bv l t, .lit n => ofGn (.le (.bv l t) (.lit n)) (geB t l (n + 1))
  | .lit n, .bv l t => ofG (.le (.lit n) (.bv l t)) (geB t l n)
  | a, b => leD a b
def mkNot : X → X
  | .lit n => .lit (b2i (intBeq n 0))
  | a => .not a
/-- A word's number with its sign; a number modulo 2^32; a sum of what may be added. -/
def addOf : X → Option (Option IntKind × X × X)
  | .add y z => some (none, y, z)
  | .wrap k (.add y z) => match inK k y with
    | true => some (some k, y, z)
    | false => none
  | _ => none
def wrapO (k : Option IntKind) (x : X) : X := match k with
  | none => x
  | some k => .wrap k x
def iteSum2 (c a b : X) : X := match addOf b with
  | some (k, y, z) => match y.beq a with
    | true => wrapO k (.add y (.ite c (.lit 0) z))
    | false => .ite c a b
  | none => .ite c a b
def iteSum (c a b : X) : X := match addOf a with
  | some (k, y, z) => match y.beq b with
    | true => wrapO k (.add y (.ite c z (.lit 0)))
    | false => iteSum2 c a b
  | none => iteSum2 c a b
def iteSign (c a b : X) (m : Int) (x : X) : X := match b with
  | .sub y (.lit w) => match intBeq m 2147483648, intBeq w 4294967296 with
    | true, true => match x.beq a, y.beq a, inK .u32 a with
      | true, true, true => .wrap .i32 a
      | _, _, _ => .ite c a b
    | _, _ => .ite c a b
  | _ => iteSum c a b
def iteWord (c a b : X) (q : X) : X := match a with
  | .add (.rem y (.lit v)) (.lit w) => match intBeq v 4294967296, intBeq w 4294967296 with
    | true, true => match b with
      | .rem z (.lit u) => match intBeq u 4294967296, y.beq q, z.beq q with
        | true, true, true => .wrap .u32 q
        | _, _, _ => iteSum c a b
      | _ => iteSum c a b
    | _, _ => iteSum c a b
  | _ => iteSum c a b
/-- One of two bits, by a bit. -/
def iteB (i : Nat) (vb : Bool) (x y : B) : Option B := match x.beq y with
  | true => some x
  | false => match setB (2 ^ i) (bitN i vb) x, setB (2 ^ i) (bitN i !vb) y with
    | x, y => match x.beq y with
      | true => some x
      | false => match x, y with
        | .one, .zero => some (match vb with | true => .pos i | false => .neg i)
        | .zero, .one => some (match vb with | true => .neg i | false => .pos i)
        | _, _ => none
def iteBits (c a b : X) (m v : Nat) : X := match Nat.beq m (2 ^ m.log2) with
  | true => bothB a b (fun l t n u => match zipB (iteB m.log2 (Nat.testBit v m.log2)) l t n u with
    | some (r, s) => mkBv r s
    | none => .ite c a b) (iteSum c a b)
  | false => iteSum c a b
def iteD (c a b : X) : X := match c with
  | .cube m v => iteBits c a b m v
  | .lt (.rem q (.lit v)) (.lit n) => match intBeq v 4294967296, intBeq n 0 with
    | true, true => iteWord c a b q
    | _, _ => iteSum c a b
  | .lt x (.lit m) => iteSign c a b m x
  | c => iteSum c a b
def mkIte (c a b : X) : X :=
  match c with
  | .lit n => if intBeq n 0 then b else a
  | c => if a.beq b then a else iteD c a b
def mkIteS (c a b : X) : X :=
  match c with
  | .lit n => if intBeq n 0 then b else a
  | c => if a.beq b then a else .ite c a b
/-- A text that is surely not empty. -/
def nonE : X → Bool
  | .slit l => match l with
    | [] => false
    | _ :: _ => true
  | .sfn _ _ => true
  | .scat a b => match nonE a with
    | true => true
    | false => nonE b
  | _ => false
def isNone : X → Bool
  | .slit l => match l with
    | [] => true
    | _ :: _ => false
  | _ => false
def seqRest (a b : X) : X := match a.beq b with
  | true => .lit 1
  | false => match isNone a, nonE b with
    | true, true => .lit 0
    | _, _ => match nonE a, isNone b with
      | true, true => .lit 0
      | _, _ => .seq a b
def mkSeq (a b : X) : X :=
  match a, b with
  | .slit l, .slit m => .lit (b2i (natsBeq (l.map (· % 256)) (m.map (· % 256))))
  | a, b => seqRest a b
/-- A text that is written out, ahead of another one. -/
def consLit (l : List Nat) (b : X) : X :=
  match l with
  | [] => b
  | c :: l => match b with
    | .slit m => .slit (c :: (l ++ m))
    | .scat (.slit m) r => .scat (.slit (c :: (l ++ m))) r
    | b => .scat (.slit (c :: l)) b
def catEnd (a b : X) : X := match isNone b with
  | true => a
  | false => .scat a b
/-- Texts, one behind the other, flat. -/
def mkCat : X → X → X
  | .slit l, b => consLit l b
  | .scat a c, b => mkCat a (mkCat c b)
  | .lit n, b => catEnd (.lit n) b
  | .svar i, b => catEnd (.svar i) b
  | .sfn f a, b => catEnd (.sfn f a) b
  | .ite c x y, b => catEnd (.ite c x y) b
  | a, b => .scat a b
/-- A bound of a text's length. -/
def lenB : X → Option Nat
  | .slit l => some l.length
  | .sfn _ _ => some 1000
  | .scat a b => match lenB a, lenB b with
    | some m, some n => some (m + n)
    | _, _ => none
  | _ => none
def mkLen : X → X
  | .slit l => .lit l.length
  | a => .slen a

/-! ### Deciding -/
/-- The bounds that facts give an expression. -/
def loOf (a : X) : PC → Option Int
  | [] => none
  | (x, b) :: pc =>
    let r := loOf a pc
    let with_ (n : Int) : Option Int := match r with
      | none => some n
      | some m => some (if decide (m < n) then n else m)
    match x, b with
    | .eq c (.lit n), true => if c.beq a then with_ n else r
    | .lt (.lit n) c, true => if c.beq a then with_ (n + 1) else r
    | .le (.lit n) c, true => if c.beq a then with_ n else r
    | .lt c (.lit n), false => if c.beq a then with_ n else r
    | .le c (.lit n), false => if c.beq a then with_ (n + 1) else r
    | _, _ => r
def hiOf (a : X) : PC → Option Int
  | [] => none
  | (x, b) :: pc =>
    let r := hiOf a pc
    let with_ (n : Int) : Option Int := match r with
      | none => some n
      | some m => some (if decide (n < m) then n else m)
    match x, b with
    | .eq c (.lit n), true => if c.beq a then with_ n else r
    | .lt c (.lit n), true => if c.beq a then with_ (n - 1) else r
    | .le c (.lit n), true => if c.beq a then with_ n else r
    | .lt (.lit n) c, false => if c.beq a then with_ n else r
    | .le (.lit n) c, false => if c.beq a then with_ (n - 1) else r
    | _, _ => r
def factOf (x : X) : PC → Option Bool
  | [] => none
  | (y, b) :: pc => if y.beq x then some b else factOf x pc
def optLt (a b : Option Int) : Bool :=
  match a, b with
  | some m, some n => decide (m < n)
  | _, _ => false
/-- A bound that is not reached moves on. -/
def bumpUp (a : X) (pc : PC) : Nat → Int → Int
  | 0, n => n
  | f + 1, n => match factOf (.eq a (.lit n)) pc with
    | some false => bumpUp a pc f (n + 1)
    | _ => n
def bumpDown (a : X) (pc : PC) : Nat → Int → Int
  | 0, n => n
  | f + 1, n => match factOf (.eq a (.lit n)) pc with
    | some false => bumpDown a pc f (n - 1)
    | _ => n
def loB (a : X) (pc : PC) : Option Int :=
  match loOf a pc with
  | some n => some (bumpUp a pc pc.length n)
  | none => none
def hiB (a : X) (pc : PC) : Option Int :=
  match hiOf a pc with
  | some n => some (bumpDown a pc pc.length n)
  | none => none
def decAtom (pc : PC) (x : X) : Option Bool :=
  match factOf x pc with
  | some b => some b
  | none =>
    match x with
    | .cube m v => decCube m v pc
    | .eq a (.lit n) =>
      match loB a pc, hiB a pc with
      | lo, hi =>
        if optLt (some n) lo || optLt hi (some n) then some false
        else match lo, hi with
          | some l, some u => if intBeq l n && intBeq u n then some true else none
          | _, _ => none
    | .lt a (.lit n) =>
      match loB a pc, hiB a pc with
      | lo, hi => if optLt hi (some n) then some true else if optLt (some (n - 1)) lo then some false else none
    | .le a (.lit n) =>
      match loB a pc, hiB a pc with
      | lo, hi => if optLt hi (some (n + 1)) then some true else if optLt (some n) lo then some false else none
    | .lt (.lit n) a =>
      match loB a pc, hiB a pc with
      | lo, hi => if optLt (some n) lo then some true else if optLt hi (some (n + 1)) then some false else none
    | .le (.lit n) a =>
      match loB a pc, hiB a pc with
      | lo, hi => if optLt (some (n - 1)) lo then some true else if optLt hi (some n) then some false else none
    | _ => none
/-- A test: decided by what is known, or both ways. -/
def split {α : Type} (st : St) : X → (St → Bool → R α) → R α
  | .lit n, k => k st (!intBeq n 0)
  | .not y, k => split st y fun st b => k st !b
  | .ite c a b, k => split st c fun st t => match t with
    | true => split st a k
    | false => split st b k
  | x, k => match decAtom st.pc x with
    | some b => k st b
    | none => .br x (k { st with pc := (x, true) :: st.pc } true) (k { st with pc := (x, false) :: st.pc } false)

/-! ### Values -/
mutual
def V.beq : V → V → Bool
  | .int k x, .int j y => kindBeq k j && x.beq y
  | .bool x, .bool y => x.beq y
  | .str x, .str y => x.beq y
  | .ptr b o, .ptr c p => Nat.beq b c && Nat.beq o p
  | .nilptr, .nilptr => true
  | .slice b o n c, .slice b' o' n' c' => Nat.beq b b' && Nat.beq o o' && Nat.beq n n' && (match c, c' with
    | .known x, .known y => Nat.beq x y
    | .room x y, .room x' y' => Nat.beq x x' && Nat.beq y y'
    | _, _ => false)
  | .nilslice, .nilslice => true
  | .map b, .map c => Nat.beq b c
  | .nilmap, .nilmap => true
  | .func (.func f) a b, .func (.func g) c d => Nat.beq f g && V.beqs a c && V.beqs b d
  | .yield b, .yield c => Nat.beq b c
  | .nilfunc, .nilfunc => true
  | .iface t v, .iface u w => Nat.beq t u && v.beq w
  | .niliface, .niliface => true
  | .agg l, .agg m => V.beqs l m
  | .tuple l, .tuple m => V.beqs l m
  | .wptr b o, .wptr c p => Nat.beq b c && Nat.beq o p
  | .wslice b o n c, .wslice b' o' n' c' => Nat.beq b b' && Nat.beq o o' && n.beq n' && c.beq c'
  | .ite c a b, .ite d e f => c.beq d && a.beq e && b.beq f
  | .sptr b o n i, .sptr c p m j => Nat.beq b c && Nat.beq o p && Nat.beq n m && i.beq j
  | _, _ => false
def V.beqs : List V → List V → Bool
  | [], [] => true
  | v :: l, w :: m => v.beq w && V.beqs l m
  | _, _ => false
end


def V.isIte : V → Bool
  | .ite _ _ _ => true
  | _ => false
/-! ### One of two -/
def joinD (c : X) (a b : V) : V := match a.beq b with
  | true => a
  | false => .ite c a b
mutual
def joinV (c : X) (a : V) (b : V) : V := match a with
  | .int k x => match b with
    | .int j y => match kindBeq k j with
      | true => .int k (mkIte c x y)
      | false => .ite c (.int k x) (.int j y)
    | b => .ite c (.int k x) b
  | .bool x => match b with
    | .bool y => .bool (mkIte c x y)
    | b => .ite c (.bool x) b
  | .str x => match b with
    | .str y => .str (mkIteS c x y)
    | b => .ite c (.str x) b
  | .agg l => match b with
    | .agg m => match joinVs c l m with
      | some r => .agg r
      | none => .ite c (.agg l) (.agg m)
    | b => .ite c (.agg l) b
  | .tuple l => match b with
    | .tuple m => match joinVs c l m with
      | some r => .tuple r
      | none => .ite c (.tuple l) (.tuple m)
    | b => .ite c (.tuple l) b
  | .iface t v => joinD c (.iface t v) b
  | .func f x y => joinD c (.func f x y) b
  | .ite d x y => joinD c (.ite d x y) b
  | a => joinD c a b
def joinVs (c : X) (l : List V) (m : List V) : Option (List V) := match l with
  | [] => match m with
    | [] => some []
    | _ :: _ => none
  | a :: l => match m with
    | [] => none
    | b :: m => match joinVs c l m with
      | some r => some (joinV c a b :: r)
      | none => none
end
/-- A value that is one of two: it is split. -/
def splitV {α : Type} : Nat → St → V → (St → V → R α) → R α
  | 0, st, v, k => k st v
  | n + 1, st, v, k => match v with
    | .ite c a b => split st c fun st t => match t with
      | true => splitV n st a k
      | false => splitV n st b k
    | v => k st v
/-- One of the elements of a row, by its number. -/
def selGo (i : X) : Nat → List V → Option V
  | _, [] => none
  | j, v :: l => match l with
    | [] => some v
    | _ => match selGo i (j + 1) l with
      | some r => some (joinV (mkEq i (.lit (Int.ofNat j))) v r)
      | none => none
def isFn (k : IntKind) (f : Nat) : Nat → List V → Bool
  | _, [] => true
  | j, v :: l => match v with
    | .int k' (.wrap k2 (.fn1 g (.lit n))) => match kindBeq k' k, kindBeq k2 k with
      | true, true => match Nat.beq g f, intBeq n (Int.ofNat j) with
        | true, true => isFn k f (j + 1) l
        | _, _ => false
      | _, _ => false
    | _ => false
def selV (i : X) (l : List V) : Option V := match l with
  | .int k (.wrap _ (.fn1 f (.lit _))) :: _ => match isFn k f 0 l with
    | true => some (.int k (.wrap k (.fn1 f i)))
    | false => selGo i 0 l
  | l => selGo i 0 l
def symPut (i : X) (v : V) : Nat → List V → List V
  | _, [] => []
  | j, u :: l => joinV (mkEq i (.lit (Int.ofNat j))) v u :: symPut i v (j + 1) l

mutual
def ofValue : Value → Option V
  | .bool b => some (.bool (.lit (b2i b)))
  | .int k n => some (.int k (.lit n))
  | .string s => some (.str (.slit (s.data.toList.map UInt8.toNat)))
  | .pointer none => some .nilptr
  | .slice none 0 0 => some .nilslice
  | .map none => some .nilmap
  | .func f ⟨[]⟩ ⟨[]⟩ => match f with
    | .yield _ => none
    | f => some (.func f [] [])
  | .nilFunc => some .nilfunc
  | .iface t v => (ofValue v).map (.iface t)
  | .nilIface => some .niliface
  | .agg ⟨l⟩ => (ofValues l).map .agg
  | .tuple ⟨l⟩ => (ofValues l).map .tuple
  | _ => none
def ofValues : List Value → Option (List V)
  | [] => some []
  | v :: l => match ofValue v, ofValues l with
    | some a, some b => some (a :: b)
    | _, _ => none
end
def V.cells : V → List V
  | .agg l => l
  | v => [v]

/-- A type: what it is, how many cells, its zero value's cells; may two of it be compared by '==' without a panic and without an open question? -/
structure TD where
  d : TypeDesc
  size : Nat
  bytes : Nat
  zero : List V
  agg : Bool
  flat : Bool
structure Cx where
  tt : T TD
  ft : T Func
  sm : FuncId → Option (List V → St → R (V × St))
  ng : Nat
  /-- Functions that are deferred: what becomes of the frame that leaves. -/
  dm : FuncId → Option (List V → St → Option V → R (Option V × St)) := fun _ => none
  /-- Are ways joined? Are numbers of elements left open? -/
  mg : Bool := false
  sx : Bool := false

def evO (cx : Cx) (tm : List V) : Operand → Option V
  | .tmp t => match nth tm t with
    | some v => match v with
      | .ite _ _ _ => none
      | v => some v
    | none => some .undef
  | .const v => ofValue v
  | .global g => if Nat.blt g cx.ng then some (.ptr g 0) else none
  | .func f => some (.func (.func f) [] [])

def newObj (st : St) (o : SObj) : St := { st with h := st.h.set st.n o, n := st.n + 1 }
def rowAt (h : H) (b : Nat) : Option (List V) :=
  match h.get b with
  | some (.cells c _ _) => some c
  | some (.ro _ c) => some c
  | _ => none
def cellsAt (h : H) (b off n : Nat) : Option (List V) :=
  match rowAt h b with
  | some c => takeN n (dropN c off)
  | none => none
def V.one : V → Bool
  | .agg _ => false
  | .tuple _ => false
  | .ite _ a b => a.one && b.one
  | _ => true
def allOne : List V → Bool
  | [] => true
  | v :: l => match v.one with
    | true => allOne l
    | false => false
def putAt (h : H) (b off : Nat) (vs : List V) : Option H :=
  match h.get b with
  | some (.cells c e w) => match allOne vs, putN c off vs with
    | true, some c => some (h.set b (.cells c e w))
    | _, _ => none
  | _ => none

def V.isUndef : V → Bool
  | .tuple [] => true
  | _ => false

/-! ### Equality of two values of one type -/
def partV (tt : T TD) (t : TypeId) (cs : List V) (off : Nat) : Option V :=
  match tt.get t with
  | some d => if d.agg then (match takeN d.size (dropN cs off) with | some l => some (.agg l) | none => none) else nth cs off
  | none => none
def mkAnd (a b : X) : X := mkIte a b (.lit 0)
def eqFields (eq : TypeId → V → V → Option X) (tt : T TD) (xs ys : List V) : List Field → Option X
  | [] => some (.lit 1)
  | f :: fs =>
    match partV tt f.type xs f.offset, partV tt f.type ys f.offset with
    | some a, some b =>
      match eq f.type a b, eqFields eq tt xs ys fs with
      | some e, some r => some (mkAnd e r)
      | _, _ => none
    | _, _ => none
def eqElems (eq : V → V → Option X) (tt : T TD) (elem : TypeId) (n : Nat) (xs ys : List V) : Nat → Nat → Option X
  | _, 0 => some (.lit 1)
  | i, m + 1 =>
    match partV tt elem xs (i * n), partV tt elem ys (i * n) with
    | some a, some b =>
      match eq a b, eqElems eq tt elem n xs ys (i + 1) m with
      | some e, some r => some (mkAnd e r)
      | _, _ => none
    | _, _ => none
def mkIff (a b : X) : X :=
  match a, b with
  | .lit m, .lit n => .lit (b2i (intBeq m 0 == intBeq n 0))
  | .lit m, b => if intBeq m 0 then mkNot b else b
  | a, .lit m => if intBeq m 0 then mkNot a else a
  | a, b => if a.beq b then .lit 1 else .eq (mkNot a) (mkNot b)
def eqV (tt : T TD) : Nat → TypeId → V → V → Option X
  | 0, _, _, _ => none
  | d + 1, t, x, y =>
    match tt.get t with
    | none => none
    | some td =>
      match td.d, x, y with
      | .bool, .bool a, .bool b => some (mkIff a b)
      | .int _, .int k a, .int k' b => if kindBeq k k' then some (mkEq a b) else none
      | .string, .str a, .str b => some (mkSeq a b)
      | .pointer _, .nilptr, .nilptr => some (.lit 1)
      | .pointer _, .nilptr, .ptr _ _ => some (.lit 0)
      | .pointer _, .ptr _ _, .nilptr => some (.lit 0)
      | .interface _, .niliface, .iface _ _ => some (.lit 0)
      | .interface _, .iface _ _, .niliface => some (.lit 0)
      | .struct fields, .agg xs, .agg ys => if td.flat then eqFields (eqV tt d) tt xs ys fields.toList else none
      | .array len elem, .agg xs, .agg ys =>
        if td.flat then
          match tt.get elem with
          | some e => eqElems (eqV tt d elem) tt elem e.size xs ys 0 len
          | none => none
        else none
      | .slice _, .nilslice, .nilslice => some (.lit 1)
      | .slice _, .nilslice, .slice _ _ _ _ => some (.lit 0)
      | .slice _, .slice _ _ _ _, .nilslice => some (.lit 0)
      | .map _ _, .nilmap, .nilmap => some (.lit 1)
      | .map _ _, .nilmap, .map _ => some (.lit 0)
      | .map _ _, .map _, .nilmap => some (.lit 0)
      | .func _ _ _, .nilfunc, .nilfunc => some (.lit 1)
      | .func _ _ _, .nilfunc, .func _ _ _ => some (.lit 0)
      | .func _ _ _, .func _ _ _, .nilfunc => some (.lit 0)
      | .func _ _ _, .nilfunc, .yield _ => some (.lit 0)
      | .func _ _ _, .yield _, .nilfunc => some (.lit 0)
      | _, _, _ => none

/-! ### Operations -/
inductive OR where
  | val (v : V)
  | skip
  | enter (f : FuncId) (args : List V)
  | round (l : Nat) (args : List V)
  | panic (v : V)
  | defer (d : SDef)
abbrev Res := R (OR × St)
def okv (st : St) (v : V) : Res := .ok (.val v, st)
def optv (st : St) (v : Option V) (s : String) : Res :=
  match v with
  | some v => .ok (.val v, st)
  | none => .stuck s

def binInt0 (st : St) (op : BinOp) (k : IntKind) (a b : X) : Res :=
  match op with
  | .add => okv st (.int k (mkAdd k a b))
  | .sub => okv st (.int k (mkSub k a b))
  | .mul => okv st (.int k (mkMul k a b))
  | .quo => split st (mkEq b (.lit 0)) fun st z => match z with
    | true => .stuck "division by zero"
    | false => okv st (.int k (mkQuo k a b))
  | .rem => split st (mkEq b (.lit 0)) fun st z => match z with
    | true => .stuck "division by zero"
    | false => okv st (.int k (mkRem a b))
  | .and => okv st (.int k (mkBits 0 k a b))
  | .or => okv st (.int k (mkBits 1 k a b))
  | .xor => okv st (.int k (mkBits 2 k a b))
  | .andNot => okv st (.int k (mkBits 3 k a b))
  | .eql => okv st (.bool (mkEq a b))
  | .neq => okv st (.bool (mkNot (mkEq a b)))
  | .lss => okv st (.bool (mkLt a b))
  | .leq => okv st (.bool (mkLe a b))
  | .gtr => okv st (.bool (mkLt b a))
  | .geq => okv st (.bool (mkLe b a))
  | _ => .stuck "binop"
/-- With what is known of the bits. -/
def binInt (st : St) (op : BinOp) (k : IntKind) (a b : X) : Res := binInt0 st op k (simpX st.pc a) (simpX st.pc b)
def shiftInt (st : St) (op : BinOp) (k : IntKind) (a b : X) : Res :=
  split st (mkLt b (.lit 0)) fun st neg => match neg with
    | true => .stuck "negative shift"
    | false => match op with
      | .shl => okv st (.int k (mkShl k a b))
      | .shr => okv st (.int k (mkShr k a b))
      | _ => .stuck "shift"
def longStr : X := .lit 1000000000
/-- Is a text short? -/
def shortX (a : X) : X := match lenB a with
  | some n => match Nat.ble n 1000000000 with
    | true => .lit 1
    | false => mkLe (mkLen a) longStr
  | none => mkLe (mkLen a) longStr
def binStr (st : St) (op : BinOp) (a b : X) : Res :=
  match op with
  | .add => split st (shortX a) fun st ok => match ok with
    | false => .stuck "long strings"
    | true => split st (shortX b) fun st ok => match ok with
      | false => .stuck "long strings"
      | true => okv st (.str (mkCat a b))
  | .eql => okv st (.bool (mkSeq a b))
  | .neq => okv st (.bool (mkNot (mkSeq a b)))
  | _ => .stuck "string op"
def binEq (cx : Cx) (st : St) (op : BinOp) (t : TypeId) (x y : V) : Res :=
  match op, eqV cx.tt 100 t x y with
  | .eql, some e => okv st (.bool e)
  | .neq, some e => okv st (.bool (mkNot e))
  | _, _ => .stuck "equal"
def isShift : BinOp → Bool
  | .shl => true
  | .shr => true
  | _ => false
def evBin (cx : Cx) (st : St) (op : BinOp) (t : TypeId) (x y : V) : Res :=
  match x, y with
  | .int k a, .int j b => match isShift op, kindBeq k j with
    | true, _ => shiftInt st op k a b
    | false, true => binInt st op k a b
    | false, false => .stuck "kinds"
  | .str a, .str b => binStr st op a b
  | x, y => binEq cx st op t x y
def evUn (st : St) (op : UnOp) (x : V) : Res :=
  match op, x with
  | .neg, .int k a => okv st (.int k (mkSub k (.lit 0) a))
  | .xor, .int k a => okv st (.int k (mkBits 2 k (.lit (if k.signed then -1 else k.max)) a))
  | .not, .bool a => okv st (.bool (mkNot a))
  | _, _ => .stuck "unop"
def evConvert (cx : Cx) (st : St) (src dst : TypeId) (x : V) : Res :=
  match cx.tt.get src, cx.tt.get dst, x with
  | some _, some td, .int _ a => match td.d with
    | .int k => okv st (.int k (mkWrap k a))
    | _ => .stuck "convert"
  | some _, some td, .str a => match td.d with
    | .string => okv st (.str a)
    | _ => .stuck "convert string"
  | _, _, _ => .stuck "convert"
def evPick (c a b : V) : Option V :=
  match c with
  | .bool x => match x with
    | .lit n => some (if intBeq n 0 then b else a)
    | x => match a, b with
      | .int k u, .int j v => if kindBeq k j then some (.int k (mkIte x u v)) else none
      | .bool u, .bool v => some (.bool (mkIte x u v))
      | .str u, .str v => some (.str (mkIteS x u v))
      | _, _ => none
  | _ => none
def placeOf (tt : T TD) (d : TypeDesc) (i : Nat) : Option (Nat × Nat) :=
  match d with
  | .struct fields => match nth fields.toList i with
    | some f => match tt.get f.type with
      | some td => some (f.offset, td.size)
      | none => none
    | none => none
  | .array _ elem => match tt.get elem with
    | some td => some (i * td.size, td.size)
    | none => none
  | _ => none
def knownFields (tt : T TD) : List Field → Bool
  | [] => true
  | f :: fs => match tt.get f.type with
    | some _ => knownFields tt fs
    | none => false
def knownParts (tt : T TD) : TypeDesc → Bool
  | .struct fields => knownFields tt fields.toList
  | .array _ elem => match tt.get elem with
    | some _ => true
    | none => false
  | _ => false
def fillV (place : Nat → Option (Nat × Nat)) (cells : List V) : List (Nat × V) → Option (List V)
  | [] => some cells
  | (i, v) :: rest =>
    match place i with
    | none => none
    | some (off, size) =>
      let vs := v.cells
      if Nat.beq vs.length size then
        match putN cells off vs with
        | some cells => fillV place cells rest
        | none => none
      else none
def evParts (cx : Cx) (tm : List V) : List (Nat × Operand) → Option (List (Nat × V))
  | [] => some []
  | (i, o) :: l => match evO cx tm o, evParts cx tm l with
    | some v, some r => some ((i, v) :: r)
    | _, _ => none
def evArgs (cx : Cx) (tm : List V) : List Operand → Option (List V)
  | [] => some []
  | o :: l => match evO cx tm o, evArgs cx tm l with
    | some v, some r => some (v :: r)
    | _, _ => none
def repeatL (z : List V) : Nat → List V
  | 0 => []
  | n + 1 => z ++ repeatL z n
/-- An index: a number that is known, or each in turn. -/
def pickIndex {α : Type} (st : St) (i : X) (lo : Nat) : Nat → (St → Nat → R α) → R α
  | 0, _ => .stuck "index out of range"
  | m + 1, k => split st (mkEq i (.lit lo)) fun st is => if is then k st lo else pickIndex st i (lo + 1) m k
def index {α : Type} (st : St) (i : X) (len : Nat) (k : St → Nat → R α) : R α :=
  match i with
  | .lit (.ofNat n) => if Nat.blt n len then k st n else .stuck "index out of range"
  | .lit _ => .stuck "index out of range"
  | i => split st (mkLe (.lit 0) i) fun st a => split st (mkLt i (.lit len)) fun st b => if a && b then pickIndex st i 0 len k else .stuck "index out of range"
def litNat : V → Option Nat
  | .int _ (.lit (.ofNat n)) => some n
  | _ => none
def iteV (c : X) (a b : V) : Option V :=
  match a, b with
  | .int k u, .int j v => if kindBeq k j then some (.int k (mkIte c u v)) else none
  | .bool u, .bool v => some (.bool (mkIte c u v))
  | .str u, .str v => some (.str (mkIteS c u v))
  | _, _ => none
/-- Where a key stands among entries. -/
def findEntry {α : Type} (st : St) (key : V) : List (V × V) → Nat → (St → Option (Nat × V) → R α) → R α
  | [], _, k => k st none
  | (key', v) :: es, i, k =>
    match key, key' with
    | .int a x, .int b y => if kindBeq a b then split st (mkEq x y) fun st is => if is then k st (some (i, v)) else findEntry st key es (i + 1) k else .stuck "key"
    | .str x, .str y => split st (mkSeq x y) fun st is => if is then k st (some (i, v)) else findEntry st key es (i + 1) k
    | .bool x, .bool y => split st (mkIff x y) fun st is => if is then k st (some (i, v)) else findEntry st key es (i + 1) k
    | _, _ => .stuck "key"
def keyFits : TypeDesc → V → Bool
  | .int _, .int _ _ => true
  | .string, .str _ => true
  | .bool, .bool _ => true
  | _, _ => false
def zeroV (td : TD) : Option V := if td.agg then some (.agg td.zero) else td.zero.head?
def lookupFin (ed : TD) (ok : Bool) (st : St) (r : Option (Nat × V)) : Res :=
  match r, ok with
  | some (_, v), true => okv st (.tuple [v, .bool (.lit 1)])
  | some (_, v), false => okv st v
  | none, true => match zeroV ed with
    | some z => okv st (.tuple [z, .bool (.lit 0)])
    | none => .stuck "lookup: zero"
  | none, false => match zeroV ed with
    | some z => okv st z
    | none => .stuck "lookup: zero"
def evLookup (cx : Cx) (st : St) (t : TypeId) (x ix : V) (ok : Bool) : Res :=
  match cx.tt.get t with
  | some td => match td.d with
    | .map keyT elem =>
      match cx.tt.get keyT, cx.tt.get elem with
      | some kd, some ed =>
        match keyFits kd.d ix with
        | true => match x with
          | .nilmap => lookupFin ed ok st none
          | .map b => match st.h.get b with
            | some (.map es) => findEntry st ix es 0 (lookupFin ed ok)
            | _ => .stuck "lookup: no map"
          | _ => .stuck "lookup"
        | false => .stuck "lookup key"
      | _, _ => .stuck "lookup types"
    | _ => .stuck "lookup"
  | none => .stuck "lookup"
def replAt (v : V) : List (V × V) → Nat → List (V × V)
  | [], _ => []
  | (k, u) :: l, n => match n with
    | 0 => (k, v) :: l
    | m + 1 => (k, u) :: replAt v l m
def updateFin (b : Nat) (es : List (V × V)) (key v : V) (st : St) (r : Option (Nat × V)) : Res :=
  match r with
  | some (i, _) => .ok (.skip, { st with h := st.h.set b (.map (replAt v es i)) })
  | none => .ok (.skip, { st with h := st.h.set b (.map (es ++ [(key, v)])) })
def evMapUpdate (cx : Cx) (st : St) (t : TypeId) (x key v : V) : Res :=
  match cx.tt.get t with
  | some td => match td.d with
    | .map keyT _ =>
      match cx.tt.get keyT with
      | some kd =>
        match keyFits kd.d key with
        | true => match x with
          | .map b => match st.h.get b with
            | some (.map es) => findEntry st key es 0 (updateFin b es key v)
            | _ => .stuck "update: no map"
          | _ => .stuck "update"
        | false => .stuck "update key"
      | none => .stuck "update"
    | _ => .stuck "update"
  | none => .stuck "update"
def capKnown (len : Nat) : Cp → Bool
  | .known n => Nat.ble len n
  | .room _ _ => true
def evSliceBounds (len cap : Nat) (lo hi : Option V) : Option (Nat × Nat) :=
  match (match hi with | none => some len | some v => litNat v) with
  | none => none
  | some h =>
    match (match lo with | none => some 0 | some v => litNat v) with
    | none => none
    | some l => if Nat.ble l h && Nat.ble h cap then some (l, h) else none
def evSlice (cx : Cx) (st : St) (t : TypeId) (x : V) (lo hi mx : Option V) : Res :=
  match mx with
  | some _ => .stuck "slice: max"
  | none =>
    match cx.tt.get t with
    | none => .stuck "slice"
    | some td => match td.d, x with
      | .string, .str (.slit l) => match evSliceBounds l.length l.length lo hi with
        | some (a, b) => okv st (.str (.slit ((l.drop a).take (b - a))))
        | none => .stuck "slice bounds"
      | .slice elem, .slice b off len cap =>
        match cx.tt.get elem with
        | none => .stuck "slice"
        | some ed =>
          match cap with
          | .known c => match evSliceBounds len c lo hi with
            | some (l, h) => okv st (.slice b (if Nat.beq c l then off else off + l * ed.size) (h - l) (.known (c - l)))
            | none => .stuck "slice bounds"
          | .room _ _ => .stuck "slice: open room"
      | .slice elem, .nilslice => match cx.tt.get elem with
        | none => .stuck "slice"
        | some _ => match evSliceBounds 0 0 lo hi with
          | some _ => okv st .nilslice
          | none => .stuck "slice bounds"
      | .array n elem, .ptr b off =>
        match cx.tt.get elem with
        | none => .stuck "slice"
        | some ed => match evSliceBounds n n lo hi with
          | some (l, h) => okv st (.slice b (if Nat.beq n l then off else off + l * ed.size) (h - l) (.known (n - l)))
          | none => .stuck "slice bounds"
      | _, _ => .stuck "slice"
/-- The elements of a slice or a string. -/
def elemsOf (h : H) (size n : Nat) : V → Option (List V)
  | .slice b off _ _ => cellsAt h b off (n * size)
  | .nilslice => some []
  | .str (.slit l) => some ((l.take n).map fun c => .int .u8 (.lit ((c % 256 : Nat) : Int)))
  | _ => none
def lenV : V → Option Nat
  | .slice _ _ n _ => some n
  | .nilslice => some 0
  | .str (.slit l) => some l.length
  | _ => none
/-- What is appended goes into a block of its own, whose room nobody knows, or into the room that is known to be there. -/
def evAppend (cx : Cx) (st : St) (argTypes : List TypeId) (args : List V) : Res :=
  match argTypes, args with
  | t :: u :: _, s :: x :: _ =>
    match cx.tt.get t, cx.tt.get u with
    | some td, some ud => match td.d, ud.d with
      | _, .int _ => .stuck "append: make"
      | .slice elem, _ => match cx.tt.get elem with
        | none => .stuck "append"
        | some ed =>
          match lenV x with
          | none => .stuck "append: length"
          | some n =>
            match elemsOf st.h ed.size n x with
            | none => .stuck "append: elements"
            | some new =>
              match Nat.beq new.length (n * ed.size) with
              | false => .stuck "append: size"
              | true =>
              match s with
              | .nilslice =>
                if Nat.beq n 0 then okv st .nilslice
                else if Nat.ble ((n + 1) * (ed.bytes + 1)) 1000000000 then
                  let st' := newObj st (.cells new elem (some ed.size))
                  okv st' (.slice st.n 0 n (.room st.n 0))
                else .stuck "append: long"
              | .slice b off len (.known c) =>
                if Nat.ble (len + n) c then
                  match putAt st.h b (off + len * ed.size) new with
                  | some h => okv { st with h := h } (.slice b off (len + n) (.known c))
                  | none => .stuck "append: room"
                else if Nat.ble ((len + n + c + 1) * (ed.bytes + 1)) 1000000000 then
                  match cellsAt st.h b off (len * ed.size) with
                  | some old =>
                    let st' := newObj st (.cells (old ++ new) elem (some ed.size))
                    okv st' (.slice st.n 0 (len + n) (.room st.n 0))
                  | none => .stuck "append: old"
                else .stuck "append: long"
              | .slice b 0 len (.room b' 0) =>
                match st.h.get b with
                | some (.cells c e (some sz)) =>
                  if Nat.beq b b' && Nat.beq sz ed.size && Nat.beq c.length (len * ed.size) && Nat.beq e elem && Nat.ble ((len + n + 1) * (ed.bytes + 1)) 1000000000 && allOne new then
                    let st' := newObj { st with h := st.h.drop b } (.cells (c ++ new) e (some sz))
                    okv st' (.slice st.n 0 (len + n) (.room st.n 0))
                  else .stuck "append: room"
                | _ => .stuck "append: room"
              | _ => .stuck "append"
      | _, _ => .stuck "append"
    | _, _ => .stuck "append"
  | _, _ => .stuck "append"
def evCopy (cx : Cx) (st : St) (argTypes : List TypeId) (args : List V) : Res :=
  match argTypes, args with
  | t :: _, d :: x :: _ =>
    match cx.tt.get t with
    | some td => match td.d with
      | .slice elem => match cx.tt.get elem, lenV d, lenV x with
        | some ed, some dl, some xl =>
          let n := min xl dl
          match elemsOf st.h ed.size n x with
          | none => .stuck "copy"
          | some cs =>
            match d with
            | .nilslice => okv st (.int .i64 (.lit n))
            | .slice b off _ _ => match putAt st.h b off cs with
              | some h => okv { st with h := h } (.int .i64 (.lit n))
              | none => .stuck "copy"
            | _ => .stuck "copy"
        | _, _, _ => .stuck "copy"
      | _ => .stuck "copy"
    | none => .stuck "copy"
  | _, _ => .stuck "copy"
def evLen (cx : Cx) (st : St) (argTypes : List TypeId) (args : List V) : Res :=
  match argTypes, args with
  | t :: _, x :: _ =>
    match cx.tt.get t with
    | some td => match td.d, x with
      | .string, .str a => okv st (.int .i64 (mkLen a))
      | .array n _, _ => okv st (.int .i64 (.lit n))
      | .pointer arr, _ => match cx.tt.get arr with
        | some ad => match ad.d with
          | .array n _ => okv st (.int .i64 (.lit n))
          | _ => .stuck "len"
        | none => .stuck "len"
      | .slice _, .slice _ _ n _ => okv st (.int .i64 (.lit n))
      | .slice _, .nilslice => okv st (.int .i64 (.lit 0))
      | .slice _, .wslice _ _ n _ => split st (mkLe (.lit 0) n) fun st t => match t with
        | true => okv st (.int .i64 n)
        | false => .stuck "len"
      | .map _ _, .nilmap => okv st (.int .i64 (.lit 0))
      | .map _ _, .map b => match st.h.get b with
        | some (.map es) => okv st (.int .i64 (.lit es.length))
        | _ => .stuck "len"
      | _, _ => .stuck "len"
    | none => .stuck "len"
  | _, _ => .stuck "len"
def max2V (gt : Bool) (a b : V) : Option V :=
  match a, b with
  | .int k x, .int j y => if kindBeq k j then some (.int k (if gt then mkIte (mkLt x y) y x else mkIte (mkLt y x) y x)) else none
  | _, _ => none
def maxV (gt : Bool) : V → List V → Option V
  | a, [] => some a
  | a, b :: l => match max2V gt a b with
    | some c => maxV gt c l
    | none => none
def evBuiltin (cx : Cx) (st : St) (b : Builtin) (argTypes : List TypeId) (args : List V) : Res :=
  match b with
  | .append => evAppend cx st argTypes args
  | .copy => evCopy cx st argTypes args
  | .len => evLen cx st argTypes args
  | .max => match args with
    | a :: l => optv st (maxV true a l) "max"
    | [] => .stuck "max"
  | .min => match args with
    | a :: l => optv st (maxV false a l) "min"
    | [] => .stuck "min"
  | _ => .stuck "builtin"
def oPick (cx : Cx) (tm : List V) (st : St) (c a b : Operand) : Res :=
  match evO cx tm c, evO cx tm a, evO cx tm b with
  | some c, some a, some b => match c with
    | .bool x => match decAtom st.pc x with
      | some t => okv st (match t with | true => a | false => b)
      | none => match evPick c a b with
        | some v => okv st v
        | none => split st x fun st t => okv st (match t with | true => a | false => b)
    | _ => .stuck "pick"
  | _, _, _ => .stuck "pick"
def oAlloc (cx : Cx) (st : St) (t : TypeId) : Res :=
  match cx.tt.get t with
  | some td => .ok (.val (.ptr st.n 0), newObj st (.cells td.zero t none))
  | none => .stuck "alloc"
def oBox (cx : Cx) (tm : List V) (st : St) (t : TypeId) (x : Operand) : Res :=
  match evO cx tm x with
  | some v => .ok (.val (.ptr st.n 0), newObj st (.cells v.cells t none))
  | none => .stuck "box"
def oBuild (cx : Cx) (tm : List V) (st : St) (t : TypeId) (parts : Array (Nat × Operand)) : Res :=
  match cx.tt.get t, evParts cx tm parts.toList with
  | some td, some ps => match fillV (placeOf cx.tt td.d) td.zero ps with
    | some cells => match knownParts cx.tt td.d with
      | true => okv st (.agg cells)
      | false => .stuck "build"
    | none => .stuck "build"
  | _, _ => .stuck "build"
def oBuildSlice (cx : Cx) (tm : List V) (st : St) (t : TypeId) (len : Nat) (parts : Array (Nat × Operand)) : Res :=
  match cx.tt.get t, evParts cx tm parts.toList with
  | some td, some ps => match td.d with
    | .slice elem => match cx.tt.get elem with
      | some ed => match Nat.ble (len * ed.size) 100000 with
        | true => match fillV (fun i => some (i * ed.size, ed.size)) (repeatL ed.zero len) ps with
          | some cells => .ok (.val (.slice st.n 0 len (.known len)), newObj st (.cells cells elem none))
          | none => .stuck "buildSlice"
        | false => .stuck "buildSlice: long"
      | none => .stuck "buildSlice"
    | _ => .stuck "buildSlice"
  | _, _ => .stuck "buildSlice"
/-- Cells of a part of a row that came in. -/
def winAt (h : H) (pc : PC) (b off n : Nat) : Option (List V) :=
  match h.get b with
  | some (.win _ c len es) => match Nat.ble (off % es + n) es, decAtom pc (.lt (.lit (Int.ofNat (off / es))) len) with
    | true, some true => takeN n (dropN c off)
    | _, _ => none
  | _ => none
/-- Is a number one of so many? -/
def ranged {α : Type} (st : St) (i : X) (n : Nat) (k : St → R α) : R α :=
  split st (mkLe (.lit 0) i) fun st a => match a with
    | false => .stuck "index out of range"
    | true => split st (mkLt i (.lit (Int.ofNat n))) fun st b => match b with
      | false => .stuck "index out of range"
      | true => k st
def oLoad (cx : Cx) (tm : List V) (st : St) (t : TypeId) (a : Operand) : Res :=
  match cx.tt.get t, evO cx tm a with
  | some td, some (.sptr b off n i) => match td.agg, Nat.beq td.size 1 with
    | false, true => match cellsAt st.h b off n with
      | some cs => ranged st i n fun st => optv st (selV i cs) "load"
      | none => .stuck "load: no such cells"
    | _, _ => .stuck "load: not one cell"
  | some td, some (.wptr b off) => match winAt st.h st.pc b off td.size with
    | some cs => match td.agg with
      | true => okv st (.agg cs)
      | false => match cs with
        | [v] => okv st v
        | _ => .stuck "load"
    | none => .stuck "load: no such cells"
  | some td, some (.ptr b off) => match cellsAt st.h b off td.size with
    | some cs => match td.agg with
      | true => okv st (.agg cs)
      | false => match cs with
        | [v] => okv st v
        | _ => .stuck "load"
    | none => .stuck "load: no such cells"
  | _, _ => .stuck "load"
def oStore (cx : Cx) (tm : List V) (st : St) (t : TypeId) (a x : Operand) : Res :=
  match cx.tt.get t, evO cx tm a, evO cx tm x with
  | some td, some (.sptr b off n i), some v => match Nat.beq v.cells.length td.size, Nat.beq td.size 1 with
    | true, true => match v.cells with
      | [u] => match cellsAt st.h b off n with
        | some cs => ranged st i n fun st => match putAt st.h b off (symPut i u 0 cs) with
          | some h => match u.one with
            | true => .ok (.skip, { st with h := h })
            | false => .stuck "store: size"
          | none => .stuck "store: no such cells"
        | none => .stuck "store: no such cells"
      | _ => .stuck "store: size"
    | _, _ => .stuck "store: size"
  | some td, some (.ptr b off), some v => match Nat.beq v.cells.length td.size with
    | true => match putAt st.h b off v.cells with
      | some h => .ok (.skip, { st with h := h })
      | none => .stuck "store: no such cells"
    | false => .stuck "store: size"
  | _, _, _ => .stuck "store"
def oNilCheck (cx : Cx) (tm : List V) (st : St) (x : Operand) : Res :=
  match evO cx tm x with
  | some (.ptr b off) => okv st (.ptr b off)
  | some (.sptr b off n i) => okv st (.sptr b off n i)
  | some (.func (.func f) first cap) => okv st (.func (.func f) first cap)
  | some (.yield l) => okv st (.yield l)
  | some (.iface t v) => okv st (.iface t v)
  | some (.slice b off len cap) => okv st (.slice b off len cap)
  | _ => .stuck "nilCheck"
def isConst : Operand → Bool
  | .const _ => true
  | _ => false
/-- No interface value, held against nil. -/
def nilBin (cx : Cx) (st : St) (op : BinOp) (t : TypeId) : Res := match cx.tt.get t with
  | some td => match td.d, op with
    | .interface _, .eql => okv st (.bool (.lit 1))
    | .interface _, .neq => okv st (.bool (.lit 0))
    | _, _ => .stuck "nil"
  | none => .stuck "nil"
def twoNil : V → V → Bool
  | .niliface, .niliface => true
  | _, _ => false
def oBin (cx : Cx) (tm : List V) (st : St) (op : BinOp) (t : TypeId) (x y : Operand) : Res :=
  match evO cx tm x, evO cx tm y with
  | some a, some b => match twoNil a b, isConst y with
    | true, true => nilBin cx st op t
    | _, _ => evBin cx st op t a b
  | _, _ => .stuck "binop operand"
def oUn (cx : Cx) (tm : List V) (st : St) (op : UnOp) (x : Operand) : Res :=
  match evO cx tm x with
  | some a => evUn st op a
  | none => .stuck "unop"
def oConvert (cx : Cx) (tm : List V) (st : St) (src dst : TypeId) (x : Operand) : Res :=
  match evO cx tm x with
  | some a => evConvert cx st src dst a
  | none => .stuck "convert"
def oIface (cx : Cx) (tm : List V) (st : St) (t : TypeId) (x : Operand) : Res :=
  match cx.tt.get t, evO cx tm x with
  | some td, some v => match td.d with
    | .interface _ => .stuck "makeInterface"
    | _ => okv st (.iface t v)
  | _, _ => .stuck "makeInterface"
def oFunc (cx : Cx) (tm : List V) (st : St) (fn : Fn) (first captured : Array Operand) : Res :=
  match fn, evArgs cx tm first.toList, evArgs cx tm captured.toList with
  | .func f, some a, some b => okv st (.func (.func f) a b)
  | _, _, _ => .stuck "makeFunc"
def oMap (cx : Cx) (tm : List V) (st : St) (t : TypeId) (r : Option Operand) : Res :=
  match cx.tt.get t with
  | some td => match td.d with
    | .map _ _ => match r with
      | none => .ok (.val (.map st.n), newObj st (.map []))
      | some x => match evO cx tm x with
        | some (.int _ _) => .ok (.val (.map st.n), newObj st (.map []))
        | _ => .stuck "makeMap"
    | _ => .stuck "makeMap"
  | none => .stuck "makeMap"
def oMakeSlice (cx : Cx) (tm : List V) (st : St) (t : TypeId) (l c : Operand) : Res :=
  match cx.tt.get t, (evO cx tm l).bind litNat, (evO cx tm c).bind litNat with
  | some td, some l, some c => match td.d with
    | .slice elem => match cx.tt.get elem with
      | some ed => match Nat.ble l c && Nat.ble (c * (ed.bytes + 1)) 1000000000 with
        | true => .ok (.val (.slice st.n 0 l (.known c)), newObj st (.cells (repeatL ed.zero c) elem none))
        | false => .stuck "makeSlice: long"
      | none => .stuck "makeSlice"
    | _ => .stuck "makeSlice"
  | _, _, _ => .stuck "makeSlice"
def evOpt (cx : Cx) (tm : List V) : Option Operand → Option (Option V)
  | none => some none
  | some o => match evO cx tm o with
    | some v => some (some v)
    | none => none
def oSlice (cx : Cx) (tm : List V) (st : St) (t : TypeId) (x : Operand) (lo hi mx : Option Operand) : Res :=
  match evO cx tm x, evOpt cx tm lo, evOpt cx tm hi, evOpt cx tm mx with
  | some v, some lo, some hi, some mx => evSlice cx st t v lo hi mx
  | _, _, _, _ => .stuck "slice"
def oFieldAddr (cx : Cx) (tm : List V) (st : St) (t : TypeId) (x : Operand) (f : Nat) : Res :=
  match cx.tt.get t, evO cx tm x with
  | some td, some (.ptr b off) => match td.d with
    | .struct fields => match nth fields.toList f with
      | some fd => match cx.tt.get fd.type with
        | some d => match Nat.beq d.size 0 with
          | true => .stuck "fieldAddr: no size"
          | false => okv st (.ptr b (off + fd.offset))
        | none => .stuck "fieldAddr"
      | none => .stuck "fieldAddr"
    | _ => .stuck "fieldAddr"
  | _, _ => .stuck "fieldAddr"
def oField (cx : Cx) (tm : List V) (st : St) (t : TypeId) (x : Operand) (f : Nat) : Res :=
  match cx.tt.get t, evO cx tm x with
  | some td, some (.agg cs) => match td.d with
    | .struct fields => match nth fields.toList f with
      | some fd => optv st (partV cx.tt fd.type cs fd.offset) "field"
      | none => .stuck "field"
    | _ => .stuck "field"
  | _, _ => .stuck "field"
def openIx (cx : Cx) (i : X) (ed : TD) : Bool := match cx.sx with
  | false => false
  | true => match isLit i with
    | true => false
    | false => match ed.agg with
      | true => false
      | false => Nat.beq ed.size 1
def oIndexAddr (cx : Cx) (tm : List V) (st : St) (t : TypeId) (x ix : Operand) : Res :=
  match cx.tt.get t, evO cx tm x, evO cx tm ix with
  | some td, some v, some (.int _ i) => match td.d, v with
    | .array len elem, .ptr b off => match cx.tt.get elem with
      | some ed => match openIx cx i ed with
        | true => ranged st i len fun st => okv st (.sptr b off len i)
        | false => index st i len fun st n => okv st (.ptr b (off + n * ed.size))
      | none => .stuck "indexAddr"
    | .slice elem, .slice b off len _ => match cx.tt.get elem with
      | some ed => match openIx cx i ed with
        | true => ranged st i len fun st => okv st (.sptr b off len i)
        | false => index st i len fun st n => okv st (.ptr b (off + n * ed.size))
      | none => .stuck "indexAddr"
    | .slice elem, .wslice b off len _ => match cx.tt.get elem, i with
      | some ed, .lit (.ofNat n) => split st (mkLt (.lit (.ofNat n)) len) fun st t => match t with
        | true => okv st (.wptr b (off + n * ed.size))
        | false => .stuck "index out of range"
      | _, _ => .stuck "indexAddr"
    | _, _ => .stuck "indexAddr"
  | _, _, _ => .stuck "indexAddr"
def oIndex (cx : Cx) (tm : List V) (st : St) (t : TypeId) (x ix : Operand) : Res :=
  match cx.tt.get t, evO cx tm x, evO cx tm ix with
  | some td, some v, some (.int _ i) => match td.d, v with
    | .array len elem, .agg cs => match cx.tt.get elem with
      | some ed => match openIx cx i ed with
        | true => match takeN len cs with
          | some l => ranged st i len fun st => optv st (selV i l) "index"
          | none => .stuck "index"
        | false => index st i len fun st n => optv st (partV cx.tt elem cs (n * ed.size)) "index"
      | none => .stuck "index"
    | .string, .str (.slit l) => index st i l.length fun st n => okv st (.int .u8 (.lit ((((nth l n).getD 0) % 256 : Nat) : Int)))
    | _, _ => .stuck "index"
  | _, _, _ => .stuck "index"
def oLookup (cx : Cx) (tm : List V) (st : St) (t : TypeId) (x ix : Operand) (ok : Bool) : Res :=
  match evO cx tm x, evO cx tm ix with
  | some x, some ix => evLookup cx st t x ix ok
  | _, _ => .stuck "lookup"
def oUpdate (cx : Cx) (tm : List V) (st : St) (t : TypeId) (m k x : Operand) : Res :=
  match evO cx tm m, evO cx tm k, evO cx tm x with
  | some m, some k, some x => evMapUpdate cx st t m k x
  | _, _, _ => .stuck "update"
def oAssert (cx : Cx) (tm : List V) (st : St) (x : Operand) (asserted : TypeId) (ok : Bool) : Res :=
  match cx.tt.get asserted, evO cx tm x with
  | some td, some v => match td.d, v with
    | .interface _, _ => .stuck "typeAssert"
    | _, .iface t v => match Nat.beq t asserted, ok with
      | true, true => okv st (.tuple [v, .bool (.lit 1)])
      | true, false => okv st v
      | false, true => match zeroV td with
        | some z => okv st (.tuple [z, .bool (.lit 0)])
        | none => .stuck "typeAssert"
      | false, false => .stuck "typeAssert fails"
    | _, .niliface => match ok with
      | true => match zeroV td with
        | some z => okv st (.tuple [z, .bool (.lit 0)])
        | none => .stuck "typeAssert"
      | false => .stuck "typeAssert fails"
    | _, _ => .stuck "typeAssert"
  | _, _ => .stuck "typeAssert"
def oExtract (cx : Cx) (tm : List V) (st : St) (x : Operand) (i : Nat) : Res :=
  match evO cx tm x with
  | some (.tuple l) => optv st (nth l i) "extract"
  | _ => .stuck "extract"
def oCall (cx : Cx) (tm : List V) (st : St) (c : Call) : Res :=
  match c.callee with
  | .value f => match evO cx tm f, evArgs cx tm c.args.toList with
    | some (.func (.func g) first cap), some args => match cx.ft.get g with
      | some _ => .ok (.enter g (first ++ args ++ cap), st)
      | none => .stuck "call: unknown function"
    | some (.yield l), some args => .ok (.round l args, st)
    | _, _ => .stuck "call"
  | .builtin b => match evArgs cx tm c.args.toList with
    | some args => evBuiltin cx st b c.argTypes.toList args
    | none => .stuck "builtin"
  | .invoke _ _ => .stuck "invoke"
def oDefer (cx : Cx) (tm : List V) (st : St) (c : Call) : Res :=
  match c.callee with
  | .value f => match evO cx tm f, evArgs cx tm c.args.toList with
    | some (.func (.func g) first cap), some args => .ok (.defer (.fn (.func g) cap (first ++ args)), st)
    | _, _ => .stuck "defer"
  | _ => .stuck "defer"
def oPanic (cx : Cx) (tm : List V) (st : St) (x : Operand) : Res :=
  match evO cx tm x with
  | some (.iface t v) => .ok (.panic (.iface t v), st)
  | _ => .stuck "panic"
def evOp0 (cx : Cx) (tm : List V) (st : St) (o : Oper) : Res :=
  match o.op with
  | .move x => optv st (evO cx tm x) "move"
  | .assign x => optv st (evO cx tm x) "assign"
  | .pick c a b => oPick cx tm st c a b
  | .alloc t => oAlloc cx st t
  | .box t x => oBox cx tm st t x
  | .build t parts => oBuild cx tm st t parts
  | .buildSlice t len parts => oBuildSlice cx tm st t len parts
  | .load t a => oLoad cx tm st t a
  | .store t a x => oStore cx tm st t a x
  | .nilCheck x => oNilCheck cx tm st x
  | .binOp op t x y _ => oBin cx tm st op t x y
  | .unOp op _ x => oUn cx tm st op x
  | .convert src dst x => oConvert cx tm st src dst x
  | .makeInterface t x => oIface cx tm st t x
  | .makeFunc fn first captured => oFunc cx tm st fn first captured
  | .makeMap t r => oMap cx tm st t r
  | .makeSlice t l c => oMakeSlice cx tm st t l c
  | .slice t x lo hi mx => oSlice cx tm st t x lo hi mx
  | .fieldAddr t x f => oFieldAddr cx tm st t x f
  | .field t x f => oField cx tm st t x f
  | .indexAddr t x ix => oIndexAddr cx tm st t x ix
  | .index t x ix => oIndex cx tm st t x ix
  | .lookup t x ix ok => oLookup cx tm st t x ix ok
  | .mapUpdate t m k x => oUpdate cx tm st t m k x
  | .insert t m k x => oUpdate cx tm st t m k x
  | .typeAssert x _ asserted ok => oAssert cx tm st x asserted ok
  | .extract x i => oExtract cx tm st x i
  | .call c => oCall cx tm st c
  | .defer c => oDefer cx tm st c
  | .panic x => oPanic cx tm st x
  | _ => .stuck "operation"
def resolveV (r : OR) (st : St) : Res := match r with
  | .val v => splitV 100 st v fun st v => .ok (.val v, st)
  | r => .ok (r, st)
def evOp (cx : Cx) (tm : List V) (st : St) (o : Oper) : Res := (evOp0 cx tm st o).bind fun (r, st) => resolveV r st

/-! ### Code -/
inductive Ex where
  | normal
  | exit (id : Nat)
  | ret
  | panic (v : V)
  /-- A panic of a function that has deferred nothing: of its temporaries nothing is known. -/
  | die (v : V)
structure Fr where
  tm : List V
  df : List SDef
inductive En where
  | ret (v : V)
  | panic (v : V)
abbrev COut := R (Ex × Fr × St)
abbrev EOut := R (En × St)
structure Self where
  code : Option Nat → Code → Fr → St → COut
  loop : Option Nat → Code → Fr → St → COut
  call : FuncId → List V → St → EOut
def putD (tm : List V) (dst : Option Tmp) (v : V) : List V :=
  match dst with
  | some d => setN tm d v
  | none => tm

def setZip (tm : List V) : List Tmp → List V → List V
  | t :: ts, a :: as => setZip (setN tm t a) ts as
  | _, _ => tm
/-- One round of a range over a function. -/
def roundEnd (l : Nat) (e : Ex) (fr : Fr) (st : St) : EOut :=
  match fr.df with
  | [] =>
    match st.h.get l with
    | some (.loop _ _ tmps params assign body defers) =>
      match e with
      | .normal => .ok (.ret (.bool (.lit 1)), { st with h := st.h.set l (.loop .ready none tmps params assign body defers) })
      | .ret => .ok (.ret (.bool (.lit 0)), { st with h := st.h.set l (.loop .done (some .ret) tmps params assign body defers) })
      | .exit id => .ok (.ret (.bool (.lit 0)), { st with h := st.h.set l (.loop .done (some (.exit id)) tmps params assign body defers) })
      | .panic _ => .stuck "round: panic"
      | .die _ => .stuck "round: panic"
    | _ => .stuck "round: no loop"
  | _ => .stuck "round: defers"
def roundBody (self : Self) (l : Nat) (body : Code) (e : Ex) (fr : Fr) (st : St) : EOut :=
  match e with
  | .normal =>
    match st.h.get l with
    | some (.loop state pending tmps params assign body' defers) =>
      match state with
      | .ready => (self.code (some l) body fr { st with h := st.h.set l (.loop .busy pending tmps params assign body' defers) }).bind fun (e, fr, st) => roundEnd l e fr st
      | _ => .stuck "round: not ready"
    | _ => .stuck "round: no loop"
  | _ => .stuck "round: assign"
def evRound (self : Self) (l : Nat) (args : List V) (st : St) : EOut :=
  match st.h.get l with
  | some (.loop _ _ tmps params assign body _) =>
    match Nat.beq params.toList.length args.length with
    | true => (self.code (some l) assign { tm := setZip tmps params.toList args, df := [] } st).bind fun (e, fr, st) => roundBody self l body e fr st
    | false => .stuck "round: arguments"
  | _ => .stuck "round: no loop"

/-- Is it wanted? -/
def wantedV (st : St) (ops : List Oper) (tm : List V) (o : Oper) (k : St → Bool → R (Ex × Fr × St)) : COut :=
  match o.guard with
  | none => k st true
  | some (j, want) =>
    match (nth ops j).bind (·.dst) with
    | none => k st false
    | some d => match nth tm d with
      | some (.bool x) => split st x fun st b => k st (b == want)
      | some (.ite _ _ _) => .stuck "guard"
      | _ => k st false
/-- The same, with what is written out reckoned first (so that the kernel reckons it once). -/
def forceN {β : Type} (n : Nat) (k : Nat → β) : β :=
  match n with
  | 0 => k 0
  | m + 1 => k (m + 1)
def forceI {β : Type} (n : Int) (k : Int → β) : β :=
  match n with
  | .ofNat m => forceN m fun m => k (.ofNat m)
  | .negSucc m => forceN m fun m => k (.negSucc m)
def forceX {β : Type} (x : X) (k : X → β) : β :=
  match x with
  | .lit n => forceI n fun n => k (.lit n)
  | x => k x
def forceV {β : Type} (v : V) (k : V → β) : β :=
  match v with
  | .int a x => forceX x fun x => k (.int a x)
  | .bool x => forceX x fun x => k (.bool x)
  | v => k v
def forceL {β : Type} : List V → (List V → β) → β
  | [], k => k []
  | v :: l, k => forceL l fun l => k (v :: l)
/-- A list is written to, and stands there made. -/
noncomputable def setK {β : Type} (l : List V) : Nat → V → (List V → β) → β :=
  List.rec (motive := fun _ => Nat → V → (List V → β) → β) (fun _ _ k => k []) (fun a l ih n b k => Nat.rec (motive := fun _ => β) (k (b :: l)) (fun m _ => ih m b fun l => k (a :: l)) n) l
def putK {β : Type} (l : List V) (d : Option Nat) (v : V) (k : List V → β) : β :=
  match d with
  | none => k l
  | some d => setK l d v k
/-- What became of one operation. -/
def evOper (cx : Cx) (self : Self) (rnd : Option Nat) (fr : Fr) (st : St) (o : Oper) (k : Fr → St → COut) : COut :=
  (evOp cx fr.tm st o).bind fun (r, st) =>
    match r with
    | .val v => forceV v fun v => putK fr.tm o.dst v fun tm => k { tm := tm, df := fr.df } st
    | .skip => k { fr with tm := putD fr.tm o.dst .undef } st
    | .enter f args => (self.call f args st).bind fun (e, st) =>
      match e with
      | .ret v => splitV 100 st v fun st v => forceV v fun v => putK fr.tm o.dst v fun tm => k { tm := tm, df := fr.df } st
      | .panic v => .ok (.panic v, fr, st)
    | .round l args => (evRound self l args st).bind fun (e, st) =>
      match e with
      | .ret v => k { fr with tm := putD fr.tm o.dst v } st
      | .panic _ => .stuck "panic in a round"
    | .panic v => .ok (.panic v, fr, st)
    | .defer d => match rnd with
      | none => k { tm := putD fr.tm o.dst .undef, df := d :: fr.df } st
      | some _ => .stuck "defer in a round"
def evOps (cx : Cx) (self : Self) (rnd : Option Nat) (ops : List Oper) : List Oper → Fr → St → COut
  | [], fr, st => .ok (.normal, fr, st)
  | o :: rest, fr, st => wantedV st ops fr.tm o fun st w =>
    match w with
    | true => evOper cx self rnd fr st o fun fr st => evOps cx self rnd ops rest fr st
    | false => putK fr.tm o.dst .undef fun tm => evOps cx self rnd ops rest { fr with tm := tm } st
end
end Go.Proofs.YtcachlbljjpjdaaGreatDoor
