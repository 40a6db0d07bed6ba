/- Symbolic execution: the evaluator once more, its frames as tries (plain functions; nothing is proved of them here). Symbolic execution: the evaluator with tries does what the one with lists does. No condition. -/
import Derived.Test.YtennjdjcjjjmiaaGreatDoorFwA
import Derived.Test.YtennjdjcjjjmiaaGreatDoorFwD
namespace Go.Proofs.YtennjdjcjjjmiaaGreatDoor
open Go
noncomputable section

/-! ### Frames -/
structure Tm where
  n : Nat
  t : T V
def T.look {α : Type} (t : T α) : List Bool → Option α :=
  T.rec (motive := fun _ => List Bool → Option α) (fun _ => none)
    (fun _ v _ il ir bs => List.rec (motive := fun _ => Option α) v (fun b bs' _ => Bool.rec (motive := fun _ => Option α) (il bs') (ir bs') b) bs) t
def T.newK {α β : Type} (bs : List Bool) : α → (T α → β) → β :=
  List.rec (motive := fun _ => α → (T α → β) → β) (fun v k => k (.node .nil (some v) .nil))
    (fun b _ ih v k => Bool.rec (motive := fun _ => β) (ih v fun x => k (.node x none .nil)) (ih v fun x => k (.node .nil none x)) b) bs
def T.putK {α β : Type} (t : T α) : List Bool → α → (T α → β) → β :=
  T.rec (motive := fun _ => List Bool → α → (T α → β) → β) (fun bs v k => T.newK bs v k)
    (fun l u r il ir bs v k => List.rec (motive := fun _ => β) (k (.node l (some v) r)) (fun b bs' _ => Bool.rec (motive := fun _ => β) (il bs' v fun x => k (.node x u r)) (ir bs' v fun x => k (.node l u x)) b) bs) t
def Tm.val (m : Tm) (i : Nat) : V := match T.look m.t (bitsOf i) with
  | some v => v
  | none => .undef
def Tm.get (m : Tm) (i : Nat) : Option V := match Nat.blt i m.n with
  | true => some (m.val i)
  | false => none
def Tm.l (m : Tm) : List V := (List.range m.n).map m.val
def Tm.setK {β : Type} (m : Tm) (i : Nat) (v : V) (k : Tm → β) : β := match m with
  | ⟨n, t⟩ => T.putK t (bitsOf i) v fun t => k ⟨n, t⟩
def Tm.set (m : Tm) (i : Nat) (v : V) : Tm := m.setK i v fun m => m
def Tm.putD (m : Tm) (d : Option Tmp) (v : V) : Tm := match d with
  | some d => m.set d v
  | none => m
def putKT {β : Type} (m : Tm) (d : Option Tmp) (v : V) (k : Tm → β) : β := match d with
  | none => k m
  | some d => m.setK d v k
def fillT {β : Type} : Nat → List V → T V → (T V → β) → β
  | _, [], t, k => k t
  | i, v :: l, t, k => forceV v fun v => T.putK t (bitsOf i) v fun t => fillT (i + 1) l t k
def Tm.of (l : List V) : Tm := fillT 0 l .nil fun t => ⟨l.length, t⟩
def Tm.start (n : Nat) (args : List V) : Tm := fillT 0 args .nil fun t => ⟨args.length + (n - args.length), t⟩
/-! ### Which of its kind: by recursors whose branches are closed (the kernel copies no branch) -/
inductive FV where
  | int (k : IntKind) (x : X)
  | bool (x : X)
  | other
def V.isIteR (v : V) : Bool := V.rec (motive_1 := fun _ => Bool) (motive_2 := fun _ => Unit) (fun _ _ => false) (fun _ => false) (fun _ => false) (fun _ _ => false) false (fun _ _ _ _ => false) false (fun _ => false) false (fun _ _ _ _ _ => false) (fun _ => false) false (fun _ _ _ => false) false (fun _ _ => false) (fun _ _ => false) (fun _ _ => false) (fun _ _ _ _ => false) (fun _ _ _ _ _ => true) (fun _ _ _ _ => false) (fun _ _ _ _ => false) () (fun _ _ _ _ => ()) v
def V.fv (v : V) : FV := V.rec (motive_1 := fun _ => FV) (motive_2 := fun _ => Unit) (fun k x => .int k x) (fun x => .bool x) (fun _ => .other) (fun _ _ => .other) .other (fun _ _ _ _ => .other) .other (fun _ => .other) .other (fun _ _ _ _ _ => .other) (fun _ => .other) .other (fun _ _ _ => .other) .other (fun _ _ => .other) (fun _ _ => .other) (fun _ _ => .other) (fun _ _ _ _ => .other) (fun _ _ _ _ _ => .other) (fun _ _ _ _ => .other) (fun _ _ _ _ => .other) () (fun _ _ _ _ => ()) v
abbrev X.litO (x : X) : Option Int := litI x
def forceXT {β : Type} (x : X) (k : X → β) : β := match x.litO with
  | some n => forceI n fun n => k (.lit n)
  | none => k x
def forceVT {β : Type} (v : V) (k : V → β) : β := match v.fv with
  | .int a x => forceXT x fun x => k (.int a x)
  | .bool x => forceXT x fun x => k (.bool x)
  | .other => k v
def orU : Option V → V
  | some v => v
  | none => .undef
def joinOV {β : Type} (c : X) (a b : Option V) (k : Option V → β) : β := match a with
  | none => match b with
    | none => k none
    | some b => forceV (joinV c .undef b) fun v => k (some v)
  | some a => forceV (joinV c a (orU b)) fun v => k (some v)
/-- All of the other way. -/
def joinN {β : Type} (c : X) : T V → (T V → β) → β
  | .nil, k => k .nil
  | .node l v r, k => joinOV c none v fun v => joinN c l fun l => joinN c r fun r => k (.node l v r)
def joinM {β : Type} (c : X) : T V → (T V → β) → β
  | .nil, k => k .nil
  | .node l v r, k => joinOV c v none fun v => joinM c l fun l => joinM c r fun r => k (.node l v r)
def joinTT {β : Type} (c : X) : T V → T V → (T V → β) → β
  | .nil, t, k => joinN c t k
  | .node l v r, t, k => match t with
    | .nil => joinM c (.node l v r) k
    | .node l' v' r' => joinOV c v v' fun v => joinTT c l l' fun l => joinTT c r r' fun r => k (.node l v r)
def joinTm (c : X) (a b : Tm) : Option Tm := match a with
  | ⟨n, t⟩ => match b with
    | ⟨m, u⟩ => match Nat.beq n m with
      | true => joinTT c t u fun t => some ⟨n, t⟩
      | false => none

def evOT (cx : Cx) (tm : Tm) : Operand → Option V
  | .tmp t => match tm.get t with
    | some v => match v.isIteR with
      | true => none
      | false => some v
    | none => some .undef
  | .const v => ofValue v
  | .global g => if Nat.blt g cx.ng then some (.ptr g 0) else none
  | .func f => some (.func (.func f) [] [])

def evPartsT (cx : Cx) (tm : Tm) : List (Nat × Operand) → Option (List (Nat × V))
  | [] => some []
  | (i, o) :: l => match evOT cx tm o, evPartsT cx tm l with
    | some v, some r => some ((i, v) :: r)
    | _, _ => none

def evArgsT (cx : Cx) (tm : Tm) : List Operand → Option (List V)
  | [] => some []
  | o :: l => match evOT cx tm o, evArgsT cx tm l with
    | some v, some r => some (v :: r)
    | _, _ => none

def oPickT (cx : Cx) (tm : Tm) (st : St) (c a b : Operand) : Res :=
  match evOT cx tm c, evOT cx tm a, evOT cx tm b with
  | some c, some a, some b => match c with
    | .bool x => match decAtom st.pc x with
      | some t => okv st (match t with | true => a | false => b)
      | none => match evPick c a b with
        | some v => okv st v
        | none => split st x fun st t => okv st (match t with | true => a | false => b)
    | _ => .stuck "pick"
  | _, _, _ => .stuck "pick"

def oBoxT (cx : Cx) (tm : Tm) (st : St) (t : TypeId) (x : Operand) : Res :=
  match evOT cx tm x with
  | some v => .ok (.val (.ptr st.n 0), newObj st (.cells v.cells t none))
  | none => .stuck "box"

def oBuildT (cx : Cx) (tm : Tm) (st : St) (t : TypeId) (parts : Array (Nat × Operand)) : Res :=
  match cx.tt.get t, evPartsT cx tm parts.toList with
  | some td, some ps => match fillV (placeOf cx.tt td.d) td.zero ps with
    | some cells => match knownParts cx.tt td.d with
      | true => okv st (.agg cells)
      | false => .stuck "build"
    | none => .stuck "build"
  | _, _ => .stuck "build"

def oBuildSliceT (cx : Cx) (tm : Tm) (st : St) (t : TypeId) (len : Nat) (parts : Array (Nat × Operand)) : Res :=
  match cx.tt.get t, evPartsT cx tm parts.toList with
  | some td, some ps => match td.d with
    | .slice elem => match cx.tt.get elem with
      | some ed => match Nat.ble (len * ed.size) 100000 with
        | true => match fillV (fun i => some (i * ed.size, ed.size)) (repeatL ed.zero len) ps with
          | some cells => .ok (.val (.slice st.n 0 len (.known len)), newObj st (.cells cells elem none))
          | none => .stuck "buildSlice"
        | false => .stuck "buildSlice: long"
      | none => .stuck "buildSlice"
    | _ => .stuck "buildSlice"
  | _, _ => .stuck "buildSlice"

def oLoadT (cx : Cx) (tm : Tm) (st : St) (t : TypeId) (a : Operand) : Res :=
  match cx.tt.get t, evOT cx tm a with
  | some td, some (.sptr b off n i) => match td.agg, Nat.beq td.size 1 with
    | false, true => match cellsAt st.h b off n with
      | some cs => ranged st i n fun st => optv st (selV i cs) "load"
      | none => .stuck "load: no such cells"
    | _, _ => .stuck "load: not one cell"
  | some td, some (.wptr b off) => match winAt st.h st.pc b off td.size with
    | some cs => match td.agg with
      | true => okv st (.agg cs)
      | false => match cs with
        | [v] => okv st v
        | _ => .stuck "load"
    | none => .stuck "load: no such cells"
  | some td, some (.ptr b off) => match cellsAt st.h b off td.size with
    | some cs => match td.agg with
      | true => okv st (.agg cs)
      | false => match cs with
        | [v] => okv st v
        | _ => .stuck "load"
    | none => .stuck "load: no such cells"
  | _, _ => .stuck "load"

def oStoreT (cx : Cx) (tm : Tm) (st : St) (t : TypeId) (a x : Operand) : Res :=
  match cx.tt.get t, evOT cx tm a, evOT cx tm x with
  | some td, some (.sptr b off n i), some v => match Nat.beq v.cells.length td.size, Nat.beq td.size 1 with
    | true, true => match v.cells with
      | [u] => match cellsAt st.h b off n with
        | some cs => ranged st i n fun st => match putAt st.h b off (symPut i u 0 cs) with
          | some h => match u.one with
            | true => .ok (.skip, { st with h := h })
            | false => .stuck "store: size"
          | none => .stuck "store: no such cells"
        | none => .stuck "store: no such cells"
      | _ => .stuck "store: size"
    | _, _ => .stuck "store: size"
  | some td, some (.ptr b off), some v => match Nat.beq v.cells.length td.size with
    | true => match putAt st.h b off v.cells with
      | some h => .ok (.skip, { st with h := h })
      | none => .stuck "store: no such cells"
    | false => .stuck "store: size"
  | _, _, _ => .stuck "store"

def oNilCheckT (cx : Cx) (tm : Tm) (st : St) (x : Operand) : Res :=
  match evOT cx tm x with
  | some (.ptr b off) => okv st (.ptr b off)
  | some (.sptr b off n i) => okv st (.sptr b off n i)
  | some (.func (.func f) first cap) => okv st (.func (.func f) first cap)
  | some (.yield l) => okv st (.yield l)
  | some (.iface t v) => okv st (.iface t v)
  | some (.slice b off len cap) => okv st (.slice b off len cap)
  | _ => .stuck "nilCheck"

def oBinT (cx : Cx) (tm : Tm) (st : St) (op : BinOp) (t : TypeId) (x y : Operand) : Res :=
  match evOT cx tm x, evOT cx tm y with
  | some a, some b => match twoNil a b, isConst y with
    | true, true => nilBin cx st op t
    | _, _ => evBin cx st op t a b
  | _, _ => .stuck "binop operand"

def oUnT (cx : Cx) (tm : Tm) (st : St) (op : UnOp) (x : Operand) : Res :=
  match evOT cx tm x with
  | some a => evUn st op a
  | none => .stuck "unop"

def oConvertT (cx : Cx) (tm : Tm) (st : St) (src dst : TypeId) (x : Operand) : Res :=
  match evOT cx tm x with
  | some a => evConvert cx st src dst a
  | none => .stuck "convert"

def oIfaceT (cx : Cx) (tm : Tm) (st : St) (t : TypeId) (x : Operand) : Res :=
  match cx.tt.get t, evOT cx tm x with
  | some td, some v => match td.d with
    | .interface _ => .stuck "makeInterface"
    | _ => okv st (.iface t v)
  | _, _ => .stuck "makeInterface"

def oFuncT (cx : Cx) (tm : Tm) (st : St) (fn : Fn) (first captured : Array Operand) : Res :=
  match fn, evArgsT cx tm first.toList, evArgsT cx tm captured.toList with
  | .func f, some a, some b => okv st (.func (.func f) a b)
  | _, _, _ => .stuck "makeFunc"

def oMapT (cx : Cx) (tm : Tm) (st : St) (t : TypeId) (r : Option Operand) : Res :=
  match cx.tt.get t with
  | some td => match td.d with
    | .map _ _ => match r with
      | none => .ok (.val (.map st.n), newObj st (.map []))
      | some x => match evOT cx tm x with
        | some (.int _ _) => .ok (.val (.map st.n), newObj st (.map []))
        | _ => .stuck "makeMap"
    | _ => .stuck "makeMap"
  | none => .stuck "makeMap"

def oMakeSliceT (cx : Cx) (tm : Tm) (st : St) (t : TypeId) (l c : Operand) : Res :=
  match cx.tt.get t, (evOT cx tm l).bind litNat, (evOT cx tm c).bind litNat with
  | some td, some l, some c => match td.d with
    | .slice elem => match cx.tt.get elem with
      | some ed => match Nat.ble l c && Nat.ble (c * (ed.bytes + 1)) 1000000000 with
        | true => .ok (.val (.slice st.n 0 l (.known c)), newObj st (.cells (repeatL ed.zero c) elem none))
        | false => .stuck "makeSlice: long"
      | none => .stuck "makeSlice"
    | _ => .stuck "makeSlice"
  | _, _, _ => .stuck "makeSlice"

def evOptT (cx : Cx) (tm : Tm) : Option Operand → Option (Option V)
  | none => some none
  | some o => match evOT cx tm o with
    | some v => some (some v)
    | none => none

def oSliceT (cx : Cx) (tm : Tm) (st : St) (t : TypeId) (x : Operand) (lo hi mx : Option Operand) : Res :=
  match evOT cx tm x, evOptT cx tm lo, evOptT cx tm hi, evOptT cx tm mx with
  | some v, some lo, some hi, some mx => evSlice cx st t v lo hi mx
  | _, _, _, _ => .stuck "slice operand"

def oFieldAddrT (cx : Cx) (tm : Tm) (st : St) (t : TypeId) (x : Operand) (f : Nat) : Res :=
  match cx.tt.get t, evOT cx tm x with
  | some td, some (.ptr b off) => match td.d with
    | .struct fields => match nth fields.toList f with
      | some fd => match cx.tt.get fd.type with
        | some d => match Nat.beq d.size 0 with
          | true => .stuck "fieldAddr: no size"
          | false => okv st (.ptr b (off + fd.offset))
        | none => .stuck "fieldAddr"
      | none => .stuck "fieldAddr"
    | _ => .stuck "fieldAddr"
  | _, _ => .stuck "fieldAddr"

def oFieldT (cx : Cx) (tm : Tm) (st : St) (t : TypeId) (x : Operand) (f : Nat) : Res :=
  match cx.tt.get t, evOT cx tm x with
  | some td, some (.agg cs) => match td.d with
    | .struct fields => match nth fields.toList f with
      | some fd => optv st (partV cx.tt fd.type cs fd.offset) "field"
      | none => .stuck "field"
    | _ => .stuck "field"
  | _, _ => .stuck "field"

def oIndexAddrT (cx : Cx) (tm : Tm) (st : St) (t : TypeId) (x ix : Operand) : Res :=
  match cx.tt.get t, evOT cx tm x, evOT cx tm ix with
  | some td, some v, some (.int _ i) => match td.d, v with
    | .array len elem, .ptr b off => match cx.tt.get elem with
      | some ed => match openIx cx i ed with
        | true => ranged st i len fun st => okv st (.sptr b off len i)
        | false => index st i len fun st n => okv st (.ptr b (off + n * ed.size))
      | none => .stuck "indexAddr"
    | .slice elem, .slice b off len _ => match cx.tt.get elem with
      | some ed => match openIx cx i ed with
        | true => ranged st i len fun st => okv st (.sptr b off len i)
        | false => index st i len fun st n => okv st (.ptr b (off + n * ed.size))
      | none => .stuck "indexAddr"
    | .slice elem, .wslice b off len _ => match cx.tt.get elem, i with
      | some ed, .lit (.ofNat n) => split st (mkLt (.lit (.ofNat n)) len) fun st t => match t with
        | true => okv st (.wptr b (off + n * ed.size))
        | false => .stuck "index out of range"
      | _, _ => .stuck "indexAddr"
    | _, _ => .stuck "indexAddr"
  | _, _, _ => .stuck "indexAddr"

def oIndexT (cx : Cx) (tm : Tm) (st : St) (t : TypeId) (x ix : Operand) : Res :=
  match cx.tt.get t, evOT cx tm x, evOT cx tm ix with
  | some td, some v, some (.int _ i) => match td.d, v with
    | .array len elem, .agg cs => match cx.tt.get elem with
      | some ed => match openIx cx i ed with
        | true => match takeN len cs with
          | some l => ranged st i len fun st => optv st (selV i l) "index"
          | none => .stuck "index"
        | false => index st i len fun st n => optv st (partV cx.tt elem cs (n * ed.size)) "index"
      | none => .stuck "index"
    | .string, .str (.slit l) => index st i l.length fun st n => okv st (.int .u8 (.lit ((((nth l n).getD 0) % 256 : Nat) : Int)))
    | _, _ => .stuck "index"
  | _, _, _ => .stuck "index"

def oLookupT (cx : Cx) (tm : Tm) (st : St) (t : TypeId) (x ix : Operand) (ok : Bool) : Res :=
  match evOT cx tm x, evOT cx tm ix with
  | some x, some ix => evLookup cx st t x ix ok
  | _, _ => .stuck "lookup"

def oUpdateT (cx : Cx) (tm : Tm) (st : St) (t : TypeId) (m k x : Operand) : Res :=
  match evOT cx tm m, evOT cx tm k, evOT cx tm x with
  | some m, some k, some x => evMapUpdate cx st t m k x
  | _, _, _ => .stuck "update"

def oAssertT (cx : Cx) (tm : Tm) (st : St) (x : Operand) (asserted : TypeId) (ok : Bool) : Res :=
  match cx.tt.get asserted, evOT cx tm x with
  | some td, some v => match td.d, v with
    | .interface _, _ => .stuck "typeAssert"
    | _, .iface t v => match Nat.beq t asserted, ok with
      | true, true => okv st (.tuple [v, .bool (.lit 1)])
      | true, false => okv st v
      | false, true => match zeroV td with
        | some z => okv st (.tuple [z, .bool (.lit 0)])
        | none => .stuck "typeAssert"
      | false, false => .stuck "typeAssert fails"
    | _, .niliface => match ok with
      | true => match zeroV td with
        | some z => okv st (.tuple [z, .bool (.lit 0)])
        | none => .stuck "typeAssert"
      | false => .stuck "typeAssert fails"
    | _, _ => .stuck "typeAssert"
  | _, _ => .stuck "typeAssert"

def oExtractT (cx : Cx) (tm : Tm) (st : St) (x : Operand) (i : Nat) : Res :=
  match evOT cx tm x with
  | some (.tuple l) => optv st (nth l i) "extract"
  | _ => .stuck "extract"

def oCallT (cx : Cx) (tm : Tm) (st : St) (c : Call) : Res :=
  match c.callee with
  | .value f => match evOT cx tm f, evArgsT cx tm c.args.toList with
    | some (.func (.func g) first cap), some args => match cx.ft.get g with
      | some _ => .ok (.enter g (first ++ args ++ cap), st)
      | none => .stuck "call: unknown function"
    | some (.yield l), some args => .ok (.round l args, st)
    | _, _ => .stuck "call"
  | .builtin b => match evArgsT cx tm c.args.toList with
    | some args => evBuiltin cx st b c.argTypes.toList args
    | none => .stuck "builtin"
  | .invoke _ _ => .stuck "invoke"

def oDeferT (cx : Cx) (tm : Tm) (st : St) (c : Call) : Res :=
  match c.callee with
  | .value f => match evOT cx tm f, evArgsT cx tm c.args.toList with
    | some (.func (.func g) first cap), some args => .ok (.defer (.fn (.func g) cap (first ++ args)), st)
    | _, _ => .stuck "defer"
  | _ => .stuck "defer"

def oPanicT (cx : Cx) (tm : Tm) (st : St) (x : Operand) : Res :=
  match evOT cx tm x with
  | some (.iface t v) => .ok (.panic (.iface t v), st)
  | _ => .stuck "panic"

def oRangeT (cx : Cx) (tm : Tm) (st : St) (t : TypeId) (x : Operand) : Res :=
  match cx.tt.get t, evOT cx tm x with
  | some td, some v => match td.d, v with
    | .map _ _, .nilmap => .ok (.val (.ptr st.n 0), newObj st (.iter none))
    | .map _ _, .map b => match st.h.get b with
      | some (.map _) => .ok (.val (.ptr st.n 0), newObj st (.iter (some b)))
      | _ => .stuck "range"
    | _, _ => .stuck "range"
  | _, _ => .stuck "range"

def oNextT (cx : Cx) (tm : Tm) (st : St) (x : Operand) (isString : Bool) : Res :=
  match evOT cx tm x, isString with
  | some (.ptr r 0), false => match st.h.get r with
    | some (.iter none) => okv st (.tuple [.bool (.lit 0)])
    | some (.iter (some b)) => match st.h.get b with
      | some (.map []) => okv st (.tuple [.bool (.lit 0)])
      | _ => .stuck "next: a map with entries"
    | _ => .stuck "next"
  | _, _ => .stuck "next"

def opF (op : Op) : Cx → Tm → St → Res := Op.casesOn (motive := fun _ => Cx → Tm → St → Res) op
    (fun x cx tm st => optv st (evOT cx tm x) "move")
    (fun x cx tm st => optv st (evOT cx tm x) "assign")
    (fun c a b cx tm st => oPickT cx tm st c a b)
    (fun t cx tm st => oAlloc cx st t)
    (fun t x cx tm st => oBoxT cx tm st t x)
    (fun t parts cx tm st => oBuildT cx tm st t parts)
    (fun t len parts cx tm st => oBuildSliceT cx tm st t len parts)
    (fun t m k x cx tm st => oUpdateT cx tm st t m k x)
    (fun t a cx tm st => oLoadT cx tm st t a)
    (fun t a x cx tm st => oStoreT cx tm st t a x)
    (fun _ _ _ _ => .stuck "operation")
    (fun _ _ _ _ => .stuck "operation")
    (fun x cx tm st => oNilCheckT cx tm st x)
    (fun op t x y _ cx tm st => oBinT cx tm st op t x y)
    (fun op _ x cx tm st => oUnT cx tm st op x)
    (fun src dst x cx tm st => oConvertT cx tm st src dst x)
    (fun _ _ _ _ _ => .stuck "operation")
    (fun t x cx tm st => oIfaceT cx tm st t x)
    (fun fn first captured cx tm st => oFuncT cx tm st fn first captured)
    (fun t r cx tm st => oMapT cx tm st t r)
    (fun _ _ _ _ _ => .stuck "operation")
    (fun t l c cx tm st => oMakeSliceT cx tm st t l c)
    (fun t x lo hi mx cx tm st => oSliceT cx tm st t x lo hi mx)
    (fun t x f cx tm st => oFieldAddrT cx tm st t x f)
    (fun t x f cx tm st => oFieldT cx tm st t x f)
    (fun t x ix cx tm st => oIndexAddrT cx tm st t x ix)
    (fun t x ix cx tm st => oIndexT cx tm st t x ix)
    (fun t x ix ok cx tm st => oLookupT cx tm st t x ix ok)
    (fun t m k x cx tm st => oUpdateT cx tm st t m k x)
    (fun _ _ _ _ _ _ => .stuck "operation")
    (fun _ _ _ _ _ _ _ => .stuck "operation")
    (fun t x cx tm st => oRangeT cx tm st t x)
    (fun x s cx tm st => oNextT cx tm st x s)
    (fun _ _ _ _ => .stuck "operation")
    (fun x _ asserted ok cx tm st => oAssertT cx tm st x asserted ok)
    (fun x i cx tm st => oExtractT cx tm st x i)
    (fun c cx tm st => oCallT cx tm st c)
    (fun _ _ _ _ => .stuck "operation")
    (fun c cx tm st => oDeferT cx tm st c)
    (fun x cx tm st => oPanicT cx tm st x)
    (fun _ _ _ _ _ => .stuck "operation")
    (fun _ _ _ _ _ _ => .stuck "operation")
    (fun _ _ _ _ _ => .stuck "operation")
def evOp0T (cx : Cx) (tm : Tm) (st : St) (o : Oper) : Res := opF o.op cx tm st

def evOpT (cx : Cx) (tm : Tm) (st : St) (o : Oper) : Res := (evOp0T cx tm st o).bind fun (r, st) => resolveV r st

structure FrT where
  tm : Tm
  df : List SDef

abbrev COutT := R (Ex × FrT × St)

structure SelfT where
  code : Option Nat → Code → FrT → St → COutT
  loop : Option Nat → Code → FrT → St → COutT
  call : FuncId → List V → St → EOut

def roundEndT (l : Nat) (e : Ex) (fr : FrT) (st : St) : EOut :=
  match fr.df with
  | [] =>
    match st.h.get l with
    | some (.loop _ _ tmps params assign body defers) =>
      match e with
      | .normal => .ok (.ret (.bool (.lit 1)), { st with h := st.h.set l (.loop .ready none tmps params assign body defers) })
      | .ret => .ok (.ret (.bool (.lit 0)), { st with h := st.h.set l (.loop .done (some .ret) tmps params assign body defers) })
      | .exit id => .ok (.ret (.bool (.lit 0)), { st with h := st.h.set l (.loop .done (some (.exit id)) tmps params assign body defers) })
      | .panic _ => .stuck "round: panic"
      | .die _ => .stuck "round: panic"
    | _ => .stuck "round: no loop"
  | _ => .stuck "round: defers"

def roundBodyT (self : SelfT) (l : Nat) (body : Code) (e : Ex) (fr : FrT) (st : St) : EOut :=
  match e with
  | .normal =>
    match st.h.get l with
    | some (.loop state pending tmps params assign body' defers) =>
      match state with
      | .ready => (self.code (some l) body fr { st with h := st.h.set l (.loop .busy pending tmps params assign body' defers) }).bind fun (e, fr, st) => roundEndT l e fr st
      | _ => .stuck "round: not ready"
    | _ => .stuck "round: no loop"
  | _ => .stuck "round: assign"

def evRoundT (self : SelfT) (l : Nat) (args : List V) (st : St) : EOut :=
  match st.h.get l with
  | some (.loop _ _ tmps params assign body _) =>
    match Nat.beq params.toList.length args.length with
    | true => (self.code (some l) assign { tm := Tm.of (setZip tmps params.toList args), df := [] } st).bind fun (e, fr, st) => roundBodyT self l body e fr st
    | false => .stuck "round: arguments"
  | _ => .stuck "round: no loop"

def wantedVT (st : St) (ops : List Oper) (tm : Tm) (o : Oper) (k : St → Bool → R (Ex × FrT × St)) : COutT :=
  match o.guard with
  | none => k st true
  | some (j, want) =>
    match (nth ops j).bind (·.dst) with
    | none => k st false
    | some d => match tm.get d with
      | some (.bool x) => split st x fun st b => k st (b == want)
      | some (.ite _ _ _) => .stuck "guard"
      | _ => k st false

def forceFrT {β : Type} (fr : FrT) (k : FrT → β) : β := match fr with
  | ⟨tm, df⟩ => match df with
    | [] => k ⟨tm, []⟩
    | d :: l => k ⟨tm, d :: l⟩

/-! A plain region: what goes on is handed on by name. -/
abbrev RegK := Tm → List SDef → St → COutT
def goR (df : List SDef) (k : RegK) (st : St) (tm : Tm) : COutT := k tm df st
def putR (tm : Tm) (df : List SDef) (dst : Option Tmp) (k : RegK) (st : St) (v : V) : COutT := putKT tm dst v (goR df k st)
def valR (tm : Tm) (df : List SDef) (dst : Option Tmp) (k : RegK) (v : V) (st : St) : COutT := match v.isIteR with
  | true => splitV 100 st v fun st v => forceVT v (putR tm df dst k st)
  | false => forceVT v (putR tm df dst k st)
def callR (tm : Tm) (df : List SDef) (dst : Option Tmp) (k : RegK) (x : En × St) : COutT := match x with
  | (e, st) => match e with
    | .ret v => valR tm df dst k v st
    | .panic v => .ok (.panic v, ⟨tm, df⟩, st)
def roundR (tm : Tm) (df : List SDef) (dst : Option Tmp) (k : RegK) (x : En × St) : COutT := match x with
  | (e, st) => match e with
    | .ret v => putR tm df dst k st v
    | .panic _ => .stuck "panic in a round"
def deferR (rnd : Option Nat) (tm : Tm) (df : List SDef) (dst : Option Tmp) (k : RegK) (d : SDef) (st : St) : COutT := match rnd with
  | none => putR tm (d :: df) dst k st .undef
  | some _ => .stuck "defer in a round"
def operR (self : SelfT) (rnd : Option Nat) (tm : Tm) (df : List SDef) (dst : Option Tmp) (k : RegK) (x : OR × St) : COutT := match x with
  | (r, st) => match r with
    | .val v => valR tm df dst k v st
    | .skip => putR tm df dst k st .undef
    | .enter f args => (self.call f args st).bind (callR tm df dst k)
    | .round l args => (evRoundT self l args st).bind (roundR tm df dst k)
    | .panic v => .ok (.panic v, ⟨tm, df⟩, st)
    | .defer d => deferR rnd tm df dst k d st
def operG (cx : Cx) (self : SelfT) (rnd : Option Nat) (o : Oper) (k : RegK) (tm : Tm) (df : List SDef) (st : St) : COutT := (evOp0T cx tm st o).bind (operR self rnd tm df o.dst k)
def guardG (cx : Cx) (self : SelfT) (rnd : Option Nat) (o : Oper) (k : RegK) (tm : Tm) (df : List SDef) (want : Bool) (st : St) (b : Bool) : COutT := match b == want with
  | true => operG cx self rnd o k tm df st
  | false => putR tm df o.dst k st .undef
def guardR (cx : Cx) (self : SelfT) (rnd : Option Nat) (ops : List Oper) (o : Oper) (k : RegK) (tm : Tm) (df : List SDef) (st : St) : COutT := match o.guard with
  | none => operG cx self rnd o k tm df st
  | some (j, want) => match (nth ops j).bind (·.dst) with
    | none => putR tm df o.dst k st .undef
    | some d => match tm.get d with
      | some v => match v.fv with
        | .bool x => split st x (guardG cx self rnd o k tm df want)
        | .int _ _ => putR tm df o.dst k st .undef
        | .other => match v.isIteR with
          | true => .stuck "guard"
          | false => putR tm df o.dst k st .undef
      | none => putR tm df o.dst k st .undef
def evOpsR (cx : Cx) (self : SelfT) (rnd : Option Nat) (ops l : List Oper) : RegK :=
  List.rec (motive := fun _ => RegK) (fun tm df st => .ok (.normal, ⟨tm, df⟩, st)) (fun o _ ih => guardR cx self rnd ops o ih) l
def evOpsT (cx : Cx) (self : SelfT) (rnd : Option Nat) (ops l : List Oper) (fr : FrT) (st : St) : COutT := match fr with
  | ⟨tm, df⟩ => evOpsR cx self rnd ops l tm df st

structure RdT where
  i : Nat
  tm : Tm
  o : Oper
  v : V

structure RST where
  fr : FrT
  st : St
  sm : List Sm
  mm : Option Mk
  bigs : List Nat
  reads : List RdT
  /-- (For proofs: the last call has ended by a panic.) -/
  lost : Bool := false

def sameReadT (cx : Cx) (st : St) (r : RdT) : Bool :=
  match evOpT cx r.tm st r.o with
  | .ok (.val u, _) => u.beq r.v
  | _ => false

def readsStayT (cx : Cx) (st : St) (bef : Nat) : List RdT → Bool
  | [] => true
  | r :: l => (Nat.testBit bef r.i || sameReadT cx st r) && readsStayT cx st bef l

def evBigT (cx : Cx) (self : SelfT) (fr : FrT) (st : St) (o : Oper) (k : FrT → St → COutT) (kp : V → St → COutT) : COutT :=
  (evOpT cx fr.tm st o).bind fun (r, st) =>
    match r with
    | .val v => putKT fr.tm o.dst v fun tm => k { fr with tm := tm } st
    | .skip => putKT fr.tm o.dst .undef fun tm => k { fr with tm := tm } st
    | .enter f args => (self.call f args st).bind fun (e, st) =>
      match e with
      | .ret v => putKT fr.tm o.dst v fun tm => k { fr with tm := tm } st
      | .panic v => kp v st
    | .round l args => (evRoundT self l args st).bind fun (e, st) =>
      match e with
      | .ret v => putKT fr.tm o.dst v fun tm => k { fr with tm := tm } st
      | .panic _ => .stuck "panic in a round"
    | .panic _ => .stuck "a panic in a drawn region"
    | .defer _ => .stuck "a defer in a drawn region"

def drawStepT (cx : Cx) (self : SelfT) (i : Nat) (o : Oper) (b : Nat) (rs : RST) (st : St) (dep : Bool) (k : RST → COutT) : COutT :=
  match stepKind o.op (evOT cx rs.fr.tm) rs.sm with
  | 0 => (evOpT cx rs.fr.tm { st with h := T.nil } o).bind fun (r, st') =>
    match r with
    | .val v => if Nat.ble st.n st'.n then putKT rs.fr.tm o.dst v fun tm => k { rs with st := { st' with h := st.h }, fr := { rs.fr with tm := tm } } else .stuck "draw: names"
    | _ => .stuck "draw: value expected"
  | 1 => (evOpT cx rs.fr.tm { st with h := T.nil } o).bind fun (r, st') =>
    match r with
    | .val v => if Nat.blt st.n st'.n then putKT rs.fr.tm o.dst v fun tm => k { rs with st := { st' with h := st.h }, sm := newSm i st'.h st.n ++ rs.sm, fr := { rs.fr with tm := tm } } else .stuck "draw: names"
    | _ => .stuck "draw: value expected"
  | 5 => (evOpT cx rs.fr.tm { st with h := T.nil } o).bind fun (r, st') =>
    match r with
    | .val v => match rs.mm, st'.h.get st.n with
      | none, some (.map []) => if Nat.blt st.n st'.n then putKT rs.fr.tm o.dst v fun tm => k { rs with st := { st' with h := st.h }, mm := some { owner := i, id := st.n, ins := [] }, fr := { rs.fr with tm := tm } } else .stuck "draw: names"
      | _, _ => .stuck "draw: map"
    | _ => .stuck "draw: value expected"
  | 2 => (evOpT cx rs.fr.tm st o).bind fun (r, st') =>
    match r with
    | .val v => putKT rs.fr.tm o.dst v fun tm => k { rs with st := st', reads := { i := i, tm := rs.fr.tm, o := o, v := v } :: rs.reads, fr := { rs.fr with tm := tm } }
    | _ => .stuck "draw: value expected"
  | 4 => match o.op with
    | .insert t m key x => match evOT cx rs.fr.tm m, evOT cx rs.fr.tm key, evOT cx rs.fr.tm x, rs.mm with
      | some (.map mb), some kv, some xv, some mk => match Nat.beq mb mk.id, Nat.testBit b mk.owner, keyKind cx t kv, keyNew kv mk.ins with
        | true, true, true, true => putKT rs.fr.tm o.dst .undef fun tm => k { rs with st := st, mm := some { mk with ins := (i, kv, xv) :: mk.ins }, fr := { rs.fr with tm := tm } }
        | _, _, _, _ => .stuck "draw: insert"
      | _, _, _, _ => .stuck "draw: insert"
    | _ => .stuck "draw: insert"
  | _ =>
    evBigT cx self rs.fr { st with h := withSm b rs.sm st.h } o (fun fr st' =>
      if Nat.ble st.n st'.n && readsStayT cx st' b rs.reads then
        k { fr := fr, st := st', sm := restSm b rs.sm, mm := rs.mm, bigs := i :: rs.bigs, reads := rs.reads }
      else .stuck "draw: a reader sees other things") fun v st' => match rs.fr.df with
        | [] => match dep, readsStayT cx { st with h := withSm b rs.sm st.h } b rs.reads with
          | true, true => .ok (.die v, rs.fr, st')
          | _, _ => .stuck "a panic in a drawn region"
        | _ => .stuck "a panic in a drawn region"

def evDrawT (cx : Cx) (self : SelfT) (ops : List Oper) (bs : List Nat) : List Nat → Nat → RST → COutT
  | [], done, rs => match Nat.beq (done + 1) (2 ^ ops.length) with
    | true => .ok (.normal, rs.fr, { rs.st with h := allMk rs.mm (allSm rs.sm rs.st.h) })
    | false => .stuck "draw: not all"
  | i :: rest, done, rs => match nth ops i, nth bs i with
    | some o, some b => match within b done && allIn b rs.bigs && !Nat.testBit done i with
      | true => wantedVT rs.st ops rs.fr.tm o fun st w =>
        match w with
        | false => putKT rs.fr.tm o.dst .undef fun tm => evDrawT cx self ops bs rest (done ||| 2 ^ i) { rs with st := st, fr := { rs.fr with tm := tm } }
        | true => drawStepT cx self i o b rs st (allDep bs i rest && Nat.beq (doneAt rest (done ||| 2 ^ i) + 1) (2 ^ ops.length)) (evDrawT cx self ops bs rest (done ||| 2 ^ i))
      | false => .stuck "draw: two calls"
    | _, _ => .stuck "draw"

def drawnT (cx : Cx) (self : SelfT) (ops : List Oper) (bs : List Nat) (fr : FrT) (st : St) : COutT :=
  evDrawT cx self ops bs (orderOf ops bs) 0 { fr := fr, st := st, sm := [], mm := none, bigs := [], reads := [] }

def resultVT (cx : Cx) (tm : Tm) (h : H) : ResultVar → Option V
  | .tmp t => match tm.get t with
    | some v => some v
    | none => some .undef
  | .cell a t => match cx.tt.get t, tm.get a with
    | some td, some (.ptr b off) => match cellsAt h b off td.size with
      | some cs => if td.agg then some (.agg cs) else (match cs with | [v] => some v | _ => none)
      | none => none
    | _, _ => none

def resultsVT (cx : Cx) (tm : Tm) (h : H) : List ResultVar → Option (List V)
  | [] => some []
  | r :: rs => match resultVT cx tm h r, resultsVT cx tm h rs with
    | some v, some vs => some (v :: vs)
    | _, _ => none

def resultOfT (cx : Cx) (fn : Func) (tm : Tm) (h : H) : Option V :=
  match resultsVT cx tm h fn.results.toList with
  | some [v] => some v
  | some vs => some (.tuple vs)
  | none => none

def leaveT (cx : Cx) (fn : Func) (tm : Tm) : Option V → List SDef → St → EOut
  | e, [], st => match e with
    | none => match resultOfT cx fn tm st.h with
      | some v => .ok (.ret v, st)
      | none => .stuck "results"
    | some p => .ok (.panic p, st)
  | e, .mark b :: ds, st => match st.h.get b with
    | some (.deferred (some [])) => leaveT cx fn tm e ds { st with h := st.h.set b (.deferred none) }
    | _ => .stuck "mark"
  | e, .fn f cap args :: ds, st => match f with
    | .func g => match cx.dm g with
      | some s => (s (args ++ cap) st e).bind fun (e', st') => leaveT cx fn tm e' ds st'
      | none => .stuck "deferred call"
    | _ => .stuck "deferred call"

def evCallT (cx : Cx) (self : SelfT) (f : FuncId) (args : List V) (st : St) : EOut :=
  match cx.sm f with
  | some s => (s args st).bind fun (v, st) => .ok (.ret v, st)
  | none =>
    match cx.ft.get f with
    | none => .stuck "no function"
    | some fn =>
      match fn.body with
      | none => .stuck "no body"
      | some body =>
        (self.code none body { tm := Tm.start fn.ntmps args, df := [] } st).bind fun (e, fr, st) =>
          match e with
          | .normal => leaveT cx fn fr.tm none fr.df st
          | .ret => leaveT cx fn fr.tm none fr.df st
          | .panic v => leaveT cx fn fr.tm (some v) fr.df st
          | .die v => match fr.df with
            | [] => .ok (.panic v, st)
            | _ => .stuck "die"
          | .exit _ => .stuck "exit"

def rangeGoT (self : SelfT) (rnd : Option Nat) (g : FuncId) (first cap : List V) (params : Array Tmp) (assign body : Code) (tm : Tm) (df : List SDef) (D : Nat) (st : St) : COutT :=
  (self.call g (first ++ .yield st.n :: cap) (newObj st (.loop .ready none tm.l params assign body D))).bind fun (e, st1) =>
    match e with
    | .panic _ => .stuck "panic out of a range"
    | .ret _ =>
      match st1.h.get st.n with
      | some (.loop state pending tmps params assign body D) =>
        match state with
        | .busy => .stuck "loop busy"
        | _ =>
          match pending with
          | none => .ok (.normal, { tm := tm, df := df }, { st1 with h := st1.h.set st.n (.loop .exhausted none tmps params assign body D) })
          | some c => self.code rnd c { tm := tm, df := df } { st1 with h := st1.h.set st.n (.loop .exhausted (some c) tmps params assign body D) }
      | _ => .stuck "loop"

def evRangeT (cx : Cx) (self : SelfT) (rnd : Option Nat) (f : Operand) (params : Array Tmp) (assign body : Code) (fr : FrT) (st : St) : COutT :=
  match evOT cx fr.tm f with
  | some (.func (.func g) first cap) =>
    match cx.ft.get g with
    | none => .stuck "range: unknown function"
    | some _ =>
      match rnd with
      | some l => match st.h.get l with
        | some (.loop _ _ _ _ _ _ D) => rangeGoT self rnd g first cap params assign body fr.tm fr.df D st
        | _ => .stuck "loop"
      | none => rangeGoT self rnd g first cap params assign body fr.tm (.mark st.n :: fr.df) st.n (newObj st (.deferred (some [])))
  | _ => .stuck "range over what?"

def codeF (c : Code) : Cx → SelfT → Option Nat → FrT → St → COutT := Code.casesOn (motive := fun _ => Cx → SelfT → Option Nat → FrT → St → COutT) c
    (fun cx self rnd fr st => .ok (.normal, fr, st))
    (fun _ ops draw cx self rnd fr st =>     match draw with
    | false => evOpsT cx self rnd ops.toList ops.toList fr st
    | true => if drawOk ops.toList then drawnT cx self ops.toList (befs ops.toList []) fr st else .stuck "draw: temporaries")
    (fun a b cx self rnd fr st => (self.code rnd a fr st).bind fun (e, fr, st) =>
    match e with
    | .normal => self.code rnd b fr st
    | .exit id => .ok (.exit id, fr, st)
    | .ret => .ok (.ret, fr, st)
    | .panic v => .ok (.panic v, fr, st)
    | .die v => .ok (.die v, fr, st))
    (fun c x y cx self rnd fr st => match evOT cx fr.tm c with
    | some (.bool b) => split st b fun st t => match t with
      | true => self.code rnd x fr st
      | false => self.code rnd y fr st
    | _ => .stuck "cond")
    (fun id body cx self rnd fr st => (self.code rnd body fr st).bind fun (e, fr, st) =>
    match e with
    | .exit i => match Nat.beq i id with
      | true => .ok (.normal, fr, st)
      | false => .ok (.exit i, fr, st)
    | .normal => .ok (.normal, fr, st)
    | .ret => .ok (.ret, fr, st)
    | .panic v => .ok (.panic v, fr, st)
    | .die v => .ok (.die v, fr, st))
    (fun body cx self rnd fr st => self.loop rnd body fr st)
    (fun f params assign body cx self rnd fr st => evRangeT cx self rnd f params assign body fr st)
    (fun id cx self rnd fr st => .ok (.exit id, fr, st))
    (fun body cx self rnd fr st => self.code rnd body fr st)
    (fun _ cx self rnd fr st => .ok (.normal, fr, st))
    (fun _ _ _ _ _ _ => .stuck "code")
    (fun cx self rnd fr st => .ok (.ret, fr, st))
    (fun _ _ _ _ _ _ => .stuck "code")
def evCodeT (cx : Cx) (self : SelfT) (rnd : Option Nat) (c : Code) (fr : FrT) (st : St) : COutT := codeF c cx self rnd fr st

def evLoopT (self : SelfT) (rnd : Option Nat) (body : Code) (fr : FrT) (st : St) : COutT :=
  (self.code rnd body fr st).bind fun (e, fr, st) =>
    match e with
    | .normal => self.loop rnd body fr st
    | .exit id => .ok (.exit id, fr, st)
    | .ret => .ok (.ret, fr, st)
    | .panic v => .ok (.panic v, fr, st)
    | .die v => .ok (.die v, fr, st)

def joinC1T (pc : PC) (c : X) (a b : Ex × FrT × St) : Option (Ex × FrT × St) :=
  match a, b with
  | (e, fr, st), (e', fr', st') => match exSame e e', sdefsBeq fr.df fr'.df with
    | true, true => match joinTm c fr.tm fr'.tm with
      | some tm => match joinSt pc c st st' with
        | some st => some (e, { tm := tm, df := fr.df }, st)
        | none => none
      | none => none
    | _, _ => none

def openTmpsT (st : St) (tm : Tm) : List Nat → (St → Tm → COutT) → COutT
  | [], k => k st tm
  | t :: ts, k => match tm.get t with
    | some v => match v.isIte with
      | true => splitV 100 st v fun st v => openTmpsT st ((tm.set t v)) ts k
      | false => openTmpsT st tm ts k
    | none => openTmpsT st tm ts k

def evOpenT (cx : Cx) (self : SelfT) (rnd : Option Nat) (c : Code) (fr : FrT) (st : St) : COutT := match topTmps c with
  | [] => evCodeT cx self rnd c fr st
  | t :: ts => openTmpsT st fr.tm (t :: ts) fun st tm => evCodeT cx self rnd c { tm := tm, df := fr.df } st

def evCodeMT (cx : Cx) (self : SelfT) (rnd : Option Nat) (c : Code) (fr : FrT) (st : St) : COutT :=
  forceFrT fr fun fr => forceSt st fun st =>
  match cx.mg with
  | false => evCodeT cx self rnd c fr st
  | true => match joins c with
    | true => mergeR joinC1T st.pc (evOpenT cx self rnd c fr st)
    | false => evOpenT cx self rnd c fr st

def evCallMT (cx : Cx) (self : SelfT) (f : FuncId) (args : List V) (st : St) : EOut :=
  match cx.mg with
  | false => evCallT cx self f args st
  | true => mergeR joinE1 st.pc (evCallT cx self f args st)

def evT (cx : Cx) : Nat → SelfT
  | 0 => { code := fun _ _ _ _ => .stuck "fuel", loop := fun _ _ _ _ => .stuck "fuel", call := fun _ _ _ => .stuck "fuel" }
  | n + 1 => { code := evCodeMT cx (evT cx n), loop := evLoopT (evT cx n), call := evCallMT cx (evT cx n) }
end
end Go.Proofs.YtennjdjcjjjmiaaGreatDoor

namespace Go.Proofs.YtennjdjcjjjmiaaGreatDoor
open Go

/-! ### Frames -/
section
variable {α β : Type}
theorem T.look_eq : ∀ (t : T α) (bs : List Bool), t.look bs = t.getB bs := by
  intro t
  induction t with
  | nil => intro bs; cases bs <;> rfl
  | node l v r il ir =>
    intro bs
    cases bs with
    | nil => rfl
    | cons b bs => cases b with
      | true => exact ir bs
      | false => exact il bs
theorem T.newK_eq : ∀ (bs : List Bool) (v : α) (k : T α → β), T.newK bs v k = k (T.setB bs .nil (some v))
  | [], v, k => rfl
  | b :: bs, v, k => by
    cases b with
    | true => exact T.newK_eq bs v fun x => k (.node .nil none x)
    | false => exact T.newK_eq bs v fun x => k (.node x none .nil)
theorem T.putK_eq : ∀ (t : T α) (bs : List Bool) (v : α) (k : T α → β), t.putK bs v k = k (T.setB bs t (some v)) := by
  intro t
  induction t with
  | nil => intro bs v k; exact T.newK_eq bs v k
  | node l u r il ir =>
    intro bs v k
    cases bs with
    | nil => rfl
    | cons b bs => cases b with
      | true => exact ir bs v fun x => k (.node l u x)
      | false => exact il bs v fun x => k (.node x u r)
end
theorem Tm.val_eq (m : Tm) (i : Nat) : m.val i = (m.t.get i).getD .undef := by
  unfold Tm.val
  rw [T.look_eq]
  show _ = (m.t.getB (bitsOf i)).getD .undef
  cases m.t.getB (bitsOf i) <;> rfl
theorem Tm.l_get (m : Tm) (i : Nat) : m.l[i]? = if i < m.n then some (m.val i) else none := by
  unfold Tm.l
  rw [List.getElem?_map]
  by_cases h : i < m.n
  · rw [if_pos h, List.getElem?_range h]; rfl
  · rw [if_neg h, List.getElem?_eq_none (by simpa using h)]; rfl
theorem Tm.get_eq (m : Tm) (i : Nat) : m.get i = nth m.l i := by
  rw [nth_eq, Tm.l_get]
  unfold Tm.get
  cases h : Nat.blt i m.n with
  | true =>
    have h2 : i < m.n := Nat.le_of_ble_eq_true h
    rw [if_pos h2]
  | false =>
    have h2 : ¬ i < m.n := fun h2 => by rw [show Nat.blt i m.n = true from Nat.ble_eq_true_of_le h2] at h; cases h
    rw [if_neg h2]
theorem Tm.setK_eq {β : Type} (m : Tm) (i : Nat) (v : V) (k : Tm → β) : m.setK i v k = k (m.set i v) := by
  unfold Tm.set Tm.setK
  simp only [T.putK_eq]
theorem Tm.set_l (m : Tm) (i : Nat) (v : V) : (m.set i v).l = setN m.l i v := by
  have e : m.set i v = ⟨m.n, m.t.set i v⟩ := by
    unfold Tm.set Tm.setK
    simp only [T.putK_eq]
    rfl
  rw [setN_eq, e]
  refine List.ext_getElem? fun j => ?_
  rw [Tm.l_get, List.getElem?_set, Tm.l_get]
  have hl : m.l.length = m.n := by simp [Tm.l]
  by_cases hij : i = j
  · subst hij
    simp only [Tm.val_eq, T.get_set_same, if_true, hl]
    by_cases h : i < m.n <;> simp [h]
  · simp only [Tm.val_eq, T.get_set_other _ _ hij, if_neg hij]
theorem Tm.putD_l (m : Tm) (d : Option Tmp) (v : V) : (Tm.putD m d v).l = _root_.Go.Proofs.YtennjdjcjjjmiaaGreatDoor.putD m.l d v := by
  cases d with
  | none => rfl
  | some d => exact Tm.set_l m d v
theorem putKT_eq {β : Type} (m : Tm) (d : Option Tmp) (v : V) (k : Tm → β) : putKT m d v k = k (m.putD d v) := by
  cases d with
  | none => rfl
  | some d => exact Tm.setK_eq m d v k
def fillG : Nat → List V → T V → T V
  | _, [], t => t
  | i, v :: l, t => fillG (i + 1) l (t.set i v)
theorem fillT_eq {β : Type} : ∀ (i : Nat) (l : List V) (t : T V) (k : T V → β), fillT i l t k = k (fillG i l t)
  | _, [], t, k => rfl
  | i, v :: l, t, k => by
    unfold fillT fillG
    rw [forceV_eq, T.putK_eq]
    exact fillT_eq (i + 1) l _ k
theorem fillG_get : ∀ (l : List V) (i : Nat) (t : T V) (j : Nat), (fillG i l t).get j = if i ≤ j ∧ j - i < l.length then l[j - i]? else t.get j
  | [], i, t, j => by simp [fillG]
  | v :: l, i, t, j => by
    unfold fillG
    rw [fillG_get l (i + 1)]
    by_cases h1 : i + 1 ≤ j ∧ j - (i + 1) < l.length
    · rw [if_pos h1, if_pos ⟨by omega, by simp; omega⟩, show j - i = (j - (i + 1)) + 1 by omega, List.getElem?_cons_succ]
    · rw [if_neg h1]
      by_cases h2 : i = j
      · subst h2
        rw [T.get_set_same, if_pos ⟨by omega, by simp⟩, Nat.sub_self]
        rfl
      · rw [T.get_set_other _ _ h2, if_neg]
        rintro ⟨h3, h4⟩
        simp at h4
        exact h1 ⟨by omega, by omega⟩
theorem of_l (l : List V) : (Tm.of l).l = l := by
  unfold Tm.of
  rw [fillT_eq]
  refine List.ext_getElem? fun j => ?_
  rw [Tm.l_get, Tm.val_eq]
  simp only [fillG_get]
  by_cases h : j < l.length
  · rw [if_pos h, if_pos ⟨by omega, by simpa using h⟩, Nat.sub_zero, List.getElem?_eq_getElem h]
    rfl
  · rw [if_neg h, List.getElem?_eq_none (by omega)]
theorem start_l (n : Nat) (args : List V) : (Tm.start n args).l = args ++ List.replicate (n - args.length) .undef := by
  unfold Tm.start
  rw [fillT_eq]
  refine List.ext_getElem? fun j => ?_
  rw [Tm.l_get, Tm.val_eq]
  simp only [fillG_get]
  by_cases h : j < args.length
  · rw [if_pos (by omega), if_pos ⟨by omega, by simpa using h⟩, Nat.sub_zero, List.getElem?_eq_getElem h, List.getElem?_append_left h, List.getElem?_eq_getElem h]
    rfl
  · have h3 : ¬ (0 ≤ j ∧ j - 0 < args.length) := fun hh => h (by simpa using hh.2)
    rw [List.getElem?_append_right (by omega), List.getElem?_replicate]
    simp only [h3, if_false, T.get_nil]
    by_cases h2 : j < args.length + (n - args.length)
    · rw [if_pos h2, if_pos (by omega)]; rfl
    · rw [if_neg h2, if_neg (by omega)]
/-! ### Ways that are joined -/
theorem joinOV_eq {β : Type} (c : X) (a b : Option V) (k : Option V → β) : ∃ r, joinOV c a b k = k r ∧ orU r = joinV c (orU a) (orU b) := by
  cases a with
  | none => cases b with
    | none => exact ⟨none, rfl, rfl⟩
    | some b => exact ⟨some (joinV c .undef b), forceV_eq (joinV c .undef b) fun v => k (some v), rfl⟩
  | some a => exact ⟨some (joinV c a (orU b)), forceV_eq (joinV c a (orU b)) fun v => k (some v), rfl⟩
theorem orU_eq (o : Option V) : o.getD .undef = orU o := by cases o <;> rfl
theorem joinN_eq {β : Type} (c : X) : ∀ (t : T V) (k : T V → β), ∃ r, joinN c t k = k r ∧ ∀ bs, orU (r.getB bs) = joinV c .undef (orU (t.getB bs))
  | .nil, k => ⟨.nil, rfl, fun bs => by rw [T.getB_nil]; rfl⟩
  | .node l v r, k => by
    obtain ⟨v1, e1, h1⟩ := joinOV_eq (β := β) c none v fun v => joinN c l fun l => joinN c r fun r => k (.node l v r)
    obtain ⟨l1, e2, h2⟩ := joinN_eq c l fun l => joinN c r fun r => k (.node l v1 r)
    obtain ⟨r1, e3, h3⟩ := joinN_eq c r fun r => k (.node l1 v1 r)
    refine ⟨.node l1 v1 r1, by unfold joinN; rw [e1, e2, e3], fun bs => ?_⟩
    cases bs with
    | nil => exact h1
    | cons b bs => cases b with
      | true => exact h3 bs
      | false => exact h2 bs
theorem joinM_eq {β : Type} (c : X) : ∀ (t : T V) (k : T V → β), ∃ r, joinM c t k = k r ∧ ∀ bs, orU (r.getB bs) = joinV c (orU (t.getB bs)) .undef
  | .nil, k => ⟨.nil, rfl, fun bs => by rw [T.getB_nil]; rfl⟩
  | .node l v r, k => by
    obtain ⟨v1, e1, h1⟩ := joinOV_eq (β := β) c v none fun v => joinM c l fun l => joinM c r fun r => k (.node l v r)
    obtain ⟨l1, e2, h2⟩ := joinM_eq c l fun l => joinM c r fun r => k (.node l v1 r)
    obtain ⟨r1, e3, h3⟩ := joinM_eq c r fun r => k (.node l1 v1 r)
    refine ⟨.node l1 v1 r1, by unfold joinM; rw [e1, e2, e3], fun bs => ?_⟩
    cases bs with
    | nil => exact h1
    | cons b bs => cases b with
      | true => exact h3 bs
      | false => exact h2 bs
theorem joinTT_eq {β : Type} (c : X) : ∀ (t u : T V) (k : T V → β), ∃ r, joinTT c t u k = k r ∧ ∀ bs, orU (r.getB bs) = joinV c (orU (t.getB bs)) (orU (u.getB bs))
  | .nil, u, k => by
    obtain ⟨r, e, h⟩ := joinN_eq c u k
    exact ⟨r, by unfold joinTT; exact e, fun bs => by rw [h, T.getB_nil]; rfl⟩
  | .node l v r, u, k => by
    cases u with
    | nil =>
      obtain ⟨x, e, h⟩ := joinM_eq c (.node l v r) k
      exact ⟨x, by unfold joinTT; exact e, fun bs => by rw [h, T.getB_nil]; rfl⟩
    | node l' v' r' =>
      obtain ⟨v1, e1, h1⟩ := joinOV_eq (β := β) c v v' fun v => joinTT c l l' fun l => joinTT c r r' fun r => k (.node l v r)
      obtain ⟨l1, e2, h2⟩ := joinTT_eq c l l' fun l => joinTT c r r' fun r => k (.node l v1 r)
      obtain ⟨r1, e3, h3⟩ := joinTT_eq c r r' fun r => k (.node l1 v1 r)
      refine ⟨.node l1 v1 r1, by unfold joinTT; dsimp only; rw [e1, e2, e3], fun bs => ?_⟩
      cases bs with
      | nil => exact h1
      | cons b bs => cases b with
        | true => exact h3 bs
        | false => exact h2 bs
theorem joinVs_some (c : X) : ∀ (l m : List V), l.length = m.length → joinVs c l m = some (List.zipWith (joinV c) l m)
  | [], [], _ => by unfold joinVs; rfl
  | a :: l, b :: m, h => by
    unfold joinVs
    dsimp only
    rw [joinVs_some c l m (by simpa using h)]
    rfl
  | [], _ :: _, h => by simp at h
  | _ :: _, [], h => by simp at h
theorem joinVs_none (c : X) : ∀ (l m : List V), l.length ≠ m.length → joinVs c l m = none
  | [], [], h => absurd rfl h
  | a :: l, b :: m, h => by
    unfold joinVs
    dsimp only
    rw [joinVs_none c l m (by simpa using h)]
  | [], _ :: _, _ => by unfold joinVs; rfl
  | _ :: _, [], _ => by unfold joinVs; rfl
theorem l_len (m : Tm) : m.l.length = m.n := by simp [Tm.l]
theorem joinTm_eq (c : X) (a b : Tm) : (joinTm c a b).map Tm.l = joinVs c a.l b.l := by
  obtain ⟨n, t⟩ := a
  obtain ⟨m, u⟩ := b
  unfold joinTm
  dsimp only
  split
  · rename_i h
    obtain rfl := Nat.eq_of_beq_eq_true h
    obtain ⟨r, e, hr⟩ := joinTT_eq c t u fun t => some (Tm.mk n t)
    rw [e, joinVs_some c _ _ (by rw [l_len, l_len])]
    simp only [Option.map_some, Option.some.injEq]
    refine List.ext_getElem? fun j => ?_
    rw [List.getElem?_zipWith, Tm.l_get, Tm.l_get, Tm.l_get]
    by_cases h : j < n
    · simp only [h, if_true, Tm.val_eq, orU_eq]
      exact congrArg some (hr (bitsOf j))
    · simp [h]
  · rename_i h
    rw [joinVs_none c _ _ fun e => by rw [l_len, l_len] at e; dsimp only at e; subst e; rw [Nat.beq_refl] at h; cases h]
    rfl
/-! ### Operations -/
theorem isIteR_eq (v : V) : v.isIteR = v.isIte := by cases v <;> rfl
theorem evOT_eq (cx : Cx) (tm : Tm) (o : Operand) : evOT cx tm o = evO cx tm.l o := by
  cases o with
  | tmp t =>
    simp only [evOT, evO, Tm.get_eq]
    cases nth tm.l t with
    | none => rfl
    | some v => cases v <;> rfl
  | _ => rfl
theorem forceXT_eq {β : Type} (x : X) (k : X → β) : forceXT x k = k x := by
  cases x <;> try rfl
  rename_i n
  exact forceI_eq n fun n => k (.lit n)
theorem forceVT_eq {β : Type} (v : V) (k : V → β) : forceVT v k = k v := by
  cases v <;> try rfl
  · rename_i a x
    exact forceXT_eq x fun x => k (.int a x)
  · rename_i x
    exact forceXT_eq x fun x => k (.bool x)
theorem evArgsT_eq (cx : Cx) (tm : Tm) : ∀ l, evArgsT cx tm l = evArgs cx tm.l l
  | [] => rfl
  | o :: l => by simp only [evArgsT, evArgs, evOT_eq, evArgsT_eq cx tm l] <;> rfl
theorem evPartsT_eq (cx : Cx) (tm : Tm) : ∀ l, evPartsT cx tm l = evParts cx tm.l l
  | [] => rfl
  | (i, o) :: l => by simp only [evPartsT, evParts, evOT_eq, evPartsT_eq cx tm l] <;> rfl
theorem evOptT_eq (cx : Cx) (tm : Tm) (o : Option Operand) : evOptT cx tm o = evOpt cx tm.l o := by
  cases o <;> simp only [evOptT, evOpt, evOT_eq] <;> rfl
set_option maxHeartbeats 8000 in
theorem oPickT_eq (cx : Cx) (tm : Tm) (st : St) (c : Operand) (a : Operand) (b : Operand) : oPickT cx tm st c a b = oPick cx tm.l st c a b := by
  unfold oPickT oPick
  simp only [evOT_eq, evArgsT_eq, evPartsT_eq, evOptT_eq] <;> rfl
set_option maxHeartbeats 8000 in
theorem oBoxT_eq (cx : Cx) (tm : Tm) (st : St) (t : TypeId) (x : Operand) : oBoxT cx tm st t x = oBox cx tm.l st t x := by
  unfold oBoxT oBox
  simp only [evOT_eq, evArgsT_eq, evPartsT_eq, evOptT_eq] <;> rfl
set_option maxHeartbeats 8000 in
theorem oBuildT_eq (cx : Cx) (tm : Tm) (st : St) (t : TypeId) (parts : Array (Nat × Operand)) : oBuildT cx tm st t parts = oBuild cx tm.l st t parts := by
  unfold oBuildT oBuild
  simp only [evOT_eq, evArgsT_eq, evPartsT_eq, evOptT_eq] <;> rfl
set_option maxHeartbeats 8000 in
theorem oBuildSliceT_eq (cx : Cx) (tm : Tm) (st : St) (t : TypeId) (len : Nat) (parts : Array (Nat × Operand)) : oBuildSliceT cx tm st t len parts = oBuildSlice cx tm.l st t len parts := by
  unfold oBuildSliceT oBuildSlice
  simp only [evOT_eq, evArgsT_eq, evPartsT_eq, evOptT_eq] <;> rfl
set_option maxHeartbeats 8000 in
theorem oLoadT_eq (cx : Cx) (tm : Tm) (st : St) (t : TypeId) (a : Operand) : oLoadT cx tm st t a = oLoad cx tm.l st t a := by
  unfold oLoadT oLoad
  simp only [evOT_eq, evArgsT_eq, evPartsT_eq, evOptT_eq] <;> rfl
set_option maxHeartbeats 8000 in
theorem oStoreT_eq (cx : Cx) (tm : Tm) (st : St) (t : TypeId) (a : Operand) (x : Operand) : oStoreT cx tm st t a x = oStore cx tm.l st t a x := by
  unfold oStoreT oStore
  simp only [evOT_eq, evArgsT_eq, evPartsT_eq, evOptT_eq] <;> rfl
set_option maxHeartbeats 8000 in
theorem oNilCheckT_eq (cx : Cx) (tm : Tm) (st : St) (x : Operand) : oNilCheckT cx tm st x = oNilCheck cx tm.l st x := by
  unfold oNilCheckT oNilCheck
  simp only [evOT_eq, evArgsT_eq, evPartsT_eq, evOptT_eq] <;> rfl
set_option maxHeartbeats 8000 in
theorem oBinT_eq (cx : Cx) (tm : Tm) (st : St) (op : BinOp) (t : TypeId) (x : Operand) (y : Operand) : oBinT cx tm st op t x y = oBin cx tm.l st op t x y := by
  unfold oBinT oBin
  simp only [evOT_eq, evArgsT_eq, evPartsT_eq, evOptT_eq] <;> rfl
set_option maxHeartbeats 8000 in
theorem oUnT_eq (cx : Cx) (tm : Tm) (st : St) (op : UnOp) (x : Operand) : oUnT cx tm st op x = oUn cx tm.l st op x := by
  unfold oUnT oUn
  simp only [evOT_eq, evArgsT_eq, evPartsT_eq, evOptT_eq] <;> rfl
set_option maxHeartbeats 8000 in
theorem oConvertT_eq (cx : Cx) (tm : Tm) (st : St) (src : TypeId) (dst : TypeId) (x : Operand) : oConvertT cx tm st src dst x = oConvert cx tm.l st src dst x := by
  unfold oConvertT oConvert
  simp only [evOT_eq, evArgsT_eq, evPartsT_eq, evOptT_eq] <;> rfl
set_option maxHeartbeats 8000 in
theorem oIfaceT_eq (cx : Cx) (tm : Tm) (st : St) (t : TypeId) (x : Operand) : oIfaceT cx tm st t x = oIface cx tm.l st t x := by
  unfold oIfaceT oIface
  simp only [evOT_eq, evArgsT_eq, evPartsT_eq, evOptT_eq] <;> rfl
set_option maxHeartbeats 8000 in
theorem oFuncT_eq (cx : Cx) (tm : Tm) (st : St) (fn : Fn) (first : Array Operand) (captured : Array Operand) : oFuncT cx tm st fn first captured = oFunc cx tm.l st fn first captured := by
  unfold oFuncT oFunc
  simp only [evOT_eq, evArgsT_eq, evPartsT_eq, evOptT_eq] <;> rfl
set_option maxHeartbeats 8000 in
theorem oMapT_eq (cx : Cx) (tm : Tm) (st : St) (t : TypeId) (r : Option Operand) : oMapT cx tm st t r = oMap cx tm.l st t r := by
  unfold oMapT oMap
  simp only [evOT_eq, evArgsT_eq, evPartsT_eq, evOptT_eq] <;> rfl
set_option maxHeartbeats 8000 in
theorem oMakeSliceT_eq (cx : Cx) (tm : Tm) (st : St) (t : TypeId) (l : Operand) (c : Operand) : oMakeSliceT cx tm st t l c = oMakeSlice cx tm.l st t l c := by
  unfold oMakeSliceT oMakeSlice
  simp only [evOT_eq, evArgsT_eq, evPartsT_eq, evOptT_eq] <;> rfl
set_option maxHeartbeats 8000 in
theorem oSliceT_eq (cx : Cx) (tm : Tm) (st : St) (t : TypeId) (x : Operand) (lo : Option Operand) (hi : Option Operand) (mx : Option Operand) : oSliceT cx tm st t x lo hi mx = oSlice cx tm.l st t x lo hi mx := by
  unfold oSliceT oSlice
  simp only [evOT_eq, evArgsT_eq, evPartsT_eq, evOptT_eq] <;> rfl
set_option maxHeartbeats 8000 in
theorem oFieldAddrT_eq (cx : Cx) (tm : Tm) (st : St) (t : TypeId) (x : Operand) (f : Nat) : oFieldAddrT cx tm st t x f = oFieldAddr cx tm.l st t x f := by
  unfold oFieldAddrT oFieldAddr
  simp only [evOT_eq, evArgsT_eq, evPartsT_eq, evOptT_eq] <;> rfl
set_option maxHeartbeats 8000 in
theorem oFieldT_eq (cx : Cx) (tm : Tm) (st : St) (t : TypeId) (x : Operand) (f : Nat) : oFieldT cx tm st t x f = oField cx tm.l st t x f := by
  unfold oFieldT oField
  simp only [evOT_eq, evArgsT_eq, evPartsT_eq, evOptT_eq] <;> rfl
set_option maxHeartbeats 8000 in
theorem oIndexAddrT_eq (cx : Cx) (tm : Tm) (st : St) (t : TypeId) (x : Operand) (ix : Operand) : oIndexAddrT cx tm st t x ix = oIndexAddr cx tm.l st t x ix := by
  unfold oIndexAddrT oIndexAddr
  simp only [evOT_eq, evArgsT_eq, evPartsT_eq, evOptT_eq] <;> rfl
set_option maxHeartbeats 8000 in
theorem oIndexT_eq (cx : Cx) (tm : Tm) (st : St) (t : TypeId) (x : Operand) (ix : Operand) : oIndexT cx tm st t x ix = oIndex cx tm.l st t x ix := by
  unfold oIndexT oIndex
  simp only [evOT_eq, evArgsT_eq, evPartsT_eq, evOptT_eq] <;> rfl
set_option maxHeartbeats 8000 in
theorem oLookupT_eq (cx : Cx) (tm : Tm) (st : St) (t : TypeId) (x : Operand) (ix : Operand) (ok : Bool) : oLookupT cx tm st t x ix ok = oLookup cx tm.l st t x ix ok := by
  unfold oLookupT oLookup
  simp only [evOT_eq, evArgsT_eq, evPartsT_eq, evOptT_eq] <;> rfl
set_option maxHeartbeats 8000 in
theorem oUpdateT_eq (cx : Cx) (tm : Tm) (st : St) (t : TypeId) (m : Operand) (k : Operand) (x : Operand) : oUpdateT cx tm st t m k x = oUpdate cx tm.l st t m k x := by
  unfold oUpdateT oUpdate
  simp only [evOT_eq, evArgsT_eq, evPartsT_eq, evOptT_eq] <;> rfl
set_option maxHeartbeats 8000 in
theorem oAssertT_eq (cx : Cx) (tm : Tm) (st : St) (x : Operand) (asserted : TypeId) (ok : Bool) : oAssertT cx tm st x asserted ok = oAssert cx tm.l st x asserted ok := by
  unfold oAssertT oAssert
  simp only [evOT_eq, evArgsT_eq, evPartsT_eq, evOptT_eq] <;> rfl
set_option maxHeartbeats 8000 in
theorem oExtractT_eq (cx : Cx) (tm : Tm) (st : St) (x : Operand) (i : Nat) : oExtractT cx tm st x i = oExtract cx tm.l st x i := by
  unfold oExtractT oExtract
  simp only [evOT_eq, evArgsT_eq, evPartsT_eq, evOptT_eq] <;> rfl
set_option maxHeartbeats 8000 in
theorem oCallT_eq (cx : Cx) (tm : Tm) (st : St) (c : Call) : oCallT cx tm st c = oCall cx tm.l st c := by
  unfold oCallT oCall
  simp only [evOT_eq, evArgsT_eq, evPartsT_eq, evOptT_eq] <;> rfl
set_option maxHeartbeats 8000 in
theorem oDeferT_eq (cx : Cx) (tm : Tm) (st : St) (c : Call) : oDeferT cx tm st c = oDefer cx tm.l st c := by
  unfold oDeferT oDefer
  simp only [evOT_eq, evArgsT_eq, evPartsT_eq, evOptT_eq] <;> rfl
set_option maxHeartbeats 8000 in
theorem oPanicT_eq (cx : Cx) (tm : Tm) (st : St) (x : Operand) : oPanicT cx tm st x = oPanic cx tm.l st x := by
  unfold oPanicT oPanic
  simp only [evOT_eq, evArgsT_eq, evPartsT_eq, evOptT_eq] <;> rfl
set_option maxHeartbeats 8000 in
theorem oRangeT_eq (cx : Cx) (tm : Tm) (st : St) (t : TypeId) (x : Operand) : oRangeT cx tm st t x = oRange cx tm.l st t x := by
  unfold oRangeT oRange
  simp only [evOT_eq, evArgsT_eq, evPartsT_eq, evOptT_eq] <;> rfl
set_option maxHeartbeats 8000 in
theorem oNextT_eq (cx : Cx) (tm : Tm) (st : St) (x : Operand) (isString : Bool) : oNextT cx tm st x isString = oNext cx tm.l st x isString := by
  unfold oNextT oNext
  simp only [evOT_eq, evArgsT_eq, evPartsT_eq, evOptT_eq] <;> rfl
theorem evOp0T_eq (cx : Cx) (tm : Tm) (st : St) (o : Oper) : evOp0T cx tm st o = evOp0 cx tm.l st o := by
  have key : ∀ op : Op, o.op = op → evOp0T cx tm st o = evOp0 cx tm.l st o := by
    intro op h
    unfold evOp0T evOp0
    rw [h]
    cases op
    case move x => exact congrArg (fun v => optv st v "move") (evOT_eq cx tm x)
    case assign x => exact congrArg (fun v => optv st v "assign") (evOT_eq cx tm x)
    case pick c a b => exact oPickT_eq cx tm st c a b
    case alloc t => rfl
    case box t x => exact oBoxT_eq cx tm st t x
    case build t parts => exact oBuildT_eq cx tm st t parts
    case buildSlice t len parts => exact oBuildSliceT_eq cx tm st t len parts
    case load t a => exact oLoadT_eq cx tm st t a
    case store t a x => exact oStoreT_eq cx tm st t a x
    case nilCheck x => exact oNilCheckT_eq cx tm st x
    case binOp op t x y _u4 => exact oBinT_eq cx tm st op t x y
    case unOp op _u1 x => exact oUnT_eq cx tm st op x
    case convert src dst x => exact oConvertT_eq cx tm st src dst x
    case makeInterface t x => exact oIfaceT_eq cx tm st t x
    case makeFunc fn first captured => exact oFuncT_eq cx tm st fn first captured
    case makeMap t r => exact oMapT_eq cx tm st t r
    case makeSlice t l c => exact oMakeSliceT_eq cx tm st t l c
    case slice t x lo hi mx => exact oSliceT_eq cx tm st t x lo hi mx
    case fieldAddr t x f => exact oFieldAddrT_eq cx tm st t x f
    case field t x f => exact oFieldT_eq cx tm st t x f
    case indexAddr t x ix => exact oIndexAddrT_eq cx tm st t x ix
    case index t x ix => exact oIndexT_eq cx tm st t x ix
    case lookup t x ix ok => exact oLookupT_eq cx tm st t x ix ok
    case mapUpdate t m k x => exact oUpdateT_eq cx tm st t m k x
    case insert t m k x => exact oUpdateT_eq cx tm st t m k x
    case typeAssert x _u1 asserted ok => exact oAssertT_eq cx tm st x asserted ok
    case extract x i => exact oExtractT_eq cx tm st x i
    case call c => exact oCallT_eq cx tm st c
    case defer c => exact oDeferT_eq cx tm st c
    case panic x => exact oPanicT_eq cx tm st x
    case range t x => exact oRangeT_eq cx tm st t x
    case next x s => exact oNextT_eq cx tm st x s
    all_goals rfl
  exact key _ rfl
theorem evOpT_eq (cx : Cx) (tm : Tm) (st : St) (o : Oper) : evOpT cx tm st o = evOp cx tm.l st o := by
  show (evOp0T cx tm st o).bind _ = (evOp0 cx tm.l st o).bind _
  exact congrArg (fun r : Res => r.bind fun x => resolveV x.1 x.2) (evOp0T_eq cx tm st o)
/-! ### Code -/
section
variable {α β γ : Type}
noncomputable def R.map (f : α → β) (r : R α) : R β := r.bind fun a => .ok (f a)
theorem R.map_bind (r : R α) (k : α → R β) (f : β → γ) : (r.bind k).map f = r.bind fun a => (k a).map f := by
  induction r with
  | ok a => rfl
  | br c t u i j =>
    show R.br c ((t.bind k).map f) ((u.bind k).map f) = R.br c _ _
    rw [i, j]
    rfl
  | stuck s => rfl
theorem R.bind_map (r : R α) (f : α → β) (k : β → R γ) : (r.map f).bind k = r.bind fun a => k (f a) := by
  induction r with
  | ok a => rfl
  | br c t u i j =>
    show R.br c ((t.map f).bind k) ((u.map f).bind k) = R.br c _ _
    rw [i, j]
    rfl
  | stuck s => rfl
theorem R.bind_congr {r : R α} {k k' : α → R β} (h : ∀ a, k a = k' a) : r.bind k = r.bind k' := by rw [funext h]
theorem split0_map (f : α → β) : ∀ (x : X) (st : St) (k : St → Bool → R α), (split0 st x k).map f = split0 st x fun st b => (k st b).map f := by
  intro x
  induction x with
  | lit n => intro st k; rfl
  | not y ih => intro st k; exact ih st _
  | ite c a b ic ia ib =>
    intro st k
    show (split0 st c _).map f = split0 st c _
    rw [ic]
    congr 1
    funext st t
    cases t
    · exact ib st k
    · exact ia st k
  | _ =>
    intro st k
    simp only [split0]
    split <;> rfl
theorem split_map {α β : Type} (f : α → β) (x : X) (st : St) (k : St → Bool → R α) : (split st x k).map f = split st x fun st b => (k st b).map f := by rw [split_eq, split_eq, split0_map]
theorem splitV_ite {γ : Type} (n : Nat) (st : St) (c : X) (a b : V) (k : St → V → R γ) : splitV (n + 1) st (V.ite c a b) k = split st c fun st t => match t with
    | true => splitV n st a k
    | false => splitV n st b k := rfl
theorem splitV_map (f : α → β) : ∀ (n : Nat) (st : St) (v : V) (k : St → V → R α), (splitV n st v k).map f = splitV n st v fun st v => (k st v).map f
  | 0, st, v, k => rfl
  | n + 1, st, v, k => by
    cases v <;> try rfl
    rename_i c a b
    rw [splitV_ite, splitV_ite, split_map]
    congr 1
    funext st t
    cases t
    · exact splitV_map f n st b k
    · exact splitV_map f n st a k
end
noncomputable def absF (fr : FrT) : Fr := ⟨fr.tm.l, fr.df⟩
noncomputable def absC (x : Ex × FrT × St) : Ex × Fr × St := (x.1, absF x.2.1, x.2.2)
structure Rel (s : SelfT) (s' : Self) : Prop where
  code : ∀ rnd c fr st, (s.code rnd c fr st).map absC = s'.code rnd c (absF fr) st
  loop : ∀ rnd c fr st, (s.loop rnd c fr st).map absC = s'.loop rnd c (absF fr) st
  call : s.call = s'.call
theorem absF_put (fr : FrT) (d : Option Tmp) (v : V) (df : List SDef) : absF ⟨Tm.putD fr.tm d v, df⟩ = ⟨putD (absF fr).tm d v, df⟩ := by
  unfold absF
  rw [Tm.putD_l]
theorem forceFrT_eq {β : Type} (fr : FrT) (k : FrT → β) : forceFrT fr k = k fr := by
  obtain ⟨tm, df⟩ := fr
  cases df <;> rfl
section
variable {cx : Cx} {s : SelfT} {s' : Self} (h : Rel s s')
include h
theorem bind_code {α : Type} (rnd : Option Nat) (c : Code) (fr : FrT) (fr' : Fr) (hf : absF fr = fr') (st : St) (k : Ex × Fr × St → R α) : (s'.code rnd c fr' st).bind k = (s.code rnd c fr st).bind fun x => k (absC x) := by
  rw [← hf, ← h.code, R.bind_map]
theorem roundBodyT_eq (l : Nat) (body : Code) (e : Ex) (fr : FrT) (st : St) : roundBodyT s l body e fr st = roundBody s' l body e (absF fr) st := by
  unfold roundBodyT roundBody
  cases e <;> try rfl
  dsimp only
  cases st.h.get l with
  | none => rfl
  | some o =>
    cases o <;> try rfl
    rename_i state _ _ _ _ _ _
    cases state <;> try rfl
    dsimp only
    rw [bind_code h _ _ fr _ rfl]
    exact R.bind_congr fun x => rfl
theorem evRoundT_eq (l : Nat) (args : List V) (st : St) : evRoundT s l args st = evRound s' l args st := by
  unfold evRoundT evRound
  cases st.h.get l with
  | none => rfl
  | some o =>
    cases o <;> try rfl
    rename_i _ _ tmps params assign body _
    dsimp only
    cases Nat.beq params.toList.length args.length with
    | true =>
      dsimp only
      rw [bind_code h _ _ { tm := Tm.of (setZip tmps params.toList args), df := [] } _ (by unfold absF; rw [of_l])]
      exact R.bind_congr fun (x : Ex × FrT × St) => roundBodyT_eq h l body x.1 x.2.1 x.2.2
    | false => rfl
omit h
theorem wantedVT_map (st : St) (ops : List Oper) (tm : Tm) (o : Oper) (k : St → Bool → COutT) : (wantedVT st ops tm o k).map absC = wantedV st ops tm.l o fun st b => (k st b).map absC := by
  unfold wantedVT wantedV
  cases o.guard with
  | none => rfl
  | some g =>
    obtain ⟨j, want⟩ := g
    dsimp only
    cases (nth ops j).bind (·.dst) with
    | none => rfl
    | some d =>
      dsimp only
      rw [Tm.get_eq]
      cases nth tm.l d with
      | none => rfl
      | some v =>
        cases v <;> try rfl
        exact split_map _ _ _ _
include h
omit h
theorem putR_map {tm : Tm} {df : List SDef} {dst : Option Tmp} {k : RegK} {k' : Fr → St → COut} (hk : ∀ tm df st, (k tm df st).map absC = k' ⟨tm.l, df⟩ st) (st : St) (v : V) : (putR tm df dst k st v).map absC = k' ⟨putD tm.l dst v, df⟩ st := by
  unfold putR
  rw [putKT_eq]
  show (k (Tm.putD tm dst v) df st).map absC = _
  rw [hk, Tm.putD_l]
theorem splitV_plain {α : Type} {v : V} (hv : v.isIte = false) (st : St) (k : St → V → R α) : splitV 100 st v k = k st v := by
  cases v <;> first | rfl | (simp [V.isIte] at hv)
theorem split0_bind {α β : Type} : ∀ (x : X) (st : St) (k : St → Bool → R α) (g : α → R β), (split0 st x k).bind g = split0 st x fun st b => (k st b).bind g := by
  intro x
  induction x with
  | lit n => intro st k g; rfl
  | not y ih => intro st k g; exact ih st _ g
  | ite c a b ic ia ib =>
    intro st k g
    show (split0 st c _).bind g = split0 st c _
    rw [ic]
    congr 1
    funext st t
    cases t
    · exact ib st k g
    · exact ia st k g
  | _ =>
    intro st k g
    simp only [split0]
    split <;> rfl
theorem split_bind {α β : Type} (x : X) (st : St) (k : St → Bool → R α) (g : α → R β) : (split st x k).bind g = split st x fun st b => (k st b).bind g := by rw [split_eq, split_eq, split0_bind]
theorem splitV_bind {α β : Type} (g : α → R β) : ∀ (n : Nat) (st : St) (v : V) (k : St → V → R α), (splitV n st v k).bind g = splitV n st v fun st v => (k st v).bind g
  | 0, st, v, k => rfl
  | n + 1, st, v, k => by
    cases v <;> try rfl
    rename_i c a b
    rw [splitV_ite, splitV_ite, split_bind]
    congr 1
    funext st t
    cases t
    · exact splitV_bind g n st b k
    · exact splitV_bind g n st a k
theorem R.bind_ok' {α β : Type} (a : α) (k : α → R β) : (R.ok a).bind k = k a := rfl
theorem R.bind_assoc {α β γ : Type} (r : R α) (k : α → R β) (g : β → R γ) : (r.bind k).bind g = r.bind fun a => (k a).bind g := by
  induction r with
  | ok a => rfl
  | br c t u i j =>
    show R.br c ((t.bind k).bind g) ((u.bind k).bind g) = R.br c _ _
    rw [i, j]
    rfl
  | stuck s => rfl
theorem valR_map {tm : Tm} {df : List SDef} {dst : Option Tmp} {k : RegK} {k' : Fr → St → COut} (hk : ∀ tm df st, (k tm df st).map absC = k' ⟨tm.l, df⟩ st) (v : V) (st : St) :
    (valR tm df dst k v st).map absC = splitV 100 st v fun st v => k' ⟨putD tm.l dst v, df⟩ st := by
  unfold valR
  rw [isIteR_eq]
  cases hv : v.isIte with
  | true =>
    dsimp only
    rw [splitV_map]
    congr 1
    funext st v
    rw [forceVT_eq, putR_map hk]
  | false =>
    dsimp only
    rw [splitV_plain hv, forceVT_eq, putR_map hk]
include h
theorem operG_map {rnd : Option Nat} {tm : Tm} {df : List SDef} {st : St} {o : Oper} {k : RegK} {k' : Fr → St → COut} (hk : ∀ tm df st, (k tm df st).map absC = k' ⟨tm.l, df⟩ st) : (operG cx s rnd o k tm df st).map absC = evOper cx s' rnd ⟨tm.l, df⟩ st o k' := by
  unfold operG evOper evOp
  rw [evOp0T_eq, R.map_bind, R.bind_assoc]
  refine R.bind_congr fun x => ?_
  obtain ⟨r, st⟩ := x
  cases r with
  | val v =>
    dsimp only [operR, resolveV]
    rw [valR_map hk, splitV_bind]
    congr 1
    funext st v
    rw [R.bind_ok']
    dsimp only
    rw [forceV_eq, putK_eq]
  | skip => exact putR_map hk st .undef
  | enter f args =>
    show ((s.call f args st).bind (callR tm df o.dst k)).map absC = (s'.call f args st).bind _
    rw [R.map_bind, h.call]
    refine R.bind_congr fun x => ?_
    obtain ⟨e, st⟩ := x
    cases e with
    | ret v =>
      show (valR tm df o.dst k v st).map absC = splitV 100 st v _
      rw [valR_map hk]
      congr 1
      funext st v
      rw [forceV_eq, putK_eq]
    | panic v => rfl
  | round l args =>
    show ((evRoundT s l args st).bind (roundR tm df o.dst k)).map absC = (evRound s' l args st).bind _
    rw [R.map_bind, evRoundT_eq h]
    refine R.bind_congr fun x => ?_
    obtain ⟨e, st⟩ := x
    cases e with
    | ret v => exact putR_map hk st v
    | panic v => rfl
  | panic v => rfl
  | defer d =>
    cases rnd with
    | none => exact putR_map hk st .undef
    | some l => rfl
theorem guardR_map {rnd : Option Nat} {ops : List Oper} {tm : Tm} {df : List SDef} {st : St} {o : Oper} {k : RegK} {k' : Fr → St → COut} (hk : ∀ tm df st, (k tm df st).map absC = k' ⟨tm.l, df⟩ st) :
    (guardR cx s rnd ops o k tm df st).map absC = wantedV st ops tm.l o fun st w => match w with
      | true => evOper cx s' rnd ⟨tm.l, df⟩ st o k'
      | false => putK tm.l o.dst .undef fun tm => k' ⟨tm, df⟩ st := by
  have skip : ∀ st, (putR tm df o.dst k st .undef).map absC = putK tm.l o.dst .undef fun tm => k' ⟨tm, df⟩ st := fun st => by rw [putR_map hk, putK_eq]
  unfold guardR wantedV
  cases o.guard with
  | none => exact operG_map h hk
  | some g =>
    obtain ⟨j, want⟩ := g
    dsimp only
    cases (nth ops j).bind (·.dst) with
    | none => exact skip st
    | some d =>
      dsimp only
      rw [Tm.get_eq]
      cases nth tm.l d with
      | none => exact skip st
      | some v =>
        dsimp only
        cases v <;> try exact skip st
        · rename_i x
          show (split st x (guardG cx s rnd o k tm df want)).map absC = split st x _
          rw [split_map]
          congr 1
          funext st b
          unfold guardG
          cases b == want with
          | true => exact operG_map h hk
          | false => exact skip st
        · rfl
theorem evOpsR_map {rnd : Option Nat} (ops : List Oper) : ∀ (l : List Oper) (tm : Tm) (df : List SDef) (st : St), (evOpsR cx s rnd ops l tm df st).map absC = evOps cx s' rnd ops l ⟨tm.l, df⟩ st
  | [], tm, df, st => rfl
  | o :: l, tm, df, st => by
    show (guardR cx s rnd ops o (evOpsR cx s rnd ops l) tm df st).map absC = _
    simp only [evOps, forceFr_eq, forceSt_eq]
    exact guardR_map h (k' := fun fr st => evOps cx s' rnd ops l fr st) fun tm df st => evOpsR_map ops l tm df st
theorem evOpsT_map {rnd : Option Nat} (ops : List Oper) (l : List Oper) (fr : FrT) (st : St) : (evOpsT cx s rnd ops l fr st).map absC = evOps cx s' rnd ops l (absF fr) st := evOpsR_map h ops l fr.tm fr.df st
omit h
noncomputable def absRd (r : RdT) : Rd := { i := r.i, tm := r.tm.l, o := r.o, v := r.v }
noncomputable def absRS (rs : RST) : RS := { fr := absF rs.fr, st := rs.st, sm := rs.sm, mm := rs.mm, bigs := rs.bigs, reads := rs.reads.map absRd, lost := rs.lost }
theorem sameReadT_eq (st : St) (r : RdT) : sameReadT cx st r = sameRead cx st (absRd r) := by
  unfold sameReadT sameRead
  rw [evOpT_eq]
  rfl
theorem readsStayT_eq (st : St) (bef : Nat) : ∀ l, readsStayT cx st bef l = readsStay cx st bef (l.map absRd)
  | [] => rfl
  | r :: l => by
    simp only [readsStayT, readsStay, List.map_cons, sameReadT_eq, readsStayT_eq st bef l]
    rfl
include h
theorem evBigT_map {fr : FrT} {st : St} {o : Oper} {k : FrT → St → COutT} {k' : Fr → St → COut} {kp : V → St → COutT} {kp' : V → St → COut} (hk : ∀ fr st, (k fr st).map absC = k' (absF fr) st) (hkp : ∀ v st, (kp v st).map absC = kp' v st) :
    (evBigT cx s fr st o k kp).map absC = evBig cx s' (absF fr) st o k' kp' := by
  unfold evBigT evBig
  rw [evOpT_eq, R.map_bind]
  refine R.bind_congr fun x => ?_
  obtain ⟨r, st⟩ := x
  have put : ∀ (v : V) (st : St), (putKT fr.tm o.dst v fun tm => k { fr with tm := tm } st).map absC = putK (absF fr).tm o.dst v fun tm => k' { (absF fr) with tm := tm } st := by
    intro v st
    simp only [putKT_eq, putK_eq]
    rw [hk]
    exact congrArg (fun fr => k' fr st) (absF_put fr o.dst v fr.df)
  cases r with
  | val v => exact put v st
  | skip => exact put .undef st
  | enter f args =>
    dsimp only
    rw [R.map_bind, h.call]
    refine R.bind_congr fun x => ?_
    obtain ⟨e, st⟩ := x
    cases e with
    | ret v => exact put v st
    | panic v => exact hkp v st
  | round l args =>
    dsimp only
    rw [R.map_bind, evRoundT_eq h]
    refine R.bind_congr fun x => ?_
    obtain ⟨e, st⟩ := x
    cases e with
    | ret v => exact put v st
    | panic v => rfl
  | panic v => rfl
  | defer d => rfl
theorem drawStepT_map {i : Nat} {o : Oper} {b : Nat} {rs : RST} {st : St} {dep : Bool} {k : RST → COutT} {k' : RS → COut} (hk : ∀ rs, (k rs).map absC = k' (absRS rs)) : (drawStepT cx s i o b rs st dep k).map absC = drawStep cx s' i o b (absRS rs) st dep k' := by
  have fput : ∀ v, absF ⟨Tm.putD rs.fr.tm o.dst v, rs.fr.df⟩ = ⟨putD (absF rs.fr).tm o.dst v, rs.fr.df⟩ := fun v => absF_put rs.fr o.dst v rs.fr.df
  have big : (evBigT cx s rs.fr { st with h := withSm b rs.sm st.h } o (fun fr st' =>
      if Nat.ble st.n st'.n && readsStayT cx st' b rs.reads then
        k { fr := fr, st := st', sm := restSm b rs.sm, mm := rs.mm, bigs := i :: rs.bigs, reads := rs.reads }
      else .stuck "draw: a reader sees other things") fun v st' => match rs.fr.df with
        | [] => match dep, readsStayT cx { st with h := withSm b rs.sm st.h } b rs.reads with
          | true, true => .ok (.die v, rs.fr, st')
          | _, _ => .stuck "a panic in a drawn region"
        | _ => .stuck "a panic in a drawn region").map absC = evBig cx s' (absRS rs).fr { st with h := withSm b (absRS rs).sm st.h } o (fun fr st' =>
      if Nat.ble st.n st'.n && readsStay cx st' b (absRS rs).reads then
        k' { fr := fr, st := st', sm := restSm b (absRS rs).sm, mm := (absRS rs).mm, bigs := i :: (absRS rs).bigs, reads := (absRS rs).reads }
      else .stuck "draw: a reader sees other things") fun v st' => match (absRS rs).fr.df with
        | [] => match dep, readsStay cx { st with h := withSm b (absRS rs).sm st.h } b (absRS rs).reads with
          | true, true => .ok (.die v, (absRS rs).fr, st')
          | _, _ => .stuck "a panic in a drawn region"
        | _ => .stuck "a panic in a drawn region" := by
    refine evBigT_map h (fun fr st' => ?_) fun v st' => ?_
    · rw [readsStayT_eq]
      show R.map absC (if Nat.ble st.n st'.n && readsStay cx st' b (absRS rs).reads then _ else _) = _
      split
      · rw [hk]
        rfl
      · rfl
    · rw [readsStayT_eq]
      show R.map absC (match rs.fr.df with
        | [] => match dep, readsStay cx { st with h := withSm b (absRS rs).sm st.h } b (absRS rs).reads with
          | true, true => .ok (.die v, rs.fr, st')
          | _, _ => .stuck "a panic in a drawn region"
        | _ => .stuck "a panic in a drawn region") = (match rs.fr.df with
        | [] => match dep, readsStay cx { st with h := withSm b (absRS rs).sm st.h } b (absRS rs).reads with
          | true, true => .ok (.die v, (absRS rs).fr, st')
          | _, _ => .stuck "a panic in a drawn region"
        | _ => .stuck "a panic in a drawn region")
      split
      · split <;> rfl
      · rfl
  have hs : stepKind o.op (evOT cx rs.fr.tm) rs.sm = stepKind o.op (evO cx (absRS rs).fr.tm) (absRS rs).sm := by
    rw [show evOT cx rs.fr.tm = evO cx (absRS rs).fr.tm from funext fun x => evOT_eq ..]
    rfl
  unfold drawStepT drawStep
  rw [hs]
  generalize stepKind o.op _ _ = n
  match n with
  | 0 =>
    show (R.bind (evOpT _ _ _ _) _).map absC = R.bind _ _
    rw [evOpT_eq, R.map_bind]
    refine R.bind_congr fun x => ?_
    obtain ⟨r, st'⟩ := x
    cases r <;> try rfl
    rename_i v
    dsimp only
    split
    · simp only [putKT_eq, putK_eq]
      rw [hk]
      simp only [absRS, fput]
      rfl
    · rfl
  | 1 =>
    show (R.bind (evOpT _ _ _ _) _).map absC = R.bind _ _
    rw [evOpT_eq, R.map_bind]
    refine R.bind_congr fun x => ?_
    obtain ⟨r, st'⟩ := x
    cases r <;> try rfl
    rename_i v
    dsimp only
    split
    · simp only [putKT_eq, putK_eq]
      rw [hk]
      simp only [absRS, fput]
      rfl
    · rfl
  | 2 =>
    show (R.bind (evOpT _ _ _ _) _).map absC = R.bind _ _
    rw [evOpT_eq, R.map_bind]
    refine R.bind_congr fun x => ?_
    obtain ⟨r, st'⟩ := x
    cases r <;> try rfl
    rename_i v
    simp only [putKT_eq, putK_eq]
    rw [hk]
    simp only [absRS, fput, List.map_cons, absRd]
    rfl
  | 4 =>
    show R.map absC (match o.op with | .insert _ _ _ _ => _ | _ => _) = (match o.op with | .insert _ _ _ _ => _ | _ => _)
    cases o.op <;> try rfl
    rename_i t m key x
    simp only [evOT_eq]
    dsimp only [absRS, absF]
    generalize evO cx rs.fr.tm.l m = a
    generalize evO cx rs.fr.tm.l key = kv
    generalize evO cx rs.fr.tm.l x = xv
    rcases a with _ | a
    · rfl
    cases a <;> try rfl
    rename_i mb
    rcases kv with _ | kv
    · rfl
    rcases xv with _ | xv
    · rfl
    cases hm : rs.mm with
    | none => rfl
    | some mk =>
      dsimp only
      generalize Nat.beq mb mk.id = p1
      generalize Nat.testBit b mk.owner = p2
      generalize keyKind cx t kv = p3
      generalize keyNew kv mk.ins = p4
      cases p1 <;> cases p2 <;> cases p3 <;> cases p4 <;> try rfl
      simp only [putKT_eq, putK_eq]
      rw [hk]
      simp only [absRS, fput]
      rfl
  | 5 =>
    show (R.bind (evOpT _ _ _ _) _).map absC = R.bind _ _
    rw [evOpT_eq, R.map_bind]
    refine R.bind_congr fun x => ?_
    obtain ⟨r, st'⟩ := x
    cases r <;> try rfl
    rename_i v
    dsimp only [absRS]
    generalize T.get st'.h st.n = q
    cases hm : rs.mm with
    | some y => rfl
    | none =>
      rcases q with _ | ob
      · rfl
      cases ob <;> try rfl
      rename_i es
      cases es with
      | cons _ _ => rfl
      | nil =>
        dsimp only
        split
        · simp only [putKT_eq, putK_eq]
          rw [hk]
          simp only [absRS, fput]
          rfl
        · rfl
  | 3 => exact big
  | n + 6 => exact big
theorem evDrawT_map (ops : List Oper) (bs : List Nat) : ∀ (l : List Nat) (done : Nat) (rs : RST), (evDrawT cx s ops bs l done rs).map absC = evDraw cx s' ops bs l done (absRS rs)
  | [], done, rs => by
    unfold evDrawT evDraw
    cases Nat.beq (done + 1) (2 ^ ops.length) <;> rfl
  | i :: rest, done, rs => by
    unfold evDrawT evDraw
    cases nth ops i with
    | none => rfl
    | some o =>
      cases nth bs i with
      | none => rfl
      | some b =>
        dsimp only
        show R.map absC (match within b done && allIn b rs.bigs && !Nat.testBit done i with | true => _ | false => _) = (match within b done && allIn b rs.bigs && !Nat.testBit done i with | true => _ | false => _)
        cases within b done && allIn b rs.bigs && !Nat.testBit done i with
        | false => rfl
        | true =>
          dsimp only
          rw [wantedVT_map]
          show wantedV rs.st ops rs.fr.tm.l o _ = wantedV rs.st ops rs.fr.tm.l o _
          congr 1
          funext st w
          cases w with
          | true => exact drawStepT_map h fun rs => evDrawT_map ops bs rest _ rs
          | false =>
            simp only [putKT_eq, putK_eq]
            rw [evDrawT_map ops bs rest]
            exact congrArg (fun fr => evDraw cx s' ops bs rest (done ||| 2 ^ i) { (absRS rs) with st := st, fr := fr }) (absF_put rs.fr o.dst .undef rs.fr.df)
theorem drawnT_map (ops : List Oper) (bs : List Nat) (fr : FrT) (st : St) : (drawnT cx s ops bs fr st).map absC = drawn cx s' ops bs (absF fr) st := by
  unfold drawnT drawn
  exact evDrawT_map h ops bs _ _ _
omit h
theorem resultVT_eq (tm : Tm) (hp : H) (r : ResultVar) : resultVT cx tm hp r = resultV cx tm.l hp r := by
  cases r <;> simp only [resultVT, resultV, Tm.get_eq] <;> rfl
theorem resultsVT_eq (tm : Tm) (hp : H) : ∀ l, resultsVT cx tm hp l = resultsV cx tm.l hp l
  | [] => rfl
  | r :: l => by simp only [resultsVT, resultsV, resultVT_eq, resultsVT_eq tm hp l] <;> rfl
theorem resultOfT_eq (fn : Func) (tm : Tm) (hp : H) : resultOfT cx fn tm hp = resultOf cx fn tm.l hp := by
  unfold resultOfT resultOf
  rw [resultsVT_eq]
  rfl
theorem leaveT_eq (fn : Func) (tm : Tm) : ∀ (ds : List SDef) (e : Option V) (st : St), leaveT cx fn tm e ds st = leave cx fn tm.l e ds st
  | [], e, st => by
    unfold leaveT leave
    cases e with
    | some p => rfl
    | none =>
      dsimp only
      rw [resultOfT_eq]
      rfl
  | .mark b :: ds, e, st => by
    unfold leaveT leave
    simp only [leaveT_eq fn tm ds]
    rfl
  | .fn f cap args :: ds, e, st => by
    unfold leaveT leave
    simp only [leaveT_eq fn tm ds]
    rfl
include h
theorem evCallT_eq (f : FuncId) (args : List V) (st : St) : evCallT cx s f args st = evCall cx s' f args st := by
  unfold evCallT evCall
  cases cx.sm f with
  | some g => rfl
  | none =>
    dsimp only
    cases cx.ft.get f with
    | none => rfl
    | some fn =>
      dsimp only
      cases fn.body with
      | none => rfl
      | some body =>
        dsimp only
        rw [bind_code h _ _ { tm := Tm.start fn.ntmps args, df := [] } _ (by unfold absF; rw [start_l])]
        refine R.bind_congr fun (x : Ex × FrT × St) => ?_
        obtain ⟨e, fr, st⟩ := x
        cases e with
        | normal => exact leaveT_eq fn fr.tm fr.df none st
        | ret => exact leaveT_eq fn fr.tm fr.df none st
        | panic v => exact leaveT_eq fn fr.tm fr.df (some v) st
        | die v => rfl
        | exit i => rfl
theorem rangeGoT_map {rnd : Option Nat} {g : FuncId} {first cap : List V} {params : Array Tmp} {assign body : Code} {tm : Tm} {df : List SDef} {D : Nat} {st : St} : (rangeGoT s rnd g first cap params assign body tm df D st).map absC = rangeGo s' rnd g first cap params assign body tm.l df D st := by
  unfold rangeGoT rangeGo
  rw [R.map_bind, h.call]
  refine R.bind_congr fun x => ?_
  obtain ⟨e, st1⟩ := x
  cases e with
  | panic v => rfl
  | ret v =>
    dsimp only
    cases st1.h.get st.n with
    | none => rfl
    | some o =>
      cases o <;> try rfl
      rename_i state pending _ _ _ _ _
      cases state <;> try rfl
      all_goals
        cases pending with
        | none => rfl
        | some c => exact h.code rnd c ⟨tm, df⟩ _
theorem evRangeT_map {rnd : Option Nat} {f : Operand} {params : Array Tmp} {assign body : Code} {fr : FrT} {st : St} : (evRangeT cx s rnd f params assign body fr st).map absC = evRange cx s' rnd f params assign body (absF fr) st := by
  unfold evRangeT evRange
  rw [evOT_eq]
  show R.map absC (match evO cx fr.tm.l f with | some (.func (.func g) first cap) => _ | _ => _) = (match evO cx fr.tm.l f with | some (.func (.func g) first cap) => _ | _ => _)
  generalize evO cx fr.tm.l f = a
  rcases a with _ | a
  · rfl
  cases a <;> try rfl
  rename_i g first cap
  cases g <;> try rfl
  rename_i g
  dsimp only
  cases cx.ft.get g with
  | none => rfl
  | some fn =>
    cases rnd with
    | none => exact rangeGoT_map h
    | some l =>
      dsimp only
      cases st.h.get l with
      | none => rfl
      | some o =>
        cases o <;> try rfl
        exact rangeGoT_map h
theorem evCodeT_map (rnd : Option Nat) (c : Code) (fr : FrT) (st : St) : (evCodeT cx s rnd c fr st).map absC = evCode cx s' rnd c (absF fr) st := by
  cases c <;> try rfl
  · rename_i ops draw
    cases draw with
    | false => exact evOpsT_map h _ _ _ _
    | true =>
      show R.map absC (if drawOk ops.toList then drawnT cx s ops.toList (befs ops.toList []) fr st else .stuck "draw: temporaries") = (if drawOk ops.toList then drawn cx s' ops.toList (befs ops.toList []) (absF fr) st else .stuck "draw: temporaries")
      split
      · exact drawnT_map h _ _ _ _
      · rfl
  · rename_i a b
    show ((s.code rnd a fr st).bind _).map absC = (s'.code rnd a (absF fr) st).bind _
    rw [bind_code h _ _ fr _ rfl, R.map_bind]
    refine R.bind_congr fun (x : Ex × FrT × St) => ?_
    obtain ⟨e, fr, st⟩ := x
    cases e with
    | normal => exact h.code rnd b fr st
    | _ => rfl
  · rename_i c x y
    show R.map absC (match evOT cx fr.tm c with
      | some (.bool b) => split st b fun st t => (match t with
        | true => s.code rnd x fr st
        | false => s.code rnd y fr st)
      | _ => .stuck "cond") = _
    rw [evOT_eq]
    show R.map absC (match evO cx fr.tm.l c with | some (.bool b) => _ | _ => _) = (match evO cx fr.tm.l c with | some (.bool b) => _ | _ => _)
    generalize evO cx fr.tm.l c = a
    rcases a with _ | a
    · rfl
    cases a <;> try rfl
    dsimp only
    rw [split_map]
    congr 1
    funext st t
    cases t
    · exact h.code rnd y fr st
    · exact h.code rnd x fr st
  · rename_i id body
    show ((s.code rnd body fr st).bind _).map absC = (s'.code rnd body (absF fr) st).bind _
    rw [bind_code h _ _ fr _ rfl, R.map_bind]
    refine R.bind_congr fun (x : Ex × FrT × St) => ?_
    obtain ⟨e, fr, st⟩ := x
    cases e with
    | exit i =>
      show R.map absC (match Nat.beq i id with | true => _ | false => _) = (match Nat.beq i id with | true => _ | false => _)
      cases Nat.beq i id <;> rfl
    | _ => rfl
  · exact h.loop rnd _ fr st
  · exact evRangeT_map h
  · exact h.code rnd _ fr st
theorem evLoopT_map (rnd : Option Nat) (body : Code) (fr : FrT) (st : St) : (evLoopT s rnd body fr st).map absC = evLoop s' rnd body (absF fr) st := by
  unfold evLoopT evLoop
  rw [bind_code h _ _ fr _ rfl, R.map_bind]
  refine R.bind_congr fun (x : Ex × FrT × St) => ?_
  obtain ⟨e, fr, st⟩ := x
  cases e with
  | normal => exact h.loop rnd body fr st
  | _ => rfl
omit h
theorem forceLVT_eq {β : Type} : ∀ (l : List V) (k : List V → β), forceLV l k = k l
  | [], k => rfl
  | v :: l, k => by
    unfold forceLV
    rw [forceV_eq]
    exact forceLVT_eq l _
theorem joinC1T_map (pc : PC) (c : X) (a b : Ex × FrT × St) : (joinC1T pc c a b).map absC = joinC1 pc c (absC a) (absC b) := by
  obtain ⟨e, fr, st⟩ := a
  obtain ⟨e', fr', st'⟩ := b
  unfold joinC1T joinC1 absC
  dsimp only
  show Option.map _ (match exSame e e', sdefsBeq fr.df fr'.df with | true, true => _ | _, _ => _) = (match exSame e e', sdefsBeq fr.df fr'.df with | true, true => _ | _, _ => _)
  cases exSame e e' <;> cases sdefsBeq fr.df fr'.df <;> try rfl
  dsimp only
  have hj := joinTm_eq c fr.tm fr'.tm
  show _ = (match joinVs c fr.tm.l fr'.tm.l with | some tm => _ | none => none)
  rw [← hj]
  cases joinTm c fr.tm fr'.tm with
  | none => rfl
  | some tm =>
    dsimp only [Option.map_some]
    cases joinSt pc c st st' with
    | none => rfl
    | some st =>
      dsimp only
      rw [forceLVT_eq]
      rfl
theorem mergeR_map {α β : Type} (f : α → β) {j : PC → X → α → α → Option α} {j' : PC → X → β → β → Option β} (hj : ∀ pc c a b, (j pc c a b).map f = j' pc c (f a) (f b)) : ∀ (r : R α) (pc : PC), (mergeR j pc r).map f = mergeR j' pc (r.map f)
  | .ok a, pc => rfl
  | .stuck s, pc => rfl
  | .br c t u, pc => by
    have h1 := mergeR_map f hj t ((c, true) :: pc)
    have h2 := mergeR_map f hj u ((c, false) :: pc)
    show (mergeR j pc (.br c t u)).map f = mergeR j' pc (.br c (t.map f) (u.map f))
    unfold mergeR
    rw [← h1, ← h2]
    generalize mergeR j ((c, true) :: pc) t = x
    generalize mergeR j ((c, false) :: pc) u = y
    cases x <;> try rfl
    cases y <;> try rfl
    rename_i a b
    show R.map f (match j pc c a b with | some r => .ok r | none => .br c (.ok a) (.ok b)) = (match j' pc c (f a) (f b) with | some r => .ok r | none => .br c (.ok (f a)) (.ok (f b)))
    rw [← hj]
    cases j pc c a b <;> rfl
theorem openTmpsT_map {k : St → Tm → COutT} {k' : St → List V → COut} (hk : ∀ st tm, (k st tm).map absC = k' st tm.l) : ∀ (ts : List Nat) (st : St) (tm : Tm), (openTmpsT st tm ts k).map absC = openTmps st tm.l ts k'
  | [], st, tm => hk st tm
  | t :: ts, st, tm => by
    unfold openTmpsT openTmps
    rw [Tm.get_eq]
    cases nth tm.l t with
    | none => exact openTmpsT_map hk ts st tm
    | some v =>
      dsimp only
      cases v.isIte with
      | false => exact openTmpsT_map hk ts st tm
      | true =>
        dsimp only
        rw [splitV_map]
        congr 1
        funext st v
        rw [openTmpsT_map hk ts, Tm.set_l]
include h
theorem evOpenT_map (rnd : Option Nat) (c : Code) (fr : FrT) (st : St) : (evOpenT cx s rnd c fr st).map absC = evOpen cx s' rnd c (absF fr) st := by
  unfold evOpenT evOpen
  cases topTmps c with
  | nil => exact evCodeT_map h rnd c fr st
  | cons t ts => exact openTmpsT_map (fun st tm => evCodeT_map h rnd c ⟨tm, fr.df⟩ st) (t :: ts) st fr.tm
theorem evCodeMT_map (rnd : Option Nat) (c : Code) (fr : FrT) (st : St) : (evCodeMT cx s rnd c fr st).map absC = evCodeM cx s' rnd c (absF fr) st := by
  unfold evCodeMT evCodeM
  rw [forceFrT_eq, forceSt_eq, forceFr_eq, forceSt_eq]
  cases cx.mg with
  | false => exact evCodeT_map h rnd c fr st
  | true =>
    dsimp only
    cases joins c with
    | false => exact evOpenT_map h rnd c fr st
    | true =>
      dsimp only
      rw [mergeR_map absC joinC1T_map, evOpenT_map h]
theorem evCallMT_eq (f : FuncId) (args : List V) (st : St) : evCallMT cx s f args st = evCallM cx s' f args st := by
  unfold evCallMT evCallM
  rw [evCallT_eq h]
  rfl
end
theorem evT_rel (cx : Cx) : ∀ n, Rel (evT cx n) (ev cx n)
  | 0 => ⟨fun _ _ _ _ => rfl, fun _ _ _ _ => rfl, rfl⟩
  | n + 1 => ⟨evCodeMT_map (evT_rel cx n), evLoopT_map (evT_rel cx n), by funext f args st; exact evCallMT_eq (evT_rel cx n) f args st⟩
/-- Calls are the same. -/
theorem evT_call (cx : Cx) (n : Nat) : (ev cx n).call = (evT cx n).call := (evT_rel cx n).call.symm
end Go.Proofs.YtennjdjcjjjmiaaGreatDoor
