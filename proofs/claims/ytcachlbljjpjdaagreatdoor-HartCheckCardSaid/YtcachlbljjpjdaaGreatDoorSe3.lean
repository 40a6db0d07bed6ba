/- Symbolic execution, part 3: the evaluator of code and calls (plain functions; nothing is proved here). No condition. -/
import Derived.Test.YtcachlbljjpjdaaGreatDoorSe2
namespace Go.Proofs.YtcachlbljjpjdaaGreatDoor
open Go
noncomputable section

/-! ### Regions whose order is drawn -/
/-- What comes ahead of an operation, as a number's bits. -/
def befOf (acc : List Nat) : List Edge → Nat
  | [] => 0
  | e :: es => if Region.binds .any e then 2 ^ e.on ||| ((nth acc e.on).getD 0) ||| befOf acc es else befOf acc es
def befs : List Oper → List Nat → List Nat
  | [], acc => acc
  | o :: os, acc => befs os (acc ++ [befOf acc o.after.toList])
def kindOf : Op → Nat
  | .move _ | .assign _ | .pick _ _ _ | .build _ _ | .nilCheck _ | .binOp _ _ _ _ _ | .unOp _ _ _ | .convert _ _ _ | .makeInterface _ _ | .makeFunc _ _ _
  | .slice _ _ _ _ _ | .fieldAddr _ _ _ | .field _ _ _ | .indexAddr _ _ _ | .index _ _ _ | .extract _ _ | .typeAssert _ _ _ _ => 0
  | .alloc _ | .box _ _ | .buildSlice _ _ _ | .makeSlice _ _ _ => 1
  | .makeMap _ _ => 5
  | .load _ _ | .lookup _ _ _ _ => 2
  | .call c => match c.callee with
    | .builtin .len => 2
    | .builtin .max | .builtin .min => 0
    | _ => 3
  | .insert _ _ _ _ => 4
  | _ => 3
def tmpsOf : List Operand → List Nat
  | [] => []
  | .tmp t :: l => t :: tmpsOf l
  | _ :: l => tmpsOf l
def memN (n : Nat) : List Nat → Bool
  | [] => false
  | m :: l => Nat.beq n m || memN n l
def dsts : List Oper → List Nat
  | [] => []
  | o :: l => match o.dst with
    | some d => d :: dsts l
    | none => dsts l
def nodupN : List Nat → Bool
  | [] => true
  | n :: l => !memN n l && nodupN l
/-- Each temporary that the region writes is written once; who looks at it comes behind. -/
def looksOk (all : List Oper) (bef : Nat) (t : Nat) : List Oper → Nat → Bool
  | [], _ => true
  | o :: l, i => (match o.dst with
      | some d => !Nat.beq d t || Nat.testBit bef i
      | none => true) && looksOk all bef t l (i + 1)
def allLooks (all : List Oper) (bef : Nat) : List Nat → Bool
  | [] => true
  | t :: l => looksOk all bef t all 0 && allLooks all bef l
def guardTmp (all : List Oper) (o : Oper) : List Nat :=
  match o.guard with
  | none => []
  | some (j, _) => match (nth all j).bind (·.dst) with
    | some d => [d]
    | none => []
def opsOk (all : List Oper) : List Oper → List Nat → Bool
  | [], _ => true
  | o :: l, b :: bs => allLooks all b (tmpsOf o.op.operands.toList) && allLooks all b (guardTmp all o) && opsOk all l bs
  | _ :: _, [] => false
def drawOk (ops : List Oper) : Bool := nodupN (dsts ops) && opsOk ops ops (befs ops [])

structure Sm where
  owner : Nat
  id : Nat
  obj : SObj
/-- A map that the region makes and fills: nobody sees it ahead of the region's end. -/
structure Mk where
  owner : Nat
  id : Nat
  ins : List (Nat × V × V)
structure Rd where
  i : Nat
  tm : List V
  o : Oper
  v : V
structure RS where
  fr : Fr
  st : St
  sm : List Sm
  mm : Option Mk
  bigs : List Nat
  reads : List Rd
  /-- (For proofs: the last call has ended by a panic.) -/
  lost : Bool := false
def within (b done : Nat) : Bool := Nat.beq (b &&& done) b
/-- The heap with the small blocks that came ahead. -/
def withSm (bef : Nat) : List Sm → H → H
  | [], h => h
  | s :: l, h => if Nat.testBit bef s.owner then (withSm bef l h).set s.id s.obj else withSm bef l h
def restSm (bef : Nat) : List Sm → List Sm
  | [] => []
  | s :: l => if Nat.testBit bef s.owner then restSm bef l else s :: restSm bef l
def allSm : List Sm → H → H
  | [], h => h
  | s :: l, h => (allSm l h).set s.id s.obj
def insOf : List (Nat × V × V) → List (V × V)
  | [] => []
  | (_, k, v) :: l => (k, v) :: insOf l
def allMk : Option Mk → H → H
  | none, h => h
  | some m, h => h.set m.id (.map (insOf m.ins))
def allIn (bef : Nat) : List Nat → Bool
  | [] => true
  | g :: l => Nat.testBit bef g && allIn bef l
/-- Does a reader see the same at a later stage? -/
def sameRead (cx : Cx) (st : St) (r : Rd) : Bool :=
  match evOp cx r.tm st r.o with
  | .ok (.val u, _) => u.beq r.v
  | _ => false
def readsStay (cx : Cx) (st : St) (bef : Nat) : List Rd → Bool
  | [] => true
  | r :: l => (Nat.testBit bef r.i || sameRead cx st r) && readsStay cx st bef l
def newSm (owner : Nat) (h : H) (lo : Nat) : List Sm :=
  match h.get lo with
  | some o => [{ owner := owner, id := lo, obj := o }]
  | none => []
/-- Two keys that are written out, and unlike. -/
def keysUnlike : V → V → Bool
  | .int k (.lit a), .int j (.lit b) => kindBeq k j && !intBeq a b
  | .str (.slit a), .str (.slit b) => !natsBeq (a.map (· % 256)) (b.map (· % 256))
  | _, _ => false
def keyNew (k : V) : List (Nat × V × V) → Bool
  | [] => true
  | (_, k', _) :: l => keysUnlike k k' && keyNew k l
def keyKind (cx : Cx) (t : TypeId) (key : V) : Bool :=
  match cx.tt.get t with
  | some td => match td.d with
    | .map keyT _ => match cx.tt.get keyT with
      | some kd => keyFits kd.d key
      | none => false
    | _ => false
  | none => false
def evBig (cx : Cx) (self : Self) (fr : Fr) (st : St) (o : Oper) (k : Fr → St → COut) (kp : V → St → COut) : COut :=
  (evOp cx fr.tm st o).bind fun (r, st) =>
    match r with
    | .val v => putK fr.tm o.dst v fun tm => k { fr with tm := tm } st
    | .skip => putK fr.tm o.dst .undef fun tm => k { fr with tm := tm } st
    | .enter f args => (self.call f args st).bind fun (e, st) =>
      match e with
      | .ret v => putK fr.tm o.dst v fun tm => k { fr with tm := tm } st
      | .panic v => kp v st
    | .round l args => (evRound self l args st).bind fun (e, st) =>
      match e with
      | .ret v => putK fr.tm o.dst v fun tm => k { fr with tm := tm } st
      | .panic _ => .stuck "panic in a round"
    | .panic _ => .stuck "a panic in a drawn region"
    | .defer _ => .stuck "a defer in a drawn region"
def doneAt : List Nat → Nat → Nat
  | [], d => d
  | i :: l, d => doneAt l (d ||| 2 ^ i)
/-- All that is left comes behind. -/
def allDep (bs : List Nat) (i : Nat) : List Nat → Bool
  | [] => true
  | j :: l => match nth bs j with
    | some b => match Nat.testBit b i with
      | true => allDep bs i l
      | false => false
    | none => false
def drawStep (cx : Cx) (self : Self) (i : Nat) (o : Oper) (b : Nat) (rs : RS) (st : St) (dep : Bool) (k : RS → COut) : COut :=
  match kindOf o.op with
  | 0 => (evOp cx rs.fr.tm { st with h := T.nil } o).bind fun (r, st') =>
    match r with
    | .val v => if Nat.ble st.n st'.n then putK rs.fr.tm o.dst v fun tm => k { rs with st := { st' with h := st.h }, fr := { rs.fr with tm := tm } } else .stuck "draw: names"
    | _ => .stuck "draw: value expected"
  | 1 => (evOp cx rs.fr.tm { st with h := T.nil } o).bind fun (r, st') =>
    match r with
    | .val v => if Nat.blt st.n st'.n then putK rs.fr.tm o.dst v fun tm => k { rs with st := { st' with h := st.h }, sm := newSm i st'.h st.n ++ rs.sm, fr := { rs.fr with tm := tm } } else .stuck "draw: names"
    | _ => .stuck "draw: value expected"
  | 5 => (evOp cx rs.fr.tm { st with h := T.nil } o).bind fun (r, st') =>
    match r with
    | .val v => match rs.mm, st'.h.get st.n with
      | none, some (.map []) => if Nat.blt st.n st'.n then putK rs.fr.tm o.dst v fun tm => k { rs with st := { st' with h := st.h }, mm := some { owner := i, id := st.n, ins := [] }, fr := { rs.fr with tm := tm } } else .stuck "draw: names"
      | _, _ => .stuck "draw: map"
    | _ => .stuck "draw: value expected"
  | 2 => (evOp cx rs.fr.tm st o).bind fun (r, st') =>
    match r with
    | .val v => putK rs.fr.tm o.dst v fun tm => k { rs with st := st', reads := { i := i, tm := rs.fr.tm, o := o, v := v } :: rs.reads, fr := { rs.fr with tm := tm } }
    | _ => .stuck "draw: value expected"
  | 4 => match o.op with
    | .insert t m key x => match evO cx rs.fr.tm m, evO cx rs.fr.tm key, evO cx rs.fr.tm x, rs.mm with
      | some (.map mb), some kv, some xv, some mk => match Nat.beq mb mk.id, Nat.testBit b mk.owner, keyKind cx t kv, keyNew kv mk.ins with
        | true, true, true, true => putK rs.fr.tm o.dst .undef fun tm => k { rs with st := st, mm := some { mk with ins := (i, kv, xv) :: mk.ins }, fr := { rs.fr with tm := tm } }
        | _, _, _, _ => .stuck "draw: insert"
      | _, _, _, _ => .stuck "draw: insert"
    | _ => .stuck "draw: insert"
  | _ =>
    evBig cx self rs.fr { st with h := withSm b rs.sm st.h } o (fun fr st' =>
      if Nat.ble st.n st'.n && readsStay cx st' b rs.reads then
        k { fr := fr, st := st', sm := restSm b rs.sm, mm := rs.mm, bigs := i :: rs.bigs, reads := rs.reads }
      else .stuck "draw: a reader sees other things") fun v st' => match rs.fr.df with
        | [] => match dep, readsStay cx { st with h := withSm b rs.sm st.h } b rs.reads with
          | true, true => .ok (.die v, rs.fr, st')
          | _, _ => .stuck "a panic in a drawn region"
        | _ => .stuck "a panic in a drawn region"
/-- The order in which a drawn region is looked at: small things as early as may be, calls one by one. -/
def isBig (o : Oper) : Bool := match kindOf o.op with
  | 3 => true
  | _ => false
def takeNow : List (Nat × Oper × Nat) → Nat → List Nat × List (Nat × Oper × Nat)
  | [], _ => ([], [])
  | (i, o, b) :: l, left => match takeNow l left with
    | (a, r) => match !isBig o && Nat.beq (b &&& left) 0 with
      | true => (i :: a, r)
      | false => (a, (i, o, b) :: r)
def takeBig : List (Nat × Oper × Nat) → Option (Nat × List (Nat × Oper × Nat))
  | [] => none
  | (i, o, b) :: l => match isBig o with
    | true => some (i, l)
    | false => match takeBig l with
      | some (j, r) => some (j, (i, o, b) :: r)
      | none => none
def order : Nat → Nat → List (Nat × Oper × Nat) → List Nat
  | 0, _, _ => []
  | n + 1, left, l => match takeNow l left with
    | (a, r) => match takeBig r with
      | some (g, r) => a ++ g :: order n (left - 2 ^ g) r
      | none => a
def bigMask : Nat → List Oper → Nat
  | _, [] => 0
  | i, o :: l => match isBig o with
    | true => 2 ^ i + bigMask (i + 1) l
    | false => bigMask (i + 1) l
def numbered : Nat → List Oper → List Nat → List (Nat × Oper × Nat)
  | i, o :: l, b :: bs => (i, o, b) :: numbered (i + 1) l bs
  | _, _, _ => []
def orderOf (ops : List Oper) (bs : List Nat) : List Nat := order (ops.length + 1) (bigMask 0 ops) (numbered 0 ops bs)
def evDraw (cx : Cx) (self : Self) (ops : List Oper) (bs : List Nat) : List Nat → Nat → RS → COut
  | [], done, rs => match Nat.beq (done + 1) (2 ^ ops.length) with
    | true => .ok (.normal, rs.fr, { rs.st with h := allMk rs.mm (allSm rs.sm rs.st.h) })
    | false => .stuck "draw: not all"
  | i :: rest, done, rs => match nth ops i, nth bs i with
    | some o, some b => match within b done && allIn b rs.bigs && !Nat.testBit done i with
      | true => wantedV rs.st ops rs.fr.tm o fun st w =>
        match w with
        | false => putK rs.fr.tm o.dst .undef fun tm => evDraw cx self ops bs rest (done ||| 2 ^ i) { rs with st := st, fr := { rs.fr with tm := tm } }
        | true => drawStep cx self i o b rs st (allDep bs i rest && Nat.beq (doneAt rest (done ||| 2 ^ i) + 1) (2 ^ ops.length)) (evDraw cx self ops bs rest (done ||| 2 ^ i))
      | false => .stuck "draw: two calls"
    | _, _ => .stuck "draw"

def drawn (cx : Cx) (self : Self) (ops : List Oper) (bs : List Nat) (fr : Fr) (st : St) : COut :=
  evDraw cx self ops bs (orderOf ops bs) 0 { fr := fr, st := st, sm := [], mm := none, bigs := [], reads := [] }
/-! ### Code -/
def resultV (cx : Cx) (tm : List V) (h : H) : ResultVar → Option V
  | .tmp t => match nth tm t with
    | some v => some v
    | none => some .undef
  | .cell a t => match cx.tt.get t, nth tm a with
    | some td, some (.ptr b off) => match cellsAt h b off td.size with
      | some cs => if td.agg then some (.agg cs) else (match cs with | [v] => some v | _ => none)
      | none => none
    | _, _ => none
def resultsV (cx : Cx) (tm : List V) (h : H) : List ResultVar → Option (List V)
  | [] => some []
  | r :: rs => match resultV cx tm h r, resultsV cx tm h rs with
    | some v, some vs => some (v :: vs)
    | _, _ => none
def resultOf (cx : Cx) (fn : Func) (tm : List V) (h : H) : Option V :=
  match resultsV cx tm h fn.results.toList with
  | some [v] => some v
  | some vs => some (.tuple vs)
  | none => none
/-- Leaving: the marks of ranges over functions are taken, deferred functions do what is told of them. -/
def leave (cx : Cx) (fn : Func) (tm : List V) : Option V → List SDef → St → EOut
  | e, [], st => match e with
    | none => match resultOf cx fn tm st.h with
      | some v => .ok (.ret v, st)
      | none => .stuck "results"
    | some p => .ok (.panic p, st)
  | e, .mark b :: ds, st => match st.h.get b with
    | some (.deferred (some [])) => leave cx fn tm e ds { st with h := st.h.set b (.deferred none) }
    | _ => .stuck "mark"
  | e, .fn f cap args :: ds, st => match f with
    | .func g => match cx.dm g with
      | some s => (s (args ++ cap) st e).bind fun (e', st') => leave cx fn tm e' ds st'
      | none => .stuck "deferred call"
    | _ => .stuck "deferred call"
def evCall (cx : Cx) (self : Self) (f : FuncId) (args : List V) (st : St) : EOut :=
  match cx.sm f with
  | some s => (s args st).bind fun (v, st) => .ok (.ret v, st)
  | none =>
    match cx.ft.get f with
    | none => .stuck "no function"
    | some fn =>
      match fn.body with
      | none => .stuck "no body"
      | some body =>
        (self.code none body { tm := args ++ List.replicate (fn.ntmps - args.length) .undef, df := [] } st).bind fun (e, fr, st) =>
          match e with
          | .normal => leave cx fn fr.tm none fr.df st
          | .ret => leave cx fn fr.tm none fr.df st
          | .panic v => leave cx fn fr.tm (some v) fr.df st
          | .die v => match fr.df with
            | [] => .ok (.panic v, st)
            | _ => .stuck "die"
          | .exit _ => .stuck "exit"
def rangeGo (self : Self) (rnd : Option Nat) (g : FuncId) (first cap : List V) (params : Array Tmp) (assign body : Code) (tm : List V) (df : List SDef) (D : Nat) (st : St) : COut :=
  (self.call g (first ++ .yield st.n :: cap) (newObj st (.loop .ready none tm params assign body D))).bind fun (e, st1) =>
    match e with
    | .panic _ => .stuck "panic out of a range"
    | .ret _ =>
      match st1.h.get st.n with
      | some (.loop state pending tmps params assign body D) =>
        match state with
        | .busy => .stuck "loop busy"
        | _ =>
          match pending with
          | none => .ok (.normal, { tm := tm, df := df }, { st1 with h := st1.h.set st.n (.loop .exhausted none tmps params assign body D) })
          | some c => self.code rnd c { tm := tm, df := df } { st1 with h := st1.h.set st.n (.loop .exhausted (some c) tmps params assign body D) }
      | _ => .stuck "loop"
def evRange (cx : Cx) (self : Self) (rnd : Option Nat) (f : Operand) (params : Array Tmp) (assign body : Code) (fr : Fr) (st : St) : COut :=
  match evO cx fr.tm f with
  | some (.func (.func g) first cap) =>
    match cx.ft.get g with
    | none => .stuck "range: unknown function"
    | some _ =>
      match rnd with
      | some l => match st.h.get l with
        | some (.loop _ _ _ _ _ _ D) => rangeGo self rnd g first cap params assign body fr.tm fr.df D st
        | _ => .stuck "loop"
      | none => rangeGo self rnd g first cap params assign body fr.tm (.mark st.n :: fr.df) st.n (newObj st (.deferred (some [])))
  | _ => .stuck "range over what?"
def evCode (cx : Cx) (self : Self) (rnd : Option Nat) (c : Code) (fr : Fr) (st : St) : COut :=
  match c with
  | .skip => .ok (.normal, fr, st)
  | .label _ => .ok (.normal, fr, st)
  | .exit id => .ok (.exit id, fr, st)
  | .ret => .ok (.ret, fr, st)
  | .seq a b => (self.code rnd a fr st).bind fun (e, fr, st) =>
    match e with
    | .normal => self.code rnd b fr st
    | .exit id => .ok (.exit id, fr, st)
    | .ret => .ok (.ret, fr, st)
    | .panic v => .ok (.panic v, fr, st)
    | .die v => .ok (.die v, fr, st)
  | .cond c x y => match evO cx fr.tm c with
    | some (.bool b) => split st b fun st t => match t with
      | true => self.code rnd x fr st
      | false => self.code rnd y fr st
    | _ => .stuck "cond"
  | .block id body => (self.code rnd body fr st).bind fun (e, fr, st) =>
    match e with
    | .exit i => match Nat.beq i id with
      | true => .ok (.normal, fr, st)
      | false => .ok (.exit i, fr, st)
    | .normal => .ok (.normal, fr, st)
    | .ret => .ok (.ret, fr, st)
    | .panic v => .ok (.panic v, fr, st)
    | .die v => .ok (.die v, fr, st)
  | .loop body => self.loop rnd body fr st
  | .scope body => self.code rnd body fr st
  | .region _ ops draw =>
    match draw with
    | false => evOps cx self rnd ops.toList ops.toList fr st
    | true => if drawOk ops.toList then drawn cx self ops.toList (befs ops.toList []) fr st else .stuck "draw: temporaries"
  | .rangeFunc f params assign body => evRange cx self rnd f params assign body fr st
  | _ => .stuck "code"
def evLoop (self : Self) (rnd : Option Nat) (body : Code) (fr : Fr) (st : St) : COut :=
  (self.code rnd body fr st).bind fun (e, fr, st) =>
    match e with
    | .normal => self.loop rnd body fr st
    | .exit id => .ok (.exit id, fr, st)
    | .ret => .ok (.ret, fr, st)
    | .panic v => .ok (.panic v, fr, st)
    | .die v => .ok (.die v, fr, st)

/-! ### Ways that are joined -/
def sdefBeq : SDef → SDef → Bool
  | .fn (.func f) a b, .fn (.func g) c d => Nat.beq f g && V.beqs a c && V.beqs b d
  | .mark b, .mark c => Nat.beq b c
  | _, _ => false
def sdefsBeq : List SDef → List SDef → Bool
  | [], [] => true
  | a :: l, b :: m => sdefBeq a b && sdefsBeq l m
  | _, _ => false
def optBeq : Option Nat → Option Nat → Bool
  | none, none => true
  | some a, some b => Nat.beq a b
  | _, _ => false
def joinEs (c : X) : List (V × V) → List (V × V) → Option (List (V × V))
  | [], [] => some []
  | (k, v) :: l, (j, u) :: m => match k.beq j with
    | true => match joinEs c l m with
      | some r => some ((k, joinV c v u) :: r)
      | none => none
    | false => none
  | _, _ => none
def joinObj (c : X) : SObj → SObj → Option SObj
  | .cells l e w, .cells m e' w' => match Nat.beq e e', optBeq w w' with
    | true, true => match joinVs c l m with
      | some r => some (.cells r e w)
      | none => none
    | _, _ => none
  | .map es, .map es' => match joinEs c es es' with
    | some r => some (.map r)
    | none => none
  | .deferred (some []), .deferred (some []) => some (.deferred (some []))
  | .deferred none, .deferred none => some (.deferred none)
  | .ro t l, .ro t' m => match Nat.beq t t', V.beqs l m with
    | true, true => some (.ro t l)
    | _, _ => none
  | .win t l n es, .win t' m n' es' => match Nat.beq t t', V.beqs l m with
    | true, true => match n.beq n', Nat.beq es es' with
      | true, true => some (.win t l n es)
      | _, _ => none
    | _, _ => none
  | _, _ => none
def joinO (c : X) : Option SObj → Option SObj → Option (Option SObj)
  | some a, some b => match joinObj c a b with
    | some r => some (some r)
    | none => none
  | _, _ => some none
def joinT (c : X) : H → H → Option H
  | .node l v r, .node l' v' r' => match joinO c v v' with
    | none => none
    | some v => match joinT c l l' with
      | none => none
      | some l => match joinT c r r' with
        | none => none
        | some r => some (.node l v r)
  | _, _ => some .nil
def maxN (a b : Nat) : Nat := match Nat.ble a b with
  | true => b
  | false => a
def joinSt (pc : PC) (c : X) (a b : St) : Option St := match joinT c a.h b.h with
  | some h => some { h := h, n := maxN a.n b.n, pc := pc }
  | none => none
def exSame : Ex → Ex → Bool
  | .normal, .normal => true
  | .exit i, .exit j => Nat.beq i j
  | .ret, .ret => true
  | _, _ => false
def forceLV {β : Type} : List V → (List V → β) → β
  | [], k => k []
  | v :: l, k => forceV v fun v => forceLV l fun l => k (v :: l)
def joinC1 (pc : PC) (c : X) (a b : Ex × Fr × St) : Option (Ex × Fr × St) :=
  match a, b with
  | (e, fr, st), (e', fr', st') => match exSame e e', sdefsBeq fr.df fr'.df with
    | true, true => match joinVs c fr.tm fr'.tm with
      | some tm => match joinSt pc c st st' with
        | some st => forceLV tm fun tm => some (e, { tm := tm, df := fr.df }, st)
        | none => none
      | none => none
    | _, _ => none
def joinE1 (pc : PC) (c : X) (a b : En × St) : Option (En × St) :=
  match a, b with
  | (.ret v, st), (.ret u, st') => match joinV c v u with
    | v => match v.isIte with
      | true => none
      | false => match joinSt pc c st st' with
        | some st => some (.ret v, st)
        | none => none
  | _, _ => none
def mergeR {α : Type} (j : PC → X → α → α → Option α) : PC → R α → R α
  | _, .ok a => .ok a
  | _, .stuck s => .stuck s
  | pc, .br c t f => match mergeR j ((c, true) :: pc) t, mergeR j ((c, false) :: pc) f with
    | .ok a, .ok b => match j pc c a b with
      | some r => .ok r
      | none => .br c (.ok a) (.ok b)
    | t, f => .br c t f
def joins : Code → Bool
  | .cond _ _ _ => true
  | .block _ _ => true
  | _ => false
def anyIte : List V → Bool
  | [] => false
  | v :: l => match v with
    | .ite _ _ _ => true
    | _ => anyIte l
def regTmps : List Oper → List Nat
  | [] => []
  | o :: l => tmpsOf o.op.operands.toList ++ regTmps l
def topTmps : Code → List Nat
  | .cond c _ _ => tmpsOf [c]
  | .region _ ops _ => regTmps ops.toList
  | .rangeFunc f _ _ _ => tmpsOf [f]
  | _ => []
def openTmps (st : St) (tm : List V) : List Nat → (St → List V → COut) → COut
  | [], k => k st tm
  | t :: ts, k => match nth tm t with
    | some v => match v.isIte with
      | true => splitV 100 st v fun st v => openTmps st (setN tm t v) ts k
      | false => openTmps st tm ts k
    | none => openTmps st tm ts k
def evCodeM (cx : Cx) (self : Self) (rnd : Option Nat) (c : Code) (fr : Fr) (st : St) : COut :=
  match cx.mg with
  | false => evCode cx self rnd c fr st
  | true => match joins c with
    | true => mergeR joinC1 st.pc (match anyIte fr.tm with
      | true => openTmps st fr.tm (topTmps c) fun st tm => evCode cx self rnd c { tm := tm, df := fr.df } st
      | false => evCode cx self rnd c fr st)
    | false => match anyIte fr.tm with
      | true => openTmps st fr.tm (topTmps c) fun st tm => evCode cx self rnd c { tm := tm, df := fr.df } st
      | false => evCode cx self rnd c fr st
def evCallM (cx : Cx) (self : Self) (f : FuncId) (args : List V) (st : St) : EOut :=
  match cx.mg with
  | false => evCall cx self f args st
  | true => mergeR joinE1 st.pc (evCall cx self f args st)
def ev (cx : Cx) : Nat → Self
  | 0 => { code := fun _ _ _ _ => .stuck "fuel", loop := fun _ _ _ _ => .stuck "fuel", call := fun _ _ _ => .stuck "fuel" }
  | n + 1 => { code := evCodeM cx (ev cx n), loop := evLoop (ev cx n), call := evCallM cx (ev cx n) }
end
end Go.Proofs.YtcachlbljjpjdaaGreatDoor
