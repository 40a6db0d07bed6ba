/- Symbolic execution: the evaluator once more, its frames as tries (plain functions; nothing is proved of them here). No condition. -/
import Derived.Test.YtmickljjofbmiaaGreatDoorFwA
namespace Go.Proofs.YtmickljjofbmiaaGreatDoor
open Go
noncomputable section
structure Tm where
 n:Nat
 t:T V
def T.look{α:Type}(t:T α):List Bool→Option α:=
 T.rec (motive:=fun _=>List Bool→Option α) (fun _=>none)
  (fun _ v _ il ir bs=>List.rec (motive:=fun _=>Option α) v (fun b bs' _=>Bool.rec (motive:=fun _=>Option α) (il bs') (ir bs') b) bs) t
def T.newK{α β:Type}(bs:List Bool):α→(T α→β)→β:=
 List.rec (motive:=fun _=>α→(T α→β)→β) (fun v k=>k (.node .nil (some v) .nil))
  (fun b _ ih v k=>Bool.rec (motive:=fun _=>β) (ih v fun x=>k (.node x none .nil)) (ih v fun x=>k (.node .nil none x)) b) bs
def T.putK{α β:Type}(t:T α):List Bool→α→(T α→β)→β:=
 T.rec (motive:=fun _=>List Bool→α→(T α→β)→β) (fun bs v k=>T.newK bs v k)
  (fun l u r il ir bs v k=>List.rec (motive:=fun _=>β) (k (.node l (some v) r)) (fun b bs' _=>Bool.rec (motive:=fun _=>β) (il bs' v fun x=>k (.node x u r)) (ir bs' v fun x=>k (.node l u x)) b) bs) t
def Tm.val(m:Tm)(i:Nat):V:=match T.look m.t (bitsOf i) with
 | some v=>v
 | none=>.undef
def Tm.get(m:Tm)(i:Nat):Option V:=match Nat.blt i m.n with
 | true=>some (m.val i)
 | false=>none
def Tm.l(m:Tm):List V:=(List.range m.n).map m.val
def Tm.setK{β:Type}(m:Tm)(i:Nat)(v:V)(k:Tm→β):β:=match m with
 | ⟨n,t⟩=>T.putK t (bitsOf i) v fun t=>k ⟨n,t⟩
def Tm.set(m:Tm)(i:Nat)(v:V):Tm:=m.setK i v fun m=>m
def Tm.putD(m:Tm)(d:Option Tmp)(v:V):Tm:=match d with
 | some d=>m.set d v
 | none=>m
def putKT{β:Type}(m:Tm)(d:Option Tmp)(v:V)(k:Tm→β):β:=match d with
 | none=>k m
 | some d=>m.setK d v k
def fillT{β:Type}:Nat→List V→T V→(T V→β)→β
 | _,[],t,k=>k t
 | i,v::l,t,k=>forceV v fun v=>T.putK t (bitsOf i) v fun t=>fillT (i+1) l t k
def Tm.of(l:List V):Tm:=fillT 0 l .nil fun t=>⟨l.length,t⟩
def Tm.start(n:Nat)(args:List V):Tm:=fillT 0 args .nil fun t=>⟨args.length+(n-args.length),t⟩
inductive FV where
 | int (k:IntKind) (x:X)
 | bool (x:X)
 | other
def V.isIteR(v:V):Bool:=V.rec (motive_1:=fun _=>Bool) (motive_2:=fun _=>Unit) (fun _ _=>false) (fun _=>false) (fun _=>false) (fun _ _=>false) false (fun _ _ _ _=>false) false (fun _=>false) false (fun _ _ _ _ _=>false) (fun _=>false) false (fun _ _ _=>false) false (fun _ _=>false) (fun _ _=>false) (fun _ _=>false) (fun _ _ _ _=>false) (fun _ _ _ _ _=>true) (fun _ _ _ _=>false) (fun _ _ _ _=>false) (fun _ _ _ _ _ _=>false) (fun _ _ _ _ _=>false) (fun _=>true) () (fun _ _ _ _=>()) v
def V.fv(v:V):FV:=V.rec (motive_1:=fun _=>FV) (motive_2:=fun _=>Unit) (fun k x=>.int k x) (fun x=>.bool x) (fun _=>.other) (fun _ _=>.other) .other (fun _ _ _ _=>.other) .other (fun _=>.other) .other (fun _ _ _ _ _=>.other) (fun _=>.other) .other (fun _ _ _=>.other) .other (fun _ _=>.other) (fun _ _=>.other) (fun _ _=>.other) (fun _ _ _ _=>.other) (fun _ _ _ _ _=>.other) (fun _ _ _ _=>.other) (fun _ _ _ _=>.other) (fun _ _ _ _ _ _=>.other) (fun _ _ _ _ _=>.other) (fun _=>.other) () (fun _ _ _ _=>()) v
abbrev X.litO (x:X):Option Int:=litI x
def forceXT{β:Type}(x:X)(k:X→β):β:=match x.litO with
 | some n=>forceI n fun n=>k (.lit n)
 | none=>k x
def forceVT{β:Type}(v:V)(k:V→β):β:=match v.fv with
 | .int a x=>forceXT x fun x=>k (.int a x)
 | .bool x=>forceXT x fun x=>k (.bool x)
 | .other=>k v
def orU:Option V→V
 | some v=>v
 | none=>.undef
def joinOV{β:Type}(c:X)(a b:Option V)(k:Option V→β):β:=match a with
 | none=>match b with
  | none=>k none
  | some b=>forceV (joinV c .undef b) fun v=>k (some v)
 | some a=>forceV (joinV c a (orU b)) fun v=>k (some v)
def joinN{β:Type}(c:X):T V→(T V→β)→β
 | .nil,k=>k .nil
 | .node l v r,k=>joinOV c none v fun v=>joinN c l fun l=>joinN c r fun r=>k (.node l v r)
def joinM{β:Type}(c:X):T V→(T V→β)→β
 | .nil,k=>k .nil
 | .node l v r,k=>joinOV c v none fun v=>joinM c l fun l=>joinM c r fun r=>k (.node l v r)
def joinTT{β:Type}(c:X):T V→T V→(T V→β)→β
 | .nil,t,k=>joinN c t k
 | .node l v r,t,k=>match t with
  | .nil=>joinM c (.node l v r) k
  | .node l' v' r'=>joinOV c v v' fun v=>joinTT c l l' fun l=>joinTT c r r' fun r=>k (.node l v r)
def joinTm(c:X)(a b:Tm):Option Tm:=match a with
 | ⟨n,t⟩=>match b with
  | ⟨m,u⟩=>match Nat.beq n m with
   | true=>joinTT c t u fun t=>some ⟨n,t⟩
   | false=>none
def evOT(cx:Cx)(tm:Tm):Operand→Option V
 | .tmp t=>match tm.get t with
  | some v=>match v.isIteR with
   | true=>none
   | false=>some v
  | none=>some .undef
 | .const v=>ofValue v
 | .global g=>if Nat.blt g cx.ng then some (.ptr g 0) else none
 | .func f=>some (.func (.func f) [] [])
def evOAT(cx:Cx)(tm:Tm)(o:Operand):Option V:=match evOT cx tm o with
 | some v=>some v
 | none=>match o with
  | .tmp t=>match tm.get t with
   | some v=>match v with
    | .any k=>some (.any k)
    | _=>none
   | none=>none
  | _=>none
def evPartsT(cx:Cx)(tm:Tm):List (Nat×Operand)→Option (List (Nat×V))
 | []=>some []
 | (i,o)::l=>match evOT cx tm o,evPartsT cx tm l with
  | some v,some r=>some ((i,v)::r)
  | _,_=>none
def evArgsT(cx:Cx)(tm:Tm):List Operand→Option (List V)
 | []=>some []
 | o::l=>match evOT cx tm o,evArgsT cx tm l with
  | some v,some r=>some (v::r)
  | _,_=>none
def evArgsAT(cx:Cx)(tm:Tm):List Operand→Option (List V)
 | []=>some []
 | o::l=>match evOAT cx tm o,evArgsAT cx tm l with
  | some v,some r=>some (v::r)
  | _,_=>none
def oPickT(cx:Cx)(tm:Tm)(st:St)(c a b:Operand):Res:=
 match evOT cx tm c,evOT cx tm a,evOT cx tm b with
 | some c,some a,some b=>match c with
  | .bool x=>match decAtom st.pc x with
   | some t=>okv st (match t with | true=>a | false=>b)
   | none=>match evPick c a b with
    | some v=>okv st v
    | none=>split st x fun st t=>okv st (match t with | true=>a | false=>b)
  | _=>.stuck "pick"
 | _,_,_=>.stuck "pick"
def oBoxT(cx:Cx)(tm:Tm)(st:St)(t:TypeId)(x:Operand):Res:=
 match evOT cx tm x with
 | some v=>.ok (.val (.ptr st.n 0),newObj st (.cells v.cells t none))
 | none=>.stuck "box"
def oBuildT(cx:Cx)(tm:Tm)(st:St)(t:TypeId) (parts:Array (Nat×Operand)):Res:=
 match cx.tt.get t,evPartsT cx tm parts.toList with
 | some td,some ps=>match fillV (placeOf cx.tt td.d) td.zero ps with
  | some cells=>match knownParts cx.tt td.d with
   | true=>okv st (.agg cells)
   | false=>.stuck "build"
  | none=>.stuck "build"
 | _,_=>.stuck "build"
def oBuildSliceT(cx:Cx)(tm:Tm)(st:St)(t:TypeId)(len:Nat) (parts:Array (Nat×Operand)):Res:=
 match cx.tt.get t,evPartsT cx tm parts.toList with
 | some td,some ps=>match td.d with
  | .slice elem=>match cx.tt.get elem with
   | some ed=>match Nat.ble (len*ed.size) 100000 with
    | true=>match fillV (fun i=>some (i*ed.size,ed.size)) (repeatL ed.zero len) ps with
     | some cells=>.ok (.val (.slice st.n 0 len (.known len)),newObj st (.cells cells elem none))
     | none=>.stuck "buildSlice"
    | false=>.stuck "buildSlice: long"
   | none=>.stuck "buildSlice"
  | _=>.stuck "buildSlice"
 | _,_=>.stuck "buildSlice"
def oLoadT(cx:Cx)(tm:Tm)(st:St)(t:TypeId)(a:Operand):Res:=
 match cx.tt.get t,evOT cx tm a with
 | some td,some (.sptr b off n i)=>match td.agg,Nat.beq td.size 1 with
  | false,true=>match cellsAt st.h b off n with
   | some cs=>ranged st i n fun st=>optv st (selV i cs) "load"
   | none=>.stuck "load: no such cells"
  | _,_=>.stuck "load: not one cell"
 | some td,some (.xptr w b i es c)=>xLoad st td w b i es c
 | some td,some (.wptr b off)=>match winAt st.h st.pc b off td.size with
  | some cs=>match td.agg with
   | true=>okv st (.agg cs)
   | false=>match cs with
    | [v]=>okv st v
    | _=>.stuck "load"
  | none=>.stuck "load: no such cells"
 | some td,some (.ptr b off)=>match cellsAt st.h b off td.size with
  | some cs=>match td.agg with
   | true=>okv st (.agg cs)
   | false=>match cs with
    | [v]=>okv st v
    | _=>.stuck "load"
  | none=>.stuck "load: no such cells"
 | _,_=>.stuck "load"
def oStoreT(cx:Cx)(tm:Tm)(st:St)(t:TypeId)(a x:Operand):Res:=
 match cx.tt.get t,evOT cx tm a,evOT cx tm x with
 | some td,some (.sptr b off n i),some v=>match Nat.beq v.cells.length td.size,Nat.beq td.size 1 with
  | true,true=>match v.cells with
   | [u]=>match cellsAt st.h b off n with
    | some cs=>ranged st i n fun st=>match putAt st.h b off (symPut i u 0 cs) with
     | some h=>match u.one with
      | true=>.ok (.skip,{st with h:=h})
      | false=>.stuck "store: size"
     | none=>.stuck "store: no such cells"
    | none=>.stuck "store: no such cells"
   | _=>.stuck "store: size"
  | _,_=>.stuck "store: size"
 | some td,some (.xptr w b i es c),some v=>xStore st td w b i es c v
 | some td,some (.ptr b off),some v=>match Nat.beq v.cells.length td.size with
  | true=>match putAt st.h b off v.cells with
   | some h=>.ok (.skip,{st with h:=h})
   | none=>.stuck "store: no such cells"
  | false=>.stuck "store: size"
 | _,_,_=>.stuck "store"
def oNilCheckT(cx:Cx)(tm:Tm)(st:St)(x:Operand):Res:=
 match evOT cx tm x with
 | some (.ptr b off)=>okv st (.ptr b off)
 | some (.sptr b off n i)=>okv st (.sptr b off n i)
 | some (.func (.func f) first cap)=>okv st (.func (.func f) first cap)
 | some (.yield l)=>okv st (.yield l)
 | some (.iface t v)=>okv st (.iface t v)
 | some (.slice b off len cap)=>okv st (.slice b off len cap)
 | some (.xptr w b i es c)=>okv st (.xptr w b i es c)
 | some (.xslice w b off es len cap)=>okv st (.xslice w b off es len cap)
 | _=>.stuck "nilCheck"
def oBinT(cx:Cx)(tm:Tm)(st:St)(op:BinOp)(t:TypeId)(x y:Operand):Res:=
 match evOT cx tm x,evOT cx tm y with
 | some a,some b=>match twoNil a b,isConst y with
  | true,true=>nilBin cx st op t
  | _,_=>evBin cx st op t a b
 | _,_=>.stuck "binop operand"
def oUnT(cx:Cx)(tm:Tm)(st:St)(op:UnOp)(x:Operand):Res:=
 match evOT cx tm x with
 | some a=>evUn st op a
 | none=>.stuck "unop"
def oConvertT(cx:Cx)(tm:Tm)(st:St)(src dst:TypeId)(x:Operand):Res:=
 match evOT cx tm x with
 | some a=>match a with
  | .xslice w b off es len _=>xText cx st src dst w b off es len
  | a=>evConvert cx st src dst a
 | none=>.stuck "convert"
def oIfaceT(cx:Cx)(tm:Tm)(st:St)(t:TypeId)(x:Operand):Res:=
 match cx.tt.get t,evOT cx tm x with
 | some td,some v=>match td.d with
  | .interface _=>.stuck "makeInterface"
  | _=>okv st (.iface t v)
 | _,_=>.stuck "makeInterface"
def oFuncT(cx:Cx)(tm:Tm)(st:St)(fn:Fn)(first captured:Array Operand):Res:=
 match fn,evArgsT cx tm first.toList,evArgsT cx tm captured.toList with
 | .func f,some a,some b=>okv st (.func (.func f) a b)
 | _,_,_=>.stuck "makeFunc"
def oMapT(cx:Cx)(tm:Tm)(st:St)(t:TypeId)(r:Option Operand):Res:=
 match cx.tt.get t with
 | some td=>match td.d with
  | .map _ _=>match r with
   | none=>.ok (.val (.map st.n),newObj st (.map []))
   | some x=>match evOT cx tm x with
    | some (.int _ _)=>.ok (.val (.map st.n),newObj st (.map []))
    | _=>.stuck "makeMap"
  | _=>.stuck "makeMap"
 | none=>.stuck "makeMap"
def oMakeSlice0T(cx:Cx)(tm:Tm)(st:St)(t:TypeId)(l c:Operand):Res:=
 match cx.tt.get t,(evOT cx tm l).bind litNat,(evOT cx tm c).bind litNat with
 | some td,some l,some c=>match td.d with
  | .slice elem=>match cx.tt.get elem with
   | some ed=>match Nat.ble l c&&Nat.ble (c*(ed.bytes+1)) 1000000000 with
    | true=>.ok (.val (.slice st.n 0 l (.known c)),newObj st (.cells (repeatL ed.zero c) elem none))
    | false=>.stuck "makeSlice: long"
   | none=>.stuck "makeSlice"
  | _=>.stuck "makeSlice"
 | _,_,_=>.stuck "makeSlice"
def oMakeSliceT(cx:Cx)(tm:Tm)(st:St)(t:TypeId)(l c:Operand):Res:=
 match (evOT cx tm l).bind intV,(evOT cx tm c).bind openV with
 | some x,some y=>match cx.tt.get t with
  | some td=>match td.d with
   | .slice elem=>match cx.tt.get elem with
    | some ed=>xMake st elem ed x y
    | none=>.stuck "makeSlice"
   | _=>.stuck "makeSlice"
  | none=>.stuck "makeSlice"
 | _,_=>oMakeSlice0T cx tm st t l c
def evOptT(cx:Cx)(tm:Tm):Option Operand→Option (Option V)
 | none=>some none
 | some o=>match evOT cx tm o with
  | some v=>some (some v)
  | none=>none
def oSliceT(cx:Cx)(tm:Tm)(st:St)(t:TypeId)(x:Operand)(lo hi mx:Option Operand):Res:=
 match evOT cx tm x,evOptT cx tm lo,evOptT cx tm hi,evOptT cx tm mx with
 | some v,some lo,some hi,some mx=>match v with
  | .xslice w b off es len cap=>xSlice cx st t w b off es len cap lo hi mx
  | v=>evSlice cx st t v lo hi mx
 | _,_,_,_=>.stuck "slice operand"
def oFieldAddrT(cx:Cx)(tm:Tm)(st:St)(t:TypeId)(x:Operand)(f:Nat):Res:=
 match cx.tt.get t,evOT cx tm x with
 | some td,some (.ptr b off)=>match td.d with
  | .struct fields=>match nth fields.toList f with
   | some fd=>match cx.tt.get fd.type with
    | some d=>match Nat.beq d.size 0 with
     | true=>.stuck "fieldAddr: no size"
     | false=>okv st (.ptr b (off+fd.offset))
    | none=>.stuck "fieldAddr"
   | none=>.stuck "fieldAddr"
  | _=>.stuck "fieldAddr"
 | some td,some (.xptr w b i es c)=>match td.d with
  | .struct fields=>match nth fields.toList f with
   | some fd=>match cx.tt.get fd.type with
    | some d=>match Nat.beq d.size 0 with
     | true=>.stuck "fieldAddr: no size"
     | false=>okv st (.xptr w b i es (c+fd.offset))
    | none=>.stuck "fieldAddr"
   | none=>.stuck "fieldAddr"
  | _=>.stuck "fieldAddr"
 | _,_=>.stuck "fieldAddr"
def oFieldT(cx:Cx)(tm:Tm)(st:St)(t:TypeId)(x:Operand)(f:Nat):Res:=
 match cx.tt.get t,evOT cx tm x with
 | some td,some (.agg cs)=>match td.d with
  | .struct fields=>match nth fields.toList f with
   | some fd=>optv st (partV cx.tt fd.type cs fd.offset) "field"
   | none=>.stuck "field"
  | _=>.stuck "field"
 | _,_=>.stuck "field"
def oIndexAddrT(cx:Cx)(tm:Tm)(st:St)(t:TypeId)(x ix:Operand):Res:=
 match cx.tt.get t,evOT cx tm x,evOT cx tm ix with
 | some td,some v,some (.int _ i)=>match td.d,v with
  | .array len elem,.ptr b off=>match cx.tt.get elem with
   | some ed=>match openIx cx i ed with
    | true=>ranged st i len fun st=>okv st (.sptr b off len i)
    | false=>index st i len fun st n=>okv st (.ptr b (off+n*ed.size))
   | none=>.stuck "indexAddr"
  | .slice elem,.slice b off len _=>match cx.tt.get elem with
   | some ed=>match openIx cx i ed with
    | true=>ranged st i len fun st=>okv st (.sptr b off len i)
    | false=>index st i len fun st n=>okv st (.ptr b (off+n*ed.size))
   | none=>.stuck "indexAddr"
  | .slice elem,.xslice w b off es len _=>match cx.tt.get elem with
   | some ed=>xIndexAddr st w b off es len i ed.size
   | none=>.stuck "indexAddr"
  | .slice elem,.wslice b off len _=>match cx.tt.get elem,i with
   | some ed,.lit (.ofNat n)=>split st (mkLt (.lit (.ofNat n)) len) fun st t=>match t with
    | true=>okv st (.wptr b (off+n*ed.size))
    | false=>.stuck "index out of range"
   | _,_=>.stuck "indexAddr"
  | _,_=>.stuck "indexAddr"
 | _,_,_=>.stuck "indexAddr"
def oIndexT(cx:Cx)(tm:Tm)(st:St)(t:TypeId)(x ix:Operand):Res:=
 match cx.tt.get t,evOT cx tm x,evOT cx tm ix with
 | some td,some v,some (.int _ i)=>match td.d,v with
  | .array len elem,.agg cs=>match cx.tt.get elem with
   | some ed=>match openIx cx i ed with
    | true=>match takeN len cs with
     | some l=>ranged st i len fun st=>optv st (selV i l) "index"
     | none=>.stuck "index"
    | false=>index st i len fun st n=>optv st (partV cx.tt elem cs (n*ed.size)) "index"
   | none=>.stuck "index"
  | .string,.str (.slit l)=>index st i l.length fun st n=>okv st (.int .u8 (.lit ((((nth l n).getD 0) % 256:Nat):Int)))
  | _,_=>.stuck "index"
 | _,_,_=>.stuck "index"
def oLookupT(cx:Cx)(tm:Tm)(st:St)(t:TypeId)(x ix:Operand)(ok:Bool):Res:=
 match evOT cx tm x,evOT cx tm ix with
 | some x,some ix=>evLookup cx st t x ix ok
 | _,_=>.stuck "lookup"
def oUpdateT(cx:Cx)(tm:Tm)(st:St)(t:TypeId)(m k x:Operand):Res:=
 match evOT cx tm m,evOT cx tm k,evOT cx tm x with
 | some m,some k,some x=>evMapUpdate cx st t m k x
 | _,_,_=>.stuck "update"
def oAssertT(cx:Cx)(tm:Tm)(st:St)(x:Operand)(asserted:TypeId)(ok:Bool):Res:=
 match cx.tt.get asserted,evOT cx tm x with
 | some td,some v=>match td.d,v with
  | .interface _,_=>.stuck "typeAssert"
  | _,.iface t v=>match Nat.beq t asserted,ok with
   | true,true=>okv st (.tuple [v,.bool (.lit 1)])
   | true,false=>okv st v
   | false,true=>match zeroV td with
    | some z=>okv st (.tuple [z,.bool (.lit 0)])
    | none=>.stuck "typeAssert"
   | false,false=>.stuck "typeAssert fails"
  | _,.niliface=>match ok with
   | true=>match zeroV td with
    | some z=>okv st (.tuple [z,.bool (.lit 0)])
    | none=>.stuck "typeAssert"
   | false=>.stuck "typeAssert fails"
  | _,_=>.stuck "typeAssert"
 | _,_=>.stuck "typeAssert"
def oExtractT(cx:Cx)(tm:Tm)(st:St)(x:Operand)(i:Nat):Res:=
 match evOT cx tm x with
 | some (.tuple l)=>optv st (nth l i) "extract"
 | _=>.stuck "extract"
def oCallT(cx:Cx)(tm:Tm)(st:St)(c:Call):Res:=
 match c.callee with
 | .value f=>match evOT cx tm f with
  | some (.func (.func g) first cap)=>match evArgsAT cx tm c.args.toList with
   | some args=>match cx.ft.get g with
    | some _=>.ok (.enter g (first++args++cap),st)
    | none=>.stuck "call: unknown function"
   | none=>.stuck "call"
  | some (.yield l)=>match evArgsT cx tm c.args.toList with
   | some args=>.ok (.round l args,st)
   | none=>.stuck "call"
  | _=>.stuck "call"
 | .builtin b=>match evArgsT cx tm c.args.toList with
  | some args=>evBuiltin cx st b c.argTypes.toList args
  | none=>.stuck "builtin"
 | .invoke _ _=>.stuck "invoke"
def oDeferT(cx:Cx)(tm:Tm)(st:St)(c:Call):Res:=
 match c.callee with
 | .value f=>match evOT cx tm f,evArgsT cx tm c.args.toList with
  | some (.func (.func g) first cap),some args=>.ok (.defer (.fn (.func g) cap (first++args)),st)
  | _,_=>.stuck "defer"
 | _=>.stuck "defer"
def oPanicT(cx:Cx)(tm:Tm)(st:St)(x:Operand):Res:=
 match evOT cx tm x with
 | some (.iface t v)=>.ok (.panic (.iface t v),st)
 | _=>.stuck "panic"
def oRangeT(cx:Cx)(tm:Tm)(st:St)(t:TypeId)(x:Operand):Res:=
 match cx.tt.get t,evOT cx tm x with
 | some td,some v=>match td.d,v with
  | .map _ _,.nilmap=>.ok (.val (.ptr st.n 0),newObj st (.iter none))
  | .map _ _,.map b=>match st.h.get b with
   | some (.map _)=>.ok (.val (.ptr st.n 0),newObj st (.iter (some b)))
   | _=>.stuck "range"
  | _,_=>.stuck "range"
 | _,_=>.stuck "range"
def oNextT(cx:Cx)(tm:Tm)(st:St)(x:Operand)(isString:Bool):Res:=
 match evOT cx tm x,isString with
 | some (.ptr r 0),false=>match st.h.get r with
  | some (.iter none)=>okv st (.tuple [.bool (.lit 0)])
  | some (.iter (some b))=>match st.h.get b with
   | some (.map [])=>okv st (.tuple [.bool (.lit 0)])
   | _=>.stuck "next: a map with entries"
  | _=>.stuck "next"
 | _,_=>.stuck "next"
def opF(op:Op):Cx→Tm→St→Res:=Op.casesOn (motive:=fun _=>Cx→Tm→St→Res) op
  (fun x cx tm st=>optv st (evOAT cx tm x) "move")
  (fun x cx tm st=>optv st (evOAT cx tm x) "assign")
  (fun c a b cx tm st=>oPickT cx tm st c a b)
  (fun t cx _ st=>oAlloc cx st t)
  (fun t x cx tm st=>oBoxT cx tm st t x)
  (fun t parts cx tm st=>oBuildT cx tm st t parts)
  (fun t len parts cx tm st=>oBuildSliceT cx tm st t len parts)
  (fun t m k x cx tm st=>oUpdateT cx tm st t m k x)
  (fun t a cx tm st=>oLoadT cx tm st t a)
  (fun t a x cx tm st=>oStoreT cx tm st t a x)
  (fun _ _ _ _=>.stuck "operation")
  (fun _ _ _ _=>.stuck "operation")
  (fun x cx tm st=>oNilCheckT cx tm st x)
  (fun op t x y _ cx tm st=>oBinT cx tm st op t x y)
  (fun op _ x cx tm st=>oUnT cx tm st op x)
  (fun src dst x cx tm st=>oConvertT cx tm st src dst x)
  (fun _ _ _ _ _=>.stuck "operation")
  (fun t x cx tm st=>oIfaceT cx tm st t x)
  (fun fn first captured cx tm st=>oFuncT cx tm st fn first captured)
  (fun t r cx tm st=>oMapT cx tm st t r)
  (fun _ _ _ _ _=>.stuck "operation")
  (fun t l c cx tm st=>oMakeSliceT cx tm st t l c)
  (fun t x lo hi mx cx tm st=>oSliceT cx tm st t x lo hi mx)
  (fun t x f cx tm st=>oFieldAddrT cx tm st t x f)
  (fun t x f cx tm st=>oFieldT cx tm st t x f)
  (fun t x ix cx tm st=>oIndexAddrT cx tm st t x ix)
  (fun t x ix cx tm st=>oIndexT cx tm st t x ix)
  (fun t x ix ok cx tm st=>oLookupT cx tm st t x ix ok)
  (fun t m k x cx tm st=>oUpdateT cx tm st t m k x)
  (fun _ _ _ _ _ _=>.stuck "operation")
  (fun _ _ _ _ _ _ _=>.stuck "operation")
  (fun t x cx tm st=>oRangeT cx tm st t x)
  (fun x s cx tm st=>oNextT cx tm st x s)
  (fun _ _ _ _=>.stuck "operation")
  (fun x _ asserted ok cx tm st=>oAssertT cx tm st x asserted ok)
  (fun x i cx tm st=>oExtractT cx tm st x i)
  (fun c cx tm st=>oCallT cx tm st c)
  (fun _ _ _ _=>.stuck "operation")
  (fun c cx tm st=>oDeferT cx tm st c)
  (fun x cx tm st=>oPanicT cx tm st x)
  (fun _ _ _ _ _=>.stuck "operation")
  (fun _ _ _ _ _ _=>.stuck "operation")
  (fun _ _ _ _ _=>.stuck "operation")
def evOp0T(cx:Cx)(tm:Tm)(st:St)(o:Oper):Res:=opF o.op cx tm st
def evOpT(cx:Cx)(tm:Tm)(st:St)(o:Oper):Res:=(evOp0T cx tm st o).bind fun (r,st)=>resolveV r st
structure FrT where
 tm:Tm
 df:List SDef
abbrev COutT:=R (Ex×FrT×St)
structure SelfT where
 code:Option Nat→Code→FrT→St→COutT
 loop:Option Nat→Code→FrT→St→COutT
 call:FuncId→List V→St→EOut
def roundEndT(l:Nat)(e:Ex)(fr:FrT)(st:St):EOut:=
 match fr.df with
 | []=>
  match st.h.get l with
  | some (.loop _ _ tmps params assign body defers)=>
   match e with
   | .normal=>.ok (.ret (.bool (.lit 1)),{st with h:=st.h.set l (.loop .ready none tmps params assign body defers)})
   | .ret=>.ok (.ret (.bool (.lit 0)),{st with h:=st.h.set l (.loop .done (some .ret) tmps params assign body defers)})
   | .exit id=>.ok (.ret (.bool (.lit 0)),{st with h:=st.h.set l (.loop .done (some (.exit id)) tmps params assign body defers)})
   | .panic _=>.stuck "round: panic"
   | .die _=>.stuck "round: panic"
  | _=>.stuck "round: no loop"
 | _=>.stuck "round: defers"
def roundBodyT(self:SelfT)(l:Nat)(body:Code)(e:Ex)(fr:FrT)(st:St):EOut:=
 match e with
 | .normal=>
  match st.h.get l with
  | some (.loop state pending tmps params assign body' defers)=>
   match state with
   | .ready=>(self.code (some l) body fr {st with h:=st.h.set l (.loop .busy pending tmps params assign body' defers)}).bind fun (e,fr,st)=>roundEndT l e fr st
   | _=>.stuck "round: not ready"
  | _=>.stuck "round: no loop"
 | _=>.stuck "round: assign"
def evRoundT(self:SelfT)(l:Nat)(args:List V)(st:St):EOut:=
 match st.h.get l with
 | some (.loop _ _ tmps params assign body _)=>
  match Nat.beq params.toList.length args.length with
  | true=>(self.code (some l) assign {tm:=Tm.of (setZip tmps params.toList args),df:=[]} st).bind fun (e,fr,st)=>roundBodyT self l body e fr st
  | false=>.stuck "round: arguments"
 | _=>.stuck "round: no loop"
def wantedVT(st:St)(ops:List Oper)(tm:Tm)(o:Oper) (k:St→Bool→R (Ex×FrT×St)):COutT:=
 match o.guard with
 | none=>k st true
 | some (j,want)=>
  match (nth ops j).bind (·.dst) with
  | none=>k st false
  | some d=>match tm.get d with
   | some (.bool x)=>split st x fun st b=>k st (b==want)
   | some (.ite _ _ _)=>.stuck "guard"
   | some (.any _)=>.stuck "guard"
   | _=>k st false
def forceFrT{β:Type}(fr:FrT)(k:FrT→β):β:=match fr with
 | ⟨tm,df⟩=>match df with
  | []=>k ⟨tm,[]⟩
  | d::l=>k ⟨tm,d::l⟩
abbrev RegK:=Tm→List SDef→St→COutT
def goR(df:List SDef)(k:RegK)(st:St)(tm:Tm):COutT:=k tm df st
def putR(tm:Tm)(df:List SDef)(dst:Option Tmp)(k:RegK)(st:St)(v:V):COutT:=putKT tm dst v (goR df k st)
def valR(tm:Tm)(df:List SDef)(dst:Option Tmp)(k:RegK)(v:V)(st:St):COutT:=match v.isIteR with
 | true=>splitV 100 st v fun st v=>forceVT v (putR tm df dst k st)
 | false=>forceVT v (putR tm df dst k st)
def callR(tm:Tm)(df:List SDef)(dst:Option Tmp)(k:RegK)(x:En×St):COutT:=match x with
 | (e,st)=>match e with
  | .ret v=>valR tm df dst k v st
  | .panic v=>.ok (.panic v,⟨tm,df⟩,st)
def roundR(tm:Tm)(df:List SDef)(dst:Option Tmp)(k:RegK)(x:En×St):COutT:=match x with
 | (e,st)=>match e with
  | .ret v=>putR tm df dst k st v
  | .panic _=>.stuck "panic in a round"
def deferR(rnd:Option Nat)(tm:Tm)(df:List SDef)(dst:Option Tmp)(k:RegK)(d:SDef)(st:St):COutT:=match rnd with
 | none=>putR tm (d::df) dst k st .undef
 | some _=>.stuck "defer in a round"
def operR(self:SelfT)(rnd:Option Nat)(tm:Tm)(df:List SDef)(dst:Option Tmp)(k:RegK)(x:OR×St):COutT:=match x with
 | (r,st)=>match r with
  | .val v=>valR tm df dst k v st
  | .skip=>putR tm df dst k st .undef
  | .enter f args=>(self.call f args st).bind (callR tm df dst k)
  | .round l args=>(evRoundT self l args st).bind (roundR tm df dst k)
  | .panic v=>.ok (.panic v,⟨tm,df⟩,st)
  | .defer d=>deferR rnd tm df dst k d st
def operG(cx:Cx)(self:SelfT)(rnd:Option Nat)(o:Oper)(k:RegK)(tm:Tm)(df:List SDef)(st:St):COutT:=(evOp0T cx tm st o).bind (operR self rnd tm df o.dst k)
def guardG(cx:Cx)(self:SelfT)(rnd:Option Nat)(o:Oper)(k:RegK)(tm:Tm)(df:List SDef)(want:Bool)(st:St)(b:Bool):COutT:=match b==want with
 | true=>operG cx self rnd o k tm df st
 | false=>putR tm df o.dst k st .undef
def guardR(cx:Cx)(self:SelfT)(rnd:Option Nat)(ops:List Oper)(o:Oper)(k:RegK)(tm:Tm)(df:List SDef)(st:St):COutT:=match o.guard with
 | none=>operG cx self rnd o k tm df st
 | some (j,want)=>match (nth ops j).bind (·.dst) with
  | none=>putR tm df o.dst k st .undef
  | some d=>match tm.get d with
   | some v=>match v.fv with
    | .bool x=>split st x (guardG cx self rnd o k tm df want)
    | .int _ _=>putR tm df o.dst k st .undef
    | .other=>match v.isIteR with
     | true=>.stuck "guard"
     | false=>putR tm df o.dst k st .undef
   | none=>putR tm df o.dst k st .undef
def evOpsR(cx:Cx)(self:SelfT)(rnd:Option Nat)(ops l:List Oper):RegK:=
 List.rec (motive:=fun _=>RegK) (fun tm df st=>.ok (.normal,⟨tm,df⟩,st)) (fun o _ ih=>guardR cx self rnd ops o ih) l
def evOpsT(cx:Cx)(self:SelfT)(rnd:Option Nat)(ops l:List Oper)(fr:FrT)(st:St):COutT:=match fr with
 | ⟨tm,df⟩=>evOpsR cx self rnd ops l tm df st
structure RdT where
 i:Nat
 tm:Tm
 o:Oper
 v:V
structure RST where
 fr:FrT
 st:St
 sm:List Sm
 mm:Option Mk
 bigs:List Nat
 reads:List RdT
 lost:Bool:=false
def sameReadT(cx:Cx)(st:St)(r:RdT):Bool:=
 match evOpT cx r.tm st r.o with
 | .ok (.val u,_)=>u.beq r.v
 | _=>false
def readsStayT(cx:Cx)(st:St)(bef:Nat):List RdT→Bool
 | []=>true
 | r::l=>(Nat.testBit bef r.i || sameReadT cx st r)&&readsStayT cx st bef l
def evBigT(cx:Cx)(self:SelfT)(fr:FrT)(st:St)(o:Oper)(k:FrT→St→COutT)(kp:V→St→COutT):COutT:=
 (evOpT cx fr.tm st o).bind fun (r,st)=>
  match r with
  | .val v=>putKT fr.tm o.dst v fun tm=>k {fr with tm:=tm} st
  | .skip=>putKT fr.tm o.dst .undef fun tm=>k {fr with tm:=tm} st
  | .enter f args=>(self.call f args st).bind fun (e,st)=>
   match e with
   | .ret v=>putKT fr.tm o.dst v fun tm=>k {fr with tm:=tm} st
   | .panic v=>kp v st
  | .round l args=>(evRoundT self l args st).bind fun (e,st)=>
   match e with
   | .ret v=>putKT fr.tm o.dst v fun tm=>k {fr with tm:=tm} st
   | .panic _=>.stuck "panic in a round"
  | .panic _=>.stuck "a panic in a drawn region"
  | .defer _=>.stuck "a defer in a drawn region"
def drawStepT(cx:Cx)(self:SelfT)(i:Nat)(o:Oper)(b:Nat)(rs:RST)(st:St)(dep:Bool)(k:RST→COutT):COutT:=
 match stepKind o.op (evOT cx rs.fr.tm) rs.sm with
 | 0=>(evOpT cx rs.fr.tm {st with h:=T.nil} o).bind fun (r,st')=>
  match r with
  | .val v=>if Nat.ble st.n st'.n then putKT rs.fr.tm o.dst v fun tm=>k {rs with st:={st' with h:=st.h},fr:={rs.fr with tm:=tm}} else .stuck "draw: names"
  | _=>.stuck "draw: value expected"
 | 1=>(evOpT cx rs.fr.tm {st with h:=T.nil} o).bind fun (r,st')=>
  match r with
  | .val v=>if Nat.blt st.n st'.n then putKT rs.fr.tm o.dst v fun tm=>k {rs with st:={st' with h:=st.h},sm:=newSm i st'.h st.n++rs.sm,fr:={rs.fr with tm:=tm}} else .stuck "draw: names"
  | _=>.stuck "draw: value expected"
 | 5=>(evOpT cx rs.fr.tm {st with h:=T.nil} o).bind fun (r,st')=>
  match r with
  | .val v=>match rs.mm,st'.h.get st.n with
   | none,some (.map [])=>if Nat.blt st.n st'.n then putKT rs.fr.tm o.dst v fun tm=>k {rs with st:={st' with h:=st.h},mm:=some {owner:=i,id:=st.n,ins:=[]},fr:={rs.fr with tm:=tm}} else .stuck "draw: names"
   | _,_=>.stuck "draw: map"
  | _=>.stuck "draw: value expected"
 | 2=>(evOpT cx rs.fr.tm st o).bind fun (r,st')=>
  match r with
  | .val v=>putKT rs.fr.tm o.dst v fun tm=>k {rs with st:=st',reads:={i:=i,tm:=rs.fr.tm,o:=o,v:=v}::rs.reads,fr:={rs.fr with tm:=tm}}
  | _=>.stuck "draw: value expected"
 | 4=>match o.op with
  | .insert t m key x=>match evOT cx rs.fr.tm m,evOT cx rs.fr.tm key,evOT cx rs.fr.tm x,rs.mm with
   | some (.map mb),some kv,some xv,some mk=>match Nat.beq mb mk.id,Nat.testBit b mk.owner,keyKind cx t kv,keyNew kv mk.ins with
    | true,true,true,true=>putKT rs.fr.tm o.dst .undef fun tm=>k {rs with st:=st,mm:=some {mk with ins:=(i,kv,xv)::mk.ins},fr:={rs.fr with tm:=tm}}
    | _,_,_,_=>.stuck "draw: insert"
   | _,_,_,_=>.stuck "draw: insert"
  | _=>.stuck "draw: insert"
 | _=>
  evBigT cx self rs.fr {st with h:=withSm b rs.sm st.h} o (fun fr st'=>
   if Nat.ble st.n st'.n&&readsStayT cx st' b rs.reads then
    k {fr:=fr,st:=st',sm:=restSm b rs.sm,mm:=rs.mm,bigs:=i::rs.bigs,reads:=rs.reads}
   else .stuck "draw: a reader sees other things") fun v st'=>match rs.fr.df with
    | []=>match dep,readsStayT cx {st with h:=withSm b rs.sm st.h} b rs.reads with
     | true,true=>.ok (.die v,rs.fr,st')
     | _,_=>.stuck "a panic in a drawn region"
    | _=>.stuck "a panic in a drawn region"
def evDrawT(cx:Cx)(self:SelfT)(ops:List Oper)(bs:List Nat):List Nat→Nat→RST→COutT
 | [],done,rs=>match Nat.beq (done+1) (2 ^ ops.length) with
  | true=>.ok (.normal,rs.fr,{rs.st with h:=allMk rs.mm (allSm rs.sm rs.st.h)})
  | false=>.stuck "draw: not all"
 | i::rest,done,rs=>match nth ops i,nth bs i with
  | some o,some b=>match within b done&&allIn b rs.bigs && !Nat.testBit done i with
   | true=>wantedVT rs.st ops rs.fr.tm o fun st w=>
    match w with
    | false=>putKT rs.fr.tm o.dst .undef fun tm=>evDrawT cx self ops bs rest (done ||| 2 ^ i) {rs with st:=st,fr:={rs.fr with tm:=tm}}
    | true=>drawStepT cx self i o b rs st (allDep bs i rest&&Nat.beq (doneAt rest (done ||| 2 ^ i)+1) (2 ^ ops.length)) (evDrawT cx self ops bs rest (done ||| 2 ^ i))
   | false=>.stuck "draw: two calls"
  | _,_=>.stuck "draw"
def drawnT(cx:Cx)(self:SelfT)(ops:List Oper)(bs:List Nat)(fr:FrT)(st:St):COutT:=
 evDrawT cx self ops bs (orderOf ops bs) 0 {fr:=fr,st:=st,sm:=[],mm:=none,bigs:=[],reads:=[]}
def resultVT(cx:Cx)(tm:Tm)(h:H):ResultVar→Option V
 | .tmp t=>match tm.get t with
  | some v=>some v
  | none=>some .undef
 | .cell a t=>match cx.tt.get t,tm.get a with
  | some td,some (.ptr b off)=>match cellsAt h b off td.size with
   | some cs=>if td.agg then some (.agg cs) else (match cs with | [v]=>some v | _=>none)
   | none=>none
  | _,_=>none
def resultsVT(cx:Cx)(tm:Tm)(h:H):List ResultVar→Option (List V)
 | []=>some []
 | r::rs=>match resultVT cx tm h r,resultsVT cx tm h rs with
  | some v,some vs=>some (v::vs)
  | _,_=>none
def resultOfT(cx:Cx)(fn:Func)(tm:Tm)(h:H):Option V:=
 match resultsVT cx tm h fn.results.toList with
 | some [v]=>some v
 | some vs=>some (.tuple vs)
 | none=>none
def leaveT(cx:Cx)(fn:Func)(tm:Tm):Option V→List SDef→St→EOut
 | e,[],st=>match e with
  | none=>match resultOfT cx fn tm st.h with
   | some v=>.ok (.ret v,st)
   | none=>.stuck "results"
  | some p=>.ok (.panic p,st)
 | e,.mark b::ds,st=>match st.h.get b with
  | some (.deferred (some []))=>leaveT cx fn tm e ds {st with h:=st.h.set b (.deferred none)}
  | _=>.stuck "mark"
 | e,.fn f cap args::ds,st=>match f with
  | .func g=>match cx.dm g with
   | some s=>(s (args++cap) st e).bind fun (e',st')=>leaveT cx fn tm e' ds st'
   | none=>.stuck "deferred call"
  | _=>.stuck "deferred call"
def evCallT(cx:Cx)(self:SelfT)(f:FuncId)(args:List V)(st:St):EOut:=
 match useSm cx f args st with
 | some s=>(s args st).bind fun (v,st)=>.ok (.ret v,st)
 | none=>
  match cx.ft.get f with
  | none=>.stuck "no function"
  | some fn=>
   match fn.body with
   | none=>.stuck "no body"
   | some body=>
    (self.code none body {tm:=Tm.start fn.ntmps args,df:=[]} st).bind fun (e,fr,st)=>
     match e with
     | .normal=>leaveT cx fn fr.tm none fr.df st
     | .ret=>leaveT cx fn fr.tm none fr.df st
     | .panic v=>leaveT cx fn fr.tm (some v) fr.df st
     | .die v=>match fr.df with
      | []=>.ok (.panic v,st)
      | _=>.stuck "die"
     | .exit _=>.stuck "exit"
def rangeGoT(self:SelfT)(rnd:Option Nat)(g:FuncId)(first cap:List V)(params:Array Tmp)(assign body:Code)(tm:Tm)(df:List SDef)(D:Nat)(st:St):COutT:=
 (self.call g (first++.yield st.n::cap) (newObj st (.loop .ready none tm.l params assign body D))).bind fun (e,st1)=>
  match e with
  | .panic _=>.stuck "panic out of a range"
  | .ret _=>
   match st1.h.get st.n with
   | some (.loop state pending tmps params assign body D)=>
    match state with
    | .busy=>.stuck "loop busy"
    | _=>
     match pending with
     | none=>.ok (.normal,{tm:=tm,df:=df},{st1 with h:=st1.h.set st.n (.loop .exhausted none tmps params assign body D)})
     | some c=>self.code rnd c {tm:=tm,df:=df} {st1 with h:=st1.h.set st.n (.loop .exhausted (some c) tmps params assign body D)}
   | _=>.stuck "loop"
def evRangeT(cx:Cx)(self:SelfT)(rnd:Option Nat)(f:Operand)(params:Array Tmp)(assign body:Code)(fr:FrT)(st:St):COutT:=
 match evOT cx fr.tm f with
 | some (.func (.func g) first cap)=>
  match cx.ft.get g with
  | none=>.stuck "range: unknown function"
  | some _=>
   match rnd with
   | some l=>match st.h.get l with
    | some (.loop _ _ _ _ _ _ D)=>rangeGoT self rnd g first cap params assign body fr.tm fr.df D st
    | _=>.stuck "loop"
   | none=>rangeGoT self rnd g first cap params assign body fr.tm (.mark st.n::fr.df) st.n (newObj st (.deferred (some [])))
 | _=>.stuck "range over what?"
def codeF(c:Code):Cx→SelfT→Option Nat→FrT→St→COutT:=Code.casesOn (motive:=fun _=>Cx→SelfT→Option Nat→FrT→St→COutT) c
  (fun _ _ _ fr st=>.ok (.normal,fr,st))
  (fun _ ops draw cx self rnd fr st =>     match draw with
  | false=>evOpsT cx self rnd ops.toList ops.toList fr st
  | true=>if drawOk ops.toList then drawnT cx self ops.toList (befs ops.toList []) fr st else .stuck "draw: temporaries")
  (fun a b _ self rnd fr st=>(self.code rnd a fr st).bind fun (e,fr,st)=>
  match e with
  | .normal=>self.code rnd b fr st
  | .exit id=>.ok (.exit id,fr,st)
  | .ret=>.ok (.ret,fr,st)
  | .panic v=>.ok (.panic v,fr,st)
  | .die v=>.ok (.die v,fr,st))
  (fun c x y cx self rnd fr st=>match evOT cx fr.tm c with
  | some (.bool b)=>split st b fun st t=>match t with
   | true=>self.code rnd x fr st
   | false=>self.code rnd y fr st
  | _=>.stuck "cond")
  (fun id body _ self rnd fr st=>(self.code rnd body fr st).bind fun (e,fr,st)=>
  match e with
  | .exit i=>match Nat.beq i id with
   | true=>.ok (.normal,fr,st)
   | false=>.ok (.exit i,fr,st)
  | .normal=>.ok (.normal,fr,st)
  | .ret=>.ok (.ret,fr,st)
  | .panic v=>.ok (.panic v,fr,st)
  | .die v=>.ok (.die v,fr,st))
  (fun body _ self rnd fr st=>self.loop rnd body fr st)
  (fun f params assign body cx self rnd fr st=>evRangeT cx self rnd f params assign body fr st)
  (fun id _ _ _ fr st=>.ok (.exit id,fr,st))
  (fun body _ self rnd fr st=>self.code rnd body fr st)
  (fun _ _ _ _ fr st=>.ok (.normal,fr,st))
  (fun _ _ _ _ _ _=>.stuck "code")
  (fun _ _ _ fr st=>.ok (.ret,fr,st))
  (fun _ _ _ _ _ _=>.stuck "code")
def evCodeT(cx:Cx)(self:SelfT)(rnd:Option Nat)(c:Code)(fr:FrT)(st:St):COutT:=codeF c cx self rnd fr st
def evLoop0T(self:SelfT)(rnd:Option Nat)(body:Code)(fr:FrT)(st:St):COutT:=
 (self.code rnd body fr st).bind fun (e,fr,st)=>
  match e with
  | .normal=>self.loop rnd body fr st
  | .exit id=>.ok (.exit id,fr,st)
  | .ret=>.ok (.ret,fr,st)
  | .panic v=>.ok (.panic v,fr,st)
  | .die v=>.ok (.die v,fr,st)
def evLoopT(cx:Cx)(self:SelfT)(rnd:Option Nat)(body:Code)(fr:FrT)(st:St):COutT:=match cx.lp with
 | none=>evLoop0T self rnd body fr st
 | some lp=>match lp rnd body ⟨fr.tm.l,fr.df⟩ st with
  | none=>evLoop0T self rnd body fr st
  | some r=>r.bind fun (e,fr,st)=>.ok (e,⟨Tm.of fr.tm,fr.df⟩,st)
def joinC1T(pc:PC)(c:X)(a b:Ex×FrT×St):Option (Ex×FrT×St):=
 match a,b with
 | (e,fr,st),(e',fr',st')=>match exSame e e',sdefsBeq fr.df fr'.df with
  | true,true=>match joinTm c fr.tm fr'.tm with
   | some tm=>match joinSt pc c st st' with
    | some st=>some (e,{tm:=tm,df:=fr.df},st)
    | none=>none
   | none=>none
  | _,_=>none
def openTmpsT(st:St)(tm:Tm):List Nat→(St→Tm→COutT)→COutT
 | [],k=>k st tm
 | t::ts,k=>match tm.get t with
  | some v=>match v.isIte with
   | true=>splitV 100 st v fun st v=>openTmpsT st ((tm.set t v)) ts k
   | false=>openTmpsT st tm ts k
  | none=>openTmpsT st tm ts k
def evOpenT(cx:Cx)(self:SelfT)(rnd:Option Nat)(c:Code)(fr:FrT)(st:St):COutT:=match topTmps c with
 | []=>evCodeT cx self rnd c fr st
 | t::ts=>openTmpsT st fr.tm (t::ts) fun st tm=>evCodeT cx self rnd c {tm:=tm,df:=fr.df} st
def evCodeMT(cx:Cx)(self:SelfT)(rnd:Option Nat)(c:Code)(fr:FrT)(st:St):COutT:=
 forceFrT fr fun fr=>forceSt st fun st=>
 match cx.mg with
 | false=>evCodeT cx self rnd c fr st
 | true=>match joins cx.js c with
  | true=>mergeR joinC1T st.pc (evOpenT cx self rnd c fr st)
  | false=>evOpenT cx self rnd c fr st
def evCallMT(cx:Cx)(self:SelfT)(f:FuncId)(args:List V)(st:St):EOut:=
 match joinsE cx with
 | false=>evCallT cx self f args st
 | true=>mergeR joinE1 st.pc (evCallT cx self f args st)
def evT(cx:Cx):Nat→SelfT
 | 0=>{code:=fun _ _ _ _=>.stuck "fuel", loop:=fun _ _ _ _=>.stuck "fuel", call:=fun _ _ _=>.stuck "fuel" }
 | n+1=>{code:=evCodeMT cx (evT cx n),loop:=evLoopT cx (evT cx n),call:=evCallMT cx (evT cx n)}
end
end Go.Proofs.YtmickljjofbmiaaGreatDoor
