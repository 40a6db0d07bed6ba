/- Symbolic execution: the evaluator once more, its p6 as tries (plain functions; nothing is proved of them here). No condition. -/
import Derived.Test.YtmickljjofbmiaaGreatDoorFwA
namespace Go.Proofs.YtmickljjofbmiaaGreatDoor
open Go
noncomputable section
structure Tm where
 n:Nat
 t:T V
def T.look{α:Type}(t:T α):List Bool→Option α:=
 T.rec (motive:=fun _=>List Bool→Option α) (fun _=>none)
  (fun _ v _ il ir bs=>List.rec (motive:=fun _=>Option α) v (fun b bs' _=>Bool.rec (motive:=fun _=>Option α) (il bs') (ir bs') b) bs) t
def T.afy{α β:Type}(bs:List Bool):α→(T α→β)→β:=
 List.rec (motive:=fun _=>α→(T α→β)→β) (fun v k=>k (.node .nil (some v) .nil))
  (fun b _ ih v k=>Bool.rec (motive:=fun _=>β) (ih v fun x=>k (.node x none .nil)) (ih v fun x=>k (.node .nil none x)) b) bs
def T.lT{α β:Type}(t:T α):List Bool→α→(T α→β)→β:=
 T.rec (motive:=fun _=>List Bool→α→(T α→β)→β) (fun bs v k=>T.afy bs v k)
  (fun l u r il ir bs v k=>List.rec (motive:=fun _=>β) (k (.node l (some v) r)) (fun b bs' _=>Bool.rec (motive:=fun _=>β) (il bs' v fun x=>k (.node x u r)) (ir bs' v fun x=>k (.node l u x)) b) bs) t
def Tm.val(m:Tm)(i:Nat):V:=match T.look m.t (bitsOf i) with
 | some v=>v
 | none=>.undef
def Tm.get(m:Tm)(i:Nat):Option V:=match Nat.blt i m.n with
 | true=>some (m.val i)
 | false=>none
def Tm.l(m:Tm):List V:=(List.range m.n).map m.val
def Tm.Kb{β:Type}(m:Tm)(i:Nat)(v:V)(k:Tm→β):β:=match m with
 | ⟨n,t⟩=>T.lT t (bitsOf i) v fun t=>k ⟨n,t⟩
def Tm.set(m:Tm)(i:Nat)(v:V):Tm:=m.Kb i v fun m=>m
def Tm.dF(m:Tm)(d:Option Tmp)(v:V):Tm:=match d with
 | some d=>m.set d v
 | none=>m
def nB{β:Type}(m:Tm)(d:Option Tmp)(v:V)(k:Tm→β):β:=match d with
 | none=>k m
 | some d=>m.Kb d v k
def J8{β:Type}:Nat→List V→T V→(T V→β)→β
 | _,[],t,k=>k t
 | i,v::l,t,k=>pd v fun v=>T.lT t (bitsOf i) v fun t=>J8 (i+1) l t k
def Tm.of(l:List V):Tm:=J8 0 l .nil fun t=>⟨l.length,t⟩
def Tm.start(n:Nat)(args:List V):Tm:=J8 0 args .nil fun t=>⟨args.length+(n-args.length),t⟩
inductive FV where
 | int (k:IntKind) (x:X)
 | bool (x:X)
 | other
def V.FW(v:V):Bool:=V.rec (motive_1:=fun _=>Bool) (motive_2:=fun _=>Unit) (fun _ _=>false) (fun _=>false) (fun _=>false) (fun _ _=>false) false (fun _ _ _ _=>false) false (fun _=>false) false (fun _ _ _ _ _=>false) (fun _=>false) false (fun _ _ _=>false) false (fun _ _=>false) (fun _ _=>false) (fun _ _=>false) (fun _ _ _ _=>false) (fun _ _ _ _ _=>true) (fun _ _ _ _=>false) (fun _ _ _ _=>false) (fun _ _ _ _ _ _=>false) (fun _ _ _ _ _=>false) (fun _=>true) () (fun _ _ _ _=>()) v
def V.fv(v:V):FV:=V.rec (motive_1:=fun _=>FV) (motive_2:=fun _=>Unit) (fun k x=>.int k x) (fun x=>.bool x) (fun _=>.other) (fun _ _=>.other) .other (fun _ _ _ _=>.other) .other (fun _=>.other) .other (fun _ _ _ _ _=>.other) (fun _=>.other) .other (fun _ _ _=>.other) .other (fun _ _=>.other) (fun _ _=>.other) (fun _ _=>.other) (fun _ _ _ _=>.other) (fun _ _ _ _ _=>.other) (fun _ _ _ _=>.other) (fun _ _ _ _=>.other) (fun _ _ _ _ _ _=>.other) (fun _ _ _ _ _=>.other) (fun _=>.other) () (fun _ _ _ _=>()) v
abbrev X.aog (x:X):Option Int:=mJ x
def Eo{β:Type}(x:X)(k:X→β):β:=match x.aog with
 | some n=>FX n fun n=>k (.lit n)
 | none=>k x
def Gy{β:Type}(v:V)(k:V→β):β:=match v.fv with
 | .int a x=>Eo x fun x=>k (.int a x)
 | .bool x=>Eo x fun x=>k (.bool x)
 | .other=>k v
def OW:Option V→V
 | some v=>v
 | none=>.undef
def Gu{β:Type}(c:X)(a b:Option V)(k:Option V→β):β:=match a with
 | none=>match b with
  | none=>k none
  | some b=>pd (bY c .undef b) fun v=>k (some v)
 | some a=>pd (bY c a (OW b)) fun v=>k (some v)
def xK{β:Type}(c:X):T V→(T V→β)→β
 | .nil,k=>k .nil
 | .node l v r,k=>Gu c none v fun v=>xK c l fun l=>xK c r fun r=>k (.node l v r)
def yd{β:Type}(c:X):T V→(T V→β)→β
 | .nil,k=>k .nil
 | .node l v r,k=>Gu c v none fun v=>yd c l fun l=>yd c r fun r=>k (.node l v r)
def mG{β:Type}(c:X):T V→T V→(T V→β)→β
 | .nil,t,k=>xK c t k
 | .node l v r,t,k=>match t with
  | .nil=>yd c (.node l v r) k
  | .node l' v' r'=>Gu c v v' fun v=>mG c l l' fun l=>mG c r r' fun r=>k (.node l v r)
def ES(c:X)(a b:Tm):Option Tm:=match a with
 | ⟨n,t⟩=>match b with
  | ⟨m,u⟩=>match Nat.beq n m with
   | true=>mG c t u fun t=>some ⟨n,t⟩
   | false=>none
def cL(cx:Cx)(tm:Tm):Operand→Option V
 | .tmp t=>match tm.get t with
  | some v=>match v.FW with
   | true=>none
   | false=>some v
  | none=>some .undef
 | .const v=>ofValue v
 | .global g=>if Nat.blt g cx.ng then some (.ptr g 0) else none
 | .func f=>some (.func (.func f) [] [])
def Kk(cx:Cx)(tm:Tm)(o:Operand):Option V:=match cL cx tm o with
 | some v=>some v
 | none=>match o with
  | .tmp t=>match tm.get t with
   | some v=>match v with
    | .any k=>some (.any k)
    | _=>none
   | none=>none
  | _=>none
def pZ(cx:Cx)(tm:Tm):List (Nat×Operand)→Option (List (Nat×V))
 | []=>some []
 | (i,o)::l=>match cL cx tm o,pZ cx tm l with
  | some v,some r=>some ((i,v)::r)
  | _,_=>none
def ma(cx:Cx)(tm:Tm):List Operand→Option (List V)
 | []=>some []
 | o::l=>match cL cx tm o,ma cx tm l with
  | some v,some r=>some (v::r)
  | _,_=>none
def uB(cx:Cx)(tm:Tm):List Operand→Option (List V)
 | []=>some []
 | o::l=>match Kk cx tm o,uB cx tm l with
  | some v,some r=>some (v::r)
  | _,_=>none
def Nq(cx:Cx)(tm:Tm)(st:St)(c a b:Operand):cz:=
 match cL cx tm c,cL cx tm a,cL cx tm b with
 | some c,some a,some b=>match c with
  | .bool x=>match eT st.pc x with
   | some t=>bq st (match t with | true=>a | false=>b)
   | none=>match MT c a b with
    | some v=>bq st v
    | none=>split st x fun st t=>bq st (match t with | true=>a | false=>b)
  | _=>.stuck "pick"
 | _,_,_=>.stuck "pick"
def W6(cx:Cx)(tm:Tm)(st:St)(t:TypeId)(x:Operand):cz:=
 match cL cx tm x with
 | some v=>.ok (.val (.ptr st.n 0),newObj st (.cells v.cells t none))
 | none=>.stuck "box"
def FR(cx:Cx)(tm:Tm)(st:St)(t:TypeId) (parts:Array (Nat×Operand)):cz:=
 match cx.tt.get t,pZ cx tm parts.toList with
 | some td,some ps=>match dB (placeOf cx.tt td.d) td.zero ps with
  | some cells=>match om cx.tt td.d with
   | true=>bq st (.agg cells)
   | false=>.stuck "build"
  | none=>.stuck "build"
 | _,_=>.stuck "build"
def nP(cx:Cx)(tm:Tm)(st:St)(t:TypeId)(len:Nat) (parts:Array (Nat×Operand)):cz:=
 match cx.tt.get t,pZ cx tm parts.toList with
 | some td,some ps=>match td.d with
  | .slice elem=>match cx.tt.get elem with
   | some ed=>match Nat.ble (len*ed.size) 100000 with
    | true=>match dB (fun i=>some (i*ed.size,ed.size)) (b7 ed.zero len) ps with
     | some cells=>.ok (.val (.slice st.n 0 len (.known len)),newObj st (.cells cells elem none))
     | none=>.stuck "buildSlice"
    | false=>.stuck "buildSlice: long"
   | none=>.stuck "buildSlice"
  | _=>.stuck "buildSlice"
 | _,_=>.stuck "buildSlice"
def Nl(cx:Cx)(tm:Tm)(st:St)(t:TypeId)(a:Operand):cz:=
 match cx.tt.get t,cL cx tm a with
 | some td,some (.sptr b off n i)=>match td.agg,Nat.beq td.size 1 with
  | false,true=>match cF st.h b off n with
   | some cs=>gM st i n fun st=>fT st (Ps i cs) "load"
   | none=>.stuck "load: no such cells"
  | _,_=>.stuck "load: not one cell"
 | some td,some (.xptr w b i es c)=>DV st td w b i es c
 | some td,some (.wptr b off)=>match CQ st.h st.pc b off td.size with
  | some cs=>match td.agg with
   | true=>bq st (.agg cs)
   | false=>match cs with
    | [v]=>bq st v
    | _=>.stuck "load"
  | none=>.stuck "load: no such cells"
 | some td,some (.ptr b off)=>match cF st.h b off td.size with
  | some cs=>match td.agg with
   | true=>bq st (.agg cs)
   | false=>match cs with
    | [v]=>bq st v
    | _=>.stuck "load"
  | none=>.stuck "load: no such cells"
 | _,_=>.stuck "load"
def EI(cx:Cx)(tm:Tm)(st:St)(t:TypeId)(a x:Operand):cz:=
 match cx.tt.get t,cL cx tm a,cL cx tm x with
 | some td,some (.sptr b off n i),some v=>match Nat.beq v.cells.length td.size,Nat.beq td.size 1 with
  | true,true=>match v.cells with
   | [u]=>match cF st.h b off n with
    | some cs=>gM st i n fun st=>match putAt st.h b off (jT i u 0 cs) with
     | some h=>match u.one with
      | true=>.ok (.skip,{st with h:=h})
      | false=>.stuck "store: size"
     | none=>.stuck "store: no such cells"
    | none=>.stuck "store: no such cells"
   | _=>.stuck "store: size"
  | _,_=>.stuck "store: size"
 | some td,some (.xptr w b i es c),some v=>Gb st td w b i es c v
 | some td,some (.ptr b off),some v=>match Nat.beq v.cells.length td.size with
  | true=>match putAt st.h b off v.cells with
   | some h=>.ok (.skip,{st with h:=h})
   | none=>.stuck "store: no such cells"
  | false=>.stuck "store: size"
 | _,_,_=>.stuck "store"
def sS(cx:Cx)(tm:Tm)(st:St)(x:Operand):cz:=
 match cL cx tm x with
 | some (.ptr b off)=>bq st (.ptr b off)
 | some (.sptr b off n i)=>bq st (.sptr b off n i)
 | some (.func (.func f) first cap)=>bq st (.func (.func f) first cap)
 | some (.yield l)=>bq st (.yield l)
 | some (.iface t v)=>bq st (.iface t v)
 | some (.slice b off len cap)=>bq st (.slice b off len cap)
 | some (.xptr w b i es c)=>bq st (.xptr w b i es c)
 | some (.xslice w b off es len cap)=>bq st (.xslice w b off es len cap)
 | _=>.stuck "nilCheck"
def Vr(cx:Cx)(tm:Tm)(st:St)(op:BinOp)(t:TypeId)(x y:Operand):cz:=
 match cL cx tm x,cL cx tm y with
 | some a,some b=>match MS a b,isConst y with
  | true,true=>Lu cx st op t
  | _,_=>Uf cx st op t a b
 | _,_=>.stuck "binop operand"
def ac0(cx:Cx)(tm:Tm)(st:St)(op:UnOp)(x:Operand):cz:=
 match cL cx tm x with
 | some a=>acG st op a
 | none=>.stuck "unop"
def wR(cx:Cx)(tm:Tm)(st:St)(src dst:TypeId)(x:Operand):cz:=
 match cL cx tm x with
 | some a=>match a with
  | .xslice w b off es len _=>D5 cx st src dst w b off es len
  | a=>wF cx st src dst a
 | none=>.stuck "convert"
def EK(cx:Cx)(tm:Tm)(st:St)(t:TypeId)(x:Operand):cz:=
 match cx.tt.get t,cL cx tm x with
 | some td,some v=>match td.d with
  | .interface _=>.stuck "makeInterface"
  | _=>bq st (.iface t v)
 | _,_=>.stuck "makeInterface"
def M9(cx:Cx)(tm:Tm)(st:St)(fn:Fn)(first captured:Array Operand):cz:=
 match fn,ma cx tm first.toList,ma cx tm captured.toList with
 | .func f,some a,some b=>bq st (.func (.func f) a b)
 | _,_,_=>.stuck "makeFunc"
def TS(cx:Cx)(tm:Tm)(st:St)(t:TypeId)(r:Option Operand):cz:=
 match cx.tt.get t with
 | some td=>match td.d with
  | .map _ _=>match r with
   | none=>.ok (.val (.map st.n),newObj st (.map []))
   | some x=>match cL cx tm x with
    | some (.int _ _)=>.ok (.val (.map st.n),newObj st (.map []))
    | _=>.stuck "makeMap"
  | _=>.stuck "makeMap"
 | none=>.stuck "makeMap"
def od(cx:Cx)(tm:Tm)(st:St)(t:TypeId)(l c:Operand):cz:=
 match cx.tt.get t,(cL cx tm l).bind kU,(cL cx tm c).bind kU with
 | some td,some l,some c=>match td.d with
  | .slice elem=>match cx.tt.get elem with
   | some ed=>match Nat.ble l c&&Nat.ble (c*(ed.bytes+1)) 1000000000 with
    | true=>.ok (.val (.slice st.n 0 l (.known c)),newObj st (.cells (b7 ed.zero c) elem none))
    | false=>.stuck "makeSlice: long"
   | none=>.stuck "makeSlice"
  | _=>.stuck "makeSlice"
 | _,_,_=>.stuck "makeSlice"
def p8(cx:Cx)(tm:Tm)(st:St)(t:TypeId)(l c:Operand):cz:=
 match (cL cx tm l).bind acg,(cL cx tm c).bind Tp with
 | some x,some y=>match cx.tt.get t with
  | some td=>match td.d with
   | .slice elem=>match cx.tt.get elem with
    | some ed=>SG st elem ed x y
    | none=>.stuck "makeSlice"
   | _=>.stuck "makeSlice"
  | none=>.stuck "makeSlice"
 | _,_=>od cx tm st t l c
def z3(cx:Cx)(tm:Tm):Option Operand→Option (Option V)
 | none=>some none
 | some o=>match cL cx tm o with
  | some v=>some (some v)
  | none=>none
def Fc(cx:Cx)(tm:Tm)(st:St)(t:TypeId)(x:Operand)(lo hi mx:Option Operand):cz:=
 match cL cx tm x,z3 cx tm lo,z3 cx tm hi,z3 cx tm mx with
 | some v,some lo,some hi,some mx=>match v with
  | .xslice w b off es len cap=>EO cx st t w b off es len cap lo hi mx
  | v=>Ev cx st t v lo hi mx
 | _,_,_,_=>.stuck "slice operand"
def oY(cx:Cx)(tm:Tm)(st:St)(t:TypeId)(x:Operand)(f:Nat):cz:=
 match cx.tt.get t,cL cx tm x with
 | some td,some (.ptr b off)=>match td.d with
  | .struct fields=>match nth fields.toList f with
   | some fd=>match cx.tt.get fd.type with
    | some d=>match Nat.beq d.size 0 with
     | true=>.stuck "fieldAddr: no size"
     | false=>bq st (.ptr b (off+fd.offset))
    | none=>.stuck "fieldAddr"
   | none=>.stuck "fieldAddr"
  | _=>.stuck "fieldAddr"
 | some td,some (.xptr w b i es c)=>match td.d with
  | .struct fields=>match nth fields.toList f with
   | some fd=>match cx.tt.get fd.type with
    | some d=>match Nat.beq d.size 0 with
     | true=>.stuck "fieldAddr: no size"
     | false=>bq st (.xptr w b i es (c+fd.offset))
    | none=>.stuck "fieldAddr"
   | none=>.stuck "fieldAddr"
  | _=>.stuck "fieldAddr"
 | _,_=>.stuck "fieldAddr"
def EW(cx:Cx)(tm:Tm)(st:St)(t:TypeId)(x:Operand)(f:Nat):cz:=
 match cx.tt.get t,cL cx tm x with
 | some td,some (.agg cs)=>match td.d with
  | .struct fields=>match nth fields.toList f with
   | some fd=>fT st (oT cx.tt fd.type cs fd.offset) "field"
   | none=>.stuck "field"
  | _=>.stuck "field"
 | _,_=>.stuck "field"
def qn(cx:Cx)(tm:Tm)(st:St)(t:TypeId)(x ix:Operand):cz:=
 match cx.tt.get t,cL cx tm x,cL cx tm ix with
 | some td,some v,some (.int _ i)=>match td.d,v with
  | .array len elem,.ptr b off=>match cx.tt.get elem with
   | some ed=>match mQ cx i ed with
    | true=>gM st i len fun st=>bq st (.sptr b off len i)
    | false=>index st i len fun st n=>bq st (.ptr b (off+n*ed.size))
   | none=>.stuck "indexAddr"
  | .slice elem,.slice b off len _=>match cx.tt.get elem with
   | some ed=>match mQ cx i ed with
    | true=>gM st i len fun st=>bq st (.sptr b off len i)
    | false=>index st i len fun st n=>bq st (.ptr b (off+n*ed.size))
   | none=>.stuck "indexAddr"
  | .slice elem,.xslice w b off es len _=>match cx.tt.get elem with
   | some ed=>ou st w b off es len i ed.size
   | none=>.stuck "indexAddr"
  | .slice elem,.wslice b off len _=>match cx.tt.get elem,i with
   | some ed,.lit (.ofNat n)=>split st (mkLt (.lit (.ofNat n)) len) fun st t=>match t with
    | true=>bq st (.wptr b (off+n*ed.size))
    | false=>.stuck "index out of range"
   | _,_=>.stuck "indexAddr"
  | _,_=>.stuck "indexAddr"
 | _,_,_=>.stuck "indexAddr"
def F0(cx:Cx)(tm:Tm)(st:St)(t:TypeId)(x ix:Operand):cz:=
 match cx.tt.get t,cL cx tm x,cL cx tm ix with
 | some td,some v,some (.int _ i)=>match td.d,v with
  | .array len elem,.agg cs=>match cx.tt.get elem with
   | some ed=>match mQ cx i ed with
    | true=>match takeN len cs with
     | some l=>gM st i len fun st=>fT st (Ps i l) "index"
     | none=>.stuck "index"
    | false=>index st i len fun st n=>fT st (oT cx.tt elem cs (n*ed.size)) "index"
   | none=>.stuck "index"
  | .string,.str (.slit l)=>index st i l.length fun st n=>bq st (.int .u8 (.lit ((((nth l n).getD 0) % 256:Nat):Int)))
  | _,_=>.stuck "index"
 | _,_,_=>.stuck "index"
def Av(cx:Cx)(tm:Tm)(st:St)(t:TypeId)(x ix:Operand)(ok:Bool):cz:=
 match cL cx tm x,cL cx tm ix with
 | some x,some ix=>vg cx st t x ix ok
 | _,_=>.stuck "lookup"
def tn(cx:Cx)(tm:Tm)(st:St)(t:TypeId)(m k x:Operand):cz:=
 match cL cx tm m,cL cx tm k,cL cx tm x with
 | some m,some k,some x=>mF cx st t m k x
 | _,_,_=>.stuck "update"
def Bx(cx:Cx)(tm:Tm)(st:St)(x:Operand)(asserted:TypeId)(ok:Bool):cz:=
 match cx.tt.get asserted,cL cx tm x with
 | some td,some v=>match td.d,v with
  | .interface _,_=>.stuck "typeAssert"
  | _,.iface t v=>match Nat.beq t asserted,ok with
   | true,true=>bq st (.tuple [v,.bool (.lit 1)])
   | true,false=>bq st v
   | false,true=>match zeroV td with
    | some z=>bq st (.tuple [z,.bool (.lit 0)])
    | none=>.stuck "typeAssert"
   | false,false=>.stuck "typeAssert fails"
  | _,.niliface=>match ok with
   | true=>match zeroV td with
    | some z=>bq st (.tuple [z,.bool (.lit 0)])
    | none=>.stuck "typeAssert"
   | false=>.stuck "typeAssert fails"
  | _,_=>.stuck "typeAssert"
 | _,_=>.stuck "typeAssert"
def w9(cx:Cx)(tm:Tm)(st:St)(x:Operand)(i:Nat):cz:=
 match cL cx tm x with
 | some (.tuple l)=>fT st (nth l i) "extract"
 | _=>.stuck "extract"
def LS(cx:Cx)(tm:Tm)(st:St)(c:Call):cz:=
 match c.callee with
 | .value f=>match cL cx tm f with
  | some (.func (.func g) first cap)=>match uB cx tm c.args.toList with
   | some args=>match cx.ft.get g with
    | some _=>.ok (.enter g (first++args++cap),st)
    | none=>.stuck "call: unknown function"
   | none=>.stuck "call"
  | some (.yield l)=>match ma cx tm c.args.toList with
   | some args=>.ok (.round l args,st)
   | none=>.stuck "call"
  | _=>.stuck "call"
 | .builtin b=>match ma cx tm c.args.toList with
  | some args=>rq cx st b c.argTypes.toList args
  | none=>.stuck "builtin"
 | .invoke _ _=>.stuck "invoke"
def Gp(cx:Cx)(tm:Tm)(st:St)(c:Call):cz:=
 match c.callee with
 | .value f=>match cL cx tm f,ma cx tm c.args.toList with
  | some (.func (.func g) first cap),some args=>.ok (.defer (.fn (.func g) cap (first++args)),st)
  | _,_=>.stuck "defer"
 | _=>.stuck "defer"
def Es(cx:Cx)(tm:Tm)(st:St)(x:Operand):cz:=
 match cL cx tm x with
 | some (.iface t v)=>.ok (.panic (.iface t v),st)
 | _=>.stuck "panic"
def Ef(cx:Cx)(tm:Tm)(st:St)(t:TypeId)(x:Operand):cz:=
 match cx.tt.get t,cL cx tm x with
 | some td,some v=>match td.d,v with
  | .map _ _,.nilmap=>.ok (.val (.ptr st.n 0),newObj st (.iter none))
  | .map _ _,.map b=>match st.h.get b with
   | some (.map _)=>.ok (.val (.ptr st.n 0),newObj st (.iter (some b)))
   | _=>.stuck "range"
  | _,_=>.stuck "range"
 | _,_=>.stuck "range"
def Ng(cx:Cx)(tm:Tm)(st:St)(x:Operand)(isString:Bool):cz:=
 match cL cx tm x,isString with
 | some (.ptr r 0),false=>match st.h.get r with
  | some (.iter none)=>bq st (.tuple [.bool (.lit 0)])
  | some (.iter (some b))=>match st.h.get b with
   | some (.map [])=>bq st (.tuple [.bool (.lit 0)])
   | _=>.stuck "next: a map with entries"
  | _=>.stuck "next"
 | _,_=>.stuck "next"
def opF(op:Op):Cx→Tm→St→cz:=Op.casesOn (motive:=fun _=>Cx→Tm→St→cz) op
  (fun x cx tm st=>fT st (Kk cx tm x) "move")
  (fun x cx tm st=>fT st (Kk cx tm x) "assign")
  (fun c a b cx tm st=>Nq cx tm st c a b)
  (fun t cx _ st=>Fk cx st t)
  (fun t x cx tm st=>W6 cx tm st t x)
  (fun t parts cx tm st=>FR cx tm st t parts)
  (fun t len parts cx tm st=>nP cx tm st t len parts)
  (fun t m k x cx tm st=>tn cx tm st t m k x)
  (fun t a cx tm st=>Nl cx tm st t a)
  (fun t a x cx tm st=>EI cx tm st t a x)
  (fun _ _ _ _=>.stuck "operation")
  (fun _ _ _ _=>.stuck "operation")
  (fun x cx tm st=>sS cx tm st x)
  (fun op t x y _ cx tm st=>Vr cx tm st op t x y)
  (fun op _ x cx tm st=>ac0 cx tm st op x)
  (fun src dst x cx tm st=>wR cx tm st src dst x)
  (fun _ _ _ _ _=>.stuck "operation")
  (fun t x cx tm st=>EK cx tm st t x)
  (fun fn first captured cx tm st=>M9 cx tm st fn first captured)
  (fun t r cx tm st=>TS cx tm st t r)
  (fun _ _ _ _ _=>.stuck "operation")
  (fun t l c cx tm st=>p8 cx tm st t l c)
  (fun t x lo hi mx cx tm st=>Fc cx tm st t x lo hi mx)
  (fun t x f cx tm st=>oY cx tm st t x f)
  (fun t x f cx tm st=>EW cx tm st t x f)
  (fun t x ix cx tm st=>qn cx tm st t x ix)
  (fun t x ix cx tm st=>F0 cx tm st t x ix)
  (fun t x ix ok cx tm st=>Av cx tm st t x ix ok)
  (fun t m k x cx tm st=>tn cx tm st t m k x)
  (fun _ _ _ _ _ _=>.stuck "operation")
  (fun _ _ _ _ _ _ _=>.stuck "operation")
  (fun t x cx tm st=>Ef cx tm st t x)
  (fun x s cx tm st=>Ng cx tm st x s)
  (fun _ _ _ _=>.stuck "operation")
  (fun x _ asserted ok cx tm st=>Bx cx tm st x asserted ok)
  (fun x i cx tm st=>w9 cx tm st x i)
  (fun c cx tm st=>LS cx tm st c)
  (fun _ _ _ _=>.stuck "operation")
  (fun c cx tm st=>Gp cx tm st c)
  (fun x cx tm st=>Es cx tm st x)
  (fun _ _ _ _ _=>.stuck "operation")
  (fun _ _ _ _ _ _=>.stuck "operation")
  (fun _ _ _ _ _=>.stuck "operation")
def wD(cx:Cx)(tm:Tm)(st:St)(o:Oper):cz:=opF o.op cx tm st
def qb(cx:Cx)(tm:Tm)(st:St)(o:Oper):cz:=(wD cx tm st o).bind fun (r,st)=>gI r st
structure FrT where
 tm:Tm
 df:List bN
abbrev cr:=R (Ex×FrT×St)
structure SelfT where
 code:Option Nat→Code→FrT→St→cr
 loop:Option Nat→Code→FrT→St→cr
 call:FuncId→List V→St→jP
def P6(l:Nat)(e:Ex)(fr:FrT)(st:St):jP:=
 match fr.df with
 | []=>
  match st.h.get l with
  | some (.loop _ _ tmps params assign body defers)=>
   match e with
   | .normal=>.ok (.ret (.bool (.lit 1)),{st with h:=st.h.set l (.loop .ready none tmps params assign body defers)})
   | .ret=>.ok (.ret (.bool (.lit 0)),{st with h:=st.h.set l (.loop .done (some .ret) tmps params assign body defers)})
   | .exit id=>.ok (.ret (.bool (.lit 0)),{st with h:=st.h.set l (.loop .done (some (.exit id)) tmps params assign body defers)})
   | .panic _=>.stuck "round: panic"
   | .die _=>.stuck "round: panic"
  | _=>.stuck "round: no loop"
 | _=>.stuck "round: defers"
def sU(self:SelfT)(l:Nat)(body:Code)(e:Ex)(fr:FrT)(st:St):jP:=
 match e with
 | .normal=>
  match st.h.get l with
  | some (.loop state pending tmps params assign body' defers)=>
   match state with
   | .ready=>(self.code (some l) body fr {st with h:=st.h.set l (.loop .busy pending tmps params assign body' defers)}).bind fun (e,fr,st)=>P6 l e fr st
   | _=>.stuck "round: not ready"
  | _=>.stuck "round: no loop"
 | _=>.stuck "round: assign"
def pX(self:SelfT)(l:Nat)(args:List V)(st:St):jP:=
 match st.h.get l with
 | some (.loop _ _ tmps params assign body _)=>
  match Nat.beq params.toList.length args.length with
  | true=>(self.code (some l) assign {tm:=Tm.of (mM tmps params.toList args),df:=[]} st).bind fun (e,fr,st)=>sU self l body e fr st
  | false=>.stuck "round: arguments"
 | _=>.stuck "round: no loop"
def AB(st:St)(ops:List Oper)(tm:Tm)(o:Oper) (k:St→Bool→R (Ex×FrT×St)):cr:=
 match o.guard with
 | none=>k st true
 | some (j,want)=>
  match (nth ops j).bind (·.dst) with
  | none=>k st false
  | some d=>match tm.get d with
   | some (.bool x)=>split st x fun st b=>k st (b==want)
   | some (.ite _ _ _)=>.stuck "guard"
   | some (.any _)=>.stuck "guard"
   | _=>k st false
def Lg{β:Type}(fr:FrT)(k:FrT→β):β:=match fr with
 | ⟨tm,df⟩=>match df with
  | []=>k ⟨tm,[]⟩
  | d::l=>k ⟨tm,d::l⟩
abbrev rF:=Tm→List bN→St→cr
def goR(df:List bN)(k:rF)(st:St)(tm:Tm):cr:=k tm df st
def wZ(tm:Tm)(df:List bN)(dst:Option Tmp)(k:rF)(st:St)(v:V):cr:=nB tm dst v (goR df k st)
def Vx(tm:Tm)(df:List bN)(dst:Option Tmp)(k:rF)(v:V)(st:St):cr:=match v.FW with
 | true=>dR 100 st v fun st v=>Gy v (wZ tm df dst k st)
 | false=>Gy v (wZ tm df dst k st)
def abm(tm:Tm)(df:List bN)(dst:Option Tmp)(k:rF)(x:En×St):cr:=match x with
 | (e,st)=>match e with
  | .ret v=>Vx tm df dst k v st
  | .panic v=>.ok (.panic v,⟨tm,df⟩,st)
def Wv(tm:Tm)(df:List bN)(dst:Option Tmp)(k:rF)(x:En×St):cr:=match x with
 | (e,st)=>match e with
  | .ret v=>wZ tm df dst k st v
  | .panic _=>.stuck "panic in a round"
def adq(rnd:Option Nat)(tm:Tm)(df:List bN)(dst:Option Tmp)(k:rF)(d:bN)(st:St):cr:=match rnd with
 | none=>wZ tm (d::df) dst k st .undef
 | some _=>.stuck "defer in a round"
def abE(self:SelfT)(rnd:Option Nat)(tm:Tm)(df:List bN)(dst:Option Tmp)(k:rF)(x:OR×St):cr:=match x with
 | (r,st)=>match r with
  | .val v=>Vx tm df dst k v st
  | .skip=>wZ tm df dst k st .undef
  | .enter f args=>(self.call f args st).bind (abm tm df dst k)
  | .round l args=>(pX self l args st).bind (Wv tm df dst k)
  | .panic v=>.ok (.panic v,⟨tm,df⟩,st)
  | .defer d=>adq rnd tm df dst k d st
def NG(cx:Cx)(self:SelfT)(rnd:Option Nat)(o:Oper)(k:rF)(tm:Tm)(df:List bN)(st:St):cr:=(wD cx tm st o).bind (abE self rnd tm df o.dst k)
def MR(cx:Cx)(self:SelfT)(rnd:Option Nat)(o:Oper)(k:rF)(tm:Tm)(df:List bN)(want:Bool)(st:St)(b:Bool):cr:=match b==want with
 | true=>NG cx self rnd o k tm df st
 | false=>wZ tm df o.dst k st .undef
def FL(cx:Cx)(self:SelfT)(rnd:Option Nat)(ops:List Oper)(o:Oper)(k:rF)(tm:Tm)(df:List bN)(st:St):cr:=match o.guard with
 | none=>NG cx self rnd o k tm df st
 | some (j,want)=>match (nth ops j).bind (·.dst) with
  | none=>wZ tm df o.dst k st .undef
  | some d=>match tm.get d with
   | some v=>match v.fv with
    | .bool x=>split st x (MR cx self rnd o k tm df want)
    | .int _ _=>wZ tm df o.dst k st .undef
    | .other=>match v.FW with
     | true=>.stuck "guard"
     | false=>wZ tm df o.dst k st .undef
   | none=>wZ tm df o.dst k st .undef
def Mj(cx:Cx)(self:SelfT)(rnd:Option Nat)(ops l:List Oper):rF:=
 List.rec (motive:=fun _=>rF) (fun tm df st=>.ok (.normal,⟨tm,df⟩,st)) (fun o _ ih=>FL cx self rnd ops o ih) l
def R2(cx:Cx)(self:SelfT)(rnd:Option Nat)(ops l:List Oper)(fr:FrT)(st:St):cr:=match fr with
 | ⟨tm,df⟩=>Mj cx self rnd ops l tm df st
structure RdT where
 i:Nat
 tm:Tm
 o:Oper
 v:V
structure RST where
 fr:FrT
 st:St
 sm:List Sm
 mm:Option Mk
 bigs:List Nat
 reads:List RdT
 lost:Bool:=false
def xb(cx:Cx)(st:St)(r:RdT):Bool:=
 match qb cx r.tm st r.o with
 | .ok (.val u,_)=>u.beq r.v
 | _=>false
def gm(cx:Cx)(st:St)(bef:Nat):List RdT→Bool
 | []=>true
 | r::l=>(Nat.testBit bef r.i || xb cx st r)&&gm cx st bef l
def EF(cx:Cx)(self:SelfT)(fr:FrT)(st:St)(o:Oper)(k:FrT→St→cr)(kp:V→St→cr):cr:=
 (qb cx fr.tm st o).bind fun (r,st)=>
  match r with
  | .val v=>nB fr.tm o.dst v fun tm=>k {fr with tm:=tm} st
  | .skip=>nB fr.tm o.dst .undef fun tm=>k {fr with tm:=tm} st
  | .enter f args=>(self.call f args st).bind fun (e,st)=>
   match e with
   | .ret v=>nB fr.tm o.dst v fun tm=>k {fr with tm:=tm} st
   | .panic v=>kp v st
  | .round l args=>(pX self l args st).bind fun (e,st)=>
   match e with
   | .ret v=>nB fr.tm o.dst v fun tm=>k {fr with tm:=tm} st
   | .panic _=>.stuck "panic in a round"
  | .panic _=>.stuck "a panic in a drawn region"
  | .defer _=>.stuck "a defer in a drawn region"
def vM(cx:Cx)(self:SelfT)(i:Nat)(o:Oper)(b:Nat)(rs:RST)(st:St)(dep:Bool)(k:RST→cr):cr:=
 match gQ o.op (cL cx rs.fr.tm) rs.sm with
 | 0=>(qb cx rs.fr.tm {st with h:=T.nil} o).bind fun (r,st')=>
  match r with
  | .val v=>if Nat.ble st.n st'.n then nB rs.fr.tm o.dst v fun tm=>k {rs with st:={st' with h:=st.h},fr:={rs.fr with tm:=tm}} else .stuck "draw: names"
  | _=>.stuck "draw: value expected"
 | 1=>(qb cx rs.fr.tm {st with h:=T.nil} o).bind fun (r,st')=>
  match r with
  | .val v=>if Nat.blt st.n st'.n then nB rs.fr.tm o.dst v fun tm=>k {rs with st:={st' with h:=st.h},sm:=C2 i st'.h st.n++rs.sm,fr:={rs.fr with tm:=tm}} else .stuck "draw: names"
  | _=>.stuck "draw: value expected"
 | 5=>(qb cx rs.fr.tm {st with h:=T.nil} o).bind fun (r,st')=>
  match r with
  | .val v=>match rs.mm,st'.h.get st.n with
   | none,some (.map [])=>if Nat.blt st.n st'.n then nB rs.fr.tm o.dst v fun tm=>k {rs with st:={st' with h:=st.h},mm:=some {owner:=i,id:=st.n,ins:=[]},fr:={rs.fr with tm:=tm}} else .stuck "draw: names"
   | _,_=>.stuck "draw: map"
  | _=>.stuck "draw: value expected"
 | 2=>(qb cx rs.fr.tm st o).bind fun (r,st')=>
  match r with
  | .val v=>nB rs.fr.tm o.dst v fun tm=>k {rs with st:=st',reads:={i:=i,tm:=rs.fr.tm,o:=o,v:=v}::rs.reads,fr:={rs.fr with tm:=tm}}
  | _=>.stuck "draw: value expected"
 | 4=>match o.op with
  | .insert t m key x=>match cL cx rs.fr.tm m,cL cx rs.fr.tm key,cL cx rs.fr.tm x,rs.mm with
   | some (.map mb),some kv,some xv,some mk=>match Nat.beq mb mk.id,Nat.testBit b mk.owner,qX cx t kv,pf kv mk.ins with
    | true,true,true,true=>nB rs.fr.tm o.dst .undef fun tm=>k {rs with st:=st,mm:=some {mk with ins:=(i,kv,xv)::mk.ins},fr:={rs.fr with tm:=tm}}
    | _,_,_,_=>.stuck "draw: insert"
   | _,_,_,_=>.stuck "draw: insert"
  | _=>.stuck "draw: insert"
 | _=>
  EF cx self rs.fr {st with h:=cS b rs.sm st.h} o (fun fr st'=>
   if Nat.ble st.n st'.n&&gm cx st' b rs.reads then
    k {fr:=fr,st:=st',sm:=gk b rs.sm,mm:=rs.mm,bigs:=i::rs.bigs,reads:=rs.reads}
   else .stuck "draw: a reader sees other things") fun v st'=>match rs.fr.df with
    | []=>match dep,gm cx {st with h:=cS b rs.sm st.h} b rs.reads with
     | true,true=>.ok (.die v,rs.fr,st')
     | _,_=>.stuck "a panic in a drawn region"
    | _=>.stuck "a panic in a drawn region"
def re(cx:Cx)(self:SelfT)(ops:List Oper)(bs:List Nat):List Nat→Nat→RST→cr
 | [],done,rs=>match Nat.beq (done+1) (2 ^ ops.length) with
  | true=>.ok (.normal,rs.fr,{rs.st with h:=xL rs.mm (o8 rs.sm rs.st.h)})
  | false=>.stuck "draw: not all"
 | i::rest,done,rs=>match nth ops i,nth bs i with
  | some o,some b=>match within b done&&uY b rs.bigs && !Nat.testBit done i with
   | true=>AB rs.st ops rs.fr.tm o fun st w=>
    match w with
    | false=>nB rs.fr.tm o.dst .undef fun tm=>re cx self ops bs rest (done ||| 2 ^ i) {rs with st:=st,fr:={rs.fr with tm:=tm}}
    | true=>vM cx self i o b rs st (sM bs i rest&&Nat.beq (dK rest (done ||| 2 ^ i)+1) (2 ^ ops.length)) (re cx self ops bs rest (done ||| 2 ^ i))
   | false=>.stuck "draw: two calls"
  | _,_=>.stuck "draw"
def Eu(cx:Cx)(self:SelfT)(ops:List Oper)(bs:List Nat)(fr:FrT)(st:St):cr:=
 re cx self ops bs (Ek ops bs) 0 {fr:=fr,st:=st,sm:=[],mm:=none,bigs:=[],reads:=[]}
def Bt(cx:Cx)(tm:Tm)(h:H):ResultVar→Option V
 | .tmp t=>match tm.get t with
  | some v=>some v
  | none=>some .undef
 | .cell a t=>match cx.tt.get t,tm.get a with
  | some td,some (.ptr b off)=>match cF h b off td.size with
   | some cs=>if td.agg then some (.agg cs) else (match cs with | [v]=>some v | _=>none)
   | none=>none
  | _,_=>none
def qC(cx:Cx)(tm:Tm)(h:H):List ResultVar→Option (List V)
 | []=>some []
 | r::rs=>match Bt cx tm h r,qC cx tm h rs with
  | some v,some vs=>some (v::vs)
  | _,_=>none
def v7(cx:Cx)(fn:Func)(tm:Tm)(h:H):Option V:=
 match qC cx tm h fn.results.toList with
 | some [v]=>some v
 | some vs=>some (.tuple vs)
 | none=>none
def n5(cx:Cx)(fn:Func)(tm:Tm):Option V→List bN→St→jP
 | e,[],st=>match e with
  | none=>match v7 cx fn tm st.h with
   | some v=>.ok (.ret v,st)
   | none=>.stuck "results"
  | some p=>.ok (.panic p,st)
 | e,.mark b::ds,st=>match st.h.get b with
  | some (.deferred (some []))=>n5 cx fn tm e ds {st with h:=st.h.set b (.deferred none)}
  | _=>.stuck "mark"
 | e,.fn f cap args::ds,st=>match f with
  | .func g=>match cx.dm g with
   | some s=>(s (args++cap) st e).bind fun (e',st')=>n5 cx fn tm e' ds st'
   | none=>.stuck "deferred call"
  | _=>.stuck "deferred call"
def yF(cx:Cx)(self:SelfT)(f:FuncId)(args:List V)(st:St):jP:=
 match Ig cx f args st with
 | some s=>(s args st).bind fun (v,st)=>.ok (.ret v,st)
 | none=>
  match cx.ft.get f with
  | none=>.stuck "no function"
  | some fn=>
   match fn.body with
   | none=>.stuck "no body"
   | some body=>
    (self.code none body {tm:=Tm.start fn.ntmps args,df:=[]} st).bind fun (e,fr,st)=>
     match e with
     | .normal=>n5 cx fn fr.tm none fr.df st
     | .ret=>n5 cx fn fr.tm none fr.df st
     | .panic v=>n5 cx fn fr.tm (some v) fr.df st
     | .die v=>match fr.df with
      | []=>.ok (.panic v,st)
      | _=>.stuck "die"
     | .exit _=>.stuck "exit"
def uq(self:SelfT)(rnd:Option Nat)(g:FuncId)(first cap:List V)(params:Array Tmp)(assign body:Code)(tm:Tm)(df:List bN)(D:Nat)(st:St):cr:=
 (self.call g (first++.yield st.n::cap) (newObj st (.loop .ready none tm.l params assign body D))).bind fun (e,st1)=>
  match e with
  | .panic _=>.stuck "panic out of a range"
  | .ret _=>
   match st1.h.get st.n with
   | some (.loop state pending tmps params assign body D)=>
    match state with
    | .busy=>.stuck "loop busy"
    | _=>
     match pending with
     | none=>.ok (.normal,{tm:=tm,df:=df},{st1 with h:=st1.h.set st.n (.loop .exhausted none tmps params assign body D)})
     | some c=>self.code rnd c {tm:=tm,df:=df} {st1 with h:=st1.h.set st.n (.loop .exhausted (some c) tmps params assign body D)}
   | _=>.stuck "loop"
def z7(cx:Cx)(self:SelfT)(rnd:Option Nat)(f:Operand)(params:Array Tmp)(assign body:Code)(fr:FrT)(st:St):cr:=
 match cL cx fr.tm f with
 | some (.func (.func g) first cap)=>
  match cx.ft.get g with
  | none=>.stuck "range: unknown function"
  | some _=>
   match rnd with
   | some l=>match st.h.get l with
    | some (.loop _ _ _ _ _ _ D)=>uq self rnd g first cap params assign body fr.tm fr.df D st
    | _=>.stuck "loop"
   | none=>uq self rnd g first cap params assign body fr.tm (.mark st.n::fr.df) st.n (newObj st (.deferred (some [])))
 | _=>.stuck "range over what?"
def codeF(c:Code):Cx→SelfT→Option Nat→FrT→St→cr:=Code.casesOn (motive:=fun _=>Cx→SelfT→Option Nat→FrT→St→cr) c
  (fun _ _ _ fr st=>.ok (.normal,fr,st))
  (fun _ ops draw cx self rnd fr st =>     match draw with
  | false=>R2 cx self rnd ops.toList ops.toList fr st
  | true=>if vW ops.toList then Eu cx self ops.toList (dX ops.toList []) fr st else .stuck "draw: temporaries")
  (fun a b _ self rnd fr st=>(self.code rnd a fr st).bind fun (e,fr,st)=>
  match e with
  | .normal=>self.code rnd b fr st
  | .exit id=>.ok (.exit id,fr,st)
  | .ret=>.ok (.ret,fr,st)
  | .panic v=>.ok (.panic v,fr,st)
  | .die v=>.ok (.die v,fr,st))
  (fun c x y cx self rnd fr st=>match cL cx fr.tm c with
  | some (.bool b)=>split st b fun st t=>match t with
   | true=>self.code rnd x fr st
   | false=>self.code rnd y fr st
  | _=>.stuck "cond")
  (fun id body _ self rnd fr st=>(self.code rnd body fr st).bind fun (e,fr,st)=>
  match e with
  | .exit i=>match Nat.beq i id with
   | true=>.ok (.normal,fr,st)
   | false=>.ok (.exit i,fr,st)
  | .normal=>.ok (.normal,fr,st)
  | .ret=>.ok (.ret,fr,st)
  | .panic v=>.ok (.panic v,fr,st)
  | .die v=>.ok (.die v,fr,st))
  (fun body _ self rnd fr st=>self.loop rnd body fr st)
  (fun f params assign body cx self rnd fr st=>z7 cx self rnd f params assign body fr st)
  (fun id _ _ _ fr st=>.ok (.exit id,fr,st))
  (fun body _ self rnd fr st=>self.code rnd body fr st)
  (fun _ _ _ _ fr st=>.ok (.normal,fr,st))
  (fun _ _ _ _ _ _=>.stuck "code")
  (fun _ _ _ fr st=>.ok (.ret,fr,st))
  (fun _ _ _ _ _ _=>.stuck "code")
def y5(cx:Cx)(self:SelfT)(rnd:Option Nat)(c:Code)(fr:FrT)(st:St):cr:=codeF c cx self rnd fr st
def s9(self:SelfT)(rnd:Option Nat)(body:Code)(fr:FrT)(st:St):cr:=
 (self.code rnd body fr st).bind fun (e,fr,st)=>
  match e with
  | .normal=>self.loop rnd body fr st
  | .exit id=>.ok (.exit id,fr,st)
  | .ret=>.ok (.ret,fr,st)
  | .panic v=>.ok (.panic v,fr,st)
  | .die v=>.ok (.die v,fr,st)
def F5(cx:Cx)(self:SelfT)(rnd:Option Nat)(body:Code)(fr:FrT)(st:St):cr:=match cx.lp with
 | none=>s9 self rnd body fr st
 | some lp=>match lp rnd body ⟨fr.tm.l,fr.df⟩ st with
  | none=>s9 self rnd body fr st
  | some r=>r.bind fun (e,fr,st)=>.ok (e,⟨Tm.of fr.tm,fr.df⟩,st)
def Ff(pc:PC)(c:X)(a b:Ex×FrT×St):Option (Ex×FrT×St):=
 match a,b with
 | (e,fr,st),(e',fr',st')=>match k7 e e',eM fr.df fr'.df with
  | true,true=>match ES c fr.tm fr'.tm with
   | some tm=>match xj pc c st st' with
    | some st=>some (e,{tm:=tm,df:=fr.df},st)
    | none=>none
   | none=>none
  | _,_=>none
def kF(st:St)(tm:Tm):List Nat→(St→Tm→cr)→cr
 | [],k=>k st tm
 | t::ts,k=>match tm.get t with
  | some v=>match v.isIte with
   | true=>dR 100 st v fun st v=>kF st ((tm.set t v)) ts k
   | false=>kF st tm ts k
  | none=>kF st tm ts k
def yL(cx:Cx)(self:SelfT)(rnd:Option Nat)(c:Code)(fr:FrT)(st:St):cr:=match Fg c with
 | []=>y5 cx self rnd c fr st
 | t::ts=>kF st fr.tm (t::ts) fun st tm=>y5 cx self rnd c {tm:=tm,df:=fr.df} st
def zw(cx:Cx)(self:SelfT)(rnd:Option Nat)(c:Code)(fr:FrT)(st:St):cr:=
 Lg fr fun fr=>va st fun st=>
 match cx.mg with
 | false=>y5 cx self rnd c fr st
 | true=>match UP cx.js c with
  | true=>eE Ff st.pc (yL cx self rnd c fr st)
  | false=>yL cx self rnd c fr st
def Bu(cx:Cx)(self:SelfT)(f:FuncId)(args:List V)(st:St):jP:=
 match UA cx with
 | false=>yF cx self f args st
 | true=>eE E8 st.pc (yF cx self f args st)
def Lw(cx:Cx):Nat→SelfT
 | 0=>{code:=fun _ _ _ _=>.stuck "fuel", loop:=fun _ _ _ _=>.stuck "fuel", call:=fun _ _ _=>.stuck "fuel" }
 | n+1=>{code:=zw cx (Lw cx n),loop:=F5 cx (Lw cx n),call:=Bu cx (Lw cx n)}
end
end Go.Proofs.YtmickljjofbmiaaGreatDoor
