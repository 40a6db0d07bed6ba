/- Symbolic execution: the evaluator once more, its oP as tries (plain functions; nothing is proved of them here). No condition. -/
import Derived.Test.YtmickljjofbmiaaGreatDoorFwA
namespace Go.Proofs.YtmickljjofbmiaaGreatDoor
open Go
noncomputable section
structure Tm where
 n:Nat
 t:T V
def T.look{α:Type}(t:T α):List Bool→Option α:=
 T.rec (motive:=fun _=>List Bool→Option α) (fun _=>none)
  (fun _ v _ il ir bs=>List.rec (motive:=fun _=>Option α) v (fun b bs' _=>Bool.rec (motive:=fun _=>Option α) (il bs') (ir bs') b) bs) t
def T.aeJ{α β:Type}(bs:List Bool):α→(T α→β)→β:=
 List.rec (motive:=fun _=>α→(T α→β)→β) (fun v k=>k (.node .nil (some v) .nil))
  (fun b _ ih v k=>Bool.rec (motive:=fun _=>β) (ih v fun x=>k (.node x none .nil)) (ih v fun x=>k (.node .nil none x)) b) bs
def T.kV{α β:Type}(t:T α):List Bool→α→(T α→β)→β:=
 T.rec (motive:=fun _=>List Bool→α→(T α→β)→β) (fun bs v k=>T.aeJ bs v k)
  (fun l u r il ir bs v k=>List.rec (motive:=fun _=>β) (k (.node l (some v) r)) (fun b bs' _=>Bool.rec (motive:=fun _=>β) (il bs' v fun x=>k (.node x u r)) (ir bs' v fun x=>k (.node l u x)) b) bs) t
def Tm.val(m:Tm)(i:Nat):V:=match T.look m.t (bitsOf i) with
 | some v=>v
 | none=>.undef
def Tm.get(m:Tm)(i:Nat):Option V:=match Nat.blt i m.n with
 | true=>some (m.val i)
 | false=>none
def Tm.l(m:Tm):List V:=(List.range m.n).map m.val
def Tm.KC{β:Type}(m:Tm)(i:Nat)(v:V)(k:Tm→β):β:=match m with
 | ⟨n,t⟩=>T.kV t (bitsOf i) v fun t=>k ⟨n,t⟩
def Tm.set(m:Tm)(i:Nat)(v:V):Tm:=m.KC i v fun m=>m
def Tm.dx(m:Tm)(d:Option Tmp)(v:V):Tm:=match d with
 | some d=>m.set d v
 | none=>m
def mE{β:Type}(m:Tm)(d:Option Tmp)(v:V)(k:Tm→β):β:=match d with
 | none=>k m
 | some d=>m.KC d v k
def Gt{β:Type}:Nat→List V→T V→(T V→β)→β
 | _,[],t,k=>k t
 | i,v::l,t,k=>oO v fun v=>T.kV t (bitsOf i) v fun t=>Gt (i+1) l t k
def Tm.of(l:List V):Tm:=Gt 0 l .nil fun t=>⟨l.length,t⟩
def Tm.start(n:Nat)(args:List V):Tm:=Gt 0 args .nil fun t=>⟨args.length+(n-args.length),t⟩
inductive FV where
 | int (k:IntKind) (x:X)
 | bool (x:X)
 | other
def V.Eg(v:V):Bool:=V.rec (motive_1:=fun _=>Bool) (motive_2:=fun _=>Unit) (fun _ _=>false) (fun _=>false) (fun _=>false) (fun _ _=>false) false (fun _ _ _ _=>false) false (fun _=>false) false (fun _ _ _ _ _=>false) (fun _=>false) false (fun _ _ _=>false) false (fun _ _=>false) (fun _ _=>false) (fun _ _=>false) (fun _ _ _ _=>false) (fun _ _ _ _ _=>true) (fun _ _ _ _=>false) (fun _ _ _ _=>false) (fun _ _ _ _ _ _=>false) (fun _ _ _ _ _=>false) (fun _=>true) () (fun _ _ _ _=>()) v
def V.fv(v:V):FV:=V.rec (motive_1:=fun _=>FV) (motive_2:=fun _=>Unit) (fun k x=>.int k x) (fun x=>.bool x) (fun _=>.other) (fun _ _=>.other) .other (fun _ _ _ _=>.other) .other (fun _=>.other) .other (fun _ _ _ _ _=>.other) (fun _=>.other) .other (fun _ _ _=>.other) .other (fun _ _=>.other) (fun _ _=>.other) (fun _ _=>.other) (fun _ _ _ _=>.other) (fun _ _ _ _ _=>.other) (fun _ _ _ _=>.other) (fun _ _ _ _=>.other) (fun _ _ _ _ _ _=>.other) (fun _ _ _ _ _=>.other) (fun _=>.other) () (fun _ _ _ _=>()) v
abbrev X.amg (x:X):Option Int:=lY x
def Ed{β:Type}(x:X)(k:X→β):β:=match x.amg with
 | some n=>D9 n fun n=>k (.lit n)
 | none=>k x
def Eb{β:Type}(v:V)(k:V→β):β:=match v.fv with
 | .int a x=>Ed x fun x=>k (.int a x)
 | .bool x=>Ed x fun x=>k (.bool x)
 | .other=>k v
def NX:Option V→V
 | some v=>v
 | none=>.undef
def Er{β:Type}(c:X)(a b:Option V)(k:Option V→β):β:=match a with
 | none=>match b with
  | none=>k none
  | some b=>oO (bV c .undef b) fun v=>k (some v)
 | some a=>oO (bV c a (NX b)) fun v=>k (some v)
def w9{β:Type}(c:X):T V→(T V→β)→β
 | .nil,k=>k .nil
 | .node l v r,k=>Er c none v fun v=>w9 c l fun l=>w9 c r fun r=>k (.node l v r)
def w8{β:Type}(c:X):T V→(T V→β)→β
 | .nil,k=>k .nil
 | .node l v r,k=>Er c v none fun v=>w8 c l fun l=>w8 c r fun r=>k (.node l v r)
def lX{β:Type}(c:X):T V→T V→(T V→β)→β
 | .nil,t,k=>w9 c t k
 | .node l v r,t,k=>match t with
  | .nil=>w8 c (.node l v r) k
  | .node l' v' r'=>Er c v v' fun v=>lX c l l' fun l=>lX c r r' fun r=>k (.node l v r)
def Es(c:X)(a b:Tm):Option Tm:=match a with
 | ⟨n,t⟩=>match b with
  | ⟨m,u⟩=>match Nat.beq n m with
   | true=>lX c t u fun t=>some ⟨n,t⟩
   | false=>none
def cD(cx:Cx)(tm:Tm):Operand→Option V
 | .tmp t=>match tm.get t with
  | some v=>match v.Eg with
   | true=>none
   | false=>some v
  | none=>some .undef
 | .const v=>ofValue v
 | .global g=>if Nat.blt g cx.ng then some (.ptr g 0) else none
 | .func f=>some (.func (.func f) [] [])
def Gp(cx:Cx)(tm:Tm)(o:Operand):Option V:=match cD cx tm o with
 | some v=>some v
 | none=>match o with
  | .tmp t=>match tm.get t with
   | some v=>match v with
    | .any k=>some (.any k)
    | _=>none
   | none=>none
  | _=>none
def oI(cx:Cx)(tm:Tm):List (Nat×Operand)→Option (List (Nat×V))
 | []=>some []
 | (i,o)::l=>match cD cx tm o,oI cx tm l with
  | some v,some r=>some ((i,v)::r)
  | _,_=>none
def k8(cx:Cx)(tm:Tm):List Operand→Option (List V)
 | []=>some []
 | o::l=>match cD cx tm o,k8 cx tm l with
  | some v,some r=>some (v::r)
  | _,_=>none
def sZ(cx:Cx)(tm:Tm):List Operand→Option (List V)
 | []=>some []
 | o::l=>match Gp cx tm o,sZ cx tm l with
  | some v,some r=>some (v::r)
  | _,_=>none
def Mb(cx:Cx)(tm:Tm)(st:St)(c a b:Operand):cq:=
 match cD cx tm c,cD cx tm a,cD cx tm b with
 | some c,some a,some b=>match c with
  | .bool x=>match eI st.pc x with
   | some t=>bm st (match t with | true=>a | false=>b)
   | none=>match Ls c a b with
    | some v=>bm st v
    | none=>split st x fun st t=>bm st (match t with | true=>a | false=>b)
  | _=>.stuck "pick"
 | _,_,_=>.stuck "pick"
def So(cx:Cx)(tm:Tm)(st:St)(t:TypeId)(x:Operand):cq:=
 match cD cx tm x with
 | some v=>.ok (.val (.ptr st.n 0),newObj st (.cells v.cells t none))
 | none=>.stuck "box"
def EF(cx:Cx)(tm:Tm)(st:St)(t:TypeId) (parts:Array (Nat×Operand)):cq:=
 match cx.tt.get t,oI cx tm parts.toList with
 | some td,some ps=>match dr (placeOf cx.tt td.d) td.zero ps with
  | some cells=>match na cx.tt td.d with
   | true=>bm st (.agg cells)
   | false=>.stuck "build"
  | none=>.stuck "build"
 | _,_=>.stuck "build"
def nx(cx:Cx)(tm:Tm)(st:St)(t:TypeId)(len:Nat) (parts:Array (Nat×Operand)):cq:=
 match cx.tt.get t,oI cx tm parts.toList with
 | some td,some ps=>match td.d with
  | .slice elem=>match cx.tt.get elem with
   | some ed=>match Nat.ble (len*ed.size) 100000 with
    | true=>match dr (fun i=>some (i*ed.size,ed.size)) (bX ed.zero len) ps with
     | some cells=>.ok (.val (.slice st.n 0 len (.known len)),newObj st (.cells cells elem none))
     | none=>.stuck "buildSlice"
    | false=>.stuck "buildSlice: long"
   | none=>.stuck "buildSlice"
  | _=>.stuck "buildSlice"
 | _,_=>.stuck "buildSlice"
def L8(cx:Cx)(tm:Tm)(st:St)(t:TypeId)(a:Operand):cq:=
 match cx.tt.get t,cD cx tm a with
 | some td,some (.sptr b off n i)=>match td.agg,Nat.beq td.size 1 with
  | false,true=>match cv st.h b off n with
   | some cs=>gI st i n fun st=>fG st (Qg i cs) "load"
   | none=>.stuck "load: no such cells"
  | _,_=>.stuck "load: not one cell"
 | some td,some (.xptr w b i es c)=>Dl st td w b i es c
 | some td,some (.wptr b off)=>match Dj st.h st.pc b off td.size with
  | some cs=>match td.agg with
   | true=>bm st (.agg cs)
   | false=>match cs with
    | [v]=>bm st v
    | _=>.stuck "load"
  | none=>.stuck "load: no such cells"
 | some td,some (.ptr b off)=>match cv st.h b off td.size with
  | some cs=>match td.agg with
   | true=>bm st (.agg cs)
   | false=>match cs with
    | [v]=>bm st v
    | _=>.stuck "load"
  | none=>.stuck "load: no such cells"
 | _,_=>.stuck "load"
def ER(cx:Cx)(tm:Tm)(st:St)(t:TypeId)(a x:Operand):cq:=
 match cx.tt.get t,cD cx tm a,cD cx tm x with
 | some td,some (.sptr b off n i),some v=>match Nat.beq v.cells.length td.size,Nat.beq td.size 1 with
  | true,true=>match v.cells with
   | [u]=>match cv st.h b off n with
    | some cs=>gI st i n fun st=>match putAt st.h b off (jx i u 0 cs) with
     | some h=>match u.one with
      | true=>.ok (.skip,{st with h:=h})
      | false=>.stuck "store: size"
     | none=>.stuck "store: no such cells"
    | none=>.stuck "store: no such cells"
   | _=>.stuck "store: size"
  | _,_=>.stuck "store: size"
 | some td,some (.xptr w b i es c),some v=>FC st td w b i es c v
 | some td,some (.ptr b off),some v=>match Nat.beq v.cells.length td.size with
  | true=>match putAt st.h b off v.cells with
   | some h=>.ok (.skip,{st with h:=h})
   | none=>.stuck "store: no such cells"
  | false=>.stuck "store: size"
 | _,_,_=>.stuck "store"
def r3(cx:Cx)(tm:Tm)(st:St)(x:Operand):cq:=
 match cD cx tm x with
 | some (.ptr b off)=>bm st (.ptr b off)
 | some (.sptr b off n i)=>bm st (.sptr b off n i)
 | some (.func (.func f) first cap)=>bm st (.func (.func f) first cap)
 | some (.yield l)=>bm st (.yield l)
 | some (.iface t v)=>bm st (.iface t v)
 | some (.slice b off len cap)=>bm st (.slice b off len cap)
 | some (.xptr w b i es c)=>bm st (.xptr w b i es c)
 | some (.xslice w b off es len cap)=>bm st (.xslice w b off es len cap)
 | _=>.stuck "nilCheck"
def Sl(cx:Cx)(tm:Tm)(st:St)(op:BinOp)(t:TypeId)(x y:Operand):cq:=
 match cD cx tm x,cD cx tm y with
 | some a,some b=>match MR a b,isConst y with
  | true,true=>LX cx st op t
  | _,_=>Ry cx st op t a b
 | _,_=>.stuck "binop operand"
def aaQ(cx:Cx)(tm:Tm)(st:St)(op:UnOp)(x:Operand):cq:=
 match cD cx tm x with
 | some a=>aay st op a
 | none=>.stuck "unop"
def vY(cx:Cx)(tm:Tm)(st:St)(src dst:TypeId)(x:Operand):cq:=
 match cD cx tm x with
 | some a=>match a with
  | .xslice w b off es len _=>Dm cx st src dst w b off es len
  | a=>ve cx st src dst a
 | none=>.stuck "convert"
def EL(cx:Cx)(tm:Tm)(st:St)(t:TypeId)(x:Operand):cq:=
 match cx.tt.get t,cD cx tm x with
 | some td,some v=>match td.d with
  | .interface _=>.stuck "makeInterface"
  | _=>bm st (.iface t v)
 | _,_=>.stuck "makeInterface"
def L5(cx:Cx)(tm:Tm)(st:St)(fn:Fn)(first captured:Array Operand):cq:=
 match fn,k8 cx tm first.toList,k8 cx tm captured.toList with
 | .func f,some a,some b=>bm st (.func (.func f) a b)
 | _,_,_=>.stuck "makeFunc"
def Sq(cx:Cx)(tm:Tm)(st:St)(t:TypeId)(r:Option Operand):cq:=
 match cx.tt.get t with
 | some td=>match td.d with
  | .map _ _=>match r with
   | none=>.ok (.val (.map st.n),newObj st (.map []))
   | some x=>match cD cx tm x with
    | some (.int _ _)=>.ok (.val (.map st.n),newObj st (.map []))
    | _=>.stuck "makeMap"
  | _=>.stuck "makeMap"
 | none=>.stuck "makeMap"
def nA(cx:Cx)(tm:Tm)(st:St)(t:TypeId)(l c:Operand):cq:=
 match cx.tt.get t,(cD cx tm l).bind kD,(cD cx tm c).bind kD with
 | some td,some l,some c=>match td.d with
  | .slice elem=>match cx.tt.get elem with
   | some ed=>match Nat.ble l c&&Nat.ble (c*(ed.bytes+1)) 1000000000 with
    | true=>.ok (.val (.slice st.n 0 l (.known c)),newObj st (.cells (bX ed.zero c) elem none))
    | false=>.stuck "makeSlice: long"
   | none=>.stuck "makeSlice"
  | _=>.stuck "makeSlice"
 | _,_,_=>.stuck "makeSlice"
def o8(cx:Cx)(tm:Tm)(st:St)(t:TypeId)(l c:Operand):cq:=
 match (cD cx tm l).bind aaE,(cD cx tm c).bind SK with
 | some x,some y=>match cx.tt.get t with
  | some td=>match td.d with
   | .slice elem=>match cx.tt.get elem with
    | some ed=>Xa st elem ed x y
    | none=>.stuck "makeSlice"
   | _=>.stuck "makeSlice"
  | none=>.stuck "makeSlice"
 | _,_=>nA cx tm st t l c
def zg(cx:Cx)(tm:Tm):Option Operand→Option (Option V)
 | none=>some none
 | some o=>match cD cx tm o with
  | some v=>some (some v)
  | none=>none
def EP(cx:Cx)(tm:Tm)(st:St)(t:TypeId)(x:Operand)(lo hi mx:Option Operand):cq:=
 match cD cx tm x,zg cx tm lo,zg cx tm hi,zg cx tm mx with
 | some v,some lo,some hi,some mx=>match v with
  | .xslice w b off es len cap=>FB cx st t w b off es len cap lo hi mx
  | v=>D6 cx st t v lo hi mx
 | _,_,_,_=>.stuck "slice operand"
def o6(cx:Cx)(tm:Tm)(st:St)(t:TypeId)(x:Operand)(f:Nat):cq:=
 match cx.tt.get t,cD cx tm x with
 | some td,some (.ptr b off)=>match td.d with
  | .struct fields=>match nth fields.toList f with
   | some fd=>match cx.tt.get fd.type with
    | some d=>match Nat.beq d.size 0 with
     | true=>.stuck "fieldAddr: no size"
     | false=>bm st (.ptr b (off+fd.offset))
    | none=>.stuck "fieldAddr"
   | none=>.stuck "fieldAddr"
  | _=>.stuck "fieldAddr"
 | some td,some (.xptr w b i es c)=>match td.d with
  | .struct fields=>match nth fields.toList f with
   | some fd=>match cx.tt.get fd.type with
    | some d=>match Nat.beq d.size 0 with
     | true=>.stuck "fieldAddr: no size"
     | false=>bm st (.xptr w b i es (c+fd.offset))
    | none=>.stuck "fieldAddr"
   | none=>.stuck "fieldAddr"
  | _=>.stuck "fieldAddr"
 | _,_=>.stuck "fieldAddr"
def EK(cx:Cx)(tm:Tm)(st:St)(t:TypeId)(x:Operand)(f:Nat):cq:=
 match cx.tt.get t,cD cx tm x with
 | some td,some (.agg cs)=>match td.d with
  | .struct fields=>match nth fields.toList f with
   | some fd=>fG st (nZ cx.tt fd.type cs fd.offset) "field"
   | none=>.stuck "field"
  | _=>.stuck "field"
 | _,_=>.stuck "field"
def o7(cx:Cx)(tm:Tm)(st:St)(t:TypeId)(x ix:Operand):cq:=
 match cx.tt.get t,cD cx tm x,cD cx tm ix with
 | some td,some v,some (.int _ i)=>match td.d,v with
  | .array len elem,.ptr b off=>match cx.tt.get elem with
   | some ed=>match lZ cx i ed with
    | true=>gI st i len fun st=>bm st (.sptr b off len i)
    | false=>index st i len fun st n=>bm st (.ptr b (off+n*ed.size))
   | none=>.stuck "indexAddr"
  | .slice elem,.slice b off len _=>match cx.tt.get elem with
   | some ed=>match lZ cx i ed with
    | true=>gI st i len fun st=>bm st (.sptr b off len i)
    | false=>index st i len fun st n=>bm st (.ptr b (off+n*ed.size))
   | none=>.stuck "indexAddr"
  | .slice elem,.xslice w b off es len _=>match cx.tt.get elem with
   | some ed=>nT st w b off es len i ed.size
   | none=>.stuck "indexAddr"
  | .slice elem,.wslice b off len _=>match cx.tt.get elem,i with
   | some ed,.lit (.ofNat n)=>split st (mkLt (.lit (.ofNat n)) len) fun st t=>match t with
    | true=>bm st (.wptr b (off+n*ed.size))
    | false=>.stuck "index out of range"
   | _,_=>.stuck "indexAddr"
  | _,_=>.stuck "indexAddr"
 | _,_,_=>.stuck "indexAddr"
def EM(cx:Cx)(tm:Tm)(st:St)(t:TypeId)(x ix:Operand):cq:=
 match cx.tt.get t,cD cx tm x,cD cx tm ix with
 | some td,some v,some (.int _ i)=>match td.d,v with
  | .array len elem,.agg cs=>match cx.tt.get elem with
   | some ed=>match lZ cx i ed with
    | true=>match takeN len cs with
     | some l=>gI st i len fun st=>fG st (Qg i l) "index"
     | none=>.stuck "index"
    | false=>index st i len fun st n=>fG st (nZ cx.tt elem cs (n*ed.size)) "index"
   | none=>.stuck "index"
  | .string,.str (.slit l)=>index st i l.length fun st n=>bm st (.int .u8 (.lit ((((nth l n).getD 0) % 256:Nat):Int)))
  | _,_=>.stuck "index"
 | _,_,_=>.stuck "index"
def Am(cx:Cx)(tm:Tm)(st:St)(t:TypeId)(x ix:Operand)(ok:Bool):cq:=
 match cD cx tm x,cD cx tm ix with
 | some x,some ix=>s8 cx st t x ix ok
 | _,_=>.stuck "lookup"
def tI(cx:Cx)(tm:Tm)(st:St)(t:TypeId)(m k x:Operand):cq:=
 match cD cx tm m,cD cx tm k,cD cx tm x with
 | some m,some k,some x=>k9 cx st t m k x
 | _,_,_=>.stuck "update"
def Ai(cx:Cx)(tm:Tm)(st:St)(x:Operand)(asserted:TypeId)(ok:Bool):cq:=
 match cx.tt.get asserted,cD cx tm x with
 | some td,some v=>match td.d,v with
  | .interface _,_=>.stuck "typeAssert"
  | _,.iface t v=>match Nat.beq t asserted,ok with
   | true,true=>bm st (.tuple [v,.bool (.lit 1)])
   | true,false=>bm st v
   | false,true=>match zeroV td with
    | some z=>bm st (.tuple [z,.bool (.lit 0)])
    | none=>.stuck "typeAssert"
   | false,false=>.stuck "typeAssert fails"
  | _,.niliface=>match ok with
   | true=>match zeroV td with
    | some z=>bm st (.tuple [z,.bool (.lit 0)])
    | none=>.stuck "typeAssert"
   | false=>.stuck "typeAssert fails"
  | _,_=>.stuck "typeAssert"
 | _,_=>.stuck "typeAssert"
def vZ(cx:Cx)(tm:Tm)(st:St)(x:Operand)(i:Nat):cq:=
 match cD cx tm x with
 | some (.tuple l)=>fG st (nth l i) "extract"
 | _=>.stuck "extract"
def L1(cx:Cx)(tm:Tm)(st:St)(c:Call):cq:=
 match c.callee with
 | .value f=>match cD cx tm f with
  | some (.func (.func g) first cap)=>match sZ cx tm c.args.toList with
   | some args=>match cx.ft.get g with
    | some _=>.ok (.enter g (first++args++cap),st)
    | none=>.stuck "call: unknown function"
   | none=>.stuck "call"
  | some (.yield l)=>match k8 cx tm c.args.toList with
   | some args=>.ok (.round l args,st)
   | none=>.stuck "call"
  | _=>.stuck "call"
 | .builtin b=>match k8 cx tm c.args.toList with
  | some args=>pT cx st b c.argTypes.toList args
  | none=>.stuck "builtin"
 | .invoke _ _=>.stuck "invoke"
def EI(cx:Cx)(tm:Tm)(st:St)(c:Call):cq:=
 match c.callee with
 | .value f=>match cD cx tm f,k8 cx tm c.args.toList with
  | some (.func (.func g) first cap),some args=>.ok (.defer (.fn (.func g) cap (first++args)),st)
  | _,_=>.stuck "defer"
 | _=>.stuck "defer"
def EN(cx:Cx)(tm:Tm)(st:St)(x:Operand):cq:=
 match cD cx tm x with
 | some (.iface t v)=>.ok (.panic (.iface t v),st)
 | _=>.stuck "panic"
def EO(cx:Cx)(tm:Tm)(st:St)(t:TypeId)(x:Operand):cq:=
 match cx.tt.get t,cD cx tm x with
 | some td,some v=>match td.d,v with
  | .map _ _,.nilmap=>.ok (.val (.ptr st.n 0),newObj st (.iter none))
  | .map _ _,.map b=>match st.h.get b with
   | some (.map _)=>.ok (.val (.ptr st.n 0),newObj st (.iter (some b)))
   | _=>.stuck "range"
  | _,_=>.stuck "range"
 | _,_=>.stuck "range"
def L9(cx:Cx)(tm:Tm)(st:St)(x:Operand)(isString:Bool):cq:=
 match cD cx tm x,isString with
 | some (.ptr r 0),false=>match st.h.get r with
  | some (.iter none)=>bm st (.tuple [.bool (.lit 0)])
  | some (.iter (some b))=>match st.h.get b with
   | some (.map [])=>bm st (.tuple [.bool (.lit 0)])
   | _=>.stuck "next: a map with entries"
  | _=>.stuck "next"
 | _,_=>.stuck "next"
def opF(op:Op):Cx→Tm→St→cq:=Op.casesOn (motive:=fun _=>Cx→Tm→St→cq) op
  (fun x cx tm st=>fG st (Gp cx tm x) "move")
  (fun x cx tm st=>fG st (Gp cx tm x) "assign")
  (fun c a b cx tm st=>Mb cx tm st c a b)
  (fun t cx _ st=>EE cx st t)
  (fun t x cx tm st=>So cx tm st t x)
  (fun t parts cx tm st=>EF cx tm st t parts)
  (fun t len parts cx tm st=>nx cx tm st t len parts)
  (fun t m k x cx tm st=>tI cx tm st t m k x)
  (fun t a cx tm st=>L8 cx tm st t a)
  (fun t a x cx tm st=>ER cx tm st t a x)
  (fun _ _ _ _=>.stuck "operation")
  (fun _ _ _ _=>.stuck "operation")
  (fun x cx tm st=>r3 cx tm st x)
  (fun op t x y _ cx tm st=>Sl cx tm st op t x y)
  (fun op _ x cx tm st=>aaQ cx tm st op x)
  (fun src dst x cx tm st=>vY cx tm st src dst x)
  (fun _ _ _ _ _=>.stuck "operation")
  (fun t x cx tm st=>EL cx tm st t x)
  (fun fn first captured cx tm st=>L5 cx tm st fn first captured)
  (fun t r cx tm st=>Sq cx tm st t r)
  (fun _ _ _ _ _=>.stuck "operation")
  (fun t l c cx tm st=>o8 cx tm st t l c)
  (fun t x lo hi mx cx tm st=>EP cx tm st t x lo hi mx)
  (fun t x f cx tm st=>o6 cx tm st t x f)
  (fun t x f cx tm st=>EK cx tm st t x f)
  (fun t x ix cx tm st=>o7 cx tm st t x ix)
  (fun t x ix cx tm st=>EM cx tm st t x ix)
  (fun t x ix ok cx tm st=>Am cx tm st t x ix ok)
  (fun t m k x cx tm st=>tI cx tm st t m k x)
  (fun _ _ _ _ _ _=>.stuck "operation")
  (fun _ _ _ _ _ _ _=>.stuck "operation")
  (fun t x cx tm st=>EO cx tm st t x)
  (fun x s cx tm st=>L9 cx tm st x s)
  (fun _ _ _ _=>.stuck "operation")
  (fun x _ asserted ok cx tm st=>Ai cx tm st x asserted ok)
  (fun x i cx tm st=>vZ cx tm st x i)
  (fun c cx tm st=>L1 cx tm st c)
  (fun _ _ _ _=>.stuck "operation")
  (fun c cx tm st=>EI cx tm st c)
  (fun x cx tm st=>EN cx tm st x)
  (fun _ _ _ _ _=>.stuck "operation")
  (fun _ _ _ _ _ _=>.stuck "operation")
  (fun _ _ _ _ _=>.stuck "operation")
def vf(cx:Cx)(tm:Tm)(st:St)(o:Oper):cq:=opF o.op cx tm st
def oF(cx:Cx)(tm:Tm)(st:St)(o:Oper):cq:=(vf cx tm st o).bind fun (r,st)=>gJ r st
structure FrT where
 tm:Tm
 df:List bL
abbrev cj:=R (Ex×FrT×St)
structure SelfT where
 code:Option Nat→Code→FrT→St→cj
 loop:Option Nat→Code→FrT→St→cj
 call:FuncId→List V→St→gm
def P9(l:Nat)(e:Ex)(fr:FrT)(st:St):gm:=
 match fr.df with
 | []=>
  match st.h.get l with
  | some (.loop _ _ tmps params assign body defers)=>
   match e with
   | .normal=>.ok (.ret (.bool (.lit 1)),{st with h:=st.h.set l (.loop .ready none tmps params assign body defers)})
   | .ret=>.ok (.ret (.bool (.lit 0)),{st with h:=st.h.set l (.loop .done (some .ret) tmps params assign body defers)})
   | .exit id=>.ok (.ret (.bool (.lit 0)),{st with h:=st.h.set l (.loop .done (some (.exit id)) tmps params assign body defers)})
   | .panic _=>.stuck "round: panic"
   | .die _=>.stuck "round: panic"
  | _=>.stuck "round: no loop"
 | _=>.stuck "round: defers"
def se(self:SelfT)(l:Nat)(body:Code)(e:Ex)(fr:FrT)(st:St):gm:=
 match e with
 | .normal=>
  match st.h.get l with
  | some (.loop state pending tmps params assign body' defers)=>
   match state with
   | .ready=>(self.code (some l) body fr {st with h:=st.h.set l (.loop .busy pending tmps params assign body' defers)}).bind fun (e,fr,st)=>P9 l e fr st
   | _=>.stuck "round: not ready"
  | _=>.stuck "round: no loop"
 | _=>.stuck "round: assign"
def oK(self:SelfT)(l:Nat)(args:List V)(st:St):gm:=
 match st.h.get l with
 | some (.loop _ _ tmps params assign body _)=>
  match Nat.beq params.toList.length args.length with
  | true=>(self.code (some l) assign {tm:=Tm.of (mc tmps params.toList args),df:=[]} st).bind fun (e,fr,st)=>se self l body e fr st
  | false=>.stuck "round: arguments"
 | _=>.stuck "round: no loop"
def Bd(st:St)(ops:List Oper)(tm:Tm)(o:Oper) (k:St→Bool→R (Ex×FrT×St)):cj:=
 match o.guard with
 | none=>k st true
 | some (j,want)=>
  match (nth ops j).bind (·.dst) with
  | none=>k st false
  | some d=>match tm.get d with
   | some (.bool x)=>split st x fun st b=>k st (b==want)
   | some (.ite _ _ _)=>.stuck "guard"
   | some (.any _)=>.stuck "guard"
   | _=>k st false
def GA{β:Type}(fr:FrT)(k:FrT→β):β:=match fr with
 | ⟨tm,df⟩=>match df with
  | []=>k ⟨tm,[]⟩
  | d::l=>k ⟨tm,d::l⟩
abbrev qR:=Tm→List bL→St→cj
def goR(df:List bL)(k:qR)(st:St)(tm:Tm):cj:=k tm df st
def wu(tm:Tm)(df:List bL)(dst:Option Tmp)(k:qR)(st:St)(v:V):cj:=mE tm dst v (goR df k st)
def W1(tm:Tm)(df:List bL)(dst:Option Tmp)(k:qR)(v:V)(st:St):cj:=match v.Eg with
 | true=>dK 100 st v fun st v=>Eb v (wu tm df dst k st)
 | false=>Eb v (wu tm df dst k st)
def Zi(tm:Tm)(df:List bL)(dst:Option Tmp)(k:qR)(x:En×St):cj:=match x with
 | (e,st)=>match e with
  | .ret v=>W1 tm df dst k v st
  | .panic v=>.ok (.panic v,⟨tm,df⟩,st)
def Tb(tm:Tm)(df:List bL)(dst:Option Tmp)(k:qR)(x:En×St):cj:=match x with
 | (e,st)=>match e with
  | .ret v=>wu tm df dst k st v
  | .panic _=>.stuck "panic in a round"
def aax(rnd:Option Nat)(tm:Tm)(df:List bL)(dst:Option Tmp)(k:qR)(d:bL)(st:St):cj:=match rnd with
 | none=>wu tm (d::df) dst k st .undef
 | some _=>.stuck "defer in a round"
def ZD(self:SelfT)(rnd:Option Nat)(tm:Tm)(df:List bL)(dst:Option Tmp)(k:qR)(x:OR×St):cj:=match x with
 | (r,st)=>match r with
  | .val v=>W1 tm df dst k v st
  | .skip=>wu tm df dst k st .undef
  | .enter f args=>(self.call f args st).bind (Zi tm df dst k)
  | .round l args=>(oK self l args st).bind (Tb tm df dst k)
  | .panic v=>.ok (.panic v,⟨tm,df⟩,st)
  | .defer d=>aax rnd tm df dst k d st
def NW(cx:Cx)(self:SelfT)(rnd:Option Nat)(o:Oper)(k:qR)(tm:Tm)(df:List bL)(st:St):cj:=(vf cx tm st o).bind (ZD self rnd tm df o.dst k)
def Ly(cx:Cx)(self:SelfT)(rnd:Option Nat)(o:Oper)(k:qR)(tm:Tm)(df:List bL)(want:Bool)(st:St)(b:Bool):cj:=match b==want with
 | true=>NW cx self rnd o k tm df st
 | false=>wu tm df o.dst k st .undef
def Ee(cx:Cx)(self:SelfT)(rnd:Option Nat)(ops:List Oper)(o:Oper)(k:qR)(tm:Tm)(df:List bL)(st:St):cj:=match o.guard with
 | none=>NW cx self rnd o k tm df st
 | some (j,want)=>match (nth ops j).bind (·.dst) with
  | none=>wu tm df o.dst k st .undef
  | some d=>match tm.get d with
   | some v=>match v.fv with
    | .bool x=>split st x (Ly cx self rnd o k tm df want)
    | .int _ _=>wu tm df o.dst k st .undef
    | .other=>match v.Eg with
     | true=>.stuck "guard"
     | false=>wu tm df o.dst k st .undef
   | none=>wu tm df o.dst k st .undef
def Lq(cx:Cx)(self:SelfT)(rnd:Option Nat)(ops l:List Oper):qR:=
 List.rec (motive:=fun _=>qR) (fun tm df st=>.ok (.normal,⟨tm,df⟩,st)) (fun o _ ih=>Ee cx self rnd ops o ih) l
def RA(cx:Cx)(self:SelfT)(rnd:Option Nat)(ops l:List Oper)(fr:FrT)(st:St):cj:=match fr with
 | ⟨tm,df⟩=>Lq cx self rnd ops l tm df st
structure RdT where
 i:Nat
 tm:Tm
 o:Oper
 v:V
structure RST where
 fr:FrT
 st:St
 sm:List Sm
 mm:Option Mk
 bigs:List Nat
 reads:List RdT
 lost:Bool:=false
def wE(cx:Cx)(st:St)(r:RdT):Bool:=
 match oF cx r.tm st r.o with
 | .ok (.val u,_)=>u.beq r.v
 | _=>false
def fU(cx:Cx)(st:St)(bef:Nat):List RdT→Bool
 | []=>true
 | r::l=>(Nat.testBit bef r.i || wE cx st r)&&fU cx st bef l
def D0(cx:Cx)(self:SelfT)(fr:FrT)(st:St)(o:Oper)(k:FrT→St→cj)(kp:V→St→cj):cj:=
 (oF cx fr.tm st o).bind fun (r,st)=>
  match r with
  | .val v=>mE fr.tm o.dst v fun tm=>k {fr with tm:=tm} st
  | .skip=>mE fr.tm o.dst .undef fun tm=>k {fr with tm:=tm} st
  | .enter f args=>(self.call f args st).bind fun (e,st)=>
   match e with
   | .ret v=>mE fr.tm o.dst v fun tm=>k {fr with tm:=tm} st
   | .panic v=>kp v st
  | .round l args=>(oK self l args st).bind fun (e,st)=>
   match e with
   | .ret v=>mE fr.tm o.dst v fun tm=>k {fr with tm:=tm} st
   | .panic _=>.stuck "panic in a round"
  | .panic _=>.stuck "a panic in a drawn region"
  | .defer _=>.stuck "a defer in a drawn region"
def u7(cx:Cx)(self:SelfT)(i:Nat)(o:Oper)(b:Nat)(rs:RST)(st:St)(dep:Bool)(k:RST→cj):cj:=
 match gL o.op (cD cx rs.fr.tm) rs.sm with
 | 0=>(oF cx rs.fr.tm {st with h:=T.nil} o).bind fun (r,st')=>
  match r with
  | .val v=>if Nat.ble st.n st'.n then mE rs.fr.tm o.dst v fun tm=>k {rs with st:={st' with h:=st.h},fr:={rs.fr with tm:=tm}} else .stuck "draw: names"
  | _=>.stuck "draw: value expected"
 | 1=>(oF cx rs.fr.tm {st with h:=T.nil} o).bind fun (r,st')=>
  match r with
  | .val v=>if Nat.blt st.n st'.n then mE rs.fr.tm o.dst v fun tm=>k {rs with st:={st' with h:=st.h},sm:=CC i st'.h st.n++rs.sm,fr:={rs.fr with tm:=tm}} else .stuck "draw: names"
  | _=>.stuck "draw: value expected"
 | 5=>(oF cx rs.fr.tm {st with h:=T.nil} o).bind fun (r,st')=>
  match r with
  | .val v=>match rs.mm,st'.h.get st.n with
   | none,some (.map [])=>if Nat.blt st.n st'.n then mE rs.fr.tm o.dst v fun tm=>k {rs with st:={st' with h:=st.h},mm:=some {owner:=i,id:=st.n,ins:=[]},fr:={rs.fr with tm:=tm}} else .stuck "draw: names"
   | _,_=>.stuck "draw: map"
  | _=>.stuck "draw: value expected"
 | 2=>(oF cx rs.fr.tm st o).bind fun (r,st')=>
  match r with
  | .val v=>mE rs.fr.tm o.dst v fun tm=>k {rs with st:=st',reads:={i:=i,tm:=rs.fr.tm,o:=o,v:=v}::rs.reads,fr:={rs.fr with tm:=tm}}
  | _=>.stuck "draw: value expected"
 | 4=>match o.op with
  | .insert t m key x=>match cD cx rs.fr.tm m,cD cx rs.fr.tm key,cD cx rs.fr.tm x,rs.mm with
   | some (.map mb),some kv,some xv,some mk=>match Nat.beq mb mk.id,Nat.testBit b mk.owner,p8 cx t kv,oT kv mk.ins with
    | true,true,true,true=>mE rs.fr.tm o.dst .undef fun tm=>k {rs with st:=st,mm:=some {mk with ins:=(i,kv,xv)::mk.ins},fr:={rs.fr with tm:=tm}}
    | _,_,_,_=>.stuck "draw: insert"
   | _,_,_,_=>.stuck "draw: insert"
  | _=>.stuck "draw: insert"
 | _=>
  D0 cx self rs.fr {st with h:=cM b rs.sm st.h} o (fun fr st'=>
   if Nat.ble st.n st'.n&&fU cx st' b rs.reads then
    k {fr:=fr,st:=st',sm:=fV b rs.sm,mm:=rs.mm,bigs:=i::rs.bigs,reads:=rs.reads}
   else .stuck "draw: a reader sees other things") fun v st'=>match rs.fr.df with
    | []=>match dep,fU cx {st with h:=cM b rs.sm st.h} b rs.reads with
     | true,true=>.ok (.die v,rs.fr,st')
     | _,_=>.stuck "a panic in a drawn region"
    | _=>.stuck "a panic in a drawn region"
def pU(cx:Cx)(self:SelfT)(ops:List Oper)(bs:List Nat):List Nat→Nat→RST→cj
 | [],done,rs=>match Nat.beq (done+1) (2 ^ ops.length) with
  | true=>.ok (.normal,rs.fr,{rs.st with h:=wO rs.mm (oi rs.sm rs.st.h)})
  | false=>.stuck "draw: not all"
 | i::rest,done,rs=>match nth ops i,nth bs i with
  | some o,some b=>match within b done&&sI b rs.bigs && !Nat.testBit done i with
   | true=>Bd rs.st ops rs.fr.tm o fun st w=>
    match w with
    | false=>mE rs.fr.tm o.dst .undef fun tm=>pU cx self ops bs rest (done ||| 2 ^ i) {rs with st:=st,fr:={rs.fr with tm:=tm}}
    | true=>u7 cx self i o b rs st (rC bs i rest&&Nat.beq (du rest (done ||| 2 ^ i)+1) (2 ^ ops.length)) (pU cx self ops bs rest (done ||| 2 ^ i))
   | false=>.stuck "draw: two calls"
  | _,_=>.stuck "draw"
def DT(cx:Cx)(self:SelfT)(ops:List Oper)(bs:List Nat)(fr:FrT)(st:St):cj:=
 pU cx self ops bs (Eh ops bs) 0 {fr:=fr,st:=st,sm:=[],mm:=none,bigs:=[],reads:=[]}
def AQ(cx:Cx)(tm:Tm)(h:H):ResultVar→Option V
 | .tmp t=>match tm.get t with
  | some v=>some v
  | none=>some .undef
 | .cell a t=>match cx.tt.get t,tm.get a with
  | some td,some (.ptr b off)=>match cv h b off td.size with
   | some cs=>if td.agg then some (.agg cs) else (match cs with | [v]=>some v | _=>none)
   | none=>none
  | _,_=>none
def qE(cx:Cx)(tm:Tm)(h:H):List ResultVar→Option (List V)
 | []=>some []
 | r::rs=>match AQ cx tm h r,qE cx tm h rs with
  | some v,some vs=>some (v::vs)
  | _,_=>none
def wC(cx:Cx)(fn:Func)(tm:Tm)(h:H):Option V:=
 match qE cx tm h fn.results.toList with
 | some [v]=>some v
 | some vs=>some (.tuple vs)
 | none=>none
def nd(cx:Cx)(fn:Func)(tm:Tm):Option V→List bL→St→gm
 | e,[],st=>match e with
  | none=>match wC cx fn tm st.h with
   | some v=>.ok (.ret v,st)
   | none=>.stuck "results"
  | some p=>.ok (.panic p,st)
 | e,.mark b::ds,st=>match st.h.get b with
  | some (.deferred (some []))=>nd cx fn tm e ds {st with h:=st.h.set b (.deferred none)}
  | _=>.stuck "mark"
 | e,.fn f cap args::ds,st=>match f with
  | .func g=>match cx.dm g with
   | some s=>(s (args++cap) st e).bind fun (e',st')=>nd cx fn tm e' ds st'
   | none=>.stuck "deferred call"
  | _=>.stuck "deferred call"
def x6(cx:Cx)(self:SelfT)(f:FuncId)(args:List V)(st:St):gm:=
 match KV cx f args st with
 | some s=>(s args st).bind fun (v,st)=>.ok (.ret v,st)
 | none=>
  match cx.ft.get f with
  | none=>.stuck "no function"
  | some fn=>
   match fn.body with
   | none=>.stuck "no body"
   | some body=>
    (self.code none body {tm:=Tm.start fn.ntmps args,df:=[]} st).bind fun (e,fr,st)=>
     match e with
     | .normal=>nd cx fn fr.tm none fr.df st
     | .ret=>nd cx fn fr.tm none fr.df st
     | .panic v=>nd cx fn fr.tm (some v) fr.df st
     | .die v=>match fr.df with
      | []=>.ok (.panic v,st)
      | _=>.stuck "die"
     | .exit _=>.stuck "exit"
def uz(self:SelfT)(rnd:Option Nat)(g:FuncId)(first cap:List V)(params:Array Tmp)(assign body:Code)(tm:Tm)(df:List bL)(D:Nat)(st:St):cj:=
 (self.call g (first++.yield st.n::cap) (newObj st (.loop .ready none tm.l params assign body D))).bind fun (e,st1)=>
  match e with
  | .panic _=>.stuck "panic out of a range"
  | .ret _=>
   match st1.h.get st.n with
   | some (.loop state pending tmps params assign body D)=>
    match state with
    | .busy=>.stuck "loop busy"
    | _=>
     match pending with
     | none=>.ok (.normal,{tm:=tm,df:=df},{st1 with h:=st1.h.set st.n (.loop .exhausted none tmps params assign body D)})
     | some c=>self.code rnd c {tm:=tm,df:=df} {st1 with h:=st1.h.set st.n (.loop .exhausted (some c) tmps params assign body D)}
   | _=>.stuck "loop"
def zk(cx:Cx)(self:SelfT)(rnd:Option Nat)(f:Operand)(params:Array Tmp)(assign body:Code)(fr:FrT)(st:St):cj:=
 match cD cx fr.tm f with
 | some (.func (.func g) first cap)=>
  match cx.ft.get g with
  | none=>.stuck "range: unknown function"
  | some _=>
   match rnd with
   | some l=>match st.h.get l with
    | some (.loop _ _ _ _ _ _ D)=>uz self rnd g first cap params assign body fr.tm fr.df D st
    | _=>.stuck "loop"
   | none=>uz self rnd g first cap params assign body fr.tm (.mark st.n::fr.df) st.n (newObj st (.deferred (some [])))
 | _=>.stuck "range over what?"
def codeF(c:Code):Cx→SelfT→Option Nat→FrT→St→cj:=Code.casesOn (motive:=fun _=>Cx→SelfT→Option Nat→FrT→St→cj) c
  (fun _ _ _ fr st=>.ok (.normal,fr,st))
  (fun _ ops draw cx self rnd fr st =>     match draw with
  | false=>RA cx self rnd ops.toList ops.toList fr st
  | true=>if u6 ops.toList then DT cx self ops.toList (dE ops.toList []) fr st else .stuck "draw: temporaries")
  (fun a b _ self rnd fr st=>(self.code rnd a fr st).bind fun (e,fr,st)=>
  match e with
  | .normal=>self.code rnd b fr st
  | .exit id=>.ok (.exit id,fr,st)
  | .ret=>.ok (.ret,fr,st)
  | .panic v=>.ok (.panic v,fr,st)
  | .die v=>.ok (.die v,fr,st))
  (fun c x y cx self rnd fr st=>match cD cx fr.tm c with
  | some (.bool b)=>split st b fun st t=>match t with
   | true=>self.code rnd x fr st
   | false=>self.code rnd y fr st
  | _=>.stuck "cond")
  (fun id body _ self rnd fr st=>(self.code rnd body fr st).bind fun (e,fr,st)=>
  match e with
  | .exit i=>match Nat.beq i id with
   | true=>.ok (.normal,fr,st)
   | false=>.ok (.exit i,fr,st)
  | .normal=>.ok (.normal,fr,st)
  | .ret=>.ok (.ret,fr,st)
  | .panic v=>.ok (.panic v,fr,st)
  | .die v=>.ok (.die v,fr,st))
  (fun body _ self rnd fr st=>self.loop rnd body fr st)
  (fun f params assign body cx self rnd fr st=>zk cx self rnd f params assign body fr st)
  (fun id _ _ _ fr st=>.ok (.exit id,fr,st))
  (fun body _ self rnd fr st=>self.code rnd body fr st)
  (fun _ _ _ _ fr st=>.ok (.normal,fr,st))
  (fun _ _ _ _ _ _=>.stuck "code")
  (fun _ _ _ fr st=>.ok (.ret,fr,st))
  (fun _ _ _ _ _ _=>.stuck "code")
def x7(cx:Cx)(self:SelfT)(rnd:Option Nat)(c:Code)(fr:FrT)(st:St):cj:=codeF c cx self rnd fr st
def s9(self:SelfT)(rnd:Option Nat)(body:Code)(fr:FrT)(st:St):cj:=
 (self.code rnd body fr st).bind fun (e,fr,st)=>
  match e with
  | .normal=>self.loop rnd body fr st
  | .exit id=>.ok (.exit id,fr,st)
  | .ret=>.ok (.ret,fr,st)
  | .panic v=>.ok (.panic v,fr,st)
  | .die v=>.ok (.die v,fr,st)
def D4(cx:Cx)(self:SelfT)(rnd:Option Nat)(body:Code)(fr:FrT)(st:St):cj:=match cx.lp with
 | none=>s9 self rnd body fr st
 | some lp=>match lp rnd body ⟨fr.tm.l,fr.df⟩ st with
  | none=>s9 self rnd body fr st
  | some r=>r.bind fun (e,fr,st)=>.ok (e,⟨Tm.of fr.tm,fr.df⟩,st)
def Eo(pc:PC)(c:X)(a b:Ex×FrT×St):Option (Ex×FrT×St):=
 match a,b with
 | (e,fr,st),(e',fr',st')=>match kq e e',eB fr.df fr'.df with
  | true,true=>match Es c fr.tm fr'.tm with
   | some tm=>match vG pc c st st' with
    | some st=>some (e,{tm:=tm,df:=fr.df},st)
    | none=>none
   | none=>none
  | _,_=>none
def jh(st:St)(tm:Tm):List Nat→(St→Tm→cj)→cj
 | [],k=>k st tm
 | t::ts,k=>match tm.get t with
  | some v=>match v.isIte with
   | true=>dK 100 st v fun st v=>jh st ((tm.set t v)) ts k
   | false=>jh st tm ts k
  | none=>jh st tm ts k
def x8(cx:Cx)(self:SelfT)(rnd:Option Nat)(c:Code)(fr:FrT)(st:St):cj:=match Fw c with
 | []=>x7 cx self rnd c fr st
 | t::ts=>jh st fr.tm (t::ts) fun st tm=>x7 cx self rnd c {tm:=tm,df:=fr.df} st
def zc(cx:Cx)(self:SelfT)(rnd:Option Nat)(c:Code)(fr:FrT)(st:St):cj:=
 GA fr fun fr=>tk st fun st=>
 match cx.mg with
 | false=>x7 cx self rnd c fr st
 | true=>match R2 cx.js c with
  | true=>dZ Eo st.pc (x8 cx self rnd c fr st)
  | false=>x8 cx self rnd c fr st
def za(cx:Cx)(self:SelfT)(f:FuncId)(args:List V)(st:St):gm:=
 match R3 cx with
 | false=>x6 cx self f args st
 | true=>dZ Ep st.pc (x6 cx self f args st)
def X1(cx:Cx):Nat→SelfT
 | 0=>{code:=fun _ _ _ _=>.stuck "fuel", loop:=fun _ _ _ _=>.stuck "fuel", call:=fun _ _ _=>.stuck "fuel" }
 | n+1=>{code:=zc cx (X1 cx n),loop:=D4 cx (X1 cx n),call:=za cx (X1 cx n)}
end
end Go.Proofs.YtmickljjofbmiaaGreatDoor
