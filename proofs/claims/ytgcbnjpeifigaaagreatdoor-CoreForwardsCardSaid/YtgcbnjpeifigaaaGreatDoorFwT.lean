/- Symbolic execution: the evaluator once more, its pY as tries (plain functions; nothing is proved of them here). No condition. -/
import Derived.Test.YtgcbnjpeifigaaaGreatDoorFwA
namespace Go.Proofs.YtgcbnjpeifigaaaGreatDoor
open Go
noncomputable section
structure Tm where
 n:Nat
 t:T V
def T.look{α:Type}(t:T α):List Bool->Option α:=
 T.rec (motive:=fun _=>List Bool->Option α) (fun _=>none)
  (fun _ v _ il ir bs=>List.rec (motive:=fun _=>Option α) v (fun b bs' _=>Bool.rec (motive:=fun _=>Option α) (il bs') (ir bs') b) bs) t
def T.apt{α β:Type}(bs:List Bool):α->(T α->β)->β:=
 List.rec (motive:=fun _=>α->(T α->β)->β) (fun v k=>k (.node .nil (some v) .nil))
  (fun b _ ih v k=>Bool.rec (motive:=fun _=>β) (ih v fun x=>k (.node x none .nil)) (ih v fun x=>k (.node .nil none x)) b) bs
def T.mc{α β:Type}(t:T α):List Bool->α->(T α->β)->β:=
 T.rec (motive:=fun _=>List Bool->α->(T α->β)->β) (fun bs v k=>T.apt bs v k)
  (fun l u r il ir bs v k=>List.rec (motive:=fun _=>β) (k (.node l (some v) r)) (fun b bs' _=>Bool.rec (motive:=fun _=>β) (il bs' v fun x=>k (.node x u r)) (ir bs' v fun x=>k (.node l u x)) b) bs) t
def Tm.val(m:Tm)(i:Nat):V:=match T.look m.t (bitsOf i)with
 |some v=>v
 |none=>.undef
def Tm.get(m:Tm)(i:Nat):Option V:=match Nat.blt i m.n with
 |true=>some (m.val i)
 |false=>none
def Tm.l(m:Tm):List V:=(List.range m.n).map m.val
def Tm.ME{β:Type}(m:Tm)(i:Nat)(v:V)(k:Tm->β):β:=match m with
 |⟨n,t⟩=>T.mc t (bitsOf i) v fun t=>k ⟨n,t⟩
def Tm.set(m:Tm)(i:Nat)(v:V):Tm:=m.ME i v fun m=>m
def Tm.dQ(m:Tm)(d:Option Tmp)(v:V):Tm:=match d with
 |some d=>m.set d v
 |none=>m
def nN{β:Type}(m:Tm)(d:Option Tmp)(v:V)(k:Tm->β):β:=match d with
 |none=>k m
 |some d=>m.ME d v k
def JT{β:Type}:Nat->List V->T V->(T V->β)->β
 |_,[],t,k=>k t
 |i,v::l,t,k=>pX v fun v=>T.mc t (bitsOf i) v fun t=>JT (i+1) l t k
def Tm.of(l:List V):Tm:=JT 0 l .nil fun t=>⟨l.length,t⟩
def Tm.start(n:Nat)(args:List V):Tm:=JT 0 args .nil fun t=>⟨args.length+(n-args.length),t⟩
inductive FV where
 |int (k:IntKind) (x:X)
 |bool (x:X)
 |other
def V.Gx(v:V):Bool:=V.rec (motive_1:=fun _=>Bool) (motive_2:=fun _=>Unit) (fun _ _=>false) (fun _=>false) (fun _=>false) (fun _ _=>false) false (fun _ _ _ _=>false) false (fun _=>false) false (fun _ _ _ _ _=>false) (fun _=>false) false (fun _ _ _=>false) false (fun _ _=>false) (fun _ _=>false) (fun _ _=>false) (fun _ _ _ _=>false) (fun _ _ _ _ _=>true) (fun _ _ _ _=>false) (fun _ _ _ _=>false) (fun _ _ _ _ _ _=>false) (fun _ _ _ _ _=>false) (fun _=>true) () (fun _ _ _ _=>()) v
def V.fv(v:V):FV:=V.rec (motive_1:=fun _=>FV) (motive_2:=fun _=>Unit) (fun k x=>.int k x) (fun x=>.bool x) (fun _=>.other) (fun _ _=>.other) .other (fun _ _ _ _=>.other) .other (fun _=>.other) .other (fun _ _ _ _ _=>.other) (fun _=>.other) .other (fun _ _ _=>.other) .other (fun _ _=>.other) (fun _ _=>.other) (fun _ _=>.other) (fun _ _ _ _=>.other) (fun _ _ _ _ _=>.other) (fun _ _ _ _=>.other) (fun _ _ _ _=>.other) (fun _ _ _ _ _ _=>.other) (fun _ _ _ _ _=>.other) (fun _=>.other) () (fun _ _ _ _=>()) v
abbrev X.atZ (x:X):Option Int:=m6 x
def Gp{β:Type}(x:X)(k:X->β):β:=match x.atZ with
 |some n=>Gk n fun n=>k (.lit n)
 |none=>k x
def Gm{β:Type}(v:V)(k:V->β):β:=match v.fv with
 |.int a x=>Gp x fun x=>k (.int a x)
 |.bool x=>Gp x fun x=>k (.bool x)
 |.other=>k v
def Qx:Option V->V
 |some v=>v
 |none=>.undef
def GK{β:Type}(c:X)(a b:Option V)(k:Option V->β):β:=match a with
 |none=>match b with
  |none=>k none
  |some b=>pX (cm c .undef b) fun v=>k (some v)
 |some a=>pX (cm c a (Qx b)) fun v=>k (some v)
def yU{β:Type}(c:X):T V->(T V->β)->β
 |.nil,k=>k .nil
 |.node l v r,k=>GK c none v fun v=>yU c l fun l=>yU c r fun r=>k (.node l v r)
def yT{β:Type}(c:X):T V->(T V->β)->β
 |.nil,k=>k .nil
 |.node l v r,k=>GK c v none fun v=>yT c l fun l=>yT c r fun r=>k (.node l v r)
def m4{β:Type}(c:X):T V->T V->(T V->β)->β
 |.nil,t,k=>yU c t k
 |.node l v r,t,k=>match t with
  |.nil=>yT c (.node l v r) k
  |.node l' v' r'=>GK c v v' fun v=>m4 c l l' fun l=>m4 c r r' fun r=>k (.node l v r)
def GL(c:X)(a b:Tm):Option Tm:=match a with
 |⟨n,t⟩=>match b with
  |⟨m,u⟩=>match Nat.beq n m with
   |true=>m4 c t u fun t=>some ⟨n,t⟩
   |false=>none
def cV(cx:Cx)(tm:Tm):Operand->Option V
 |.tmp t=>match tm.get t with
  |some v=>match v.Gx with
   |true=>none
   |false=>some v
  |none=>some .undef
 |.const v=>ofValue v
 |.global g=>if Nat.blt g cx.ng then some (.ptr g 0)else none
 |.func f=>some (.func (.func f) [] [])
def JQ(cx:Cx)(tm:Tm)(o:Operand):Option V:=match cV cx tm o with
 |some v=>some v
 |none=>match o with
  |.tmp t=>match tm.get t with
   |some v=>match v with
    |.any k=>some (.any k)
    |_=>none
   |none=>none
  |_=>none
def pS(cx:Cx)(tm:Tm):List (Nat×Operand)->Option (List (Nat×V))
 |[]=>some []
 |(i,o)::l=>match cV cx tm o,pS cx tm l with
  |some v,some r=>some ((i,v)::r)
  |_,_=>none
def mj(cx:Cx)(tm:Tm):List Operand->Option (List V)
 |[]=>some []
 |o::l=>match cV cx tm o,mj cx tm l with
  |some v,some r=>some (v::r)
  |_,_=>none
def uy(cx:Cx)(tm:Tm):List Operand->Option (List V)
 |[]=>some []
 |o::l=>match JQ cx tm o,uy cx tm l with
  |some v,some r=>some (v::r)
  |_,_=>none
def Om(cx:Cx)(tm:Tm)(st:St)(c a b:Operand):cJ:=
 match cV cx tm c,cV cx tm a,cV cx tm b with
 |some c,some a,some b=>match c with
  |.bool x=>match eU st.pc x with
   |some t=>bA st (match t with|true=>a|false=>b)
   |none=>match NF c a b with
    |some v=>bA st v
    |none=>split st x fun st t=>bA st (match t with|true=>a|false=>b)
  |_=>.stuck "pick"
 |_,_,_=>.stuck "pick"
def Wc(cx:Cx)(tm:Tm)(st:St)(t:TypeId)(x:Operand):cJ:=
 match cV cx tm x with
 |some v=>.ok (.val (.ptr st.n 0),newObj st (.cells v.cells t none))
 |none=>.stuck "box"
def GZ(cx:Cx)(tm:Tm)(st:St)(t:TypeId) (parts:Array (Nat×Operand)):cJ:=
 match cx.tt.get t,pS cx tm parts.toList with
 |some td,some ps=>match gp (placeOf cx.tt td.d) td.zero ps with
  |some cells=>match oo cx.tt td.d with
   |true=>bA st (.agg cells)
   |false=>.stuck "build"
  |none=>.stuck "build"
 |_,_=>.stuck "build"
def oD(cx:Cx)(tm:Tm)(st:St)(t:TypeId)(len:Nat) (parts:Array (Nat×Operand)):cJ:=
 match cx.tt.get t,pS cx tm parts.toList with
 |some td,some ps=>match td.d with
  |.slice elem=>match cx.tt.get elem with
   |some ed=>match Nat.ble (len*ed.size) 100000 with
    |true=>match gp (fun i=>some (i*ed.size,ed.size)) (b7 ed.zero len) ps with
     |some cells=>.ok (.val (.slice st.n 0 len (.known len)),newObj st (.cells cells elem none))
     |none=>.stuck "buildSlice"
    |false=>.stuck "buildSlice: long"
   |none=>.stuck "buildSlice"
  |_=>.stuck "buildSlice"
 |_,_=>.stuck "buildSlice"
def Oi(cx:Cx)(tm:Tm)(st:St)(t:TypeId)(a:Operand):cJ:=
 match cx.tt.get t,cV cx tm a with
 |some td,some (.sptr b off n i)=>match td.agg,Nat.beq td.size 1 with
  |false,true=>match cN st.h b off n with
   |some cs=>iJ st i n fun st=>gA st (Tf i cs) "load"
   |none=>.stuck "load: no such cells"
  |_,_=>.stuck "load: not one cell"
 |some td,some (.xptr w b i es c)=>Fy st td w b i es c
 |some td,some (.wptr b off)=>match Fw st.h st.pc b off td.size with
  |some cs=>match td.agg with
   |true=>bA st (.agg cs)
   |false=>match cs with
    |[v]=>bA st v
    |_=>.stuck "load"
  |none=>.stuck "load: no such cells"
 |some td,some (.ptr b off)=>match cN (ab5 st.h st.pc b) b off td.size with
  |some cs=>match td.agg with
   |true=>bA st (.agg cs)
   |false=>match cs with
    |[v]=>bA st v
    |_=>.stuck "load"
  |none=>.stuck "load: no such cells"
 |_,_=>.stuck "load"
def G8(cx:Cx)(tm:Tm)(st:St)(t:TypeId)(a x:Operand):cJ:=
 match cx.tt.get t,cV cx tm a,cV cx tm x with
 |some td,some (.sptr b off n i),some v=>match Nat.beq v.cells.length td.size,Nat.beq td.size 1 with
  |true,true=>match v.cells with
   |[u]=>match cN st.h b off n with
    |some cs=>iJ st i n fun st=>match putAt st.h b off (kj i u 0 cs)with
     |some h=>match u.one with
      |true=>.ok (.skip,{st with h:=h})
      |false=>.stuck "store: size"
     |none=>.stuck "store: no such cells"
    |none=>.stuck "store: no such cells"
   |_=>.stuck "store: size"
  |_,_=>.stuck "store: size"
 |some td,some (.xptr w b i es c),some v=>I6 st td w b i es c v
 |some td,some (.ptr b off),some v=>match Nat.beq v.cells.length td.size with
  |true=>match putAt st.h b off v.cells with
   |some h=>.ok (.skip,{st with h:=h})
   |none=>.stuck "store: no such cells"
  |false=>.stuck "store: size"
 |_,_,_=>.stuck "store"
def tL(cx:Cx)(tm:Tm)(st:St)(x:Operand):cJ:=
 match cV cx tm x with
 |some (.ptr b off)=>bA st (.ptr b off)
 |some (.sptr b off n i)=>bA st (.sptr b off n i)
 |some (.func (.func f) first cap)=>bA st (.func (.func f) first cap)
 |some (.yield l)=>bA st (.yield l)
 |some (.iface t v)=>bA st (.iface t v)
 |some (.slice b off len cap)=>bA st (.slice b off len cap)
 |some (.xptr w b i es c)=>bA st (.xptr w b i es c)
 |some (.xslice w b off es len cap)=>bA st (.xslice w b off es len cap)
 |_=>.stuck "nilCheck"
def Wa(cx:Cx)(tm:Tm)(st:St)(op:BinOp)(t:TypeId)(x y:Operand):cJ:=
 match cV cx tm x,cV cx tm y with
 |some a,some b=>match O6 a b,isConst y with
  |true,true=>N8 cx st op t
  |_,_=>U9 cx st op t a b
 |_,_=>.stuck "binop operand"
def ann(cx:Cx)(tm:Tm)(st:St)(op:UnOp)(x:Operand):cJ:=
 match cV cx tm x with
 |some a=>amR st op a
 |none=>.stuck "unop"
def xT(cx:Cx)(tm:Tm)(st:St)(src dst:TypeId)(x:Operand):cJ:=
 match cV cx tm x with
 |some a=>match a with
  |.xslice w b off es len _=>Fz cx st src dst w b off es len
  |a=>xb cx st src dst a
 |none=>.stuck "convert"
def G3(cx:Cx)(tm:Tm)(st:St)(t:TypeId)(x:Operand):cJ:=
 match cx.tt.get t,cV cx tm x with
 |some td,some v=>match td.d with
  |.interface _=>.stuck "makeInterface"
  |_=>bA st (.iface t v)
 |_,_=>.stuck "makeInterface"
def Oe(cx:Cx)(tm:Tm)(st:St)(fn:Fn)(first captured:Array Operand):cJ:=
 match fn,mj cx tm first.toList,mj cx tm captured.toList with
 |.func f,some a,some b=>bA st (.func (.func f) a b)
 |_,_,_=>.stuck "makeFunc"
def We(cx:Cx)(tm:Tm)(st:St)(t:TypeId)(r:Option Operand):cJ:=
 match cx.tt.get t with
 |some td=>match td.d with
  |.map _ _=>match r with
   |none=>.ok (.val (.map st.n),newObj st (.map []))
   |some x=>match cV cx tm x with
    |some (.int _ _)=>.ok (.val (.map st.n),newObj st (.map []))
    |_=>.stuck "makeMap"
  |_=>.stuck "makeMap"
 |none=>.stuck "makeMap"
def oF(cx:Cx)(tm:Tm)(st:St)(t:TypeId)(l c:Operand):cJ:=
 match cx.tt.get t,(cV cx tm l).bind lO,(cV cx tm c).bind lO with
 |some td,some l,some c=>match td.d with
  |.slice elem=>match cx.tt.get elem with
   |some ed=>match Nat.ble l c&&Nat.ble (c*(ed.bytes+1)) 1000000000 with
    |true=>.ok (.val (.slice st.n 0 l (.known c)),newObj st (.cells (b7 ed.zero c) elem none))
    |false=>.stuck "makeSlice: long"
   |none=>.stuck "makeSlice"
  |_=>.stuck "makeSlice"
 |_,_,_=>.stuck "makeSlice"
def qn(cx:Cx)(tm:Tm)(st:St)(t:TypeId)(l c:Operand):cJ:=
 match(cV cx tm l).bind am5,(cV cx tm c).bind WC with
 |some x,some y=>match cx.tt.get t with
  |some td=>match td.d with
   |.slice elem=>match cx.tt.get elem with
    |some ed=>Y6 st elem ed x y
    |none=>.stuck "makeSlice"
   |_=>.stuck "makeSlice"
  |none=>.stuck "makeSlice"
 |_,_=>oF cx tm st t l c
def A7(cx:Cx)(tm:Tm):Option Operand->Option (Option V)
 |none=>some none
 |some o=>match cV cx tm o with
  |some v=>some (some v)
  |none=>none
def G7(cx:Cx)(tm:Tm)(st:St)(t:TypeId)(x:Operand)(lo hi mx:Option Operand):cJ:=
 match cV cx tm x,A7 cx tm lo,A7 cx tm hi,A7 cx tm mx with
 |some v,some lo,some hi,some mx=>match v with
  |.xslice w b off es len cap=>I5 cx st t w b off es len cap lo hi mx
  |v=>Gf cx st t v lo hi mx
 |_,_,_,_=>.stuck "slice operand"
def ql(cx:Cx)(tm:Tm)(st:St)(t:TypeId)(x:Operand)(f:Nat):cJ:=
 match cx.tt.get t,cV cx tm x with
 |some td,some (.ptr b off)=>match td.d with
  |.struct fields=>match nth fields.toList f with
   |some fd=>match cx.tt.get fd.type with
    |some d=>match Nat.beq d.size 0 with
     |true=>.stuck "fieldAddr: no size"
     |false=>bA st (.ptr b (off+fd.offset))
    |none=>.stuck "fieldAddr"
   |none=>.stuck "fieldAddr"
  |_=>.stuck "fieldAddr"
 |some td,some (.xptr w b i es c)=>match td.d with
  |.struct fields=>match nth fields.toList f with
   |some fd=>match cx.tt.get fd.type with
    |some d=>match Nat.beq d.size 0 with
     |true=>.stuck "fieldAddr: no size"
     |false=>bA st (.xptr w b i es (c+fd.offset))
    |none=>.stuck "fieldAddr"
   |none=>.stuck "fieldAddr"
  |_=>.stuck "fieldAddr"
 |_,_=>.stuck "fieldAddr"
def G2(cx:Cx)(tm:Tm)(st:St)(t:TypeId)(x:Operand)(f:Nat):cJ:=
 match cx.tt.get t,cV cx tm x with
 |some td,some (.agg cs)=>match td.d with
  |.struct fields=>match nth fields.toList f with
   |some fd=>gA st (pd cx.tt fd.type cs fd.offset) "field"
   |none=>.stuck "field"
  |_=>.stuck "field"
 |_,_=>.stuck "field"
def qm(cx:Cx)(tm:Tm)(st:St)(t:TypeId)(x ix:Operand):cJ:=
 match cx.tt.get t,cV cx tm x,cV cx tm ix with
 |some td,some v,some (.int _ i)=>match td.d,v with
  |.array len elem,.ptr b off=>match cx.tt.get elem with
   |some ed=>match m7 cx i ed with
    |true=>iJ st i len fun st=>bA st (.sptr b off len i)
    |false=>index st i len fun st n=>bA st (.ptr b (off+n*ed.size))
   |none=>.stuck "indexAddr"
  |.slice elem,.slice b off len _=>match cx.tt.get elem with
   |some ed=>match m7 cx i ed with
    |true=>iJ st i len fun st=>bA st (.sptr b off len i)
    |false=>index st i len fun st n=>bA st (.ptr b (off+n*ed.size))
   |none=>.stuck "indexAddr"
  |.slice elem,.xslice w b off es len _=>match cx.tt.get elem with
   |some ed=>oh st w b off es len i ed.size
   |none=>.stuck "indexAddr"
  |.slice elem,.wslice b off len _=>match cx.tt.get elem,i with
   |some ed,.lit (.ofNat n)=>split st (mkLt (.lit (.ofNat n)) len) fun st t=>match t with
    |true=>bA st (.wptr b (off+n*ed.size))
    |false=>.stuck "index out of range"
   |_,_=>.stuck "indexAddr"
  |_,_=>.stuck "indexAddr"
 |_,_,_=>.stuck "indexAddr"
def G4(cx:Cx)(tm:Tm)(st:St)(t:TypeId)(x ix:Operand):cJ:=
 match cx.tt.get t,cV cx tm x,cV cx tm ix with
 |some td,some v,some (.int _ i)=>match td.d,v with
  |.array len elem,.agg cs=>match cx.tt.get elem with
   |some ed=>match m7 cx i ed with
    |true=>match takeN len cs with
     |some l=>iJ st i len fun st=>gA st (Tf i l) "index"
     |none=>.stuck "index"
    |false=>index st i len fun st n=>gA st (pd cx.tt elem cs (n*ed.size)) "index"
   |none=>.stuck "index"
  |.string,.str (.slit l)=>index st i l.length fun st n=>bA st (.int .u8 (.lit ((((nth l n).getD 0) % 256:Nat):Int)))
  |_,_=>.stuck "index"
 |_,_,_=>.stuck "index"
def Cc(cx:Cx)(tm:Tm)(st:St)(t:TypeId)(x ix:Operand)(ok:Bool):cJ:=
 match cV cx tm x,cV cx tm ix with
 |some x,some ix=>uB cx st t x ix ok
 |_,_=>.stuck "lookup"
def u6(cx:Cx)(tm:Tm)(st:St)(t:TypeId)(m k x:Operand):cJ:=
 match cV cx tm m,cV cx tm k,cV cx tm x with
 |some m,some k,some x=>ml cx st t m k x
 |_,_,_=>.stuck "update"
def B8(cx:Cx)(tm:Tm)(st:St)(x:Operand)(asserted:TypeId)(ok:Bool):cJ:=
 match cx.tt.get asserted,cV cx tm x with
 |some td,some v=>match td.d,v with
  |.interface _,_=>.stuck "typeAssert"
  |_,.iface t v=>match Nat.beq t asserted,ok with
   |true,true=>bA st (.tuple [v,.bool (.lit 1)])
   |true,false=>bA st v
   |false,true=>match zeroV td with
    |some z=>bA st (.tuple [z,.bool (.lit 0)])
    |none=>.stuck "typeAssert"
   |false,false=>.stuck "typeAssert fails"
  |_,.niliface=>match ok with
   |true=>match zeroV td with
    |some z=>bA st (.tuple [z,.bool (.lit 0)])
    |none=>.stuck "typeAssert"
   |false=>.stuck "typeAssert fails"
  |_,_=>.stuck "typeAssert"
 |_,_=>.stuck "typeAssert"
def xU(cx:Cx)(tm:Tm)(st:St)(x:Operand)(i:Nat):cJ:=
 match cV cx tm x with
 |some (.tuple l)=>gA st (nth l i) "extract"
 |_=>.stuck "extract"
def Ob(cx:Cx)(tm:Tm)(st:St)(c:Call):cJ:=
 match c.callee with
 |.value f=>match cV cx tm f with
  |some (.func (.func g) first cap)=>match uy cx tm c.args.toList with
   |some args=>match cx.ft.get g with
    |some _=>.ok (.enter g (first++args++cap),st)
    |none=>.stuck "call: unknown function"
   |none=>.stuck "call"
  |some (.yield l)=>match mj cx tm c.args.toList with
   |some args=>.ok (.round l args,st)
   |none=>.stuck "call"
  |_=>.stuck "call"
 |.builtin b=>match mj cx tm c.args.toList with
  |some args=>qU cx st b c.argTypes.toList args
  |none=>.stuck "builtin"
 |.invoke _ _=>.stuck "invoke"
def G0(cx:Cx)(tm:Tm)(st:St)(c:Call):cJ:=
 match c.callee with
 |.value f=>match cV cx tm f,mj cx tm c.args.toList with
  |some (.func (.func g) first cap),some args=>.ok (.defer (.fn (.func g) cap (first++args)),st)
  |_,_=>.stuck "defer"
 |_=>.stuck "defer"
def G5(cx:Cx)(tm:Tm)(st:St)(x:Operand):cJ:=
 match cV cx tm x with
 |some (.iface t v)=>.ok (.panic (.iface t v),st)
 |_=>.stuck "panic"
def G6(cx:Cx)(tm:Tm)(st:St)(t:TypeId)(x:Operand):cJ:=
 match cx.tt.get t,cV cx tm x with
 |some td,some v=>match td.d,v with
  |.map _ _,.nilmap=>.ok (.val (.ptr st.n 0),newObj st (.iter none))
  |.map _ _,.map b=>match st.h.get b with
   |some (.map _)=>.ok (.val (.ptr st.n 0),newObj st (.iter (some b)))
   |_=>.stuck "range"
  |_,_=>.stuck "range"
 |_,_=>.stuck "range"
def Oj(cx:Cx)(tm:Tm)(st:St)(x:Operand)(isString:Bool):cJ:=
 match cV cx tm x,isString with
 |some (.ptr r 0),false=>match st.h.get r with
  |some (.iter none)=>bA st (.tuple [.bool (.lit 0)])
  |some (.iter (some b))=>match st.h.get b with
   |some (.map [])=>bA st (.tuple [.bool (.lit 0)])
   |_=>.stuck "next: a map with entries"
  |_=>.stuck "next"
 |_,_=>.stuck "next"
def opF(op:Op):Cx->Tm->St->cJ:=Op.casesOn (motive:=fun _=>Cx->Tm->St->cJ) op
  (fun x cx tm st=>gA st (JQ cx tm x) "move")
  (fun x cx tm st=>gA st (JQ cx tm x) "assign")
  (fun c a b cx tm st=>Om cx tm st c a b)
  (fun t cx _ st=>GY cx st t)
  (fun t x cx tm st=>Wc cx tm st t x)
  (fun t parts cx tm st=>GZ cx tm st t parts)
  (fun t len parts cx tm st=>oD cx tm st t len parts)
  (fun t m k x cx tm st=>u6 cx tm st t m k x)
  (fun t a cx tm st=>Oi cx tm st t a)
  (fun t a x cx tm st=>G8 cx tm st t a x)
  (fun _ _ _ _=>.stuck "operation")
  (fun _ _ _ _=>.stuck "operation")
  (fun x cx tm st=>tL cx tm st x)
  (fun op t x y _ cx tm st=>Wa cx tm st op t x y)
  (fun op _ x cx tm st=>ann cx tm st op x)
  (fun src dst x cx tm st=>xT cx tm st src dst x)
  (fun _ _ _ _ _=>.stuck "operation")
  (fun t x cx tm st=>G3 cx tm st t x)
  (fun fn first captured cx tm st=>Oe cx tm st fn first captured)
  (fun t r cx tm st=>We cx tm st t r)
  (fun _ _ _ _ _=>.stuck "operation")
  (fun t l c cx tm st=>qn cx tm st t l c)
  (fun t x lo hi mx cx tm st=>G7 cx tm st t x lo hi mx)
  (fun t x f cx tm st=>ql cx tm st t x f)
  (fun t x f cx tm st=>G2 cx tm st t x f)
  (fun t x ix cx tm st=>qm cx tm st t x ix)
  (fun t x ix cx tm st=>G4 cx tm st t x ix)
  (fun t x ix ok cx tm st=>Cc cx tm st t x ix ok)
  (fun t m k x cx tm st=>u6 cx tm st t m k x)
  (fun _ _ _ _ _ _=>.stuck "operation")
  (fun _ _ _ _ _ _ _=>.stuck "operation")
  (fun t x cx tm st=>G6 cx tm st t x)
  (fun x s cx tm st=>Oj cx tm st x s)
  (fun _ _ _ _=>.stuck "operation")
  (fun x _ asserted ok cx tm st=>B8 cx tm st x asserted ok)
  (fun x i cx tm st=>xU cx tm st x i)
  (fun c cx tm st=>Ob cx tm st c)
  (fun _ _ _ _=>.stuck "operation")
  (fun c cx tm st=>G0 cx tm st c)
  (fun x cx tm st=>G5 cx tm st x)
  (fun _ _ _ _ _=>.stuck "operation")
  (fun _ _ _ _ _ _=>.stuck "operation")
  (fun _ _ _ _ _=>.stuck "operation")
def xc(cx:Cx)(tm:Tm)(st:St)(o:Oper):cJ:=opF o.op cx tm st
def pQ(cx:Cx)(tm:Tm)(st:St)(o:Oper):cJ:=(xc cx tm st o).bind fun(r,st)=>iK r st
structure FrT where
 tm:Tm
 df:List cz
abbrev bU:=R (Ex×FrT×St)
structure SelfT where
 code:Option Nat->Code->FrT->St->bU
 loop:Option Nat->Code->FrT->St->bU
 call:FuncId->List V->St->j4
def S4(l:Nat)(e:Ex)(fr:FrT)(st:St):j4:=
 match fr.df with
 |[]=>
  match st.h.get l with
  |some (.loop _ _ tmps params assign body defers)=>
   match e with
   |.normal=>.ok (.ret (.bool (.lit 1)),{st with h:=st.h.set l (.loop .ready none tmps params assign body defers)})
   |.ret=>.ok (.ret (.bool (.lit 0)),{st with h:=st.h.set l (.loop .done (some .ret) tmps params assign body defers)})
   |.exit id=>.ok (.ret (.bool (.lit 0)),{st with h:=st.h.set l (.loop .done (some (.exit id)) tmps params assign body defers)})
   |.panic _=>.stuck "round: panic"
   |.die _=>.stuck "round: panic"
  |_=>.stuck "round: no loop"
 |_=>.stuck "round: defers"
def tT(self:SelfT)(l:Nat)(body:Code)(e:Ex)(fr:FrT)(st:St):j4:=
 match e with
 |.normal=>
  match st.h.get l with
  |some (.loop state pending tmps params assign body' defers)=>
   match state with
   |.ready=>(self.code (some l) body fr {st with h:=st.h.set l (.loop .busy pending tmps params assign body' defers)}).bind fun(e,fr,st)=>S4 l e fr st
   |_=>.stuck "round: not ready"
  |_=>.stuck "round: no loop"
 |_=>.stuck "round: assign"
def pU(self:SelfT)(l:Nat)(args:List V)(st:St):j4:=
 match st.h.get l with
 |some (.loop _ _ tmps params assign body _)=>
  match Nat.beq params.toList.length args.length with
  |true=>(self.code (some l) assign {tm:=Tm.of (nk tmps params.toList args),df:=[]} st).bind fun(e,fr,st)=>tT self l body e fr st
  |false=>.stuck "round: arguments"
 |_=>.stuck "round: no loop"
def C1(st:St)(ops:List Oper)(tm:Tm)(o:Oper) (k:St->Bool->R (Ex×FrT×St)):bU:=
 match o.guard with
 |none=>k st true
 |some (j,want)=>
  match(nth ops j).bind (·.dst)with
  |none=>k st false
  |some d=>match tm.get d with
   |some (.bool x)=>split st x fun st b=>k st (b==want)
   |some (.ite _ _ _)=>.stuck "guard"
   |some (.any _)=>.stuck "guard"
   |_=>k st false
def JZ{β:Type}(fr:FrT)(k:FrT->β):β:=match fr with
 |⟨tm,df⟩=>match df with
  |[]=>k ⟨tm,[]⟩
  |d::l=>k ⟨tm,d::l⟩
abbrev sc:=Tm->List cz->St->bU
def goR(df:List cz)(k:sc)(st:St)(tm:Tm):bU:=k tm df st
def yg(tm:Tm)(df:List cz)(dst:Option Tmp)(k:sc)(st:St)(v:V):bU:=nN tm dst v (goR df k st)
def YX(tm:Tm)(df:List cz)(dst:Option Tmp)(k:sc)(v:V)(st:St):bU:=match v.Gx with
 |true=>eB 100 st v fun st v=>Gm v (yg tm df dst k st)
 |false=>Gm v (yg tm df dst k st)
def ac0(tm:Tm)(df:List cz)(dst:Option Tmp)(k:sc)(x:En×St):bU:=match x with
 |(e,st)=>match e with
  |.ret v=>YX tm df dst k v st
  |.panic v=>.ok (.panic v,⟨tm,df⟩,st)
def Xe(tm:Tm)(df:List cz)(dst:Option Tmp)(k:sc)(x:En×St):bU:=match x with
 |(e,st)=>match e with
  |.ret v=>yg tm df dst k st v
  |.panic _=>.stuck "panic in a round"
def amP(rnd:Option Nat)(tm:Tm)(df:List cz)(dst:Option Tmp)(k:sc)(d:cz)(st:St):bU:=match rnd with
 |none=>yg tm (d::df) dst k st .undef
 |some _=>.stuck "defer in a round"
def adm(self:SelfT)(rnd:Option Nat)(tm:Tm)(df:List cz)(dst:Option Tmp)(k:sc)(x:OR×St):bU:=match x with
 |(r,st)=>match r with
  |.val v=>YX tm df dst k v st
  |.skip=>yg tm df dst k st .undef
  |.enter f args=>(self.call f args st).bind (ac0 tm df dst k)
  |.round l args=>(pU self l args st).bind (Xe tm df dst k)
  |.panic v=>.ok (.panic v,⟨tm,df⟩,st)
  |.defer d=>amP rnd tm df dst k d st
def Qw(cx:Cx)(self:SelfT)(rnd:Option Nat)(o:Oper)(k:sc)(tm:Tm)(df:List cz)(st:St):bU:=(xc cx tm st o).bind (adm self rnd tm df o.dst k)
def NN(cx:Cx)(self:SelfT)(rnd:Option Nat)(o:Oper)(k:sc)(tm:Tm)(df:List cz)(want:Bool)(st:St)(b:Bool):bU:=match b==want with
 |true=>Qw cx self rnd o k tm df st
 |false=>yg tm df o.dst k st .undef
def Gu(cx:Cx)(self:SelfT)(rnd:Option Nat)(ops:List Oper)(o:Oper)(k:sc)(tm:Tm)(df:List cz)(st:St):bU:=match o.guard with
 |none=>Qw cx self rnd o k tm df st
 |some (j,want)=>match(nth ops j).bind (·.dst)with
  |none=>yg tm df o.dst k st .undef
  |some d=>match tm.get d with
   |some v=>match v.fv with
    |.bool x=>split st x (NN cx self rnd o k tm df want)
    |.int _ _=>yg tm df o.dst k st .undef
    |.other=>match v.Gx with
     |true=>.stuck "guard"
     |false=>yg tm df o.dst k st .undef
   |none=>yg tm df o.dst k st .undef
def NC(cx:Cx)(self:SelfT)(rnd:Option Nat)(ops l:List Oper):sc:=
 List.rec (motive:=fun _=>sc) (fun tm df st=>.ok (.normal,⟨tm,df⟩,st)) (fun o _ ih=>Gu cx self rnd ops o ih) l
def Vb(cx:Cx)(self:SelfT)(rnd:Option Nat)(ops l:List Oper)(fr:FrT)(st:St):bU:=match fr with
 |⟨tm,df⟩=>NC cx self rnd ops l tm df st
structure RdT where
 i:Nat
 tm:Tm
 o:Oper
 v:V
structure RST where
 fr:FrT
 st:St
 sm:List Sm
 mm:Option Mk
 bigs:List Nat
 reads:List RdT
 lost:Bool:=false
def yp(cx:Cx)(st:St)(r:RdT):Bool:=
 match pQ cx r.tm st r.o with
 |.ok (.val u,_)=>u.beq r.v
 |_=>false
def gR(cx:Cx)(st:St)(bef:Nat):List RdT->Bool
 |[]=>true
 |r::l=>(Nat.testBit bef r.i ||yp cx st r)&&gR cx st bef l
def Ga(cx:Cx)(self:SelfT)(fr:FrT)(st:St)(o:Oper)(k:FrT->St->bU)(kp:V->St->bU):bU:=
 (pQ cx fr.tm st o).bind fun(r,st)=>
  match r with
  |.val v=>nN fr.tm o.dst v fun tm=>k {fr with tm:=tm} st
  |.skip=>nN fr.tm o.dst .undef fun tm=>k {fr with tm:=tm} st
  |.enter f args=>(self.call f args st).bind fun(e,st)=>
   match e with
   |.ret v=>nN fr.tm o.dst v fun tm=>k {fr with tm:=tm} st
   |.panic v=>kp v st
  |.round l args=>(pU self l args st).bind fun(e,st)=>
   match e with
   |.ret v=>nN fr.tm o.dst v fun tm=>k {fr with tm:=tm} st
   |.panic _=>.stuck "panic in a round"
  |.panic _=>.stuck "a panic in a drawn region"
  |.defer _=>.stuck "a defer in a drawn region"
def wh(cx:Cx)(self:SelfT)(i:Nat)(o:Oper)(b:Nat)(rs:RST)(st:St)(dep:Bool)(k:RST->bU):bU:=
 match iM o.op (cV cx rs.fr.tm) rs.sm with
 |0=>(pQ cx rs.fr.tm {st with h:=T.nil} o).bind fun(r,st')=>
  match r with
  |.val v=>if Nat.ble st.n st'.n then nN rs.fr.tm o.dst v fun tm=>k {rs with st:={st' with h:=st.h},fr:={rs.fr with tm:=tm}}else .stuck "draw: names"
  |_=>.stuck "draw: value expected"
 |1=>(pQ cx rs.fr.tm {st with h:=T.nil} o).bind fun(r,st')=>
  match r with
  |.val v=>if Nat.blt st.n st'.n then nN rs.fr.tm o.dst v fun tm=>k {rs with st:={st' with h:=st.h},sm:=EM i st'.h st.n++rs.sm,fr:={rs.fr with tm:=tm}}else .stuck "draw: names"
  |_=>.stuck "draw: value expected"
 |5=>(pQ cx rs.fr.tm {st with h:=T.nil} o).bind fun(r,st')=>
  match r with
  |.val v=>match rs.mm,st'.h.get st.n with
   |none,some (.map [])=>if Nat.blt st.n st'.n then nN rs.fr.tm o.dst v fun tm=>k {rs with st:={st' with h:=st.h},mm:=some {owner:=i,id:=st.n,ins:=[]},fr:={rs.fr with tm:=tm}}else .stuck "draw: names"
   |_,_=>.stuck "draw: map"
  |_=>.stuck "draw: value expected"
 |2=>(pQ cx rs.fr.tm st o).bind fun(r,st')=>
  match r with
  |.val v=>nN rs.fr.tm o.dst v fun tm=>k {rs with st:=st',reads:={i:=i,tm:=rs.fr.tm,o:=o,v:=v}::rs.reads,fr:={rs.fr with tm:=tm}}
  |_=>.stuck "draw: value expected"
 |4=>match o.op with
  |.insert t m key x=>match cV cx rs.fr.tm m,cV cx rs.fr.tm key,cV cx rs.fr.tm x,rs.mm with
   |some (.map mb),some kv,some xv,some mk=>match Nat.beq mb mk.id,Nat.testBit b mk.owner,q8 cx t kv,p6 kv mk.ins with
    |true,true,true,true=>nN rs.fr.tm o.dst .undef fun tm=>k {rs with st:=st,mm:=some {mk with ins:=(i,kv,xv)::mk.ins},fr:={rs.fr with tm:=tm}}
    |_,_,_,_=>.stuck "draw: insert"
   |_,_,_,_=>.stuck "draw: insert"
  |_=>.stuck "draw: insert"
 |_=>
  Ga cx self rs.fr {st with h:=de b rs.sm st.h} o (fun fr st'=>
   if Nat.ble st.n st'.n&&gR cx st' b rs.reads then
    k {fr:=fr,st:=st',sm:=gS b rs.sm,mm:=rs.mm,bigs:=i::rs.bigs,reads:=rs.reads}
   else .stuck "draw: a reader sees other things") fun v st'=>match rs.fr.df with
    |[]=>match dep,gR cx {st with h:=de b rs.sm st.h} b rs.reads with
     |true,true=>.ok (.die v,rs.fr,st')
     |_,_=>.stuck "a panic in a drawn region"
    |_=>.stuck "a panic in a drawn region"
def qV(cx:Cx)(self:SelfT)(ops:List Oper)(bs:List Nat):List Nat->Nat->RST->bU
 |[],done,rs=>match Nat.beq (done+1) (2 ^ ops.length)with
  |true=>.ok (.normal,rs.fr,{rs.st with h:=yF rs.mm (pA rs.sm rs.st.h)})
  |false=>.stuck "draw: not all"
 |i::rest,done,rs=>match nth ops i,nth bs i with
  |some o,some b=>match within b done&&uk b rs.bigs && !Nat.testBit done i with
   |true=>C1 rs.st ops rs.fr.tm o fun st w=>
    match w with
    |false=>nN rs.fr.tm o.dst .undef fun tm=>qV cx self ops bs rest (done |||2 ^ i) {rs with st:=st,fr:={rs.fr with tm:=tm}}
    |true=>wh cx self i o b rs st (sV bs i rest&&Nat.beq (dO rest (done |||2 ^ i)+1) (2 ^ ops.length)) (qV cx self ops bs rest (done |||2 ^ i))
   |false=>.stuck "draw: two calls"
  |_,_=>.stuck "draw"
def F5(cx:Cx)(self:SelfT)(ops:List Oper)(bs:List Nat)(fr:FrT)(st:St):bU:=
 qV cx self ops bs (Ik ops bs) 0 {fr:=fr,st:=st,sm:=[],mm:=none,bigs:=[],reads:=[]}
def CF(cx:Cx)(tm:Tm)(h:H):ResultVar->Option V
 |.tmp t=>match tm.get t with
  |some v=>some v
  |none=>some .undef
 |.cell a t=>match cx.tt.get t,tm.get a with
  |some td,some (.ptr b off)=>match cN h b off td.size with
   |some cs=>if td.agg then some (.agg cs)else(match cs with|[v]=>some v|_=>none)
   |none=>none
  |_,_=>none
def rV(cx:Cx)(tm:Tm)(h:H):List ResultVar->Option (List V)
 |[]=>some []
 |r::rs=>match CF cx tm h r,rV cx tm h rs with
  |some v,some vs=>some (v::vs)
  |_,_=>none
def ym(cx:Cx)(fn:Func)(tm:Tm)(h:H):Option V:=
 match rV cx tm h fn.results.toList with
 |some [v]=>some v
 |some vs=>some (.tuple vs)
 |none=>none
def oq(cx:Cx)(fn:Func)(tm:Tm):Option V->List cz->St->j4
 |e,[],st=>match e with
  |none=>match ym cx fn tm st.h with
   |some v=>.ok (.ret v,st)
   |none=>.stuck "results"
  |some p=>.ok (.panic p,st)
 |e,.mark b::ds,st=>match st.h.get b with
  |some (.deferred (some []))=>oq cx fn tm e ds {st with h:=st.h.set b (.deferred none)}
  |_=>.stuck "mark"
 |e,.fn f cap args::ds,st=>match f with
  |.func g=>match cx.dm g with
   |some s=>(s (args++cap) st e).bind fun(e',st')=>oq cx fn tm e' ds st'
   |none=>.stuck "deferred call"
  |_=>.stuck "deferred call"
def zR(cx:Cx)(self:SelfT)(f:FuncId)(args:List V)(st:St):j4:=
 match Mh cx f args st with
 |some s=>(s args st).bind fun(v,st)=>.ok (.ret v,st)
 |none=>
  match cx.ft.get f with
  |none=>.stuck "no function"
  |some fn=>
   match fn.body with
   |none=>.stuck "no body"
   |some body=>
    (self.code none body {tm:=Tm.start fn.ntmps args,df:=[]} st).bind fun(e,fr,st)=>
     match e with
     |.normal=>oq cx fn fr.tm none fr.df st
     |.ret=>oq cx fn fr.tm none fr.df st
     |.panic v=>oq cx fn fr.tm (some v) fr.df st
     |.die v=>match fr.df with
      |[]=>.ok (.panic v,st)
      |_=>.stuck "die"
     |.exit _=>.stuck "exit"
def v5(self:SelfT)(rnd:Option Nat)(g:FuncId)(first cap:List V)(params:Array Tmp)(assign body:Code)(tm:Tm)(df:List cz)(D:Nat)(st:St):bU:=
 (self.call g (first++.yield st.n::cap) (newObj st (.loop .ready none tm.l params assign body D))).bind fun(e,st1)=>
  match e with
  |.panic _=>.stuck "panic out of a range"
  |.ret _=>
   match st1.h.get st.n with
   |some (.loop state pending tmps params assign body D)=>
    match state with
    |.busy=>.stuck "loop busy"
    |_=>
     match pending with
     |none=>.ok (.normal,{tm:=tm,df:=df},{st1 with h:=st1.h.set st.n (.loop .exhausted none tmps params assign body D)})
     |some c=>self.code rnd c {tm:=tm,df:=df} {st1 with h:=st1.h.set st.n (.loop .exhausted (some c) tmps params assign body D)}
   |_=>.stuck "loop"
def A9(cx:Cx)(self:SelfT)(rnd:Option Nat)(f:Operand)(params:Array Tmp)(assign body:Code)(fr:FrT)(st:St):bU:=
 match cV cx fr.tm f with
 |some (.func (.func g) first cap)=>
  match cx.ft.get g with
  |none=>.stuck "range: unknown function"
  |some _=>
   match rnd with
   |some l=>match st.h.get l with
    |some (.loop _ _ _ _ _ _ D)=>v5 self rnd g first cap params assign body fr.tm fr.df D st
    |_=>.stuck "loop"
   |none=>v5 self rnd g first cap params assign body fr.tm (.mark st.n::fr.df) st.n (newObj st (.deferred (some [])))
 |_=>.stuck "range over what?"
def aoX(c:Code):Cx->SelfT->Option Nat->FrT->St->bU:=Code.casesOn (motive:=fun _=>Cx->SelfT->Option Nat->FrT->St->bU) c
  (fun _ _ _ fr st=>.ok (.normal,fr,st))
  (fun _ ops draw cx self rnd fr st =>     match draw with
  |false=>Vb cx self rnd ops.toList ops.toList fr st
  |true=>if wZ ops.toList then F5 cx self ops.toList (er ops.toList []) fr st else .stuck "draw: temporaries")
  (fun a b _ self rnd fr st=>(self.code rnd a fr st).bind fun(e,fr,st)=>
  match e with
  |.normal=>self.code rnd b fr st
  |.exit id=>.ok (.exit id,fr,st)
  |.ret=>.ok (.ret,fr,st)
  |.panic v=>.ok (.panic v,fr,st)
  |.die v=>.ok (.die v,fr,st))
  (fun c x y cx self rnd fr st=>match cV cx fr.tm c with
  |some (.bool b)=>split st b fun st t=>match t with
   |true=>self.code rnd x fr st
   |false=>self.code rnd y fr st
  |_=>.stuck "cond")
  (fun id body _ self rnd fr st=>(self.code rnd body fr st).bind fun(e,fr,st)=>
  match e with
  |.exit i=>match Nat.beq i id with
   |true=>.ok (.normal,fr,st)
   |false=>.ok (.exit i,fr,st)
  |.normal=>.ok (.normal,fr,st)
  |.ret=>.ok (.ret,fr,st)
  |.panic v=>.ok (.panic v,fr,st)
  |.die v=>.ok (.die v,fr,st))
  (fun body _ self rnd fr st=>self.loop rnd body fr st)
  (fun f params assign body cx self rnd fr st=>A9 cx self rnd f params assign body fr st)
  (fun id _ _ _ fr st=>.ok (.exit id,fr,st))
  (fun body _ self rnd fr st=>self.code rnd body fr st)
  (fun _ _ _ _ fr st=>.ok (.normal,fr,st))
  (fun _ _ _ _ _ _=>.stuck "code")
  (fun _ _ _ fr st=>.ok (.ret,fr,st))
  (fun _ _ _ _ _ _=>.stuck "code")
def zT(cx:Cx)(self:SelfT)(rnd:Option Nat)(c:Code)(fr:FrT)(st:St):bU:=aoX c cx self rnd fr st
def uC(self:SelfT)(rnd:Option Nat)(body:Code)(fr:FrT)(st:St):bU:=
 (self.code rnd body fr st).bind fun(e,fr,st)=>
  match e with
  |.normal=>self.loop rnd body fr st
  |.exit id=>.ok (.exit id,fr,st)
  |.ret=>.ok (.ret,fr,st)
  |.panic v=>.ok (.panic v,fr,st)
  |.die v=>.ok (.die v,fr,st)
def Gd(cx:Cx)(self:SelfT)(rnd:Option Nat)(body:Code)(fr:FrT)(st:St):bU:=match cx.lp with
 |none=>uC self rnd body fr st
 |some lp=>match lp rnd body ⟨fr.tm.l,fr.df⟩ st with
  |none=>uC self rnd body fr st
  |some r=>r.bind fun(e,fr,st)=>.ok (e,⟨Tm.of fr.tm,fr.df⟩,st)
def GI(pc:PC)(c:X)(a b:Ex×FrT×St):Option (Ex×FrT×St):=
 match a,b with
 |(e,fr,st),(e',fr',st')=>match tj e e',fm fr.df fr'.df with
  |true,true=>match GL c fr.tm fr'.tm with
   |some tm=>match xD pc c st st' with
    |some st=>some (e,{tm:=tm,df:=fr.df},st)
    |none=>none
   |none=>none
  |_,_=>none
def kZ(st:St)(tm:Tm):List Nat->(St->Tm->bU)->bU
 |[],k=>k st tm
 |t::ts,k=>match tm.get t with
  |some v=>match v.isIte with
   |true=>eB 100 st v fun st v=>kZ st ((tm.set t v)) ts k
   |false=>kZ st tm ts k
  |none=>kZ st tm ts k
def zU(cx:Cx)(self:SelfT)(rnd:Option Nat)(c:Code)(fr:FrT)(st:St):bU:=match IX c with
 |[]=>zT cx self rnd c fr st
 |t::ts=>kZ st fr.tm (t::ts) fun st tm=>zT cx self rnd c {tm:=tm,df:=fr.df} st
def Ah(cx:Cx)(self:SelfT)(rnd:Option Nat)(c:Code)(fr:FrT)(st:St):bU:=
 JZ fr fun fr=>uK st fun st=>
 match cx.mg with
 |false=>zT cx self rnd c fr st
 |true=>match VJ cx.js c with
  |true=>eY GI st.pc (zU cx self rnd c fr st)
  |false=>zU cx self rnd c fr st
def AZ(cx:Cx)(self:SelfT)(f:FuncId)(args:List V)(st:St):j4:=
 match VK cx with
 |false=>zR cx self f args st
 |true=>eY GJ st.pc (zR cx self f args st)
def PL(cx:Cx):Nat->SelfT
 |0=>{code:=fun _ _ _ _=>.stuck "fuel", loop:=fun _ _ _ _=>.stuck "fuel", call:=fun _ _ _=>.stuck "fuel" }
 |n+1=>{code:=Ah cx (PL cx n),loop:=Gd cx (PL cx n),call:=AZ cx (PL cx n)}
end
end Go.Proofs.YtgcbnjpeifigaaaGreatDoor
