/- IsaUnlike: of any two instructions the law answers true, and nothing that was there is turned. No condition. -/
import Derived.Test.YtfdgdbphdjijdaaDoorUAt
namespace Go.Proofs.YtfdgdbphdjijdaaDoor
open Go Go.Proofs Go.ChangeShapes Go.WideShapes Go.ChangeAt Go.RowKit
noncomputable def uniP (ro : Nat → Obj) (op rd r1 r2 n : Int) (p q : Bool) : Bool × Int × List UInt8 := by classical exact if h : ∃ u : Bool × Int × List UInt8, Uni ro op rd r1 r2 n p q u.1 u.2.1 u.2.2 then h.choose else (false, 0, [])
theorem uniP_ok {ro : Nat → Obj} {op rd r1 r2 n : Int} {p q : Bool} (h : ∃ u : Bool × Int × List UInt8, Uni ro op rd r1 r2 n p q u.1 u.2.1 u.2.2) : Uni ro op rd r1 r2 n p q (uniP ro op rd r1 r2 n p q).1 (uniP ro op rd r1 r2 n p q).2.1 (uniP ro op rd r1 r2 n p q).2.2 := by
 unfold uniP
 rw [dif_pos h]
 exact h.choose_spec
structure UI where
 op : Int
 rd : Int
 r1 : Int
 r2 : Int
 n : Int
 p : Bool
 q : Bool
def UI.val (x : UI) : Value := instV x.op x.rd x.r1 x.r2 x.n x.p x.q
noncomputable def UI.u (W : World) (x : UI) : Bool × Int × List UInt8 := uniP (roOf W) x.op x.rd x.r1 x.r2 x.n x.p x.q
def UI.at (x : UI) (i : Nat) : Int := if i = 0 then x.op else if i = 1 then x.rd else if i = 2 then x.r1 else if i = 3 then x.r2 else if i = 4 then x.n else if i = 5 then b2i x.p else b2i x.q
structure UK where
 W : World
 a : UI
 b : UI
noncomputable def UK.env (d : UK) : Env :=
 {b := fun _ => false
  v := fun i => if i < 10 then d.a.at i else if i < 20 then d.b.at (i - 10) else if i = 20 then b2i (d.a.u d.W).1 else if i = 21 then b2i (d.b.u d.W).1 else if i = 22 then (d.a.u d.W).2.1 else (d.b.u d.W).2.1
  f1 := fun _ _ => 0, f2 := fun _ _ _ => 0
  s := fun i => if i = 1 then (d.a.u d.W).2.2 else (d.b.u d.W).2.2
  sf := fun _ _ => []
  ro := roOf d.W
  win := fun _ => ⟨0, 0, none⟩ }
def sdA : V := .agg [.int .i64 (.var 0), .int .i64 (.var 1), .int .i64 (.var 2), .int .i64 (.var 3), .int .u32 (.var 4), .bool (.eq (.var 5) (.lit 1)), .bool (.eq (.var 6) (.lit 1))]
def sdB : V := .agg [.int .i64 (.var 10), .int .i64 (.var 11), .int .i64 (.var 12), .int .i64 (.var 13), .int .u32 (.var 14), .bool (.eq (.var 15) (.lit 1)), .bool (.eq (.var 16) (.lit 1))]
theorem flag_den (b : Bool) : (b2i b == 1) = b := by cases b <;> rfl
theorem sdA_conc (d : UK) (π : Pl) : sdA.conc d.env π = d.a.val := by
 show Value.agg #[.int .i64 d.a.op, .int .i64 d.a.rd, .int .i64 d.a.r1, .int .i64 d.a.r2, .int .u32 d.a.n, .bool ((X.eq (.var 5) (.lit 1)).tt d.env), .bool ((X.eq (.var 6) (.lit 1)).tt d.env)] = _
 rw [tt_eq, tt_eq, show (X.var 5).den d.env = b2i d.a.p from rfl, show (X.var 6).den d.env = b2i d.a.q from rfl, show (X.lit 1).den d.env = 1 from rfl, flag_den, flag_den]
 rfl
theorem sdB_conc (d : UK) (π : Pl) : sdB.conc d.env π = d.b.val := by
 show Value.agg #[.int .i64 d.b.op, .int .i64 d.b.rd, .int .i64 d.b.r1, .int .i64 d.b.r2, .int .u32 d.b.n, .bool ((X.eq (.var 15) (.lit 1)).tt d.env), .bool ((X.eq (.var 16) (.lit 1)).tt d.env)] = _
 rw [tt_eq, tt_eq, show (X.var 15).den d.env = b2i d.b.p from rfl, show (X.var 16).den d.env = b2i d.b.q from rfl, show (X.lit 1).den d.env = 1 from rfl, flag_den, flag_den]
 rfl
def encU (o : Nat) : Bool → V
 | true => .tuple [.int .u32 (.var o), .int .i64 (.lit 0)]
 | false => .tuple [.int .u32 (.lit 0), .int .i64 (.lit 2)]
def txtU (o : Nat) : Bool → V
 | true => .tuple [.str (.svar o), .int .i64 (.lit 0)]
 | false => .tuple [.str (.slit []), .int .i64 (.lit 2)]
noncomputable def symU (m : X) (mk : Bool → V) (st : St) : R (V × St) := split st m fun st b => .ok (mk b, { st with n := st.n + 10000 })
noncomputable def symW (mA mB : Bool → V) (args : List V) (st : St) : R (V × St) := match roThere LStart st.h with
 | true => match V.beqs args [sdA] with
  | true => symU (.eq (.var 20) (.lit 1)) mA st
  | false => match V.beqs args [sdB] with
   | true => symU (.eq (.var 21) (.lit 1)) mB st
   | false => .stuck "symW"
 | false => .stuck "symW"
section
variable {d : UK} (hall : RoAll (roOf d.W)) (hW : ∀ x ∈ LStart, d.W.heap[x.1]? = some (roOf d.W x.1)) {cx : Cx} (hng : cx.ng = 7)
include hall hng in
theorem symU_at {m : X} {mk : Bool → V} {M : Bool} {x : V} {a val : Value} {f : FuncId} {fn : Func} (hfn : Tryd.prog.funcs[f]? = some fn) (hm : m.tt d.env = M) (hx : ∀ π, x.conc d.env π = a) (hc : CallAt (roOf d.W) f a val) (hv : ∀ π, (mk M).conc d.env π = val) (hnw : (mk M).noWin = true) (hren : ∀ k, (mk M).ren k = mk M)
  {st : St} {v : V} {st' : St} (hs : (symU m mk st).sel d.env = some (v, st')) {S : Nat → Prop} {π0 : Pl} {w : World} {ac : List Value} {n : Nat} (hthere : roThere LStart st.h = true) (hh : Here cx d.env S π0 st w) (ha : SaysL d.env S π0 [x] ac) : CallsIn Fence.wide n Tryd.prog f ac.toArray w (EPost d.env S π0 st w (.ret v, st')) := by
 obtain ⟨st1, L, hs⟩ := split_sel hh.pc hs
 rw [hm] at hs
 simp only [R.sel, Option.some.injEq, Prod.mk.injEq] at hs
 obtain ⟨rfl, rfl⟩ := hs
 obtain ⟨c, ρ', pc0, x1, v1, st2, q1, q2, q3, q4, q5, q6, q7, q8, q9, q10, q11, q12⟩ := hc
 have hargs : SaysL ρ' S π0 [x1] ac := fun π hk => by
  rw [← ha π hk]
  show [x1.conc ρ' π] = [x.conc d.env π]
  rw [q12, hx]
 have key := leaf_post4 (P := Tryd.prog) (cx := cx) (cx0 := c) (ρ := d.env) (ρ' := ρ') (st := st1) q6 mixed_door (by rw [q2]; exact tt_ok) (by rw [q3]; exact ft_ok) q1 hng q4 LStart_lt (hall ρ' q5) q5 q7 q8 (v' := mk M) (fun _ π => (hv π).trans (q10 π).symm) hnw (objs := []) (fun x hx => by simp at hx) (by simp [V.pures, q11]) hfn (hh.like L) (by rw [L.h]; exact hthere) hargs (n := n)
 refine key.mono fun e w' hp => EPost.like L ?_
 rw [hren] at hp
 exact EPost.more (st1 := { h := st1.h, n := st1.n + (st2.n - 7), pc := st1.pc }) (v := mk M) hp (m := st1.n + 10000) (by show st1.n + (st2.n - 7) ≤ st1.n + 10000; omega)
theorem mA_tt : (X.eq (.var 20) (.lit 1)).tt d.env = (d.a.u d.W).1 := by
 rw [tt_eq]
 exact flag_den _
theorem mB_tt : (X.eq (.var 21) (.lit 1)).tt d.env = (d.b.u d.W).1 := by
 rw [tt_eq]
 exact flag_den _
include hall hng in
theorem symW_ok {mA mB : Bool → V} {f : FuncId} {fn : Func} (hfn : Tryd.prog.funcs[f]? = some fn) (hA : ∃ val, CallAt (roOf d.W) f d.a.val val ∧ (∀ π, (mA (d.a.u d.W).1).conc d.env π = val) ∧ (mA (d.a.u d.W).1).noWin = true ∧ ∀ k, (mA (d.a.u d.W).1).ren k = mA (d.a.u d.W).1)
  (hB : ∃ val, CallAt (roOf d.W) f d.b.val val ∧ (∀ π, (mB (d.b.u d.W).1).conc d.env π = val) ∧ (mB (d.b.u d.W).1).noWin = true ∧ ∀ k, (mB (d.b.u d.W).1).ren k = mB (d.b.u d.W).1) : SumAt Tryd.prog cx d.env f (symW mA mB) := by
 intro args st v st' hs S π0 w ac n hh ha
 unfold symW at hs
 split at hs
 ·rename_i hthere
  split at hs
  ·rename_i hb
   rw [V.beqs_eq _ _ hb] at ha
   obtain ⟨val, h1, h2, h3, h4⟩ := hA
   exact symU_at hall hng hfn mA_tt (sdA_conc d) h1 h2 h3 h4 hs hthere hh ha
  ·split at hs
   ·rename_i hb
    rw [V.beqs_eq _ _ hb] at ha
    obtain ⟨val, h1, h2, h3, h4⟩ := hB
    exact symU_at hall hng hfn mB_tt (sdB_conc d) h1 h2 h3 h4 hs hthere hh ha
   ·simp [R.sel] at hs
 ·simp [R.sel] at hs
end
noncomputable def smL : List (FuncId × (List V → St → R (V × St))) := [(7, sumTab LStart 7 sum7), (9, symW (encU 22) (encU 23)), (5, symW (txtU 1) (txtU 2))]
noncomputable def cxL : Cx := { cxD with sm := smOf smL }
theorem allU {d : UK} (hall : RoAll (roOf d.W)) (uA : Uni (roOf d.W) d.a.op d.a.rd d.a.r1 d.a.r2 d.a.n d.a.p d.a.q (d.a.u d.W).1 (d.a.u d.W).2.1 (d.a.u d.W).2.2) (uB : Uni (roOf d.W) d.b.op d.b.rd d.b.r1 d.b.r2 d.b.n d.b.p d.b.q (d.b.u d.W).1 (d.b.u d.W).2.1 (d.b.u d.W).2.2) : SumOk Tryd.prog cxL d.env :=
 smOf_okL (l := smL) ⟨at7 hall rfl rfl, symW_ok hall rfl Tryd.func9 ⟨_, uA.enc, fun π => by cases (d.a.u d.W).1 <;> rfl, by cases (d.a.u d.W).1 <;> rfl, fun k => by cases (d.a.u d.W).1 <;> rfl⟩ ⟨_, uB.enc, fun π => by cases (d.b.u d.W).1 <;> rfl, by cases (d.b.u d.W).1 <;> rfl, fun k => by cases (d.b.u d.W).1 <;> rfl⟩,
  symW_ok hall rfl Tryd.func5 ⟨_, uA.txt, fun π => by cases (d.a.u d.W).1 <;> rfl, by cases (d.a.u d.W).1 <;> rfl, fun k => by cases (d.a.u d.W).1 <;> rfl⟩ ⟨_, uB.txt, fun π => by cases (d.b.u d.W).1 <;> rfl, by cases (d.b.u d.W).1 <;> rfl, fun k => by cases (d.b.u d.W).1 <;> rfl⟩, trivial⟩ rfl
def sameX : X := (.ite (.eq (.var 0) (.var 10)) (.ite (.eq (.var 1) (.var 11)) (.ite (.eq (.var 2) (.var 12)) (.ite (.eq (.var 3) (.var 13)) (.ite (.eq (.var 4) (.var 14)) (.ite (.eq (.not (.eq (.var 5) (.lit 1))) (.not (.eq (.var 15) (.lit 1)))) (.ite (.eq (.not (.eq (.var 6) (.lit 1))) (.not (.eq (.var 16) (.lit 1)))) (.lit 1) (.lit 0)) (.lit 0)) (.lit 0)) (.lit 0)) (.lit 0)) (.lit 0)) (.lit 0))
def wordsX : X := .eq (.not (.eq (.var 22) (.var 23))) (.not sameX)
def textsX : X := .eq (.not (.seq (.svar 1) (.svar 2))) (.not sameX)
def uPc : Nat → PC
 | 0 => [(.eq (.var 20) (.lit 1), false)]
 | 1 => [(.eq (.var 20) (.lit 1), true), (.eq (.var 21) (.lit 1), false)]
 | _ => [(.eq (.var 20) (.lit 1), true), (.eq (.var 21) (.lit 1), true), (wordsX, true), (textsX, true)]
noncomputable def lawRun (i : Nat) : Bool := allChk LStart ((evT cxL 4000).call 4 [sdA, sdB] (stPc (uPc i)))
set_option maxRecDepth 100000 in
theorem law0 : lawRun 0 = true := by kernel_rfl
set_option maxRecDepth 100000 in
theorem law1 : lawRun 1 = true := by kernel_rfl
set_option maxRecDepth 100000 in
theorem law2 : lawRun 2 = true := by kernel_rfl
theorem ite_and {ρ : Env} {c a : X} : (X.ite c a (.lit 0)).tt ρ = (c.tt ρ && a.tt ρ) := by
 simp only [X.tt, X.den]
 cases h : c.den ρ == 0 <;> simp [bne, h]
theorem not_tt2 {ρ : Env} {a b : X} : (X.eq (.not a) (.not b)).tt ρ = (a.tt ρ == b.tt ρ) := by
 rw [tt_eq]
 simp only [X.tt, X.den]
 cases h1 : a.den ρ == 0 <;> cases h2 : b.den ρ == 0 <;> simp [bne, h1, h2, b2i]
theorem same_tt (d : UK) : sameX.tt d.env = true ↔ d.a = d.b := by
 have e : sameX.tt d.env = ((d.a.op == d.b.op) && ((d.a.rd == d.b.rd) && ((d.a.r1 == d.b.r1) && ((d.a.r2 == d.b.r2) && ((d.a.n == d.b.n) && (((b2i d.a.p == 1) == (b2i d.b.p == 1)) && (((b2i d.a.q == 1) == (b2i d.b.q == 1)) && true))))))) := by
  unfold sameX
  simp only [ite_and, not_tt2]
  simp only [tt_eq]
  rfl
 rw [e]
 obtain ⟨W, ⟨o, a, b, c, n, p, q⟩, ⟨o', a', b', c', n', p', q'⟩⟩ := d
 simp only [flag_den, Bool.and_eq_true, beq_iff_eq, and_true, UI.mk.injEq]
theorem calls_of {W : World} (hall : RoAll (roOf W)) (hW : ∀ x ∈ LStart, W.heap[x.1]? = some (roOf W x.1)) {f : FuncId} {fn : Func} (hfn : Tryd.prog.funcs[f]? = some fn) {a val : Value} (h : CallAt (roOf W) f a val) : Calls Tryd.prog f #[a] W fun e _ => e = .returned val := by
 obtain ⟨c, ρ', pc0, x, v, st', q1, q2, q3, q4, q5, q6, q7, q8, q9, q10, q11, q12⟩ := h
 have h0 := (here_stG (cx0 := c) (π0 := πStart) q4 LStart_lt (hall ρ' q5) (fun _ _ => rfl) (by rw [q5]; exact hW)).like (st1 := { stG LStart 7 with pc := pc0 }) ⟨rfl, rfl, q6⟩
 refine (ev_calls mixed_door (by rw [q2]; exact tt_ok) (by rw [q3]; exact ft_ok) q1 q7 h0 (ac := [a]) (fun π _ => by show [x.conc ρ' π] = [a]; rw [q12]) hfn).mono fun e w' hp => ?_
 obtain ⟨_, π1, g, c, rfl, hv⟩ := hp
 rw [← hv π1 fun _ _ => rfl, q10]
theorem roOf_start {W : World} (h : laidMetH Tryd.prog Rows.isaUnlikeRow.laid W) : RoAll (roOf W) ∧ ∀ x ∈ LStart, W.heap[x.1]? = some (roOf W x.1) :=
 ⟨roAll_start h, (roAt_start (ρ := instE W 0 0 0 0 0 false false) h rfl).2⟩
theorem unlike_walk {W : World} (h : laidMetH Tryd.prog Rows.isaUnlikeRow.laid W) {a b : UI} (ha : 0 ≤ a.n ∧ a.n < 4294967296) (hb : 0 ≤ b.n ∧ b.n < 4294967296) : Calls Tryd.prog 4 #[a.val, b.val] W fun e W' => e = .returned (.bool true) ∧ Below W.heap.size W W' := by
 obtain ⟨hall, hW⟩ := roOf_start h
 let d : UK := ⟨W, a, b⟩
 have uA : Uni (roOf W) a.op a.rd a.r1 a.r2 a.n a.p a.q (a.u W).1 (a.u W).2.1 (a.u W).2.2 := uniP_ok (uni_ex hall hW ha)
 have uB : Uni (roOf W) b.op b.rd b.r1 b.r2 b.n b.p b.q (b.u W).1 (b.u W).2.1 (b.u W).2.2 := uniP_ok (uni_ex hall hW hb)
 have go : ∀ {i : Nat}, lawRun i = true → PcOk d.env (uPc i) → Calls Tryd.prog 4 #[a.val, b.val] W fun e W' => e = .returned (.bool true) ∧ Below W.heap.size W W' := fun {i} hr hp => by
  unfold lawRun at hr
  rw [← evT_call] at hr
  exact law_chk (ρ := d.env) (ac := [a.val, b.val]) tt_ok ft_ok rfl (allU (d := d) hall uA uB) Tryd.func4 h rfl hp hr fun π _ => by
   show [sdA.conc d.env π, sdB.conc d.env π] = _
   rw [sdA_conc, sdB_conc]
 have one : ∀ {x : X} {t : Bool} {pc : PC}, x.tt d.env = t → PcOk d.env pc → PcOk d.env ((x, t) :: pc) := fun h hp f hf => by
  rcases List.mem_cons.1 hf with rfl | hf
  ·exact h
  ·exact hp f hf
 have nil : PcOk d.env [] := fun f hf => by cases hf
 cases hmA : (a.u W).1 with
 | false => exact go law0 (one (mA_tt.trans hmA) nil)
 | true =>
  cases hmB : (b.u W).1 with
  | false => exact go law1 (one (mA_tt.trans hmA) (one (mB_tt.trans hmB) nil))
  | true =>
   have words : (a.u W).2.1 = (b.u W).2.1 ↔ a = b := by
    refine ⟨fun e => ?_, fun e => by rw [e]⟩
    have c1 := calls_of hall hW Tryd.func13 (uA.dec hmA)
    have c2 := calls_of hall hW Tryd.func13 (uB.dec hmB)
    rw [← e] at c2
    have e1 := calls_det (by kernel_rfl) c1 c2
    injection e1 with e1
    have e2 := congrArg (fun l => l[0]?) e1
    simp only [List.getElem?_toArray] at e2
    have e3 : instV a.op a.rd a.r1 a.r2 a.n a.p a.q = instV b.op b.rd b.r1 b.r2 b.n b.p b.q := Option.some.inj e2
    unfold instV at e3
    simp only [Value.agg.injEq, Array.mk.injEq, List.cons.injEq, Value.int.injEq, Value.bool.injEq, true_and, and_true] at e3
    obtain ⟨o, a1, b1, c1, n, p, q⟩ := a
    obtain ⟨o', a1', b1', c1', n', p', q'⟩ := b
    simp only at e3
    obtain ⟨rfl, rfl, rfl, rfl, rfl, rfl, rfl⟩ := e3
    rfl
   have texts : (a.u W).2.2 = (b.u W).2.2 ↔ a = b := by
    refine ⟨fun e => ?_, fun e => by rw [e]⟩
    obtain ⟨k, k1, k2, ek, es, et⟩ := uA.told hmA
    obtain ⟨k', k1', k2', ek', es', et'⟩ := uB.told hmB
    rw [es, es'] at e
    obtain ⟨f1, f2, f3, f4, f5, f6, f7⟩ := text_inj ⟨k1, k2⟩ ⟨k1', k2'⟩ et et' e
    obtain ⟨o, a1, b1, c1, n, p, q⟩ := a
    obtain ⟨o', a1', b1', c1', n', p', q'⟩ := b
    simp only at ek ek' f2 f3 f4 f5 f6 f7
    subst f1 f2 f3 f4 f5 f6 f7 ek ek'
    rfl
   have unlike : ¬ a = b → sameX.tt d.env = false := fun e => by
    cases h : sameX.tt d.env with
    | false => rfl
    | true => exact (e ((same_tt d).1 h)).elim
   have wX : wordsX.tt d.env = true := by
    unfold wordsX
    rw [not_tt2, tt_eq]
    show (((a.u W).2.1 == (b.u W).2.1) == sameX.tt d.env) = true
    by_cases e : a = b
    ·rw [(same_tt d).2 e, words.2 e]
     simp
    ·rw [unlike e, beq_false_of_ne fun q => e (words.1 q)]
     rfl
   have tX : textsX.tt d.env = true := by
    unfold textsX
    rw [not_tt2]
    have hs : (X.seq (.svar 1) (.svar 2)).tt d.env = ((a.u W).2.2 == (b.u W).2.2) := by
     rw [X.tt, X.den, b2i_tt]
     rfl
    rw [hs]
    by_cases e : a = b
    ·rw [(same_tt d).2 e, texts.2 e]
     simp
    ·rw [unlike e, beq_false_of_ne fun q => e (texts.1 q)]
     rfl
   exact go law2 (one (mA_tt.trans hmA) (one (mB_tt.trans hmB) (one wX (one tX nil))))
end Go.Proofs.YtfdgdbphdjijdaaDoor
