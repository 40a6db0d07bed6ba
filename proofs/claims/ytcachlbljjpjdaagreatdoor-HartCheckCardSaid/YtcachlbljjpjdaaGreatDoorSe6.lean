/- Symbolic execution, part 6: operations that only reckon do in the model what the evaluator says. No condition. -/
import Derived.Test.YtcachlbljjpjdaaGreatDoorSe5
namespace Go.Proofs.YtcachlbljjpjdaaGreatDoor
open Go

def FOk (P : Program) (ft : T Func) : Prop := ∀ f fn, ft.get f = some fn → P.funcs[f]? = some fn ∧ (fn.name == "runtime.NumGoroutine") = false ∧ fn.body.isSome = true
structure Ctx (P : Program) (cx : Cx) (ρ : Env) (π : Pl) (h : H) (w : World) (tm : List V) (a : Act) : Prop where
  tt : TOk P cx.tt
  ft : FOk P cx.ft
  rep : RepH ρ π h w
  tmps : a.tmps = (V.concs ρ π tm).toArray
  glob : ∀ g, g < cx.ng → (π g).1 = g

theorem uint8_back (l : List UInt8) : (l.map UInt8.toNat).map UInt8.ofNat = l := by
  rw [List.map_map]
  conv => rhs; rw [← List.map_id l]
  apply List.map_congr_left
  intro b _
  simp
mutual
theorem ofValue_ok (ρ : Env) (π : Pl) : ∀ (v : Value) (u : V), ofValue v = some u → u.conc ρ π = v
  | .bool b, u, h => by simp [ofValue] at h; subst h; simp [V.conc, X.tt, X.den, b2i_tt]
  | .int k n, u, h => by simp [ofValue] at h; subst h; simp [V.conc, X.den]
  | .string s, u, h => by
    simp only [ofValue, Option.some.injEq] at h; subst h
    simp only [V.conc, X.sden, uint8_back]
  | .pointer none, u, h => by simp [ofValue] at h; subst h; simp [V.conc]
  | .pointer (some _), u, h => by simp [ofValue] at h
  | .slice none 0 0, u, h => by simp [ofValue] at h; subst h; simp [V.conc]
  | .slice none 0 (_ + 1), u, h => by simp [ofValue] at h
  | .slice none (_ + 1) _, u, h => by simp [ofValue] at h
  | .slice (some _) _ _, u, h => by simp [ofValue] at h
  | .map none, u, h => by simp [ofValue] at h; subst h; simp [V.conc]
  | .map (some _), u, h => by simp [ofValue] at h
  | .func f ⟨[]⟩ ⟨[]⟩, u, h => by
    cases f <;> simp [ofValue] at h <;> (subst h; simp [V.conc, V.concs])
  | .func f ⟨[]⟩ ⟨_ :: _⟩, u, h => by simp [ofValue] at h
  | .func f ⟨_ :: _⟩ _, u, h => by simp [ofValue] at h
  | .nilFunc, u, h => by simp [ofValue] at h; subst h; simp [V.conc]
  | .iface t v, u, h => by
    simp only [ofValue, Option.map_eq_some_iff] at h
    obtain ⟨x, hx, rfl⟩ := h
    simp [V.conc, ofValue_ok ρ π v x hx]
  | .nilIface, u, h => by simp [ofValue] at h; subst h; simp [V.conc]
  | .agg ⟨l⟩, u, h => by
    simp only [ofValue, Option.map_eq_some_iff] at h
    obtain ⟨x, hx, rfl⟩ := h
    simp [V.conc, ofValues_ok ρ π l x hx]
  | .tuple ⟨l⟩, u, h => by
    simp only [ofValue, Option.map_eq_some_iff] at h
    obtain ⟨x, hx, rfl⟩ := h
    simp [V.conc, ofValues_ok ρ π l x hx]
  | .float _ _, u, h => by simp [ofValue] at h
  | .complex _ _ _, u, h => by simp [ofValue] at h
  | .chan _, u, h => by simp [ofValue] at h
theorem ofValues_ok (ρ : Env) (π : Pl) : ∀ (l : List Value) (u : List V), ofValues l = some u → V.concs ρ π u = l
  | [], u, h => by simp [ofValues] at h; subst h; rfl
  | v :: l, u, h => by
    simp only [ofValues] at h
    split at h
    · rename_i x y hx hy
      simp only [Option.some.injEq] at h
      subst h
      rw [V.concs, ofValue_ok ρ π v x hx, ofValues_ok ρ π l y hy]
    · simp at h
end

section
variable {P : Program} {cx : Cx} {ρ : Env} {π : Pl} {h : H} {w : World} {tm : List V} {a : Act}
theorem evO_ok (c : Ctx P cx ρ π h w tm a) {o : Operand} {v : V} (hv : evO cx tm o = some v) : a.eval o = v.conc ρ π := by
  cases o with
  | tmp t =>
    simp only [evO, nth_eq] at hv
    simp only [Act.eval, c.tmps]
    split at hv
    · rename_i u hu
      split at hv
      · simp at hv
      simp only [Option.some.injEq] at hv
      subst hv
      simp [Array.getD_eq_getD_getElem?, concs_get, hu]
    · rename_i hu
      simp only [Option.some.injEq] at hv
      subst hv
      simp [Array.getD_eq_getD_getElem?, concs_get, hu, V.conc, V.concs, undef]
  | const u => exact (ofValue_ok ρ π u v hv).symm
  | global g =>
    simp only [evO] at hv
    split at hv
    · rename_i hg
      simp only [Option.some.injEq] at hv
      subst hv
      have hg' : g < cx.ng := by simpa [Nat.blt_eq] using hg
      simp [Act.eval, V.conc, c.glob g hg']
    · simp at hv
  | func f =>
    simp only [evO, Option.some.injEq] at hv
    subst hv
    simp [Act.eval, V.conc, V.concs]
theorem ofValue_notIte : ∀ {v : Value} {u : V}, ofValue v = some u → u.isIte = false := by
  intro v u h
  unfold ofValue at h
  split at h
  all_goals first
    | (obtain rfl := Option.some.inj h; rfl)
    | (split at h <;> first | (cases h; done) | (obtain rfl := Option.some.inj h; rfl))
    | (rw [Option.map_eq_some_iff] at h; obtain ⟨_, _, rfl⟩ := h; rfl)
    | cases h
theorem evO_notIte {cx : Cx} {tm : List V} {o : Operand} {v : V} (hv : evO cx tm o = some v) : v.isIte = false := by
  cases o with
  | tmp t =>
    simp only [evO] at hv
    split at hv
    · split at hv
      · cases hv
      · rename_i hn
        obtain rfl := Option.some.inj hv
        cases hu : V.isIte _ with
        | false => rfl
        | true =>
          unfold V.isIte at hu
          split at hu
          · exact absurd rfl (hn _ _ _)
          · cases hu
    · obtain rfl := Option.some.inj hv
      rfl
  | const u => exact ofValue_notIte hv
  | global g =>
    simp only [evO] at hv
    split at hv
    · obtain rfl := Option.some.inj hv; rfl
    · cases hv
  | func f =>
    simp only [evO] at hv
    obtain rfl := Option.some.inj hv; rfl
theorem evParts_notIte {cx : Cx} {tm : List V} : ∀ {l : List (Nat × Operand)} {vs : List (Nat × V)}, evParts cx tm l = some vs → ∀ x ∈ vs, x.2.isIte = false
  | [], vs, hv => by simp [evParts] at hv; subst hv; simp
  | (i, o) :: l, vs, hv => by
    simp only [evParts] at hv
    split at hv
    · rename_i x y hx hy
      simp only [Option.some.injEq] at hv
      subst hv
      intro z hz
      rcases List.mem_cons.1 hz with rfl | hz
      · exact evO_notIte hx
      · exact evParts_notIte hy z hz
    · simp at hv
theorem evArgs_ok (c : Ctx P cx ρ π h w tm a) : ∀ {l : List Operand} {vs : List V}, evArgs cx tm l = some vs → l.map a.eval = V.concs ρ π vs
  | [], vs, hv => by simp [evArgs] at hv; subst hv; rfl
  | o :: l, vs, hv => by
    simp only [evArgs] at hv
    split at hv
    · rename_i x y hx hy
      simp only [Option.some.injEq] at hv
      subst hv
      rw [List.map_cons, V.concs, evO_ok c hx, evArgs_ok c hy]
    · simp at hv
theorem evParts_ok (c : Ctx P cx ρ π h w tm a) : ∀ {l : List (Nat × Operand)} {vs : List (Nat × V)}, evParts cx tm l = some vs →
    l.map (fun x => (x.1, a.eval x.2)) = vs.map fun x => (x.1, x.2.conc ρ π)
  | [], vs, hv => by simp [evParts] at hv; subst hv; rfl
  | (i, o) :: l, vs, hv => by
    simp only [evParts] at hv
    split at hv
    · rename_i x y hx hy
      simp only [Option.some.injEq] at hv
      subst hv
      simp only [List.map_cons, evO_ok c hx, evParts_ok c hy]
    · simp at hv
end

/-- Where what is new lies, off what the model says. -/
def resPlace : Result Next → Nat × Nat
  | .ok (.value (.pointer (some a))) _ => (a.block, 0)
  | .ok (.value (.slice (some a) _ cap)) _ => (a.block, cap)
  | .ok (.value (.map (some r))) _ => (r, 0)
  | _ => (0, 0)
/-- What the model's run of an operation is to be. -/
def Ran (P : Program) (cx : Cx) (tm : List V) (ρ : Env) (π : Pl) (st st' : St) (w : World) (res : Result Next) : OR → Prop
  | .val v => ∃ w', res = .ok (.value (v.conc ρ π)) w' ∧ Mv ρ π st.h st.n w st'.h st'.n w'
  | .skip => ∃ w', res = .ok .skip w' ∧ Mv ρ π st.h st.n w st'.h st'.n w'
  | .enter f args => res = .ok (.enter f (V.concs ρ π args).toArray) w ∧ st'.h = st.h ∧ st'.n = st.n ∧ ∃ fn, P.funcs[f]? = some fn
  | .round l args => res = (Instr.yield (π l).1 (V.concs ρ π args).toArray).run P w ∧ st'.h = st.h ∧ st'.n = st.n ∧ ∃ fo os, evO cx tm fo = some (.yield l) ∧ evArgs cx tm os = some args
  | .panic v => res = .halt (.panic (v.conc ρ π)) w ∧ st'.h = st.h ∧ st'.n = st.n
  | .defer d => res = .ok (.defer (d.conc ρ π)) w ∧ st'.h = st.h ∧ st'.n = st.n
structure OpOk (P : Program) (cx : Cx) (tm : List V) (ρ : Env) (π : Pl) (st st' : St) (w : World) (res : Result Next) (r : OR) : Prop where
  pc : PcOk ρ st'.pc
  n : st.n ≤ st'.n
  ran : (st.n < st'.n → π st.n = resPlace res) → Ran P cx tm ρ π st st' w res r

section
variable {P : Program} {cx : Cx} {tm : List V} {ρ : Env} {π : Pl} {st st' : St} {w : World} {r : OR}
/-- What hands back a value and leaves memory alone. -/
theorem OpOk.value {res : Result Next} {v : V} {st1 : St} (hp : RepH ρ π st.h w) (hl : Like ρ st st1) (h : (okv st1 v).sel ρ = some (r, st')) (hr : res = .ok (.value (v.conc ρ π)) w) : OpOk P cx tm ρ π st st' w res r := by
  simp only [okv, R.sel, Option.some.injEq, Prod.mk.injEq] at h
  obtain ⟨rfl, rfl⟩ := h
  refine ⟨hl.pc, by rw [hl.n]; exact Nat.le_refl _, fun _ => ⟨w, hr, ?_⟩⟩
  rw [hl.h, hl.n]
  exact Mv.refl hp _
theorem OpOk.optv {res : Result Next} {v : Option V} {s : String} {st1 : St} (hp : RepH ρ π st.h w) (hl : Like ρ st st1) (h : (optv st1 v s).sel ρ = some (r, st')) (hr : ∀ u, v = some u → res = .ok (.value (u.conc ρ π)) w) :
    OpOk P cx tm ρ π st st' w res r := by
  unfold Go.Proofs.YtcachlbljjpjdaaGreatDoor.optv at h
  split at h
  · exact OpOk.value hp hl h (hr _ rfl)
  · simp [R.sel] at h
theorem OpOk.new {res : Result Next} {o : SObj} {ob : Obj} {v : V} (hp : RepH ρ π st.h w) (hpc : PcOk ρ st.pc) (h : R.sel ρ (.ok (.val v, newObj st o)) = some (r, st'))
    (hr : (π st.n).1 = w.heap.size → res = .ok (.value (v.conc ρ π)) { w with heap := w.heap.push ob }) (hpl : (resPlace res).1 = w.heap.size) (ho : (π st.n).1 = w.heap.size → o.is ρ π st.n ob) :
    OpOk P cx tm ρ π st st' w res r := by
  simp only [R.sel, Option.some.injEq, Prod.mk.injEq] at h
  obtain ⟨rfl, rfl⟩ := h
  refine ⟨hpc, by simp [newObj], fun hn => ?_⟩
  have hn' : (π st.n).1 = w.heap.size := by rw [hn (by simp [newObj]), hpl]
  exact ⟨_, hr hn', Mv.new hp hn' (ho hn')⟩
end

section ops
variable {P : Program} {cx : Cx} {ρ : Env} {π : Pl} {w : World} {tm : List V} {a : Act} {st st' : St} {r : OR}
theorem shlI_eq (k : IntKind) (x y : Int) (yk : IntKind) (h : ¬ y < 0) : (Op.shift .shl k x yk y).run P w = .ok (.int k (shlI k x y)) w := by
  simp [Op.shift, h, shlI]
theorem shrI_eq (k : IntKind) (x y : Int) (yk : IntKind) (h : ¬ y < 0) : (Op.shift .shr k x yk y).run P w = .ok (.int k (shrI k x y)) w := by
  simp [Op.shift, h, shrI]
theorem ok_shift {op : BinOp} {k j : IntKind} {x y : X} {t : TypeId} {p q : Operand} {ty : TypeId} {o : Oper} (c : Ctx P cx ρ π st.h w tm a) (hpc : PcOk ρ st.pc) (ho : o.op = .binOp op t p q ty)
    (hx : a.eval p = .int k (x.den ρ)) (hy : a.eval q = .int j (y.den ρ)) (h : (shiftInt st op k x y).sel ρ = some (r, st')) : OpOk P cx tm ρ π st st' w ((execOp a.eval o).run P w) r := by
  unfold shiftInt at h
  obtain ⟨st1, hl, h1⟩ := split_sel hpc h
  rw [mkLt_tt] at h1
  split at h1
  · simp [R.sel] at h1
  · rename_i hd
    have hn : ¬ y.den ρ < 0 := by
      have := of_decide_eq_false hd
      simpa [X.den] using this
    cases op <;> first
      | (simp [R.sel] at h1; done)
      | (refine OpOk.value c.rep hl h1 ?_
         simp only [execOp, ho, hx, hy]
         simp [eqGuard, binOp, V.conc, mkShl_den, mkShr_den, shlI_eq, shrI_eq, hn])
theorem ok_int0 {op : BinOp} {k : IntKind} {x y : X} {t : TypeId} {p q : Operand} {ty : TypeId} {o : Oper} (c : Ctx P cx ρ π st.h w tm a) (hpc : PcOk ρ st.pc) (ho : o.op = .binOp op t p q ty)
    (hx : a.eval p = .int k (x.den ρ)) (hy : a.eval q = .int k (y.den ρ)) (h : (binInt0 st op k x y).sel ρ = some (r, st')) : OpOk P cx tm ρ π st st' w ((execOp a.eval o).run P w) r := by
  have hl := Like.refl hpc
  unfold binInt0 at h
  cases op <;> simp only at h
  case quo =>
    obtain ⟨st1, hl1, h1⟩ := split_sel hpc h
    rw [mkEq_tt] at h1
    split at h1
    · simp [R.sel] at h1
    · rename_i hd
      have hn : ¬ y.den ρ = 0 := by simpa [X.den] using hd
      refine OpOk.value c.rep hl1 h1 ?_
      simp [execOp, ho, hx, hy, eqGuard, binOp, V.conc, mkQuo_den, Op.intDiv, hn]
  case rem =>
    obtain ⟨st1, hl1, h1⟩ := split_sel hpc h
    rw [mkEq_tt] at h1
    split at h1
    · simp [R.sel] at h1
    · rename_i hd
      have hn : ¬ y.den ρ = 0 := by simpa [X.den] using hd
      refine OpOk.value c.rep hl1 h1 ?_
      simp [execOp, ho, hx, hy, eqGuard, binOp, V.conc, mkRem_den, Op.intDiv, hn]
  case shl => simp [R.sel] at h
  case shr => simp [R.sel] at h
  all_goals
    refine OpOk.value c.rep hl h ?_
    simp only [execOp, ho, hx, hy]
    simp [eqGuard, binOp, V.conc, Op.intArith, Op.intBits, Op.intCmp, mkAdd_den, mkSub_den, mkMul_den, mkBits_den, bitsI, mkEq_tt, mkNot_tt, mkLt_tt, mkLe_tt, bne]
theorem ok_int {op : BinOp} {k : IntKind} {x y : X} {t : TypeId} {p q : Operand} {ty : TypeId} {o : Oper} (c : Ctx P cx ρ π st.h w tm a) (hpc : PcOk ρ st.pc) (ho : o.op = .binOp op t p q ty)
    (hx : a.eval p = .int k (x.den ρ)) (hy : a.eval q = .int k (y.den ρ)) (h : (binInt st op k x y).sel ρ = some (r, st')) : OpOk P cx tm ρ π st st' w ((execOp a.eval o).run P w) r :=
  ok_int0 c hpc ho (by rw [hx, simpX_den hpc]) (by rw [hy, simpX_den hpc]) h
end ops
end Go.Proofs.YtcachlbljjpjdaaGreatDoor
