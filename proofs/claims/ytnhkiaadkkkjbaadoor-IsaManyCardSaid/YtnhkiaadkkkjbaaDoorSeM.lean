/- Symbolic execution, part 22: what the look at a drawn region has seen, step by step. No condition. -/
import Derived.Test.YtnhkiaadkkkjbaaDoorSeL
namespace Go.Proofs.YtnhkiaadkkkjbaaDoor
open Go

/-- A guard, whatever the facts are. -/
structure WantF (ρ : Env) (ops : Array Oper) (o : Oper) (rs : RS) (st1 : St) (t : Bool) : Prop where
  h : st1.h = rs.st.h
  n : st1.n = rs.st.n
  pc : PcOk ρ rs.st.pc → PcOk ρ st1.pc ∧ ∀ tmps : Array Value, (∀ d ∈ guardTmp ops.toList o, ∃ π, tmps[d]? = (rs.fr.tm[d]?).map (V.conc ρ π)) → Region.wanted o (yielded ops tmps) = t
theorem wanted_raw {ρ : Env} {ops : Array Oper} {o : Oper} {rs : RS} {k : St → Bool → COut} {res : Ex × Fr × St} (e : (wantedV rs.st ops.toList rs.fr.tm o k).sel ρ = some res) :
    ∃ st1 t, WantF ρ ops o rs st1 t ∧ (k st1 t).sel ρ = some res := by
  unfold wantedV at e
  split at e
  · rename_i hg
    refine ⟨rs.st, true, ⟨rfl, rfl, fun hp => ⟨hp, fun tmps _ => ?_⟩⟩, e⟩
    unfold Region.wanted
    rw [hg]
  · rename_i j want hg
    split at e
    · rename_i hd
      refine ⟨rs.st, false, ⟨rfl, rfl, fun hp => ⟨hp, fun tmps _ => ?_⟩⟩, e⟩
      unfold Region.wanted yielded
      rw [hg]
      simp only [nth_eq, Array.getElem?_toList] at hd
      simp [hd]
    · rename_i d hd
      have hgt : guardTmp ops.toList o = [d] := by
        unfold guardTmp
        rw [hg]
        simp only [hd]
      simp only [nth_eq, Array.getElem?_toList] at hd
      have look : ∀ (t : Bool) (tmps : Array Value), (∃ π, tmps[d]? = (rs.fr.tm[d]?).map (V.conc ρ π)) → (∀ x, rs.fr.tm[d]? = some (.bool x) → (x.tt ρ == want) = t) → ((∀ x, rs.fr.tm[d]? ≠ some (.bool x)) → t = false) → Region.wanted o (yielded ops tmps) = t := by
        intro t tmps ⟨π, h1⟩ h2 h3
        unfold Region.wanted yielded
        rw [hg]
        simp only [hd, Option.bind_some, h1]
        cases hq : rs.fr.tm[d]? with
        | none =>
          have := h3 (by rw [hq]; simp)
          subst this
          simp
        | some v =>
          by_cases hv : ∃ x, v = .bool x
          · obtain ⟨x, rfl⟩ := hv
            have := h2 x hq
            subst this
            simp [V.conc]
          · have := h3 (by rw [hq]; intro x e; injection e with e; exact hv ⟨x, e⟩)
            subst this
            cases v <;> first | exact absurd ⟨_, rfl⟩ hv | simp [V.conc]
      simp only [nth_eq] at e
      split at e
      · rename_i x hx
        obtain ⟨st1, b, h1, h2, h3, h4⟩ := split_raw x e
        refine ⟨st1, b == want, ⟨h1, h2, fun hp => ⟨(h3 hp).1, fun tmps ht => ?_⟩⟩, h4⟩
        refine look _ tmps (ht d (by rw [hgt]; simp)) ?_ ?_
        · intro y hy
          rw [hx] at hy
          simp only [Option.some.injEq, V.bool.injEq] at hy
          subst hy
          rw [(h3 hp).2]
        · intro hy
          exact absurd hx (hy x)
      · rename_i hx
        refine ⟨rs.st, false, ⟨rfl, rfl, fun hp => ⟨hp, fun tmps ht => ?_⟩⟩, e⟩
        refine look _ tmps (ht d (by rw [hgt]; simp)) ?_ (fun _ => rfl)
        intro y hy
        exact absurd hy (hx y)

/-- What a call, a store, .. has come to. -/
inductive BigR (cx : Cx) (self : Self) (ρ : Env) (tm : List V) (st : St) (o : Oper) : V → St → Prop
  | val {v : V} {st1 : St} (h : (evOp cx tm st o).sel ρ = some (.val v, st1)) : BigR cx self ρ tm st o v st1
  | skip {st1 : St} (h : (evOp cx tm st o).sel ρ = some (.skip, st1)) : BigR cx self ρ tm st o .undef st1
  | enter {f : FuncId} {args : List V} {v : V} {st1 st2 : St} (h : (evOp cx tm st o).sel ρ = some (.enter f args, st1)) (h2 : (self.call f args st1).sel ρ = some (.ret v, st2)) : BigR cx self ρ tm st o v st2
  | round {l : Nat} {args : List V} {v : V} {st1 st2 : St} (h : (evOp cx tm st o).sel ρ = some (.round l args, st1)) (h2 : (evRound self l args st1).sel ρ = some (.ret v, st2)) : BigR cx self ρ tm st o v st2
theorem big_raw {cx : Cx} {self : Self} {ρ : Env} {fr : Fr} {st : St} {o : Oper} {k : Fr → St → COut} {res : Ex × Fr × St} (e : (evBig cx self fr st o k).sel ρ = some res) :
    ∃ v st1, BigR cx self ρ fr.tm st o v st1 ∧ (k { fr with tm := putD fr.tm o.dst v } st1).sel ρ = some res := by
  unfold evBig at e
  simp only [putK_eq] at e
  obtain ⟨⟨r, st1⟩, e1, e2⟩ := sel_bind e
  cases r with
  | val v => exact ⟨v, st1, .val e1, e2⟩
  | skip => exact ⟨_, st1, .skip e1, e2⟩
  | enter f args =>
    obtain ⟨⟨en, st2⟩, e3, e4⟩ := sel_bind e2
    cases en with
    | ret v => exact ⟨v, st2, .enter e1 e3, e4⟩
    | panic v => simp [R.sel] at e4
  | round l args =>
    obtain ⟨⟨en, st2⟩, e3, e4⟩ := sel_bind e2
    cases en with
    | ret v => exact ⟨v, st2, .round e1 e3, e4⟩
    | panic v => simp [R.sel] at e4
  | panic v => simp [R.sel] at e2
  | defer d => simp [R.sel] at e2

/-- One step. -/
inductive DS (cx : Cx) (self : Self) (ρ : Env) (i : Nat) (o : Oper) (b : Nat) (rs : RS) (st : St) : RS → Prop
  | pure {v : V} {st' : St} (hk : kindOf o.op = 0) (h : (evOp cx rs.fr.tm { st with h := T.nil } o).sel ρ = some (.val v, st')) (hn : st.n ≤ st'.n) :
      DS cx self ρ i o b rs st { rs with st := { st' with h := st.h }, fr := { rs.fr with tm := putD rs.fr.tm o.dst v } }
  | small {v : V} {st' : St} (hk : kindOf o.op = 1) (h : (evOp cx rs.fr.tm { st with h := T.nil } o).sel ρ = some (.val v, st')) (hn : st.n < st'.n) :
      DS cx self ρ i o b rs st { rs with st := { st' with h := st.h }, sm := newSm i st'.h st.n ++ rs.sm, fr := { rs.fr with tm := putD rs.fr.tm o.dst v } }
  | map {v : V} {st' : St} (hk : kindOf o.op = 5) (hm : rs.mm = none) (h : (evOp cx rs.fr.tm { st with h := T.nil } o).sel ρ = some (.val v, st')) (hh : st'.h.get st.n = some (.map [])) (hn : st.n < st'.n) :
      DS cx self ρ i o b rs st { rs with st := { st' with h := st.h }, mm := some { owner := i, id := st.n, ins := [] }, fr := { rs.fr with tm := putD rs.fr.tm o.dst v } }
  | read {v : V} {st' : St} (hk : kindOf o.op = 2) (h : (evOp cx rs.fr.tm st o).sel ρ = some (.val v, st')) :
      DS cx self ρ i o b rs st { rs with st := st', reads := { i := i, tm := rs.fr.tm, o := o, v := v } :: rs.reads, fr := { rs.fr with tm := putD rs.fr.tm o.dst v } }
  | insert {t : TypeId} {m key x : Operand} {kv xv : V} {mk : Mk} (ho : o.op = .insert t m key x) (em : evO cx rs.fr.tm m = some (.map mk.id)) (ek : evO cx rs.fr.tm key = some kv) (ex : evO cx rs.fr.tm x = some xv)
      (hm : rs.mm = some mk) (hb : Nat.testBit b mk.owner = true) (hk : keyKind cx t kv = true) (hn : keyNew kv mk.ins = true) :
      DS cx self ρ i o b rs st { rs with st := st, mm := some { mk with ins := (i, kv, xv) :: mk.ins }, fr := { rs.fr with tm := putD rs.fr.tm o.dst .undef } }
  | big {v : V} {st' : St} (h : BigR cx self ρ rs.fr.tm { st with h := withSm b rs.sm st.h } o v st') (hn : st.n ≤ st'.n) (hr : readsStay cx st' b rs.reads = true) :
      DS cx self ρ i o b rs st { fr := { rs.fr with tm := putD rs.fr.tm o.dst v }, st := st', sm := restSm b rs.sm, mm := rs.mm, bigs := i :: rs.bigs, reads := rs.reads }
theorem step_raw {cx : Cx} {self : Self} {ρ : Env} {i : Nat} {o : Oper} {b : Nat} {rs : RS} {st : St} {k : RS → COut} {res : Ex × Fr × St} (e : (drawStep cx self i o b rs st k).sel ρ = some res) :
    ∃ rs', DS cx self ρ i o b rs st rs' ∧ (k rs').sel ρ = some res := by
  unfold drawStep at e
  simp only [putK_eq] at e
  split at e
  · rename_i hk
    obtain ⟨⟨r, st1⟩, e1, e2⟩ := sel_bind e
    dsimp only at e2
    split at e2
    · split at e2
      · rename_i hn
        exact ⟨_, .pure hk e1 (Nat.le_of_ble_eq_true hn), e2⟩
      · simp [R.sel] at e2
    · simp [R.sel] at e2
  · rename_i hk
    obtain ⟨⟨r, st1⟩, e1, e2⟩ := sel_bind e
    dsimp only at e2
    split at e2
    · split at e2
      · rename_i hn
        exact ⟨_, .small hk e1 (Nat.le_of_ble_eq_true hn), e2⟩
      · simp [R.sel] at e2
    · simp [R.sel] at e2
  · rename_i hk
    obtain ⟨⟨r, st1⟩, e1, e2⟩ := sel_bind e
    dsimp only at e2
    split at e2
    · split at e2
      · rename_i hm hh
        split at e2
        · rename_i hn
          exact ⟨_, .map hk hm e1 hh (Nat.le_of_ble_eq_true hn), e2⟩
        · simp [R.sel] at e2
      · simp [R.sel] at e2
    · simp [R.sel] at e2
  · rename_i hk
    obtain ⟨⟨r, st1⟩, e1, e2⟩ := sel_bind e
    dsimp only at e2
    split at e2
    · exact ⟨_, .read hk e1, e2⟩
    · simp [R.sel] at e2
  · split at e
    · rename_i ho
      split at e
      · rename_i mb kv xv mk em ek ex hm
        split at e
        · rename_i h1 h2 h3 h4
          have := Nat.eq_of_beq_eq_true h1
          subst this
          exact ⟨_, .insert ho em ek ex hm h2 h3 h4, e⟩
        · simp [R.sel] at e
      · simp [R.sel] at e
    · simp [R.sel] at e
  · obtain ⟨v, st1, h1, h2⟩ := big_raw e
    split at h2
    · rename_i hc
      simp only [Bool.and_eq_true] at hc
      exact ⟨_, .big h1 (Nat.le_of_ble_eq_true hc.1) hc.2, h2⟩
    · simp [R.sel] at h2

/-- A step at a place of the order. -/
structure Stp (cx : Cx) (slf : Self) (ρ : Env) (ops : Array Oper) (bs : List Nat) (i : Nat) (done : Nat) (rs rs' : RS) (o : Oper) (b : Nat) : Prop where
  op : ops[i]? = some o
  be : bs[i]? = some b
  ahead : within b done = true
  bigs : allIn b rs.bigs = true
  new : Nat.testBit done i = false
  act : ∃ st1 t, WantF ρ ops o rs st1 t ∧ ((t = false ∧ rs' = { rs with st := st1, fr := { rs.fr with tm := putD rs.fr.tm o.dst .undef } }) ∨ (t = true ∧ DS cx slf ρ i o b rs st1 rs'))
def doneAt : List Nat → Nat → Nat
  | [], d => d
  | i :: l, d => doneAt l (d ||| 2 ^ i)
def DrawTr (cx : Cx) (self : Self) (ρ : Env) (ops : Array Oper) (bs : List Nat) (res : Ex × Fr × St) (l : List Nat) (done : Nat) (rs : RS) : Prop :=
  ∃ f : Nat → RS, f 0 = rs ∧ (∀ p i, l[p]? = some i → ∃ o b, Stp cx self ρ ops bs i (doneAt (l.take p) done) (f p) (f (p + 1)) o b) ∧ doneAt l done + 1 = 2 ^ ops.size ∧
      res = (.normal, (f l.length).fr, { (f l.length).st with h := allMk (f l.length).mm (allSm (f l.length).sm (f l.length).st.h) })
theorem draw_raw {cx : Cx} {self : Self} {ρ : Env} {ops : Array Oper} {bs : List Nat} {res : Ex × Fr × St} : ∀ (l : List Nat) (done : Nat) (rs : RS), (evDraw cx self ops.toList bs l done rs).sel ρ = some res →
    DrawTr cx self ρ ops bs res l done rs
  | [], done, rs, e => by
    simp only [evDraw] at e
    split at e
    · rename_i h
      simp only [R.sel, Option.some.injEq] at e
      exact ⟨fun _ => rs, rfl, fun p i h => by simp at h, by simpa [doneAt] using Nat.eq_of_beq_eq_true h, e.symm⟩
    · simp [R.sel] at e
  | i :: l, done, rs, e => by
    simp only [evDraw, nth_eq, Array.getElem?_toList, putK_eq] at e
    split at e
    · rename_i o b ho hb
      split at e
      · rename_i hc
        simp only [Bool.and_eq_true, Bool.not_eq_true'] at hc
        obtain ⟨st1, t, hw, e1⟩ := wanted_raw e
        have fin : ∀ rs', ((t = false ∧ rs' = { rs with st := st1, fr := { rs.fr with tm := putD rs.fr.tm o.dst .undef } }) ∨ (t = true ∧ DS cx self ρ i o b rs st1 rs')) → (evDraw cx self ops.toList bs l (done ||| 2 ^ i) rs').sel ρ = some res →
            DrawTr cx self ρ ops bs res (i :: l) done rs := by
          intro rs' hd e2
          obtain ⟨f, h1, h2, h3, h4⟩ := draw_raw l (done ||| 2 ^ i) rs' e2
          refine ⟨fun p => match p with | 0 => rs | p + 1 => f p, rfl, fun p j hj => ?_, by simpa [doneAt] using h3, by simpa using h4⟩
          cases p with
          | zero =>
            simp only [List.length_cons, Nat.zero_lt_succ, List.getElem?_eq_getElem, List.getElem_cons_zero, Option.some.injEq] at hj
            subst hj
            exact ⟨o, b, ho, hb, hc.1.1, hc.1.2, hc.2, st1, t, hw, by show (_ ∨ (t = true ∧ DS cx self ρ i o b rs st1 (f 0))); rw [show f 0 = rs' from h1]; exact h1 ▸ hd⟩
          | succ p =>
            simp only [List.getElem?_cons_succ] at hj
            simp only [List.take_succ_cons, doneAt]
            exact h2 p j hj
        cases t with
        | false => exact fin _ (.inl ⟨rfl, rfl⟩) e1
        | true =>
          obtain ⟨rs', hd, e2⟩ := step_raw e1
          exact fin rs' (.inr ⟨rfl, hd⟩) e2
      · simp [R.sel] at e
    · simp [R.sel] at e
end Go.Proofs.YtnhkiaadkkkjbaaDoor
