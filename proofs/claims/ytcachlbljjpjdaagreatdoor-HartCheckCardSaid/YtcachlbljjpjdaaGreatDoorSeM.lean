/- Symbolic execution, part 22: what the look at a drawn region has seen, step by step. No condition. -/
import Derived.Test.YtcachlbljjpjdaaGreatDoorSeL
namespace Go.Proofs.YtcachlbljjpjdaaGreatDoor
open Go

/-- A guard, whatever the facts are. -/
structure WantF (ρ : Env) (ops : Array Oper) (o : Oper) (rs : RS) (st1 : St) (t : Bool) : Prop where
  h : st1.h = rs.st.h
  n : st1.n = rs.st.n
  pc : PcOk ρ rs.st.pc → PcOk ρ st1.pc ∧ ∀ tmps : Array Value, (∀ d ∈ guardTmp ops.toList o, ∃ π, tmps[d]? = (rs.fr.tm[d]?).map (V.conc ρ π)) → Region.wanted o (yielded ops tmps) = t
theorem wanted_raw {ρ : Env} {ops : Array Oper} {o : Oper} {rs : RS} {k : St → Bool → COut} {res : Ex × Fr × St} (e : (wantedV rs.st ops.toList rs.fr.tm o k).sel ρ = some res) :
    ∃ st1 t, WantF ρ ops o rs st1 t ∧ (k st1 t).sel ρ = some res := by
  unfold wantedV at e
  split at e
  · rename_i hg
    refine ⟨rs.st, true, ⟨rfl, rfl, fun hp => ⟨hp, fun tmps _ => ?_⟩⟩, e⟩
    unfold Region.wanted
    rw [hg]
  · rename_i j want hg
    split at e
    · rename_i hd
      refine ⟨rs.st, false, ⟨rfl, rfl, fun hp => ⟨hp, fun tmps _ => ?_⟩⟩, e⟩
      unfold Region.wanted yielded
      rw [hg]
      simp only [nth_eq, Array.getElem?_toList] at hd
      simp [hd]
    · rename_i d hd
      have hgt : guardTmp ops.toList o = [d] := by
        unfold guardTmp
        rw [hg]
        simp only [hd]
      simp only [nth_eq, Array.getElem?_toList] at hd
      have look : ∀ (t : Bool) (tmps : Array Value), (∃ π, tmps[d]? = (rs.fr.tm[d]?).map (V.conc ρ π)) → (∀ c a b, rs.fr.tm[d]? ≠ some (.ite c a b)) → (∀ x, rs.fr.tm[d]? = some (.bool x) → (x.tt ρ == want) = t) → ((∀ x, rs.fr.tm[d]? ≠ some (.bool x)) → t = false) → Region.wanted o (yielded ops tmps) = t := by
        intro t tmps ⟨π, h1⟩ hni h2 h3
        unfold Region.wanted yielded
        rw [hg]
        simp only [hd, Option.bind_some, h1]
        cases hq : rs.fr.tm[d]? with
        | none =>
          have := h3 (by rw [hq]; simp)
          subst this
          simp
        | some v =>
          by_cases hv : ∃ x, v = .bool x
          · obtain ⟨x, rfl⟩ := hv
            have := h2 x hq
            subst this
            simp [V.conc]
          · have := h3 (by rw [hq]; intro x e; injection e with e; exact hv ⟨x, e⟩)
            subst this
            cases v <;> first | exact absurd ⟨_, rfl⟩ hv | exact absurd hq (hni _ _ _) | simp [V.conc]
      simp only [nth_eq] at e
      split at e
      · rename_i x hx
        obtain ⟨st1, b, h1, h2, h3, h4⟩ := split_raw x e
        refine ⟨st1, b == want, ⟨h1, h2, fun hp => ⟨(h3 hp).1, fun tmps ht => ?_⟩⟩, h4⟩
        refine look _ tmps (ht d (by rw [hgt]; simp)) (fun _ _ _ e => by rw [hx] at e; simp at e) ?_ ?_
        · intro y hy
          rw [hx] at hy
          simp only [Option.some.injEq, V.bool.injEq] at hy
          subst hy
          rw [(h3 hp).2]
        · intro hy
          exact absurd hx (hy x)
      · simp [R.sel] at e
      · rename_i hx hx2
        refine ⟨rs.st, false, ⟨rfl, rfl, fun hp => ⟨hp, fun tmps ht => ?_⟩⟩, e⟩
        refine look _ tmps (ht d (by rw [hgt]; simp)) (fun c a b => hx2 c a b) ?_ (fun _ => rfl)
        intro y hy
        exact absurd hy (hx y)

/-- A call that ends by a panic. -/
def Dies (cx : Cx) (self : Self) (ρ : Env) (tm : List V) (st : St) (o : Oper) (v : V) (st2 : St) : Prop := ∃ f args st1, (evOp cx tm st o).sel ρ = some (.enter f args, st1) ∧ (self.call f args st1).sel ρ = some (.panic v, st2)
/-- What a call, a store, .. has come to. -/
inductive BigR (cx : Cx) (self : Self) (ρ : Env) (tm : List V) (st : St) (o : Oper) : Bool → V → St → Prop
  | val {v : V} {st1 : St} (h : (evOp cx tm st o).sel ρ = some (.val v, st1)) : BigR cx self ρ tm st o false v st1
  | skip {st1 : St} (h : (evOp cx tm st o).sel ρ = some (.skip, st1)) : BigR cx self ρ tm st o false .undef st1
  | enter {f : FuncId} {args : List V} {v : V} {st1 st2 : St} (h : (evOp cx tm st o).sel ρ = some (.enter f args, st1)) (h2 : (self.call f args st1).sel ρ = some (.ret v, st2)) : BigR cx self ρ tm st o false v st2
  | round {l : Nat} {args : List V} {v : V} {st1 st2 : St} (h : (evOp cx tm st o).sel ρ = some (.round l args, st1)) (h2 : (evRound self l args st1).sel ρ = some (.ret v, st2)) : BigR cx self ρ tm st o false v st2
  | lost {v : V} {st2 : St} (h : Dies cx self ρ tm st o v st2) : BigR cx self ρ tm st o true .undef st
theorem big_raw {cx : Cx} {self : Self} {ρ : Env} {fr : Fr} {st : St} {o : Oper} {k : Fr → St → COut} {kp : V → St → COut} {res : Ex × Fr × St} (e : (evBig cx self fr st o k kp).sel ρ = some res) :
    (∃ v st1, BigR cx self ρ fr.tm st o false v st1 ∧ (k { fr with tm := putD fr.tm o.dst v } st1).sel ρ = some res) ∨ (∃ v st2, Dies cx self ρ fr.tm st o v st2 ∧ (kp v st2).sel ρ = some res) := by
  unfold evBig at e
  simp only [putK_eq] at e
  obtain ⟨⟨r, st1⟩, e1, e2⟩ := sel_bind e
  cases r with
  | val v => exact .inl ⟨v, st1, .val e1, e2⟩
  | skip => exact .inl ⟨_, st1, .skip e1, e2⟩
  | enter f args =>
    obtain ⟨⟨en, st2⟩, e3, e4⟩ := sel_bind e2
    cases en with
    | ret v => exact .inl ⟨v, st2, .enter e1 e3, e4⟩
    | panic v => exact .inr ⟨v, st2, ⟨f, args, st1, e1, e3⟩, e4⟩
  | round l args =>
    obtain ⟨⟨en, st2⟩, e3, e4⟩ := sel_bind e2
    cases en with
    | ret v => exact .inl ⟨v, st2, .round e1 e3, e4⟩
    | panic v => simp [R.sel] at e4
  | panic v => simp [R.sel] at e2
  | defer d => simp [R.sel] at e2

/-- One step. -/
inductive DS (cx : Cx) (self : Self) (ρ : Env) (i : Nat) (o : Oper) (b : Nat) (rs : RS) (st : St) : RS → Prop
  | pure {v : V} {st' : St} (hk : kindOf o.op = 0) (h : (evOp cx rs.fr.tm { st with h := T.nil } o).sel ρ = some (.val v, st')) (hn : st.n ≤ st'.n) :
      DS cx self ρ i o b rs st { rs with st := { st' with h := st.h }, fr := { rs.fr with tm := putD rs.fr.tm o.dst v } }
  | small {v : V} {st' : St} (hk : kindOf o.op = 1) (h : (evOp cx rs.fr.tm { st with h := T.nil } o).sel ρ = some (.val v, st')) (hn : st.n < st'.n) :
      DS cx self ρ i o b rs st { rs with st := { st' with h := st.h }, sm := newSm i st'.h st.n ++ rs.sm, fr := { rs.fr with tm := putD rs.fr.tm o.dst v } }
  | map {v : V} {st' : St} (hk : kindOf o.op = 5) (hm : rs.mm = none) (h : (evOp cx rs.fr.tm { st with h := T.nil } o).sel ρ = some (.val v, st')) (hh : st'.h.get st.n = some (.map [])) (hn : st.n < st'.n) :
      DS cx self ρ i o b rs st { rs with st := { st' with h := st.h }, mm := some { owner := i, id := st.n, ins := [] }, fr := { rs.fr with tm := putD rs.fr.tm o.dst v } }
  | read {v : V} {st' : St} (hk : kindOf o.op = 2) (h : (evOp cx rs.fr.tm st o).sel ρ = some (.val v, st')) :
      DS cx self ρ i o b rs st { rs with st := st', reads := { i := i, tm := rs.fr.tm, o := o, v := v } :: rs.reads, fr := { rs.fr with tm := putD rs.fr.tm o.dst v } }
  | insert {t : TypeId} {m key x : Operand} {kv xv : V} {mk : Mk} (ho : o.op = .insert t m key x) (em : evO cx rs.fr.tm m = some (.map mk.id)) (ek : evO cx rs.fr.tm key = some kv) (ex : evO cx rs.fr.tm x = some xv)
      (hm : rs.mm = some mk) (hb : Nat.testBit b mk.owner = true) (hk : keyKind cx t kv = true) (hn : keyNew kv mk.ins = true) :
      DS cx self ρ i o b rs st { rs with st := st, mm := some { mk with ins := (i, kv, xv) :: mk.ins }, fr := { rs.fr with tm := putD rs.fr.tm o.dst .undef } }
  | big {L : Bool} {v : V} {st' : St} (h : BigR cx self ρ rs.fr.tm { st with h := withSm b rs.sm st.h } o L v st') (hn : st.n ≤ st'.n) (hr : readsStay cx st' b rs.reads = true) :
      DS cx self ρ i o b rs st { fr := { rs.fr with tm := putD rs.fr.tm o.dst v }, st := st', sm := restSm b rs.sm, mm := rs.mm, bigs := i :: rs.bigs, reads := rs.reads, lost := L }
theorem step_raw {cx : Cx} {self : Self} {ρ : Env} {i : Nat} {o : Oper} {b : Nat} {rs : RS} {st : St} {dep : Bool} {k : RS → COut} {res : Ex × Fr × St} (hl : rs.lost = false) (e : (drawStep cx self i o b rs st dep k).sel ρ = some res) :
    (∃ rs', DS cx self ρ i o b rs st rs' ∧ rs'.lost = false ∧ (k rs').sel ρ = some res) ∨ (∃ v st2, Dies cx self ρ rs.fr.tm { st with h := withSm b rs.sm st.h } o v st2 ∧ dep = true ∧ rs.fr.df = [] ∧ readsStay cx { st with h := withSm b rs.sm st.h } b rs.reads = true ∧ res = (.die v, rs.fr, st2)) := by
  unfold drawStep at e
  simp only [putK_eq] at e
  split at e
  · rename_i hk
    obtain ⟨⟨r, st1⟩, e1, e2⟩ := sel_bind e
    dsimp only at e2
    split at e2
    · split at e2
      · rename_i hn
        exact .inl ⟨_, .pure hk e1 (Nat.le_of_ble_eq_true hn), hl, e2⟩
      · simp [R.sel] at e2
    · simp [R.sel] at e2
  · rename_i hk
    obtain ⟨⟨r, st1⟩, e1, e2⟩ := sel_bind e
    dsimp only at e2
    split at e2
    · split at e2
      · rename_i hn
        exact .inl ⟨_, .small hk e1 (Nat.le_of_ble_eq_true hn), hl, e2⟩
      · simp [R.sel] at e2
    · simp [R.sel] at e2
  · rename_i hk
    obtain ⟨⟨r, st1⟩, e1, e2⟩ := sel_bind e
    dsimp only at e2
    split at e2
    · split at e2
      · rename_i hm hh
        split at e2
        · rename_i hn
          exact .inl ⟨_, .map hk hm e1 hh (Nat.le_of_ble_eq_true hn), hl, e2⟩
        · simp [R.sel] at e2
      · simp [R.sel] at e2
    · simp [R.sel] at e2
  · rename_i hk
    obtain ⟨⟨r, st1⟩, e1, e2⟩ := sel_bind e
    dsimp only at e2
    split at e2
    · exact .inl ⟨_, .read hk e1, hl, e2⟩
    · simp [R.sel] at e2
  · split at e
    · rename_i ho
      split at e
      · rename_i mb kv xv mk em ek ex hm
        split at e
        · rename_i h1 h2 h3 h4
          have := Nat.eq_of_beq_eq_true h1
          subst this
          exact .inl ⟨_, .insert ho em ek ex hm h2 h3 h4, hl, e⟩
        · simp [R.sel] at e
      · simp [R.sel] at e
    · simp [R.sel] at e
  · rcases big_raw e with ⟨v, st1, h1, h2⟩ | ⟨v, st2, h1, h2⟩
    · split at h2
      · rename_i hc
        simp only [Bool.and_eq_true] at hc
        exact .inl ⟨_, .big h1 (Nat.le_of_ble_eq_true hc.1) hc.2, rfl, h2⟩
      · simp [R.sel] at h2
    · split at h2
      · rename_i hdf
        split at h2
        · rename_i hdep hr
          simp only [R.sel, Option.some.injEq] at h2
          exact .inr ⟨v, st2, h1, rfl, hdf, hr, h2.symm⟩
        · simp [R.sel] at h2
      · simp [R.sel] at h2

/-- A step at a place of the order. -/
structure Stp (cx : Cx) (slf : Self) (ρ : Env) (ops : Array Oper) (bs : List Nat) (i : Nat) (done : Nat) (rs rs' : RS) (o : Oper) (b : Nat) : Prop where
  op : ops[i]? = some o
  be : bs[i]? = some b
  ahead : within b done = true
  bigs : allIn b rs.bigs = true
  new : Nat.testBit done i = false
  act : ∃ st1 t, WantF ρ ops o rs st1 t ∧ ((t = false ∧ rs' = { rs with st := st1, fr := { rs.fr with tm := putD rs.fr.tm o.dst .undef } }) ∨ (t = true ∧ DS cx slf ρ i o b rs st1 rs'))
def DrawTr (cx : Cx) (self : Self) (ρ : Env) (ops : Array Oper) (bs : List Nat) (res : Ex × Fr × St) (l : List Nat) (done : Nat) (rs : RS) : Prop :=
  ∃ f : Nat → RS, f 0 = rs ∧ (∀ p i, l[p]? = some i → ∃ o b, Stp cx self ρ ops bs i (doneAt (l.take p) done) (f p) (f (p + 1)) o b) ∧ (∀ p, p ≤ l.length → (f p).lost = false) ∧ doneAt l done + 1 = 2 ^ ops.size ∧
      res = (.normal, (f l.length).fr, { (f l.length).st with h := allMk (f l.length).mm (allSm (f l.length).sm (f l.length).st.h) })
/-- The look ends at a call that ends by a panic; all that is left comes behind it. -/
structure DieAt (cx : Cx) (slf : Self) (ρ : Env) (ops : Array Oper) (bs : List Nat) (res : Ex × Fr × St) (l l1 : List Nat) (i : Nat) (l2 : List Nat) (done : Nat) (f : Nat → RS) : Prop where
  cut : l = l1 ++ i :: l2
  stp : ∀ p j, (l1 ++ [i])[p]? = some j → ∃ o b, Stp cx slf ρ ops bs j (doneAt ((l1 ++ [i]).take p) done) (f p) (f (p + 1)) o b
  kept : ∀ p, p ≤ l1.length → (f p).lost = false
  die : ∃ o b st1 v st2, ops[i]? = some o ∧ bs[i]? = some b ∧ WantF ρ ops o (f l1.length) st1 true ∧ Dies cx slf ρ (f l1.length).fr.tm { st1 with h := withSm b (f l1.length).sm st1.h } o v st2 ∧ (f (l1.length + 1)).bigs = i :: (f l1.length).bigs ∧ (f (l1.length + 1)).st = { st1 with h := withSm b (f l1.length).sm st1.h } ∧ res = (.die v, (f l1.length).fr, st2)
  dep : allDep bs i l2 = true
  full : doneAt l done + 1 = 2 ^ ops.size
  df : (f l1.length).fr.df = []
def DieTr (cx : Cx) (self : Self) (ρ : Env) (ops : Array Oper) (bs : List Nat) (res : Ex × Fr × St) (l : List Nat) (done : Nat) (rs : RS) : Prop :=
  ∃ (f : Nat → RS) (l1 : List Nat) (i : Nat) (l2 : List Nat), f 0 = rs ∧ DieAt cx self ρ ops bs res l l1 i l2 done f
theorem draw_raw {cx : Cx} {self : Self} {ρ : Env} {ops : Array Oper} {bs : List Nat} {res : Ex × Fr × St} : ∀ (l : List Nat) (done : Nat) (rs : RS), rs.lost = false → (evDraw cx self ops.toList bs l done rs).sel ρ = some res →
    DrawTr cx self ρ ops bs res l done rs ∨ DieTr cx self ρ ops bs res l done rs
  | [], done, rs, hl, e => by
    simp only [evDraw] at e
    split at e
    · rename_i h
      simp only [R.sel, Option.some.injEq] at e
      exact .inl ⟨fun _ => rs, rfl, fun p i h => by simp at h, fun _ _ => hl, by simpa [doneAt] using Nat.eq_of_beq_eq_true h, e.symm⟩
    · simp [R.sel] at e
  | i :: l, done, rs, hl, e => by
    simp only [evDraw, nth_eq, Array.getElem?_toList, putK_eq] at e
    split at e
    · rename_i o b ho hb
      split at e
      · rename_i hc
        simp only [Bool.and_eq_true, Bool.not_eq_true'] at hc
        obtain ⟨st1, t, hw, e1⟩ := wanted_raw e
        have stp0 : ∀ rs', ((t = false ∧ rs' = { rs with st := st1, fr := { rs.fr with tm := putD rs.fr.tm o.dst .undef } }) ∨ (t = true ∧ DS cx self ρ i o b rs st1 rs')) → Stp cx self ρ ops bs i done rs rs' o b :=
          fun rs' hd => ⟨ho, hb, hc.1.1, hc.1.2, hc.2, st1, t, hw, hd⟩
        have fin : ∀ rs', rs'.lost = false → Stp cx self ρ ops bs i done rs rs' o b → (evDraw cx self ops.toList bs l (done ||| 2 ^ i) rs').sel ρ = some res →
            DrawTr cx self ρ ops bs res (i :: l) done rs ∨ DieTr cx self ρ ops bs res (i :: l) done rs := by
          intro rs' hl' hd e2
          rcases draw_raw l (done ||| 2 ^ i) rs' hl' e2 with ⟨f, h1, h2, hk, h3, h4⟩ | ⟨f, l1, j, l2, h1, hD⟩
          · refine .inl ⟨fun p => match p with | 0 => rs | p + 1 => f p, rfl, fun p j hj => ?_, fun p hp => ?_, by simpa [doneAt] using h3, by simpa using h4⟩
            · cases p with
              | zero =>
                simp only [List.length_cons, Nat.zero_lt_succ, List.getElem?_eq_getElem, List.getElem_cons_zero, Option.some.injEq] at hj
                subst hj
                exact ⟨o, b, by show Stp cx self ρ ops bs i done rs (f 0) o b; rw [h1]; exact hd⟩
              | succ p =>
                simp only [List.getElem?_cons_succ] at hj
                simp only [List.take_succ_cons, doneAt]
                exact h2 p j hj
            · cases p with
              | zero => exact hl
              | succ p => exact hk p (by simpa using hp)
          · refine .inr ⟨fun p => match p with | 0 => rs | p + 1 => f p, i :: l1, j, l2, rfl, ⟨by rw [hD.cut]; rfl, fun p q hq => ?_, fun p hp => ?_, ?_, hD.dep, ?_, ?_⟩⟩
            · cases p with
              | zero =>
                simp only [List.cons_append, List.length_cons, Nat.zero_lt_succ, List.getElem?_eq_getElem, List.getElem_cons_zero, Option.some.injEq] at hq
                subst hq
                exact ⟨o, b, by show Stp cx self ρ ops bs i done rs (f 0) o b; rw [h1]; exact hd⟩
              | succ p =>
                simp only [List.cons_append, List.getElem?_cons_succ] at hq
                simp only [List.cons_append, List.take_succ_cons, doneAt]
                exact hD.stp p q hq
            · cases p with
              | zero => exact hl
              | succ p => exact hD.kept p (by simpa using hp)
            · simpa using hD.die
            · exact hD.full
            · simpa using hD.df
        cases t with
        | false => exact fin { rs with st := st1, fr := { rs.fr with tm := putD rs.fr.tm o.dst .undef } } hl (stp0 _ (.inl ⟨rfl, rfl⟩)) e1
        | true =>
          rcases step_raw hl e1 with ⟨rs', hd, hl', e2⟩ | ⟨v, st2, h1, h2, h3, h4, h5⟩
          · exact fin rs' hl' (stp0 _ (.inr ⟨rfl, hd⟩)) e2
          · simp only [Bool.and_eq_true, Array.length_toList] at h2
            refine .inr ⟨fun p => match p with | 0 => rs | _ + 1 => { fr := { rs.fr with tm := putD rs.fr.tm o.dst .undef }, st := { st1 with h := withSm b rs.sm st1.h }, sm := restSm b rs.sm, mm := rs.mm, bigs := i :: rs.bigs, reads := rs.reads, lost := true }, [], i, l, rfl, ⟨rfl, fun p j hj => ?_, fun p hp => ?_, ⟨o, b, st1, v, st2, ho, hb, hw, h1, rfl, rfl, h5⟩, h2.1, Nat.eq_of_beq_eq_true h2.2, h3⟩⟩
            · cases p with
              | zero =>
                simp only [List.nil_append, List.getElem?_cons_zero, Option.some.injEq] at hj
                subst hj
                exact ⟨o, b, stp0 _ (.inr ⟨rfl, .big (.lost h1) (Nat.le_refl _) h4⟩)⟩
              | succ p => simp at hj
            · obtain rfl : p = 0 := by simpa using hp
              exact hl
      · simp [R.sel] at e
    · simp [R.sel] at e
end Go.Proofs.YtcachlbljjpjdaaGreatDoor
