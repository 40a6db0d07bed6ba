/- Symbolic execution, part 25: a drawn region, operation by operation, whichever comes first. No condition. -/
import Derived.Test.YtcachlbljjpjdaaGreatDoorSeO
import Derived.OrdersIn
namespace Go.Proofs.YtcachlbljjpjdaaGreatDoor
open Go

/-- What an operation does. -/
def Does (P : Program) (ops : Array Oper) (o : Oper) (a : Act) (w : World) (K : Act → World → Prop) : Prop :=
  (Region.wanted o (yielded ops a.tmps) = false ∧ K (a.put o.dst undef) w) ∨
  (Region.wanted o (yielded ops a.tmps) = true ∧ (∀ c, o.op ≠ .defer c) ∧
    ((∃ c w', (execOp a.eval o).run P w = .ok (.value c) w' ∧ K (a.put o.dst c) w') ∨
     (∃ w', (execOp a.eval o).run P w = .ok .skip w' ∧ K (a.put o.dst undef) w') ∨
     (∃ f args w', (execOp a.eval o).run P w = .ok (.enter f args) w' ∧ ∀ n, CallsIn Fence.wide n P f args w' fun e w2 => ∃ c, e = .returned c ∧ K (a.put o.dst c) w2) ∨
     (∃ l fn tmps assign body w', (execOp a.eval o).run P w = .ok (.round l fn tmps assign body) w' ∧ ∀ n, RoundIn Fence.wide n P l fn tmps assign body w' fun e w2 => ∃ c, e = .returned c ∧ K (a.put o.dst c) w2)))
theorem Does.exists {P : Program} {ops : Array Oper} {o : Oper} {a : Act} {w : World} {K : Act → World → Prop} (h : Does P ops o a w K) : ∃ a' w', K a' w' := by
  rcases h with ⟨_, h⟩ | ⟨_, _, ⟨c, w', _, h⟩ | ⟨w', _, h⟩ | ⟨f, args, w', _, h⟩ | ⟨l, fn, tmps, as_, body, w', _, h⟩⟩
  · exact ⟨_, _, h⟩
  · exact ⟨_, _, h⟩
  · exact ⟨_, _, h⟩
  · obtain ⟨e, w2, _, ⟨c, _, h⟩, _⟩ := (h 0).2 [] (room_wide _)
    exact ⟨_, _, h⟩
  · obtain ⟨e, w2, ⟨c, _, h⟩, _⟩ := (h 0).2 default [] (room_wide _)
    exact ⟨_, _, h⟩
theorem Does.wp {P : Program} {ops : Array Oper} {i : Nat} {o : Oper} {a : Act} {w : World} {K : Act → World → Prop} {Q : Exit → Act → World → Prop} {ro : Option Nat} {n : Nat} (ho : ops[i]? = some o) (h : Does P ops o a w K) : wpOpIn (FN ro) n P ops Q i K a w := by
  unfold wpOpIn
  rw [ho]
  dsimp only
  rcases h with ⟨hw, h⟩ | ⟨hw, hd, h⟩
  · rw [hw]
    exact ⟨fun _ _ => trivial, h⟩
  · rw [hw]
    rw [if_pos rfl]
    refine ⟨fun _ _ => trivial, ?_⟩
    have hsem : o.semAt (FN ro).round a.eval = execOp a.eval o := Oper.semAt_eq _ a.eval o hd
    rw [hsem]
    rcases h with ⟨c, w', e, h⟩ | ⟨w', e, h⟩ | ⟨f, args, w', e, h⟩ | ⟨l, fn, tmps, as_, body, w', e, h⟩
    · rw [e, Oper.uponIn_value]; exact h
    · rw [e, Oper.uponIn_skip]; exact h
    · rw [e, Oper.uponIn_enter]
      refine ⟨fun hd => by simp at hd, CallsIn.mono (F := FN ro) (h (n - 1)) ?_⟩
      rintro e' w2 ⟨c, rfl, hk⟩
      exact hk
    · rw [e, Oper.uponIn_round]
      refine ⟨fun hd => by simp at hd, RoundIn.mono (F := FN ro) (h (n - 1)) ?_⟩
      rintro e' w2 ⟨c, rfl, hk⟩
      exact hk
theorem Does.mono {P : Program} {ops : Array Oper} {o : Oper} {a : Act} {w : World} {K K' : Act → World → Prop} (hk : ∀ a w, K a w → K' a w) (h : Does P ops o a w K) : Does P ops o a w K' := by
  rcases h with ⟨hw, h⟩ | ⟨hw, hd, h⟩
  · exact .inl ⟨hw, hk _ _ h⟩
  · refine .inr ⟨hw, hd, ?_⟩
    rcases h with ⟨c, w', e, h⟩ | ⟨w', e, h⟩ | ⟨f, args, w', e, h⟩ | ⟨l, fn, tmps, as_, body, w', e, h⟩
    · exact .inl ⟨c, w', e, hk _ _ h⟩
    · exact .inr (.inl ⟨w', e, hk _ _ h⟩)
    · exact .inr (.inr (.inl ⟨f, args, w', e, fun n => CallsIn.mono (h n) fun e w2 ⟨c, h1, h2⟩ => ⟨c, h1, hk _ _ h2⟩⟩))
    · exact .inr (.inr (.inr ⟨l, fn, tmps, as_, body, w', e, fun n => RoundIn.mono (h n) fun e w2 ⟨c, h1, h2⟩ => ⟨c, h1, hk _ _ h2⟩⟩))
theorem not_defer {ρ : Env} {cx : Cx} {tm : List V} {st st' : St} {o : Oper} {r : OR} (h : (evOp cx tm st o).sel ρ = some (r, st')) (hr : ∀ d, r ≠ .defer d) : ∀ c, o.op ≠ .defer c := by
  intro cl ho
  unfold evOp at h
  obtain ⟨⟨r0, st0⟩, h, h2⟩ := sel_bind h
  unfold evOp0 at h
  rw [ho] at h
  simp only [oDefer] at h
  split at h
  · split at h
    · simp only [R.sel, Option.some.injEq, Prod.mk.injEq] at h
      obtain ⟨rfl, rfl⟩ := h
      simp only [resolveV, R.sel, Option.some.injEq, Prod.mk.injEq] at h2
      exact hr _ h2.1.symm
    · simp [R.sel] at h
  · simp [R.sel] at h

section
variable (S : Nat → Prop) (ops : Array Oper) (bs ord : List Nat) (f : Nat → RS) (E : Nat → Prop)
def idsE (i : Nat) : Prop := S i ∨ ∃ q, q < ord.length ∧ E q ∧ (f q).st.n ≤ i ∧ i < (f (q + 1)).st.n
def SmG (i : Nat) (o : SObj) : Prop :=
  ∃ q s, E q ∧ SmOk ops bs ord f (q + 1) s q ∧ (∀ r j x b, E r → BigAt ord f r → Pos ops bs ord r j x b → Nat.testBit b s.owner = false) ∧ i = s.id ∧ o = s.obj
noncomputable def insE (ins : List (Nat × V × V)) : List (Nat × V × V) := by
  classical exact ins.filter fun x => decide (∃ r, E r ∧ ord[r]? = some x.1)
def MmG (i : Nat) (o : SObj) : Prop :=
  ∃ q m, E q ∧ (f ord.length).mm = some m ∧ ord[q]? = some m.owner ∧ i = m.id ∧ o = .map (insOf (insE ord E m.ins))
def HGE (t : Nat) (i : Nat) (o : SObj) : Prop := (f t).st.h.get i = some o ∨ SmG ops bs ord f E i o ∨ MmG ord f E i o
end
theorem insE_mem {ord : List Nat} {E : Nat → Prop} {ins : List (Nat × V × V)} {x : Nat × V × V} : x ∈ insE ord E ins ↔ x ∈ ins ∧ ∃ r, E r ∧ ord[r]? = some x.1 := by
  classical
  unfold insE
  rw [List.mem_filter, decide_eq_true_eq]
theorem insE_all {ord : List Nat} {E : Nat → Prop} {ins : List (Nat × V × V)} (h : ∀ x ∈ ins, ∃ r, E r ∧ ord[r]? = some x.1) : insE ord E ins = ins := by
  classical
  unfold insE
  rw [List.filter_eq_self]
  intro x hx
  rw [decide_eq_true_eq]
  exact h x hx
section
variable {cx : Cx} {self : Self} {ρ : Env} {ops : Array Oper} {bs ord : List Nat} {f : Nat → RS} {S E : Nat → Prop} {π0 : Pl}
theorem idsE_put {p : Nat} (hp : p < ord.length) : idsE S ord f (fun q => E q ∨ q = p) = Ext (idsE S ord f E) (f p).st.n (f (p + 1)).st.n := by
  funext i
  apply propext
  unfold idsE Ext
  constructor
  · rintro (h | ⟨q, h1, h2 | rfl, h3⟩)
    · exact .inl (.inl h)
    · exact .inl (.inr ⟨q, h1, h2, h3⟩)
    · exact .inr h3
  · rintro ((h | ⟨q, h1, h2, h3⟩) | h)
    · exact .inl h
    · exact .inr ⟨q, h1, .inl h2, h3⟩
    · exact .inr ⟨p, hp, .inr rfl, h⟩
theorem Tr.fresh (T : Tr cx self ρ ops bs ord f) (hS : ∀ i, (f 0).st.n ≤ i → ¬ S i) {p : Nat} (hp : p < ord.length) (hE : ¬ E p) : Fresh (idsE S ord f E) (f p).st.n (f (p + 1)).st.n := by
  intro i h1 h2 h3
  rcases h3 with h3 | ⟨q, h3, h4, h5, h6⟩
  · exact hS i (Nat.le_trans (T.mono (Nat.zero_le p) (Nat.le_of_lt hp)) h1) h3
  · have hne : p ≠ q := fun e => hE (e ▸ h4)
    rcases Nat.lt_or_gt_of_ne hne with h | h
    · have := T.mono (p := p + 1) (q := q) h (Nat.le_of_lt h3)
      omega
    · have := T.mono (p := q + 1) (q := p) h (Nat.le_of_lt hp)
      omega
/-- Two small blocks have two names. -/
theorem Tr.smUniq (T : Tr cx self ρ ops bs ord f) {p p' q q' : Nat} {s s' : Sm} (h : SmOk ops bs ord f p s q) (h' : SmOk ops bs ord f p' s' q') (e : s.id = s'.id) : s = s' := by
  have hq : q < ord.length := (List.getElem?_eq_some_iff.1 h.ix).1
  have hq' : q' < ord.length := (List.getElem?_eq_some_iff.1 h'.ix).1
  have := h.wide
  have := h'.wide
  rw [h.id, h'.id] at e
  have : q = q' := by
    rcases Nat.lt_trichotomy q q' with h1 | h1 | h1
    · have := T.mono (p := q + 1) (q := q') h1 (Nat.le_of_lt hq'); omega
    · exact h1
    · have := T.mono (p := q' + 1) (q := q) h1 (Nat.le_of_lt hq); omega
  subst this
  have := h.made.symm.trans h'.made
  injection this
theorem Tr.smMm (T : Tr cx self ρ ops bs ord f) {p p' q q' : Nat} {s : Sm} {m : Mk} (h : SmOk ops bs ord f p s q) (h' : MmOk ord f p' m q') : s.id ≠ m.id := by
  intro e
  have hq : q < ord.length := (List.getElem?_eq_some_iff.1 h.ix).1
  have hq' : q' < ord.length := (List.getElem?_eq_some_iff.1 h'.ix).1
  have := h.wide
  have := h'.wide
  rw [h.id, h'.id] at e
  have : q = q' := by
    rcases Nat.lt_trichotomy q q' with h1 | h1 | h1
    · have := T.mono (p := q + 1) (q := q') h1 (Nat.le_of_lt hq'); omega
    · exact h1
    · have := T.mono (p := q' + 1) (q := q) h1 (Nat.le_of_lt hq); omega
  subst this
  have h1 := h.keepsMm
  rw [h'.none, h'.made] at h1
  simp at h1
theorem SmG.less {E' : Nat → Prop} {i : Nat} {o : SObj} {p : Nat} (hE' : ∀ q, E' q ↔ E q ∨ q = p) (h : SmG ops bs ord f E' i o) (hp : ∀ s : Sm, (f (p + 1)).sm ≠ s :: (f p).sm) : SmG ops bs ord f E i o := by
  obtain ⟨q, s, h1, h2, h3, h4, h5⟩ := h
  rcases (hE' q).1 h1 with h1 | rfl
  · exact ⟨q, s, h1, h2, fun r j x b hr => h3 r j x b ((hE' r).2 (.inl hr)), h4, h5⟩
  · exact absurd h2.made (hp s)
theorem MmG.less (T : Tr cx self ρ ops bs ord f) (h0 : (f 0).mm = none) {i : Nat} {o : SObj} {p i0 : Nat} {o0 : Oper} {b0 : Nat} (hp : Pos ops bs ord p i0 o0 b0) (h : MmG ord f (fun q => E q ∨ q = p) i o) (hk : (f (p + 1)).mm = (f p).mm) : MmG ord f E i o := by
  obtain ⟨q, m, h1, h2, h3, h4, h5⟩ := h
  have hins : insE ord (fun q => E q ∨ q = p) m.ins = insE ord E m.ins := by
    unfold insE
    apply List.filter_congr
    intro x hx
    rw [decide_eq_decide]
    constructor
    · rintro ⟨r, h6 | rfl, h7⟩
      · exact ⟨r, h6, h7⟩
      · exfalso
        have hx1 : x.1 = i0 := by rw [hp.ix] at h7; injection h7 with h7; exact h7.symm
        obtain ⟨mk, kv, xv, a1, a2, a3⟩ := T.mmAt h0 h2 hx hp hx1
        rw [a1, a2] at hk
        injection hk with hk
        have := congrArg (fun m : Mk => m.ins.length) hk
        simp at this
    · rintro ⟨r, h6, h7⟩; exact ⟨r, .inl h6, h7⟩
  rcases h1 with h1 | rfl
  · exact ⟨q, m, h1, h2, h3, h4, by rw [h5, hins]⟩
  · exfalso
    obtain ⟨q', hq'⟩ := T.mm h0 (Nat.le_refl _) m h2
    have := T.inj hq'.ix h3
    subst this
    rw [hq'.none, hq'.made] at hk
    simp at hk
end
end Go.Proofs.YtcachlbljjpjdaaGreatDoor
