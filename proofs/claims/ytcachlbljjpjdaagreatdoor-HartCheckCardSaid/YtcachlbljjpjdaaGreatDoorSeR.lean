/- Symbolic execution, part 27: a drawn region, one step. No condition. -/
import Derived.Test.YtcachlbljjpjdaaGreatDoorSeQ
namespace Go.Proofs.YtcachlbljjpjdaaGreatDoor
open Go

section
variable {P : Program} {cx : Cx} {slf : Self} {ρ : Env} {ops : Array Oper} {bs ord : List Nat} {f : Nat → RS} {S : Nat → Prop} {π0 : Pl} {fr : Fr} {st : St} {w : World} {a : Act}
  {E : Nat → Prop} {t : Nat} {π1 : Pl} {a1 : Act} {w1 : World} {p i : Nat} {o : Oper} {b : Nat}
/-- What is known behind a step. -/
def StepK (ρ : Env) (ops : Array Oper) (bs ord : List Nat) (f : Nat → RS) (S : Nat → Prop) (π0 : Pl) (fr : Fr) (st : St) (w : World) (E : Nat → Prop) (p : Nat) (a' : Act) (w' : World) : Prop :=
  PcOk ρ (f (p + 1)).st.pc ∧ ∃ t' π', Inv ρ ops bs ord f S π0 fr st w (fun q => E q ∨ q = p) t' π' a' w'
theorem step_skip (R : Reg P cx slf ρ ops bs ord f S π0 fr st w a) (I : Inv ρ ops bs ord f S π0 fr st w E t π1 a1 w1) (X : Nxt ops bs ord E p i o b) (hpc : PcOk ρ (f p).st.pc) {st1 : St} (hw : WantF ρ ops o (f p) st1 false)
    (hd : f (p + 1) = { f p with st := st1, fr := { (f p).fr with tm := putD (f p).fr.tm o.dst .undef } }) : Does P ops o a1 w1 (StepK ρ ops bs ord f S π0 fr st w E p) := by
  obtain ⟨h1, h2⟩ := hw.pc hpc
  refine .inl ⟨h2 _ (I.guard R X), ?_, t, π1, ?_⟩
  · rw [hd]; exact h1
  · have hm : (f (p + 1)).mm = (f p).mm := by rw [hd]
    have hs : ∀ s : Sm, (f (p + 1)).sm ≠ s :: (f p).sm := by rw [hd]; exact noCons
    have hb : (f (p + 1)).bigs = (f p).bigs := by rw [hd]
    have hn : (f (p + 1)).st.n = (f p).st.n := by rw [hd]; exact hw.n
    obtain ⟨k1, k2⟩ := HGE.plain (E := E) (t := t) R X hm hs
    refine I.next R X (noBig hb) (v := .undef) (by rw [hd]) (fun _ _ => rfl) ?_ (fun i o h => I.clear i o (k2 i o h)) says_undef
    rw [hn, Ext.same_eq]
    exact I.gg.less k1
theorem nil_view : ∀ i o, (T.nil : H).get i = some o → HGE ops bs ord f E t i o := fun i o h => by rw [T.get_nil] at h; simp at h
theorem step_pure (R : Reg P cx slf ρ ops bs ord f S π0 fr st w a) (I : Inv ρ ops bs ord f S π0 fr st w E t π1 a1 w1) (X : Nxt ops bs ord E p i o b) (hpc : PcOk ρ (f p).st.pc) {st1 : St} (hw : WantF ρ ops o (f p) st1 true) {v : V} {st' : St}
    (h : (evOp cx (f p).fr.tm { st1 with h := T.nil } o).sel ρ = some (.val v, st'))
    (hd : f (p + 1) = { f p with st := { st' with h := st1.h }, fr := { (f p).fr with tm := putD (f p).fr.tm o.dst v } }) : Does P ops o a1 w1 (StepK ρ ops bs ord f S π0 fr st w E p) := by
  obtain ⟨h1, h2⟩ := hw.pc hpc
  have hn : (f (p + 1)).st.n = st'.n := by rw [hd]
  have hf := R.tr.fresh (E := E) R.n0 X.pos.lt X.new
  rw [hn, ← hw.n] at hf
  obtain ⟨hpc2, π2, w2, g, hbk⟩ := I.op R X (st1 := { st1 with h := T.nil }) nil_view h1 h hf
  obtain ⟨c, e, hs⟩ := hbk
  refine does_val (h2 _ (I.guard R X)) (not_defer h (by simp)) e ⟨by rw [hd]; exact hpc2, t, π2, ?_⟩
  have hm : (f (p + 1)).mm = (f p).mm := by rw [hd]
  have hsm : ∀ s : Sm, (f (p + 1)).sm ≠ s :: (f p).sm := by rw [hd]; exact noCons
  obtain ⟨k1, k2⟩ := HGE.plain (E := E) (t := t) R X hm hsm
  have g' := I.gg.frame (G' := HGE ops bs ord f (fun q => E q ∨ q = p) t) nil_view g fun i o hi => .inr ⟨k1 i o hi, T.get_nil i⟩
  refine I.next R X (noBig (by rw [hd])) (v := v) (by rw [hd]) g.known ?_ (fun i o h => I.clear i o (k2 i o h)) ?_
  · rw [hn, ← hw.n]; exact g'
  · rw [hn, ← hw.n]; exact hs
theorem step_small (R : Reg P cx slf ρ ops bs ord f S π0 fr st w a) (I : Inv ρ ops bs ord f S π0 fr st w E t π1 a1 w1) (X : Nxt ops bs ord E p i o b) (hpc : PcOk ρ (f p).st.pc) {st1 : St} (hw : WantF ρ ops o (f p) st1 true) {v : V} {st' : St}
    (h : (evOp cx (f p).fr.tm { st1 with h := T.nil } o).sel ρ = some (.val v, st'))
    (hd : f (p + 1) = { f p with st := { st' with h := st1.h }, sm := newSm i st'.h st1.n ++ (f p).sm, fr := { (f p).fr with tm := putD (f p).fr.tm o.dst v } }) : Does P ops o a1 w1 (StepK ρ ops bs ord f S π0 fr st w E p) := by
  obtain ⟨h1, h2⟩ := hw.pc hpc
  have hn : (f (p + 1)).st.n = st'.n := by rw [hd]
  have hf := R.tr.fresh (E := E) R.n0 X.pos.lt X.new
  have hf0 := hf
  rw [hn, ← hw.n] at hf
  obtain ⟨hpc2, π2, w2, g, hbk⟩ := I.op R X (st1 := { st1 with h := T.nil }) nil_view h1 h hf
  obtain ⟨c, e, hs⟩ := hbk
  refine does_val (h2 _ (I.guard R X)) (not_defer h (by simp)) e ⟨by rw [hd]; exact hpc2, t, π2, ?_⟩
  have hm : (f (p + 1)).mm = (f p).mm := by rw [hd]
  -- what is new
  have hnew : ∀ j x, SmG ops bs ord f (fun q => E q ∨ q = p) j x → SmG ops bs ord f E j x ∨ (st'.h.get j = some x ∧ j = (f p).st.n ∧ (f p).st.n < (f (p + 1)).st.n) := by
    rintro j x ⟨q, s, b1 | rfl, b2, b3, b4, b5⟩
    · exact .inl ⟨q, s, b1, b2, fun r j x b hr => b3 r j x b (.inl hr), b4, b5⟩
    · refine .inr ⟨?_, by rw [b4, b2.id], b2.wide⟩
      have hmd := b2.made
      rw [hd] at hmd
      simp only [newSm] at hmd
      split at hmd
      · rename_i ob hob
        injection hmd with hmd
        rw [b4, b5, ← hmd]
        exact hob
      · exact absurd hmd (noCons s)
  have hmm : ∀ j x, MmG ord f (fun q => E q ∨ q = p) j x → MmG ord f E j x := fun j x h => h.less R.tr R.mm0 X.pos hm
  have g' := I.gg.frame (G' := HGE ops bs ord f (fun q => E q ∨ q = p) t) nil_view g fun j x hj => by
    rcases hj with hj | hj | hj
    · exact .inr ⟨.inl hj, T.get_nil j⟩
    · rcases hnew j x hj with hj | ⟨hj, _⟩
      · exact .inr ⟨.inr (.inl hj), T.get_nil j⟩
      · exact .inl hj
    · exact .inr ⟨.inr (.inr (hmm j x hj)), T.get_nil j⟩
  refine I.next R X (noBig (by rw [hd])) (v := v) (by rw [hd]) g.known ?_ ?_ ?_
  · rw [hn, ← hw.n]; exact g'
  · rintro j x (hj | hj)
    · rcases hnew j x hj with hj | ⟨_, hj, hlt⟩
      · exact I.clear j x (.inl hj)
      · cases hg : (f t).st.h.get j with
        | none => rfl
        | some y => exact absurd (I.gg.dom j y (.inl hg)) (hf0 j (by omega) (by omega))
    · exact I.clear j x (.inr (hmm j x hj))
  · rw [hn, ← hw.n]; exact hs
theorem step_map (R : Reg P cx slf ρ ops bs ord f S π0 fr st w a) (I : Inv ρ ops bs ord f S π0 fr st w E t π1 a1 w1) (X : Nxt ops bs ord E p i o b) (hpc : PcOk ρ (f p).st.pc) {st1 : St} (hw : WantF ρ ops o (f p) st1 true) {v : V} {st' : St}
    (h : (evOp cx (f p).fr.tm { st1 with h := T.nil } o).sel ρ = some (.val v, st')) (hh : st'.h.get st1.n = some (.map [])) (hlt : st1.n < st'.n) (hmm0 : (f p).mm = none)
    (hd : f (p + 1) = { f p with st := { st' with h := st1.h }, mm := some { owner := i, id := st1.n, ins := [] }, fr := { (f p).fr with tm := putD (f p).fr.tm o.dst v } }) : Does P ops o a1 w1 (StepK ρ ops bs ord f S π0 fr st w E p) := by
  obtain ⟨h1, h2⟩ := hw.pc hpc
  have hn : (f (p + 1)).st.n = st'.n := by rw [hd]
  have hf := R.tr.fresh (E := E) R.n0 X.pos.lt X.new
  have hf0 := hf
  rw [hn, ← hw.n] at hf
  obtain ⟨hpc2, π2, w2, g, hbk⟩ := I.op R X (st1 := { st1 with h := T.nil }) nil_view h1 h hf
  obtain ⟨c, e, hs⟩ := hbk
  refine does_val (h2 _ (I.guard R X)) (not_defer h (by simp)) e ⟨by rw [hd]; exact hpc2, t, π2, ?_⟩
  have hsm : ∀ s : Sm, (f (p + 1)).sm ≠ s :: (f p).sm := by rw [hd]; exact noCons
  have hnew : ∀ j x, MmG ord f (fun q => E q ∨ q = p) j x → st'.h.get j = some x ∧ j = st1.n := by
    rintro j x ⟨q, m, b1, b2, b3, b4, b5⟩
    -- the map at the end is this one
    obtain ⟨new, c1, _⟩ := R.tr.mmGrows (p := p + 1) (m := { owner := i, id := st1.n, ins := [] }) (by rw [hd]) (q := ord.length) X.pos.lt (Nat.le_refl _)
    rw [b2] at c1
    injection c1 with c1
    have hid : m.id = st1.n := by rw [c1]
    have how : m.owner = i := by rw [c1]
    refine ⟨?_, by rw [b4, hid]⟩
    have hins : insE ord (fun q => E q ∨ q = p) m.ins = [] := by
      apply List.eq_nil_iff_forall_not_mem.2
      intro y hy
      obtain ⟨hy, r, hr, hry⟩ := insE_mem.1 hy
      have hrl : r < ord.length := (List.getElem?_eq_some_iff.1 hry).1
      obtain ⟨j', o', b', hpos, _⟩ := R.tr.pos hrl
      have ej : y.1 = j' := by have := hry.symm.trans hpos.ix; simpa using this
      obtain ⟨mk, kv, xv, d1, d2, d3⟩ := R.tr.mmAt R.mm0 b2 hy hpos ej
      rcases hr with hr | rfl
      · rw [how] at d3
        exact X.new (I.closed r j' o' b' hr hpos p i X.pos.ix d3)
      · rw [hmm0] at d1
        simp at d1
    rw [b4, b5, hid, hins]
    exact hh
  have hsg : ∀ j x, SmG ops bs ord f (fun q => E q ∨ q = p) j x → SmG ops bs ord f E j x := fun j x h => h.less (fun _ => Iff.rfl) hsm
  have g' := I.gg.frame (G' := HGE ops bs ord f (fun q => E q ∨ q = p) t) nil_view g fun j x hj => by
    rcases hj with hj | hj | hj
    · exact .inr ⟨.inl hj, T.get_nil j⟩
    · exact .inr ⟨.inr (.inl (hsg j x hj)), T.get_nil j⟩
    · exact .inl (hnew j x hj).1
  refine I.next R X (noBig (by rw [hd])) (v := v) (by rw [hd]) g.known ?_ ?_ ?_
  · rw [hn, ← hw.n]; exact g'
  · rintro j x (hj | hj)
    · exact I.clear j x (.inl (hsg j x hj))
    · have hj' := (hnew j x hj).2
      cases hg : (f t).st.h.get j with
      | none => rfl
      | some y => exact absurd (I.gg.dom j y (.inl hg)) (hf0 j (by rw [hj', hw.n]; exact Nat.le_refl _) (by rw [hj', hn]; exact hlt))
  · rw [hn, ← hw.n]; exact hs
end
end Go.Proofs.YtcachlbljjpjdaaGreatDoor
