/- Symbolic execution, part 29: calls and stores in a drawn region; the whole region. No condition. -/
import Derived.Test.YtcachlbljjpjdaaGreatDoorSeS
namespace Go.Proofs.YtcachlbljjpjdaaGreatDoor
open Go

theorem withSm_get {b j : Nat} {x : SObj} : ∀ {l : List Sm} {h : H}, (withSm b l h).get j = some x → (∃ s ∈ l, Nat.testBit b s.owner = true ∧ j = s.id ∧ x = s.obj) ∨ h.get j = some x
  | [], h, e => .inr e
  | s :: l, h, e => by
    simp only [withSm] at e
    split at e
    · rename_i hb
      by_cases ej : s.id = j
      · subst ej
        rw [T.get_set_same] at e
        injection e with e
        exact .inl ⟨s, List.mem_cons_self, hb, rfl, e.symm⟩
      · rw [T.get_set_other _ _ ej] at e
        rcases withSm_get e with ⟨s', h1, h2⟩ | h1
        · exact .inl ⟨s', List.mem_cons_of_mem _ h1, h2⟩
        · exact .inr h1
    · rcases withSm_get e with ⟨s', h1, h2⟩ | h1
      · exact .inl ⟨s', List.mem_cons_of_mem _ h1, h2⟩
      · exact .inr h1
theorem allSm_get {j : Nat} {x : SObj} : ∀ {l : List Sm} {h : H}, (allSm l h).get j = some x → (∃ s ∈ l, j = s.id ∧ x = s.obj) ∨ h.get j = some x
  | [], h, e => .inr e
  | s :: l, h, e => by
    simp only [allSm] at e
    by_cases ej : s.id = j
    · subst ej
      rw [T.get_set_same] at e
      injection e with e
      exact .inl ⟨s, List.mem_cons_self, rfl, e.symm⟩
    · rw [T.get_set_other _ _ ej] at e
      rcases allSm_get e with ⟨s', h1, h2⟩ | h1
      · exact .inl ⟨s', List.mem_cons_of_mem _ h1, h2⟩
      · exact .inr h1
section
variable {P : Program} {cx : Cx} {slf : Self} {ρ : Env} {ops : Array Oper} {bs ord : List Nat} {f : Nat → RS} {S : Nat → Prop} {π0 : Pl} {fr : Fr} {st : St} {w : World} {a : Act}
  {E : Nat → Prop} {t : Nat} {π1 : Pl} {a1 : Act} {w1 : World} {p i : Nat} {o : Oper} {b : Nat}
theorem step_big (R : Reg P cx slf ρ ops bs ord f S π0 fr st w a) (I : Inv ρ ops bs ord f S π0 fr st w E t π1 a1 w1) (X : Nxt ops bs ord E p i o b) (hpc : PcOk ρ (f p).st.pc)
    {st1 : St} (hw : WantF ρ ops o (f p) st1 true) {v : V} {st' : St} (h : BigR cx slf ρ (f p).fr.tm { st1 with h := withSm b (f p).sm st1.h } o false v st') (_hlen : st1.n ≤ st'.n)
    (hd : f (p + 1) = { fr := { (f p).fr with tm := putD (f p).fr.tm o.dst v }, st := st', sm := restSm b (f p).sm, mm := (f p).mm, bigs := i :: (f p).bigs, reads := (f p).reads }) : Does P ops o a1 w1 (StepK ρ ops bs ord f S π0 fr st w E p) := by
  obtain ⟨h1, h2⟩ := hw.pc hpc
  have hbig : BigAt ord f p := ⟨i, X.pos.ix, by rw [hd]⟩
  have htp : t ≤ p := Nat.le_of_not_lt fun hlt => X.new ((I.stage p hbig).2 hlt)
  have hst := I.stageLe R X htp
  have hn : (f (p + 1)).st.n = st'.n := by rw [hd]
  have hf := R.tr.fresh (E := E) R.n0 X.pos.lt X.new
  rw [hn, ← hw.n] at hf
  -- who came ahead stands ahead
  have hEp : ∀ q, E q → q < p := by
    intro q hq
    rcases Nat.lt_trichotomy q p with h3 | h3 | h3
    · exact h3
    · exact absurd (h3 ▸ hq) X.new
    · obtain ⟨j, o', b', hpos, _⟩ := R.tr.pos (I.lt q hq)
      exact absurd (I.closed q j o' b' hq hpos p i X.pos.ix (R.tr.bigBefore R.bigs0 hpos h3 hbig X.pos.ix)) X.new
  have hids : ∀ j, (f p).st.n ≤ j → ¬ idsE S ord f E j := by
    rintro j hj (h3 | ⟨q, h3, h4, h5, h6⟩)
    · exact R.n0 j (Nat.le_trans (R.tr.mono (Nat.zero_le p) (Nat.le_of_lt X.pos.lt)) hj) h3
    · have := R.tr.mono (p := q + 1) (q := p) (hEp q h4) (Nat.le_of_lt X.pos.lt)
      omega
  -- what it sees
  let hx : H := withSm b (f p).sm st1.h
  have hview : ∀ j y, hx.get j = some y → HGE ops bs ord f E t j y := by
    intro j y hj
    rcases withSm_get hj with ⟨s, h3, h4, h5, h6⟩ | h3
    · obtain ⟨q, hq⟩ := R.tr.sm R.sm0 (Nat.le_of_lt X.pos.lt) s h3
      have hEq : E q := X.ready q s.owner hq.ix h4
      refine .inr (.inl ⟨q, s, hEq, ⟨by omega, hq.ix, hq.made, hq.id, hq.wide, hq.keepsMm, fun r j x c hr hb hpos => hq.free r j x c (by have := hq.lt; omega) hb hpos⟩, fun r j x c hr hb hpos => hq.free r j x c (hEp r hr) hb hpos, h5, h6⟩)
    · refine .inl ?_
      rw [hst, ← hw.h]
      exact h3
  -- the operation, and the call
  have key : ∀ (hnd : ∀ c, o.op ≠ .defer c), Does P ops o a1 w1 fun a' w' => ∃ π2 c, PcOk ρ st'.pc ∧ Goes ρ (idsE S ord f E) π1 hx w1 st1.n π2 st'.h w' st'.n ∧ Says ρ (Ext (idsE S ord f E) st1.n st'.n) π2 v c ∧ a' = a1.put o.dst c := by
    intro hnd
    have hwant := h2 _ (I.guard R X)
    cases h with
    | val he =>
      obtain ⟨hpc2, π2, w2, g, hbk⟩ := I.op R X (st1 := { st1 with h := hx }) hview h1 he hf
      obtain ⟨c, e, hs⟩ := hbk
      exact does_val hwant hnd e ⟨π2, c, hpc2, g, hs, rfl⟩
    | skip he =>
      obtain ⟨hpc2, π2, w2, g, hbk⟩ := I.op R X (st1 := { st1 with h := hx }) hview h1 he hf
      exact .inr ⟨hwant, hnd, .inr (.inl ⟨w2, hbk, π2, undef, hpc2, g, says_undef, rfl⟩)⟩
    | @enter fn args v s1 s2 he hc =>
      have hf1 : Fresh (idsE S ord f E) st1.n s1.n := fun j h3 h4 => hids j (by rw [← hw.n]; exact h3)
      obtain ⟨hpc2, π2, w2, g, hbk⟩ := I.op R X (st1 := { st1 with h := hx }) hview h1 he hf1
      obtain ⟨rfl, cs, fnb, e, hargs, hfn⟩ := hbk
      have hhere : Here cx ρ (Ext (idsE S ord f E) st1.n s1.n) π2 s1 w2 := ⟨hpc2, g.at_, (Inv.globs R I).go g.known fun _ => .inl, fun j h3 h4 => by
        have hle := g.le
        rcases h4 with h4 | ⟨h4, h5⟩
        · exact hids j (by rw [← hw.n]; dsimp only at hle; omega) h4
        · omega⟩
      refine .inr ⟨hwant, hnd, .inr (.inr (.inl ⟨fn, cs.toArray, w2, e, fun n => ?_⟩))⟩
      refine CallsIn.mono (R.call fn args s1 (.ret v, st') hc _ π2 w2 cs n hhere hargs ⟨fnb, hfn⟩) ?_
      rintro e' w3 ⟨hpc3, π3, g3, hen⟩
      obtain ⟨c, rfl, hs⟩ := hen
      have g13 := g.trans g3
      dsimp only at g13 hs g3 g
      rw [Ext.trans_eq g.le g3.le] at hs
      exact ⟨c, rfl, π3, c, hpc3, g13, hs, rfl⟩
    | @round l args v s1 s2 he hc =>
      have hf1 : Fresh (idsE S ord f E) st1.n s1.n := fun j h3 h4 => hids j (by rw [← hw.n]; exact h3)
      obtain ⟨hpc2, π2, w2, g, hbk⟩ := I.op R X (st1 := { st1 with h := hx }) hview h1 he hf1
      obtain ⟨rfl, cs, e, hargs⟩ := hbk
      have hhere : Here cx ρ (Ext (idsE S ord f E) st1.n s1.n) π2 s1 w2 := ⟨hpc2, g.at_, (Inv.globs R I).go g.known fun _ => .inl, fun j h3 h4 => by
        have hle := g.le
        rcases h4 with h4 | ⟨h4, h5⟩
        · exact hids j (by rw [← hw.n]; dsimp only at hle; omega) h4
        · omega⟩
      obtain ⟨fn, tmps, assign, body, hy, _⟩ := R.round l args s1 (.ret v, st') hc _ π2 w2 cs 0 hhere hargs
      refine .inr ⟨hwant, hnd, .inr (.inr (.inr ⟨(π2 l).1, fn, tmps, assign, body, w2, e.trans hy, fun n => ?_⟩))⟩
      obtain ⟨fn', tmps', assign', body', hy', hR⟩ := R.round l args s1 (.ret v, st') hc _ π2 w2 cs n hhere hargs
      rw [hy] at hy'
      injection hy' with hy' _
      injection hy' with _ e1 e2 e3 e4
      subst e1 e2 e3 e4
      refine RoundIn.mono hR ?_
      rintro e' w3 ⟨hpc3, π3, g3, hen⟩
      obtain ⟨c, rfl, hs⟩ := hen
      have g13 := g.trans g3
      dsimp only at g13 hs g3 g
      rw [Ext.trans_eq g.le g3.le] at hs
      exact ⟨c, rfl, π3, c, hpc3, g13, hs, rfl⟩
  have hnd : ∀ c, o.op ≠ .defer c := by
    cases h with
    | val he => exact not_defer he (by simp)
    | skip he => exact not_defer he (by simp)
    | enter he _ => exact not_defer he (by simp)
    | round he _ => exact not_defer he (by simp)
  refine (key hnd).mono ?_
  rintro a2 w2 ⟨π2, c, hpc2, g, hs, rfl⟩
  refine ⟨by rw [hd]; exact hpc2, p + 1, π2, ?_⟩
  have hm : (f (p + 1)).mm = (f p).mm := by rw [hd]
  have hsm : ∀ s : Sm, (f (p + 1)).sm ≠ s :: (f p).sm := by
    rw [hd]
    intro s e
    have : ∀ l : List Sm, (restSm b l).length ≤ l.length := by
      intro l
      induction l with
      | nil => simp [restSm]
      | cons x l ih => simp only [restSm]; split <;> simp <;> omega
    have h3 := this (f p).sm
    have h4 := congrArg List.length e
    simp only [List.length_cons] at h4
    omega
  have hids' := idsE_put (S := S) (ord := ord) (f := f) (E := E) X.pos.lt
  rw [hn, ← hw.n] at hids'
  -- small things that are not seen
  have hunseen : ∀ j y, SmG ops bs ord f (fun q => E q ∨ q = p) j y ∨ MmG ord f (fun q => E q ∨ q = p) j y → (SmG ops bs ord f E j y ∨ MmG ord f E j y) ∧ hx.get j = none := by
    intro j y hj
    have hE : SmG ops bs ord f E j y ∨ MmG ord f E j y := (HGE.plain (E := E) (t := t) R X hm hsm).2 j y hj
    refine ⟨hE, ?_⟩
    cases hg : hx.get j with
    | none => rfl
    | some z =>
      exfalso
      rcases withSm_get hg with ⟨s, h3, h4, h5, h6⟩ | h3
      · obtain ⟨q, hq⟩ := R.tr.sm R.sm0 (Nat.le_of_lt X.pos.lt) s h3
        rcases hj with ⟨q', s', c1, c2, c3, c4, c5⟩ | ⟨q', m, c1, c2, c3, c4, c5⟩
        · have := R.tr.smUniq hq c2 (h5.symm.trans c4)
          subst this
          have := c3 p i o b (.inr rfl) hbig X.pos
          rw [h4] at this
          simp at this
        · obtain ⟨q'', hq''⟩ := R.tr.mm R.mm0 (Nat.le_refl _) m c2
          exact R.tr.smMm hq hq'' (h5.symm.trans c4)
      · have := I.clear j y hE
        rw [hst, ← hw.h, h3] at this
        simp at this
  refine ⟨X.pos.lt, fun q hq => hq.elim (I.lt q) fun e => e ▸ X.pos.lt, fun r hr => ?_, ?_, ?_, ?_, ?_⟩
  · constructor
    · rintro (h3 | rfl)
      · have := hEp r h3; omega
      · omega
    · intro h3
      by_cases e : r = p
      · exact .inr e
      · exact .inl (Inv.bigsDone R X hr (by omega))
  · rintro r j x c (hr | rfl) hpos q g hq hbit
    · exact .inl (I.closed r j x c hr hpos q g hq hbit)
    · obtain ⟨_, _, rfl⟩ := X.pos.uniq hpos
      exact .inl (X.ready q g hq hbit)
  · rw [hids']
    refine I.gg.frame (G' := HGE ops bs ord f (fun q => E q ∨ q = p) (p + 1)) hview g fun j y hj => ?_
    rcases hj with hj | hj
    · rw [hd] at hj; exact .inl hj
    · obtain ⟨h3, h4⟩ := hunseen j y hj
      exact .inr ⟨.inr h3, h4⟩
  · intro j y hj
    obtain ⟨h3, h4⟩ := hunseen j y hj
    have := I.gg.still hview g (.inr h3) h4
    rw [hd]
    exact this
  · rw [hids', R.tr.tmE_put X.pos (v := v) (by rw [hd])]
    exact (I.fr.known g.known fun j hj => .inl hj).put hs
/-- A call that ends by a panic: all ends here. -/
theorem die_big (R : Reg P cx slf ρ ops bs ord f S π0 fr st w a) (I : Inv ρ ops bs ord f S π0 fr st w E t π1 a1 w1) (X : Nxt ops bs ord E p i o b) (hpc : PcOk ρ (f p).st.pc)
    {st1 : St} (hw : WantF ρ ops o (f p) st1 true) {v : V} {st2 : St} (h : Dies cx slf ρ (f p).fr.tm { st1 with h := withSm b (f p).sm st1.h } o v st2) (hbig : BigAt ord f p) (hdf : (f p).fr.df = [])
    {Q : Exit → Act → World → Prop} {K : Act → World → Prop} {ro : Option Nat} {n : Nat} (hQ : ∀ e a w', CPost ρ S π0 st w (.die v, (f p).fr, st2) e a w' → Q e a w') : wpOpIn (FN ro) n P ops Q i K a1 w1 := by
  obtain ⟨h1, h2⟩ := hw.pc hpc
  have htp : t ≤ p := Nat.le_of_not_lt fun hlt => X.new ((I.stage p hbig).2 hlt)
  have hst := I.stageLe R X htp
  -- who came ahead stands ahead
  have hEp : ∀ q, E q → q < p := by
    intro q hq
    rcases Nat.lt_trichotomy q p with h3 | h3 | h3
    · exact h3
    · exact absurd (h3 ▸ hq) X.new
    · obtain ⟨j, o', b', hpos, _⟩ := R.tr.pos (I.lt q hq)
      exact absurd (I.closed q j o' b' hq hpos p i X.pos.ix (R.tr.bigBefore R.bigs0 hpos h3 hbig X.pos.ix)) X.new
  have hids : ∀ j, (f p).st.n ≤ j → ¬ idsE S ord f E j := by
    rintro j hj (h3 | ⟨q, h3, h4, h5, h6⟩)
    · exact R.n0 j (Nat.le_trans (R.tr.mono (Nat.zero_le p) (Nat.le_of_lt X.pos.lt)) hj) h3
    · have := R.tr.mono (p := q + 1) (q := p) (hEp q h4) (Nat.le_of_lt X.pos.lt)
      omega
  -- what it sees
  let hx : H := withSm b (f p).sm st1.h
  have hview : ∀ j y, hx.get j = some y → HGE ops bs ord f E t j y := by
    intro j y hj
    rcases withSm_get hj with ⟨s, h3, h4, h5, h6⟩ | h3
    · obtain ⟨q, hq⟩ := R.tr.sm R.sm0 (Nat.le_of_lt X.pos.lt) s h3
      have hEq : E q := X.ready q s.owner hq.ix h4
      refine .inr (.inl ⟨q, s, hEq, ⟨by omega, hq.ix, hq.made, hq.id, hq.wide, hq.keepsMm, fun r j x c hr hb hpos => hq.free r j x c (by have := hq.lt; omega) hb hpos⟩, fun r j x c hr hb hpos => hq.free r j x c (hEp r hr) hb hpos, h5, h6⟩)
    · refine .inl ?_
      rw [hst, ← hw.h]
      exact h3
  obtain ⟨fn, args, s1, he, hc⟩ := h
  have hf1 : Fresh (idsE S ord f E) st1.n s1.n := fun j h3 h4 => hids j (by rw [← hw.n]; exact h3)
  have hnd : ∀ c, o.op ≠ .defer c := not_defer he (by simp)
  obtain ⟨hpc2, π2, w2, g, hbk⟩ := I.op R X (st1 := { st1 with h := hx }) hview h1 he hf1
  obtain ⟨rfl, cs, fnb, e, hargs, hfn⟩ := hbk
  have hhere : Here cx ρ (Ext (idsE S ord f E) st1.n s1.n) π2 s1 w2 := ⟨hpc2, g.at_, (Inv.globs R I).go g.known fun _ => .inl, fun j h3 h4 => by
    have hle := g.le
    rcases h4 with h4 | ⟨h4, h5⟩
    · exact hids j (by rw [← hw.n]; dsimp only at hle; omega) h4
    · omega⟩
  unfold wpOpIn
  rw [X.pos.op]
  dsimp only
  rw [h2 _ (I.guard R X), if_pos rfl]
  refine ⟨fun _ _ => trivial, ?_⟩
  have hsem : o.semAt (FN ro).round a1.eval = execOp a1.eval o := Oper.semAt_eq _ a1.eval o hnd
  rw [hsem, e, Oper.uponIn_enter]
  refine ⟨fun hd => by simp at hd, ?_⟩
  refine CallsIn.mono (F := FN ro) (R.call fn args s1 (.panic v, st2) hc _ π2 w2 cs (n - 1) hhere hargs ⟨fnb, hfn⟩) ?_
  rintro e' w3 ⟨hpc3, π3, g3, hen⟩
  obtain ⟨c, rfl, hs⟩ := hen
  have g13 := g.trans g3
  dsimp only at g13 hs g3 g hpc3
  rw [Ext.trans_eq g.le g3.le] at hs
  have hn0 : (f 0).st.n = st.n := by rw [R.zero]
  have hle : st.n ≤ st1.n := by rw [hw.n, ← hn0]; exact R.tr.mono (Nat.zero_le _) (Nat.le_of_lt X.pos.lt)
  have hle2 : st1.n ≤ st2.n := g13.le
  have hsub : ∀ j, Ext (idsE S ord f E) st1.n st2.n j → Ext S st.n st2.n j := by
    rintro j ((h3 | ⟨q, h3, h4, h5, h6⟩) | ⟨h3, h4⟩)
    · exact .inl h3
    · have e1 := R.tr.mono (p := 0) (q := q) (Nat.zero_le _) (Nat.le_of_lt h3)
      have e2 := R.tr.mono (p := q + 1) (q := p) (hEp q h4) (Nat.le_of_lt X.pos.lt)
      rw [← hw.n] at e2
      exact .inr ⟨by omega, by omega⟩
    · exact .inr ⟨by omega, h4⟩
  have A := (I.gg.frame (G' := fun j y => st2.h.get j = some y) hview g13 fun j y hj => .inl hj).names hsub
  refine hQ _ _ _ ⟨hpc3, π3, ⟨Nat.le_trans hle hle2, A.known, A.view fun _ _ h => h, A.sub, A.keep, A.size, A.same⟩, ⟨c, rfl, fun π hk => hs π fun j hj => hk j (hsub j hj)⟩, fun _ => ?_⟩
  obtain ⟨tc, _, _, h3⟩ := I.fr
  have h4 := h3 π1 fun _ _ => rfl
  have h5 : fr.df = [] := by
    have := (R.tr.frames (Nat.le_of_lt X.pos.lt)).1
    rw [R.zero, hdf] at this
    exact this.symm
  dsimp only at h4
  rw [h5] at h4
  exact h4.symm
/-- One step, whichever. -/
theorem step_any (R : Reg P cx slf ρ ops bs ord f S π0 fr st w a) (I : Inv ρ ops bs ord f S π0 fr st w E t π1 a1 w1) (X : Nxt ops bs ord E p i o b) (hpc : PcOk ρ (f p).st.pc) (hnl : (f (p + 1)).lost = false) (hl : (∀ q, q ≤ ord.length → PcOk ρ (f q).st.pc) ∨ t ≤ p) :
    Does P ops o a1 w1 (StepK ρ ops bs ord f S π0 fr st w E p) := by
  obtain ⟨st1, tt, hw, ⟨rfl, hd⟩ | ⟨rfl, hd⟩⟩ := (R.tr.at X.pos).act
  · exact step_skip R I X hpc hw hd
  · generalize hf : f (p + 1) = rs at hd hnl
    cases hd with
    | pure hk h hn => exact step_pure R I X hpc hw h hf
    | small hk h hn => exact step_small R I X hpc hw h hf
    | map hk hm h hh hn => exact step_map R I X hpc hw h hh hn hm hf
    | read hk h => exact step_read R I X hpc hl hw hk h hf
    | insert ho em ek ex hm hb hk hn => exact step_insert R I X hpc hw ho em ek ex hm hb hk hf
    | @big L v st' h hn hr =>
      obtain rfl : L = false := hnl
      exact step_big R I X hpc hw h hn hf
theorem inv_start (R : Reg P cx slf ρ ops bs ord f S π0 fr st w a) (hE : ∀ q, ¬ E q) {w' : World} (h1 : w'.heap = w.heap) (h2 : w'.tape = w.tape ∧ w'.os = w.os ∧ w'.output = w.output) : Inv ρ ops bs ord f S π0 fr st w E 0 π0 a w' := by
  have hids : ∀ i, idsE S ord f E i ↔ S i := fun i => ⟨fun h => h.elim id fun ⟨q, _, h, _⟩ => absurd h (hE q), .inl⟩
  have hg : ∀ i o, HGE ops bs ord f E 0 i o → st.h.get i = some o := by
    rintro i o (h | ⟨q, s, h, _⟩ | ⟨q, m, h, _⟩)
    · rw [R.zero] at h; exact h
    · exact absurd h (hE q)
    · exact absurd h (hE q)
  refine ⟨Nat.zero_le _, fun p h => absurd h (hE p), fun p _ => ⟨fun h => absurd h (hE p), fun h => by omega⟩, fun p _ _ _ h => absurd h (hE p), ?_, ?_, ?_⟩
  · have at0 : At ρ S π0 st.h w' := R.here.at_.heap h1
    refine ⟨fun _ _ => rfl, fun i hi => .inl hi, fun π hk => ?_, fun i o hi => .inl (R.here.at_.dom i o (hg i o hi)), fun i o hi => .inr ⟨i, o, hg i o hi, rfl⟩, fun j _ _ => by rw [h1], by rw [h1]; exact Nat.le_refl _, h2⟩
    have := at0.rep π fun i hi => hk i (.inl hi)
    exact ⟨fun i o hi => this.obj i o (hg i o hi), fun i j o o' hi hj e => this.inj i j o o' (hg i o hi) (hg j o' hj) e⟩
  · rintro i o (⟨q, s, h, _⟩ | ⟨q, m, h, _⟩)
    · exact absurd h (hE q)
    · exact absurd h (hE q)
  · rw [Tr.tmE_none hE, R.zero]
    exact R.fr.known (fun _ _ => rfl) fun i hi => .inl hi
/-- In the order of the look: the facts hold. -/
theorem facts_hold (R : Reg P cx slf ρ ops bs ord f S π0 fr st w a) {m : Nat} (hm : m ≤ ord.length) (hk : ∀ p, p ≤ m → (f p).lost = false) : ∀ p, p ≤ m → PcOk ρ (f p).st.pc ∧ ∃ t π1 a1 w1, t ≤ p ∧ Inv ρ ops bs ord f S π0 fr st w (fun q => q < p) t π1 a1 w1 := by
  intro p
  induction p with
  | zero =>
    intro _
    refine ⟨by rw [R.zero]; exact R.here.pc, 0, π0, a, w, Nat.le_refl _, ?_⟩
    exact inv_start R (fun q h => by omega) rfl ⟨rfl, rfl, rfl⟩
  | succ p ih =>
    intro hp
    obtain ⟨hpc, t, π1, a1, w1, htp, I⟩ := ih (by omega)
    obtain ⟨i, o, b, hpos, _⟩ := R.tr.pos (p := p) (by omega)
    have X : Nxt ops bs ord (fun q => q < p) p i o b := ⟨hpos, by omega, fun q g hq hbit => by
      obtain ⟨q', h1, h2⟩ := R.tr.before hpos hbit
      obtain rfl := R.tr.inj hq h2
      exact h1⟩
    obtain ⟨a2, w2, hpc2, t2, π2, I2⟩ := (step_any R I X hpc (hk _ hp) (.inr htp)).exists
    have hE : (fun q => q < p ∨ q = p) = fun q => q < p + 1 := funext fun q => propext (by omega)
    rw [hE] at I2
    by_cases h2 : t2 ≤ p + 1
    · exact ⟨hpc2, t2, π2, a2, w2, h2, I2⟩
    · -- no call between
      refine ⟨hpc2, p + 1, π2, a2, w2, Nat.le_refl _, ?_⟩
      have hst : (f t2).st.h = (f (p + 1)).st.h := R.tr.sameHeap (by omega) I2.tle fun r h3 h4 hb => by
        have := (I2.stage r hb).2 h4
        omega
      refine ⟨by omega, I2.lt, fun r hb => Iff.rfl, I2.closed, ?_, ?_, I2.fr⟩
      · refine I2.gg.less ?_
        rintro i o (h | h)
        · exact .inl (by rw [hst]; exact h)
        · exact .inr h
      · rw [← hst]; exact I2.clear
end
end Go.Proofs.YtcachlbljjpjdaaGreatDoor
