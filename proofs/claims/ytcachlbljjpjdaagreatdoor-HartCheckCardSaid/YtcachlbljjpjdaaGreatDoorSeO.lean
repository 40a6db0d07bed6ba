/- Symbolic execution, part 24: what holds all along the look at a drawn region, second half. No condition. -/
import Derived.Test.YtcachlbljjpjdaaGreatDoorSeN
namespace Go.Proofs.YtcachlbljjpjdaaGreatDoor
open Go

section
variable {cx : Cx} {self : Self} {ρ : Env} {ops : Array Oper} {bs ord : List Nat} {f : Nat → RS}
theorem Tr.mono (T : Tr cx self ρ ops bs ord f) {p : Nat} : ∀ {q : Nat}, p ≤ q → q ≤ ord.length → (f p).st.n ≤ (f q).st.n := by
  intro q h hq
  induction q with
  | zero => obtain rfl : p = 0 := by omega
            exact Nat.le_refl _
  | succ q ih =>
    by_cases e : p = q + 1
    · subst e; exact Nat.le_refl _
    · obtain ⟨i, o, b, hp, _⟩ := T.pos (p := q) (by omega)
      exact Nat.le_trans (ih (by omega) (by omega)) (T.names hp)
theorem Tr.sameHeap (T : Tr cx self ρ ops bs ord f) {p : Nat} : ∀ {q : Nat}, p ≤ q → q ≤ ord.length → (∀ r, p ≤ r → r < q → ¬ BigAt ord f r) → (f q).st.h = (f p).st.h := by
  intro q h hq hb
  induction q with
  | zero => obtain rfl : p = 0 := by omega
            rfl
  | succ q ih =>
    by_cases e : p = q + 1
    · subst e; rfl
    · obtain ⟨i, o, b, hp, _⟩ := T.pos (p := q) (by omega)
      rw [(T.heap hp (hb q (by omega) (by omega))).1]
      exact ih (by omega) (by omega) fun r h1 h2 => hb r h1 (by omega)
theorem Tr.bigsMem (T : Tr cx self ρ ops bs ord f) (h0 : (f 0).bigs = []) : ∀ {p : Nat}, p ≤ ord.length → ∀ g, g ∈ (f p).bigs ↔ ∃ q, q < p ∧ BigAt ord f q ∧ ord[q]? = some g := by
  intro p
  induction p with
  | zero => intro _ g; rw [h0]; simp
  | succ p ih =>
    intro hp g
    obtain ⟨i, o, b, hpos, _⟩ := T.pos (p := p) (by omega)
    by_cases hb : BigAt ord f p
    · obtain ⟨i', hi, e⟩ := hb
      rw [e, List.mem_cons, ih (by omega)]
      constructor
      · rintro (rfl | ⟨q, h1, h2, h3⟩)
        · exact ⟨p, by omega, ⟨g, hi, e⟩, hi⟩
        · exact ⟨q, by omega, h2, h3⟩
      · rintro ⟨q, h1, h2, h3⟩
        by_cases hq : q = p
        · subst hq
          rw [hi] at h3
          injection h3 with h3
          exact .inl h3.symm
        · exact .inr ⟨q, by omega, h2, h3⟩
    · rw [(T.heap hpos hb).2, ih (by omega)]
      constructor
      · rintro ⟨q, h1, h2, h3⟩; exact ⟨q, by omega, h2, h3⟩
      · rintro ⟨q, h1, h2, h3⟩
        by_cases hq : q = p
        · subst hq; exact absurd h2 hb
        · exact ⟨q, by omega, h2, h3⟩
theorem Tr.bigBefore (T : Tr cx self ρ ops bs ord f) (h0 : (f 0).bigs = []) {p i : Nat} {o : Oper} {b : Nat} (h : Pos ops bs ord p i o b) {q g : Nat} (hq : q < p) (hb : BigAt ord f q) (hg : ord[q]? = some g) : Nat.testBit b g = true :=
  allIn_mem (T.at h).bigs ((T.bigsMem h0 (Nat.le_of_lt h.lt) g).2 ⟨q, hq, hb, hg⟩)
theorem putD_len {tm : List V} {d : Option Tmp} {v : V} : (putD tm d v).length = tm.length := by
  cases d <;> simp [putD, setN_eq]
theorem Tr.frames (T : Tr cx self ρ ops bs ord f) : ∀ {p : Nat}, p ≤ ord.length → (f p).fr.df = (f 0).fr.df ∧ (f p).fr.tm.length = (f 0).fr.tm.length := by
  intro p
  induction p with
  | zero => intro _; exact ⟨rfl, rfl⟩
  | succ p ih =>
    intro hp
    obtain ⟨i, o, b, hpos, _⟩ := T.pos (p := p) (by omega)
    obtain ⟨v, hv⟩ := T.frame hpos
    rw [hv]
    exact ⟨(ih (by omega)).1, by rw [putD_len]; exact (ih (by omega)).2⟩
/-- Who writes a temporary. -/
def Writes (ops : Array Oper) (ord : List Nat) (q : Nat) (d : Tmp) : Prop := ∃ i o, ord[q]? = some i ∧ ops[i]? = some o ∧ o.dst = some d
theorem Tr.writesOnce (T : Tr cx self ρ ops bs ord f) {p q : Nat} {d : Tmp} (hp : Writes ops ord p d) (hq : Writes ops ord q d) : p = q := by
  obtain ⟨i, o, h1, h2, h3⟩ := hp
  obtain ⟨j, o', h4, h5, h6⟩ := hq
  have : i = j := nodup_dsts ops.toList T.nodup (by rw [Array.getElem?_toList]; exact h2) (by rw [Array.getElem?_toList]; exact h5) h3 h6
  subst this
  exact T.inj h1 h4
theorem putD_other {tm : List V} {e : Option Tmp} {v : V} {d : Nat} (h : e ≠ some d) : (putD tm e v)[d]? = tm[d]? := by
  cases e with
  | none => rfl
  | some e =>
    simp only [putD, setN_eq]
    exact List.getElem?_set_ne fun e' => h (by rw [e'])
/-- Nobody writes it between. -/
theorem Tr.keeps (T : Tr cx self ρ ops bs ord f) {d : Tmp} {p : Nat} : ∀ {q : Nat}, p ≤ q → q ≤ ord.length → (∀ r, p ≤ r → r < q → ¬ Writes ops ord r d) → (f q).fr.tm[d]? = (f p).fr.tm[d]? := by
  intro q h hq hw
  induction q with
  | zero => obtain rfl : p = 0 := by omega
            rfl
  | succ q ih =>
    by_cases e : p = q + 1
    · subst e; rfl
    · obtain ⟨i, o, b, hpos, _⟩ := T.pos (p := q) (by omega)
      obtain ⟨v, hv⟩ := T.frame hpos
      rw [hv, putD_other fun hd => hw q (by omega) (by omega) ⟨i, o, hpos.ix, hpos.op, hd⟩]
      exact ih (by omega) (by omega) fun r h1 h2 => hw r h1 (by omega)
/-- The temporaries once some have been written. -/
noncomputable def tmE (ops : Array Oper) (ord : List Nat) (f : Nat → RS) (E : Nat → Prop) : List V := by
  classical
  exact (List.range (f 0).fr.tm.length).map fun d => if ∃ q, E q ∧ Writes ops ord q d then (f ord.length).fr.tm.getD d .undef else (f 0).fr.tm.getD d .undef
theorem tmE_get {E : Nat → Prop} {d : Nat} : (d < (f 0).fr.tm.length → (∃ q, E q ∧ Writes ops ord q d) → (tmE ops ord f E)[d]? = some ((f ord.length).fr.tm.getD d .undef)) ∧
    (d < (f 0).fr.tm.length → (¬ ∃ q, E q ∧ Writes ops ord q d) → (tmE ops ord f E)[d]? = some ((f 0).fr.tm.getD d .undef)) ∧
    (¬ d < (f 0).fr.tm.length → (tmE ops ord f E)[d]? = none) := by
  refine ⟨fun h1 h2 => ?_, fun h1 h2 => ?_, fun h1 => ?_⟩
  · simp only [tmE, List.getElem?_map]
    rw [List.getElem?_range h1]
    simp only [Option.map_some, if_pos h2]
  · simp only [tmE, List.getElem?_map]
    rw [List.getElem?_range h1]
    simp only [Option.map_some, if_neg h2]
  · simp only [tmE, List.getElem?_map]
    rw [List.getElem?_eq_none (by simp; omega)]
    rfl
theorem getD_get {tm : List V} {d : Nat} (h : d < tm.length) : tm[d]? = some (tm.getD d .undef) := by
  simp [List.getD_eq_getElem?_getD, List.getElem?_eq_getElem h]
/-- An operation that is ready sees what the look has seen. -/
theorem Tr.looksSame (T : Tr cx self ρ ops bs ord f) {E : Nat → Prop} {p i : Nat} {o : Oper} {b : Nat} (h : Pos ops bs ord p i o b) (hr : ∀ q g, ord[q]? = some g → Nat.testBit b g = true → E q) {t : Tmp}
    (ht : looksOk ops.toList b t ops.toList 0 = true) : (tmE ops ord f E)[t]? = (f p).fr.tm[t]? := by
  have hl := (T.frames (Nat.le_of_lt h.lt)).2
  by_cases hlt : t < (f 0).fr.tm.length
  · by_cases hw : ∃ q, E q ∧ Writes ops ord q t
    · obtain ⟨q, hq, hwq⟩ := hw
      rw [tmE_get.1 hlt ⟨q, hq, hwq⟩]
      obtain ⟨j, o', h1, h2, h3⟩ := hwq
      have hb := looksOk_spec ops.toList 0 ht j o' (by rw [Array.getElem?_toList]; exact h2) h3
      rw [Nat.zero_add] at hb
      obtain ⟨q', h4, h5⟩ := T.before h hb
      obtain rfl := T.inj h1 h5
      have hN := T.keeps (d := t) (p := p) (q := ord.length) (Nat.le_of_lt h.lt) (Nat.le_refl _) (fun r hr1 hr2 hwr => by
        have := T.writesOnce hwr ⟨j, o', h1, h2, h3⟩
        omega)
      rw [← hN, getD_get (by rw [(T.frames (Nat.le_refl _)).2]; exact hlt)]
    · rw [tmE_get.2.1 hlt hw]
      rw [T.keeps (d := t) (p := 0) (q := p) (Nat.zero_le _) (Nat.le_of_lt h.lt) (fun r _ hr2 hwr => hw (by
        obtain ⟨j, o', h1, h2, h3⟩ := hwr
        have hb := looksOk_spec ops.toList 0 ht j o' (by rw [Array.getElem?_toList]; exact h2) h3
        rw [Nat.zero_add] at hb
        exact ⟨r, hr r j h1 hb, j, o', h1, h2, h3⟩))]
      exact (getD_get hlt).symm
  · rw [tmE_get.2.2 hlt]
    exact (List.getElem?_eq_none (by rw [hl]; exact Nat.le_of_not_lt hlt)).symm
theorem Tr.evSame (T : Tr cx self ρ ops bs ord f) {E : Nat → Prop} {p i : Nat} {o : Oper} {b : Nat} (h : Pos ops bs ord p i o b) (hr : ∀ q g, ord[q]? = some g → Nat.testBit b g = true → E q) :
    (∀ x ∈ o.op.operands.toList, evO cx (f p).fr.tm x = evO cx (tmE ops ord f E) x) ∧ (∀ d ∈ guardTmp ops.toList o, (tmE ops ord f E)[d]? = (f p).fr.tm[d]?) := by
  obtain ⟨h1, h2⟩ := opsOk_spec ops.toList bs T.looks i o b (by rw [Array.getElem?_toList]; exact h.op) h.be
  refine ⟨fun x hx => ?_, fun d hd => T.looksSame h hr (allLooks_spec h2 hd)⟩
  cases x with
  | tmp t =>
    simp only [evO, nth_eq]
    rw [T.looksSame h hr (allLooks_spec h1 (tmpsOf_mem hx))]
  | _ => rfl
/-- One more has been written. -/
theorem Tr.tmE_put (T : Tr cx self ρ ops bs ord f) {E : Nat → Prop} {p i : Nat} {o : Oper} {b : Nat} (h : Pos ops bs ord p i o b) {v : V} (hv : (f (p + 1)).fr = { (f p).fr with tm := putD (f p).fr.tm o.dst v }) :
    tmE ops ord f (fun q => E q ∨ q = p) = putD (tmE ops ord f E) o.dst v := by
  apply List.ext_getElem?
  intro d
  have hl := (T.frames (Nat.le_of_lt h.lt)).2
  by_cases hlt : d < (f 0).fr.tm.length
  · by_cases hd : o.dst = some d
    · have hw : Writes ops ord p d := ⟨i, o, h.ix, h.op, hd⟩
      rw [tmE_get.1 hlt ⟨p, .inr rfl, hw⟩]
      have hN := T.keeps (d := d) (p := p + 1) (q := ord.length) h.lt (Nat.le_refl _) (fun r hr1 hr2 hwr => by
        have := T.writesOnce hwr hw
        omega)
      rw [← getD_get (by rw [(T.frames (Nat.le_refl _)).2]; exact hlt), hN, hv, hd]
      simp only [putD, setN_eq]
      rw [List.getElem?_set_self (by omega), List.getElem?_set_self (by simpa [tmE] using hlt)]
    · rw [putD_other hd]
      by_cases hw : ∃ q, E q ∧ Writes ops ord q d
      · obtain ⟨q, h1, h2⟩ := hw
        rw [tmE_get.1 hlt ⟨q, .inl h1, h2⟩, tmE_get.1 hlt ⟨q, h1, h2⟩]
      · rw [tmE_get.2.1 hlt hw, tmE_get.2.1 hlt ?_]
        rintro ⟨q, h1 | rfl, h2⟩
        · exact hw ⟨q, h1, h2⟩
        · obtain ⟨j, o', h3, h4, h5⟩ := h2
          rw [h.ix] at h3
          injection h3 with h3
          subst h3
          rw [h.op] at h4
          injection h4 with h4
          subst h4
          exact hd h5
  · rw [tmE_get.2.2 hlt, List.getElem?_eq_none]
    rw [putD_len]
    simp only [tmE, List.length_map, List.length_range]
    omega
theorem Tr.tmE_all (T : Tr cx self ρ ops bs ord f) {E : Nat → Prop} (hE : ∀ q, q < ord.length → E q) : tmE ops ord f E = (f ord.length).fr.tm := by
  apply List.ext_getElem?
  intro d
  have hl := (T.frames (Nat.le_refl ord.length)).2
  by_cases hlt : d < (f 0).fr.tm.length
  · by_cases hw : ∃ q, E q ∧ Writes ops ord q d
    · rw [tmE_get.1 hlt hw, getD_get (by omega)]
    · rw [tmE_get.2.1 hlt hw, T.keeps (d := d) (p := 0) (q := ord.length) (Nat.zero_le _) (Nat.le_refl _) (fun r _ hr hwr => hw ⟨r, hE r hr, hwr⟩)]
      exact (getD_get hlt).symm
  · rw [tmE_get.2.2 hlt]
    exact (List.getElem?_eq_none (by omega)).symm
theorem Tr.tmE_none {E : Nat → Prop} (hE : ∀ q, ¬ E q) : tmE ops ord f E = (f 0).fr.tm := by
  apply List.ext_getElem?
  intro d
  by_cases hlt : d < (f 0).fr.tm.length
  · rw [tmE_get.2.1 hlt fun ⟨q, h, _⟩ => hE q h]
    exact (getD_get hlt).symm
  · rw [tmE_get.2.2 hlt]
    exact (List.getElem?_eq_none (by omega)).symm
/-- Small blocks. -/
structure SmOk (ops : Array Oper) (bs ord : List Nat) (f : Nat → RS) (p : Nat) (s : Sm) (q : Nat) : Prop where
  lt : q < p
  ix : ord[q]? = some s.owner
  made : (f (q + 1)).sm = s :: (f q).sm
  id : s.id = (f q).st.n
  wide : (f q).st.n < (f (q + 1)).st.n
  keepsMm : (f (q + 1)).mm = (f q).mm
  free : ∀ r i o b, r < p → BigAt ord f r → Pos ops bs ord r i o b → Nat.testBit b s.owner = false
theorem Tr.sm (T : Tr cx self ρ ops bs ord f) (h0 : (f 0).sm = []) : ∀ {p : Nat}, p ≤ ord.length → ∀ s ∈ (f p).sm, ∃ q, SmOk ops bs ord f p s q := by
  intro p
  induction p with
  | zero => intro _ s hs; rw [h0] at hs; simp at hs
  | succ p ih =>
    intro hp s hs
    obtain ⟨i, o, b, hpos, _⟩ := T.pos (p := p) (by omega)
    rcases T.smalls hpos s hs with ⟨h1, h2⟩ | ⟨h1, h2, h3, h4, h5, h6⟩
    · obtain ⟨q, hq⟩ := ih (by omega) s h1
      refine ⟨q, by have := hq.lt; omega, hq.ix, hq.made, hq.id, hq.wide, hq.keepsMm, fun r i' o' b' hr hbr hpr => ?_⟩
      by_cases e : r = p
      · subst e
        obtain ⟨_, _, rfl⟩ := hpos.uniq hpr
        exact h2 hbr
      · exact hq.free r i' o' b' (by omega) hbr hpr
    · refine ⟨p, by omega, by rw [h2]; exact hpos.ix, h1, h3, h5, h6, fun r i' o' b' hr hbr hpr => ?_⟩
      by_cases e : r = p
      · subst e; exact absurd hbr h4
      · by_cases hb : Nat.testBit b' s.owner = true
        · obtain ⟨q, hq1, hq2⟩ := T.before hpr hb
          rw [h2] at hq2
          have := T.inj hq2 hpos.ix
          omega
        · simpa using hb
/-- The map that is made. -/
structure MmOk (ord : List Nat) (f : Nat → RS) (p : Nat) (m : Mk) (q : Nat) : Prop where
  lt : q < p
  ix : ord[q]? = some m.owner
  none : (f q).mm = none
  made : (f (q + 1)).mm = some { owner := m.owner, id := m.id, ins := [] }
  id : m.id = (f q).st.n
  wide : (f q).st.n < (f (q + 1)).st.n
  ins : ∀ x ∈ m.ins, ∃ r, q < r ∧ r < p ∧ ord[r]? = some x.1
  apart : m.ins.Pairwise fun x y => x.1 ≠ y.1
  unlike : m.ins.Pairwise fun x y => keysUnlike x.2.1 y.2.1 = true
theorem keyNew_all {k : V} : ∀ {l : List (Nat × V × V)}, keyNew k l = true → ∀ y ∈ l, keysUnlike k y.2.1 = true
  | [], _, y, h => by simp at h
  | (a, b, c) :: l, h, y, hy => by
    simp only [keyNew, Bool.and_eq_true] at h
    rcases List.mem_cons.1 hy with rfl | hy
    · exact h.1
    · exact keyNew_all h.2 y hy
theorem Tr.mm (T : Tr cx self ρ ops bs ord f) (h0 : (f 0).mm = none) : ∀ {p : Nat}, p ≤ ord.length → ∀ m, (f p).mm = some m → ∃ q, MmOk ord f p m q := by
  intro p
  induction p with
  | zero => intro _ m hm; rw [h0] at hm; simp at hm
  | succ p ih =>
    intro hp m hm
    obtain ⟨i, o, b, hpos, _⟩ := T.pos (p := p) (by omega)
    rcases T.maps hpos with h1 | ⟨h1, h2, hlt⟩ | ⟨mk, kv, xv, h1, h2, h3, hbit⟩
    · rw [h1] at hm
      obtain ⟨q, hq⟩ := ih (by omega) m hm
      exact ⟨q, by have := hq.lt; omega, hq.ix, hq.none, hq.made, hq.id, hq.wide, fun x hx => let ⟨r, a, b, c⟩ := hq.ins x hx; ⟨r, a, by omega, c⟩, hq.apart, hq.unlike⟩
    · rw [h2] at hm
      injection hm with hm
      subst hm
      exact ⟨p, by omega, hpos.ix, h1, h2, rfl, hlt, fun x hx => by simp at hx, .nil, .nil⟩
    · rw [h2] at hm
      injection hm with hm
      subst hm
      obtain ⟨q, hq⟩ := ih (by omega) mk h1
      refine ⟨q, by have := hq.lt; omega, hq.ix, hq.none, hq.made, hq.id, hq.wide, fun x hx => ?_, ?_, ?_⟩
      · rcases List.mem_cons.1 hx with rfl | hx
        · exact ⟨p, hq.lt, by omega, hpos.ix⟩
        · obtain ⟨r, a, b, c⟩ := hq.ins x hx
          exact ⟨r, a, by omega, c⟩
      · refine List.Pairwise.cons ?_ hq.apart
        intro y hy e
        simp only at e
        obtain ⟨r, a, b, c⟩ := hq.ins y hy
        have := T.inj c (by rw [← e]; exact hpos.ix)
        omega
      · exact List.Pairwise.cons (fun y hy => keyNew_all h3 y hy) hq.unlike
theorem Tr.mmGrows (T : Tr cx self ρ ops bs ord f) {p : Nat} {m : Mk} (hm : (f p).mm = some m) : ∀ {q : Nat}, p ≤ q → q ≤ ord.length →
    ∃ new, (f q).mm = some { m with ins := new ++ m.ins } ∧ ∀ x ∈ new, ∃ r, p ≤ r ∧ r < q ∧ ord[r]? = some x.1 := by
  intro q h hq
  induction q with
  | zero => obtain rfl : p = 0 := by omega
            exact ⟨[], hm, by simp⟩
  | succ q ih =>
    by_cases e : p = q + 1
    · subst e; exact ⟨[], hm, by simp⟩
    · obtain ⟨new, h1, h2⟩ := ih (by omega) (by omega)
      obtain ⟨i, o, b, hpos, _⟩ := T.pos (p := q) (by omega)
      rcases T.maps hpos with h3 | ⟨h3, h4, _⟩ | ⟨mk, kv, xv, h3, h4, h5, _⟩
      · exact ⟨new, by rw [h3, h1], fun x hx => let ⟨r, a, b, c⟩ := h2 x hx; ⟨r, a, by omega, c⟩⟩
      · rw [h1] at h3; simp at h3
      · rw [h1] at h3
        injection h3 with h3
        subst h3
        refine ⟨(i, kv, xv) :: new, by rw [h4]; rfl, fun x hx => ?_⟩
        rcases List.mem_cons.1 hx with rfl | hx
        · exact ⟨q, by omega, by omega, hpos.ix⟩
        · obtain ⟨r, a, b, c⟩ := h2 x hx
          exact ⟨r, a, by omega, c⟩
/-- Where an entry of the map came. -/
theorem Tr.mmAt (T : Tr cx self ρ ops bs ord f) (h0 : (f 0).mm = none) {m : Mk} (hm : (f ord.length).mm = some m) {x : Nat × V × V} (hx : x ∈ m.ins) {r i : Nat} {o : Oper} {b : Nat} (hr : Pos ops bs ord r i o b) (hi : x.1 = i) :
    ∃ mk kv xv, (f r).mm = some mk ∧ (f (r + 1)).mm = some { mk with ins := (i, kv, xv) :: mk.ins } ∧ Nat.testBit b m.owner = true := by
  obtain ⟨q, hq⟩ := T.mm h0 (Nat.le_refl _) m hm
  obtain ⟨r', a1, a2, a3⟩ := hq.ins x hx
  rw [hi] at a3
  obtain rfl := T.inj a3 hr.ix
  -- the map is there at r'
  obtain ⟨new, h1, h2⟩ := T.mmGrows hq.made (q := r') (by omega) (by omega)
  rcases T.maps hr with h3 | ⟨h3, h4, _⟩ | ⟨mk, kv, xv, h3, h4, h5, h6⟩
  · exfalso
    rw [h1] at h3
    obtain ⟨new2, h5, h6⟩ := T.mmGrows h3 (q := ord.length) (by omega) (Nat.le_refl _)
    rw [hm] at h5
    injection h5 with h5
    rw [h5] at hx
    simp only [List.append_nil] at hx
    rcases List.mem_append.1 hx with hx | hx
    · obtain ⟨s, b1, b2, b3⟩ := h6 x hx
      rw [hi] at b3
      have := T.inj b3 hr.ix
      omega
    · obtain ⟨s, b1, b2, b3⟩ := h2 x hx
      rw [hi] at b3
      have := T.inj b3 hr.ix
      omega
  · rw [h1] at h3; simp at h3
  · refine ⟨mk, kv, xv, h3, h4, ?_⟩
    rw [h1] at h3
    injection h3 with h3
    rw [← h3] at h6
    exact h6
/-- Readers, at later stages. -/
theorem Tr.readsKeep (T : Tr cx self ρ ops bs ord f) {rd : Rd} {p : Nat} (hm : rd ∈ (f p).reads) : ∀ {q : Nat}, p ≤ q → q ≤ ord.length → rd ∈ (f q).reads := by
  intro q h hq
  induction q with
  | zero => obtain rfl : p = 0 := by omega
            exact hm
  | succ q ih =>
    by_cases e : p = q + 1
    · subst e; exact hm
    · have h1 := ih (by omega) (by omega)
      obtain ⟨i, o, b, hpos, _⟩ := T.pos (p := q) (by omega)
      obtain ⟨st1, t, hw, ⟨rfl, hd⟩ | ⟨rfl, hd⟩⟩ := (T.at hpos).act
      · rw [hd]; exact h1
      · cases hd' : f (q + 1)
        rw [hd'] at hd
        cases hd <;> first | exact h1 | exact List.mem_cons_of_mem _ h1
theorem readsStay_mem {st : St} {b : Nat} {rd : Rd} : ∀ {l : List Rd}, readsStay cx st b l = true → rd ∈ l → Nat.testBit b rd.i = true ∨ sameRead cx st rd = true
  | [], _, h => by simp at h
  | r :: l, h, hm => by
    simp only [readsStay, Bool.and_eq_true, Bool.or_eq_true] at h
    rcases List.mem_cons.1 hm with rfl | hm
    · exact h.1
    · exact readsStay_mem h.2 hm
theorem Tr.late (T : Tr cx self ρ ops bs ord f) {rd : Rd} {q : Nat} (hq : rd ∈ (f (q + 1)).reads) {r i : Nat} {o : Oper} {b : Nat} (hr : Pos ops bs ord r i o b) (hlt : q < r) (hb : BigAt ord f r) :
    Nat.testBit b rd.i = true ∨ sameRead cx (f (r + 1)).st rd = true := by
  have h1 := T.readsKeep hq (q := r) (by omega) (Nat.le_of_lt hr.lt)
  obtain ⟨g, hg, e⟩ := hb
  have nb : ∀ l : List Nat, ∀ g, l ≠ g :: l := fun l g e => by have := congrArg List.length e; simp at this
  obtain ⟨st1, t, hw, ⟨rfl, hd⟩ | ⟨rfl, hd⟩⟩ := (T.at hr).act
  · rw [hd] at e; exact absurd e (nb _ _)
  · cases hd' : f (r + 1)
    rw [hd'] at hd e
    cases hd with
    | big h hn hrs => exact readsStay_mem hrs h1
    | _ => exact absurd e (nb _ _)
end
end Go.Proofs.YtcachlbljjpjdaaGreatDoor
