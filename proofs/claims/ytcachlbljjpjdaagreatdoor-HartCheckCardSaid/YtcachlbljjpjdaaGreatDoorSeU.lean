/- Symbolic execution, part 30: drawn regions are sound; the evaluator is sound. No condition. -/
import Derived.Test.YtcachlbljjpjdaaGreatDoorSeMg
namespace Go.Proofs.YtcachlbljjpjdaaGreatDoor
open Go

theorem befOf_bit {acc : List Nat} {j : Nat} : ∀ {es : List Edge}, Nat.testBit (befOf acc es) j = true → ∃ e ∈ es, Region.binds .any e = true ∧ (e.on = j ∨ ∃ c, acc[e.on]? = some c ∧ Nat.testBit c j = true)
  | [], h => by simp [befOf] at h
  | e :: es, h => by
    simp only [befOf] at h
    split at h
    · rename_i hb
      simp only [Nat.testBit_or, Bool.or_eq_true, Nat.testBit_two_pow, decide_eq_true_eq, nth_eq] at h
      rcases h with (h | h) | h
      · exact ⟨e, by simp, hb, .inl h⟩
      · cases hc : acc[e.on]? with
        | none => rw [hc] at h; simp at h
        | some c => rw [hc] at h; exact ⟨e, by simp, hb, .inr ⟨c, hc, by simpa using h⟩⟩
      · obtain ⟨e', h1, h2⟩ := befOf_bit h
        exact ⟨e', by simp [h1], h2⟩
    · obtain ⟨e', h1, h2⟩ := befOf_bit h
      exact ⟨e', by simp [h1], h2⟩
theorem befOf_has {acc : List Nat} : ∀ {es : List Edge} {e : Edge}, e ∈ es → Region.binds .any e = true → Nat.testBit (befOf acc es) e.on = true
  | x :: es, e, h, hb => by
    simp only [befOf]
    rcases List.mem_cons.1 h with rfl | h
    · rw [if_pos hb]
      simp [Nat.testBit_or]
    · have := befOf_has (acc := acc) h hb
      split
      · simp [Nat.testBit_or, this]
      · exact this
theorem befs_get : ∀ (os : List Oper) (acc : List Nat), (∃ l, befs os acc = acc ++ l) ∧
    ∀ k o b, os[k]? = some o → (befs os acc)[acc.length + k]? = some b → b = befOf ((befs os acc).take (acc.length + k)) o.after.toList
  | [], acc => ⟨⟨[], by simp [befs]⟩, fun k o b h => by simp at h⟩
  | x :: os, acc => by
    simp only [befs]
    obtain ⟨⟨l, h1⟩, h2⟩ := befs_get os (acc ++ [befOf acc x.after.toList])
    refine ⟨⟨befOf acc x.after.toList :: l, by rw [h1]; simp⟩, fun k o b hk hb => ?_⟩
    cases k with
    | zero =>
      simp only [List.length_cons, Nat.zero_lt_succ, List.getElem?_eq_getElem, List.getElem_cons_zero, Option.some.injEq] at hk
      subst hk
      rw [h1] at hb ⊢
      simp only [Nat.add_zero, List.append_assoc, List.singleton_append] at hb ⊢
      rw [List.getElem?_append_right (Nat.le_refl _)] at hb
      simp only [Nat.sub_self, List.length_cons, Nat.zero_lt_succ, List.getElem?_eq_getElem, List.getElem_cons_zero, Option.some.injEq] at hb
      rw [List.take_left]
      exact hb.symm
    | succ k =>
      simp only [List.getElem?_cons_succ] at hk
      have := h2 k o b hk (by simpa [Nat.add_assoc, Nat.add_comm 1] using hb)
      simpa [Nat.add_assoc, Nat.add_comm 1] using this
theorem befs_len (os : List Oper) : ∀ acc, (befs os acc).length = acc.length + os.length := by
  induction os with
  | nil => intro acc; simp [befs]
  | cons o os ih => intro acc; simp only [befs, ih]; simp; omega
theorem befs_take {os : List Oper} {i j c : Nat} (h : ((befs os []).take i)[j]? = some c) : (befs os [])[j]? = some c ∧ j < i := by
  rw [List.getElem?_take] at h
  split at h
  · exact ⟨h, by assumption⟩
  · simp at h

section
variable {P : Program} {cx : Cx} {slf : Self} {ρ : Env} {ops : Array Oper} {ord : List Nat} {f : Nat → RS} {S : Nat → Prop} {π0 : Pl} {fr : Fr} {st : St} {w : World} {a : Act}
  {t : Nat} {π1 : Pl} {a1 : Act} {w1 : World}
/-- What has been done. -/
def doneE (ord : List Nat) (listed : Array Bool) (p : Nat) : Prop := ∃ i, ord[p]? = some i ∧ listed[i]? = some true
theorem draw_end (R : Reg P cx slf ρ ops (befs ops.toList []) ord f S π0 fr st w a) {E : Nat → Prop} (I : Inv ρ ops (befs ops.toList []) ord f S π0 fr st w E t π1 a1 w1) (hE : ∀ q, q < ord.length → E q) (hpc : PcOk ρ (f ord.length).st.pc) :
    CPost ρ S π0 st w (.normal, (f ord.length).fr, { (f ord.length).st with h := allMk (f ord.length).mm (allSm (f ord.length).sm (f ord.length).st.h) }) .normal a1 w1 := by
  have hn0 : (f 0).st.n = st.n := by rw [R.zero]
  have hle : st.n ≤ (f ord.length).st.n := by rw [← hn0]; exact R.tr.mono (Nat.zero_le _) (Nat.le_refl _)
  have hids : ∀ i, idsE S ord f E i → Ext S st.n (f ord.length).st.n i := by
    rintro i (h | ⟨q, h1, h2, h3, h4⟩)
    · exact .inl h
    · have e1 := R.tr.mono (p := 0) (q := q) (Nat.zero_le _) (Nat.le_of_lt h1)
      have e2 := R.tr.mono (p := q + 1) (q := ord.length) h1 (Nat.le_refl _)
      exact .inr ⟨by omega, by omega⟩
  have hst : (f t).st.h = (f ord.length).st.h := (R.tr.sameHeap I.tle (Nat.le_refl _) fun r h1 h2 hb => by
    have := (I.stage r hb).1 (hE r h2)
    omega).symm
  have hview : ∀ i o, (allMk (f ord.length).mm (allSm (f ord.length).sm (f ord.length).st.h)).get i = some o → HGE ops (befs ops.toList []) ord f E t i o := by
    have sm : ∀ i o, (allSm (f ord.length).sm (f ord.length).st.h).get i = some o → HGE ops (befs ops.toList []) ord f E t i o := by
      intro i o h
      rcases allSm_get h with ⟨s, h1, h2, h3⟩ | h1
      · obtain ⟨q, hq⟩ := R.tr.sm R.sm0 (Nat.le_refl _) s h1
        refine .inr (.inl ⟨q, s, hE q hq.lt, ⟨by omega, hq.ix, hq.made, hq.id, hq.wide, hq.keepsMm, fun r j x c hr hb hpos => hq.free r j x c (by have := hq.lt; omega) hb hpos⟩, fun r j x c hr hb hpos => hq.free r j x c (I.lt r hr) hb hpos, h2, h3⟩)
      · exact .inl (by rw [hst]; exact h1)
    intro i o h
    cases hm : (f ord.length).mm with
    | none => rw [hm] at h; exact sm i o h
    | some m =>
      rw [hm] at h
      simp only [allMk] at h
      obtain ⟨q, hq⟩ := R.tr.mm R.mm0 (Nat.le_refl _) m hm
      by_cases e : m.id = i
      · subst e
        rw [T.get_set_same] at h
        injection h with h
        refine .inr (.inr ⟨q, m, hE q hq.lt, hm, hq.ix, rfl, ?_⟩)
        rw [← h]
        have : insE ord E m.ins = m.ins := insE_all fun x hx => by
          obtain ⟨r, h1, h2, h3⟩ := hq.ins x hx
          exact ⟨r, hE r h2, h3⟩
        rw [this]
      · rw [T.get_set_other _ _ e] at h
        exact sm i o h
  have A := (I.gg.less (G' := fun i o => (allMk (f ord.length).mm (allSm (f ord.length).sm (f ord.length).st.h)).get i = some o) hview).names hids
  refine ⟨hpc, π1, ⟨hle, A.known, A.view fun _ _ h => h, A.sub, A.keep, A.size, A.same⟩, rfl, ?_⟩
  have hfr := I.fr
  rw [R.tr.tmE_all hE] at hfr
  have hdf : (f ord.length).fr = { tm := (f ord.length).fr.tm, df := fr.df } := by
    have := (R.tr.frames (Nat.le_refl ord.length)).1
    rw [R.zero] at this
    dsimp only at this
    rw [← this]
  rw [← hdf] at hfr
  exact hfr.known (fun _ _ => rfl) hids
/-- What an operation that is ready finds ahead. -/
theorem ready_bits (tr : Tr cx slf ρ ops (befs ops.toList []) ord f) {E : Nat → Prop} {listed : Array Bool} (hE : ∀ q, E q ↔ doneE ord listed q) (hin : ∀ j, listed[j]? = some true → ∃ q : Nat, ord[q]? = some j) {i : Nat} {o : Oper} {b : Nat}
    (hclosed : ∀ p i o b, E p → Pos ops (befs ops.toList []) ord p i o b → ∀ q g, ord[q]? = some g → Nat.testBit b g = true → E q) (hop : ops[i]? = some o) (hbe : (befs ops.toList [])[i]? = some b)
    (hr : (o.after.all fun e => !Region.binds .any e || listed.getD e.on false) = true) : ∀ g, Nat.testBit b g = true → ∃ q, ord[q]? = some g ∧ E q := by
  intro g hbit
  have hb : b = befOf ((befs ops.toList []).take i) o.after.toList := by
    obtain ⟨_, h2⟩ := befs_get ops.toList []
    have := h2 i o b (by rw [Array.getElem?_toList]; exact hop) (by simpa using hbe)
    simpa using this
  rw [hb] at hbit
  obtain ⟨e, h1, h2, h3⟩ := befOf_bit hbit
  rw [Array.all_eq_true'] at hr
  have hl := hr e (by simpa using h1)
  rw [h2] at hl
  simp only [Bool.not_true, Bool.false_or] at hl
  have hl' : listed[e.on]? = some true := by
    rw [Array.getD_eq_getD_getElem?] at hl
    cases hv : listed[e.on]? with
    | none => rw [hv] at hl; simp at hl
    | some v => rw [hv] at hl; simp at hl; rw [hl]
  obtain ⟨r, hr⟩ := hin _ hl'
  have hEr : E r := (hE r).2 ⟨e.on, hr, hl'⟩
  rcases h3 with h3 | ⟨c, h3, h4⟩
  · exact ⟨r, by rw [hr, h3], hEr⟩
  · obtain ⟨h5, h6⟩ := befs_take h3
    obtain ⟨j', o', b', hpos', _⟩ := tr.pos (List.getElem?_eq_some_iff.1 hr).1
    obtain rfl : e.on = j' := by have := hr.symm.trans hpos'.ix; simpa using this
    obtain rfl : c = b' := by have := h5.symm.trans hpos'.be; simpa using this
    obtain ⟨q, hq⟩ := tr.before hpos' h4
    exact ⟨q, hq.2, hclosed r _ o' c hEr hpos' q g hq.2 h4⟩
theorem fuel_less {fuel : Nat} {listed : Array Bool} {i : Nat} (hli : listed[i]? = some false) (hf : (listed.toList.filter (! ·)).length ≤ fuel + 1) : ((listed.setIfInBounds i true).toList.filter (! ·)).length ≤ fuel := by
  have key : ∀ (l : List Bool) (i : Nat), l[i]? = some false → ((l.set i true).filter (! ·)).length + 1 = (l.filter (! ·)).length := by
    intro l
    induction l with
    | nil => intro i h; simp at h
    | cons x l ih =>
      intro i h
      cases i with
      | zero => simp at h; subst h; simp
      | succ i =>
        simp only [List.getElem?_cons_succ] at h
        have := ih i h
        cases x <;> simp <;> omega
  have := key listed.toList i (by rw [Array.getElem?_toList]; exact hli)
  simp only [Array.toList_setIfInBounds]
  omega
theorem doneE_put (tr : Tr cx slf ρ ops (befs ops.toList []) ord f) {listed : Array Bool} {i p : Nat} (hp : ord[p]? = some i) (hli : listed[i]? = some false) : doneE ord (listed.setIfInBounds i true) = fun q => doneE ord listed q ∨ q = p := by
  have hlt : i < listed.size := (Array.getElem?_eq_some_iff.1 hli).1
  funext q
  apply propext
  unfold doneE
  constructor
  · rintro ⟨j, h1, h2⟩
    by_cases e : i = j
    · subst e; exact .inr (tr.inj h1 hp)
    · rw [Array.getElem?_setIfInBounds_ne e] at h2
      exact .inl ⟨j, h1, h2⟩
  · rintro (⟨j, h1, h2⟩ | rfl)
    · refine ⟨j, h1, ?_⟩
      by_cases e : i = j
      · subst e; rw [hli] at h2; simp at h2
      · rw [Array.getElem?_setIfInBounds_ne e]; exact h2
    · exact ⟨i, hp, by rw [Array.getElem?_setIfInBounds_self_of_lt (by omega)]⟩
/-- What is ready. -/
theorem ready_spec {listed : Array Bool} (hsz : listed.size = ops.size) {i : Nat} (hi : i ∈ Region.ready .any ops listed) : ∃ o, ops[i]? = some o ∧ listed[i]? = some false ∧ (o.after.all fun e => !Region.binds .any e || listed.getD e.on false) = true := by
  unfold Region.ready at hi
  rw [List.mem_filter, List.mem_range] at hi
  obtain ⟨hi1, hi2⟩ := hi
  simp only [Bool.and_eq_true, Bool.not_eq_true'] at hi2
  obtain ⟨hi2, hi3⟩ := hi2
  have hli : listed[i]? = some false := by
    rw [Array.getElem?_eq_getElem (by omega)]
    rw [Array.getD_eq_getD_getElem?, Array.getElem?_eq_getElem (by omega)] at hi2
    simpa using hi2
  rw [Array.getElem?_eq_getElem hi1] at hi3
  simp only [Option.map_some, Option.getD_some] at hi3
  exact ⟨_, Array.getElem?_eq_getElem hi1, hli, hi3⟩
/-- Nothing is ready: what stands in the order is done. -/
theorem none_ready (tr : Tr cx slf ρ ops (befs ops.toList []) ord f) {listed : Array Bool} (hsz : listed.size = ops.size) (hr : Region.ready .any ops listed = []) : ∀ q, q < ord.length → doneE ord listed q := by
  intro q
  induction q using Nat.strongRecOn with
  | _ q ih =>
    intro hq
    obtain ⟨i, o, b, hpos, _⟩ := tr.pos hq
    have hi : i < ops.size := (Array.getElem?_eq_some_iff.1 hpos.op).1
    cases hl : listed[i]? with
    | none => rw [Array.getElem?_eq_none_iff] at hl; omega
    | some v =>
      cases v with
      | true => exact ⟨i, hpos.ix, hl⟩
      | false =>
        exfalso
        have : i ∈ Region.ready .any ops listed := by
          unfold Region.ready
          rw [List.mem_filter]
          refine ⟨List.mem_range.2 hi, ?_⟩
          rw [hpos.op]
          simp only [Option.map_some, Option.getD_some, Bool.and_eq_true, Bool.not_eq_true']
          refine ⟨by rw [Array.getD_eq_getD_getElem?, hl]; rfl, ?_⟩
          rw [Array.all_eq_true']
          intro e he
          cases hb : Region.binds .any e with
          | false => rfl
          | true =>
            have hbit : Nat.testBit b e.on = true := by
              obtain ⟨_, h2⟩ := befs_get ops.toList []
              have := h2 i o b (by rw [Array.getElem?_toList]; exact hpos.op) (by simpa using hpos.be)
              rw [this]
              exact befOf_has (by simpa using he) hb
            obtain ⟨r, h3, h4⟩ := tr.before hpos hbit
            obtain ⟨j, h5, h6⟩ := ih r h3 (by omega)
            rw [h4] at h5
            injection h5 with h5
            subst h5
            simp [Array.getD_eq_getD_getElem?, h6]
        rw [hr] at this
        simp at this
theorem any_ok (R : Reg P cx slf ρ ops (befs ops.toList []) ord f S π0 fr st w a) (full : doneAt ord 0 + 1 = 2 ^ ops.size) (hkept : ∀ q, q ≤ ord.length → (f q).lost = false) (hpcs : ∀ q, q ≤ ord.length → PcOk ρ (f q).st.pc) {Q : Exit → Act → World → Prop} {ro : Option Nat} {n : Nat}
    (hQ : ∀ a1 w1, CPost ρ S π0 st w (.normal, (f ord.length).fr, { (f ord.length).st with h := allMk (f ord.length).mm (allSm (f ord.length).sm (f ord.length).st.h) }) .normal a1 w1 → Q .normal a1 w1) :
    ∀ (fuel : Nat) (listed : Array Bool) (a1 : Act) (w1 : World), listed.size = ops.size → (listed.toList.filter (! ·)).length ≤ fuel →
      (∃ t π1, Inv ρ ops (befs ops.toList []) ord f S π0 fr st w (doneE ord listed) t π1 a1 w1) → wpAnyIn (FN ro) n P .any ops Q fuel listed a1 w1 := by
  have hend : ∀ (listed : Array Bool) (a1 : Act) (w1 : World), (∃ t π1, Inv ρ ops (befs ops.toList []) ord f S π0 fr st w (doneE ord listed) t π1 a1 w1) → (∀ q, q < ord.length → doneE ord listed q) → Q .normal a1 w1 :=
    fun listed a1 w1 ⟨t, π1, I⟩ hE => hQ a1 w1 (draw_end R I hE (hpcs _ (Nat.le_refl _)))
  intro fuel
  induction fuel with
  | zero =>
    intro listed a1 w1 hsz hf hI
    have hz : listed.toList.filter (! ·) = [] := List.eq_nil_of_length_eq_zero (by omega)
    have htrue : ∀ i, i < ops.size → listed[i]? = some true := by
      intro i hi
      have hi' : i < listed.size := by omega
      have := List.filter_eq_nil_iff.1 hz (listed[i]) (by rw [← Array.getElem_toList]; exact List.getElem_mem _)
      rw [Array.getElem?_eq_getElem hi']
      simpa using this
    refine ⟨?_, hend listed a1 w1 hI fun q hq => ?_⟩
    · unfold Region.ready
      rw [List.filter_eq_nil_iff]
      intro i hi
      rw [List.mem_range] at hi
      simp [Array.getD_eq_getD_getElem?, htrue i hi]
    · obtain ⟨i, o, b, hpos, _⟩ := R.tr.pos hq
      exact ⟨i, hpos.ix, htrue i (Array.getElem?_eq_some_iff.1 hpos.op).1⟩
  | succ fuel ih =>
    intro listed a1 w1 hsz hf hI
    refine ⟨fun hr => hend listed a1 w1 hI (none_ready R.tr hsz hr), fun i hi => ?_⟩
    obtain ⟨o, hop, hli, hrd⟩ := ready_spec hsz hi
    obtain ⟨p, hp⟩ := ord_all full (Array.getElem?_eq_some_iff.1 hop).1
    obtain ⟨i', o', b, hpos, _⟩ := R.tr.pos (List.getElem?_eq_some_iff.1 hp).1
    obtain rfl : i = i' := by have := hp.symm.trans hpos.ix; simpa using this
    obtain rfl : o = o' := by have := hop.symm.trans hpos.op; simpa using this
    obtain ⟨t, π1, I⟩ := hI
    have X : Nxt ops (befs ops.toList []) ord (doneE ord listed) p i o b := by
      refine ⟨hpos, ?_, fun q g hq hbit => ?_⟩
      · rintro ⟨j, h1, h2⟩
        rw [hp] at h1
        injection h1 with h1
        subst h1
        rw [hli] at h2
        simp at h2
      · obtain ⟨q', h1, h2⟩ := ready_bits R.tr (fun _ => Iff.rfl) (fun j hj => ord_all full (by have := (Array.getElem?_eq_some_iff.1 hj).1; omega)) I.closed hop hpos.be hrd g hbit
        obtain rfl := R.tr.inj hq h1
        exact h2
    refine Does.wp hpos.op ((step_any R I X (hpcs p (Nat.le_of_lt hpos.lt)) (hkept _ hpos.lt) (.inl hpcs)).mono ?_)
    rintro a2 w2 ⟨_, t2, π2, I2⟩
    refine ih (listed.setIfInBounds i true) a2 w2 (by simpa using hsz) (fuel_less hli hf) ⟨t2, π2, ?_⟩
    rw [doneE_put R.tr hp hli]
    exact I2
theorem allDep_bit {bs : List Nat} {i j b : Nat} : ∀ {l : List Nat}, allDep bs i l = true → j ∈ l → bs[j]? = some b → Nat.testBit b i = true
  | [], _, h, _ => by simp at h
  | x :: l, hd, hm, hb => by
    simp only [allDep, nth_eq] at hd
    split at hd
    · rename_i c hc
      split at hd
      · rename_i hbit
        rcases List.mem_cons.1 hm with rfl | hm
        · rw [hc] at hb; injection hb with hb; rw [← hb]; exact hbit
        · exact allDep_bit hd hm hb
      · simp at hd
    · simp at hd
/-- A call that panics is met, whichever operations come first. -/
theorem any_die {l1 l2 : List Nat} {i : Nat} (R : Reg P cx slf ρ ops (befs ops.toList []) (l1 ++ [i]) f S π0 fr st w a) (full : doneAt (l1 ++ i :: l2) 0 + 1 = 2 ^ ops.size) (hdep : allDep (befs ops.toList []) i l2 = true) (hkept : ∀ q, q ≤ l1.length → (f q).lost = false)
    (hpcs : ∀ q, q ≤ (l1 ++ [i]).length → PcOk ρ (f q).st.pc) {o : Oper} {b : Nat} {st1 st2 : St} {v : V} (hop : ops[i]? = some o) (hbe : (befs ops.toList [])[i]? = some b) (hw : WantF ρ ops o (f l1.length) st1 true)
    (hD : Dies cx slf ρ (f l1.length).fr.tm { st1 with h := withSm b (f l1.length).sm st1.h } o v st2) (hbig : (f (l1.length + 1)).bigs = i :: (f l1.length).bigs) (hdf : (f l1.length).fr.df = []) {Q : Exit → Act → World → Prop} {ro : Option Nat} {n : Nat}
    (hQ : ∀ e a w', CPost ρ S π0 st w (.die v, (f l1.length).fr, st2) e a w' → Q e a w') :
    ∀ (fuel : Nat) (listed : Array Bool) (a1 : Act) (w1 : World), listed.size = ops.size → (listed.toList.filter (! ·)).length ≤ fuel → listed[i]? = some false → (∀ j, listed[j]? = some true → ∃ q : Nat, (l1 ++ [i])[q]? = some j) →
      (∃ t π1, Inv ρ ops (befs ops.toList []) (l1 ++ [i]) f S π0 fr st w (doneE (l1 ++ [i]) listed) t π1 a1 w1) → wpAnyIn (FN ro) n P .any ops Q fuel listed a1 w1 := by
  have hix : (l1 ++ [i])[l1.length]? = some i := by simp
  have hposi : Pos ops (befs ops.toList []) (l1 ++ [i]) l1.length i o b := ⟨hix, hop, hbe⟩
  have hnr : ∀ listed : Array Bool, listed.size = ops.size → listed[i]? = some false → Region.ready .any ops listed ≠ [] := by
    intro listed hsz hli hr
    obtain ⟨j, h1, h2⟩ := none_ready R.tr hsz hr l1.length (by simp)
    rw [hix] at h1
    injection h1 with h1
    subst h1
    rw [hli] at h2
    simp at h2
  intro fuel
  induction fuel with
  | zero =>
    intro listed a1 w1 hsz hf hli _ _
    exfalso
    have hz : listed.toList.filter (! ·) = [] := List.eq_nil_of_length_eq_zero (by omega)
    obtain ⟨hlt, hv⟩ := Array.getElem?_eq_some_iff.1 hli
    have := List.filter_eq_nil_iff.1 hz (listed[i]) (by rw [← Array.getElem_toList]; exact List.getElem_mem _)
    rw [hv] at this
    simp at this
  | succ fuel ih =>
    intro listed a1 w1 hsz hf hli hin hI
    refine ⟨fun hr => absurd hr (hnr listed hsz hli), fun j hj => ?_⟩
    obtain ⟨oj, hopj, hlj, hrd⟩ := ready_spec hsz hj
    obtain ⟨t, π1, I⟩ := hI
    obtain ⟨bj, hbj⟩ : ∃ bj, (befs ops.toList [])[j]? = some bj := by
      have : j < (befs ops.toList []).length := by rw [befs_len]; simpa using (Array.getElem?_eq_some_iff.1 hopj).1
      exact ⟨_, List.getElem?_eq_getElem this⟩
    have hbits := ready_bits R.tr (fun _ => Iff.rfl) hin I.closed hopj hbj hrd
    have hnot : ∀ q : Nat, (l1 ++ [i])[q]? = some j → ¬ doneE (l1 ++ [i]) listed q := by
      rintro q hq ⟨j', h1, h2⟩
      rw [hq] at h1
      injection h1 with h1
      subst h1
      rw [hlj] at h2
      simp at h2
    by_cases hin1 : ∃ p : Nat, (l1 ++ [i])[p]? = some j
    · obtain ⟨p, hp⟩ := hin1
      have X : Nxt ops (befs ops.toList []) (l1 ++ [i]) (doneE (l1 ++ [i]) listed) p j oj bj := by
        refine ⟨⟨hp, hopj, hbj⟩, hnot p hp, fun q g hq hbit => ?_⟩
        obtain ⟨q', h1, h2⟩ := hbits g hbit
        obtain rfl := R.tr.inj hq h1
        exact h2
      have hple : p < (l1 ++ [i]).length := X.pos.lt
      by_cases hpl : p = l1.length
      · subst hpl
        obtain ⟨rfl, rfl, rfl⟩ := X.pos.uniq hposi
        exact die_big R I X (hpcs _ (Nat.le_of_lt hple)) hw hD ⟨_, hix, hbig⟩ hdf hQ
      · have hlt : p < l1.length := by simp at hple; omega
        have hne : i ≠ j := by
          rintro rfl
          exact hpl (R.tr.inj hp hix)
        refine Does.wp hopj ((step_any R I X (hpcs p (Nat.le_of_lt hple)) (hkept _ hlt) (.inl hpcs)).mono ?_)
        rintro a2 w2 ⟨_, t2, π2, I2⟩
        refine ih (listed.setIfInBounds j true) a2 w2 (by simpa using hsz) (fuel_less hlj hf) (by rw [Array.getElem?_setIfInBounds_ne hne.symm]; exact hli) ?_ ⟨t2, π2, ?_⟩
        · intro g hg
          by_cases e : j = g
          · subst e; exact ⟨p, hp⟩
          · rw [Array.getElem?_setIfInBounds_ne e] at hg
            exact hin g hg
        · rw [doneE_put R.tr hp hlj]
          exact I2
    · exfalso
      obtain ⟨q, hq⟩ := ord_all full (Array.getElem?_eq_some_iff.1 hopj).1
      have hmem : j ∈ l2 := by
        have := List.mem_of_getElem? hq
        rcases List.mem_append.1 this with h1 | h1
        · obtain ⟨q', h2⟩ := List.mem_iff_getElem?.1 (List.mem_append_left [i] h1)
          exact absurd ⟨q', h2⟩ hin1
        · rcases List.mem_cons.1 h1 with rfl | h1
          · exact absurd ⟨_, hix⟩ hin1
          · exact h1
      have := allDep_bit hdep hmem hbj
      obtain ⟨q', h1, h2⟩ := hbits i this
      obtain rfl := R.tr.inj h1 hix
      obtain ⟨j', h3, h4⟩ := h2
      rw [hix] at h3
      injection h3 with h3
      subst h3
      rw [hli] at h4
      simp at h4
/-- Drawn regions are sound. -/
theorem draw_ok (hmix : P.follows .mixedOrders = true) (htt : TOk P cx.tt) (hft : FOk P cx.ft) (hcall : CallOk P cx ρ slf.call) (hround : RoundOk P cx ρ slf) : DrawOk P cx ρ slf := by
  intro rnd ro id ops fr st res hd e S π0 w a n h hf hr
  unfold drawn at e
  unfold drawOk at hd
  simp only [Bool.and_eq_true] at hd
  rcases draw_raw _ 0 _ rfl e with ⟨f, h0, h1, hk, h2, rfl⟩ | ⟨f, l1, i, l2, h0, hD⟩
  · have R : Reg P cx slf ρ ops (befs ops.toList []) (orderOf ops.toList (befs ops.toList [])) f S π0 fr st w a :=
      ⟨htt, hft, hcall, hround, ⟨h1, hd.1, hd.2⟩, h0, h, hf⟩
    refine wpIn_region_any hmix ?_
    have hpcs := fun q hq => (facts_hold R (m := _) (Nat.le_refl _) hk q hq).1
    refine any_ok R h2 hk hpcs (fun _ _ hp => hp) ops.size _ a _ (by simp) (by simp) ⟨0, π0, ?_⟩
    refine inv_start R ?_ rfl ⟨rfl, rfl, rfl⟩
    rintro q ⟨i, _, hi⟩
    rw [Array.getElem?_replicate] at hi
    split at hi <;> simp at hi
  · obtain ⟨o, b, st1, v, st2, hop, hbe, hw, hdie, hbig, hst, rfl⟩ := hD.die
    have R : Reg P cx slf ρ ops (befs ops.toList []) (l1 ++ [i]) f S π0 fr st w a :=
      ⟨htt, hft, hcall, hround, ⟨hD.stp, hd.1, hd.2⟩, h0, h, hf⟩
    have full := hD.full
    rw [hD.cut] at full
    refine wpIn_region_any hmix ?_
    have hpcs1 := fun q hq => (facts_hold R (m := l1.length) (by simp) hD.kept q hq).1
    have hpcs : ∀ q, q ≤ (l1 ++ [i]).length → PcOk ρ (f q).st.pc := by
      intro q hq
      by_cases e1 : q ≤ l1.length
      · exact hpcs1 q e1
      · obtain rfl : q = l1.length + 1 := by simp at hq; omega
        rw [hst]
        exact (hw.pc (hpcs1 _ (Nat.le_refl _))).1
    refine any_die R full hD.dep hD.kept hpcs hop hbe hw hdie hbig hD.df (fun _ _ _ hp => hp) ops.size _ a _ (by simp) (by simp) ?_ ?_ ⟨0, π0, ?_⟩
    · rw [Array.getElem?_replicate, if_pos (Array.getElem?_eq_some_iff.1 hop).1]
    · intro j hj
      rw [Array.getElem?_replicate] at hj
      split at hj <;> simp at hj
    · refine inv_start R ?_ rfl ⟨rfl, rfl, rfl⟩
      rintro q ⟨i, _, hi⟩
      rw [Array.getElem?_replicate] at hi
      split at hi <;> simp at hi
/-- The evaluator is sound. -/
theorem ev_ok {P : Program} {cx : Cx} {ρ : Env} (hmix : P.follows .mixedOrders = true) (htt : TOk P cx.tt) (hft : FOk P cx.ft) (hsm : SumOk P cx ρ) :
    ∀ n, CodeOk P cx ρ (ev cx n).code ∧ LoopOk P cx ρ n (ev cx n).loop ∧ CallOk P cx ρ (ev cx n).call
  | 0 => ⟨fun _ _ _ _ _ h => by simp [ev, R.sel] at h, fun _ _ _ _ _ h => by simp [ev, R.sel] at h, fun _ _ _ _ h => by simp [ev, R.sel] at h⟩
  | n + 1 => by
    obtain ⟨h1, h2, h3⟩ := ev_ok hmix htt hft hsm n
    exact ⟨codeM_ok (code_ok htt hft h1 h2 h3 (draw_ok hmix htt hft h3 (round_ok h1))), loop_ok h1 h2, callM_ok (call_ok htt hft hsm h1)⟩
/-- A call, from what the evaluator says of it. -/
theorem ev_calls {P : Program} {cx : Cx} {ρ : Env} (hmix : P.follows .mixedOrders = true) (htt : TOk P cx.tt) (hft : FOk P cx.ft) (hsm : SumOk P cx ρ) {n : Nat} {f : FuncId} {args : List V} {st : St} {res : En × St}
    (h : ((ev cx n).call f args st).sel ρ = some res) {S : Nat → Prop} {π0 : Pl} {w : World} {ac : List Value} {fn : Func} (hh : Here cx ρ S π0 st w) (ha : SaysL ρ S π0 args ac) (hfn : P.funcs[f]? = some fn) :
    Calls P f ac.toArray w (EPost ρ S π0 st w res) :=
  callsIn_wide.1 ((ev_ok hmix htt hft hsm n).2.2 f args st res h S π0 w ac 0 hh ha ⟨fn, hfn⟩)
end
end Go.Proofs.YtcachlbljjpjdaaGreatDoor
