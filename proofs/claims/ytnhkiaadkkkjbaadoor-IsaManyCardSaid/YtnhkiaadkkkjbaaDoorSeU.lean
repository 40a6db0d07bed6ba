/- Symbolic execution, part 30: drawn regions are sound; the evaluator is sound. No condition. -/
import Derived.Test.YtnhkiaadkkkjbaaDoorSeT
namespace Go.Proofs.YtnhkiaadkkkjbaaDoor
open Go

theorem befOf_bit {acc : List Nat} {j : Nat} : ∀ {es : List Edge}, Nat.testBit (befOf acc es) j = true → ∃ e ∈ es, Region.binds .any e = true ∧ (e.on = j ∨ ∃ c, acc[e.on]? = some c ∧ Nat.testBit c j = true)
  | [], h => by simp [befOf] at h
  | e :: es, h => by
    simp only [befOf] at h
    split at h
    · rename_i hb
      simp only [Nat.testBit_or, Bool.or_eq_true, Nat.testBit_two_pow, decide_eq_true_eq, nth_eq] at h
      rcases h with (h | h) | h
      · exact ⟨e, by simp, hb, .inl h⟩
      · cases hc : acc[e.on]? with
        | none => rw [hc] at h; simp at h
        | some c => rw [hc] at h; exact ⟨e, by simp, hb, .inr ⟨c, hc, by simpa using h⟩⟩
      · obtain ⟨e', h1, h2⟩ := befOf_bit h
        exact ⟨e', by simp [h1], h2⟩
    · obtain ⟨e', h1, h2⟩ := befOf_bit h
      exact ⟨e', by simp [h1], h2⟩
theorem befOf_has {acc : List Nat} : ∀ {es : List Edge} {e : Edge}, e ∈ es → Region.binds .any e = true → Nat.testBit (befOf acc es) e.on = true
  | x :: es, e, h, hb => by
    simp only [befOf]
    rcases List.mem_cons.1 h with rfl | h
    · rw [if_pos hb]
      simp [Nat.testBit_or]
    · have := befOf_has (acc := acc) h hb
      split
      · simp [Nat.testBit_or, this]
      · exact this
theorem befs_get : ∀ (os : List Oper) (acc : List Nat), (∃ l, befs os acc = acc ++ l) ∧
    ∀ k o b, os[k]? = some o → (befs os acc)[acc.length + k]? = some b → b = befOf ((befs os acc).take (acc.length + k)) o.after.toList
  | [], acc => ⟨⟨[], by simp [befs]⟩, fun k o b h => by simp at h⟩
  | x :: os, acc => by
    simp only [befs]
    obtain ⟨⟨l, h1⟩, h2⟩ := befs_get os (acc ++ [befOf acc x.after.toList])
    refine ⟨⟨befOf acc x.after.toList :: l, by rw [h1]; simp⟩, fun k o b hk hb => ?_⟩
    cases k with
    | zero =>
      simp only [List.length_cons, Nat.zero_lt_succ, List.getElem?_eq_getElem, List.getElem_cons_zero, Option.some.injEq] at hk
      subst hk
      rw [h1] at hb ⊢
      simp only [Nat.add_zero, List.append_assoc, List.singleton_append] at hb ⊢
      rw [List.getElem?_append_right (Nat.le_refl _)] at hb
      simp only [Nat.sub_self, List.length_cons, Nat.zero_lt_succ, List.getElem?_eq_getElem, List.getElem_cons_zero, Option.some.injEq] at hb
      rw [List.take_left]
      exact hb.symm
    | succ k =>
      simp only [List.getElem?_cons_succ] at hk
      have := h2 k o b hk (by simpa [Nat.add_assoc, Nat.add_comm 1] using hb)
      simpa [Nat.add_assoc, Nat.add_comm 1] using this
theorem befs_len (os : List Oper) : ∀ acc, (befs os acc).length = acc.length + os.length := by
  induction os with
  | nil => intro acc; simp [befs]
  | cons o os ih => intro acc; simp only [befs, ih]; simp; omega
theorem befs_take {os : List Oper} {i j c : Nat} (h : ((befs os []).take i)[j]? = some c) : (befs os [])[j]? = some c ∧ j < i := by
  rw [List.getElem?_take] at h
  split at h
  · exact ⟨h, by assumption⟩
  · simp at h

section
variable {P : Program} {cx : Cx} {slf : Self} {ρ : Env} {ops : Array Oper} {ord : List Nat} {f : Nat → RS} {S : Nat → Prop} {π0 : Pl} {fr : Fr} {st : St} {w : World} {a : Act}
  {t : Nat} {π1 : Pl} {a1 : Act} {w1 : World}
/-- What has been done. -/
def doneE (ord : List Nat) (listed : Array Bool) (p : Nat) : Prop := ∃ i, ord[p]? = some i ∧ listed[i]? = some true
theorem draw_end (R : Reg P cx slf ρ ops (befs ops.toList []) ord f S π0 fr st w a) {E : Nat → Prop} (I : Inv ρ ops (befs ops.toList []) ord f S π0 fr st w E t π1 a1 w1) (hE : ∀ q, q < ord.length → E q) (hpc : PcOk ρ (f ord.length).st.pc) :
    CPost ρ S π0 st w (.normal, (f ord.length).fr, { (f ord.length).st with h := allMk (f ord.length).mm (allSm (f ord.length).sm (f ord.length).st.h) }) .normal a1 w1 := by
  have hn0 : (f 0).st.n = st.n := by rw [R.zero]
  have hle : st.n ≤ (f ord.length).st.n := by rw [← hn0]; exact R.tr.mono (Nat.zero_le _) (Nat.le_refl _)
  have hids : ∀ i, idsE S ord f E i → Ext S st.n (f ord.length).st.n i := by
    rintro i (h | ⟨q, h1, h2, h3, h4⟩)
    · exact .inl h
    · have e1 := R.tr.mono (p := 0) (q := q) (Nat.zero_le _) (Nat.le_of_lt h1)
      have e2 := R.tr.mono (p := q + 1) (q := ord.length) h1 (Nat.le_refl _)
      exact .inr ⟨by omega, by omega⟩
  have hst : (f t).st.h = (f ord.length).st.h := (R.tr.sameHeap I.tle (Nat.le_refl _) fun r h1 h2 hb => by
    have := (I.stage r hb).1 (hE r h2)
    omega).symm
  have hview : ∀ i o, (allMk (f ord.length).mm (allSm (f ord.length).sm (f ord.length).st.h)).get i = some o → HGE ops (befs ops.toList []) ord f E t i o := by
    have sm : ∀ i o, (allSm (f ord.length).sm (f ord.length).st.h).get i = some o → HGE ops (befs ops.toList []) ord f E t i o := by
      intro i o h
      rcases allSm_get h with ⟨s, h1, h2, h3⟩ | h1
      · obtain ⟨q, hq⟩ := R.tr.sm R.sm0 (Nat.le_refl _) s h1
        refine .inr (.inl ⟨q, s, hE q hq.lt, ⟨by omega, hq.ix, hq.made, hq.id, hq.wide, hq.keepsMm, fun r j x c hr hb hpos => hq.free r j x c (by have := hq.lt; omega) hb hpos⟩, fun r j x c hr hb hpos => hq.free r j x c (I.lt r hr) hb hpos, h2, h3⟩)
      · exact .inl (by rw [hst]; exact h1)
    intro i o h
    cases hm : (f ord.length).mm with
    | none => rw [hm] at h; exact sm i o h
    | some m =>
      rw [hm] at h
      simp only [allMk] at h
      obtain ⟨q, hq⟩ := R.tr.mm R.mm0 (Nat.le_refl _) m hm
      by_cases e : m.id = i
      · subst e
        rw [T.get_set_same] at h
        injection h with h
        refine .inr (.inr ⟨q, m, hE q hq.lt, hm, hq.ix, rfl, ?_⟩)
        rw [← h]
        have : insE ord E m.ins = m.ins := insE_all fun x hx => by
          obtain ⟨r, h1, h2, h3⟩ := hq.ins x hx
          exact ⟨r, hE r h2, h3⟩
        rw [this]
      · rw [T.get_set_other _ _ e] at h
        exact sm i o h
  have A := (I.gg.less (G' := fun i o => (allMk (f ord.length).mm (allSm (f ord.length).sm (f ord.length).st.h)).get i = some o) hview).names hids
  refine ⟨hpc, π1, ⟨hle, A.known, A.view fun _ _ h => h, A.sub, A.keep, A.size, A.same⟩, rfl, ?_⟩
  have hfr := I.fr
  rw [R.tr.tmE_all hE] at hfr
  have hdf : (f ord.length).fr = { tm := (f ord.length).fr.tm, df := fr.df } := by
    have := (R.tr.frames (Nat.le_refl ord.length)).1
    rw [R.zero] at this
    dsimp only at this
    rw [← this]
  rw [← hdf] at hfr
  exact hfr.known (fun _ _ => rfl) hids
theorem any_ok (R : Reg P cx slf ρ ops (befs ops.toList []) ord f S π0 fr st w a) (hpcs : ∀ q, q ≤ ord.length → PcOk ρ (f q).st.pc) {Q : Exit → Act → World → Prop} {ro : Option Nat} {n : Nat}
    (hQ : ∀ a1 w1, CPost ρ S π0 st w (.normal, (f ord.length).fr, { (f ord.length).st with h := allMk (f ord.length).mm (allSm (f ord.length).sm (f ord.length).st.h) }) .normal a1 w1 → Q .normal a1 w1) :
    ∀ (fuel : Nat) (listed : Array Bool) (a1 : Act) (w1 : World), listed.size = ops.size → (listed.toList.filter (! ·)).length ≤ fuel →
      (∃ t π1, Inv ρ ops (befs ops.toList []) ord f S π0 fr st w (doneE ord listed) t π1 a1 w1) → wpAnyIn (FN ro) n P .any ops Q fuel listed a1 w1 := by
  have hend : ∀ (listed : Array Bool) (a1 : Act) (w1 : World), (∃ t π1, Inv ρ ops (befs ops.toList []) ord f S π0 fr st w (doneE ord listed) t π1 a1 w1) → (∀ q, q < ord.length → doneE ord listed q) → Q .normal a1 w1 :=
    fun listed a1 w1 ⟨t, π1, I⟩ hE => hQ a1 w1 (draw_end R I hE (hpcs _ (Nat.le_refl _)))
  -- nothing is ready: all is done
  have hall : ∀ listed : Array Bool, listed.size = ops.size → Region.ready .any ops listed = [] → ∀ q, q < ord.length → doneE ord listed q := by
    intro listed hsz hr q
    induction q using Nat.strongRecOn with
    | _ q ih =>
      intro hq
      obtain ⟨i, o, b, hpos, _⟩ := R.tr.pos hq
      have hi : i < ops.size := (Array.getElem?_eq_some_iff.1 hpos.op).1
      cases hl : listed[i]? with
      | none => rw [Array.getElem?_eq_none_iff] at hl; omega
      | some v =>
        cases v with
        | true => exact ⟨i, hpos.ix, hl⟩
        | false =>
          exfalso
          have : i ∈ Region.ready .any ops listed := by
            unfold Region.ready
            rw [List.mem_filter]
            refine ⟨List.mem_range.2 hi, ?_⟩
            rw [hpos.op]
            simp only [Option.map_some, Option.getD_some, Bool.and_eq_true, Bool.not_eq_true']
            refine ⟨by rw [Array.getD_eq_getD_getElem?, hl]; rfl, ?_⟩
            rw [Array.all_eq_true']
            intro e he
            cases hb : Region.binds .any e with
            | false => rfl
            | true =>
              have hbit : Nat.testBit b e.on = true := by
                obtain ⟨_, h2⟩ := befs_get ops.toList []
                have := h2 i o b (by rw [Array.getElem?_toList]; exact hpos.op) (by simpa using hpos.be)
                rw [this]
                exact befOf_has (by simpa using he) hb
              obtain ⟨r, h3, h4⟩ := R.tr.before hpos hbit
              obtain ⟨j, h5, h6⟩ := ih r h3 (by omega)
              rw [h4] at h5
              injection h5 with h5
              subst h5
              simp [Array.getD_eq_getD_getElem?, h6]
          rw [hr] at this
          simp at this
  intro fuel
  induction fuel with
  | zero =>
    intro listed a1 w1 hsz hf hI
    have hz : listed.toList.filter (! ·) = [] := List.eq_nil_of_length_eq_zero (by omega)
    have htrue : ∀ i, i < ops.size → listed[i]? = some true := by
      intro i hi
      have hi' : i < listed.size := by omega
      have := List.filter_eq_nil_iff.1 hz (listed[i]) (by rw [← Array.getElem_toList]; exact List.getElem_mem _)
      rw [Array.getElem?_eq_getElem hi']
      simpa using this
    refine ⟨?_, hend listed a1 w1 hI fun q hq => ?_⟩
    · unfold Region.ready
      rw [List.filter_eq_nil_iff]
      intro i hi
      rw [List.mem_range] at hi
      simp [Array.getD_eq_getD_getElem?, htrue i hi]
    · obtain ⟨i, o, b, hpos, _⟩ := R.tr.pos hq
      exact ⟨i, hpos.ix, htrue i (Array.getElem?_eq_some_iff.1 hpos.op).1⟩
  | succ fuel ih =>
    intro listed a1 w1 hsz hf hI
    refine ⟨fun hr => hend listed a1 w1 hI (hall listed hsz hr), fun i hi => ?_⟩
    unfold Region.ready at hi
    rw [List.mem_filter, List.mem_range] at hi
    obtain ⟨hi1, hi2⟩ := hi
    simp only [Bool.and_eq_true, Bool.not_eq_true'] at hi2
    obtain ⟨hi2, hi3⟩ := hi2
    have hli : listed[i]? = some false := by
      rw [Array.getElem?_eq_getElem (by omega)]
      rw [Array.getD_eq_getD_getElem?, Array.getElem?_eq_getElem (by omega)] at hi2
      simpa using hi2
    obtain ⟨p, hp⟩ := R.tr.all hi1
    obtain ⟨i', o, b, hpos, _⟩ := R.tr.pos (List.getElem?_eq_some_iff.1 hp).1
    obtain rfl : i = i' := by have := hp.symm.trans hpos.ix; simpa using this
    obtain ⟨t, π1, I⟩ := hI
    have hb : b = befOf ((befs ops.toList []).take i) o.after.toList := by
      obtain ⟨_, h2⟩ := befs_get ops.toList []
      have := h2 i o b (by rw [Array.getElem?_toList]; exact hpos.op) (by simpa using hpos.be)
      simpa using this
    have X : Nxt ops (befs ops.toList []) ord (doneE ord listed) p i o b := by
      refine ⟨hpos, ?_, ?_⟩
      · rintro ⟨j, h1, h2⟩
        rw [hp] at h1
        injection h1 with h1
        subst h1
        rw [hli] at h2
        simp at h2
      · intro q g hq hbit
        rw [hb] at hbit
        obtain ⟨e, h1, h2, h3⟩ := befOf_bit hbit
        rw [hpos.op] at hi3
        simp only [Option.map_some, Option.getD_some] at hi3
        rw [Array.all_eq_true'] at hi3
        have hl := hi3 e (by simpa using h1)
        rw [h2] at hl
        simp only [Bool.not_true, Bool.false_or] at hl
        have hl' : listed[e.on]? = some true := by
          rw [Array.getD_eq_getD_getElem?] at hl
          cases hv : listed[e.on]? with
          | none => rw [hv] at hl; simp at hl
          | some v => rw [hv] at hl; simp at hl; rw [hl]
        rcases h3 with h3 | ⟨c, h3, h4⟩
        · exact ⟨g, hq, by rw [← h3]; exact hl'⟩
        · obtain ⟨h5, h6⟩ := befs_take h3
          have hon : e.on < ops.size := by omega
          obtain ⟨r, hr⟩ := R.tr.all hon
          obtain ⟨j', o', b', hpos', _⟩ := R.tr.pos (List.getElem?_eq_some_iff.1 hr).1
          obtain rfl : e.on = j' := by have := hr.symm.trans hpos'.ix; simpa using this
          obtain rfl : c = b' := by have := h5.symm.trans hpos'.be; simpa using this
          exact I.closed r _ o' c ⟨e.on, hr, hl'⟩ hpos' q g hq h4
    refine Does.wp hpos.op ((step_any R I X (hpcs p (Nat.le_of_lt hpos.lt)) (.inl hpcs)).mono ?_)
    rintro a2 w2 ⟨_, t2, π2, I2⟩
    refine ih (listed.setIfInBounds i true) a2 w2 (by simpa using hsz) ?_ ⟨t2, π2, ?_⟩
    · have key : ∀ (l : List Bool) (i : Nat), l[i]? = some false → ((l.set i true).filter (! ·)).length + 1 = (l.filter (! ·)).length := by
        intro l
        induction l with
        | nil => intro i h; simp at h
        | cons x l ih =>
          intro i h
          cases i with
          | zero => simp at h; subst h; simp
          | succ i =>
            simp only [List.getElem?_cons_succ] at h
            have := ih i h
            cases x <;> simp <;> omega
      have := key listed.toList i (by rw [Array.getElem?_toList]; exact hli)
      simp only [Array.toList_setIfInBounds]
      omega
    · have hE : doneE ord (listed.setIfInBounds i true) = fun q => doneE ord listed q ∨ q = p := by
        funext q
        apply propext
        unfold doneE
        constructor
        · rintro ⟨j, h1, h2⟩
          by_cases e : i = j
          · subst e; exact .inr (R.tr.inj h1 hp)
          · rw [Array.getElem?_setIfInBounds_ne e] at h2
            exact .inl ⟨j, h1, h2⟩
        · rintro (⟨j, h1, h2⟩ | rfl)
          · refine ⟨j, h1, ?_⟩
            by_cases e : i = j
            · subst e; rw [hli] at h2; simp at h2
            · rw [Array.getElem?_setIfInBounds_ne e]; exact h2
          · exact ⟨i, hp, by rw [Array.getElem?_setIfInBounds_self_of_lt (by omega)]⟩
      rw [hE]
      exact I2
/-- Drawn regions are sound. -/
theorem draw_ok (hmix : P.follows .mixedOrders = true) (htt : TOk P cx.tt) (hft : FOk P cx.ft) (hcall : CallOk P cx ρ slf.call) (hround : RoundOk P cx ρ slf) : DrawOk P cx ρ slf := by
  intro rnd ro id ops fr st res hd e S π0 w a n h hf hr
  unfold drawn at e
  obtain ⟨f, h0, h1, h2, rfl⟩ := draw_raw _ 0 _ e
  unfold drawOk at hd
  simp only [Bool.and_eq_true] at hd
  have R : Reg P cx slf ρ ops (befs ops.toList []) (orderOf ops.toList (befs ops.toList [])) f S π0 fr st w a :=
    ⟨htt, hft, hcall, hround, ⟨h1, h2, hd.1, hd.2⟩, h0, h, hf⟩
  refine wpIn_region_any hmix ?_
  have hpcs := fun q hq => (facts_hold R q hq).1
  refine any_ok R hpcs (fun _ _ hp => hp) ops.size _ a _ (by simp) (by simp) ⟨0, π0, ?_⟩
  refine inv_start R ?_ rfl ⟨rfl, rfl, rfl⟩
  rintro q ⟨i, _, hi⟩
  rw [Array.getElem?_replicate] at hi
  split at hi <;> simp at hi
/-- The evaluator is sound. -/
theorem ev_ok {P : Program} {cx : Cx} {ρ : Env} (hmix : P.follows .mixedOrders = true) (htt : TOk P cx.tt) (hft : FOk P cx.ft) (hsm : SumOk P cx ρ) :
    ∀ n, CodeOk P cx ρ (ev cx n).code ∧ LoopOk P cx ρ n (ev cx n).loop ∧ CallOk P cx ρ (ev cx n).call
  | 0 => ⟨fun _ _ _ _ _ h => by simp [ev, R.sel] at h, fun _ _ _ _ _ h => by simp [ev, R.sel] at h, fun _ _ _ _ h => by simp [ev, R.sel] at h⟩
  | n + 1 => by
    obtain ⟨h1, h2, h3⟩ := ev_ok hmix htt hft hsm n
    exact ⟨code_ok htt hft h1 h2 h3 (draw_ok hmix htt hft h3 (round_ok h1)), loop_ok h1 h2, call_ok htt hft hsm h1⟩
/-- A call, from what the evaluator says of it. -/
theorem ev_calls {P : Program} {cx : Cx} {ρ : Env} (hmix : P.follows .mixedOrders = true) (htt : TOk P cx.tt) (hft : FOk P cx.ft) (hsm : SumOk P cx ρ) {n : Nat} {f : FuncId} {args : List V} {st : St} {res : En × St}
    (h : ((ev cx n).call f args st).sel ρ = some res) {S : Nat → Prop} {π0 : Pl} {w : World} {ac : List Value} {fn : Func} (hh : Here cx ρ S π0 st w) (ha : SaysL ρ S π0 args ac) (hfn : P.funcs[f]? = some fn) :
    Calls P f ac.toArray w (EPost ρ S π0 st w res) :=
  callsIn_wide.1 ((ev_ok hmix htt hft hsm n).2.2 f args st res h S π0 w ac 0 hh ha ⟨fn, hfn⟩)
end
end Go.Proofs.YtnhkiaadkkkjbaaDoor
