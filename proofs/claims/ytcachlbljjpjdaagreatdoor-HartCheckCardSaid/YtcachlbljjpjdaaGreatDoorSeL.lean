/- Symbolic execution, part 21: what is known of the memory, and how it goes on around what an operation sees. No condition. -/
import Derived.Test.YtcachlbljjpjdaaGreatDoorSeK
namespace Go.Proofs.YtcachlbljjpjdaaGreatDoor
open Go

/-- Heaps as relations. -/
abbrev HG := Nat → SObj → Prop
structure RepG (ρ : Env) (π : Pl) (G : HG) (w : World) : Prop where
  obj : ∀ i o, G i o → ∃ ob, w.heap[(π i).1]? = some ob ∧ o.is ρ π i ob
  inj : ∀ i j o o', G i o → G j o' → (π i).1 = (π j).1 → i = j
structure GoesG (ρ : Env) (S : Nat → Prop) (π0 : Pl) (h : H) (w : World) (S1 : Nat → Prop) (π1 : Pl) (G : HG) (w1 : World) : Prop where
  known : Known S π1 π0
  mono : ∀ i, S i → S1 i
  rep : ∀ π, Known S1 π π1 → RepG ρ π G w1
  dom : ∀ i o, G i o → S1 i
  sub : ∀ i o, G i o → w.heap.size ≤ (π1 i).1 ∨ ∃ i0 o0, h.get i0 = some o0 ∧ (π0 i0).1 = (π1 i).1
  keep : ∀ j, j < w.heap.size → (∀ i o, h.get i = some o → (π0 i).1 ≠ j) → w1.heap[j]? = w.heap[j]?
  size : w.heap.size ≤ w1.heap.size
  same : w1.tape = w.tape ∧ w1.os = w.os ∧ w1.output = w.output
section
variable {ρ : Env} {S S1 : Nat → Prop} {π0 π1 π2 : Pl} {h hx hx' : H} {w w1 w2 : World} {n n' : Nat} {G G' : HG}
/-- What an operation sees is part of what is known. -/
theorem GoesG.view (A : GoesG ρ S π0 h w S1 π1 G w1) (hv : ∀ i o, hx.get i = some o → G i o) : At ρ S1 π1 hx w1 where
  rep := fun π hk => ⟨fun i o hi => (A.rep π hk).obj i o (hv i o hi), fun i j o o' hi hj e => (A.rep π hk).inj i j o o' (hv i o hi) (hv j o' hj) e⟩
  dom := fun i o hi => A.dom i o (hv i o hi)
theorem GoesG.frame (A : GoesG ρ S π0 h w S1 π1 G w1) (hv : ∀ i o, hx.get i = some o → G i o) (g : Goes ρ S1 π1 hx w1 n π2 hx' w2 n')
    (hG : ∀ i o, G' i o → hx'.get i = some o ∨ (G i o ∧ hx.get i = none)) : GoesG ρ S π0 h w (Ext S1 n n') π2 G' w2 := by
  have lt : ∀ π, Known S1 π π1 → ∀ i o, G i o → (π i).1 < w1.heap.size := by
    intro π hk i o hi
    obtain ⟨ob, h1, _⟩ := (A.rep π hk).obj i o hi
    exact (Array.getElem?_eq_some_iff.1 h1).1
  refine ⟨fun i hi => (g.known i (A.mono i hi)).trans (A.known i hi), fun i hi => .inl (A.mono i hi), fun π hk => ?_, ?_, ?_, ?_, Nat.le_trans A.size g.size, ?_⟩
  · have hk1 : Known S1 π π1 := fun i hi => (hk i (.inl hi)).trans (g.known i hi)
    have mixed : ∀ i j o o', hx'.get i = some o → G j o' → hx.get j = none → (π i).1 = (π j).1 → False := by
      intro i j o o' hi hj hn e
      have ei : π i = π2 i := hk i (g.at_.dom i o hi)
      rcases g.sub i o hi with h1 | ⟨i0, o0, h1, h2⟩
      · have := lt π hk1 j o' hj
        rw [← e, ei] at this
        omega
      · have h3 : π i0 = π1 i0 := hk1 i0 (A.dom i0 o0 (hv i0 o0 h1))
        have := (A.rep π hk1).inj i0 j o0 o' (hv i0 o0 h1) hj (by rw [h3, h2, ← ei, e])
        subst this
        rw [h1] at hn
        simp at hn
    refine ⟨fun i o hi => ?_, fun i j o o' hi hj e => ?_⟩
    · rcases hG i o hi with h1 | ⟨h1, h2⟩
      · exact (g.at_.rep π hk).obj i o h1
      · obtain ⟨ob, h3, h4⟩ := (A.rep π hk1).obj i o h1
        refine ⟨ob, ?_, h4⟩
        rw [g.keep _ (lt π hk1 i o h1) ?_, h3]
        intro i' o' hi' e
        have h5 : π i' = π1 i' := hk1 i' (A.dom i' o' (hv i' o' hi'))
        have := (A.rep π hk1).inj i' i o' o (hv i' o' hi') h1 (by rw [h5, e])
        subst this
        rw [hi'] at h2
        simp at h2
    · rcases hG i o hi with h1 | ⟨h1, h2⟩ <;> rcases hG j o' hj with h3 | ⟨h3, h4⟩
      · exact (g.at_.rep π hk).inj i j o o' h1 h3 e
      · exact (mixed i j o o' h1 h3 h4 e).elim
      · exact (mixed j i o' o h3 h1 h2 e.symm).elim
      · exact (A.rep π hk1).inj i j o o' h1 h3 e
  · intro i o hi
    rcases hG i o hi with h1 | ⟨h1, _⟩
    · exact g.at_.dom i o h1
    · exact .inl (A.dom i o h1)
  · intro i o hi
    rcases hG i o hi with h1 | ⟨h1, _⟩
    · rcases g.sub i o h1 with h2 | ⟨i0, o0, h2, h3⟩
      · exact .inl (Nat.le_trans A.size h2)
      · rcases A.sub i0 o0 (hv i0 o0 h2) with h4 | ⟨i1, o1, h4, h5⟩
        · exact .inl (by rw [← h3]; exact h4)
        · exact .inr ⟨i1, o1, h4, h5.trans h3⟩
    · rw [g.known i (A.dom i o h1)]
      exact A.sub i o h1
  · intro j hj hne
    rw [g.keep j (Nat.lt_of_lt_of_le hj A.size) ?_, A.keep j hj hne]
    intro i o hi e
    rcases A.sub i o (hv i o hi) with h4 | ⟨i1, o1, h4, h5⟩
    · omega
    · exact hne i1 o1 h4 (h5.trans e)
  · exact ⟨g.same.1.trans A.same.1, g.same.2.1.trans A.same.2.1, g.same.2.2.trans A.same.2.2⟩
/-- What is known elsewhere does not come into what an operation sees. -/
theorem GoesG.still (A : GoesG ρ S π0 h w S1 π1 G w1) (hv : ∀ i o, hx.get i = some o → G i o) (g : Goes ρ S1 π1 hx w1 n π2 hx' w2 n') {i : Nat} {o : SObj} (hi : G i o) (hn : hx.get i = none) : hx'.get i = none := by
  cases e : hx'.get i with
  | none => rfl
  | some o' =>
    exfalso
    have ei : π2 i = π1 i := g.known i (A.dom i o hi)
    obtain ⟨ob, h1, _⟩ := (A.rep π1 fun _ _ => rfl).obj i o hi
    have lt := (Array.getElem?_eq_some_iff.1 h1).1
    rcases g.sub i o' e with h2 | ⟨i0, o0, h2, h3⟩
    · rw [ei] at h2; omega
    · have := (A.rep π1 fun _ _ => rfl).inj i0 i o0 o (hv i0 o0 h2) hi (by rw [h3, ei])
      subst this
      rw [h2] at hn
      simp at hn
theorem GoesG.less (A : GoesG ρ S π0 h w S1 π1 G w1) (hG : ∀ i o, G' i o → G i o) : GoesG ρ S π0 h w S1 π1 G' w1 where
  known := A.known
  mono := A.mono
  rep := fun π hk => ⟨fun i o hi => (A.rep π hk).obj i o (hG i o hi), fun i j o o' hi hj e => (A.rep π hk).inj i j o o' (hG i o hi) (hG j o' hj) e⟩
  dom := fun i o hi => A.dom i o (hG i o hi)
  sub := fun i o hi => A.sub i o (hG i o hi)
  keep := A.keep
  size := A.size
  same := A.same
theorem GoesG.names {S2 : Nat → Prop} (A : GoesG ρ S π0 h w S1 π1 G w1) (hs : ∀ i, S1 i → S2 i) : GoesG ρ S π0 h w S2 π1 G w1 where
  known := A.known
  mono := fun i hi => hs i (A.mono i hi)
  rep := fun π hk => A.rep π fun i hi => hk i (hs i hi)
  dom := fun i o hi => hs i (A.dom i o hi)
  sub := A.sub
  keep := A.keep
  size := A.size
  same := A.same
end

/-! ### A map's new entry -/
theorem mapIs_perm {ρ : Env} {π : Pl} {i : Nat} {es es' : List (V × V)} {ob : Obj} (hp : es.Perm es') (h : (SObj.map es).is ρ π i ob) : (SObj.map es').is ρ π i ob := by
  obtain ⟨ms, clock, h1, h2, h3⟩ := h
  have hp' : (entriesOf ρ π es).Perm (entriesOf ρ π es') := hp.map _
  exact ⟨ms, clock, h1, h2.trans hp', ((hp'.map _).pairwise_iff fun h => unlike_symm h).1 h3⟩
theorem At.mapPerm {ρ : Env} {S : Nat → Prop} {π0 : Pl} {h : H} {w : World} {m : Nat} {es es' : List (V × V)} (hp : es.Perm es') (a : At ρ S π0 (h.set m (.map es)) w) : At ρ S π0 (h.set m (.map es')) w := by
  have hs : ∀ i o, (h.set m (.map es')).get i = some o → ∃ o', (h.set m (.map es)).get i = some o' ∧ (∀ π ob, o'.is ρ π i ob → o.is ρ π i ob) := by
    intro i o hi
    by_cases e : m = i
    · subst e
      rw [T.get_set_same] at hi ⊢
      cases hi
      exact ⟨_, rfl, fun π ob h => mapIs_perm hp h⟩
    · rw [T.get_set_other _ _ e] at hi ⊢
      exact ⟨o, hi, fun _ _ h => h⟩
  refine ⟨fun π hk => ⟨fun i o hi => ?_, fun i j o o' hi hj e => ?_⟩, fun i o hi => ?_⟩
  · obtain ⟨o', h1, h2⟩ := hs i o hi
    obtain ⟨ob, h3, h4⟩ := (a.rep π hk).obj i o' h1
    exact ⟨ob, h3, h2 π ob h4⟩
  · obtain ⟨o1, h1, _⟩ := hs i o hi
    obtain ⟨o2, h2, _⟩ := hs j o' hj
    exact (a.rep π hk).inj i j o1 o2 h1 h2 e
  · obtain ⟨o', h1, _⟩ := hs i o hi
    exact a.dom i o' h1
theorem keysUnlike_symm {a b : V} (h : keysUnlike a b = true) : keysUnlike b a = true := by
  unfold keysUnlike at h
  split at h
  · simp only [Bool.and_eq_true, Bool.not_eq_true', ← Bool.not_eq_true] at h
    have h2 : ¬ intBeq _ _ = true := h.2
    simp only [keysUnlike, kindBeq_eq h.1, Bool.and_eq_true, Bool.not_eq_true', ← Bool.not_eq_true]
    refine ⟨by cases ‹IntKind› <;> rfl, ?_⟩
    rw [intBeq_iff, beq_iff_eq] at h2 ⊢
    exact fun e => h2 e.symm
  · rename_i x y
    simp only [keysUnlike, Bool.not_eq_true', ← Bool.not_eq_true] at h ⊢
    intro e
    apply h
    rw [natsBeq_iff] at e ⊢
    rw [decide_eq_true_eq] at *
    exact e.symm
  · simp at h
theorem findEntry_new {α : Type} {key : V} {k : St → Option (Nat × V) → R α} {st : St} : ∀ (es : List (V × V)) (i : Nat), (∀ e ∈ es, keysUnlike key e.1 = true) → findEntry st key es i k = k st none
  | [], _, _ => rfl
  | (key', v) :: es, i, h => by
    have h1 := h (key', v) (by simp)
    have h2 := findEntry_new (k := k) (st := st) es (i + 1) fun e he => h e (by simp [he])
    unfold keysUnlike at h1
    split at h1
    · rename_i a b c d e2
      simp only at e2
      subst e2
      simp only [Bool.and_eq_true, Bool.not_eq_true'] at h1
      simp only [findEntry, h1.1, if_true, mkEq, h1.2, b2i, split]
      exact h2
    · rename_i a b e2
      simp only at e2
      subst e2
      simp only [Bool.not_eq_true'] at h1
      simp only [findEntry, mkSeq, h1, b2i, split]
      exact h2
    · simp at h1
end Go.Proofs.YtcachlbljjpjdaaGreatDoor
