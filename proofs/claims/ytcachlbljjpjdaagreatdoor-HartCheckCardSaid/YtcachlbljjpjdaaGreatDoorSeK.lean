/- Symbolic execution, part 20: what is needed for drawn regions: values that are held against each other, operations that look at other temporaries, readers. No condition. -/
import Derived.Test.YtcachlbljjpjdaaGreatDoorSeJ
namespace Go.Proofs.YtcachlbljjpjdaaGreatDoor
open Go


section
variable {cx : Cx} {tm tm' : List V}
theorem evArgs_congr : ∀ (l : List Operand), (∀ x ∈ l, evO cx tm x = evO cx tm' x) → evArgs cx tm l = evArgs cx tm' l
  | [], _ => rfl
  | x :: l, h => by
    simp only [evArgs]
    rw [h x (by simp), evArgs_congr l fun y hy => h y (by simp [hy])]
theorem evParts_congr : ∀ (l : List (Nat × Operand)), (∀ x ∈ l.map (·.2), evO cx tm x = evO cx tm' x) → evParts cx tm l = evParts cx tm' l
  | [], _ => rfl
  | (i, x) :: l, h => by
    simp only [evParts]
    rw [h x (by simp), evParts_congr l fun y hy => h y (by simp only [List.map_cons, List.mem_cons]; exact .inr hy)]
theorem evOpt_congr (o : Option Operand) (h : ∀ x ∈ o.toList, evO cx tm x = evO cx tm' x) : evOpt cx tm o = evOpt cx tm' o := by
  cases o with
  | none => rfl
  | some x => simp only [evOpt]; rw [h x (by simp)]
/-- An operation looks at its operands alone. -/
theorem evOp0_congr {st : St} {o : Oper} (h : ∀ x ∈ o.op.operands.toList, evO cx tm x = evO cx tm' x) : evOp0 cx tm st o = evOp0 cx tm' st o := by
  unfold evOp0
  cases ho : o.op <;> rw [ho] at h <;> simp only [Op.operands] at h <;> dsimp only
  case move x => rw [h x (by simp)]
  case assign x => rw [h x (by simp)]
  case pick c a b => unfold oPick; rw [h c (by simp), h a (by simp), h b (by simp)]
  case box t x => unfold oBox; rw [h x (by simp)]
  case build t ps => unfold oBuild; rw [evParts_congr _ fun x hx => h x hx]
  case buildSlice t n ps => unfold oBuildSlice; rw [evParts_congr _ fun x hx => h x hx]
  case load t a => unfold oLoad; rw [h a (by simp)]
  case store t a x => unfold oStore; rw [h a (by simp), h x (by simp)]
  case nilCheck x => unfold oNilCheck; rw [h x (by simp)]
  case binOp op t x y _ => unfold oBin; rw [h x (by simp), h y (by simp)]
  case unOp op _ x => unfold oUn; rw [h x (by simp)]
  case convert src dst x => unfold oConvert; rw [h x (by simp)]
  case makeInterface t x => unfold oIface; rw [h x (by simp)]
  case makeFunc fn first captured =>
    unfold oFunc
    rw [evArgs_congr first.toList fun x hx => h x (by simp at hx ⊢; exact .inl hx), evArgs_congr captured.toList fun x hx => h x (by simp at hx ⊢; exact .inr hx)]
  case makeMap t r =>
    unfold oMap
    cases r with
    | none => rfl
    | some x => dsimp only; rw [h x (by simp)]
  case makeSlice t l c => unfold oMakeSlice; rw [h l (by simp), h c (by simp)]
  case slice t x lo hi mx =>
    unfold oSlice
    rw [h x (by simp), evOpt_congr lo fun y hy => h y (by simp at hy ⊢; simp [hy]), evOpt_congr hi fun y hy => h y (by simp at hy ⊢; simp [hy]), evOpt_congr mx fun y hy => h y (by simp at hy ⊢; simp [hy])]
  case fieldAddr t x f => unfold oFieldAddr; rw [h x (by simp)]
  case field t x f => unfold oField; rw [h x (by simp)]
  case indexAddr t x ix => unfold oIndexAddr; rw [h x (by simp), h ix (by simp)]
  case index t x ix => unfold oIndex; rw [h x (by simp), h ix (by simp)]
  case lookup t x ix ok => unfold oLookup; rw [h x (by simp), h ix (by simp)]
  case mapUpdate t m k x => unfold oUpdate; rw [h m (by simp), h k (by simp), h x (by simp)]
  case insert t m k x => unfold oUpdate; rw [h m (by simp), h k (by simp), h x (by simp)]
  case typeAssert x _ asserted ok => unfold oAssert; rw [h x (by simp)]
  case extract x i => unfold oExtract; rw [h x (by simp)]
  case call c =>
    unfold oCall
    cases hc : c.callee with
    | value f => dsimp only; rw [h f (by simp [Call.operands, hc]), evArgs_congr c.args.toList fun x hx => h x (by simp [Call.operands] at hx ⊢; exact .inr hx)]
    | builtin b => dsimp only; rw [evArgs_congr c.args.toList fun x hx => h x (by simp [Call.operands] at hx ⊢; exact .inr hx)]
    | invoke a b => rfl
  case defer c =>
    unfold oDefer
    cases hc : c.callee with
    | value f => dsimp only; rw [h f (by simp [Call.operands, hc]), evArgs_congr c.args.toList fun x hx => h x (by simp [Call.operands] at hx ⊢; exact .inr hx)]
    | builtin b => rfl
    | invoke a b => rfl
  case panic x => unfold oPanic; rw [h x (by simp)]
theorem evOp_congr {st : St} {o : Oper} (h : ∀ x ∈ o.op.operands.toList, evO cx tm x = evO cx tm' x) : evOp cx tm st o = evOp cx tm' st o := by
  unfold evOp
  rw [evOp0_congr h]
end

/-! ### Readers -/
section
variable {ρ : Env} {cx : Cx}
/-- A split, whatever the facts are. -/
theorem split_raw {α : Type} (x : X) {st : St} {k : St → Bool → R α} {a : α} (h : (split st x k).sel ρ = some a) :
    ∃ st' b, st'.h = st.h ∧ st'.n = st.n ∧ (PcOk ρ st.pc → PcOk ρ st'.pc ∧ b = x.tt ρ) ∧ (k st' b).sel ρ = some a := by
  by_cases hp : PcOk ρ st.pc
  · obtain ⟨st', hl, h'⟩ := split_sel hp h
    exact ⟨st', _, hl.h, hl.n, fun _ => ⟨hl.pc, rfl⟩, h'⟩
  · have atom : ∀ (y : X) (st : St) (k : St → Bool → R α), ((match decAtom st.pc y with
        | some b => k st b
        | none => .br y (k { st with pc := (y, true) :: st.pc } true) (k { st with pc := (y, false) :: st.pc } false)) : R α).sel ρ = some a →
        ∃ st' b, st'.h = st.h ∧ st'.n = st.n ∧ (k st' b).sel ρ = some a := by
      intro y st k h
      split at h
      · exact ⟨_, _, rfl, rfl, h⟩
      · simp only [R.sel] at h
        split at h
        · exact ⟨{ st with pc := (y, true) :: st.pc }, true, rfl, rfl, h⟩
        · exact ⟨{ st with pc := (y, false) :: st.pc }, false, rfl, rfl, h⟩
    have key : ∀ (x : X) (st : St) (k : St → Bool → R α), (split st x k).sel ρ = some a → ∃ st' b, st'.h = st.h ∧ st'.n = st.n ∧ (k st' b).sel ρ = some a := by
      intro x
      induction x with
      | lit n => intro st k h; exact ⟨st, _, rfl, rfl, h⟩
      | not y ih => intro st k h; obtain ⟨st', b, h1, h2, h3⟩ := ih st (fun st b => k st !b) h; exact ⟨st', _, h1, h2, h3⟩
      | ite c x y ic ix iy =>
        intro st k h
        obtain ⟨st', b, h1, h2, h3⟩ := ic st _ h
        cases b with
        | true => obtain ⟨s2, b2, h4, h5, h6⟩ := ix st' k h3; exact ⟨s2, b2, h4.trans h1, h5.trans h2, h6⟩
        | false => obtain ⟨s2, b2, h4, h5, h6⟩ := iy st' k h3; exact ⟨s2, b2, h4.trans h1, h5.trans h2, h6⟩
      | _ => intro st k h; exact atom _ st k h
    obtain ⟨st', b, h1, h2, h3⟩ := key x st k h
    exact ⟨st', b, h1, h2, fun h => absurd h hp, h3⟩
theorem findEntry_raw {α : Type} {key : V} {a : α} {k : St → Option (Nat × V) → R α} : ∀ (es : List (V × V)) (i : Nat) (st : St), (findEntry st key es i k).sel ρ = some a →
    ∃ st' r, st'.h = st.h ∧ st'.n = st.n ∧ (k st' r).sel ρ = some a
  | [], i, st, h => ⟨st, none, rfl, rfl, h⟩
  | (key', v) :: es, i, st, h => by
    simp only [findEntry] at h
    have go : ∀ x, (split st x fun st is => if is then k st (some (i, v)) else findEntry st key es (i + 1) k).sel ρ = some a → ∃ st' r, st'.h = st.h ∧ st'.n = st.n ∧ (k st' r).sel ρ = some a := by
      intro x hx
      obtain ⟨st1, b, h1, h2, _, h3⟩ := split_raw x hx
      cases b with
      | true => exact ⟨st1, _, h1, h2, h3⟩
      | false =>
        obtain ⟨st2, r, h4, h5, h6⟩ := findEntry_raw es (i + 1) st1 h3
        exact ⟨st2, r, h4.trans h1, h5.trans h2, h6⟩
    split at h
    · split at h
      · exact go _ h
      · simp [R.sel] at h
    · exact go _ h
    · exact go _ h
    · simp [R.sel] at h
theorem okv_raw {st st' : St} {v : V} {r : OR} (h : (okv st v).sel ρ = some (r, st')) : st' = st := by
  simp only [okv, R.sel, Option.some.injEq, Prod.mk.injEq] at h
  exact h.2.symm
theorem optv_raw {st st' : St} {v : Option V} {s : String} {r : OR} (h : (optv st v s).sel ρ = some (r, st')) : st' = st := by
  unfold optv at h
  split at h
  · simp only [R.sel, Option.some.injEq, Prod.mk.injEq] at h
    exact h.2.symm
  · simp [R.sel] at h
theorem lookupFin_raw {ed : TD} {ok : Bool} {st st' : St} {x : Option (Nat × V)} {r : OR} (h : (lookupFin ed ok st x).sel ρ = some (r, st')) : st' = st := by
  unfold lookupFin at h
  split at h
  · exact okv_raw h
  · exact okv_raw h
  · split at h
    · exact okv_raw h
    · simp [R.sel] at h
  · split at h
    · exact okv_raw h
    · simp [R.sel] at h
theorem splitV_raw {α : Type} {a : α} : ∀ (n : Nat) (st : St) (v : V) (k : St → V → R α), (splitV n st v k).sel ρ = some a → ∃ st' v', st'.h = st.h ∧ st'.n = st.n ∧ (k st' v').sel ρ = some a
  | 0, st, v, k, h => ⟨st, v, rfl, rfl, h⟩
  | n + 1, st, v, k, h => by
    unfold splitV at h
    split at h
    · obtain ⟨st1, b, h1, h2, _, h3⟩ := split_raw _ h
      cases b with
      | true =>
        obtain ⟨st2, v2, h4, h5, h6⟩ := splitV_raw n _ _ _ h3
        exact ⟨st2, v2, h4.trans h1, h5.trans h2, h6⟩
      | false =>
        obtain ⟨st2, v2, h4, h5, h6⟩ := splitV_raw n _ _ _ h3
        exact ⟨st2, v2, h4.trans h1, h5.trans h2, h6⟩
    · exact ⟨st, v, rfl, rfl, h⟩
theorem resolveV_raw {r0 r : OR} {st st' : St} (h : (resolveV r0 st).sel ρ = some (r, st')) : st'.h = st.h ∧ st'.n = st.n := by
  unfold resolveV at h
  split at h
  · obtain ⟨st1, v1, h1, h2, h3⟩ := splitV_raw _ _ _ _ h
    simp only [R.sel, Option.some.injEq, Prod.mk.injEq] at h3
    rw [← h3.2]
    exact ⟨h1, h2⟩
  · simp only [R.sel, Option.some.injEq, Prod.mk.injEq] at h
    rw [← h.2]
    exact ⟨rfl, rfl⟩
theorem ranged_raw {α : Type} {i : X} {n : Nat} {k : St → R α} {a : α} {st : St} (h : (ranged st i n k).sel ρ = some a) : ∃ st', st'.h = st.h ∧ st'.n = st.n ∧ (k st').sel ρ = some a := by
  unfold ranged at h
  obtain ⟨st1, b, h1, h2, _, h3⟩ := split_raw _ h
  split at h3
  · simp [R.sel] at h3
  · obtain ⟨st2, b2, h4, h5, _, h6⟩ := split_raw _ h3
    split at h6
    · simp [R.sel] at h6
    · exact ⟨st2, h4.trans h1, h5.trans h2, h6⟩
/-- A reader leaves the memory as it is. -/
theorem read_stays {tm : List V} {st st' : St} {o : Oper} {r : OR} (hk : kindOf o.op = 2) (h : (evOp cx tm st o).sel ρ = some (r, st')) : st'.h = st.h ∧ st'.n = st.n := by
  unfold evOp at h
  obtain ⟨⟨r0, st0⟩, h, h2⟩ := sel_bind h
  have hres := resolveV_raw h2
  suffices st0.h = st.h ∧ st0.n = st.n from ⟨hres.1.trans this.1, hres.2.trans this.2⟩
  clear h2 hres
  unfold evOp0 at h
  cases ho : o.op <;> rw [ho] at h hk <;> (first | (exfalso; simp [kindOf] at hk; done) | skip) <;> dsimp only [kindOf] at h hk
  case load t a =>
    unfold oLoad at h
    split at h
    · split at h
      · split at h
        · obtain ⟨st1, h1, h2, h3⟩ := ranged_raw h
          rw [optv_raw h3]
          exact ⟨h1, h2⟩
        · simp [R.sel] at h
      · simp [R.sel] at h
    · split at h
      · split at h
        · rw [okv_raw h]; exact ⟨rfl, rfl⟩
        · split at h
          · rw [okv_raw h]; exact ⟨rfl, rfl⟩
          · simp [R.sel] at h
      · simp [R.sel] at h
    · split at h
      · split at h
        · rw [okv_raw h]; exact ⟨rfl, rfl⟩
        · split at h
          · rw [okv_raw h]; exact ⟨rfl, rfl⟩
          · simp [R.sel] at h
      · simp [R.sel] at h
    · simp [R.sel] at h
  case lookup t x ix ok =>
    unfold oLookup at h
    split at h
    · unfold evLookup at h
      split at h
      · split at h
        · split at h
          · split at h
            · split at h
              · rw [lookupFin_raw h]; exact ⟨rfl, rfl⟩
              · split at h
                · obtain ⟨st1, r1, h1, h2, h3⟩ := findEntry_raw _ _ _ h
                  rw [lookupFin_raw h3]
                  exact ⟨h1, h2⟩
                · simp [R.sel] at h
              · simp [R.sel] at h
            · simp [R.sel] at h
          · simp [R.sel] at h
        · simp [R.sel] at h
      · simp [R.sel] at h
    · simp [R.sel] at h
  case call c =>
    unfold oCall at h
    split at hk
    · rename_i hc
      rw [hc] at h
      dsimp only at h
      split at h
      · unfold evBuiltin at h
        dsimp only at h
        unfold evLen at h
        split at h
        · split at h
          · split at h
            · rw [okv_raw h]; exact ⟨rfl, rfl⟩
            · rw [okv_raw h]; exact ⟨rfl, rfl⟩
            · split at h
              · split at h
                · rw [okv_raw h]; exact ⟨rfl, rfl⟩
                · simp [R.sel] at h
              · simp [R.sel] at h
            · rw [okv_raw h]; exact ⟨rfl, rfl⟩
            · rw [okv_raw h]; exact ⟨rfl, rfl⟩
            · obtain ⟨st1, b, h1, h2, _, h3⟩ := split_raw _ h
              cases b with
              | true => rw [okv_raw h3]; exact ⟨h1, h2⟩
              | false => simp [R.sel] at h3
            · rw [okv_raw h]; exact ⟨rfl, rfl⟩
            · split at h
              · rw [okv_raw h]; exact ⟨rfl, rfl⟩
              · simp [R.sel] at h
            · simp [R.sel] at h
          · simp [R.sel] at h
        · simp [R.sel] at h
      · simp [R.sel] at h
    · simp at hk
    · simp at hk
    · simp at hk
end
end Go.Proofs.YtcachlbljjpjdaaGreatDoor
