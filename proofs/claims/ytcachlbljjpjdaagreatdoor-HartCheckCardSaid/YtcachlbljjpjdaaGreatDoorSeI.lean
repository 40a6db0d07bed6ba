/- Symbolic execution, part 18: ranges over functions; leaving; the whole evaluator but for drawn regions. No condition. -/
import Derived.Test.YtcachlbljjpjdaaGreatDoorSeH
namespace Go.Proofs.YtcachlbljjpjdaaGreatDoor
open Go

section
variable {P : Program} {cx : Cx} {ρ : Env} {S : Nat → Prop} {π0 : Pl} {st : St} {w : World}
theorem SaysL.append {l m : List V} {c d : List Value} (h : SaysL ρ S π0 l c) (h' : SaysL ρ S π0 m d) : SaysL ρ S π0 (l ++ m) (c ++ d) := fun π hk => by rw [concs_append, h π hk, h' π hk]
theorem rangePost_mono {F : Fence} {n l : Nat} {Q Q' : Exit → Act → World → Prop} {a : Act} (hq : ∀ e a w, Q e a w → Q' e a w) {e : Ending} {w : World} (h : rangePost F n P l Q a e w) : rangePost F n P l Q' a e w := by
  cases e with
  | returned v =>
    obtain ⟨jump, w4, h1, h2⟩ := h
    refine ⟨jump, w4, h1, ?_⟩
    cases jump with
    | none => exact hq _ _ _ h2
    | some c => exact wpIn_mono h2 hq
  | panicked chain => exact hq _ _ _ h
  | outgrown => obtain ⟨a0, w0, h0⟩ := h; exact ⟨a0, w0, hq _ _ _ h0⟩
theorem rangeGo_ok {self : Self} (hcode : CodeOk P cx ρ self.code) (hcall : CallOk P cx ρ self.call) {rnd ro : Option Nat} {g : FuncId} {first cap : List V} {params : Array Tmp} {assign body : Code} {tm : List V} {df : List SDef} {D : Nat} {res : Ex × Fr × St}
    (e : (rangeGo self rnd g first cap params assign body tm df D st).sel ρ = some res) {a : Act} {n : Nat} {fc cc : List Value} (h : Here cx ρ S π0 st w) (hD : ∀ π, Known S π π0 → (π D).1 = (π0 D).1) (hf : FrIs ρ S π0 { tm := tm, df := df } a) (hr : RndOk S π0 rnd ro)
    (h1 : SaysL ρ S π0 first fc) (h2 : SaysL ρ S π0 cap cc) (hg : ∃ fn, P.funcs[g]? = some fn) (fn : FuncId) :
    CallsIn (FN ro) (n - 1) P g (fc ++ Value.func (.yield w.heap.size) #[] #[] :: cc).toArray { w with heap := w.heap.push (.loop { state := .ready, pending := none, fn, tmps := a.tmps, params, assign, body, defers := (π0 D).1 }) }
      (rangePost (FN ro) n P w.heap.size (CPost ρ S π0 st w res) a) := by
  obtain ⟨tc, ht1, ht2, ht3⟩ := hf
  obtain ⟨π1, g1, hL⟩ := goes_new (ρ := ρ) (n := st.n) h.at_ (h.fresh _ (Nat.le_refl _)) (o := .loop .ready none tm params assign body D) (ob := .loop { state := .ready, pending := none, fn, tmps := a.tmps, params, assign, body, defers := (π0 D).1 })
    (fun π hk _ => ⟨fn, by rw [ht1, ht2 π hk, hD π hk]⟩)
  have hh := h.go (st1 := newObj st (.loop .ready none tm params assign body D)) g1 h.pc
  unfold rangeGo at e
  obtain ⟨⟨en, st1⟩, e1, e2⟩ := sel_bind e
  have hargs : SaysL ρ (Ext S st.n (st.n + 1)) π1 (first ++ .yield st.n :: cap) (fc ++ Value.func (.yield w.heap.size) #[] #[] :: cc) := by
    refine (h1.go g1.known fun _ => .inl).append ?_
    intro π hk
    have e3 : (π st.n).1 = w.heap.size := by rw [hk st.n (.inr ⟨Nat.le_refl _, by omega⟩)]; exact hL
    have e4 := (h2.go g1.known (S' := Ext S st.n (st.n + 1)) fun _ => .inl) π hk
    rw [V.concs, e4]
    simp [V.conc, e3]
  have hc := hcall g _ _ (en, st1) e1 _ _ _ _ (n - 1) hh hargs hg
  refine CallsIn.mono (F := FN ro) hc ?_
  rintro e' w2 ⟨hpc2, π2, g2, hen⟩
  have g12 := g1.trans g2
  have h3 := h.go g12 hpc2
  cases en with
  | panic v => simp [R.sel] at e2
  | ret v =>
    obtain ⟨c, rfl, hv⟩ := hen
    simp only at e2
    split at e2
    · rename_i state pending tmps2 params2 assign2 body2 D2 hl
      obtain ⟨fn3, hw3, hsame3⟩ := h3.at_.loop hl
      have hLn : (π2 st.n).1 = w.heap.size := by
        rw [g2.known st.n (.inr ⟨Nat.le_refl _, Nat.lt_succ_self _⟩)]; exact hL
      rw [hLn] at hw3
      split at e2
      · simp [R.sel] at e2
      · rename_i hnb
        have run_end : (Instr.endLoop w.heap.size).run P w2 = .ok pending { w2 with heap := w2.heap.setIfInBounds w.heap.size (.loop { state := .exhausted, pending := pending, fn := fn3, tmps := (V.concs ρ π2 tmps2).toArray, params := params2, assign := assign2, body := body2, defers := (π2 D2).1 }) } := by
          unfold Instr.endLoop
          rw [Sem.run_bind, run_getLoop hw3, Result.andThen_ok]
          have : (state == LoopState.busy) = false := by
            cases state <;> first | rfl | exact absurd rfl hnb
          simp only [this, Bool.false_eq_true, if_false]
          simp only [Sem.run_bind, run_setLoop hw3, Result.andThen_ok, Sem.run_pure]
        have gt := goes_turn (ρ := ρ) st1.n h3.at_ hl (o' := .loop .exhausted pending tmps2 params2 assign2 body2 D2) (ob := .loop { state := .exhausted, pending := pending, fn := fn3, tmps := (V.concs ρ π2 tmps2).toArray, params := params2, assign := assign2, body := body2, defers := (π2 D2).1 })
          (fun π hk => ⟨fn3, by rw [(hsame3 π hk).1, (hsame3 π hk).2]⟩)
        rw [hLn] at gt
        have g3 := g12.trans gt
        have hf3 : FrIs ρ (Ext S st.n st1.n) π2 { tm := tm, df := df } a := ⟨tc, ht1, ht2.go g3.known fun _ => .inl, ht3.go g3.known fun _ => .inl⟩
        split at e2
        · simp only [R.sel, Option.some.injEq] at e2
          subst e2
          exact ⟨none, _, run_end, hpc2, π2, g3, rfl, hf3⟩
        · rename_i cc2
          refine ⟨some cc2, _, run_end, ?_⟩
          have h4 := h.go (st1 := { st1 with h := st1.h.set st.n (.loop .exhausted (some cc2) tmps2 params2 assign2 body2 D2) }) g3 hpc2
          have := hcode rnd cc2 _ _ res e2 _ π2 _ a ro n h4 hf3 (hr.go (st1 := { st1 with h := st1.h.set st.n (.loop .exhausted (some cc2) tmps2 params2 assign2 body2 D2) }) g3)
          exact wpIn_mono this fun e a w' hp => hp.trans (st1 := { st1 with h := st1.h.set st.n (.loop .exhausted (some cc2) tmps2 params2 assign2 body2 D2) }) g3
    · simp [R.sel] at e2
theorem range_ok (htt : TOk P cx.tt) (hft : FOk P cx.ft) {self : Self} (hcode : CodeOk P cx ρ self.code) (hcall : CallOk P cx ρ self.call) {rnd ro : Option Nat} {f : Operand} {params : Array Tmp} {assign body : Code} {fr : Fr} {res : Ex × Fr × St}
    (e : (evRange cx self rnd f params assign body fr st).sel ρ = some res) {a : Act} {n : Nat} (h : Here cx ρ S π0 st w) (hf : FrIs ρ S π0 fr a) (hr : RndOk S π0 rnd ro) :
    (Code.rangeFunc f params assign body).wpIn (FN ro) n P (CPost ρ S π0 st w res) a w := by
  unfold evRange at e
  split at e
  · rename_i g first cap ef
    have hv := eval_says htt hft h hf ef
    split at e
    · simp [R.sel] at e
    · rename_i gfn hgf
      obtain ⟨hg1, hg2, hg3⟩ := hft g gfn hgf
      have hev : a.eval f = .func (.func g) (V.concs ρ π0 first).toArray (V.concs ρ π0 cap).toArray := (hv π0 fun _ _ => rfl).symm
      have s1 : SaysL ρ S π0 first (V.concs ρ π0 first) := fun π hk => by
        have := hv π hk
        rw [hev] at this
        simp only [V.conc] at this
        injection this with _ e2 _
        exact List.toArray_inj e2
      have s2 : SaysL ρ S π0 cap (V.concs ρ π0 cap) := fun π hk => by
        have := hv π hk
        rw [hev] at this
        simp only [V.conc] at this
        injection this with _ _ e3
        exact List.toArray_inj e3
      have hres : ∀ (L : Nat) (W : World), (resolve a.eval (rangeCall f L) 0).run P W = .ok { target := .fn (.func g) (V.concs ρ π0 cap).toArray, args := (V.concs ρ π0 first).toArray ++ #[.func (.yield L) #[] #[]] } W := by
        intro L W
        have hc : a.eval (.const (.func (.yield L) #[] #[])) = .func (.yield L) #[] #[] := rfl
        simp [resolve, hev, hc, Deferred.ofValue]
      have hinv : ∀ (L : Nat) (W : World), (invoke (.fn (.func g) (V.concs ρ π0 cap).toArray) ((V.concs ρ π0 first).toArray ++ #[.func (.yield L) #[] #[]])).run P W = .ok (.enter g (V.concs ρ π0 first ++ Value.func (.yield L) #[] #[] :: V.concs ρ π0 cap).toArray) W := by
        intro L W
        have hb2 : gfn.body.isNone = false := by
          cases hq : gfn.body with
          | none => rw [hq] at hg3; simp at hg3
          | some _ => rfl
        simp only [invoke, callFunc, program, Sem.run_bind, Sem.run, hg1, Result.andThen_ok, hg2, hb2, Bool.false_eq_true, if_false]
        simp
      refine wpIn_rangeFunc (F := FN ro) fun fn _ => ?_
      split at e
      · rename_i l
        split at e
        · rename_i st3 pend3 tm3 p3 as3 b3 D hl
          cases ro with
          | none => exact hr.elim
          | some L0 =>
            obtain ⟨hSl, hL0⟩ := hr
            obtain ⟨fn3, hw3, hsame3⟩ := h.at_.loop hl
            rw [hL0] at hw3
            have hD : ∀ π, Known S π π0 → (π D).1 = (π0 D).1 := fun π hk => (hsame3 π hk).2
            refine ⟨w.heap.size, [], { w with heap := w.heap.push (.loop { state := .ready, pending := none, fn, tmps := a.tmps, params, assign, body, defers := (π0 D).1 }) }, _, _, g, _, _, ?_, hres _ _, fun _ _ => trivial, hinv _ _, fun hd => by simp at hd, ?_⟩
            · unfold Instr.enterLoop
              simp only [Sem.run_bind, run_getLoop hw3, Result.andThen_ok, Go.newObj, Sem.run, Sem.run_pure]
            · exact rangeGo_ok hcode hcall (rnd := some l) (ro := some L0) e h hD hf ⟨hSl, hL0⟩ s1 s2 ⟨_, hg1⟩ fn
        · simp [R.sel] at e
      · have hro : ro = none := by
          cases ro with
          | none => rfl
          | some L => exact hr.elim
        subst hro
        obtain ⟨π1, g1, hD1⟩ := goes_new (ρ := ρ) (n := st.n) h.at_ (h.fresh _ (Nat.le_refl _)) (o := .deferred (some [])) (ob := .deferred (some [])) (fun π hk _ => rfl)
        have hh := h.go (st1 := newObj st (.deferred (some []))) g1 h.pc
        have hf1 : FrIs ρ (Ext S st.n (st.n + 1)) π1 { tm := fr.tm, df := .mark st.n :: fr.df } { a with defers := { target := .collected w.heap.size, args := #[] } :: a.defers } := by
          obtain ⟨tc, h1, h2, h3⟩ := hf.go (st1 := newObj st (.deferred (some []))) g1
          refine ⟨tc, h1, h2, fun π hk => ?_⟩
          have e3 : (π st.n).1 = w.heap.size := by rw [hk st.n (.inr ⟨Nat.le_refl _, by omega⟩)]; exact hD1
          have e4 := h3 π hk
          simp only [List.map_cons, SDef.conc, e3, e4]
        have hgo := rangeGo_ok hcode hcall (rnd := none) (ro := none) e (n := n) hh (fun π hk => by rw [hk st.n (.inr ⟨Nat.le_refl _, Nat.lt_succ_self _⟩)]) hf1 trivial (s1.go g1.known fun _ => .inl) (s2.go g1.known fun _ => .inl) ⟨_, hg1⟩ fn
        refine ⟨w.heap.size + 1, [{ target := .collected w.heap.size, args := #[] }], { w with heap := (w.heap.push (.deferred (some []))).push (.loop { state := .ready, pending := none, fn, tmps := a.tmps, params, assign, body, defers := w.heap.size }) }, _, _, g, _, _, ?_, hres _ _, fun _ _ => trivial, hinv _ _, fun hd => by simp at hd, ?_⟩
        · unfold Instr.enterLoop
          simp only [Sem.run_bind, Go.newObj, Sem.run, Sem.run_pure, Result.andThen_ok, Array.size_push]
        · rw [hD1] at hgo
          simp only [Array.size_push] at hgo
          refine CallsIn.mono hgo ?_
          intro e' w' hp
          exact rangePost_mono (fun e a w' hp => hp.trans (st1 := newObj st (.deferred (some []))) g1) hp
  · simp [R.sel] at e
end
end Go.Proofs.YtcachlbljjpjdaaGreatDoor
