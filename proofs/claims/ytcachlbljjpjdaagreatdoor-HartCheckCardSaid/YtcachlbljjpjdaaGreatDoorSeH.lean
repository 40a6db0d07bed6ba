/- Symbolic execution, part 17: rounds, ranges over functions, leaving, calls. No condition. -/
import Derived.Test.YtcachlbljjpjdaaGreatDoorSeG
namespace Go.Proofs.YtcachlbljjpjdaaGreatDoor
open Go

section
variable {P : Program} {cx : Cx} {ρ : Env} {S : Nat → Prop} {π0 : Pl} {st : St} {w : World}
theorem goes_new {h : H} {n : Nat} (at0 : At ρ S π0 h w) (hf : ¬ S n) {o : SObj} {ob : Obj} (ho : ∀ π, Known S π π0 → (π n).1 = w.heap.size → o.is ρ π n ob) :
    ∃ π1, Goes ρ S π0 h w n π1 (h.set n o) { w with heap := w.heap.push ob } (n + 1) ∧ (π1 n).1 = w.heap.size := by
  let π1 : Pl := fun i => if i = n then (w.heap.size, 0) else π0 i
  have k1 : Known S π1 π0 := fun i hi => by
    simp only [π1]
    split
    · rename_i e; exact absurd (e ▸ hi) hf
    · rfl
  have h1 : (π1 n).1 = w.heap.size := by simp [π1]
  have mv : ∀ π, Known (Ext S n (n + 1)) π π1 → Mv ρ π h n w (h.set n o) (n + 1) { w with heap := w.heap.push ob } := by
    intro π hk
    have hk0 : Known S π π0 := fun i hi => (hk i (.inl hi)).trans (k1 i hi)
    have e : (π n).1 = w.heap.size := by rw [hk n (.inr ⟨Nat.le_refl _, by omega⟩)]; exact h1
    exact Mv.new (at0.rep π hk0) e (ho π hk0 e)
  have m1 := mv π1 fun _ _ => rfl
  refine ⟨π1, ⟨by omega, k1, ⟨fun π hk => (mv π hk).rep, fun i x hi => ?_⟩, fun i x hi => ?_, fun j hj hne => ?_, m1.size, m1.same⟩, h1⟩
  · rcases m1.dom i x hi with ⟨x0, h0⟩ | h0
    · exact .inl (at0.dom i x0 h0)
    · exact .inr h0
  · rcases m1.sub i x hi with h' | ⟨i0, x0, h0, e⟩
    · exact .inl h'
    · exact .inr ⟨i0, x0, h0, by rw [← k1 i0 (at0.dom i0 x0 h0)]; exact e⟩
  · exact m1.keep j hj fun i x hi => by rw [k1 i (at0.dom i x hi)]; exact hne i x hi
theorem goes_turn {h : H} (n : Nat) (at0 : At ρ S π0 h w) {b : Nat} {o o' : SObj} {ob : Obj} (hb : h.get b = some o) (ho : ∀ π, Known S π π0 → o'.is ρ π b ob) :
    Goes ρ S π0 h w n π0 (h.set b o') { w with heap := w.heap.setIfInBounds (π0 b).1 ob } n := by
  have mv : ∀ π, Known S π π0 → Mv ρ π h n w (h.set b o') n { w with heap := w.heap.setIfInBounds (π0 b).1 ob } := by
    intro π hk
    have := Mv.turn (at0.rep π hk) n hb (ho π hk)
    rw [hk b (at0.dom b o hb)] at this
    exact this
  have m1 := mv π0 fun _ _ => rfl
  refine ⟨Nat.le_refl _, fun _ _ => rfl, ⟨fun π hk => (mv π fun i hi => hk i (.inl hi)).rep, fun i x hi => ?_⟩, m1.sub, m1.keep, m1.size, m1.same⟩
  rcases m1.dom i x hi with ⟨x0, h0⟩ | h0
  · exact .inl (at0.dom i x0 h0)
  · exact .inr h0
/-- A loop's record in memory. -/
theorem At.loop {h : H} (at0 : At ρ S π0 h w) {l : Nat} {state : LoopState} {pending : Option Code} {tmps : List V} {params : Array Tmp} {assign body : Code} {D : Nat} (hl : h.get l = some (.loop state pending tmps params assign body D)) :
    ∃ fn, w.heap[(π0 l).1]? = some (.loop { state, pending, fn, tmps := (V.concs ρ π0 tmps).toArray, params, assign, body, defers := (π0 D).1 }) ∧
      (∀ π, Known S π π0 → V.concs ρ π tmps = V.concs ρ π0 tmps ∧ (π D).1 = (π0 D).1) := by
  obtain ⟨ob, h1, fn, rfl⟩ := (at0.rep π0 fun _ _ => rfl).obj l _ hl
  refine ⟨fn, h1, fun π hk => ?_⟩
  obtain ⟨ob2, h2, fn2, rfl⟩ := (at0.rep π hk).obj l _ hl
  rw [hk l (at0.dom l _ hl), h1] at h2
  injection h2 with h2
  injection h2 with h2
  injection h2 with _ _ _ e4 _ _ _ e8
  exact ⟨(List.toArray_inj e4).symm, e8.symm⟩
theorem run_getLoop {L : Nat} {r : Loop} (h : w.heap[L]? = some (.loop r)) : (Instr.getLoop L).run P w = .ok r w := by
  simp [Instr.getLoop, getObj, Sem.run, h]
theorem run_setLoop {L : Nat} {r r' : Loop} (h : w.heap[L]? = some (.loop r)) : (setObj L (.loop r')).run P w = .ok () { w with heap := w.heap.setIfInBounds L (.loop r') } := by
  simp [setObj, Sem.run, h]
theorem setZip_conc (ρ : Env) (π : Pl) : ∀ (ts : List Tmp) (args tm : List V), ts.length = args.length →
    V.concs ρ π (setZip tm ts args) = (ts.zip (V.concs ρ π args)).foldl (fun (t : List Value) (x : Tmp × Value) => t.set x.1 x.2) (V.concs ρ π tm)
  | [], [], tm, _ => by simp [setZip]
  | t :: ts, v :: args, tm, h => by
    simp only [setZip, V.concs, List.zip_cons_cons, List.foldl_cons]
    rw [setZip_conc ρ π ts args _ (by simpa using h)]
    congr 1
    simp only [setN_eq, concs_map, List.map_set]
  | [], _ :: _, _, h => by simp at h
  | _ :: _, [], _, h => by simp at h
theorem foldl_arr : ∀ (l : List (Tmp × Value)) (t : List Value), l.foldl (fun (tmps : Array Value) (x : Tmp × Value) => tmps.setIfInBounds x.1 x.2) t.toArray = (l.foldl (fun (t : List Value) (x : Tmp × Value) => t.set x.1 x.2) t).toArray
  | [], t => rfl
  | x :: l, t => by
    simp only [List.foldl_cons]
    rw [List.setIfInBounds_toArray, foldl_arr l]
/-- A round, out of the code within. -/
theorem round_ok {self : Self} (hcode : CodeOk P cx ρ self.code) : RoundOk P cx ρ self := by
  intro l args st res e S π0 w ac n h hargs
  unfold evRound at e
  split at e
  · rename_i state pending tmps params assign body D hl
    split at e
    · rename_i hlen
      have hlen' := Nat.eq_of_beq_eq_true hlen
      obtain ⟨fn, hw, hsame⟩ := h.at_.loop hl
      have hac : ac = V.concs ρ π0 args := (hargs π0 fun _ _ => rfl).symm
      have hSl : S l := h.at_.dom l _ hl
      refine ⟨fn, ((V.concs ρ π0 (setZip tmps params.toList args))).toArray, assign, body, ?_, ?_⟩
      · unfold Instr.yield
        rw [Sem.run_bind, run_getLoop hw, Result.andThen_ok]
        have : ¬ ac.toArray.size ≠ params.size := by
          rw [hac]; simp only [List.size_toArray, concs_len, ne_eq, Decidable.not_not]; rw [← hlen']; simp
        rw [if_neg this]
        simp only [Sem.run_pure]
        congr 3
        rw [setZip_conc ρ π0 _ _ _ hlen', ← foldl_arr, hac, ← Array.foldl_toList]
        congr 1
        simp [Array.toList_zip]
      · obtain ⟨⟨ex, fr1, st1⟩, e1, e2⟩ := sel_bind e
        refine roundIn_of_wpIn (F := Fence.wide) trivial ?_
        have hf0 : FrIs ρ S π0 { tm := setZip tmps params.toList args, df := [] } { tmps := (V.concs ρ π0 (setZip tmps params.toList args)).toArray, defers := [] } := by
          refine ⟨_, rfl, fun π hk => ?_, fun π hk => rfl⟩
          rw [setZip_conc ρ π _ _ _ hlen', setZip_conc ρ π0 _ _ _ hlen', (hsame π hk).1, hargs π hk, hargs π0 fun _ _ => rfl]
        have hc := hcode (some l) assign _ st _ e1 S π0 w _ (some (π0 l).1) n h hf0 ⟨hSl, rfl⟩
        refine wpIn_mono hc ?_
        rintro e' a1 w1 ⟨hpc1, π1, g1, hex, hf1⟩
        simp only at hpc1 g1 hex hf1
        have h1 := h.go g1 hpc1
        unfold roundBody at e2
        cases ex with
        | normal =>
          obtain rfl : e' = .normal := hex
          simp only at e2
          split at e2
          · rename_i state2 pending2 tmps2 params2 assign2 body2 D2 hl2
            split at e2
            · rename_i hst
              obtain ⟨fn2, hw2, hsame2⟩ := h1.at_.loop hl2
              have hl1 : (π1 l).1 = (π0 l).1 := by rw [g1.known l hSl]
              rw [hl1] at hw2
              have gt := goes_turn (ρ := ρ) st1.n h1.at_ hl2 (o' := .loop .busy pending2 tmps2 params2 assign2 body2 D2) (ob := .loop { state := .busy, pending := pending2, fn := fn2, tmps := (V.concs ρ π1 tmps2).toArray, params := params2, assign := assign2, body := body2, defers := (π1 D2).1 })
                (fun π hk => ⟨fn2, by rw [(hsame2 π hk).1, (hsame2 π hk).2]⟩)
              rw [hl1] at gt
              refine ⟨_, by
                unfold Instr.beginRound
                simp only [Sem.run_bind, run_getLoop hw2, Result.andThen_ok, run_setLoop hw2]
                rfl, ?_⟩
              obtain ⟨⟨ex2, fr2, st2⟩, e3, e4⟩ := sel_bind e2
              have h2 := h1.go (st1 := { st1 with h := st1.h.set l (.loop .busy pending2 tmps2 params2 assign2 body2 D2) }) gt hpc1
              have hf2 := hf1.go (st1 := { st1 with h := st1.h.set l (.loop .busy pending2 tmps2 params2 assign2 body2 D2) }) gt
              have hc2 := hcode (some l) body fr1 _ _ e3 _ π1 _ a1 (some (π0 l).1) n h2 hf2 ⟨.inl (.inl hSl), hl1⟩
              refine wpIn_mono hc2 ?_
              rintro e' a2 w2 ⟨hpc2, π2, g2, hex2, hf3⟩
              simp only [Ext.same_eq] at hpc2 g2 hex2 hf3 e4
              have g12 := (g1.trans gt).trans g2
              have h3 := h.go g12 hpc2
              unfold roundEnd at e4
              split at e4
              · rename_i hdf
                split at e4
                · rename_i state3 pending3 tmps3 params3 assign3 body3 D3 hl3
                  obtain ⟨fn3, hw3, hsame3⟩ := h3.at_.loop hl3
                  have hl2' : (π2 l).1 = (π0 l).1 := by rw [g12.known l hSl]
                  rw [hl2'] at hw3
                  -- the round's end
                  have fin : ∀ (stt : LoopState) (pend : Option Code) (bb : Bool) (xx : X), xx.tt ρ = bb →
                      R.sel ρ (.ok (En.ret (.bool xx), { st2 with h := st2.h.set l (.loop stt pend tmps3 params3 assign3 body3 D3) })) = some res →
                      ∀ (v : Value) (w' : World), v = .bool bb → w' = { w2 with heap := w2.heap.setIfInBounds (π0 l).1 (.loop { state := stt, pending := pend, fn := fn3, tmps := (V.concs ρ π2 tmps3).toArray, params := params3, assign := assign3, body := body3, defers := (π2 D3).1 }) } →
                      EPost ρ S π0 st w res (.returned v) w' := by
                    intro stt pend bb xx hxx e5 v w' hv hw'
                    simp only [R.sel, Option.some.injEq] at e5
                    subst e5 hv hw'
                    have gt2 := goes_turn (ρ := ρ) st2.n h3.at_ hl3 (o' := .loop stt pend tmps3 params3 assign3 body3 D3) (ob := .loop { state := stt, pending := pend, fn := fn3, tmps := (V.concs ρ π2 tmps3).toArray, params := params3, assign := assign3, body := body3, defers := (π2 D3).1 })
                      (fun π hk => ⟨fn3, by rw [(hsame3 π hk).1, (hsame3 π hk).2]⟩)
                    rw [hl2'] at gt2
                    exact ⟨hpc2, π2, g12.trans gt2, _, rfl, fun π hk => by simp [V.conc, hxx]⟩
                  split at e4
                  · obtain rfl : e' = .normal := hex2
                    refine ⟨.bool true, _, ?_, fin .ready none true (.lit 1) (by simp [X.tt, X.den]) e4 _ _ rfl rfl⟩
                    unfold Instr.endRound
                    simp only [Sem.run_bind, run_getLoop hw3, Result.andThen_ok, run_setLoop hw3]
                    rfl
                  · obtain rfl : e' = .ret := hex2
                    refine ⟨.bool false, _, ?_, fin .done (some .ret) false (.lit 0) (by simp [X.tt, X.den]) e4 _ _ rfl rfl⟩
                    unfold Instr.endRound
                    simp only [Sem.run_bind, run_getLoop hw3, Result.andThen_ok, run_setLoop hw3]
                    rfl
                  · rename_i id
                    obtain rfl : e' = .exit id := hex2
                    refine ⟨.bool false, _, ?_, fin .done (some (.exit id)) false (.lit 0) (by simp [X.tt, X.den]) e4 _ _ rfl rfl⟩
                    unfold Instr.endRound
                    simp only [Sem.run_bind, run_getLoop hw3, Result.andThen_ok, run_setLoop hw3]
                    rfl
                  · simp [R.sel] at e4
                  · simp [R.sel] at e4
                · simp [R.sel] at e4
              · simp [R.sel] at e4
            · simp [R.sel] at e2
          · simp [R.sel] at e2
        | exit id => simp [R.sel] at e2
        | ret => simp [R.sel] at e2
        | panic v => simp [R.sel] at e2
        | die v => simp [R.sel] at e2
    · simp [R.sel] at e
  · simp [R.sel] at e
end
end Go.Proofs.YtcachlbljjpjdaaGreatDoor
