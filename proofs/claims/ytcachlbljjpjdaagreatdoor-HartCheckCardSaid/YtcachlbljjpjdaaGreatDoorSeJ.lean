/- Symbolic execution, part 19: leaving, calls, code; the evaluator is sound where drawn regions are. No condition. -/
import Derived.Test.YtcachlbljjpjdaaGreatDoorSeI
import Derived.Scope
namespace Go.Proofs.YtcachlbljjpjdaaGreatDoor
open Go

section
variable {P : Program} {cx : Cx} {ρ : Env}
/-- How one result is read. -/
def resSem (tc : List Value) (r : ResultVar) : Sem Value :=
  match r with
  | .tmp t => pure (tc.toArray.getD t undef)
  | .cell a t => do loadVar t (← asAddr (tc.toArray.getD a undef))
theorem results_is {fn : Func} {tc : List Value} : results fn tc.toArray = ((fn.results.mapM (resSem tc)) >>= fun vs => pure (if h : vs.size = 1 then vs[0] else Value.tuple vs)) := by
  have : resSem tc = (fun r => match r with
    | .tmp t => (pure (tc.toArray.getD t undef) : Sem Value)
    | .cell a t => do loadVar t (← asAddr (tc.toArray.getD a undef))) := by
    funext r
    cases r <;> rfl
  rw [this]
  rfl
theorem result_ok (htt : TOk P cx.tt) {S : Nat → Prop} {π0 : Pl} {h : H} {w : World} (at0 : At ρ S π0 h w) {tm : List V} {tc : List Value} (ht : SaysL ρ S π0 tm tc) {r : ResultVar} {v : V} (e : resultV cx tm h r = some v) :
    ∃ c, (resSem tc r).run P w = Result.ok c w ∧ Says ρ S π0 v c := by
  unfold resultV at e
  cases r with
  | tmp t =>
    simp only [nth_eq] at e
    refine ⟨tc.toArray.getD t undef, rfl, fun π hk => ?_⟩
    have := ht π hk
    subst this
    split at e
    · rename_i u hu
      simp only [Option.some.injEq] at e
      subst e
      simp [Array.getD_eq_getD_getElem?, concs_get, hu]
    · rename_i hu
      simp only [Option.some.injEq] at e
      subst e
      simp [Array.getD_eq_getD_getElem?, concs_get, hu, V.conc, V.concs, undef]
  | cell a t =>
    simp only [nth_eq] at e
    split at e
    · rename_i td b off htd ha
      split at e
      · rename_i cs hcs
        have hk := htt t td htd
        have addr : ∀ π, Known S π π0 → tc.toArray.getD a undef = .pointer (some ⟨(π b).1, off, none⟩) := by
          intro π hk
          rw [← ht π hk]
          simp [Array.getD_eq_getD_getElem?, concs_get, ha, V.conc]
        have run : ∀ π, Known S π π0 → (do loadVar t (← asAddr (tc.toArray.getD a undef)) : Sem Value).run P w = .ok (v.conc ρ π) w := by
          intro π hp
          rw [addr π hp]
          obtain ⟨h1, h2⟩ := load_var (P := P) (at0.rep π hp) hk hcs
          simp only [asAddr, pure_bind]
          cases hag : td.agg with
          | true =>
            rw [hag] at e
            simp only [if_true, Option.some.injEq] at e
            subst e
            exact h1 hag
          | false =>
            rw [hag] at e
            simp only [Bool.false_eq_true, if_false] at e
            split at e
            · simp only [Option.some.injEq] at e
              subst e
              exact h2 hag _ rfl
            · simp at e
        refine ⟨v.conc ρ π0, run π0 fun _ _ => rfl, fun π hp => ?_⟩
        have e1 := run π hp
        rw [run π0 fun _ _ => rfl] at e1
        injection e1 with e1 _
        exact e1.symm
      · simp at e
    · simp at e
theorem results_ok (htt : TOk P cx.tt) {S : Nat → Prop} {π0 : Pl} {h : H} {w : World} (at0 : At ρ S π0 h w) {tm : List V} {tc : List Value} (ht : SaysL ρ S π0 tm tc) : ∀ (rs : List ResultVar) (vs : List V), resultsV cx tm h rs = some vs →
    ∃ cs : List Value, (rs.mapM (resSem tc)).run P w = Result.ok cs w ∧ SaysL ρ S π0 vs cs
  | [], vs, e => by
    simp only [resultsV, Option.some.injEq] at e
    subst e
    exact ⟨[], by simp, fun _ _ => rfl⟩
  | r :: rs, vs, e => by
    simp only [resultsV] at e
    split at e
    · rename_i v us e1 e2
      simp only [Option.some.injEq] at e
      subst e
      obtain ⟨c, h1, h2⟩ := result_ok (P := P) htt at0 ht e1
      obtain ⟨cs, h3, h4⟩ := results_ok htt at0 ht rs us e2
      refine ⟨c :: cs, ?_, fun π hk => by rw [V.concs, h2 π hk, h4 π hk]⟩
      rw [List.mapM_cons, Sem.run_bind, h1, Result.andThen_ok, Sem.run_bind, h3, Result.andThen_ok]
      rfl
    · simp at e
theorem resultOf_ok (htt : TOk P cx.tt) {S : Nat → Prop} {π0 : Pl} {h : H} {w : World} (at0 : At ρ S π0 h w) {tm : List V} {tc : List Value} (ht : SaysL ρ S π0 tm tc) {fn : Func} {v : V} (e : resultOf cx fn tm h = some v) :
    ∃ c, (results fn tc.toArray).run P w = .ok c w ∧ Says ρ S π0 v c := by
  unfold resultOf at e
  have key : ∀ vs, resultsV cx tm h fn.results.toList = some vs → ∃ cs : List Value, (fn.results.mapM (resSem tc)).run P w = Result.ok cs.toArray w ∧ SaysL ρ S π0 vs cs := by
    intro vs hvs
    obtain ⟨cs, h1, h2⟩ := results_ok (P := P) htt at0 ht _ vs hvs
    refine ⟨cs, ?_, h2⟩
    rw [Array.mapM_eq_mapM_toList, Sem.run_map, h1]
    rfl
  split at e
  · rename_i u hu
    simp only [Option.some.injEq] at e
    subst e
    obtain ⟨cs, h1, h2⟩ := key _ hu
    have hcs : cs = [u.conc ρ π0] := (h2 π0 fun _ _ => rfl).symm
    subst hcs
    refine ⟨u.conc ρ π0, ?_, fun π hk => ?_⟩
    · rw [results_is, Sem.run_bind, h1]
      rfl
    · have := h2 π hk
      simpa [V.concs] using this
  · rename_i vs hns hu
    simp only [Option.some.injEq] at e
    subst e
    obtain ⟨cs, h1, h2⟩ := key _ hu
    have hlen : cs.length = vs.length := by rw [← h2 π0 fun _ _ => rfl, concs_len]
    refine ⟨.tuple cs.toArray, ?_, fun π hk => by simp [V.conc, h2 π hk]⟩
    rw [results_is, Sem.run_bind, h1, Result.andThen_ok]
    have : ¬ cs.toArray.size = 1 := by
      simp only [List.size_toArray, hlen]
      intro h1
      match vs, h1 with
      | [x], _ => exact hns x rfl
    rw [dif_neg this]
    rfl
  · simp at e
/-- What the frame that leaves is about. -/
def ModeIs (ρ : Env) (S : Nat → Prop) (π0 : Pl) : Option V → FrameMode → Prop
  | none, u => u = .returning
  | some v, u => ∃ c, u = .panicking [{ v := c, recovered := false }] ∧ Says ρ S π0 v c
/-- What is asked of what is told of a deferred function. -/
def DefAt (P : Program) (cx : Cx) (ρ : Env) (g : FuncId) (s : List V → St → Option V → R (Option V × St)) : Prop :=
  (∃ fn body, P.funcs[g]? = some fn ∧ fn.body = some body ∧ fn.name ≠ "runtime.NumGoroutine") ∧ ∀ args st e e' st', (s args st e).sel ρ = some (e', st') → ∀ S π0 w ac u n, Here cx ρ S π0 st w → SaysL ρ S π0 args ac → ModeIs ρ S π0 e u →
    CallsDIn Fence.wide n P g ac.toArray u w fun en u' w' => (∃ c, en = .returned c) ∧ PcOk ρ st'.pc ∧ ∃ π1, Goes ρ S π0 st.h w st.n π1 st'.h w' st'.n ∧ ModeIs ρ (Ext S st.n st'.n) π1 e' (settle u')
/-- What summaries are asked for. -/
structure SumOk (P : Program) (cx : Cx) (ρ : Env) : Prop where
  sum : ∀ f s, cx.sm f = some s → ∀ args st v st', (s args st).sel ρ = some (v, st') → ∀ S π0 w ac n, Here cx ρ S π0 st w → SaysL ρ S π0 args ac →
    CallsIn Fence.wide n P f ac.toArray w (EPost ρ S π0 st w (.ret v, st'))
  dm : ∀ g s, cx.dm g = some s → DefAt P cx ρ g s
theorem leave_ok (htt : TOk P cx.tt) (hsm : SumOk P cx ρ) {fn : Func} {n : Nat} {tm : List V} {tc : List Value} {res : En × St} : ∀ (df : List SDef) (e : Option V) (st : St) (S : Nat → Prop) (π0 : Pl) (w : World) (dc : List Deferred),
    (leave cx fn tm e df st).sel ρ = some res → Here cx ρ S π0 st w → SaysL ρ S π0 tm tc → SaysD ρ S π0 df dc → ∀ (u : FrameMode), ModeIs ρ S π0 e u →
    ∀ (Q : Ending → World → Prop), (∀ e' w', EPost ρ S π0 st w res e' w' → Q e' w') → LeavesInM Fence.wide n P fn tc.toArray Q dc u w
  | [], e, st, S, π0, w, dc, he, h, ht, hd, u, hu, Q, hQ => by
    obtain rfl : dc = [] := (hd π0 fun _ _ => rfl).symm
    simp only [leave] at he
    split at he
    · obtain rfl : u = .returning := hu
      split at he
      · rename_i v hv
        simp only [R.sel, Option.some.injEq] at he
        subst he
        obtain ⟨c, h1, h2⟩ := resultOf_ok (P := P) htt h.at_ ht hv
        exact ⟨c, h1, hQ _ _ ⟨h.pc, π0, Goes.refl h.at_ _, c, rfl, by rw [Ext.same_eq]; exact h2⟩⟩
      · simp [R.sel] at he
    · rename_i v
      obtain ⟨c, rfl, hv⟩ := hu
      simp only [R.sel, Option.some.injEq] at he
      subst he
      exact hQ _ _ ⟨h.pc, π0, Goes.refl h.at_ _, c, rfl, by rw [Ext.same_eq]; exact hv⟩
  | .mark b :: df, e, st, S, π0, w, dc, he, h, ht, hd, u, hu, Q, hQ => by
    have hdc := hd π0 fun _ _ => rfl
    simp only [List.map_cons, SDef.conc] at hdc
    subst hdc
    simp only [leave] at he
    split at he
    · rename_i hb
      obtain ⟨ob, h1, h2⟩ := (h.at_.rep π0 fun _ _ => rfl).obj b _ hb
      have h2' : ob = .deferred (some []) := h2
      subst h2'
      have gt := goes_turn (ρ := ρ) st.n h.at_ hb (o' := .deferred none) (ob := .deferred none) (fun π hk => rfl)
      have hrun : (Instr.takeDeferred (π0 b).1).run P w = .ok [] { w with heap := w.heap.setIfInBounds (π0 b).1 (.deferred none) } := by
        simp [Instr.takeDeferred, getObj, setObj, Sem.run, h1]
      have hne : u ≠ .run := by
        cases e with
        | none => rw [show u = .returning from hu]; simp
        | some v => obtain ⟨c, rfl, _⟩ := hu; simp
      refine ⟨hne, .inl ⟨_, _, rfl, hrun, ?_⟩⟩
      have h3 := h.go (st1 := { st with h := st.h.set b (.deferred none) }) gt h.pc
      simp only [Ext.same_eq] at h3
      refine leave_ok htt hsm df e _ S π0 _ _ he h3 ht ?_ u hu Q ?_
      · intro π hk
        have := hd π hk
        simp only [List.map_cons, List.cons.injEq] at this
        exact this.2
      · intro e' w' hp
        have := EPost.trans (st := st) (st1 := { st with h := st.h.set b (.deferred none) }) gt (by simp only [Ext.same_eq]; exact hp)
        exact hQ _ _ this
    · simp [R.sel] at he
  | .fn f cap args :: df, e, st, S, π0, w, dc, he, h, ht, hd, u, hu, Q, hQ => by
    have hdc := hd π0 fun _ _ => rfl
    simp only [List.map_cons, SDef.conc] at hdc
    subst hdc
    simp only [leave] at he
    split at he
    · rename_i g
      split at he
      · rename_i s hs
        obtain ⟨⟨e1, st1⟩, h1, h2⟩ := sel_bind he
        obtain ⟨⟨fn', body, hf, hb, hname⟩, hD⟩ := hsm.dm g s hs
        have ha : SaysL ρ S π0 (args ++ cap) (V.concs ρ π0 args ++ V.concs ρ π0 cap) := by
          intro π hk
          have := hd π hk
          simp only [List.map_cons, List.cons.injEq, SDef.conc, Deferred.mk.injEq, Target.fn.injEq, true_and, Array.mk.injEq] at this
          obtain ⟨⟨e3, e4⟩, _⟩ := this
          rw [concs_map, List.map_append, ← concs_map, ← concs_map]
          rw [e3, e4]
        have hne : u ≠ .run := by
          cases e with
          | none => rw [show u = .returning from hu]; simp
          | some v => obtain ⟨c, rfl, _⟩ := hu; simp
        have hinv : (invoke (.fn (.func g) (V.concs ρ π0 cap).toArray) (V.concs ρ π0 args).toArray).run P w = .ok (.enter g (V.concs ρ π0 args ++ V.concs ρ π0 cap).toArray) w := by
          simp [invoke, callFunc, program, Sem.run, hf, hb, hname]
        refine ⟨hne, .inr ⟨fun hd => by simp [Fence.wide] at hd, _, _, _, _, rfl, hinv, fun _ _ => trivial, ?_⟩⟩
        have hc := hD _ _ _ _ _ h1 S π0 w _ u (n - 1) h ha hu
        refine CallsDIn.mono hc ?_
        rintro en u' w' ⟨⟨c, rfl⟩, hpc, π1, gg, hm⟩
        have h3 := h.go gg hpc
        refine leave_ok htt hsm df e1 st1 _ π1 w' _ h2 h3 (ht.go gg.known fun _ => .inl) ?_ _ hm Q ?_
        · intro π hk
          have := hd π fun i hi => (hk i (.inl hi)).trans (gg.known i hi)
          simp only [List.map_cons, List.cons.injEq] at this
          exact this.2
        · intro e' w'' hp
          exact hQ _ _ (EPost.trans gg hp)
      · simp [R.sel] at he
    · simp [R.sel] at he
theorem call_ok (htt : TOk P cx.tt) (hft : FOk P cx.ft) (hsm : SumOk P cx ρ) {self : Self} (hcode : CodeOk P cx ρ self.code) : CallOk P cx ρ (evCall cx self) := by
  intro f args st res e S π0 w ac n h hargs _
  unfold evCall at e
  split at e
  · rename_i s hs
    obtain ⟨⟨v, st1⟩, e1, e2⟩ := sel_bind e
    simp only [R.sel, Option.some.injEq] at e2
    subst e2
    exact hsm.sum f s hs args st v st1 e1 S π0 w ac n h hargs
  · split at e
    · simp [R.sel] at e
    · rename_i fn hfn
      obtain ⟨hf1, hf2, hf3⟩ := hft f fn hfn
      split at e
      · simp [R.sel] at e
      · rename_i body hbody
        obtain ⟨⟨ex, fr1, st1⟩, e1, e2⟩ := sel_bind e
        refine callsIn_of_wp_marks (F := Fence.wide) hf1 hbody trivial ?_
        have hlen : ac.length = args.length := by rw [← hargs π0 fun _ _ => rfl, concs_len]
        have htm : ac.toArray ++ Array.replicate (fn.ntmps - ac.toArray.size) undef = (ac ++ List.replicate (fn.ntmps - args.length) undef).toArray := by
          simp [hlen]
        have hf0 : FrIs ρ S π0 { tm := args ++ List.replicate (fn.ntmps - args.length) .undef, df := [] } { tmps := ac.toArray ++ Array.replicate (fn.ntmps - ac.toArray.size) undef, defers := [] } := by
          refine ⟨_, htm, hargs.append ?_, fun π hk => rfl⟩
          intro π hk
          rw [concs_map, List.map_replicate]
          rfl
        have hc := hcode none body _ st _ e1 S π0 w _ none n h hf0 trivial
        refine wpIn_mono (F := FN none) hc ?_
        rintro e' a1 w1 ⟨hpc1, π1, g1, hex, hf1'⟩
        simp only at hpc1 g1 hex hf1' e2
        have h1 := h.go g1 hpc1
        cases ex with
        | normal =>
          obtain ⟨tc, ht1, ht2, ht3⟩ : FrIs ρ _ _ _ _ := hf1'
          obtain rfl : e' = .normal := hex
          show LeavesInM _ _ _ _ _ _ _ _ _
          rw [ht1]
          exact leave_ok htt hsm _ none st1 _ π1 w1 _ e2 h1 ht2 ht3 .returning rfl _ fun e' w' hp => hp.trans g1
        | ret =>
          obtain ⟨tc, ht1, ht2, ht3⟩ : FrIs ρ _ _ _ _ := hf1'
          obtain rfl : e' = .ret := hex
          show LeavesInM _ _ _ _ _ _ _ _ _
          rw [ht1]
          exact leave_ok htt hsm _ none st1 _ π1 w1 _ e2 h1 ht2 ht3 .returning rfl _ fun e' w' hp => hp.trans g1
        | panic v =>
          obtain ⟨tc, ht1, ht2, ht3⟩ : FrIs ρ _ _ _ _ := hf1'
          obtain ⟨c, rfl, hv⟩ := hex
          show LeavesInM _ _ _ _ _ _ _ _ _
          rw [ht1]
          exact leave_ok htt hsm _ (some _) st1 _ π1 w1 _ e2 h1 ht2 ht3 _ ⟨c, rfl, hv⟩ _ fun e' w' hp => hp.trans g1
        | die v =>
          obtain ⟨c, rfl, hv⟩ := hex
          dsimp only at e2
          split at e2
          · rename_i hdf
            simp only [R.sel, Option.some.injEq] at e2
            subst e2
            have hd : a1.defers = [] := hf1' hdf
            show LeavesInM _ _ _ _ _ _ _ _ _
            rw [hd]
            exact ⟨hpc1, π1, g1, c, rfl, hv⟩
          · simp [R.sel] at e2
        | exit id => simp [R.sel] at e2
theorem wpIn_scope {F : Fence} {n : Nat} {c : Code} {Q : Exit → Act → World → Prop} {a : Act} {w : World} (h : c.wpIn F n P (Exit.noGoto Q) a w) : (Code.scope c).wpIn F n P Q a w := by
  intro b k cs hro hb hr
  have h0 : (lone (b.atR a (.code (.scope c) :: k)) cs w).fenced P F := fenced_calm hb hr rfl
  have s1 : step P (lone (b.atR a (.code (.scope c) :: k)) cs w) = .next (lone (b.atR a (.code c :: .inScope c :: k)) cs w) := step_lone_go (by simp [stepG, stepG.exec, Frame.atR])
  have s2 : ∀ a w, step P (lone (b.atR a (.inScope c :: k)) cs w) = .next (lone (b.atR a k) cs w) := fun a w => step_lone_go (by simp [stepG, stepG.exec, Frame.atR])
  obtain ⟨e, a₁, w₁, hq, harr⟩ := h b (.inScope c :: k) cs hro hb hr
  cases e with
  | normal => exact ⟨.normal, a₁, w₁, hq, .head h0 s1 (StepsIn.trans harr (.one (fenced_calm hb hr rfl) (s2 a₁ w₁)))⟩
  | exit id =>
    have hx : exitTo id (.inScope c :: k) = exitTo id k := by simp [exitTo]
    exact ⟨.exit id, a₁, w₁, hq, fun k' hk => .head h0 s1 (harr.1 k' (by rw [hx]; exact hk)), fun hr' hk => let ⟨k₁, h1, h2⟩ := harr.2 hr' (by rw [hx]; exact hk); ⟨k₁, h1, .head h0 s1 h2⟩⟩
  | goto l => exact hq.elim
  | ret => exact ⟨_, a₁, w₁, hq, ArrivesIn.of_steps (b := b) (k := k) (cs := cs) (.one h0 s1) harr⟩
  | panic ch => exact ⟨_, a₁, w₁, hq, ArrivesIn.of_steps (b := b) (k := k) (cs := cs) (.one h0 s1) harr⟩
  | outgrown => exact ⟨_, a₁, w₁, hq, ArrivesIn.of_steps (b := b) (k := k) (cs := cs) (.one h0 s1) harr⟩
/-- What drawn regions are asked for. -/
def DrawOk (P : Program) (cx : Cx) (ρ : Env) (self : Self) : Prop :=
  ∀ (rnd ro : Option Nat) (id : Nat) (ops : Array Oper) (fr : Fr) (st : St) (res : Ex × Fr × St), drawOk ops.toList = true →
    (drawn cx self ops.toList (befs ops.toList []) fr st).sel ρ = some res →
    ∀ (S : Nat → Prop) (π0 : Pl) (w : World) (a : Act) (n : Nat), Here cx ρ S π0 st w → FrIs ρ S π0 fr a → RndOk S π0 rnd ro →
      (Code.region id ops true).wpIn (FN ro) n P (CPost ρ S π0 st w res) a w
theorem code_ok (htt : TOk P cx.tt) (hft : FOk P cx.ft) {self : Self} {m : Nat} (hcode : CodeOk P cx ρ self.code) (hloop : LoopOk P cx ρ m self.loop) (hcall : CallOk P cx ρ self.call) (hdraw : DrawOk P cx ρ self) : CodeOk P cx ρ (evCode cx self) := by
  have hround := round_ok hcode
  intro rnd c fr st res e S π0 w a ro n h hf hr
  unfold evCode at e
  split at e
  · simp only [R.sel, Option.some.injEq] at e
    subst e
    exact wpIn_skip ⟨h.pc, π0, Goes.refl h.at_ _, rfl, by rw [Ext.same_eq]; exact hf⟩
  · simp only [R.sel, Option.some.injEq] at e
    subst e
    exact wpIn_label ⟨h.pc, π0, Goes.refl h.at_ _, rfl, by rw [Ext.same_eq]; exact hf⟩
  · simp only [R.sel, Option.some.injEq] at e
    subst e
    exact wpIn_exit ⟨h.pc, π0, Goes.refl h.at_ _, rfl, by rw [Ext.same_eq]; exact hf⟩
  · simp only [R.sel, Option.some.injEq] at e
    subst e
    exact wpIn_ret ⟨h.pc, π0, Goes.refl h.at_ _, rfl, by rw [Ext.same_eq]; exact hf⟩
  · obtain ⟨⟨ex, fr1, st1⟩, e1, e2⟩ := sel_bind e
    refine wpIn_seq (wpIn_mono (hcode rnd _ fr st _ e1 S π0 w a ro n h hf hr) ?_)
    rintro e' a1 w1 hp
    have hp' := hp
    obtain ⟨hpc1, π1, g1, hex, hf1⟩ := hp
    simp only at hpc1 g1 hex hf1 e2
    cases ex with
    | normal =>
      obtain rfl : e' = .normal := hex
      exact wpIn_mono (hcode rnd _ fr1 st1 _ e2 _ π1 w1 a1 ro n (h.go g1 hpc1) hf1 (hr.go g1)) fun e a w hp => hp.trans g1
    | exit id =>
      obtain rfl : e' = .exit id := hex
      simp only [R.sel, Option.some.injEq] at e2
      subst e2
      exact hp'
    | ret =>
      obtain rfl : e' = .ret := hex
      simp only [R.sel, Option.some.injEq] at e2
      subst e2
      exact hp'
    | panic v =>
      obtain ⟨cc, rfl, hv⟩ := hex
      simp only [R.sel, Option.some.injEq] at e2
      subst e2
      exact hp'
    | die v =>
      obtain ⟨cc, rfl, hv⟩ := hex
      simp only [R.sel, Option.some.injEq] at e2
      subst e2
      exact hp'
  · rename_i cnd x y
    split at e
    · rename_i b eb
      have hv := eval_says htt hft h hf eb
      have hev : a.eval cnd = .bool (b.tt ρ) := (hv π0 fun _ _ => rfl).symm
      obtain ⟨st1, hl, e1⟩ := split_sel h.pc e
      refine wpIn_cond hev ?_
      have h1 := h.like hl
      cases hb : b.tt ρ with
      | true =>
        rw [hb] at e1
        exact wpIn_mono (hcode rnd _ fr st1 _ e1 S π0 w a ro n h1 hf hr) fun e a w hp => hp.like hl
      | false =>
        rw [hb] at e1
        exact wpIn_mono (hcode rnd _ fr st1 _ e1 S π0 w a ro n h1 hf hr) fun e a w hp => hp.like hl
    · simp [R.sel] at e
  · rename_i id body
    obtain ⟨⟨ex, fr1, st1⟩, e1, e2⟩ := sel_bind e
    refine wpIn_block (wpIn_mono (hcode rnd _ fr st _ e1 S π0 w a ro n h hf hr) ?_)
    rintro e' a1 w1 hp
    have hp' := hp
    obtain ⟨hpc1, π1, g1, hex, hf1⟩ := hp
    simp only at hpc1 g1 hex hf1 e2
    cases ex with
    | exit i =>
      obtain rfl : e' = .exit i := hex
      simp only at e2
      split at e2
      · rename_i hi
        have hi' := Nat.eq_of_beq_eq_true hi
        subst hi'
        simp only [R.sel, Option.some.injEq] at e2
        subst e2
        simp only [Exit.inBlock, if_true]
        exact ⟨hpc1, π1, g1, rfl, hf1⟩
      · rename_i hi
        have hi' : ¬ i = id := fun e => by rw [e] at hi; simp at hi
        simp only [R.sel, Option.some.injEq] at e2
        subst e2
        simp only [Exit.inBlock, hi', if_false]
        exact hp'
    | normal =>
      obtain rfl : e' = .normal := hex
      simp only [R.sel, Option.some.injEq] at e2
      subst e2
      exact hp'
    | ret =>
      obtain rfl : e' = .ret := hex
      simp only [R.sel, Option.some.injEq] at e2
      subst e2
      exact hp'
    | panic v =>
      obtain ⟨cc, rfl, hv⟩ := hex
      simp only [R.sel, Option.some.injEq] at e2
      subst e2
      exact hp'
    | die v =>
      obtain ⟨cc, rfl, hv⟩ := hex
      simp only [R.sel, Option.some.injEq] at e2
      subst e2
      exact hp'
  · exact wpIn_loop_rounds m (hloop rnd _ fr st _ e S π0 w a ro n h hf hr)
  · refine wpIn_scope (wpIn_mono (hcode rnd _ fr st _ e S π0 w a ro n h hf hr) ?_)
    rintro e' a1 w1 hp
    cases e' with
    | goto l =>
      obtain ⟨_, _, _, hex, _⟩ := hp
      cases hx : res.1 <;> rw [hx] at hex <;> simp [ExIs] at hex
    | _ => exact hp
  · rename_i id ops draw
    split at e
    · have := ops_ok htt hft hcall hround (rnd := rnd) (ro := ro) (ops := ops) ops.toList 0 rfl fr st res e S π0 w a n h hf hr _ fun _ _ _ hp => hp
      refine wpIn_region ?_
      rw [List.range_eq_range']
      simpa using this
    · split at e
      · rename_i hd
        exact hdraw rnd ro id ops fr st res hd e S π0 w a n h hf hr
      · simp [R.sel] at e
  · exact range_ok htt hft hcode hcall e h hf hr
  · simp [R.sel] at e
theorem roundsIn_mono {F : Fence} {n : Nat} {c : Code} {Q Q' : Exit → Act → World → Prop} (hq : ∀ e a w, Q e a w → Q' e a w) : ∀ (m : Nat) (a : Act) (w : World), Code.roundsIn F n P c Q m a w → Code.roundsIn F n P c Q' m a w
  | 0, _, _, h => h
  | m + 1, a, w, h => by
    rw [roundsIn_succ] at h ⊢
    refine wpIn_mono h ?_
    intro e a1 w1 hp
    cases e with
    | normal => exact roundsIn_mono hq m a1 w1 hp
    | _ => exact hq _ _ _ hp
theorem loop_ok {self : Self} {m : Nat} (hcode : CodeOk P cx ρ self.code) (hloop : LoopOk P cx ρ m self.loop) : LoopOk P cx ρ (m + 1) (evLoop self) := by
  intro rnd c fr st res e S π0 w a ro n h hf hr
  unfold evLoop at e
  obtain ⟨⟨ex, fr1, st1⟩, e1, e2⟩ := sel_bind e
  rw [roundsIn_succ]
  refine wpIn_mono (hcode rnd _ fr st _ e1 S π0 w a ro n h hf hr) ?_
  rintro e' a1 w1 hp
  have hp' := hp
  obtain ⟨hpc1, π1, g1, hex, hf1⟩ := hp
  simp only at hpc1 g1 hex hf1 e2
  cases ex with
  | normal =>
    obtain rfl : e' = .normal := hex
    have := hloop rnd c fr1 st1 _ e2 _ π1 w1 a1 ro n (h.go g1 hpc1) hf1 (hr.go g1)
    exact roundsIn_mono (fun e a w hp => hp.trans g1) m _ _ this
  | exit id =>
    obtain rfl : e' = .exit id := hex
    simp only [R.sel, Option.some.injEq] at e2
    subst e2
    exact hp'
  | ret =>
    obtain rfl : e' = .ret := hex
    simp only [R.sel, Option.some.injEq] at e2
    subst e2
    exact hp'
  | panic v =>
    obtain ⟨cc, rfl, hv⟩ := hex
    simp only [R.sel, Option.some.injEq] at e2
    subst e2
    exact hp'
  | die v =>
    obtain ⟨cc, rfl, hv⟩ := hex
    simp only [R.sel, Option.some.injEq] at e2
    subst e2
    exact hp'
end
end Go.Proofs.YtcachlbljjpjdaaGreatDoor
