/- Symbolic execution, part 13: map operations and builtins. No condition. -/
import Derived.Test.YtcachlbljjpjdaaGreatDoorSeC
namespace Go.Proofs.YtcachlbljjpjdaaGreatDoor
open Go

section ops
variable {P : Program} {cx : Cx} {ρ : Env} {π : Pl} {w : World} {tm : List V} {a : Act} {st st' : St} {r : OR} {o : Oper}
theorem zeroV_ok {t : TypeId} {td : TD} (hk : TDOk P t td) {z : V} (hz : zeroV td = some z) : (zeroValue t).run P w = .ok (z.conc ρ π) w := by
  obtain ⟨zv, h1, h2, h3, h4⟩ := zero_cells hk w ρ π
  unfold zeroV at hz
  cases ha : td.agg with
  | true =>
    rw [ha] at hz
    simp only [if_true, Option.some.injEq] at hz
    subst hz
    obtain ⟨l, rfl⟩ := h3 ha
    simp only [Value.cells] at h2
    simp [h1, V.conc, h2]
  | false =>
    rw [ha] at hz
    simp only [Bool.false_eq_true, if_false] at hz
    have h4' := h4 ha
    rw [h1]
    have hcell : zv.cells = #[zv] := by
      cases zv <;> first | rfl | exact absurd rfl (h4' _)
    rw [hcell] at h2
    have := congrArg (fun x : Array Value => x[0]?) h2
    simp only [List.getElem?_toArray, concs_get] at this
    rw [List.head?_eq_getElem?] at hz
    rw [hz] at this
    simpa using this
theorem RepH.mapObj {h : H} (hr : RepH ρ π h w) {b : Nat} {es : List (V × V)} (hb : h.get b = some (.map es)) :
    ∃ (ms : List MapEntry) (clock : Nat), w.heap[(π b).1]? = some (.map ms.toArray clock) ∧ (prs ms).Perm (entriesOf ρ π es) ∧ ((entriesOf ρ π es).map (·.1)).Pairwise unlike := by
  obtain ⟨ob, h1, ms, clock, rfl, h2, h3⟩ := hr.obj b _ hb
  exact ⟨ms, clock, h1, h2, h3⟩
theorem keys_pair {ms : List MapEntry} {es : List (V × V)} (h1 : (prs ms).Perm (entriesOf ρ π es)) (h2 : ((entriesOf ρ π es).map (·.1)).Pairwise unlike) : ((prs ms).map (·.1)).Pairwise unlike :=
  (h1.map (·.1)).symm.pairwise h2 fun h => unlike_symm h
theorem run_getObj_map {b : Nat} {ms : List MapEntry} {clock : Nat} (h : w.heap[b]? = some (.map ms.toArray clock)) : (getObj b).run P w = .ok (.map ms.toArray clock) w := by
  simp [getObj, Sem.run, h]
theorem lookup_fin {ed : TD} {okk : Bool} {t : TypeId} {p q : Operand} {K : Value} {M : Option Nat} (ho : o.op = .lookup t p q okk) (hp : a.eval p = .map M) (hq : a.eval q = K)
    (hr : RepH ρ π st.h w) {st1 : St} (hl : Like ρ st st1) {res : Option (Nat × V)} (h : (lookupFin ed okk st1 res).sel ρ = some (r, st'))
    (hlook : ∀ z : V, (∀ x, res = some x → z = x.2) → (res = none → zeroV ed = some z) → (Instr.lookup t (.map M) K okk).run P w = .ok (if okk then .tuple #[z.conc ρ π, .bool res.isSome] else z.conc ρ π) w) :
    OpOk P cx tm ρ π st st' w ((execOp a.eval o).run P w) r := by
  have key : ∀ u : V, (Instr.lookup t (.map M) K okk).run P w = .ok (u.conc ρ π) w → (execOp a.eval o).run P w = .ok (.value (u.conc ρ π)) w := by
    intro u hu
    simp only [execOp, ho, hp, hq, Sem.run_bind, hu, Result.andThen_ok, Sem.run_pure]
  unfold lookupFin at h
  split at h
  · refine OpOk.value hr hl h (key _ ?_)
    rw [hlook _ (fun x e => by cases e; rfl) (by simp)]
    simp [V.conc, V.concs, X.tt, X.den]
  · refine OpOk.value hr hl h (key _ ?_)
    rw [hlook _ (fun x e => by cases e; rfl) (by simp)]
    simp
  · split at h
    · rename_i z hz
      refine OpOk.value hr hl h (key _ ?_)
      rw [hlook z (by simp) (fun _ => hz)]
      simp [V.conc, V.concs, X.tt, X.den]
    · simp [R.sel] at h
  · split at h
    · rename_i z hz
      refine OpOk.value hr hl h (key _ ?_)
      rw [hlook z (by simp) (fun _ => hz)]
      simp
    · simp [R.sel] at h
theorem ok_lookup {t : TypeId} {p q : Operand} {okk : Bool} (c : Ctx P cx ρ π st.h w tm a) (hpc : PcOk ρ st.pc) (ho : o.op = .lookup t p q okk)
    (h : (oLookup cx tm st t p q okk).sel ρ = some (r, st')) : OpOk P cx tm ρ π st st' w ((execOp a.eval o).run P w) r := by
  unfold oLookup at h
  split at h
  · rename_i x ix ex ey
    have hx := evO_ok c ex
    have hy := evO_ok c ey
    unfold evLookup at h
    split at h
    · rename_i td hd
      have hk := c.tt t td hd
      split at h
      · rename_i keyT elem hdd
        have hu := hk.under
        rw [hdd] at hu
        split at h
        · rename_i kd ed hkd hed
          have hkk := c.tt keyT kd hkd
          have hke := c.tt elem ed hed
          split at h
          · rename_i hfit
            have hfits := keyFits_ok (ρ := ρ) (π := π) hfit
            split at h
            · refine lookup_fin ho (by rw [hx]; rfl) hy c.rep (.refl hpc) h ?_
              intro z _ hz
              have hz2 := zeroV_ok (ρ := ρ) (π := π) (w := w) hke (hz rfl)
              simp only [Instr.lookup, Sem.run_bind, run_underlying hu, Result.andThen_ok, Sem.run_pure, checkKey_ok hkk.under hfits, Instr.findKey, run_underlying hkk.under, Instr.findNow, hz2, pure_bind]
              cases okk <;> simp
            · rename_i b
              split at h
              · rename_i es hb
                obtain ⟨ms, clock, h1, h2, h3⟩ := c.rep.mapObj hb
                obtain ⟨st1, res, hl, hk2, hit, hmiss⟩ := findEntry_sel (ρ := ρ) (π := π) es 0 st hpc h
                refine lookup_fin ho (by rw [hx]; rfl) hy c.rep hl hk2 ?_
                intro z hz1 hz2
                have hkp := keys_pair h2 h3
                cases res with
                | none =>
                  have hz3 := zeroV_ok (ρ := ρ) (π := π) (w := w) hke (hz2 rfl)
                  have hm := findNow_miss hfits ms 0 (fun y hy => hmiss rfl y ((h2.map (·.1)).mem_iff.1 hy))
                  simp only [Instr.lookup, Sem.run_bind, run_underlying hu, Result.andThen_ok, run_getObj_map h1, Sem.run_pure, checkKey_ok hkk.under hfits, Instr.findKey, run_underlying hkk.under, hm, hz3, pure_bind]
                  cases okk <;> simp
                | some jv =>
                  obtain ⟨j, v⟩ := jv
                  obtain ⟨m, key', _, e2, e3⟩ := hit j v rfl
                  have hmem : (ix.conc ρ π, v.conc ρ π) ∈ prs ms := by
                    refine h2.mem_iff.2 ?_
                    rw [← e3]
                    simp only [entriesOf, List.mem_map]
                    exact ⟨(key', v), List.mem_of_getElem? e2, rfl⟩
                  obtain ⟨j2, e, f1, _, _⟩ := findNow_hit hfits ms 0 hkp hmem
                  have hzv : z = v := hz1 (j, v) rfl
                  subst hzv
                  simp only [Instr.lookup, Sem.run_bind, run_underlying hu, Result.andThen_ok, run_getObj_map h1, Sem.run_pure, checkKey_ok hkk.under hfits, Instr.findKey, run_underlying hkk.under, f1, pure_bind]
                  cases okk <;> simp
              · simp [R.sel] at h
            · simp [R.sel] at h
          · simp [R.sel] at h
        · simp [R.sel] at h
      · simp [R.sel] at h
    · simp [R.sel] at h
  · simp [R.sel] at h
theorem replAt_map (v : V) : ∀ (es : List (V × V)) (n : Nat) (k u : V), es[n]? = some (k, u) → ((entriesOf ρ π es).map (·.1)).Pairwise unlike →
    ∀ f : Value × Value → Value × Value, (∀ x, x.1 = k.conc ρ π → f x = (x.1, v.conc ρ π)) → (∀ x, x.1 ≠ k.conc ρ π → f x = x) → entriesOf ρ π (replAt v es n) = (entriesOf ρ π es).map f
  | [], n, k, u, h, _, f, _, _ => by simp at h
  | (k', u') :: es, 0, k, u, h, hp, f, hf1, hf2 => by
    simp only [List.getElem?_cons_zero, Option.some.injEq, Prod.mk.injEq] at h
    obtain ⟨rfl, rfl⟩ := h
    simp only [entriesOf, List.map_cons, List.pairwise_cons] at hp
    simp only [replAt, entriesOf, List.map_cons]
    rw [hf1 _ rfl]
    congr 1
    rw [List.map_map]
    apply List.map_congr_left
    intro y hy
    refine (hf2 _ ?_).symm
    intro e
    have := hp.1 _ (by rw [List.map_map]; exact List.mem_map.2 ⟨y, hy, rfl⟩)
    simp only [Function.comp] at this
    rw [show (y.1.conc ρ π) = k'.conc ρ π from e] at this
    exact unlike_irrefl this
  | (k', u') :: es, n + 1, k, u, h, hp, f, hf1, hf2 => by
    simp only [List.getElem?_cons_succ] at h
    simp only [entriesOf, List.map_cons, List.pairwise_cons] at hp
    have ih := replAt_map v es n k u h hp.2 f hf1 hf2
    simp only [entriesOf] at ih
    simp only [replAt, entriesOf, List.map_cons, ih]
    congr 1
    refine (hf2 _ ?_).symm
    intro e
    have := hp.1 (k.conc ρ π) (by rw [List.map_map]; exact List.mem_map.2 ⟨(k, u), List.mem_of_getElem? h, rfl⟩)
    rw [show (k'.conc ρ π) = k.conc ρ π from e] at this
    exact unlike_irrefl this
theorem modify_map (K v : Value) (b : MapEntry → MapEntry) (hb : ∀ e, e.key = K → (b e).key = K ∧ (b e).val = v) : ∀ (ms : List MapEntry) (j : Nat) (e : MapEntry), ms[j]? = some e → e.key = K → ((prs ms).map (·.1)).Pairwise unlike →
    ∀ f : Value × Value → Value × Value, (∀ x, x.1 = K → f x = (x.1, v)) → (∀ x, x.1 ≠ K → f x = x) → prs (ms.modify j b) = (prs ms).map f
  | [], j, e, h, _, _, f, _, _ => by simp at h
  | m :: ms, 0, e, h, he, hp, f, hf1, hf2 => by
    simp only [List.getElem?_cons_zero, Option.some.injEq] at h
    subst h
    simp only [List.map_cons, List.pairwise_cons] at hp
    simp only [List.modify_zero_cons, List.map_cons]
    rw [hf1 _ he]
    obtain ⟨h1, h2⟩ := hb m he
    rw [h1, h2, he]
    congr 1
    rw [List.map_map]
    apply List.map_congr_left
    intro y hy
    refine (hf2 _ ?_).symm
    intro e
    have := hp.1 _ (by rw [List.map_map]; exact List.mem_map.2 ⟨y, hy, rfl⟩)
    simp only [Function.comp] at this
    rw [show y.key = K from e, he] at this
    exact unlike_irrefl this
  | m :: ms, j + 1, e, h, he, hp, f, hf1, hf2 => by
    simp only [List.getElem?_cons_succ] at h
    simp only [List.map_cons, List.pairwise_cons] at hp
    have ih := modify_map K v b hb ms j e h he hp.2 f hf1 hf2
    simp only [List.modify_succ_cons, List.map_cons]
    rw [show List.map (fun e => (e.key, e.val)) (ms.modify j b) = _ from ih]
    congr 1
    refine (hf2 _ ?_).symm
    intro e'
    have := hp.1 e.key (by rw [List.map_map]; exact List.mem_map.2 ⟨e, List.mem_of_getElem? h, rfl⟩)
    rw [show m.key = K from e', he] at this
    exact unlike_irrefl this
theorem sameBits_fit {d : TypeDesc} {x : Value} (h : fits d x) : Instr.sameBits 10000 x x = true := by
  cases d <;> cases x <;> simp_all [fits, Instr.sameBits]
  rename_i s
  rw [beq_toListBytes]; simp
theorem update_run {t keyT elem : TypeId} {kd : TD} {b : Nat} {key v : V} (hr : RepH ρ π st.h w) (hu : P.underlying t = some (.map keyT elem)) (hkk : TDOk P keyT kd) (hfits : fits kd.d (key.conc ρ π)) {es : List (V × V)} (hb : st.h.get b = some (.map es))
    {st1 : St} (hl : Like ρ st st1) {res : Option (Nat × V)} (h : (updateFin b es key v st1 res).sel ρ = some (r, st'))
    (hit : ∀ j u, res = some (j, u) → ∃ m key', j = 0 + m ∧ es[m]? = some (key', u) ∧ key'.conc ρ π = key.conc ρ π)
    (hmiss : res = none → ∀ x ∈ (entriesOf ρ π es).map (·.1), unlike (key.conc ρ π) x) :
    r = .skip ∧ PcOk ρ st'.pc ∧ st'.n = st.n ∧ ∃ w', (Instr.mapUpdate t (.map (some (π b).1)) (key.conc ρ π) (v.conc ρ π)).run P w = .ok () w' ∧ Mv ρ π st.h st.n w st'.h st'.n w' := by
  obtain ⟨ms, clock, h1, h2, h3⟩ := hr.mapObj hb
  have hkp := keys_pair h2 h3
  have hlt : (π b).1 < w.heap.size := (Array.getElem?_eq_some_iff.1 h1).1
  have hset : ∀ ob : Obj, (setObj (π b).1 ob).run P w = .ok () { w with heap := w.heap.setIfInBounds (π b).1 ob } := by
    intro ob; simp [setObj, Sem.run, h1]
  unfold updateFin at h
  split at h
  · rename_i j u
    simp only [R.sel, Option.some.injEq, Prod.mk.injEq] at h
    obtain ⟨rfl, rfl⟩ := h
    obtain ⟨m, key', e1, e2, e3⟩ := hit j u rfl
    have hmem : (key.conc ρ π, u.conc ρ π) ∈ prs ms := by
      refine h2.mem_iff.2 ?_
      rw [← e3]
      simp only [entriesOf, List.mem_map]
      exact ⟨(key', u), List.mem_of_getElem? e2, rfl⟩
    obtain ⟨j2, e, f1, f2, f3⟩ := findNow_hit hfits ms 0 hkp hmem
    refine ⟨rfl, hl.pc, hl.n, { w with heap := w.heap.setIfInBounds (π b).1 (.map (ms.modify j2 fun e => { e with key := key.conc ρ π, val := v.conc ρ π }).toArray clock) }, ?_, ?_⟩
    · have hk : (Instr.keyThatStays (((ms.toArray[0 + j2]?).map (·.key)).getD (key.conc ρ π)) (key.conc ρ π)).run P w = .ok (key.conc ρ π) w := by
        have : ((ms.toArray[0 + j2]?).map (·.key)).getD (key.conc ρ π) = key.conc ρ π := by
          simp [f2, f3]
        rw [this]
        simp [Instr.keyThatStays, sameBits_fit hfits]
      simp only [Instr.mapUpdate, Sem.run_bind, run_underlying hu, Result.andThen_ok, run_getObj_map h1, checkKey_ok hkk.under hfits, Instr.findKey, run_underlying hkk.under, f1, Sem.run_pure, hk, hset]
      simp
    · have := Mv.turn hr st.n (o' := .map (replAt v es j)) (ob := .map (ms.modify j2 fun e => { e with key := key.conc ρ π, val := v.conc ρ π }).toArray clock) hb ?_
      · rw [hl.n, hl.h]; exact this
      · classical
        let f : Value × Value → Value × Value := fun x => if x.1 = key.conc ρ π then (x.1, v.conc ρ π) else x
        have g1 : ∀ x : Value × Value, x.1 = key.conc ρ π → f x = (x.1, v.conc ρ π) := fun x hx => by simp [f, hx]
        have g2 : ∀ x : Value × Value, x.1 ≠ key.conc ρ π → f x = x := fun x hx => by simp [f, hx]
        have q1 := replAt_map (ρ := ρ) (π := π) v es m key' u e2 h3 f (fun x hx => g1 x (hx.trans e3)) (fun x hx => g2 x (fun e' => hx (e'.trans e3.symm)))
        have q2 := modify_map (key.conc ρ π) (v.conc ρ π) (fun e => { e with key := key.conc ρ π, val := v.conc ρ π }) (fun _ _ => ⟨rfl, rfl⟩) ms j2 e f2 f3 hkp f g1 g2
        have hj : j = m := by omega
        subst hj
        refine ⟨_, clock, rfl, ?_, ?_⟩
        · show (prs _).Perm _
          rw [q1, q2]; exact h2.map f
        · rw [q1, List.map_map]
          have : ((fun x : Value × Value => x.1) ∘ f) = fun x => x.1 := by
            funext x; simp only [Function.comp, f]; split <;> rfl
          rw [this]; exact h3
  · simp only [R.sel, Option.some.injEq, Prod.mk.injEq] at h
    obtain ⟨rfl, rfl⟩ := h
    have hm := findNow_miss hfits ms 0 (fun y hy => hmiss rfl y ((h2.map (·.1)).mem_iff.1 hy))
    refine ⟨rfl, hl.pc, hl.n, { w with heap := w.heap.setIfInBounds (π b).1 (.map (ms ++ [({ key := key.conc ρ π, val := v.conc ρ π, born := clock } : MapEntry)]).toArray (clock + 1)) }, ?_, ?_⟩
    · simp only [Instr.mapUpdate, Sem.run_bind, run_underlying hu, Result.andThen_ok, run_getObj_map h1, checkKey_ok hkk.under hfits, Instr.findKey, run_underlying hkk.under, hm, Sem.run_pure, hset]
      simp
    · have := Mv.turn hr st.n (o' := .map (es ++ [(key, v)])) (ob := .map (ms ++ [({ key := key.conc ρ π, val := v.conc ρ π, born := clock } : MapEntry)]).toArray (clock + 1)) hb ?_
      · rw [hl.n, hl.h]; exact this
      · refine ⟨_, _, rfl, ?_, ?_⟩
        · simp only [entriesOf, List.map_append, List.map_cons, List.map_nil]
          exact h2.append_right _
        · simp only [entriesOf, List.map_append, List.map_cons, List.map_nil]
          rw [List.pairwise_append]
          refine ⟨h3, by simp, ?_⟩
          intro x hx y hy
          simp only [List.mem_singleton] at hy
          subst hy
          exact unlike_symm (hmiss rfl x hx)
theorem ok_update {t : TypeId} {p q s : Operand} (c : Ctx P cx ρ π st.h w tm a) (hpc : PcOk ρ st.pc) (ho : o.op = .mapUpdate t p q s ∨ o.op = .insert t p q s)
    (h : (oUpdate cx tm st t p q s).sel ρ = some (r, st')) : OpOk P cx tm ρ π st st' w ((execOp a.eval o).run P w) r := by
  unfold oUpdate at h
  split at h
  · rename_i x key v ex ey ez
    have hx := evO_ok c ex
    have hy := evO_ok c ey
    have hz := evO_ok c ez
    unfold evMapUpdate at h
    split at h
    · rename_i td hd
      have hk := c.tt t td hd
      split at h
      · rename_i keyT elem hdd
        have hu := hk.under
        rw [hdd] at hu
        split at h
        · rename_i kd hkd
          have hkk := c.tt keyT kd hkd
          split at h
          · rename_i hfit
            have hfits := keyFits_ok (ρ := ρ) (π := π) hfit
            split at h
            · rename_i b
              split at h
              · rename_i es hb
                obtain ⟨st1, res, hl, hk2, hit, hmiss⟩ := findEntry_sel (ρ := ρ) (π := π) es 0 st hpc h
                obtain ⟨rfl, g1, g2, w', g3, g4⟩ := update_run c.rep hu hkk hfits hb hl hk2 hit hmiss
                refine ⟨g1, by rw [g2]; exact Nat.le_refl _, fun _ => ⟨w', ?_, g4⟩⟩
                rcases ho with ho | ho <;> simp only [execOp, ho, hx, hy, hz, V.conc, Sem.run_bind, g3, Result.andThen_ok, Sem.run_pure]
              · simp [R.sel] at h
            · simp [R.sel] at h
          · simp [R.sel] at h
        · simp [R.sel] at h
      · simp [R.sel] at h
    · simp [R.sel] at h
  · simp [R.sel] at h
end ops
end Go.Proofs.YtcachlbljjpjdaaGreatDoor
