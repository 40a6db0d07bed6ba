/- Symbolic execution, part 9: indexes, builds, slices, maps, calls. No condition. -/
import Derived.Test.YtcachlbljjpjdaaGreatDoorSe8
namespace Go.Proofs.YtcachlbljjpjdaaGreatDoor
open Go

section idx
variable {ρ : Env} {α : Type}
theorem pickIndex_sel {i : X} {k : St → Nat → R α} {a : α} : ∀ (m lo : Nat) (st : St), PcOk ρ st.pc → (pickIndex st i lo m k).sel ρ = some a →
    ∃ (st' : St) (n : Nat), Like ρ st st' ∧ i.den ρ = (n : Int) ∧ lo ≤ n ∧ n < lo + m ∧ (k st' n).sel ρ = some a
  | 0, lo, st, _, h => by simp [pickIndex, R.sel] at h
  | m + 1, lo, st, hp, h => by
    unfold pickIndex at h
    obtain ⟨st1, hl, h1⟩ := split_sel hp h
    rw [mkEq_tt] at h1
    split at h1
    · rename_i he
      simp only [X.den, beq_iff_eq] at he
      exact ⟨st1, lo, hl, he, Nat.le_refl _, by omega, h1⟩
    · obtain ⟨st2, n, hl2, e, h3, h4, h5⟩ := pickIndex_sel m (lo + 1) st1 hl.pc h1
      exact ⟨st2, n, hl.trans hl2, e, by omega, by omega, h5⟩
theorem index_sel {i : X} {len : Nat} {k : St → Nat → R α} {a : α} {st : St} (hp : PcOk ρ st.pc) (h : (index st i len k).sel ρ = some a) :
    ∃ (st' : St) (n : Nat), Like ρ st st' ∧ i.den ρ = (n : Int) ∧ n < len ∧ (k st' n).sel ρ = some a := by
  unfold index at h
  split at h
  · rename_i n
    split at h
    · rename_i hn
      exact ⟨st, n, .refl hp, rfl, by simpa [Nat.blt_eq] using hn, h⟩
    · simp [R.sel] at h
  · simp [R.sel] at h
  · obtain ⟨st1, hl, h1⟩ := split_sel hp h
    obtain ⟨st2, hl2, h2⟩ := split_sel hl.pc h1
    split at h2
    · obtain ⟨st3, n, hl3, e, _, h4, h5⟩ := pickIndex_sel len 0 st2 hl2.pc h2
      exact ⟨st3, n, (hl.trans hl2).trans hl3, e, by omega, h5⟩
    · simp [R.sel] at h2
end idx

section fill
variable {ρ : Env} {π : Pl}
theorem foldl_set (off : Nat) : ∀ (vs : List Value) (j : Nat) (cells : Array Value), off + j + vs.length ≤ cells.size →
    (vs.zipIdx j).foldl (fun cs (x : Value × Nat) => cs.setIfInBounds (off + x.2) x.1) cells = (cells.toList.take (off + j) ++ vs ++ cells.toList.drop (off + j + vs.length)).toArray
  | [], j, cells, h => by simp
  | v :: vs, j, cells, h => by
    simp only [List.length_cons] at h
    rw [List.zipIdx_cons, List.foldl_cons, foldl_set off vs (j + 1) _ (by simp; omega)]
    congr 1
    apply List.ext_getElem?
    intro k
    have hk := h
    simp only [Array.toList_setIfInBounds, List.getElem?_append, List.getElem?_take, List.getElem?_drop, List.length_take, List.length_append, List.length_set, Array.length_toList, List.length_cons, List.getElem?_set]
    by_cases h1 : k < off + j
    · have : off + j ≠ k := by omega
      simp [h1, show k < off + (j + 1) by omega, show k < min (off + j) cells.size by omega, show k < min (off + (j + 1)) cells.size by omega, show k < cells.size by omega, show k < min (off + j) cells.size + (vs.length + 1) by omega, show k < min (off + (j + 1)) cells.size + vs.length by omega, this]
    · by_cases h2 : k = off + j
      · subst h2
        simp [show off + j < off + (j + 1) by omega, show off + j < min (off + (j + 1)) cells.size by omega, show off + j < cells.size by omega, show min (off + j) cells.size = off + j by omega, show off + j < min (off + (j + 1)) cells.size + vs.length by omega]
      · by_cases h3 : k < off + j + (vs.length + 1)
        · rw [show min (off + j) cells.size = off + j by omega, show min (off + (j + 1)) cells.size = off + j + 1 by omega]
          simp [show ¬ k < off + j + 1 by omega, show ¬ k < off + j by omega, show k < off + j + 1 + vs.length by omega, h3, show k - (off + j) = (k - (off + j + 1)) + 1 by omega]
        · rw [show min (off + j) cells.size = off + j by omega, show min (off + (j + 1)) cells.size = off + j + 1 by omega]
          simp [show ¬ k < off + j + 1 + vs.length by omega, h3, show off + (j + 1) + vs.length + (k - (off + j + 1 + vs.length)) = off + j + (vs.length + 1) + (k - (off + j + (vs.length + 1))) by omega]
          intro e; omega
theorem fill_ok {place placeV : Nat → Option (Nat × Nat)} (hp : ∀ i x, placeV i = some x → place i = some x) : ∀ (ps : List (Nat × V)) (cells out : List V), (∀ x ∈ ps, x.2.isIte = false) → fillV placeV cells ps = some out →
    Instr.fill place (V.concs ρ π cells).toArray (ps.map fun x => (x.1, x.2.conc ρ π)) = some (V.concs ρ π out).toArray
  | [], cells, out, _, h => by
    simp only [fillV, Option.some.injEq] at h
    subst h; rfl
  | (i, v) :: ps, cells, out, hni, h => by
    have hi0 : v.isIte = false := hni (i, v) (by simp)
    simp only [fillV] at h
    split at h
    · simp at h
    · rename_i off size hpl
      split at h
      · rename_i hs
        split at h
        · rename_i c2 hc
          obtain ⟨h1, h2⟩ := putN_eq _ _ _ _ hc
          have hs' := Nat.eq_of_beq_eq_true hs
          have hsz : (v.conc ρ π).cells.size = v.cells.length := by rw [← concs_len ρ π, ← cells_conc _ _ _ hi0, Array.length_toList]
          simp only [List.map_cons, Instr.fill, hp i _ hpl, hsz, hs', ne_eq, not_true_eq_false, decide_false, Bool.false_or]
          rw [if_neg (by simp only [List.size_toArray, concs_len, decide_eq_true_eq]; omega)]
          have := fill_ok hp ps c2 out (fun x hx => hni x (by simp [hx])) h
          rw [← this]
          congr 1
          have e := foldl_set off (V.concs ρ π v.cells) 0 (V.concs ρ π cells).toArray (by simp only [concs_len, List.size_toArray]; omega)
          rw [h1, concs_append, concs_append, concs_take, concs_drop]
          simp only [Nat.add_zero, concs_len] at e
          rw [← e, ← Array.foldl_toList]
          congr 1
          rw [← cells_conc _ _ _ hi0]
          simp
        · simp at h
      · simp at h
end fill

section ops
variable {P : Program} {cx : Cx} {ρ : Env} {π : Pl} {w : World} {tm : List V} {a : Act} {st st' : St} {r : OR} {o : Oper}
theorem mapM_run {β γ : Type} (f : β → Sem γ) (g : β → γ) (w : World) : ∀ (l : List β), (∀ b ∈ l, (f b).run P w = .ok (g b) w) → (l.mapM f).run P w = .ok (l.map g) w
  | [], _ => by simp
  | b :: l, h => by
    simp only [List.mapM_cons, Sem.run_bind, h b (by simp), Result.andThen_ok, mapM_run f g w l (fun x hx => h x (by simp [hx])), Sem.run_pure, List.map_cons]
theorem mapMA_run {β γ : Type} (f : β → Sem γ) (g : β → γ) (w : World) (l : Array β) (h : ∀ b ∈ l.toList, (f b).run P w = .ok (g b) w) : (l.mapM f).run P w = .ok (l.map g) w := by
  rw [Array.mapM_eq_mapM_toList, Sem.run_map, mapM_run f g w l.toList h]
  simp only [Result.andThen_ok]
  rw [map_arr g l]
def sizeIn (tt : T TD) (t : TypeId) : Nat := match tt.get t with
  | some td => td.size
  | none => 0
theorem knownFields_ok {tt : T TD} : ∀ {fs : List Field}, knownFields tt fs = true → ∀ f ∈ fs, ∃ td, tt.get f.type = some td
  | [], _, f, hf => by simp at hf
  | g :: fs, h, f, hf => by
    unfold knownFields at h
    split at h
    · rename_i td htd
      rcases List.mem_cons.1 hf with rfl | hf
      · exact ⟨td, htd⟩
      · exact knownFields_ok h f hf
    · simp at h
theorem ok_build {t : TypeId} {parts : Array (Nat × Operand)} (c : Ctx P cx ρ π st.h w tm a) (hpc : PcOk ρ st.pc) (ho : o.op = .build t parts)
    (h : (oBuild cx tm st t parts).sel ρ = some (r, st')) : OpOk P cx tm ρ π st st' w ((execOp a.eval o).run P w) r := by
  have hl := Like.refl hpc
  unfold oBuild at h
  split at h
  · rename_i td ps hd eps
    have hps := evParts_ok c eps
    have hk := c.tt t td hd
    split at h
    · rename_i cells hf
      split at h
      · rename_i hkn
        refine OpOk.value c.rep hl h ?_
        obtain ⟨z, hz, hzc, _⟩ := zero_cells hk w ρ π
        have hparts : (parts.map fun (x : Nat × Operand) => (x.1, a.eval x.2)).toList = ps.map fun x => (x.1, x.2.conc ρ π) := by
          rw [Array.toList_map]; exact hps
        have hu := hk.under
        cases hdd : td.d with
        | struct fields =>
          rw [hdd] at hkn hu hf
          have hfk := knownFields_ok (show knownFields cx.tt fields.toList = true from hkn)
          have hm := mapMA_run (P := P) (fun f : Field => (do pure (f.offset, ← sizeOf f.type) : Sem (Nat × Nat))) (fun f => (f.offset, sizeIn cx.tt f.type)) w fields (fun f hf => by
            obtain ⟨fd, hfd⟩ := hfk f hf
            simp [(c.tt f.type fd hfd).runSize, sizeIn, hfd])
          have hfill := fill_ok (ρ := ρ) (π := π) (place := fun i => (fields.map fun f => (f.offset, sizeIn cx.tt f.type))[i]?) (placeV := placeOf cx.tt (.struct fields)) (fun i x hx => by
            simp only [placeOf, nth_eq] at hx
            split at hx
            · rename_i f hfi
              split at hx
              · rename_i fd hfd
                simp only [Option.some.injEq] at hx
                subst hx
                have : fields[i]? = some f := by simpa using hfi
                simp [this, sizeIn, hfd]
              · simp at hx
            · simp at hx) ps td.zero cells (evParts_notIte eps) hf
          simp only [execOp, ho, Instr.build, Sem.run_bind, hz, Result.andThen_ok, run_underlying hu, hm, hzc, hparts, hfill, Sem.run_pure, V.conc]
        | array len elem =>
          rw [hdd] at hkn hu hf
          simp only [knownParts] at hkn
          split at hkn
          · rename_i ed hed
            have hfill := fill_ok (ρ := ρ) (π := π) (place := fun i => some (i * ed.size, ed.size)) (placeV := placeOf cx.tt (.array len elem)) (fun i x hx => by
              simp only [placeOf, hed] at hx
              exact hx) ps td.zero cells (evParts_notIte eps) hf
            simp only [execOp, ho, Instr.build, Sem.run_bind, hz, Result.andThen_ok, run_underlying hu, (c.tt elem ed hed).runSize, hzc, hparts, hfill, Sem.run_pure, V.conc]
          · simp at hkn
        | _ => rw [hdd] at hkn; simp [knownParts] at hkn
      · simp [R.sel] at h
    · simp [R.sel] at h
  · simp [R.sel] at h
end ops
end Go.Proofs.YtcachlbljjpjdaaGreatDoor
