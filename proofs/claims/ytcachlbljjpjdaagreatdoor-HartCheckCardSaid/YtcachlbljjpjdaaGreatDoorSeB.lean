/- Symbolic execution, part 11: slice expressions, maps, calls, builtins. No condition. -/
import Derived.Test.YtcachlbljjpjdaaGreatDoorSeA
import Derived.Lib.Strings
namespace Go.Proofs.YtcachlbljjpjdaaGreatDoor
open Go

section ops
variable {P : Program} {cx : Cx} {ρ : Env} {π : Pl} {w : World} {tm : List V} {a : Act} {st st' : St} {r : OR} {o : Oper}
theorem evOpt_ok (c : Ctx P cx ρ π st.h w tm a) {p : Option Operand} {v : Option V} (h : evOpt cx tm p = some v) : p.map a.eval = v.map (V.conc ρ π) := by
  unfold evOpt at h
  split at h
  · simp only [Option.some.injEq] at h
    subst h; rfl
  · split at h
    · rename_i x ex
      simp only [Option.some.injEq] at h
      subst h
      simp [evO_ok c ex]
    · simp at h
theorem bounds_ok {isS : Bool} {len cap l h : Nat} {lo hi : Option V} (e : evSliceBounds len cap lo hi = some (l, h)) (w : World) :
    (Instr.sliceBounds isS len cap (lo.map (V.conc ρ π)) (hi.map (V.conc ρ π)) none).run P w = .ok (l, h, cap) w ∧ l ≤ h ∧ h ≤ cap := by
  unfold evSliceBounds at e
  split at e
  · simp at e
  · rename_i hh ehh
    split at e
    · simp at e
    · rename_i ll ell
      split at e
      · rename_i hb
        simp only [Option.some.injEq, Prod.mk.injEq] at e
        obtain ⟨rfl, rfl⟩ := e
        rw [Bool.and_eq_true] at hb
        have h1 := Nat.le_of_ble_eq_true hb.1
        have h2 := Nat.le_of_ble_eq_true hb.2
        refine ⟨?_, h1, h2⟩
        cases hi with
        | none =>
          simp only [Option.some.injEq] at ehh
          subst ehh
          cases lo with
          | none =>
            simp only [Option.some.injEq] at ell
            subst ell
            simp [Instr.sliceBounds]
          | some vl =>
            obtain ⟨k, hk⟩ := litNat_ok (ρ := ρ) (π := π) ell
            simp [Instr.sliceBounds, hk, Instr.sliceBound, asIntOf, h1]
        | some vh =>
          obtain ⟨k2, hk2⟩ := litNat_ok (ρ := ρ) (π := π) ehh
          cases lo with
          | none =>
            simp only [Option.some.injEq] at ell
            subst ell
            simp [Instr.sliceBounds, hk2, Instr.sliceBound, asIntOf, h2]
          | some vl =>
            obtain ⟨k, hk⟩ := litNat_ok (ρ := ρ) (π := π) ell
            simp [Instr.sliceBounds, hk, hk2, Instr.sliceBound, asIntOf, h1, h2]
      · simp at e
theorem ok_slice {t : TypeId} {p : Operand} {lo hi mx : Option Operand} (c : Ctx P cx ρ π st.h w tm a) (hpc : PcOk ρ st.pc) (ho : o.op = .slice t p lo hi mx)
    (h : (oSlice cx tm st t p lo hi mx).sel ρ = some (r, st')) : OpOk P cx tm ρ π st st' w ((execOp a.eval o).run P w) r := by
  have hl := Like.refl hpc
  unfold oSlice at h
  split at h
  · rename_i v vlo vhi vmx ex elo ehi emx
    have hx := evO_ok c ex
    have hlo := evOpt_ok c elo
    have hhi := evOpt_ok c ehi
    have hmx := evOpt_ok c emx
    have key : ∀ u : V, (Instr.sliceAt t (v.conc ρ π) (vlo.map (V.conc ρ π)) (vhi.map (V.conc ρ π)) (vmx.map (V.conc ρ π))).run P w = .ok (u.conc ρ π) w → (execOp a.eval o).run P w = .ok (.value (u.conc ρ π)) w := by
      intro u hu
      simp only [execOp, ho, hx, hlo, hhi, hmx, Sem.run_bind, hu, Result.andThen_ok, Sem.run_pure]
    unfold evSlice at h
    split at h
    · simp [R.sel] at h
    · split at h
      · simp [R.sel] at h
      · rename_i td hd
        have hk := c.tt t td hd
        have hu := hk.under
        split at h
        · rename_i l hdd
          rw [hdd] at hu
          split at h
          · rename_i x y hb
            refine OpOk.value c.rep hl h (key _ ?_)
            have hb2 := (bounds_ok (P := P) (ρ := ρ) (π := π) (isS := false) hb w).1
            have hsz : (⟨(l.map UInt8.ofNat).toArray⟩ : ByteArray).size = l.length := by simp [ByteArray.size]
            simp only [Instr.sliceAt, Instr.slice, Sem.run_bind, run_underlying hu, Result.andThen_ok, V.conc, X.sden, hsz, hb2, Option.map_none, Option.isSome_none, Bool.false_eq_true, if_false, Sem.run_pure]
            have e : (⟨(l.map UInt8.ofNat).toArray⟩ : ByteArray).extract x y = ⟨(List.map UInt8.ofNat (List.take (y - x) (List.drop x l))).toArray⟩ := by
              apply ByteArray.ext
              apply Array.ext'
              rw [Lib.extract_data]
              simp [List.map_take, List.map_drop]
            rw [e]
          · simp [R.sel] at h
        · rename_i elem b off len cp hdd
          rw [hdd] at hu
          split at h
          · simp [R.sel] at h
          · rename_i ed hed
            have hke := c.tt elem ed hed
            split at h
            · rename_i cc
              split at h
              · rename_i x y hb
                refine OpOk.value c.rep hl h (key _ ?_)
                obtain ⟨hb2, h1, h2⟩ := bounds_ok (P := P) (ρ := ρ) (π := π) (isS := true) hb w
                simp only [Instr.sliceAt, Instr.slice, Sem.run_bind, run_underlying hu, Result.andThen_ok, V.conc, Cp.conc, hb2, Option.map_none, hke.runSize, Sem.run_pure, Option.map_some]
                by_cases e : cc = x
                · subst e; simp
                · have : Nat.beq cc x = false := by
                    cases hq : Nat.beq cc x
                    · rfl
                    · exact absurd (Nat.eq_of_beq_eq_true hq) e
                  simp [e, this, addr_add]
              · simp [R.sel] at h
            · simp [R.sel] at h
        · rename_i elem hdd
          rw [hdd] at hu
          split at h
          · simp [R.sel] at h
          · rename_i ed hed
            have hke := c.tt elem ed hed
            split at h
            · rename_i p2 hb
              obtain ⟨x, y⟩ := p2
              refine OpOk.value c.rep hl h (key _ ?_)
              obtain ⟨hb2, h1, h2⟩ := bounds_ok (P := P) (ρ := ρ) (π := π) (isS := true) hb w
              have hx0 : x = 0 := by omega
              have hy0 : y = 0 := by omega
              subst hx0 hy0
              simp only [Instr.sliceAt, Instr.slice, Sem.run_bind, run_underlying hu, Result.andThen_ok, V.conc, hb2, Option.map_none, Sem.run_pure, hke.runSize]
              simp
            · simp [R.sel] at h
        · rename_i n elem b off hdd
          rw [hdd] at hu
          split at h
          · simp [R.sel] at h
          · rename_i ed hed
            have hke := c.tt elem ed hed
            split at h
            · rename_i x y hb
              refine OpOk.value c.rep hl h (key _ ?_)
              obtain ⟨hb2, h1, h2⟩ := bounds_ok (P := P) (ρ := ρ) (π := π) (isS := false) hb w
              simp only [Instr.sliceAt, Sem.run_bind, run_underlying hu, Result.andThen_ok, V.conc, Cp.conc, hb2, Option.map_none, hke.runSize, Sem.run_pure, Instr.sureAddr]
              by_cases e : n = x
              · subst e; simp
              · have : Nat.beq n x = false := by
                  cases hq : Nat.beq n x
                  · rfl
                  · exact absurd (Nat.eq_of_beq_eq_true hq) e
                simp [e, this, addr_add]
            · simp [R.sel] at h
        · simp [R.sel] at h
  · simp [R.sel] at h
theorem ok_call {cl : Call} (c : Ctx P cx ρ π st.h w tm a) (hpc : PcOk ρ st.pc) (ho : o.op = .call cl) (hv : ∀ b, cl.callee ≠ .builtin b)
    (h : (oCall cx tm st cl).sel ρ = some (r, st')) : OpOk P cx tm ρ π st st' w ((execOp a.eval o).run P w) r := by
  unfold oCall at h
  split at h
  · rename_i f hcl
    split at h
    · rename_i g first cap args ef eargs
      have hf := evO_ok c ef
      have ha := evArgs_ok c eargs
      split at h
      · rename_i fn hfn
        obtain ⟨h1, h2, h3⟩ := c.ft g fn hfn
        simp only [R.sel, Option.some.injEq, Prod.mk.injEq] at h
        obtain ⟨rfl, rfl⟩ := h
        refine ⟨hpc, Nat.le_refl _, fun _ => ⟨?_, rfl, rfl, fn, h1⟩⟩
        have hb : ¬ fn.body = none := by intro e; rw [e] at h3; simp at h3
        simp only [execOp, ho, resolve, hcl, hf, V.conc, Deferred.ofValue, map_arr, ha, Sem.run_bind, Sem.run_pure, Result.andThen_ok, invoke, callFunc, program, Sem.run, h1, h2]
        have hb2 : fn.body.isNone = false := by
          cases hq : fn.body with
          | none => exact absurd hq hb
          | some _ => rfl
        simp [hb2, concs_append]
      · simp [R.sel] at h
    · rename_i l args ef eargs
      have hf := evO_ok c ef
      have ha := evArgs_ok c eargs
      simp only [R.sel, Option.some.injEq, Prod.mk.injEq] at h
      obtain ⟨rfl, rfl⟩ := h
      refine ⟨hpc, Nat.le_refl _, fun _ => ⟨?_, rfl, rfl, f, _, ef, eargs⟩⟩
      simp only [execOp, ho, resolve, hcl, hf, V.conc, Deferred.ofValue, map_arr, ha, Sem.run_bind, Sem.run_pure, Result.andThen_ok, invoke]
      simp
    · simp [R.sel] at h
  · rename_i b hcl
    exact absurd hcl (hv b)
  · simp [R.sel] at h
theorem ok_defer {cl : Call} (c : Ctx P cx ρ π st.h w tm a) (hpc : PcOk ρ st.pc) (ho : o.op = .defer cl)
    (h : (oDefer cx tm st cl).sel ρ = some (r, st')) : OpOk P cx tm ρ π st st' w ((execOp a.eval o).run P w) r := by
  unfold oDefer at h
  split at h
  · rename_i f hcl
    split at h
    · rename_i g first cap args ef eargs
      have hf := evO_ok c ef
      have ha := evArgs_ok c eargs
      simp only [R.sel, Option.some.injEq, Prod.mk.injEq] at h
      obtain ⟨rfl, rfl⟩ := h
      refine ⟨hpc, Nat.le_refl _, fun _ => ⟨?_, rfl, rfl⟩⟩
      simp only [execOp, ho, resolve, hcl, hf, V.conc, Deferred.ofValue, map_arr, ha, Sem.run_bind, Sem.run_pure, Result.andThen_ok, SDef.conc]
      simp [concs_append]
    · simp [R.sel] at h
  · simp [R.sel] at h
theorem ok_panic {p : Operand} (c : Ctx P cx ρ π st.h w tm a) (hpc : PcOk ρ st.pc) (ho : o.op = .panic p)
    (h : (oPanic cx tm st p).sel ρ = some (r, st')) : OpOk P cx tm ρ π st st' w ((execOp a.eval o).run P w) r := by
  unfold oPanic at h
  split at h
  · rename_i t v ex
    have hx := evO_ok c ex
    simp only [R.sel, Option.some.injEq, Prod.mk.injEq] at h
    obtain ⟨rfl, rfl⟩ := h
    refine ⟨hpc, Nat.le_refl _, fun _ => ⟨?_, rfl, rfl⟩⟩
    simp [execOp, ho, hx, V.conc, Instr.panic, goPanic]
  · simp [R.sel] at h
end ops
end Go.Proofs.YtcachlbljjpjdaaGreatDoor
