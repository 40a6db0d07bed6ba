/- Symbolic execution, part 10: slices, addresses, maps, type tests, calls. No condition. -/
import Derived.Test.YtcachlbljjpjdaaGreatDoorSe9
namespace Go.Proofs.YtcachlbljjpjdaaGreatDoor
open Go

section ops
variable {P : Program} {cx : Cx} {ρ : Env} {π : Pl} {w : World} {tm : List V} {a : Act} {st st' : St} {r : OR} {o : Oper}
theorem repeatL_len (z : List V) : ∀ n, (repeatL z n).length = n * z.length
  | 0 => by simp [repeatL]
  | n + 1 => by simp only [repeatL, List.length_append, repeatL_len z n, Nat.succ_mul]; omega
theorem repeatL_get (z : List V) : ∀ (n i : Nat), i < n * z.length → (repeatL z n)[i]? = z[i % z.length]?
  | 0, i, h => by omega
  | n + 1, i, h => by
    simp only [repeatL]
    by_cases hi : i < z.length
    · rw [List.getElem?_append_left hi, Nat.mod_eq_of_lt hi]
    · rw [List.getElem?_append_right (by omega), repeatL_get z n (i - z.length) (by have := Nat.succ_mul n z.length; simp only [Nat.succ_eq_add_one] at this; omega)]
      rw [← Nat.mod_eq_sub_mod (by omega)]
theorem zeros_ok (ρ : Env) (π : Pl) (z : List V) (n : Nat) : ((Array.range (n * z.length)).map fun i => (V.concs ρ π z).toArray[i % (V.concs ρ π z).toArray.size]!) = (V.concs ρ π (repeatL z n)).toArray := by
  apply Array.ext_getElem?
  intro i
  by_cases hi : i < n * z.length
  · have hz : 0 < z.length := by
      rcases Nat.eq_zero_or_pos z.length with h | h
      · rw [h] at hi; omega
      · exact h
    have hm : i % z.length < z.length := Nat.mod_lt _ hz
    have e := repeatL_get z n i hi
    simp only [Array.getElem?_map, List.getElem?_toArray, concs_get, e]
    rw [Array.getElem?_eq_getElem (by simpa using hi)]
    simp only [Array.getElem_range, Option.map_some, List.size_toArray, concs_len, List.getElem!_toArray]
    rw [getElem!_pos (V.concs ρ π z) (i % z.length) (by rw [concs_len]; exact hm)]
    have := concs_get ρ π z (i % z.length)
    rw [List.getElem?_eq_getElem (by rw [concs_len]; exact hm)] at this
    rw [← this]
  · rw [Array.getElem?_eq_none (by simpa using hi), Array.getElem?_eq_none (by simp only [List.size_toArray, concs_len, repeatL_len]; omega)]
theorem ok_buildSlice {t : TypeId} {len : Nat} {parts : Array (Nat × Operand)} (c : Ctx P cx ρ π st.h w tm a) (hpc : PcOk ρ st.pc) (ho : o.op = .buildSlice t len parts)
    (h : (oBuildSlice cx tm st t len parts).sel ρ = some (r, st')) : OpOk P cx tm ρ π st st' w ((execOp a.eval o).run P w) r := by
  unfold oBuildSlice at h
  split at h
  · rename_i td ps hd eps
    have hps := evParts_ok c eps
    have hk := c.tt t td hd
    split at h
    · rename_i elem hdd
      have hu := hk.under
      rw [hdd] at hu
      split at h
      · rename_i ed hed
        have hke := c.tt elem ed hed
        split at h
        · rename_i hlen
          split at h
          · rename_i cells hf
            obtain ⟨z, hz, hzc, _⟩ := zero_cells hke w ρ π
            have hparts : (parts.map fun (x : Nat × Operand) => (x.1, a.eval x.2)).toList = ps.map fun x => (x.1, x.2.conc ρ π) := by
              rw [Array.toList_map]; exact hps
            have hfill := fill_ok (ρ := ρ) (π := π) (place := fun i => some (i * ed.size, ed.size)) (placeV := fun i => some (i * ed.size, ed.size)) (fun i x hx => hx) ps _ cells (evParts_notIte eps) hf
            have hl24 : ¬ (len * ed.size > 2 ^ 24) := by
              have := Nat.le_of_ble_eq_true hlen
              omega
            have hrun : (execOp a.eval o).run P w = .ok (.value (.slice (some ⟨w.heap.size, 0, none⟩) len len)) { w with heap := w.heap.push (.cells (V.concs ρ π cells).toArray elem (0, 0)) } := by
              simp only [execOp, ho, Instr.buildSlice, Sem.run_bind, run_underlying hu, Result.andThen_ok, hke.runSize, hl24, if_false]
              by_cases h0 : len * ed.size = 0
              · have e0 : repeatL ed.zero len = [] := List.eq_nil_of_length_eq_zero (by rw [repeatL_len, hke.len]; exact h0)
                rw [e0] at hfill
                simp only [h0, if_true, hparts, pure_bind, Array.range_zero', Array.map_empty]
                rw [show (#[] : Array Value) = (V.concs ρ π []).toArray from rfl, hfill]
                simp [newRow]
              · simp only [h0, if_false, hparts, pure_bind, Sem.run_bind, hz, Result.andThen_ok, hzc]
                rw [← hke.len, zeros_ok ρ π ed.zero len]
                rw [← hke.len] at hfill
                rw [hfill]
                simp [newRow]
            exact OpOk.new c.rep hpc h (fun hn => by rw [hrun]; simp [V.conc, hn, Cp.conc]) (by rw [hrun]; rfl) (fun _ => new_is ρ π _ _ _)
          · simp [R.sel] at h
        · simp [R.sel] at h
      · simp [R.sel] at h
    · simp [R.sel] at h
  · simp [R.sel] at h
theorem litNat_ok {v : V} {n : Nat} (h : litNat v = some n) : ∃ k, v.conc ρ π = .int k (n : Int) := by
  unfold litNat at h
  split at h
  · simp only [Option.some.injEq] at h
    subst h
    exact ⟨_, by simp [V.conc, X.den]; rfl⟩
  · simp at h
theorem wrap_small (n : Nat) (h : n ≤ 1000000000) : IntKind.i64.wrap (n : Int) = n := by
  simp only [IntKind.wrap, IntKind.bits, IntKind.signed, Bool.true_and, decide_eq_true_eq, Int.reducePow, Nat.reduceSub, ge_iff_le]
  split <;> omega
theorem ok_makeSlice {t : TypeId} {p q : Operand} (c : Ctx P cx ρ π st.h w tm a) (hpc : PcOk ρ st.pc) (ho : o.op = .makeSlice t p q)
    (h : (oMakeSlice cx tm st t p q).sel ρ = some (r, st')) : OpOk P cx tm ρ π st st' w ((execOp a.eval o).run P w) r := by
  unfold oMakeSlice at h
  split at h
  · rename_i td l k hd el ek
    obtain ⟨vl, el1, el2⟩ := Option.bind_eq_some_iff.1 el
    obtain ⟨vk, ek1, ek2⟩ := Option.bind_eq_some_iff.1 ek
    obtain ⟨kl, hl⟩ := litNat_ok (ρ := ρ) (π := π) el2
    obtain ⟨kk, hk1⟩ := litNat_ok (ρ := ρ) (π := π) ek2
    have hx := evO_ok c el1
    have hy := evO_ok c ek1
    rw [hl] at hx
    rw [hk1] at hy
    have hk := c.tt t td hd
    split at h
    · rename_i elem hdd
      have hu := hk.under
      rw [hdd] at hu
      split at h
      · rename_i ed hed
        have hke := c.tt elem ed hed
        split at h
        · rename_i hb
          rw [Bool.and_eq_true] at hb
          have h1 := Nat.le_of_ble_eq_true hb.1
          have h2 := Nat.le_of_ble_eq_true hb.2
          obtain ⟨i, hi, hsz, hby, _⟩ := hke.info
          obtain ⟨z, hz, hzc, _⟩ := zero_cells hke w ρ π
          have h3 : k ≤ 1000000000 := by
            have : k * 1 ≤ k * (ed.bytes + 1) := Nat.mul_le_mul_left _ (by omega)
            omega
          have h4 : k * ed.bytes ≤ 1000000000 := by
            have : k * ed.bytes ≤ k * (ed.bytes + 1) := Nat.mul_le_mul_left _ (by omega)
            omega
          have h4' : (ed.bytes : Int) * (k : Int) ≤ 1000000000 := by
            have := Int.ofNat_le.2 h4
            rw [Nat.mul_comm, Int.natCast_mul] at this
            exact this
          have hti : (typeInfo elem).run P w = .ok i w := by simp [typeInfo, hi]
          have hrun : (execOp a.eval o).run P w = .ok (.value (.slice (some ⟨w.heap.size, 0, none⟩) l k)) { w with heap := w.heap.push (.cells (V.concs ρ π (repeatL ed.zero k)).toArray elem (0, 0)) } := by
            simp only [execOp, ho, hx, hy, Instr.makeSlice, Sem.run_bind, run_underlying hu, Result.andThen_ok, asInt, asIntOf, Sem.run_pure, hti, hby, wrap_small l (by omega), wrap_small k h3]
            rw [if_neg (by simp; omega)]
            have hroom : ¬ k * ed.bytes > roomBytes := by unfold roomBytes; omega
            simp only [Int.toNat_natCast, askRoom, hroom, if_false, Sem.run_bind, Sem.run_pure, Result.andThen_ok, hke.runSize]
            by_cases h0 : k * ed.size = 0
            · have e0 : repeatL ed.zero k = [] := List.eq_nil_of_length_eq_zero (by rw [repeatL_len, hke.len]; exact h0)
              simp only [h0, if_true, pure_bind, Array.range_zero', Array.map_empty, e0]
              simp [newRow, V.concs]
            · simp only [h0, if_false, pure_bind, Sem.run_bind, hz, Result.andThen_ok, hzc]
              rw [← hke.len, zeros_ok ρ π ed.zero k]
              simp [newRow]
          exact OpOk.new c.rep hpc h (fun hn => by rw [hrun]; simp only [V.conc, hn, Cp.conc]) (by rw [hrun]; rfl) (fun _ => new_is ρ π _ _ _)
        · simp [R.sel] at h
      · simp [R.sel] at h
    · simp [R.sel] at h
  · simp [R.sel] at h
theorem ok_map {t : TypeId} {q : Option Operand} (c : Ctx P cx ρ π st.h w tm a) (hpc : PcOk ρ st.pc) (ho : o.op = .makeMap t q)
    (h : (oMap cx tm st t q).sel ρ = some (r, st')) : OpOk P cx tm ρ π st st' w ((execOp a.eval o).run P w) r := by
  have hnew : ∀ (hrun : (execOp a.eval o).run P w = .ok (.value (.map (some w.heap.size))) { w with heap := w.heap.push (.map #[] 0) }) (h : R.sel ρ (.ok (.val (.map st.n), newObj st (.map []))) = some (r, st')), OpOk P cx tm ρ π st st' w ((execOp a.eval o).run P w) r :=
    fun hrun h => OpOk.new c.rep hpc h (fun hn => by rw [hrun]; simp [V.conc, hn]) (by rw [hrun]; rfl) (fun _ => ⟨[], 0, rfl, by simp [entriesOf], by simp [entriesOf]⟩)
  unfold oMap at h
  split at h
  · rename_i td hd
    have hk := c.tt t td hd
    split at h
    · rename_i k e hdd
      have hu := hk.under
      rw [hdd] at hu
      split at h
      · exact hnew (by simp [execOp, ho, Instr.makeMap, Go.newObj, Sem.run]) h
      · rename_i x
        split at h
        · rename_i kk xx ex
          have hx := evO_ok c ex
          exact hnew (by simp [execOp, ho, hx, V.conc, Instr.makeMap, Go.newObj, Sem.run, run_underlying hu, asInt, asIntOf]) h
        · simp [R.sel] at h
    · simp [R.sel] at h
  · simp [R.sel] at h
theorem ok_fieldAddr {t : TypeId} {p : Operand} {f : Nat} (c : Ctx P cx ρ π st.h w tm a) (hpc : PcOk ρ st.pc) (ho : o.op = .fieldAddr t p f)
    (h : (oFieldAddr cx tm st t p f).sel ρ = some (r, st')) : OpOk P cx tm ρ π st st' w ((execOp a.eval o).run P w) r := by
  have hl := Like.refl hpc
  unfold oFieldAddr at h
  split at h
  · rename_i td b off hd ex
    have hx := evO_ok c ex
    have hk := c.tt t td hd
    split at h
    · rename_i fields hdd
      have hu := hk.under
      rw [hdd] at hu
      rw [nth_eq] at h
      split at h
      · rename_i fd hf
        have hf' : fields[f]? = some fd := by simpa using hf
        split at h
        · rename_i d hfd
          have hkf := c.tt fd.type d hfd
          split at h
          · simp [R.sel] at h
          · rename_i hz
            have hz' : ¬ d.size = 0 := by
              intro e; rw [e] at hz; simp at hz
            refine OpOk.value c.rep hl h ?_
            simp [execOp, ho, hx, V.conc, Instr.fieldAt, run_underlying hu, hf', Instr.sureAddr, fieldPlace, hkf.runSize, hz', addr_add]
        · simp [R.sel] at h
      · simp [R.sel] at h
    · simp [R.sel] at h
  · simp [R.sel] at h
theorem openIx_all {cx : Cx} {i : X} {ed : TD} (h : openIx cx i ed = true) : ed.agg = false ∧ ed.size = 1 := by
  unfold openIx at h
  split at h
  · cases h
  · split at h
    · cases h
    · split at h
      · cases h
      · rename_i ha
        exact ⟨ha, Nat.eq_of_beq_eq_true h⟩
theorem openIx_size {cx : Cx} {i : X} {ed : TD} (h : openIx cx i ed = true) : ed.size = 1 := (openIx_all h).2
theorem openIx_agg {cx : Cx} {i : X} {ed : TD} (h : openIx cx i ed = true) : ed.agg = false := (openIx_all h).1
theorem ok_indexAddr {t : TypeId} {p q : Operand} (c : Ctx P cx ρ π st.h w tm a) (hpc : PcOk ρ st.pc) (ho : o.op = .indexAddr t p q)
    (h : (oIndexAddr cx tm st t p q).sel ρ = some (r, st')) : OpOk P cx tm ρ π st st' w ((execOp a.eval o).run P w) r := by
  unfold oIndexAddr at h
  split at h
  · rename_i td v k i hd ex ey
    have hx := evO_ok c ex
    have hy := evO_ok c ey
    have hk := c.tt t td hd
    have hu := hk.under
    split at h
    · rename_i len elem b off hdd
      rw [hdd] at hu
      split at h
      · rename_i ed hed
        have hke := c.tt elem ed hed
        split at h
        · rename_i hox
          have hs1 := openIx_size hox
          obtain ⟨st1, n, hl, e, hn, h1⟩ := ranged_sel hpc h
          refine OpOk.value c.rep hl h1 ?_
          simp only [execOp, ho, hx, hy, V.conc, e, Instr.indexAt, Sem.run_bind, asIntOf, Sem.run_pure, Result.andThen_ok, run_underlying hu, Instr.sureAddr]
          simp [hn, hke.runSize, addr_add, hs1]
        obtain ⟨st1, n, hl, e, hn, h1⟩ := index_sel hpc h
        refine OpOk.value c.rep hl h1 ?_
        simp only [execOp, ho, hx, hy, V.conc, e, Instr.indexAt, Sem.run_bind, asIntOf, Sem.run_pure, Result.andThen_ok, run_underlying hu, Instr.sureAddr]
        simp [hn, hke.runSize, addr_add]
      · simp [R.sel] at h
    · rename_i elem b off len cp hdd
      rw [hdd] at hu
      split at h
      · rename_i ed hed
        have hke := c.tt elem ed hed
        split at h
        · rename_i hox
          have hs1 := openIx_size hox
          obtain ⟨st1, n, hl, e, hn, h1⟩ := ranged_sel hpc h
          refine OpOk.value c.rep hl h1 ?_
          simp only [execOp, ho, hx, hy, V.conc, e, Instr.indexAt, Sem.run_bind, asIntOf, Sem.run_pure, Result.andThen_ok, run_underlying hu]
          simp [hn, hke.runSize, addr_add, hs1]
        obtain ⟨st1, n, hl, e, hn, h1⟩ := index_sel hpc h
        refine OpOk.value c.rep hl h1 ?_
        simp only [execOp, ho, hx, hy, V.conc, e, Instr.indexAt, Sem.run_bind, asIntOf, Sem.run_pure, Result.andThen_ok, run_underlying hu]
        simp [hn, hke.runSize, addr_add]
      · simp [R.sel] at h
    · rename_i elem b off len cp hdd
      rw [hdd] at hu
      split at h
      · rename_i _ ed n hed
        have hke := c.tt elem ed hed
        obtain ⟨st1, hl, h1⟩ := split_sel hpc h
        rw [mkLt_tt] at h1
        split at h1
        · rename_i hlt
          have hlt' := of_decide_eq_true hlt
          simp only [X.den] at hlt'
          have hn : n < (len.den ρ).toNat := by
            have : (n : Int) < len.den ρ := hlt'
            omega
          refine OpOk.value c.rep hl h1 ?_
          simp only [execOp, ho, hx, hy, V.conc, X.den, Instr.indexAt, Sem.run_bind, asIntOf, Sem.run_pure, Result.andThen_ok, run_underlying hu]
          simp [hke.runSize, add_add]
          intro hm
          exfalso
          have : (n : Int) < len.den ρ := hlt'
          rw [Int.max_def] at hm
          split at hm <;> omega
        · simp [R.sel] at h1
      · simp [R.sel] at h
    · simp [R.sel] at h
  · simp [R.sel] at h
theorem ok_index {t : TypeId} {p q : Operand} (c : Ctx P cx ρ π st.h w tm a) (hpc : PcOk ρ st.pc) (ho : o.op = .index t p q)
    (h : (oIndex cx tm st t p q).sel ρ = some (r, st')) : OpOk P cx tm ρ π st st' w ((execOp a.eval o).run P w) r := by
  unfold oIndex at h
  split at h
  · rename_i td v k i hd ex ey
    have hx := evO_ok c ex
    have hy := evO_ok c ey
    have hk := c.tt t td hd
    have hu := hk.under
    split at h
    · rename_i len elem cs hdd
      rw [hdd] at hu
      split at h
      · rename_i ed hed
        have hke := c.tt elem ed hed
        split at h
        · rename_i hox
          have hs1 := openIx_size hox
          have hag := openIx_agg hox
          split at h
          · rename_i l htk
            obtain ⟨st1, n, hl, e, hn, h1⟩ := ranged_sel hpc h
            refine OpOk.optv c.rep hl h1 fun u hu2 => ?_
            obtain ⟨t1, t2, t3⟩ := takeN_eq _ _ _ htk
            have hnl : n < l.length := by omega
            have hcs : cs[n]? = some l[n] := by
              have := congrArg (fun l => l[n]?) t1
              simp only [List.getElem?_take] at this
              rw [if_pos hn, List.getElem?_eq_getElem hnl] at this
              exact this
            have hp : partV cx.tt elem cs (n * ed.size) = some l[n] := by
              unfold partV
              rw [hed]
              simp only [hag, hs1, Nat.mul_one, Bool.false_eq_true, if_false, nth_eq, hcs]
            simp only [execOp, ho, hx, hy, V.conc, e, Instr.index, Sem.run_bind, asIntOf, Sem.run_pure, Result.andThen_ok, run_underlying hu]
            rw [selV_conc hu2 e (List.getElem?_eq_getElem hnl)]
            simp [hn, hke.runSize, part_ok c.tt hp]
          · simp [R.sel] at h
        obtain ⟨st1, n, hl, e, hn, h1⟩ := index_sel hpc h
        refine OpOk.optv c.rep hl h1 fun u hu2 => ?_
        simp only [execOp, ho, hx, hy, V.conc, e, Instr.index, Sem.run_bind, asIntOf, Sem.run_pure, Result.andThen_ok, run_underlying hu]
        simp [hn, hke.runSize, part_ok c.tt hu2]
      · simp [R.sel] at h
    · rename_i l hdd
      rw [hdd] at hu
      obtain ⟨st1, n, hl, e, hn, h1⟩ := index_sel hpc h
      refine OpOk.value c.rep hl h1 ?_
      simp only [execOp, ho, hx, hy, V.conc, e, Instr.index, Sem.run_bind, asIntOf, Sem.run_pure, Result.andThen_ok, run_underlying hu, X.sden]
      have hg : (⟨(l.map UInt8.ofNat).toArray⟩ : ByteArray)[n]? = some (UInt8.ofNat ((nth l n).getD 0)) := by
        rw [nth_eq, getElem?_pos _ n (by show n < ((l.map UInt8.ofNat).toArray).size; simpa using hn)]
        show some (((l.map UInt8.ofNat).toArray)[n]'(by simpa using hn)) = _
        simp [List.getElem?_eq_getElem hn]
      simp [hg, X.den, UInt8.toNat_ofNat']
    · simp [R.sel] at h
  · simp [R.sel] at h
theorem ok_assert {p : Operand} {xt t : TypeId} {okk : Bool} (c : Ctx P cx ρ π st.h w tm a) (hpc : PcOk ρ st.pc) (ho : o.op = .typeAssert p xt t okk)
    (h : (oAssert cx tm st p t okk).sel ρ = some (r, st')) : OpOk P cx tm ρ π st st' w ((execOp a.eval o).run P w) r := by
  have hl := Like.refl hpc
  unfold oAssert at h
  split at h
  · rename_i td v hd ex
    have hx := evO_ok c ex
    have hk := c.tt t td hd
    have zero_ok : ∀ z, zeroV td = some z → (zeroValue t).run P w = .ok (z.conc ρ π) w := by
      intro z hz
      obtain ⟨zv, h1, h2, h3, h4⟩ := zero_cells hk w ρ π
      unfold zeroV at hz
      cases ha : td.agg with
      | true =>
        rw [ha] at hz
        simp only [if_true, Option.some.injEq] at hz
        subst hz
        obtain ⟨l, rfl⟩ := h3 ha
        simp only [Value.cells] at h2
        simp [h1, V.conc, h2]
      | false =>
        rw [ha] at hz
        simp only [Bool.false_eq_true, if_false] at hz
        have h4' := h4 ha
        rw [h1]
        have hcell : zv.cells = #[zv] := by
          cases zv <;> first | rfl | exact absurd rfl (h4' _)
        rw [hcell] at h2
        have := congrArg (fun x : Array Value => x[0]?) h2
        simp only [List.getElem?_toArray, concs_get] at this
        rw [List.head?_eq_getElem?] at hz
        rw [hz] at this
        simpa using this
    split at h
    · simp [R.sel] at h
    · rename_i tt2 v2 hni
      split at h
      · rename_i _ hb
        have he := Nat.eq_of_beq_eq_true hb
        refine OpOk.value c.rep hl h ?_
        simp only [execOp, ho, hx, V.conc, Instr.typeAssert, Sem.run_bind, hk.runUnder, Result.andThen_ok]
        cases hdd : td.d <;> first
          | exact absurd hdd (hni _)
          | (simp [he, V.concs, V.conc, X.tt, X.den]; done)
      · rename_i _ hb
        have he := Nat.eq_of_beq_eq_true hb
        refine OpOk.value c.rep hl h ?_
        simp only [execOp, ho, hx, V.conc, Instr.typeAssert, Sem.run_bind, hk.runUnder, Result.andThen_ok]
        cases hdd : td.d <;> first
          | exact absurd hdd (hni _)
          | (simp [he]; done)
      · rename_i _ hb
        have he : ¬ tt2 = t := fun e => by rw [e] at hb; simp at hb
        split at h
        · rename_i z hz
          have hz' := zero_ok z hz
          refine OpOk.value c.rep hl h ?_
          simp only [execOp, ho, hx, V.conc, Instr.typeAssert, Sem.run_bind, hk.runUnder, Result.andThen_ok]
          cases hdd : td.d <;> first
            | exact absurd hdd (hni _)
            | (simp [he, hz', V.concs, V.conc, X.tt, X.den]; done)
        · simp [R.sel] at h
      · simp [R.sel] at h
    · rename_i hni
      split at h
      · split at h
        · rename_i z hz
          have hz' := zero_ok z hz
          refine OpOk.value c.rep hl h ?_
          simp only [execOp, ho, hx, V.conc, Instr.typeAssert, Sem.run_bind, hk.runUnder, Result.andThen_ok]
          cases hdd : td.d <;> first
            | exact absurd hdd (hni _)
            | (simp [hz', V.concs, V.conc, X.tt, X.den]; done)
        · simp [R.sel] at h
      · simp [R.sel] at h
    · simp [R.sel] at h
  · simp [R.sel] at h
end ops
end Go.Proofs.YtcachlbljjpjdaaGreatDoor
