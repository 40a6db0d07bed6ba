/- Symbolic execution, part 8: the other operations that make a value. No condition. -/
import Derived.Test.YtcachlbljjpjdaaGreatDoorSe7
namespace Go.Proofs.YtcachlbljjpjdaaGreatDoor
open Go

theorem map_arr {β γ : Type} (f : β → γ) (x : Array β) : Array.map f x = (List.map f x.toList).toArray := by
  apply Array.ext'; simp
section ops
variable {P : Program} {cx : Cx} {ρ : Env} {π : Pl} {w : World} {tm : List V} {a : Act} {st st' : St} {r : OR} {o : Oper}
theorem nil_equal {P : Program} {w : World} {t : TypeId} {ms : Array (String × TypeId)} (hu : P.underlying t = some (.interface ms)) : ∀ m, 0 < m → (Op.equalIn m t .nilIface .nilIface).run P w = .ok true w
  | 0, h => by omega
  | m + 1, _ => by
    unfold Op.equalIn
    simp only [Sem.run_bind, run_underlying hu, Result.andThen_ok, Sem.run_pure]
theorem ok_bin {op : BinOp} {t : TypeId} {p q : Operand} {ty : TypeId} (c : Ctx P cx ρ π st.h w tm a) (hpc : PcOk ρ st.pc) (ho : o.op = .binOp op t p q ty)
    (h : (oBin cx tm st op t p q).sel ρ = some (r, st')) : OpOk P cx tm ρ π st st' w ((execOp a.eval o).run P w) r := by
  unfold oBin at h
  split at h
  · rename_i x y ex ey
    have hx := evO_ok c ex
    have hy := evO_ok c ey
    split at h
    · rename_i h1 h2
      unfold twoNil at h1
      split at h1
      rotate_left
      · cases h1
      unfold nilBin at h
      unfold isConst at h2
      split at h2
      rotate_left
      · cases h2
      split at h
      · rename_i td htd
        have hu := (c.tt t td htd).under
        split at h
        · rename_i hdd
          rw [hdd] at hu
          refine OpOk.value c.rep (Like.refl hpc) h ?_
          have he := nil_equal (P := P) (w := w) hu Op.maxDepth (by decide)
          simp only [execOp, ho, hx, hy, V.conc, eqGuard, Sem.run_bind]
          simp [binOp, Op.equal, he, X.tt, X.den]
        · rename_i hdd
          rw [hdd] at hu
          refine OpOk.value c.rep (Like.refl hpc) h ?_
          have he := nil_equal (P := P) (w := w) hu Op.maxDepth (by decide)
          simp only [execOp, ho, hx, hy, V.conc, eqGuard, Sem.run_bind]
          simp [binOp, Op.equal, he, X.tt, X.den]
        · simp [R.sel] at h
      · simp [R.sel] at h
    unfold evBin at h
    split at h
    · split at h
      · exact ok_shift c hpc ho hx hy h
      · rename_i hk
        rw [kindBeq_eq hk] at hx h
        exact ok_int c hpc ho hx hy h
      · simp [R.sel] at h
    · exact ok_str c hpc ho hx hy h
    · rename_i h1 h2
      refine ok_eq c hpc ho hx hy ?_ ?_ h
      · intro k u
        by_cases e : ∃ j v, y = .int j v
        · obtain ⟨j, v, rfl⟩ := e
          exact .inl fun e' => h1 _ _ _ _ e' rfl
        · exact .inr fun j v e' => e ⟨j, v, e'⟩
      · intro u
        by_cases e : ∃ v, y = .str v
        · obtain ⟨v, rfl⟩ := e
          exact .inl fun e' => h2 _ _ e' rfl
        · exact .inr fun v e' => e ⟨v, e'⟩
  · simp [R.sel] at h
theorem ok_un {op : UnOp} {t : TypeId} {p : Operand} (c : Ctx P cx ρ π st.h w tm a) (hpc : PcOk ρ st.pc) (ho : o.op = .unOp op t p)
    (h : (oUn cx tm st op p).sel ρ = some (r, st')) : OpOk P cx tm ρ π st st' w ((execOp a.eval o).run P w) r := by
  have hl := Like.refl hpc
  unfold oUn at h
  split at h
  · rename_i x ex
    have hx := evO_ok c ex
    unfold evUn at h
    split at h
    · refine OpOk.value c.rep hl h ?_
      simp [execOp, ho, hx, V.conc, Op.unary, Op.intArith, mkSub_den, X.den]
    · refine OpOk.value c.rep hl h ?_
      simp [execOp, ho, hx, V.conc, Op.unary, Op.intBits, mkBits_den, bitsI, X.den]
    · refine OpOk.value c.rep hl h ?_
      simp [execOp, ho, hx, V.conc, Op.unary, mkNot_tt]
    · simp [R.sel] at h
  · simp [R.sel] at h
theorem ok_convert {src dst : TypeId} {p : Operand} (c : Ctx P cx ρ π st.h w tm a) (hpc : PcOk ρ st.pc) (ho : o.op = .convert src dst p)
    (h : (oConvert cx tm st src dst p).sel ρ = some (r, st')) : OpOk P cx tm ρ π st st' w ((execOp a.eval o).run P w) r := by
  have hl := Like.refl hpc
  unfold oConvert at h
  split at h
  · rename_i x ex
    have hx := evO_ok c ex
    unfold evConvert at h
    split at h
    · rename_i sd td j y hs hd
      have hks := c.tt src sd hs
      have hk := c.tt dst td hd
      split at h
      · rename_i k hdd
        have hu := hk.under
        rw [hdd] at hu
        refine OpOk.value c.rep hl h ?_
        simp [execOp, ho, hx, V.conc, convert, run_underlying hks.under, run_underlying hu, Conv.intToInt, mkWrap_den]
      · simp [R.sel] at h
    · rename_i sd td y hs hd
      have hks := c.tt src sd hs
      have hk := c.tt dst td hd
      split at h
      · rename_i hdd
        have hu := hk.under
        rw [hdd] at hu
        refine OpOk.value c.rep hl h ?_
        simp [execOp, ho, hx, V.conc, convert, run_underlying hks.under, run_underlying hu]
      · simp [R.sel] at h
    · simp [R.sel] at h
  · simp [R.sel] at h
theorem ok_move {p : Operand} (c : Ctx P cx ρ π st.h w tm a) (hpc : PcOk ρ st.pc) (ho : o.op = .move p ∨ o.op = .assign p) {s : String}
    (h : (optv st (evO cx tm p) s).sel ρ = some (r, st')) : OpOk P cx tm ρ π st st' w ((execOp a.eval o).run P w) r := by
  refine OpOk.optv c.rep (.refl hpc) h fun u hu => ?_
  have hx := evO_ok c hu
  rcases ho with ho | ho <;> simp [execOp, ho, hx]
theorem ok_pick {p q s : Operand} (c : Ctx P cx ρ π st.h w tm a) (hpc : PcOk ρ st.pc) (ho : o.op = .pick p q s)
    (h : (oPick cx tm st p q s).sel ρ = some (r, st')) : OpOk P cx tm ρ π st st' w ((execOp a.eval o).run P w) r := by
  unfold oPick at h
  split at h
  · rename_i x y z ex ey ez
    have hx := evO_ok c ex
    have hy := evO_ok c ey
    have hz := evO_ok c ez
    split at h
    · rename_i x
      have pick : ∀ t : Bool, x.tt ρ = t → (execOp a.eval o).run P w = .ok (.value ((match t with | true => y | false => z : V).conc ρ π)) w := by
        intro t ht
        simp only [execOp, ho, hx, hy, hz, V.conc, ht]
        cases t <;> simp [asBool]
      split at h
      · rename_i t ht
        exact OpOk.value c.rep (.refl hpc) h (pick t (decAtom_ok hpc ht))
      · split at h
        · rename_i u hu
          refine OpOk.value c.rep (.refl hpc) h ?_
          unfold evPick at hu
          dsimp only at hu
          split at hu
          · rename_i n _
            simp only [Option.some.injEq] at hu
            subst hu
            simp only [execOp, ho, hx, hy, hz, V.conc, X.tt, X.den, intBeq_iff]
            by_cases hn : n = 0 <;> simp [asBool, hn]
          · split at hu
            · split at hu
              · rename_i hk
                simp only [Option.some.injEq] at hu
                subst hu
                simp only [execOp, ho, hx, hy, hz, V.conc, kindBeq_eq hk, mkIte_den]
                simp only [asBool, Sem.run_pure, pure_bind]
                exact congrArg (fun v => Result.ok (Next.value v) w) (by split <;> rfl)
              · simp at hu
            · simp only [Option.some.injEq] at hu
              subst hu
              simp only [execOp, ho, hx, hy, hz, V.conc, mkIte_tt]
              simp only [asBool, Sem.run_pure, pure_bind]
              exact congrArg (fun v => Result.ok (Next.value v) w) (by split <;> rfl)
            · simp only [Option.some.injEq] at hu
              subst hu
              simp only [execOp, ho, hx, hy, hz, V.conc, mkIteS_sden]
              simp only [asBool, Sem.run_pure, pure_bind]
              exact congrArg (fun v => Result.ok (Next.value v) w) (by split <;> rfl)
            · simp at hu
        · obtain ⟨st1, hl, h1⟩ := split_sel hpc h
          exact OpOk.value c.rep hl h1 (pick _ rfl)
    · simp [R.sel] at h
  · simp [R.sel] at h
theorem ranged_sel {α : Type} {ρ : Env} {i : X} {n : Nat} {k : St → R α} {a : α} {st : St} (hp : PcOk ρ st.pc) (h : (ranged st i n k).sel ρ = some a) : ∃ (st' : St) (m : Nat), Like ρ st st' ∧ i.den ρ = (m : Int) ∧ m < n ∧ (k st').sel ρ = some a := by
  unfold ranged at h
  obtain ⟨st1, hl, h1⟩ := split_sel hp h
  rw [mkLe_tt] at h1
  split at h1
  · simp [R.sel] at h1
  · rename_i h2
    obtain ⟨st2, hl2, h3⟩ := split_sel hl.pc h1
    rw [mkLt_tt] at h3
    split at h3
    · simp [R.sel] at h3
    · rename_i h4
      have h2 := of_decide_eq_true h2
      have h4 := of_decide_eq_true h4
      simp only [X.den] at h2 h4
      obtain ⟨m, hm⟩ := Int.eq_ofNat_of_zero_le h2
      refine ⟨st2, m, hl.trans hl2, hm, ?_, h3⟩
      have : i.den ρ < ((n : Nat) : Int) := h4
      omega
theorem ok_load {t : TypeId} {p : Operand} (c : Ctx P cx ρ π st.h w tm a) (hpc : PcOk ρ st.pc) (ho : o.op = .load t p)
    (h : (oLoad cx tm st t p).sel ρ = some (r, st')) : OpOk P cx tm ρ π st st' w ((execOp a.eval o).run P w) r := by
  have hl := Like.refl hpc
  unfold oLoad at h
  split at h
  · rename_i td b off n i hd ex
    have hx := evO_ok c ex
    have hk := c.tt t td hd
    split at h
    · rename_i ha h1
      split at h
      · rename_i cs hcs
        obtain ⟨st1, m, hl1, hi, hm, h2⟩ := ranged_sel hpc h
        refine OpOk.optv c.rep hl1 h2 fun u hu => ?_
        obtain ⟨v, hv, hcell⟩ := load_open c.rep hcs hm
        simp only [execOp, ho, hx, Instr.loadAt, Instr.sureAddr, V.conc, hi, Int.toNat_natCast]
        simp [loadVar, hk.runAgg, ha, run_load, hcell, selV_conc hu hi hv]
      · simp [R.sel] at h
    · simp [R.sel] at h
  · rename_i td b off hd ex
    have hx := evO_ok c ex
    have hk := c.tt t td hd
    split at h
    · rename_i cs hcs
      obtain ⟨h1, h2⟩ := load_win (P := P) c.rep hpc hk hcs
      split at h
      · rename_i ha
        refine OpOk.value c.rep hl h ?_
        simp [execOp, ho, hx, Instr.loadAt, Instr.sureAddr, V.conc]
        have := h1 ha
        simp only [V.conc] at this
        simp [this]
      · rename_i ha
        split at h
        · refine OpOk.value c.rep hl h ?_
          simp [execOp, ho, hx, Instr.loadAt, Instr.sureAddr, V.conc, h2 ha _ rfl]
        · simp [R.sel] at h
    · simp [R.sel] at h
  · rename_i td b off hd ex
    have hx := evO_ok c ex
    have hk := c.tt t td hd
    split at h
    · rename_i cs hcs
      obtain ⟨h1, h2⟩ := load_var c.rep hk hcs
      split at h
      · rename_i ha
        refine OpOk.value c.rep hl h ?_
        simp [execOp, ho, hx, Instr.loadAt, Instr.sureAddr, V.conc]
        have := h1 ha
        simp only [V.conc] at this
        simp [this]
      · rename_i ha
        split at h
        · refine OpOk.value c.rep hl h ?_
          simp [execOp, ho, hx, Instr.loadAt, Instr.sureAddr, V.conc, h2 ha _ rfl]
        · simp [R.sel] at h
    · simp [R.sel] at h
  · simp [R.sel] at h
theorem storeVar_open {P : Program} {h h' : H} (hr : RepH ρ π h w) {t : TypeId} {td : TD} (ht : TDOk P t td) {b off n m : Nat} {i : X} {v u : V} {cs : List V} (hs : td.size = 1) (hi0 : v.isIte = false) (hv : v.cells = [u]) (hc : cellsAt h b off n = some cs)
    (hp : putAt h b off (symPut i u 0 cs) = some h') (hu : u.one = true) (hi : i.den ρ = (m : Int)) (hm : m < n) (n0 : Nat) :
    ∃ w', (storeVar t ⟨(π b).1, off + m, none⟩ (v.conc ρ π)).run P w = .ok () w' ∧ Mv ρ π h n0 w h' n0 w' := by
  obtain ⟨w', h1, h2⟩ := store_open (P := P) hr hc hp hu hi hm n0
  refine ⟨w', ?_, h2⟩
  have e0 := cells_conc ρ π v hi0
  rw [hv] at e0
  have e : (v.conc ρ π).cells.size = td.size := by rw [← Array.length_toList, e0, hs]; rfl
  simp only [storeVar, Sem.run_bind, ht.runSize, Result.andThen_ok, e, e0]
  simpa [V.concs] using h1
theorem storeVar_ok {P : Program} {h h' : H} (hr : RepH ρ π h w) {t : TypeId} {td : TD} (ht : TDOk P t td) {b off : Nat} {v : V} (hi0 : v.isIte = false) (hs : v.cells.length = td.size) (hp : putAt h b off v.cells = some h') (n : Nat) :
    ∃ w', (storeVar t ⟨(π b).1, off, none⟩ (v.conc ρ π)).run P w = .ok () w' ∧ Mv ρ π h n w h' n w' := by
  obtain ⟨w', h1, h2⟩ := store_cells (P := P) hr hp n
  refine ⟨w', ?_, h2⟩
  have e : (v.conc ρ π).cells.size = td.size := by rw [← hs, ← concs_len ρ π, ← cells_conc _ _ _ hi0, Array.length_toList]
  simp only [storeVar, Sem.run_bind, ht.runSize, Result.andThen_ok, e, cells_conc _ _ _ hi0]
  simpa using h1
theorem ok_store {t : TypeId} {p q : Operand} (c : Ctx P cx ρ π st.h w tm a) (hpc : PcOk ρ st.pc) (ho : o.op = .store t p q)
    (h : (oStore cx tm st t p q).sel ρ = some (r, st')) : OpOk P cx tm ρ π st st' w ((execOp a.eval o).run P w) r := by
  unfold oStore at h
  split at h
  · rename_i td b off n i v hd ex ey
    have hx := evO_ok c ex
    have hy := evO_ok c ey
    have hk := c.tt t td hd
    split at h
    · rename_i hs1 hs
      split at h
      · rename_i u hv
        split at h
        · rename_i cs hcs
          obtain ⟨st1, m, hl1, hi, hm, h2⟩ := ranged_sel hpc h
          split at h2
          · rename_i h' hp
            split at h2
            · rename_i hu
              simp only [R.sel, Option.some.injEq, Prod.mk.injEq] at h2
              obtain ⟨rfl, rfl⟩ := h2
              rw [hl1.h] at hp
              obtain ⟨w', h3, h4⟩ := storeVar_open c.rep hk (Nat.eq_of_beq_eq_true hs) (evO_notIte ey) hv hcs hp hu hi hm st.n
              refine ⟨hl1.pc, by rw [hl1.n]; exact Nat.le_refl _, fun _ => ⟨w', ?_, by rw [hl1.n]; exact h4⟩⟩
              simp only [execOp, ho, hx, hy, Instr.storeAt, Instr.sureAddr, V.conc, hi, Int.toNat_natCast]
              simp [h3]
            · simp [R.sel] at h2
          · simp [R.sel] at h2
        · simp [R.sel] at h
      · simp [R.sel] at h
    · simp [R.sel] at h
  · rename_i td b off v hd ex ey
    have hx := evO_ok c ex
    have hy := evO_ok c ey
    have hk := c.tt t td hd
    split at h
    · rename_i hs
      split at h
      · rename_i h' hp
        simp only [R.sel, Option.some.injEq, Prod.mk.injEq] at h
        obtain ⟨rfl, rfl⟩ := h
        obtain ⟨w', h1, h2⟩ := storeVar_ok c.rep hk (evO_notIte ey) (Nat.eq_of_beq_eq_true hs) hp st.n
        refine ⟨hpc, Nat.le_refl _, fun _ => ⟨w', ?_, h2⟩⟩
        simp [execOp, ho, hx, hy, Instr.storeAt, Instr.sureAddr, V.conc, h1]
      · simp [R.sel] at h
    · simp [R.sel] at h
  · simp [R.sel] at h
theorem new_is (ρ : Env) (π : Pl) (i : Nat) (cells : List V) (t : TypeId) : (SObj.cells cells t none).is ρ π i (.cells (V.concs ρ π cells).toArray t (0, 0)) := ⟨[], by simp, rfl⟩
theorem ok_box {t : TypeId} {p : Operand} (c : Ctx P cx ρ π st.h w tm a) (hpc : PcOk ρ st.pc) (ho : o.op = .box t p)
    (h : (oBox cx tm st t p).sel ρ = some (r, st')) : OpOk P cx tm ρ π st st' w ((execOp a.eval o).run P w) r := by
  unfold oBox at h
  split at h
  · rename_i v ex
    have hx := evO_ok c ex
    have e : (v.conc ρ π).cells = (V.concs ρ π v.cells).toArray := by rw [← cells_conc _ _ _ (evO_notIte ex)]
    have hrun : (execOp a.eval o).run P w = .ok (.value (.pointer (some ⟨w.heap.size, 0, none⟩))) { w with heap := w.heap.push (.cells (V.concs ρ π v.cells).toArray t (0, 0)) } := by
      simp [execOp, ho, hx, Instr.box, newVar, newRow, e]
    refine OpOk.new c.rep hpc h (fun hn => by rw [hrun]; simp [V.conc, hn]) (by rw [hrun]; rfl) (fun _ => new_is ρ π _ _ t)
  · simp [R.sel] at h
theorem zero_cells {P : Program} {t : TypeId} {td : TD} (ht : TDOk P t td) (w : World) (ρ : Env) (π : Pl) : ∃ z, (zeroValue t).run P w = .ok z w ∧ z.cells = (V.concs ρ π td.zero).toArray ∧
    (td.agg = true → ∃ l, z = .agg l) ∧ (td.agg = false → ∀ l, z ≠ .agg l) := by
  obtain ⟨i, hi, _, _, z, hz, hc, h1, h2⟩ := ht.info
  refine ⟨z, by simp [zeroValue, typeInfo, hi, hz], ?_, h1, h2⟩
  rw [← hc ρ π]
theorem ok_alloc {t : TypeId} (c : Ctx P cx ρ π st.h w tm a) (hpc : PcOk ρ st.pc) (ho : o.op = .alloc t)
    (h : (oAlloc cx st t).sel ρ = some (r, st')) : OpOk P cx tm ρ π st st' w ((execOp a.eval o).run P w) r := by
  unfold oAlloc at h
  split at h
  · rename_i td hd
    have hk := c.tt t td hd
    obtain ⟨z, hz, hc, _⟩ := zero_cells hk w ρ π
    have hrun : (execOp a.eval o).run P w = .ok (.value (.pointer (some ⟨w.heap.size, 0, none⟩))) { w with heap := w.heap.push (.cells (V.concs ρ π td.zero).toArray t (0, 0)) } := by
      simp [execOp, ho, Instr.alloc, hz, newVar, newRow, hc]
    exact OpOk.new c.rep hpc h (fun hn => by rw [hrun]; simp [V.conc, hn]) (by rw [hrun]; rfl) (fun _ => new_is ρ π _ _ t)
  · simp [R.sel] at h
theorem ok_nilCheck {p : Operand} (c : Ctx P cx ρ π st.h w tm a) (hpc : PcOk ρ st.pc) (ho : o.op = .nilCheck p)
    (h : (oNilCheck cx tm st p).sel ρ = some (r, st')) : OpOk P cx tm ρ π st st' w ((execOp a.eval o).run P w) r := by
  have hl := Like.refl hpc
  unfold oNilCheck at h
  split at h <;> first
    | (simp [R.sel] at h; done)
    | (rename_i ex
       have hx := evO_ok c ex
       refine OpOk.value c.rep hl h ?_
       simp [execOp, ho, hx, V.conc])
theorem ok_iface {t : TypeId} {p : Operand} (c : Ctx P cx ρ π st.h w tm a) (hpc : PcOk ρ st.pc) (ho : o.op = .makeInterface t p)
    (h : (oIface cx tm st t p).sel ρ = some (r, st')) : OpOk P cx tm ρ π st st' w ((execOp a.eval o).run P w) r := by
  have hl := Like.refl hpc
  unfold oIface at h
  split at h
  · rename_i td v hd ex
    have hx := evO_ok c ex
    have hk := c.tt t td hd
    split at h
    · simp [R.sel] at h
    · rename_i hni
      refine OpOk.value c.rep hl h ?_
      simp only [execOp, ho, hx, Instr.makeInterface, Sem.run_bind, hk.runUnder, Result.andThen_ok]
      cases hdd : td.d <;> first
        | exact absurd hdd (hni _)
        | rfl
  · simp [R.sel] at h
theorem ok_func {fn : Fn} {f1 cap : Array Operand} (c : Ctx P cx ρ π st.h w tm a) (hpc : PcOk ρ st.pc) (ho : o.op = .makeFunc fn f1 cap)
    (h : (oFunc cx tm st fn f1 cap).sel ρ = some (r, st')) : OpOk P cx tm ρ π st st' w ((execOp a.eval o).run P w) r := by
  have hl := Like.refl hpc
  unfold oFunc at h
  split at h
  · rename_i f x y ex ey
    have hx := evArgs_ok c ex
    have hy := evArgs_ok c ey
    refine OpOk.value c.rep hl h ?_
    simp only [execOp, ho, Instr.makeFunc, V.conc, ← hx, ← hy, map_arr]
    rfl
  · simp [R.sel] at h
theorem ok_field {t : TypeId} {p : Operand} {f : Nat} (c : Ctx P cx ρ π st.h w tm a) (hpc : PcOk ρ st.pc) (ho : o.op = .field t p f)
    (h : (oField cx tm st t p f).sel ρ = some (r, st')) : OpOk P cx tm ρ π st st' w ((execOp a.eval o).run P w) r := by
  unfold oField at h
  split at h
  · rename_i td cs hd ex
    have hx := evO_ok c ex
    have hk := c.tt t td hd
    split at h
    · rename_i fields hdd
      have hu := hk.under
      rw [hdd] at hu
      rw [nth_eq] at h
      split at h
      · rename_i fd hf
        refine OpOk.optv c.rep (.refl hpc) h fun u hu2 => ?_
        have hf' : fields[f]? = some fd := by simpa using hf
        simp [execOp, ho, hx, V.conc, Instr.field, run_underlying hu, hf', asAgg, part_ok c.tt hu2]
      · simp [R.sel] at h
    · simp [R.sel] at h
  · simp [R.sel] at h
theorem ok_extract {p : Operand} {i : Nat} (c : Ctx P cx ρ π st.h w tm a) (hpc : PcOk ρ st.pc) (ho : o.op = .extract p i)
    (h : (oExtract cx tm st p i).sel ρ = some (r, st')) : OpOk P cx tm ρ π st st' w ((execOp a.eval o).run P w) r := by
  unfold oExtract at h
  split at h
  · rename_i l ex
    have hx := evO_ok c ex
    refine OpOk.optv c.rep (.refl hpc) h fun u hu => ?_
    rw [nth_eq] at hu
    simp [execOp, ho, hx, V.conc, Instr.extract, concs_get, hu]
  · simp [R.sel] at h
end ops
end Go.Proofs.YtcachlbljjpjdaaGreatDoor
