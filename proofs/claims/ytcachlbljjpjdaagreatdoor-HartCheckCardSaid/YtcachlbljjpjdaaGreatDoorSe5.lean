/- Symbolic execution, part 5: memory: cells that are read, written, laid anew; the tables of types. No condition. -/
import Derived.Test.YtcachlbljjpjdaaGreatDoorSeVj
import Derived.Laws.CopyRow
import Derived.Laws.Rows
import Derived.Laws.Entries
namespace Go.Proofs.YtcachlbljjpjdaaGreatDoor
open Go

structure TDOk (P : Program) (t : TypeId) (td : TD) : Prop where
  info : ∃ i, P.info? t = some i ∧ i.size = td.size ∧ i.bytes = td.bytes ∧ ∃ z, i.zero = some z ∧ (∀ ρ π, z.cells.toList = V.concs ρ π td.zero) ∧ (td.agg = true → ∃ l, z = .agg l) ∧ (td.agg = false → ∀ l, z ≠ .agg l)
  under : P.underlying t = some td.d
  len : td.zero.length = td.size
  agg : td.agg = (match td.d with | .struct _ | .array _ _ => true | _ => false)
  flat : td.flat = true → td.agg = true → P.eqGuardType P.depth t = false ∧ P.stoodInHeld t = false ∧ (match td.d with | .struct fs => fs.toList.all fun f => f.name != "_" | _ => true) = true
def TOk (P : Program) (tt : T TD) : Prop := ∀ t td, tt.get t = some td → TDOk P t td

section types
variable {P : Program} {t : TypeId} {td : TD} (h : TDOk P t td) (w : World)
include h
theorem TDOk.runUnder : (underlying t).run P w = .ok td.d w := run_underlying h.under w
theorem TDOk.runSize : (sizeOf t).run P w = .ok td.size w := by
  obtain ⟨i, hi, hs, _⟩ := h.info
  simp [sizeOf, typeInfo, hi, hs]
theorem TDOk.runAgg : (isAgg t).run P w = .ok td.agg w := by
  unfold isAgg
  rw [Sem.run_bind, h.runUnder w, h.agg]
  cases td.d <;> rfl
end types

/-! ### One cell, many cells -/
theorem one_conc (ρ : Env) (π : Pl) (v : V) (h : v.one = true) : (v.conc ρ π).oneCell' = true := by
  induction v using V.rec (motive_2 := fun _ => True) with
  | ite c a b ia ib =>
    simp only [V.one, Bool.and_eq_true] at h
    rw [conc_ite]
    split
    · exact ia h.1
    · exact ib h.2
  | nil => trivial
  | cons => trivial
  | _ => simp_all [V.one, V.conc, Value.oneCell']
theorem allOne_iff : ∀ {l : List V}, allOne l = true → ∀ v ∈ l, v.one = true
  | [], _, _, hm => by simp at hm
  | v :: l, h, u, hm => by
    unfold allOne at h
    cases hv : v.one with
    | true =>
      rw [hv] at h
      rcases List.mem_cons.1 hm with rfl | hm
      · exact hv
      · exact allOne_iff h u hm
    | false => rw [hv] at h; simp at h
theorem concs_len (ρ : Env) (π : Pl) (l : List V) : (V.concs ρ π l).length = l.length := by rw [concs_map]; simp
theorem concs_append (ρ : Env) (π : Pl) (l m : List V) : V.concs ρ π (l ++ m) = V.concs ρ π l ++ V.concs ρ π m := by simp [concs_map]
theorem concs_take (ρ : Env) (π : Pl) (l : List V) (n : Nat) : V.concs ρ π (l.take n) = (V.concs ρ π l).take n := by simp [concs_map]
theorem concs_drop (ρ : Env) (π : Pl) (l : List V) (n : Nat) : V.concs ρ π (l.drop n) = (V.concs ρ π l).drop n := by simp [concs_map]
theorem concs_get (ρ : Env) (π : Pl) (l : List V) (n : Nat) : (V.concs ρ π l)[n]? = (l[n]?).map (V.conc ρ π) := by simp [concs_map]
theorem cells_conc (ρ : Env) (π : Pl) (v : V) (h : v.isIte = false) : (v.conc ρ π).cells.toList = V.concs ρ π v.cells := by
  cases v <;> first | (simp [V.isIte] at h; done) | simp [V.conc, V.cells, Value.cells, V.concs]
theorem addr_add (b o i : Nat) : (⟨b, o, none⟩ : Addr).add i = ⟨b, o + i, none⟩ := by unfold Addr.add; split <;> simp_all

section mem
variable {P : Program} {ρ : Env} {π : Pl} {h : H} {w : World}
theorem RepH.cellsObj (hr : RepH ρ π h w) {b : Nat} {c : List V} {e : TypeId} {wd : Option Nat} (hb : h.get b = some (.cells c e wd)) :
    ∃ spare : List Value, w.heap[(π b).1]? = some (.cells (V.concs ρ π c ++ spare).toArray e (0, 0)) ∧ wideIs wd c.length spare (π b).2 := by
  obtain ⟨ob, h1, spare, rfl, h3⟩ := hr.obj b _ hb
  exact ⟨spare, h1, h3⟩
/-- A row that may be read. -/
theorem RepH.row (hr : RepH ρ π h w) {b : Nat} {c : List V} (hb : rowAt h b = some c) : ∃ (spare : List Value) (e : TypeId) (fr : Nat × Nat), w.heap[(π b).1]? = some (.cells (V.concs ρ π c ++ spare).toArray e fr) := by
  unfold rowAt at hb
  split at hb
  · rename_i e wd hg
    injection hb with hb
    subst hb
    obtain ⟨spare, h1, _⟩ := hr.cellsObj hg
    exact ⟨spare, _, _, h1⟩
  · rename_i hg
    injection hb with hb
    subst hb
    obtain ⟨ob, h1, ⟨e, fr, hob⟩, _⟩ := hr.obj b _ hg
    rw [hob] at h1
    exact ⟨[], e, fr, by simpa using h1⟩
  · simp at hb
theorem load_cells (hr : RepH ρ π h w) {b off n : Nat} {cs : List V} (hc : cellsAt h b off n = some cs) :
    (loadCells ⟨(π b).1, off, none⟩ n).run P w = .ok (V.concs ρ π cs).toArray w ∧ cs.length = n := by
  unfold cellsAt at hc
  split at hc
  · rename_i c hb
    obtain ⟨spare, e, fr, h1⟩ := hr.row hb
    obtain ⟨h2, h3, h4⟩ := takeN_eq _ _ _ hc
    rw [dropN_eq] at h2 h4
    refine ⟨?_, h3⟩
    have := run_loadCells_list (P := P) w ⟨(π b).1, off, none⟩ (V.concs ρ π cs) (fun j v hv => by
      rw [addr_add, cell_of_row w _ _ _ _ _ h1]
      have hj : j < cs.length := by
        have := List.getElem?_eq_some_iff.1 hv
        obtain ⟨hj, _⟩ := this
        rwa [concs_len] at hj
      rw [← h2, concs_take, concs_drop] at hv
      rw [List.getElem?_take, if_pos (by omega), List.getElem?_drop] at hv
      simp only [List.getElem?_toArray]
      rw [List.getElem?_append_left]
      · exact hv
      · rw [concs_len]; simp at h4; omega)
    rw [concs_len, h3] at this
    exact this
  · simp at hc
theorem add_add (a : Addr) (x y : Nat) : (a.add x).add y = a.add (x + y) := by
  unfold Addr.add
  by_cases hx : x = 0
  · simp [hx]
  · by_cases hy : y = 0
    · simp [hx, hy]
    · simp [hx, hy, Nat.add_assoc]
theorem add_plain {a : Addr} (h : a.spot = none) (x : Nat) : a.add x = ⟨a.block, a.off + x, none⟩ := by
  unfold Addr.add
  obtain ⟨b, o, s⟩ := a
  simp only at h
  subst h
  by_cases hx : x = 0 <;> simp [hx]
theorem win_lt {off n es : Nat} {m : Int} (h1 : off % es + n ≤ es) (h2 : ((off / es : Nat) : Int) < m) : off + n ≤ m.toNat * es := by
  have h3 : off / es + 1 ≤ m.toNat := by omega
  have h4 : (off / es + 1) * es ≤ m.toNat * es := Nat.mul_le_mul_right _ h3
  have h5 := Nat.div_add_mod off es
  rw [Nat.add_mul, Nat.one_mul, Nat.mul_comm (off / es)] at h4
  omega
theorem win_cells (hr : RepH ρ π h w) {pc : PC} (hpc : PcOk ρ pc) {b off n : Nat} {cs : List V} (hc : winAt h pc b off n = some cs) :
    (loadCells ((ρ.win b).add off) n).run P w = .ok (V.concs ρ π cs).toArray w ∧ cs.length = n := by
  unfold winAt at hc
  split at hc
  · rename_i tag c len es hb
    split at hc
    rotate_left
    · cases hc
    rename_i hble hdec
    have hin := win_lt (Nat.le_of_ble_eq_true hble) (by have := decAtom_ok hpc hdec; rw [tt_lt] at this; have := of_decide_eq_true this; simpa [X.den] using this)
    obtain ⟨ob, h1, ⟨hs, hbl, arr, t, fr, rfl, hcells⟩, _⟩ := hr.obj b _ hb
    obtain ⟨h2, h3, h4⟩ := takeN_eq _ _ _ hc
    rw [dropN_eq] at h2 h4
    refine ⟨?_, h3⟩
    have := run_loadCells_list (P := P) w ((ρ.win b).add off) (V.concs ρ π cs) (fun j v hv => by
      rw [add_add, add_plain hs, hbl, cell_of_row w _ _ _ _ _ h1]
      have hj : j < cs.length := by
        have := List.getElem?_eq_some_iff.1 hv
        obtain ⟨hj, _⟩ := this
        rwa [concs_len] at hj
      rw [← h2, concs_take, concs_drop] at hv
      rw [List.getElem?_take, if_pos (by omega), List.getElem?_drop, concs_get] at hv
      cases hcj : c[off + j]? with
      | none => rw [hcj] at hv; cases hv
      | some u =>
        rw [hcj] at hv
        rw [hcells _ _ hcj (by omega)]
        exact hv)
    rw [concs_len, h3] at this
    exact this
  · simp at hc
theorem load_var (hr : RepH ρ π h w) {t : TypeId} {td : TD} (ht : TDOk P t td) {b off : Nat} {cs : List V} (hc : cellsAt h b off td.size = some cs) :
    (td.agg = true → (loadVar t ⟨(π b).1, off, none⟩).run P w = .ok ((V.agg cs).conc ρ π) w) ∧
    (td.agg = false → ∀ v, cs = [v] → (loadVar t ⟨(π b).1, off, none⟩).run P w = .ok (v.conc ρ π) w) := by
  obtain ⟨hl, hn⟩ := load_cells (P := P) hr hc
  constructor
  · intro ha
    simp [loadVar, ht.runAgg, ha, ht.runSize, hl, V.conc]
  · intro ha v hv
    subst hv
    unfold cellsAt at hc
    split at hc
    · rename_i c hb
      obtain ⟨spare, e, fr, h1⟩ := hr.row hb
      obtain ⟨h2, h3, h4⟩ := takeN_eq _ _ _ hc
      rw [dropN_eq] at h2 h4
      simp only [loadVar, Sem.run_bind, ht.runAgg, ha, Result.andThen_ok, Bool.false_eq_true, if_false, run_load, cell_of_row w _ _ _ _ _ h1]
      have hs : td.size = 1 := by simpa using h3.symm
      rw [hs] at h2 h4
      have hv : c[off]? = some v := by
        have := congrArg (fun l => l[0]?) h2
        simpa [List.getElem?_take, List.getElem?_drop] using this
      have : (V.concs ρ π c ++ spare).toArray[off]? = some (v.conc ρ π) := by
        simp only [List.getElem?_toArray]
        rw [List.getElem?_append_left (by rw [concs_len]; simp at h4; omega), concs_get, hv]
        rfl
      rw [this]
    · simp at hc

theorem load_win (hr : RepH ρ π h w) {pc : PC} (hpc : PcOk ρ pc) {t : TypeId} {td : TD} (ht : TDOk P t td) {b off : Nat} {cs : List V} (hc : winAt h pc b off td.size = some cs) :
    (td.agg = true → (loadVar t ((ρ.win b).add off)).run P w = .ok ((V.agg cs).conc ρ π) w) ∧
    (td.agg = false → ∀ v, cs = [v] → (loadVar t ((ρ.win b).add off)).run P w = .ok (v.conc ρ π) w) := by
  obtain ⟨hl, hn⟩ := win_cells (P := P) hr hpc hc
  constructor
  · intro ha
    simp [loadVar, ht.runAgg, ha, ht.runSize, hl, V.conc]
  · intro ha v hv
    subst hv
    unfold winAt at hc
    split at hc
    · rename_i tag c len es hb
      split at hc
      rotate_left
      · cases hc
      rename_i hble hdec
      have hin := win_lt (Nat.le_of_ble_eq_true hble) (by have := decAtom_ok hpc hdec; rw [tt_lt] at this; have := of_decide_eq_true this; simpa [X.den] using this)
      obtain ⟨ob, h1, ⟨hsp, hbl, arr, ty, fr, rfl, hcells⟩, _⟩ := hr.obj b _ hb
      rw [add_plain hsp, hbl]
      obtain ⟨h2, h3, h4⟩ := takeN_eq _ _ _ hc
      rw [dropN_eq] at h2 h4
      simp only [loadVar, Sem.run_bind, ht.runAgg, ha, Result.andThen_ok, Bool.false_eq_true, if_false, run_load, cell_of_row w _ _ _ _ _ h1]
      have hs : td.size = 1 := by simpa using h3.symm
      rw [hs] at h2 h4
      have hv : c[off]? = some v := by
        have := congrArg (fun l => l[0]?) h2
        simpa [List.getElem?_take, List.getElem?_drop] using this
      rw [hcells _ _ hv (by omega)]
    · simp at hc

/-- What is as it was: all blocks that have no name. -/
structure Mv (ρ : Env) (π : Pl) (h : H) (n : Nat) (w : World) (h' : H) (n' : Nat) (w' : World) : Prop where
  rep : RepH ρ π h' w'
  dom : ∀ i o, h'.get i = some o → (∃ o0, h.get i = some o0) ∨ (n ≤ i ∧ i < n')
  sub : ∀ i o, h'.get i = some o → w.heap.size ≤ (π i).1 ∨ ∃ i0 o0, h.get i0 = some o0 ∧ (π i0).1 = (π i).1
  keep : ∀ j, j < w.heap.size → (∀ i o, h.get i = some o → (π i).1 ≠ j) → w'.heap[j]? = w.heap[j]?
  size : w.heap.size ≤ w'.heap.size
  same : w'.tape = w.tape ∧ w'.os = w.os ∧ w'.output = w.output
theorem Mv.refl (hr : RepH ρ π h w) (n : Nat) : Mv ρ π h n w h n w where
  rep := hr
  dom := fun _ o hi => .inl ⟨o, hi⟩
  sub := fun i o hi => .inr ⟨i, o, hi, rfl⟩
  keep := fun _ _ _ => rfl
  size := Nat.le_refl _
  same := ⟨rfl, rfl, rfl⟩
/-- A block's contents are turned. -/
theorem Mv.turn (hr : RepH ρ π h w) (n : Nat) {b : Nat} {o o' : SObj} {ob : Obj} (hb : h.get b = some o) (ho : o'.is ρ π b ob) :
    Mv ρ π h n w (h.set b o') n { w with heap := w.heap.setIfInBounds (π b).1 ob } := by
  obtain ⟨ob0, h1, _⟩ := hr.obj b o hb
  have hlt : (π b).1 < w.heap.size := (Array.getElem?_eq_some_iff.1 h1).1
  have hget : ∀ i x, (h.set b o').get i = some x → ∃ x0, h.get i = some x0 := by
    intro i x hi
    by_cases e : b = i
    · subst e; exact ⟨o, hb⟩
    · rw [T.get_set_other _ _ e] at hi; exact ⟨x, hi⟩
  refine ⟨⟨?_, ?_⟩, ?_, ?_, ?_, ?_, ⟨rfl, rfl, rfl⟩⟩
  · intro i x hi
    by_cases e : b = i
    · subst e
      rw [T.get_set_same] at hi
      cases hi
      exact ⟨ob, by simp [hlt], ho⟩
    · rw [T.get_set_other _ _ e] at hi
      obtain ⟨x', h2, h3⟩ := hr.obj i x hi
      refine ⟨x', ?_, h3⟩
      have : (π b).1 ≠ (π i).1 := fun e' => e (hr.inj b i _ _ hb hi e')
      rw [← h2]
      simp only [Array.getElem?_setIfInBounds]
      rw [if_neg this]
  · intro i j x y hi hj he
    obtain ⟨x0, h2⟩ := hget i x hi
    obtain ⟨y0, h3⟩ := hget j y hj
    exact hr.inj i j _ _ h2 h3 he
  · intro i x hi; exact .inl (hget i x hi)
  · intro i x hi; obtain ⟨x0, h2⟩ := hget i x hi; exact .inr ⟨i, x0, h2, rfl⟩
  · intro j hj hne
    simp only [Array.getElem?_setIfInBounds]
    rw [if_neg (hne b o hb)]
  · simp
/-- The same, but for what is said of one block. -/
theorem Mv.other {h : H} {n n' : Nat} {w' : World} {b : Nat} {o1 o2 : SObj} (m : Mv ρ π h n w (h.set b o1) n' w') (ho : ∀ ob, o1.is ρ π b ob → o2.is ρ π b ob) : Mv ρ π h n w (h.set b o2) n' w' := by
  have get : ∀ i x, (h.set b o2).get i = some x → ∃ x1, (h.set b o1).get i = some x1 ∧ (∀ ob, x1.is ρ π i ob → x.is ρ π i ob) := by
    intro i x hi
    by_cases e : b = i
    · subst e
      rw [T.get_set_same] at hi
      cases hi
      exact ⟨o1, T.get_set_same _ _ _, ho⟩
    · rw [T.get_set_other _ _ e] at hi
      exact ⟨x, by rw [T.get_set_other _ _ e]; exact hi, fun _ h => h⟩
  refine ⟨⟨fun i x hi => ?_, fun i j x y hi hj he => ?_⟩, fun i x hi => ?_, fun i x hi => ?_, m.keep, m.size, m.same⟩
  · obtain ⟨x1, h1, h2⟩ := get i x hi
    obtain ⟨ob, h3, h4⟩ := m.rep.obj i x1 h1
    exact ⟨ob, h3, h2 ob h4⟩
  · obtain ⟨x1, h1, _⟩ := get i x hi
    obtain ⟨y1, h2, _⟩ := get j y hj
    exact m.rep.inj i j _ _ h1 h2 he
  · obtain ⟨x1, h1, _⟩ := get i x hi
    exact m.dom i x1 h1
  · obtain ⟨x1, h1, _⟩ := get i x hi
    exact m.sub i x1 h1
/-- A new block. -/
theorem Mv.new (hr : RepH ρ π h w) {n : Nat} {o : SObj} {ob : Obj} (hn : (π n).1 = w.heap.size) (ho : o.is ρ π n ob) :
    Mv ρ π h n w (h.set n o) (n + 1) { w with heap := w.heap.push ob } := by
  have hlt : ∀ i x, h.get i = some x → (π i).1 < w.heap.size := fun i x hi => by
    obtain ⟨ob0, h1, _⟩ := hr.obj i x hi
    exact (Array.getElem?_eq_some_iff.1 h1).1
  refine ⟨⟨?_, ?_⟩, ?_, ?_, ?_, ?_, ⟨rfl, rfl, rfl⟩⟩
  · intro i x hi
    by_cases e : n = i
    · subst e
      rw [T.get_set_same] at hi
      cases hi
      exact ⟨ob, by simp [hn], ho⟩
    · rw [T.get_set_other _ _ e] at hi
      obtain ⟨x', h2, h3⟩ := hr.obj i x hi
      exact ⟨x', by rw [← h2]; have := hlt i x hi; simp [Array.getElem?_push, Nat.ne_of_lt this], h3⟩
  · intro i j x y hi hj he
    by_cases e : n = i
    · by_cases e' : n = j
      · rw [← e, ← e']
      · rw [T.get_set_other _ _ e'] at hj
        have := hlt j y hj
        subst e; omega
    · rw [T.get_set_other _ _ e] at hi
      by_cases e' : n = j
      · have := hlt i x hi
        subst e'; omega
      · rw [T.get_set_other _ _ e'] at hj
        exact hr.inj i j _ _ hi hj he
  · intro i x hi
    by_cases e : n = i
    · exact .inr (by omega)
    · rw [T.get_set_other _ _ e] at hi; exact .inl ⟨x, hi⟩
  · intro i x hi
    by_cases e : n = i
    · subst e; exact .inl (by omega)
    · rw [T.get_set_other _ _ e] at hi; exact .inr ⟨i, x, hi, rfl⟩
  · intro j hj _
    simp [Array.getElem?_push, Nat.ne_of_lt hj]
  · simp
theorem putN_some {α : Type} : ∀ (l : List α) (n : Nat) (a : α), n < l.length → ∃ r, putN l n [a] = some r
  | [], n, a, h => by simp at h
  | x :: l, 0, a, _ => ⟨[a] ++ l, by unfold putN; simp [takeN, dropN_eq]⟩
  | x :: l, n + 1, a, h => by
    obtain ⟨r, hr⟩ := putN_some l n a (by simpa using h)
    exact ⟨x :: r, by unfold putN; simp only [hr]⟩
theorem store_cells (hr : RepH ρ π h w) {b off : Nat} {vs : List V} {h' : H} (hp : putAt h b off vs = some h') (n : Nat) :
    ∃ w', (storeCells ⟨(π b).1, off, none⟩ (V.concs ρ π vs)).run P w = .ok () w' ∧ Mv ρ π h n w h' n w' := by
  unfold putAt at hp
  split at hp
  · rename_i c e wd hb
    split at hp
    · rename_i c' ha hc
      simp only [Option.some.injEq] at hp
      subst hp
      obtain ⟨spare, h1, hs⟩ := hr.cellsObj hb
      obtain ⟨h2, h3⟩ := putN_eq _ _ _ _ hc
      have hst := run_storeCells_at (P := P) (π b).1 off e (V.concs ρ π vs) 0 _ w h1 (by simp only [List.size_toArray, List.length_append, concs_len]; omega) (fun v hv => by
        rw [concs_map] at hv
        obtain ⟨u, hu, rfl⟩ := List.mem_map.1 hv
        exact one_conc ρ π u (allOne_iff ha u hu))
      have hlt : (π b).1 < w.heap.size := (Array.getElem?_eq_some_iff.1 h1).1
      have e1 : w.setRow (π b).1 (List.take (off + 0) (V.concs ρ π c ++ spare).toArray.toList ++ V.concs ρ π vs ++ List.drop (off + 0 + (V.concs ρ π vs).length) (V.concs ρ π c ++ spare).toArray.toList).toArray =
          { w with heap := w.heap.setIfInBounds (π b).1 (.cells (V.concs ρ π c' ++ spare).toArray e (0, 0)) } := by
        unfold World.setRow
        congr 1
        apply Array.ext_getElem?
        intro j
        simp only [Array.getElem?_modify, Array.getElem?_setIfInBounds]
        by_cases ej : (π b).1 = j
        · subst ej
          simp only [if_true, h1, hlt, Option.map_some]
          congr 2
          rw [h2, concs_append, concs_append, concs_take, concs_drop]
          simp only [Nat.add_zero, concs_len]
          rw [List.take_append_of_le_length (by rw [concs_len]; omega), List.drop_append_of_le_length (by rw [concs_len]; omega)]
          simp
        · simp [ej]
      exact ⟨_, hst, e1 ▸ Mv.turn hr n (o' := .cells c' e wd) hb ⟨spare, rfl, by rw [show c'.length = c.length by rw [h2]; simp; omega]; exact hs⟩⟩
    · simp at hp
  · simp at hp
theorem set_seg {α : Type} (l : List α) : ∀ (off n m : Nat) (u : α), m < n → off + n ≤ l.length → l.take off ++ ((l.drop off).take n).set m u ++ l.drop (off + n) = l.take (off + m) ++ [u] ++ l.drop (off + m + 1) := by
  induction l with
  | nil => intro off n m u h1 h2; simp at h2; omega
  | cons x l ih =>
    intro off n m u h1 h2
    cases off with
    | zero =>
      cases n with
      | zero => omega
      | succ n =>
        cases m with
        | zero => simp
        | succ m =>
          have := ih 0 n m u (by omega) (by simp at h2; omega)
          simpa using this
    | succ off =>
      have := ih off n m u h1 (by simp at h2; omega)
      rw [show off + 1 + n = (off + n) + 1 by omega, show off + 1 + m = (off + m) + 1 by omega]
      simpa using this
/-- One of so many cells is written to. -/
theorem store_open (hr : RepH ρ π h w) {b off n m : Nat} {i : X} {u : V} {cs : List V} {h' : H} (hc : cellsAt h b off n = some cs) (hp : putAt h b off (symPut i u 0 cs) = some h') (hu : u.one = true) (hi : i.den ρ = (m : Int)) (hm : m < n) (n0 : Nat) :
    ∃ w', (storeCells ⟨(π b).1, off + m, none⟩ [u.conc ρ π]).run P w = .ok () w' ∧ Mv ρ π h n0 w h' n0 w' := by
  unfold putAt at hp
  split at hp
  · rename_i c e wd hb
    split at hp
    · rename_i c' ha hc'
      simp only [Option.some.injEq] at hp
      subst hp
      unfold cellsAt rowAt at hc
      rw [hb] at hc
      dsimp only at hc
      obtain ⟨h1, h2, h3⟩ := takeN_eq _ _ _ hc
      rw [dropN_eq] at h1 h3
      have hlen : off + n ≤ c.length ∨ n = 0 := by simp at h3; omega
      have hoff : off + m < c.length := by omega
      obtain ⟨c2, hc2⟩ := putN_some c (off + m) u hoff
      have hput : putAt h b (off + m) [u] = some (h.set b (.cells c2 e wd)) := by
        unfold putAt
        rw [hb]
        dsimp only
        rw [show allOne [u] = true from by simp [allOne, hu], hc2]
      obtain ⟨w', h4, h5⟩ := store_cells (P := P) hr hput n0
      refine ⟨w', by simpa [V.concs] using h4, h5.other ?_⟩
      obtain ⟨p1, p2⟩ := putN_eq _ _ _ _ hc2
      obtain ⟨q1, q2⟩ := putN_eq _ _ _ _ hc'
      rw [symPut_len] at q1 q2
      have hcs : V.concs ρ π c' = V.concs ρ π c2 := by
        rw [p1, q1]
        simp only [concs_append, concs_take, concs_drop, V.concs]
        rw [symPut_conc cs 0 m (by rw [hi]; simp), ← h1]
        simp only [concs_take, concs_drop]
        rw [show (List.take n (List.drop off c)).length = n by rw [h1]; exact h2]
        have hlc : (V.concs ρ π c).length = c.length := concs_len ρ π c
        generalize V.concs ρ π c = l at *
        exact set_seg l off n m _ hm (by omega)
      have hl2 : c'.length = c2.length := by rw [← concs_len ρ π, hcs, concs_len]
      rintro ob ⟨spare, e1, e2⟩
      exact ⟨spare, by rw [hcs]; exact e1, by rw [hl2]; exact e2⟩
    · simp at hp
  · simp at hp
theorem load_open (hr : RepH ρ π h w) {b off n m : Nat} {cs : List V} (hc : cellsAt h b off n = some cs) (hm : m < n) : ∃ v, cs[m]? = some v ∧ w.cell? ⟨(π b).1, off + m, none⟩ = some (v.conc ρ π) := by
  unfold cellsAt at hc
  split at hc
  · rename_i c hb
    obtain ⟨spare, e, fr, h1⟩ := hr.row hb
    obtain ⟨h2, h3, h4⟩ := takeN_eq _ _ _ hc
    rw [dropN_eq] at h2 h4
    have hj : m < cs.length := by omega
    have hv : c[off + m]? = some cs[m] := by
      have := congrArg (fun l => l[m]?) h2
      simp only [List.getElem?_take, List.getElem?_drop] at this
      rw [if_pos hm] at this
      rw [this, List.getElem?_eq_getElem hj]
    refine ⟨cs[m], List.getElem?_eq_getElem hj, ?_⟩
    rw [cell_of_row w _ _ _ _ _ h1]
    simp only [List.getElem?_toArray]
    rw [List.getElem?_append_left (by rw [concs_len]; exact (List.getElem?_eq_some_iff.1 hv).1), concs_get, hv]
    rfl
  · simp at hc
end mem
end Go.Proofs.YtcachlbljjpjdaaGreatDoor
