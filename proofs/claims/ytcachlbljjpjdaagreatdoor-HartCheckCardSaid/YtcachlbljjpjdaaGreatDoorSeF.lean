/- Symbolic execution, part 15: every operation; states that are placed, and how they go on. No condition. -/
import Derived.Test.YtcachlbljjpjdaaGreatDoorSeE
namespace Go.Proofs.YtcachlbljjpjdaaGreatDoor
open Go

section ops
variable {P : Program} {cx : Cx} {ρ : Env} {π : Pl} {w : World} {tm : List V} {a : Act} {st st' : St} {r : OR} {o : Oper}
theorem evOp0_ok (c : Ctx P cx ρ π st.h w tm a) (hpc : PcOk ρ st.pc) (h : (evOp0 cx tm st o).sel ρ = some (r, st')) : OpOk P cx tm ρ π st st' w ((execOp a.eval o).run P w) r := by
  unfold evOp0 at h
  split at h
  case h_1 ho => exact ok_move c hpc (.inl ho) h
  case h_2 ho => exact ok_move c hpc (.inr ho) h
  case h_3 ho => exact ok_pick c hpc ho h
  case h_4 ho => exact ok_alloc c hpc ho h
  case h_5 ho => exact ok_box c hpc ho h
  case h_6 ho => exact ok_build c hpc ho h
  case h_7 ho => exact ok_buildSlice c hpc ho h
  case h_8 ho => exact ok_load c hpc ho h
  case h_9 ho => exact ok_store c hpc ho h
  case h_10 ho => exact ok_nilCheck c hpc ho h
  case h_11 ho => exact ok_bin c hpc ho h
  case h_12 ho => exact ok_un c hpc ho h
  case h_13 ho => exact ok_convert c hpc ho h
  case h_14 ho => exact ok_iface c hpc ho h
  case h_15 ho => exact ok_func c hpc ho h
  case h_16 ho => exact ok_map c hpc ho h
  case h_17 ho => exact ok_makeSlice c hpc ho h
  case h_18 ho => exact ok_slice c hpc ho h
  case h_19 ho => exact ok_fieldAddr c hpc ho h
  case h_20 ho => exact ok_field c hpc ho h
  case h_21 ho => exact ok_indexAddr c hpc ho h
  case h_22 ho => exact ok_index c hpc ho h
  case h_23 ho => exact ok_lookup c hpc ho h
  case h_24 ho => exact ok_update c hpc (.inl ho) h
  case h_25 ho => exact ok_update c hpc (.inr ho) h
  case h_26 ho => exact ok_assert c hpc ho h
  case h_27 ho => exact ok_extract c hpc ho h
  case h_28 cl ho =>
    by_cases hv : ∃ b, cl.callee = .builtin b
    · obtain ⟨b, hb⟩ := hv
      unfold oCall at h
      rw [hb] at h
      simp only at h
      split at h
      · rename_i args eargs
        have ha := evArgs_ok c eargs
        unfold evBuiltin at h
        split at h
        · exact ok_append c hpc ho hb ha h
        · exact ok_copy c hpc ho hb ha h
        · exact ok_len c hpc ho hb ha h
        · split at h
          · exact ok_max (gt := true) c hpc ho hb ha h
          · simp [R.sel] at h
        · split at h
          · exact ok_max (gt := false) c hpc ho hb ha h
          · simp [R.sel] at h
        · simp [R.sel] at h
      · simp [R.sel] at h
    · exact ok_call c hpc ho (fun b e => hv ⟨b, e⟩) h
  case h_29 ho => exact ok_defer c hpc ho h
  case h_30 ho => exact ok_panic c hpc ho h
  case h_31 => simp [R.sel] at h
theorem evOp_ok (c : Ctx P cx ρ π st.h w tm a) (hpc : PcOk ρ st.pc) (h : (evOp cx tm st o).sel ρ = some (r, st')) : OpOk P cx tm ρ π st st' w ((execOp a.eval o).run P w) r := by
  unfold evOp at h
  obtain ⟨⟨r0, st0⟩, h1, h2⟩ := sel_bind h
  have k := evOp0_ok c hpc h1
  dsimp only at h2
  unfold resolveV at h2
  split at h2
  · rename_i v
    obtain ⟨st1, v1, hl, hv, h3⟩ := splitV_sel k.pc h2
    simp only [R.sel, Option.some.injEq, Prod.mk.injEq] at h3
    obtain ⟨rfl, rfl⟩ := h3
    refine ⟨hl.pc, by rw [hl.n]; exact k.n, fun hn => ?_⟩
    rw [hl.n] at hn
    obtain ⟨w', e1, e2⟩ := k.ran hn
    exact ⟨w', by rw [hv π]; exact e1, by rw [hl.h, hl.n]; exact e2⟩
  · simp only [R.sel, Option.some.injEq, Prod.mk.injEq] at h2
    obtain ⟨rfl, rfl⟩ := h2
    exact k
end ops

/-! ### Names that are known -/
abbrev Known (S : Nat → Prop) (π π0 : Pl) : Prop := ∀ i, S i → π i = π0 i
def Ext (S : Nat → Prop) (n n' : Nat) (i : Nat) : Prop := S i ∨ (n ≤ i ∧ i < n')
structure At (ρ : Env) (S : Nat → Prop) (π0 : Pl) (h : H) (w : World) : Prop where
  rep : ∀ π, Known S π π0 → RepH ρ π h w
  dom : ∀ i o, h.get i = some o → S i
def Fresh (S : Nat → Prop) (n n' : Nat) : Prop := ∀ i, n ≤ i → i < n' → ¬ S i
/-- How a run goes on: names that were known stay, new ones come; what has no name stays as it was. -/
structure Goes (ρ : Env) (S : Nat → Prop) (π0 : Pl) (h : H) (w : World) (n : Nat) (π1 : Pl) (h' : H) (w' : World) (n' : Nat) : Prop where
  le : n ≤ n'
  known : Known S π1 π0
  at_ : At ρ (Ext S n n') π1 h' w'
  sub : ∀ i o, h'.get i = some o → w.heap.size ≤ (π1 i).1 ∨ ∃ i0 o0, h.get i0 = some o0 ∧ (π0 i0).1 = (π1 i).1
  keep : ∀ j, j < w.heap.size → (∀ i o, h.get i = some o → (π0 i).1 ≠ j) → w'.heap[j]? = w.heap[j]?
  size : w.heap.size ≤ w'.heap.size
  same : w'.tape = w.tape ∧ w'.os = w.os ∧ w'.output = w.output
section
variable {ρ : Env} {S : Nat → Prop} {π0 π1 π2 : Pl} {h h1 h2 : H} {w w1 w2 : World} {n n1 n2 : Nat}
theorem Ext.same {i : Nat} : Ext S n n i ↔ S i := ⟨fun h => h.elim id (fun ⟨a, b⟩ => by omega), .inl⟩
theorem At.congr {S' : Nat → Prop} (a : At ρ S π0 h w) (hs : ∀ i, S i ↔ S' i) : At ρ S' π0 h w := ⟨fun π hk => a.rep π fun i hi => hk i ((hs i).1 hi), fun i o hi => (hs i).1 (a.dom i o hi)⟩
theorem At.heap (a : At ρ S π0 h w) (he : w1.heap = w.heap) : At ρ S π0 h w1 := ⟨fun π hk => (a.rep π hk).heap he, a.dom⟩
theorem Goes.refl (a : At ρ S π0 h w) (n : Nat) : Goes ρ S π0 h w n π0 h w n where
  le := Nat.le_refl _
  known := fun _ _ => rfl
  at_ := a.congr fun _ => Ext.same.symm
  sub := fun i o hi => .inr ⟨i, o, hi, rfl⟩
  keep := fun _ _ _ => rfl
  size := Nat.le_refl _
  same := ⟨rfl, rfl, rfl⟩
theorem Ext.trans (h1 : n ≤ n1) (h2 : n1 ≤ n2) (i : Nat) : Ext (Ext S n n1) n1 n2 i ↔ Ext S n n2 i := by
  unfold Ext
  constructor
  · rintro ((h | h) | h)
    · exact .inl h
    · exact .inr ⟨h.1, by omega⟩
    · exact .inr ⟨by omega, h.2⟩
  · rintro (h | h)
    · exact .inl (.inl h)
    · by_cases hi : i < n1
      · exact .inl (.inr ⟨h.1, hi⟩)
      · exact .inr ⟨by omega, h.2⟩
theorem Goes.trans (g1 : Goes ρ S π0 h w n π1 h1 w1 n1) (g2 : Goes ρ (Ext S n n1) π1 h1 w1 n1 π2 h2 w2 n2) : Goes ρ S π0 h w n π2 h2 w2 n2 where
  le := Nat.le_trans g1.le g2.le
  known := fun i hi => (g2.known i (.inl hi)).trans (g1.known i hi)
  at_ := g2.at_.congr fun i => Ext.trans g1.le g2.le i
  sub := by
    intro i o hi
    rcases g2.sub i o hi with h' | ⟨i0, o0, h0, e⟩
    · exact .inl (Nat.le_trans g1.size h')
    · rcases g1.sub i0 o0 h0 with h' | ⟨i1, o1, h1', e'⟩
      · exact .inl (by rw [← e]; exact h')
      · exact .inr ⟨i1, o1, h1', e'.trans e⟩
  keep := by
    intro j hj hne
    rw [g2.keep j (Nat.lt_of_lt_of_le hj g1.size) ?_, g1.keep j hj hne]
    intro i o hi e
    rcases g1.sub i o hi with h' | ⟨i1, o1, h1', e'⟩
    · omega
    · exact hne i1 o1 h1' (e'.trans e)
  size := Nat.le_trans g1.size g2.size
  same := ⟨g2.same.1.trans g1.same.1, g2.same.2.1.trans g1.same.2.1, g2.same.2.2.trans g1.same.2.2⟩
end
/-- A value that is known. -/
def Says (ρ : Env) (S : Nat → Prop) (π0 : Pl) (v : V) (c : Value) : Prop := ∀ π, Known S π π0 → v.conc ρ π = c
def SaysL (ρ : Env) (S : Nat → Prop) (π0 : Pl) (l : List V) (c : List Value) : Prop := ∀ π, Known S π π0 → V.concs ρ π l = c
def SaysD (ρ : Env) (S : Nat → Prop) (π0 : Pl) (l : List SDef) (c : List Deferred) : Prop := ∀ π, Known S π π0 → l.map (SDef.conc ρ π) = c
section
variable {ρ : Env} {S S' : Nat → Prop} {π0 π1 : Pl}
theorem Known.mono (hs : ∀ i, S i → S' i) {π : Pl} (h : Known S' π π0) : Known S π π0 := fun i hi => h i (hs i hi)
theorem Says.go {v : V} {c : Value} (h : Says ρ S π0 v c) (hk : Known S π1 π0) (hs : ∀ i, S i → S' i) : Says ρ S' π1 v c := fun π hp => h π fun i hi => (hp i (hs i hi)).trans (hk i hi)
theorem SaysL.go {v : List V} {c : List Value} (h : SaysL ρ S π0 v c) (hk : Known S π1 π0) (hs : ∀ i, S i → S' i) : SaysL ρ S' π1 v c := fun π hp => h π fun i hi => (hp i (hs i hi)).trans (hk i hi)
theorem SaysD.go {v : List SDef} {c : List Deferred} (h : SaysD ρ S π0 v c) (hk : Known S π1 π0) (hs : ∀ i, S i → S' i) : SaysD ρ S' π1 v c := fun π hp => h π fun i hi => (hp i (hs i hi)).trans (hk i hi)
end
/-- The globals have their own names. -/
def Globs (cx : Cx) (S : Nat → Prop) (π0 : Pl) : Prop := ∀ g, g < cx.ng → S g ∧ (π0 g).1 = g
theorem Globs.go {cx : Cx} {S S' : Nat → Prop} {π0 π1 : Pl} (h : Globs cx S π0) (hk : Known S π1 π0) (hs : ∀ i, S i → S' i) : Globs cx S' π1 := fun g hg => ⟨hs g (h g hg).1, by rw [hk g (h g hg).1]; exact (h g hg).2⟩

/-! ### An operation, at a placed state -/
/-- What an operation hands back. -/
def Back (P : Program) (ρ : Env) (S : Nat → Prop) (π1 : Pl) (w : World) (res : Result Next) (w' : World) : OR → Prop
  | .val v => ∃ c, res = .ok (.value c) w' ∧ Says ρ S π1 v c
  | .skip => res = .ok .skip w'
  | .enter f args => w' = w ∧ ∃ cs fn, res = .ok (.enter f cs.toArray) w ∧ SaysL ρ S π1 args cs ∧ P.funcs[f]? = some fn
  | .round l args => w' = w ∧ ∃ cs, res = (Instr.yield (π1 l).1 cs.toArray).run P w ∧ SaysL ρ S π1 args cs
  | .panic v => w' = w ∧ ∃ c, res = .halt (.panic c) w ∧ Says ρ S π1 v c
  | .defer d => w' = w ∧ ∃ c, res = .ok (.defer c) w ∧ ∀ π, Known S π π1 → d.conc ρ π = c
theorem op_goes {P : Program} {cx : Cx} {ρ : Env} {S : Nat → Prop} {π0 : Pl} {w : World} {tm : List V} {a : Act} {st st' : St} {r : OR} {o : Oper} {tc : List Value}
    (htt : TOk P cx.tt) (hft : FOk P cx.ft) (at0 : At ρ S π0 st.h w) (hg : Globs cx S π0) (htm : SaysL ρ S π0 tm tc) (ha : a.tmps = tc.toArray) (hpc : PcOk ρ st.pc)
    (h : (evOp cx tm st o).sel ρ = some (r, st')) (hf : Fresh S st.n st'.n) :
    PcOk ρ st'.pc ∧ ∃ π1 w', Goes ρ S π0 st.h w st.n π1 st'.h w' st'.n ∧ Back P ρ (Ext S st.n st'.n) π1 w ((execOp a.eval o).run P w) w' r := by
  have mk : ∀ π, Known S π π0 → OpOk P cx tm ρ π st st' w ((execOp a.eval o).run P w) r := fun π hk =>
    evOp_ok ⟨htt, hft, at0.rep π hk, by rw [ha, htm π hk], fun g hg' => by rw [hk g (hg g hg').1]; exact (hg g hg').2⟩ hpc h
  have h0 := mk π0 fun _ _ => rfl
  refine ⟨h0.pc, ?_⟩
  -- the placement behind it
  let pl := resPlace ((execOp a.eval o).run P w)
  let π1 : Pl := fun i => if i = st.n ∧ st.n < st'.n then pl else π0 i
  have k1 : Known S π1 π0 := by
    intro i hi
    simp only [π1]
    split
    · rename_i hc
      exact absurd (hc.1 ▸ hi) (hf st.n (Nat.le_refl _) hc.2)
    · rfl
  have pn : ∀ π, Known (Ext S st.n st'.n) π π1 → Known S π π0 ∧ (st.n < st'.n → π st.n = pl) := by
    intro π hk
    refine ⟨fun i hi => (hk i (.inl hi)).trans (k1 i hi), fun hn => ?_⟩
    rw [hk st.n (.inr ⟨Nat.le_refl _, hn⟩)]
    simp [π1, hn]
  have ran : ∀ π, Known (Ext S st.n st'.n) π π1 → Ran P cx tm ρ π st st' w ((execOp a.eval o).run P w) r := fun π hk => (mk π (pn π hk).1).ran (pn π hk).2
  have r1 := ran π1 fun _ _ => rfl
  -- one world for all placements
  have goes : ∀ w', (∀ π, Known (Ext S st.n st'.n) π π1 → Mv ρ π st.h st.n w st'.h st'.n w') → Goes ρ S π0 st.h w st.n π1 st'.h w' st'.n := by
    intro w' hm
    have m1 := hm π1 fun _ _ => rfl
    refine ⟨h0.n, k1, ⟨fun π hk => (hm π hk).rep, fun i o hi => ?_⟩, ?_, ?_, m1.size, m1.same⟩
    · rcases m1.dom i o hi with ⟨o0, h0'⟩ | h0'
      · exact .inl (at0.dom i o0 h0')
      · exact .inr h0'
    · intro i o hi
      rcases m1.sub i o hi with h' | ⟨i0, o0, h0', e⟩
      · exact .inl h'
      · exact .inr ⟨i0, o0, h0', by rw [← k1 i0 (at0.dom i0 o0 h0')]; exact e⟩
    · intro j hj hne
      exact m1.keep j hj fun i o hi => by rw [k1 i (at0.dom i o hi)]; exact hne i o hi
  have stay : st'.h = st.h → st'.n = st.n → Goes ρ S π0 st.h w st.n π1 st'.h w st'.n := by
    intro e1 e2
    have e3 : π1 = π0 := by
      funext i
      simp only [π1]
      split
      · omega
      · rfl
    rw [e1, e2, e3]
    exact Goes.refl at0 _
  cases r with
  | val v =>
    obtain ⟨w', e, _⟩ := r1
    refine ⟨π1, w', goes w' fun π hk => ?_, _, e, fun π hk => ?_⟩
    · obtain ⟨w2, e2, m⟩ := ran π hk
      rw [e] at e2
      injection e2 with _ e4
      rw [e4]
      exact m
    · obtain ⟨w2, e2, _⟩ := ran π hk
      rw [e] at e2
      injection e2 with e3 _
      injection e3 with e4
      exact e4.symm
  | skip =>
    obtain ⟨w', e, _⟩ := r1
    refine ⟨π1, w', goes w' fun π hk => ?_, e⟩
    obtain ⟨w2, e2, m⟩ := ran π hk
    rw [e] at e2
    cases e2
    exact m
  | enter f args =>
    obtain ⟨e, e1, e2, fn, hfn⟩ := r1
    refine ⟨π1, w, stay e1 e2, rfl, _, fn, e, fun π hk => ?_, hfn⟩
    obtain ⟨e', _⟩ := ran π hk
    rw [e] at e'
    injection e' with e3 _
    injection e3 with _ e4
    exact (List.toArray_inj e4).symm
  | round l args =>
    obtain ⟨e, e1, e2, fo, os, ef, eo⟩ := r1
    refine ⟨π1, w, stay e1 e2, rfl, _, e, fun π hk => ?_⟩
    have cπ : ∀ π, Known S π π0 → Ctx P cx ρ π st.h w tm a := fun π hk => ⟨htt, hft, at0.rep π hk, by rw [ha, htm π hk], fun g hg' => by rw [hk g (hg g hg').1]; exact (hg g hg').2⟩
    rw [← evArgs_ok (cπ π (pn π hk).1) eo, ← evArgs_ok (cπ π1 k1) eo]
  | panic v =>
    obtain ⟨e, e1, e2⟩ := r1
    refine ⟨π1, w, stay e1 e2, rfl, _, e, fun π hk => ?_⟩
    obtain ⟨e', _⟩ := ran π hk
    rw [e] at e'
    injection e' with e3 _
    injection e3 with e4
    exact e4.symm
  | defer d =>
    obtain ⟨e, e1, e2⟩ := r1
    refine ⟨π1, w, stay e1 e2, rfl, _, e, fun π hk => ?_⟩
    obtain ⟨e', _⟩ := ran π hk
    rw [e] at e'
    injection e' with e3 _
    injection e3 with e4
    exact e4.symm
end Go.Proofs.YtcachlbljjpjdaaGreatDoor
