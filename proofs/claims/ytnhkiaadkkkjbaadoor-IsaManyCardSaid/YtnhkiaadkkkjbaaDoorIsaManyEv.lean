/- IsaMany: isa.Decode and the document's as one function; the law's run over a part of a row. No condition. -/
import Derived.Test.YtnhkiaadkkkjbaaDoorSumOk2
import Derived.Test.YtnhkiaadkkkjbaaDoorSeZ
namespace Go.Proofs.YtnhkiaadkkkjbaaDoor
open Go Go.Proofs Go.RowKit

/-! ### isa.Decode and the document's, as one function -/
def shapeD : V → Bool
  | .tuple [.agg [.int .i64 _, .int .i64 _, .int .i64 _, .int .i64 _, .int .u32 _, .bool _, .bool _], .bool _] => true
  | _ => false
def allLeaves (p : V → Bool) : R Leaf → Bool
  | .ok lf => p lf.v
  | .br _ t f => allLeaves p t && allLeaves p f
  | .stuck _ => true
theorem allLeaves_sel {p : V → Bool} {ρ : Env} {lf : Leaf} : ∀ {r : R Leaf}, allLeaves p r = true → r.sel ρ = some lf → p lf.v = true
  | .ok a, h, e => by
    obtain rfl := Option.some.inj (show some a = some lf from e)
    exact h
  | .br c t f, h, e => by
    simp only [allLeaves, Bool.and_eq_true] at h
    unfold R.sel at e
    split at e
    · exact allLeaves_sel h.1 e
    · exact allLeaves_sel h.2 e
  | .stuck _, _, e => by simp [R.sel] at e
set_option maxRecDepth 100000 in
theorem shapeD_all : allLeaves shapeD sum10_r0 = true := by kernel_rfl
def envR (ro : Nat → Obj) (n : Nat) : Env := { b := n.testBit, v := fun _ => 0, f1 := fun _ _ => 0, f2 := fun _ _ _ => 0, s := fun _ => [], sf := fun _ _ => [], ro := ro, win := fun _ => ⟨0, 0, none⟩ }
def fld (j : Nat) : Value → Int
  | .tuple ⟨[.agg ⟨[.int _ a, .int _ b, .int _ c, .int _ d, .int _ e, .bool x, .bool y]⟩, .bool z]⟩ => match j with
    | 0 => a
    | 1 => b
    | 2 => c
    | 3 => d
    | 4 => e
    | 5 => b2i x
    | 6 => b2i y
    | _ => b2i z
  | _ => 0
noncomputable def decVal (ro : Nat → Obj) (n : Nat) : Value := match sum10_r0.sel (envR ro n) with
  | some lf => lf.v.conc (envR ro n) fun _ => (0, 0)
  | none => .tuple #[]
def symV (i : Nat) : V := .tuple [.agg [.int .i64 (.fn1 0 (.var i)), .int .i64 (.fn1 1 (.var i)), .int .i64 (.fn1 2 (.var i)), .int .i64 (.fn1 3 (.var i)), .int .u32 (.fn1 4 (.var i)), .bool (.fn1 5 (.var i)), .bool (.fn1 6 (.var i))], .bool (.fn1 7 (.var i))]
def symDec (args : List V) (st : St) : R (V × St) := match args with
  | [.int .u32 (.var i)] => match Nat.blt i 60, roThere LStart st.h with
    | true, true => .ok (symV i, { st with n := st.n + 1000 })
    | _, _ => .stuck "symDec"
  | _ => .stuck "symDec"
theorem symV_conc {ro : Nat → Obj} {n : Nat} {lf : Leaf} (h : sum10_r0.sel (envR ro n) = some lf) {ρ : Env} (hf : ρ.f1 = fun j z => fld j (decVal ro z.toNat)) {i : Nat} (hv : ρ.v i = n) (π : Pl) : (symV i).conc ρ π = lf.v.conc (envR ro n) π := by
  have hs := allLeaves_sel shapeD_all h
  have hd : decVal ro n = lf.v.conc (envR ro n) fun _ => (0, 0) := by unfold decVal; rw [h]
  obtain ⟨v, objs, m⟩ := lf
  dsimp only at hs hd ⊢
  unfold shapeD at hs
  split at hs
  · simp only [V.conc, V.concs] at hd
    simp only [symV, V.conc, V.concs, X.tt, X.den, hf, hv, Int.toNat_natCast, hd, fld, b2i_tt]
  · cases hs
set_option maxRecDepth 100000 in
theorem agree0 : agree 1000 sum10_r0 sum11_r0 [(.cube (2 ^ 31) (bitN 31 true), false)] = true := by kernel_rfl
set_option maxRecDepth 100000 in
theorem agree1 : agree 1000 sum10_r0 sum11_r1 [(.cube (2 ^ 31) (bitN 31 true), true)] = true := by kernel_rfl
theorem bit31_pc {ρ : Env} {b : Bool} (h : ρ.b 31 = b) : PcOk ρ [(.cube (2 ^ 31) (bitN 31 true), b)] := fun f hf => by
  obtain rfl := List.mem_singleton.1 hf
  have := cube1 (ρ := ρ) (i := 31) (b := true)
  rw [X.tt, X.den, b2i_tt]
  cases b with
  | true => exact this.2 h
  | false =>
    cases hc : cubeB ρ (2 ^ 31) (bitN 31 true) with
    | false => rfl
    | true => rw [this.1 hc] at h; cases h
theorem word_at {ro : Nat → Obj} {n : Nat} (hn : n < 4294967296) : bvDen (envR ro n) (posL 0 32) .zero = n :=
  word_of (by omega) (by simpa using (by omega : (n : Int) < 4294967296)) fun i _ => by rw [Nat.zero_add]; rfl
theorem low_at {ro : Nat → Obj} {n : Nat} (hn : n < 2147483648) : bvDen (envR ro n) (posL 0 31) .zero = n :=
  word_of (by omega) (by simpa using (by omega : (n : Int) < 2147483648)) fun i _ => by rw [Nat.zero_add]; rfl
theorem high_at {ro : Nat → Obj} {n : Nat} (h1 : 2147483648 ≤ n) (h2 : n < 4294967296) : bvDen (envR ro n) (posL 0 31 ++ [.one]) .zero = n := by
  have e := bits_of (ρ := envR ro n) (o := 0) (k := 31) (n := n) (fun i _ => by rw [Nat.zero_add]; rfl) [.one] .zero
  rw [e]
  have hm : n % 2 ^ 31 = n - 2147483648 := by omega
  rw [hm]
  simp [bvDen, B.den, b2i]
  omega
section
variable {ro : Nat → Obj} {ρ : Env} {c : Cx}
theorem sym10 (h : RoAll ro) (hr : ρ.ro = ro) (hf : ρ.f1 = fun j z => fld j (decVal ro z.toNat)) (hv : ∀ i, i < 60 → 0 ≤ ρ.v i ∧ ρ.v i < 4294967296) (hc : c.ng = 7) : SumAt Tryd.prog c ρ 10 symDec := by
  intro args st v st' hs S π0 w ac n hh ha
  unfold symDec at hs
  split at hs
  · rename_i i
    split at hs
    · rename_i hi hthere
      simp only [R.sel, Option.some.injEq, Prod.mk.injEq] at hs
      obtain ⟨rfl, rfl⟩ := hs
      obtain ⟨v0, v1⟩ := hv i (Nat.le_of_ble_eq_true hi)
      obtain ⟨m, hm⟩ := Int.eq_ofNat_of_zero_le v0
      have hm2 : m < 4294967296 := by omega
      obtain ⟨lf, hl, hn⟩ : ∃ lf, sum10_r0.sel (envR ro m) = some lf ∧ lf.n ≤ 1000 ∧ lf.objs = [] := by
        cases hb : m.testBit 31 with
        | false =>
          obtain ⟨lf, lf', h1, _, _, h4, _, h6, _⟩ := agree_ok (ρ := envR ro m) (bit31_pc hb) agree0
          exact ⟨lf, h1, h4, h6⟩
        | true =>
          obtain ⟨lf, lf', h1, _, _, h4, _, h6, _⟩ := agree_ok (ρ := envR ro m) (bit31_pc hb) agree1
          exact ⟨lf, h1, h4, h6⟩
      obtain ⟨st2, h4, h5, hnw, h6, h7⟩ := leafOf_sel (L := LStart) (ng := 7) (ρ := envR ro m) (r := (ev cx32 4000).call 10 sum10_a0 (stG LStart 7)) (by rw [sum10_0]; exact hl)
      have hargs : SaysL (envR ro m) S π0 sum10_a0 ac := fun π hk => by
        rw [← ha π hk]
        show [Value.int .u32 (bvDen (envR ro m) (posL 0 32) .zero)] = [Value.int .u32 (ρ.v i)]
        rw [word_at hm2, hm]
      have key := leaf_post2 (P := Tryd.prog) (cx := c) (cx0 := cx32) (ρ := ρ) (ρ' := envR ro m) mixed_door tt_ok ft_ok (all32 h rfl) hc rfl LStart_lt (h _ rfl) hr.symm h4 h5 (v' := symV i) (fun π => symV_conc hl hf hm π) rfl (objs := []) (fun x hx => by simp at hx) rfl Tryd.func10 hh hthere hargs (n := n)
      refine key.mono fun e w' hp => ?_
      exact EPost.more (st1 := { h := st.h, n := st.n + (st2.n - 7), pc := st.pc }) (v := symV i) hp (m := st.n + 1000) (by show st.n + (st2.n - 7) ≤ st.n + 1000; omega)
    · simp [R.sel] at hs
  · simp [R.sel] at hs
theorem sym11 (h : RoAll ro) (hr : ρ.ro = ro) (hf : ρ.f1 = fun j z => fld j (decVal ro z.toNat)) (hv : ∀ i, i < 60 → 0 ≤ ρ.v i ∧ ρ.v i < 4294967296) (hc : c.ng = 7) : SumAt Tryd.prog c ρ 11 symDec := by
  intro args st v st' hs S π0 w ac n hh ha
  unfold symDec at hs
  split at hs
  · rename_i i
    split at hs
    · rename_i hi hthere
      simp only [R.sel, Option.some.injEq, Prod.mk.injEq] at hs
      obtain ⟨rfl, rfl⟩ := hs
      obtain ⟨v0, v1⟩ := hv i (Nat.le_of_ble_eq_true hi)
      obtain ⟨m, hm⟩ := Int.eq_ofNat_of_zero_le v0
      have hm2 : m < 4294967296 := by omega
      rcases Nat.lt_or_ge m 2147483648 with hlt | hge
      · have hb : m.testBit 31 = false := Nat.testBit_lt_two_pow (by omega)
        obtain ⟨lf, lf', hl, hl', hsame, _, hn, _, hob⟩ := agree_ok (ρ := envR ro m) (bit31_pc hb) agree0
        obtain ⟨st2, h4, h5, hnw, h6, h7⟩ := leafOf_sel (L := LStart) (ng := 7) (ρ := envR ro m) (r := (ev cx15 4000).call 11 sum11_a0 (stG LStart 7)) (by rw [sum11_0]; exact hl')
        have hargs : SaysL (envR ro m) S π0 sum11_a0 ac := fun π hk => by
          rw [← ha π hk]
          show [Value.int .u32 (bvDen (envR ro m) (posL 0 31) .zero)] = [Value.int .u32 (ρ.v i)]
          rw [low_at hlt, hm]
        have key := leaf_post2 (P := Tryd.prog) (cx := c) (cx0 := cx15) (ρ := ρ) (ρ' := envR ro m) mixed_door tt_ok ft_ok (all15 h rfl) hc rfl LStart_lt (h _ rfl) hr.symm h4 h5 (v' := symV i) (fun π => (symV_conc hl hf hm π).trans (hsame π)) rfl (objs := []) (fun x hx => by simp at hx) rfl Tryd.func11 hh hthere hargs (n := n)
        refine key.mono fun e w' hp => ?_
        exact EPost.more (st1 := { h := st.h, n := st.n + (st2.n - 7), pc := st.pc }) (v := symV i) hp (m := st.n + 1000) (by show st.n + (st2.n - 7) ≤ st.n + 1000; omega)
      · have hb : m.testBit 31 = true := by
          rw [Nat.testBit_eq_decide_div_mod_eq]
          exact decide_eq_true (by omega)
        obtain ⟨lf, lf', hl, hl', hsame, _, hn, _, hob⟩ := agree_ok (ρ := envR ro m) (bit31_pc hb) agree1
        obtain ⟨st2, h4, h5, hnw, h6, h7⟩ := leafOf_sel (L := LStart) (ng := 7) (ρ := envR ro m) (r := (ev cx15 4000).call 11 sum11_a1 (stG LStart 7)) (by rw [sum11_1]; exact hl')
        have hargs : SaysL (envR ro m) S π0 sum11_a1 ac := fun π hk => by
          rw [← ha π hk]
          show [Value.int .u32 (bvDen (envR ro m) (posL 0 31 ++ [.one]) .zero)] = [Value.int .u32 (ρ.v i)]
          rw [high_at hge hm2, hm]
        have key := leaf_post2 (P := Tryd.prog) (cx := c) (cx0 := cx15) (ρ := ρ) (ρ' := envR ro m) mixed_door tt_ok ft_ok (all15 h rfl) hc rfl LStart_lt (h _ rfl) hr.symm h4 h5 (v' := symV i) (fun π => (symV_conc hl hf hm π).trans (hsame π)) rfl (objs := []) (fun x hx => by simp at hx) rfl Tryd.func11 hh hthere hargs (n := n)
        refine key.mono fun e w' hp => ?_
        exact EPost.more (st1 := { h := st.h, n := st.n + (st2.n - 7), pc := st.pc }) (v := symV i) hp (m := st.n + 1000) (by show st.n + (st2.n - 7) ≤ st.n + 1000; omega)
    · simp [R.sel] at hs
  · simp [R.sel] at hs
end

/-! ### The run -/
noncomputable def cxM : Cx := { cx with sm := smOf [(10, symDec), (11, symDec), (13, sumTab LStart 7 sum13), (39, sumTab LStart 7 sum39)] }
def varCells (o : Nat) : Nat → List V
  | 0 => []
  | n + 1 => .int .u32 (.var o) :: varCells (o + 1) n
def manyPc : PC := [(.le (.lit 0) (.var 60), true)]
set_option maxRecDepth 100000 in
theorem isaMany_ev : allTrueW LStart 7 ((ev cxM 4000).call 4 [.wslice 7 0 (.var 60) (.var 61)] (stWin LStart 7 (varCells 0 60) (.var 60) 1 manyPc)) = true := by kernel_rfl
set_option maxRecDepth 100000 in
theorem isaMany_nil : allTrue LStart ((ev cxM 4000).call 4 [.nilslice] stStart) = true := by kernel_rfl
set_option maxRecDepth 100000 in
/-- No word at all: the row is not looked at. -/
theorem isaMany_none : allTrue LStart ((ev cxM 4000).call 4 [.wslice 7 0 (.lit 0) (.var 61)] stStart) = true := by kernel_rfl

end Go.Proofs.YtnhkiaadkkkjbaaDoor
