/- Harts: as values, as what the evaluator takes. No condition. -/
import Derived.Test.YtcachlbljjpjdaaGreatDoorHDoor
namespace Go.Proofs.YtcachlbljjpjdaaGreatDoor
open Go Go.Proofs Go.ChangeShapes Go.WideShapes Go.RowKit

def InU (z : Int) : Prop := 0 ≤ z ∧ z ≤ 4294967295
def InI (z : Int) : Prop := -9223372036854775808 ≤ z ∧ z ≤ 9223372036854775807
def hartW (id pc : Int) (regs : List Int) (cause : Int) : Value := .agg (Value.int .i64 id :: Value.int .u32 pc :: (regs.map (Value.int .u32) ++ [Value.int .i64 cause])).toArray
structure HartOk (id pc : Int) (regs : List Int) (cause : Int) : Prop where
  id : InI id
  pc : InU pc
  len : regs.length = 32
  regs : ∀ z ∈ regs, InU z
  cause : InI cause
section
variable {H : Type} {enc : TypeId × Value → H} {P : Program}
/-- Cells of one integer kind. -/
theorem ints_of {t e : TypeId} {k : IntKind} {n fuel : Nat} {cs : List Value} {w : World} {base : Nat} {spare : Nat → Bool} {held : Bool} {d : DataW H × List MemPlace} (ht : P.underlying t = some (.array n e)) (he : P.underlying e = some (.int k)) (hc : P.cellsOf e = 1) (hct : P.cellsOf t = n)
    (h : DataW.trod enc P w base spare held fuel t cs = some d) : ∃ zs : List Int, cs = zs.map (.int k) ∧ zs.length = n ∧ ∀ z ∈ zs, (Lit.int k z).wf = true := by
  obtain ⟨xs, m, _, ex, hlen, hl, hel⟩ := DataW.trod_array ht h
  rw [hct] at hlen
  have one : ∀ i, i < n → ∃ z : Int, cs[i]? = some (.int k z) ∧ (Lit.int k z).wf = true := by
    intro i hi
    have h1 := hel i hi
    rw [hc] at h1
    have hx : i < xs.length := by omega
    rw [List.getElem?_eq_getElem hx] at h1
    obtain ⟨q, e1, e2, e3⟩ := DataW.trod_int he h1
    have e4 := congrArg (fun l => l[0]?) e1
    simp only [List.getElem?_take, List.getElem?_drop] at e4
    simp only [Nat.mul_one, Nat.add_zero, List.getElem?_cons_zero] at e4
    exact ⟨q, by simpa using e4, e3⟩
  refine ⟨cs.map fun v => match v with | .int _ z => z | _ => 0, ?_, by simpa using hlen, ?_⟩
  · refine List.ext_getElem? fun i => ?_
    by_cases hi : i < n
    · obtain ⟨z, hz, _⟩ := one i hi
      rw [List.getElem?_map, List.getElem?_map, hz]
      rfl
    · rw [List.getElem?_eq_none (by omega), List.getElem?_eq_none (by simp; omega)]
  · intro z hz
    obtain ⟨v, hv, rfl⟩ := List.mem_map.1 hz
    obtain ⟨i, hi⟩ := List.mem_iff_getElem?.1 hv
    have hin : i < n := by have := (List.getElem?_eq_some_iff.1 hi).1; omega
    obtain ⟨z, hz, hw⟩ := one i hin
    rw [hi] at hz
    injection hz with hz
    subst hz
    exact hw
end
theorem wf_u {z : Int} (h : (Lit.int .u32 z).wf = true) : InU z := by
  simp [Lit.wf, IntKind.min, IntKind.max, IntKind.signed, IntKind.bits] at h
  unfold InU
  omega
theorem wf_i {z : Int} (h : (Lit.int .i64 z).wf = true) : InI z := by
  simp [Lit.wf, IntKind.min, IntKind.max, IntKind.signed, IntKind.bits] at h
  unfold InI
  omega
set_option maxRecDepth 100000 in
theorem open_hart {H : Type} {enc : TypeId × Value → H} {W : World} {base : Nat} {sp : Nat → Bool} {held : Bool} {r : Reach} {b0 : Nat} {v : Value} {d : DataW H} {ps : List MemPlace} (hval : Value.okWide Tryz.prog W r b0 26 v) (h : DataW.Trod enc Tryz.prog W base sp held 26 v d ps) :
    ∃ (id pc : Int) (regs : List Int) (cause : Int), v = hartW id pc regs cause ∧ HartOk id pc regs cause := by
  obtain ⟨cs, rfl, hs⟩ := okWide_struct Tryz.underlying26 hval
  obtain ⟨fuel, hf⟩ := h
  obtain ⟨xs, m, rfl, _, hlen, hxs, hel⟩ := DataW.trod_struct Tryz.underlying26 hf
  have hc : Tryz.prog.cellsOf 26 = 35 := by kernel_rfl
  have c3 : Tryz.prog.cellsOf 3 = 1 := by kernel_rfl
  have c22 : Tryz.prog.cellsOf 22 = 1 := by kernel_rfl
  have c23 : Tryz.prog.cellsOf 23 = 32 := by kernel_rfl
  have c24 : Tryz.prog.cellsOf 24 = 1 := by kernel_rfl
  obtain ⟨l⟩ := cs
  have hl : l.length = 35 := by simpa [hc] using hs
  have hxl : xs.length = 4 := by simpa using hxs
  have get : ∀ i (hi : i < xs.length), xs[i]? = some xs[i] := fun i hi => List.getElem?_eq_getElem hi
  have e0 := hel 0 { name := "Id", type := 3, offset := 0, embedded := false, tag := "", pkgPath := "", byteOffset := 0 } rfl
  have e1 := hel 1 { name := "Pc", type := 22, offset := 1, embedded := false, tag := "", pkgPath := "", byteOffset := 8 } rfl
  have e2 := hel 2 { name := "Regs", type := 23, offset := 2, embedded := false, tag := "", pkgPath := "", byteOffset := 12 } rfl
  have e3 := hel 3 { name := "Cause", type := 24, offset := 34, embedded := false, tag := "", pkgPath := "", byteOffset := 144 } rfl
  rw [get _ (by omega)] at e0 e1 e2 e3
  dsimp only at e0 e1 e2 e3
  rw [c3] at e0
  rw [c22] at e1
  rw [c23] at e2
  rw [c24] at e3
  obtain ⟨id, h0, _, w0⟩ := DataW.trod_int Tryz.underlying3 e0
  obtain ⟨pc, h1, _, w1⟩ := DataW.trod_int Tryz.underlying22 e1
  obtain ⟨regs, h2, hlr, w2⟩ := ints_of Tryz.underlying23 Tryz.underlying22 c22 c23 e2
  obtain ⟨cause, h3, _, w3⟩ := DataW.trod_int Tryz.underlying24 e3
  replace h0 : l.take 1 = [Value.int .i64 id] := h0
  replace h1 : (l.drop 1).take 1 = [Value.int .u32 pc] := h1
  replace h2 : (l.drop 2).take 32 = regs.map (Value.int .u32) := h2
  replace h3 : (l.drop 34).take 1 = [Value.int .i64 cause] := h3
  refine ⟨id, pc, regs, cause, ?_, ⟨wf_i w0, wf_u w1, hlr, fun z hz => wf_u (w2 z hz), wf_i w3⟩⟩
  unfold hartW
  congr 2
  have e5 : l = l.take 1 ++ ((l.drop 1).take 1 ++ ((l.drop 2).take 32 ++ (l.drop 34).take 1)) := by
    have a1 : (l.drop 34).take 1 = l.drop 34 := List.take_of_length_le (by simp; omega)
    have a2 : (l.drop 2).take 32 ++ l.drop 34 = l.drop 2 := by
      have := List.take_append_drop 32 (l.drop 2)
      rwa [List.drop_drop] at this
    have a3 : (l.drop 1).take 1 ++ l.drop 2 = l.drop 1 := by
      have := List.take_append_drop 1 (l.drop 1)
      rwa [List.drop_drop] at this
    rw [a1, a2, a3, List.take_append_drop]
  rw [e5, h0, h1, h2, h3]
  rfl

/-! ### Harts for the evaluator -/
def regsX (f : Nat) : Nat → Nat → List V → List V
  | _, 0, r => r
  | j, n + 1, r => .int .u32 (.wrap .u32 (.fn1 f (.lit (Int.ofNat j)))) :: regsX f (j + 1) n r
def hartX (o f : Nat) : V := .agg (.int .i64 (.wrap .i64 (.var o)) :: .int .u32 (.wrap .u32 (.var (o + 1))) :: regsX f 0 32 [.int .i64 (.wrap .i64 (.var (o + 2)))])
/-- What the variables are of which a hart is made. -/
structure HartIs (ρ : Env) (o f : Nat) (id pc : Int) (regs : List Int) (cause : Int) : Prop where
  id : ρ.v o = id
  pc : ρ.v (o + 1) = pc
  cause : ρ.v (o + 2) = cause
  regs : ∀ j (h : j < regs.length), ρ.f1 f (Int.ofNat j) = regs[j]
theorem wrap_u {z : Int} (h : InU z) : IntKind.u32.wrap z = z := wrap_in (by simp [kLo]; exact h.1) (by simp [kHi]; exact h.2)
theorem wrap_i {z : Int} (h : InI z) : IntKind.i64.wrap z = z := wrap_in (by simp [kLo]; exact h.1) (by simp [kHi]; exact h.2)
theorem regsX_concs {ρ : Env} {π : Pl} {f : Nat} {regs : List Int} (hw : ∀ z ∈ regs, InU z) (h : ∀ j (h : j < regs.length), ρ.f1 f (Int.ofNat j) = regs[j]) {r : List V} : ∀ (n j : Nat), j + n = regs.length → V.concs ρ π (regsX f j n r) = (regs.drop j).map (Value.int .u32) ++ V.concs ρ π r
  | 0, j, e => by
    rw [List.drop_of_length_le (by omega)]
    rfl
  | n + 1, j, e => by
    have hj : j < regs.length := by omega
    rw [List.drop_eq_getElem_cons hj]
    simp only [regsX, V.concs, V.conc, X.den, h j hj, List.map_cons, List.cons_append]
    rw [wrap_u (hw _ (List.getElem_mem hj)), regsX_concs hw h n (j + 1) (by omega)]
theorem hartX_conc {ρ : Env} {π : Pl} {o f : Nat} {id pc cause : Int} {regs : List Int} (hk : HartOk id pc regs cause) (h : HartIs ρ o f id pc regs cause) : (hartX o f).conc ρ π = hartW id pc regs cause := by
  unfold hartX hartW
  simp only [V.conc, V.concs, X.den, h.id, h.pc]
  rw [regsX_concs hk.regs h.regs 32 0 (by rw [hk.len]), wrap_i hk.id, wrap_u hk.pc]
  simp only [V.concs, V.conc, X.den, h.cause, wrap_i hk.cause, List.drop_zero]
end Go.Proofs.YtcachlbljjpjdaaGreatDoor
