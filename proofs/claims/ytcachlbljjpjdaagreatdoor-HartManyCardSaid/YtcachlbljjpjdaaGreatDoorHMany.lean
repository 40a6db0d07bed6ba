/- HartMany: of every hart and any words, sizes and answers the law answers true, and nothing that was there is turned. No condition. -/
import Derived.Test.YtcachlbljjpjdaaGreatDoorHDone
import Derived.Test.YtcachlbljjpjdaaGreatDoorHRun
import Derived.Test.YtcachlbljjpjdaaGreatDoorCards
import Derived.Test.YtcachlbljjpjdaaGreatDoorTie
import Derived.SevenTiedAt
namespace Go.Proofs.YtcachlbljjpjdaaGreatDoor
open Go Go.Proofs Go.ChangeShapes Go.WideShapes Go.ChangeAt Go.RowKit

/-! ### The run -/
def fX (f j : Nat) : X := .fn1 f (.lit (Int.ofNat j))
def toldCells : Nat → Nat → List V
  | _, 0 => []
  | o, n + 1 => .int .u32 (.wrap .u32 (fX 10 o)) :: .int .i64 (.wrap .i64 (fX 11 o)) :: .int .u32 (.wrap .u32 (fX 12 o)) :: .bool (.eq (fX 13 o) (.lit 1)) :: toldCells (o + 1) n
def manyPc : PC := [(.le (.lit 0) (.var 60), true)]
set_option maxRecDepth 100000 in
theorem hartMany_ev : allTrueW LStart 7 ((ev cxW 4000).call 4 [hartX 0 0, .wslice 7 0 (.var 60) (.var 61)] (stWin LStart 7 (toldCells 0 60) (.var 60) 4 manyPc)) = true := by rw [evT_call]; kernel_rfl
set_option maxRecDepth 100000 in
theorem hartMany_nil : allChk LStart ((ev cxW 4000).call 4 [hartX 0 0, .nilslice] (stPc [])) = true := by rw [evT_call]; kernel_rfl
set_option maxRecDepth 100000 in
/-- No word at all: the row is not looked at. -/
theorem hartMany_none : allChk LStart ((ev cxW 4000).call 4 [hartX 0 0, .wslice 7 0 (.lit 0) (.var 61)] (stPc [])) = true := by rw [evT_call]; kernel_rfl

/-! ### What came in -/
abbrev ToldT := Int × Int × Int × Bool
def ToldOk (t : ToldT) : Prop := InU t.1 ∧ InI t.2.1 ∧ InU t.2.2.1
def toldC (t : ToldT) : List Value := [.int .u32 t.1, .int .i64 t.2.1, .int .u32 t.2.2.1, .bool t.2.2.2]
set_option maxRecDepth 100000 in
theorem told_cells {H : Type} {enc : TypeId × Value → H} {W : World} {base : Nat} {sp : Nat → Bool} {held : Bool} {fuel : Nat} {l : List Value} {x : DataW H × List MemPlace} (hl : l.length = 4) (hf : DataW.trod enc Tryz.prog W base sp held fuel 30 l = some x) : ∃ t : ToldT, l = toldC t ∧ ToldOk t := by
  obtain ⟨xs, m, rfl, _, hlen, hxs, hel⟩ := DataW.trod_struct Tryz.underlying30 hf
  have c3 : Tryz.prog.cellsOf 3 = 1 := by kernel_rfl
  have c22 : Tryz.prog.cellsOf 22 = 1 := by kernel_rfl
  have c4 : Tryz.prog.cellsOf 4 = 1 := by kernel_rfl
  have c28 : Tryz.prog.cellsOf 28 = 2 := by kernel_rfl
  have hxl : xs.length = 3 := by simpa using hxs
  have get : ∀ i (hi : i < xs.length), xs[i]? = some xs[i] := fun i hi => List.getElem?_eq_getElem hi
  match l, hl with
  | [a0, a1, a2, a3], _ =>
    have e0 := hel 0 { name := "Word", type := 22, offset := 0, embedded := false, tag := "", pkgPath := "", byteOffset := 0 } rfl
    have e1 := hel 1 { name := "Size", type := 3, offset := 1, embedded := false, tag := "", pkgPath := "", byteOffset := 8 } rfl
    have e2 := hel 2 { name := "Answer", type := 28, offset := 2, embedded := false, tag := "", pkgPath := "", byteOffset := 16 } rfl
    rw [get _ (by omega)] at e0 e1 e2
    dsimp only at e0 e1 e2
    rw [c22] at e0
    rw [c3] at e1
    rw [c28] at e2
    obtain ⟨w, h0, _, w0⟩ := DataW.trod_int Tryz.underlying22 e0
    obtain ⟨n, h1, _, w1⟩ := DataW.trod_int Tryz.underlying3 e1
    obtain ⟨ys, m2, _, _, hlen2, hys, hel2⟩ := DataW.trod_struct Tryz.underlying28 e2
    have hyl : ys.length = 2 := by simpa using hys
    have gety : ∀ i (hi : i < ys.length), ys[i]? = some ys[i] := fun i hi => List.getElem?_eq_getElem hi
    have f0 := hel2 0 { name := "Value", type := 22, offset := 0, embedded := false, tag := "", pkgPath := "", byteOffset := 0 } rfl
    have f1 := hel2 1 { name := "Ok", type := 4, offset := 1, embedded := false, tag := "", pkgPath := "", byteOffset := 4 } rfl
    rw [gety _ (by omega)] at f0 f1
    dsimp only at f0 f1
    rw [c22] at f0
    rw [c4] at f1
    obtain ⟨a, h2, _, w2⟩ := DataW.trod_int Tryz.underlying22 f0
    obtain ⟨b, h3, _⟩ := DataW.trod_bool Tryz.underlying4 f1
    simp at h0 h1 h2 h3
    subst h0 h1 h2 h3
    exact ⟨(w, n, a, b), rfl, wf_u w0, wf_i w1, wf_u w2⟩

/-! ### The law -/
theorem roAll_of {W : World} (h : laidMetH Tryz.prog Rows.hartDoneRow.laid W) {ro : Nat → Obj} (h0 : ro 0 = roOf W 0) : RoAll ro ∧ W.heap[0]? = some (ro 0) := by
  obtain ⟨t, fr, h1⟩ := of_laid h
  have e : ro 0 = .cells ((asciiZ 256).map (.int .u8)).toArray t fr := by rw [h0]; simp only [roOf, h1, Option.getD_some]
  refine ⟨fun ρ hr => ⟨fun x hx => ?_⟩, by rw [h1, e]⟩
  simp only [LStart, List.mem_singleton] at hx
  subst hx
  exact ⟨t, fr, fun π => by rw [hr, e, asciiL_concs]⟩
def manyRo (W : World) (a : Addr) (i : Nat) : Obj := match Nat.beq i 7 with
  | true => roOf W a.block
  | false => roOf W i
def manyV (id pc cause len cap : Int) (i : Nat) : Int := if i = 0 then id else if i = 1 then pc else if i = 2 then cause else if i = 60 then len else cap
def manyF (regs : List Int) (g : Nat → ToldT) (f : Nat) (z : Int) : Int := if f = 10 then (g z.toNat).1 else if f = 11 then (g z.toNat).2.1 else if f = 12 then (g z.toNat).2.2.1 else if f = 13 then b2i (g z.toNat).2.2.2 else regs.getD z.toNat 0
def manyEnv (W : World) (a : Addr) (id pc : Int) (regs : List Int) (cause : Int) (g : Nat → ToldT) (len cap : Nat) : Env :=
  { b := fun _ => false, v := manyV id pc cause len cap, f1 := manyF regs g, f2 := fun _ _ _ => 0, s := fun _ => [], sf := fun _ _ => [], ro := manyRo W a, win := fun _ => a }
theorem hart_in {W : World} {a : Addr} {id pc : Int} {regs : List Int} {cause : Int} {g : Nat → ToldT} {len cap : Nat} {π : Pl} (h : HartOk id pc regs cause) : (hartX 0 0).conc (manyEnv W a id pc regs cause g len cap) π = hartW id pc regs cause :=
  hartX_conc h ⟨rfl, rfl, rfl, fun j hj => regs_get regs j hj⟩
theorem toldCells_get : ∀ (n o j : Nat) (v : V), (toldCells o n)[j]? = some v → j / 4 < n ∧ (v = match j % 4 with | 0 => .int .u32 (.wrap .u32 (fX 10 (o + j / 4))) | 1 => .int .i64 (.wrap .i64 (fX 11 (o + j / 4))) | 2 => .int .u32 (.wrap .u32 (fX 12 (o + j / 4))) | _ => .bool (.eq (fX 13 (o + j / 4)) (.lit 1)))
  | 0, o, j, v, h => by simp [toldCells] at h
  | n + 1, o, 0, v, h => by simp [toldCells] at h; exact ⟨by omega, h.symm⟩
  | n + 1, o, 1, v, h => by simp [toldCells] at h; exact ⟨by omega, h.symm⟩
  | n + 1, o, 2, v, h => by simp [toldCells] at h; exact ⟨by omega, h.symm⟩
  | n + 1, o, 3, v, h => by simp [toldCells] at h; exact ⟨by omega, h.symm⟩
  | n + 1, o, j + 4, v, h => by
    simp only [toldCells, List.getElem?_cons_succ] at h
    obtain ⟨h1, h2⟩ := toldCells_get n (o + 1) j v h
    refine ⟨by omega, ?_⟩
    rw [show (j + 4) % 4 = j % 4 by omega, show o + (j + 4) / 4 = o + 1 + j / 4 by omega]
    exact h2
theorem cell_conc {W : World} {a : Addr} {id pc : Int} {regs : List Int} {cause : Int} {g : Nat → ToldT} {len cap : Nat} {π : Pl} {o j : Nat} (h : ToldOk (g o)) : (toldC (g o))[j % 4]? = some (V.conc (manyEnv W a id pc regs cause g len cap) π (match j % 4 with | 0 => .int .u32 (.wrap .u32 (fX 10 o)) | 1 => .int .i64 (.wrap .i64 (fX 11 o)) | 2 => .int .u32 (.wrap .u32 (fX 12 o)) | _ => .bool (.eq (fX 13 o) (.lit 1)))) := by
  have hj : j % 4 = 0 ∨ j % 4 = 1 ∨ j % 4 = 2 ∨ j % 4 = 3 := by omega
  rcases hj with e | e | e | e <;> rw [e]
  · show some (Value.int .u32 (g o).1) = some (Value.int .u32 (IntKind.u32.wrap (g o).1))
    rw [wrap_u h.1]
  · show some (Value.int .i64 (g o).2.1) = some (Value.int .i64 (IntKind.i64.wrap (g o).2.1))
    rw [wrap_i h.2.1]
  · show some (Value.int .u32 (g o).2.2.1) = some (Value.int .u32 (IntKind.u32.wrap (g o).2.2.1))
    rw [wrap_u h.2.2]
  · show some (Value.bool (g o).2.2.2) = some (Value.bool (b2i (b2i (g o).2.2.2 == 1) != 0))
    cases (g o).2.2.2 <;> rfl
theorem many_calls {W : World} (h : laidMetH Tryz.prog Rows.hartManyRow.laid W) {a : Addr} {id pc : Int} {regs : List Int} {cause : Int} {g : Nat → ToldT} {len cap : Nat} {args : List V} {ac : List Value} (ht : allChk LStart ((ev cxW 4000).call 4 args (stPc [])) = true) (ha : SaysL (manyEnv W a id pc regs cause g len cap) SStart πStart args ac) :
    Calls Tryz.prog 4 ac.toArray W fun e W' => e = .returned (.bool true) ∧ Below W.heap.size W W' := by
  obtain ⟨hro, h0⟩ := roAll_of h (ro := manyRo W a) rfl
  obtain ⟨x, st, hsel, hx, hthere⟩ := allChk_sel (ρ := manyEnv W a id pc regs cause g len cap) ht
  have h2 : ∀ x ∈ LStart, W.heap[x.1]? = some ((manyEnv W a id pc regs cause g len cap).ro x.1) := fun x hx => by
    simp only [LStart, List.mem_singleton] at hx
    subst hx
    exact h0
  have hh := (here_stG (cx0 := cxW) (π0 := πStart) rfl LStart_lt (hro _ rfl) (fun _ _ => rfl) h2).like (st1 := stPc []) ⟨rfl, rfl, fun f hf => by cases hf⟩
  refine (ev_calls mixed_door tt_ok ft_ok (allW hro rfl) hsel hh ha Tryz.func4).mono fun e W' hp => ?_
  obtain ⟨hpc, π1, g, c, rfl, hv⟩ := hp
  refine ⟨?_, below_of LStart_lt (fun _ _ => rfl) h2 g hthere⟩
  rw [← hv π1 fun _ _ => rfl]
  simp [V.conc, hx hpc]
theorem addr_add_add (a : Addr) (m n : Nat) : (a.add m).add n = a.add (m + n) := by
  unfold Addr.add
  by_cases hm : m = 0
  · subst hm; simp
  · by_cases hn : n = 0
    · subst hn; simp
    · simp [hm, hn, Nat.add_assoc]
set_option maxRecDepth 100000 in
theorem hartMany_walk {H : Type} {enc : TypeId × Value → H} {W : World} (h : laidMetH Tryz.prog Rows.hartManyRow.laid W) {id pc : Int} {regs : List Int} {cause : Int} (hk : HartOk id pc regs cause) {v : Value} {d : DataW H} {p : List MemPlace} {b0 : Nat} (hval : Value.okWide Tryz.prog W .any b0 33 v)
    (h0 : DataW.Trod enc Tryz.prog W 0 (fun _ => true) true 33 v d p) : Calls Tryz.prog 4 #[hartW id pc regs cause, v] W fun e W' => e = .returned (.bool true) ∧ Below W.heap.size W W' := by
  obtain ⟨ad, ln, cp, rfl⟩ := okWide_slice Tryz.underlying33 hval
  obtain ⟨fuel, hf⟩ := h0
  have hc : Tryz.prog.cellsOf 30 = 4 := by kernel_rfl
  rcases DataW.trod_slice Tryz.underlying33 hf with ⟨hcs, _⟩ | ⟨a, len, cap, elems, rest, n, _, hcs, _, hb0, hle, _, hel, hall, _, _⟩
  · simp [Value.cells] at hcs
    obtain ⟨rfl, rfl, rfl⟩ := hcs
    exact many_calls h (a := ⟨0, 0, none⟩) (id := id) (pc := pc) (regs := regs) (cause := cause) (g := fun _ => (0, 0, 0, false)) (len := 0) (cap := 0) hartMany_nil fun π _ => by simp only [V.concs, hart_in hk, V.conc]
  · simp [Value.cells] at hcs
    obtain ⟨rfl, rfl, rfl⟩ := hcs
    have hadd : a.add 0 = a := by simp [Addr.add]
    by_cases hl0 : ln = 0
    · subst hl0
      refine many_calls h (a := a) (id := id) (pc := pc) (regs := regs) (cause := cause) (g := fun _ => (0, 0, 0, false)) (len := 0) (cap := cp) hartMany_none fun π _ => ?_
      simp only [V.concs, hart_in hk]
      show [_, Value.slice (some (a.add 0)) (0 : Int).toNat ((cp : Nat) : Int).toNat] = _
      rw [hadd]
      rfl
    · have each : ∀ i, ∃ t : ToldT, i < ln → ToldOk t ∧ ∀ j, j < 4 → W.cell? (a.add (i * 4 + j)) = (toldC t)[j]? := by
        intro i
        by_cases hi : i < ln
        · have h1 := hall i hi
          rw [hc, List.getElem?_eq_getElem (by omega), Option.bind_eq_some_iff] at h1
          obtain ⟨cs, hcs, hy⟩ := h1
          obtain ⟨_, h2, h3⟩ := World.cells?_some hcs
          obtain ⟨t, rfl, ht⟩ := told_cells h2 hy
          refine ⟨t, fun _ => ⟨ht, fun j hj => ?_⟩⟩
          rw [← h3 j hj]
          rw [addr_add_add]
        · exact ⟨(0, 0, 0, false), fun h => absurd h hi⟩
      obtain ⟨g, hg⟩ := Classical.axiomOfChoice each
      have hc0 := (hg 0 (by omega)).2 0 (by omega)
      rw [Nat.zero_mul, hadd] at hc0
      replace hc0 : W.cell? a = some (.int .u32 (g 0).1) := hc0
      obtain ⟨hro, hW0⟩ := roAll_of h (ro := manyRo W a) rfl
      unfold World.cell? at hc0
      split at hc0
      rotate_left
      · cases hc0
      rename_i cs ty fr hb
      have hspot : a.spot = none := by
        cases hs : a.spot with
        | none => rfl
        | some n => rw [hs] at hc0; simp at hc0
      have hw : WinAt (manyEnv W a id pc regs cause g ln cp) W LStart 7 (toldCells 0 60) (.var 60) 4 := by
        have e7 : (manyEnv W a id pc regs cause g ln cp).ro 7 = .cells cs ty fr := by
          show manyRo W a 7 = _
          show roOf W a.block = _
          simp only [roOf, hb, Option.getD_some]
        refine ⟨hspot, by rw [e7]; exact hb, fun x hx => ?_, cs, ty, fr, e7, fun j v hj hlt π => ?_⟩
        · simp only [LStart, List.mem_singleton] at hx
          subst hx
          intro e
          have e' : a.block = 0 := e.symm
          obtain ⟨t, fr', hA⟩ := of_laid h
          rw [e', hA] at hb
          simp only [Option.some.injEq, Obj.cells.injEq] at hb
          obtain ⟨rfl, _, _⟩ := hb
          rw [hspot] at hc0
          simp only [Option.isSome_none, Bool.false_eq_true, if_false, List.getElem?_toArray, List.getElem?_map] at hc0
          cases hz : (asciiZ 256)[a.off]? with
          | none => rw [hz] at hc0; cases hc0
          | some z => rw [hz] at hc0; simp at hc0
        · have hlt' : j < ln * 4 := by
            have : j < ((ln : Nat) : Int).toNat * 4 := hlt
            simpa using this
          obtain ⟨_, rfl⟩ := toldCells_get 60 0 j v hj
          obtain ⟨hok, hcl⟩ := hg (j / 4) (by omega)
          have hcj := hcl (j % 4) (by omega)
          rw [show j / 4 * 4 + j % 4 = j by omega, add_plain hspot] at hcj
          unfold World.cell? at hcj
          dsimp only at hcj
          rw [hb] at hcj
          simp only [Option.isSome_none, Bool.false_eq_true, if_false] at hcj
          show cs[a.off + j]? = _
          rw [hcj, Nat.zero_add]
          exact cell_conc hok
      have hpc : PcOk (manyEnv W a id pc regs cause g ln cp) manyPc := fun f hf => by
        obtain rfl := List.mem_singleton.1 hf
        rw [tt_le]
        simp only [X.den]
        exact decide_eq_true (by show (0 : Int) ≤ ((ln : Nat) : Int); omega)
      refine law_win (cx := cxW) (L := LStart) (ng := 7) (ρ := manyEnv W a id pc regs cause g ln cp) mixed_door tt_ok ft_ok (allW hro rfl) Tryz.func4 rfl LStart_lt (hro _ rfl) (fun x hx => ?_) hw hpc hartMany_ev fun π _ => ?_
      · simp only [LStart, List.mem_singleton] at hx
        subst hx
        exact hW0
      · simp only [V.concs, hart_in hk]
        show [_, Value.slice (some (a.add 0)) ((ln : Nat) : Int).toNat ((cp : Nat) : Int).toNat] = _
        rw [hadd]
        rfl

set_option maxRecDepth 100000 in
theorem hartMany_lifted (os : Os) (started : os.Started) (H : Type) (enc : TypeId × Value → H) :
    ReturnsInHanded {} Tryz.checked os 4 .any (fun w args => (Rows.hartManySpec.pre enc Tryz.prog Tryz.f4 [] false w args ∧ laidMetH Tryz.prog Rows.hartManyRow.laid w) ∧ sizedMet enc Tryz.prog Tryz.f4 (OpenSpec.ofChange Rows.hartManySpec) false w args)
      (Rows.hartManySpec.post enc Tryz.prog Tryz.f4 false true false false) := by
  refine returnsInHanded_of_change_and (C := Tryz.checked) (X := fun w _ => laidMetH Tryz.prog Rows.hartManyRow.laid w) (fun _ _ _ hh h => h.of_heap hh) own_door started (by kernel_rfl) Tryz.func4
    (ChangeSpec.witness_shaped (enc := enc) (C := Tryz.checked) (os := os) (X := fun w _ => laidMetH Tryz.prog Rows.hartManyRow.laid w) false (World.doorLaid Tryz.prog 4000 os) #[hartW 0 0 (List.replicate 32 0) 0, .slice none 0 0] 8 rfl (World.shaped_of_RefB (by kernel_rfl) (by kernel_rfl)) (by kernel_rfl) (by kernel_rfl) (by kernel_rfl) (door_met os _)) ?_
  intro W base args ds gs before hval0 hW _ _ hL _
  have hval : ∀ (j : Nat) t v, Tryz.f4.params[j]? = some t → args[j]? = some v → Value.okWide Tryz.prog W .any base t v := hval0
  have hW' := hW
  obtain ⟨p, q, hA0, hV, rfl, hfz, hnd⟩ := hW
  have hA : DataW.TrodAll enc Tryz.prog W 0 (fun _ => true) true Tryz.f4.params.toList args.toList ds p := hA0
  rw [Tryz.params4] at hA hval
  obtain ⟨v0, v1, d0, d1, p0, p1, ea, rfl, rfl, h0, h1⟩ := trodAll_two hA
  subst ea
  obtain ⟨id, pc, regs, cause, rfl, k0⟩ := open_hart (hval 0 26 v0 rfl rfl) h0
  refine (hartMany_walk hL k0 (hval 1 33 v1 rfl rfl) h1).mono fun e W' ⟨he, hw⟩ => ?_
  subst he
  exact ⟨_, rfl, shut_law laidOut_door (by rw [Tryz.params4]; decide +kernel) rfl Tryz.underlying4 rfl hW' rfl hw⟩

theorem hartMany_row : Rows.HartManySaid :=
  OpenClaim.holds_of_wide 4 Tryz.f4 rfl rfl rfl rfl rfl rfl rfl ⟨rfl, rfl, rfl, rfl, rfl⟩ rfl rfl rfl rfl rfl (by kernel_rfl) Tryz.func4 (by kernel_rfl)
    (of_decide_eq_true (by kernel_rfl)) (by unfold Func.isWrapper; first | (rw [if_pos (by decide +kernel)]; kernel_rfl) | (rw [if_neg (by decide +kernel)]; exact ⟨rfl, rfl⟩))
    (fun os started H enc _ => hartMany_lifted os started H enc)

theorem hartMany_holds : Rows.HartManyCardSaid :=
  Claim7.holds_tied_plain_at .later [] [.data, .data, .data, .listed, .data] true (true, "4f864911adc0c7fcfafd2db5302275d1938f333ff405a3cd709f376062733914") true
    hartMany_row (fun _ h => by cases h) (by kernel_rfl) (fun _ h => by cases h) hartMany_row_tie rfl ⟨rfl, rfl⟩ (by kernel_rfl) rfl
    (fun f fn hf hfn => by
      obtain rfl : f = 4 := Option.some.inj ((show Tryz.prog.funcNamed "quadrille/quadrillelaw04.HartMany" = some 4 by kernel_rfl).symm.trans hf) |>.symm
      obtain rfl : fn = Tryz.f4 := (Option.some.inj (Tryz.func4.symm.trans hfn)).symm
      exact ⟨by kernel_rfl, fun j t ht => by
        rw [Tryz.params4] at ht
        have hm : t ∈ [26, 33] := by simpa using Array.mem_of_getElem? ht
        have hall : ([26, 33].all fun u => !Tryz.prog.wantsStandIn u) = true := by kernel_rfl
        exact (show Tryz.prog.wantsStandIn t = false by simpa using List.all_eq_true.1 hall t hm)⟩)
    (by kernel_rfl)
#print axioms hartMany_holds
end Go.Proofs.YtcachlbljjpjdaaGreatDoor
