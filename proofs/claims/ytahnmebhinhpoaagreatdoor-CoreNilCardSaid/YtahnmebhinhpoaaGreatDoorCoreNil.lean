/- CoreNil: of any number and any code the law answers true, and nothing that was there is turned. No condition. -/
import Derived.Test.YtahnmebhinhpoaaGreatDoorNOk
import Derived.Test.YtahnmebhinhpoaaGreatDoorNRun
import Derived.Test.YtahnmebhinhpoaaGreatDoorCards
import Derived.Test.YtahnmebhinhpoaaGreatDoorTie
import Derived.SevenTiedAt
import Derived.ChangeSlices
namespace Go.Proofs.YtahnmebhinhpoaaGreatDoor
open Go Go.Proofs Go.ChangeShapes Go.WideShapes Go.ChangeAt Go.RowKit
def varCells (o : Nat) : Nat → List V
  | 0 => []
  | n + 1 => .int .u32 (.var o) :: varCells (o + 1) n
def pickX : X := .wrap .i64 (.var 202)
def vastPc : PC := [(.lt (.lit 60) (.var 200), true), (.le (.lit 0) (.var 200), true)]
noncomputable def nilT (len : X) (f : PC) : Bool := allTrueW LStart 7 ((evT cx4 4000).call 3 [.int .i64 pickX, .wslice 7 0 len (.var 201)] (stWin LStart 7 (varCells 0 60) len 1 f))
noncomputable def nilR (len : X) (f : PC) : Bool := allTrueW LStart 7 ((ev cx4 4000).call 3 [.int .i64 pickX, .wslice 7 0 len (.var 201)] (stWin LStart 7 (varCells 0 60) len 1 f))
theorem nil_eq {len : X} {f : PC} (h : nilT len f = true) : nilR len f = true := by
  unfold nilR
  rw [evT_call]
  exact h
def rangeAll (f : Nat → Bool) : Nat → Nat → Bool
  | _, 0 => true
  | i, k + 1 => match f i with
    | true => rangeAll f (i + 1) k
    | false => false
theorem rangeAll_ok {f : Nat → Bool} : ∀ {k i : Nat}, rangeAll f i k = true → ∀ j, i ≤ j → j < i + k → f j = true
  | 0, i, _, j, h1, h2 => absurd h2 (by omega)
  | k + 1, i, h, j, h1, h2 => by
    unfold rangeAll at h
    split at h
    · rename_i hf
      by_cases e : i = j
      · rw [← e]; exact hf
      · exact rangeAll_ok h j (by omega) (by omega)
    · cases h
noncomputable def nilQ (n : Nat) : Bool := nilT (.lit (Int.ofNat n)) []
set_option maxRecDepth 100000 in
theorem nil0 : rangeAll nilQ 0 20 = true := by kernel_rfl
set_option maxRecDepth 100000 in
theorem nil1 : rangeAll nilQ 20 20 = true := by kernel_rfl
set_option maxRecDepth 100000 in
theorem nil2 : rangeAll nilQ 40 21 = true := by kernel_rfl
set_option maxRecDepth 100000 in
theorem nil_vast : nilR (.var 200) vastPc = true := nil_eq (by kernel_rfl)
set_option maxRecDepth 100000 in
theorem nil_nil : allChk LStart ((ev cx4 4000).call 3 [.int .i64 pickX, .nilslice] (stPc [])) = true := by rw [evT_call]; kernel_rfl
set_option maxRecDepth 100000 in
theorem nil_none : allChk LStart ((ev cx4 4000).call 3 [.int .i64 pickX, .wslice 7 0 (.lit 0) (.var 201)] (stPc [])) = true := by rw [evT_call]; kernel_rfl
theorem nil_at (n : Nat) (hn : n ≤ 60) : nilR (.lit (Int.ofNat n)) [] = true := by
  refine nil_eq ?_
  rcases (by omega : n < 20 ∨ 20 ≤ n ∧ n < 40 ∨ 40 ≤ n) with h | h | h
  · exact rangeAll_ok nil0 n (by omega) h
  · exact rangeAll_ok nil1 n h.1 h.2
  · exact rangeAll_ok nil2 n h (by omega)
theorem roAll_of {W : World} (h : laidMetH Tryz.prog Rows.coreNilRow.laid W) {ro : Nat → Obj} (h0 : ro 0 = roOf W 0) : RoAll ro ∧ W.heap[0]? = some (ro 0) := by
  obtain ⟨t, fr, h1⟩ := of_laid h
  have e : ro 0 = .cells ((asciiZ 256).map (.int .u8)).toArray t fr := by rw [h0]; simp only [roOf, h1, Option.getD_some]
  refine ⟨fun ρ hr => ⟨fun x hx => ?_⟩, by rw [h1, e]⟩
  simp only [LStart, List.mem_singleton] at hx
  subst hx
  exact ⟨t, fr, fun π => by rw [hr, e, asciiL_concs]⟩
def winRo (W : World) (a : Addr) (i : Nat) : Obj := match Nat.beq i 7 with
  | true => roOf W a.block
  | false => roOf W i
def winV (zs : List Int) (len cap : Nat) (pc : Int) (i : Nat) : Int := if i < 60 then zs.getD i 0 else if i = 200 then len else if i = 201 then cap else pc
def winEnv (W : World) (a : Addr) (zs : List Int) (len cap : Nat) (pc : Int) : Env :=
  { b := fun _ => false, v := winV zs len cap pc, f1 := fun _ _ => 0, f2 := fun _ _ _ => 0, s := fun _ => [], sf := fun _ _ => [], ro := winRo W a, win := fun _ => a }
def InI (z : Int) : Prop := -9223372036854775808 ≤ z ∧ z ≤ 9223372036854775807
theorem wrap_i {z : Int} (h : InI z) : IntKind.i64.wrap z = z := wrap_in (by simp [kLo]; exact h.1) (by simp [kHi]; exact h.2)
theorem wf_i {z : Int} (h : (Lit.int .i64 z).wf = true) : InI z := by
  simp [Lit.wf, IntKind.min, IntKind.max, IntKind.signed, IntKind.bits] at h
  unfold InI
  omega
theorem pickX_den {W : World} {a : Addr} {zs : List Int} {len cap : Nat} {pc : Int} (h : InI pc) : pickX.den (winEnv W a zs len cap pc) = pc := wrap_i h
theorem pcNil {ρ : Env} : PcOk ρ [] := fun f hf => by cases hf
theorem pcCons {ρ : Env} {x : X} {b : Bool} {pc : PC} (h : x.tt ρ = b) (hp : PcOk ρ pc) : PcOk ρ ((x, b) :: pc) := fun f hf => by
  rcases List.mem_cons.1 hf with rfl | hf
  · exact h
  · exact hp f hf
theorem lt_tt {ρ : Env} {x y : X} {a b : Int} (hx : x.den ρ = a) (hy : y.den ρ = b) : (X.lt x y).tt ρ = decide (a < b) := by
  rw [X.tt, X.den, b2i_tt, hx, hy]
theorem eq_tt {ρ : Env} {x y : X} {a b : Int} (hx : x.den ρ = a) (hy : y.den ρ = b) : (X.eq x y).tt ρ = decide (a = b) := by
  rw [X.tt, X.den, b2i_tt, hx, hy]
  rfl
/-- From the start, the row not looked at. -/
theorem nil_calls {W : World} (h : laidMetH Tryz.prog Rows.coreNilRow.laid W) {a : Addr} {cap : Nat} {pc : Int} {args : List V} {ac : List Value} (ht : allChk LStart ((ev cx4 4000).call 3 args (stPc [])) = true) (ha : SaysL (winEnv W a [] 0 cap pc) SStart πStart args ac) :
    Calls Tryz.prog 3 ac.toArray W fun e W' => e = .returned (.bool true) ∧ Below W.heap.size W W' := by
  obtain ⟨hro, h0⟩ := roAll_of h (ro := winRo W a) rfl
  obtain ⟨x, st, hsel, hx, hthere⟩ := allChk_sel (ρ := winEnv W a [] 0 cap pc) ht
  have h2 : ∀ x ∈ LStart, W.heap[x.1]? = some ((winEnv W a [] 0 cap pc).ro x.1) := fun x hx => by
    simp only [LStart, List.mem_singleton] at hx
    subst hx
    exact h0
  have hh := (here_stG (cx0 := cx4) (π0 := πStart) rfl LStart_lt (hro _ rfl) (fun _ _ => rfl) h2).like (st1 := stPc []) ⟨rfl, rfl, pcNil⟩
  refine (ev_calls mixed_door tt_ok ft_ok (all4 hro rfl) hsel hh ha Tryz.func3).mono fun e W' hp => ?_
  obtain ⟨hpc, π1, g, c, rfl, hv⟩ := hp
  refine ⟨?_, below_of LStart_lt (fun _ _ => rfl) h2 g hthere⟩
  rw [← hv π1 fun _ _ => rfl]
  simp [V.conc, hx hpc]
theorem varCells_get : ∀ (n o j : Nat), (varCells o n)[j]? = if j < n then some (.int .u32 (.var (o + j))) else none
  | 0, o, j => by simp [varCells]
  | n + 1, o, 0 => by simp [varCells]
  | n + 1, o, j + 1 => by
    rw [varCells, List.getElem?_cons_succ, varCells_get n (o + 1) j, show o + 1 + j = o + (j + 1) by omega]
    by_cases h : j < n <;> simp [h]
set_option maxRecDepth 100000 in
theorem coreNil_walk {H : Type} {enc : TypeId × Value → H} {W : World} (h : laidMetH Tryz.prog Rows.coreNilRow.laid W) {v : Value} {d : DataW H} {p : List MemPlace} {b0 : Nat} (hval : Value.okWide Tryz.prog W .any b0 22 v)
    (h0 : DataW.Trod enc Tryz.prog W 0 (fun _ => true) true 22 v d p) {pc : Int} (hpc : InI pc) : Calls Tryz.prog 3 #[.int .i64 pc, v] W fun e W' => e = .returned (.bool true) ∧ Below W.heap.size W W' := by
  obtain ⟨ad, ln, cp, rfl⟩ := okWide_slice Tryz.underlying22 hval
  obtain ⟨fuel, hf⟩ := h0
  have hc : Tryz.prog.cellsOf 25 = 1 := by kernel_rfl
  rcases open_ints Tryz.underlying22 Tryz.underlying25 hc hf with ⟨hcs, _⟩ | ⟨a, len, cap, zs, hcs, _, hle, _, hzl, _, hcell, hz⟩
  · simp [Value.cells] at hcs
    obtain ⟨rfl, rfl, rfl⟩ := hcs
    exact nil_calls h (a := ⟨0, 0, none⟩) (cap := 0) (pc := pc) nil_nil fun π _ => by simp only [V.concs, V.conc, pickX_den hpc]
  · simp [Value.cells] at hcs
    obtain ⟨rfl, rfl, rfl⟩ := hcs
    simp only [if_true] at hzl
    have hadd : a.add 0 = a := by simp [Addr.add]
    by_cases hl0 : ln = 0
    · subst hl0
      refine nil_calls h (a := a) (cap := cp) (pc := pc) nil_none fun π _ => ?_
      simp only [V.concs]
      show [Value.int .i64 (pickX.den _), Value.slice (some (a.add 0)) (0 : Int).toNat ((cp : Nat) : Int).toNat] = _
      rw [hadd, pickX_den hpc]
      rfl
    · have hc0 := hcell 0 (by omega)
      rw [hadd] at hc0
      obtain ⟨hro, hW0⟩ := roAll_of h (ro := winRo W a) rfl
      unfold World.cell? at hc0
      split at hc0
      rotate_left
      · cases hc0
      rename_i cs ty fr hb
      have hspot : a.spot = none := by
        cases hs : a.spot with
        | none => rfl
        | some n => rw [hs] at hc0; simp at hc0
      have hw : ∀ lenX : X, lenX.den (winEnv W a zs ln cp pc) = (ln : Int) → WinAt (winEnv W a zs ln cp pc) W LStart 7 (varCells 0 60) lenX 1 := by
        intro lenX hlx
        have e7 : (winEnv W a zs ln cp pc).ro 7 = .cells cs ty fr := by
          show winRo W a 7 = _
          show roOf W a.block = _
          simp only [roOf, hb, Option.getD_some]
        refine ⟨hspot, by rw [e7]; exact hb, fun x hx => ?_, cs, ty, fr, e7, fun j v hj hlt π => ?_⟩
        · simp only [LStart, List.mem_singleton] at hx
          subst hx
          intro e
          have e' : a.block = 0 := e.symm
          obtain ⟨t, fr', hA⟩ := of_laid h
          rw [e', hA] at hb
          simp only [Option.some.injEq, Obj.cells.injEq] at hb
          obtain ⟨rfl, _, _⟩ := hb
          rw [hspot] at hc0
          simp only [Option.isSome_none, Bool.false_eq_true, if_false, List.getElem?_toArray, List.getElem?_map] at hc0
          cases hz : (asciiZ 256)[a.off]? with
          | none => rw [hz] at hc0; cases hc0
          | some z => rw [hz] at hc0; simp at hc0
        · rw [varCells_get] at hj
          split at hj
          · rename_i hj60
            obtain rfl := Option.some.inj hj
            rw [hlx] at hlt
            have hlt' : j < ln := by simpa using hlt
            have hcj := hcell j (by omega)
            rw [add_plain hspot] at hcj
            unfold World.cell? at hcj
            dsimp only at hcj
            rw [hb] at hcj
            simp only [Option.isSome_none, Bool.false_eq_true, if_false] at hcj
            show cs[a.off + j]? = some (.int .u32 (winV zs ln cp pc (0 + j)))
            rw [hcj, Nat.zero_add, winV, if_pos hj60]
          · cases hj
      have go : ∀ (lenX : X) (f : PC), nilR lenX f = true → PcOk (winEnv W a zs ln cp pc) f → lenX.den (winEnv W a zs ln cp pc) = (ln : Int) → Calls Tryz.prog 3 #[.int .i64 pc, .slice (some a) ln cp] W fun e W' => e = .returned (.bool true) ∧ Below W.heap.size W W' := by
        intro lenX f hr hp hlx
        refine law_win (cx := cx4) (L := LStart) (ng := 7) (ρ := winEnv W a zs ln cp pc) mixed_door tt_ok ft_ok (all4 hro rfl) Tryz.func3 rfl LStart_lt (hro _ rfl) (fun y hy => ?_) (hw lenX hlx) hp hr fun π _ => ?_
        · simp only [LStart, List.mem_singleton] at hy
          subst hy
          exact hW0
        · show [Value.int .i64 (pickX.den (winEnv W a zs ln cp pc)), Value.slice (some (a.add 0)) (lenX.den (winEnv W a zs ln cp pc)).toNat ((cp : Nat) : Int).toNat] = _
          rw [hadd, pickX_den hpc, hlx]
          rfl
      by_cases h60 : ln ≤ 60
      · exact go _ _ (nil_at ln h60) pcNil rfl
      · have el : (X.var 200).den (winEnv W a zs ln cp pc) = (ln : Int) := by
          show winV zs ln cp pc 200 = _
          rfl
        exact go _ _ nil_vast (pcCons ((lt_tt (x := .lit 60) (a := 60) rfl el).trans (decide_eq_true (by omega))) (pcCons (by
          rw [tt_le]
          simp only [X.den]
          exact decide_eq_true (by show (0 : Int) ≤ ((ln : Nat) : Int); omega)) pcNil)) el

set_option maxRecDepth 100000 in
theorem coreNil_lifted (os : Os) (started : os.Started) (H : Type) (enc : TypeId × Value → H) :
    ReturnsInHanded {} Tryz.checked os 3 .any (fun w args => (Rows.coreNilSpec.pre enc Tryz.prog Tryz.f3 [] false w args ∧ laidMetH Tryz.prog Rows.coreNilRow.laid w) ∧ sizedMet enc Tryz.prog Tryz.f3 (OpenSpec.ofChange Rows.coreNilSpec) false w args)
      (Rows.coreNilSpec.post enc Tryz.prog Tryz.f3 false true false false) := by
  refine returnsInHanded_of_change_and (C := Tryz.checked) (X := fun w _ => laidMetH Tryz.prog Rows.coreNilRow.laid w) (fun _ _ _ hh h => h.of_heap hh) own_door started (by kernel_rfl) Tryz.func3
    (ChangeSpec.witness_shaped (enc := enc) (C := Tryz.checked) (os := os) (X := fun w _ => laidMetH Tryz.prog Rows.coreNilRow.laid w) false (World.doorLaid Tryz.prog 4000 os) #[.int .i64 0, .slice none 0 0] 8 rfl (World.shaped_of_RefB (by kernel_rfl) (by kernel_rfl)) (by kernel_rfl) (by kernel_rfl) (by kernel_rfl) (door_met os _)) ?_
  intro W base args ds gs before hval0 hW _ _ hL _
  have hval : ∀ (j : Nat) t v, Tryz.f3.params[j]? = some t → args[j]? = some v → Value.okWide Tryz.prog W .any base t v := hval0
  have hW' := hW
  obtain ⟨p, q, hA0, hV, rfl, hfz, hnd⟩ := hW
  have hA : DataW.TrodAll enc Tryz.prog W 0 (fun _ => true) true Tryz.f3.params.toList args.toList ds p := hA0
  rw [Tryz.params3] at hA hval
  obtain ⟨v0, v1, d0, d1, p0, p1, ea, rfl, rfl, h0, h1⟩ := trodAll_two hA
  subst ea
  obtain ⟨z, rfl, _, _, w0⟩ := open_int Tryz.underlying3 (hval 0 3 v0 rfl rfl) h0
  refine (coreNil_walk hL (hval 1 22 v1 rfl rfl) h1 (wf_i w0)).mono fun e W' ⟨he, hw⟩ => ?_
  subst he
  exact ⟨_, rfl, shut_law laidOut_door (by rw [Tryz.params3]; decide +kernel) rfl Tryz.underlying4 rfl hW' rfl hw⟩

theorem coreNil_row : Rows.CoreNilSaid :=
  OpenClaim.holds_of_wide 3 Tryz.f3 rfl rfl rfl rfl rfl rfl rfl ⟨rfl, rfl, rfl, rfl, rfl⟩ rfl rfl rfl rfl rfl (by kernel_rfl) Tryz.func3 (by kernel_rfl)
    (of_decide_eq_true (by kernel_rfl)) (by unfold Func.isWrapper; first | (rw [if_pos (by decide +kernel)]; kernel_rfl) | (rw [if_neg (by decide +kernel)]; exact ⟨rfl, rfl⟩))
    (fun os started H enc _ => coreNil_lifted os started H enc)

theorem coreNil_holds : Rows.CoreNilCardSaid :=
  Claim7.holds_tied_plain_at .later [] [.data, .data, .data, .listed, .data] true (true, "b546cba5cb653617ae880c0bcab8d6eb575998ee7d5f049246d5196997ecf5aa") true
    coreNil_row (fun _ h => by cases h) (by kernel_rfl) (fun _ h => by cases h) coreNil_row_tie rfl ⟨rfl, rfl⟩ (by kernel_rfl) rfl
    (fun f fn hf hfn => by
      obtain rfl : f = 3 := Option.some.inj ((show Tryz.prog.funcNamed "quadrille/quadrillelaw15.CoreNil" = some 3 by kernel_rfl).symm.trans hf) |>.symm
      obtain rfl : fn = Tryz.f3 := (Option.some.inj (Tryz.func3.symm.trans hfn)).symm
      exact ⟨by kernel_rfl, fun j t ht => by
        rw [Tryz.params3] at ht
        have hm : t ∈ [3, 22] := by simpa using Array.mem_of_getElem? ht
        have hall : ([3, 22].all fun u => !Tryz.prog.wantsStandIn u) = true := by kernel_rfl
        exact (show Tryz.prog.wantsStandIn t = false by simpa using List.all_eq_true.1 hall t hm)⟩)
    (by kernel_rfl)
#print axioms coreNil_holds
end Go.Proofs.YtahnmebhinhpoaaGreatDoor
