/- IsaMany: of any words the law answers true, and nothing that was there is turned. No condition. -/
import Derived.Test.YtnhkiaadkkkjbaaDoorIsaManyEv
import Derived.Test.YtnhkiaadkkkjbaaDoorDoorRun
import Derived.Test.YtnhkiaadkkkjbaaDoorCards
import Derived.Test.YtnhkiaadkkkjbaaDoorTie
import Derived.SevenTiedAt
namespace Go.Proofs.YtnhkiaadkkkjbaaDoor
open Go Go.Proofs Go.ChangeShapes Go.WideShapes Go.ChangeAt Go.RowKit

/-! ### The law -/
theorem roAll_of {W : World} (h : laidMetH Tryd.prog Rows.isaNameRow.laid W) {ro : Nat → Obj} (h0 : ro 0 = roOf W 0) : RoAll ro ∧ W.heap[0]? = some (ro 0) := by
  obtain ⟨t, fr, h1⟩ := of_laid h
  have e : ro 0 = .cells ((asciiZ 256).map (.int .u8)).toArray t fr := by rw [h0]; simp only [roOf, h1, Option.getD_some]
  refine ⟨fun ρ hr => ⟨fun x hx => ?_⟩, by rw [h1, e]⟩
  simp only [LStart, List.mem_singleton] at hx
  subst hx
  exact ⟨t, fr, fun π => by rw [hr, e, asciiL_concs]⟩
def manyRo (W : World) (a : Addr) (i : Nat) : Obj := match Nat.beq i 7 with
  | true => roOf W a.block
  | false => roOf W i
def manyV (zs : List Int) (len cap : Nat) (i : Nat) : Int := if i < 60 then zs.getD i 0 else if i = 60 then len else cap
noncomputable def manyEnv (W : World) (a : Addr) (zs : List Int) (len cap : Nat) : Env :=
  { b := fun _ => false, v := manyV zs len cap, f1 := fun j z => fld j (decVal (manyRo W a) z.toNat), f2 := fun _ _ _ => 0, s := fun _ => [], sf := fun _ _ => [], ro := manyRo W a, win := fun _ => a }
theorem manyV_range {zs : List Int} {len cap : Nat} (hz : ∀ n ∈ zs, (Lit.int .u32 n).wf = true) (i : Nat) (hi : i < 60) : 0 ≤ manyV zs len cap i ∧ manyV zs len cap i < 4294967296 := by
  unfold manyV
  rw [if_pos hi]
  have key : ∀ l : List Int, (∀ n ∈ l, (Lit.int .u32 n).wf = true) → ∀ i, 0 ≤ l.getD i 0 ∧ l.getD i 0 < 4294967296 := by
    intro l
    induction l with
    | nil => intro _ i; simp
    | cons a l ih =>
      intro hl i
      cases i with
      | zero =>
        have := hl a (by simp)
        simp [Lit.wf, IntKind.min, IntKind.max, IntKind.signed, IntKind.bits] at this
        simp
        omega
      | succ i => simpa using ih (fun n hn => hl n (by simp [hn])) i
  exact key zs hz i
theorem many_sums {W : World} (h : laidMetH Tryd.prog Rows.isaNameRow.laid W) {a : Addr} {zs : List Int} {len cap : Nat} (hz : ∀ n ∈ zs, (Lit.int .u32 n).wf = true) : SumOk Tryd.prog cxM (manyEnv W a zs len cap) := by
  obtain ⟨hro, _⟩ := roAll_of h (ro := manyRo W a) rfl
  exact smOf_okL (l := [(10, symDec), (11, symDec), (13, sumTab LStart 7 sum13), (39, sumTab LStart 7 sum39)]) ⟨sym10 hro rfl rfl (fun i hi => manyV_range hz i hi) rfl, sym11 hro rfl rfl (fun i hi => manyV_range hz i hi) rfl, at13 hro rfl rfl, at39 hro rfl rfl, trivial⟩ rfl
theorem many_calls {W : World} (h : laidMetH Tryd.prog Rows.isaNameRow.laid W) {a : Addr} {zs : List Int} {len cap : Nat} (hz : ∀ n ∈ zs, (Lit.int .u32 n).wf = true) {args : List V} {ac : List Value} (ht : allTrue LStart ((ev cxM 4000).call 4 args stStart) = true) (ha : SaysL (manyEnv W a zs len cap) SStart πStart args ac) :
    Calls Tryd.prog 4 ac.toArray W fun e W' => e = .returned (.bool true) ∧ Below W.heap.size W W' := by
  obtain ⟨hro, h0⟩ := roAll_of h (ro := manyRo W a) rfl
  obtain ⟨x, st, hsel, hx, hthere⟩ := allTrue_sel (ρ := manyEnv W a zs len cap) ht
  have h2 : ∀ x ∈ LStart, W.heap[x.1]? = some ((manyEnv W a zs len cap).ro x.1) := fun x hx => by
    simp only [LStart, List.mem_singleton] at hx
    subst hx
    exact h0
  have hh := here_stG (cx0 := cxM) (π0 := πStart) rfl LStart_lt (hro _ rfl) (fun _ _ => rfl) h2
  refine (ev_calls mixed_door tt_ok ft_ok (many_sums h hz) hsel hh ha Tryd.func4).mono fun e W' hp => ?_
  obtain ⟨hpc, π1, g, c, rfl, hv⟩ := hp
  refine ⟨?_, below_of LStart_lt (fun _ _ => rfl) h2 g hthere⟩
  rw [← hv π1 fun _ _ => rfl]
  simp [V.conc, holds_ok hpc hx]
theorem varCells_get : ∀ (n o j : Nat), (varCells o n)[j]? = if j < n then some (.int .u32 (.var (o + j))) else none
  | 0, o, j => by simp [varCells]
  | n + 1, o, 0 => by simp [varCells]
  | n + 1, o, j + 1 => by
    rw [varCells, List.getElem?_cons_succ, varCells_get n (o + 1) j, show o + 1 + j = o + (j + 1) by omega]
    by_cases h : j < n <;> simp [h]
set_option maxRecDepth 100000 in
theorem isaMany_walk {H : Type} {enc : TypeId × Value → H} {W : World} (h : laidMetH Tryd.prog Rows.isaNameRow.laid W) {v : Value} {d : DataW H} {p : List MemPlace} {b0 : Nat} (hval : Value.okWide Tryd.prog W .any b0 33 v)
    (h0 : DataW.Trod enc Tryd.prog W 0 (fun _ => true) true 33 v d p) : Calls Tryd.prog 4 #[v] W fun e W' => e = .returned (.bool true) ∧ Below W.heap.size W W' := by
  obtain ⟨ad, ln, cp, rfl⟩ := okWide_slice Tryd.underlying33 hval
  obtain ⟨fuel, hf⟩ := h0
  have hc : Tryd.prog.cellsOf 22 = 1 := by kernel_rfl
  rcases open_ints Tryd.underlying33 Tryd.underlying22 hc hf with ⟨hcs, _⟩ | ⟨a, len, cap, zs, hcs, _, hle, _, hzl, _, hcell, hz⟩
  · simp [Value.cells] at hcs
    obtain ⟨rfl, rfl, rfl⟩ := hcs
    exact many_calls h (a := ⟨0, 0, none⟩) (zs := []) (len := 0) (cap := 0) (fun n hn => by simp at hn) isaMany_nil fun π _ => rfl
  · simp [Value.cells] at hcs
    obtain ⟨rfl, rfl, rfl⟩ := hcs
    simp only [if_true] at hzl
    have hadd : a.add 0 = a := by simp [Addr.add]
    by_cases hl0 : ln = 0
    · subst hl0
      refine many_calls h (a := a) (zs := zs) (len := 0) (cap := cp) hz isaMany_none fun π _ => ?_
      show [Value.slice (some (a.add 0)) (0 : Int).toNat ((cp : Nat) : Int).toNat] = _
      rw [hadd]
      rfl
    · have hc0 := hcell 0 (by omega)
      rw [hadd] at hc0
      obtain ⟨hro, hW0⟩ := roAll_of h (ro := manyRo W a) rfl
      unfold World.cell? at hc0
      split at hc0
      rotate_left
      · cases hc0
      rename_i cs ty fr hb
      have hspot : a.spot = none := by
        cases hs : a.spot with
        | none => rfl
        | some n => rw [hs] at hc0; simp at hc0
      have hw : WinAt (manyEnv W a zs ln cp) W LStart 7 (varCells 0 60) (.var 60) 1 := by
        have e7 : (manyEnv W a zs ln cp).ro 7 = .cells cs ty fr := by
          show manyRo W a 7 = _
          show roOf W a.block = _
          simp only [roOf, hb, Option.getD_some]
        refine ⟨hspot, by rw [e7]; exact hb, fun x hx => ?_, cs, ty, fr, e7, fun j v hj hlt π => ?_⟩
        · simp only [LStart, List.mem_singleton] at hx
          subst hx
          intro e
          have e' : a.block = 0 := e.symm
          obtain ⟨t, fr', hA⟩ := of_laid h
          rw [e', hA] at hb
          simp only [Option.some.injEq, Obj.cells.injEq] at hb
          obtain ⟨rfl, _, _⟩ := hb
          rw [hspot] at hc0
          simp only [Option.isSome_none, Bool.false_eq_true, if_false, List.getElem?_toArray, List.getElem?_map] at hc0
          cases hz : (asciiZ 256)[a.off]? with
          | none => rw [hz] at hc0; cases hc0
          | some z => rw [hz] at hc0; simp at hc0
        · rw [varCells_get] at hj
          split at hj
          · rename_i hj60
            obtain rfl := Option.some.inj hj
            have hlt' : j < ln := by
              have : j < ((ln : Nat) : Int).toNat * 1 := hlt
              simpa using this
            have hcj := hcell j (by omega)
            rw [add_plain hspot] at hcj
            unfold World.cell? at hcj
            dsimp only at hcj
            rw [hb] at hcj
            simp only [Option.isSome_none, Bool.false_eq_true, if_false] at hcj
            show cs[a.off + j]? = some (.int .u32 (manyV zs ln cp (0 + j)))
            rw [hcj, Nat.zero_add, manyV, if_pos hj60]
          · cases hj
      have hpc : PcOk (manyEnv W a zs ln cp) manyPc := fun f hf => by
        obtain rfl := List.mem_singleton.1 hf
        rw [tt_le]
        simp only [X.den]
        exact decide_eq_true (by show (0 : Int) ≤ ((ln : Nat) : Int); omega)
      refine law_win (cx := cxM) (L := LStart) (ng := 7) (ρ := manyEnv W a zs ln cp) mixed_door tt_ok ft_ok (many_sums h hz) Tryd.func4 rfl LStart_lt (hro _ rfl) (fun x hx => ?_) hw hpc isaMany_ev fun π _ => ?_
      · simp only [LStart, List.mem_singleton] at hx
        subst hx
        exact hW0
      · show [Value.slice (some (a.add 0)) ((ln : Nat) : Int).toNat ((cp : Nat) : Int).toNat] = _
        rw [hadd]
        rfl

set_option maxRecDepth 100000 in
theorem isaMany_lifted (os : Os) (started : os.Started) (H : Type) (enc : TypeId × Value → H) :
    ReturnsInHanded {} Tryd.checked os 4 .any (fun w args => (Rows.isaManySpec.pre enc Tryd.prog Tryd.f4 [] false w args ∧ laidMetH Tryd.prog Rows.isaManyRow.laid w) ∧ sizedMet enc Tryd.prog Tryd.f4 (OpenSpec.ofChange Rows.isaManySpec) false w args)
      (Rows.isaManySpec.post enc Tryd.prog Tryd.f4 false true false false) := by
  refine returnsInHanded_of_change_and (C := Tryd.checked) (X := fun w _ => laidMetH Tryd.prog Rows.isaManyRow.laid w) (fun _ _ _ hh h => h.of_heap hh) own_door started (by kernel_rfl) Tryd.func4
    (ChangeSpec.witness_shaped (enc := enc) (C := Tryd.checked) (os := os) (X := fun w _ => laidMetH Tryd.prog Rows.isaManyRow.laid w) false (World.doorLaid Tryd.prog 4000 os) #[.slice none 0 0] 8 rfl (World.shaped_of_RefB (by kernel_rfl) (by kernel_rfl)) (by kernel_rfl) (by kernel_rfl) (by kernel_rfl) (door_met os _)) ?_
  intro W base args ds gs before hval0 hW _ _ hL _
  have hval : ∀ (j : Nat) t v, Tryd.f4.params[j]? = some t → args[j]? = some v → Value.okWide Tryd.prog W .any base t v := hval0
  have hW' := hW
  obtain ⟨p, q, hA0, hV, rfl, hfz, hnd⟩ := hW
  have hA : DataW.TrodAll enc Tryd.prog W 0 (fun _ => true) true Tryd.f4.params.toList args.toList ds p := hA0
  rw [Tryd.params4] at hA hval
  obtain ⟨v0, d0, rfl, rfl, h0⟩ := trodAll_one hA
  refine (isaMany_walk hL (hval 0 33 v0 rfl rfl) h0).mono fun e W' ⟨he, hw⟩ => ?_
  subst he
  exact ⟨_, rfl, shut_law laidOut_door (by rw [Tryd.params4]; decide +kernel) rfl Tryd.underlying4 rfl hW' rfl hw⟩

theorem isaMany_row : Rows.IsaManySaid :=
  OpenClaim.holds_of_wide 4 Tryd.f4 rfl rfl rfl rfl rfl rfl rfl ⟨rfl, rfl, rfl, rfl, rfl⟩ rfl rfl rfl rfl rfl (by kernel_rfl) Tryd.func4 (by kernel_rfl)
    (of_decide_eq_true (by kernel_rfl)) (by unfold Func.isWrapper; first | (rw [if_pos (by decide +kernel)]; kernel_rfl) | (rw [if_neg (by decide +kernel)]; exact ⟨rfl, rfl⟩))
    (fun os started H enc _ => isaMany_lifted os started H enc)

theorem isaMany_holds : Rows.IsaManyCardSaid :=
  Claim7.holds_tied_plain_at .later [] [.data, .data, .data, .listed, .data] true (true, "eca07ddf0f4be4abf6c1038f8ae5e30dfe99afe6228e38add024b21ffa81a807") false
    isaMany_row (fun _ h => by cases h) (by kernel_rfl) (fun _ h => by cases h) isaMany_row_tie rfl ⟨rfl, rfl⟩ (by kernel_rfl) rfl
    (fun f fn hf hfn => by
      obtain rfl : f = 4 := Option.some.inj ((show Tryd.prog.funcNamed "quadrille/quadrillelaw03.IsaMany" = some 4 by kernel_rfl).symm.trans hf) |>.symm
      obtain rfl : fn = Tryd.f4 := (Option.some.inj (Tryd.func4.symm.trans hfn)).symm
      exact ⟨by kernel_rfl, fun j t ht => by
        rw [Tryd.params4] at ht
        have hm : t ∈ [33] := by simpa using Array.mem_of_getElem? ht
        have hall : ([33].all fun u => !Tryd.prog.wantsStandIn u) = true := by kernel_rfl
        exact (show Tryd.prog.wantsStandIn t = false by simpa using List.all_eq_true.1 hall t hm)⟩)
    (by kernel_rfl)
#print axioms isaMany_holds
end Go.Proofs.YtnhkiaadkkkjbaaDoor
