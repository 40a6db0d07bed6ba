/- ScriptReads: of any bytes the law answers true, and nothing that was there is turned. No condition. -/
import Derived.Test.YtennjdjcjjjmiaaGreatDoorKTold
import Derived.Test.YtennjdjcjjjmiaaGreatDoorKRuns
import Derived.Test.YtennjdjcjjjmiaaGreatDoorTRun
import Derived.Test.YtennjdjcjjjmiaaGreatDoorCards
import Derived.Test.YtennjdjcjjjmiaaGreatDoorTie
import Derived.SevenTiedAt
import Derived.ChangeSlices
namespace Go.Proofs.YtennjdjcjjjmiaaGreatDoor
open Go Go.Proofs Go.ChangeShapes Go.WideShapes Go.ChangeAt Go.RowKit
def winRo (W : World) (a : Addr) (i : Nat) : Obj := match Nat.beq i 7 with
  | true => roOf W a.block
  | false => roOf W i
theorem start_W {W : World} {ρ : Env} {a : Addr} (hρ : ρ.ro = winRo W a) (h0 : W.heap[0]? = some (winRo W a 0)) : ∀ x ∈ LStart, W.heap[x.1]? = some (ρ.ro x.1) := fun x hx => by
  simp only [LStart, List.mem_singleton] at hx
  subst hx
  rw [hρ]
  exact h0
theorem reads_plain {W : World} (h : laidMetH Tryz.prog Rows.scriptReadsRow.laid W) {d : RD} {a : Addr} {pc : PC} {args : List V} {ac : List Value} (hpc : PcOk (d.env (winRo W a) 0 0 0) pc) (ht : allChk LStart ((evT cxN 4000).call 5 args (stPc pc)) = true) (ha : SaysL (d.env (winRo W a) 0 0 0) SStart πStart args ac) :
    Calls Tryz.prog 5 ac.toArray W fun e W' => e = .returned (.bool true) ∧ Below W.heap.size W W' := by
  obtain ⟨hro, h0⟩ := roAll_of h (ro := winRo W a) rfl
  obtain ⟨x, st, hsel, hx, hthere⟩ := allChk_sel (ρ := d.env (winRo W a) 0 0 0) (r := (ev cxN 4000).call 5 args (stPc pc)) (by rw [evT_call]; exact ht)
  have h2 := start_W (ρ := d.env (winRo W a) 0 0 0) rfl h0
  have hh := (here_stG (cx0 := cxN) (π0 := πStart) rfl LStart_lt (hro _ rfl) (fun _ _ => rfl) h2).like (st1 := stPc pc) ⟨rfl, rfl, hpc⟩
  refine (ev_calls mixed_door tt_ok ft_ok (sum_flags (c := cx8) (all8 hro rfl)) hsel hh ha Tryz.func5).mono fun e W' hp => ?_
  obtain ⟨hpc, π1, g, c, rfl, hv⟩ := hp
  refine ⟨?_, below_of LStart_lt (fun _ _ => rfl) h2 g hthere⟩
  rw [← hv π1 fun _ _ => rfl]
  simp [V.conc, hx hpc]
theorem tle {ρ : Env} {x y : X} (h : x.den ρ ≤ y.den ρ) : (X.le x y).tt ρ = true := (le_tt rfl rfl).trans (decide_eq_true h)
theorem tlt {ρ : Env} {x y : X} (h : x.den ρ < y.den ρ) : (X.lt x y).tt ρ = true := (lt_tt rfl rfl).trans (decide_eq_true h)
theorem wrap_u8 {z : Int} (h : (Lit.int .u8 z).wf = true) : IntKind.u8.wrap z = z := by
  simp [Lit.wf, IntKind.min, IntKind.max, IntKind.signed, IntKind.bits] at h
  exact wrap_in (by simp [kLo]; omega) (by simp [kHi]; omega)
set_option maxRecDepth 100000 in
theorem scriptReads_walk {H : Type} {enc : TypeId × Value → H} {W : World} (h : laidMetH Tryz.prog Rows.scriptReadsRow.laid W) {v : Value} {d0 : DataW H} {p : List MemPlace} {b0 : Nat} (hval : Value.okWide Tryz.prog W .any b0 22 v)
    (h0 : DataW.Trod enc Tryz.prog W 0 (fun _ => true) true 22 v d0 p) : Calls Tryz.prog 5 #[v] W fun e W' => e = .returned (.bool true) ∧ Below W.heap.size W W' := by
  obtain ⟨ad, ln, cp, rfl⟩ := okWide_slice Tryz.underlying22 hval
  obtain ⟨fuel, hf⟩ := h0
  have hc : Tryz.prog.cellsOf 5 = 1 := by kernel_rfl
  rcases open_ints Tryz.underlying22 Tryz.underlying5 hc hf with ⟨hcs, _⟩ | ⟨a, len, cap, zs, hcs, _, hle, _, hzl, _, hcell, hz8⟩
  · simp [Value.cells] at hcs
    obtain ⟨rfl, rfl, rfl⟩ := hcs
    exact reads_plain h (d := ⟨W, fun _ => 0, 0, 0, ⟨0, 0, none⟩⟩) (a := ⟨0, 0, none⟩) pcNil reads_nil fun π _ => rfl
  · simp [Value.cells] at hcs
    obtain ⟨rfl, rfl, rfl⟩ := hcs
    simp only [if_true] at hzl
    have hadd : a.add 0 = a := by simp [Addr.add]
    by_cases hl0 : ln = 0
    · subst hl0
      refine reads_plain h (d := ⟨W, fun _ => 0, 0, cp, a⟩) (a := a) (pcCons ((le_tt rfl rfl).trans (decide_eq_true (by show (0 : Int) ≤ ((cp : Nat) : Int); omega))) (pcCons rfl pcNil)) reads_none fun π _ => ?_
      show [Value.slice (some (a.add 0)) (0 : Int).toNat ((cp : Nat) : Int).toNat] = _
      rw [hadd]
      rfl
    · have hc0 := hcell 0 (by omega)
      rw [hadd] at hc0
      obtain ⟨hro, hW0⟩ := roAll_of h (ro := winRo W a) rfl
      unfold World.cell? at hc0
      split at hc0
      rotate_left
      · cases hc0
      rename_i cs ty fr hb
      have hspot : a.spot = none := by
        cases hs : a.spot with
        | none => rfl
        | some n => rw [hs] at hc0; simp at hc0
      let d : RD := ⟨W, fun j => zs.getD j.toNat 0, ln, cp, a⟩
      have e7 : (d.env (winRo W a) 0 0 0).ro 7 = .cells cs ty fr := by
        show roOf W a.block = _
        simp only [roOf, hb, Option.getD_some]
      have rows : ∀ z : Bool, (z = true → a.block ≠ 0) → RowsAt (d.env (winRo W a) 0 0 0) W (LZ z) readsWs 7 8 := by
        intro z hz
        refine ⟨fun x hx => ?_, by omega, fun x hx => ?_, fun x hx y hy => ?_, fun x hx y hy _ => ?_, fun x hx π hπ => ?_⟩ <;> (simp only [readsWs, List.mem_singleton] at hx; subst hx)
        · exact ⟨Nat.le_refl 7, by omega⟩
        · rw [e7]; exact hb
        · cases z with
          | true =>
            simp only [LZ, LStart, List.mem_singleton] at hy
            subst hy
            exact fun e => hz rfl e.symm
          | false => cases hy
        · simp only [readsWs, List.mem_singleton] at hy
          subst hy
          rfl
        · refine ⟨⟨hspot, hπ.symm, cs, ty, fr, e7, fun j c k hj hk => ?_⟩, rfl⟩
          match c, hk with
          | 0, hk =>
            obtain rfl := Option.some.inj hk
            have hlt : j < ln := hj
            have hcj := hcell j (by omega)
            rw [add_plain hspot] at hcj
            unfold World.cell? at hcj
            dsimp only at hcj
            rw [hb] at hcj
            simp only [Option.isSome_none, Bool.false_eq_true, if_false] at hcj
            show cs[a.off + (j * 1 + 0)]? = some (.int .u8 (IntKind.u8.wrap (zs.getD ((j : Nat) : Int).toNat 0)))
            rw [Nat.mul_one, Nat.add_zero, hcj, Int.toNat_natCast, wrap_u8]
            have hjz : j < zs.length := by omega
            rw [List.getD_eq_getElem?_getD, List.getElem?_eq_getElem hjz, Option.getD_some]
            exact hz8 _ (List.getElem_mem hjz)
      obtain ⟨z, hz1, hz2⟩ : ∃ z : Bool, (z = true → a.block ≠ 0) ∧ (z = false → a.block = 0) := by
        by_cases h0 : a.block = 0
        · exact ⟨false, fun h => (by cases h), fun _ => h0⟩
        · exact ⟨true, fun _ => h0, fun h => (by cases h)⟩
      have hw := rows z hz1
      have hnn : (0 : Int) ≤ ((ln : Nat) : Int) := by omega
      have hcn : ((ln : Nat) : Int) ≤ ((cp : Nat) : Int) := by omega
      have go : ∀ {pc : PC}, PcOk (d.env (winRo W a) 0 0 0) pc → allChkW (LZ z) readsWs ((evT (cxL z) 4000).call 5 readsArgs (stRows (LZ z) readsWs 8 pc)) = true → Calls Tryz.prog 5 #[.slice (some a) ln cp] W fun e W' => e = .returned (.bool true) ∧ Below W.heap.size W W' := by
        intro pc hp ht
        refine law_rows (cx := cxL z) (L := LZ z) (ng := 7) (ρ := d.env (winRo W a) 0 0 0) (N := 4000) mixed_door tt_ok ft_ok (allL hro z fun e => ⟨hz2 e, ?_⟩) Tryz.func5 rfl ?_ ?_ ?_ hw hp (by rw [evT_call]; exact ht) fun π _ => ?_
        · show roOf W a.block = roOf W 0
          rw [hz2 e]
        · cases z with
          | true => exact LStart_lt
          | false => exact fun x hx => by cases hx
        · cases z with
          | true => exact hro _ rfl
          | false => exact ⟨fun x hx => by cases hx⟩
        · cases z with
          | true => exact start_W rfl hW0
          | false => exact fun x hx => by cases hx
        · show [Value.slice (some (a.add 0)) ((ln : Nat) : Int).toNat ((cp : Nat) : Int).toNat] = _
          rw [hadd]
          rfl
      have hm : d.m = (((ln : Nat) : Int) + 1) / 2 := rfl
      have f1 : (X.le (.var 60) (.var 61)).tt (d.env (winRo W a) 0 0 0) = true := tle hcn
      have f2 : (X.le (.lit 0) (.var 60)).tt (d.env (winRo W a) 0 0 0) = true := tle hnn
      have f3 : (X.le (.lit 0) (.lit 7)).tt (d.env (winRo W a) 0 0 0) = true := rfl
      have f4 : (X.le (.var 62) (.var 63)).tt (d.env (winRo W a) 0 0 0) = true := tle (Int.le_refl d.m)
      have f5 : (X.le (.var 63) (.var 62)).tt (d.env (winRo W a) 0 0 0) = true := tle (Int.le_refl d.m)
      have f6 : (X.le (.lit 0) (.var 62)).tt (d.env (winRo W a) 0 0 0) = true := tle (show (0 : Int) ≤ d.m by omega)
      by_cases hbig : 3000 < ((ln : Nat) : Int)
      · have f7 : (X.lt (.lit 3000) (.var 60)).tt (d.env (winRo W a) 0 0 0) = true := tlt hbig
        exact go (pcCons f1 (pcCons f7 (pcCons f2 (pcCons f3 pcNil)))) (reads_long z)
      · have f7 : (X.le (.var 60) (.lit 3000)).tt (d.env (winRo W a) 0 0 0) = true := tle (show ((ln : Nat) : Int) ≤ 3000 by omega)
        have f8 : (X.le (.var 62) (.lit 3000)).tt (d.env (winRo W a) 0 0 0) = true := tle (show d.m ≤ 3000 by omega)
        exact go (pcCons f4 (pcCons f5 (pcCons f6 (pcCons f8 (pcCons f1 (pcCons f7 (pcCons f2 (pcCons f3 pcNil)))))))) (reads_run z)

set_option maxRecDepth 100000 in
theorem scriptReads_lifted (os : Os) (started : os.Started) (H : Type) (enc : TypeId × Value → H) :
    ReturnsInHanded {} Tryz.checked os 5 .any (fun w args => (Rows.scriptReadsSpec.pre enc Tryz.prog Tryz.f5 [] false w args ∧ laidMetH Tryz.prog Rows.scriptReadsRow.laid w) ∧ sizedMet enc Tryz.prog Tryz.f5 (OpenSpec.ofChange Rows.scriptReadsSpec) false w args)
      (Rows.scriptReadsSpec.post enc Tryz.prog Tryz.f5 false true false false) := by
  refine returnsInHanded_of_change_and (C := Tryz.checked) (X := fun w _ => laidMetH Tryz.prog Rows.scriptReadsRow.laid w) (fun _ _ _ hh h => h.of_heap hh) own_door started (by kernel_rfl) Tryz.func5
    (ChangeSpec.witness_shaped (enc := enc) (C := Tryz.checked) (os := os) (X := fun w _ => laidMetH Tryz.prog Rows.scriptReadsRow.laid w) false (World.doorLaid Tryz.prog 4000 os) #[.slice none 0 0] 8 rfl (World.shaped_of_RefB (by kernel_rfl) (by kernel_rfl)) (by kernel_rfl) (by kernel_rfl) (by kernel_rfl) (door_met os _)) ?_
  intro W base args ds gs before hval0 hW _ _ hL _
  have hval : ∀ (j : Nat) t v, Tryz.f5.params[j]? = some t → args[j]? = some v → Value.okWide Tryz.prog W .any base t v := hval0
  have hW' := hW
  obtain ⟨p, q, hA0, hV, rfl, hfz, hnd⟩ := hW
  have hA : DataW.TrodAll enc Tryz.prog W 0 (fun _ => true) true Tryz.f5.params.toList args.toList ds p := hA0
  rw [Tryz.params5] at hA hval
  obtain ⟨v0, d0, ea, rfl, h0⟩ := trodAll_one hA
  subst ea
  refine (scriptReads_walk hL (hval 0 22 v0 rfl rfl) h0).mono fun e W' ⟨he, hw⟩ => ?_
  subst he
  exact ⟨_, rfl, shut_law laidOut_door (by rw [Tryz.params5]; decide +kernel) rfl Tryz.underlying4 rfl hW' rfl hw⟩

set_option maxHeartbeats 4000000 in
theorem reads_facts : joinedFacts Tryz.pinned.checked.prog 5 Tryz.f5 Rows.scriptReadsSpec Rows.scriptReadsRow = true := by
  unfold joinedFacts
  simp only [Bool.and_eq_true]
  repeat' apply And.intro
  all_goals (as_aux_lemma => kernel_rfl)
theorem scriptReads_row : Rows.ScriptReadsSaid :=
  OpenClaim.holds_of_wide 5 Tryz.f5 rfl rfl rfl rfl rfl rfl rfl ⟨rfl, rfl, rfl, rfl, rfl⟩ rfl rfl rfl rfl rfl (by kernel_rfl) Tryz.func5 reads_facts
    (of_decide_eq_true (by kernel_rfl)) (by unfold Func.isWrapper; first | (rw [if_pos (by decide +kernel)]; kernel_rfl) | (rw [if_neg (by decide +kernel)]; exact ⟨rfl, rfl⟩))
    (fun os started H enc _ => scriptReads_lifted os started H enc)

theorem scriptReads_holds : Rows.ScriptReadsCardSaid :=
  Claim7.holds_tied_plain_at .later [] [.data, .data, .data, .listed, .data] true (true, "7e56d34005e852c83da633658c48358c19593e8513f3bfa23ae13d864b283670") true
    scriptReads_row (fun _ h => by cases h) (by kernel_rfl) (fun _ h => by cases h) scriptReads_row_tie rfl ⟨rfl, rfl⟩ (by kernel_rfl) rfl
    (fun f fn hf hfn => by
      obtain rfl : f = 5 := Option.some.inj ((show Tryz.prog.funcNamed "quadrille/quadrillelaw19.ScriptReads" = some 5 by kernel_rfl).symm.trans hf) |>.symm
      obtain rfl : fn = Tryz.f5 := (Option.some.inj (Tryz.func5.symm.trans hfn)).symm
      exact ⟨by kernel_rfl, fun j t ht => by
        rw [Tryz.params5] at ht
        have hm : t ∈ [22] := by simpa using Array.mem_of_getElem? ht
        have hall : ([22].all fun u => !Tryz.prog.wantsStandIn u) = true := by kernel_rfl
        exact (show Tryz.prog.wantsStandIn t = false by simpa using List.all_eq_true.1 hall t hm)⟩)
    (by kernel_rfl)
#print axioms scriptReads_holds
end Go.Proofs.YtennjdjcjjjmiaaGreatDoor
