/- HartAct: of every hart, word and size the law answers true, and nothing that was there is turned. No condition. -/
import Derived.Test.YtcachlbljjpjdaaGreatDoorHActEv
import Derived.Test.YtcachlbljjpjdaaGreatDoorHOk
import Derived.Test.YtcachlbljjpjdaaGreatDoorHRun
import Derived.Test.YtcachlbljjpjdaaGreatDoorCards
import Derived.Test.YtcachlbljjpjdaaGreatDoorTie
import Derived.SevenTiedAt
namespace Go.Proofs.YtcachlbljjpjdaaGreatDoor
open Go Go.Proofs Go.ChangeShapes Go.WideShapes Go.ChangeAt Go.RowKit

theorem hartAct_walk {W : World} (hL : laidMetH Tryz.prog Rows.hartActRow.laid W) {id pc : Int} {regs : List Int} {cause : Int} (h : HartOk id pc regs cause) {w n : Int} (hw : InU w) (hn : InI n) :
    Calls Tryz.prog 8 #[hartW id pc regs cause, .int .u32 w, .int .i64 n] W fun e W' => e = .returned (.bool true) ∧ Below W.heap.size W W' := by
  obtain ⟨w, rfl⟩ := Int.eq_ofNat_of_zero_le hw.1
  have hwd : w < 4294967296 := by have := hw.2; omega
  obtain ⟨m, v, hf, hr⟩ := Cut.sel act_all w
  refine law_chk (ρ := doneEnv (env0 W) id pc regs cause n w 0 false) (cx := cxL) tt_ok ft_ok rfl (sum_flags (all59 (roAll_start hL) rfl)) Tryz.func8 hL rfl (pc := []) (fun f hf => by simp at hf) hr fun π _ => ?_
  have e1 := hartX_conc (ρ := doneEnv (env0 W) id pc regs cause n w 0 false) (π := π) (o := 0) (f := 0) h ⟨rfl, rfl, rfl, fun j hj => regs_get regs j hj⟩
  have e2 := wordC_den (ρ := doneEnv (env0 W) id pc regs cause n w 0 false) hwd hf fun i hi => by show doneB w 0 false i = _; unfold doneB; rw [if_pos (by omega)]
  have e4 : (X.wrap .i64 (.var 3)).den (doneEnv (env0 W) id pc regs cause n w 0 false) = n := wrap_i hn
  simp only [V.concs, e1]
  simp only [V.conc, e2, e4]

set_option maxRecDepth 100000 in
theorem hartAct_lifted (os : Os) (started : os.Started) (H : Type) (enc : TypeId × Value → H) :
    ReturnsInHanded {} Tryz.checked os 8 .any (fun w args => (Rows.hartActSpec.pre enc Tryz.prog Tryz.f8 [] false w args ∧ laidMetH Tryz.prog Rows.hartActRow.laid w) ∧ sizedMet enc Tryz.prog Tryz.f8 (OpenSpec.ofChange Rows.hartActSpec) false w args)
      (Rows.hartActSpec.post enc Tryz.prog Tryz.f8 false true false false) := by
  refine returnsInHanded_of_change_and (C := Tryz.checked) (X := fun w _ => laidMetH Tryz.prog Rows.hartActRow.laid w) (fun _ _ _ hh h => h.of_heap hh) own_door started (by kernel_rfl) Tryz.func8
    (ChangeSpec.witness_shaped (enc := enc) (C := Tryz.checked) (os := os) (X := fun w _ => laidMetH Tryz.prog Rows.hartActRow.laid w) false (World.doorLaid Tryz.prog 4000 os) #[hartW 0 0 (List.replicate 32 0) 0, .int .u32 0, .int .i64 0] 8 rfl (World.shaped_of_RefB (by kernel_rfl) (by kernel_rfl)) (by kernel_rfl) (by kernel_rfl) (by kernel_rfl) (door_met os _)) ?_
  intro W base args ds gs before hval0 hW _ _ hL _
  have hval : ∀ (j : Nat) t v, Tryz.f8.params[j]? = some t → args[j]? = some v → Value.okWide Tryz.prog W .any base t v := hval0
  have hW' := hW
  obtain ⟨p, q, hA0, hV, rfl, hfz, hnd⟩ := hW
  have hA : DataW.TrodAll enc Tryz.prog W 0 (fun _ => true) true Tryz.f8.params.toList args.toList ds p := hA0
  rw [Tryz.params8] at hA hval
  obtain ⟨v0, v1, v2, d0, d1, d2, p0, p1, p2, ea, rfl, rfl, h0, h1, h2⟩ := trodAll_three hA
  subst ea
  obtain ⟨id, pc, regs, cause, rfl, k0⟩ := open_hart (hval 0 26 v0 rfl rfl) h0
  obtain ⟨w, rfl, _, _, w1⟩ := open_int Tryz.underlying22 (hval 1 22 v1 rfl rfl) h1
  obtain ⟨n, rfl, _, _, w2⟩ := open_int Tryz.underlying3 (hval 2 3 v2 rfl rfl) h2
  refine (hartAct_walk hL k0 (wf_u w1) (wf_i w2)).mono fun e W' ⟨he, hw⟩ => ?_
  subst he
  exact ⟨_, rfl, shut_law laidOut_door (by rw [Tryz.params8]; decide +kernel) rfl Tryz.underlying4 rfl hW' rfl hw⟩

theorem hartAct_row : Rows.HartActSaid :=
  OpenClaim.holds_of_wide 8 Tryz.f8 rfl rfl rfl rfl rfl rfl rfl ⟨rfl, rfl, rfl, rfl, rfl⟩ rfl rfl rfl rfl rfl (by kernel_rfl) Tryz.func8 (by kernel_rfl)
    (of_decide_eq_true (by kernel_rfl)) (by unfold Func.isWrapper; first | (rw [if_pos (by decide +kernel)]; kernel_rfl) | (rw [if_neg (by decide +kernel)]; exact ⟨rfl, rfl⟩))
    (fun os started H enc _ => hartAct_lifted os started H enc)

theorem hartAct_holds : Rows.HartActCardSaid :=
  Claim7.holds_tied_plain_at .later [] [.data, .data, .data, .listed, .data] true (true, "4f864911adc0c7fcfafd2db5302275d1938f333ff405a3cd709f376062733914") true
    hartAct_row (fun _ h => by cases h) (by kernel_rfl) (fun _ h => by cases h) hartAct_row_tie rfl ⟨rfl, rfl⟩ (by kernel_rfl) rfl
    (fun f fn hf hfn => by
      obtain rfl : f = 8 := Option.some.inj ((show Tryz.prog.funcNamed "quadrille/quadrillelaw04.HartAct" = some 8 by kernel_rfl).symm.trans hf) |>.symm
      obtain rfl : fn = Tryz.f8 := (Option.some.inj (Tryz.func8.symm.trans hfn)).symm
      exact ⟨by kernel_rfl, fun j t ht => by
        rw [Tryz.params8] at ht
        have hm : t ∈ [26, 22, 3] := by simpa using Array.mem_of_getElem? ht
        have hall : ([26, 22, 3].all fun u => !Tryz.prog.wantsStandIn u) = true := by kernel_rfl
        exact (show Tryz.prog.wantsStandIn t = false by simpa using List.all_eq_true.1 hall t hm)⟩)
    (by kernel_rfl)
#print axioms hartAct_holds
end Go.Proofs.YtcachlbljjpjdaaGreatDoor
