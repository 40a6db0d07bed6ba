/- HartBranches: of any words the law answers true, and nothing that was there is turned. No condition. -/
import Derived.Test.YtcachlbljjpjdaaGreatDoorHDone
import Derived.Test.YtcachlbljjpjdaaGreatDoorHRun
import Derived.Test.YtcachlbljjpjdaaGreatDoorCards
import Derived.Test.YtcachlbljjpjdaaGreatDoorTie
import Derived.SevenTiedAt
namespace Go.Proofs.YtcachlbljjpjdaaGreatDoor
open Go Go.Proofs Go.ChangeShapes Go.WideShapes Go.ChangeAt Go.RowKit

set_option maxRecDepth 100000 in
theorem hartBranches_ev : allChk LStart ((ev cxW 4000).call 6 [.int .u32 (wordX 0 32), .int .u32 (wordX 32 32), .int .u32 (wordX 64 32)] (stPc [])) = true := by rw [evT_call]; kernel_rfl
theorem hartBranches_walk {W : World} (hL : laidMetH Tryz.prog Rows.hartBranchesRow.laid W) {a b c : Int} (ha : InU a) (hb : InU b) (hc : InU c) :
    Calls Tryz.prog 6 #[.int .u32 a, .int .u32 b, .int .u32 c] W fun e W' => e = .returned (.bool true) ∧ Below W.heap.size W W' := by
  obtain ⟨a, rfl⟩ := Int.eq_ofNat_of_zero_le ha.1
  obtain ⟨b, rfl⟩ := Int.eq_ofNat_of_zero_le hb.1
  obtain ⟨c, rfl⟩ := Int.eq_ofNat_of_zero_le hc.1
  have ka : a < 4294967296 := by have := ha.2; omega
  have kb : b < 4294967296 := by have := hb.2; omega
  have kc : c < 4294967296 := by have := hc.2; omega
  have e0 : (wordX 0 32).den (wordsEnv (env0 W) [a, b, c]) = (a : Int) := word_of (by omega) (by omega) fun j hj => wordsB_at _ 0 j hj
  have e1 : (wordX 32 32).den (wordsEnv (env0 W) [a, b, c]) = (b : Int) := word_of (by omega) (by omega) fun j hj => wordsB_at _ 1 j hj
  have e2 : (wordX 64 32).den (wordsEnv (env0 W) [a, b, c]) = (c : Int) := word_of (by omega) (by omega) fun j hj => wordsB_at _ 2 j hj
  refine law_chk (ρ := wordsEnv (env0 W) [a, b, c]) (cx := cxW) tt_ok ft_ok rfl (allW (roAll_start hL) rfl) Tryz.func6 hL rfl (pc := []) (fun f hf => by simp at hf) hartBranches_ev fun π _ => ?_
  simp only [V.concs, V.conc, e0, e1, e2]

set_option maxRecDepth 100000 in
theorem hartBranches_lifted (os : Os) (started : os.Started) (H : Type) (enc : TypeId × Value → H) :
    ReturnsInHanded {} Tryz.checked os 6 .any (fun w args => (Rows.hartBranchesSpec.pre enc Tryz.prog Tryz.f6 [] false w args ∧ laidMetH Tryz.prog Rows.hartBranchesRow.laid w) ∧ sizedMet enc Tryz.prog Tryz.f6 (OpenSpec.ofChange Rows.hartBranchesSpec) false w args)
      (Rows.hartBranchesSpec.post enc Tryz.prog Tryz.f6 false true false false) := by
  refine returnsInHanded_of_change_and (C := Tryz.checked) (X := fun w _ => laidMetH Tryz.prog Rows.hartBranchesRow.laid w) (fun _ _ _ hh h => h.of_heap hh) own_door started (by kernel_rfl) Tryz.func6
    (ChangeSpec.witness_shaped (enc := enc) (C := Tryz.checked) (os := os) (X := fun w _ => laidMetH Tryz.prog Rows.hartBranchesRow.laid w) false (World.doorLaid Tryz.prog 4000 os) #[.int .u32 0, .int .u32 0, .int .u32 0] 8 rfl (World.shaped_of_RefB (by kernel_rfl) (by kernel_rfl)) (by kernel_rfl) (by kernel_rfl) (by kernel_rfl) (door_met os _)) ?_
  intro W base args ds gs before hval0 hW _ _ hL _
  have hval : ∀ (j : Nat) t v, Tryz.f6.params[j]? = some t → args[j]? = some v → Value.okWide Tryz.prog W .any base t v := hval0
  have hW' := hW
  obtain ⟨p, q, hA0, hV, rfl, hfz, hnd⟩ := hW
  have hA : DataW.TrodAll enc Tryz.prog W 0 (fun _ => true) true Tryz.f6.params.toList args.toList ds p := hA0
  rw [Tryz.params6] at hA hval
  obtain ⟨v0, v1, v2, d0, d1, d2, p0, p1, p2, ea, rfl, rfl, h0, h1, h2⟩ := trodAll_three hA
  subst ea
  obtain ⟨a, rfl, _, _, w0⟩ := open_int Tryz.underlying22 (hval 0 22 v0 rfl rfl) h0
  obtain ⟨b, rfl, _, _, w1⟩ := open_int Tryz.underlying22 (hval 1 22 v1 rfl rfl) h1
  obtain ⟨c, rfl, _, _, w2⟩ := open_int Tryz.underlying22 (hval 2 22 v2 rfl rfl) h2
  refine (hartBranches_walk hL (wf_u w0) (wf_u w1) (wf_u w2)).mono fun e W' ⟨he, hw⟩ => ?_
  subst he
  exact ⟨_, rfl, shut_law laidOut_door (by rw [Tryz.params6]; decide +kernel) rfl Tryz.underlying4 rfl hW' rfl hw⟩

theorem hartBranches_row : Rows.HartBranchesSaid :=
  OpenClaim.holds_of_wide 6 Tryz.f6 rfl rfl rfl rfl rfl rfl rfl ⟨rfl, rfl, rfl, rfl, rfl⟩ rfl rfl rfl rfl rfl (by kernel_rfl) Tryz.func6 (by kernel_rfl)
    (of_decide_eq_true (by kernel_rfl)) (by unfold Func.isWrapper; first | (rw [if_pos (by decide +kernel)]; kernel_rfl) | (rw [if_neg (by decide +kernel)]; exact ⟨rfl, rfl⟩))
    (fun os started H enc _ => hartBranches_lifted os started H enc)

theorem hartBranches_holds : Rows.HartBranchesCardSaid :=
  Claim7.holds_tied_plain_at .later [] [.data, .data, .data, .listed, .data] true (true, "4f864911adc0c7fcfafd2db5302275d1938f333ff405a3cd709f376062733914") true
    hartBranches_row (fun _ h => by cases h) (by kernel_rfl) (fun _ h => by cases h) hartBranches_row_tie rfl ⟨rfl, rfl⟩ (by kernel_rfl) rfl
    (fun f fn hf hfn => by
      obtain rfl : f = 6 := Option.some.inj ((show Tryz.prog.funcNamed "quadrille/quadrillelaw04.HartBranches" = some 6 by kernel_rfl).symm.trans hf) |>.symm
      obtain rfl : fn = Tryz.f6 := (Option.some.inj (Tryz.func6.symm.trans hfn)).symm
      exact ⟨by kernel_rfl, fun j t ht => by
        rw [Tryz.params6] at ht
        have hm : t ∈ [22, 22, 22] := by simpa using Array.mem_of_getElem? ht
        have hall : ([22, 22, 22].all fun u => !Tryz.prog.wantsStandIn u) = true := by kernel_rfl
        exact (show Tryz.prog.wantsStandIn t = false by simpa using List.all_eq_true.1 hall t hm)⟩)
    (by kernel_rfl)
#print axioms hartBranches_holds
end Go.Proofs.YtcachlbljjpjdaaGreatDoor
