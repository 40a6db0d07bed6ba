/- IsaText: of all that may come in the law answers true, and nothing that was there is turned. No condition. -/
import Derived.Test.YtfdgdbphdjijdaaDoorGText
import Derived.Test.YtfdgdbphdjijdaaDoorGRun
import Derived.Test.YtfdgdbphdjijdaaDoorCards
import Derived.Test.YtfdgdbphdjijdaaDoorTie
import Derived.SevenTiedAt
import Derived.ChangeSlices
namespace Go.Proofs.YtfdgdbphdjijdaaDoor
open Go Go.Proofs Go.ChangeShapes Go.WideShapes Go.ChangeAt Go.RowKit
set_option maxRecDepth 100000 in
theorem isaText_lifted (os : Os) (started : os.Started) (H : Type) (enc : TypeId × Value → H) :
  ReturnsInHanded {} Tryd.checked os 3 .any (fun w args => (Rows.isaTextSpec.pre enc Tryd.prog Tryd.f3 [] false w args ∧ laidMetH Tryd.prog Rows.isaTextRow.laid w) ∧ sizedMet enc Tryd.prog Tryd.f3 (OpenSpec.ofChange Rows.isaTextSpec) false w args)
   (Rows.isaTextSpec.post enc Tryd.prog Tryd.f3 false true false false) := by
 refine returnsInHanded_of_change_and (C := Tryd.checked) (X := fun w _ => laidMetH Tryd.prog Rows.isaTextRow.laid w) (fun _ _ _ hh h => h.of_heap hh) own_door started (by kernel_rfl) Tryd.func3
  (ChangeSpec.witness_shaped (enc := enc) (C := Tryd.checked) (os := os) (X := fun w _ => laidMetH Tryd.prog Rows.isaTextRow.laid w) false (World.doorLaid Tryd.prog 4000 os) #[instV 0 0 0 0 0 false false] 8 rfl (World.shaped_of_RefB (by kernel_rfl) (by kernel_rfl)) (by kernel_rfl) (by kernel_rfl) (by kernel_rfl) (door_met os _)) ?_
 intro W base args ds gs before hval0 hW _ _ hL _
 have hval : ∀ (j : Nat) t v, Tryd.f3.params[j]? = some t → args[j]? = some v → Value.okWide Tryd.prog W .any base t v := hval0
 have hW' := hW
 obtain ⟨p, q, hA0, hV, rfl, hfz, hnd⟩ := hW
 have hA : DataW.TrodAll enc Tryd.prog W 0 (fun _ => true) true Tryd.f3.params.toList args.toList ds p := hA0
 rw [Tryd.params3] at hA hval
 obtain ⟨v0, d0, ea, rfl, h0⟩ := trodAll_one hA
 subst ea
 obtain ⟨op, rd, r1, r2, n, x, y, rfl, hn⟩ := open_inst (hval 0 25 v0 rfl rfl) h0
 refine (text_walk hL hn).mono fun e W' ⟨he, hw⟩ => ?_
 subst he
 exact ⟨_, rfl, shut_law laidOut_door (by rw [Tryd.params3]; decide +kernel) rfl Tryd.underlying4 rfl hW' rfl hw⟩
set_option maxHeartbeats 4000000 in
theorem isaText_facts : joinedFacts Tryd.pinned.checked.prog 3 Tryd.f3 Rows.isaTextSpec Rows.isaTextRow = true := by
 unfold joinedFacts
 simp only [Bool.and_eq_true]
 repeat' apply And.intro
 all_goals (as_aux_lemma => kernel_rfl)
theorem isaText_row : Rows.IsaTextSaid :=
 OpenClaim.holds_of_wide 3 Tryd.f3 rfl rfl rfl rfl rfl rfl rfl ⟨rfl, rfl, rfl, rfl, rfl⟩ rfl rfl rfl rfl rfl (by kernel_rfl) Tryd.func3 isaText_facts
  (of_decide_eq_true (by kernel_rfl)) (by unfold Func.isWrapper; first | (rw [if_pos (by decide +kernel)]; kernel_rfl) | (rw [if_neg (by decide +kernel)]; exact ⟨rfl, rfl⟩))
  (fun os started H enc _ => isaText_lifted os started H enc)
theorem isaText_holds : Rows.IsaTextCardSaid :=
 Claim7.holds_tied_plain_at .later [] [.data, .data, .data, .listed, .data] true (true, "cc410aa4c163e9eb076e400835122134d44c5324ceebece1c948011a07d14a6b") false
  isaText_row (fun _ h => by cases h) (by kernel_rfl) (fun _ h => by cases h) isaText_row_tie rfl ⟨rfl, rfl⟩ (by kernel_rfl) rfl
  (fun f fn hf hfn => by
   obtain rfl : f = 3 := Option.some.inj ((show Tryd.prog.funcNamed "quadrille/quadrillelaw03.IsaText" = some 3 by kernel_rfl).symm.trans hf) |>.symm
   obtain rfl : fn = Tryd.f3 := (Option.some.inj (Tryd.func3.symm.trans hfn)).symm
   exact ⟨by kernel_rfl, fun j t ht => by
    rw [Tryd.params3] at ht
    have hm : t ∈ [25] := by simpa using Array.mem_of_getElem? ht
    have hall : ([25].all fun u => !Tryd.prog.wantsStandIn u) = true := by kernel_rfl
    exact (show Tryd.prog.wantsStandIn t = false by simpa using List.all_eq_true.1 hall t hm)⟩)
  (by kernel_rfl)
#print axioms isaText_holds
end Go.Proofs.YtfdgdbphdjijdaaDoor
