/- IsaUnlike: of all that may come in the law answers true, and nothing that was there is turned. No condition. -/
import Derived.Test.YtfdgdbphdjijdaaDoorUWalk
import Derived.Test.YtfdgdbphdjijdaaDoorGRun
import Derived.Test.YtfdgdbphdjijdaaDoorCards
import Derived.Test.YtfdgdbphdjijdaaDoorTie
import Derived.SevenTiedAt
import Derived.ChangeSlices
namespace Go.Proofs.YtfdgdbphdjijdaaDoor
open Go Go.Proofs Go.ChangeShapes Go.WideShapes Go.ChangeAt Go.RowKit
set_option maxRecDepth 100000 in
theorem isaUnlike_lifted (os : Os) (started : os.Started) (H : Type) (enc : TypeId × Value → H) :
  ReturnsInHanded {} Tryd.checked os 4 .any (fun w args => (Rows.isaUnlikeSpec.pre enc Tryd.prog Tryd.f4 [] false w args ∧ laidMetH Tryd.prog Rows.isaUnlikeRow.laid w) ∧ sizedMet enc Tryd.prog Tryd.f4 (OpenSpec.ofChange Rows.isaUnlikeSpec) false w args)
   (Rows.isaUnlikeSpec.post enc Tryd.prog Tryd.f4 false true false false) := by
 refine returnsInHanded_of_change_and (C := Tryd.checked) (X := fun w _ => laidMetH Tryd.prog Rows.isaUnlikeRow.laid w) (fun _ _ _ hh h => h.of_heap hh) own_door started (by kernel_rfl) Tryd.func4
  (ChangeSpec.witness_shaped (enc := enc) (C := Tryd.checked) (os := os) (X := fun w _ => laidMetH Tryd.prog Rows.isaUnlikeRow.laid w) false (World.doorLaid Tryd.prog 4000 os) #[instV 0 0 0 0 0 false false, instV 0 0 0 0 0 false false] 8 rfl (World.shaped_of_RefB (by kernel_rfl) (by kernel_rfl)) (by kernel_rfl) (by kernel_rfl) (by kernel_rfl) (door_met os _)) ?_
 intro W base args ds gs before hval0 hW _ _ hL _
 have hval : ∀ (j : Nat) t v, Tryd.f4.params[j]? = some t → args[j]? = some v → Value.okWide Tryd.prog W .any base t v := hval0
 have hW' := hW
 obtain ⟨p, q, hA0, hV, rfl, hfz, hnd⟩ := hW
 have hA : DataW.TrodAll enc Tryd.prog W 0 (fun _ => true) true Tryd.f4.params.toList args.toList ds p := hA0
 rw [Tryd.params4] at hA hval
 obtain ⟨v0, v1, d0, d1, p0, p1, rfl, rfl, rfl, h0, h1⟩ := trodAll_two hA
 obtain ⟨op, rd, r1, r2, n, x, y, rfl, hn⟩ := open_inst (hval 0 25 v0 rfl rfl) h0
 obtain ⟨op', rd', r1', r2', n', x', y', rfl, hn'⟩ := open_inst (hval 1 25 v1 rfl rfl) h1
 refine (unlike_walk hL (a := ⟨op, rd, r1, r2, n, x, y⟩) (b := ⟨op', rd', r1', r2', n', x', y'⟩) hn hn').mono fun e W' ⟨he, hw⟩ => ?_
 subst he
 exact ⟨_, rfl, shut_law laidOut_door (by rw [Tryd.params4]; decide +kernel) rfl Tryd.underlying4 rfl hW' rfl hw⟩
set_option maxHeartbeats 4000000 in
theorem isaUnlike_facts : joinedFacts Tryd.pinned.checked.prog 4 Tryd.f4 Rows.isaUnlikeSpec Rows.isaUnlikeRow = true := by
 unfold joinedFacts
 simp only [Bool.and_eq_true]
 repeat' apply And.intro
 all_goals (as_aux_lemma => kernel_rfl)
theorem isaUnlike_row : Rows.IsaUnlikeSaid :=
 OpenClaim.holds_of_wide 4 Tryd.f4 rfl rfl rfl rfl rfl rfl rfl ⟨rfl, rfl, rfl, rfl, rfl⟩ rfl rfl rfl rfl rfl (by kernel_rfl) Tryd.func4 isaUnlike_facts
  (of_decide_eq_true (by kernel_rfl)) (by unfold Func.isWrapper; first | (rw [if_pos (by decide +kernel)]; kernel_rfl) | (rw [if_neg (by decide +kernel)]; exact ⟨rfl, rfl⟩))
  (fun os started H enc _ => isaUnlike_lifted os started H enc)
theorem isaUnlike_holds : Rows.IsaUnlikeCardSaid :=
 Claim7.holds_tied_plain_at .later [] [.data, .data, .data, .listed, .data] true (true, "cc410aa4c163e9eb076e400835122134d44c5324ceebece1c948011a07d14a6b") false
  isaUnlike_row (fun _ h => by cases h) (by kernel_rfl) (fun _ h => by cases h) isaUnlike_row_tie rfl ⟨rfl, rfl⟩ (by kernel_rfl) rfl
  (fun f fn hf hfn => by
   obtain rfl : f = 4 := Option.some.inj ((show Tryd.prog.funcNamed "quadrille/quadrillelaw03.IsaUnlike" = some 4 by kernel_rfl).symm.trans hf) |>.symm
   obtain rfl : fn = Tryd.f4 := (Option.some.inj (Tryd.func4.symm.trans hfn)).symm
   exact ⟨by kernel_rfl, fun j t ht => by
    rw [Tryd.params4] at ht
    have hm : t ∈ [25, 25] := by simpa using Array.mem_of_getElem? ht
    have hall : ([25, 25].all fun u => !Tryd.prog.wantsStandIn u) = true := by kernel_rfl
    exact (show Tryd.prog.wantsStandIn t = false by simpa using List.all_eq_true.1 hall t hm)⟩)
  (by kernel_rfl)
#print axioms isaUnlike_holds
end Go.Proofs.YtfdgdbphdjijdaaDoor
