/- IsaName: of every Op the law answers true, and nothing that was there is turned. No condition. -/
import Derived.Test.YtnhkiaadkkkjbaaDoorDoorMet
import Derived.Test.YtnhkiaadkkkjbaaDoorCards
import Derived.Test.YtnhkiaadkkkjbaaDoorTie
import Derived.SevenTiedAt
namespace Go.Proofs.YtnhkiaadkkkjbaaDoor
open Go Go.Proofs Go.ChangeShapes Go.WideShapes Go.ChangeAt Go.RowKit

set_option maxRecDepth 100000 in
theorem isaName_ev : allTrue ((ev cx13 4000).call 7 [.int .i64 (.var 0)] stStart) = true := by kernel_rfl

def envOf (W : World) (v : Nat → Int) : Env := { v := v, f1 := fun _ _ => 0, f2 := fun _ _ _ => 0, s := fun _ => [], sf := fun _ _ => [], ro := roOf W }
theorem isaName_walk {W : World} (hL : laidMetH Tryd.prog Rows.isaNameRow.laid W) (n : Int) : Calls Tryd.prog 7 #[.int .i64 n] W fun e W' => e = .returned (.bool true) ∧ Below W.heap.size W W' :=
  law_calls (ρ := envOf W fun _ => n) (cx := cx13) tt_ok ft_ok rfl (sum13_all (roAt_start hL rfl).1) Tryd.func7 hL rfl isaName_ev (fun _ _ => rfl)

set_option maxRecDepth 100000 in
theorem isaName_lifted (os : Os) (started : os.Started) (H : Type) (enc : TypeId × Value → H) :
    ReturnsInHanded {} Tryd.checked os 7 .any (fun w args => (Rows.isaNameSpec.pre enc Tryd.prog Tryd.f7 [] false w args ∧ laidMetH Tryd.prog Rows.isaNameRow.laid w) ∧ sizedMet enc Tryd.prog Tryd.f7 (OpenSpec.ofChange Rows.isaNameSpec) false w args)
      (Rows.isaNameSpec.post enc Tryd.prog Tryd.f7 false true false false) := by
  refine returnsInHanded_of_change_and (C := Tryd.checked) (X := fun w _ => laidMetH Tryd.prog Rows.isaNameRow.laid w) (fun _ _ _ hh h => h.of_heap hh) own_door started (by kernel_rfl) Tryd.func7
    (ChangeSpec.witness_shaped (enc := enc) (C := Tryd.checked) (os := os) (X := fun w _ => laidMetH Tryd.prog Rows.isaNameRow.laid w) false (World.doorLaid Tryd.prog 4000 os) #[.int .i64 0] 8 rfl (World.shaped_of_RefB (by kernel_rfl) (by kernel_rfl)) (by kernel_rfl) (by kernel_rfl) (by kernel_rfl) (door_met os _)) ?_
  intro W base args ds gs before hval0 hW _ _ hL _
  have hval : ∀ (j : Nat) t v, Tryd.f7.params[j]? = some t → args[j]? = some v → Value.okWide Tryd.prog W .any base t v := hval0
  have hW' := hW
  obtain ⟨p, q, hA0, hV, rfl, hfz, hnd⟩ := hW
  have hA : DataW.TrodAll enc Tryd.prog W 0 (fun _ => true) true Tryd.f7.params.toList args.toList ds p := hA0
  rw [Tryd.params7] at hA hval
  obtain ⟨v0, d0, rfl, rfl, h0⟩ := trodAll_one hA
  obtain ⟨n, rfl, rfl, rfl, _⟩ := open_int Tryd.underlying23 (hval 0 23 v0 rfl rfl) h0
  refine (isaName_walk hL n).mono fun e W' ⟨he, hw⟩ => ?_
  subst he
  exact ⟨_, rfl, shut_law laidOut_door (by rw [Tryd.params7]; decide +kernel) rfl Tryd.underlying4 rfl hW' rfl hw⟩

theorem isaName_row : Rows.IsaNameSaid :=
  OpenClaim.holds_of_wide 7 Tryd.f7 rfl rfl rfl rfl rfl rfl rfl ⟨rfl, rfl, rfl, rfl, rfl⟩ rfl rfl rfl rfl rfl (by kernel_rfl) Tryd.func7 (by kernel_rfl)
    (of_decide_eq_true (by kernel_rfl)) (by unfold Func.isWrapper; first | (rw [if_pos (by decide +kernel)]; kernel_rfl) | (rw [if_neg (by decide +kernel)]; exact ⟨rfl, rfl⟩))
    (fun os started H enc _ => isaName_lifted os started H enc)

theorem isaName_holds : Rows.IsaNameCardSaid :=
  Claim7.holds_tied_plain_at .later [] [.data, .data, .data, .listed, .data] true (true, "eca07ddf0f4be4abf6c1038f8ae5e30dfe99afe6228e38add024b21ffa81a807") false
    isaName_row (fun _ h => by cases h) (by kernel_rfl) (fun _ h => by cases h) isaName_row_tie rfl ⟨rfl, rfl⟩ (by kernel_rfl) rfl
    (fun f fn hf hfn => by
      obtain rfl : f = 7 := Option.some.inj ((show Tryd.prog.funcNamed "quadrille/quadrillelaw03.IsaName" = some 7 by kernel_rfl).symm.trans hf) |>.symm
      obtain rfl : fn = Tryd.f7 := (Option.some.inj (Tryd.func7.symm.trans hfn)).symm
      exact ⟨by kernel_rfl, fun j t ht => by
        rw [Tryd.params7] at ht
        have hm : t ∈ [23] := by simpa using Array.mem_of_getElem? ht
        have hall : ([23].all fun u => !Tryd.prog.wantsStandIn u) = true := by kernel_rfl
        exact (show Tryd.prog.wantsStandIn t = false by simpa using List.all_eq_true.1 hall t hm)⟩)
    (by kernel_rfl)
#print axioms isaName_holds
end Go.Proofs.YtnhkiaadkkkjbaaDoor
