/- HartAmo: of every Op and any two values the law answers true, and nothing that was there is turned. No condition. -/
import Derived.Test.YtcachlbljjpjdaaGreatDoorHOk
import Derived.Test.YtcachlbljjpjdaaGreatDoorHRun
import Derived.Test.YtcachlbljjpjdaaGreatDoorCards
import Derived.Test.YtcachlbljjpjdaaGreatDoorTie
import Derived.SevenTiedAt
namespace Go.Proofs.YtcachlbljjpjdaaGreatDoor
open Go Go.Proofs Go.ChangeShapes Go.WideShapes Go.ChangeAt Go.RowKit

def amoEnv (W : World) (o a b : Int) : Env := { b := fun _ => false, v := fun i => match i with | 0 => a | 1 => b | _ => o, f1 := fun _ _ => 0, f2 := fun _ _ _ => 0, s := fun _ => [], sf := fun _ _ => [], ro := roOf W, win := fun _ => ⟨0, 0, none⟩ }
set_option maxRecDepth 100000 in
theorem hartAmo_ev : allChk LStart ((ev cx59 4000).call 11 [.int .i64 (.wrap .i64 (.var 3)), .int .u32 (.wrap .u32 (.var 0)), .int .u32 (.wrap .u32 (.var 1))] (stPc [])) = true := by rw [evT_call]; kernel_rfl
theorem hartAmo_walk {W : World} (hL : laidMetH Tryz.prog Rows.hartAmoRow.laid W) {o a b : Int} (ho : InI o) (ha : InU a) (hb : InU b) :
    Calls Tryz.prog 11 #[.int .i64 o, .int .u32 a, .int .u32 b] W fun e W' => e = .returned (.bool true) ∧ Below W.heap.size W W' := by
  refine law_chk (ρ := amoEnv W o a b) (cx := cx59) tt_ok ft_ok rfl (all59 (roAll_start hL) rfl) Tryz.func11 hL rfl (pc := []) (fun f hf => by simp at hf) hartAmo_ev fun π _ => ?_
  simp only [V.concs, V.conc, X.den, amoEnv, wrap_i ho, wrap_u ha, wrap_u hb]

set_option maxRecDepth 100000 in
theorem hartAmo_lifted (os : Os) (started : os.Started) (H : Type) (enc : TypeId × Value → H) :
    ReturnsInHanded {} Tryz.checked os 11 .any (fun w args => (Rows.hartAmoSpec.pre enc Tryz.prog Tryz.f11 [] false w args ∧ laidMetH Tryz.prog Rows.hartAmoRow.laid w) ∧ sizedMet enc Tryz.prog Tryz.f11 (OpenSpec.ofChange Rows.hartAmoSpec) false w args)
      (Rows.hartAmoSpec.post enc Tryz.prog Tryz.f11 false true false false) := by
  refine returnsInHanded_of_change_and (C := Tryz.checked) (X := fun w _ => laidMetH Tryz.prog Rows.hartAmoRow.laid w) (fun _ _ _ hh h => h.of_heap hh) own_door started (by kernel_rfl) Tryz.func11
    (ChangeSpec.witness_shaped (enc := enc) (C := Tryz.checked) (os := os) (X := fun w _ => laidMetH Tryz.prog Rows.hartAmoRow.laid w) false (World.doorLaid Tryz.prog 4000 os) #[.int .i64 0, .int .u32 0, .int .u32 0] 8 rfl (World.shaped_of_RefB (by kernel_rfl) (by kernel_rfl)) (by kernel_rfl) (by kernel_rfl) (by kernel_rfl) (door_met os _)) ?_
  intro W base args ds gs before hval0 hW _ _ hL _
  have hval : ∀ (j : Nat) t v, Tryz.f11.params[j]? = some t → args[j]? = some v → Value.okWide Tryz.prog W .any base t v := hval0
  have hW' := hW
  obtain ⟨p, q, hA0, hV, rfl, hfz, hnd⟩ := hW
  have hA : DataW.TrodAll enc Tryz.prog W 0 (fun _ => true) true Tryz.f11.params.toList args.toList ds p := hA0
  rw [Tryz.params11] at hA hval
  obtain ⟨v0, v1, v2, d0, d1, d2, p0, p1, p2, ea, rfl, rfl, h0, h1, h2⟩ := trodAll_three hA
  subst ea
  obtain ⟨o, rfl, _, _, w0⟩ := open_int Tryz.underlying44 (hval 0 44 v0 rfl rfl) h0
  obtain ⟨a, rfl, _, _, w1⟩ := open_int Tryz.underlying22 (hval 1 22 v1 rfl rfl) h1
  obtain ⟨b, rfl, _, _, w2⟩ := open_int Tryz.underlying22 (hval 2 22 v2 rfl rfl) h2
  refine (hartAmo_walk hL (wf_i w0) (wf_u w1) (wf_u w2)).mono fun e W' ⟨he, hw⟩ => ?_
  subst he
  exact ⟨_, rfl, shut_law laidOut_door (by rw [Tryz.params11]; decide +kernel) rfl Tryz.underlying4 rfl hW' rfl hw⟩

theorem hartAmo_row : Rows.HartAmoSaid :=
  OpenClaim.holds_of_wide 11 Tryz.f11 rfl rfl rfl rfl rfl rfl rfl ⟨rfl, rfl, rfl, rfl, rfl⟩ rfl rfl rfl rfl rfl (by kernel_rfl) Tryz.func11 (by kernel_rfl)
    (of_decide_eq_true (by kernel_rfl)) (by unfold Func.isWrapper; first | (rw [if_pos (by decide +kernel)]; kernel_rfl) | (rw [if_neg (by decide +kernel)]; exact ⟨rfl, rfl⟩))
    (fun os started H enc _ => hartAmo_lifted os started H enc)

theorem hartAmo_holds : Rows.HartAmoCardSaid :=
  Claim7.holds_tied_plain_at .later [] [.data, .data, .data, .listed, .data] true (true, "4f864911adc0c7fcfafd2db5302275d1938f333ff405a3cd709f376062733914") true
    hartAmo_row (fun _ h => by cases h) (by kernel_rfl) (fun _ h => by cases h) hartAmo_row_tie rfl ⟨rfl, rfl⟩ (by kernel_rfl) rfl
    (fun f fn hf hfn => by
      obtain rfl : f = 11 := Option.some.inj ((show Tryz.prog.funcNamed "quadrille/quadrillelaw04.HartAmo" = some 11 by kernel_rfl).symm.trans hf) |>.symm
      obtain rfl : fn = Tryz.f11 := (Option.some.inj (Tryz.func11.symm.trans hfn)).symm
      exact ⟨by kernel_rfl, fun j t ht => by
        rw [Tryz.params11] at ht
        have hm : t ∈ [44, 22, 22] := by simpa using Array.mem_of_getElem? ht
        have hall : ([44, 22, 22].all fun u => !Tryz.prog.wantsStandIn u) = true := by kernel_rfl
        exact (show Tryz.prog.wantsStandIn t = false by simpa using List.all_eq_true.1 hall t hm)⟩)
    (by kernel_rfl)
#print axioms hartAmo_holds
end Go.Proofs.YtcachlbljjpjdaaGreatDoor
