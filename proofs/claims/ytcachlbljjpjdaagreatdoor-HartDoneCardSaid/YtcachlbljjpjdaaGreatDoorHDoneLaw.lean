/- HartDone: of every hart, word, size and answer the law answers true, and nothing that was there is turned. No condition. -/
import Derived.Test.YtcachlbljjpjdaaGreatDoorHDone
import Derived.Test.YtcachlbljjpjdaaGreatDoorHRun
import Derived.Test.YtcachlbljjpjdaaGreatDoorCards
import Derived.Test.YtcachlbljjpjdaaGreatDoorTie
import Derived.SevenTiedAt
namespace Go.Proofs.YtcachlbljjpjdaaGreatDoor
open Go Go.Proofs Go.ChangeShapes Go.WideShapes Go.ChangeAt Go.RowKit

set_option maxRecDepth 100000 in
theorem hartDone_ev : allChk LStart ((ev cxW 4000).call 3 (doneX (wordX 0 32)) (stPc [])) = true := by rw [evT_call]; kernel_rfl
theorem hartDone_walk {W : World} (hL : laidMetH Tryz.prog Rows.hartDoneRow.laid W) {id pc : Int} {regs : List Int} {cause : Int} (h : HartOk id pc regs cause) {w n a : Int} {b : Bool} (hw : InU w) (hn : InI n) (ha : InU a) :
    Calls Tryz.prog 3 #[hartW id pc regs cause, toldW w n a b] W fun e W' => e = .returned (.bool true) ∧ Below W.heap.size W W' := by
  obtain ⟨w, rfl⟩ := Int.eq_ofNat_of_zero_le hw.1
  obtain ⟨a, rfl⟩ := Int.eq_ofNat_of_zero_le ha.1
  have hwd : w < 4294967296 := by have := hw.2; omega
  have had : a < 4294967296 := by have := ha.2; omega
  refine law_chk (ρ := doneEnv (env0 W) id pc regs cause n w a b) (cx := cxW) tt_ok ft_ok rfl (allW (roAll_start hL) rfl) Tryz.func3 hL rfl (pc := []) (fun f hf => by simp at hf) hartDone_ev fun π _ => ?_
  have e : (wordX 0 32).den (doneEnv (env0 W) id pc regs cause n w a b) = (w : Int) := word_of (by omega) (by omega) fun i hi => by
    show doneB w a b (0 + i) = _
    unfold doneB
    rw [if_pos (by omega), Nat.zero_add]
    rfl
  exact doneX_conc h hn had e

set_option maxRecDepth 100000 in
theorem hartDone_lifted (os : Os) (started : os.Started) (H : Type) (enc : TypeId × Value → H) :
    ReturnsInHanded {} Tryz.checked os 3 .any (fun w args => (Rows.hartDoneSpec.pre enc Tryz.prog Tryz.f3 [] false w args ∧ laidMetH Tryz.prog Rows.hartDoneRow.laid w) ∧ sizedMet enc Tryz.prog Tryz.f3 (OpenSpec.ofChange Rows.hartDoneSpec) false w args)
      (Rows.hartDoneSpec.post enc Tryz.prog Tryz.f3 false true false false) := by
  refine returnsInHanded_of_change_and (C := Tryz.checked) (X := fun w _ => laidMetH Tryz.prog Rows.hartDoneRow.laid w) (fun _ _ _ hh h => h.of_heap hh) own_door started (by kernel_rfl) Tryz.func3
    (ChangeSpec.witness_shaped (enc := enc) (C := Tryz.checked) (os := os) (X := fun w _ => laidMetH Tryz.prog Rows.hartDoneRow.laid w) false (World.doorLaid Tryz.prog 4000 os) #[hartW 0 0 (List.replicate 32 0) 0, toldW 0 0 0 false] 8 rfl (World.shaped_of_RefB (by kernel_rfl) (by kernel_rfl)) (by kernel_rfl) (by kernel_rfl) (by kernel_rfl) (door_met os _)) ?_
  intro W base args ds gs before hval0 hW _ _ hL _
  have hval : ∀ (j : Nat) t v, Tryz.f3.params[j]? = some t → args[j]? = some v → Value.okWide Tryz.prog W .any base t v := hval0
  have hW' := hW
  obtain ⟨p, q, hA0, hV, rfl, hfz, hnd⟩ := hW
  have hA : DataW.TrodAll enc Tryz.prog W 0 (fun _ => true) true Tryz.f3.params.toList args.toList ds p := hA0
  rw [Tryz.params3] at hA hval
  obtain ⟨v0, v1, d0, d1, p0, p1, ea, rfl, rfl, h0, h1⟩ := trodAll_two hA
  subst ea
  obtain ⟨id, pc, regs, cause, rfl, k0⟩ := open_hart (hval 0 26 v0 rfl rfl) h0
  obtain ⟨w, n, a, b, rfl, kw, kn, ka⟩ := open_told (hval 1 30 v1 rfl rfl) h1
  refine (hartDone_walk hL k0 kw kn ka).mono fun e W' ⟨he, hw⟩ => ?_
  subst he
  exact ⟨_, rfl, shut_law laidOut_door (by rw [Tryz.params3]; decide +kernel) rfl Tryz.underlying4 rfl hW' rfl hw⟩

theorem hartDone_row : Rows.HartDoneSaid :=
  OpenClaim.holds_of_wide 3 Tryz.f3 rfl rfl rfl rfl rfl rfl rfl ⟨rfl, rfl, rfl, rfl, rfl⟩ rfl rfl rfl rfl rfl (by kernel_rfl) Tryz.func3 (by kernel_rfl)
    (of_decide_eq_true (by kernel_rfl)) (by unfold Func.isWrapper; first | (rw [if_pos (by decide +kernel)]; kernel_rfl) | (rw [if_neg (by decide +kernel)]; exact ⟨rfl, rfl⟩))
    (fun os started H enc _ => hartDone_lifted os started H enc)

theorem hartDone_holds : Rows.HartDoneCardSaid :=
  Claim7.holds_tied_plain_at .later [] [.data, .data, .data, .listed, .data] true (true, "4f864911adc0c7fcfafd2db5302275d1938f333ff405a3cd709f376062733914") true
    hartDone_row (fun _ h => by cases h) (by kernel_rfl) (fun _ h => by cases h) hartDone_row_tie rfl ⟨rfl, rfl⟩ (by kernel_rfl) rfl
    (fun f fn hf hfn => by
      obtain rfl : f = 3 := Option.some.inj ((show Tryz.prog.funcNamed "quadrille/quadrillelaw04.HartDone" = some 3 by kernel_rfl).symm.trans hf) |>.symm
      obtain rfl : fn = Tryz.f3 := (Option.some.inj (Tryz.func3.symm.trans hfn)).symm
      exact ⟨by kernel_rfl, fun j t ht => by
        rw [Tryz.params3] at ht
        have hm : t ∈ [26, 30] := by simpa using Array.mem_of_getElem? ht
        have hall : ([26, 30].all fun u => !Tryz.prog.wantsStandIn u) = true := by kernel_rfl
        exact (show Tryz.prog.wantsStandIn t = false by simpa using List.all_eq_true.1 hall t hm)⟩)
    (by kernel_rfl)
#print axioms hartDone_holds
end Go.Proofs.YtcachlbljjpjdaaGreatDoor
