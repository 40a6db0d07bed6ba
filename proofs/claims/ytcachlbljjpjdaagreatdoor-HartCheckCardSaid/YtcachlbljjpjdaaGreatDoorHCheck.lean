/- HartCheck: of every two harts the law answers true, and nothing that was there is turned. No condition. -/
import Derived.Test.YtcachlbljjpjdaaGreatDoorHCheckEv
import Derived.Test.YtcachlbljjpjdaaGreatDoorHRun
import Derived.Test.YtcachlbljjpjdaaGreatDoorCards
import Derived.Test.YtcachlbljjpjdaaGreatDoorTie
import Derived.SevenTiedAt
namespace Go.Proofs.YtcachlbljjpjdaaGreatDoor
open Go Go.Proofs Go.ChangeShapes Go.WideShapes Go.ChangeAt Go.RowKit

def checkEnv (W : World) (id pc : Int) (regs : List Int) (cause : Int) (id' pc' : Int) (regs' : List Int) (cause' : Int) : Env :=
  { b := fun _ => false, v := fun i => match i with | 0 => id | 1 => pc | 2 => cause | 4 => id' | 5 => pc' | _ => cause', f1 := fun f z => if f = 0 then regs.getD z.toNat 0 else regs'.getD z.toNat 0, f2 := fun _ _ _ => 0, s := fun _ => [], sf := fun _ _ => [], ro := roOf W, win := fun _ => ⟨0, 0, none⟩ }
theorem hartCheck_walk {W : World} (hL : laidMetH Tryz.prog Rows.hartCheckRow.laid W) {id pc : Int} {regs : List Int} {cause : Int} (h : HartOk id pc regs cause) {id' pc' : Int} {regs' : List Int} {cause' : Int} (h' : HartOk id' pc' regs' cause') :
    Calls Tryz.prog 7 #[hartW id pc regs cause, hartW id' pc' regs' cause'] W fun e W' => e = .returned (.bool true) ∧ Below W.heap.size W W' := by
  refine law_chk (ρ := checkEnv W id pc regs cause id' pc' regs' cause') (cx := cx13) tt_ok ft_ok rfl (all13 (roAll_start hL) rfl) Tryz.func7 hL rfl (pc := []) (fun f hf => by simp at hf) hartCheck_ev fun π _ => ?_
  have g : ∀ (l : List Int) (j : Nat) (hj : j < l.length), l.getD (Int.ofNat j).toNat 0 = l[j] := fun l j hj => by
    rw [List.getD_eq_getElem?_getD, show (Int.ofNat j).toNat = j from rfl, List.getElem?_eq_getElem hj]
    rfl
  simp only [V.concs]
  rw [hartX_conc (o := 0) (f := 0) h ⟨rfl, rfl, rfl, fun j hj => g regs j hj⟩, hartX_conc (o := 4) (f := 1) h' ⟨rfl, rfl, rfl, fun j hj => g regs' j hj⟩]

set_option maxRecDepth 100000 in
theorem hartCheck_lifted (os : Os) (started : os.Started) (H : Type) (enc : TypeId × Value → H) :
    ReturnsInHanded {} Tryz.checked os 7 .any (fun w args => (Rows.hartCheckSpec.pre enc Tryz.prog Tryz.f7 [] false w args ∧ laidMetH Tryz.prog Rows.hartCheckRow.laid w) ∧ sizedMet enc Tryz.prog Tryz.f7 (OpenSpec.ofChange Rows.hartCheckSpec) false w args)
      (Rows.hartCheckSpec.post enc Tryz.prog Tryz.f7 false true false false) := by
  refine returnsInHanded_of_change_and (C := Tryz.checked) (X := fun w _ => laidMetH Tryz.prog Rows.hartCheckRow.laid w) (fun _ _ _ hh h => h.of_heap hh) own_door started (by kernel_rfl) Tryz.func7
    (ChangeSpec.witness_shaped (enc := enc) (C := Tryz.checked) (os := os) (X := fun w _ => laidMetH Tryz.prog Rows.hartCheckRow.laid w) false (World.doorLaid Tryz.prog 4000 os) #[hartW 0 0 (List.replicate 32 0) 0, hartW 0 0 (List.replicate 32 0) 0] 8 rfl (World.shaped_of_RefB (by kernel_rfl) (by kernel_rfl)) (by kernel_rfl) (by kernel_rfl) (by kernel_rfl) (door_met os _)) ?_
  intro W base args ds gs before hval0 hW _ _ hL _
  have hval : ∀ (j : Nat) t v, Tryz.f7.params[j]? = some t → args[j]? = some v → Value.okWide Tryz.prog W .any base t v := hval0
  have hW' := hW
  obtain ⟨p, q, hA0, hV, rfl, hfz, hnd⟩ := hW
  have hA : DataW.TrodAll enc Tryz.prog W 0 (fun _ => true) true Tryz.f7.params.toList args.toList ds p := hA0
  rw [Tryz.params7] at hA hval
  obtain ⟨v0, v1, d0, d1, p0, p1, ea, rfl, rfl, h0, h1⟩ := trodAll_two hA
  subst ea
  obtain ⟨id, pc, regs, cause, rfl, k0⟩ := open_hart (hval 0 26 v0 rfl rfl) h0
  obtain ⟨id', pc', regs', cause', rfl, k1⟩ := open_hart (hval 1 26 v1 rfl rfl) h1
  refine (hartCheck_walk hL k0 k1).mono fun e W' ⟨he, hw⟩ => ?_
  subst he
  exact ⟨_, rfl, shut_law laidOut_door (by rw [Tryz.params7]; decide +kernel) rfl Tryz.underlying4 rfl hW' rfl hw⟩

theorem hartCheck_row : Rows.HartCheckSaid :=
  OpenClaim.holds_of_wide 7 Tryz.f7 rfl rfl rfl rfl rfl rfl rfl ⟨rfl, rfl, rfl, rfl, rfl⟩ rfl rfl rfl rfl rfl (by kernel_rfl) Tryz.func7 (by kernel_rfl)
    (of_decide_eq_true (by kernel_rfl)) (by unfold Func.isWrapper; first | (rw [if_pos (by decide +kernel)]; kernel_rfl) | (rw [if_neg (by decide +kernel)]; exact ⟨rfl, rfl⟩))
    (fun os started H enc _ => hartCheck_lifted os started H enc)

theorem hartCheck_holds : Rows.HartCheckCardSaid :=
  Claim7.holds_tied_plain_at .later [] [.data, .data, .data, .listed, .data] true (true, "4f864911adc0c7fcfafd2db5302275d1938f333ff405a3cd709f376062733914") true
    hartCheck_row (fun _ h => by cases h) (by kernel_rfl) (fun _ h => by cases h) hartCheck_row_tie rfl ⟨rfl, rfl⟩ (by kernel_rfl) rfl
    (fun f fn hf hfn => by
      obtain rfl : f = 7 := Option.some.inj ((show Tryz.prog.funcNamed "quadrille/quadrillelaw04.HartCheck" = some 7 by kernel_rfl).symm.trans hf) |>.symm
      obtain rfl : fn = Tryz.f7 := (Option.some.inj (Tryz.func7.symm.trans hfn)).symm
      exact ⟨by kernel_rfl, fun j t ht => by
        rw [Tryz.params7] at ht
        have hm : t ∈ [26, 26] := by simpa using Array.mem_of_getElem? ht
        have hall : ([26, 26].all fun u => !Tryz.prog.wantsStandIn u) = true := by kernel_rfl
        exact (show Tryz.prog.wantsStandIn t = false by simpa using List.all_eq_true.1 hall t hm)⟩)
    (by kernel_rfl)
#print axioms hartCheck_holds
end Go.Proofs.YtcachlbljjpjdaaGreatDoor
