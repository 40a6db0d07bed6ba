/- FairNil: of any number the law answers true, and nothing that was there is turned. No condition. -/
import Derived.Test.YtkjhgfckmklmpaaGreatDoorROk
import Derived.Test.YtkjhgfckmklmpaaGreatDoorRRun
import Derived.Test.YtkjhgfckmklmpaaGreatDoorFwF
import Derived.Test.YtkjhgfckmklmpaaGreatDoorCards
import Derived.Test.YtkjhgfckmklmpaaGreatDoorTie
import Derived.SevenTiedAt
import Derived.ChangeSlices
namespace Go.Proofs.YtkjhgfckmklmpaaGreatDoor
open Go Go.Proofs Go.ChangeShapes Go.WideShapes Go.ChangeAt Go.RowKit
/-! ### Small things -/
theorem roAll_of {W : World} (h : laidMetH Tryz.prog Rows.fairNilRow.laid W) {ro : Nat → Obj} (h0 : ro 0 = roOf W 0) : RoAll ro ∧ W.heap[0]? = some (ro 0) := by
  obtain ⟨t, fr, h1⟩ := of_laid h
  have e : ro 0 = .cells ((asciiZ 256).map (.int .u8)).toArray t fr := by rw [h0]; simp only [roOf, h1, Option.getD_some]
  refine ⟨fun ρ hr => ⟨fun x hx => ?_⟩, by rw [h1, e]⟩
  simp only [LStart, List.mem_singleton] at hx
  subst hx
  exact ⟨t, fr, fun π => by rw [hr, e, asciiL_concs]⟩
def InI (z : Int) : Prop := -9223372036854775808 ≤ z ∧ z ≤ 9223372036854775807
theorem wrap_i {z : Int} (h : InI z) : IntKind.i64.wrap z = z := wrap_in (by simp [kLo]; exact h.1) (by simp [kHi]; exact h.2)
theorem wf_i {z : Int} (h : (Lit.int .i64 z).wf = true) : InI z := by
  simp [Lit.wf, IntKind.min, IntKind.max, IntKind.signed, IntKind.bits] at h
  unfold InI
  omega
theorem pcNil {ρ : Env} : PcOk ρ [] := fun f hf => by cases hf
theorem pcCons {ρ : Env} {x : X} {b : Bool} {pc : PC} (h : x.tt ρ = b) (hp : PcOk ρ pc) : PcOk ρ ((x, b) :: pc) := fun f hf => by
  rcases List.mem_cons.1 hf with rfl | hf
  · exact h
  · exact hp f hf
theorem lt_tt {ρ : Env} {x y : X} {a b : Int} (hx : x.den ρ = a) (hy : y.den ρ = b) : (X.lt x y).tt ρ = decide (a < b) := by
  rw [X.tt, X.den, b2i_tt, hx, hy]
theorem le_tt {ρ : Env} {x y : X} {a b : Int} (hx : x.den ρ = a) (hy : y.den ρ = b) : (X.le x y).tt ρ = decide (a ≤ b) := by
  rw [X.tt, X.den, b2i_tt, hx, hy]
theorem eq_tt {ρ : Env} {x y : X} {a b : Int} (hx : x.den ρ = a) (hy : y.den ρ = b) : (X.eq x y).tt ρ = decide (a = b) := by
  rw [X.tt, X.den, b2i_tt, hx, hy]
  rfl
def varEnv (W : World) (v : Nat → Int) : Env := { b := fun _ => false, v := v, f1 := fun _ _ => 0, f2 := fun _ _ _ => 0, s := fun _ => [], sf := fun _ _ => [], ro := roOf W, win := fun _ => ⟨0, 0, none⟩ }
/-! ### The law -/
set_option maxRecDepth 100000 in
theorem fair_run : allChk LStart ((ev cx9 4000).call 3 [.int .i64 (.wrap .i64 (.var 0))] (stPc [])) = true := by rw [evT_call]; kernel_rfl
theorem fairNil_walk {W : World} (hL : laidMetH Tryz.prog Rows.fairNilRow.laid W) {n : Int} (hn : InI n) : Calls Tryz.prog 3 #[.int .i64 n] W fun e W' => e = .returned (.bool true) ∧ Below W.heap.size W W' :=
  law_chk (ρ := varEnv W fun _ => n) (cx := cx9) tt_ok ft_ok rfl (all9 (roAll_start hL) rfl) Tryz.func3 hL rfl pcNil fair_run fun π _ => by simp only [V.concs, V.conc, X.den, varEnv, wrap_i hn]

set_option maxRecDepth 100000 in
theorem fairNil_lifted (os : Os) (started : os.Started) (H : Type) (enc : TypeId × Value → H) :
    ReturnsInHanded {} Tryz.checked os 3 .any (fun w args => (Rows.fairNilSpec.pre enc Tryz.prog Tryz.f3 [] false w args ∧ laidMetH Tryz.prog Rows.fairNilRow.laid w) ∧ sizedMet enc Tryz.prog Tryz.f3 (OpenSpec.ofChange Rows.fairNilSpec) false w args)
      (Rows.fairNilSpec.post enc Tryz.prog Tryz.f3 false true false false) := by
  refine returnsInHanded_of_change_and (C := Tryz.checked) (X := fun w _ => laidMetH Tryz.prog Rows.fairNilRow.laid w) (fun _ _ _ hh h => h.of_heap hh) own_door started (by kernel_rfl) Tryz.func3
    (ChangeSpec.witness_shaped (enc := enc) (C := Tryz.checked) (os := os) (X := fun w _ => laidMetH Tryz.prog Rows.fairNilRow.laid w) false (World.doorLaid Tryz.prog 4000 os) #[.int .i64 0] 8 rfl (World.shaped_of_RefB (by kernel_rfl) (by kernel_rfl)) (by kernel_rfl) (by kernel_rfl) (by kernel_rfl) (door_met os _)) ?_
  intro W base args ds gs before hval0 hW _ _ hL _
  have hval : ∀ (j : Nat) t v, Tryz.f3.params[j]? = some t → args[j]? = some v → Value.okWide Tryz.prog W .any base t v := hval0
  have hW' := hW
  obtain ⟨p, q, hA0, hV, rfl, hfz, hnd⟩ := hW
  have hA : DataW.TrodAll enc Tryz.prog W 0 (fun _ => true) true Tryz.f3.params.toList args.toList ds p := hA0
  rw [Tryz.params3] at hA hval
  obtain ⟨v0, d0, ea, rfl, h0⟩ := trodAll_one hA
  subst ea
  obtain ⟨z, rfl, _, _, w0⟩ := open_int Tryz.underlying3 (hval 0 3 v0 rfl rfl) h0
  refine (fairNil_walk hL (wf_i w0)).mono fun e W' ⟨he, hw⟩ => ?_
  subst he
  exact ⟨_, rfl, shut_law laidOut_door (by rw [Tryz.params3]; decide +kernel) rfl Tryz.underlying4 rfl hW' rfl hw⟩

theorem fairNil_row : Rows.FairNilSaid :=
  OpenClaim.holds_of_wide 3 Tryz.f3 rfl rfl rfl rfl rfl rfl rfl ⟨rfl, rfl, rfl, rfl, rfl⟩ rfl rfl rfl rfl rfl (by kernel_rfl) Tryz.func3 (by kernel_rfl)
    (of_decide_eq_true (by kernel_rfl)) (by unfold Func.isWrapper; first | (rw [if_pos (by decide +kernel)]; kernel_rfl) | (rw [if_neg (by decide +kernel)]; exact ⟨rfl, rfl⟩))
    (fun os started H enc _ => fairNil_lifted os started H enc)

theorem fairNil_holds : Rows.FairNilCardSaid :=
  Claim7.holds_tied_plain_at .later [] [.data, .data, .data, .listed, .data] true (true, "85b6b2db75758fe02c4d41fffe489bd6e37d04aa64ace4b47931970573232a20") true
    fairNil_row (fun _ h => by cases h) (by kernel_rfl) (fun _ h => by cases h) fairNil_row_tie rfl ⟨rfl, rfl⟩ (by kernel_rfl) rfl
    (fun f fn hf hfn => by
      obtain rfl : f = 3 := Option.some.inj ((show Tryz.prog.funcNamed "quadrille/quadrillelaw18.FairNil" = some 3 by kernel_rfl).symm.trans hf) |>.symm
      obtain rfl : fn = Tryz.f3 := (Option.some.inj (Tryz.func3.symm.trans hfn)).symm
      exact ⟨by kernel_rfl, fun j t ht => by
        rw [Tryz.params3] at ht
        have hm : t ∈ [3] := by simpa using Array.mem_of_getElem? ht
        have hall : ([3].all fun u => !Tryz.prog.wantsStandIn u) = true := by kernel_rfl
        exact (show Tryz.prog.wantsStandIn t = false by simpa using List.all_eq_true.1 hall t hm)⟩)
    (by kernel_rfl)
#print axioms fairNil_holds
end Go.Proofs.YtkjhgfckmklmpaaGreatDoor
