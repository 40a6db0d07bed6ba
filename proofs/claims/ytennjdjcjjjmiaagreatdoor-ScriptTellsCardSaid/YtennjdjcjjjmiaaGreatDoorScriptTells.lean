/- ScriptTells: of any choice the law answers true, and nothing that was there is turned. No condition. -/
import Derived.Test.YtennjdjcjjjmiaaGreatDoorTOk
import Derived.Test.YtennjdjcjjjmiaaGreatDoorTRun
import Derived.Test.YtennjdjcjjjmiaaGreatDoorFwF
import Derived.Test.YtennjdjcjjjmiaaGreatDoorCards
import Derived.Test.YtennjdjcjjjmiaaGreatDoorTie
import Derived.SevenTiedAt
import Derived.ChangeSlices
namespace Go.Proofs.YtennjdjcjjjmiaaGreatDoor
open Go Go.Proofs Go.ChangeShapes Go.WideShapes Go.ChangeAt Go.RowKit
/-! ### Small things -/
theorem roAll_of {W : World} (h : laidMetH Tryz.prog Rows.scriptTellsRow.laid W) {ro : Nat → Obj} (h0 : ro 0 = roOf W 0) : RoAll ro ∧ W.heap[0]? = some (ro 0) := by
  obtain ⟨t, fr, h1⟩ := of_laid h
  have e : ro 0 = .cells ((asciiZ 256).map (.int .u8)).toArray t fr := by rw [h0]; simp only [roOf, h1, Option.getD_some]
  refine ⟨fun ρ hr => ⟨fun x hx => ?_⟩, by rw [h1, e]⟩
  simp only [LStart, List.mem_singleton] at hx
  subst hx
  exact ⟨t, fr, fun π => by rw [hr, e, asciiL_concs]⟩
def InI (z : Int) : Prop := -9223372036854775808 ≤ z ∧ z ≤ 9223372036854775807
theorem wrap_i {z : Int} (h : InI z) : IntKind.i64.wrap z = z := wrap_in (by simp [kLo]; exact h.1) (by simp [kHi]; exact h.2)
theorem wf_i {z : Int} (h : (Lit.int .i64 z).wf = true) : InI z := by
  simp [Lit.wf, IntKind.min, IntKind.max, IntKind.signed, IntKind.bits] at h
  unfold InI
  omega
theorem pcNil {ρ : Env} : PcOk ρ [] := fun f hf => by cases hf
theorem pcCons {ρ : Env} {x : X} {b : Bool} {pc : PC} (h : x.tt ρ = b) (hp : PcOk ρ pc) : PcOk ρ ((x, b) :: pc) := fun f hf => by
  rcases List.mem_cons.1 hf with rfl | hf
  · exact h
  · exact hp f hf
theorem lt_tt {ρ : Env} {x y : X} {a b : Int} (hx : x.den ρ = a) (hy : y.den ρ = b) : (X.lt x y).tt ρ = decide (a < b) := by
  rw [X.tt, X.den, b2i_tt, hx, hy]
theorem le_tt {ρ : Env} {x y : X} {a b : Int} (hx : x.den ρ = a) (hy : y.den ρ = b) : (X.le x y).tt ρ = decide (a ≤ b) := by
  rw [X.tt, X.den, b2i_tt, hx, hy]
theorem eq_tt {ρ : Env} {x y : X} {a b : Int} (hx : x.den ρ = a) (hy : y.den ρ = b) : (X.eq x y).tt ρ = decide (a = b) := by
  rw [X.tt, X.den, b2i_tt, hx, hy]
  rfl
def varEnv (W : World) (v : Nat → Int) : Env := { b := fun _ => false, v := v, f1 := fun _ _ => 0, f2 := fun _ _ _ => 0, s := fun _ => [], sf := fun _ _ => [], ro := roOf W, win := fun _ => ⟨0, 0, none⟩ }
/-! ### The law -/
noncomputable def tells (k h : X) (pc : PC) : Bool := allChk LStart ((evT cx8 4000).call 6 [.agg [.int .i64 k, .int .i64 h, .int .i64 (.wrap .i64 (.var 2))]] (stPc pc))
def kX : X := .wrap .i64 (.var 0)
def hX : X := .wrap .i64 (.var 1)
noncomputable def tellsK (k : X) : Bool := match tells k hX [(.lt hX (.lit 0), true)], tells k hX [(.le (.lit 4) hX, true)], tells k (.lit 0) [], tells k (.lit 1) [], tells k (.lit 2) [], tells k (.lit 3) [] with
  | true, true, true, true, true, true => true
  | _, _, _, _, _, _ => false
set_option maxRecDepth 100000 in
theorem tells_low : tells kX hX [(.lt kX (.lit 1), true)] = true := by kernel_rfl
set_option maxRecDepth 100000 in
theorem tells_high : tells kX hX [(.lt (.lit 5) kX, true)] = true := by kernel_rfl
set_option maxRecDepth 100000 in
theorem tells_1 : tellsK (.lit 1) = true := by kernel_rfl
set_option maxRecDepth 100000 in
theorem tells_2 : tellsK (.lit 2) = true := by kernel_rfl
set_option maxRecDepth 100000 in
theorem tells_3 : tellsK (.lit 3) = true := by kernel_rfl
set_option maxRecDepth 100000 in
theorem tells_4 : tellsK (.lit 4) = true := by kernel_rfl
set_option maxRecDepth 100000 in
theorem tells_5 : tellsK (.lit 5) = true := by kernel_rfl
def tellsV (k h n : Int) (i : Nat) : Int := match i with
  | 0 => k
  | 1 => h
  | _ => n
theorem tells_calls {W : World} (hL : laidMetH Tryz.prog Rows.scriptTellsRow.laid W) {k h n : Int} (hn : InI n) {kx hx : X} {pc : PC} (hp : PcOk (varEnv W (tellsV k h n)) pc) (ek : kx.den (varEnv W (tellsV k h n)) = k) (eh : hx.den (varEnv W (tellsV k h n)) = h)
    (ht : tells kx hx pc = true) : Calls Tryz.prog 6 #[.agg #[.int .i64 k, .int .i64 h, .int .i64 n]] W fun e W' => e = .returned (.bool true) ∧ Below W.heap.size W W' := by
  refine law_chk (ρ := varEnv W (tellsV k h n)) (cx := cx8) tt_ok ft_ok rfl (all8 (roAll_start hL) rfl) Tryz.func6 hL rfl hp (by rw [evT_call]; exact ht) fun π _ => ?_
  simp only [V.concs, V.conc, ek, eh]
  simp only [X.den, varEnv, tellsV, wrap_i hn]
theorem tellsK_calls {W : World} (hL : laidMetH Tryz.prog Rows.scriptTellsRow.laid W) {k h n : Int} (hn : InI n) (hh : InI h) (ht : tellsK (.lit k) = true) :
    Calls Tryz.prog 6 #[.agg #[.int .i64 k, .int .i64 h, .int .i64 n]] W fun e W' => e = .returned (.bool true) ∧ Below W.heap.size W W' := by
  have eh : hX.den (varEnv W (tellsV k h n)) = h := wrap_i hh
  unfold tellsK at ht
  split at ht
  · rename_i t1 t2 t3 t4 t5 t6
    by_cases h1 : h < 0
    · exact tells_calls hL hn (pcCons ((lt_tt (y := .lit 0) (b := 0) eh rfl).trans (decide_eq_true h1)) pcNil) rfl eh t1
    by_cases h2 : 4 ≤ h
    · exact tells_calls hL hn (pcCons ((le_tt (x := .lit 4) (a := 4) rfl eh).trans (decide_eq_true h2)) pcNil) rfl eh t2
    rcases (by omega : h = 0 ∨ h = 1 ∨ h = 2 ∨ h = 3) with rfl | rfl | rfl | rfl
    · exact tells_calls hL hn pcNil rfl rfl t3
    · exact tells_calls hL hn pcNil rfl rfl t4
    · exact tells_calls hL hn pcNil rfl rfl t5
    · exact tells_calls hL hn pcNil rfl rfl t6
  · cases ht
theorem scriptTells_walk {W : World} (hL : laidMetH Tryz.prog Rows.scriptTellsRow.laid W) {k h n : Int} (hk : InI k) (hh : InI h) (hn : InI n) :
    Calls Tryz.prog 6 #[.agg #[.int .i64 k, .int .i64 h, .int .i64 n]] W fun e W' => e = .returned (.bool true) ∧ Below W.heap.size W W' := by
  have ek : kX.den (varEnv W (tellsV k h n)) = k := wrap_i hk
  have eh : hX.den (varEnv W (tellsV k h n)) = h := wrap_i hh
  by_cases k1 : k < 1
  · exact tells_calls hL hn (pcCons ((lt_tt (y := .lit 1) (b := 1) ek rfl).trans (decide_eq_true k1)) pcNil) ek eh tells_low
  by_cases k2 : 5 < k
  · exact tells_calls hL hn (pcCons ((lt_tt (x := .lit 5) (a := 5) rfl ek).trans (decide_eq_true k2)) pcNil) ek eh tells_high
  rcases (by omega : k = 1 ∨ k = 2 ∨ k = 3 ∨ k = 4 ∨ k = 5) with rfl | rfl | rfl | rfl | rfl
  · exact tellsK_calls hL hn hh tells_1
  · exact tellsK_calls hL hn hh tells_2
  · exact tellsK_calls hL hn hh tells_3
  · exact tellsK_calls hL hn hh tells_4
  · exact tellsK_calls hL hn hh tells_5
theorem three_of {cs : List Value} (h : AllK [.int .i64, .int .i64, .int .i64] cs) : ∃ k h n : Int, cs = [.int .i64 k, .int .i64 h, .int .i64 n] ∧ InI k ∧ InI h ∧ InI n := by
  obtain ⟨x, y, z, rfl⟩ : ∃ x y z, cs = [x, y, z] := by
    have hl := h.len
    match cs, hl with
    | [x, y, z], _ => exact ⟨x, y, z, rfl⟩
  obtain ⟨hx, hy, hz, _⟩ := h
  obtain ⟨a, e1, h1⟩ := hx
  obtain ⟨b, e2, h2⟩ := hy
  obtain ⟨c, e3, h3⟩ := hz
  exact ⟨a, b, c, by rw [e1, e2, e3], wf_i h1, wf_i h2, wf_i h3⟩

set_option maxRecDepth 100000 in
theorem scriptTells_lifted (os : Os) (started : os.Started) (H : Type) (enc : TypeId × Value → H) :
    ReturnsInHanded {} Tryz.checked os 6 .any (fun w args => (Rows.scriptTellsSpec.pre enc Tryz.prog Tryz.f6 [] false w args ∧ laidMetH Tryz.prog Rows.scriptTellsRow.laid w) ∧ sizedMet enc Tryz.prog Tryz.f6 (OpenSpec.ofChange Rows.scriptTellsSpec) false w args)
      (Rows.scriptTellsSpec.post enc Tryz.prog Tryz.f6 false true false false) := by
  refine returnsInHanded_of_change_and (C := Tryz.checked) (X := fun w _ => laidMetH Tryz.prog Rows.scriptTellsRow.laid w) (fun _ _ _ hh h => h.of_heap hh) own_door started (by kernel_rfl) Tryz.func6
    (ChangeSpec.witness_shaped (enc := enc) (C := Tryz.checked) (os := os) (X := fun w _ => laidMetH Tryz.prog Rows.scriptTellsRow.laid w) false (World.doorLaid Tryz.prog 4000 os) #[.agg #[.int .i64 0, .int .i64 0, .int .i64 0]] 8 rfl (World.shaped_of_RefB (by kernel_rfl) (by kernel_rfl)) (by kernel_rfl) (by kernel_rfl) (by kernel_rfl) (door_met os _)) ?_
  intro W base args ds gs before hval0 hW _ _ hL _
  have hval : ∀ (j : Nat) t v, Tryz.f6.params[j]? = some t → args[j]? = some v → Value.okWide Tryz.prog W .any base t v := hval0
  have hW' := hW
  obtain ⟨p, q, hA0, hV, rfl, hfz, hnd⟩ := hW
  have hA : DataW.TrodAll enc Tryz.prog W 0 (fun _ => true) true Tryz.f6.params.toList args.toList ds p := hA0
  rw [Tryz.params6] at hA hval
  obtain ⟨v0, d0, ea, rfl, h0⟩ := trodAll_one hA
  subst ea
  obtain ⟨cs, rfl, hk⟩ := open_flat (n := 4) (ks := [.int .i64, .int .i64, .int .i64]) Tryz.underlying27 (by kernel_rfl) (hval 0 27 v0 rfl rfl) h0
  obtain ⟨k, h, n, rfl, hk1, hk2, hk3⟩ := three_of hk
  refine (scriptTells_walk hL hk1 hk2 hk3).mono fun e W' ⟨he, hw⟩ => ?_
  subst he
  exact ⟨_, rfl, shut_law laidOut_door (by rw [Tryz.params6]; decide +kernel) rfl Tryz.underlying4 rfl hW' rfl hw⟩

set_option maxHeartbeats 4000000 in
/-- The row's facts, each one by itself (in one they take too much memory). -/
theorem tells_facts : joinedFacts Tryz.pinned.checked.prog 6 Tryz.f6 Rows.scriptTellsSpec Rows.scriptTellsRow = true := by
  unfold joinedFacts
  simp only [Bool.and_eq_true]
  repeat' apply And.intro
  all_goals (as_aux_lemma => kernel_rfl)
theorem scriptTells_row : Rows.ScriptTellsSaid :=
  OpenClaim.holds_of_wide 6 Tryz.f6 rfl rfl rfl rfl rfl rfl rfl ⟨rfl, rfl, rfl, rfl, rfl⟩ rfl rfl rfl rfl rfl (by kernel_rfl) Tryz.func6 tells_facts
    (of_decide_eq_true (by kernel_rfl)) (by unfold Func.isWrapper; first | (rw [if_pos (by decide +kernel)]; kernel_rfl) | (rw [if_neg (by decide +kernel)]; exact ⟨rfl, rfl⟩))
    (fun os started H enc _ => scriptTells_lifted os started H enc)

theorem scriptTells_holds : Rows.ScriptTellsCardSaid :=
  Claim7.holds_tied_plain_at .later [] [.data, .data, .data, .listed, .data] true (true, "7e56d34005e852c83da633658c48358c19593e8513f3bfa23ae13d864b283670") true
    scriptTells_row (fun _ h => by cases h) (by kernel_rfl) (fun _ h => by cases h) scriptTells_row_tie rfl ⟨rfl, rfl⟩ (by kernel_rfl) rfl
    (fun f fn hf hfn => by
      obtain rfl : f = 6 := Option.some.inj ((show Tryz.prog.funcNamed "quadrille/quadrillelaw19.ScriptTells" = some 6 by kernel_rfl).symm.trans hf) |>.symm
      obtain rfl : fn = Tryz.f6 := (Option.some.inj (Tryz.func6.symm.trans hfn)).symm
      exact ⟨by kernel_rfl, fun j t ht => by
        rw [Tryz.params6] at ht
        have hm : t ∈ [27] := by simpa using Array.mem_of_getElem? ht
        have hall : ([27].all fun u => !Tryz.prog.wantsStandIn u) = true := by kernel_rfl
        exact (show Tryz.prog.wantsStandIn t = false by simpa using List.all_eq_true.1 hall t hm)⟩)
    (by kernel_rfl)
#print axioms scriptTells_holds
end Go.Proofs.YtennjdjcjjjmiaaGreatDoor
