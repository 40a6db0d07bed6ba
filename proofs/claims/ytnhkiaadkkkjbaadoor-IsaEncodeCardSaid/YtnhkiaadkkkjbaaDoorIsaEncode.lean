/- IsaEncode: of every instruction the law answers true, and nothing that was there is turned. No condition. -/
import Derived.Test.YtnhkiaadkkkjbaaDoorIsaEncodeF
import Derived.Test.YtnhkiaadkkkjbaaDoorDoorRun
import Derived.Test.YtnhkiaadkkkjbaaDoorCards
import Derived.Test.YtnhkiaadkkkjbaaDoorTie
import Derived.SevenTiedAt
namespace Go.Proofs.YtnhkiaadkkkjbaaDoor
open Go Go.Proofs Go.ChangeShapes Go.WideShapes Go.ChangeAt Go.RowKit

theorem noOp_ok {ρ : Env} : ∀ {k : Nat}, (∀ j : Nat, 1 ≤ j → j ≤ k → ρ.v 0 ≠ j) → PcOk ρ (noOp k)
  | 0, _ => fun f hf => by simp [noOp] at hf
  | k + 1, h => fun f hf => by
    unfold noOp at hf
    rcases List.mem_cons.1 hf with rfl | hf
    · have := h (k + 1) (by omega) (by omega)
      rw [tt_eq]
      simp only [X.den]
      exact beq_eq_false_iff_ne.2 this
    · exact noOp_ok (fun j h1 h2 => h j h1 (by omega)) f hf
theorem low_ok {ρ : Env} {i : Nat} (h : ρ.v i < 0) : PcOk ρ (tooLow i) := fun f hf => by
  obtain rfl := List.mem_singleton.1 hf
  rw [tt_lt]
  simp only [X.den]
  exact decide_eq_true h
theorem high_ok {ρ : Env} {i : Nat} (h : 32 ≤ ρ.v i) : PcOk ρ (tooHigh i) := fun f hf => by
  obtain rfl := List.mem_singleton.1 hf
  rw [tt_le]
  simp only [X.den]
  exact decide_eq_true h
theorem isaEncode_walk {W : World} (hL : laidMetH Tryd.prog Rows.isaEncodeRow.laid W) {op rd r1 r2 n : Int} {x y : Bool} (hn : 0 ≤ n ∧ n < 4294967296) : Calls Tryd.prog 5 #[instV op rd r1 r2 n x y] W fun e W' => e = .returned (.bool true) ∧ Below W.heap.size W W' := by
  obtain ⟨g0, g1, g2⟩ := reg_of (W := W) (op := op) (rd := rd) (r1 := r1) (r2 := r2) (n := n) (x := x) (y := y)
  by_cases hop : ∃ k : Nat, 1 ≤ k ∧ k ≤ 59 ∧ op = k
  · obtain ⟨k, h1, h2, rfl⟩ := hop
    have hk := EncAll.mem enc_all k (ops59_mem h1 h2)
    unfold encRun at hk
    simp only [Bool.and_eq_true] at hk
    obtain ⟨k0, k1, k2, k3, k4, k5, k6⟩ := hk
    have go : ∀ {a b c : X} {pc : PC}, encAt k a b c pc = true → a.den (instE W k rd r1 r2 n x y) = rd → b.den (instE W k rd r1 r2 n x y) = r1 → c.den (instE W k rd r1 r2 n x y) = r2 → PcOk (instE W k rd r1 r2 n x y) pc →
        Calls Tryd.prog 5 #[instV k rd r1 r2 n x y] W fun e W' => e = .returned (.bool true) ∧ Below W.heap.size W W' := fun hr ha hb hc hp =>
      law_calls_pc (ρ := instE W k rd r1 r2 n x y) (cx := cx10) tt_ok ft_ok rfl (all10 (roAll_start hL) rfl) Tryd.func5 hL rfl hp hr (instX_says hn rfl ha hb hc)
    by_cases a1 : rd < 0
    · exact go k1 rfl rfl rfl (low_ok a1)
    by_cases a2 : 32 ≤ rd
    · exact go k2 rfl rfl rfl (high_ok a2)
    have h0 := g0 ⟨by omega, by omega⟩
    by_cases b1 : r1 < 0
    · exact go k3 h0 rfl rfl (low_ok b1)
    by_cases b2 : 32 ≤ r1
    · exact go k4 h0 rfl rfl (high_ok b2)
    have h1 := g1 ⟨by omega, by omega⟩
    by_cases c1 : r2 < 0
    · exact go k5 h0 h1 rfl (low_ok c1)
    by_cases c2 : 32 ≤ r2
    · exact go k6 h0 h1 rfl (high_ok c2)
    exact go k0 h0 h1 (g2 ⟨by omega, by omega⟩) fun f hf => by simp at hf
  · refine law_calls_pc (ρ := instE W op rd r1 r2 n x y) (cx := cxF) tt_ok ft_ok rfl (allF (roAll_start hL) rfl) Tryd.func5 hL rfl (noOp_ok fun j h1 h2 e => hop ⟨j, h1, h2, e⟩) enc_other (instX_says hn rfl rfl rfl rfl)

set_option maxRecDepth 100000 in
theorem isaEncode_lifted (os : Os) (started : os.Started) (H : Type) (enc : TypeId × Value → H) :
    ReturnsInHanded {} Tryd.checked os 5 .any (fun w args => (Rows.isaEncodeSpec.pre enc Tryd.prog Tryd.f5 [] false w args ∧ laidMetH Tryd.prog Rows.isaEncodeRow.laid w) ∧ sizedMet enc Tryd.prog Tryd.f5 (OpenSpec.ofChange Rows.isaEncodeSpec) false w args)
      (Rows.isaEncodeSpec.post enc Tryd.prog Tryd.f5 false true false false) := by
  refine returnsInHanded_of_change_and (C := Tryd.checked) (X := fun w _ => laidMetH Tryd.prog Rows.isaEncodeRow.laid w) (fun _ _ _ hh h => h.of_heap hh) own_door started (by kernel_rfl) Tryd.func5
    (ChangeSpec.witness_shaped (enc := enc) (C := Tryd.checked) (os := os) (X := fun w _ => laidMetH Tryd.prog Rows.isaEncodeRow.laid w) false (World.doorLaid Tryd.prog 4000 os) #[instV 0 0 0 0 0 false false] 8 rfl (World.shaped_of_RefB (by kernel_rfl) (by kernel_rfl)) (by kernel_rfl) (by kernel_rfl) (by kernel_rfl) (door_met os _)) ?_
  intro W base args ds gs before hval0 hW _ _ hL _
  have hval : ∀ (j : Nat) t v, Tryd.f5.params[j]? = some t → args[j]? = some v → Value.okWide Tryd.prog W .any base t v := hval0
  have hW' := hW
  obtain ⟨p, q, hA0, hV, rfl, hfz, hnd⟩ := hW
  have hA : DataW.TrodAll enc Tryd.prog W 0 (fun _ => true) true Tryd.f5.params.toList args.toList ds p := hA0
  rw [Tryd.params5] at hA hval
  obtain ⟨v0, d0, rfl, rfl, h0⟩ := trodAll_one hA
  obtain ⟨op, rd, r1, r2, n, x, y, rfl, hn⟩ := open_inst (hval 0 25 v0 rfl rfl) h0
  refine (isaEncode_walk hL hn).mono fun e W' ⟨he, hw⟩ => ?_
  subst he
  exact ⟨_, rfl, shut_law laidOut_door (by rw [Tryd.params5]; decide +kernel) rfl Tryd.underlying4 rfl hW' rfl hw⟩

theorem isaEncode_row : Rows.IsaEncodeSaid :=
  OpenClaim.holds_of_wide 5 Tryd.f5 rfl rfl rfl rfl rfl rfl rfl ⟨rfl, rfl, rfl, rfl, rfl⟩ rfl rfl rfl rfl rfl (by kernel_rfl) Tryd.func5 (by kernel_rfl)
    (of_decide_eq_true (by kernel_rfl)) (by unfold Func.isWrapper; first | (rw [if_pos (by decide +kernel)]; kernel_rfl) | (rw [if_neg (by decide +kernel)]; exact ⟨rfl, rfl⟩))
    (fun os started H enc _ => isaEncode_lifted os started H enc)

theorem isaEncode_holds : Rows.IsaEncodeCardSaid :=
  Claim7.holds_tied_plain_at .later [] [.data, .data, .data, .listed, .data] true (true, "eca07ddf0f4be4abf6c1038f8ae5e30dfe99afe6228e38add024b21ffa81a807") false
    isaEncode_row (fun _ h => by cases h) (by kernel_rfl) (fun _ h => by cases h) isaEncode_row_tie rfl ⟨rfl, rfl⟩ (by kernel_rfl) rfl
    (fun f fn hf hfn => by
      obtain rfl : f = 5 := Option.some.inj ((show Tryd.prog.funcNamed "quadrille/quadrillelaw03.IsaEncode" = some 5 by kernel_rfl).symm.trans hf) |>.symm
      obtain rfl : fn = Tryd.f5 := (Option.some.inj (Tryd.func5.symm.trans hfn)).symm
      exact ⟨by kernel_rfl, fun j t ht => by
        rw [Tryd.params5] at ht
        have hm : t ∈ [25] := by simpa using Array.mem_of_getElem? ht
        have hall : ([25].all fun u => !Tryd.prog.wantsStandIn u) = true := by kernel_rfl
        exact (show Tryd.prog.wantsStandIn t = false by simpa using List.all_eq_true.1 hall t hm)⟩)
    (by kernel_rfl)
#print axioms isaEncode_holds
end Go.Proofs.YtnhkiaadkkkjbaaDoor
