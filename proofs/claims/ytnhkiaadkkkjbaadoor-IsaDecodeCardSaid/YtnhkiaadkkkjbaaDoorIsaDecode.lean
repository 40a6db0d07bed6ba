/- IsaDecode: of every word the law answers true, and nothing that was there is turned. No condition. -/
import Derived.Test.YtnhkiaadkkkjbaaDoorSumOk2
import Derived.Test.YtnhkiaadkkkjbaaDoorDoorRun
import Derived.Test.YtnhkiaadkkkjbaaDoorCards
import Derived.Test.YtnhkiaadkkkjbaaDoorTie
import Derived.SevenTiedAt
namespace Go.Proofs.YtnhkiaadkkkjbaaDoor
open Go Go.Proofs Go.ChangeShapes Go.WideShapes Go.ChangeAt Go.RowKit

set_option maxRecDepth 100000 in
theorem isaDecode_ev0 : allTrue LStart ((ev cx11 4000).call 3 sum11_a0 stStart) = true := by kernel_rfl
set_option maxRecDepth 100000 in
theorem isaDecode_ev1 : allTrue LStart ((ev cx11 4000).call 3 sum11_a1 stStart) = true := by kernel_rfl
theorem isaDecode_walk {W : World} (hL : laidMetH Tryd.prog Rows.isaDecodeRow.laid W) (n : Nat) (hn : n < 4294967296) : Calls Tryd.prog 3 #[.int .u32 n] W fun e W' => e = .returned (.bool true) ∧ Below W.heap.size W W' := by
  have hb : ∀ i, i < 31 → (envOf W n.testBit fun _ => 0).b (0 + i) = n.testBit i := fun i _ => by rw [Nat.zero_add]; rfl
  rcases Nat.lt_or_ge n 2147483648 with h | h
  · refine law_calls (ρ := envOf W n.testBit fun _ => 0) (cx := cx11) tt_ok ft_ok rfl (all11 (roAll_start hL) rfl) Tryd.func3 hL rfl isaDecode_ev0 fun π _ => ?_
    have e := bits_of hb [] .zero
    rw [List.append_nil, Nat.mod_eq_of_lt (by omega)] at e
    show [Value.int .u32 (bvDen _ (posL 0 31) .zero)] = _
    rw [e]
    simp [bvDen, B.den, b2i]
  · refine law_calls (ρ := envOf W n.testBit fun _ => 0) (cx := cx11) tt_ok ft_ok rfl (all11 (roAll_start hL) rfl) Tryd.func3 hL rfl isaDecode_ev1 fun π _ => ?_
    have e := bits_of hb [.one] .zero
    have hm : n % 2 ^ 31 = n - 2147483648 := by omega
    rw [hm] at e
    show [Value.int .u32 (bvDen _ (posL 0 31 ++ [.one]) .zero)] = _
    rw [e]
    simp [bvDen, B.den, b2i]
    omega

set_option maxRecDepth 100000 in
theorem isaDecode_lifted (os : Os) (started : os.Started) (H : Type) (enc : TypeId × Value → H) :
    ReturnsInHanded {} Tryd.checked os 3 .any (fun w args => (Rows.isaDecodeSpec.pre enc Tryd.prog Tryd.f3 [] false w args ∧ laidMetH Tryd.prog Rows.isaDecodeRow.laid w) ∧ sizedMet enc Tryd.prog Tryd.f3 (OpenSpec.ofChange Rows.isaDecodeSpec) false w args)
      (Rows.isaDecodeSpec.post enc Tryd.prog Tryd.f3 false true false false) := by
  refine returnsInHanded_of_change_and (C := Tryd.checked) (X := fun w _ => laidMetH Tryd.prog Rows.isaDecodeRow.laid w) (fun _ _ _ hh h => h.of_heap hh) own_door started (by kernel_rfl) Tryd.func3
    (ChangeSpec.witness_shaped (enc := enc) (C := Tryd.checked) (os := os) (X := fun w _ => laidMetH Tryd.prog Rows.isaDecodeRow.laid w) false (World.doorLaid Tryd.prog 4000 os) #[.int .u32 0] 8 rfl (World.shaped_of_RefB (by kernel_rfl) (by kernel_rfl)) (by kernel_rfl) (by kernel_rfl) (by kernel_rfl) (door_met os _)) ?_
  intro W base args ds gs before hval0 hW _ _ hL _
  have hval : ∀ (j : Nat) t v, Tryd.f3.params[j]? = some t → args[j]? = some v → Value.okWide Tryd.prog W .any base t v := hval0
  have hW' := hW
  obtain ⟨p, q, hA0, hV, rfl, hfz, hnd⟩ := hW
  have hA : DataW.TrodAll enc Tryd.prog W 0 (fun _ => true) true Tryd.f3.params.toList args.toList ds p := hA0
  rw [Tryd.params3] at hA hval
  obtain ⟨v0, d0, rfl, rfl, h0⟩ := trodAll_one hA
  obtain ⟨n, rfl, rfl, rfl, hn⟩ := open_int Tryd.underlying22 (hval 0 22 v0 rfl rfl) h0
  have hr : 0 ≤ n ∧ n < 4294967296 := by
    simp [Lit.wf, IntKind.min, IntKind.max, IntKind.signed, IntKind.bits] at hn
    omega
  obtain ⟨m, rfl⟩ := Int.eq_ofNat_of_zero_le hr.1
  refine (isaDecode_walk hL m (by omega)).mono fun e W' ⟨he, hw⟩ => ?_
  subst he
  exact ⟨_, rfl, shut_law laidOut_door (by rw [Tryd.params3]; decide +kernel) rfl Tryd.underlying4 rfl hW' rfl hw⟩

theorem isaDecode_row : Rows.IsaDecodeSaid :=
  OpenClaim.holds_of_wide 3 Tryd.f3 rfl rfl rfl rfl rfl rfl rfl ⟨rfl, rfl, rfl, rfl, rfl⟩ rfl rfl rfl rfl rfl (by kernel_rfl) Tryd.func3 (by kernel_rfl)
    (of_decide_eq_true (by kernel_rfl)) (by unfold Func.isWrapper; first | (rw [if_pos (by decide +kernel)]; kernel_rfl) | (rw [if_neg (by decide +kernel)]; exact ⟨rfl, rfl⟩))
    (fun os started H enc _ => isaDecode_lifted os started H enc)

theorem isaDecode_holds : Rows.IsaDecodeCardSaid :=
  Claim7.holds_tied_plain_at .later [] [.data, .data, .data, .listed, .data] true (true, "eca07ddf0f4be4abf6c1038f8ae5e30dfe99afe6228e38add024b21ffa81a807") false
    isaDecode_row (fun _ h => by cases h) (by kernel_rfl) (fun _ h => by cases h) isaDecode_row_tie rfl ⟨rfl, rfl⟩ (by kernel_rfl) rfl
    (fun f fn hf hfn => by
      obtain rfl : f = 3 := Option.some.inj ((show Tryd.prog.funcNamed "quadrille/quadrillelaw03.IsaDecode" = some 3 by kernel_rfl).symm.trans hf) |>.symm
      obtain rfl : fn = Tryd.f3 := (Option.some.inj (Tryd.func3.symm.trans hfn)).symm
      exact ⟨by kernel_rfl, fun j t ht => by
        rw [Tryd.params3] at ht
        have hm : t ∈ [22] := by simpa using Array.mem_of_getElem? ht
        have hall : ([22].all fun u => !Tryd.prog.wantsStandIn u) = true := by kernel_rfl
        exact (show Tryd.prog.wantsStandIn t = false by simpa using List.all_eq_true.1 hall t hm)⟩)
    (by kernel_rfl)
#print axioms isaDecode_holds
end Go.Proofs.YtnhkiaadkkkjbaaDoor
