/- HartLoads: of every address, size and answer the law answers true, and nothing that was there is turned. No condition. -/
import Derived.Test.YtcachlbljjpjdaaGreatDoorHDone
import Derived.Test.YtcachlbljjpjdaaGreatDoorHRun
import Derived.Test.YtcachlbljjpjdaaGreatDoorCards
import Derived.Test.YtcachlbljjpjdaaGreatDoorTie
import Derived.SevenTiedAt
namespace Go.Proofs.YtcachlbljjpjdaaGreatDoor
open Go Go.Proofs Go.ChangeShapes Go.WideShapes Go.ChangeAt Go.RowKit

noncomputable def cxO : Cx := { cx59 with sx := true, mg := true, sm := fun f => match Nat.beq f 12 with
  | true => some symDone
  | false => cx59.sm f }
theorem allO {ro : Nat → Obj} (h : RoAll ro) {ρ : Env} (hr : ρ.ro = ro) : SumOk Tryz.prog cxO ρ := by
  have h0 : SumOk Tryz.prog cx59 ρ := all59 h hr
  have back : ∀ {S : Nat → Prop} {π0 : Pl} {st : St} {w : World}, Here cxO ρ S π0 st w → Here cx59 ρ S π0 st w := fun hh => ⟨hh.pc, hh.at_, fun g hg => hh.glob g hg, hh.fresh⟩
  refine ⟨fun f s hs => ?_, fun g s hs => ?_⟩
  · unfold cxO at hs
    dsimp only at hs
    split at hs
    · rename_i hb
      obtain rfl := Nat.eq_of_beq_eq_true hb
      obtain rfl := Option.some.inj hs
      exact at12 h hr rfl
    · exact fun args st v st' he S π0 w ac n hh ha => h0.sum f s hs args st v st' he S π0 w ac n (back hh) ha
  · obtain ⟨h1, h2⟩ := h0.dm g s hs
    exact ⟨h1, fun args st e e' st' he S π0 w ac u n hh ha hu => h2 args st e e' st' he S π0 w ac u n (back hh) ha hu⟩
/-! ### Cases: of which width the address is, and what memory has -/
def remF (k : Int) : X := .eq (.rem (.wrap .u32 (.var 0)) (.lit k)) (.lit 0)
def outF (k : Int) : X := .lt (.wrap .i64 (.var 3)) (.add (.wrap .u32 (.var 0)) (.lit k))
def loadsPc (b2 b4 : Bool) (l : List (Int × Bool)) : PC := (remF 1, true) :: (remF 2, b2) :: (remF 4, b4) :: l.map fun x => (outF x.1, x.2)
noncomputable def loadsR (pc : PC) : Bool := allChk LStart ((ev cxO 4000).call 9 [.int .u32 (.wrap .u32 (.var 0)), .int .i64 (.wrap .i64 (.var 3)), .agg [.int .u32 (.wrap .u32 (.var 1)), .bool (flagX 65)]] (stPc pc))
set_option maxRecDepth 100000 in
theorem loads_odd : loadsR (loadsPc false false []) = true := by unfold loadsR; rw [evT_call]; kernel_rfl
set_option maxRecDepth 100000 in
theorem loads_two : loadsR (loadsPc true false []) = true := by unfold loadsR; rw [evT_call]; kernel_rfl
set_option maxRecDepth 100000 in
theorem loads_four1 : loadsR (loadsPc true true [(1, true), (2, true), (4, true)]) = true := by unfold loadsR; rw [evT_call]; kernel_rfl
set_option maxRecDepth 100000 in
theorem loads_four2 : loadsR (loadsPc true true [(1, false), (2, true), (4, true)]) = true := by unfold loadsR; rw [evT_call]; kernel_rfl
set_option maxRecDepth 100000 in
theorem loads_four3 : loadsR (loadsPc true true [(1, false), (2, false), (4, true)]) = true := by unfold loadsR; rw [evT_call]; kernel_rfl
set_option maxRecDepth 100000 in
theorem loads_four4 : loadsR (loadsPc true true [(1, false), (2, false), (4, false)]) = true := by unfold loadsR; rw [evT_call]; kernel_rfl
theorem loadsPc_ok {ρ : Env} {o n : Int} (h0 : ρ.v 0 = o) (h3 : ρ.v 3 = n) (ho : InU o) (hn : InI n) {b2 b4 : Bool} {l : List (Int × Bool)} (e2 : b2 = decide (o % 2 = 0)) (e4 : b4 = decide (o % 4 = 0)) (el : ∀ x ∈ l, x.2 = decide (n < o + x.1)) : PcOk ρ (loadsPc b2 b4 l) := by
  have hr : ∀ k : Int, (remF k).tt ρ = decide (o % k = 0) := fun k => by
    have e : (remF k).den ρ = b2i (o.tmod k == 0) := by
      show b2i ((IntKind.u32.wrap (ρ.v 0)).tmod k == 0) = _
      rw [h0, wrap_u ho]
    rw [X.tt, e, b2i_tt, Int.tmod_eq_emod_of_nonneg ho.1]
    rfl
  have hl : ∀ k : Int, (outF k).tt ρ = decide (n < o + k) := fun k => by
    have e : (outF k).den ρ = b2i (decide (n < o + k)) := by
      show b2i (decide (IntKind.i64.wrap (ρ.v 3) < IntKind.u32.wrap (ρ.v 0) + k)) = _
      rw [h0, h3, wrap_u ho, wrap_i hn]
    rw [X.tt, e, b2i_tt]
  intro f hf
  simp only [loadsPc, List.mem_cons, List.mem_map] at hf
  rcases hf with rfl | rfl | rfl | ⟨x, hx, rfl⟩
  · show (remF 1).tt ρ = true
    rw [hr, Int.emod_one]; rfl
  · show (remF 2).tt ρ = b2
    rw [hr, e2]
  · show (remF 4).tt ρ = b4
    rw [hr, e4]
  · show (outF x.1).tt ρ = x.2
    rw [hl, el x hx]
theorem hartLoads_walk {W : World} (hL : laidMetH Tryz.prog Rows.hartLoadsRow.laid W) {o a n : Int} {b : Bool} (ho : InU o) (hn : InI n) (ha : InU a) :
    Calls Tryz.prog 9 #[.int .u32 o, .int .i64 n, ansW a b] W fun e W' => e = .returned (.bool true) ∧ Below W.heap.size W W' := by
  have key : ∀ pc : PC, loadsR pc = true → PcOk { env0 W with v := doneVar o a 0 n, b := fun _ => b } pc → Calls Tryz.prog 9 #[.int .u32 o, .int .i64 n, ansW a b] W fun e W' => e = .returned (.bool true) ∧ Below W.heap.size W W' := by
    intro pc hr hp
    refine law_chk (ρ := { env0 W with v := doneVar o a 0 n, b := fun _ => b }) (cx := cxO) tt_ok ft_ok rfl (allO (roAll_start hL) rfl) Tryz.func9 hL rfl hp hr fun π _ => ?_
    have e3 : (flagX 65).tt { env0 W with v := doneVar o a 0 n, b := fun _ => b } = b := flag_tt 65
    simp only [V.concs, V.conc, X.den, doneVar, wrap_i hn, wrap_u ho, wrap_u ha, e3, ansW]
  have ok := fun (b2 b4 : Bool) (l : List (Int × Bool)) => loadsPc_ok (ρ := { env0 W with v := doneVar o a 0 n, b := fun _ => b }) (o := o) (n := n) rfl rfl ho hn (b2 := b2) (b4 := b4) (l := l)
  have h0 := ho.1
  by_cases h2 : o % 2 = 0
  · by_cases h4 : o % 4 = 0
    · have fine : ∀ c1 c2 c4 : Bool, c1 = decide (n < o + 1) → c2 = decide (n < o + 2) → c4 = decide (n < o + 4) → ∀ x ∈ [((1 : Int), c1), (2, c2), (4, c4)], x.2 = decide (n < o + x.1) := by
        intro c1 c2 c4 k1 k2 k4 x hx
        simp only [List.mem_cons, List.not_mem_nil, or_false] at hx
        rcases hx with rfl | rfl | rfl
        · exact k1
        · exact k2
        · exact k4
      have ok' := fun l => ok true true l (by rw [decide_eq_true h2]) (by rw [decide_eq_true h4])
      by_cases h : n < o + 1
      · exact key _ loads_four1 (ok' _ (fine _ _ _ (decide_eq_true h).symm (decide_eq_true (by omega)).symm (decide_eq_true (by omega)).symm))
      · by_cases h' : n < o + 2
        · exact key _ loads_four2 (ok' _ (fine _ _ _ (decide_eq_false h).symm (decide_eq_true h').symm (decide_eq_true (by omega)).symm))
        · by_cases h'' : n < o + 4
          · exact key _ loads_four3 (ok' _ (fine _ _ _ (decide_eq_false h).symm (decide_eq_false h').symm (decide_eq_true h'').symm))
          · exact key _ loads_four4 (ok' _ (fine _ _ _ (decide_eq_false h).symm (decide_eq_false h').symm (decide_eq_false h'').symm))
    · exact key _ loads_two (ok _ _ _ (by rw [decide_eq_true h2]) (by rw [decide_eq_false h4]) (fun x hx => by cases hx))
  · exact key _ loads_odd (ok _ _ _ (by rw [decide_eq_false h2]) (by rw [decide_eq_false (by omega)]) (fun x hx => by cases hx))

set_option maxRecDepth 100000 in
theorem hartLoads_lifted (os : Os) (started : os.Started) (H : Type) (enc : TypeId × Value → H) :
    ReturnsInHanded {} Tryz.checked os 9 .any (fun w args => (Rows.hartLoadsSpec.pre enc Tryz.prog Tryz.f9 [] false w args ∧ laidMetH Tryz.prog Rows.hartLoadsRow.laid w) ∧ sizedMet enc Tryz.prog Tryz.f9 (OpenSpec.ofChange Rows.hartLoadsSpec) false w args)
      (Rows.hartLoadsSpec.post enc Tryz.prog Tryz.f9 false true false false) := by
  refine returnsInHanded_of_change_and (C := Tryz.checked) (X := fun w _ => laidMetH Tryz.prog Rows.hartLoadsRow.laid w) (fun _ _ _ hh h => h.of_heap hh) own_door started (by kernel_rfl) Tryz.func9
    (ChangeSpec.witness_shaped (enc := enc) (C := Tryz.checked) (os := os) (X := fun w _ => laidMetH Tryz.prog Rows.hartLoadsRow.laid w) false (World.doorLaid Tryz.prog 4000 os) #[.int .u32 0, .int .i64 0, ansW 0 false] 8 rfl (World.shaped_of_RefB (by kernel_rfl) (by kernel_rfl)) (by kernel_rfl) (by kernel_rfl) (by kernel_rfl) (door_met os _)) ?_
  intro W base args ds gs before hval0 hW _ _ hL _
  have hval : ∀ (j : Nat) t v, Tryz.f9.params[j]? = some t → args[j]? = some v → Value.okWide Tryz.prog W .any base t v := hval0
  have hW' := hW
  obtain ⟨p, q, hA0, hV, rfl, hfz, hnd⟩ := hW
  have hA : DataW.TrodAll enc Tryz.prog W 0 (fun _ => true) true Tryz.f9.params.toList args.toList ds p := hA0
  rw [Tryz.params9] at hA hval
  obtain ⟨v0, v1, v2, d0, d1, d2, p0, p1, p2, ea, rfl, rfl, h0, h1, h2⟩ := trodAll_three hA
  subst ea
  obtain ⟨o, rfl, _, _, w0⟩ := open_int Tryz.underlying22 (hval 0 22 v0 rfl rfl) h0
  obtain ⟨n, rfl, _, _, w1⟩ := open_int Tryz.underlying3 (hval 1 3 v1 rfl rfl) h1
  obtain ⟨a, b, rfl, ka⟩ := open_ans (hval 2 28 v2 rfl rfl) h2
  refine (hartLoads_walk hL (wf_u w0) (wf_i w1) ka).mono fun e W' ⟨he, hw⟩ => ?_
  subst he
  exact ⟨_, rfl, shut_law laidOut_door (by rw [Tryz.params9]; decide +kernel) rfl Tryz.underlying4 rfl hW' rfl hw⟩

theorem hartLoads_row : Rows.HartLoadsSaid :=
  OpenClaim.holds_of_wide 9 Tryz.f9 rfl rfl rfl rfl rfl rfl rfl ⟨rfl, rfl, rfl, rfl, rfl⟩ rfl rfl rfl rfl rfl (by kernel_rfl) Tryz.func9 (by kernel_rfl)
    (of_decide_eq_true (by kernel_rfl)) (by unfold Func.isWrapper; first | (rw [if_pos (by decide +kernel)]; kernel_rfl) | (rw [if_neg (by decide +kernel)]; exact ⟨rfl, rfl⟩))
    (fun os started H enc _ => hartLoads_lifted os started H enc)

theorem hartLoads_holds : Rows.HartLoadsCardSaid :=
  Claim7.holds_tied_plain_at .later [] [.data, .data, .data, .listed, .data] true (true, "4f864911adc0c7fcfafd2db5302275d1938f333ff405a3cd709f376062733914") true
    hartLoads_row (fun _ h => by cases h) (by kernel_rfl) (fun _ h => by cases h) hartLoads_row_tie rfl ⟨rfl, rfl⟩ (by kernel_rfl) rfl
    (fun f fn hf hfn => by
      obtain rfl : f = 9 := Option.some.inj ((show Tryz.prog.funcNamed "quadrille/quadrillelaw04.HartLoads" = some 9 by kernel_rfl).symm.trans hf) |>.symm
      obtain rfl : fn = Tryz.f9 := (Option.some.inj (Tryz.func9.symm.trans hfn)).symm
      exact ⟨by kernel_rfl, fun j t ht => by
        rw [Tryz.params9] at ht
        have hm : t ∈ [22, 3, 28] := by simpa using Array.mem_of_getElem? ht
        have hall : ([22, 3, 28].all fun u => !Tryz.prog.wantsStandIn u) = true := by kernel_rfl
        exact (show Tryz.prog.wantsStandIn t = false by simpa using List.all_eq_true.1 hall t hm)⟩)
    (by kernel_rfl)
#print axioms hartLoads_holds
end Go.Proofs.YtcachlbljjpjdaaGreatDoor
