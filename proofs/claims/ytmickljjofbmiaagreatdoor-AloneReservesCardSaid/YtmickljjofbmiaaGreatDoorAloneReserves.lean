/- AloneReserves: of all that may come in the law answers true, and nothing that was there is turned. No condition. -/
import Derived.Test.YtmickljjofbmiaaGreatDoorPBack
import Derived.Test.YtmickljjofbmiaaGreatDoorARun
import Derived.Test.YtmickljjofbmiaaGreatDoorCards
import Derived.Test.YtmickljjofbmiaaGreatDoorTie
import Derived.SevenTiedAt
import Derived.ChangeSlices
namespace Go.Proofs.YtmickljjofbmiaaGreatDoor
open Go Go.Proofs Go.ChangeShapes Go.WideShapes Go.ChangeAt Go.RowKit
set_option maxRecDepth 100000 in
theorem aloneReserves_lifted(os:Os)(started:os.Started)(H:Type)(enc:TypeId×Value→H):
  ReturnsInHanded {} Tryz.checked os 3 .any (fun w args=>(Rows.aloneReservesSpec.pre enc Tryz.prog Tryz.f3 [] false w args∧laidMetH Tryz.prog Rows.aloneReservesRow.laid w)∧sizedMet enc Tryz.prog Tryz.f3 (OpenSpec.ofChange Rows.aloneReservesSpec) false w args)
   (Rows.aloneReservesSpec.post enc Tryz.prog Tryz.f3 false true false false):=by
 refine returnsInHanded_of_change_and (C:=Tryz.checked) (X:=fun w _=>laidMetH Tryz.prog Rows.aloneReservesRow.laid w) (fun _ _ _ hh h=>h.of_heap hh) own_door started (by kernel_rfl) Tryz.func3
  (ChangeSpec.witness_shaped (enc:=enc) (C:=Tryz.checked) (os:=os) (X:=fun w _=>laidMetH Tryz.prog Rows.aloneReservesRow.laid w) false (World.doorLaid Tryz.prog 4000 os) #[.slice none 0 0] 8 rfl (World.shaped_of_RefB (by kernel_rfl) (by kernel_rfl)) (by kernel_rfl) (by kernel_rfl) (by kernel_rfl) (door_met os _)) ?_
 intro W base args ds gs before hval0 hW _ _ hL _
 have hval:∀ (j:Nat) t v,Tryz.f3.params[j]?=some t→args[j]?=some v→Value.okWide Tryz.prog W .any base t v:=hval0
 have hW':=hW
 obtain⟨p,q,hA0,hV,rfl,hfz,hnd⟩:=hW
 have hA:DataW.TrodAll enc Tryz.prog W 0 (fun _=>true) true Tryz.f3.params.toList args.toList ds p:=hA0
 rw [Tryz.params3] at hA hval
 obtain⟨v0,d0,ea,rfl,h0⟩:=trodAll_one hA
 subst ea
 refine (rsv_walk hL (hval 0 22 v0 rfl rfl) h0).mono fun e W' ⟨he,hw⟩=>?_
 subst he
 exact⟨_,rfl,shut_law laidOut_door (by rw [Tryz.params3];decide +kernel) rfl Tryz.underlying4 rfl hW' rfl hw⟩
set_option maxHeartbeats 4000000 in
theorem aloneReserves_facts:joinedFacts Tryz.pinned.checked.prog 3 Tryz.f3 Rows.aloneReservesSpec Rows.aloneReservesRow=true:=by
 unfold joinedFacts
 simp only [Bool.and_eq_true]
 repeat' apply And.intro
 all_goals (as_aux_lemma=>kernel_rfl)
theorem aloneReserves_row:Rows.AloneReservesSaid:=
 OpenClaim.holds_of_wide 3 Tryz.f3 rfl rfl rfl rfl rfl rfl rfl ⟨rfl,rfl,rfl,rfl,rfl⟩ rfl rfl rfl rfl rfl (by kernel_rfl) Tryz.func3 aloneReserves_facts
  (of_decide_eq_true (by kernel_rfl)) (by unfold Func.isWrapper;first | (rw [if_pos (by decide +kernel)];kernel_rfl) | (rw [if_neg (by decide +kernel)];exact⟨rfl,rfl⟩))
  (fun os started H enc _=>aloneReserves_lifted os started H enc)
theorem aloneReserves_holds:Rows.AloneReservesCardSaid:=
 Claim7.holds_tied_plain_at .later [] [.data,.data,.data,.listed,.data] true (true, "4485b69d040d66bce2108f11fe01b1cba7fc7d57b9f0911ee676ff7b37346540") true
  aloneReserves_row (fun _ h=>by cases h) (by kernel_rfl) (fun _ h=>by cases h) aloneReserves_row_tie rfl ⟨rfl,rfl⟩ (by kernel_rfl) rfl
  (fun f fn hf hfn=>by
   obtain rfl:f=3:=Option.some.inj ((show Tryz.prog.funcNamed "quadrille/quadrillelaw05.AloneReserves" = some 3 by kernel_rfl).symm.trans hf) |>.symm
   obtain rfl:fn=Tryz.f3:=(Option.some.inj (Tryz.func3.symm.trans hfn)).symm
   exact⟨by kernel_rfl,fun j t ht=>by
    rw [Tryz.params3] at ht
    have hm:t∈[22]:=by simpa using Array.mem_of_getElem? ht
    have hall:([22].all fun u=>!Tryz.prog.wantsStandIn u)=true:=by kernel_rfl
    exact (show Tryz.prog.wantsStandIn t=false by simpa using List.all_eq_true.1 hall t hm)⟩)
  (by kernel_rfl)
#print axioms aloneReserves_holds
end Go.Proofs.YtmickljjofbmiaaGreatDoor
