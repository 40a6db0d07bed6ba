/- CoreReserves: of all that may come in the law answers true, and nothing that was there is turned. No condition. -/
import Derived.Test.YtgcbnjpeifigaaaGreatDoorJRb
import Derived.Test.YtgcbnjpeifigaaaGreatDoorJRz
import Derived.Test.YtgcbnjpeifigaaaGreatDoorJLp
import Derived.Test.YtgcbnjpeifigaaaGreatDoorCards
import Derived.Test.YtgcbnjpeifigaaaGreatDoorTie
import Derived.SevenTiedAt
import Derived.ChangeSlices
namespace Go.Proofs.YtgcbnjpeifigaaaGreatDoor
open Go Go.Proofs Go.ChangeShapes Go.WideShapes Go.ChangeAt Go.RowKit
set_option maxRecDepth 100000 in
theorem sj(os:Os)(started:os.Started)(H:Type)(enc:TypeId×Value->H):
  ReturnsInHanded {} Tryz.checked os 6 .any (fun w args=>(Rows.coreReservesSpec.pre enc Tryz.prog Tryz.f6 [] false w args/\laidMetH Tryz.prog Rows.coreReservesRow.laid w)/\sizedMet enc Tryz.prog Tryz.f6 (OpenSpec.ofChange Rows.coreReservesSpec) false w args)
   (Rows.coreReservesSpec.post enc Tryz.prog Tryz.f6 false true false false):=by
 refine returnsInHanded_of_change_and (C:=Tryz.checked) (X:=fun w _=>laidMetH Tryz.prog Rows.coreReservesRow.laid w) (fun _ _ _ hh h=>h.of_heap hh) KX started (by kernel_rfl) Tryz.func6
  (ChangeSpec.witness_shaped (enc:=enc) (C:=Tryz.checked) (os:=os) (X:=fun w _=>laidMetH Tryz.prog Rows.coreReservesRow.laid w) false (World.doorLaid Tryz.prog 4000 os) #[.slice none 0 0,.slice none 0 0] 8 rfl (World.shaped_of_RefB (by kernel_rfl) (by kernel_rfl)) (by kernel_rfl) (by kernel_rfl) (by kernel_rfl) (JJ os _)) ?_
 intro W base args ds gs before hval0 hW _ _ hL _;have hval:∀ (j:Nat) t v,Tryz.f6.params[j]?=some t->args[j]?=some v->Value.okWide Tryz.prog W .any base t v:=hval0;have hW':=hW;obtain⟨p,q,hA0,hV,rfl,hfz,hnd⟩:=hW;have hA:DataW.TrodAll enc Tryz.prog W 0 (fun _=>true) true Tryz.f6.params.toList args.toList ds p:=hA0;rw[Tryz.params6]at hA hval;obtain⟨v0,v1,d0,d1,p0,p1,rfl,rfl,rfl,h0,h1⟩:=trodAll_two hA;refine(Xi E5 hL (hval 0 90 v0 rfl rfl) (hval 1 25 v1 rfl rfl) h0 h1).mono fun e W' ⟨he,hw⟩=>?_
 subst he;exact⟨_,rfl,MG uT (by rw[Tryz.params6];decide +kernel) rfl Tryz.underlying4 rfl hW' rfl hw⟩
set_option maxHeartbeats 4000000 in
theorem tf:joinedFacts Tryz.pinned.checked.prog 6 Tryz.f6 Rows.coreReservesSpec Rows.coreReservesRow=true:=by
 unfold joinedFacts;simp only[qqw]
 repeat' apply And.intro
 all_goals (as_aux_lemma=>kernel_rfl)
theorem wU:Rows.CoreReservesSaid:=
 OpenClaim.holds_of_wide 6 Tryz.f6 rfl rfl rfl rfl rfl rfl rfl ⟨rfl,rfl,rfl,rfl,rfl⟩ rfl rfl rfl rfl rfl (by kernel_rfl) Tryz.func6 tf
  (of_decide_eq_true (by kernel_rfl)) (by unfold Func.isWrapper;first|(rw[if_pos (by decide +kernel)];kernel_rfl)|(rw[if_neg (by decide +kernel)];exact⟨rfl,rfl⟩))
  (fun os started H enc _=>sj os started H enc)
theorem coreReserves_holds:Rows.CoreReservesCardSaid:=
 Claim7.holds_tied_plain_at .later [] [.data,.data,.data,.listed,.data] true (true, "270a5638903a921e59e5825d2ec46647da0905de8be861b7ca01d61d99fbc9cb") true
  wU (fun _ h=>by cases h) (by kernel_rfl) (fun _ h=>by cases h) coreReserves_row_tie rfl ⟨rfl,rfl⟩ (by kernel_rfl) rfl
  (fun f fn hf hfn=>by
   obtain rfl:f=6:=qqz ((show Tryz.prog.funcNamed "quadrille/quadrillelaw15.CoreReserves" = some 6 by kernel_rfl).symm.trans hf)|>.symm;obtain rfl:fn=Tryz.f6:=(qqz (Tryz.func6.symm.trans hfn)).symm;exact⟨by kernel_rfl,fun j t ht=>by
    rw[Tryz.params6]at ht;have hm:t∈[90,25]:=by simpa using Array.mem_of_getElem? ht
    have hall:([90,25].all fun u=>!Tryz.prog.wantsStandIn u)=true:=by kernel_rfl
    exact(show Tryz.prog.wantsStandIn t=false by simpa using List.all_eq_true.1 hall t hm)⟩)
  (by kernel_rfl)
#print axioms coreReserves_holds
end Go.Proofs.YtgcbnjpeifigaaaGreatDoor
