/- CoreForwards: of all that may come in the law answers true, and nothing that was there is turned. No condition. -/
import Derived.Test.YtgcbnjpeifigaaaGreatDoorJFp
import Derived.Test.YtgcbnjpeifigaaaGreatDoorJRz
import Derived.Test.YtgcbnjpeifigaaaGreatDoorJLp
import Derived.Test.YtgcbnjpeifigaaaGreatDoorCards
import Derived.Test.YtgcbnjpeifigaaaGreatDoorTie
import Derived.SevenTiedAt
import Derived.ChangeSlices
namespace Go.Proofs.YtgcbnjpeifigaaaGreatDoor
open Go Go.Proofs Go.ChangeShapes Go.WideShapes Go.ChangeAt Go.RowKit
set_option maxRecDepth 100000 in
theorem si(os:Os)(started:os.Started)(H:Type)(enc:TypeId×Value->H):
  ReturnsInHanded {} Tryz.checked os 5 .any (fun w args=>(Rows.coreForwardsSpec.pre enc Tryz.prog Tryz.f5 [] false w args/\laidMetH Tryz.prog Rows.coreForwardsRow.laid w)/\sizedMet enc Tryz.prog Tryz.f5 (OpenSpec.ofChange Rows.coreForwardsSpec) false w args)
   (Rows.coreForwardsSpec.post enc Tryz.prog Tryz.f5 false true false false):=by
 refine returnsInHanded_of_change_and (C:=Tryz.checked) (X:=fun w _=>laidMetH Tryz.prog Rows.coreForwardsRow.laid w) (fun _ _ _ hh h=>h.of_heap hh) KX started (by kernel_rfl) Tryz.func5
  (ChangeSpec.witness_shaped (enc:=enc) (C:=Tryz.checked) (os:=os) (X:=fun w _=>laidMetH Tryz.prog Rows.coreForwardsRow.laid w) false (World.doorLaid Tryz.prog 4000 os) #[.slice none 0 0,.bool false] 8 rfl (World.shaped_of_RefB (by kernel_rfl) (by kernel_rfl)) (by kernel_rfl) (by kernel_rfl) (by kernel_rfl) (JJ os _)) ?_
 intro W base args ds gs before hval0 hW _ _ hL _;have hval:∀ (j:Nat) t v,Tryz.f5.params[j]?=some t->args[j]?=some v->Value.okWide Tryz.prog W .any base t v:=hval0;have hW':=hW;obtain⟨p,q,hA0,hV,rfl,hfz,hnd⟩:=hW;have hA:DataW.TrodAll enc Tryz.prog W 0 (fun _=>true) true Tryz.f5.params.toList args.toList ds p:=hA0;rw[Tryz.params5]at hA hval;obtain⟨v0,v1,d0,d1,p0,p1,rfl,rfl,rfl,h0,h1⟩:=trodAll_two hA;refine(Vn E5 hL (hval 0 25 v0 rfl rfl) (hval 1 4 v1 rfl rfl) h0 h1).mono fun e W' ⟨he,hw⟩=>?_
 subst he;exact⟨_,rfl,MG uT (by rw[Tryz.params5];decide +kernel) rfl Tryz.underlying4 rfl hW' rfl hw⟩
set_option maxHeartbeats 4000000 in
theorem te:joinedFacts Tryz.pinned.checked.prog 5 Tryz.f5 Rows.coreForwardsSpec Rows.coreForwardsRow=true:=by
 unfold joinedFacts;simp only[qqw]
 repeat' apply And.intro
 all_goals (as_aux_lemma=>kernel_rfl)
theorem wT:Rows.CoreForwardsSaid:=
 OpenClaim.holds_of_wide 5 Tryz.f5 rfl rfl rfl rfl rfl rfl rfl ⟨rfl,rfl,rfl,rfl,rfl⟩ rfl rfl rfl rfl rfl (by kernel_rfl) Tryz.func5 te
  (of_decide_eq_true (by kernel_rfl)) (by unfold Func.isWrapper;first|(rw[if_pos (by decide +kernel)];kernel_rfl)|(rw[if_neg (by decide +kernel)];exact⟨rfl,rfl⟩))
  (fun os started H enc _=>si os started H enc)
theorem coreForwards_holds:Rows.CoreForwardsCardSaid:=
 Claim7.holds_tied_plain_at .later [] [.data,.data,.data,.listed,.data] true (true, "270a5638903a921e59e5825d2ec46647da0905de8be861b7ca01d61d99fbc9cb") true
  wT (fun _ h=>by cases h) (by kernel_rfl) (fun _ h=>by cases h) coreForwards_row_tie rfl ⟨rfl,rfl⟩ (by kernel_rfl) rfl
  (fun f fn hf hfn=>by
   obtain rfl:f=5:=qqz ((show Tryz.prog.funcNamed "quadrille/quadrillelaw15.CoreForwards" = some 5 by kernel_rfl).symm.trans hf)|>.symm;obtain rfl:fn=Tryz.f5:=(qqz (Tryz.func5.symm.trans hfn)).symm;exact⟨by kernel_rfl,fun j t ht=>by
    rw[Tryz.params5]at ht;have hm:t∈[25,4]:=by simpa using Array.mem_of_getElem? ht
    have hall:([25,4].all fun u=>!Tryz.prog.wantsStandIn u)=true:=by kernel_rfl
    exact(show Tryz.prog.wantsStandIn t=false by simpa using List.all_eq_true.1 hall t hm)⟩)
  (by kernel_rfl)
#print axioms coreForwards_holds
end Go.Proofs.YtgcbnjpeifigaaaGreatDoor
