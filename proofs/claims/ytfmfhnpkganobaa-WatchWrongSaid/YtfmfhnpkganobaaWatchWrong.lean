/- WatchWrong: of all that may come in the law answers true, and nothing that was there is turned. No condition. -/
import Derived.Test.YtfmfhnpkganobaaZBack
import Derived.ChangeSlices
namespace Go.Proofs.Ytfmfhnpkganobaa
open Go Go.Proofs Go.ChangeShapes Go.WideShapes Go.ChangeAt Go.RowKit
set_option maxRecDepth 100000 in
theorem watchWrong_lifted(os:Os)(started:os.Started)(H:Type)(enc:TypeId×Value→H):
  ReturnsInHanded {} Try.checked os 3 .any (Rows.watchWrongSpec.pre6 enc Try.prog Try.f3 Rows.watchWrongRow.domain false) (Rows.watchWrongSpec.post enc Try.prog Try.f3 false true false false):=by
 refine returnsInHanded_of_change (C:=Try.checked) own_door started (by kernel_rfl) Try.func3
  (ChangeSpec.witness6 (enc:=enc) (C:=Try.checked) false ⟨#[],#[.agg #[.slice none 0 0,.slice none 0 0,.int .i64 0,.int .i64 0],.slice none 0 0,.int .i64 0],[]⟩ 8 (by kernel_rfl) (by kernel_rfl) (by kernel_rfl) (by kernel_rfl)) ?_
 intro W base args ds gs before hval0 hW _ _
 have hval:∀ (j:Nat) t v,Try.f3.params[j]?=some t→args[j]?=some v→Value.okWide Try.prog W .any base t v:=hval0
 have hW':=hW
 obtain⟨p,q,hA0,hV,rfl,hfz,hnd⟩:=hW
 have hA:DataW.TrodAll enc Try.prog W 0 (fun _=>true) true Try.f3.params.toList args.toList ds p:=hA0
 rw [Try.params3] at hA hval
 obtain⟨v0,v1,v2,d0,d1,d2,p0,p1,p2,ea,rfl,rfl,h0,h1,h2⟩:=trodAll_three hA
 subst ea
 refine (wrong_walk (hval 0 25 v0 rfl rfl) (hval 1 26 v1 rfl rfl) (hval 2 3 v2 rfl rfl) h0 h1 h2).mono fun e W' ⟨he,hw⟩=>?_
 subst he
 exact⟨_,rfl,shut_law laidOut_door (by rw [Try.params3];decide +kernel) rfl Try.underlying4 rfl hW' rfl hw⟩
set_option maxHeartbeats 4000000 in
theorem watchWrong_facts:joinedFacts Try.pinned.checked.prog 3 Try.f3 Rows.watchWrongSpec Rows.watchWrongRow=true:=by
 unfold joinedFacts
 simp only [Bool.and_eq_true]
 repeat' apply And.intro
 all_goals (as_aux_lemma=>kernel_rfl)
theorem watchWrong_holds:Rows.WatchWrongSaid:=
 OpenClaim.holds_of_wide 3 Try.f3 rfl rfl rfl rfl rfl rfl rfl ⟨rfl,rfl,rfl,rfl,rfl⟩ rfl rfl rfl rfl rfl (by kernel_rfl) Try.func3 watchWrong_facts
  (of_decide_eq_true (by kernel_rfl)) (by unfold Func.isWrapper;first | (rw [if_pos (by decide +kernel)];kernel_rfl) | (rw [if_neg (by decide +kernel)];exact⟨rfl,rfl⟩))
  (fun os started H enc _=>watchWrong_lifted os started H enc)
#print axioms watchWrong_holds
end Go.Proofs.Ytfmfhnpkganobaa
