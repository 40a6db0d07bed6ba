/- Alone: the laws' commits, over two rows of one symbol (printed by hcac); what alone.Told and the answers leave. No condition. -/
import Derived.Test.YtmickljjofbmiaaGreatDoorALp
import Derived.Test.YtmickljjofbmiaaGreatDoorATold
import Derived.Test.YtmickljjofbmiaaGreatDoorQLp
set_option maxRecDepth 100000
namespace Go.Proofs.YtmickljjofbmiaaGreatDoor
open Go Go.Proofs
noncomputable def lbC:Code:=(oQ (Tryz.f12.body.getD .skip)).getD 0 .skip
noncomputable def C1H:H:=mI [(0,.ro 0 (Dh 0)),
  (8,.arr (.base 60) xG (.var 60) 65 true),
  (7,.arr (.base 60) xG (.var 60) 65 true)]
noncomputable def ag1:PC:=[((.le (.lit 1) (.var 60)),true),((.le (.var 60) (.lit 300)),true),((.le (.lit 0) (.lit 7)),true)]
noncomputable def C1I:mW:=⟨⟨[(.xslice false 7 (.lit 0) 14 (.var 60) (.room (.var 60))),(.xslice false 8 (.lit 0) 14 (.var 60) (.room (.var 60))),U,U,(.any 9),(.int .i64 (.var 100)),(.xslice false 7 (.lit 0) 14 (.var 60) (.room (.var 60))),(.int .i64 (.var 60)),(.xslice false 8 (.lit 0) 14 (.var 60) (.room (.var 60))),(.int .i64 (.var 60)),(.bool (.lit 0)),(.any 10),(.any 11),(.any 12),(.any 13),(.any 14),(.any 15),(.any 16),(.any 17),(.any 18),(.any 19),(.any 20),(.any 21),(.any 22),(.any 23),(.any 24)],[]⟩,
 [(0,.ro 0 (Dh 0)),
  (8,.arr (.base 60) xG (.var 60) 65 true),
  (7,.arr (.base 60) xG (.var 60) 65 true)],
 25,[((.le (.lit 0) (.var 100)),true),((.le (.lit 1) (.var 60)),true),((.le (.var 60) (.lit 300)),true),((.le (.lit 0) (.lit 7)),true)],[0,1,2,3,4,5,6,8,7,9,10,11,12,13,14,15,16,17,18,19,20,21,22,23,24]⟩
noncomputable def C1T:Tch:=⟨[100],[]⟩
noncomputable def C1S:Mt:=(B4 [(100,(.lit 0))] [])
noncomputable def YY:OutP:=⟨(.exit 0),⟨⟨[(.xslice false 7 (.lit 0) 14 (.var 60) (.room (.var 60))),(.xslice false 8 (.lit 0) 14 (.var 60) (.room (.var 60))),U,U,(.any 9),(.any 10),(.xslice false 7 (.lit 0) 14 (.var 60) (.room (.var 60))),(.int .i64 (.var 60)),(.xslice false 8 (.lit 0) 14 (.var 60) (.room (.var 60))),(.int .i64 (.var 60)),(.bool (.lit 0)),(.any 11),(.xslice false 7 (.lit 0) 14 (.var 60) (.room (.var 60))),(.int .i64 (.var 60)),(.any 12),(.any 13),(.any 14),(.any 15),(.any 16),(.any 17),(.any 18),(.any 19),(.any 20),(.any 21),(.any 22),(.any 23)],[]⟩,
 [(0,.ro 0 (Dh 0)),
  (8,.arr (.base 60) xG (.var 60) 65 true),
  (7,.arr (.base 60) xG (.var 60) 65 true)],
 24,[],[0,1,2,3,4,5,6,8,7,9,10,11,12,13,14,15,16,17,18,19,20,21,22,23]⟩⟩
noncomputable def ajF:R LL:=
 (.br (.lt (.var 100) (.var 60))
  (.ok (.next (B4 [(100,(.add (.var 100) (.lit 1)))] [])))
  (.ok (.out 0 (B4 [] []))))
noncomputable def Rl:LoopI:=⟨none,lbC,⟨[(.xslice false 7 (.lit 0) 14 (.var 60) (.room (.var 60))),(.xslice false 8 (.lit 0) 14 (.var 60) (.room (.var 60))),U,U,(.bool (.lit 0)),(.int .i64 (.lit 0)),(.xslice false 7 (.lit 0) 14 (.var 60) (.room (.var 60))),(.int .i64 (.var 60)),(.xslice false 8 (.lit 0) 14 (.var 60) (.room (.var 60))),(.int .i64 (.var 60)),(.bool (.lit 0)),U,U,U,U,U,U,U,U,U,U,U,U,U,U,U],[]⟩,⟨C1H,9,ag1⟩,.ok (YY.ex,YY.pat.fr,⟨YY.pat.st.h,YY.pat.st.n,ag1⟩)⟩
def CMP:m7:=⟨[(.xslice false 7 (.lit 0) 14 (.var 60) (.room (.var 60))),(.xslice false 8 (.lit 0) 14 (.var 60) (.room (.var 60)))],[(7,.arr (.base 60) xG (.var 60) 65 true),
  (8,.arr (.base 60) xG (.var 60) 65 true)],9,[((.le (.lit 1) (.var 60)),true),((.le (.var 60) (.lit 300)),true),((.le (.lit 0) (.lit 7)),true)]⟩
def CMR:R Leaf:=
 (.ok {v:=(.bool (.lit 1)),objs:=[(7,.arr (.base 60) xG (.var 60) 65 true),(8,.arr (.base 60) xG (.var 60) 65 true)],n:=24})
noncomputable def pU(L:LoopI):Cx:={jL [] with lp:=some (PG [L])}
theorem abT:(match (ev (jL []) 4000).code Rl.rnd Rl.body C1I.fr C1I.st with | raw=>kc C1T Rl.st.n C1I [YY] raw (n3 C1I [YY] raw ajF))=true:=by kernel_rfl
theorem agk:F7 7 Rl C1I [YY]=true:=by kernel_rfl
theorem acF:fit C1T (iI C1I Rl.fr Rl.st C1S.v C1S.a) Rl.st.n C1I Rl.fr Rl.st=true:=by kernel_rfl
theorem aeA:nq CMP ((Lw (pU Rl) 4000).call 12 CMP.args (CMP.st aj))=CMR:=by kernel_rfl
theorem acy:nq ARP ((Lw (pU yr) 4000).call 10 ARP.args (ARP.st aj))=ARR:=by kernel_rfl
theorem aef:nq TQP ((Lw (pU Ei) 4000).call 16 TQP.args (TQP.st aj))=TQR:=by kernel_rfl
theorem aeb:nq TNP ((Lw (pU F9) 4000).call 16 TNP.args (TNP.st aj))=TNR:=by kernel_rfl
theorem aeO:nq ANP ((Lw (pU yI) 4000).call 17 ANP.args (ANP.st aj))=ANR:=by kernel_rfl
end Go.Proofs.YtmickljjofbmiaaGreatDoor
