/- Alone: the laws' commits, over two rows of one symbol (printed by hcac). No condition. -/
import Derived.Test.YtmickljjofbmiaaGreatDoorPLp
import Derived.Test.YtmickljjofbmiaaGreatDoorATold
set_option maxRecDepth 100000
namespace Go.Proofs.YtmickljjofbmiaaGreatDoor
open Go Go.Proofs
noncomputable def lbC:Code:=(lpsOf (Tryz.f12.body.getD .skip)).getD 0 .skip
noncomputable def C1H:H:=itemsH [(0,.ro 0 (roC 0)),
  (8,.arr (.base 60) ksC (.var 60) 65 true),
  (7,.arr (.base 60) ksC (.var 60) 65 true)]
noncomputable def C1Pc:PC:=[((.le (.lit 1) (.var 60)),true),((.le (.var 60) (.lit 300)),true),((.le (.lit 0) (.lit 7)),true)]
noncomputable def C1I:Pat:=⟨⟨[(.xslice false 7 (.lit 0) 14 (.var 60) (.room (.var 60))),(.xslice false 8 (.lit 0) 14 (.var 60) (.room (.var 60))),U,U,(.any 9),(.int .i64 (.var 100)),(.xslice false 7 (.lit 0) 14 (.var 60) (.room (.var 60))),(.int .i64 (.var 60)),(.xslice false 8 (.lit 0) 14 (.var 60) (.room (.var 60))),(.int .i64 (.var 60)),(.bool (.lit 0)),(.any 10),(.any 11),(.any 12),(.any 13),(.any 14),(.any 15),(.any 16),(.any 17),(.any 18),(.any 19),(.any 20),(.any 21),(.any 22),(.any 23),(.any 24)],[]⟩,
 [(0,.ro 0 (roC 0)),
  (8,.arr (.base 60) ksC (.var 60) 65 true),
  (7,.arr (.base 60) ksC (.var 60) 65 true)],
 25,[((.le (.lit 0) (.var 100)),true),((.le (.lit 1) (.var 60)),true),((.le (.var 60) (.lit 300)),true),((.le (.lit 0) (.lit 7)),true)],[0,1,2,3,4,5,6,8,7,9,10,11,12,13,14,15,16,17,18,19,20,21,22,23,24]⟩
noncomputable def C1T:Tch:=⟨[100],[]⟩
noncomputable def C1S:Mt:=(mtV [(100,(.lit 0))] [])
noncomputable def C1O:OutP:=⟨(.exit 0),⟨⟨[(.xslice false 7 (.lit 0) 14 (.var 60) (.room (.var 60))),(.xslice false 8 (.lit 0) 14 (.var 60) (.room (.var 60))),U,U,(.any 9),(.any 10),(.xslice false 7 (.lit 0) 14 (.var 60) (.room (.var 60))),(.int .i64 (.var 60)),(.xslice false 8 (.lit 0) 14 (.var 60) (.room (.var 60))),(.int .i64 (.var 60)),(.bool (.lit 0)),(.any 11),(.xslice false 7 (.lit 0) 14 (.var 60) (.room (.var 60))),(.int .i64 (.var 60)),(.any 12),(.any 13),(.any 14),(.any 15),(.any 16),(.any 17),(.any 18),(.any 19),(.any 20),(.any 21),(.any 22),(.any 23)],[]⟩,
 [(0,.ro 0 (roC 0)),
  (8,.arr (.base 60) ksC (.var 60) 65 true),
  (7,.arr (.base 60) ksC (.var 60) 65 true)],
 24,[],[0,1,2,3,4,5,6,8,7,9,10,11,12,13,14,15,16,17,18,19,20,21,22,23]⟩⟩
noncomputable def C1LL:R LL:=
 (.br (.lt (.var 100) (.var 60))
  (.ok (.next (mtV [(100,(.add (.var 100) (.lit 1)))] [])))
  (.ok (.out 0 (mtV [] []))))
noncomputable def C1L:LoopI:=⟨none,lbC,⟨[(.xslice false 7 (.lit 0) 14 (.var 60) (.room (.var 60))),(.xslice false 8 (.lit 0) 14 (.var 60) (.room (.var 60))),U,U,(.bool (.lit 0)),(.int .i64 (.lit 0)),(.xslice false 7 (.lit 0) 14 (.var 60) (.room (.var 60))),(.int .i64 (.var 60)),(.xslice false 8 (.lit 0) 14 (.var 60) (.room (.var 60))),(.int .i64 (.var 60)),(.bool (.lit 0)),U,U,U,U,U,U,U,U,U,U,U,U,U,U,U],[]⟩,⟨C1H,9,C1Pc⟩,.ok (C1O.ex,C1O.pat.fr,⟨C1O.pat.st.h,C1O.pat.st.n,C1Pc⟩)⟩
def CMP:CallP:=⟨[(.xslice false 7 (.lit 0) 14 (.var 60) (.room (.var 60))),(.xslice false 8 (.lit 0) 14 (.var 60) (.room (.var 60)))],[(7,.arr (.base 60) ksC (.var 60) 65 true),
  (8,.arr (.base 60) ksC (.var 60) 65 true)],9,[((.le (.lit 1) (.var 60)),true),((.le (.var 60) (.lit 300)),true),((.le (.lit 0) (.lit 7)),true)]⟩
def CMR:R Leaf:=
 (.ok {v:=(.bool (.lit 1)),objs:=[(7,.arr (.base 60) ksC (.var 60) 65 true),(8,.arr (.base 60) ksC (.var 60) 65 true)],n:=24})
noncomputable def cxLp(L:LoopI):Cx:={cxRd [] with lp:=some (lpOf [L])}
theorem C1_chk:(match (ev (cxRd []) 4000).code C1L.rnd C1L.body C1I.fr C1I.st with | raw=>chkTree C1T C1L.st.n C1I [C1O] raw (fillLL C1I [C1O] raw C1LL))=true:=by kernel_rfl
theorem C1_ok:loopOk 7 C1L C1I [C1O]=true:=by kernel_rfl
theorem C1_ent:fit C1T (fillMt C1I C1L.fr C1L.st C1S.v C1S.a) C1L.st.n C1I C1L.fr C1L.st=true:=by kernel_rfl
theorem CM_run:leafX CMP ((evT (cxLp C1L) 4000).call 12 CMP.args (CMP.st LStart))=CMR:=by kernel_rfl
theorem AR_run:leafX ARP ((evT (cxLp ARL) 4000).call 10 ARP.args (ARP.st LStart))=ARR:=by kernel_rfl
theorem RR_run:leafX RRP ((evT (cxLp RRL) 4000).call 11 RRP.args (RRP.st LStart))=RRR:=by kernel_rfl
end Go.Proofs.YtmickljjofbmiaaGreatDoor
