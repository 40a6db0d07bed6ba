/- Alone: the rounds of the document's loop, as runs. No condition. -/
import Derived.Test.YtmickljjofbmiaaGreatDoorPLp
set_option maxRecDepth 100000
namespace Go.Proofs.YtmickljjofbmiaaGreatDoor
open Go Go.Proofs
theorem RR_chk0:(match (ev (cxRd (smRr (row0 20))) 4000).code RRL.rnd RRL.body RRI0.fr RRI0.st with | raw=>chkShape tM RRL.st.n RRI0 [RRI0,RRI1,RRI2] [RRO0,RRO1] raw RRl0)=true:=by kernel_rfl
theorem RR_chk1:(match (ev (cxRd (smRr (row1 20))) 4000).code RRL.rnd RRL.body RRI1.fr RRI1.st with | raw=>chkShape tM RRL.st.n RRI1 [RRI0,RRI1,RRI2] [RRO0,RRO1] raw (RRl 1 (.base 20)))=true:=by kernel_rfl
theorem RR_chk2:(match (ev (cxRd (smRr (row1 30))) 4000).code RRL.rnd RRL.body RRI2.fr RRI2.st with | raw=>chkShape tM RRL.st.n RRI2 [RRI0,RRI1,RRI2] [RRO0,RRO1] raw (RRl 2 (.base 30)))=true:=by kernel_rfl
theorem RR_ok:(shapesOk 7 RRL [RRI0,RRI1,RRI2]&&(outsOkM 7 RRL.st.n [RRO0,RRO1]&&fit tM (fillMt RRI0 RRL.fr RRL.st [] []) RRL.st.n RRI0 RRL.fr RRL.st))=true:=by kernel_rfl
end Go.Proofs.YtmickljjofbmiaaGreatDoor
