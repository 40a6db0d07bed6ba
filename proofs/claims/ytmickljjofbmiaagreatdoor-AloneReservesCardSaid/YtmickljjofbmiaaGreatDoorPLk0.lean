/- Alone: the rounds of alone.Run's loop, as runs. No condition. -/
import Derived.Test.YtmickljjofbmiaaGreatDoorPLp
set_option maxRecDepth 100000
namespace Go.Proofs.YtmickljjofbmiaaGreatDoor
open Go Go.Proofs
theorem AR_chk0:(match (ev (cxRd (smPr (row0 20))) 4000).code ARL.rnd ARL.body ARI0.fr ARI0.st with | raw=>chkShape tM ARL.st.n ARI0 [ARI0,ARI1] [ARO0,ARO1] raw ARl0)=true:=by kernel_rfl
theorem AR_chk1:(match (ev (cxRd (smPr (row1 30))) 4000).code ARL.rnd ARL.body ARI1.fr ARI1.st with | raw=>chkShape tM ARL.st.n ARI1 [ARI0,ARI1] [ARO0,ARO1] raw ARl1)=true:=by kernel_rfl
theorem AR_ok:(shapesOk 7 ARL [ARI0,ARI1]&&(outsOkM 7 ARL.st.n [ARO0,ARO1]&&fit tM (fillMt ARI0 ARL.fr ARL.st [] []) ARL.st.n ARI0 ARL.fr ARL.st))=true:=by kernel_rfl
end Go.Proofs.YtmickljjofbmiaaGreatDoor
