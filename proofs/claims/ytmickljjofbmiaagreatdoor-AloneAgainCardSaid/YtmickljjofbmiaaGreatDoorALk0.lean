/- Alone: the rounds of alone.Run's loop, as runs. No condition. -/
import Derived.Test.YtmickljjofbmiaaGreatDoorALp
set_option maxRecDepth 100000
namespace Go.Proofs.YtmickljjofbmiaaGreatDoor
open Go Go.Proofs
theorem ZR:(match (ev (jL (PM (Ia 20))) 4000).code yr.rnd yr.body Ae.fr Ae.st with | raw=>ep tM yr.st.n Ae [Ae,IK] [uk,sq] raw Vj)=true:=by kernel_rfl
theorem ZC:(match (ev (jL (PM (GW 30))) 4000).code yr.rnd yr.body IK.fr IK.st with | raw=>ep tM yr.st.n IK [Ae,IK] [uk,sq] raw Mb)=true:=by kernel_rfl
theorem akQ:(gW 7 yr [Ae,IK]&&(kx 7 yr.st.n [uk,sq]&&fit tM (iI Ae yr.fr yr.st [] []) yr.st.n Ae yr.fr yr.st))=true:=by kernel_rfl
end Go.Proofs.YtmickljjofbmiaaGreatDoor
