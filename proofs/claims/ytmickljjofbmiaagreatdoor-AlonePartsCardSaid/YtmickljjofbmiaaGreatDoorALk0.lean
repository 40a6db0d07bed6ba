/- Alone: the rounds of alone.Run's loop, as runs. No condition. -/
import Derived.Test.YtmickljjofbmiaaGreatDoorALp
set_option maxRecDepth 100000
namespace Go.Proofs.YtmickljjofbmiaaGreatDoor
open Go Go.Proofs
theorem Xi:(match (ev (O4 (Qj (abL 20))) 4000).code BD.rnd BD.body yD.fr yD.st with | raw=>sV tM BD.st.n yD [yD,FJ] [su,ry] raw QQ)=true:=by kernel_rfl
theorem Xj:(match (ev (O4 (Qj (abM 30))) 4000).code BD.rnd BD.body FJ.fr FJ.st with | raw=>sV tM BD.st.n FJ [yD,FJ] [su,ry] raw K2)=true:=by kernel_rfl
theorem aeb:(pD 7 BD [yD,FJ]&&(tK 7 BD.st.n [su,ry]&&fit tM (lU yD BD.fr BD.st [] []) BD.st.n yD BD.fr BD.st))=true:=by kernel_rfl
end Go.Proofs.YtmickljjofbmiaaGreatDoor
