/- AloneAgain: the rounds of the loops, as runs. No condition. -/
import Derived.Test.YtmickljjofbmiaaGreatDoorQTold
import Derived.Test.YtmickljjofbmiaaGreatDoorQLp
set_option maxRecDepth 100000
namespace Go.Proofs.YtmickljjofbmiaaGreatDoor
open Go Go.Proofs
def tA:Tch:=⟨[100,140,62],[(31,2),(75,2)]⟩
theorem YA:(match (ev (jL (Cm (Ia 20) (.lit 0))) 4000).code Ei.rnd Ei.body Fx.fr Fx.st with | raw=>ep tM Ei.st.n Fx [Fx,LG] [Iy,IG] raw (LP false))=true:=by kernel_rfl
theorem Zt:(match (ev (jL (Cm (GW 30) (.sub (.add (.var 140) (.lit 1)) (.lit 1)))) 4000).code Ei.rnd Ei.body LG.fr LG.st with | raw=>ep tM Ei.st.n LG [Fx,LG] [Iy,IG] raw (EL false))=true:=by kernel_rfl
theorem ann:(gW 7 Ei [Fx,LG]&&(kx 7 Ei.st.n [Iy,IG]&&fit tM (iI Fx Ei.fr Ei.st [] []) Ei.st.n Fx Ei.fr Ei.st))=true:=by kernel_rfl
theorem YI:(match (ev (jL (Cm (Ia 20) (.lit 0))) 4000).code F9.rnd F9.body EU.fr EU.st with | raw=>ep tM F9.st.n EU [EU,MQ] [JG,GM] raw (LP true))=true:=by kernel_rfl
theorem YJ:(match (ev (jL (Cm (GW 30) (.sub (.add (.var 140) (.lit 1)) (.lit 1)))) 4000).code F9.rnd F9.body MQ.fr MQ.st with | raw=>ep tM F9.st.n MQ [EU,MQ] [JG,GM] raw (EL true))=true:=by kernel_rfl
theorem akA:(gW 7 F9 [EU,MQ]&&(kx 7 F9.st.n [JG,GM]&&fit tM (iI EU F9.fr F9.st [] []) F9.st.n EU F9.fr F9.st))=true:=by kernel_rfl
theorem aay:(match (ev (jL []) 4000).code yI.rnd yI.body yv.fr yv.st with | raw=>ep tA yI.st.n yv [yv,Ec,Ey] [Ar,zj] raw QJ)=true:=by kernel_rfl
theorem Yk:(match (ev (jL []) 4000).code yI.rnd yI.body Ec.fr Ec.st with | raw=>ep tA yI.st.n Ec [yv,Ec,Ey] [Ar,zj] raw MC)=true:=by kernel_rfl
theorem ZM:(match (ev (jL []) 4000).code yI.rnd yI.body Ey.fr Ey.st with | raw=>ep tA yI.st.n Ey [yv,Ec,Ey] [Ar,zj] raw Lr)=true:=by kernel_rfl
theorem agy:(gW 7 yI [yv,Ec,Ey]&&(kx 7 yI.st.n [Ar,zj]&&fit tA (iI yv yI.fr yI.st [] []) yI.st.n yv yI.fr yI.st))=true:=by kernel_rfl
end Go.Proofs.YtmickljjofbmiaaGreatDoor
