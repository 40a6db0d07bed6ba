/- CorePlay: the calls of a buffer and of a row of stores come to their trees (teller, own, the document). No condition. -/
import Derived.Test.YtgcbnjpeifigaaaGreatDoorJBo
import Derived.Test.YtgcbnjpeifigaaaGreatDoorJLp
set_option maxRecDepth 100000
namespace Go.Proofs.YtgcbnjpeifigaaaGreatDoor
open Go Go.Proofs
noncomputable section
def cxF(n:Nat):Cx:={cxB with sm:=tW [(142,sG (Xl n))]}
end
theorem atV:eI (fun f=>eI (fun n=>cw (WJ f (n+1)).items (eA cxB 126 (WJ f (n+1))) (teT (n+1))) r4) r4=true:=by kernel_rfl
theorem apk:eI (fun n=>cw (KY (n+1) 1).items (eA cxB 102 (KY (n+1) 1)) (owT 1 (n+1))) r4=true:=by kernel_rfl
theorem apf:eI (fun n=>cw (Cm n 1).items (eA (cxF n) 100 (Cm n 1)) (frT 1 n)) r5=true:=by kernel_rfl
theorem apl:eI (fun n=>cw (KY (n+1) 2).items (eA cxB 102 (KY (n+1) 2)) (owT 2 (n+1))) r4=true:=by kernel_rfl
theorem apg:eI (fun n=>cw (Cm n 2).items (eA (cxF n) 100 (Cm n 2)) (frT 2 n)) r5=true:=by kernel_rfl
theorem apm:eI (fun n=>cw (KY (n+1) 4).items (eA cxB 102 (KY (n+1) 4)) (owT 4 (n+1))) r4=true:=by kernel_rfl
theorem api:eI (fun n=>cw (Cm n 4).items (eA (cxF n) 100 (Cm n 4)) (frT 4 n)) r5=true:=by kernel_rfl
theorem atF:jE 10 [] (eA cxB 142 auq) am1=true:=by kernel_rfl
end Go.Proofs.YtgcbnjpeifigaaaGreatDoor
