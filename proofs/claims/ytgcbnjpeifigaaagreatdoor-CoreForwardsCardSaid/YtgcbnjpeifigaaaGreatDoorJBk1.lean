/- CorePlay: the calls of a buffer and of a row of stores come to their trees (Forward). No condition. -/
import Derived.Test.YtgcbnjpeifigaaaGreatDoorJBo
set_option maxRecDepth 100000
namespace Go.Proofs.YtgcbnjpeifigaaaGreatDoor
open Go Go.Proofs
theorem apc:eI (fun f=>eI (fun n=>cw [oB (jZ f n)] (eA cxB 125 (acd f n 1)) (fwT 1 n)) r5) r4=true:=by kernel_rfl
theorem apd:eI (fun f=>eI (fun n=>cw [oB (jZ f n)] (eA cxB 125 (acd f n 2)) (fwT 2 n)) r5) r4=true:=by kernel_rfl
theorem ape:eI (fun f=>eI (fun n=>cw [oB (jZ f n)] (eA cxB 125 (acd f n 4)) (fwT 4 n)) r5) r4=true:=by kernel_rfl
end Go.Proofs.YtgcbnjpeifigaaaGreatDoor
