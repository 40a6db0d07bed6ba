/- HartCheck, run by the evaluator. No condition. -/
import Derived.Test.YtcachlbljjpjdaaGreatDoorHOkA
import Derived.Test.YtcachlbljjpjdaaGreatDoorHHart
namespace Go.Proofs.YtcachlbljjpjdaaGreatDoor
open Go Go.Proofs
set_option maxRecDepth 100000 in
theorem hartCheck_ev : allChk LStart ((ev cx13 4000).call 7 [hartX 0 0, hartX 4 1] (stPc [])) = true := by kernel_rfl
end Go.Proofs.YtcachlbljjpjdaaGreatDoor
