/- What some functions leave, by runs. No condition. -/
import Derived.Test.YtmpldkdieghbcaaGreatDoorWDoor
namespace Go.Proofs.YtmpldkdieghbcaaGreatDoor
open Go Go.Proofs
set_option maxRecDepth 100000
def sum12_a0 : List V := []
def sum12_r0 : R Leaf := (.ok { v := (.bool (.lit (1))), objs := [], n := 46 })
theorem sum12_0 : Row cxD 12 sum12_a0 sum12_r0 := .of (by kernel_rfl)
def sum12 : List (List V × R Leaf) := [(sum12_a0, sum12_r0)]
theorem sum12_ok : TabOk cxD LStart 7 4000 12 sum12 := .cons rfl sum12_0 <| .nil
noncomputable def cx12 : Cx := { cx with dm := dmH, sm := smOf [(12, sumTab LStart 7 sum12)] }
end Go.Proofs.YtmpldkdieghbcaaGreatDoor
