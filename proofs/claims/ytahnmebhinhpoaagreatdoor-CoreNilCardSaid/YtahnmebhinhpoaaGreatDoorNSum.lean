/- What some functions leave, by runs. No condition. -/
import Derived.Test.YtahnmebhinhpoaaGreatDoorNDoor
namespace Go.Proofs.YtahnmebhinhpoaaGreatDoor
open Go Go.Proofs
set_option maxRecDepth 100000
def sum59_a0 : List V := [(.int .u32 (.lit (5243027)))]
def sum59_r0 : R Leaf := (.ok { v := (.tuple [(.agg [(.int .i64 (.lit (19))), (.int .i64 (.lit (1))), (.int .i64 (.lit (0))), (.int .i64 (.lit (0))), (.int .u32 (.lit (5))), (.bool (.lit (0))), (.bool (.lit (0)))]), (.bool (.lit (1)))]), objs := [], n := 87 })
theorem sum59_0 : Row cxD 59 sum59_a0 sum59_r0 := .of (by kernel_rfl)
def sum59_a1 : List V := [(.int .u32 (.lit (1056803)))]
def sum59_r1 : R Leaf := (.ok { v := (.tuple [(.agg [(.int .i64 (.lit (18))), (.int .i64 (.lit (0))), (.int .i64 (.lit (0))), (.int .i64 (.lit (1))), (.int .u32 (.lit (0))), (.bool (.lit (0))), (.bool (.lit (0)))]), (.bool (.lit (1)))]), objs := [], n := 83 })
theorem sum59_1 : Row cxD 59 sum59_a1 sum59_r1 := .of (by kernel_rfl)
def sum59_a2 : List V := [(.int .u32 (.lit (8451)))]
def sum59_r2 : R Leaf := (.ok { v := (.tuple [(.agg [(.int .i64 (.lit (13))), (.int .i64 (.lit (2))), (.int .i64 (.lit (0))), (.int .i64 (.lit (0))), (.int .u32 (.lit (0))), (.bool (.lit (0))), (.bool (.lit (0)))]), (.bool (.lit (1)))]), objs := [], n := 71 })
theorem sum59_2 : Row cxD 59 sum59_a2 sum59_r2 := .of (by kernel_rfl)
def sum59 : List (List V × R Leaf) := [(sum59_a0, sum59_r0), (sum59_a1, sum59_r1), (sum59_a2, sum59_r2)]
theorem sum59_ok : TabOk cxD LStart 7 4000 59 sum59 := .cons rfl sum59_0 <| .cons rfl sum59_1 <| .cons rfl sum59_2 <| .nil
noncomputable def cx59 : Cx := { cx with dm := dmH, sm := smOf [(59, sumTab LStart 7 sum59)] }
def sum4_a0 : List V := []
def sum4_r0 : R Leaf := (.ok { v := (.bool (.lit (1))), objs := [], n := 1208 })
theorem sum4_0 : Row cx59 4 sum4_a0 sum4_r0 := .of (by kernel_rfl)
def sum4 : List (List V × R Leaf) := [(sum4_a0, sum4_r0)]
theorem sum4_ok : TabOk cx59 LStart 7 4000 4 sum4 := .cons rfl sum4_0 <| .nil
noncomputable def cx4 : Cx := { cx with dm := dmH, sm := smOf [(4, sumTab LStart 7 sum4), (59, sumTab LStart 7 sum59)] }
end Go.Proofs.YtahnmebhinhpoaaGreatDoor
