/- What some functions leave, by runs. No condition. -/
import Derived.Test.YtjgdcnnjglchiaaGreatDoorFDoor
namespace Go.Proofs.YtjgdcnnjglchiaaGreatDoor
open Go Go.Proofs
set_option maxRecDepth 100000
def sum38_a0 : List V := [(.int .u32 (.lit (5243027)))]
def sum38_r0 : R Leaf := (.ok { v := (.tuple [(.agg [(.int .i64 (.lit (19))), (.int .i64 (.lit (1))), (.int .i64 (.lit (0))), (.int .i64 (.lit (0))), (.int .u32 (.lit (5))), (.bool (.lit (0))), (.bool (.lit (0)))]), (.bool (.lit (1)))]), objs := [], n := 87 })
theorem sum38_0 : Row cxD 38 sum38_a0 sum38_r0 := .of (by kernel_rfl)
def sum38_a1 : List V := [(.int .u32 (.lit (1056803)))]
def sum38_r1 : R Leaf := (.ok { v := (.tuple [(.agg [(.int .i64 (.lit (18))), (.int .i64 (.lit (0))), (.int .i64 (.lit (0))), (.int .i64 (.lit (1))), (.int .u32 (.lit (0))), (.bool (.lit (0))), (.bool (.lit (0)))]), (.bool (.lit (1)))]), objs := [], n := 83 })
theorem sum38_1 : Row cxD 38 sum38_a1 sum38_r1 := .of (by kernel_rfl)
def sum38_a2 : List V := [(.int .u32 (.lit (115)))]
def sum38_r2 : R Leaf := (.ok { v := (.tuple [(.agg [(.int .i64 (.lit (39))), (.int .i64 (.lit (0))), (.int .i64 (.lit (0))), (.int .i64 (.lit (0))), (.int .u32 (.lit (0))), (.bool (.lit (0))), (.bool (.lit (0)))]), (.bool (.lit (1)))]), objs := [], n := 133 })
theorem sum38_2 : Row cxD 38 sum38_a2 sum38_r2 := .of (by kernel_rfl)
def sum38 : List (List V × R Leaf) := [(sum38_a0, sum38_r0), (sum38_a1, sum38_r1), (sum38_a2, sum38_r2)]
theorem sum38_ok : TabOk cxD LStart 7 4000 38 sum38 := .cons rfl sum38_0 <| .cons rfl sum38_1 <| .cons rfl sum38_2 <| .nil
noncomputable def cx38 : Cx := { cx with dm := dmH, sm := smOf [(38, sumTab LStart 7 sum38)] }
def sum5_a0 : List V := []
def sum5_r0 : R Leaf := (.ok { v := (.bool (.lit (1))), objs := [], n := 1369 })
theorem sum5_0 : Row cx38 5 sum5_a0 sum5_r0 := .of (by kernel_rfl)
def sum5 : List (List V × R Leaf) := [(sum5_a0, sum5_r0)]
theorem sum5_ok : TabOk cx38 LStart 7 4000 5 sum5 := .cons rfl sum5_0 <| .nil
noncomputable def cx5 : Cx := { cx with dm := dmH, sm := smOf [(5, sumTab LStart 7 sum5), (38, sumTab LStart 7 sum38)] }
end Go.Proofs.YtjgdcnnjglchiaaGreatDoor
