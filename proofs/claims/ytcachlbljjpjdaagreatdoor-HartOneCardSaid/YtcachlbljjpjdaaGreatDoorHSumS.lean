/- What some functions leave, by runs. No condition. -/
import Derived.Test.YtcachlbljjpjdaaGreatDoorHSumD
import Derived.Test.YtcachlbljjpjdaaGreatDoorHBase
namespace Go.Proofs.YtcachlbljjpjdaaGreatDoor
open Go Go.Proofs
set_option maxRecDepth 100000
def sum37_a0 : List V := [(.int .u32 (.wrap .u32 (.var 0))), (.int .u32 (.wrap .u32 (.var 1)))]
def sum37_r0 : R Leaf := (.ok { v := (.int .u32 (.wrap .u32 (.add (.wrap .u32 (.var 0)) (.wrap .u32 (.var 1))))), objs := [], n := 7 })
theorem sum37_0 : Row { cx27 with mg := true } 37 sum37_a0 sum37_r0 := .of (by kernel_rfl)
def sum37 : List (List V × R Leaf) := [(sum37_a0, sum37_r0)]
theorem sum37_ok : TabOk { cx27 with mg := true } LStart 7 4000 37 sum37 := .cons rfl sum37_0 <| .nil
def sum88_a0 : List V := [(.int .u32 (.wrap .u32 (.var 0))), (.int .u32 (.wrap .u32 (.var 1)))]
def sum88_r0 : R Leaf := (.ok { v := (.int .u32 (.wrap .u32 (.sub (.wrap .u32 (.var 0)) (.wrap .u32 (.var 1))))), objs := [], n := 7 })
theorem sum88_0 : Row { cx27 with mg := true } 88 sum88_a0 sum88_r0 := .of (by kernel_rfl)
def sum88 : List (List V × R Leaf) := [(sum88_a0, sum88_r0)]
theorem sum88_ok : TabOk { cx27 with mg := true } LStart 7 4000 88 sum88 := .cons rfl sum88_0 <| .nil
def sum96_a0 : List V := [(.int .u32 (.wrap .u32 (.var 0))), (.int .u32 (.wrap .u32 (.var 1)))]
def sum96_r0 : R Leaf := (.ok { v := (.int .u32 (.ite (.eq (.wrap .u32 (.var 1)) (.lit (0))) (.lit (4294967295)) (.wrap .u32 (.quo (.wrap .i32 (.wrap .u32 (.var 0))) (.wrap .i32 (.wrap .u32 (.var 1))))))), objs := [], n := 7 })
theorem sum96_0 : Row { cx27 with mg := true } 96 sum96_a0 sum96_r0 := .of (by kernel_rfl)
def sum96 : List (List V × R Leaf) := [(sum96_a0, sum96_r0)]
theorem sum96_ok : TabOk { cx27 with mg := true } LStart 7 4000 96 sum96 := .cons rfl sum96_0 <| .nil
def sum97_a0 : List V := [(.int .u32 (.wrap .u32 (.var 0))), (.int .u32 (.wrap .u32 (.var 1)))]
def sum97_r0 : R Leaf := (.ok { v := (.int .u32 (.ite (.eq (.wrap .u32 (.var 1)) (.lit (0))) (.lit (4294967295)) (.wrap .u32 (.quo (.wrap .u32 (.var 0)) (.wrap .u32 (.var 1)))))), objs := [], n := 7 })
theorem sum97_0 : Row { cx27 with mg := true } 97 sum97_a0 sum97_r0 := .of (by kernel_rfl)
def sum97 : List (List V × R Leaf) := [(sum97_a0, sum97_r0)]
theorem sum97_ok : TabOk { cx27 with mg := true } LStart 7 4000 97 sum97 := .cons rfl sum97_0 <| .nil
def sum98_a0 : List V := [(.int .u32 (.wrap .u32 (.var 0))), (.int .u32 (.wrap .u32 (.var 1)))]
def sum98_r0 : R Leaf := (.ok { v := (.int .u32 (.ite (.eq (.wrap .u32 (.var 1)) (.lit (0))) (.wrap .u32 (.var 0)) (.wrap .u32 (.rem (.wrap .i32 (.wrap .u32 (.var 0))) (.wrap .i32 (.wrap .u32 (.var 1))))))), objs := [], n := 7 })
theorem sum98_0 : Row { cx27 with mg := true } 98 sum98_a0 sum98_r0 := .of (by kernel_rfl)
def sum98 : List (List V × R Leaf) := [(sum98_a0, sum98_r0)]
theorem sum98_ok : TabOk { cx27 with mg := true } LStart 7 4000 98 sum98 := .cons rfl sum98_0 <| .nil
def sum99_a0 : List V := [(.int .u32 (.wrap .u32 (.var 0))), (.int .u32 (.wrap .u32 (.var 1)))]
def sum99_r0 : R Leaf := (.ok { v := (.int .u32 (.ite (.eq (.wrap .u32 (.var 1)) (.lit (0))) (.wrap .u32 (.var 0)) (.rem (.wrap .u32 (.var 0)) (.wrap .u32 (.var 1))))), objs := [], n := 7 })
theorem sum99_0 : Row { cx27 with mg := true } 99 sum99_a0 sum99_r0 := .of (by kernel_rfl)
def sum99 : List (List V × R Leaf) := [(sum99_a0, sum99_r0)]
theorem sum99_ok : TabOk { cx27 with mg := true } LStart 7 4000 99 sum99 := .cons rfl sum99_0 <| .nil
def sum33_a0 : List V := [(.int .u32 (.wrap .u32 (.var 0))), (.int .u32 (.wrap .u32 (.var 1)))]
def sum33_r0 : R Leaf := (.ok { v := (.int .u32 (.wrap .u32 (.add (.wrap .u32 (.var 0)) (.wrap .u32 (.var 1))))), objs := [], n := 7 })
theorem sum33_0 : Row { cx27 with mg := true } 33 sum33_a0 sum33_r0 := .of (by kernel_rfl)
def sum33 : List (List V × R Leaf) := [(sum33_a0, sum33_r0)]
theorem sum33_ok : TabOk { cx27 with mg := true } LStart 7 4000 33 sum33 := .cons rfl sum33_0 <| .nil
def sum79_a0 : List V := [(.int .u32 (.wrap .u32 (.var 0))), (.int .u32 (.wrap .u32 (.var 1)))]
def sum79_r0 : R Leaf := (.ok { v := (.int .u32 (.wrap .u32 (.sub (.wrap .u32 (.var 0)) (.wrap .u32 (.var 1))))), objs := [], n := 7 })
theorem sum79_0 : Row { cx27 with mg := true } 79 sum79_a0 sum79_r0 := .of (by kernel_rfl)
def sum79 : List (List V × R Leaf) := [(sum79_a0, sum79_r0)]
theorem sum79_ok : TabOk { cx27 with mg := true } LStart 7 4000 79 sum79 := .cons rfl sum79_0 <| .nil
def sum80_a0 : List V := [(.int .u32 (.wrap .u32 (.var 0))), (.int .u32 (.wrap .u32 (.var 1)))]
def sum80_r0 : R Leaf := (.ok { v := (.int .u32 (.wrap .u32 (.mul (.wrap .u32 (.var 0)) (.wrap .u32 (.var 1))))), objs := [], n := 7 })
theorem sum80_0 : Row { cx27 with mg := true } 80 sum80_a0 sum80_r0 := .of (by kernel_rfl)
def sum80 : List (List V × R Leaf) := [(sum80_a0, sum80_r0)]
theorem sum80_ok : TabOk { cx27 with mg := true } LStart 7 4000 80 sum80 := .cons rfl sum80_0 <| .nil
def sum83_a0 : List V := [(.int .u32 (.wrap .u32 (.var 0))), (.int .u32 (.wrap .u32 (.var 1)))]
def sum83_r0 : R Leaf := (.ok { v := (.int .u32 (.quo (.mul (.wrap .u32 (.var 0)) (.wrap .u32 (.var 1))) (.lit (4294967296)))), objs := [], n := 8 })
theorem sum83_0 : Row { cx27 with mg := true } 83 sum83_a0 sum83_r0 := .of (by kernel_rfl)
def sum83 : List (List V × R Leaf) := [(sum83_a0, sum83_r0)]
theorem sum83_ok : TabOk { cx27 with mg := true } LStart 7 4000 83 sum83 := .cons rfl sum83_0 <| .nil
def sum84_a0 : List V := [(.int .u32 (.wrap .u32 (.var 0))), (.int .u32 (.wrap .u32 (.var 1)))]
def sum84_r0 : R Leaf := (.ok { v := (.int .u32 (.ite (.eq (.wrap .u32 (.var 1)) (.lit (0))) (.lit (4294967295)) (.wrap .u32 (.quo (.wrap .i32 (.wrap .u32 (.var 0))) (.wrap .i32 (.wrap .u32 (.var 1))))))), objs := [], n := 7 })
theorem sum84_0 : Row { cx27 with mg := true } 84 sum84_a0 sum84_r0 := .of (by kernel_rfl)
def sum84 : List (List V × R Leaf) := [(sum84_a0, sum84_r0)]
theorem sum84_ok : TabOk { cx27 with mg := true } LStart 7 4000 84 sum84 := .cons rfl sum84_0 <| .nil
def sum85_a0 : List V := [(.int .u32 (.wrap .u32 (.var 0))), (.int .u32 (.wrap .u32 (.var 1)))]
def sum85_r0 : R Leaf := (.ok { v := (.int .u32 (.ite (.eq (.wrap .u32 (.var 1)) (.lit (0))) (.lit (4294967295)) (.wrap .u32 (.quo (.wrap .u32 (.var 0)) (.wrap .u32 (.var 1)))))), objs := [], n := 7 })
theorem sum85_0 : Row { cx27 with mg := true } 85 sum85_a0 sum85_r0 := .of (by kernel_rfl)
def sum85 : List (List V × R Leaf) := [(sum85_a0, sum85_r0)]
theorem sum85_ok : TabOk { cx27 with mg := true } LStart 7 4000 85 sum85 := .cons rfl sum85_0 <| .nil
def sum86_a0 : List V := [(.int .u32 (.wrap .u32 (.var 0))), (.int .u32 (.wrap .u32 (.var 1)))]
def sum86_r0 : R Leaf := (.ok { v := (.int .u32 (.ite (.eq (.wrap .u32 (.var 1)) (.lit (0))) (.wrap .u32 (.var 0)) (.wrap .u32 (.rem (.wrap .i32 (.wrap .u32 (.var 0))) (.wrap .i32 (.wrap .u32 (.var 1))))))), objs := [], n := 7 })
theorem sum86_0 : Row { cx27 with mg := true } 86 sum86_a0 sum86_r0 := .of (by kernel_rfl)
def sum86 : List (List V × R Leaf) := [(sum86_a0, sum86_r0)]
theorem sum86_ok : TabOk { cx27 with mg := true } LStart 7 4000 86 sum86 := .cons rfl sum86_0 <| .nil
def sum87_a0 : List V := [(.int .u32 (.wrap .u32 (.var 0))), (.int .u32 (.wrap .u32 (.var 1)))]
def sum87_r0 : R Leaf := (.ok { v := (.int .u32 (.ite (.eq (.wrap .u32 (.var 1)) (.lit (0))) (.wrap .u32 (.var 0)) (.rem (.wrap .u32 (.var 0)) (.wrap .u32 (.var 1))))), objs := [], n := 7 })
theorem sum87_0 : Row { cx27 with mg := true } 87 sum87_a0 sum87_r0 := .of (by kernel_rfl)
def sum87 : List (List V × R Leaf) := [(sum87_a0, sum87_r0)]
theorem sum87_ok : TabOk { cx27 with mg := true } LStart 7 4000 87 sum87 := .cons rfl sum87_0 <| .nil
def sum74_a0 : List V := [(.int .u32 (.wrap .u32 (.var 0))), (.int .u32 (.wrap .u32 (.var 1)))]
def sum74_r0 : R Leaf := (.ok { v := (.int .u32 (.shl .u32 (.wrap .u32 (.var 0)) (.rem (.wrap .u32 (.var 1)) (.lit (32))))), objs := [], n := 7 })
theorem sum74_0 : Row { cx27 with mg := true } 74 sum74_a0 sum74_r0 := .of (by kernel_rfl)
def sum74 : List (List V × R Leaf) := [(sum74_a0, sum74_r0)]
theorem sum74_ok : TabOk { cx27 with mg := true } LStart 7 4000 74 sum74 := .cons rfl sum74_0 <| .nil
def sum76_a0 : List V := [(.int .u32 (.wrap .u32 (.var 0))), (.int .u32 (.wrap .u32 (.var 1)))]
def sum76_r0 : R Leaf := (.ok { v := (.int .u32 (.shr .u32 (.wrap .u32 (.var 0)) (.rem (.wrap .u32 (.var 1)) (.lit (32))))), objs := [], n := 7 })
theorem sum76_0 : Row { cx27 with mg := true } 76 sum76_a0 sum76_r0 := .of (by kernel_rfl)
def sum76 : List (List V × R Leaf) := [(sum76_a0, sum76_r0)]
theorem sum76_ok : TabOk { cx27 with mg := true } LStart 7 4000 76 sum76 := .cons rfl sum76_0 <| .nil
def sum78_a0 : List V := [(.int .u32 (.wrap .u32 (.var 0))), (.int .u32 (.wrap .u32 (.var 1)))]
def sum78_r0 : R Leaf := (.ok { v := (.int .u32 (.wrap .u32 (.shr .i32 (.wrap .i32 (.wrap .u32 (.var 0))) (.rem (.wrap .u32 (.var 1)) (.lit (32)))))), objs := [], n := 7 })
theorem sum78_0 : Row { cx27 with mg := true } 78 sum78_a0 sum78_r0 := .of (by kernel_rfl)
def sum78 : List (List V × R Leaf) := [(sum78_a0, sum78_r0)]
theorem sum78_ok : TabOk { cx27 with mg := true } LStart 7 4000 78 sum78 := .cons rfl sum78_0 <| .nil
def sum56_a0 : List V := [(.bool (.var 0))]
def sum56_r0 : R Leaf := (.ok { v := (.int .u32 (.ite (.var 0) (.lit (1)) (.lit (0)))), objs := [], n := 7 })
theorem sum56_0 : Row { cx27 with mg := true } 56 sum56_a0 sum56_r0 := .of (by kernel_rfl)
def sum56 : List (List V × R Leaf) := [(sum56_a0, sum56_r0)]
theorem sum56_ok : TabOk { cx27 with mg := true } LStart 7 4000 56 sum56 := .cons rfl sum56_0 <| .nil
def sum61_a0 : List V := [(.bool (.var 0))]
def sum61_r0 : R Leaf := (.ok { v := (.int .u32 (.ite (.var 0) (.lit (1)) (.lit (0)))), objs := [], n := 7 })
theorem sum61_0 : Row { cx27 with mg := true } 61 sum61_a0 sum61_r0 := .of (by kernel_rfl)
def sum61 : List (List V × R Leaf) := [(sum61_a0, sum61_r0)]
theorem sum61_ok : TabOk { cx27 with mg := true } LStart 7 4000 61 sum61 := .cons rfl sum61_0 <| .nil
def sum36_a0 : List V := [(.int .u32 (.wrap .u32 (.var 0)))]
def sum36_r0 : R Leaf := (.ok { v := (.int .i64 (.wrap .i32 (.wrap .u32 (.var 0)))), objs := [], n := 7 })
theorem sum36_0 : Row { cx27 with mg := true } 36 sum36_a0 sum36_r0 := .of (by kernel_rfl)
def sum36 : List (List V × R Leaf) := [(sum36_a0, sum36_r0)]
theorem sum36_ok : TabOk { cx27 with mg := true } LStart 7 4000 36 sum36 := .cons rfl sum36_0 <| .nil
def sum59_a0 : List V := [(.int .i64 (.wrap .i64 (.var 0)))]
def sum59_r0 : R Leaf := (.ok { v := (.int .u32 (.ite (.lt (.wrap .i64 (.var 0)) (.lit (0))) (.wrap .u32 (.wrap .i64 (.add (.wrap .i64 (.var 0)) (.lit (4294967296))))) (.wrap .u32 (.wrap .i64 (.var 0))))), objs := [], n := 7 })
theorem sum59_0 : Row { cx27 with mg := true } 59 sum59_a0 sum59_r0 := .of (by kernel_rfl)
def sum59 : List (List V × R Leaf) := [(sum59_a0, sum59_r0)]
theorem sum59_ok : TabOk { cx27 with mg := true } LStart 7 4000 59 sum59 := .cons rfl sum59_0 <| .nil
noncomputable def cx59 : Cx := { cx with dm := dmH, sm := smOf [(59, sumPar LStart 7 sum59), (36, sumPar LStart 7 sum36), (61, sumPar LStart 7 sum61), (56, sumPar LStart 7 sum56), (78, sumPar LStart 7 sum78), (76, sumPar LStart 7 sum76), (74, sumPar LStart 7 sum74), (87, sumPar LStart 7 sum87), (86, sumPar LStart 7 sum86), (85, sumPar LStart 7 sum85), (84, sumPar LStart 7 sum84), (83, sumPar LStart 7 sum83), (80, sumPar LStart 7 sum80), (79, sumPar LStart 7 sum79), (33, sumPar LStart 7 sum33), (99, sumPar LStart 7 sum99), (98, sumPar LStart 7 sum98), (97, sumPar LStart 7 sum97), (96, sumPar LStart 7 sum96), (88, sumPar LStart 7 sum88), (37, sumPar LStart 7 sum37), (38, symU rowsHow 2), (91, symU [([], mkSarS)] 2), (90, symU [([], mkShrS)] 2), (89, symU [([], mkShlS)] 2), (95, symU [([], mkMulhuS)] 2), (82, symU [([], mkMulhsuS)] 2), (94, symU [([], mkMulhsuS)] 2), (81, symU [([], mkMulhS)] 2), (93, symU [([], mkMulhS)] 2), (92, symU [([], mkMulS)] 2), (27, sumPar LStart 7 sum27), (49, sumPar LStart 7 sum49), (48, sumPar LStart 7 sum48), (40, sumPar LStart 7 sum40), (45, sumPar LStart 7 sum45), (67, sumTab LStart 7 sum67), (66, sumTab LStart 7 sum66), (65, sumTab LStart 7 sum65), (44, sumTab LStart 7 sum44), (47, sumTab LStart 7 sum47), (13, sumTab LStart 7 sum13), (101, sumTab LStart 7 sum101), (104, sumTab LStart 7 sum104)] }
end Go.Proofs.YtcachlbljjpjdaaGreatDoor
