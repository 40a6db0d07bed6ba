/- What some functions leave, by runs. No condition. -/
import Derived.Test.YtkkfbmjelanjgaaDoorEDoor
namespace Go.Proofs.YtkkfbmjelanjgaaDoor
open Go Go.Proofs
set_option maxRecDepth 100000
def sum26_a0 : List V := [(.str (.slit [98, 101, 113, 32, 98, 110, 101, 32, 98, 108, 116, 32, 98, 103, 101, 32, 98, 108, 116, 117, 32, 98, 103, 101, 117]))]
def sum26_r0 : R Leaf := (.ok { v := (.slice 7 0 6 (.known 6)), objs := [(7, .cells [(.str (.slit [98, 101, 113])), (.str (.slit [98, 110, 101])), (.str (.slit [98, 108, 116])), (.str (.slit [98, 103, 101])), (.str (.slit [98, 108, 116, 117])), (.str (.slit [98, 103, 101, 117]))] 9 none)], n := 8 })
theorem sum26_0 : Row cxD 26 sum26_a0 sum26_r0 := .of (by kernel_rfl)
def sum26_a1 : List V := [(.str (.slit [108, 98, 32, 108, 104, 32, 108, 119, 32, 108, 98, 117, 32, 108, 104, 117]))]
def sum26_r1 : R Leaf := (.ok { v := (.slice 7 0 5 (.known 5)), objs := [(7, .cells [(.str (.slit [108, 98])), (.str (.slit [108, 104])), (.str (.slit [108, 119])), (.str (.slit [108, 98, 117])), (.str (.slit [108, 104, 117]))] 9 none)], n := 8 })
theorem sum26_1 : Row cxD 26 sum26_a1 sum26_r1 := .of (by kernel_rfl)
def sum26_a2 : List V := [(.str (.slit [115, 98, 32, 115, 104, 32, 115, 119]))]
def sum26_r2 : R Leaf := (.ok { v := (.slice 7 0 3 (.known 3)), objs := [(7, .cells [(.str (.slit [115, 98])), (.str (.slit [115, 104])), (.str (.slit [115, 119]))] 9 none)], n := 8 })
theorem sum26_2 : Row cxD 26 sum26_a2 sum26_r2 := .of (by kernel_rfl)
def sum26_a3 : List V := [(.str (.slit [97, 100, 100, 105, 32, 115, 108, 116, 105, 32, 115, 108, 116, 105, 117, 32, 120, 111, 114, 105, 32, 111, 114, 105, 32, 97, 110, 100, 105]))]
def sum26_r3 : R Leaf := (.ok { v := (.slice 7 0 6 (.known 6)), objs := [(7, .cells [(.str (.slit [97, 100, 100, 105])), (.str (.slit [115, 108, 116, 105])), (.str (.slit [115, 108, 116, 105, 117])), (.str (.slit [120, 111, 114, 105])), (.str (.slit [111, 114, 105])), (.str (.slit [97, 110, 100, 105]))] 9 none)], n := 8 })
theorem sum26_3 : Row cxD 26 sum26_a3 sum26_r3 := .of (by kernel_rfl)
def sum26_a4 : List V := [(.str (.slit [115, 108, 108, 105, 32, 115, 114, 108, 105]))]
def sum26_r4 : R Leaf := (.ok { v := (.slice 7 0 2 (.known 2)), objs := [(7, .cells [(.str (.slit [115, 108, 108, 105])), (.str (.slit [115, 114, 108, 105]))] 9 none)], n := 8 })
theorem sum26_4 : Row cxD 26 sum26_a4 sum26_r4 := .of (by kernel_rfl)
def sum26_a5 : List V := [(.str (.slit [115, 108, 108, 32, 115, 108, 116, 32, 115, 108, 116, 117, 32, 120, 111, 114, 32, 115, 114, 108]))]
def sum26_r5 : R Leaf := (.ok { v := (.slice 7 0 5 (.known 5)), objs := [(7, .cells [(.str (.slit [115, 108, 108])), (.str (.slit [115, 108, 116])), (.str (.slit [115, 108, 116, 117])), (.str (.slit [120, 111, 114])), (.str (.slit [115, 114, 108]))] 9 none)], n := 8 })
theorem sum26_5 : Row cxD 26 sum26_a5 sum26_r5 := .of (by kernel_rfl)
def sum26_a6 : List V := [(.str (.slit [111, 114, 32, 97, 110, 100]))]
def sum26_r6 : R Leaf := (.ok { v := (.slice 7 0 2 (.known 2)), objs := [(7, .cells [(.str (.slit [111, 114])), (.str (.slit [97, 110, 100]))] 9 none)], n := 8 })
theorem sum26_6 : Row cxD 26 sum26_a6 sum26_r6 := .of (by kernel_rfl)
def sum26_a7 : List V := [(.str (.slit [109, 117, 108, 32, 109, 117, 108, 104, 32, 109, 117, 108, 104, 115, 117, 32, 109, 117, 108, 104, 117, 32, 100, 105, 118, 32, 100, 105, 118, 117, 32, 114, 101, 109, 32, 114, 101, 109, 117]))]
def sum26_r7 : R Leaf := (.ok { v := (.slice 7 0 8 (.known 8)), objs := [(7, .cells [(.str (.slit [109, 117, 108])), (.str (.slit [109, 117, 108, 104])), (.str (.slit [109, 117, 108, 104, 115, 117])), (.str (.slit [109, 117, 108, 104, 117])), (.str (.slit [100, 105, 118])), (.str (.slit [100, 105, 118, 117])), (.str (.slit [114, 101, 109])), (.str (.slit [114, 101, 109, 117]))] 9 none)], n := 8 })
theorem sum26_7 : Row cxD 26 sum26_a7 sum26_r7 := .of (by kernel_rfl)
def sum26_a8 : List V := [(.str (.slit [108, 114]))]
def sum26_r8 : R Leaf := (.ok { v := (.slice 7 0 1 (.known 1)), objs := [(7, .cells [(.str (.slit [108, 114]))] 9 none)], n := 8 })
theorem sum26_8 : Row cxD 26 sum26_a8 sum26_r8 := .of (by kernel_rfl)
def sum26_a9 : List V := [(.str (.slit [115, 99, 32, 97, 109, 111, 115, 119, 97, 112, 32, 97, 109, 111, 97, 100, 100, 32, 97, 109, 111, 120, 111, 114, 32, 97, 109, 111, 97, 110, 100, 32, 97, 109, 111, 111, 114, 32, 97, 109, 111, 109, 105, 110, 32, 97, 109, 111, 109, 97, 120, 32, 97, 109, 111, 109, 105, 110, 117, 32, 97, 109, 111, 109, 97, 120, 117]))]
def sum26_r9 : R Leaf := (.ok { v := (.slice 7 0 10 (.known 10)), objs := [(7, .cells [(.str (.slit [115, 99])), (.str (.slit [97, 109, 111, 115, 119, 97, 112])), (.str (.slit [97, 109, 111, 97, 100, 100])), (.str (.slit [97, 109, 111, 120, 111, 114])), (.str (.slit [97, 109, 111, 97, 110, 100])), (.str (.slit [97, 109, 111, 111, 114])), (.str (.slit [97, 109, 111, 109, 105, 110])), (.str (.slit [97, 109, 111, 109, 97, 120])), (.str (.slit [97, 109, 111, 109, 105, 110, 117])), (.str (.slit [97, 109, 111, 109, 97, 120, 117]))] 9 none)], n := 8 })
theorem sum26_9 : Row cxD 26 sum26_a9 sum26_r9 := .of (by kernel_rfl)
def sum26 : List (List V × R Leaf) := [(sum26_a0, sum26_r0), (sum26_a1, sum26_r1), (sum26_a2, sum26_r2), (sum26_a3, sum26_r3), (sum26_a4, sum26_r4), (sum26_a5, sum26_r5), (sum26_a6, sum26_r6), (sum26_a7, sum26_r7), (sum26_a8, sum26_r8), (sum26_a9, sum26_r9)]
theorem sum26_ok : TabOk cxD LStart 7 4000 26 sum26 := .cons rfl sum26_0 <| .cons rfl sum26_1 <| .cons rfl sum26_2 <| .cons rfl sum26_3 <| .cons rfl sum26_4 <| .cons rfl sum26_5 <| .cons rfl sum26_6 <| .cons rfl sum26_7 <| .cons rfl sum26_8 <| .cons rfl sum26_9 <| .nil
noncomputable def cx26 : Cx := { cx with dm := dmH, sm := smOf [(26, sumTab LStart 7 sum26)] }
def sum23_a0 : List V := []
def sum23_r0 : R Leaf := (.ok { v := (.map 14), objs := [(21, .cells [(.int .i64 (.lit (4094)))] 2 none), (20, .cells [(.int .i64 (.lit (-4096)))] 2 none), (16, .cells [(.int .i64 (.lit (1048574)))] 2 none), (15, .cells [(.int .i64 (.lit (-1048576)))] 2 none), (8, .cells [(.int .i64 (.lit (2047)))] 2 none), (7, .cells [(.int .i64 (.lit (-2048)))] 2 none), (17, .cells [(.func (.func 65) [] [(.ptr 15 0), (.ptr 16 0)])] 36 none), (19, .cells [(.int .i64 (.lit (31)))] 2 none), (18, .cells [(.int .i64 (.lit (0)))] 2 none), (22, .cells [(.func (.func 65) [] [(.ptr 20 0), (.ptr 21 0)])] 36 none), (24, .cells [(.int .i64 (.lit (2047)))] 2 none), (23, .cells [(.int .i64 (.lit (-2048)))] 2 none), (26, .cells [(.int .i64 (.lit (255)))] 2 none), (25, .cells [(.int .i64 (.lit (0)))] 2 none), (14, .map [((.str (.slit [102, 101, 110, 99, 101])), (.agg [(.int .u32 (.lit (4027580415))), (.bool (.lit (0))), (.bool (.lit (0))), (.bool (.lit (0))), (.bool (.lit (0))), (.func (.func 65) [] [(.ptr 25 0), (.ptr 26 0)]), (.func (.func 59) [] []), (.func (.func 60) [] []), (.func (.func 36) [] [])])), ((.str (.slit [115])), (.agg [(.int .u32 (.lit (28799))), (.bool (.lit (0))), (.bool (.lit (1))), (.bool (.lit (1))), (.bool (.lit (0))), (.func (.func 65) [] [(.ptr 23 0), (.ptr 24 0)]), (.func (.func 56) [] []), (.func (.func 57) [] []), (.func (.func 58) [] [])])), ((.str (.slit [98])), (.agg [(.int .u32 (.lit (28799))), (.bool (.lit (0))), (.bool (.lit (1))), (.bool (.lit (1))), (.bool (.lit (0))), (.func (.func 71) [] [(.ptr 22 0)]), (.func (.func 53) [] []), (.func (.func 54) [] []), (.func (.func 55) [] [])])), ((.str (.slit [115, 104, 105, 102, 116])), (.agg [(.int .u32 (.lit (4261441663))), (.bool (.lit (1))), (.bool (.lit (1))), (.bool (.lit (0))), (.bool (.lit (0))), (.func (.func 65) [] [(.ptr 18 0), (.ptr 19 0)]), (.func (.func 51) [] []), (.func (.func 52) [] []), (.func (.func 33) [] [])])), ((.str (.slit [106])), (.agg [(.int .u32 (.lit (127))), (.bool (.lit (1))), (.bool (.lit (0))), (.bool (.lit (0))), (.bool (.lit (0))), (.func (.func 71) [] [(.ptr 17 0)]), (.func (.func 48) [] []), (.func (.func 49) [] []), (.func (.func 50) [] [])])), ((.str (.slit [99, 115, 114])), (.agg [(.int .u32 (.lit (4294963327))), (.bool (.lit (1))), (.bool (.lit (0))), (.bool (.lit (0))), (.bool (.lit (0))), (.func (.func 38) [] []), (.func (.func 28) [] []), (.func (.func 28) [] []), (.func (.func 62) [] [])])), ((.str (.slit [97])), (.agg [(.int .u32 (.lit (4160778367))), (.bool (.lit (1))), (.bool (.lit (1))), (.bool (.lit (1))), (.bool (.lit (1))), (.func (.func 38) [] []), (.func (.func 28) [] []), (.func (.func 28) [] []), (.func (.func 40) [] [])])), ((.str (.slit [108, 114])), (.agg [(.int .u32 (.lit (4193284223))), (.bool (.lit (1))), (.bool (.lit (1))), (.bool (.lit (0))), (.bool (.lit (1))), (.func (.func 38) [] []), (.func (.func 28) [] []), (.func (.func 28) [] []), (.func (.func 41) [] [])])), ((.str (.slit [97, 108, 108])), (.agg [(.int .u32 (.lit (4294967295))), (.bool (.lit (0))), (.bool (.lit (0))), (.bool (.lit (0))), (.bool (.lit (0))), (.func (.func 38) [] []), (.func (.func 28) [] []), (.func (.func 28) [] []), (.func (.func 61) [] [])])), ((.str (.slit [114])), (.agg [(.int .u32 (.lit (4261441663))), (.bool (.lit (1))), (.bool (.lit (1))), (.bool (.lit (1))), (.bool (.lit (0))), (.func (.func 38) [] []), (.func (.func 28) [] []), (.func (.func 28) [] []), (.func (.func 39) [] [])])), ((.str (.slit [108, 111, 97, 100])), (.agg [(.int .u32 (.lit (28799))), (.bool (.lit (1))), (.bool (.lit (1))), (.bool (.lit (0))), (.bool (.lit (0))), (.func (.func 65) [] [(.ptr 7 0), (.ptr 8 0)]), (.func (.func 32) [] []), (.func (.func 29) [] []), (.func (.func 37) [] [])])), ((.str (.slit [105])), (.agg [(.int .u32 (.lit (28799))), (.bool (.lit (1))), (.bool (.lit (1))), (.bool (.lit (0))), (.bool (.lit (0))), (.func (.func 65) [] [(.ptr 7 0), (.ptr 8 0)]), (.func (.func 32) [] []), (.func (.func 29) [] []), (.func (.func 33) [] [])])), ((.str (.slit [117])), (.agg [(.int .u32 (.lit (127))), (.bool (.lit (1))), (.bool (.lit (0))), (.bool (.lit (0))), (.bool (.lit (0))), (.func (.func 42) [] []), (.func (.func 43) [] []), (.func (.func 44) [] []), (.func (.func 45) [] [])]))])], n := 27 })
theorem sum23_0 : Row cx26 23 sum23_a0 sum23_r0 := .of (by kernel_rfl)
def sum23 : List (List V × R Leaf) := [(sum23_a0, sum23_r0)]
theorem sum23_ok : TabOk cx26 LStart 7 4000 23 sum23 := .cons rfl sum23_0 <| .nil
noncomputable def cx23 : Cx := { cx with dm := dmH, sm := smOf [(23, sumTab LStart 7 sum23), (26, sumTab LStart 7 sum26)] }
def sum16_a0 : List V := [(.int .i64 (.lit (0)))]
def sum16_r0 : R Leaf := (.ok { v := (.int .u32 (.lit (1))), objs := [], n := 7 })
theorem sum16_0 : Row cx23 16 sum16_a0 sum16_r0 := .of (by kernel_rfl)
def sum16_a1 : List V := [(.int .i64 (.lit (1)))]
def sum16_r1 : R Leaf := (.ok { v := (.int .u32 (.lit (2))), objs := [], n := 7 })
theorem sum16_1 : Row cx23 16 sum16_a1 sum16_r1 := .of (by kernel_rfl)
def sum16_a2 : List V := [(.int .i64 (.lit (2)))]
def sum16_r2 : R Leaf := (.ok { v := (.int .u32 (.lit (4))), objs := [], n := 7 })
theorem sum16_2 : Row cx23 16 sum16_a2 sum16_r2 := .of (by kernel_rfl)
def sum16_a3 : List V := [(.int .i64 (.lit (3)))]
def sum16_r3 : R Leaf := (.ok { v := (.int .u32 (.lit (8))), objs := [], n := 7 })
theorem sum16_3 : Row cx23 16 sum16_a3 sum16_r3 := .of (by kernel_rfl)
def sum16_a4 : List V := [(.int .i64 (.lit (4)))]
def sum16_r4 : R Leaf := (.ok { v := (.int .u32 (.lit (16))), objs := [], n := 7 })
theorem sum16_4 : Row cx23 16 sum16_a4 sum16_r4 := .of (by kernel_rfl)
def sum16_a5 : List V := [(.int .i64 (.lit (5)))]
def sum16_r5 : R Leaf := (.ok { v := (.int .u32 (.lit (32))), objs := [], n := 7 })
theorem sum16_5 : Row cx23 16 sum16_a5 sum16_r5 := .of (by kernel_rfl)
def sum16_a6 : List V := [(.int .i64 (.lit (6)))]
def sum16_r6 : R Leaf := (.ok { v := (.int .u32 (.lit (64))), objs := [], n := 7 })
theorem sum16_6 : Row cx23 16 sum16_a6 sum16_r6 := .of (by kernel_rfl)
def sum16_a7 : List V := [(.int .i64 (.lit (7)))]
def sum16_r7 : R Leaf := (.ok { v := (.int .u32 (.lit (128))), objs := [], n := 7 })
theorem sum16_7 : Row cx23 16 sum16_a7 sum16_r7 := .of (by kernel_rfl)
def sum16_a8 : List V := [(.int .i64 (.lit (8)))]
def sum16_r8 : R Leaf := (.ok { v := (.int .u32 (.lit (256))), objs := [], n := 7 })
theorem sum16_8 : Row cx23 16 sum16_a8 sum16_r8 := .of (by kernel_rfl)
def sum16_a9 : List V := [(.int .i64 (.lit (9)))]
def sum16_r9 : R Leaf := (.ok { v := (.int .u32 (.lit (512))), objs := [], n := 7 })
theorem sum16_9 : Row cx23 16 sum16_a9 sum16_r9 := .of (by kernel_rfl)
def sum16_a10 : List V := [(.int .i64 (.lit (10)))]
def sum16_r10 : R Leaf := (.ok { v := (.int .u32 (.lit (1024))), objs := [], n := 7 })
theorem sum16_10 : Row cx23 16 sum16_a10 sum16_r10 := .of (by kernel_rfl)
def sum16_a11 : List V := [(.int .i64 (.lit (11)))]
def sum16_r11 : R Leaf := (.ok { v := (.int .u32 (.lit (2048))), objs := [], n := 7 })
theorem sum16_11 : Row cx23 16 sum16_a11 sum16_r11 := .of (by kernel_rfl)
def sum16_a12 : List V := [(.int .i64 (.lit (12)))]
def sum16_r12 : R Leaf := (.ok { v := (.int .u32 (.lit (4096))), objs := [], n := 7 })
theorem sum16_12 : Row cx23 16 sum16_a12 sum16_r12 := .of (by kernel_rfl)
def sum16_a13 : List V := [(.int .i64 (.lit (13)))]
def sum16_r13 : R Leaf := (.ok { v := (.int .u32 (.lit (8192))), objs := [], n := 7 })
theorem sum16_13 : Row cx23 16 sum16_a13 sum16_r13 := .of (by kernel_rfl)
def sum16_a14 : List V := [(.int .i64 (.lit (14)))]
def sum16_r14 : R Leaf := (.ok { v := (.int .u32 (.lit (16384))), objs := [], n := 7 })
theorem sum16_14 : Row cx23 16 sum16_a14 sum16_r14 := .of (by kernel_rfl)
def sum16_a15 : List V := [(.int .i64 (.lit (15)))]
def sum16_r15 : R Leaf := (.ok { v := (.int .u32 (.lit (32768))), objs := [], n := 7 })
theorem sum16_15 : Row cx23 16 sum16_a15 sum16_r15 := .of (by kernel_rfl)
def sum16_a16 : List V := [(.int .i64 (.lit (16)))]
def sum16_r16 : R Leaf := (.ok { v := (.int .u32 (.lit (65536))), objs := [], n := 7 })
theorem sum16_16 : Row cx23 16 sum16_a16 sum16_r16 := .of (by kernel_rfl)
def sum16_a17 : List V := [(.int .i64 (.lit (17)))]
def sum16_r17 : R Leaf := (.ok { v := (.int .u32 (.lit (131072))), objs := [], n := 7 })
theorem sum16_17 : Row cx23 16 sum16_a17 sum16_r17 := .of (by kernel_rfl)
def sum16_a18 : List V := [(.int .i64 (.lit (18)))]
def sum16_r18 : R Leaf := (.ok { v := (.int .u32 (.lit (262144))), objs := [], n := 7 })
theorem sum16_18 : Row cx23 16 sum16_a18 sum16_r18 := .of (by kernel_rfl)
def sum16_a19 : List V := [(.int .i64 (.lit (19)))]
def sum16_r19 : R Leaf := (.ok { v := (.int .u32 (.lit (524288))), objs := [], n := 7 })
theorem sum16_19 : Row cx23 16 sum16_a19 sum16_r19 := .of (by kernel_rfl)
def sum16_a20 : List V := [(.int .i64 (.lit (20)))]
def sum16_r20 : R Leaf := (.ok { v := (.int .u32 (.lit (1048576))), objs := [], n := 7 })
theorem sum16_20 : Row cx23 16 sum16_a20 sum16_r20 := .of (by kernel_rfl)
def sum16_a21 : List V := [(.int .i64 (.lit (21)))]
def sum16_r21 : R Leaf := (.ok { v := (.int .u32 (.lit (2097152))), objs := [], n := 7 })
theorem sum16_21 : Row cx23 16 sum16_a21 sum16_r21 := .of (by kernel_rfl)
def sum16_a22 : List V := [(.int .i64 (.lit (22)))]
def sum16_r22 : R Leaf := (.ok { v := (.int .u32 (.lit (4194304))), objs := [], n := 7 })
theorem sum16_22 : Row cx23 16 sum16_a22 sum16_r22 := .of (by kernel_rfl)
def sum16_a23 : List V := [(.int .i64 (.lit (23)))]
def sum16_r23 : R Leaf := (.ok { v := (.int .u32 (.lit (8388608))), objs := [], n := 7 })
theorem sum16_23 : Row cx23 16 sum16_a23 sum16_r23 := .of (by kernel_rfl)
def sum16_a24 : List V := [(.int .i64 (.lit (24)))]
def sum16_r24 : R Leaf := (.ok { v := (.int .u32 (.lit (16777216))), objs := [], n := 7 })
theorem sum16_24 : Row cx23 16 sum16_a24 sum16_r24 := .of (by kernel_rfl)
def sum16_a25 : List V := [(.int .i64 (.lit (25)))]
def sum16_r25 : R Leaf := (.ok { v := (.int .u32 (.lit (33554432))), objs := [], n := 7 })
theorem sum16_25 : Row cx23 16 sum16_a25 sum16_r25 := .of (by kernel_rfl)
def sum16_a26 : List V := [(.int .i64 (.lit (26)))]
def sum16_r26 : R Leaf := (.ok { v := (.int .u32 (.lit (67108864))), objs := [], n := 7 })
theorem sum16_26 : Row cx23 16 sum16_a26 sum16_r26 := .of (by kernel_rfl)
def sum16_a27 : List V := [(.int .i64 (.lit (27)))]
def sum16_r27 : R Leaf := (.ok { v := (.int .u32 (.lit (134217728))), objs := [], n := 7 })
theorem sum16_27 : Row cx23 16 sum16_a27 sum16_r27 := .of (by kernel_rfl)
def sum16_a28 : List V := [(.int .i64 (.lit (28)))]
def sum16_r28 : R Leaf := (.ok { v := (.int .u32 (.lit (268435456))), objs := [], n := 7 })
theorem sum16_28 : Row cx23 16 sum16_a28 sum16_r28 := .of (by kernel_rfl)
def sum16_a29 : List V := [(.int .i64 (.lit (29)))]
def sum16_r29 : R Leaf := (.ok { v := (.int .u32 (.lit (536870912))), objs := [], n := 7 })
theorem sum16_29 : Row cx23 16 sum16_a29 sum16_r29 := .of (by kernel_rfl)
def sum16_a30 : List V := [(.int .i64 (.lit (30)))]
def sum16_r30 : R Leaf := (.ok { v := (.int .u32 (.lit (1073741824))), objs := [], n := 7 })
theorem sum16_30 : Row cx23 16 sum16_a30 sum16_r30 := .of (by kernel_rfl)
def sum16_a31 : List V := [(.int .i64 (.lit (31)))]
def sum16_r31 : R Leaf := (.ok { v := (.int .u32 (.lit (2147483648))), objs := [], n := 7 })
theorem sum16_31 : Row cx23 16 sum16_a31 sum16_r31 := .of (by kernel_rfl)
def sum16 : List (List V × R Leaf) := [(sum16_a0, sum16_r0), (sum16_a1, sum16_r1), (sum16_a2, sum16_r2), (sum16_a3, sum16_r3), (sum16_a4, sum16_r4), (sum16_a5, sum16_r5), (sum16_a6, sum16_r6), (sum16_a7, sum16_r7), (sum16_a8, sum16_r8), (sum16_a9, sum16_r9), (sum16_a10, sum16_r10), (sum16_a11, sum16_r11), (sum16_a12, sum16_r12), (sum16_a13, sum16_r13), (sum16_a14, sum16_r14), (sum16_a15, sum16_r15), (sum16_a16, sum16_r16), (sum16_a17, sum16_r17), (sum16_a18, sum16_r18), (sum16_a19, sum16_r19), (sum16_a20, sum16_r20), (sum16_a21, sum16_r21), (sum16_a22, sum16_r22), (sum16_a23, sum16_r23), (sum16_a24, sum16_r24), (sum16_a25, sum16_r25), (sum16_a26, sum16_r26), (sum16_a27, sum16_r27), (sum16_a28, sum16_r28), (sum16_a29, sum16_r29), (sum16_a30, sum16_r30), (sum16_a31, sum16_r31)]
theorem sum16_ok : TabOk cx23 LStart 7 4000 16 sum16 := .cons rfl sum16_0 <| .cons rfl sum16_1 <| .cons rfl sum16_2 <| .cons rfl sum16_3 <| .cons rfl sum16_4 <| .cons rfl sum16_5 <| .cons rfl sum16_6 <| .cons rfl sum16_7 <| .cons rfl sum16_8 <| .cons rfl sum16_9 <| .cons rfl sum16_10 <| .cons rfl sum16_11 <| .cons rfl sum16_12 <| .cons rfl sum16_13 <| .cons rfl sum16_14 <| .cons rfl sum16_15 <| .cons rfl sum16_16 <| .cons rfl sum16_17 <| .cons rfl sum16_18 <| .cons rfl sum16_19 <| .cons rfl sum16_20 <| .cons rfl sum16_21 <| .cons rfl sum16_22 <| .cons rfl sum16_23 <| .cons rfl sum16_24 <| .cons rfl sum16_25 <| .cons rfl sum16_26 <| .cons rfl sum16_27 <| .cons rfl sum16_28 <| .cons rfl sum16_29 <| .cons rfl sum16_30 <| .cons rfl sum16_31 <| .nil
noncomputable def cx16 : Cx := { cx with dm := dmH, sm := smOf [(16, sumTab LStart 7 sum16), (23, sumTab LStart 7 sum23), (26, sumTab LStart 7 sum26)] }
def sum11_a0 : List V := [(.int .i64 (.lit (1)))]
def sum11_r0 : R Leaf := (.ok { v := (.int .u8 (.lit (117))), objs := [], n := 7 })
theorem sum11_0 : Row cx16 11 sum11_a0 sum11_r0 := .of (by kernel_rfl)
def sum11_a1 : List V := [(.int .i64 (.lit (2)))]
def sum11_r1 : R Leaf := (.ok { v := (.int .u8 (.lit (117))), objs := [], n := 7 })
theorem sum11_1 : Row cx16 11 sum11_a1 sum11_r1 := .of (by kernel_rfl)
def sum11_a2 : List V := [(.int .i64 (.lit (3)))]
def sum11_r2 : R Leaf := (.ok { v := (.int .u8 (.lit (106))), objs := [], n := 7 })
theorem sum11_2 : Row cx16 11 sum11_a2 sum11_r2 := .of (by kernel_rfl)
def sum11_a3 : List V := [(.int .i64 (.lit (4)))]
def sum11_r3 : R Leaf := (.ok { v := (.int .u8 (.lit (108))), objs := [], n := 7 })
theorem sum11_3 : Row cx16 11 sum11_a3 sum11_r3 := .of (by kernel_rfl)
def sum11_a4 : List V := [(.int .i64 (.lit (5)))]
def sum11_r4 : R Leaf := (.ok { v := (.int .u8 (.lit (98))), objs := [], n := 7 })
theorem sum11_4 : Row cx16 11 sum11_a4 sum11_r4 := .of (by kernel_rfl)
def sum11_a5 : List V := [(.int .i64 (.lit (6)))]
def sum11_r5 : R Leaf := (.ok { v := (.int .u8 (.lit (98))), objs := [], n := 7 })
theorem sum11_5 : Row cx16 11 sum11_a5 sum11_r5 := .of (by kernel_rfl)
def sum11_a6 : List V := [(.int .i64 (.lit (7)))]
def sum11_r6 : R Leaf := (.ok { v := (.int .u8 (.lit (98))), objs := [], n := 7 })
theorem sum11_6 : Row cx16 11 sum11_a6 sum11_r6 := .of (by kernel_rfl)
def sum11_a7 : List V := [(.int .i64 (.lit (8)))]
def sum11_r7 : R Leaf := (.ok { v := (.int .u8 (.lit (98))), objs := [], n := 7 })
theorem sum11_7 : Row cx16 11 sum11_a7 sum11_r7 := .of (by kernel_rfl)
def sum11_a8 : List V := [(.int .i64 (.lit (9)))]
def sum11_r8 : R Leaf := (.ok { v := (.int .u8 (.lit (98))), objs := [], n := 7 })
theorem sum11_8 : Row cx16 11 sum11_a8 sum11_r8 := .of (by kernel_rfl)
def sum11_a9 : List V := [(.int .i64 (.lit (10)))]
def sum11_r9 : R Leaf := (.ok { v := (.int .u8 (.lit (98))), objs := [], n := 7 })
theorem sum11_9 : Row cx16 11 sum11_a9 sum11_r9 := .of (by kernel_rfl)
def sum11_a10 : List V := [(.int .i64 (.lit (11)))]
def sum11_r10 : R Leaf := (.ok { v := (.int .u8 (.lit (108))), objs := [], n := 7 })
theorem sum11_10 : Row cx16 11 sum11_a10 sum11_r10 := .of (by kernel_rfl)
def sum11_a11 : List V := [(.int .i64 (.lit (12)))]
def sum11_r11 : R Leaf := (.ok { v := (.int .u8 (.lit (108))), objs := [], n := 7 })
theorem sum11_11 : Row cx16 11 sum11_a11 sum11_r11 := .of (by kernel_rfl)
def sum11_a12 : List V := [(.int .i64 (.lit (13)))]
def sum11_r12 : R Leaf := (.ok { v := (.int .u8 (.lit (108))), objs := [], n := 7 })
theorem sum11_12 : Row cx16 11 sum11_a12 sum11_r12 := .of (by kernel_rfl)
def sum11_a13 : List V := [(.int .i64 (.lit (14)))]
def sum11_r13 : R Leaf := (.ok { v := (.int .u8 (.lit (108))), objs := [], n := 7 })
theorem sum11_13 : Row cx16 11 sum11_a13 sum11_r13 := .of (by kernel_rfl)
def sum11_a14 : List V := [(.int .i64 (.lit (15)))]
def sum11_r14 : R Leaf := (.ok { v := (.int .u8 (.lit (108))), objs := [], n := 7 })
theorem sum11_14 : Row cx16 11 sum11_a14 sum11_r14 := .of (by kernel_rfl)
def sum11_a15 : List V := [(.int .i64 (.lit (16)))]
def sum11_r15 : R Leaf := (.ok { v := (.int .u8 (.lit (115))), objs := [], n := 7 })
theorem sum11_15 : Row cx16 11 sum11_a15 sum11_r15 := .of (by kernel_rfl)
def sum11_a16 : List V := [(.int .i64 (.lit (17)))]
def sum11_r16 : R Leaf := (.ok { v := (.int .u8 (.lit (115))), objs := [], n := 7 })
theorem sum11_16 : Row cx16 11 sum11_a16 sum11_r16 := .of (by kernel_rfl)
def sum11_a17 : List V := [(.int .i64 (.lit (18)))]
def sum11_r17 : R Leaf := (.ok { v := (.int .u8 (.lit (115))), objs := [], n := 7 })
theorem sum11_17 : Row cx16 11 sum11_a17 sum11_r17 := .of (by kernel_rfl)
def sum11_a18 : List V := [(.int .i64 (.lit (19)))]
def sum11_r18 : R Leaf := (.ok { v := (.int .u8 (.lit (105))), objs := [], n := 7 })
theorem sum11_18 : Row cx16 11 sum11_a18 sum11_r18 := .of (by kernel_rfl)
def sum11_a19 : List V := [(.int .i64 (.lit (20)))]
def sum11_r19 : R Leaf := (.ok { v := (.int .u8 (.lit (105))), objs := [], n := 7 })
theorem sum11_19 : Row cx16 11 sum11_a19 sum11_r19 := .of (by kernel_rfl)
def sum11_a20 : List V := [(.int .i64 (.lit (21)))]
def sum11_r20 : R Leaf := (.ok { v := (.int .u8 (.lit (105))), objs := [], n := 7 })
theorem sum11_20 : Row cx16 11 sum11_a20 sum11_r20 := .of (by kernel_rfl)
def sum11_a21 : List V := [(.int .i64 (.lit (22)))]
def sum11_r21 : R Leaf := (.ok { v := (.int .u8 (.lit (105))), objs := [], n := 7 })
theorem sum11_21 : Row cx16 11 sum11_a21 sum11_r21 := .of (by kernel_rfl)
def sum11_a22 : List V := [(.int .i64 (.lit (23)))]
def sum11_r22 : R Leaf := (.ok { v := (.int .u8 (.lit (105))), objs := [], n := 7 })
theorem sum11_22 : Row cx16 11 sum11_a22 sum11_r22 := .of (by kernel_rfl)
def sum11_a23 : List V := [(.int .i64 (.lit (24)))]
def sum11_r23 : R Leaf := (.ok { v := (.int .u8 (.lit (105))), objs := [], n := 7 })
theorem sum11_23 : Row cx16 11 sum11_a23 sum11_r23 := .of (by kernel_rfl)
def sum11_a24 : List V := [(.int .i64 (.lit (25)))]
def sum11_r24 : R Leaf := (.ok { v := (.int .u8 (.lit (104))), objs := [], n := 7 })
theorem sum11_24 : Row cx16 11 sum11_a24 sum11_r24 := .of (by kernel_rfl)
def sum11_a25 : List V := [(.int .i64 (.lit (26)))]
def sum11_r25 : R Leaf := (.ok { v := (.int .u8 (.lit (104))), objs := [], n := 7 })
theorem sum11_25 : Row cx16 11 sum11_a25 sum11_r25 := .of (by kernel_rfl)
def sum11_a26 : List V := [(.int .i64 (.lit (27)))]
def sum11_r26 : R Leaf := (.ok { v := (.int .u8 (.lit (104))), objs := [], n := 7 })
theorem sum11_26 : Row cx16 11 sum11_a26 sum11_r26 := .of (by kernel_rfl)
def sum11_a27 : List V := [(.int .i64 (.lit (28)))]
def sum11_r27 : R Leaf := (.ok { v := (.int .u8 (.lit (114))), objs := [], n := 7 })
theorem sum11_27 : Row cx16 11 sum11_a27 sum11_r27 := .of (by kernel_rfl)
def sum11_a28 : List V := [(.int .i64 (.lit (29)))]
def sum11_r28 : R Leaf := (.ok { v := (.int .u8 (.lit (114))), objs := [], n := 7 })
theorem sum11_28 : Row cx16 11 sum11_a28 sum11_r28 := .of (by kernel_rfl)
def sum11_a29 : List V := [(.int .i64 (.lit (30)))]
def sum11_r29 : R Leaf := (.ok { v := (.int .u8 (.lit (114))), objs := [], n := 7 })
theorem sum11_29 : Row cx16 11 sum11_a29 sum11_r29 := .of (by kernel_rfl)
def sum11_a30 : List V := [(.int .i64 (.lit (31)))]
def sum11_r30 : R Leaf := (.ok { v := (.int .u8 (.lit (114))), objs := [], n := 7 })
theorem sum11_30 : Row cx16 11 sum11_a30 sum11_r30 := .of (by kernel_rfl)
def sum11_a31 : List V := [(.int .i64 (.lit (32)))]
def sum11_r31 : R Leaf := (.ok { v := (.int .u8 (.lit (114))), objs := [], n := 7 })
theorem sum11_31 : Row cx16 11 sum11_a31 sum11_r31 := .of (by kernel_rfl)
def sum11_a32 : List V := [(.int .i64 (.lit (33)))]
def sum11_r32 : R Leaf := (.ok { v := (.int .u8 (.lit (114))), objs := [], n := 7 })
theorem sum11_32 : Row cx16 11 sum11_a32 sum11_r32 := .of (by kernel_rfl)
def sum11_a33 : List V := [(.int .i64 (.lit (34)))]
def sum11_r33 : R Leaf := (.ok { v := (.int .u8 (.lit (114))), objs := [], n := 7 })
theorem sum11_33 : Row cx16 11 sum11_a33 sum11_r33 := .of (by kernel_rfl)
def sum11_a34 : List V := [(.int .i64 (.lit (35)))]
def sum11_r34 : R Leaf := (.ok { v := (.int .u8 (.lit (114))), objs := [], n := 7 })
theorem sum11_34 : Row cx16 11 sum11_a34 sum11_r34 := .of (by kernel_rfl)
def sum11_a35 : List V := [(.int .i64 (.lit (36)))]
def sum11_r35 : R Leaf := (.ok { v := (.int .u8 (.lit (114))), objs := [], n := 7 })
theorem sum11_35 : Row cx16 11 sum11_a35 sum11_r35 := .of (by kernel_rfl)
def sum11_a36 : List V := [(.int .i64 (.lit (37)))]
def sum11_r36 : R Leaf := (.ok { v := (.int .u8 (.lit (114))), objs := [], n := 7 })
theorem sum11_36 : Row cx16 11 sum11_a36 sum11_r36 := .of (by kernel_rfl)
def sum11_a37 : List V := [(.int .i64 (.lit (38)))]
def sum11_r37 : R Leaf := (.ok { v := (.int .u8 (.lit (102))), objs := [], n := 7 })
theorem sum11_37 : Row cx16 11 sum11_a37 sum11_r37 := .of (by kernel_rfl)
def sum11_a38 : List V := [(.int .i64 (.lit (39)))]
def sum11_r38 : R Leaf := (.ok { v := (.int .u8 (.lit (101))), objs := [], n := 7 })
theorem sum11_38 : Row cx16 11 sum11_a38 sum11_r38 := .of (by kernel_rfl)
def sum11_a39 : List V := [(.int .i64 (.lit (40)))]
def sum11_r39 : R Leaf := (.ok { v := (.int .u8 (.lit (114))), objs := [], n := 7 })
theorem sum11_39 : Row cx16 11 sum11_a39 sum11_r39 := .of (by kernel_rfl)
def sum11_a40 : List V := [(.int .i64 (.lit (41)))]
def sum11_r40 : R Leaf := (.ok { v := (.int .u8 (.lit (114))), objs := [], n := 7 })
theorem sum11_40 : Row cx16 11 sum11_a40 sum11_r40 := .of (by kernel_rfl)
def sum11_a41 : List V := [(.int .i64 (.lit (42)))]
def sum11_r41 : R Leaf := (.ok { v := (.int .u8 (.lit (114))), objs := [], n := 7 })
theorem sum11_41 : Row cx16 11 sum11_a41 sum11_r41 := .of (by kernel_rfl)
def sum11_a42 : List V := [(.int .i64 (.lit (43)))]
def sum11_r42 : R Leaf := (.ok { v := (.int .u8 (.lit (114))), objs := [], n := 7 })
theorem sum11_42 : Row cx16 11 sum11_a42 sum11_r42 := .of (by kernel_rfl)
def sum11_a43 : List V := [(.int .i64 (.lit (44)))]
def sum11_r43 : R Leaf := (.ok { v := (.int .u8 (.lit (114))), objs := [], n := 7 })
theorem sum11_43 : Row cx16 11 sum11_a43 sum11_r43 := .of (by kernel_rfl)
def sum11_a44 : List V := [(.int .i64 (.lit (45)))]
def sum11_r44 : R Leaf := (.ok { v := (.int .u8 (.lit (114))), objs := [], n := 7 })
theorem sum11_44 : Row cx16 11 sum11_a44 sum11_r44 := .of (by kernel_rfl)
def sum11_a45 : List V := [(.int .i64 (.lit (46)))]
def sum11_r45 : R Leaf := (.ok { v := (.int .u8 (.lit (114))), objs := [], n := 7 })
theorem sum11_45 : Row cx16 11 sum11_a45 sum11_r45 := .of (by kernel_rfl)
def sum11_a46 : List V := [(.int .i64 (.lit (47)))]
def sum11_r46 : R Leaf := (.ok { v := (.int .u8 (.lit (114))), objs := [], n := 7 })
theorem sum11_46 : Row cx16 11 sum11_a46 sum11_r46 := .of (by kernel_rfl)
def sum11_a47 : List V := [(.int .i64 (.lit (48)))]
def sum11_r47 : R Leaf := (.ok { v := (.int .u8 (.lit (113))), objs := [], n := 7 })
theorem sum11_47 : Row cx16 11 sum11_a47 sum11_r47 := .of (by kernel_rfl)
def sum11_a48 : List V := [(.int .i64 (.lit (49)))]
def sum11_r48 : R Leaf := (.ok { v := (.int .u8 (.lit (97))), objs := [], n := 7 })
theorem sum11_48 : Row cx16 11 sum11_a48 sum11_r48 := .of (by kernel_rfl)
def sum11_a49 : List V := [(.int .i64 (.lit (50)))]
def sum11_r49 : R Leaf := (.ok { v := (.int .u8 (.lit (97))), objs := [], n := 7 })
theorem sum11_49 : Row cx16 11 sum11_a49 sum11_r49 := .of (by kernel_rfl)
def sum11_a50 : List V := [(.int .i64 (.lit (51)))]
def sum11_r50 : R Leaf := (.ok { v := (.int .u8 (.lit (97))), objs := [], n := 7 })
theorem sum11_50 : Row cx16 11 sum11_a50 sum11_r50 := .of (by kernel_rfl)
def sum11_a51 : List V := [(.int .i64 (.lit (52)))]
def sum11_r51 : R Leaf := (.ok { v := (.int .u8 (.lit (97))), objs := [], n := 7 })
theorem sum11_51 : Row cx16 11 sum11_a51 sum11_r51 := .of (by kernel_rfl)
def sum11_a52 : List V := [(.int .i64 (.lit (53)))]
def sum11_r52 : R Leaf := (.ok { v := (.int .u8 (.lit (97))), objs := [], n := 7 })
theorem sum11_52 : Row cx16 11 sum11_a52 sum11_r52 := .of (by kernel_rfl)
def sum11_a53 : List V := [(.int .i64 (.lit (54)))]
def sum11_r53 : R Leaf := (.ok { v := (.int .u8 (.lit (97))), objs := [], n := 7 })
theorem sum11_53 : Row cx16 11 sum11_a53 sum11_r53 := .of (by kernel_rfl)
def sum11_a54 : List V := [(.int .i64 (.lit (55)))]
def sum11_r54 : R Leaf := (.ok { v := (.int .u8 (.lit (97))), objs := [], n := 7 })
theorem sum11_54 : Row cx16 11 sum11_a54 sum11_r54 := .of (by kernel_rfl)
def sum11_a55 : List V := [(.int .i64 (.lit (56)))]
def sum11_r55 : R Leaf := (.ok { v := (.int .u8 (.lit (97))), objs := [], n := 7 })
theorem sum11_55 : Row cx16 11 sum11_a55 sum11_r55 := .of (by kernel_rfl)
def sum11_a56 : List V := [(.int .i64 (.lit (57)))]
def sum11_r56 : R Leaf := (.ok { v := (.int .u8 (.lit (97))), objs := [], n := 7 })
theorem sum11_56 : Row cx16 11 sum11_a56 sum11_r56 := .of (by kernel_rfl)
def sum11_a57 : List V := [(.int .i64 (.lit (58)))]
def sum11_r57 : R Leaf := (.ok { v := (.int .u8 (.lit (97))), objs := [], n := 7 })
theorem sum11_57 : Row cx16 11 sum11_a57 sum11_r57 := .of (by kernel_rfl)
def sum11_a58 : List V := [(.int .i64 (.lit (59)))]
def sum11_r58 : R Leaf := (.ok { v := (.int .u8 (.lit (99))), objs := [], n := 7 })
theorem sum11_58 : Row cx16 11 sum11_a58 sum11_r58 := .of (by kernel_rfl)
def sum11 : List (List V × R Leaf) := [(sum11_a0, sum11_r0), (sum11_a1, sum11_r1), (sum11_a2, sum11_r2), (sum11_a3, sum11_r3), (sum11_a4, sum11_r4), (sum11_a5, sum11_r5), (sum11_a6, sum11_r6), (sum11_a7, sum11_r7), (sum11_a8, sum11_r8), (sum11_a9, sum11_r9), (sum11_a10, sum11_r10), (sum11_a11, sum11_r11), (sum11_a12, sum11_r12), (sum11_a13, sum11_r13), (sum11_a14, sum11_r14), (sum11_a15, sum11_r15), (sum11_a16, sum11_r16), (sum11_a17, sum11_r17), (sum11_a18, sum11_r18), (sum11_a19, sum11_r19), (sum11_a20, sum11_r20), (sum11_a21, sum11_r21), (sum11_a22, sum11_r22), (sum11_a23, sum11_r23), (sum11_a24, sum11_r24), (sum11_a25, sum11_r25), (sum11_a26, sum11_r26), (sum11_a27, sum11_r27), (sum11_a28, sum11_r28), (sum11_a29, sum11_r29), (sum11_a30, sum11_r30), (sum11_a31, sum11_r31), (sum11_a32, sum11_r32), (sum11_a33, sum11_r33), (sum11_a34, sum11_r34), (sum11_a35, sum11_r35), (sum11_a36, sum11_r36), (sum11_a37, sum11_r37), (sum11_a38, sum11_r38), (sum11_a39, sum11_r39), (sum11_a40, sum11_r40), (sum11_a41, sum11_r41), (sum11_a42, sum11_r42), (sum11_a43, sum11_r43), (sum11_a44, sum11_r44), (sum11_a45, sum11_r45), (sum11_a46, sum11_r46), (sum11_a47, sum11_r47), (sum11_a48, sum11_r48), (sum11_a49, sum11_r49), (sum11_a50, sum11_r50), (sum11_a51, sum11_r51), (sum11_a52, sum11_r52), (sum11_a53, sum11_r53), (sum11_a54, sum11_r54), (sum11_a55, sum11_r55), (sum11_a56, sum11_r56), (sum11_a57, sum11_r57), (sum11_a58, sum11_r58)]
theorem sum11_ok : TabOk cx16 LStart 7 4000 11 sum11 := .cons rfl sum11_0 <| .cons rfl sum11_1 <| .cons rfl sum11_2 <| .cons rfl sum11_3 <| .cons rfl sum11_4 <| .cons rfl sum11_5 <| .cons rfl sum11_6 <| .cons rfl sum11_7 <| .cons rfl sum11_8 <| .cons rfl sum11_9 <| .cons rfl sum11_10 <| .cons rfl sum11_11 <| .cons rfl sum11_12 <| .cons rfl sum11_13 <| .cons rfl sum11_14 <| .cons rfl sum11_15 <| .cons rfl sum11_16 <| .cons rfl sum11_17 <| .cons rfl sum11_18 <| .cons rfl sum11_19 <| .cons rfl sum11_20 <| .cons rfl sum11_21 <| .cons rfl sum11_22 <| .cons rfl sum11_23 <| .cons rfl sum11_24 <| .cons rfl sum11_25 <| .cons rfl sum11_26 <| .cons rfl sum11_27 <| .cons rfl sum11_28 <| .cons rfl sum11_29 <| .cons rfl sum11_30 <| .cons rfl sum11_31 <| .cons rfl sum11_32 <| .cons rfl sum11_33 <| .cons rfl sum11_34 <| .cons rfl sum11_35 <| .cons rfl sum11_36 <| .cons rfl sum11_37 <| .cons rfl sum11_38 <| .cons rfl sum11_39 <| .cons rfl sum11_40 <| .cons rfl sum11_41 <| .cons rfl sum11_42 <| .cons rfl sum11_43 <| .cons rfl sum11_44 <| .cons rfl sum11_45 <| .cons rfl sum11_46 <| .cons rfl sum11_47 <| .cons rfl sum11_48 <| .cons rfl sum11_49 <| .cons rfl sum11_50 <| .cons rfl sum11_51 <| .cons rfl sum11_52 <| .cons rfl sum11_53 <| .cons rfl sum11_54 <| .cons rfl sum11_55 <| .cons rfl sum11_56 <| .cons rfl sum11_57 <| .cons rfl sum11_58 <| .nil
noncomputable def cx11 : Cx := { cx with dm := dmH, sm := smOf [(11, sumTab LStart 7 sum11), (16, sumTab LStart 7 sum16), (23, sumTab LStart 7 sum23), (26, sumTab LStart 7 sum26)] }
def sum13_a0 : List V := [(.int .i64 (.lit (1)))]
def sum13_r0 : R Leaf := (.ok { v := (.int .u32 (.lit (55))), objs := [], n := 7 })
theorem sum13_0 : Row cx11 13 sum13_a0 sum13_r0 := .of (by kernel_rfl)
def sum13_a1 : List V := [(.int .i64 (.lit (2)))]
def sum13_r1 : R Leaf := (.ok { v := (.int .u32 (.lit (23))), objs := [], n := 7 })
theorem sum13_1 : Row cx11 13 sum13_a1 sum13_r1 := .of (by kernel_rfl)
def sum13_a2 : List V := [(.int .i64 (.lit (3)))]
def sum13_r2 : R Leaf := (.ok { v := (.int .u32 (.lit (111))), objs := [], n := 7 })
theorem sum13_2 : Row cx11 13 sum13_a2 sum13_r2 := .of (by kernel_rfl)
def sum13_a3 : List V := [(.int .i64 (.lit (4)))]
def sum13_r3 : R Leaf := (.ok { v := (.int .u32 (.lit (103))), objs := [], n := 7 })
theorem sum13_3 : Row cx11 13 sum13_a3 sum13_r3 := .of (by kernel_rfl)
def sum13_a4 : List V := [(.int .i64 (.lit (5)))]
def sum13_r4 : R Leaf := (.ok { v := (.int .u32 (.lit (99))), objs := [], n := 7 })
theorem sum13_4 : Row cx11 13 sum13_a4 sum13_r4 := .of (by kernel_rfl)
def sum13_a5 : List V := [(.int .i64 (.lit (6)))]
def sum13_r5 : R Leaf := (.ok { v := (.int .u32 (.lit (99))), objs := [], n := 7 })
theorem sum13_5 : Row cx11 13 sum13_a5 sum13_r5 := .of (by kernel_rfl)
def sum13_a6 : List V := [(.int .i64 (.lit (7)))]
def sum13_r6 : R Leaf := (.ok { v := (.int .u32 (.lit (99))), objs := [], n := 7 })
theorem sum13_6 : Row cx11 13 sum13_a6 sum13_r6 := .of (by kernel_rfl)
def sum13_a7 : List V := [(.int .i64 (.lit (8)))]
def sum13_r7 : R Leaf := (.ok { v := (.int .u32 (.lit (99))), objs := [], n := 7 })
theorem sum13_7 : Row cx11 13 sum13_a7 sum13_r7 := .of (by kernel_rfl)
def sum13_a8 : List V := [(.int .i64 (.lit (9)))]
def sum13_r8 : R Leaf := (.ok { v := (.int .u32 (.lit (99))), objs := [], n := 7 })
theorem sum13_8 : Row cx11 13 sum13_a8 sum13_r8 := .of (by kernel_rfl)
def sum13_a9 : List V := [(.int .i64 (.lit (10)))]
def sum13_r9 : R Leaf := (.ok { v := (.int .u32 (.lit (99))), objs := [], n := 7 })
theorem sum13_9 : Row cx11 13 sum13_a9 sum13_r9 := .of (by kernel_rfl)
def sum13_a10 : List V := [(.int .i64 (.lit (11)))]
def sum13_r10 : R Leaf := (.ok { v := (.int .u32 (.lit (3))), objs := [], n := 7 })
theorem sum13_10 : Row cx11 13 sum13_a10 sum13_r10 := .of (by kernel_rfl)
def sum13_a11 : List V := [(.int .i64 (.lit (12)))]
def sum13_r11 : R Leaf := (.ok { v := (.int .u32 (.lit (3))), objs := [], n := 7 })
theorem sum13_11 : Row cx11 13 sum13_a11 sum13_r11 := .of (by kernel_rfl)
def sum13_a12 : List V := [(.int .i64 (.lit (13)))]
def sum13_r12 : R Leaf := (.ok { v := (.int .u32 (.lit (3))), objs := [], n := 7 })
theorem sum13_12 : Row cx11 13 sum13_a12 sum13_r12 := .of (by kernel_rfl)
def sum13_a13 : List V := [(.int .i64 (.lit (14)))]
def sum13_r13 : R Leaf := (.ok { v := (.int .u32 (.lit (3))), objs := [], n := 7 })
theorem sum13_13 : Row cx11 13 sum13_a13 sum13_r13 := .of (by kernel_rfl)
def sum13_a14 : List V := [(.int .i64 (.lit (15)))]
def sum13_r14 : R Leaf := (.ok { v := (.int .u32 (.lit (3))), objs := [], n := 7 })
theorem sum13_14 : Row cx11 13 sum13_a14 sum13_r14 := .of (by kernel_rfl)
def sum13_a15 : List V := [(.int .i64 (.lit (16)))]
def sum13_r15 : R Leaf := (.ok { v := (.int .u32 (.lit (35))), objs := [], n := 7 })
theorem sum13_15 : Row cx11 13 sum13_a15 sum13_r15 := .of (by kernel_rfl)
def sum13_a16 : List V := [(.int .i64 (.lit (17)))]
def sum13_r16 : R Leaf := (.ok { v := (.int .u32 (.lit (35))), objs := [], n := 7 })
theorem sum13_16 : Row cx11 13 sum13_a16 sum13_r16 := .of (by kernel_rfl)
def sum13_a17 : List V := [(.int .i64 (.lit (18)))]
def sum13_r17 : R Leaf := (.ok { v := (.int .u32 (.lit (35))), objs := [], n := 7 })
theorem sum13_17 : Row cx11 13 sum13_a17 sum13_r17 := .of (by kernel_rfl)
def sum13_a18 : List V := [(.int .i64 (.lit (19)))]
def sum13_r18 : R Leaf := (.ok { v := (.int .u32 (.lit (19))), objs := [], n := 7 })
theorem sum13_18 : Row cx11 13 sum13_a18 sum13_r18 := .of (by kernel_rfl)
def sum13_a19 : List V := [(.int .i64 (.lit (20)))]
def sum13_r19 : R Leaf := (.ok { v := (.int .u32 (.lit (19))), objs := [], n := 7 })
theorem sum13_19 : Row cx11 13 sum13_a19 sum13_r19 := .of (by kernel_rfl)
def sum13_a20 : List V := [(.int .i64 (.lit (21)))]
def sum13_r20 : R Leaf := (.ok { v := (.int .u32 (.lit (19))), objs := [], n := 7 })
theorem sum13_20 : Row cx11 13 sum13_a20 sum13_r20 := .of (by kernel_rfl)
def sum13_a21 : List V := [(.int .i64 (.lit (22)))]
def sum13_r21 : R Leaf := (.ok { v := (.int .u32 (.lit (19))), objs := [], n := 7 })
theorem sum13_21 : Row cx11 13 sum13_a21 sum13_r21 := .of (by kernel_rfl)
def sum13_a22 : List V := [(.int .i64 (.lit (23)))]
def sum13_r22 : R Leaf := (.ok { v := (.int .u32 (.lit (19))), objs := [], n := 7 })
theorem sum13_22 : Row cx11 13 sum13_a22 sum13_r22 := .of (by kernel_rfl)
def sum13_a23 : List V := [(.int .i64 (.lit (24)))]
def sum13_r23 : R Leaf := (.ok { v := (.int .u32 (.lit (19))), objs := [], n := 7 })
theorem sum13_23 : Row cx11 13 sum13_a23 sum13_r23 := .of (by kernel_rfl)
def sum13_a24 : List V := [(.int .i64 (.lit (25)))]
def sum13_r24 : R Leaf := (.ok { v := (.int .u32 (.lit (19))), objs := [], n := 7 })
theorem sum13_24 : Row cx11 13 sum13_a24 sum13_r24 := .of (by kernel_rfl)
def sum13_a25 : List V := [(.int .i64 (.lit (26)))]
def sum13_r25 : R Leaf := (.ok { v := (.int .u32 (.lit (19))), objs := [], n := 7 })
theorem sum13_25 : Row cx11 13 sum13_a25 sum13_r25 := .of (by kernel_rfl)
def sum13_a26 : List V := [(.int .i64 (.lit (27)))]
def sum13_r26 : R Leaf := (.ok { v := (.int .u32 (.lit (19))), objs := [], n := 7 })
theorem sum13_26 : Row cx11 13 sum13_a26 sum13_r26 := .of (by kernel_rfl)
def sum13_a27 : List V := [(.int .i64 (.lit (28)))]
def sum13_r27 : R Leaf := (.ok { v := (.int .u32 (.lit (51))), objs := [], n := 7 })
theorem sum13_27 : Row cx11 13 sum13_a27 sum13_r27 := .of (by kernel_rfl)
def sum13_a28 : List V := [(.int .i64 (.lit (29)))]
def sum13_r28 : R Leaf := (.ok { v := (.int .u32 (.lit (51))), objs := [], n := 7 })
theorem sum13_28 : Row cx11 13 sum13_a28 sum13_r28 := .of (by kernel_rfl)
def sum13_a29 : List V := [(.int .i64 (.lit (30)))]
def sum13_r29 : R Leaf := (.ok { v := (.int .u32 (.lit (51))), objs := [], n := 7 })
theorem sum13_29 : Row cx11 13 sum13_a29 sum13_r29 := .of (by kernel_rfl)
def sum13_a30 : List V := [(.int .i64 (.lit (31)))]
def sum13_r30 : R Leaf := (.ok { v := (.int .u32 (.lit (51))), objs := [], n := 7 })
theorem sum13_30 : Row cx11 13 sum13_a30 sum13_r30 := .of (by kernel_rfl)
def sum13_a31 : List V := [(.int .i64 (.lit (32)))]
def sum13_r31 : R Leaf := (.ok { v := (.int .u32 (.lit (51))), objs := [], n := 7 })
theorem sum13_31 : Row cx11 13 sum13_a31 sum13_r31 := .of (by kernel_rfl)
def sum13_a32 : List V := [(.int .i64 (.lit (33)))]
def sum13_r32 : R Leaf := (.ok { v := (.int .u32 (.lit (51))), objs := [], n := 7 })
theorem sum13_32 : Row cx11 13 sum13_a32 sum13_r32 := .of (by kernel_rfl)
def sum13_a33 : List V := [(.int .i64 (.lit (34)))]
def sum13_r33 : R Leaf := (.ok { v := (.int .u32 (.lit (51))), objs := [], n := 7 })
theorem sum13_33 : Row cx11 13 sum13_a33 sum13_r33 := .of (by kernel_rfl)
def sum13_a34 : List V := [(.int .i64 (.lit (35)))]
def sum13_r34 : R Leaf := (.ok { v := (.int .u32 (.lit (51))), objs := [], n := 7 })
theorem sum13_34 : Row cx11 13 sum13_a34 sum13_r34 := .of (by kernel_rfl)
def sum13_a35 : List V := [(.int .i64 (.lit (36)))]
def sum13_r35 : R Leaf := (.ok { v := (.int .u32 (.lit (51))), objs := [], n := 7 })
theorem sum13_35 : Row cx11 13 sum13_a35 sum13_r35 := .of (by kernel_rfl)
def sum13_a36 : List V := [(.int .i64 (.lit (37)))]
def sum13_r36 : R Leaf := (.ok { v := (.int .u32 (.lit (51))), objs := [], n := 7 })
theorem sum13_36 : Row cx11 13 sum13_a36 sum13_r36 := .of (by kernel_rfl)
def sum13_a37 : List V := [(.int .i64 (.lit (38)))]
def sum13_r37 : R Leaf := (.ok { v := (.int .u32 (.lit (15))), objs := [], n := 7 })
theorem sum13_37 : Row cx11 13 sum13_a37 sum13_r37 := .of (by kernel_rfl)
def sum13_a38 : List V := [(.int .i64 (.lit (39)))]
def sum13_r38 : R Leaf := (.ok { v := (.int .u32 (.lit (115))), objs := [], n := 7 })
theorem sum13_38 : Row cx11 13 sum13_a38 sum13_r38 := .of (by kernel_rfl)
def sum13_a39 : List V := [(.int .i64 (.lit (40)))]
def sum13_r39 : R Leaf := (.ok { v := (.int .u32 (.lit (51))), objs := [], n := 7 })
theorem sum13_39 : Row cx11 13 sum13_a39 sum13_r39 := .of (by kernel_rfl)
def sum13_a40 : List V := [(.int .i64 (.lit (41)))]
def sum13_r40 : R Leaf := (.ok { v := (.int .u32 (.lit (51))), objs := [], n := 7 })
theorem sum13_40 : Row cx11 13 sum13_a40 sum13_r40 := .of (by kernel_rfl)
def sum13_a41 : List V := [(.int .i64 (.lit (42)))]
def sum13_r41 : R Leaf := (.ok { v := (.int .u32 (.lit (51))), objs := [], n := 7 })
theorem sum13_41 : Row cx11 13 sum13_a41 sum13_r41 := .of (by kernel_rfl)
def sum13_a42 : List V := [(.int .i64 (.lit (43)))]
def sum13_r42 : R Leaf := (.ok { v := (.int .u32 (.lit (51))), objs := [], n := 7 })
theorem sum13_42 : Row cx11 13 sum13_a42 sum13_r42 := .of (by kernel_rfl)
def sum13_a43 : List V := [(.int .i64 (.lit (44)))]
def sum13_r43 : R Leaf := (.ok { v := (.int .u32 (.lit (51))), objs := [], n := 7 })
theorem sum13_43 : Row cx11 13 sum13_a43 sum13_r43 := .of (by kernel_rfl)
def sum13_a44 : List V := [(.int .i64 (.lit (45)))]
def sum13_r44 : R Leaf := (.ok { v := (.int .u32 (.lit (51))), objs := [], n := 7 })
theorem sum13_44 : Row cx11 13 sum13_a44 sum13_r44 := .of (by kernel_rfl)
def sum13_a45 : List V := [(.int .i64 (.lit (46)))]
def sum13_r45 : R Leaf := (.ok { v := (.int .u32 (.lit (51))), objs := [], n := 7 })
theorem sum13_45 : Row cx11 13 sum13_a45 sum13_r45 := .of (by kernel_rfl)
def sum13_a46 : List V := [(.int .i64 (.lit (47)))]
def sum13_r46 : R Leaf := (.ok { v := (.int .u32 (.lit (51))), objs := [], n := 7 })
theorem sum13_46 : Row cx11 13 sum13_a46 sum13_r46 := .of (by kernel_rfl)
def sum13_a47 : List V := [(.int .i64 (.lit (48)))]
def sum13_r47 : R Leaf := (.ok { v := (.int .u32 (.lit (47))), objs := [], n := 7 })
theorem sum13_47 : Row cx11 13 sum13_a47 sum13_r47 := .of (by kernel_rfl)
def sum13_a48 : List V := [(.int .i64 (.lit (49)))]
def sum13_r48 : R Leaf := (.ok { v := (.int .u32 (.lit (47))), objs := [], n := 7 })
theorem sum13_48 : Row cx11 13 sum13_a48 sum13_r48 := .of (by kernel_rfl)
def sum13_a49 : List V := [(.int .i64 (.lit (50)))]
def sum13_r49 : R Leaf := (.ok { v := (.int .u32 (.lit (47))), objs := [], n := 7 })
theorem sum13_49 : Row cx11 13 sum13_a49 sum13_r49 := .of (by kernel_rfl)
def sum13_a50 : List V := [(.int .i64 (.lit (51)))]
def sum13_r50 : R Leaf := (.ok { v := (.int .u32 (.lit (47))), objs := [], n := 7 })
theorem sum13_50 : Row cx11 13 sum13_a50 sum13_r50 := .of (by kernel_rfl)
def sum13_a51 : List V := [(.int .i64 (.lit (52)))]
def sum13_r51 : R Leaf := (.ok { v := (.int .u32 (.lit (47))), objs := [], n := 7 })
theorem sum13_51 : Row cx11 13 sum13_a51 sum13_r51 := .of (by kernel_rfl)
def sum13_a52 : List V := [(.int .i64 (.lit (53)))]
def sum13_r52 : R Leaf := (.ok { v := (.int .u32 (.lit (47))), objs := [], n := 7 })
theorem sum13_52 : Row cx11 13 sum13_a52 sum13_r52 := .of (by kernel_rfl)
def sum13_a53 : List V := [(.int .i64 (.lit (54)))]
def sum13_r53 : R Leaf := (.ok { v := (.int .u32 (.lit (47))), objs := [], n := 7 })
theorem sum13_53 : Row cx11 13 sum13_a53 sum13_r53 := .of (by kernel_rfl)
def sum13_a54 : List V := [(.int .i64 (.lit (55)))]
def sum13_r54 : R Leaf := (.ok { v := (.int .u32 (.lit (47))), objs := [], n := 7 })
theorem sum13_54 : Row cx11 13 sum13_a54 sum13_r54 := .of (by kernel_rfl)
def sum13_a55 : List V := [(.int .i64 (.lit (56)))]
def sum13_r55 : R Leaf := (.ok { v := (.int .u32 (.lit (47))), objs := [], n := 7 })
theorem sum13_55 : Row cx11 13 sum13_a55 sum13_r55 := .of (by kernel_rfl)
def sum13_a56 : List V := [(.int .i64 (.lit (57)))]
def sum13_r56 : R Leaf := (.ok { v := (.int .u32 (.lit (47))), objs := [], n := 7 })
theorem sum13_56 : Row cx11 13 sum13_a56 sum13_r56 := .of (by kernel_rfl)
def sum13_a57 : List V := [(.int .i64 (.lit (58)))]
def sum13_r57 : R Leaf := (.ok { v := (.int .u32 (.lit (47))), objs := [], n := 7 })
theorem sum13_57 : Row cx11 13 sum13_a57 sum13_r57 := .of (by kernel_rfl)
def sum13_a58 : List V := [(.int .i64 (.lit (59)))]
def sum13_r58 : R Leaf := (.ok { v := (.int .u32 (.lit (115))), objs := [], n := 7 })
theorem sum13_58 : Row cx11 13 sum13_a58 sum13_r58 := .of (by kernel_rfl)
def sum13 : List (List V × R Leaf) := [(sum13_a0, sum13_r0), (sum13_a1, sum13_r1), (sum13_a2, sum13_r2), (sum13_a3, sum13_r3), (sum13_a4, sum13_r4), (sum13_a5, sum13_r5), (sum13_a6, sum13_r6), (sum13_a7, sum13_r7), (sum13_a8, sum13_r8), (sum13_a9, sum13_r9), (sum13_a10, sum13_r10), (sum13_a11, sum13_r11), (sum13_a12, sum13_r12), (sum13_a13, sum13_r13), (sum13_a14, sum13_r14), (sum13_a15, sum13_r15), (sum13_a16, sum13_r16), (sum13_a17, sum13_r17), (sum13_a18, sum13_r18), (sum13_a19, sum13_r19), (sum13_a20, sum13_r20), (sum13_a21, sum13_r21), (sum13_a22, sum13_r22), (sum13_a23, sum13_r23), (sum13_a24, sum13_r24), (sum13_a25, sum13_r25), (sum13_a26, sum13_r26), (sum13_a27, sum13_r27), (sum13_a28, sum13_r28), (sum13_a29, sum13_r29), (sum13_a30, sum13_r30), (sum13_a31, sum13_r31), (sum13_a32, sum13_r32), (sum13_a33, sum13_r33), (sum13_a34, sum13_r34), (sum13_a35, sum13_r35), (sum13_a36, sum13_r36), (sum13_a37, sum13_r37), (sum13_a38, sum13_r38), (sum13_a39, sum13_r39), (sum13_a40, sum13_r40), (sum13_a41, sum13_r41), (sum13_a42, sum13_r42), (sum13_a43, sum13_r43), (sum13_a44, sum13_r44), (sum13_a45, sum13_r45), (sum13_a46, sum13_r46), (sum13_a47, sum13_r47), (sum13_a48, sum13_r48), (sum13_a49, sum13_r49), (sum13_a50, sum13_r50), (sum13_a51, sum13_r51), (sum13_a52, sum13_r52), (sum13_a53, sum13_r53), (sum13_a54, sum13_r54), (sum13_a55, sum13_r55), (sum13_a56, sum13_r56), (sum13_a57, sum13_r57), (sum13_a58, sum13_r58)]
theorem sum13_ok : TabOk cx11 LStart 7 4000 13 sum13 := .cons rfl sum13_0 <| .cons rfl sum13_1 <| .cons rfl sum13_2 <| .cons rfl sum13_3 <| .cons rfl sum13_4 <| .cons rfl sum13_5 <| .cons rfl sum13_6 <| .cons rfl sum13_7 <| .cons rfl sum13_8 <| .cons rfl sum13_9 <| .cons rfl sum13_10 <| .cons rfl sum13_11 <| .cons rfl sum13_12 <| .cons rfl sum13_13 <| .cons rfl sum13_14 <| .cons rfl sum13_15 <| .cons rfl sum13_16 <| .cons rfl sum13_17 <| .cons rfl sum13_18 <| .cons rfl sum13_19 <| .cons rfl sum13_20 <| .cons rfl sum13_21 <| .cons rfl sum13_22 <| .cons rfl sum13_23 <| .cons rfl sum13_24 <| .cons rfl sum13_25 <| .cons rfl sum13_26 <| .cons rfl sum13_27 <| .cons rfl sum13_28 <| .cons rfl sum13_29 <| .cons rfl sum13_30 <| .cons rfl sum13_31 <| .cons rfl sum13_32 <| .cons rfl sum13_33 <| .cons rfl sum13_34 <| .cons rfl sum13_35 <| .cons rfl sum13_36 <| .cons rfl sum13_37 <| .cons rfl sum13_38 <| .cons rfl sum13_39 <| .cons rfl sum13_40 <| .cons rfl sum13_41 <| .cons rfl sum13_42 <| .cons rfl sum13_43 <| .cons rfl sum13_44 <| .cons rfl sum13_45 <| .cons rfl sum13_46 <| .cons rfl sum13_47 <| .cons rfl sum13_48 <| .cons rfl sum13_49 <| .cons rfl sum13_50 <| .cons rfl sum13_51 <| .cons rfl sum13_52 <| .cons rfl sum13_53 <| .cons rfl sum13_54 <| .cons rfl sum13_55 <| .cons rfl sum13_56 <| .cons rfl sum13_57 <| .cons rfl sum13_58 <| .nil
noncomputable def cx13 : Cx := { cx with dm := dmH, sm := smOf [(13, sumTab LStart 7 sum13), (11, sumTab LStart 7 sum11), (16, sumTab LStart 7 sum16), (23, sumTab LStart 7 sum23), (26, sumTab LStart 7 sum26)] }
def sum14_a0 : List V := [(.int .i64 (.lit (1)))]
def sum14_r0 : R Leaf := (.ok { v := (.int .u32 (.lit (0))), objs := [], n := 8 })
theorem sum14_0 : Row cx13 14 sum14_a0 sum14_r0 := .of (by kernel_rfl)
def sum14_a1 : List V := [(.int .i64 (.lit (2)))]
def sum14_r1 : R Leaf := (.ok { v := (.int .u32 (.lit (0))), objs := [], n := 8 })
theorem sum14_1 : Row cx13 14 sum14_a1 sum14_r1 := .of (by kernel_rfl)
def sum14_a2 : List V := [(.int .i64 (.lit (3)))]
def sum14_r2 : R Leaf := (.ok { v := (.int .u32 (.lit (0))), objs := [], n := 8 })
theorem sum14_2 : Row cx13 14 sum14_a2 sum14_r2 := .of (by kernel_rfl)
def sum14_a3 : List V := [(.int .i64 (.lit (4)))]
def sum14_r3 : R Leaf := (.ok { v := (.int .u32 (.lit (0))), objs := [], n := 8 })
theorem sum14_3 : Row cx13 14 sum14_a3 sum14_r3 := .of (by kernel_rfl)
def sum14_a4 : List V := [(.int .i64 (.lit (5)))]
def sum14_r4 : R Leaf := (.ok { v := (.int .u32 (.lit (0))), objs := [], n := 8 })
theorem sum14_4 : Row cx13 14 sum14_a4 sum14_r4 := .of (by kernel_rfl)
def sum14_a5 : List V := [(.int .i64 (.lit (6)))]
def sum14_r5 : R Leaf := (.ok { v := (.int .u32 (.lit (1))), objs := [], n := 8 })
theorem sum14_5 : Row cx13 14 sum14_a5 sum14_r5 := .of (by kernel_rfl)
def sum14_a6 : List V := [(.int .i64 (.lit (7)))]
def sum14_r6 : R Leaf := (.ok { v := (.int .u32 (.lit (4))), objs := [], n := 8 })
theorem sum14_6 : Row cx13 14 sum14_a6 sum14_r6 := .of (by kernel_rfl)
def sum14_a7 : List V := [(.int .i64 (.lit (8)))]
def sum14_r7 : R Leaf := (.ok { v := (.int .u32 (.lit (5))), objs := [], n := 8 })
theorem sum14_7 : Row cx13 14 sum14_a7 sum14_r7 := .of (by kernel_rfl)
def sum14_a8 : List V := [(.int .i64 (.lit (9)))]
def sum14_r8 : R Leaf := (.ok { v := (.int .u32 (.lit (6))), objs := [], n := 8 })
theorem sum14_8 : Row cx13 14 sum14_a8 sum14_r8 := .of (by kernel_rfl)
def sum14_a9 : List V := [(.int .i64 (.lit (10)))]
def sum14_r9 : R Leaf := (.ok { v := (.int .u32 (.lit (7))), objs := [], n := 8 })
theorem sum14_9 : Row cx13 14 sum14_a9 sum14_r9 := .of (by kernel_rfl)
def sum14_a10 : List V := [(.int .i64 (.lit (11)))]
def sum14_r10 : R Leaf := (.ok { v := (.int .u32 (.lit (0))), objs := [], n := 8 })
theorem sum14_10 : Row cx13 14 sum14_a10 sum14_r10 := .of (by kernel_rfl)
def sum14_a11 : List V := [(.int .i64 (.lit (12)))]
def sum14_r11 : R Leaf := (.ok { v := (.int .u32 (.lit (1))), objs := [], n := 8 })
theorem sum14_11 : Row cx13 14 sum14_a11 sum14_r11 := .of (by kernel_rfl)
def sum14_a12 : List V := [(.int .i64 (.lit (13)))]
def sum14_r12 : R Leaf := (.ok { v := (.int .u32 (.lit (2))), objs := [], n := 8 })
theorem sum14_12 : Row cx13 14 sum14_a12 sum14_r12 := .of (by kernel_rfl)
def sum14_a13 : List V := [(.int .i64 (.lit (14)))]
def sum14_r13 : R Leaf := (.ok { v := (.int .u32 (.lit (4))), objs := [], n := 8 })
theorem sum14_13 : Row cx13 14 sum14_a13 sum14_r13 := .of (by kernel_rfl)
def sum14_a14 : List V := [(.int .i64 (.lit (15)))]
def sum14_r14 : R Leaf := (.ok { v := (.int .u32 (.lit (5))), objs := [], n := 8 })
theorem sum14_14 : Row cx13 14 sum14_a14 sum14_r14 := .of (by kernel_rfl)
def sum14_a15 : List V := [(.int .i64 (.lit (16)))]
def sum14_r15 : R Leaf := (.ok { v := (.int .u32 (.lit (0))), objs := [], n := 8 })
theorem sum14_15 : Row cx13 14 sum14_a15 sum14_r15 := .of (by kernel_rfl)
def sum14_a16 : List V := [(.int .i64 (.lit (17)))]
def sum14_r16 : R Leaf := (.ok { v := (.int .u32 (.lit (1))), objs := [], n := 8 })
theorem sum14_16 : Row cx13 14 sum14_a16 sum14_r16 := .of (by kernel_rfl)
def sum14_a17 : List V := [(.int .i64 (.lit (18)))]
def sum14_r17 : R Leaf := (.ok { v := (.int .u32 (.lit (2))), objs := [], n := 8 })
theorem sum14_17 : Row cx13 14 sum14_a17 sum14_r17 := .of (by kernel_rfl)
def sum14_a18 : List V := [(.int .i64 (.lit (19)))]
def sum14_r18 : R Leaf := (.ok { v := (.int .u32 (.lit (0))), objs := [], n := 8 })
theorem sum14_18 : Row cx13 14 sum14_a18 sum14_r18 := .of (by kernel_rfl)
def sum14_a19 : List V := [(.int .i64 (.lit (20)))]
def sum14_r19 : R Leaf := (.ok { v := (.int .u32 (.lit (2))), objs := [], n := 8 })
theorem sum14_19 : Row cx13 14 sum14_a19 sum14_r19 := .of (by kernel_rfl)
def sum14_a20 : List V := [(.int .i64 (.lit (21)))]
def sum14_r20 : R Leaf := (.ok { v := (.int .u32 (.lit (3))), objs := [], n := 8 })
theorem sum14_20 : Row cx13 14 sum14_a20 sum14_r20 := .of (by kernel_rfl)
def sum14_a21 : List V := [(.int .i64 (.lit (22)))]
def sum14_r21 : R Leaf := (.ok { v := (.int .u32 (.lit (4))), objs := [], n := 8 })
theorem sum14_21 : Row cx13 14 sum14_a21 sum14_r21 := .of (by kernel_rfl)
def sum14_a22 : List V := [(.int .i64 (.lit (23)))]
def sum14_r22 : R Leaf := (.ok { v := (.int .u32 (.lit (6))), objs := [], n := 8 })
theorem sum14_22 : Row cx13 14 sum14_a22 sum14_r22 := .of (by kernel_rfl)
def sum14_a23 : List V := [(.int .i64 (.lit (24)))]
def sum14_r23 : R Leaf := (.ok { v := (.int .u32 (.lit (7))), objs := [], n := 8 })
theorem sum14_23 : Row cx13 14 sum14_a23 sum14_r23 := .of (by kernel_rfl)
def sum14_a24 : List V := [(.int .i64 (.lit (25)))]
def sum14_r24 : R Leaf := (.ok { v := (.int .u32 (.lit (1))), objs := [], n := 8 })
theorem sum14_24 : Row cx13 14 sum14_a24 sum14_r24 := .of (by kernel_rfl)
def sum14_a25 : List V := [(.int .i64 (.lit (26)))]
def sum14_r25 : R Leaf := (.ok { v := (.int .u32 (.lit (5))), objs := [], n := 8 })
theorem sum14_25 : Row cx13 14 sum14_a25 sum14_r25 := .of (by kernel_rfl)
def sum14_a26 : List V := [(.int .i64 (.lit (27)))]
def sum14_r26 : R Leaf := (.ok { v := (.int .u32 (.lit (5))), objs := [], n := 8 })
theorem sum14_26 : Row cx13 14 sum14_a26 sum14_r26 := .of (by kernel_rfl)
def sum14_a27 : List V := [(.int .i64 (.lit (28)))]
def sum14_r27 : R Leaf := (.ok { v := (.int .u32 (.lit (0))), objs := [], n := 8 })
theorem sum14_27 : Row cx13 14 sum14_a27 sum14_r27 := .of (by kernel_rfl)
def sum14_a28 : List V := [(.int .i64 (.lit (29)))]
def sum14_r28 : R Leaf := (.ok { v := (.int .u32 (.lit (0))), objs := [], n := 8 })
theorem sum14_28 : Row cx13 14 sum14_a28 sum14_r28 := .of (by kernel_rfl)
def sum14_a29 : List V := [(.int .i64 (.lit (30)))]
def sum14_r29 : R Leaf := (.ok { v := (.int .u32 (.lit (1))), objs := [], n := 8 })
theorem sum14_29 : Row cx13 14 sum14_a29 sum14_r29 := .of (by kernel_rfl)
def sum14_a30 : List V := [(.int .i64 (.lit (31)))]
def sum14_r30 : R Leaf := (.ok { v := (.int .u32 (.lit (2))), objs := [], n := 8 })
theorem sum14_30 : Row cx13 14 sum14_a30 sum14_r30 := .of (by kernel_rfl)
def sum14_a31 : List V := [(.int .i64 (.lit (32)))]
def sum14_r31 : R Leaf := (.ok { v := (.int .u32 (.lit (3))), objs := [], n := 8 })
theorem sum14_31 : Row cx13 14 sum14_a31 sum14_r31 := .of (by kernel_rfl)
def sum14_a32 : List V := [(.int .i64 (.lit (33)))]
def sum14_r32 : R Leaf := (.ok { v := (.int .u32 (.lit (4))), objs := [], n := 8 })
theorem sum14_32 : Row cx13 14 sum14_a32 sum14_r32 := .of (by kernel_rfl)
def sum14_a33 : List V := [(.int .i64 (.lit (34)))]
def sum14_r33 : R Leaf := (.ok { v := (.int .u32 (.lit (5))), objs := [], n := 8 })
theorem sum14_33 : Row cx13 14 sum14_a33 sum14_r33 := .of (by kernel_rfl)
def sum14_a34 : List V := [(.int .i64 (.lit (35)))]
def sum14_r34 : R Leaf := (.ok { v := (.int .u32 (.lit (5))), objs := [], n := 8 })
theorem sum14_34 : Row cx13 14 sum14_a34 sum14_r34 := .of (by kernel_rfl)
def sum14_a35 : List V := [(.int .i64 (.lit (36)))]
def sum14_r35 : R Leaf := (.ok { v := (.int .u32 (.lit (6))), objs := [], n := 8 })
theorem sum14_35 : Row cx13 14 sum14_a35 sum14_r35 := .of (by kernel_rfl)
def sum14_a36 : List V := [(.int .i64 (.lit (37)))]
def sum14_r36 : R Leaf := (.ok { v := (.int .u32 (.lit (7))), objs := [], n := 8 })
theorem sum14_36 : Row cx13 14 sum14_a36 sum14_r36 := .of (by kernel_rfl)
def sum14_a37 : List V := [(.int .i64 (.lit (38)))]
def sum14_r37 : R Leaf := (.ok { v := (.int .u32 (.lit (0))), objs := [], n := 8 })
theorem sum14_37 : Row cx13 14 sum14_a37 sum14_r37 := .of (by kernel_rfl)
def sum14_a38 : List V := [(.int .i64 (.lit (39)))]
def sum14_r38 : R Leaf := (.ok { v := (.int .u32 (.lit (0))), objs := [], n := 8 })
theorem sum14_38 : Row cx13 14 sum14_a38 sum14_r38 := .of (by kernel_rfl)
def sum14_a39 : List V := [(.int .i64 (.lit (40)))]
def sum14_r39 : R Leaf := (.ok { v := (.int .u32 (.lit (0))), objs := [], n := 8 })
theorem sum14_39 : Row cx13 14 sum14_a39 sum14_r39 := .of (by kernel_rfl)
def sum14_a40 : List V := [(.int .i64 (.lit (41)))]
def sum14_r40 : R Leaf := (.ok { v := (.int .u32 (.lit (1))), objs := [], n := 8 })
theorem sum14_40 : Row cx13 14 sum14_a40 sum14_r40 := .of (by kernel_rfl)
def sum14_a41 : List V := [(.int .i64 (.lit (42)))]
def sum14_r41 : R Leaf := (.ok { v := (.int .u32 (.lit (2))), objs := [], n := 8 })
theorem sum14_41 : Row cx13 14 sum14_a41 sum14_r41 := .of (by kernel_rfl)
def sum14_a42 : List V := [(.int .i64 (.lit (43)))]
def sum14_r42 : R Leaf := (.ok { v := (.int .u32 (.lit (3))), objs := [], n := 8 })
theorem sum14_42 : Row cx13 14 sum14_a42 sum14_r42 := .of (by kernel_rfl)
def sum14_a43 : List V := [(.int .i64 (.lit (44)))]
def sum14_r43 : R Leaf := (.ok { v := (.int .u32 (.lit (4))), objs := [], n := 8 })
theorem sum14_43 : Row cx13 14 sum14_a43 sum14_r43 := .of (by kernel_rfl)
def sum14_a44 : List V := [(.int .i64 (.lit (45)))]
def sum14_r44 : R Leaf := (.ok { v := (.int .u32 (.lit (5))), objs := [], n := 8 })
theorem sum14_44 : Row cx13 14 sum14_a44 sum14_r44 := .of (by kernel_rfl)
def sum14_a45 : List V := [(.int .i64 (.lit (46)))]
def sum14_r45 : R Leaf := (.ok { v := (.int .u32 (.lit (6))), objs := [], n := 8 })
theorem sum14_45 : Row cx13 14 sum14_a45 sum14_r45 := .of (by kernel_rfl)
def sum14_a46 : List V := [(.int .i64 (.lit (47)))]
def sum14_r46 : R Leaf := (.ok { v := (.int .u32 (.lit (7))), objs := [], n := 8 })
theorem sum14_46 : Row cx13 14 sum14_a46 sum14_r46 := .of (by kernel_rfl)
def sum14_a47 : List V := [(.int .i64 (.lit (48)))]
def sum14_r47 : R Leaf := (.ok { v := (.int .u32 (.lit (2))), objs := [], n := 8 })
theorem sum14_47 : Row cx13 14 sum14_a47 sum14_r47 := .of (by kernel_rfl)
def sum14_a48 : List V := [(.int .i64 (.lit (49)))]
def sum14_r48 : R Leaf := (.ok { v := (.int .u32 (.lit (2))), objs := [], n := 8 })
theorem sum14_48 : Row cx13 14 sum14_a48 sum14_r48 := .of (by kernel_rfl)
def sum14_a49 : List V := [(.int .i64 (.lit (50)))]
def sum14_r49 : R Leaf := (.ok { v := (.int .u32 (.lit (2))), objs := [], n := 8 })
theorem sum14_49 : Row cx13 14 sum14_a49 sum14_r49 := .of (by kernel_rfl)
def sum14_a50 : List V := [(.int .i64 (.lit (51)))]
def sum14_r50 : R Leaf := (.ok { v := (.int .u32 (.lit (2))), objs := [], n := 8 })
theorem sum14_50 : Row cx13 14 sum14_a50 sum14_r50 := .of (by kernel_rfl)
def sum14_a51 : List V := [(.int .i64 (.lit (52)))]
def sum14_r51 : R Leaf := (.ok { v := (.int .u32 (.lit (2))), objs := [], n := 8 })
theorem sum14_51 : Row cx13 14 sum14_a51 sum14_r51 := .of (by kernel_rfl)
def sum14_a52 : List V := [(.int .i64 (.lit (53)))]
def sum14_r52 : R Leaf := (.ok { v := (.int .u32 (.lit (2))), objs := [], n := 8 })
theorem sum14_52 : Row cx13 14 sum14_a52 sum14_r52 := .of (by kernel_rfl)
def sum14_a53 : List V := [(.int .i64 (.lit (54)))]
def sum14_r53 : R Leaf := (.ok { v := (.int .u32 (.lit (2))), objs := [], n := 8 })
theorem sum14_53 : Row cx13 14 sum14_a53 sum14_r53 := .of (by kernel_rfl)
def sum14_a54 : List V := [(.int .i64 (.lit (55)))]
def sum14_r54 : R Leaf := (.ok { v := (.int .u32 (.lit (2))), objs := [], n := 8 })
theorem sum14_54 : Row cx13 14 sum14_a54 sum14_r54 := .of (by kernel_rfl)
def sum14_a55 : List V := [(.int .i64 (.lit (56)))]
def sum14_r55 : R Leaf := (.ok { v := (.int .u32 (.lit (2))), objs := [], n := 8 })
theorem sum14_55 : Row cx13 14 sum14_a55 sum14_r55 := .of (by kernel_rfl)
def sum14_a56 : List V := [(.int .i64 (.lit (57)))]
def sum14_r56 : R Leaf := (.ok { v := (.int .u32 (.lit (2))), objs := [], n := 8 })
theorem sum14_56 : Row cx13 14 sum14_a56 sum14_r56 := .of (by kernel_rfl)
def sum14_a57 : List V := [(.int .i64 (.lit (58)))]
def sum14_r57 : R Leaf := (.ok { v := (.int .u32 (.lit (2))), objs := [], n := 8 })
theorem sum14_57 : Row cx13 14 sum14_a57 sum14_r57 := .of (by kernel_rfl)
def sum14_a58 : List V := [(.int .i64 (.lit (59)))]
def sum14_r58 : R Leaf := (.ok { v := (.int .u32 (.lit (2))), objs := [], n := 8 })
theorem sum14_58 : Row cx13 14 sum14_a58 sum14_r58 := .of (by kernel_rfl)
def sum14 : List (List V × R Leaf) := [(sum14_a0, sum14_r0), (sum14_a1, sum14_r1), (sum14_a2, sum14_r2), (sum14_a3, sum14_r3), (sum14_a4, sum14_r4), (sum14_a5, sum14_r5), (sum14_a6, sum14_r6), (sum14_a7, sum14_r7), (sum14_a8, sum14_r8), (sum14_a9, sum14_r9), (sum14_a10, sum14_r10), (sum14_a11, sum14_r11), (sum14_a12, sum14_r12), (sum14_a13, sum14_r13), (sum14_a14, sum14_r14), (sum14_a15, sum14_r15), (sum14_a16, sum14_r16), (sum14_a17, sum14_r17), (sum14_a18, sum14_r18), (sum14_a19, sum14_r19), (sum14_a20, sum14_r20), (sum14_a21, sum14_r21), (sum14_a22, sum14_r22), (sum14_a23, sum14_r23), (sum14_a24, sum14_r24), (sum14_a25, sum14_r25), (sum14_a26, sum14_r26), (sum14_a27, sum14_r27), (sum14_a28, sum14_r28), (sum14_a29, sum14_r29), (sum14_a30, sum14_r30), (sum14_a31, sum14_r31), (sum14_a32, sum14_r32), (sum14_a33, sum14_r33), (sum14_a34, sum14_r34), (sum14_a35, sum14_r35), (sum14_a36, sum14_r36), (sum14_a37, sum14_r37), (sum14_a38, sum14_r38), (sum14_a39, sum14_r39), (sum14_a40, sum14_r40), (sum14_a41, sum14_r41), (sum14_a42, sum14_r42), (sum14_a43, sum14_r43), (sum14_a44, sum14_r44), (sum14_a45, sum14_r45), (sum14_a46, sum14_r46), (sum14_a47, sum14_r47), (sum14_a48, sum14_r48), (sum14_a49, sum14_r49), (sum14_a50, sum14_r50), (sum14_a51, sum14_r51), (sum14_a52, sum14_r52), (sum14_a53, sum14_r53), (sum14_a54, sum14_r54), (sum14_a55, sum14_r55), (sum14_a56, sum14_r56), (sum14_a57, sum14_r57), (sum14_a58, sum14_r58)]
theorem sum14_ok : TabOk cx13 LStart 7 4000 14 sum14 := .cons rfl sum14_0 <| .cons rfl sum14_1 <| .cons rfl sum14_2 <| .cons rfl sum14_3 <| .cons rfl sum14_4 <| .cons rfl sum14_5 <| .cons rfl sum14_6 <| .cons rfl sum14_7 <| .cons rfl sum14_8 <| .cons rfl sum14_9 <| .cons rfl sum14_10 <| .cons rfl sum14_11 <| .cons rfl sum14_12 <| .cons rfl sum14_13 <| .cons rfl sum14_14 <| .cons rfl sum14_15 <| .cons rfl sum14_16 <| .cons rfl sum14_17 <| .cons rfl sum14_18 <| .cons rfl sum14_19 <| .cons rfl sum14_20 <| .cons rfl sum14_21 <| .cons rfl sum14_22 <| .cons rfl sum14_23 <| .cons rfl sum14_24 <| .cons rfl sum14_25 <| .cons rfl sum14_26 <| .cons rfl sum14_27 <| .cons rfl sum14_28 <| .cons rfl sum14_29 <| .cons rfl sum14_30 <| .cons rfl sum14_31 <| .cons rfl sum14_32 <| .cons rfl sum14_33 <| .cons rfl sum14_34 <| .cons rfl sum14_35 <| .cons rfl sum14_36 <| .cons rfl sum14_37 <| .cons rfl sum14_38 <| .cons rfl sum14_39 <| .cons rfl sum14_40 <| .cons rfl sum14_41 <| .cons rfl sum14_42 <| .cons rfl sum14_43 <| .cons rfl sum14_44 <| .cons rfl sum14_45 <| .cons rfl sum14_46 <| .cons rfl sum14_47 <| .cons rfl sum14_48 <| .cons rfl sum14_49 <| .cons rfl sum14_50 <| .cons rfl sum14_51 <| .cons rfl sum14_52 <| .cons rfl sum14_53 <| .cons rfl sum14_54 <| .cons rfl sum14_55 <| .cons rfl sum14_56 <| .cons rfl sum14_57 <| .cons rfl sum14_58 <| .nil
noncomputable def cx14 : Cx := { cx with dm := dmH, sm := smOf [(14, sumTab LStart 7 sum14), (13, sumTab LStart 7 sum13), (11, sumTab LStart 7 sum11), (16, sumTab LStart 7 sum16), (23, sumTab LStart 7 sum23), (26, sumTab LStart 7 sum26)] }
def sum17_a0 : List V := [(.int .i64 (.lit (1)))]
def sum17_r0 : R Leaf := (.ok { v := (.int .u32 (.lit (0))), objs := [], n := 7 })
theorem sum17_0 : Row cx14 17 sum17_a0 sum17_r0 := .of (by kernel_rfl)
def sum17_a1 : List V := [(.int .i64 (.lit (2)))]
def sum17_r1 : R Leaf := (.ok { v := (.int .u32 (.lit (0))), objs := [], n := 7 })
theorem sum17_1 : Row cx14 17 sum17_a1 sum17_r1 := .of (by kernel_rfl)
def sum17_a2 : List V := [(.int .i64 (.lit (3)))]
def sum17_r2 : R Leaf := (.ok { v := (.int .u32 (.lit (0))), objs := [], n := 7 })
theorem sum17_2 : Row cx14 17 sum17_a2 sum17_r2 := .of (by kernel_rfl)
def sum17_a3 : List V := [(.int .i64 (.lit (4)))]
def sum17_r3 : R Leaf := (.ok { v := (.int .u32 (.lit (0))), objs := [], n := 7 })
theorem sum17_3 : Row cx14 17 sum17_a3 sum17_r3 := .of (by kernel_rfl)
def sum17_a4 : List V := [(.int .i64 (.lit (5)))]
def sum17_r4 : R Leaf := (.ok { v := (.int .u32 (.lit (0))), objs := [], n := 7 })
theorem sum17_4 : Row cx14 17 sum17_a4 sum17_r4 := .of (by kernel_rfl)
def sum17_a5 : List V := [(.int .i64 (.lit (6)))]
def sum17_r5 : R Leaf := (.ok { v := (.int .u32 (.lit (0))), objs := [], n := 7 })
theorem sum17_5 : Row cx14 17 sum17_a5 sum17_r5 := .of (by kernel_rfl)
def sum17_a6 : List V := [(.int .i64 (.lit (7)))]
def sum17_r6 : R Leaf := (.ok { v := (.int .u32 (.lit (0))), objs := [], n := 7 })
theorem sum17_6 : Row cx14 17 sum17_a6 sum17_r6 := .of (by kernel_rfl)
def sum17_a7 : List V := [(.int .i64 (.lit (8)))]
def sum17_r7 : R Leaf := (.ok { v := (.int .u32 (.lit (0))), objs := [], n := 7 })
theorem sum17_7 : Row cx14 17 sum17_a7 sum17_r7 := .of (by kernel_rfl)
def sum17_a8 : List V := [(.int .i64 (.lit (9)))]
def sum17_r8 : R Leaf := (.ok { v := (.int .u32 (.lit (0))), objs := [], n := 7 })
theorem sum17_8 : Row cx14 17 sum17_a8 sum17_r8 := .of (by kernel_rfl)
def sum17_a9 : List V := [(.int .i64 (.lit (10)))]
def sum17_r9 : R Leaf := (.ok { v := (.int .u32 (.lit (0))), objs := [], n := 7 })
theorem sum17_9 : Row cx14 17 sum17_a9 sum17_r9 := .of (by kernel_rfl)
def sum17_a10 : List V := [(.int .i64 (.lit (11)))]
def sum17_r10 : R Leaf := (.ok { v := (.int .u32 (.lit (0))), objs := [], n := 7 })
theorem sum17_10 : Row cx14 17 sum17_a10 sum17_r10 := .of (by kernel_rfl)
def sum17_a11 : List V := [(.int .i64 (.lit (12)))]
def sum17_r11 : R Leaf := (.ok { v := (.int .u32 (.lit (0))), objs := [], n := 7 })
theorem sum17_11 : Row cx14 17 sum17_a11 sum17_r11 := .of (by kernel_rfl)
def sum17_a12 : List V := [(.int .i64 (.lit (13)))]
def sum17_r12 : R Leaf := (.ok { v := (.int .u32 (.lit (0))), objs := [], n := 7 })
theorem sum17_12 : Row cx14 17 sum17_a12 sum17_r12 := .of (by kernel_rfl)
def sum17_a13 : List V := [(.int .i64 (.lit (14)))]
def sum17_r13 : R Leaf := (.ok { v := (.int .u32 (.lit (0))), objs := [], n := 7 })
theorem sum17_13 : Row cx14 17 sum17_a13 sum17_r13 := .of (by kernel_rfl)
def sum17_a14 : List V := [(.int .i64 (.lit (15)))]
def sum17_r14 : R Leaf := (.ok { v := (.int .u32 (.lit (0))), objs := [], n := 7 })
theorem sum17_14 : Row cx14 17 sum17_a14 sum17_r14 := .of (by kernel_rfl)
def sum17_a15 : List V := [(.int .i64 (.lit (16)))]
def sum17_r15 : R Leaf := (.ok { v := (.int .u32 (.lit (0))), objs := [], n := 7 })
theorem sum17_15 : Row cx14 17 sum17_a15 sum17_r15 := .of (by kernel_rfl)
def sum17_a16 : List V := [(.int .i64 (.lit (17)))]
def sum17_r16 : R Leaf := (.ok { v := (.int .u32 (.lit (0))), objs := [], n := 7 })
theorem sum17_16 : Row cx14 17 sum17_a16 sum17_r16 := .of (by kernel_rfl)
def sum17_a17 : List V := [(.int .i64 (.lit (18)))]
def sum17_r17 : R Leaf := (.ok { v := (.int .u32 (.lit (0))), objs := [], n := 7 })
theorem sum17_17 : Row cx14 17 sum17_a17 sum17_r17 := .of (by kernel_rfl)
def sum17_a18 : List V := [(.int .i64 (.lit (19)))]
def sum17_r18 : R Leaf := (.ok { v := (.int .u32 (.lit (0))), objs := [], n := 7 })
theorem sum17_18 : Row cx14 17 sum17_a18 sum17_r18 := .of (by kernel_rfl)
def sum17_a19 : List V := [(.int .i64 (.lit (20)))]
def sum17_r19 : R Leaf := (.ok { v := (.int .u32 (.lit (0))), objs := [], n := 7 })
theorem sum17_19 : Row cx14 17 sum17_a19 sum17_r19 := .of (by kernel_rfl)
def sum17_a20 : List V := [(.int .i64 (.lit (21)))]
def sum17_r20 : R Leaf := (.ok { v := (.int .u32 (.lit (0))), objs := [], n := 7 })
theorem sum17_20 : Row cx14 17 sum17_a20 sum17_r20 := .of (by kernel_rfl)
def sum17_a21 : List V := [(.int .i64 (.lit (22)))]
def sum17_r21 : R Leaf := (.ok { v := (.int .u32 (.lit (0))), objs := [], n := 7 })
theorem sum17_21 : Row cx14 17 sum17_a21 sum17_r21 := .of (by kernel_rfl)
def sum17_a22 : List V := [(.int .i64 (.lit (23)))]
def sum17_r22 : R Leaf := (.ok { v := (.int .u32 (.lit (0))), objs := [], n := 7 })
theorem sum17_22 : Row cx14 17 sum17_a22 sum17_r22 := .of (by kernel_rfl)
def sum17_a23 : List V := [(.int .i64 (.lit (24)))]
def sum17_r23 : R Leaf := (.ok { v := (.int .u32 (.lit (0))), objs := [], n := 7 })
theorem sum17_23 : Row cx14 17 sum17_a23 sum17_r23 := .of (by kernel_rfl)
def sum17_a24 : List V := [(.int .i64 (.lit (25)))]
def sum17_r24 : R Leaf := (.ok { v := (.int .u32 (.lit (0))), objs := [], n := 7 })
theorem sum17_24 : Row cx14 17 sum17_a24 sum17_r24 := .of (by kernel_rfl)
def sum17_a25 : List V := [(.int .i64 (.lit (26)))]
def sum17_r25 : R Leaf := (.ok { v := (.int .u32 (.lit (0))), objs := [], n := 7 })
theorem sum17_25 : Row cx14 17 sum17_a25 sum17_r25 := .of (by kernel_rfl)
def sum17_a26 : List V := [(.int .i64 (.lit (27)))]
def sum17_r26 : R Leaf := (.ok { v := (.int .u32 (.lit (32))), objs := [], n := 7 })
theorem sum17_26 : Row cx14 17 sum17_a26 sum17_r26 := .of (by kernel_rfl)
def sum17_a27 : List V := [(.int .i64 (.lit (28)))]
def sum17_r27 : R Leaf := (.ok { v := (.int .u32 (.lit (0))), objs := [], n := 7 })
theorem sum17_27 : Row cx14 17 sum17_a27 sum17_r27 := .of (by kernel_rfl)
def sum17_a28 : List V := [(.int .i64 (.lit (29)))]
def sum17_r28 : R Leaf := (.ok { v := (.int .u32 (.lit (32))), objs := [], n := 7 })
theorem sum17_28 : Row cx14 17 sum17_a28 sum17_r28 := .of (by kernel_rfl)
def sum17_a29 : List V := [(.int .i64 (.lit (30)))]
def sum17_r29 : R Leaf := (.ok { v := (.int .u32 (.lit (0))), objs := [], n := 7 })
theorem sum17_29 : Row cx14 17 sum17_a29 sum17_r29 := .of (by kernel_rfl)
def sum17_a30 : List V := [(.int .i64 (.lit (31)))]
def sum17_r30 : R Leaf := (.ok { v := (.int .u32 (.lit (0))), objs := [], n := 7 })
theorem sum17_30 : Row cx14 17 sum17_a30 sum17_r30 := .of (by kernel_rfl)
def sum17_a31 : List V := [(.int .i64 (.lit (32)))]
def sum17_r31 : R Leaf := (.ok { v := (.int .u32 (.lit (0))), objs := [], n := 7 })
theorem sum17_31 : Row cx14 17 sum17_a31 sum17_r31 := .of (by kernel_rfl)
def sum17_a32 : List V := [(.int .i64 (.lit (33)))]
def sum17_r32 : R Leaf := (.ok { v := (.int .u32 (.lit (0))), objs := [], n := 7 })
theorem sum17_32 : Row cx14 17 sum17_a32 sum17_r32 := .of (by kernel_rfl)
def sum17_a33 : List V := [(.int .i64 (.lit (34)))]
def sum17_r33 : R Leaf := (.ok { v := (.int .u32 (.lit (0))), objs := [], n := 7 })
theorem sum17_33 : Row cx14 17 sum17_a33 sum17_r33 := .of (by kernel_rfl)
def sum17_a34 : List V := [(.int .i64 (.lit (35)))]
def sum17_r34 : R Leaf := (.ok { v := (.int .u32 (.lit (32))), objs := [], n := 7 })
theorem sum17_34 : Row cx14 17 sum17_a34 sum17_r34 := .of (by kernel_rfl)
def sum17_a35 : List V := [(.int .i64 (.lit (36)))]
def sum17_r35 : R Leaf := (.ok { v := (.int .u32 (.lit (0))), objs := [], n := 7 })
theorem sum17_35 : Row cx14 17 sum17_a35 sum17_r35 := .of (by kernel_rfl)
def sum17_a36 : List V := [(.int .i64 (.lit (37)))]
def sum17_r36 : R Leaf := (.ok { v := (.int .u32 (.lit (0))), objs := [], n := 7 })
theorem sum17_36 : Row cx14 17 sum17_a36 sum17_r36 := .of (by kernel_rfl)
def sum17_a37 : List V := [(.int .i64 (.lit (38)))]
def sum17_r37 : R Leaf := (.ok { v := (.int .u32 (.lit (0))), objs := [], n := 7 })
theorem sum17_37 : Row cx14 17 sum17_a37 sum17_r37 := .of (by kernel_rfl)
def sum17_a38 : List V := [(.int .i64 (.lit (39)))]
def sum17_r38 : R Leaf := (.ok { v := (.int .u32 (.lit (0))), objs := [], n := 7 })
theorem sum17_38 : Row cx14 17 sum17_a38 sum17_r38 := .of (by kernel_rfl)
def sum17_a39 : List V := [(.int .i64 (.lit (40)))]
def sum17_r39 : R Leaf := (.ok { v := (.int .u32 (.lit (1))), objs := [], n := 7 })
theorem sum17_39 : Row cx14 17 sum17_a39 sum17_r39 := .of (by kernel_rfl)
def sum17_a40 : List V := [(.int .i64 (.lit (41)))]
def sum17_r40 : R Leaf := (.ok { v := (.int .u32 (.lit (1))), objs := [], n := 7 })
theorem sum17_40 : Row cx14 17 sum17_a40 sum17_r40 := .of (by kernel_rfl)
def sum17_a41 : List V := [(.int .i64 (.lit (42)))]
def sum17_r41 : R Leaf := (.ok { v := (.int .u32 (.lit (1))), objs := [], n := 7 })
theorem sum17_41 : Row cx14 17 sum17_a41 sum17_r41 := .of (by kernel_rfl)
def sum17_a42 : List V := [(.int .i64 (.lit (43)))]
def sum17_r42 : R Leaf := (.ok { v := (.int .u32 (.lit (1))), objs := [], n := 7 })
theorem sum17_42 : Row cx14 17 sum17_a42 sum17_r42 := .of (by kernel_rfl)
def sum17_a43 : List V := [(.int .i64 (.lit (44)))]
def sum17_r43 : R Leaf := (.ok { v := (.int .u32 (.lit (1))), objs := [], n := 7 })
theorem sum17_43 : Row cx14 17 sum17_a43 sum17_r43 := .of (by kernel_rfl)
def sum17_a44 : List V := [(.int .i64 (.lit (45)))]
def sum17_r44 : R Leaf := (.ok { v := (.int .u32 (.lit (1))), objs := [], n := 7 })
theorem sum17_44 : Row cx14 17 sum17_a44 sum17_r44 := .of (by kernel_rfl)
def sum17_a45 : List V := [(.int .i64 (.lit (46)))]
def sum17_r45 : R Leaf := (.ok { v := (.int .u32 (.lit (1))), objs := [], n := 7 })
theorem sum17_45 : Row cx14 17 sum17_a45 sum17_r45 := .of (by kernel_rfl)
def sum17_a46 : List V := [(.int .i64 (.lit (47)))]
def sum17_r46 : R Leaf := (.ok { v := (.int .u32 (.lit (1))), objs := [], n := 7 })
theorem sum17_46 : Row cx14 17 sum17_a46 sum17_r46 := .of (by kernel_rfl)
def sum17_a47 : List V := [(.int .i64 (.lit (48)))]
def sum17_r47 : R Leaf := (.ok { v := (.int .u32 (.lit (8))), objs := [], n := 8 })
theorem sum17_47 : Row cx14 17 sum17_a47 sum17_r47 := .of (by kernel_rfl)
def sum17_a48 : List V := [(.int .i64 (.lit (49)))]
def sum17_r48 : R Leaf := (.ok { v := (.int .u32 (.lit (12))), objs := [], n := 8 })
theorem sum17_48 : Row cx14 17 sum17_a48 sum17_r48 := .of (by kernel_rfl)
def sum17_a49 : List V := [(.int .i64 (.lit (50)))]
def sum17_r49 : R Leaf := (.ok { v := (.int .u32 (.lit (4))), objs := [], n := 8 })
theorem sum17_49 : Row cx14 17 sum17_a49 sum17_r49 := .of (by kernel_rfl)
def sum17_a50 : List V := [(.int .i64 (.lit (51)))]
def sum17_r50 : R Leaf := (.ok { v := (.int .u32 (.lit (0))), objs := [], n := 8 })
theorem sum17_50 : Row cx14 17 sum17_a50 sum17_r50 := .of (by kernel_rfl)
def sum17_a51 : List V := [(.int .i64 (.lit (52)))]
def sum17_r51 : R Leaf := (.ok { v := (.int .u32 (.lit (16))), objs := [], n := 8 })
theorem sum17_51 : Row cx14 17 sum17_a51 sum17_r51 := .of (by kernel_rfl)
def sum17_a52 : List V := [(.int .i64 (.lit (53)))]
def sum17_r52 : R Leaf := (.ok { v := (.int .u32 (.lit (48))), objs := [], n := 8 })
theorem sum17_52 : Row cx14 17 sum17_a52 sum17_r52 := .of (by kernel_rfl)
def sum17_a53 : List V := [(.int .i64 (.lit (54)))]
def sum17_r53 : R Leaf := (.ok { v := (.int .u32 (.lit (32))), objs := [], n := 8 })
theorem sum17_53 : Row cx14 17 sum17_a53 sum17_r53 := .of (by kernel_rfl)
def sum17_a54 : List V := [(.int .i64 (.lit (55)))]
def sum17_r54 : R Leaf := (.ok { v := (.int .u32 (.lit (64))), objs := [], n := 8 })
theorem sum17_54 : Row cx14 17 sum17_a54 sum17_r54 := .of (by kernel_rfl)
def sum17_a55 : List V := [(.int .i64 (.lit (56)))]
def sum17_r55 : R Leaf := (.ok { v := (.int .u32 (.lit (80))), objs := [], n := 8 })
theorem sum17_55 : Row cx14 17 sum17_a55 sum17_r55 := .of (by kernel_rfl)
def sum17_a56 : List V := [(.int .i64 (.lit (57)))]
def sum17_r56 : R Leaf := (.ok { v := (.int .u32 (.lit (96))), objs := [], n := 8 })
theorem sum17_56 : Row cx14 17 sum17_a56 sum17_r56 := .of (by kernel_rfl)
def sum17_a57 : List V := [(.int .i64 (.lit (58)))]
def sum17_r57 : R Leaf := (.ok { v := (.int .u32 (.lit (112))), objs := [], n := 8 })
theorem sum17_57 : Row cx14 17 sum17_a57 sum17_r57 := .of (by kernel_rfl)
def sum17_a58 : List V := [(.int .i64 (.lit (59)))]
def sum17_r58 : R Leaf := (.ok { v := (.int .u32 (.lit (0))), objs := [], n := 7 })
theorem sum17_58 : Row cx14 17 sum17_a58 sum17_r58 := .of (by kernel_rfl)
def sum17 : List (List V × R Leaf) := [(sum17_a0, sum17_r0), (sum17_a1, sum17_r1), (sum17_a2, sum17_r2), (sum17_a3, sum17_r3), (sum17_a4, sum17_r4), (sum17_a5, sum17_r5), (sum17_a6, sum17_r6), (sum17_a7, sum17_r7), (sum17_a8, sum17_r8), (sum17_a9, sum17_r9), (sum17_a10, sum17_r10), (sum17_a11, sum17_r11), (sum17_a12, sum17_r12), (sum17_a13, sum17_r13), (sum17_a14, sum17_r14), (sum17_a15, sum17_r15), (sum17_a16, sum17_r16), (sum17_a17, sum17_r17), (sum17_a18, sum17_r18), (sum17_a19, sum17_r19), (sum17_a20, sum17_r20), (sum17_a21, sum17_r21), (sum17_a22, sum17_r22), (sum17_a23, sum17_r23), (sum17_a24, sum17_r24), (sum17_a25, sum17_r25), (sum17_a26, sum17_r26), (sum17_a27, sum17_r27), (sum17_a28, sum17_r28), (sum17_a29, sum17_r29), (sum17_a30, sum17_r30), (sum17_a31, sum17_r31), (sum17_a32, sum17_r32), (sum17_a33, sum17_r33), (sum17_a34, sum17_r34), (sum17_a35, sum17_r35), (sum17_a36, sum17_r36), (sum17_a37, sum17_r37), (sum17_a38, sum17_r38), (sum17_a39, sum17_r39), (sum17_a40, sum17_r40), (sum17_a41, sum17_r41), (sum17_a42, sum17_r42), (sum17_a43, sum17_r43), (sum17_a44, sum17_r44), (sum17_a45, sum17_r45), (sum17_a46, sum17_r46), (sum17_a47, sum17_r47), (sum17_a48, sum17_r48), (sum17_a49, sum17_r49), (sum17_a50, sum17_r50), (sum17_a51, sum17_r51), (sum17_a52, sum17_r52), (sum17_a53, sum17_r53), (sum17_a54, sum17_r54), (sum17_a55, sum17_r55), (sum17_a56, sum17_r56), (sum17_a57, sum17_r57), (sum17_a58, sum17_r58)]
theorem sum17_ok : TabOk cx14 LStart 7 4000 17 sum17 := .cons rfl sum17_0 <| .cons rfl sum17_1 <| .cons rfl sum17_2 <| .cons rfl sum17_3 <| .cons rfl sum17_4 <| .cons rfl sum17_5 <| .cons rfl sum17_6 <| .cons rfl sum17_7 <| .cons rfl sum17_8 <| .cons rfl sum17_9 <| .cons rfl sum17_10 <| .cons rfl sum17_11 <| .cons rfl sum17_12 <| .cons rfl sum17_13 <| .cons rfl sum17_14 <| .cons rfl sum17_15 <| .cons rfl sum17_16 <| .cons rfl sum17_17 <| .cons rfl sum17_18 <| .cons rfl sum17_19 <| .cons rfl sum17_20 <| .cons rfl sum17_21 <| .cons rfl sum17_22 <| .cons rfl sum17_23 <| .cons rfl sum17_24 <| .cons rfl sum17_25 <| .cons rfl sum17_26 <| .cons rfl sum17_27 <| .cons rfl sum17_28 <| .cons rfl sum17_29 <| .cons rfl sum17_30 <| .cons rfl sum17_31 <| .cons rfl sum17_32 <| .cons rfl sum17_33 <| .cons rfl sum17_34 <| .cons rfl sum17_35 <| .cons rfl sum17_36 <| .cons rfl sum17_37 <| .cons rfl sum17_38 <| .cons rfl sum17_39 <| .cons rfl sum17_40 <| .cons rfl sum17_41 <| .cons rfl sum17_42 <| .cons rfl sum17_43 <| .cons rfl sum17_44 <| .cons rfl sum17_45 <| .cons rfl sum17_46 <| .cons rfl sum17_47 <| .cons rfl sum17_48 <| .cons rfl sum17_49 <| .cons rfl sum17_50 <| .cons rfl sum17_51 <| .cons rfl sum17_52 <| .cons rfl sum17_53 <| .cons rfl sum17_54 <| .cons rfl sum17_55 <| .cons rfl sum17_56 <| .cons rfl sum17_57 <| .cons rfl sum17_58 <| .nil
noncomputable def cx17 : Cx := { cx with dm := dmH, sm := smOf [(17, sumTab LStart 7 sum17), (14, sumTab LStart 7 sum14), (13, sumTab LStart 7 sum13), (11, sumTab LStart 7 sum11), (16, sumTab LStart 7 sum16), (23, sumTab LStart 7 sum23), (26, sumTab LStart 7 sum26)] }
def sum15_a0 : List V := [(.int .u32 (.bv [.pos 0, .pos 1, .pos 2, .pos 3, .pos 4, .pos 5, .pos 6, .pos 7, .pos 8, .pos 9, .pos 10, .pos 11, .pos 12, .pos 13, .pos 14, .pos 15, .pos 16, .pos 17, .pos 18, .pos 19, .pos 20, .pos 21, .pos 22, .pos 23, .pos 24, .pos 25, .pos 26, .pos 27, .pos 28, .pos 29, .pos 30, .pos 31] (.zero))), (.int .i64 (.lit (11))), (.int .i64 (.lit (7)))]
def sum15_r0 : R Leaf := (.ok { v := (.int .u32 (.bv [.pos 7, .pos 8, .pos 9, .pos 10, .pos 11] (.zero))), objs := [], n := 7 })
theorem sum15_0 : Row cx17 15 sum15_a0 sum15_r0 := .of (by kernel_rfl)
def sum15_a1 : List V := [(.int .u32 (.bv [.pos 0, .pos 1, .pos 2, .pos 3, .pos 4, .pos 5, .pos 6, .pos 7, .pos 8, .pos 9, .pos 10, .pos 11, .pos 12, .pos 13, .pos 14, .pos 15, .pos 16, .pos 17, .pos 18, .pos 19, .pos 20, .pos 21, .pos 22, .pos 23, .pos 24, .pos 25, .pos 26, .pos 27, .pos 28, .pos 29, .pos 30, .pos 31] (.zero))), (.int .i64 (.lit (19))), (.int .i64 (.lit (15)))]
def sum15_r1 : R Leaf := (.ok { v := (.int .u32 (.bv [.pos 15, .pos 16, .pos 17, .pos 18, .pos 19] (.zero))), objs := [], n := 7 })
theorem sum15_1 : Row cx17 15 sum15_a1 sum15_r1 := .of (by kernel_rfl)
def sum15_a2 : List V := [(.int .u32 (.bv [.pos 0, .pos 1, .pos 2, .pos 3, .pos 4, .pos 5, .pos 6, .pos 7, .pos 8, .pos 9, .pos 10, .pos 11, .pos 12, .pos 13, .pos 14, .pos 15, .pos 16, .pos 17, .pos 18, .pos 19, .pos 20, .pos 21, .pos 22, .pos 23, .pos 24, .pos 25, .pos 26, .pos 27, .pos 28, .pos 29, .pos 30, .pos 31] (.zero))), (.int .i64 (.lit (24))), (.int .i64 (.lit (20)))]
def sum15_r2 : R Leaf := (.ok { v := (.int .u32 (.bv [.pos 20, .pos 21, .pos 22, .pos 23, .pos 24] (.zero))), objs := [], n := 7 })
theorem sum15_2 : Row cx17 15 sum15_a2 sum15_r2 := .of (by kernel_rfl)
def sum15_a3 : List V := [(.int .u32 (.bv [.pos 0, .pos 1, .pos 2, .pos 3, .pos 4, .pos 5, .pos 6, .pos 7, .pos 8, .pos 9, .pos 10, .pos 11, .pos 12, .pos 13, .pos 14, .pos 15, .pos 16, .pos 17, .pos 18, .pos 19, .pos 20, .pos 21, .pos 22, .pos 23, .pos 24, .pos 25, .pos 26, .pos 27, .pos 28, .pos 29, .pos 30, .pos 31] (.zero))), (.int .i64 (.lit (31))), (.int .i64 (.lit (31)))]
def sum15_r3 : R Leaf := (.ok { v := (.int .u32 (.bv [.pos 31] (.zero))), objs := [], n := 7 })
theorem sum15_3 : Row cx17 15 sum15_a3 sum15_r3 := .of (by kernel_rfl)
def sum15_a4 : List V := [(.int .u32 (.bv [.pos 0, .pos 1, .pos 2, .pos 3, .pos 4, .pos 5, .pos 6, .pos 7, .pos 8, .pos 9, .pos 10, .pos 11, .pos 12, .pos 13, .pos 14, .pos 15, .pos 16, .pos 17, .pos 18, .pos 19, .pos 20, .pos 21, .pos 22, .pos 23, .pos 24, .pos 25, .pos 26, .pos 27, .pos 28, .pos 29, .pos 30, .pos 31] (.zero))), (.int .i64 (.lit (19))), (.int .i64 (.lit (12)))]
def sum15_r4 : R Leaf := (.ok { v := (.int .u32 (.bv [.pos 12, .pos 13, .pos 14, .pos 15, .pos 16, .pos 17, .pos 18, .pos 19] (.zero))), objs := [], n := 7 })
theorem sum15_4 : Row cx17 15 sum15_a4 sum15_r4 := .of (by kernel_rfl)
def sum15_a5 : List V := [(.int .u32 (.bv [.pos 0, .pos 1, .pos 2, .pos 3, .pos 4, .pos 5, .pos 6, .pos 7, .pos 8, .pos 9, .pos 10, .pos 11, .pos 12, .pos 13, .pos 14, .pos 15, .pos 16, .pos 17, .pos 18, .pos 19, .pos 20, .pos 21, .pos 22, .pos 23, .pos 24, .pos 25, .pos 26, .pos 27, .pos 28, .pos 29, .pos 30, .pos 31] (.zero))), (.int .i64 (.lit (20))), (.int .i64 (.lit (20)))]
def sum15_r5 : R Leaf := (.ok { v := (.int .u32 (.bv [.pos 20] (.zero))), objs := [], n := 7 })
theorem sum15_5 : Row cx17 15 sum15_a5 sum15_r5 := .of (by kernel_rfl)
def sum15_a6 : List V := [(.int .u32 (.bv [.pos 0, .pos 1, .pos 2, .pos 3, .pos 4, .pos 5, .pos 6, .pos 7, .pos 8, .pos 9, .pos 10, .pos 11, .pos 12, .pos 13, .pos 14, .pos 15, .pos 16, .pos 17, .pos 18, .pos 19, .pos 20, .pos 21, .pos 22, .pos 23, .pos 24, .pos 25, .pos 26, .pos 27, .pos 28, .pos 29, .pos 30, .pos 31] (.zero))), (.int .i64 (.lit (30))), (.int .i64 (.lit (21)))]
def sum15_r6 : R Leaf := (.ok { v := (.int .u32 (.bv [.pos 21, .pos 22, .pos 23, .pos 24, .pos 25, .pos 26, .pos 27, .pos 28, .pos 29, .pos 30] (.zero))), objs := [], n := 7 })
theorem sum15_6 : Row cx17 15 sum15_a6 sum15_r6 := .of (by kernel_rfl)
def sum15_a7 : List V := [(.int .u32 (.bv [.pos 0, .pos 1, .pos 2, .pos 3, .pos 4, .pos 5, .pos 6, .pos 7, .pos 8, .pos 9, .pos 10, .pos 11, .pos 12, .pos 13, .pos 14, .pos 15, .pos 16, .pos 17, .pos 18, .pos 19, .pos 20, .pos 21, .pos 22, .pos 23, .pos 24, .pos 25, .pos 26, .pos 27, .pos 28, .pos 29, .pos 30, .pos 31] (.zero))), (.int .i64 (.lit (7))), (.int .i64 (.lit (7)))]
def sum15_r7 : R Leaf := (.ok { v := (.int .u32 (.bv [.pos 7] (.zero))), objs := [], n := 7 })
theorem sum15_7 : Row cx17 15 sum15_a7 sum15_r7 := .of (by kernel_rfl)
def sum15_a8 : List V := [(.int .u32 (.bv [.pos 0, .pos 1, .pos 2, .pos 3, .pos 4, .pos 5, .pos 6, .pos 7, .pos 8, .pos 9, .pos 10, .pos 11, .pos 12, .pos 13, .pos 14, .pos 15, .pos 16, .pos 17, .pos 18, .pos 19, .pos 20, .pos 21, .pos 22, .pos 23, .pos 24, .pos 25, .pos 26, .pos 27, .pos 28, .pos 29, .pos 30, .pos 31] (.zero))), (.int .i64 (.lit (30))), (.int .i64 (.lit (25)))]
def sum15_r8 : R Leaf := (.ok { v := (.int .u32 (.bv [.pos 25, .pos 26, .pos 27, .pos 28, .pos 29, .pos 30] (.zero))), objs := [], n := 7 })
theorem sum15_8 : Row cx17 15 sum15_a8 sum15_r8 := .of (by kernel_rfl)
def sum15_a9 : List V := [(.int .u32 (.bv [.pos 0, .pos 1, .pos 2, .pos 3, .pos 4, .pos 5, .pos 6, .pos 7, .pos 8, .pos 9, .pos 10, .pos 11, .pos 12, .pos 13, .pos 14, .pos 15, .pos 16, .pos 17, .pos 18, .pos 19, .pos 20, .pos 21, .pos 22, .pos 23, .pos 24, .pos 25, .pos 26, .pos 27, .pos 28, .pos 29, .pos 30, .pos 31] (.zero))), (.int .i64 (.lit (11))), (.int .i64 (.lit (8)))]
def sum15_r9 : R Leaf := (.ok { v := (.int .u32 (.bv [.pos 8, .pos 9, .pos 10, .pos 11] (.zero))), objs := [], n := 7 })
theorem sum15_9 : Row cx17 15 sum15_a9 sum15_r9 := .of (by kernel_rfl)
def sum15_a10 : List V := [(.int .u32 (.bv [.pos 0, .pos 1, .pos 2, .pos 3, .pos 4, .pos 5, .pos 6, .pos 7, .pos 8, .pos 9, .pos 10, .pos 11, .pos 12, .pos 13, .pos 14, .pos 15, .pos 16, .pos 17, .pos 18, .pos 19, .pos 20, .pos 21, .pos 22, .pos 23, .pos 24, .pos 25, .pos 26, .pos 27, .pos 28, .pos 29, .pos 30, .pos 31] (.zero))), (.int .i64 (.lit (31))), (.int .i64 (.lit (25)))]
def sum15_r10 : R Leaf := (.ok { v := (.int .u32 (.bv [.pos 25, .pos 26, .pos 27, .pos 28, .pos 29, .pos 30, .pos 31] (.zero))), objs := [], n := 7 })
theorem sum15_10 : Row cx17 15 sum15_a10 sum15_r10 := .of (by kernel_rfl)
def sum15_a11 : List V := [(.int .u32 (.bv [.pos 0, .pos 1, .pos 2, .pos 3, .pos 4, .pos 5, .pos 6, .pos 7, .pos 8, .pos 9, .pos 10, .pos 11, .pos 12, .pos 13, .pos 14, .pos 15, .pos 16, .pos 17, .pos 18, .pos 19, .pos 20, .pos 21, .pos 22, .pos 23, .pos 24, .pos 25, .pos 26, .pos 27, .pos 28, .pos 29, .pos 30, .pos 31] (.zero))), (.int .i64 (.lit (31))), (.int .i64 (.lit (20)))]
def sum15_r11 : R Leaf := (.ok { v := (.int .u32 (.bv [.pos 20, .pos 21, .pos 22, .pos 23, .pos 24, .pos 25, .pos 26, .pos 27, .pos 28, .pos 29, .pos 30, .pos 31] (.zero))), objs := [], n := 7 })
theorem sum15_11 : Row cx17 15 sum15_a11 sum15_r11 := .of (by kernel_rfl)
def sum15_a12 : List V := [(.int .u32 (.bv [.pos 0, .pos 1, .pos 2, .pos 3, .pos 4, .pos 5, .pos 6, .pos 7, .pos 8, .pos 9, .pos 10, .pos 11, .pos 12, .pos 13, .pos 14, .pos 15, .pos 16, .pos 17, .pos 18, .pos 19, .pos 20, .pos 21, .pos 22, .pos 23, .pos 24, .pos 25, .pos 26, .pos 27, .pos 28, .pos 29, .pos 30, .pos 31] (.zero))), (.int .i64 (.lit (27))), (.int .i64 (.lit (20)))]
def sum15_r12 : R Leaf := (.ok { v := (.int .u32 (.bv [.pos 20, .pos 21, .pos 22, .pos 23, .pos 24, .pos 25, .pos 26, .pos 27] (.zero))), objs := [], n := 7 })
theorem sum15_12 : Row cx17 15 sum15_a12 sum15_r12 := .of (by kernel_rfl)
def sum15_a13 : List V := [(.int .u32 (.bv [.pos 0, .pos 1, .pos 2, .pos 3, .pos 4, .pos 5, .pos 6, .pos 7, .pos 8, .pos 9, .pos 10, .pos 11, .pos 12, .pos 13, .pos 14, .pos 15, .pos 16, .pos 17, .pos 18, .pos 19, .pos 20, .pos 21, .pos 22, .pos 23, .pos 24, .pos 25, .pos 26, .pos 27, .pos 28, .pos 29, .pos 30, .pos 31] (.zero))), (.int .i64 (.lit (26))), (.int .i64 (.lit (26)))]
def sum15_r13 : R Leaf := (.ok { v := (.int .u32 (.bv [.pos 26] (.zero))), objs := [], n := 7 })
theorem sum15_13 : Row cx17 15 sum15_a13 sum15_r13 := .of (by kernel_rfl)
def sum15_a14 : List V := [(.int .u32 (.bv [.pos 0, .pos 1, .pos 2, .pos 3, .pos 4, .pos 5, .pos 6, .pos 7, .pos 8, .pos 9, .pos 10, .pos 11, .pos 12, .pos 13, .pos 14, .pos 15, .pos 16, .pos 17, .pos 18, .pos 19, .pos 20, .pos 21, .pos 22, .pos 23, .pos 24, .pos 25, .pos 26, .pos 27, .pos 28, .pos 29, .pos 30, .pos 31] (.zero))), (.int .i64 (.lit (25))), (.int .i64 (.lit (25)))]
def sum15_r14 : R Leaf := (.ok { v := (.int .u32 (.bv [.pos 25] (.zero))), objs := [], n := 7 })
theorem sum15_14 : Row cx17 15 sum15_a14 sum15_r14 := .of (by kernel_rfl)
def sum15_a15 : List V := [(.int .u32 (.bv [.pos 0, .pos 1, .pos 2, .pos 3, .pos 4, .pos 5, .pos 6, .pos 7, .pos 8, .pos 9, .pos 10, .pos 11, .pos 12, .pos 13, .pos 14, .pos 15, .pos 16, .pos 17, .pos 18, .pos 19, .pos 20, .pos 21, .pos 22, .pos 23, .pos 24, .pos 25, .pos 26, .pos 27, .pos 28, .pos 29, .pos 30, .pos 31] (.zero))), (.int .i64 (.lit (10))), (.int .i64 (.lit (1)))]
def sum15_r15 : R Leaf := (.ok { v := (.int .u32 (.bv [.pos 1, .pos 2, .pos 3, .pos 4, .pos 5, .pos 6, .pos 7, .pos 8, .pos 9, .pos 10] (.zero))), objs := [], n := 7 })
theorem sum15_15 : Row cx17 15 sum15_a15 sum15_r15 := .of (by kernel_rfl)
def sum15_a16 : List V := [(.int .u32 (.bv [.pos 0, .pos 1, .pos 2, .pos 3, .pos 4, .pos 5, .pos 6, .pos 7, .pos 8, .pos 9, .pos 10, .pos 11, .pos 12, .pos 13, .pos 14, .pos 15, .pos 16, .pos 17, .pos 18, .pos 19, .pos 20, .pos 21, .pos 22, .pos 23, .pos 24, .pos 25, .pos 26, .pos 27, .pos 28, .pos 29, .pos 30, .pos 31] (.zero))), (.int .i64 (.lit (11))), (.int .i64 (.lit (11)))]
def sum15_r16 : R Leaf := (.ok { v := (.int .u32 (.bv [.pos 11] (.zero))), objs := [], n := 7 })
theorem sum15_16 : Row cx17 15 sum15_a16 sum15_r16 := .of (by kernel_rfl)
def sum15_a17 : List V := [(.int .u32 (.bv [.pos 0, .pos 1, .pos 2, .pos 3, .pos 4, .pos 5, .pos 6, .pos 7, .pos 8, .pos 9, .pos 10, .pos 11, .pos 12, .pos 13, .pos 14, .pos 15, .pos 16, .pos 17, .pos 18, .pos 19, .pos 20, .pos 21, .pos 22, .pos 23, .pos 24, .pos 25, .pos 26, .pos 27, .pos 28, .pos 29, .pos 30, .pos 31] (.zero))), (.int .i64 (.lit (12))), (.int .i64 (.lit (12)))]
def sum15_r17 : R Leaf := (.ok { v := (.int .u32 (.bv [.pos 12] (.zero))), objs := [], n := 7 })
theorem sum15_17 : Row cx17 15 sum15_a17 sum15_r17 := .of (by kernel_rfl)
def sum15_a18 : List V := [(.int .u32 (.bv [.pos 0, .pos 1, .pos 2, .pos 3, .pos 4, .pos 5, .pos 6, .pos 7, .pos 8, .pos 9, .pos 10, .pos 11, .pos 12, .pos 13, .pos 14, .pos 15, .pos 16, .pos 17, .pos 18, .pos 19, .pos 20, .pos 21, .pos 22, .pos 23, .pos 24, .pos 25, .pos 26, .pos 27, .pos 28, .pos 29, .pos 30, .pos 31] (.zero))), (.int .i64 (.lit (10))), (.int .i64 (.lit (5)))]
def sum15_r18 : R Leaf := (.ok { v := (.int .u32 (.bv [.pos 5, .pos 6, .pos 7, .pos 8, .pos 9, .pos 10] (.zero))), objs := [], n := 7 })
theorem sum15_18 : Row cx17 15 sum15_a18 sum15_r18 := .of (by kernel_rfl)
def sum15_a19 : List V := [(.int .u32 (.bv [.pos 0, .pos 1, .pos 2, .pos 3, .pos 4, .pos 5, .pos 6, .pos 7, .pos 8, .pos 9, .pos 10, .pos 11, .pos 12, .pos 13, .pos 14, .pos 15, .pos 16, .pos 17, .pos 18, .pos 19, .pos 20, .pos 21, .pos 22, .pos 23, .pos 24, .pos 25, .pos 26, .pos 27, .pos 28, .pos 29, .pos 30, .pos 31] (.zero))), (.int .i64 (.lit (4))), (.int .i64 (.lit (1)))]
def sum15_r19 : R Leaf := (.ok { v := (.int .u32 (.bv [.pos 1, .pos 2, .pos 3, .pos 4] (.zero))), objs := [], n := 7 })
theorem sum15_19 : Row cx17 15 sum15_a19 sum15_r19 := .of (by kernel_rfl)
def sum15_a20 : List V := [(.int .u32 (.bv [.pos 0, .pos 1, .pos 2, .pos 3, .pos 4, .pos 5, .pos 6, .pos 7, .pos 8, .pos 9, .pos 10, .pos 11, .pos 12, .pos 13, .pos 14, .pos 15, .pos 16, .pos 17, .pos 18, .pos 19, .pos 20, .pos 21, .pos 22, .pos 23, .pos 24, .pos 25, .pos 26, .pos 27, .pos 28, .pos 29, .pos 30, .pos 31] (.zero))), (.int .i64 (.lit (11))), (.int .i64 (.lit (5)))]
def sum15_r20 : R Leaf := (.ok { v := (.int .u32 (.bv [.pos 5, .pos 6, .pos 7, .pos 8, .pos 9, .pos 10, .pos 11] (.zero))), objs := [], n := 7 })
theorem sum15_20 : Row cx17 15 sum15_a20 sum15_r20 := .of (by kernel_rfl)
def sum15_a21 : List V := [(.int .u32 (.bv [.pos 0, .pos 1, .pos 2, .pos 3, .pos 4, .pos 5, .pos 6, .pos 7, .pos 8, .pos 9, .pos 10, .pos 11, .pos 12, .pos 13, .pos 14, .pos 15, .pos 16, .pos 17, .pos 18, .pos 19, .pos 20, .pos 21, .pos 22, .pos 23, .pos 24, .pos 25, .pos 26, .pos 27, .pos 28, .pos 29, .pos 30, .pos 31] (.zero))), (.int .i64 (.lit (4))), (.int .i64 (.lit (0)))]
def sum15_r21 : R Leaf := (.ok { v := (.int .u32 (.bv [.pos 0, .pos 1, .pos 2, .pos 3, .pos 4] (.zero))), objs := [], n := 7 })
theorem sum15_21 : Row cx17 15 sum15_a21 sum15_r21 := .of (by kernel_rfl)
def sum15_a22 : List V := [(.int .u32 (.bv [.pos 0, .pos 1, .pos 2, .pos 3, .pos 4, .pos 5, .pos 6, .pos 7, .pos 8, .pos 9, .pos 10, .pos 11, .pos 12, .pos 13, .pos 14, .pos 15, .pos 16, .pos 17, .pos 18, .pos 19, .pos 20, .pos 21, .pos 22, .pos 23, .pos 24, .pos 25, .pos 26, .pos 27, .pos 28, .pos 29, .pos 30, .pos 31] (.zero))), (.int .i64 (.lit (11))), (.int .i64 (.lit (0)))]
def sum15_r22 : R Leaf := (.ok { v := (.int .u32 (.bv [.pos 0, .pos 1, .pos 2, .pos 3, .pos 4, .pos 5, .pos 6, .pos 7, .pos 8, .pos 9, .pos 10, .pos 11] (.zero))), objs := [], n := 7 })
theorem sum15_22 : Row cx17 15 sum15_a22 sum15_r22 := .of (by kernel_rfl)
def sum15 : List (List V × R Leaf) := [(sum15_a0, sum15_r0), (sum15_a1, sum15_r1), (sum15_a2, sum15_r2), (sum15_a3, sum15_r3), (sum15_a4, sum15_r4), (sum15_a5, sum15_r5), (sum15_a6, sum15_r6), (sum15_a7, sum15_r7), (sum15_a8, sum15_r8), (sum15_a9, sum15_r9), (sum15_a10, sum15_r10), (sum15_a11, sum15_r11), (sum15_a12, sum15_r12), (sum15_a13, sum15_r13), (sum15_a14, sum15_r14), (sum15_a15, sum15_r15), (sum15_a16, sum15_r16), (sum15_a17, sum15_r17), (sum15_a18, sum15_r18), (sum15_a19, sum15_r19), (sum15_a20, sum15_r20), (sum15_a21, sum15_r21), (sum15_a22, sum15_r22)]
theorem sum15_ok : TabOk cx17 LStart 7 4000 15 sum15 := .cons rfl sum15_0 <| .cons rfl sum15_1 <| .cons rfl sum15_2 <| .cons rfl sum15_3 <| .cons rfl sum15_4 <| .cons rfl sum15_5 <| .cons rfl sum15_6 <| .cons rfl sum15_7 <| .cons rfl sum15_8 <| .cons rfl sum15_9 <| .cons rfl sum15_10 <| .cons rfl sum15_11 <| .cons rfl sum15_12 <| .cons rfl sum15_13 <| .cons rfl sum15_14 <| .cons rfl sum15_15 <| .cons rfl sum15_16 <| .cons rfl sum15_17 <| .cons rfl sum15_18 <| .cons rfl sum15_19 <| .cons rfl sum15_20 <| .cons rfl sum15_21 <| .cons rfl sum15_22 <| .nil
noncomputable def cx15 : Cx := { cx with dm := dmH, sm := smOf [(15, sumPar LStart 7 sum15), (17, sumTab LStart 7 sum17), (14, sumTab LStart 7 sum14), (13, sumTab LStart 7 sum13), (11, sumTab LStart 7 sum11), (16, sumTab LStart 7 sum16), (23, sumTab LStart 7 sum23), (26, sumTab LStart 7 sum26)] }
def sum20_a0 : List V := [(.int .i64 (.var 0))]
def sum20_r0 : R Leaf := (.br (.eq (.var 0) (.lit (1)))
 (.ok { v := (.tuple [(.agg [(.int .i64 (.lit (1))), (.str (.slit [108, 117, 105])), (.int .u32 (.lit (127))), (.bool (.lit (1))), (.bool (.lit (0))), (.bool (.lit (0))), (.bool (.lit (0))), (.func (.func 42) [] []), (.func (.func 43) [] []), (.func (.func 44) [] []), (.func (.func 45) [] []), (.int .u32 (.lit (55)))]), (.bool (.lit (1)))]), objs := [], n := 38 })
 (.br (.eq (.var 0) (.lit (2)))
 (.ok { v := (.tuple [(.agg [(.int .i64 (.lit (2))), (.str (.slit [97, 117, 105, 112, 99])), (.int .u32 (.lit (127))), (.bool (.lit (1))), (.bool (.lit (0))), (.bool (.lit (0))), (.bool (.lit (0))), (.func (.func 42) [] []), (.func (.func 43) [] []), (.func (.func 44) [] []), (.func (.func 45) [] []), (.int .u32 (.lit (23)))]), (.bool (.lit (1)))]), objs := [], n := 40 })
 (.br (.eq (.var 0) (.lit (3)))
  (.ok { v := (.tuple [(.agg [(.int .i64 (.lit (3))), (.str (.slit [106, 97, 108])), (.int .u32 (.lit (127))), (.bool (.lit (1))), (.bool (.lit (0))), (.bool (.lit (0))), (.bool (.lit (0))), (.func (.func 71) [] [(.ptr 23 0)]), (.func (.func 48) [] []), (.func (.func 49) [] []), (.func (.func 50) [] []), (.int .u32 (.lit (111)))]), (.bool (.lit (1)))]), objs := [(22, .cells [(.int .i64 (.lit (1048574)))] 2 none), (21, .cells [(.int .i64 (.lit (-1048576)))] 2 none), (23, .cells [(.func (.func 65) [] [(.ptr 21 0), (.ptr 22 0)])] 36 none)], n := 42 })
  (.br (.eq (.var 0) (.lit (4)))
  (.ok { v := (.tuple [(.agg [(.int .i64 (.lit (4))), (.str (.slit [106, 97, 108, 114])), (.int .u32 (.lit (28799))), (.bool (.lit (1))), (.bool (.lit (1))), (.bool (.lit (0))), (.bool (.lit (0))), (.func (.func 65) [] [(.ptr 13 0), (.ptr 14 0)]), (.func (.func 32) [] []), (.func (.func 29) [] []), (.func (.func 37) [] []), (.int .u32 (.lit (103)))]), (.bool (.lit (1)))]), objs := [(14, .cells [(.int .i64 (.lit (2047)))] 2 none), (13, .cells [(.int .i64 (.lit (-2048)))] 2 none)], n := 44 })
  (.br (.eq (.var 0) (.lit (5)))
   (.ok { v := (.tuple [(.agg [(.int .i64 (.lit (5))), (.str (.slit [98, 101, 113])), (.int .u32 (.lit (28799))), (.bool (.lit (0))), (.bool (.lit (1))), (.bool (.lit (1))), (.bool (.lit (0))), (.func (.func 71) [] [(.ptr 28 0)]), (.func (.func 53) [] []), (.func (.func 54) [] []), (.func (.func 55) [] []), (.int .u32 (.lit (99)))]), (.bool (.lit (1)))]), objs := [(27, .cells [(.int .i64 (.lit (4094)))] 2 none), (26, .cells [(.int .i64 (.lit (-4096)))] 2 none), (28, .cells [(.func (.func 65) [] [(.ptr 26 0), (.ptr 27 0)])] 36 none)], n := 48 })
   (.br (.eq (.var 0) (.lit (6)))
   (.ok { v := (.tuple [(.agg [(.int .i64 (.lit (6))), (.str (.slit [98, 110, 101])), (.int .u32 (.lit (28799))), (.bool (.lit (0))), (.bool (.lit (1))), (.bool (.lit (1))), (.bool (.lit (0))), (.func (.func 71) [] [(.ptr 28 0)]), (.func (.func 53) [] []), (.func (.func 54) [] []), (.func (.func 55) [] []), (.int .u32 (.lit (4195)))]), (.bool (.lit (1)))]), objs := [(27, .cells [(.int .i64 (.lit (4094)))] 2 none), (26, .cells [(.int .i64 (.lit (-4096)))] 2 none), (28, .cells [(.func (.func 65) [] [(.ptr 26 0), (.ptr 27 0)])] 36 none)], n := 50 })
   (.br (.eq (.var 0) (.lit (7)))
    (.ok { v := (.tuple [(.agg [(.int .i64 (.lit (7))), (.str (.slit [98, 108, 116])), (.int .u32 (.lit (28799))), (.bool (.lit (0))), (.bool (.lit (1))), (.bool (.lit (1))), (.bool (.lit (0))), (.func (.func 71) [] [(.ptr 28 0)]), (.func (.func 53) [] []), (.func (.func 54) [] []), (.func (.func 55) [] []), (.int .u32 (.lit (16483)))]), (.bool (.lit (1)))]), objs := [(27, .cells [(.int .i64 (.lit (4094)))] 2 none), (26, .cells [(.int .i64 (.lit (-4096)))] 2 none), (28, .cells [(.func (.func 65) [] [(.ptr 26 0), (.ptr 27 0)])] 36 none)], n := 52 })
    (.br (.eq (.var 0) (.lit (8)))
    (.ok { v := (.tuple [(.agg [(.int .i64 (.lit (8))), (.str (.slit [98, 103, 101])), (.int .u32 (.lit (28799))), (.bool (.lit (0))), (.bool (.lit (1))), (.bool (.lit (1))), (.bool (.lit (0))), (.func (.func 71) [] [(.ptr 28 0)]), (.func (.func 53) [] []), (.func (.func 54) [] []), (.func (.func 55) [] []), (.int .u32 (.lit (20579)))]), (.bool (.lit (1)))]), objs := [(27, .cells [(.int .i64 (.lit (4094)))] 2 none), (26, .cells [(.int .i64 (.lit (-4096)))] 2 none), (28, .cells [(.func (.func 65) [] [(.ptr 26 0), (.ptr 27 0)])] 36 none)], n := 54 })
    (.br (.eq (.var 0) (.lit (9)))
     (.ok { v := (.tuple [(.agg [(.int .i64 (.lit (9))), (.str (.slit [98, 108, 116, 117])), (.int .u32 (.lit (28799))), (.bool (.lit (0))), (.bool (.lit (1))), (.bool (.lit (1))), (.bool (.lit (0))), (.func (.func 71) [] [(.ptr 28 0)]), (.func (.func 53) [] []), (.func (.func 54) [] []), (.func (.func 55) [] []), (.int .u32 (.lit (24675)))]), (.bool (.lit (1)))]), objs := [(27, .cells [(.int .i64 (.lit (4094)))] 2 none), (26, .cells [(.int .i64 (.lit (-4096)))] 2 none), (28, .cells [(.func (.func 65) [] [(.ptr 26 0), (.ptr 27 0)])] 36 none)], n := 56 })
     (.br (.eq (.var 0) (.lit (10)))
     (.ok { v := (.tuple [(.agg [(.int .i64 (.lit (10))), (.str (.slit [98, 103, 101, 117])), (.int .u32 (.lit (28799))), (.bool (.lit (0))), (.bool (.lit (1))), (.bool (.lit (1))), (.bool (.lit (0))), (.func (.func 71) [] [(.ptr 28 0)]), (.func (.func 53) [] []), (.func (.func 54) [] []), (.func (.func 55) [] []), (.int .u32 (.lit (28771)))]), (.bool (.lit (1)))]), objs := [(27, .cells [(.int .i64 (.lit (4094)))] 2 none), (26, .cells [(.int .i64 (.lit (-4096)))] 2 none), (28, .cells [(.func (.func 65) [] [(.ptr 26 0), (.ptr 27 0)])] 36 none)], n := 58 })
     (.br (.eq (.var 0) (.lit (11)))
      (.ok { v := (.tuple [(.agg [(.int .i64 (.lit (11))), (.str (.slit [108, 98])), (.int .u32 (.lit (28799))), (.bool (.lit (1))), (.bool (.lit (1))), (.bool (.lit (0))), (.bool (.lit (0))), (.func (.func 65) [] [(.ptr 13 0), (.ptr 14 0)]), (.func (.func 32) [] []), (.func (.func 29) [] []), (.func (.func 37) [] []), (.int .u32 (.lit (3)))]), (.bool (.lit (1)))]), objs := [(14, .cells [(.int .i64 (.lit (2047)))] 2 none), (13, .cells [(.int .i64 (.lit (-2048)))] 2 none)], n := 62 })
      (.br (.eq (.var 0) (.lit (12)))
      (.ok { v := (.tuple [(.agg [(.int .i64 (.lit (12))), (.str (.slit [108, 104])), (.int .u32 (.lit (28799))), (.bool (.lit (1))), (.bool (.lit (1))), (.bool (.lit (0))), (.bool (.lit (0))), (.func (.func 65) [] [(.ptr 13 0), (.ptr 14 0)]), (.func (.func 32) [] []), (.func (.func 29) [] []), (.func (.func 37) [] []), (.int .u32 (.lit (4099)))]), (.bool (.lit (1)))]), objs := [(14, .cells [(.int .i64 (.lit (2047)))] 2 none), (13, .cells [(.int .i64 (.lit (-2048)))] 2 none)], n := 64 })
      (.br (.eq (.var 0) (.lit (13)))
       (.ok { v := (.tuple [(.agg [(.int .i64 (.lit (13))), (.str (.slit [108, 119])), (.int .u32 (.lit (28799))), (.bool (.lit (1))), (.bool (.lit (1))), (.bool (.lit (0))), (.bool (.lit (0))), (.func (.func 65) [] [(.ptr 13 0), (.ptr 14 0)]), (.func (.func 32) [] []), (.func (.func 29) [] []), (.func (.func 37) [] []), (.int .u32 (.lit (8195)))]), (.bool (.lit (1)))]), objs := [(14, .cells [(.int .i64 (.lit (2047)))] 2 none), (13, .cells [(.int .i64 (.lit (-2048)))] 2 none)], n := 66 })
       (.br (.eq (.var 0) (.lit (14)))
       (.ok { v := (.tuple [(.agg [(.int .i64 (.lit (14))), (.str (.slit [108, 98, 117])), (.int .u32 (.lit (28799))), (.bool (.lit (1))), (.bool (.lit (1))), (.bool (.lit (0))), (.bool (.lit (0))), (.func (.func 65) [] [(.ptr 13 0), (.ptr 14 0)]), (.func (.func 32) [] []), (.func (.func 29) [] []), (.func (.func 37) [] []), (.int .u32 (.lit (16387)))]), (.bool (.lit (1)))]), objs := [(14, .cells [(.int .i64 (.lit (2047)))] 2 none), (13, .cells [(.int .i64 (.lit (-2048)))] 2 none)], n := 68 })
       (.br (.eq (.var 0) (.lit (15)))
        (.ok { v := (.tuple [(.agg [(.int .i64 (.lit (15))), (.str (.slit [108, 104, 117])), (.int .u32 (.lit (28799))), (.bool (.lit (1))), (.bool (.lit (1))), (.bool (.lit (0))), (.bool (.lit (0))), (.func (.func 65) [] [(.ptr 13 0), (.ptr 14 0)]), (.func (.func 32) [] []), (.func (.func 29) [] []), (.func (.func 37) [] []), (.int .u32 (.lit (20483)))]), (.bool (.lit (1)))]), objs := [(14, .cells [(.int .i64 (.lit (2047)))] 2 none), (13, .cells [(.int .i64 (.lit (-2048)))] 2 none)], n := 70 })
        (.br (.eq (.var 0) (.lit (16)))
        (.ok { v := (.tuple [(.agg [(.int .i64 (.lit (16))), (.str (.slit [115, 98])), (.int .u32 (.lit (28799))), (.bool (.lit (0))), (.bool (.lit (1))), (.bool (.lit (1))), (.bool (.lit (0))), (.func (.func 65) [] [(.ptr 29 0), (.ptr 30 0)]), (.func (.func 56) [] []), (.func (.func 57) [] []), (.func (.func 58) [] []), (.int .u32 (.lit (35)))]), (.bool (.lit (1)))]), objs := [(30, .cells [(.int .i64 (.lit (2047)))] 2 none), (29, .cells [(.int .i64 (.lit (-2048)))] 2 none)], n := 74 })
        (.br (.eq (.var 0) (.lit (17)))
         (.ok { v := (.tuple [(.agg [(.int .i64 (.lit (17))), (.str (.slit [115, 104])), (.int .u32 (.lit (28799))), (.bool (.lit (0))), (.bool (.lit (1))), (.bool (.lit (1))), (.bool (.lit (0))), (.func (.func 65) [] [(.ptr 29 0), (.ptr 30 0)]), (.func (.func 56) [] []), (.func (.func 57) [] []), (.func (.func 58) [] []), (.int .u32 (.lit (4131)))]), (.bool (.lit (1)))]), objs := [(30, .cells [(.int .i64 (.lit (2047)))] 2 none), (29, .cells [(.int .i64 (.lit (-2048)))] 2 none)], n := 76 })
         (.br (.eq (.var 0) (.lit (18)))
         (.ok { v := (.tuple [(.agg [(.int .i64 (.lit (18))), (.str (.slit [115, 119])), (.int .u32 (.lit (28799))), (.bool (.lit (0))), (.bool (.lit (1))), (.bool (.lit (1))), (.bool (.lit (0))), (.func (.func 65) [] [(.ptr 29 0), (.ptr 30 0)]), (.func (.func 56) [] []), (.func (.func 57) [] []), (.func (.func 58) [] []), (.int .u32 (.lit (8227)))]), (.bool (.lit (1)))]), objs := [(30, .cells [(.int .i64 (.lit (2047)))] 2 none), (29, .cells [(.int .i64 (.lit (-2048)))] 2 none)], n := 78 })
         (.br (.eq (.var 0) (.lit (19)))
          (.ok { v := (.tuple [(.agg [(.int .i64 (.lit (19))), (.str (.slit [97, 100, 100, 105])), (.int .u32 (.lit (28799))), (.bool (.lit (1))), (.bool (.lit (1))), (.bool (.lit (0))), (.bool (.lit (0))), (.func (.func 65) [] [(.ptr 13 0), (.ptr 14 0)]), (.func (.func 32) [] []), (.func (.func 29) [] []), (.func (.func 33) [] []), (.int .u32 (.lit (19)))]), (.bool (.lit (1)))]), objs := [(14, .cells [(.int .i64 (.lit (2047)))] 2 none), (13, .cells [(.int .i64 (.lit (-2048)))] 2 none)], n := 82 })
          (.br (.eq (.var 0) (.lit (20)))
          (.ok { v := (.tuple [(.agg [(.int .i64 (.lit (20))), (.str (.slit [115, 108, 116, 105])), (.int .u32 (.lit (28799))), (.bool (.lit (1))), (.bool (.lit (1))), (.bool (.lit (0))), (.bool (.lit (0))), (.func (.func 65) [] [(.ptr 13 0), (.ptr 14 0)]), (.func (.func 32) [] []), (.func (.func 29) [] []), (.func (.func 33) [] []), (.int .u32 (.lit (8211)))]), (.bool (.lit (1)))]), objs := [(14, .cells [(.int .i64 (.lit (2047)))] 2 none), (13, .cells [(.int .i64 (.lit (-2048)))] 2 none)], n := 84 })
          (.br (.eq (.var 0) (.lit (21)))
           (.ok { v := (.tuple [(.agg [(.int .i64 (.lit (21))), (.str (.slit [115, 108, 116, 105, 117])), (.int .u32 (.lit (28799))), (.bool (.lit (1))), (.bool (.lit (1))), (.bool (.lit (0))), (.bool (.lit (0))), (.func (.func 65) [] [(.ptr 13 0), (.ptr 14 0)]), (.func (.func 32) [] []), (.func (.func 29) [] []), (.func (.func 33) [] []), (.int .u32 (.lit (12307)))]), (.bool (.lit (1)))]), objs := [(14, .cells [(.int .i64 (.lit (2047)))] 2 none), (13, .cells [(.int .i64 (.lit (-2048)))] 2 none)], n := 86 })
           (.br (.eq (.var 0) (.lit (22)))
           (.ok { v := (.tuple [(.agg [(.int .i64 (.lit (22))), (.str (.slit [120, 111, 114, 105])), (.int .u32 (.lit (28799))), (.bool (.lit (1))), (.bool (.lit (1))), (.bool (.lit (0))), (.bool (.lit (0))), (.func (.func 65) [] [(.ptr 13 0), (.ptr 14 0)]), (.func (.func 32) [] []), (.func (.func 29) [] []), (.func (.func 33) [] []), (.int .u32 (.lit (16403)))]), (.bool (.lit (1)))]), objs := [(14, .cells [(.int .i64 (.lit (2047)))] 2 none), (13, .cells [(.int .i64 (.lit (-2048)))] 2 none)], n := 88 })
           (.br (.eq (.var 0) (.lit (23)))
            (.ok { v := (.tuple [(.agg [(.int .i64 (.lit (23))), (.str (.slit [111, 114, 105])), (.int .u32 (.lit (28799))), (.bool (.lit (1))), (.bool (.lit (1))), (.bool (.lit (0))), (.bool (.lit (0))), (.func (.func 65) [] [(.ptr 13 0), (.ptr 14 0)]), (.func (.func 32) [] []), (.func (.func 29) [] []), (.func (.func 33) [] []), (.int .u32 (.lit (24595)))]), (.bool (.lit (1)))]), objs := [(14, .cells [(.int .i64 (.lit (2047)))] 2 none), (13, .cells [(.int .i64 (.lit (-2048)))] 2 none)], n := 90 })
            (.br (.eq (.var 0) (.lit (24)))
            (.ok { v := (.tuple [(.agg [(.int .i64 (.lit (24))), (.str (.slit [97, 110, 100, 105])), (.int .u32 (.lit (28799))), (.bool (.lit (1))), (.bool (.lit (1))), (.bool (.lit (0))), (.bool (.lit (0))), (.func (.func 65) [] [(.ptr 13 0), (.ptr 14 0)]), (.func (.func 32) [] []), (.func (.func 29) [] []), (.func (.func 33) [] []), (.int .u32 (.lit (28691)))]), (.bool (.lit (1)))]), objs := [(14, .cells [(.int .i64 (.lit (2047)))] 2 none), (13, .cells [(.int .i64 (.lit (-2048)))] 2 none)], n := 92 })
            (.br (.eq (.var 0) (.lit (25)))
             (.ok { v := (.tuple [(.agg [(.int .i64 (.lit (25))), (.str (.slit [115, 108, 108, 105])), (.int .u32 (.lit (4261441663))), (.bool (.lit (1))), (.bool (.lit (1))), (.bool (.lit (0))), (.bool (.lit (0))), (.func (.func 65) [] [(.ptr 24 0), (.ptr 25 0)]), (.func (.func 51) [] []), (.func (.func 52) [] []), (.func (.func 33) [] []), (.int .u32 (.lit (4115)))]), (.bool (.lit (1)))]), objs := [(25, .cells [(.int .i64 (.lit (31)))] 2 none), (24, .cells [(.int .i64 (.lit (0)))] 2 none)], n := 96 })
             (.br (.eq (.var 0) (.lit (26)))
             (.ok { v := (.tuple [(.agg [(.int .i64 (.lit (26))), (.str (.slit [115, 114, 108, 105])), (.int .u32 (.lit (4261441663))), (.bool (.lit (1))), (.bool (.lit (1))), (.bool (.lit (0))), (.bool (.lit (0))), (.func (.func 65) [] [(.ptr 24 0), (.ptr 25 0)]), (.func (.func 51) [] []), (.func (.func 52) [] []), (.func (.func 33) [] []), (.int .u32 (.lit (20499)))]), (.bool (.lit (1)))]), objs := [(25, .cells [(.int .i64 (.lit (31)))] 2 none), (24, .cells [(.int .i64 (.lit (0)))] 2 none)], n := 98 })
             (.br (.eq (.var 0) (.lit (27)))
              (.ok { v := (.tuple [(.agg [(.int .i64 (.lit (27))), (.str (.slit [115, 114, 97, 105])), (.int .u32 (.lit (4261441663))), (.bool (.lit (1))), (.bool (.lit (1))), (.bool (.lit (0))), (.bool (.lit (0))), (.func (.func 65) [] [(.ptr 24 0), (.ptr 25 0)]), (.func (.func 51) [] []), (.func (.func 52) [] []), (.func (.func 33) [] []), (.int .u32 (.lit (1073762323)))]), (.bool (.lit (1)))]), objs := [(25, .cells [(.int .i64 (.lit (31)))] 2 none), (24, .cells [(.int .i64 (.lit (0)))] 2 none)], n := 100 })
              (.br (.eq (.var 0) (.lit (28)))
              (.ok { v := (.tuple [(.agg [(.int .i64 (.lit (28))), (.str (.slit [97, 100, 100])), (.int .u32 (.lit (4261441663))), (.bool (.lit (1))), (.bool (.lit (1))), (.bool (.lit (1))), (.bool (.lit (0))), (.func (.func 38) [] []), (.func (.func 28) [] []), (.func (.func 28) [] []), (.func (.func 39) [] []), (.int .u32 (.lit (51)))]), (.bool (.lit (1)))]), objs := [], n := 102 })
              (.br (.eq (.var 0) (.lit (29)))
               (.ok { v := (.tuple [(.agg [(.int .i64 (.lit (29))), (.str (.slit [115, 117, 98])), (.int .u32 (.lit (4261441663))), (.bool (.lit (1))), (.bool (.lit (1))), (.bool (.lit (1))), (.bool (.lit (0))), (.func (.func 38) [] []), (.func (.func 28) [] []), (.func (.func 28) [] []), (.func (.func 39) [] []), (.int .u32 (.lit (1073741875)))]), (.bool (.lit (1)))]), objs := [], n := 104 })
               (.br (.eq (.var 0) (.lit (30)))
               (.ok { v := (.tuple [(.agg [(.int .i64 (.lit (30))), (.str (.slit [115, 108, 108])), (.int .u32 (.lit (4261441663))), (.bool (.lit (1))), (.bool (.lit (1))), (.bool (.lit (1))), (.bool (.lit (0))), (.func (.func 38) [] []), (.func (.func 28) [] []), (.func (.func 28) [] []), (.func (.func 39) [] []), (.int .u32 (.lit (4147)))]), (.bool (.lit (1)))]), objs := [], n := 108 })
               (.br (.eq (.var 0) (.lit (31)))
                (.ok { v := (.tuple [(.agg [(.int .i64 (.lit (31))), (.str (.slit [115, 108, 116])), (.int .u32 (.lit (4261441663))), (.bool (.lit (1))), (.bool (.lit (1))), (.bool (.lit (1))), (.bool (.lit (0))), (.func (.func 38) [] []), (.func (.func 28) [] []), (.func (.func 28) [] []), (.func (.func 39) [] []), (.int .u32 (.lit (8243)))]), (.bool (.lit (1)))]), objs := [], n := 110 })
                (.br (.eq (.var 0) (.lit (32)))
                (.ok { v := (.tuple [(.agg [(.int .i64 (.lit (32))), (.str (.slit [115, 108, 116, 117])), (.int .u32 (.lit (4261441663))), (.bool (.lit (1))), (.bool (.lit (1))), (.bool (.lit (1))), (.bool (.lit (0))), (.func (.func 38) [] []), (.func (.func 28) [] []), (.func (.func 28) [] []), (.func (.func 39) [] []), (.int .u32 (.lit (12339)))]), (.bool (.lit (1)))]), objs := [], n := 112 })
                (.br (.eq (.var 0) (.lit (33)))
                 (.ok { v := (.tuple [(.agg [(.int .i64 (.lit (33))), (.str (.slit [120, 111, 114])), (.int .u32 (.lit (4261441663))), (.bool (.lit (1))), (.bool (.lit (1))), (.bool (.lit (1))), (.bool (.lit (0))), (.func (.func 38) [] []), (.func (.func 28) [] []), (.func (.func 28) [] []), (.func (.func 39) [] []), (.int .u32 (.lit (16435)))]), (.bool (.lit (1)))]), objs := [], n := 114 })
                 (.br (.eq (.var 0) (.lit (34)))
                 (.ok { v := (.tuple [(.agg [(.int .i64 (.lit (34))), (.str (.slit [115, 114, 108])), (.int .u32 (.lit (4261441663))), (.bool (.lit (1))), (.bool (.lit (1))), (.bool (.lit (1))), (.bool (.lit (0))), (.func (.func 38) [] []), (.func (.func 28) [] []), (.func (.func 28) [] []), (.func (.func 39) [] []), (.int .u32 (.lit (20531)))]), (.bool (.lit (1)))]), objs := [], n := 116 })
                 (.br (.eq (.var 0) (.lit (35)))
                  (.ok { v := (.tuple [(.agg [(.int .i64 (.lit (35))), (.str (.slit [115, 114, 97])), (.int .u32 (.lit (4261441663))), (.bool (.lit (1))), (.bool (.lit (1))), (.bool (.lit (1))), (.bool (.lit (0))), (.func (.func 38) [] []), (.func (.func 28) [] []), (.func (.func 28) [] []), (.func (.func 39) [] []), (.int .u32 (.lit (1073762355)))]), (.bool (.lit (1)))]), objs := [], n := 118 })
                  (.br (.eq (.var 0) (.lit (36)))
                  (.ok { v := (.tuple [(.agg [(.int .i64 (.lit (36))), (.str (.slit [111, 114])), (.int .u32 (.lit (4261441663))), (.bool (.lit (1))), (.bool (.lit (1))), (.bool (.lit (1))), (.bool (.lit (0))), (.func (.func 38) [] []), (.func (.func 28) [] []), (.func (.func 28) [] []), (.func (.func 39) [] []), (.int .u32 (.lit (24627)))]), (.bool (.lit (1)))]), objs := [], n := 122 })
                  (.br (.eq (.var 0) (.lit (37)))
                   (.ok { v := (.tuple [(.agg [(.int .i64 (.lit (37))), (.str (.slit [97, 110, 100])), (.int .u32 (.lit (4261441663))), (.bool (.lit (1))), (.bool (.lit (1))), (.bool (.lit (1))), (.bool (.lit (0))), (.func (.func 38) [] []), (.func (.func 28) [] []), (.func (.func 28) [] []), (.func (.func 39) [] []), (.int .u32 (.lit (28723)))]), (.bool (.lit (1)))]), objs := [], n := 124 })
                   (.br (.eq (.var 0) (.lit (38)))
                   (.ok { v := (.tuple [(.agg [(.int .i64 (.lit (38))), (.str (.slit [102, 101, 110, 99, 101])), (.int .u32 (.lit (4027580415))), (.bool (.lit (0))), (.bool (.lit (0))), (.bool (.lit (0))), (.bool (.lit (0))), (.func (.func 65) [] [(.ptr 31 0), (.ptr 32 0)]), (.func (.func 59) [] []), (.func (.func 60) [] []), (.func (.func 36) [] []), (.int .u32 (.lit (15)))]), (.bool (.lit (1)))]), objs := [(32, .cells [(.int .i64 (.lit (255)))] 2 none), (31, .cells [(.int .i64 (.lit (0)))] 2 none)], n := 126 })
                   (.br (.eq (.var 0) (.lit (39)))
                    (.ok { v := (.tuple [(.agg [(.int .i64 (.lit (39))), (.str (.slit [101, 99, 97, 108, 108])), (.int .u32 (.lit (4294967295))), (.bool (.lit (0))), (.bool (.lit (0))), (.bool (.lit (0))), (.bool (.lit (0))), (.func (.func 38) [] []), (.func (.func 28) [] []), (.func (.func 28) [] []), (.func (.func 61) [] []), (.int .u32 (.lit (115)))]), (.bool (.lit (1)))]), objs := [], n := 128 })
                    (.br (.eq (.var 0) (.lit (40)))
                    (.ok { v := (.tuple [(.agg [(.int .i64 (.lit (40))), (.str (.slit [109, 117, 108])), (.int .u32 (.lit (4261441663))), (.bool (.lit (1))), (.bool (.lit (1))), (.bool (.lit (1))), (.bool (.lit (0))), (.func (.func 38) [] []), (.func (.func 28) [] []), (.func (.func 28) [] []), (.func (.func 39) [] []), (.int .u32 (.lit (33554483)))]), (.bool (.lit (1)))]), objs := [], n := 132 })
                    (.br (.eq (.var 0) (.lit (41)))
                     (.ok { v := (.tuple [(.agg [(.int .i64 (.lit (41))), (.str (.slit [109, 117, 108, 104])), (.int .u32 (.lit (4261441663))), (.bool (.lit (1))), (.bool (.lit (1))), (.bool (.lit (1))), (.bool (.lit (0))), (.func (.func 38) [] []), (.func (.func 28) [] []), (.func (.func 28) [] []), (.func (.func 39) [] []), (.int .u32 (.lit (33558579)))]), (.bool (.lit (1)))]), objs := [], n := 134 })
                     (.br (.eq (.var 0) (.lit (42)))
                     (.ok { v := (.tuple [(.agg [(.int .i64 (.lit (42))), (.str (.slit [109, 117, 108, 104, 115, 117])), (.int .u32 (.lit (4261441663))), (.bool (.lit (1))), (.bool (.lit (1))), (.bool (.lit (1))), (.bool (.lit (0))), (.func (.func 38) [] []), (.func (.func 28) [] []), (.func (.func 28) [] []), (.func (.func 39) [] []), (.int .u32 (.lit (33562675)))]), (.bool (.lit (1)))]), objs := [], n := 136 })
                     (.br (.eq (.var 0) (.lit (43)))
                      (.ok { v := (.tuple [(.agg [(.int .i64 (.lit (43))), (.str (.slit [109, 117, 108, 104, 117])), (.int .u32 (.lit (4261441663))), (.bool (.lit (1))), (.bool (.lit (1))), (.bool (.lit (1))), (.bool (.lit (0))), (.func (.func 38) [] []), (.func (.func 28) [] []), (.func (.func 28) [] []), (.func (.func 39) [] []), (.int .u32 (.lit (33566771)))]), (.bool (.lit (1)))]), objs := [], n := 138 })
                      (.br (.eq (.var 0) (.lit (44)))
                      (.ok { v := (.tuple [(.agg [(.int .i64 (.lit (44))), (.str (.slit [100, 105, 118])), (.int .u32 (.lit (4261441663))), (.bool (.lit (1))), (.bool (.lit (1))), (.bool (.lit (1))), (.bool (.lit (0))), (.func (.func 38) [] []), (.func (.func 28) [] []), (.func (.func 28) [] []), (.func (.func 39) [] []), (.int .u32 (.lit (33570867)))]), (.bool (.lit (1)))]), objs := [], n := 140 })
                      (.br (.eq (.var 0) (.lit (45)))
                       (.ok { v := (.tuple [(.agg [(.int .i64 (.lit (45))), (.str (.slit [100, 105, 118, 117])), (.int .u32 (.lit (4261441663))), (.bool (.lit (1))), (.bool (.lit (1))), (.bool (.lit (1))), (.bool (.lit (0))), (.func (.func 38) [] []), (.func (.func 28) [] []), (.func (.func 28) [] []), (.func (.func 39) [] []), (.int .u32 (.lit (33574963)))]), (.bool (.lit (1)))]), objs := [], n := 142 })
                       (.br (.eq (.var 0) (.lit (46)))
                       (.ok { v := (.tuple [(.agg [(.int .i64 (.lit (46))), (.str (.slit [114, 101, 109])), (.int .u32 (.lit (4261441663))), (.bool (.lit (1))), (.bool (.lit (1))), (.bool (.lit (1))), (.bool (.lit (0))), (.func (.func 38) [] []), (.func (.func 28) [] []), (.func (.func 28) [] []), (.func (.func 39) [] []), (.int .u32 (.lit (33579059)))]), (.bool (.lit (1)))]), objs := [], n := 144 })
                       (.br (.eq (.var 0) (.lit (47)))
                        (.ok { v := (.tuple [(.agg [(.int .i64 (.lit (47))), (.str (.slit [114, 101, 109, 117])), (.int .u32 (.lit (4261441663))), (.bool (.lit (1))), (.bool (.lit (1))), (.bool (.lit (1))), (.bool (.lit (0))), (.func (.func 38) [] []), (.func (.func 28) [] []), (.func (.func 28) [] []), (.func (.func 39) [] []), (.int .u32 (.lit (33583155)))]), (.bool (.lit (1)))]), objs := [], n := 146 })
                        (.br (.eq (.var 0) (.lit (48)))
                        (.ok { v := (.tuple [(.agg [(.int .i64 (.lit (48))), (.str (.slit [108, 114])), (.int .u32 (.lit (4193284223))), (.bool (.lit (1))), (.bool (.lit (1))), (.bool (.lit (0))), (.bool (.lit (1))), (.func (.func 38) [] []), (.func (.func 28) [] []), (.func (.func 28) [] []), (.func (.func 41) [] []), (.int .u32 (.lit (268443695)))]), (.bool (.lit (1)))]), objs := [], n := 150 })
                        (.br (.eq (.var 0) (.lit (49)))
                         (.ok { v := (.tuple [(.agg [(.int .i64 (.lit (49))), (.str (.slit [115, 99])), (.int .u32 (.lit (4160778367))), (.bool (.lit (1))), (.bool (.lit (1))), (.bool (.lit (1))), (.bool (.lit (1))), (.func (.func 38) [] []), (.func (.func 28) [] []), (.func (.func 28) [] []), (.func (.func 40) [] []), (.int .u32 (.lit (402661423)))]), (.bool (.lit (1)))]), objs := [], n := 154 })
                         (.br (.eq (.var 0) (.lit (50)))
                         (.ok { v := (.tuple [(.agg [(.int .i64 (.lit (50))), (.str (.slit [97, 109, 111, 115, 119, 97, 112])), (.int .u32 (.lit (4160778367))), (.bool (.lit (1))), (.bool (.lit (1))), (.bool (.lit (1))), (.bool (.lit (1))), (.func (.func 38) [] []), (.func (.func 28) [] []), (.func (.func 28) [] []), (.func (.func 40) [] []), (.int .u32 (.lit (134225967)))]), (.bool (.lit (1)))]), objs := [], n := 156 })
                         (.br (.eq (.var 0) (.lit (51)))
                          (.ok { v := (.tuple [(.agg [(.int .i64 (.lit (51))), (.str (.slit [97, 109, 111, 97, 100, 100])), (.int .u32 (.lit (4160778367))), (.bool (.lit (1))), (.bool (.lit (1))), (.bool (.lit (1))), (.bool (.lit (1))), (.func (.func 38) [] []), (.func (.func 28) [] []), (.func (.func 28) [] []), (.func (.func 40) [] []), (.int .u32 (.lit (8239)))]), (.bool (.lit (1)))]), objs := [], n := 158 })
                          (.br (.eq (.var 0) (.lit (52)))
                          (.ok { v := (.tuple [(.agg [(.int .i64 (.lit (52))), (.str (.slit [97, 109, 111, 120, 111, 114])), (.int .u32 (.lit (4160778367))), (.bool (.lit (1))), (.bool (.lit (1))), (.bool (.lit (1))), (.bool (.lit (1))), (.func (.func 38) [] []), (.func (.func 28) [] []), (.func (.func 28) [] []), (.func (.func 40) [] []), (.int .u32 (.lit (536879151)))]), (.bool (.lit (1)))]), objs := [], n := 160 })
                          (.br (.eq (.var 0) (.lit (53)))
                           (.ok { v := (.tuple [(.agg [(.int .i64 (.lit (53))), (.str (.slit [97, 109, 111, 97, 110, 100])), (.int .u32 (.lit (4160778367))), (.bool (.lit (1))), (.bool (.lit (1))), (.bool (.lit (1))), (.bool (.lit (1))), (.func (.func 38) [] []), (.func (.func 28) [] []), (.func (.func 28) [] []), (.func (.func 40) [] []), (.int .u32 (.lit (1610620975)))]), (.bool (.lit (1)))]), objs := [], n := 162 })
                           (.br (.eq (.var 0) (.lit (54)))
                           (.ok { v := (.tuple [(.agg [(.int .i64 (.lit (54))), (.str (.slit [97, 109, 111, 111, 114])), (.int .u32 (.lit (4160778367))), (.bool (.lit (1))), (.bool (.lit (1))), (.bool (.lit (1))), (.bool (.lit (1))), (.func (.func 38) [] []), (.func (.func 28) [] []), (.func (.func 28) [] []), (.func (.func 40) [] []), (.int .u32 (.lit (1073750063)))]), (.bool (.lit (1)))]), objs := [], n := 164 })
                           (.br (.eq (.var 0) (.lit (55)))
                            (.ok { v := (.tuple [(.agg [(.int .i64 (.lit (55))), (.str (.slit [97, 109, 111, 109, 105, 110])), (.int .u32 (.lit (4160778367))), (.bool (.lit (1))), (.bool (.lit (1))), (.bool (.lit (1))), (.bool (.lit (1))), (.func (.func 38) [] []), (.func (.func 28) [] []), (.func (.func 28) [] []), (.func (.func 40) [] []), (.int .u32 (.lit (2147491887)))]), (.bool (.lit (1)))]), objs := [], n := 166 })
                            (.br (.eq (.var 0) (.lit (56)))
                            (.ok { v := (.tuple [(.agg [(.int .i64 (.lit (56))), (.str (.slit [97, 109, 111, 109, 97, 120])), (.int .u32 (.lit (4160778367))), (.bool (.lit (1))), (.bool (.lit (1))), (.bool (.lit (1))), (.bool (.lit (1))), (.func (.func 38) [] []), (.func (.func 28) [] []), (.func (.func 28) [] []), (.func (.func 40) [] []), (.int .u32 (.lit (2684362799)))]), (.bool (.lit (1)))]), objs := [], n := 168 })
                            (.br (.eq (.var 0) (.lit (57)))
                             (.ok { v := (.tuple [(.agg [(.int .i64 (.lit (57))), (.str (.slit [97, 109, 111, 109, 105, 110, 117])), (.int .u32 (.lit (4160778367))), (.bool (.lit (1))), (.bool (.lit (1))), (.bool (.lit (1))), (.bool (.lit (1))), (.func (.func 38) [] []), (.func (.func 28) [] []), (.func (.func 28) [] []), (.func (.func 40) [] []), (.int .u32 (.lit (3221233711)))]), (.bool (.lit (1)))]), objs := [], n := 170 })
                             (.br (.eq (.var 0) (.lit (58)))
                             (.ok { v := (.tuple [(.agg [(.int .i64 (.lit (58))), (.str (.slit [97, 109, 111, 109, 97, 120, 117])), (.int .u32 (.lit (4160778367))), (.bool (.lit (1))), (.bool (.lit (1))), (.bool (.lit (1))), (.bool (.lit (1))), (.func (.func 38) [] []), (.func (.func 28) [] []), (.func (.func 28) [] []), (.func (.func 40) [] []), (.int .u32 (.lit (3758104623)))]), (.bool (.lit (1)))]), objs := [], n := 172 })
                             (.br (.eq (.var 0) (.lit (59)))
                              (.ok { v := (.tuple [(.agg [(.int .i64 (.lit (59))), (.str (.slit [104, 97, 114, 116, 105, 100])), (.int .u32 (.lit (4294963327))), (.bool (.lit (1))), (.bool (.lit (0))), (.bool (.lit (0))), (.bool (.lit (0))), (.func (.func 38) [] []), (.func (.func 28) [] []), (.func (.func 28) [] []), (.func (.func 62) [] []), (.int .u32 (.lit (4047511667)))]), (.bool (.lit (1)))]), objs := [], n := 174 })
                              (.ok { v := (.tuple [(.agg [(.int .i64 (.lit (0))), (.str (.slit [])), (.int .u32 (.lit (0))), (.bool (.lit (0))), (.bool (.lit (0))), (.bool (.lit (0))), (.bool (.lit (0))), .nilfunc, .nilfunc, .nilfunc, .nilfunc, (.int .u32 (.lit (0)))]), (.bool (.lit (0)))]), objs := [], n := 174 }))))))))))))))))))))))))))))))))))))))))))))))))))))))))))))
theorem sum20_0 : Row cx15 20 sum20_a0 sum20_r0 := .of (by kernel_rfl)
def sum20 : List (List V × R Leaf) := [(sum20_a0, sum20_r0)]
theorem sum20_ok : TabOk cx15 LStart 7 4000 20 sum20 := .cons rfl sum20_0 <| .nil
noncomputable def cx20 : Cx := { cx with dm := dmH, sm := smOf [(20, sumPar LStart 7 sum20), (15, sumPar LStart 7 sum15), (17, sumTab LStart 7 sum17), (14, sumTab LStart 7 sum14), (13, sumTab LStart 7 sum13), (11, sumTab LStart 7 sum11), (16, sumTab LStart 7 sum16), (23, sumTab LStart 7 sum23), (26, sumTab LStart 7 sum26)] }
def sum4_a0 : List V := []
def sum4_r0 : R Leaf := (.ok { v := (.bool (.lit (1))), objs := [], n := 168 })
theorem sum4_0 : Row cx20 4 sum4_a0 sum4_r0 := .of (by kernel_rfl)
def sum4 : List (List V × R Leaf) := [(sum4_a0, sum4_r0)]
theorem sum4_ok : TabOk cx20 LStart 7 4000 4 sum4 := .cons rfl sum4_0 <| .nil
noncomputable def cx4 : Cx := { cx with dm := dmH, sm := smOf [(4, sumTab LStart 7 sum4), (20, sumPar LStart 7 sum20), (15, sumPar LStart 7 sum15), (17, sumTab LStart 7 sum17), (14, sumTab LStart 7 sum14), (13, sumTab LStart 7 sum13), (11, sumTab LStart 7 sum11), (16, sumTab LStart 7 sum16), (23, sumTab LStart 7 sum23), (26, sumTab LStart 7 sum26)] }
end Go.Proofs.YtkkfbmjelanjgaaDoor
