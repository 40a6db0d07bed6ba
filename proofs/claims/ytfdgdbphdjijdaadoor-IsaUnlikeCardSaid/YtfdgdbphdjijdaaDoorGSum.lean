/- What some functions leave, by runs. No condition. -/
import Derived.Test.YtfdgdbphdjijdaaDoorGDoor
namespace Go.Proofs.YtfdgdbphdjijdaaDoor
open Go Go.Proofs
set_option maxRecDepth 100000
def sum28_a0 : List V := [(.str (.slit [98, 101, 113, 32, 98, 110, 101, 32, 98, 108, 116, 32, 98, 103, 101, 32, 98, 108, 116, 117, 32, 98, 103, 101, 117]))]
def sum28_r0 : R Leaf := (.ok { v := (.slice 7 0 6 (.known 6)), objs := [(7, .cells [(.str (.slit [98, 101, 113])), (.str (.slit [98, 110, 101])), (.str (.slit [98, 108, 116])), (.str (.slit [98, 103, 101])), (.str (.slit [98, 108, 116, 117])), (.str (.slit [98, 103, 101, 117]))] 9 none)], n := 8 })
theorem sum28_0 : Row cxD 28 sum28_a0 sum28_r0 := .of (by kernel_rfl)
def sum28_a1 : List V := [(.str (.slit [108, 98, 32, 108, 104, 32, 108, 119, 32, 108, 98, 117, 32, 108, 104, 117]))]
def sum28_r1 : R Leaf := (.ok { v := (.slice 7 0 5 (.known 5)), objs := [(7, .cells [(.str (.slit [108, 98])), (.str (.slit [108, 104])), (.str (.slit [108, 119])), (.str (.slit [108, 98, 117])), (.str (.slit [108, 104, 117]))] 9 none)], n := 8 })
theorem sum28_1 : Row cxD 28 sum28_a1 sum28_r1 := .of (by kernel_rfl)
def sum28_a2 : List V := [(.str (.slit [115, 98, 32, 115, 104, 32, 115, 119]))]
def sum28_r2 : R Leaf := (.ok { v := (.slice 7 0 3 (.known 3)), objs := [(7, .cells [(.str (.slit [115, 98])), (.str (.slit [115, 104])), (.str (.slit [115, 119]))] 9 none)], n := 8 })
theorem sum28_2 : Row cxD 28 sum28_a2 sum28_r2 := .of (by kernel_rfl)
def sum28_a3 : List V := [(.str (.slit [97, 100, 100, 105, 32, 115, 108, 116, 105, 32, 115, 108, 116, 105, 117, 32, 120, 111, 114, 105, 32, 111, 114, 105, 32, 97, 110, 100, 105]))]
def sum28_r3 : R Leaf := (.ok { v := (.slice 7 0 6 (.known 6)), objs := [(7, .cells [(.str (.slit [97, 100, 100, 105])), (.str (.slit [115, 108, 116, 105])), (.str (.slit [115, 108, 116, 105, 117])), (.str (.slit [120, 111, 114, 105])), (.str (.slit [111, 114, 105])), (.str (.slit [97, 110, 100, 105]))] 9 none)], n := 8 })
theorem sum28_3 : Row cxD 28 sum28_a3 sum28_r3 := .of (by kernel_rfl)
def sum28_a4 : List V := [(.str (.slit [115, 108, 108, 105, 32, 115, 114, 108, 105]))]
def sum28_r4 : R Leaf := (.ok { v := (.slice 7 0 2 (.known 2)), objs := [(7, .cells [(.str (.slit [115, 108, 108, 105])), (.str (.slit [115, 114, 108, 105]))] 9 none)], n := 8 })
theorem sum28_4 : Row cxD 28 sum28_a4 sum28_r4 := .of (by kernel_rfl)
def sum28_a5 : List V := [(.str (.slit [115, 108, 108, 32, 115, 108, 116, 32, 115, 108, 116, 117, 32, 120, 111, 114, 32, 115, 114, 108]))]
def sum28_r5 : R Leaf := (.ok { v := (.slice 7 0 5 (.known 5)), objs := [(7, .cells [(.str (.slit [115, 108, 108])), (.str (.slit [115, 108, 116])), (.str (.slit [115, 108, 116, 117])), (.str (.slit [120, 111, 114])), (.str (.slit [115, 114, 108]))] 9 none)], n := 8 })
theorem sum28_5 : Row cxD 28 sum28_a5 sum28_r5 := .of (by kernel_rfl)
def sum28_a6 : List V := [(.str (.slit [111, 114, 32, 97, 110, 100]))]
def sum28_r6 : R Leaf := (.ok { v := (.slice 7 0 2 (.known 2)), objs := [(7, .cells [(.str (.slit [111, 114])), (.str (.slit [97, 110, 100]))] 9 none)], n := 8 })
theorem sum28_6 : Row cxD 28 sum28_a6 sum28_r6 := .of (by kernel_rfl)
def sum28_a7 : List V := [(.str (.slit [109, 117, 108, 32, 109, 117, 108, 104, 32, 109, 117, 108, 104, 115, 117, 32, 109, 117, 108, 104, 117, 32, 100, 105, 118, 32, 100, 105, 118, 117, 32, 114, 101, 109, 32, 114, 101, 109, 117]))]
def sum28_r7 : R Leaf := (.ok { v := (.slice 7 0 8 (.known 8)), objs := [(7, .cells [(.str (.slit [109, 117, 108])), (.str (.slit [109, 117, 108, 104])), (.str (.slit [109, 117, 108, 104, 115, 117])), (.str (.slit [109, 117, 108, 104, 117])), (.str (.slit [100, 105, 118])), (.str (.slit [100, 105, 118, 117])), (.str (.slit [114, 101, 109])), (.str (.slit [114, 101, 109, 117]))] 9 none)], n := 8 })
theorem sum28_7 : Row cxD 28 sum28_a7 sum28_r7 := .of (by kernel_rfl)
def sum28_a8 : List V := [(.str (.slit [108, 114]))]
def sum28_r8 : R Leaf := (.ok { v := (.slice 7 0 1 (.known 1)), objs := [(7, .cells [(.str (.slit [108, 114]))] 9 none)], n := 8 })
theorem sum28_8 : Row cxD 28 sum28_a8 sum28_r8 := .of (by kernel_rfl)
def sum28_a9 : List V := [(.str (.slit [115, 99, 32, 97, 109, 111, 115, 119, 97, 112, 32, 97, 109, 111, 97, 100, 100, 32, 97, 109, 111, 120, 111, 114, 32, 97, 109, 111, 97, 110, 100, 32, 97, 109, 111, 111, 114, 32, 97, 109, 111, 109, 105, 110, 32, 97, 109, 111, 109, 97, 120, 32, 97, 109, 111, 109, 105, 110, 117, 32, 97, 109, 111, 109, 97, 120, 117]))]
def sum28_r9 : R Leaf := (.ok { v := (.slice 7 0 10 (.known 10)), objs := [(7, .cells [(.str (.slit [115, 99])), (.str (.slit [97, 109, 111, 115, 119, 97, 112])), (.str (.slit [97, 109, 111, 97, 100, 100])), (.str (.slit [97, 109, 111, 120, 111, 114])), (.str (.slit [97, 109, 111, 97, 110, 100])), (.str (.slit [97, 109, 111, 111, 114])), (.str (.slit [97, 109, 111, 109, 105, 110])), (.str (.slit [97, 109, 111, 109, 97, 120])), (.str (.slit [97, 109, 111, 109, 105, 110, 117])), (.str (.slit [97, 109, 111, 109, 97, 120, 117]))] 9 none)], n := 8 })
theorem sum28_9 : Row cxD 28 sum28_a9 sum28_r9 := .of (by kernel_rfl)
def sum28 : List (List V × R Leaf) := [(sum28_a0, sum28_r0), (sum28_a1, sum28_r1), (sum28_a2, sum28_r2), (sum28_a3, sum28_r3), (sum28_a4, sum28_r4), (sum28_a5, sum28_r5), (sum28_a6, sum28_r6), (sum28_a7, sum28_r7), (sum28_a8, sum28_r8), (sum28_a9, sum28_r9)]
theorem sum28_ok : TabOk cxD LStart 7 4000 28 sum28 := .cons rfl sum28_0 <| .cons rfl sum28_1 <| .cons rfl sum28_2 <| .cons rfl sum28_3 <| .cons rfl sum28_4 <| .cons rfl sum28_5 <| .cons rfl sum28_6 <| .cons rfl sum28_7 <| .cons rfl sum28_8 <| .cons rfl sum28_9 <| .nil
noncomputable def cx28 : Cx := { cx with dm := dmH, sm := smOf [(28, sumTab LStart 7 sum28)] }
def sum25_a0 : List V := []
def sum25_r0 : R Leaf := (.ok { v := (.map 14), objs := [(21, .cells [(.int .i64 (.lit (4094)))] 2 none), (20, .cells [(.int .i64 (.lit (-4096)))] 2 none), (16, .cells [(.int .i64 (.lit (1048574)))] 2 none), (15, .cells [(.int .i64 (.lit (-1048576)))] 2 none), (8, .cells [(.int .i64 (.lit (2047)))] 2 none), (7, .cells [(.int .i64 (.lit (-2048)))] 2 none), (17, .cells [(.func (.func 77) [] [(.ptr 15 0), (.ptr 16 0)])] 35 none), (19, .cells [(.int .i64 (.lit (31)))] 2 none), (18, .cells [(.int .i64 (.lit (0)))] 2 none), (22, .cells [(.func (.func 77) [] [(.ptr 20 0), (.ptr 21 0)])] 35 none), (24, .cells [(.int .i64 (.lit (2047)))] 2 none), (23, .cells [(.int .i64 (.lit (-2048)))] 2 none), (26, .cells [(.int .i64 (.lit (255)))] 2 none), (25, .cells [(.int .i64 (.lit (0)))] 2 none), (14, .map [((.str (.slit [102, 101, 110, 99, 101])), (.agg [(.int .u32 (.lit (4027580415))), (.bool (.lit (0))), (.bool (.lit (0))), (.bool (.lit (0))), (.bool (.lit (0))), (.func (.func 77) [] [(.ptr 25 0), (.ptr 26 0)]), (.func (.func 66) [] []), (.func (.func 67) [] []), (.func (.func 43) [] [])])), ((.str (.slit [115])), (.agg [(.int .u32 (.lit (28799))), (.bool (.lit (0))), (.bool (.lit (1))), (.bool (.lit (1))), (.bool (.lit (0))), (.func (.func 77) [] [(.ptr 23 0), (.ptr 24 0)]), (.func (.func 63) [] []), (.func (.func 64) [] []), (.func (.func 65) [] [])])), ((.str (.slit [98])), (.agg [(.int .u32 (.lit (28799))), (.bool (.lit (0))), (.bool (.lit (1))), (.bool (.lit (1))), (.bool (.lit (0))), (.func (.func 81) [] [(.ptr 22 0)]), (.func (.func 60) [] []), (.func (.func 61) [] []), (.func (.func 62) [] [])])), ((.str (.slit [115, 104, 105, 102, 116])), (.agg [(.int .u32 (.lit (4261441663))), (.bool (.lit (1))), (.bool (.lit (1))), (.bool (.lit (0))), (.bool (.lit (0))), (.func (.func 77) [] [(.ptr 18 0), (.ptr 19 0)]), (.func (.func 58) [] []), (.func (.func 59) [] []), (.func (.func 40) [] [])])), ((.str (.slit [106])), (.agg [(.int .u32 (.lit (127))), (.bool (.lit (1))), (.bool (.lit (0))), (.bool (.lit (0))), (.bool (.lit (0))), (.func (.func 81) [] [(.ptr 17 0)]), (.func (.func 55) [] []), (.func (.func 56) [] []), (.func (.func 57) [] [])])), ((.str (.slit [99, 115, 114])), (.agg [(.int .u32 (.lit (4294963327))), (.bool (.lit (1))), (.bool (.lit (0))), (.bool (.lit (0))), (.bool (.lit (0))), (.func (.func 45) [] []), (.func (.func 35) [] []), (.func (.func 35) [] []), (.func (.func 69) [] [])])), ((.str (.slit [97])), (.agg [(.int .u32 (.lit (4160778367))), (.bool (.lit (1))), (.bool (.lit (1))), (.bool (.lit (1))), (.bool (.lit (1))), (.func (.func 45) [] []), (.func (.func 35) [] []), (.func (.func 35) [] []), (.func (.func 47) [] [])])), ((.str (.slit [108, 114])), (.agg [(.int .u32 (.lit (4193284223))), (.bool (.lit (1))), (.bool (.lit (1))), (.bool (.lit (0))), (.bool (.lit (1))), (.func (.func 45) [] []), (.func (.func 35) [] []), (.func (.func 35) [] []), (.func (.func 48) [] [])])), ((.str (.slit [97, 108, 108])), (.agg [(.int .u32 (.lit (4294967295))), (.bool (.lit (0))), (.bool (.lit (0))), (.bool (.lit (0))), (.bool (.lit (0))), (.func (.func 45) [] []), (.func (.func 35) [] []), (.func (.func 35) [] []), (.func (.func 68) [] [])])), ((.str (.slit [114])), (.agg [(.int .u32 (.lit (4261441663))), (.bool (.lit (1))), (.bool (.lit (1))), (.bool (.lit (1))), (.bool (.lit (0))), (.func (.func 45) [] []), (.func (.func 35) [] []), (.func (.func 35) [] []), (.func (.func 46) [] [])])), ((.str (.slit [108, 111, 97, 100])), (.agg [(.int .u32 (.lit (28799))), (.bool (.lit (1))), (.bool (.lit (1))), (.bool (.lit (0))), (.bool (.lit (0))), (.func (.func 77) [] [(.ptr 7 0), (.ptr 8 0)]), (.func (.func 39) [] []), (.func (.func 36) [] []), (.func (.func 44) [] [])])), ((.str (.slit [105])), (.agg [(.int .u32 (.lit (28799))), (.bool (.lit (1))), (.bool (.lit (1))), (.bool (.lit (0))), (.bool (.lit (0))), (.func (.func 77) [] [(.ptr 7 0), (.ptr 8 0)]), (.func (.func 39) [] []), (.func (.func 36) [] []), (.func (.func 40) [] [])])), ((.str (.slit [117])), (.agg [(.int .u32 (.lit (127))), (.bool (.lit (1))), (.bool (.lit (0))), (.bool (.lit (0))), (.bool (.lit (0))), (.func (.func 49) [] []), (.func (.func 50) [] []), (.func (.func 51) [] []), (.func (.func 52) [] [])]))])], n := 27 })
theorem sum25_0 : Row cx28 25 sum25_a0 sum25_r0 := .of (by kernel_rfl)
def sum25 : List (List V × R Leaf) := [(sum25_a0, sum25_r0)]
theorem sum25_ok : TabOk cx28 LStart 7 4000 25 sum25 := .cons rfl sum25_0 <| .nil
noncomputable def cx25 : Cx := { cx with dm := dmH, sm := smOf [(25, sumTab LStart 7 sum25), (28, sumTab LStart 7 sum28)] }
def sum11_a0 : List V := [(.int .i64 (.lit (1)))]
def sum11_r0 : R Leaf := (.ok { v := (.int .u8 (.lit (117))), objs := [], n := 7 })
theorem sum11_0 : Row cx25 11 sum11_a0 sum11_r0 := .of (by kernel_rfl)
def sum11_a1 : List V := [(.int .i64 (.lit (2)))]
def sum11_r1 : R Leaf := (.ok { v := (.int .u8 (.lit (117))), objs := [], n := 7 })
theorem sum11_1 : Row cx25 11 sum11_a1 sum11_r1 := .of (by kernel_rfl)
def sum11_a2 : List V := [(.int .i64 (.lit (3)))]
def sum11_r2 : R Leaf := (.ok { v := (.int .u8 (.lit (106))), objs := [], n := 7 })
theorem sum11_2 : Row cx25 11 sum11_a2 sum11_r2 := .of (by kernel_rfl)
def sum11_a3 : List V := [(.int .i64 (.lit (4)))]
def sum11_r3 : R Leaf := (.ok { v := (.int .u8 (.lit (108))), objs := [], n := 7 })
theorem sum11_3 : Row cx25 11 sum11_a3 sum11_r3 := .of (by kernel_rfl)
def sum11_a4 : List V := [(.int .i64 (.lit (5)))]
def sum11_r4 : R Leaf := (.ok { v := (.int .u8 (.lit (98))), objs := [], n := 7 })
theorem sum11_4 : Row cx25 11 sum11_a4 sum11_r4 := .of (by kernel_rfl)
def sum11_a5 : List V := [(.int .i64 (.lit (6)))]
def sum11_r5 : R Leaf := (.ok { v := (.int .u8 (.lit (98))), objs := [], n := 7 })
theorem sum11_5 : Row cx25 11 sum11_a5 sum11_r5 := .of (by kernel_rfl)
def sum11_a6 : List V := [(.int .i64 (.lit (7)))]
def sum11_r6 : R Leaf := (.ok { v := (.int .u8 (.lit (98))), objs := [], n := 7 })
theorem sum11_6 : Row cx25 11 sum11_a6 sum11_r6 := .of (by kernel_rfl)
def sum11_a7 : List V := [(.int .i64 (.lit (8)))]
def sum11_r7 : R Leaf := (.ok { v := (.int .u8 (.lit (98))), objs := [], n := 7 })
theorem sum11_7 : Row cx25 11 sum11_a7 sum11_r7 := .of (by kernel_rfl)
def sum11_a8 : List V := [(.int .i64 (.lit (9)))]
def sum11_r8 : R Leaf := (.ok { v := (.int .u8 (.lit (98))), objs := [], n := 7 })
theorem sum11_8 : Row cx25 11 sum11_a8 sum11_r8 := .of (by kernel_rfl)
def sum11_a9 : List V := [(.int .i64 (.lit (10)))]
def sum11_r9 : R Leaf := (.ok { v := (.int .u8 (.lit (98))), objs := [], n := 7 })
theorem sum11_9 : Row cx25 11 sum11_a9 sum11_r9 := .of (by kernel_rfl)
def sum11_a10 : List V := [(.int .i64 (.lit (11)))]
def sum11_r10 : R Leaf := (.ok { v := (.int .u8 (.lit (108))), objs := [], n := 7 })
theorem sum11_10 : Row cx25 11 sum11_a10 sum11_r10 := .of (by kernel_rfl)
def sum11_a11 : List V := [(.int .i64 (.lit (12)))]
def sum11_r11 : R Leaf := (.ok { v := (.int .u8 (.lit (108))), objs := [], n := 7 })
theorem sum11_11 : Row cx25 11 sum11_a11 sum11_r11 := .of (by kernel_rfl)
def sum11_a12 : List V := [(.int .i64 (.lit (13)))]
def sum11_r12 : R Leaf := (.ok { v := (.int .u8 (.lit (108))), objs := [], n := 7 })
theorem sum11_12 : Row cx25 11 sum11_a12 sum11_r12 := .of (by kernel_rfl)
def sum11_a13 : List V := [(.int .i64 (.lit (14)))]
def sum11_r13 : R Leaf := (.ok { v := (.int .u8 (.lit (108))), objs := [], n := 7 })
theorem sum11_13 : Row cx25 11 sum11_a13 sum11_r13 := .of (by kernel_rfl)
def sum11_a14 : List V := [(.int .i64 (.lit (15)))]
def sum11_r14 : R Leaf := (.ok { v := (.int .u8 (.lit (108))), objs := [], n := 7 })
theorem sum11_14 : Row cx25 11 sum11_a14 sum11_r14 := .of (by kernel_rfl)
def sum11_a15 : List V := [(.int .i64 (.lit (16)))]
def sum11_r15 : R Leaf := (.ok { v := (.int .u8 (.lit (115))), objs := [], n := 7 })
theorem sum11_15 : Row cx25 11 sum11_a15 sum11_r15 := .of (by kernel_rfl)
def sum11_a16 : List V := [(.int .i64 (.lit (17)))]
def sum11_r16 : R Leaf := (.ok { v := (.int .u8 (.lit (115))), objs := [], n := 7 })
theorem sum11_16 : Row cx25 11 sum11_a16 sum11_r16 := .of (by kernel_rfl)
def sum11_a17 : List V := [(.int .i64 (.lit (18)))]
def sum11_r17 : R Leaf := (.ok { v := (.int .u8 (.lit (115))), objs := [], n := 7 })
theorem sum11_17 : Row cx25 11 sum11_a17 sum11_r17 := .of (by kernel_rfl)
def sum11_a18 : List V := [(.int .i64 (.lit (19)))]
def sum11_r18 : R Leaf := (.ok { v := (.int .u8 (.lit (105))), objs := [], n := 7 })
theorem sum11_18 : Row cx25 11 sum11_a18 sum11_r18 := .of (by kernel_rfl)
def sum11_a19 : List V := [(.int .i64 (.lit (20)))]
def sum11_r19 : R Leaf := (.ok { v := (.int .u8 (.lit (105))), objs := [], n := 7 })
theorem sum11_19 : Row cx25 11 sum11_a19 sum11_r19 := .of (by kernel_rfl)
def sum11_a20 : List V := [(.int .i64 (.lit (21)))]
def sum11_r20 : R Leaf := (.ok { v := (.int .u8 (.lit (105))), objs := [], n := 7 })
theorem sum11_20 : Row cx25 11 sum11_a20 sum11_r20 := .of (by kernel_rfl)
def sum11_a21 : List V := [(.int .i64 (.lit (22)))]
def sum11_r21 : R Leaf := (.ok { v := (.int .u8 (.lit (105))), objs := [], n := 7 })
theorem sum11_21 : Row cx25 11 sum11_a21 sum11_r21 := .of (by kernel_rfl)
def sum11_a22 : List V := [(.int .i64 (.lit (23)))]
def sum11_r22 : R Leaf := (.ok { v := (.int .u8 (.lit (105))), objs := [], n := 7 })
theorem sum11_22 : Row cx25 11 sum11_a22 sum11_r22 := .of (by kernel_rfl)
def sum11_a23 : List V := [(.int .i64 (.lit (24)))]
def sum11_r23 : R Leaf := (.ok { v := (.int .u8 (.lit (105))), objs := [], n := 7 })
theorem sum11_23 : Row cx25 11 sum11_a23 sum11_r23 := .of (by kernel_rfl)
def sum11_a24 : List V := [(.int .i64 (.lit (25)))]
def sum11_r24 : R Leaf := (.ok { v := (.int .u8 (.lit (104))), objs := [], n := 7 })
theorem sum11_24 : Row cx25 11 sum11_a24 sum11_r24 := .of (by kernel_rfl)
def sum11_a25 : List V := [(.int .i64 (.lit (26)))]
def sum11_r25 : R Leaf := (.ok { v := (.int .u8 (.lit (104))), objs := [], n := 7 })
theorem sum11_25 : Row cx25 11 sum11_a25 sum11_r25 := .of (by kernel_rfl)
def sum11_a26 : List V := [(.int .i64 (.lit (27)))]
def sum11_r26 : R Leaf := (.ok { v := (.int .u8 (.lit (104))), objs := [], n := 7 })
theorem sum11_26 : Row cx25 11 sum11_a26 sum11_r26 := .of (by kernel_rfl)
def sum11_a27 : List V := [(.int .i64 (.lit (28)))]
def sum11_r27 : R Leaf := (.ok { v := (.int .u8 (.lit (114))), objs := [], n := 7 })
theorem sum11_27 : Row cx25 11 sum11_a27 sum11_r27 := .of (by kernel_rfl)
def sum11_a28 : List V := [(.int .i64 (.lit (29)))]
def sum11_r28 : R Leaf := (.ok { v := (.int .u8 (.lit (114))), objs := [], n := 7 })
theorem sum11_28 : Row cx25 11 sum11_a28 sum11_r28 := .of (by kernel_rfl)
def sum11_a29 : List V := [(.int .i64 (.lit (30)))]
def sum11_r29 : R Leaf := (.ok { v := (.int .u8 (.lit (114))), objs := [], n := 7 })
theorem sum11_29 : Row cx25 11 sum11_a29 sum11_r29 := .of (by kernel_rfl)
def sum11_a30 : List V := [(.int .i64 (.lit (31)))]
def sum11_r30 : R Leaf := (.ok { v := (.int .u8 (.lit (114))), objs := [], n := 7 })
theorem sum11_30 : Row cx25 11 sum11_a30 sum11_r30 := .of (by kernel_rfl)
def sum11_a31 : List V := [(.int .i64 (.lit (32)))]
def sum11_r31 : R Leaf := (.ok { v := (.int .u8 (.lit (114))), objs := [], n := 7 })
theorem sum11_31 : Row cx25 11 sum11_a31 sum11_r31 := .of (by kernel_rfl)
def sum11_a32 : List V := [(.int .i64 (.lit (33)))]
def sum11_r32 : R Leaf := (.ok { v := (.int .u8 (.lit (114))), objs := [], n := 7 })
theorem sum11_32 : Row cx25 11 sum11_a32 sum11_r32 := .of (by kernel_rfl)
def sum11_a33 : List V := [(.int .i64 (.lit (34)))]
def sum11_r33 : R Leaf := (.ok { v := (.int .u8 (.lit (114))), objs := [], n := 7 })
theorem sum11_33 : Row cx25 11 sum11_a33 sum11_r33 := .of (by kernel_rfl)
def sum11_a34 : List V := [(.int .i64 (.lit (35)))]
def sum11_r34 : R Leaf := (.ok { v := (.int .u8 (.lit (114))), objs := [], n := 7 })
theorem sum11_34 : Row cx25 11 sum11_a34 sum11_r34 := .of (by kernel_rfl)
def sum11_a35 : List V := [(.int .i64 (.lit (36)))]
def sum11_r35 : R Leaf := (.ok { v := (.int .u8 (.lit (114))), objs := [], n := 7 })
theorem sum11_35 : Row cx25 11 sum11_a35 sum11_r35 := .of (by kernel_rfl)
def sum11_a36 : List V := [(.int .i64 (.lit (37)))]
def sum11_r36 : R Leaf := (.ok { v := (.int .u8 (.lit (114))), objs := [], n := 7 })
theorem sum11_36 : Row cx25 11 sum11_a36 sum11_r36 := .of (by kernel_rfl)
def sum11_a37 : List V := [(.int .i64 (.lit (38)))]
def sum11_r37 : R Leaf := (.ok { v := (.int .u8 (.lit (102))), objs := [], n := 7 })
theorem sum11_37 : Row cx25 11 sum11_a37 sum11_r37 := .of (by kernel_rfl)
def sum11_a38 : List V := [(.int .i64 (.lit (39)))]
def sum11_r38 : R Leaf := (.ok { v := (.int .u8 (.lit (101))), objs := [], n := 7 })
theorem sum11_38 : Row cx25 11 sum11_a38 sum11_r38 := .of (by kernel_rfl)
def sum11_a39 : List V := [(.int .i64 (.lit (40)))]
def sum11_r39 : R Leaf := (.ok { v := (.int .u8 (.lit (114))), objs := [], n := 7 })
theorem sum11_39 : Row cx25 11 sum11_a39 sum11_r39 := .of (by kernel_rfl)
def sum11_a40 : List V := [(.int .i64 (.lit (41)))]
def sum11_r40 : R Leaf := (.ok { v := (.int .u8 (.lit (114))), objs := [], n := 7 })
theorem sum11_40 : Row cx25 11 sum11_a40 sum11_r40 := .of (by kernel_rfl)
def sum11_a41 : List V := [(.int .i64 (.lit (42)))]
def sum11_r41 : R Leaf := (.ok { v := (.int .u8 (.lit (114))), objs := [], n := 7 })
theorem sum11_41 : Row cx25 11 sum11_a41 sum11_r41 := .of (by kernel_rfl)
def sum11_a42 : List V := [(.int .i64 (.lit (43)))]
def sum11_r42 : R Leaf := (.ok { v := (.int .u8 (.lit (114))), objs := [], n := 7 })
theorem sum11_42 : Row cx25 11 sum11_a42 sum11_r42 := .of (by kernel_rfl)
def sum11_a43 : List V := [(.int .i64 (.lit (44)))]
def sum11_r43 : R Leaf := (.ok { v := (.int .u8 (.lit (114))), objs := [], n := 7 })
theorem sum11_43 : Row cx25 11 sum11_a43 sum11_r43 := .of (by kernel_rfl)
def sum11_a44 : List V := [(.int .i64 (.lit (45)))]
def sum11_r44 : R Leaf := (.ok { v := (.int .u8 (.lit (114))), objs := [], n := 7 })
theorem sum11_44 : Row cx25 11 sum11_a44 sum11_r44 := .of (by kernel_rfl)
def sum11_a45 : List V := [(.int .i64 (.lit (46)))]
def sum11_r45 : R Leaf := (.ok { v := (.int .u8 (.lit (114))), objs := [], n := 7 })
theorem sum11_45 : Row cx25 11 sum11_a45 sum11_r45 := .of (by kernel_rfl)
def sum11_a46 : List V := [(.int .i64 (.lit (47)))]
def sum11_r46 : R Leaf := (.ok { v := (.int .u8 (.lit (114))), objs := [], n := 7 })
theorem sum11_46 : Row cx25 11 sum11_a46 sum11_r46 := .of (by kernel_rfl)
def sum11_a47 : List V := [(.int .i64 (.lit (48)))]
def sum11_r47 : R Leaf := (.ok { v := (.int .u8 (.lit (113))), objs := [], n := 7 })
theorem sum11_47 : Row cx25 11 sum11_a47 sum11_r47 := .of (by kernel_rfl)
def sum11_a48 : List V := [(.int .i64 (.lit (49)))]
def sum11_r48 : R Leaf := (.ok { v := (.int .u8 (.lit (97))), objs := [], n := 7 })
theorem sum11_48 : Row cx25 11 sum11_a48 sum11_r48 := .of (by kernel_rfl)
def sum11_a49 : List V := [(.int .i64 (.lit (50)))]
def sum11_r49 : R Leaf := (.ok { v := (.int .u8 (.lit (97))), objs := [], n := 7 })
theorem sum11_49 : Row cx25 11 sum11_a49 sum11_r49 := .of (by kernel_rfl)
def sum11_a50 : List V := [(.int .i64 (.lit (51)))]
def sum11_r50 : R Leaf := (.ok { v := (.int .u8 (.lit (97))), objs := [], n := 7 })
theorem sum11_50 : Row cx25 11 sum11_a50 sum11_r50 := .of (by kernel_rfl)
def sum11_a51 : List V := [(.int .i64 (.lit (52)))]
def sum11_r51 : R Leaf := (.ok { v := (.int .u8 (.lit (97))), objs := [], n := 7 })
theorem sum11_51 : Row cx25 11 sum11_a51 sum11_r51 := .of (by kernel_rfl)
def sum11_a52 : List V := [(.int .i64 (.lit (53)))]
def sum11_r52 : R Leaf := (.ok { v := (.int .u8 (.lit (97))), objs := [], n := 7 })
theorem sum11_52 : Row cx25 11 sum11_a52 sum11_r52 := .of (by kernel_rfl)
def sum11_a53 : List V := [(.int .i64 (.lit (54)))]
def sum11_r53 : R Leaf := (.ok { v := (.int .u8 (.lit (97))), objs := [], n := 7 })
theorem sum11_53 : Row cx25 11 sum11_a53 sum11_r53 := .of (by kernel_rfl)
def sum11_a54 : List V := [(.int .i64 (.lit (55)))]
def sum11_r54 : R Leaf := (.ok { v := (.int .u8 (.lit (97))), objs := [], n := 7 })
theorem sum11_54 : Row cx25 11 sum11_a54 sum11_r54 := .of (by kernel_rfl)
def sum11_a55 : List V := [(.int .i64 (.lit (56)))]
def sum11_r55 : R Leaf := (.ok { v := (.int .u8 (.lit (97))), objs := [], n := 7 })
theorem sum11_55 : Row cx25 11 sum11_a55 sum11_r55 := .of (by kernel_rfl)
def sum11_a56 : List V := [(.int .i64 (.lit (57)))]
def sum11_r56 : R Leaf := (.ok { v := (.int .u8 (.lit (97))), objs := [], n := 7 })
theorem sum11_56 : Row cx25 11 sum11_a56 sum11_r56 := .of (by kernel_rfl)
def sum11_a57 : List V := [(.int .i64 (.lit (58)))]
def sum11_r57 : R Leaf := (.ok { v := (.int .u8 (.lit (97))), objs := [], n := 7 })
theorem sum11_57 : Row cx25 11 sum11_a57 sum11_r57 := .of (by kernel_rfl)
def sum11_a58 : List V := [(.int .i64 (.lit (59)))]
def sum11_r58 : R Leaf := (.ok { v := (.int .u8 (.lit (99))), objs := [], n := 7 })
theorem sum11_58 : Row cx25 11 sum11_a58 sum11_r58 := .of (by kernel_rfl)
def sum11 : List (List V × R Leaf) := [(sum11_a0, sum11_r0), (sum11_a1, sum11_r1), (sum11_a2, sum11_r2), (sum11_a3, sum11_r3), (sum11_a4, sum11_r4), (sum11_a5, sum11_r5), (sum11_a6, sum11_r6), (sum11_a7, sum11_r7), (sum11_a8, sum11_r8), (sum11_a9, sum11_r9), (sum11_a10, sum11_r10), (sum11_a11, sum11_r11), (sum11_a12, sum11_r12), (sum11_a13, sum11_r13), (sum11_a14, sum11_r14), (sum11_a15, sum11_r15), (sum11_a16, sum11_r16), (sum11_a17, sum11_r17), (sum11_a18, sum11_r18), (sum11_a19, sum11_r19), (sum11_a20, sum11_r20), (sum11_a21, sum11_r21), (sum11_a22, sum11_r22), (sum11_a23, sum11_r23), (sum11_a24, sum11_r24), (sum11_a25, sum11_r25), (sum11_a26, sum11_r26), (sum11_a27, sum11_r27), (sum11_a28, sum11_r28), (sum11_a29, sum11_r29), (sum11_a30, sum11_r30), (sum11_a31, sum11_r31), (sum11_a32, sum11_r32), (sum11_a33, sum11_r33), (sum11_a34, sum11_r34), (sum11_a35, sum11_r35), (sum11_a36, sum11_r36), (sum11_a37, sum11_r37), (sum11_a38, sum11_r38), (sum11_a39, sum11_r39), (sum11_a40, sum11_r40), (sum11_a41, sum11_r41), (sum11_a42, sum11_r42), (sum11_a43, sum11_r43), (sum11_a44, sum11_r44), (sum11_a45, sum11_r45), (sum11_a46, sum11_r46), (sum11_a47, sum11_r47), (sum11_a48, sum11_r48), (sum11_a49, sum11_r49), (sum11_a50, sum11_r50), (sum11_a51, sum11_r51), (sum11_a52, sum11_r52), (sum11_a53, sum11_r53), (sum11_a54, sum11_r54), (sum11_a55, sum11_r55), (sum11_a56, sum11_r56), (sum11_a57, sum11_r57), (sum11_a58, sum11_r58)]
theorem sum11_ok : TabOk cx25 LStart 7 4000 11 sum11 := .cons rfl sum11_0 <| .cons rfl sum11_1 <| .cons rfl sum11_2 <| .cons rfl sum11_3 <| .cons rfl sum11_4 <| .cons rfl sum11_5 <| .cons rfl sum11_6 <| .cons rfl sum11_7 <| .cons rfl sum11_8 <| .cons rfl sum11_9 <| .cons rfl sum11_10 <| .cons rfl sum11_11 <| .cons rfl sum11_12 <| .cons rfl sum11_13 <| .cons rfl sum11_14 <| .cons rfl sum11_15 <| .cons rfl sum11_16 <| .cons rfl sum11_17 <| .cons rfl sum11_18 <| .cons rfl sum11_19 <| .cons rfl sum11_20 <| .cons rfl sum11_21 <| .cons rfl sum11_22 <| .cons rfl sum11_23 <| .cons rfl sum11_24 <| .cons rfl sum11_25 <| .cons rfl sum11_26 <| .cons rfl sum11_27 <| .cons rfl sum11_28 <| .cons rfl sum11_29 <| .cons rfl sum11_30 <| .cons rfl sum11_31 <| .cons rfl sum11_32 <| .cons rfl sum11_33 <| .cons rfl sum11_34 <| .cons rfl sum11_35 <| .cons rfl sum11_36 <| .cons rfl sum11_37 <| .cons rfl sum11_38 <| .cons rfl sum11_39 <| .cons rfl sum11_40 <| .cons rfl sum11_41 <| .cons rfl sum11_42 <| .cons rfl sum11_43 <| .cons rfl sum11_44 <| .cons rfl sum11_45 <| .cons rfl sum11_46 <| .cons rfl sum11_47 <| .cons rfl sum11_48 <| .cons rfl sum11_49 <| .cons rfl sum11_50 <| .cons rfl sum11_51 <| .cons rfl sum11_52 <| .cons rfl sum11_53 <| .cons rfl sum11_54 <| .cons rfl sum11_55 <| .cons rfl sum11_56 <| .cons rfl sum11_57 <| .cons rfl sum11_58 <| .nil
noncomputable def cx11 : Cx := { cx with dm := dmH, sm := smOf [(11, sumTab LStart 7 sum11), (25, sumTab LStart 7 sum25), (28, sumTab LStart 7 sum28)] }
def sum18_a0 : List V := [(.int .i64 (.var 0))]
def sum18_r0 : R Leaf := (.br (.eq (.var 0) (.lit (1)))
 (.ok { v := (.tuple [(.agg [(.int .i64 (.lit (1))), (.str (.slit [108, 117, 105])), (.int .u32 (.lit (127))), (.bool (.lit (1))), (.bool (.lit (0))), (.bool (.lit (0))), (.bool (.lit (0))), (.func (.func 49) [] []), (.func (.func 50) [] []), (.func (.func 51) [] []), (.func (.func 52) [] []), (.int .u32 (.lit (55)))]), (.bool (.lit (1)))]), objs := [], n := 38 })
 (.br (.eq (.var 0) (.lit (2)))
 (.ok { v := (.tuple [(.agg [(.int .i64 (.lit (2))), (.str (.slit [97, 117, 105, 112, 99])), (.int .u32 (.lit (127))), (.bool (.lit (1))), (.bool (.lit (0))), (.bool (.lit (0))), (.bool (.lit (0))), (.func (.func 49) [] []), (.func (.func 50) [] []), (.func (.func 51) [] []), (.func (.func 52) [] []), (.int .u32 (.lit (23)))]), (.bool (.lit (1)))]), objs := [], n := 40 })
 (.br (.eq (.var 0) (.lit (3)))
  (.ok { v := (.tuple [(.agg [(.int .i64 (.lit (3))), (.str (.slit [106, 97, 108])), (.int .u32 (.lit (127))), (.bool (.lit (1))), (.bool (.lit (0))), (.bool (.lit (0))), (.bool (.lit (0))), (.func (.func 81) [] [(.ptr 23 0)]), (.func (.func 55) [] []), (.func (.func 56) [] []), (.func (.func 57) [] []), (.int .u32 (.lit (111)))]), (.bool (.lit (1)))]), objs := [(22, .cells [(.int .i64 (.lit (1048574)))] 2 none), (21, .cells [(.int .i64 (.lit (-1048576)))] 2 none), (23, .cells [(.func (.func 77) [] [(.ptr 21 0), (.ptr 22 0)])] 35 none)], n := 42 })
  (.br (.eq (.var 0) (.lit (4)))
  (.ok { v := (.tuple [(.agg [(.int .i64 (.lit (4))), (.str (.slit [106, 97, 108, 114])), (.int .u32 (.lit (28799))), (.bool (.lit (1))), (.bool (.lit (1))), (.bool (.lit (0))), (.bool (.lit (0))), (.func (.func 77) [] [(.ptr 13 0), (.ptr 14 0)]), (.func (.func 39) [] []), (.func (.func 36) [] []), (.func (.func 44) [] []), (.int .u32 (.lit (103)))]), (.bool (.lit (1)))]), objs := [(14, .cells [(.int .i64 (.lit (2047)))] 2 none), (13, .cells [(.int .i64 (.lit (-2048)))] 2 none)], n := 44 })
  (.br (.eq (.var 0) (.lit (5)))
   (.ok { v := (.tuple [(.agg [(.int .i64 (.lit (5))), (.str (.slit [98, 101, 113])), (.int .u32 (.lit (28799))), (.bool (.lit (0))), (.bool (.lit (1))), (.bool (.lit (1))), (.bool (.lit (0))), (.func (.func 81) [] [(.ptr 28 0)]), (.func (.func 60) [] []), (.func (.func 61) [] []), (.func (.func 62) [] []), (.int .u32 (.lit (99)))]), (.bool (.lit (1)))]), objs := [(27, .cells [(.int .i64 (.lit (4094)))] 2 none), (26, .cells [(.int .i64 (.lit (-4096)))] 2 none), (28, .cells [(.func (.func 77) [] [(.ptr 26 0), (.ptr 27 0)])] 35 none)], n := 48 })
   (.br (.eq (.var 0) (.lit (6)))
   (.ok { v := (.tuple [(.agg [(.int .i64 (.lit (6))), (.str (.slit [98, 110, 101])), (.int .u32 (.lit (28799))), (.bool (.lit (0))), (.bool (.lit (1))), (.bool (.lit (1))), (.bool (.lit (0))), (.func (.func 81) [] [(.ptr 28 0)]), (.func (.func 60) [] []), (.func (.func 61) [] []), (.func (.func 62) [] []), (.int .u32 (.lit (4195)))]), (.bool (.lit (1)))]), objs := [(27, .cells [(.int .i64 (.lit (4094)))] 2 none), (26, .cells [(.int .i64 (.lit (-4096)))] 2 none), (28, .cells [(.func (.func 77) [] [(.ptr 26 0), (.ptr 27 0)])] 35 none)], n := 50 })
   (.br (.eq (.var 0) (.lit (7)))
    (.ok { v := (.tuple [(.agg [(.int .i64 (.lit (7))), (.str (.slit [98, 108, 116])), (.int .u32 (.lit (28799))), (.bool (.lit (0))), (.bool (.lit (1))), (.bool (.lit (1))), (.bool (.lit (0))), (.func (.func 81) [] [(.ptr 28 0)]), (.func (.func 60) [] []), (.func (.func 61) [] []), (.func (.func 62) [] []), (.int .u32 (.lit (16483)))]), (.bool (.lit (1)))]), objs := [(27, .cells [(.int .i64 (.lit (4094)))] 2 none), (26, .cells [(.int .i64 (.lit (-4096)))] 2 none), (28, .cells [(.func (.func 77) [] [(.ptr 26 0), (.ptr 27 0)])] 35 none)], n := 52 })
    (.br (.eq (.var 0) (.lit (8)))
    (.ok { v := (.tuple [(.agg [(.int .i64 (.lit (8))), (.str (.slit [98, 103, 101])), (.int .u32 (.lit (28799))), (.bool (.lit (0))), (.bool (.lit (1))), (.bool (.lit (1))), (.bool (.lit (0))), (.func (.func 81) [] [(.ptr 28 0)]), (.func (.func 60) [] []), (.func (.func 61) [] []), (.func (.func 62) [] []), (.int .u32 (.lit (20579)))]), (.bool (.lit (1)))]), objs := [(27, .cells [(.int .i64 (.lit (4094)))] 2 none), (26, .cells [(.int .i64 (.lit (-4096)))] 2 none), (28, .cells [(.func (.func 77) [] [(.ptr 26 0), (.ptr 27 0)])] 35 none)], n := 54 })
    (.br (.eq (.var 0) (.lit (9)))
     (.ok { v := (.tuple [(.agg [(.int .i64 (.lit (9))), (.str (.slit [98, 108, 116, 117])), (.int .u32 (.lit (28799))), (.bool (.lit (0))), (.bool (.lit (1))), (.bool (.lit (1))), (.bool (.lit (0))), (.func (.func 81) [] [(.ptr 28 0)]), (.func (.func 60) [] []), (.func (.func 61) [] []), (.func (.func 62) [] []), (.int .u32 (.lit (24675)))]), (.bool (.lit (1)))]), objs := [(27, .cells [(.int .i64 (.lit (4094)))] 2 none), (26, .cells [(.int .i64 (.lit (-4096)))] 2 none), (28, .cells [(.func (.func 77) [] [(.ptr 26 0), (.ptr 27 0)])] 35 none)], n := 56 })
     (.br (.eq (.var 0) (.lit (10)))
     (.ok { v := (.tuple [(.agg [(.int .i64 (.lit (10))), (.str (.slit [98, 103, 101, 117])), (.int .u32 (.lit (28799))), (.bool (.lit (0))), (.bool (.lit (1))), (.bool (.lit (1))), (.bool (.lit (0))), (.func (.func 81) [] [(.ptr 28 0)]), (.func (.func 60) [] []), (.func (.func 61) [] []), (.func (.func 62) [] []), (.int .u32 (.lit (28771)))]), (.bool (.lit (1)))]), objs := [(27, .cells [(.int .i64 (.lit (4094)))] 2 none), (26, .cells [(.int .i64 (.lit (-4096)))] 2 none), (28, .cells [(.func (.func 77) [] [(.ptr 26 0), (.ptr 27 0)])] 35 none)], n := 58 })
     (.br (.eq (.var 0) (.lit (11)))
      (.ok { v := (.tuple [(.agg [(.int .i64 (.lit (11))), (.str (.slit [108, 98])), (.int .u32 (.lit (28799))), (.bool (.lit (1))), (.bool (.lit (1))), (.bool (.lit (0))), (.bool (.lit (0))), (.func (.func 77) [] [(.ptr 13 0), (.ptr 14 0)]), (.func (.func 39) [] []), (.func (.func 36) [] []), (.func (.func 44) [] []), (.int .u32 (.lit (3)))]), (.bool (.lit (1)))]), objs := [(14, .cells [(.int .i64 (.lit (2047)))] 2 none), (13, .cells [(.int .i64 (.lit (-2048)))] 2 none)], n := 62 })
      (.br (.eq (.var 0) (.lit (12)))
      (.ok { v := (.tuple [(.agg [(.int .i64 (.lit (12))), (.str (.slit [108, 104])), (.int .u32 (.lit (28799))), (.bool (.lit (1))), (.bool (.lit (1))), (.bool (.lit (0))), (.bool (.lit (0))), (.func (.func 77) [] [(.ptr 13 0), (.ptr 14 0)]), (.func (.func 39) [] []), (.func (.func 36) [] []), (.func (.func 44) [] []), (.int .u32 (.lit (4099)))]), (.bool (.lit (1)))]), objs := [(14, .cells [(.int .i64 (.lit (2047)))] 2 none), (13, .cells [(.int .i64 (.lit (-2048)))] 2 none)], n := 64 })
      (.br (.eq (.var 0) (.lit (13)))
       (.ok { v := (.tuple [(.agg [(.int .i64 (.lit (13))), (.str (.slit [108, 119])), (.int .u32 (.lit (28799))), (.bool (.lit (1))), (.bool (.lit (1))), (.bool (.lit (0))), (.bool (.lit (0))), (.func (.func 77) [] [(.ptr 13 0), (.ptr 14 0)]), (.func (.func 39) [] []), (.func (.func 36) [] []), (.func (.func 44) [] []), (.int .u32 (.lit (8195)))]), (.bool (.lit (1)))]), objs := [(14, .cells [(.int .i64 (.lit (2047)))] 2 none), (13, .cells [(.int .i64 (.lit (-2048)))] 2 none)], n := 66 })
       (.br (.eq (.var 0) (.lit (14)))
       (.ok { v := (.tuple [(.agg [(.int .i64 (.lit (14))), (.str (.slit [108, 98, 117])), (.int .u32 (.lit (28799))), (.bool (.lit (1))), (.bool (.lit (1))), (.bool (.lit (0))), (.bool (.lit (0))), (.func (.func 77) [] [(.ptr 13 0), (.ptr 14 0)]), (.func (.func 39) [] []), (.func (.func 36) [] []), (.func (.func 44) [] []), (.int .u32 (.lit (16387)))]), (.bool (.lit (1)))]), objs := [(14, .cells [(.int .i64 (.lit (2047)))] 2 none), (13, .cells [(.int .i64 (.lit (-2048)))] 2 none)], n := 68 })
       (.br (.eq (.var 0) (.lit (15)))
        (.ok { v := (.tuple [(.agg [(.int .i64 (.lit (15))), (.str (.slit [108, 104, 117])), (.int .u32 (.lit (28799))), (.bool (.lit (1))), (.bool (.lit (1))), (.bool (.lit (0))), (.bool (.lit (0))), (.func (.func 77) [] [(.ptr 13 0), (.ptr 14 0)]), (.func (.func 39) [] []), (.func (.func 36) [] []), (.func (.func 44) [] []), (.int .u32 (.lit (20483)))]), (.bool (.lit (1)))]), objs := [(14, .cells [(.int .i64 (.lit (2047)))] 2 none), (13, .cells [(.int .i64 (.lit (-2048)))] 2 none)], n := 70 })
        (.br (.eq (.var 0) (.lit (16)))
        (.ok { v := (.tuple [(.agg [(.int .i64 (.lit (16))), (.str (.slit [115, 98])), (.int .u32 (.lit (28799))), (.bool (.lit (0))), (.bool (.lit (1))), (.bool (.lit (1))), (.bool (.lit (0))), (.func (.func 77) [] [(.ptr 29 0), (.ptr 30 0)]), (.func (.func 63) [] []), (.func (.func 64) [] []), (.func (.func 65) [] []), (.int .u32 (.lit (35)))]), (.bool (.lit (1)))]), objs := [(30, .cells [(.int .i64 (.lit (2047)))] 2 none), (29, .cells [(.int .i64 (.lit (-2048)))] 2 none)], n := 74 })
        (.br (.eq (.var 0) (.lit (17)))
         (.ok { v := (.tuple [(.agg [(.int .i64 (.lit (17))), (.str (.slit [115, 104])), (.int .u32 (.lit (28799))), (.bool (.lit (0))), (.bool (.lit (1))), (.bool (.lit (1))), (.bool (.lit (0))), (.func (.func 77) [] [(.ptr 29 0), (.ptr 30 0)]), (.func (.func 63) [] []), (.func (.func 64) [] []), (.func (.func 65) [] []), (.int .u32 (.lit (4131)))]), (.bool (.lit (1)))]), objs := [(30, .cells [(.int .i64 (.lit (2047)))] 2 none), (29, .cells [(.int .i64 (.lit (-2048)))] 2 none)], n := 76 })
         (.br (.eq (.var 0) (.lit (18)))
         (.ok { v := (.tuple [(.agg [(.int .i64 (.lit (18))), (.str (.slit [115, 119])), (.int .u32 (.lit (28799))), (.bool (.lit (0))), (.bool (.lit (1))), (.bool (.lit (1))), (.bool (.lit (0))), (.func (.func 77) [] [(.ptr 29 0), (.ptr 30 0)]), (.func (.func 63) [] []), (.func (.func 64) [] []), (.func (.func 65) [] []), (.int .u32 (.lit (8227)))]), (.bool (.lit (1)))]), objs := [(30, .cells [(.int .i64 (.lit (2047)))] 2 none), (29, .cells [(.int .i64 (.lit (-2048)))] 2 none)], n := 78 })
         (.br (.eq (.var 0) (.lit (19)))
          (.ok { v := (.tuple [(.agg [(.int .i64 (.lit (19))), (.str (.slit [97, 100, 100, 105])), (.int .u32 (.lit (28799))), (.bool (.lit (1))), (.bool (.lit (1))), (.bool (.lit (0))), (.bool (.lit (0))), (.func (.func 77) [] [(.ptr 13 0), (.ptr 14 0)]), (.func (.func 39) [] []), (.func (.func 36) [] []), (.func (.func 40) [] []), (.int .u32 (.lit (19)))]), (.bool (.lit (1)))]), objs := [(14, .cells [(.int .i64 (.lit (2047)))] 2 none), (13, .cells [(.int .i64 (.lit (-2048)))] 2 none)], n := 82 })
          (.br (.eq (.var 0) (.lit (20)))
          (.ok { v := (.tuple [(.agg [(.int .i64 (.lit (20))), (.str (.slit [115, 108, 116, 105])), (.int .u32 (.lit (28799))), (.bool (.lit (1))), (.bool (.lit (1))), (.bool (.lit (0))), (.bool (.lit (0))), (.func (.func 77) [] [(.ptr 13 0), (.ptr 14 0)]), (.func (.func 39) [] []), (.func (.func 36) [] []), (.func (.func 40) [] []), (.int .u32 (.lit (8211)))]), (.bool (.lit (1)))]), objs := [(14, .cells [(.int .i64 (.lit (2047)))] 2 none), (13, .cells [(.int .i64 (.lit (-2048)))] 2 none)], n := 84 })
          (.br (.eq (.var 0) (.lit (21)))
           (.ok { v := (.tuple [(.agg [(.int .i64 (.lit (21))), (.str (.slit [115, 108, 116, 105, 117])), (.int .u32 (.lit (28799))), (.bool (.lit (1))), (.bool (.lit (1))), (.bool (.lit (0))), (.bool (.lit (0))), (.func (.func 77) [] [(.ptr 13 0), (.ptr 14 0)]), (.func (.func 39) [] []), (.func (.func 36) [] []), (.func (.func 40) [] []), (.int .u32 (.lit (12307)))]), (.bool (.lit (1)))]), objs := [(14, .cells [(.int .i64 (.lit (2047)))] 2 none), (13, .cells [(.int .i64 (.lit (-2048)))] 2 none)], n := 86 })
           (.br (.eq (.var 0) (.lit (22)))
           (.ok { v := (.tuple [(.agg [(.int .i64 (.lit (22))), (.str (.slit [120, 111, 114, 105])), (.int .u32 (.lit (28799))), (.bool (.lit (1))), (.bool (.lit (1))), (.bool (.lit (0))), (.bool (.lit (0))), (.func (.func 77) [] [(.ptr 13 0), (.ptr 14 0)]), (.func (.func 39) [] []), (.func (.func 36) [] []), (.func (.func 40) [] []), (.int .u32 (.lit (16403)))]), (.bool (.lit (1)))]), objs := [(14, .cells [(.int .i64 (.lit (2047)))] 2 none), (13, .cells [(.int .i64 (.lit (-2048)))] 2 none)], n := 88 })
           (.br (.eq (.var 0) (.lit (23)))
            (.ok { v := (.tuple [(.agg [(.int .i64 (.lit (23))), (.str (.slit [111, 114, 105])), (.int .u32 (.lit (28799))), (.bool (.lit (1))), (.bool (.lit (1))), (.bool (.lit (0))), (.bool (.lit (0))), (.func (.func 77) [] [(.ptr 13 0), (.ptr 14 0)]), (.func (.func 39) [] []), (.func (.func 36) [] []), (.func (.func 40) [] []), (.int .u32 (.lit (24595)))]), (.bool (.lit (1)))]), objs := [(14, .cells [(.int .i64 (.lit (2047)))] 2 none), (13, .cells [(.int .i64 (.lit (-2048)))] 2 none)], n := 90 })
            (.br (.eq (.var 0) (.lit (24)))
            (.ok { v := (.tuple [(.agg [(.int .i64 (.lit (24))), (.str (.slit [97, 110, 100, 105])), (.int .u32 (.lit (28799))), (.bool (.lit (1))), (.bool (.lit (1))), (.bool (.lit (0))), (.bool (.lit (0))), (.func (.func 77) [] [(.ptr 13 0), (.ptr 14 0)]), (.func (.func 39) [] []), (.func (.func 36) [] []), (.func (.func 40) [] []), (.int .u32 (.lit (28691)))]), (.bool (.lit (1)))]), objs := [(14, .cells [(.int .i64 (.lit (2047)))] 2 none), (13, .cells [(.int .i64 (.lit (-2048)))] 2 none)], n := 92 })
            (.br (.eq (.var 0) (.lit (25)))
             (.ok { v := (.tuple [(.agg [(.int .i64 (.lit (25))), (.str (.slit [115, 108, 108, 105])), (.int .u32 (.lit (4261441663))), (.bool (.lit (1))), (.bool (.lit (1))), (.bool (.lit (0))), (.bool (.lit (0))), (.func (.func 77) [] [(.ptr 24 0), (.ptr 25 0)]), (.func (.func 58) [] []), (.func (.func 59) [] []), (.func (.func 40) [] []), (.int .u32 (.lit (4115)))]), (.bool (.lit (1)))]), objs := [(25, .cells [(.int .i64 (.lit (31)))] 2 none), (24, .cells [(.int .i64 (.lit (0)))] 2 none)], n := 96 })
             (.br (.eq (.var 0) (.lit (26)))
             (.ok { v := (.tuple [(.agg [(.int .i64 (.lit (26))), (.str (.slit [115, 114, 108, 105])), (.int .u32 (.lit (4261441663))), (.bool (.lit (1))), (.bool (.lit (1))), (.bool (.lit (0))), (.bool (.lit (0))), (.func (.func 77) [] [(.ptr 24 0), (.ptr 25 0)]), (.func (.func 58) [] []), (.func (.func 59) [] []), (.func (.func 40) [] []), (.int .u32 (.lit (20499)))]), (.bool (.lit (1)))]), objs := [(25, .cells [(.int .i64 (.lit (31)))] 2 none), (24, .cells [(.int .i64 (.lit (0)))] 2 none)], n := 98 })
             (.br (.eq (.var 0) (.lit (27)))
              (.ok { v := (.tuple [(.agg [(.int .i64 (.lit (27))), (.str (.slit [115, 114, 97, 105])), (.int .u32 (.lit (4261441663))), (.bool (.lit (1))), (.bool (.lit (1))), (.bool (.lit (0))), (.bool (.lit (0))), (.func (.func 77) [] [(.ptr 24 0), (.ptr 25 0)]), (.func (.func 58) [] []), (.func (.func 59) [] []), (.func (.func 40) [] []), (.int .u32 (.lit (1073762323)))]), (.bool (.lit (1)))]), objs := [(25, .cells [(.int .i64 (.lit (31)))] 2 none), (24, .cells [(.int .i64 (.lit (0)))] 2 none)], n := 100 })
              (.br (.eq (.var 0) (.lit (28)))
              (.ok { v := (.tuple [(.agg [(.int .i64 (.lit (28))), (.str (.slit [97, 100, 100])), (.int .u32 (.lit (4261441663))), (.bool (.lit (1))), (.bool (.lit (1))), (.bool (.lit (1))), (.bool (.lit (0))), (.func (.func 45) [] []), (.func (.func 35) [] []), (.func (.func 35) [] []), (.func (.func 46) [] []), (.int .u32 (.lit (51)))]), (.bool (.lit (1)))]), objs := [], n := 102 })
              (.br (.eq (.var 0) (.lit (29)))
               (.ok { v := (.tuple [(.agg [(.int .i64 (.lit (29))), (.str (.slit [115, 117, 98])), (.int .u32 (.lit (4261441663))), (.bool (.lit (1))), (.bool (.lit (1))), (.bool (.lit (1))), (.bool (.lit (0))), (.func (.func 45) [] []), (.func (.func 35) [] []), (.func (.func 35) [] []), (.func (.func 46) [] []), (.int .u32 (.lit (1073741875)))]), (.bool (.lit (1)))]), objs := [], n := 104 })
               (.br (.eq (.var 0) (.lit (30)))
               (.ok { v := (.tuple [(.agg [(.int .i64 (.lit (30))), (.str (.slit [115, 108, 108])), (.int .u32 (.lit (4261441663))), (.bool (.lit (1))), (.bool (.lit (1))), (.bool (.lit (1))), (.bool (.lit (0))), (.func (.func 45) [] []), (.func (.func 35) [] []), (.func (.func 35) [] []), (.func (.func 46) [] []), (.int .u32 (.lit (4147)))]), (.bool (.lit (1)))]), objs := [], n := 108 })
               (.br (.eq (.var 0) (.lit (31)))
                (.ok { v := (.tuple [(.agg [(.int .i64 (.lit (31))), (.str (.slit [115, 108, 116])), (.int .u32 (.lit (4261441663))), (.bool (.lit (1))), (.bool (.lit (1))), (.bool (.lit (1))), (.bool (.lit (0))), (.func (.func 45) [] []), (.func (.func 35) [] []), (.func (.func 35) [] []), (.func (.func 46) [] []), (.int .u32 (.lit (8243)))]), (.bool (.lit (1)))]), objs := [], n := 110 })
                (.br (.eq (.var 0) (.lit (32)))
                (.ok { v := (.tuple [(.agg [(.int .i64 (.lit (32))), (.str (.slit [115, 108, 116, 117])), (.int .u32 (.lit (4261441663))), (.bool (.lit (1))), (.bool (.lit (1))), (.bool (.lit (1))), (.bool (.lit (0))), (.func (.func 45) [] []), (.func (.func 35) [] []), (.func (.func 35) [] []), (.func (.func 46) [] []), (.int .u32 (.lit (12339)))]), (.bool (.lit (1)))]), objs := [], n := 112 })
                (.br (.eq (.var 0) (.lit (33)))
                 (.ok { v := (.tuple [(.agg [(.int .i64 (.lit (33))), (.str (.slit [120, 111, 114])), (.int .u32 (.lit (4261441663))), (.bool (.lit (1))), (.bool (.lit (1))), (.bool (.lit (1))), (.bool (.lit (0))), (.func (.func 45) [] []), (.func (.func 35) [] []), (.func (.func 35) [] []), (.func (.func 46) [] []), (.int .u32 (.lit (16435)))]), (.bool (.lit (1)))]), objs := [], n := 114 })
                 (.br (.eq (.var 0) (.lit (34)))
                 (.ok { v := (.tuple [(.agg [(.int .i64 (.lit (34))), (.str (.slit [115, 114, 108])), (.int .u32 (.lit (4261441663))), (.bool (.lit (1))), (.bool (.lit (1))), (.bool (.lit (1))), (.bool (.lit (0))), (.func (.func 45) [] []), (.func (.func 35) [] []), (.func (.func 35) [] []), (.func (.func 46) [] []), (.int .u32 (.lit (20531)))]), (.bool (.lit (1)))]), objs := [], n := 116 })
                 (.br (.eq (.var 0) (.lit (35)))
                  (.ok { v := (.tuple [(.agg [(.int .i64 (.lit (35))), (.str (.slit [115, 114, 97])), (.int .u32 (.lit (4261441663))), (.bool (.lit (1))), (.bool (.lit (1))), (.bool (.lit (1))), (.bool (.lit (0))), (.func (.func 45) [] []), (.func (.func 35) [] []), (.func (.func 35) [] []), (.func (.func 46) [] []), (.int .u32 (.lit (1073762355)))]), (.bool (.lit (1)))]), objs := [], n := 118 })
                  (.br (.eq (.var 0) (.lit (36)))
                  (.ok { v := (.tuple [(.agg [(.int .i64 (.lit (36))), (.str (.slit [111, 114])), (.int .u32 (.lit (4261441663))), (.bool (.lit (1))), (.bool (.lit (1))), (.bool (.lit (1))), (.bool (.lit (0))), (.func (.func 45) [] []), (.func (.func 35) [] []), (.func (.func 35) [] []), (.func (.func 46) [] []), (.int .u32 (.lit (24627)))]), (.bool (.lit (1)))]), objs := [], n := 122 })
                  (.br (.eq (.var 0) (.lit (37)))
                   (.ok { v := (.tuple [(.agg [(.int .i64 (.lit (37))), (.str (.slit [97, 110, 100])), (.int .u32 (.lit (4261441663))), (.bool (.lit (1))), (.bool (.lit (1))), (.bool (.lit (1))), (.bool (.lit (0))), (.func (.func 45) [] []), (.func (.func 35) [] []), (.func (.func 35) [] []), (.func (.func 46) [] []), (.int .u32 (.lit (28723)))]), (.bool (.lit (1)))]), objs := [], n := 124 })
                   (.br (.eq (.var 0) (.lit (38)))
                   (.ok { v := (.tuple [(.agg [(.int .i64 (.lit (38))), (.str (.slit [102, 101, 110, 99, 101])), (.int .u32 (.lit (4027580415))), (.bool (.lit (0))), (.bool (.lit (0))), (.bool (.lit (0))), (.bool (.lit (0))), (.func (.func 77) [] [(.ptr 31 0), (.ptr 32 0)]), (.func (.func 66) [] []), (.func (.func 67) [] []), (.func (.func 43) [] []), (.int .u32 (.lit (15)))]), (.bool (.lit (1)))]), objs := [(32, .cells [(.int .i64 (.lit (255)))] 2 none), (31, .cells [(.int .i64 (.lit (0)))] 2 none)], n := 126 })
                   (.br (.eq (.var 0) (.lit (39)))
                    (.ok { v := (.tuple [(.agg [(.int .i64 (.lit (39))), (.str (.slit [101, 99, 97, 108, 108])), (.int .u32 (.lit (4294967295))), (.bool (.lit (0))), (.bool (.lit (0))), (.bool (.lit (0))), (.bool (.lit (0))), (.func (.func 45) [] []), (.func (.func 35) [] []), (.func (.func 35) [] []), (.func (.func 68) [] []), (.int .u32 (.lit (115)))]), (.bool (.lit (1)))]), objs := [], n := 128 })
                    (.br (.eq (.var 0) (.lit (40)))
                    (.ok { v := (.tuple [(.agg [(.int .i64 (.lit (40))), (.str (.slit [109, 117, 108])), (.int .u32 (.lit (4261441663))), (.bool (.lit (1))), (.bool (.lit (1))), (.bool (.lit (1))), (.bool (.lit (0))), (.func (.func 45) [] []), (.func (.func 35) [] []), (.func (.func 35) [] []), (.func (.func 46) [] []), (.int .u32 (.lit (33554483)))]), (.bool (.lit (1)))]), objs := [], n := 132 })
                    (.br (.eq (.var 0) (.lit (41)))
                     (.ok { v := (.tuple [(.agg [(.int .i64 (.lit (41))), (.str (.slit [109, 117, 108, 104])), (.int .u32 (.lit (4261441663))), (.bool (.lit (1))), (.bool (.lit (1))), (.bool (.lit (1))), (.bool (.lit (0))), (.func (.func 45) [] []), (.func (.func 35) [] []), (.func (.func 35) [] []), (.func (.func 46) [] []), (.int .u32 (.lit (33558579)))]), (.bool (.lit (1)))]), objs := [], n := 134 })
                     (.br (.eq (.var 0) (.lit (42)))
                     (.ok { v := (.tuple [(.agg [(.int .i64 (.lit (42))), (.str (.slit [109, 117, 108, 104, 115, 117])), (.int .u32 (.lit (4261441663))), (.bool (.lit (1))), (.bool (.lit (1))), (.bool (.lit (1))), (.bool (.lit (0))), (.func (.func 45) [] []), (.func (.func 35) [] []), (.func (.func 35) [] []), (.func (.func 46) [] []), (.int .u32 (.lit (33562675)))]), (.bool (.lit (1)))]), objs := [], n := 136 })
                     (.br (.eq (.var 0) (.lit (43)))
                      (.ok { v := (.tuple [(.agg [(.int .i64 (.lit (43))), (.str (.slit [109, 117, 108, 104, 117])), (.int .u32 (.lit (4261441663))), (.bool (.lit (1))), (.bool (.lit (1))), (.bool (.lit (1))), (.bool (.lit (0))), (.func (.func 45) [] []), (.func (.func 35) [] []), (.func (.func 35) [] []), (.func (.func 46) [] []), (.int .u32 (.lit (33566771)))]), (.bool (.lit (1)))]), objs := [], n := 138 })
                      (.br (.eq (.var 0) (.lit (44)))
                      (.ok { v := (.tuple [(.agg [(.int .i64 (.lit (44))), (.str (.slit [100, 105, 118])), (.int .u32 (.lit (4261441663))), (.bool (.lit (1))), (.bool (.lit (1))), (.bool (.lit (1))), (.bool (.lit (0))), (.func (.func 45) [] []), (.func (.func 35) [] []), (.func (.func 35) [] []), (.func (.func 46) [] []), (.int .u32 (.lit (33570867)))]), (.bool (.lit (1)))]), objs := [], n := 140 })
                      (.br (.eq (.var 0) (.lit (45)))
                       (.ok { v := (.tuple [(.agg [(.int .i64 (.lit (45))), (.str (.slit [100, 105, 118, 117])), (.int .u32 (.lit (4261441663))), (.bool (.lit (1))), (.bool (.lit (1))), (.bool (.lit (1))), (.bool (.lit (0))), (.func (.func 45) [] []), (.func (.func 35) [] []), (.func (.func 35) [] []), (.func (.func 46) [] []), (.int .u32 (.lit (33574963)))]), (.bool (.lit (1)))]), objs := [], n := 142 })
                       (.br (.eq (.var 0) (.lit (46)))
                       (.ok { v := (.tuple [(.agg [(.int .i64 (.lit (46))), (.str (.slit [114, 101, 109])), (.int .u32 (.lit (4261441663))), (.bool (.lit (1))), (.bool (.lit (1))), (.bool (.lit (1))), (.bool (.lit (0))), (.func (.func 45) [] []), (.func (.func 35) [] []), (.func (.func 35) [] []), (.func (.func 46) [] []), (.int .u32 (.lit (33579059)))]), (.bool (.lit (1)))]), objs := [], n := 144 })
                       (.br (.eq (.var 0) (.lit (47)))
                        (.ok { v := (.tuple [(.agg [(.int .i64 (.lit (47))), (.str (.slit [114, 101, 109, 117])), (.int .u32 (.lit (4261441663))), (.bool (.lit (1))), (.bool (.lit (1))), (.bool (.lit (1))), (.bool (.lit (0))), (.func (.func 45) [] []), (.func (.func 35) [] []), (.func (.func 35) [] []), (.func (.func 46) [] []), (.int .u32 (.lit (33583155)))]), (.bool (.lit (1)))]), objs := [], n := 146 })
                        (.br (.eq (.var 0) (.lit (48)))
                        (.ok { v := (.tuple [(.agg [(.int .i64 (.lit (48))), (.str (.slit [108, 114])), (.int .u32 (.lit (4193284223))), (.bool (.lit (1))), (.bool (.lit (1))), (.bool (.lit (0))), (.bool (.lit (1))), (.func (.func 45) [] []), (.func (.func 35) [] []), (.func (.func 35) [] []), (.func (.func 48) [] []), (.int .u32 (.lit (268443695)))]), (.bool (.lit (1)))]), objs := [], n := 150 })
                        (.br (.eq (.var 0) (.lit (49)))
                         (.ok { v := (.tuple [(.agg [(.int .i64 (.lit (49))), (.str (.slit [115, 99])), (.int .u32 (.lit (4160778367))), (.bool (.lit (1))), (.bool (.lit (1))), (.bool (.lit (1))), (.bool (.lit (1))), (.func (.func 45) [] []), (.func (.func 35) [] []), (.func (.func 35) [] []), (.func (.func 47) [] []), (.int .u32 (.lit (402661423)))]), (.bool (.lit (1)))]), objs := [], n := 154 })
                         (.br (.eq (.var 0) (.lit (50)))
                         (.ok { v := (.tuple [(.agg [(.int .i64 (.lit (50))), (.str (.slit [97, 109, 111, 115, 119, 97, 112])), (.int .u32 (.lit (4160778367))), (.bool (.lit (1))), (.bool (.lit (1))), (.bool (.lit (1))), (.bool (.lit (1))), (.func (.func 45) [] []), (.func (.func 35) [] []), (.func (.func 35) [] []), (.func (.func 47) [] []), (.int .u32 (.lit (134225967)))]), (.bool (.lit (1)))]), objs := [], n := 156 })
                         (.br (.eq (.var 0) (.lit (51)))
                          (.ok { v := (.tuple [(.agg [(.int .i64 (.lit (51))), (.str (.slit [97, 109, 111, 97, 100, 100])), (.int .u32 (.lit (4160778367))), (.bool (.lit (1))), (.bool (.lit (1))), (.bool (.lit (1))), (.bool (.lit (1))), (.func (.func 45) [] []), (.func (.func 35) [] []), (.func (.func 35) [] []), (.func (.func 47) [] []), (.int .u32 (.lit (8239)))]), (.bool (.lit (1)))]), objs := [], n := 158 })
                          (.br (.eq (.var 0) (.lit (52)))
                          (.ok { v := (.tuple [(.agg [(.int .i64 (.lit (52))), (.str (.slit [97, 109, 111, 120, 111, 114])), (.int .u32 (.lit (4160778367))), (.bool (.lit (1))), (.bool (.lit (1))), (.bool (.lit (1))), (.bool (.lit (1))), (.func (.func 45) [] []), (.func (.func 35) [] []), (.func (.func 35) [] []), (.func (.func 47) [] []), (.int .u32 (.lit (536879151)))]), (.bool (.lit (1)))]), objs := [], n := 160 })
                          (.br (.eq (.var 0) (.lit (53)))
                           (.ok { v := (.tuple [(.agg [(.int .i64 (.lit (53))), (.str (.slit [97, 109, 111, 97, 110, 100])), (.int .u32 (.lit (4160778367))), (.bool (.lit (1))), (.bool (.lit (1))), (.bool (.lit (1))), (.bool (.lit (1))), (.func (.func 45) [] []), (.func (.func 35) [] []), (.func (.func 35) [] []), (.func (.func 47) [] []), (.int .u32 (.lit (1610620975)))]), (.bool (.lit (1)))]), objs := [], n := 162 })
                           (.br (.eq (.var 0) (.lit (54)))
                           (.ok { v := (.tuple [(.agg [(.int .i64 (.lit (54))), (.str (.slit [97, 109, 111, 111, 114])), (.int .u32 (.lit (4160778367))), (.bool (.lit (1))), (.bool (.lit (1))), (.bool (.lit (1))), (.bool (.lit (1))), (.func (.func 45) [] []), (.func (.func 35) [] []), (.func (.func 35) [] []), (.func (.func 47) [] []), (.int .u32 (.lit (1073750063)))]), (.bool (.lit (1)))]), objs := [], n := 164 })
                           (.br (.eq (.var 0) (.lit (55)))
                            (.ok { v := (.tuple [(.agg [(.int .i64 (.lit (55))), (.str (.slit [97, 109, 111, 109, 105, 110])), (.int .u32 (.lit (4160778367))), (.bool (.lit (1))), (.bool (.lit (1))), (.bool (.lit (1))), (.bool (.lit (1))), (.func (.func 45) [] []), (.func (.func 35) [] []), (.func (.func 35) [] []), (.func (.func 47) [] []), (.int .u32 (.lit (2147491887)))]), (.bool (.lit (1)))]), objs := [], n := 166 })
                            (.br (.eq (.var 0) (.lit (56)))
                            (.ok { v := (.tuple [(.agg [(.int .i64 (.lit (56))), (.str (.slit [97, 109, 111, 109, 97, 120])), (.int .u32 (.lit (4160778367))), (.bool (.lit (1))), (.bool (.lit (1))), (.bool (.lit (1))), (.bool (.lit (1))), (.func (.func 45) [] []), (.func (.func 35) [] []), (.func (.func 35) [] []), (.func (.func 47) [] []), (.int .u32 (.lit (2684362799)))]), (.bool (.lit (1)))]), objs := [], n := 168 })
                            (.br (.eq (.var 0) (.lit (57)))
                             (.ok { v := (.tuple [(.agg [(.int .i64 (.lit (57))), (.str (.slit [97, 109, 111, 109, 105, 110, 117])), (.int .u32 (.lit (4160778367))), (.bool (.lit (1))), (.bool (.lit (1))), (.bool (.lit (1))), (.bool (.lit (1))), (.func (.func 45) [] []), (.func (.func 35) [] []), (.func (.func 35) [] []), (.func (.func 47) [] []), (.int .u32 (.lit (3221233711)))]), (.bool (.lit (1)))]), objs := [], n := 170 })
                             (.br (.eq (.var 0) (.lit (58)))
                             (.ok { v := (.tuple [(.agg [(.int .i64 (.lit (58))), (.str (.slit [97, 109, 111, 109, 97, 120, 117])), (.int .u32 (.lit (4160778367))), (.bool (.lit (1))), (.bool (.lit (1))), (.bool (.lit (1))), (.bool (.lit (1))), (.func (.func 45) [] []), (.func (.func 35) [] []), (.func (.func 35) [] []), (.func (.func 47) [] []), (.int .u32 (.lit (3758104623)))]), (.bool (.lit (1)))]), objs := [], n := 172 })
                             (.br (.eq (.var 0) (.lit (59)))
                              (.ok { v := (.tuple [(.agg [(.int .i64 (.lit (59))), (.str (.slit [104, 97, 114, 116, 105, 100])), (.int .u32 (.lit (4294963327))), (.bool (.lit (1))), (.bool (.lit (0))), (.bool (.lit (0))), (.bool (.lit (0))), (.func (.func 45) [] []), (.func (.func 35) [] []), (.func (.func 35) [] []), (.func (.func 69) [] []), (.int .u32 (.lit (4047511667)))]), (.bool (.lit (1)))]), objs := [], n := 174 })
                              (.ok { v := (.tuple [(.agg [(.int .i64 (.lit (0))), (.str (.slit [])), (.int .u32 (.lit (0))), (.bool (.lit (0))), (.bool (.lit (0))), (.bool (.lit (0))), (.bool (.lit (0))), .nilfunc, .nilfunc, .nilfunc, .nilfunc, (.int .u32 (.lit (0)))]), (.bool (.lit (0)))]), objs := [], n := 174 }))))))))))))))))))))))))))))))))))))))))))))))))))))))))))))
theorem sum18_0 : Row cx11 18 sum18_a0 sum18_r0 := .of (by kernel_rfl)
def sum18 : List (List V × R Leaf) := [(sum18_a0, sum18_r0)]
theorem sum18_ok : TabOk cx11 LStart 7 4000 18 sum18 := .cons rfl sum18_0 <| .nil
noncomputable def cx18 : Cx := { cx with dm := dmH, sm := smOf [(18, sumPar LStart 7 sum18), (11, sumTab LStart 7 sum11), (25, sumTab LStart 7 sum25), (28, sumTab LStart 7 sum28)] }
def sum7_a0 : List V := []
def sum7_r0 : R Leaf := (.ok { v := (.bool (.lit (1))), objs := [], n := 168 })
theorem sum7_0 : Row cx18 7 sum7_a0 sum7_r0 := .of (by kernel_rfl)
def sum7 : List (List V × R Leaf) := [(sum7_a0, sum7_r0)]
theorem sum7_ok : TabOk cx18 LStart 7 4000 7 sum7 := .cons rfl sum7_0 <| .nil
noncomputable def cx7 : Cx := { cx with dm := dmH, sm := smOf [(7, sumTab LStart 7 sum7), (18, sumPar LStart 7 sum18), (11, sumTab LStart 7 sum11), (25, sumTab LStart 7 sum25), (28, sumTab LStart 7 sum28)] }
end Go.Proofs.YtfdgdbphdjijdaaDoor
