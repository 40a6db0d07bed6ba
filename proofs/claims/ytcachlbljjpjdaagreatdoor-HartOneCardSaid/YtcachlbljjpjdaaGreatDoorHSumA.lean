/- What some functions leave, by runs. What some functions leave, by runs. No condition. -/
import Derived.Test.YtcachlbljjpjdaaGreatDoorHBase
namespace Go.Proofs.YtcachlbljjpjdaaGreatDoor
open Go Go.Proofs
set_option maxRecDepth 100000
def sum104_a0 : List V := [(.str (.slit [98, 101, 113, 32, 98, 110, 101, 32, 98, 108, 116, 32, 98, 103, 101, 32, 98, 108, 116, 117, 32, 98, 103, 101, 117]))]
def sum104_r0 : R Leaf := (.ok { v := (.slice 7 0 6 (.known 6)), objs := [(7, .cells [(.str (.slit [98, 101, 113])), (.str (.slit [98, 110, 101])), (.str (.slit [98, 108, 116])), (.str (.slit [98, 103, 101])), (.str (.slit [98, 108, 116, 117])), (.str (.slit [98, 103, 101, 117]))] 9 none)], n := 8 })
theorem sum104_0 : Row cxD 104 sum104_a0 sum104_r0 := .of (by kernel_rfl)
def sum104_a1 : List V := [(.str (.slit [108, 98, 32, 108, 104, 32, 108, 119, 32, 108, 98, 117, 32, 108, 104, 117]))]
def sum104_r1 : R Leaf := (.ok { v := (.slice 7 0 5 (.known 5)), objs := [(7, .cells [(.str (.slit [108, 98])), (.str (.slit [108, 104])), (.str (.slit [108, 119])), (.str (.slit [108, 98, 117])), (.str (.slit [108, 104, 117]))] 9 none)], n := 8 })
theorem sum104_1 : Row cxD 104 sum104_a1 sum104_r1 := .of (by kernel_rfl)
def sum104_a2 : List V := [(.str (.slit [115, 98, 32, 115, 104, 32, 115, 119]))]
def sum104_r2 : R Leaf := (.ok { v := (.slice 7 0 3 (.known 3)), objs := [(7, .cells [(.str (.slit [115, 98])), (.str (.slit [115, 104])), (.str (.slit [115, 119]))] 9 none)], n := 8 })
theorem sum104_2 : Row cxD 104 sum104_a2 sum104_r2 := .of (by kernel_rfl)
def sum104_a3 : List V := [(.str (.slit [97, 100, 100, 105, 32, 115, 108, 116, 105, 32, 115, 108, 116, 105, 117, 32, 120, 111, 114, 105, 32, 111, 114, 105, 32, 97, 110, 100, 105]))]
def sum104_r3 : R Leaf := (.ok { v := (.slice 7 0 6 (.known 6)), objs := [(7, .cells [(.str (.slit [97, 100, 100, 105])), (.str (.slit [115, 108, 116, 105])), (.str (.slit [115, 108, 116, 105, 117])), (.str (.slit [120, 111, 114, 105])), (.str (.slit [111, 114, 105])), (.str (.slit [97, 110, 100, 105]))] 9 none)], n := 8 })
theorem sum104_3 : Row cxD 104 sum104_a3 sum104_r3 := .of (by kernel_rfl)
def sum104_a4 : List V := [(.str (.slit [115, 108, 108, 105, 32, 115, 114, 108, 105]))]
def sum104_r4 : R Leaf := (.ok { v := (.slice 7 0 2 (.known 2)), objs := [(7, .cells [(.str (.slit [115, 108, 108, 105])), (.str (.slit [115, 114, 108, 105]))] 9 none)], n := 8 })
theorem sum104_4 : Row cxD 104 sum104_a4 sum104_r4 := .of (by kernel_rfl)
def sum104_a5 : List V := [(.str (.slit [115, 108, 108, 32, 115, 108, 116, 32, 115, 108, 116, 117, 32, 120, 111, 114, 32, 115, 114, 108]))]
def sum104_r5 : R Leaf := (.ok { v := (.slice 7 0 5 (.known 5)), objs := [(7, .cells [(.str (.slit [115, 108, 108])), (.str (.slit [115, 108, 116])), (.str (.slit [115, 108, 116, 117])), (.str (.slit [120, 111, 114])), (.str (.slit [115, 114, 108]))] 9 none)], n := 8 })
theorem sum104_5 : Row cxD 104 sum104_a5 sum104_r5 := .of (by kernel_rfl)
def sum104_a6 : List V := [(.str (.slit [111, 114, 32, 97, 110, 100]))]
def sum104_r6 : R Leaf := (.ok { v := (.slice 7 0 2 (.known 2)), objs := [(7, .cells [(.str (.slit [111, 114])), (.str (.slit [97, 110, 100]))] 9 none)], n := 8 })
theorem sum104_6 : Row cxD 104 sum104_a6 sum104_r6 := .of (by kernel_rfl)
def sum104_a7 : List V := [(.str (.slit [109, 117, 108, 32, 109, 117, 108, 104, 32, 109, 117, 108, 104, 115, 117, 32, 109, 117, 108, 104, 117, 32, 100, 105, 118, 32, 100, 105, 118, 117, 32, 114, 101, 109, 32, 114, 101, 109, 117]))]
def sum104_r7 : R Leaf := (.ok { v := (.slice 7 0 8 (.known 8)), objs := [(7, .cells [(.str (.slit [109, 117, 108])), (.str (.slit [109, 117, 108, 104])), (.str (.slit [109, 117, 108, 104, 115, 117])), (.str (.slit [109, 117, 108, 104, 117])), (.str (.slit [100, 105, 118])), (.str (.slit [100, 105, 118, 117])), (.str (.slit [114, 101, 109])), (.str (.slit [114, 101, 109, 117]))] 9 none)], n := 8 })
theorem sum104_7 : Row cxD 104 sum104_a7 sum104_r7 := .of (by kernel_rfl)
def sum104_a8 : List V := [(.str (.slit [108, 114]))]
def sum104_r8 : R Leaf := (.ok { v := (.slice 7 0 1 (.known 1)), objs := [(7, .cells [(.str (.slit [108, 114]))] 9 none)], n := 8 })
theorem sum104_8 : Row cxD 104 sum104_a8 sum104_r8 := .of (by kernel_rfl)
def sum104_a9 : List V := [(.str (.slit [115, 99, 32, 97, 109, 111, 115, 119, 97, 112, 32, 97, 109, 111, 97, 100, 100, 32, 97, 109, 111, 120, 111, 114, 32, 97, 109, 111, 97, 110, 100, 32, 97, 109, 111, 111, 114, 32, 97, 109, 111, 109, 105, 110, 32, 97, 109, 111, 109, 97, 120, 32, 97, 109, 111, 109, 105, 110, 117, 32, 97, 109, 111, 109, 97, 120, 117]))]
def sum104_r9 : R Leaf := (.ok { v := (.slice 7 0 10 (.known 10)), objs := [(7, .cells [(.str (.slit [115, 99])), (.str (.slit [97, 109, 111, 115, 119, 97, 112])), (.str (.slit [97, 109, 111, 97, 100, 100])), (.str (.slit [97, 109, 111, 120, 111, 114])), (.str (.slit [97, 109, 111, 97, 110, 100])), (.str (.slit [97, 109, 111, 111, 114])), (.str (.slit [97, 109, 111, 109, 105, 110])), (.str (.slit [97, 109, 111, 109, 97, 120])), (.str (.slit [97, 109, 111, 109, 105, 110, 117])), (.str (.slit [97, 109, 111, 109, 97, 120, 117]))] 9 none)], n := 8 })
theorem sum104_9 : Row cxD 104 sum104_a9 sum104_r9 := .of (by kernel_rfl)
def sum104 : List (List V × R Leaf) := [(sum104_a0, sum104_r0), (sum104_a1, sum104_r1), (sum104_a2, sum104_r2), (sum104_a3, sum104_r3), (sum104_a4, sum104_r4), (sum104_a5, sum104_r5), (sum104_a6, sum104_r6), (sum104_a7, sum104_r7), (sum104_a8, sum104_r8), (sum104_a9, sum104_r9)]
theorem sum104_ok : TabOk cxD LStart 7 4000 104 sum104 := .cons rfl sum104_0 <| .cons rfl sum104_1 <| .cons rfl sum104_2 <| .cons rfl sum104_3 <| .cons rfl sum104_4 <| .cons rfl sum104_5 <| .cons rfl sum104_6 <| .cons rfl sum104_7 <| .cons rfl sum104_8 <| .cons rfl sum104_9 <| .nil
noncomputable def cx104 : Cx := { cx with dm := dmH, sm := smOf [(104, sumTab LStart 7 sum104)] }
def sum101_a0 : List V := []
def sum101_r0 : R Leaf := (.ok { v := (.map 14), objs := [(21, .cells [(.int .i64 (.lit (4094)))] 2 none), (20, .cells [(.int .i64 (.lit (-4096)))] 2 none), (16, .cells [(.int .i64 (.lit (1048574)))] 2 none), (15, .cells [(.int .i64 (.lit (-1048576)))] 2 none), (8, .cells [(.int .i64 (.lit (2047)))] 2 none), (7, .cells [(.int .i64 (.lit (-2048)))] 2 none), (17, .cells [(.func (.func 157) [] [(.ptr 15 0), (.ptr 16 0)])] 96 none), (19, .cells [(.int .i64 (.lit (31)))] 2 none), (18, .cells [(.int .i64 (.lit (0)))] 2 none), (22, .cells [(.func (.func 157) [] [(.ptr 20 0), (.ptr 21 0)])] 96 none), (24, .cells [(.int .i64 (.lit (2047)))] 2 none), (23, .cells [(.int .i64 (.lit (-2048)))] 2 none), (26, .cells [(.int .i64 (.lit (255)))] 2 none), (25, .cells [(.int .i64 (.lit (0)))] 2 none), (14, .map [((.str (.slit [102, 101, 110, 99, 101])), (.agg [(.int .u32 (.lit (4027580415))), (.bool (.lit (0))), (.bool (.lit (0))), (.bool (.lit (0))), (.bool (.lit (0))), (.func (.func 157) [] [(.ptr 25 0), (.ptr 26 0)]), (.func (.func 150) [] []), (.func (.func 151) [] []), (.func (.func 127) [] [])])), ((.str (.slit [115])), (.agg [(.int .u32 (.lit (28799))), (.bool (.lit (0))), (.bool (.lit (1))), (.bool (.lit (1))), (.bool (.lit (0))), (.func (.func 157) [] [(.ptr 23 0), (.ptr 24 0)]), (.func (.func 147) [] []), (.func (.func 148) [] []), (.func (.func 149) [] [])])), ((.str (.slit [98])), (.agg [(.int .u32 (.lit (28799))), (.bool (.lit (0))), (.bool (.lit (1))), (.bool (.lit (1))), (.bool (.lit (0))), (.func (.func 163) [] [(.ptr 22 0)]), (.func (.func 144) [] []), (.func (.func 145) [] []), (.func (.func 146) [] [])])), ((.str (.slit [115, 104, 105, 102, 116])), (.agg [(.int .u32 (.lit (4261441663))), (.bool (.lit (1))), (.bool (.lit (1))), (.bool (.lit (0))), (.bool (.lit (0))), (.func (.func 157) [] [(.ptr 18 0), (.ptr 19 0)]), (.func (.func 142) [] []), (.func (.func 143) [] []), (.func (.func 124) [] [])])), ((.str (.slit [106])), (.agg [(.int .u32 (.lit (127))), (.bool (.lit (1))), (.bool (.lit (0))), (.bool (.lit (0))), (.bool (.lit (0))), (.func (.func 163) [] [(.ptr 17 0)]), (.func (.func 139) [] []), (.func (.func 140) [] []), (.func (.func 141) [] [])])), ((.str (.slit [99, 115, 114])), (.agg [(.int .u32 (.lit (4294963327))), (.bool (.lit (1))), (.bool (.lit (0))), (.bool (.lit (0))), (.bool (.lit (0))), (.func (.func 129) [] []), (.func (.func 119) [] []), (.func (.func 119) [] []), (.func (.func 153) [] [])])), ((.str (.slit [97])), (.agg [(.int .u32 (.lit (4160778367))), (.bool (.lit (1))), (.bool (.lit (1))), (.bool (.lit (1))), (.bool (.lit (1))), (.func (.func 129) [] []), (.func (.func 119) [] []), (.func (.func 119) [] []), (.func (.func 131) [] [])])), ((.str (.slit [108, 114])), (.agg [(.int .u32 (.lit (4193284223))), (.bool (.lit (1))), (.bool (.lit (1))), (.bool (.lit (0))), (.bool (.lit (1))), (.func (.func 129) [] []), (.func (.func 119) [] []), (.func (.func 119) [] []), (.func (.func 132) [] [])])), ((.str (.slit [97, 108, 108])), (.agg [(.int .u32 (.lit (4294967295))), (.bool (.lit (0))), (.bool (.lit (0))), (.bool (.lit (0))), (.bool (.lit (0))), (.func (.func 129) [] []), (.func (.func 119) [] []), (.func (.func 119) [] []), (.func (.func 152) [] [])])), ((.str (.slit [114])), (.agg [(.int .u32 (.lit (4261441663))), (.bool (.lit (1))), (.bool (.lit (1))), (.bool (.lit (1))), (.bool (.lit (0))), (.func (.func 129) [] []), (.func (.func 119) [] []), (.func (.func 119) [] []), (.func (.func 130) [] [])])), ((.str (.slit [108, 111, 97, 100])), (.agg [(.int .u32 (.lit (28799))), (.bool (.lit (1))), (.bool (.lit (1))), (.bool (.lit (0))), (.bool (.lit (0))), (.func (.func 157) [] [(.ptr 7 0), (.ptr 8 0)]), (.func (.func 123) [] []), (.func (.func 120) [] []), (.func (.func 128) [] [])])), ((.str (.slit [105])), (.agg [(.int .u32 (.lit (28799))), (.bool (.lit (1))), (.bool (.lit (1))), (.bool (.lit (0))), (.bool (.lit (0))), (.func (.func 157) [] [(.ptr 7 0), (.ptr 8 0)]), (.func (.func 123) [] []), (.func (.func 120) [] []), (.func (.func 124) [] [])])), ((.str (.slit [117])), (.agg [(.int .u32 (.lit (127))), (.bool (.lit (1))), (.bool (.lit (0))), (.bool (.lit (0))), (.bool (.lit (0))), (.func (.func 133) [] []), (.func (.func 134) [] []), (.func (.func 135) [] []), (.func (.func 136) [] [])]))])], n := 27 })
theorem sum101_0 : Row cx104 101 sum101_a0 sum101_r0 := .of (by kernel_rfl)
def sum101 : List (List V × R Leaf) := [(sum101_a0, sum101_r0)]
theorem sum101_ok : TabOk cx104 LStart 7 4000 101 sum101 := .cons rfl sum101_0 <| .nil
noncomputable def cx101 : Cx := { cx with dm := dmH, sm := smOf [(101, sumTab LStart 7 sum101), (104, sumTab LStart 7 sum104)] }
def sum13_a0 : List V := []
def sum13_r0 : R Leaf := (.ok { v := (.bool (.lit (1))), objs := [], n := 111 })
theorem sum13_0 : Row cx101 13 sum13_a0 sum13_r0 := .of (by kernel_rfl)
def sum13 : List (List V × R Leaf) := [(sum13_a0, sum13_r0)]
theorem sum13_ok : TabOk cx101 LStart 7 4000 13 sum13 := .cons rfl sum13_0 <| .nil
noncomputable def cx13 : Cx := { cx with dm := dmH, sm := smOf [(13, sumTab LStart 7 sum13), (101, sumTab LStart 7 sum101), (104, sumTab LStart 7 sum104)] }
end Go.Proofs.YtcachlbljjpjdaaGreatDoor

namespace Go.Proofs.YtcachlbljjpjdaaGreatDoor
open Go Go.Proofs
set_option maxRecDepth 100000
def sum47_a0 : List V := [(.int .i64 (.lit (0)))]
def sum47_r0 : R Leaf := (.ok { v := (.int .u32 (.lit (1))), objs := [], n := 7 })
theorem sum47_0 : Row cx13 47 sum47_a0 sum47_r0 := .of (by kernel_rfl)
def sum47_a1 : List V := [(.int .i64 (.lit (1)))]
def sum47_r1 : R Leaf := (.ok { v := (.int .u32 (.lit (2))), objs := [], n := 7 })
theorem sum47_1 : Row cx13 47 sum47_a1 sum47_r1 := .of (by kernel_rfl)
def sum47_a2 : List V := [(.int .i64 (.lit (2)))]
def sum47_r2 : R Leaf := (.ok { v := (.int .u32 (.lit (4))), objs := [], n := 7 })
theorem sum47_2 : Row cx13 47 sum47_a2 sum47_r2 := .of (by kernel_rfl)
def sum47_a3 : List V := [(.int .i64 (.lit (3)))]
def sum47_r3 : R Leaf := (.ok { v := (.int .u32 (.lit (8))), objs := [], n := 7 })
theorem sum47_3 : Row cx13 47 sum47_a3 sum47_r3 := .of (by kernel_rfl)
def sum47_a4 : List V := [(.int .i64 (.lit (4)))]
def sum47_r4 : R Leaf := (.ok { v := (.int .u32 (.lit (16))), objs := [], n := 7 })
theorem sum47_4 : Row cx13 47 sum47_a4 sum47_r4 := .of (by kernel_rfl)
def sum47_a5 : List V := [(.int .i64 (.lit (5)))]
def sum47_r5 : R Leaf := (.ok { v := (.int .u32 (.lit (32))), objs := [], n := 7 })
theorem sum47_5 : Row cx13 47 sum47_a5 sum47_r5 := .of (by kernel_rfl)
def sum47_a6 : List V := [(.int .i64 (.lit (6)))]
def sum47_r6 : R Leaf := (.ok { v := (.int .u32 (.lit (64))), objs := [], n := 7 })
theorem sum47_6 : Row cx13 47 sum47_a6 sum47_r6 := .of (by kernel_rfl)
def sum47_a7 : List V := [(.int .i64 (.lit (7)))]
def sum47_r7 : R Leaf := (.ok { v := (.int .u32 (.lit (128))), objs := [], n := 7 })
theorem sum47_7 : Row cx13 47 sum47_a7 sum47_r7 := .of (by kernel_rfl)
def sum47_a8 : List V := [(.int .i64 (.lit (8)))]
def sum47_r8 : R Leaf := (.ok { v := (.int .u32 (.lit (256))), objs := [], n := 7 })
theorem sum47_8 : Row cx13 47 sum47_a8 sum47_r8 := .of (by kernel_rfl)
def sum47_a9 : List V := [(.int .i64 (.lit (9)))]
def sum47_r9 : R Leaf := (.ok { v := (.int .u32 (.lit (512))), objs := [], n := 7 })
theorem sum47_9 : Row cx13 47 sum47_a9 sum47_r9 := .of (by kernel_rfl)
def sum47_a10 : List V := [(.int .i64 (.lit (10)))]
def sum47_r10 : R Leaf := (.ok { v := (.int .u32 (.lit (1024))), objs := [], n := 7 })
theorem sum47_10 : Row cx13 47 sum47_a10 sum47_r10 := .of (by kernel_rfl)
def sum47_a11 : List V := [(.int .i64 (.lit (11)))]
def sum47_r11 : R Leaf := (.ok { v := (.int .u32 (.lit (2048))), objs := [], n := 7 })
theorem sum47_11 : Row cx13 47 sum47_a11 sum47_r11 := .of (by kernel_rfl)
def sum47_a12 : List V := [(.int .i64 (.lit (12)))]
def sum47_r12 : R Leaf := (.ok { v := (.int .u32 (.lit (4096))), objs := [], n := 7 })
theorem sum47_12 : Row cx13 47 sum47_a12 sum47_r12 := .of (by kernel_rfl)
def sum47_a13 : List V := [(.int .i64 (.lit (13)))]
def sum47_r13 : R Leaf := (.ok { v := (.int .u32 (.lit (8192))), objs := [], n := 7 })
theorem sum47_13 : Row cx13 47 sum47_a13 sum47_r13 := .of (by kernel_rfl)
def sum47_a14 : List V := [(.int .i64 (.lit (14)))]
def sum47_r14 : R Leaf := (.ok { v := (.int .u32 (.lit (16384))), objs := [], n := 7 })
theorem sum47_14 : Row cx13 47 sum47_a14 sum47_r14 := .of (by kernel_rfl)
def sum47_a15 : List V := [(.int .i64 (.lit (15)))]
def sum47_r15 : R Leaf := (.ok { v := (.int .u32 (.lit (32768))), objs := [], n := 7 })
theorem sum47_15 : Row cx13 47 sum47_a15 sum47_r15 := .of (by kernel_rfl)
def sum47_a16 : List V := [(.int .i64 (.lit (16)))]
def sum47_r16 : R Leaf := (.ok { v := (.int .u32 (.lit (65536))), objs := [], n := 7 })
theorem sum47_16 : Row cx13 47 sum47_a16 sum47_r16 := .of (by kernel_rfl)
def sum47_a17 : List V := [(.int .i64 (.lit (17)))]
def sum47_r17 : R Leaf := (.ok { v := (.int .u32 (.lit (131072))), objs := [], n := 7 })
theorem sum47_17 : Row cx13 47 sum47_a17 sum47_r17 := .of (by kernel_rfl)
def sum47_a18 : List V := [(.int .i64 (.lit (18)))]
def sum47_r18 : R Leaf := (.ok { v := (.int .u32 (.lit (262144))), objs := [], n := 7 })
theorem sum47_18 : Row cx13 47 sum47_a18 sum47_r18 := .of (by kernel_rfl)
def sum47_a19 : List V := [(.int .i64 (.lit (19)))]
def sum47_r19 : R Leaf := (.ok { v := (.int .u32 (.lit (524288))), objs := [], n := 7 })
theorem sum47_19 : Row cx13 47 sum47_a19 sum47_r19 := .of (by kernel_rfl)
def sum47_a20 : List V := [(.int .i64 (.lit (20)))]
def sum47_r20 : R Leaf := (.ok { v := (.int .u32 (.lit (1048576))), objs := [], n := 7 })
theorem sum47_20 : Row cx13 47 sum47_a20 sum47_r20 := .of (by kernel_rfl)
def sum47_a21 : List V := [(.int .i64 (.lit (21)))]
def sum47_r21 : R Leaf := (.ok { v := (.int .u32 (.lit (2097152))), objs := [], n := 7 })
theorem sum47_21 : Row cx13 47 sum47_a21 sum47_r21 := .of (by kernel_rfl)
def sum47_a22 : List V := [(.int .i64 (.lit (22)))]
def sum47_r22 : R Leaf := (.ok { v := (.int .u32 (.lit (4194304))), objs := [], n := 7 })
theorem sum47_22 : Row cx13 47 sum47_a22 sum47_r22 := .of (by kernel_rfl)
def sum47_a23 : List V := [(.int .i64 (.lit (23)))]
def sum47_r23 : R Leaf := (.ok { v := (.int .u32 (.lit (8388608))), objs := [], n := 7 })
theorem sum47_23 : Row cx13 47 sum47_a23 sum47_r23 := .of (by kernel_rfl)
def sum47_a24 : List V := [(.int .i64 (.lit (24)))]
def sum47_r24 : R Leaf := (.ok { v := (.int .u32 (.lit (16777216))), objs := [], n := 7 })
theorem sum47_24 : Row cx13 47 sum47_a24 sum47_r24 := .of (by kernel_rfl)
def sum47_a25 : List V := [(.int .i64 (.lit (25)))]
def sum47_r25 : R Leaf := (.ok { v := (.int .u32 (.lit (33554432))), objs := [], n := 7 })
theorem sum47_25 : Row cx13 47 sum47_a25 sum47_r25 := .of (by kernel_rfl)
def sum47_a26 : List V := [(.int .i64 (.lit (26)))]
def sum47_r26 : R Leaf := (.ok { v := (.int .u32 (.lit (67108864))), objs := [], n := 7 })
theorem sum47_26 : Row cx13 47 sum47_a26 sum47_r26 := .of (by kernel_rfl)
def sum47_a27 : List V := [(.int .i64 (.lit (27)))]
def sum47_r27 : R Leaf := (.ok { v := (.int .u32 (.lit (134217728))), objs := [], n := 7 })
theorem sum47_27 : Row cx13 47 sum47_a27 sum47_r27 := .of (by kernel_rfl)
def sum47_a28 : List V := [(.int .i64 (.lit (28)))]
def sum47_r28 : R Leaf := (.ok { v := (.int .u32 (.lit (268435456))), objs := [], n := 7 })
theorem sum47_28 : Row cx13 47 sum47_a28 sum47_r28 := .of (by kernel_rfl)
def sum47_a29 : List V := [(.int .i64 (.lit (29)))]
def sum47_r29 : R Leaf := (.ok { v := (.int .u32 (.lit (536870912))), objs := [], n := 7 })
theorem sum47_29 : Row cx13 47 sum47_a29 sum47_r29 := .of (by kernel_rfl)
def sum47_a30 : List V := [(.int .i64 (.lit (30)))]
def sum47_r30 : R Leaf := (.ok { v := (.int .u32 (.lit (1073741824))), objs := [], n := 7 })
theorem sum47_30 : Row cx13 47 sum47_a30 sum47_r30 := .of (by kernel_rfl)
def sum47_a31 : List V := [(.int .i64 (.lit (31)))]
def sum47_r31 : R Leaf := (.ok { v := (.int .u32 (.lit (2147483648))), objs := [], n := 7 })
theorem sum47_31 : Row cx13 47 sum47_a31 sum47_r31 := .of (by kernel_rfl)
def sum47 : List (List V × R Leaf) := [(sum47_a0, sum47_r0), (sum47_a1, sum47_r1), (sum47_a2, sum47_r2), (sum47_a3, sum47_r3), (sum47_a4, sum47_r4), (sum47_a5, sum47_r5), (sum47_a6, sum47_r6), (sum47_a7, sum47_r7), (sum47_a8, sum47_r8), (sum47_a9, sum47_r9), (sum47_a10, sum47_r10), (sum47_a11, sum47_r11), (sum47_a12, sum47_r12), (sum47_a13, sum47_r13), (sum47_a14, sum47_r14), (sum47_a15, sum47_r15), (sum47_a16, sum47_r16), (sum47_a17, sum47_r17), (sum47_a18, sum47_r18), (sum47_a19, sum47_r19), (sum47_a20, sum47_r20), (sum47_a21, sum47_r21), (sum47_a22, sum47_r22), (sum47_a23, sum47_r23), (sum47_a24, sum47_r24), (sum47_a25, sum47_r25), (sum47_a26, sum47_r26), (sum47_a27, sum47_r27), (sum47_a28, sum47_r28), (sum47_a29, sum47_r29), (sum47_a30, sum47_r30), (sum47_a31, sum47_r31)]
theorem sum47_ok : TabOk cx13 LStart 7 4000 47 sum47 := .cons rfl sum47_0 <| .cons rfl sum47_1 <| .cons rfl sum47_2 <| .cons rfl sum47_3 <| .cons rfl sum47_4 <| .cons rfl sum47_5 <| .cons rfl sum47_6 <| .cons rfl sum47_7 <| .cons rfl sum47_8 <| .cons rfl sum47_9 <| .cons rfl sum47_10 <| .cons rfl sum47_11 <| .cons rfl sum47_12 <| .cons rfl sum47_13 <| .cons rfl sum47_14 <| .cons rfl sum47_15 <| .cons rfl sum47_16 <| .cons rfl sum47_17 <| .cons rfl sum47_18 <| .cons rfl sum47_19 <| .cons rfl sum47_20 <| .cons rfl sum47_21 <| .cons rfl sum47_22 <| .cons rfl sum47_23 <| .cons rfl sum47_24 <| .cons rfl sum47_25 <| .cons rfl sum47_26 <| .cons rfl sum47_27 <| .cons rfl sum47_28 <| .cons rfl sum47_29 <| .cons rfl sum47_30 <| .cons rfl sum47_31 <| .nil
noncomputable def cx47 : Cx := { cx with dm := dmH, sm := smOf [(47, sumTab LStart 7 sum47), (13, sumTab LStart 7 sum13), (101, sumTab LStart 7 sum101), (104, sumTab LStart 7 sum104)] }
def sum44_a0 : List V := [(.int .i64 (.lit (1)))]
def sum44_r0 : R Leaf := (.ok { v := (.int .u8 (.lit (117))), objs := [], n := 7 })
theorem sum44_0 : Row cx47 44 sum44_a0 sum44_r0 := .of (by kernel_rfl)
def sum44_a1 : List V := [(.int .i64 (.lit (2)))]
def sum44_r1 : R Leaf := (.ok { v := (.int .u8 (.lit (117))), objs := [], n := 7 })
theorem sum44_1 : Row cx47 44 sum44_a1 sum44_r1 := .of (by kernel_rfl)
def sum44_a2 : List V := [(.int .i64 (.lit (3)))]
def sum44_r2 : R Leaf := (.ok { v := (.int .u8 (.lit (106))), objs := [], n := 7 })
theorem sum44_2 : Row cx47 44 sum44_a2 sum44_r2 := .of (by kernel_rfl)
def sum44_a3 : List V := [(.int .i64 (.lit (4)))]
def sum44_r3 : R Leaf := (.ok { v := (.int .u8 (.lit (108))), objs := [], n := 7 })
theorem sum44_3 : Row cx47 44 sum44_a3 sum44_r3 := .of (by kernel_rfl)
def sum44_a4 : List V := [(.int .i64 (.lit (5)))]
def sum44_r4 : R Leaf := (.ok { v := (.int .u8 (.lit (98))), objs := [], n := 7 })
theorem sum44_4 : Row cx47 44 sum44_a4 sum44_r4 := .of (by kernel_rfl)
def sum44_a5 : List V := [(.int .i64 (.lit (6)))]
def sum44_r5 : R Leaf := (.ok { v := (.int .u8 (.lit (98))), objs := [], n := 7 })
theorem sum44_5 : Row cx47 44 sum44_a5 sum44_r5 := .of (by kernel_rfl)
def sum44_a6 : List V := [(.int .i64 (.lit (7)))]
def sum44_r6 : R Leaf := (.ok { v := (.int .u8 (.lit (98))), objs := [], n := 7 })
theorem sum44_6 : Row cx47 44 sum44_a6 sum44_r6 := .of (by kernel_rfl)
def sum44_a7 : List V := [(.int .i64 (.lit (8)))]
def sum44_r7 : R Leaf := (.ok { v := (.int .u8 (.lit (98))), objs := [], n := 7 })
theorem sum44_7 : Row cx47 44 sum44_a7 sum44_r7 := .of (by kernel_rfl)
def sum44_a8 : List V := [(.int .i64 (.lit (9)))]
def sum44_r8 : R Leaf := (.ok { v := (.int .u8 (.lit (98))), objs := [], n := 7 })
theorem sum44_8 : Row cx47 44 sum44_a8 sum44_r8 := .of (by kernel_rfl)
def sum44_a9 : List V := [(.int .i64 (.lit (10)))]
def sum44_r9 : R Leaf := (.ok { v := (.int .u8 (.lit (98))), objs := [], n := 7 })
theorem sum44_9 : Row cx47 44 sum44_a9 sum44_r9 := .of (by kernel_rfl)
def sum44_a10 : List V := [(.int .i64 (.lit (11)))]
def sum44_r10 : R Leaf := (.ok { v := (.int .u8 (.lit (108))), objs := [], n := 7 })
theorem sum44_10 : Row cx47 44 sum44_a10 sum44_r10 := .of (by kernel_rfl)
def sum44_a11 : List V := [(.int .i64 (.lit (12)))]
def sum44_r11 : R Leaf := (.ok { v := (.int .u8 (.lit (108))), objs := [], n := 7 })
theorem sum44_11 : Row cx47 44 sum44_a11 sum44_r11 := .of (by kernel_rfl)
def sum44_a12 : List V := [(.int .i64 (.lit (13)))]
def sum44_r12 : R Leaf := (.ok { v := (.int .u8 (.lit (108))), objs := [], n := 7 })
theorem sum44_12 : Row cx47 44 sum44_a12 sum44_r12 := .of (by kernel_rfl)
def sum44_a13 : List V := [(.int .i64 (.lit (14)))]
def sum44_r13 : R Leaf := (.ok { v := (.int .u8 (.lit (108))), objs := [], n := 7 })
theorem sum44_13 : Row cx47 44 sum44_a13 sum44_r13 := .of (by kernel_rfl)
def sum44_a14 : List V := [(.int .i64 (.lit (15)))]
def sum44_r14 : R Leaf := (.ok { v := (.int .u8 (.lit (108))), objs := [], n := 7 })
theorem sum44_14 : Row cx47 44 sum44_a14 sum44_r14 := .of (by kernel_rfl)
def sum44_a15 : List V := [(.int .i64 (.lit (16)))]
def sum44_r15 : R Leaf := (.ok { v := (.int .u8 (.lit (115))), objs := [], n := 7 })
theorem sum44_15 : Row cx47 44 sum44_a15 sum44_r15 := .of (by kernel_rfl)
def sum44_a16 : List V := [(.int .i64 (.lit (17)))]
def sum44_r16 : R Leaf := (.ok { v := (.int .u8 (.lit (115))), objs := [], n := 7 })
theorem sum44_16 : Row cx47 44 sum44_a16 sum44_r16 := .of (by kernel_rfl)
def sum44_a17 : List V := [(.int .i64 (.lit (18)))]
def sum44_r17 : R Leaf := (.ok { v := (.int .u8 (.lit (115))), objs := [], n := 7 })
theorem sum44_17 : Row cx47 44 sum44_a17 sum44_r17 := .of (by kernel_rfl)
def sum44_a18 : List V := [(.int .i64 (.lit (19)))]
def sum44_r18 : R Leaf := (.ok { v := (.int .u8 (.lit (105))), objs := [], n := 7 })
theorem sum44_18 : Row cx47 44 sum44_a18 sum44_r18 := .of (by kernel_rfl)
def sum44_a19 : List V := [(.int .i64 (.lit (20)))]
def sum44_r19 : R Leaf := (.ok { v := (.int .u8 (.lit (105))), objs := [], n := 7 })
theorem sum44_19 : Row cx47 44 sum44_a19 sum44_r19 := .of (by kernel_rfl)
def sum44_a20 : List V := [(.int .i64 (.lit (21)))]
def sum44_r20 : R Leaf := (.ok { v := (.int .u8 (.lit (105))), objs := [], n := 7 })
theorem sum44_20 : Row cx47 44 sum44_a20 sum44_r20 := .of (by kernel_rfl)
def sum44_a21 : List V := [(.int .i64 (.lit (22)))]
def sum44_r21 : R Leaf := (.ok { v := (.int .u8 (.lit (105))), objs := [], n := 7 })
theorem sum44_21 : Row cx47 44 sum44_a21 sum44_r21 := .of (by kernel_rfl)
def sum44_a22 : List V := [(.int .i64 (.lit (23)))]
def sum44_r22 : R Leaf := (.ok { v := (.int .u8 (.lit (105))), objs := [], n := 7 })
theorem sum44_22 : Row cx47 44 sum44_a22 sum44_r22 := .of (by kernel_rfl)
def sum44_a23 : List V := [(.int .i64 (.lit (24)))]
def sum44_r23 : R Leaf := (.ok { v := (.int .u8 (.lit (105))), objs := [], n := 7 })
theorem sum44_23 : Row cx47 44 sum44_a23 sum44_r23 := .of (by kernel_rfl)
def sum44_a24 : List V := [(.int .i64 (.lit (25)))]
def sum44_r24 : R Leaf := (.ok { v := (.int .u8 (.lit (104))), objs := [], n := 7 })
theorem sum44_24 : Row cx47 44 sum44_a24 sum44_r24 := .of (by kernel_rfl)
def sum44_a25 : List V := [(.int .i64 (.lit (26)))]
def sum44_r25 : R Leaf := (.ok { v := (.int .u8 (.lit (104))), objs := [], n := 7 })
theorem sum44_25 : Row cx47 44 sum44_a25 sum44_r25 := .of (by kernel_rfl)
def sum44_a26 : List V := [(.int .i64 (.lit (27)))]
def sum44_r26 : R Leaf := (.ok { v := (.int .u8 (.lit (104))), objs := [], n := 7 })
theorem sum44_26 : Row cx47 44 sum44_a26 sum44_r26 := .of (by kernel_rfl)
def sum44_a27 : List V := [(.int .i64 (.lit (28)))]
def sum44_r27 : R Leaf := (.ok { v := (.int .u8 (.lit (114))), objs := [], n := 7 })
theorem sum44_27 : Row cx47 44 sum44_a27 sum44_r27 := .of (by kernel_rfl)
def sum44_a28 : List V := [(.int .i64 (.lit (29)))]
def sum44_r28 : R Leaf := (.ok { v := (.int .u8 (.lit (114))), objs := [], n := 7 })
theorem sum44_28 : Row cx47 44 sum44_a28 sum44_r28 := .of (by kernel_rfl)
def sum44_a29 : List V := [(.int .i64 (.lit (30)))]
def sum44_r29 : R Leaf := (.ok { v := (.int .u8 (.lit (114))), objs := [], n := 7 })
theorem sum44_29 : Row cx47 44 sum44_a29 sum44_r29 := .of (by kernel_rfl)
def sum44_a30 : List V := [(.int .i64 (.lit (31)))]
def sum44_r30 : R Leaf := (.ok { v := (.int .u8 (.lit (114))), objs := [], n := 7 })
theorem sum44_30 : Row cx47 44 sum44_a30 sum44_r30 := .of (by kernel_rfl)
def sum44_a31 : List V := [(.int .i64 (.lit (32)))]
def sum44_r31 : R Leaf := (.ok { v := (.int .u8 (.lit (114))), objs := [], n := 7 })
theorem sum44_31 : Row cx47 44 sum44_a31 sum44_r31 := .of (by kernel_rfl)
def sum44_a32 : List V := [(.int .i64 (.lit (33)))]
def sum44_r32 : R Leaf := (.ok { v := (.int .u8 (.lit (114))), objs := [], n := 7 })
theorem sum44_32 : Row cx47 44 sum44_a32 sum44_r32 := .of (by kernel_rfl)
def sum44_a33 : List V := [(.int .i64 (.lit (34)))]
def sum44_r33 : R Leaf := (.ok { v := (.int .u8 (.lit (114))), objs := [], n := 7 })
theorem sum44_33 : Row cx47 44 sum44_a33 sum44_r33 := .of (by kernel_rfl)
def sum44_a34 : List V := [(.int .i64 (.lit (35)))]
def sum44_r34 : R Leaf := (.ok { v := (.int .u8 (.lit (114))), objs := [], n := 7 })
theorem sum44_34 : Row cx47 44 sum44_a34 sum44_r34 := .of (by kernel_rfl)
def sum44_a35 : List V := [(.int .i64 (.lit (36)))]
def sum44_r35 : R Leaf := (.ok { v := (.int .u8 (.lit (114))), objs := [], n := 7 })
theorem sum44_35 : Row cx47 44 sum44_a35 sum44_r35 := .of (by kernel_rfl)
def sum44_a36 : List V := [(.int .i64 (.lit (37)))]
def sum44_r36 : R Leaf := (.ok { v := (.int .u8 (.lit (114))), objs := [], n := 7 })
theorem sum44_36 : Row cx47 44 sum44_a36 sum44_r36 := .of (by kernel_rfl)
def sum44_a37 : List V := [(.int .i64 (.lit (38)))]
def sum44_r37 : R Leaf := (.ok { v := (.int .u8 (.lit (102))), objs := [], n := 7 })
theorem sum44_37 : Row cx47 44 sum44_a37 sum44_r37 := .of (by kernel_rfl)
def sum44_a38 : List V := [(.int .i64 (.lit (39)))]
def sum44_r38 : R Leaf := (.ok { v := (.int .u8 (.lit (101))), objs := [], n := 7 })
theorem sum44_38 : Row cx47 44 sum44_a38 sum44_r38 := .of (by kernel_rfl)
def sum44_a39 : List V := [(.int .i64 (.lit (40)))]
def sum44_r39 : R Leaf := (.ok { v := (.int .u8 (.lit (114))), objs := [], n := 7 })
theorem sum44_39 : Row cx47 44 sum44_a39 sum44_r39 := .of (by kernel_rfl)
def sum44_a40 : List V := [(.int .i64 (.lit (41)))]
def sum44_r40 : R Leaf := (.ok { v := (.int .u8 (.lit (114))), objs := [], n := 7 })
theorem sum44_40 : Row cx47 44 sum44_a40 sum44_r40 := .of (by kernel_rfl)
def sum44_a41 : List V := [(.int .i64 (.lit (42)))]
def sum44_r41 : R Leaf := (.ok { v := (.int .u8 (.lit (114))), objs := [], n := 7 })
theorem sum44_41 : Row cx47 44 sum44_a41 sum44_r41 := .of (by kernel_rfl)
def sum44_a42 : List V := [(.int .i64 (.lit (43)))]
def sum44_r42 : R Leaf := (.ok { v := (.int .u8 (.lit (114))), objs := [], n := 7 })
theorem sum44_42 : Row cx47 44 sum44_a42 sum44_r42 := .of (by kernel_rfl)
def sum44_a43 : List V := [(.int .i64 (.lit (44)))]
def sum44_r43 : R Leaf := (.ok { v := (.int .u8 (.lit (114))), objs := [], n := 7 })
theorem sum44_43 : Row cx47 44 sum44_a43 sum44_r43 := .of (by kernel_rfl)
def sum44_a44 : List V := [(.int .i64 (.lit (45)))]
def sum44_r44 : R Leaf := (.ok { v := (.int .u8 (.lit (114))), objs := [], n := 7 })
theorem sum44_44 : Row cx47 44 sum44_a44 sum44_r44 := .of (by kernel_rfl)
def sum44_a45 : List V := [(.int .i64 (.lit (46)))]
def sum44_r45 : R Leaf := (.ok { v := (.int .u8 (.lit (114))), objs := [], n := 7 })
theorem sum44_45 : Row cx47 44 sum44_a45 sum44_r45 := .of (by kernel_rfl)
def sum44_a46 : List V := [(.int .i64 (.lit (47)))]
def sum44_r46 : R Leaf := (.ok { v := (.int .u8 (.lit (114))), objs := [], n := 7 })
theorem sum44_46 : Row cx47 44 sum44_a46 sum44_r46 := .of (by kernel_rfl)
def sum44_a47 : List V := [(.int .i64 (.lit (48)))]
def sum44_r47 : R Leaf := (.ok { v := (.int .u8 (.lit (113))), objs := [], n := 7 })
theorem sum44_47 : Row cx47 44 sum44_a47 sum44_r47 := .of (by kernel_rfl)
def sum44_a48 : List V := [(.int .i64 (.lit (49)))]
def sum44_r48 : R Leaf := (.ok { v := (.int .u8 (.lit (97))), objs := [], n := 7 })
theorem sum44_48 : Row cx47 44 sum44_a48 sum44_r48 := .of (by kernel_rfl)
def sum44_a49 : List V := [(.int .i64 (.lit (50)))]
def sum44_r49 : R Leaf := (.ok { v := (.int .u8 (.lit (97))), objs := [], n := 7 })
theorem sum44_49 : Row cx47 44 sum44_a49 sum44_r49 := .of (by kernel_rfl)
def sum44_a50 : List V := [(.int .i64 (.lit (51)))]
def sum44_r50 : R Leaf := (.ok { v := (.int .u8 (.lit (97))), objs := [], n := 7 })
theorem sum44_50 : Row cx47 44 sum44_a50 sum44_r50 := .of (by kernel_rfl)
def sum44_a51 : List V := [(.int .i64 (.lit (52)))]
def sum44_r51 : R Leaf := (.ok { v := (.int .u8 (.lit (97))), objs := [], n := 7 })
theorem sum44_51 : Row cx47 44 sum44_a51 sum44_r51 := .of (by kernel_rfl)
def sum44_a52 : List V := [(.int .i64 (.lit (53)))]
def sum44_r52 : R Leaf := (.ok { v := (.int .u8 (.lit (97))), objs := [], n := 7 })
theorem sum44_52 : Row cx47 44 sum44_a52 sum44_r52 := .of (by kernel_rfl)
def sum44_a53 : List V := [(.int .i64 (.lit (54)))]
def sum44_r53 : R Leaf := (.ok { v := (.int .u8 (.lit (97))), objs := [], n := 7 })
theorem sum44_53 : Row cx47 44 sum44_a53 sum44_r53 := .of (by kernel_rfl)
def sum44_a54 : List V := [(.int .i64 (.lit (55)))]
def sum44_r54 : R Leaf := (.ok { v := (.int .u8 (.lit (97))), objs := [], n := 7 })
theorem sum44_54 : Row cx47 44 sum44_a54 sum44_r54 := .of (by kernel_rfl)
def sum44_a55 : List V := [(.int .i64 (.lit (56)))]
def sum44_r55 : R Leaf := (.ok { v := (.int .u8 (.lit (97))), objs := [], n := 7 })
theorem sum44_55 : Row cx47 44 sum44_a55 sum44_r55 := .of (by kernel_rfl)
def sum44_a56 : List V := [(.int .i64 (.lit (57)))]
def sum44_r56 : R Leaf := (.ok { v := (.int .u8 (.lit (97))), objs := [], n := 7 })
theorem sum44_56 : Row cx47 44 sum44_a56 sum44_r56 := .of (by kernel_rfl)
def sum44_a57 : List V := [(.int .i64 (.lit (58)))]
def sum44_r57 : R Leaf := (.ok { v := (.int .u8 (.lit (97))), objs := [], n := 7 })
theorem sum44_57 : Row cx47 44 sum44_a57 sum44_r57 := .of (by kernel_rfl)
def sum44_a58 : List V := [(.int .i64 (.lit (59)))]
def sum44_r58 : R Leaf := (.ok { v := (.int .u8 (.lit (99))), objs := [], n := 7 })
theorem sum44_58 : Row cx47 44 sum44_a58 sum44_r58 := .of (by kernel_rfl)
def sum44 : List (List V × R Leaf) := [(sum44_a0, sum44_r0), (sum44_a1, sum44_r1), (sum44_a2, sum44_r2), (sum44_a3, sum44_r3), (sum44_a4, sum44_r4), (sum44_a5, sum44_r5), (sum44_a6, sum44_r6), (sum44_a7, sum44_r7), (sum44_a8, sum44_r8), (sum44_a9, sum44_r9), (sum44_a10, sum44_r10), (sum44_a11, sum44_r11), (sum44_a12, sum44_r12), (sum44_a13, sum44_r13), (sum44_a14, sum44_r14), (sum44_a15, sum44_r15), (sum44_a16, sum44_r16), (sum44_a17, sum44_r17), (sum44_a18, sum44_r18), (sum44_a19, sum44_r19), (sum44_a20, sum44_r20), (sum44_a21, sum44_r21), (sum44_a22, sum44_r22), (sum44_a23, sum44_r23), (sum44_a24, sum44_r24), (sum44_a25, sum44_r25), (sum44_a26, sum44_r26), (sum44_a27, sum44_r27), (sum44_a28, sum44_r28), (sum44_a29, sum44_r29), (sum44_a30, sum44_r30), (sum44_a31, sum44_r31), (sum44_a32, sum44_r32), (sum44_a33, sum44_r33), (sum44_a34, sum44_r34), (sum44_a35, sum44_r35), (sum44_a36, sum44_r36), (sum44_a37, sum44_r37), (sum44_a38, sum44_r38), (sum44_a39, sum44_r39), (sum44_a40, sum44_r40), (sum44_a41, sum44_r41), (sum44_a42, sum44_r42), (sum44_a43, sum44_r43), (sum44_a44, sum44_r44), (sum44_a45, sum44_r45), (sum44_a46, sum44_r46), (sum44_a47, sum44_r47), (sum44_a48, sum44_r48), (sum44_a49, sum44_r49), (sum44_a50, sum44_r50), (sum44_a51, sum44_r51), (sum44_a52, sum44_r52), (sum44_a53, sum44_r53), (sum44_a54, sum44_r54), (sum44_a55, sum44_r55), (sum44_a56, sum44_r56), (sum44_a57, sum44_r57), (sum44_a58, sum44_r58)]
theorem sum44_ok : TabOk cx47 LStart 7 4000 44 sum44 := .cons rfl sum44_0 <| .cons rfl sum44_1 <| .cons rfl sum44_2 <| .cons rfl sum44_3 <| .cons rfl sum44_4 <| .cons rfl sum44_5 <| .cons rfl sum44_6 <| .cons rfl sum44_7 <| .cons rfl sum44_8 <| .cons rfl sum44_9 <| .cons rfl sum44_10 <| .cons rfl sum44_11 <| .cons rfl sum44_12 <| .cons rfl sum44_13 <| .cons rfl sum44_14 <| .cons rfl sum44_15 <| .cons rfl sum44_16 <| .cons rfl sum44_17 <| .cons rfl sum44_18 <| .cons rfl sum44_19 <| .cons rfl sum44_20 <| .cons rfl sum44_21 <| .cons rfl sum44_22 <| .cons rfl sum44_23 <| .cons rfl sum44_24 <| .cons rfl sum44_25 <| .cons rfl sum44_26 <| .cons rfl sum44_27 <| .cons rfl sum44_28 <| .cons rfl sum44_29 <| .cons rfl sum44_30 <| .cons rfl sum44_31 <| .cons rfl sum44_32 <| .cons rfl sum44_33 <| .cons rfl sum44_34 <| .cons rfl sum44_35 <| .cons rfl sum44_36 <| .cons rfl sum44_37 <| .cons rfl sum44_38 <| .cons rfl sum44_39 <| .cons rfl sum44_40 <| .cons rfl sum44_41 <| .cons rfl sum44_42 <| .cons rfl sum44_43 <| .cons rfl sum44_44 <| .cons rfl sum44_45 <| .cons rfl sum44_46 <| .cons rfl sum44_47 <| .cons rfl sum44_48 <| .cons rfl sum44_49 <| .cons rfl sum44_50 <| .cons rfl sum44_51 <| .cons rfl sum44_52 <| .cons rfl sum44_53 <| .cons rfl sum44_54 <| .cons rfl sum44_55 <| .cons rfl sum44_56 <| .cons rfl sum44_57 <| .cons rfl sum44_58 <| .nil
noncomputable def cx44 : Cx := { cx with dm := dmH, sm := smOf [(44, sumTab LStart 7 sum44), (47, sumTab LStart 7 sum47), (13, sumTab LStart 7 sum13), (101, sumTab LStart 7 sum101), (104, sumTab LStart 7 sum104)] }
def sum65_a0 : List V := [(.int .i64 (.lit (1)))]
def sum65_r0 : R Leaf := (.ok { v := (.int .u32 (.lit (55))), objs := [], n := 7 })
theorem sum65_0 : Row cx44 65 sum65_a0 sum65_r0 := .of (by kernel_rfl)
def sum65_a1 : List V := [(.int .i64 (.lit (2)))]
def sum65_r1 : R Leaf := (.ok { v := (.int .u32 (.lit (23))), objs := [], n := 7 })
theorem sum65_1 : Row cx44 65 sum65_a1 sum65_r1 := .of (by kernel_rfl)
def sum65_a2 : List V := [(.int .i64 (.lit (3)))]
def sum65_r2 : R Leaf := (.ok { v := (.int .u32 (.lit (111))), objs := [], n := 7 })
theorem sum65_2 : Row cx44 65 sum65_a2 sum65_r2 := .of (by kernel_rfl)
def sum65_a3 : List V := [(.int .i64 (.lit (4)))]
def sum65_r3 : R Leaf := (.ok { v := (.int .u32 (.lit (103))), objs := [], n := 7 })
theorem sum65_3 : Row cx44 65 sum65_a3 sum65_r3 := .of (by kernel_rfl)
def sum65_a4 : List V := [(.int .i64 (.lit (5)))]
def sum65_r4 : R Leaf := (.ok { v := (.int .u32 (.lit (99))), objs := [], n := 7 })
theorem sum65_4 : Row cx44 65 sum65_a4 sum65_r4 := .of (by kernel_rfl)
def sum65_a5 : List V := [(.int .i64 (.lit (6)))]
def sum65_r5 : R Leaf := (.ok { v := (.int .u32 (.lit (99))), objs := [], n := 7 })
theorem sum65_5 : Row cx44 65 sum65_a5 sum65_r5 := .of (by kernel_rfl)
def sum65_a6 : List V := [(.int .i64 (.lit (7)))]
def sum65_r6 : R Leaf := (.ok { v := (.int .u32 (.lit (99))), objs := [], n := 7 })
theorem sum65_6 : Row cx44 65 sum65_a6 sum65_r6 := .of (by kernel_rfl)
def sum65_a7 : List V := [(.int .i64 (.lit (8)))]
def sum65_r7 : R Leaf := (.ok { v := (.int .u32 (.lit (99))), objs := [], n := 7 })
theorem sum65_7 : Row cx44 65 sum65_a7 sum65_r7 := .of (by kernel_rfl)
def sum65_a8 : List V := [(.int .i64 (.lit (9)))]
def sum65_r8 : R Leaf := (.ok { v := (.int .u32 (.lit (99))), objs := [], n := 7 })
theorem sum65_8 : Row cx44 65 sum65_a8 sum65_r8 := .of (by kernel_rfl)
def sum65_a9 : List V := [(.int .i64 (.lit (10)))]
def sum65_r9 : R Leaf := (.ok { v := (.int .u32 (.lit (99))), objs := [], n := 7 })
theorem sum65_9 : Row cx44 65 sum65_a9 sum65_r9 := .of (by kernel_rfl)
def sum65_a10 : List V := [(.int .i64 (.lit (11)))]
def sum65_r10 : R Leaf := (.ok { v := (.int .u32 (.lit (3))), objs := [], n := 7 })
theorem sum65_10 : Row cx44 65 sum65_a10 sum65_r10 := .of (by kernel_rfl)
def sum65_a11 : List V := [(.int .i64 (.lit (12)))]
def sum65_r11 : R Leaf := (.ok { v := (.int .u32 (.lit (3))), objs := [], n := 7 })
theorem sum65_11 : Row cx44 65 sum65_a11 sum65_r11 := .of (by kernel_rfl)
def sum65_a12 : List V := [(.int .i64 (.lit (13)))]
def sum65_r12 : R Leaf := (.ok { v := (.int .u32 (.lit (3))), objs := [], n := 7 })
theorem sum65_12 : Row cx44 65 sum65_a12 sum65_r12 := .of (by kernel_rfl)
def sum65_a13 : List V := [(.int .i64 (.lit (14)))]
def sum65_r13 : R Leaf := (.ok { v := (.int .u32 (.lit (3))), objs := [], n := 7 })
theorem sum65_13 : Row cx44 65 sum65_a13 sum65_r13 := .of (by kernel_rfl)
def sum65_a14 : List V := [(.int .i64 (.lit (15)))]
def sum65_r14 : R Leaf := (.ok { v := (.int .u32 (.lit (3))), objs := [], n := 7 })
theorem sum65_14 : Row cx44 65 sum65_a14 sum65_r14 := .of (by kernel_rfl)
def sum65_a15 : List V := [(.int .i64 (.lit (16)))]
def sum65_r15 : R Leaf := (.ok { v := (.int .u32 (.lit (35))), objs := [], n := 7 })
theorem sum65_15 : Row cx44 65 sum65_a15 sum65_r15 := .of (by kernel_rfl)
def sum65_a16 : List V := [(.int .i64 (.lit (17)))]
def sum65_r16 : R Leaf := (.ok { v := (.int .u32 (.lit (35))), objs := [], n := 7 })
theorem sum65_16 : Row cx44 65 sum65_a16 sum65_r16 := .of (by kernel_rfl)
def sum65_a17 : List V := [(.int .i64 (.lit (18)))]
def sum65_r17 : R Leaf := (.ok { v := (.int .u32 (.lit (35))), objs := [], n := 7 })
theorem sum65_17 : Row cx44 65 sum65_a17 sum65_r17 := .of (by kernel_rfl)
def sum65_a18 : List V := [(.int .i64 (.lit (19)))]
def sum65_r18 : R Leaf := (.ok { v := (.int .u32 (.lit (19))), objs := [], n := 7 })
theorem sum65_18 : Row cx44 65 sum65_a18 sum65_r18 := .of (by kernel_rfl)
def sum65_a19 : List V := [(.int .i64 (.lit (20)))]
def sum65_r19 : R Leaf := (.ok { v := (.int .u32 (.lit (19))), objs := [], n := 7 })
theorem sum65_19 : Row cx44 65 sum65_a19 sum65_r19 := .of (by kernel_rfl)
def sum65_a20 : List V := [(.int .i64 (.lit (21)))]
def sum65_r20 : R Leaf := (.ok { v := (.int .u32 (.lit (19))), objs := [], n := 7 })
theorem sum65_20 : Row cx44 65 sum65_a20 sum65_r20 := .of (by kernel_rfl)
def sum65_a21 : List V := [(.int .i64 (.lit (22)))]
def sum65_r21 : R Leaf := (.ok { v := (.int .u32 (.lit (19))), objs := [], n := 7 })
theorem sum65_21 : Row cx44 65 sum65_a21 sum65_r21 := .of (by kernel_rfl)
def sum65_a22 : List V := [(.int .i64 (.lit (23)))]
def sum65_r22 : R Leaf := (.ok { v := (.int .u32 (.lit (19))), objs := [], n := 7 })
theorem sum65_22 : Row cx44 65 sum65_a22 sum65_r22 := .of (by kernel_rfl)
def sum65_a23 : List V := [(.int .i64 (.lit (24)))]
def sum65_r23 : R Leaf := (.ok { v := (.int .u32 (.lit (19))), objs := [], n := 7 })
theorem sum65_23 : Row cx44 65 sum65_a23 sum65_r23 := .of (by kernel_rfl)
def sum65_a24 : List V := [(.int .i64 (.lit (25)))]
def sum65_r24 : R Leaf := (.ok { v := (.int .u32 (.lit (19))), objs := [], n := 7 })
theorem sum65_24 : Row cx44 65 sum65_a24 sum65_r24 := .of (by kernel_rfl)
def sum65_a25 : List V := [(.int .i64 (.lit (26)))]
def sum65_r25 : R Leaf := (.ok { v := (.int .u32 (.lit (19))), objs := [], n := 7 })
theorem sum65_25 : Row cx44 65 sum65_a25 sum65_r25 := .of (by kernel_rfl)
def sum65_a26 : List V := [(.int .i64 (.lit (27)))]
def sum65_r26 : R Leaf := (.ok { v := (.int .u32 (.lit (19))), objs := [], n := 7 })
theorem sum65_26 : Row cx44 65 sum65_a26 sum65_r26 := .of (by kernel_rfl)
def sum65_a27 : List V := [(.int .i64 (.lit (28)))]
def sum65_r27 : R Leaf := (.ok { v := (.int .u32 (.lit (51))), objs := [], n := 7 })
theorem sum65_27 : Row cx44 65 sum65_a27 sum65_r27 := .of (by kernel_rfl)
def sum65_a28 : List V := [(.int .i64 (.lit (29)))]
def sum65_r28 : R Leaf := (.ok { v := (.int .u32 (.lit (51))), objs := [], n := 7 })
theorem sum65_28 : Row cx44 65 sum65_a28 sum65_r28 := .of (by kernel_rfl)
def sum65_a29 : List V := [(.int .i64 (.lit (30)))]
def sum65_r29 : R Leaf := (.ok { v := (.int .u32 (.lit (51))), objs := [], n := 7 })
theorem sum65_29 : Row cx44 65 sum65_a29 sum65_r29 := .of (by kernel_rfl)
def sum65_a30 : List V := [(.int .i64 (.lit (31)))]
def sum65_r30 : R Leaf := (.ok { v := (.int .u32 (.lit (51))), objs := [], n := 7 })
theorem sum65_30 : Row cx44 65 sum65_a30 sum65_r30 := .of (by kernel_rfl)
def sum65_a31 : List V := [(.int .i64 (.lit (32)))]
def sum65_r31 : R Leaf := (.ok { v := (.int .u32 (.lit (51))), objs := [], n := 7 })
theorem sum65_31 : Row cx44 65 sum65_a31 sum65_r31 := .of (by kernel_rfl)
def sum65_a32 : List V := [(.int .i64 (.lit (33)))]
def sum65_r32 : R Leaf := (.ok { v := (.int .u32 (.lit (51))), objs := [], n := 7 })
theorem sum65_32 : Row cx44 65 sum65_a32 sum65_r32 := .of (by kernel_rfl)
def sum65_a33 : List V := [(.int .i64 (.lit (34)))]
def sum65_r33 : R Leaf := (.ok { v := (.int .u32 (.lit (51))), objs := [], n := 7 })
theorem sum65_33 : Row cx44 65 sum65_a33 sum65_r33 := .of (by kernel_rfl)
def sum65_a34 : List V := [(.int .i64 (.lit (35)))]
def sum65_r34 : R Leaf := (.ok { v := (.int .u32 (.lit (51))), objs := [], n := 7 })
theorem sum65_34 : Row cx44 65 sum65_a34 sum65_r34 := .of (by kernel_rfl)
def sum65_a35 : List V := [(.int .i64 (.lit (36)))]
def sum65_r35 : R Leaf := (.ok { v := (.int .u32 (.lit (51))), objs := [], n := 7 })
theorem sum65_35 : Row cx44 65 sum65_a35 sum65_r35 := .of (by kernel_rfl)
def sum65_a36 : List V := [(.int .i64 (.lit (37)))]
def sum65_r36 : R Leaf := (.ok { v := (.int .u32 (.lit (51))), objs := [], n := 7 })
theorem sum65_36 : Row cx44 65 sum65_a36 sum65_r36 := .of (by kernel_rfl)
def sum65_a37 : List V := [(.int .i64 (.lit (38)))]
def sum65_r37 : R Leaf := (.ok { v := (.int .u32 (.lit (15))), objs := [], n := 7 })
theorem sum65_37 : Row cx44 65 sum65_a37 sum65_r37 := .of (by kernel_rfl)
def sum65_a38 : List V := [(.int .i64 (.lit (39)))]
def sum65_r38 : R Leaf := (.ok { v := (.int .u32 (.lit (115))), objs := [], n := 7 })
theorem sum65_38 : Row cx44 65 sum65_a38 sum65_r38 := .of (by kernel_rfl)
def sum65_a39 : List V := [(.int .i64 (.lit (40)))]
def sum65_r39 : R Leaf := (.ok { v := (.int .u32 (.lit (51))), objs := [], n := 7 })
theorem sum65_39 : Row cx44 65 sum65_a39 sum65_r39 := .of (by kernel_rfl)
def sum65_a40 : List V := [(.int .i64 (.lit (41)))]
def sum65_r40 : R Leaf := (.ok { v := (.int .u32 (.lit (51))), objs := [], n := 7 })
theorem sum65_40 : Row cx44 65 sum65_a40 sum65_r40 := .of (by kernel_rfl)
def sum65_a41 : List V := [(.int .i64 (.lit (42)))]
def sum65_r41 : R Leaf := (.ok { v := (.int .u32 (.lit (51))), objs := [], n := 7 })
theorem sum65_41 : Row cx44 65 sum65_a41 sum65_r41 := .of (by kernel_rfl)
def sum65_a42 : List V := [(.int .i64 (.lit (43)))]
def sum65_r42 : R Leaf := (.ok { v := (.int .u32 (.lit (51))), objs := [], n := 7 })
theorem sum65_42 : Row cx44 65 sum65_a42 sum65_r42 := .of (by kernel_rfl)
def sum65_a43 : List V := [(.int .i64 (.lit (44)))]
def sum65_r43 : R Leaf := (.ok { v := (.int .u32 (.lit (51))), objs := [], n := 7 })
theorem sum65_43 : Row cx44 65 sum65_a43 sum65_r43 := .of (by kernel_rfl)
def sum65_a44 : List V := [(.int .i64 (.lit (45)))]
def sum65_r44 : R Leaf := (.ok { v := (.int .u32 (.lit (51))), objs := [], n := 7 })
theorem sum65_44 : Row cx44 65 sum65_a44 sum65_r44 := .of (by kernel_rfl)
def sum65_a45 : List V := [(.int .i64 (.lit (46)))]
def sum65_r45 : R Leaf := (.ok { v := (.int .u32 (.lit (51))), objs := [], n := 7 })
theorem sum65_45 : Row cx44 65 sum65_a45 sum65_r45 := .of (by kernel_rfl)
def sum65_a46 : List V := [(.int .i64 (.lit (47)))]
def sum65_r46 : R Leaf := (.ok { v := (.int .u32 (.lit (51))), objs := [], n := 7 })
theorem sum65_46 : Row cx44 65 sum65_a46 sum65_r46 := .of (by kernel_rfl)
def sum65_a47 : List V := [(.int .i64 (.lit (48)))]
def sum65_r47 : R Leaf := (.ok { v := (.int .u32 (.lit (47))), objs := [], n := 7 })
theorem sum65_47 : Row cx44 65 sum65_a47 sum65_r47 := .of (by kernel_rfl)
def sum65_a48 : List V := [(.int .i64 (.lit (49)))]
def sum65_r48 : R Leaf := (.ok { v := (.int .u32 (.lit (47))), objs := [], n := 7 })
theorem sum65_48 : Row cx44 65 sum65_a48 sum65_r48 := .of (by kernel_rfl)
def sum65_a49 : List V := [(.int .i64 (.lit (50)))]
def sum65_r49 : R Leaf := (.ok { v := (.int .u32 (.lit (47))), objs := [], n := 7 })
theorem sum65_49 : Row cx44 65 sum65_a49 sum65_r49 := .of (by kernel_rfl)
def sum65_a50 : List V := [(.int .i64 (.lit (51)))]
def sum65_r50 : R Leaf := (.ok { v := (.int .u32 (.lit (47))), objs := [], n := 7 })
theorem sum65_50 : Row cx44 65 sum65_a50 sum65_r50 := .of (by kernel_rfl)
def sum65_a51 : List V := [(.int .i64 (.lit (52)))]
def sum65_r51 : R Leaf := (.ok { v := (.int .u32 (.lit (47))), objs := [], n := 7 })
theorem sum65_51 : Row cx44 65 sum65_a51 sum65_r51 := .of (by kernel_rfl)
def sum65_a52 : List V := [(.int .i64 (.lit (53)))]
def sum65_r52 : R Leaf := (.ok { v := (.int .u32 (.lit (47))), objs := [], n := 7 })
theorem sum65_52 : Row cx44 65 sum65_a52 sum65_r52 := .of (by kernel_rfl)
def sum65_a53 : List V := [(.int .i64 (.lit (54)))]
def sum65_r53 : R Leaf := (.ok { v := (.int .u32 (.lit (47))), objs := [], n := 7 })
theorem sum65_53 : Row cx44 65 sum65_a53 sum65_r53 := .of (by kernel_rfl)
def sum65_a54 : List V := [(.int .i64 (.lit (55)))]
def sum65_r54 : R Leaf := (.ok { v := (.int .u32 (.lit (47))), objs := [], n := 7 })
theorem sum65_54 : Row cx44 65 sum65_a54 sum65_r54 := .of (by kernel_rfl)
def sum65_a55 : List V := [(.int .i64 (.lit (56)))]
def sum65_r55 : R Leaf := (.ok { v := (.int .u32 (.lit (47))), objs := [], n := 7 })
theorem sum65_55 : Row cx44 65 sum65_a55 sum65_r55 := .of (by kernel_rfl)
def sum65_a56 : List V := [(.int .i64 (.lit (57)))]
def sum65_r56 : R Leaf := (.ok { v := (.int .u32 (.lit (47))), objs := [], n := 7 })
theorem sum65_56 : Row cx44 65 sum65_a56 sum65_r56 := .of (by kernel_rfl)
def sum65_a57 : List V := [(.int .i64 (.lit (58)))]
def sum65_r57 : R Leaf := (.ok { v := (.int .u32 (.lit (47))), objs := [], n := 7 })
theorem sum65_57 : Row cx44 65 sum65_a57 sum65_r57 := .of (by kernel_rfl)
def sum65_a58 : List V := [(.int .i64 (.lit (59)))]
def sum65_r58 : R Leaf := (.ok { v := (.int .u32 (.lit (115))), objs := [], n := 7 })
theorem sum65_58 : Row cx44 65 sum65_a58 sum65_r58 := .of (by kernel_rfl)
def sum65 : List (List V × R Leaf) := [(sum65_a0, sum65_r0), (sum65_a1, sum65_r1), (sum65_a2, sum65_r2), (sum65_a3, sum65_r3), (sum65_a4, sum65_r4), (sum65_a5, sum65_r5), (sum65_a6, sum65_r6), (sum65_a7, sum65_r7), (sum65_a8, sum65_r8), (sum65_a9, sum65_r9), (sum65_a10, sum65_r10), (sum65_a11, sum65_r11), (sum65_a12, sum65_r12), (sum65_a13, sum65_r13), (sum65_a14, sum65_r14), (sum65_a15, sum65_r15), (sum65_a16, sum65_r16), (sum65_a17, sum65_r17), (sum65_a18, sum65_r18), (sum65_a19, sum65_r19), (sum65_a20, sum65_r20), (sum65_a21, sum65_r21), (sum65_a22, sum65_r22), (sum65_a23, sum65_r23), (sum65_a24, sum65_r24), (sum65_a25, sum65_r25), (sum65_a26, sum65_r26), (sum65_a27, sum65_r27), (sum65_a28, sum65_r28), (sum65_a29, sum65_r29), (sum65_a30, sum65_r30), (sum65_a31, sum65_r31), (sum65_a32, sum65_r32), (sum65_a33, sum65_r33), (sum65_a34, sum65_r34), (sum65_a35, sum65_r35), (sum65_a36, sum65_r36), (sum65_a37, sum65_r37), (sum65_a38, sum65_r38), (sum65_a39, sum65_r39), (sum65_a40, sum65_r40), (sum65_a41, sum65_r41), (sum65_a42, sum65_r42), (sum65_a43, sum65_r43), (sum65_a44, sum65_r44), (sum65_a45, sum65_r45), (sum65_a46, sum65_r46), (sum65_a47, sum65_r47), (sum65_a48, sum65_r48), (sum65_a49, sum65_r49), (sum65_a50, sum65_r50), (sum65_a51, sum65_r51), (sum65_a52, sum65_r52), (sum65_a53, sum65_r53), (sum65_a54, sum65_r54), (sum65_a55, sum65_r55), (sum65_a56, sum65_r56), (sum65_a57, sum65_r57), (sum65_a58, sum65_r58)]
theorem sum65_ok : TabOk cx44 LStart 7 4000 65 sum65 := .cons rfl sum65_0 <| .cons rfl sum65_1 <| .cons rfl sum65_2 <| .cons rfl sum65_3 <| .cons rfl sum65_4 <| .cons rfl sum65_5 <| .cons rfl sum65_6 <| .cons rfl sum65_7 <| .cons rfl sum65_8 <| .cons rfl sum65_9 <| .cons rfl sum65_10 <| .cons rfl sum65_11 <| .cons rfl sum65_12 <| .cons rfl sum65_13 <| .cons rfl sum65_14 <| .cons rfl sum65_15 <| .cons rfl sum65_16 <| .cons rfl sum65_17 <| .cons rfl sum65_18 <| .cons rfl sum65_19 <| .cons rfl sum65_20 <| .cons rfl sum65_21 <| .cons rfl sum65_22 <| .cons rfl sum65_23 <| .cons rfl sum65_24 <| .cons rfl sum65_25 <| .cons rfl sum65_26 <| .cons rfl sum65_27 <| .cons rfl sum65_28 <| .cons rfl sum65_29 <| .cons rfl sum65_30 <| .cons rfl sum65_31 <| .cons rfl sum65_32 <| .cons rfl sum65_33 <| .cons rfl sum65_34 <| .cons rfl sum65_35 <| .cons rfl sum65_36 <| .cons rfl sum65_37 <| .cons rfl sum65_38 <| .cons rfl sum65_39 <| .cons rfl sum65_40 <| .cons rfl sum65_41 <| .cons rfl sum65_42 <| .cons rfl sum65_43 <| .cons rfl sum65_44 <| .cons rfl sum65_45 <| .cons rfl sum65_46 <| .cons rfl sum65_47 <| .cons rfl sum65_48 <| .cons rfl sum65_49 <| .cons rfl sum65_50 <| .cons rfl sum65_51 <| .cons rfl sum65_52 <| .cons rfl sum65_53 <| .cons rfl sum65_54 <| .cons rfl sum65_55 <| .cons rfl sum65_56 <| .cons rfl sum65_57 <| .cons rfl sum65_58 <| .nil
noncomputable def cx65 : Cx := { cx with dm := dmH, sm := smOf [(65, sumTab LStart 7 sum65), (44, sumTab LStart 7 sum44), (47, sumTab LStart 7 sum47), (13, sumTab LStart 7 sum13), (101, sumTab LStart 7 sum101), (104, sumTab LStart 7 sum104)] }
def sum66_a0 : List V := [(.int .i64 (.lit (1)))]
def sum66_r0 : R Leaf := (.ok { v := (.int .u32 (.lit (0))), objs := [], n := 8 })
theorem sum66_0 : Row cx65 66 sum66_a0 sum66_r0 := .of (by kernel_rfl)
def sum66_a1 : List V := [(.int .i64 (.lit (2)))]
def sum66_r1 : R Leaf := (.ok { v := (.int .u32 (.lit (0))), objs := [], n := 8 })
theorem sum66_1 : Row cx65 66 sum66_a1 sum66_r1 := .of (by kernel_rfl)
def sum66_a2 : List V := [(.int .i64 (.lit (3)))]
def sum66_r2 : R Leaf := (.ok { v := (.int .u32 (.lit (0))), objs := [], n := 8 })
theorem sum66_2 : Row cx65 66 sum66_a2 sum66_r2 := .of (by kernel_rfl)
def sum66_a3 : List V := [(.int .i64 (.lit (4)))]
def sum66_r3 : R Leaf := (.ok { v := (.int .u32 (.lit (0))), objs := [], n := 8 })
theorem sum66_3 : Row cx65 66 sum66_a3 sum66_r3 := .of (by kernel_rfl)
def sum66_a4 : List V := [(.int .i64 (.lit (5)))]
def sum66_r4 : R Leaf := (.ok { v := (.int .u32 (.lit (0))), objs := [], n := 8 })
theorem sum66_4 : Row cx65 66 sum66_a4 sum66_r4 := .of (by kernel_rfl)
def sum66_a5 : List V := [(.int .i64 (.lit (6)))]
def sum66_r5 : R Leaf := (.ok { v := (.int .u32 (.lit (1))), objs := [], n := 8 })
theorem sum66_5 : Row cx65 66 sum66_a5 sum66_r5 := .of (by kernel_rfl)
def sum66_a6 : List V := [(.int .i64 (.lit (7)))]
def sum66_r6 : R Leaf := (.ok { v := (.int .u32 (.lit (4))), objs := [], n := 8 })
theorem sum66_6 : Row cx65 66 sum66_a6 sum66_r6 := .of (by kernel_rfl)
def sum66_a7 : List V := [(.int .i64 (.lit (8)))]
def sum66_r7 : R Leaf := (.ok { v := (.int .u32 (.lit (5))), objs := [], n := 8 })
theorem sum66_7 : Row cx65 66 sum66_a7 sum66_r7 := .of (by kernel_rfl)
def sum66_a8 : List V := [(.int .i64 (.lit (9)))]
def sum66_r8 : R Leaf := (.ok { v := (.int .u32 (.lit (6))), objs := [], n := 8 })
theorem sum66_8 : Row cx65 66 sum66_a8 sum66_r8 := .of (by kernel_rfl)
def sum66_a9 : List V := [(.int .i64 (.lit (10)))]
def sum66_r9 : R Leaf := (.ok { v := (.int .u32 (.lit (7))), objs := [], n := 8 })
theorem sum66_9 : Row cx65 66 sum66_a9 sum66_r9 := .of (by kernel_rfl)
def sum66_a10 : List V := [(.int .i64 (.lit (11)))]
def sum66_r10 : R Leaf := (.ok { v := (.int .u32 (.lit (0))), objs := [], n := 8 })
theorem sum66_10 : Row cx65 66 sum66_a10 sum66_r10 := .of (by kernel_rfl)
def sum66_a11 : List V := [(.int .i64 (.lit (12)))]
def sum66_r11 : R Leaf := (.ok { v := (.int .u32 (.lit (1))), objs := [], n := 8 })
theorem sum66_11 : Row cx65 66 sum66_a11 sum66_r11 := .of (by kernel_rfl)
def sum66_a12 : List V := [(.int .i64 (.lit (13)))]
def sum66_r12 : R Leaf := (.ok { v := (.int .u32 (.lit (2))), objs := [], n := 8 })
theorem sum66_12 : Row cx65 66 sum66_a12 sum66_r12 := .of (by kernel_rfl)
def sum66_a13 : List V := [(.int .i64 (.lit (14)))]
def sum66_r13 : R Leaf := (.ok { v := (.int .u32 (.lit (4))), objs := [], n := 8 })
theorem sum66_13 : Row cx65 66 sum66_a13 sum66_r13 := .of (by kernel_rfl)
def sum66_a14 : List V := [(.int .i64 (.lit (15)))]
def sum66_r14 : R Leaf := (.ok { v := (.int .u32 (.lit (5))), objs := [], n := 8 })
theorem sum66_14 : Row cx65 66 sum66_a14 sum66_r14 := .of (by kernel_rfl)
def sum66_a15 : List V := [(.int .i64 (.lit (16)))]
def sum66_r15 : R Leaf := (.ok { v := (.int .u32 (.lit (0))), objs := [], n := 8 })
theorem sum66_15 : Row cx65 66 sum66_a15 sum66_r15 := .of (by kernel_rfl)
def sum66_a16 : List V := [(.int .i64 (.lit (17)))]
def sum66_r16 : R Leaf := (.ok { v := (.int .u32 (.lit (1))), objs := [], n := 8 })
theorem sum66_16 : Row cx65 66 sum66_a16 sum66_r16 := .of (by kernel_rfl)
def sum66_a17 : List V := [(.int .i64 (.lit (18)))]
def sum66_r17 : R Leaf := (.ok { v := (.int .u32 (.lit (2))), objs := [], n := 8 })
theorem sum66_17 : Row cx65 66 sum66_a17 sum66_r17 := .of (by kernel_rfl)
def sum66_a18 : List V := [(.int .i64 (.lit (19)))]
def sum66_r18 : R Leaf := (.ok { v := (.int .u32 (.lit (0))), objs := [], n := 8 })
theorem sum66_18 : Row cx65 66 sum66_a18 sum66_r18 := .of (by kernel_rfl)
def sum66_a19 : List V := [(.int .i64 (.lit (20)))]
def sum66_r19 : R Leaf := (.ok { v := (.int .u32 (.lit (2))), objs := [], n := 8 })
theorem sum66_19 : Row cx65 66 sum66_a19 sum66_r19 := .of (by kernel_rfl)
def sum66_a20 : List V := [(.int .i64 (.lit (21)))]
def sum66_r20 : R Leaf := (.ok { v := (.int .u32 (.lit (3))), objs := [], n := 8 })
theorem sum66_20 : Row cx65 66 sum66_a20 sum66_r20 := .of (by kernel_rfl)
def sum66_a21 : List V := [(.int .i64 (.lit (22)))]
def sum66_r21 : R Leaf := (.ok { v := (.int .u32 (.lit (4))), objs := [], n := 8 })
theorem sum66_21 : Row cx65 66 sum66_a21 sum66_r21 := .of (by kernel_rfl)
def sum66_a22 : List V := [(.int .i64 (.lit (23)))]
def sum66_r22 : R Leaf := (.ok { v := (.int .u32 (.lit (6))), objs := [], n := 8 })
theorem sum66_22 : Row cx65 66 sum66_a22 sum66_r22 := .of (by kernel_rfl)
def sum66_a23 : List V := [(.int .i64 (.lit (24)))]
def sum66_r23 : R Leaf := (.ok { v := (.int .u32 (.lit (7))), objs := [], n := 8 })
theorem sum66_23 : Row cx65 66 sum66_a23 sum66_r23 := .of (by kernel_rfl)
def sum66_a24 : List V := [(.int .i64 (.lit (25)))]
def sum66_r24 : R Leaf := (.ok { v := (.int .u32 (.lit (1))), objs := [], n := 8 })
theorem sum66_24 : Row cx65 66 sum66_a24 sum66_r24 := .of (by kernel_rfl)
def sum66_a25 : List V := [(.int .i64 (.lit (26)))]
def sum66_r25 : R Leaf := (.ok { v := (.int .u32 (.lit (5))), objs := [], n := 8 })
theorem sum66_25 : Row cx65 66 sum66_a25 sum66_r25 := .of (by kernel_rfl)
def sum66_a26 : List V := [(.int .i64 (.lit (27)))]
def sum66_r26 : R Leaf := (.ok { v := (.int .u32 (.lit (5))), objs := [], n := 8 })
theorem sum66_26 : Row cx65 66 sum66_a26 sum66_r26 := .of (by kernel_rfl)
def sum66_a27 : List V := [(.int .i64 (.lit (28)))]
def sum66_r27 : R Leaf := (.ok { v := (.int .u32 (.lit (0))), objs := [], n := 8 })
theorem sum66_27 : Row cx65 66 sum66_a27 sum66_r27 := .of (by kernel_rfl)
def sum66_a28 : List V := [(.int .i64 (.lit (29)))]
def sum66_r28 : R Leaf := (.ok { v := (.int .u32 (.lit (0))), objs := [], n := 8 })
theorem sum66_28 : Row cx65 66 sum66_a28 sum66_r28 := .of (by kernel_rfl)
def sum66_a29 : List V := [(.int .i64 (.lit (30)))]
def sum66_r29 : R Leaf := (.ok { v := (.int .u32 (.lit (1))), objs := [], n := 8 })
theorem sum66_29 : Row cx65 66 sum66_a29 sum66_r29 := .of (by kernel_rfl)
def sum66_a30 : List V := [(.int .i64 (.lit (31)))]
def sum66_r30 : R Leaf := (.ok { v := (.int .u32 (.lit (2))), objs := [], n := 8 })
theorem sum66_30 : Row cx65 66 sum66_a30 sum66_r30 := .of (by kernel_rfl)
def sum66_a31 : List V := [(.int .i64 (.lit (32)))]
def sum66_r31 : R Leaf := (.ok { v := (.int .u32 (.lit (3))), objs := [], n := 8 })
theorem sum66_31 : Row cx65 66 sum66_a31 sum66_r31 := .of (by kernel_rfl)
def sum66_a32 : List V := [(.int .i64 (.lit (33)))]
def sum66_r32 : R Leaf := (.ok { v := (.int .u32 (.lit (4))), objs := [], n := 8 })
theorem sum66_32 : Row cx65 66 sum66_a32 sum66_r32 := .of (by kernel_rfl)
def sum66_a33 : List V := [(.int .i64 (.lit (34)))]
def sum66_r33 : R Leaf := (.ok { v := (.int .u32 (.lit (5))), objs := [], n := 8 })
theorem sum66_33 : Row cx65 66 sum66_a33 sum66_r33 := .of (by kernel_rfl)
def sum66_a34 : List V := [(.int .i64 (.lit (35)))]
def sum66_r34 : R Leaf := (.ok { v := (.int .u32 (.lit (5))), objs := [], n := 8 })
theorem sum66_34 : Row cx65 66 sum66_a34 sum66_r34 := .of (by kernel_rfl)
def sum66_a35 : List V := [(.int .i64 (.lit (36)))]
def sum66_r35 : R Leaf := (.ok { v := (.int .u32 (.lit (6))), objs := [], n := 8 })
theorem sum66_35 : Row cx65 66 sum66_a35 sum66_r35 := .of (by kernel_rfl)
def sum66_a36 : List V := [(.int .i64 (.lit (37)))]
def sum66_r36 : R Leaf := (.ok { v := (.int .u32 (.lit (7))), objs := [], n := 8 })
theorem sum66_36 : Row cx65 66 sum66_a36 sum66_r36 := .of (by kernel_rfl)
def sum66_a37 : List V := [(.int .i64 (.lit (38)))]
def sum66_r37 : R Leaf := (.ok { v := (.int .u32 (.lit (0))), objs := [], n := 8 })
theorem sum66_37 : Row cx65 66 sum66_a37 sum66_r37 := .of (by kernel_rfl)
def sum66_a38 : List V := [(.int .i64 (.lit (39)))]
def sum66_r38 : R Leaf := (.ok { v := (.int .u32 (.lit (0))), objs := [], n := 8 })
theorem sum66_38 : Row cx65 66 sum66_a38 sum66_r38 := .of (by kernel_rfl)
def sum66_a39 : List V := [(.int .i64 (.lit (40)))]
def sum66_r39 : R Leaf := (.ok { v := (.int .u32 (.lit (0))), objs := [], n := 8 })
theorem sum66_39 : Row cx65 66 sum66_a39 sum66_r39 := .of (by kernel_rfl)
def sum66_a40 : List V := [(.int .i64 (.lit (41)))]
def sum66_r40 : R Leaf := (.ok { v := (.int .u32 (.lit (1))), objs := [], n := 8 })
theorem sum66_40 : Row cx65 66 sum66_a40 sum66_r40 := .of (by kernel_rfl)
def sum66_a41 : List V := [(.int .i64 (.lit (42)))]
def sum66_r41 : R Leaf := (.ok { v := (.int .u32 (.lit (2))), objs := [], n := 8 })
theorem sum66_41 : Row cx65 66 sum66_a41 sum66_r41 := .of (by kernel_rfl)
def sum66_a42 : List V := [(.int .i64 (.lit (43)))]
def sum66_r42 : R Leaf := (.ok { v := (.int .u32 (.lit (3))), objs := [], n := 8 })
theorem sum66_42 : Row cx65 66 sum66_a42 sum66_r42 := .of (by kernel_rfl)
def sum66_a43 : List V := [(.int .i64 (.lit (44)))]
def sum66_r43 : R Leaf := (.ok { v := (.int .u32 (.lit (4))), objs := [], n := 8 })
theorem sum66_43 : Row cx65 66 sum66_a43 sum66_r43 := .of (by kernel_rfl)
def sum66_a44 : List V := [(.int .i64 (.lit (45)))]
def sum66_r44 : R Leaf := (.ok { v := (.int .u32 (.lit (5))), objs := [], n := 8 })
theorem sum66_44 : Row cx65 66 sum66_a44 sum66_r44 := .of (by kernel_rfl)
def sum66_a45 : List V := [(.int .i64 (.lit (46)))]
def sum66_r45 : R Leaf := (.ok { v := (.int .u32 (.lit (6))), objs := [], n := 8 })
theorem sum66_45 : Row cx65 66 sum66_a45 sum66_r45 := .of (by kernel_rfl)
def sum66_a46 : List V := [(.int .i64 (.lit (47)))]
def sum66_r46 : R Leaf := (.ok { v := (.int .u32 (.lit (7))), objs := [], n := 8 })
theorem sum66_46 : Row cx65 66 sum66_a46 sum66_r46 := .of (by kernel_rfl)
def sum66_a47 : List V := [(.int .i64 (.lit (48)))]
def sum66_r47 : R Leaf := (.ok { v := (.int .u32 (.lit (2))), objs := [], n := 8 })
theorem sum66_47 : Row cx65 66 sum66_a47 sum66_r47 := .of (by kernel_rfl)
def sum66_a48 : List V := [(.int .i64 (.lit (49)))]
def sum66_r48 : R Leaf := (.ok { v := (.int .u32 (.lit (2))), objs := [], n := 8 })
theorem sum66_48 : Row cx65 66 sum66_a48 sum66_r48 := .of (by kernel_rfl)
def sum66_a49 : List V := [(.int .i64 (.lit (50)))]
def sum66_r49 : R Leaf := (.ok { v := (.int .u32 (.lit (2))), objs := [], n := 8 })
theorem sum66_49 : Row cx65 66 sum66_a49 sum66_r49 := .of (by kernel_rfl)
def sum66_a50 : List V := [(.int .i64 (.lit (51)))]
def sum66_r50 : R Leaf := (.ok { v := (.int .u32 (.lit (2))), objs := [], n := 8 })
theorem sum66_50 : Row cx65 66 sum66_a50 sum66_r50 := .of (by kernel_rfl)
def sum66_a51 : List V := [(.int .i64 (.lit (52)))]
def sum66_r51 : R Leaf := (.ok { v := (.int .u32 (.lit (2))), objs := [], n := 8 })
theorem sum66_51 : Row cx65 66 sum66_a51 sum66_r51 := .of (by kernel_rfl)
def sum66_a52 : List V := [(.int .i64 (.lit (53)))]
def sum66_r52 : R Leaf := (.ok { v := (.int .u32 (.lit (2))), objs := [], n := 8 })
theorem sum66_52 : Row cx65 66 sum66_a52 sum66_r52 := .of (by kernel_rfl)
def sum66_a53 : List V := [(.int .i64 (.lit (54)))]
def sum66_r53 : R Leaf := (.ok { v := (.int .u32 (.lit (2))), objs := [], n := 8 })
theorem sum66_53 : Row cx65 66 sum66_a53 sum66_r53 := .of (by kernel_rfl)
def sum66_a54 : List V := [(.int .i64 (.lit (55)))]
def sum66_r54 : R Leaf := (.ok { v := (.int .u32 (.lit (2))), objs := [], n := 8 })
theorem sum66_54 : Row cx65 66 sum66_a54 sum66_r54 := .of (by kernel_rfl)
def sum66_a55 : List V := [(.int .i64 (.lit (56)))]
def sum66_r55 : R Leaf := (.ok { v := (.int .u32 (.lit (2))), objs := [], n := 8 })
theorem sum66_55 : Row cx65 66 sum66_a55 sum66_r55 := .of (by kernel_rfl)
def sum66_a56 : List V := [(.int .i64 (.lit (57)))]
def sum66_r56 : R Leaf := (.ok { v := (.int .u32 (.lit (2))), objs := [], n := 8 })
theorem sum66_56 : Row cx65 66 sum66_a56 sum66_r56 := .of (by kernel_rfl)
def sum66_a57 : List V := [(.int .i64 (.lit (58)))]
def sum66_r57 : R Leaf := (.ok { v := (.int .u32 (.lit (2))), objs := [], n := 8 })
theorem sum66_57 : Row cx65 66 sum66_a57 sum66_r57 := .of (by kernel_rfl)
def sum66_a58 : List V := [(.int .i64 (.lit (59)))]
def sum66_r58 : R Leaf := (.ok { v := (.int .u32 (.lit (2))), objs := [], n := 8 })
theorem sum66_58 : Row cx65 66 sum66_a58 sum66_r58 := .of (by kernel_rfl)
def sum66 : List (List V × R Leaf) := [(sum66_a0, sum66_r0), (sum66_a1, sum66_r1), (sum66_a2, sum66_r2), (sum66_a3, sum66_r3), (sum66_a4, sum66_r4), (sum66_a5, sum66_r5), (sum66_a6, sum66_r6), (sum66_a7, sum66_r7), (sum66_a8, sum66_r8), (sum66_a9, sum66_r9), (sum66_a10, sum66_r10), (sum66_a11, sum66_r11), (sum66_a12, sum66_r12), (sum66_a13, sum66_r13), (sum66_a14, sum66_r14), (sum66_a15, sum66_r15), (sum66_a16, sum66_r16), (sum66_a17, sum66_r17), (sum66_a18, sum66_r18), (sum66_a19, sum66_r19), (sum66_a20, sum66_r20), (sum66_a21, sum66_r21), (sum66_a22, sum66_r22), (sum66_a23, sum66_r23), (sum66_a24, sum66_r24), (sum66_a25, sum66_r25), (sum66_a26, sum66_r26), (sum66_a27, sum66_r27), (sum66_a28, sum66_r28), (sum66_a29, sum66_r29), (sum66_a30, sum66_r30), (sum66_a31, sum66_r31), (sum66_a32, sum66_r32), (sum66_a33, sum66_r33), (sum66_a34, sum66_r34), (sum66_a35, sum66_r35), (sum66_a36, sum66_r36), (sum66_a37, sum66_r37), (sum66_a38, sum66_r38), (sum66_a39, sum66_r39), (sum66_a40, sum66_r40), (sum66_a41, sum66_r41), (sum66_a42, sum66_r42), (sum66_a43, sum66_r43), (sum66_a44, sum66_r44), (sum66_a45, sum66_r45), (sum66_a46, sum66_r46), (sum66_a47, sum66_r47), (sum66_a48, sum66_r48), (sum66_a49, sum66_r49), (sum66_a50, sum66_r50), (sum66_a51, sum66_r51), (sum66_a52, sum66_r52), (sum66_a53, sum66_r53), (sum66_a54, sum66_r54), (sum66_a55, sum66_r55), (sum66_a56, sum66_r56), (sum66_a57, sum66_r57), (sum66_a58, sum66_r58)]
theorem sum66_ok : TabOk cx65 LStart 7 4000 66 sum66 := .cons rfl sum66_0 <| .cons rfl sum66_1 <| .cons rfl sum66_2 <| .cons rfl sum66_3 <| .cons rfl sum66_4 <| .cons rfl sum66_5 <| .cons rfl sum66_6 <| .cons rfl sum66_7 <| .cons rfl sum66_8 <| .cons rfl sum66_9 <| .cons rfl sum66_10 <| .cons rfl sum66_11 <| .cons rfl sum66_12 <| .cons rfl sum66_13 <| .cons rfl sum66_14 <| .cons rfl sum66_15 <| .cons rfl sum66_16 <| .cons rfl sum66_17 <| .cons rfl sum66_18 <| .cons rfl sum66_19 <| .cons rfl sum66_20 <| .cons rfl sum66_21 <| .cons rfl sum66_22 <| .cons rfl sum66_23 <| .cons rfl sum66_24 <| .cons rfl sum66_25 <| .cons rfl sum66_26 <| .cons rfl sum66_27 <| .cons rfl sum66_28 <| .cons rfl sum66_29 <| .cons rfl sum66_30 <| .cons rfl sum66_31 <| .cons rfl sum66_32 <| .cons rfl sum66_33 <| .cons rfl sum66_34 <| .cons rfl sum66_35 <| .cons rfl sum66_36 <| .cons rfl sum66_37 <| .cons rfl sum66_38 <| .cons rfl sum66_39 <| .cons rfl sum66_40 <| .cons rfl sum66_41 <| .cons rfl sum66_42 <| .cons rfl sum66_43 <| .cons rfl sum66_44 <| .cons rfl sum66_45 <| .cons rfl sum66_46 <| .cons rfl sum66_47 <| .cons rfl sum66_48 <| .cons rfl sum66_49 <| .cons rfl sum66_50 <| .cons rfl sum66_51 <| .cons rfl sum66_52 <| .cons rfl sum66_53 <| .cons rfl sum66_54 <| .cons rfl sum66_55 <| .cons rfl sum66_56 <| .cons rfl sum66_57 <| .cons rfl sum66_58 <| .nil
noncomputable def cx66 : Cx := { cx with dm := dmH, sm := smOf [(66, sumTab LStart 7 sum66), (65, sumTab LStart 7 sum65), (44, sumTab LStart 7 sum44), (47, sumTab LStart 7 sum47), (13, sumTab LStart 7 sum13), (101, sumTab LStart 7 sum101), (104, sumTab LStart 7 sum104)] }
def sum67_a0 : List V := [(.int .i64 (.lit (1)))]
def sum67_r0 : R Leaf := (.ok { v := (.int .u32 (.lit (0))), objs := [], n := 7 })
theorem sum67_0 : Row cx66 67 sum67_a0 sum67_r0 := .of (by kernel_rfl)
def sum67_a1 : List V := [(.int .i64 (.lit (2)))]
def sum67_r1 : R Leaf := (.ok { v := (.int .u32 (.lit (0))), objs := [], n := 7 })
theorem sum67_1 : Row cx66 67 sum67_a1 sum67_r1 := .of (by kernel_rfl)
def sum67_a2 : List V := [(.int .i64 (.lit (3)))]
def sum67_r2 : R Leaf := (.ok { v := (.int .u32 (.lit (0))), objs := [], n := 7 })
theorem sum67_2 : Row cx66 67 sum67_a2 sum67_r2 := .of (by kernel_rfl)
def sum67_a3 : List V := [(.int .i64 (.lit (4)))]
def sum67_r3 : R Leaf := (.ok { v := (.int .u32 (.lit (0))), objs := [], n := 7 })
theorem sum67_3 : Row cx66 67 sum67_a3 sum67_r3 := .of (by kernel_rfl)
def sum67_a4 : List V := [(.int .i64 (.lit (5)))]
def sum67_r4 : R Leaf := (.ok { v := (.int .u32 (.lit (0))), objs := [], n := 7 })
theorem sum67_4 : Row cx66 67 sum67_a4 sum67_r4 := .of (by kernel_rfl)
def sum67_a5 : List V := [(.int .i64 (.lit (6)))]
def sum67_r5 : R Leaf := (.ok { v := (.int .u32 (.lit (0))), objs := [], n := 7 })
theorem sum67_5 : Row cx66 67 sum67_a5 sum67_r5 := .of (by kernel_rfl)
def sum67_a6 : List V := [(.int .i64 (.lit (7)))]
def sum67_r6 : R Leaf := (.ok { v := (.int .u32 (.lit (0))), objs := [], n := 7 })
theorem sum67_6 : Row cx66 67 sum67_a6 sum67_r6 := .of (by kernel_rfl)
def sum67_a7 : List V := [(.int .i64 (.lit (8)))]
def sum67_r7 : R Leaf := (.ok { v := (.int .u32 (.lit (0))), objs := [], n := 7 })
theorem sum67_7 : Row cx66 67 sum67_a7 sum67_r7 := .of (by kernel_rfl)
def sum67_a8 : List V := [(.int .i64 (.lit (9)))]
def sum67_r8 : R Leaf := (.ok { v := (.int .u32 (.lit (0))), objs := [], n := 7 })
theorem sum67_8 : Row cx66 67 sum67_a8 sum67_r8 := .of (by kernel_rfl)
def sum67_a9 : List V := [(.int .i64 (.lit (10)))]
def sum67_r9 : R Leaf := (.ok { v := (.int .u32 (.lit (0))), objs := [], n := 7 })
theorem sum67_9 : Row cx66 67 sum67_a9 sum67_r9 := .of (by kernel_rfl)
def sum67_a10 : List V := [(.int .i64 (.lit (11)))]
def sum67_r10 : R Leaf := (.ok { v := (.int .u32 (.lit (0))), objs := [], n := 7 })
theorem sum67_10 : Row cx66 67 sum67_a10 sum67_r10 := .of (by kernel_rfl)
def sum67_a11 : List V := [(.int .i64 (.lit (12)))]
def sum67_r11 : R Leaf := (.ok { v := (.int .u32 (.lit (0))), objs := [], n := 7 })
theorem sum67_11 : Row cx66 67 sum67_a11 sum67_r11 := .of (by kernel_rfl)
def sum67_a12 : List V := [(.int .i64 (.lit (13)))]
def sum67_r12 : R Leaf := (.ok { v := (.int .u32 (.lit (0))), objs := [], n := 7 })
theorem sum67_12 : Row cx66 67 sum67_a12 sum67_r12 := .of (by kernel_rfl)
def sum67_a13 : List V := [(.int .i64 (.lit (14)))]
def sum67_r13 : R Leaf := (.ok { v := (.int .u32 (.lit (0))), objs := [], n := 7 })
theorem sum67_13 : Row cx66 67 sum67_a13 sum67_r13 := .of (by kernel_rfl)
def sum67_a14 : List V := [(.int .i64 (.lit (15)))]
def sum67_r14 : R Leaf := (.ok { v := (.int .u32 (.lit (0))), objs := [], n := 7 })
theorem sum67_14 : Row cx66 67 sum67_a14 sum67_r14 := .of (by kernel_rfl)
def sum67_a15 : List V := [(.int .i64 (.lit (16)))]
def sum67_r15 : R Leaf := (.ok { v := (.int .u32 (.lit (0))), objs := [], n := 7 })
theorem sum67_15 : Row cx66 67 sum67_a15 sum67_r15 := .of (by kernel_rfl)
def sum67_a16 : List V := [(.int .i64 (.lit (17)))]
def sum67_r16 : R Leaf := (.ok { v := (.int .u32 (.lit (0))), objs := [], n := 7 })
theorem sum67_16 : Row cx66 67 sum67_a16 sum67_r16 := .of (by kernel_rfl)
def sum67_a17 : List V := [(.int .i64 (.lit (18)))]
def sum67_r17 : R Leaf := (.ok { v := (.int .u32 (.lit (0))), objs := [], n := 7 })
theorem sum67_17 : Row cx66 67 sum67_a17 sum67_r17 := .of (by kernel_rfl)
def sum67_a18 : List V := [(.int .i64 (.lit (19)))]
def sum67_r18 : R Leaf := (.ok { v := (.int .u32 (.lit (0))), objs := [], n := 7 })
theorem sum67_18 : Row cx66 67 sum67_a18 sum67_r18 := .of (by kernel_rfl)
def sum67_a19 : List V := [(.int .i64 (.lit (20)))]
def sum67_r19 : R Leaf := (.ok { v := (.int .u32 (.lit (0))), objs := [], n := 7 })
theorem sum67_19 : Row cx66 67 sum67_a19 sum67_r19 := .of (by kernel_rfl)
def sum67_a20 : List V := [(.int .i64 (.lit (21)))]
def sum67_r20 : R Leaf := (.ok { v := (.int .u32 (.lit (0))), objs := [], n := 7 })
theorem sum67_20 : Row cx66 67 sum67_a20 sum67_r20 := .of (by kernel_rfl)
def sum67_a21 : List V := [(.int .i64 (.lit (22)))]
def sum67_r21 : R Leaf := (.ok { v := (.int .u32 (.lit (0))), objs := [], n := 7 })
theorem sum67_21 : Row cx66 67 sum67_a21 sum67_r21 := .of (by kernel_rfl)
def sum67_a22 : List V := [(.int .i64 (.lit (23)))]
def sum67_r22 : R Leaf := (.ok { v := (.int .u32 (.lit (0))), objs := [], n := 7 })
theorem sum67_22 : Row cx66 67 sum67_a22 sum67_r22 := .of (by kernel_rfl)
def sum67_a23 : List V := [(.int .i64 (.lit (24)))]
def sum67_r23 : R Leaf := (.ok { v := (.int .u32 (.lit (0))), objs := [], n := 7 })
theorem sum67_23 : Row cx66 67 sum67_a23 sum67_r23 := .of (by kernel_rfl)
def sum67_a24 : List V := [(.int .i64 (.lit (25)))]
def sum67_r24 : R Leaf := (.ok { v := (.int .u32 (.lit (0))), objs := [], n := 7 })
theorem sum67_24 : Row cx66 67 sum67_a24 sum67_r24 := .of (by kernel_rfl)
def sum67_a25 : List V := [(.int .i64 (.lit (26)))]
def sum67_r25 : R Leaf := (.ok { v := (.int .u32 (.lit (0))), objs := [], n := 7 })
theorem sum67_25 : Row cx66 67 sum67_a25 sum67_r25 := .of (by kernel_rfl)
def sum67_a26 : List V := [(.int .i64 (.lit (27)))]
def sum67_r26 : R Leaf := (.ok { v := (.int .u32 (.lit (32))), objs := [], n := 7 })
theorem sum67_26 : Row cx66 67 sum67_a26 sum67_r26 := .of (by kernel_rfl)
def sum67_a27 : List V := [(.int .i64 (.lit (28)))]
def sum67_r27 : R Leaf := (.ok { v := (.int .u32 (.lit (0))), objs := [], n := 7 })
theorem sum67_27 : Row cx66 67 sum67_a27 sum67_r27 := .of (by kernel_rfl)
def sum67_a28 : List V := [(.int .i64 (.lit (29)))]
def sum67_r28 : R Leaf := (.ok { v := (.int .u32 (.lit (32))), objs := [], n := 7 })
theorem sum67_28 : Row cx66 67 sum67_a28 sum67_r28 := .of (by kernel_rfl)
def sum67_a29 : List V := [(.int .i64 (.lit (30)))]
def sum67_r29 : R Leaf := (.ok { v := (.int .u32 (.lit (0))), objs := [], n := 7 })
theorem sum67_29 : Row cx66 67 sum67_a29 sum67_r29 := .of (by kernel_rfl)
def sum67_a30 : List V := [(.int .i64 (.lit (31)))]
def sum67_r30 : R Leaf := (.ok { v := (.int .u32 (.lit (0))), objs := [], n := 7 })
theorem sum67_30 : Row cx66 67 sum67_a30 sum67_r30 := .of (by kernel_rfl)
def sum67_a31 : List V := [(.int .i64 (.lit (32)))]
def sum67_r31 : R Leaf := (.ok { v := (.int .u32 (.lit (0))), objs := [], n := 7 })
theorem sum67_31 : Row cx66 67 sum67_a31 sum67_r31 := .of (by kernel_rfl)
def sum67_a32 : List V := [(.int .i64 (.lit (33)))]
def sum67_r32 : R Leaf := (.ok { v := (.int .u32 (.lit (0))), objs := [], n := 7 })
theorem sum67_32 : Row cx66 67 sum67_a32 sum67_r32 := .of (by kernel_rfl)
def sum67_a33 : List V := [(.int .i64 (.lit (34)))]
def sum67_r33 : R Leaf := (.ok { v := (.int .u32 (.lit (0))), objs := [], n := 7 })
theorem sum67_33 : Row cx66 67 sum67_a33 sum67_r33 := .of (by kernel_rfl)
def sum67_a34 : List V := [(.int .i64 (.lit (35)))]
def sum67_r34 : R Leaf := (.ok { v := (.int .u32 (.lit (32))), objs := [], n := 7 })
theorem sum67_34 : Row cx66 67 sum67_a34 sum67_r34 := .of (by kernel_rfl)
def sum67_a35 : List V := [(.int .i64 (.lit (36)))]
def sum67_r35 : R Leaf := (.ok { v := (.int .u32 (.lit (0))), objs := [], n := 7 })
theorem sum67_35 : Row cx66 67 sum67_a35 sum67_r35 := .of (by kernel_rfl)
def sum67_a36 : List V := [(.int .i64 (.lit (37)))]
def sum67_r36 : R Leaf := (.ok { v := (.int .u32 (.lit (0))), objs := [], n := 7 })
theorem sum67_36 : Row cx66 67 sum67_a36 sum67_r36 := .of (by kernel_rfl)
def sum67_a37 : List V := [(.int .i64 (.lit (38)))]
def sum67_r37 : R Leaf := (.ok { v := (.int .u32 (.lit (0))), objs := [], n := 7 })
theorem sum67_37 : Row cx66 67 sum67_a37 sum67_r37 := .of (by kernel_rfl)
def sum67_a38 : List V := [(.int .i64 (.lit (39)))]
def sum67_r38 : R Leaf := (.ok { v := (.int .u32 (.lit (0))), objs := [], n := 7 })
theorem sum67_38 : Row cx66 67 sum67_a38 sum67_r38 := .of (by kernel_rfl)
def sum67_a39 : List V := [(.int .i64 (.lit (40)))]
def sum67_r39 : R Leaf := (.ok { v := (.int .u32 (.lit (1))), objs := [], n := 7 })
theorem sum67_39 : Row cx66 67 sum67_a39 sum67_r39 := .of (by kernel_rfl)
def sum67_a40 : List V := [(.int .i64 (.lit (41)))]
def sum67_r40 : R Leaf := (.ok { v := (.int .u32 (.lit (1))), objs := [], n := 7 })
theorem sum67_40 : Row cx66 67 sum67_a40 sum67_r40 := .of (by kernel_rfl)
def sum67_a41 : List V := [(.int .i64 (.lit (42)))]
def sum67_r41 : R Leaf := (.ok { v := (.int .u32 (.lit (1))), objs := [], n := 7 })
theorem sum67_41 : Row cx66 67 sum67_a41 sum67_r41 := .of (by kernel_rfl)
def sum67_a42 : List V := [(.int .i64 (.lit (43)))]
def sum67_r42 : R Leaf := (.ok { v := (.int .u32 (.lit (1))), objs := [], n := 7 })
theorem sum67_42 : Row cx66 67 sum67_a42 sum67_r42 := .of (by kernel_rfl)
def sum67_a43 : List V := [(.int .i64 (.lit (44)))]
def sum67_r43 : R Leaf := (.ok { v := (.int .u32 (.lit (1))), objs := [], n := 7 })
theorem sum67_43 : Row cx66 67 sum67_a43 sum67_r43 := .of (by kernel_rfl)
def sum67_a44 : List V := [(.int .i64 (.lit (45)))]
def sum67_r44 : R Leaf := (.ok { v := (.int .u32 (.lit (1))), objs := [], n := 7 })
theorem sum67_44 : Row cx66 67 sum67_a44 sum67_r44 := .of (by kernel_rfl)
def sum67_a45 : List V := [(.int .i64 (.lit (46)))]
def sum67_r45 : R Leaf := (.ok { v := (.int .u32 (.lit (1))), objs := [], n := 7 })
theorem sum67_45 : Row cx66 67 sum67_a45 sum67_r45 := .of (by kernel_rfl)
def sum67_a46 : List V := [(.int .i64 (.lit (47)))]
def sum67_r46 : R Leaf := (.ok { v := (.int .u32 (.lit (1))), objs := [], n := 7 })
theorem sum67_46 : Row cx66 67 sum67_a46 sum67_r46 := .of (by kernel_rfl)
def sum67_a47 : List V := [(.int .i64 (.lit (48)))]
def sum67_r47 : R Leaf := (.ok { v := (.int .u32 (.lit (8))), objs := [], n := 8 })
theorem sum67_47 : Row cx66 67 sum67_a47 sum67_r47 := .of (by kernel_rfl)
def sum67_a48 : List V := [(.int .i64 (.lit (49)))]
def sum67_r48 : R Leaf := (.ok { v := (.int .u32 (.lit (12))), objs := [], n := 8 })
theorem sum67_48 : Row cx66 67 sum67_a48 sum67_r48 := .of (by kernel_rfl)
def sum67_a49 : List V := [(.int .i64 (.lit (50)))]
def sum67_r49 : R Leaf := (.ok { v := (.int .u32 (.lit (4))), objs := [], n := 8 })
theorem sum67_49 : Row cx66 67 sum67_a49 sum67_r49 := .of (by kernel_rfl)
def sum67_a50 : List V := [(.int .i64 (.lit (51)))]
def sum67_r50 : R Leaf := (.ok { v := (.int .u32 (.lit (0))), objs := [], n := 8 })
theorem sum67_50 : Row cx66 67 sum67_a50 sum67_r50 := .of (by kernel_rfl)
def sum67_a51 : List V := [(.int .i64 (.lit (52)))]
def sum67_r51 : R Leaf := (.ok { v := (.int .u32 (.lit (16))), objs := [], n := 8 })
theorem sum67_51 : Row cx66 67 sum67_a51 sum67_r51 := .of (by kernel_rfl)
def sum67_a52 : List V := [(.int .i64 (.lit (53)))]
def sum67_r52 : R Leaf := (.ok { v := (.int .u32 (.lit (48))), objs := [], n := 8 })
theorem sum67_52 : Row cx66 67 sum67_a52 sum67_r52 := .of (by kernel_rfl)
def sum67_a53 : List V := [(.int .i64 (.lit (54)))]
def sum67_r53 : R Leaf := (.ok { v := (.int .u32 (.lit (32))), objs := [], n := 8 })
theorem sum67_53 : Row cx66 67 sum67_a53 sum67_r53 := .of (by kernel_rfl)
def sum67_a54 : List V := [(.int .i64 (.lit (55)))]
def sum67_r54 : R Leaf := (.ok { v := (.int .u32 (.lit (64))), objs := [], n := 8 })
theorem sum67_54 : Row cx66 67 sum67_a54 sum67_r54 := .of (by kernel_rfl)
def sum67_a55 : List V := [(.int .i64 (.lit (56)))]
def sum67_r55 : R Leaf := (.ok { v := (.int .u32 (.lit (80))), objs := [], n := 8 })
theorem sum67_55 : Row cx66 67 sum67_a55 sum67_r55 := .of (by kernel_rfl)
def sum67_a56 : List V := [(.int .i64 (.lit (57)))]
def sum67_r56 : R Leaf := (.ok { v := (.int .u32 (.lit (96))), objs := [], n := 8 })
theorem sum67_56 : Row cx66 67 sum67_a56 sum67_r56 := .of (by kernel_rfl)
def sum67_a57 : List V := [(.int .i64 (.lit (58)))]
def sum67_r57 : R Leaf := (.ok { v := (.int .u32 (.lit (112))), objs := [], n := 8 })
theorem sum67_57 : Row cx66 67 sum67_a57 sum67_r57 := .of (by kernel_rfl)
def sum67_a58 : List V := [(.int .i64 (.lit (59)))]
def sum67_r58 : R Leaf := (.ok { v := (.int .u32 (.lit (0))), objs := [], n := 7 })
theorem sum67_58 : Row cx66 67 sum67_a58 sum67_r58 := .of (by kernel_rfl)
def sum67 : List (List V × R Leaf) := [(sum67_a0, sum67_r0), (sum67_a1, sum67_r1), (sum67_a2, sum67_r2), (sum67_a3, sum67_r3), (sum67_a4, sum67_r4), (sum67_a5, sum67_r5), (sum67_a6, sum67_r6), (sum67_a7, sum67_r7), (sum67_a8, sum67_r8), (sum67_a9, sum67_r9), (sum67_a10, sum67_r10), (sum67_a11, sum67_r11), (sum67_a12, sum67_r12), (sum67_a13, sum67_r13), (sum67_a14, sum67_r14), (sum67_a15, sum67_r15), (sum67_a16, sum67_r16), (sum67_a17, sum67_r17), (sum67_a18, sum67_r18), (sum67_a19, sum67_r19), (sum67_a20, sum67_r20), (sum67_a21, sum67_r21), (sum67_a22, sum67_r22), (sum67_a23, sum67_r23), (sum67_a24, sum67_r24), (sum67_a25, sum67_r25), (sum67_a26, sum67_r26), (sum67_a27, sum67_r27), (sum67_a28, sum67_r28), (sum67_a29, sum67_r29), (sum67_a30, sum67_r30), (sum67_a31, sum67_r31), (sum67_a32, sum67_r32), (sum67_a33, sum67_r33), (sum67_a34, sum67_r34), (sum67_a35, sum67_r35), (sum67_a36, sum67_r36), (sum67_a37, sum67_r37), (sum67_a38, sum67_r38), (sum67_a39, sum67_r39), (sum67_a40, sum67_r40), (sum67_a41, sum67_r41), (sum67_a42, sum67_r42), (sum67_a43, sum67_r43), (sum67_a44, sum67_r44), (sum67_a45, sum67_r45), (sum67_a46, sum67_r46), (sum67_a47, sum67_r47), (sum67_a48, sum67_r48), (sum67_a49, sum67_r49), (sum67_a50, sum67_r50), (sum67_a51, sum67_r51), (sum67_a52, sum67_r52), (sum67_a53, sum67_r53), (sum67_a54, sum67_r54), (sum67_a55, sum67_r55), (sum67_a56, sum67_r56), (sum67_a57, sum67_r57), (sum67_a58, sum67_r58)]
theorem sum67_ok : TabOk cx66 LStart 7 4000 67 sum67 := .cons rfl sum67_0 <| .cons rfl sum67_1 <| .cons rfl sum67_2 <| .cons rfl sum67_3 <| .cons rfl sum67_4 <| .cons rfl sum67_5 <| .cons rfl sum67_6 <| .cons rfl sum67_7 <| .cons rfl sum67_8 <| .cons rfl sum67_9 <| .cons rfl sum67_10 <| .cons rfl sum67_11 <| .cons rfl sum67_12 <| .cons rfl sum67_13 <| .cons rfl sum67_14 <| .cons rfl sum67_15 <| .cons rfl sum67_16 <| .cons rfl sum67_17 <| .cons rfl sum67_18 <| .cons rfl sum67_19 <| .cons rfl sum67_20 <| .cons rfl sum67_21 <| .cons rfl sum67_22 <| .cons rfl sum67_23 <| .cons rfl sum67_24 <| .cons rfl sum67_25 <| .cons rfl sum67_26 <| .cons rfl sum67_27 <| .cons rfl sum67_28 <| .cons rfl sum67_29 <| .cons rfl sum67_30 <| .cons rfl sum67_31 <| .cons rfl sum67_32 <| .cons rfl sum67_33 <| .cons rfl sum67_34 <| .cons rfl sum67_35 <| .cons rfl sum67_36 <| .cons rfl sum67_37 <| .cons rfl sum67_38 <| .cons rfl sum67_39 <| .cons rfl sum67_40 <| .cons rfl sum67_41 <| .cons rfl sum67_42 <| .cons rfl sum67_43 <| .cons rfl sum67_44 <| .cons rfl sum67_45 <| .cons rfl sum67_46 <| .cons rfl sum67_47 <| .cons rfl sum67_48 <| .cons rfl sum67_49 <| .cons rfl sum67_50 <| .cons rfl sum67_51 <| .cons rfl sum67_52 <| .cons rfl sum67_53 <| .cons rfl sum67_54 <| .cons rfl sum67_55 <| .cons rfl sum67_56 <| .cons rfl sum67_57 <| .cons rfl sum67_58 <| .nil
noncomputable def cx67 : Cx := { cx with dm := dmH, sm := smOf [(67, sumTab LStart 7 sum67), (66, sumTab LStart 7 sum66), (65, sumTab LStart 7 sum65), (44, sumTab LStart 7 sum44), (47, sumTab LStart 7 sum47), (13, sumTab LStart 7 sum13), (101, sumTab LStart 7 sum101), (104, sumTab LStart 7 sum104)] }
def sum45_a0 : List V := [(.int .u32 (.bv [.pos 0, .pos 1, .pos 2, .pos 3, .pos 4, .pos 5, .pos 6, .pos 7, .pos 8, .pos 9, .pos 10, .pos 11, .pos 12, .pos 13, .pos 14, .pos 15, .pos 16, .pos 17, .pos 18, .pos 19, .pos 20, .pos 21, .pos 22, .pos 23, .pos 24, .pos 25, .pos 26, .pos 27, .pos 28, .pos 29, .pos 30, .pos 31] (.zero))), (.int .i64 (.lit (11))), (.int .i64 (.lit (7)))]
def sum45_r0 : R Leaf := (.ok { v := (.int .u32 (.bv [.pos 7, .pos 8, .pos 9, .pos 10, .pos 11] (.zero))), objs := [], n := 7 })
theorem sum45_0 : Row cx67 45 sum45_a0 sum45_r0 := .of (by kernel_rfl)
def sum45_a1 : List V := [(.int .u32 (.bv [.pos 0, .pos 1, .pos 2, .pos 3, .pos 4, .pos 5, .pos 6, .pos 7, .pos 8, .pos 9, .pos 10, .pos 11, .pos 12, .pos 13, .pos 14, .pos 15, .pos 16, .pos 17, .pos 18, .pos 19, .pos 20, .pos 21, .pos 22, .pos 23, .pos 24, .pos 25, .pos 26, .pos 27, .pos 28, .pos 29, .pos 30, .pos 31] (.zero))), (.int .i64 (.lit (19))), (.int .i64 (.lit (15)))]
def sum45_r1 : R Leaf := (.ok { v := (.int .u32 (.bv [.pos 15, .pos 16, .pos 17, .pos 18, .pos 19] (.zero))), objs := [], n := 7 })
theorem sum45_1 : Row cx67 45 sum45_a1 sum45_r1 := .of (by kernel_rfl)
def sum45_a2 : List V := [(.int .u32 (.bv [.pos 0, .pos 1, .pos 2, .pos 3, .pos 4, .pos 5, .pos 6, .pos 7, .pos 8, .pos 9, .pos 10, .pos 11, .pos 12, .pos 13, .pos 14, .pos 15, .pos 16, .pos 17, .pos 18, .pos 19, .pos 20, .pos 21, .pos 22, .pos 23, .pos 24, .pos 25, .pos 26, .pos 27, .pos 28, .pos 29, .pos 30, .pos 31] (.zero))), (.int .i64 (.lit (24))), (.int .i64 (.lit (20)))]
def sum45_r2 : R Leaf := (.ok { v := (.int .u32 (.bv [.pos 20, .pos 21, .pos 22, .pos 23, .pos 24] (.zero))), objs := [], n := 7 })
theorem sum45_2 : Row cx67 45 sum45_a2 sum45_r2 := .of (by kernel_rfl)
def sum45_a3 : List V := [(.int .u32 (.bv [.pos 0, .pos 1, .pos 2, .pos 3, .pos 4, .pos 5, .pos 6, .pos 7, .pos 8, .pos 9, .pos 10, .pos 11, .pos 12, .pos 13, .pos 14, .pos 15, .pos 16, .pos 17, .pos 18, .pos 19, .pos 20, .pos 21, .pos 22, .pos 23, .pos 24, .pos 25, .pos 26, .pos 27, .pos 28, .pos 29, .pos 30, .pos 31] (.zero))), (.int .i64 (.lit (31))), (.int .i64 (.lit (31)))]
def sum45_r3 : R Leaf := (.ok { v := (.int .u32 (.bv [.pos 31] (.zero))), objs := [], n := 7 })
theorem sum45_3 : Row cx67 45 sum45_a3 sum45_r3 := .of (by kernel_rfl)
def sum45_a4 : List V := [(.int .u32 (.bv [.pos 0, .pos 1, .pos 2, .pos 3, .pos 4, .pos 5, .pos 6, .pos 7, .pos 8, .pos 9, .pos 10, .pos 11, .pos 12, .pos 13, .pos 14, .pos 15, .pos 16, .pos 17, .pos 18, .pos 19, .pos 20, .pos 21, .pos 22, .pos 23, .pos 24, .pos 25, .pos 26, .pos 27, .pos 28, .pos 29, .pos 30, .pos 31] (.zero))), (.int .i64 (.lit (19))), (.int .i64 (.lit (12)))]
def sum45_r4 : R Leaf := (.ok { v := (.int .u32 (.bv [.pos 12, .pos 13, .pos 14, .pos 15, .pos 16, .pos 17, .pos 18, .pos 19] (.zero))), objs := [], n := 7 })
theorem sum45_4 : Row cx67 45 sum45_a4 sum45_r4 := .of (by kernel_rfl)
def sum45_a5 : List V := [(.int .u32 (.bv [.pos 0, .pos 1, .pos 2, .pos 3, .pos 4, .pos 5, .pos 6, .pos 7, .pos 8, .pos 9, .pos 10, .pos 11, .pos 12, .pos 13, .pos 14, .pos 15, .pos 16, .pos 17, .pos 18, .pos 19, .pos 20, .pos 21, .pos 22, .pos 23, .pos 24, .pos 25, .pos 26, .pos 27, .pos 28, .pos 29, .pos 30, .pos 31] (.zero))), (.int .i64 (.lit (20))), (.int .i64 (.lit (20)))]
def sum45_r5 : R Leaf := (.ok { v := (.int .u32 (.bv [.pos 20] (.zero))), objs := [], n := 7 })
theorem sum45_5 : Row cx67 45 sum45_a5 sum45_r5 := .of (by kernel_rfl)
def sum45_a6 : List V := [(.int .u32 (.bv [.pos 0, .pos 1, .pos 2, .pos 3, .pos 4, .pos 5, .pos 6, .pos 7, .pos 8, .pos 9, .pos 10, .pos 11, .pos 12, .pos 13, .pos 14, .pos 15, .pos 16, .pos 17, .pos 18, .pos 19, .pos 20, .pos 21, .pos 22, .pos 23, .pos 24, .pos 25, .pos 26, .pos 27, .pos 28, .pos 29, .pos 30, .pos 31] (.zero))), (.int .i64 (.lit (30))), (.int .i64 (.lit (21)))]
def sum45_r6 : R Leaf := (.ok { v := (.int .u32 (.bv [.pos 21, .pos 22, .pos 23, .pos 24, .pos 25, .pos 26, .pos 27, .pos 28, .pos 29, .pos 30] (.zero))), objs := [], n := 7 })
theorem sum45_6 : Row cx67 45 sum45_a6 sum45_r6 := .of (by kernel_rfl)
def sum45_a7 : List V := [(.int .u32 (.bv [.pos 0, .pos 1, .pos 2, .pos 3, .pos 4, .pos 5, .pos 6, .pos 7, .pos 8, .pos 9, .pos 10, .pos 11, .pos 12, .pos 13, .pos 14, .pos 15, .pos 16, .pos 17, .pos 18, .pos 19, .pos 20, .pos 21, .pos 22, .pos 23, .pos 24, .pos 25, .pos 26, .pos 27, .pos 28, .pos 29, .pos 30, .pos 31] (.zero))), (.int .i64 (.lit (7))), (.int .i64 (.lit (7)))]
def sum45_r7 : R Leaf := (.ok { v := (.int .u32 (.bv [.pos 7] (.zero))), objs := [], n := 7 })
theorem sum45_7 : Row cx67 45 sum45_a7 sum45_r7 := .of (by kernel_rfl)
def sum45_a8 : List V := [(.int .u32 (.bv [.pos 0, .pos 1, .pos 2, .pos 3, .pos 4, .pos 5, .pos 6, .pos 7, .pos 8, .pos 9, .pos 10, .pos 11, .pos 12, .pos 13, .pos 14, .pos 15, .pos 16, .pos 17, .pos 18, .pos 19, .pos 20, .pos 21, .pos 22, .pos 23, .pos 24, .pos 25, .pos 26, .pos 27, .pos 28, .pos 29, .pos 30, .pos 31] (.zero))), (.int .i64 (.lit (30))), (.int .i64 (.lit (25)))]
def sum45_r8 : R Leaf := (.ok { v := (.int .u32 (.bv [.pos 25, .pos 26, .pos 27, .pos 28, .pos 29, .pos 30] (.zero))), objs := [], n := 7 })
theorem sum45_8 : Row cx67 45 sum45_a8 sum45_r8 := .of (by kernel_rfl)
def sum45_a9 : List V := [(.int .u32 (.bv [.pos 0, .pos 1, .pos 2, .pos 3, .pos 4, .pos 5, .pos 6, .pos 7, .pos 8, .pos 9, .pos 10, .pos 11, .pos 12, .pos 13, .pos 14, .pos 15, .pos 16, .pos 17, .pos 18, .pos 19, .pos 20, .pos 21, .pos 22, .pos 23, .pos 24, .pos 25, .pos 26, .pos 27, .pos 28, .pos 29, .pos 30, .pos 31] (.zero))), (.int .i64 (.lit (11))), (.int .i64 (.lit (8)))]
def sum45_r9 : R Leaf := (.ok { v := (.int .u32 (.bv [.pos 8, .pos 9, .pos 10, .pos 11] (.zero))), objs := [], n := 7 })
theorem sum45_9 : Row cx67 45 sum45_a9 sum45_r9 := .of (by kernel_rfl)
def sum45_a10 : List V := [(.int .u32 (.bv [.pos 0, .pos 1, .pos 2, .pos 3, .pos 4, .pos 5, .pos 6, .pos 7, .pos 8, .pos 9, .pos 10, .pos 11, .pos 12, .pos 13, .pos 14, .pos 15, .pos 16, .pos 17, .pos 18, .pos 19, .pos 20, .pos 21, .pos 22, .pos 23, .pos 24, .pos 25, .pos 26, .pos 27, .pos 28, .pos 29, .pos 30, .pos 31] (.zero))), (.int .i64 (.lit (31))), (.int .i64 (.lit (25)))]
def sum45_r10 : R Leaf := (.ok { v := (.int .u32 (.bv [.pos 25, .pos 26, .pos 27, .pos 28, .pos 29, .pos 30, .pos 31] (.zero))), objs := [], n := 7 })
theorem sum45_10 : Row cx67 45 sum45_a10 sum45_r10 := .of (by kernel_rfl)
def sum45_a11 : List V := [(.int .u32 (.bv [.pos 0, .pos 1, .pos 2, .pos 3, .pos 4, .pos 5, .pos 6, .pos 7, .pos 8, .pos 9, .pos 10, .pos 11, .pos 12, .pos 13, .pos 14, .pos 15, .pos 16, .pos 17, .pos 18, .pos 19, .pos 20, .pos 21, .pos 22, .pos 23, .pos 24, .pos 25, .pos 26, .pos 27, .pos 28, .pos 29, .pos 30, .pos 31] (.zero))), (.int .i64 (.lit (31))), (.int .i64 (.lit (20)))]
def sum45_r11 : R Leaf := (.ok { v := (.int .u32 (.bv [.pos 20, .pos 21, .pos 22, .pos 23, .pos 24, .pos 25, .pos 26, .pos 27, .pos 28, .pos 29, .pos 30, .pos 31] (.zero))), objs := [], n := 7 })
theorem sum45_11 : Row cx67 45 sum45_a11 sum45_r11 := .of (by kernel_rfl)
def sum45_a12 : List V := [(.int .u32 (.bv [.pos 0, .pos 1, .pos 2, .pos 3, .pos 4, .pos 5, .pos 6, .pos 7, .pos 8, .pos 9, .pos 10, .pos 11, .pos 12, .pos 13, .pos 14, .pos 15, .pos 16, .pos 17, .pos 18, .pos 19, .pos 20, .pos 21, .pos 22, .pos 23, .pos 24, .pos 25, .pos 26, .pos 27, .pos 28, .pos 29, .pos 30, .pos 31] (.zero))), (.int .i64 (.lit (27))), (.int .i64 (.lit (20)))]
def sum45_r12 : R Leaf := (.ok { v := (.int .u32 (.bv [.pos 20, .pos 21, .pos 22, .pos 23, .pos 24, .pos 25, .pos 26, .pos 27] (.zero))), objs := [], n := 7 })
theorem sum45_12 : Row cx67 45 sum45_a12 sum45_r12 := .of (by kernel_rfl)
def sum45_a13 : List V := [(.int .u32 (.bv [.pos 0, .pos 1, .pos 2, .pos 3, .pos 4, .pos 5, .pos 6, .pos 7, .pos 8, .pos 9, .pos 10, .pos 11, .pos 12, .pos 13, .pos 14, .pos 15, .pos 16, .pos 17, .pos 18, .pos 19, .pos 20, .pos 21, .pos 22, .pos 23, .pos 24, .pos 25, .pos 26, .pos 27, .pos 28, .pos 29, .pos 30, .pos 31] (.zero))), (.int .i64 (.lit (26))), (.int .i64 (.lit (26)))]
def sum45_r13 : R Leaf := (.ok { v := (.int .u32 (.bv [.pos 26] (.zero))), objs := [], n := 7 })
theorem sum45_13 : Row cx67 45 sum45_a13 sum45_r13 := .of (by kernel_rfl)
def sum45_a14 : List V := [(.int .u32 (.bv [.pos 0, .pos 1, .pos 2, .pos 3, .pos 4, .pos 5, .pos 6, .pos 7, .pos 8, .pos 9, .pos 10, .pos 11, .pos 12, .pos 13, .pos 14, .pos 15, .pos 16, .pos 17, .pos 18, .pos 19, .pos 20, .pos 21, .pos 22, .pos 23, .pos 24, .pos 25, .pos 26, .pos 27, .pos 28, .pos 29, .pos 30, .pos 31] (.zero))), (.int .i64 (.lit (25))), (.int .i64 (.lit (25)))]
def sum45_r14 : R Leaf := (.ok { v := (.int .u32 (.bv [.pos 25] (.zero))), objs := [], n := 7 })
theorem sum45_14 : Row cx67 45 sum45_a14 sum45_r14 := .of (by kernel_rfl)
def sum45_a15 : List V := [(.int .u32 (.bv [.pos 0, .pos 1, .pos 2, .pos 3, .pos 4, .pos 5, .pos 6, .pos 7, .pos 8, .pos 9, .pos 10, .pos 11, .pos 12, .pos 13, .pos 14, .pos 15, .pos 16, .pos 17, .pos 18, .pos 19, .pos 20, .pos 21, .pos 22, .pos 23, .pos 24, .pos 25, .pos 26, .pos 27, .pos 28, .pos 29, .pos 30, .pos 31] (.zero))), (.int .i64 (.lit (10))), (.int .i64 (.lit (1)))]
def sum45_r15 : R Leaf := (.ok { v := (.int .u32 (.bv [.pos 1, .pos 2, .pos 3, .pos 4, .pos 5, .pos 6, .pos 7, .pos 8, .pos 9, .pos 10] (.zero))), objs := [], n := 7 })
theorem sum45_15 : Row cx67 45 sum45_a15 sum45_r15 := .of (by kernel_rfl)
def sum45_a16 : List V := [(.int .u32 (.bv [.pos 0, .pos 1, .pos 2, .pos 3, .pos 4, .pos 5, .pos 6, .pos 7, .pos 8, .pos 9, .pos 10, .pos 11, .pos 12, .pos 13, .pos 14, .pos 15, .pos 16, .pos 17, .pos 18, .pos 19, .pos 20, .pos 21, .pos 22, .pos 23, .pos 24, .pos 25, .pos 26, .pos 27, .pos 28, .pos 29, .pos 30, .pos 31] (.zero))), (.int .i64 (.lit (11))), (.int .i64 (.lit (11)))]
def sum45_r16 : R Leaf := (.ok { v := (.int .u32 (.bv [.pos 11] (.zero))), objs := [], n := 7 })
theorem sum45_16 : Row cx67 45 sum45_a16 sum45_r16 := .of (by kernel_rfl)
def sum45_a17 : List V := [(.int .u32 (.bv [.pos 0, .pos 1, .pos 2, .pos 3, .pos 4, .pos 5, .pos 6, .pos 7, .pos 8, .pos 9, .pos 10, .pos 11, .pos 12, .pos 13, .pos 14, .pos 15, .pos 16, .pos 17, .pos 18, .pos 19, .pos 20, .pos 21, .pos 22, .pos 23, .pos 24, .pos 25, .pos 26, .pos 27, .pos 28, .pos 29, .pos 30, .pos 31] (.zero))), (.int .i64 (.lit (12))), (.int .i64 (.lit (12)))]
def sum45_r17 : R Leaf := (.ok { v := (.int .u32 (.bv [.pos 12] (.zero))), objs := [], n := 7 })
theorem sum45_17 : Row cx67 45 sum45_a17 sum45_r17 := .of (by kernel_rfl)
def sum45_a18 : List V := [(.int .u32 (.bv [.pos 0, .pos 1, .pos 2, .pos 3, .pos 4, .pos 5, .pos 6, .pos 7, .pos 8, .pos 9, .pos 10, .pos 11, .pos 12, .pos 13, .pos 14, .pos 15, .pos 16, .pos 17, .pos 18, .pos 19, .pos 20, .pos 21, .pos 22, .pos 23, .pos 24, .pos 25, .pos 26, .pos 27, .pos 28, .pos 29, .pos 30, .pos 31] (.zero))), (.int .i64 (.lit (10))), (.int .i64 (.lit (5)))]
def sum45_r18 : R Leaf := (.ok { v := (.int .u32 (.bv [.pos 5, .pos 6, .pos 7, .pos 8, .pos 9, .pos 10] (.zero))), objs := [], n := 7 })
theorem sum45_18 : Row cx67 45 sum45_a18 sum45_r18 := .of (by kernel_rfl)
def sum45_a19 : List V := [(.int .u32 (.bv [.pos 0, .pos 1, .pos 2, .pos 3, .pos 4, .pos 5, .pos 6, .pos 7, .pos 8, .pos 9, .pos 10, .pos 11, .pos 12, .pos 13, .pos 14, .pos 15, .pos 16, .pos 17, .pos 18, .pos 19, .pos 20, .pos 21, .pos 22, .pos 23, .pos 24, .pos 25, .pos 26, .pos 27, .pos 28, .pos 29, .pos 30, .pos 31] (.zero))), (.int .i64 (.lit (4))), (.int .i64 (.lit (1)))]
def sum45_r19 : R Leaf := (.ok { v := (.int .u32 (.bv [.pos 1, .pos 2, .pos 3, .pos 4] (.zero))), objs := [], n := 7 })
theorem sum45_19 : Row cx67 45 sum45_a19 sum45_r19 := .of (by kernel_rfl)
def sum45_a20 : List V := [(.int .u32 (.bv [.pos 0, .pos 1, .pos 2, .pos 3, .pos 4, .pos 5, .pos 6, .pos 7, .pos 8, .pos 9, .pos 10, .pos 11, .pos 12, .pos 13, .pos 14, .pos 15, .pos 16, .pos 17, .pos 18, .pos 19, .pos 20, .pos 21, .pos 22, .pos 23, .pos 24, .pos 25, .pos 26, .pos 27, .pos 28, .pos 29, .pos 30, .pos 31] (.zero))), (.int .i64 (.lit (11))), (.int .i64 (.lit (5)))]
def sum45_r20 : R Leaf := (.ok { v := (.int .u32 (.bv [.pos 5, .pos 6, .pos 7, .pos 8, .pos 9, .pos 10, .pos 11] (.zero))), objs := [], n := 7 })
theorem sum45_20 : Row cx67 45 sum45_a20 sum45_r20 := .of (by kernel_rfl)
def sum45_a21 : List V := [(.int .u32 (.bv [.pos 0, .pos 1, .pos 2, .pos 3, .pos 4, .pos 5, .pos 6, .pos 7, .pos 8, .pos 9, .pos 10, .pos 11, .pos 12, .pos 13, .pos 14, .pos 15, .pos 16, .pos 17, .pos 18, .pos 19, .pos 20, .pos 21, .pos 22, .pos 23, .pos 24, .pos 25, .pos 26, .pos 27, .pos 28, .pos 29, .pos 30, .pos 31] (.zero))), (.int .i64 (.lit (4))), (.int .i64 (.lit (0)))]
def sum45_r21 : R Leaf := (.ok { v := (.int .u32 (.bv [.pos 0, .pos 1, .pos 2, .pos 3, .pos 4] (.zero))), objs := [], n := 7 })
theorem sum45_21 : Row cx67 45 sum45_a21 sum45_r21 := .of (by kernel_rfl)
def sum45_a22 : List V := [(.int .u32 (.bv [.pos 0, .pos 1, .pos 2, .pos 3, .pos 4, .pos 5, .pos 6, .pos 7, .pos 8, .pos 9, .pos 10, .pos 11, .pos 12, .pos 13, .pos 14, .pos 15, .pos 16, .pos 17, .pos 18, .pos 19, .pos 20, .pos 21, .pos 22, .pos 23, .pos 24, .pos 25, .pos 26, .pos 27, .pos 28, .pos 29, .pos 30, .pos 31] (.zero))), (.int .i64 (.lit (11))), (.int .i64 (.lit (0)))]
def sum45_r22 : R Leaf := (.ok { v := (.int .u32 (.bv [.pos 0, .pos 1, .pos 2, .pos 3, .pos 4, .pos 5, .pos 6, .pos 7, .pos 8, .pos 9, .pos 10, .pos 11] (.zero))), objs := [], n := 7 })
theorem sum45_22 : Row cx67 45 sum45_a22 sum45_r22 := .of (by kernel_rfl)
def sum45 : List (List V × R Leaf) := [(sum45_a0, sum45_r0), (sum45_a1, sum45_r1), (sum45_a2, sum45_r2), (sum45_a3, sum45_r3), (sum45_a4, sum45_r4), (sum45_a5, sum45_r5), (sum45_a6, sum45_r6), (sum45_a7, sum45_r7), (sum45_a8, sum45_r8), (sum45_a9, sum45_r9), (sum45_a10, sum45_r10), (sum45_a11, sum45_r11), (sum45_a12, sum45_r12), (sum45_a13, sum45_r13), (sum45_a14, sum45_r14), (sum45_a15, sum45_r15), (sum45_a16, sum45_r16), (sum45_a17, sum45_r17), (sum45_a18, sum45_r18), (sum45_a19, sum45_r19), (sum45_a20, sum45_r20), (sum45_a21, sum45_r21), (sum45_a22, sum45_r22)]
theorem sum45_ok : TabOk cx67 LStart 7 4000 45 sum45 := .cons rfl sum45_0 <| .cons rfl sum45_1 <| .cons rfl sum45_2 <| .cons rfl sum45_3 <| .cons rfl sum45_4 <| .cons rfl sum45_5 <| .cons rfl sum45_6 <| .cons rfl sum45_7 <| .cons rfl sum45_8 <| .cons rfl sum45_9 <| .cons rfl sum45_10 <| .cons rfl sum45_11 <| .cons rfl sum45_12 <| .cons rfl sum45_13 <| .cons rfl sum45_14 <| .cons rfl sum45_15 <| .cons rfl sum45_16 <| .cons rfl sum45_17 <| .cons rfl sum45_18 <| .cons rfl sum45_19 <| .cons rfl sum45_20 <| .cons rfl sum45_21 <| .cons rfl sum45_22 <| .nil
noncomputable def cx45 : Cx := { cx with dm := dmH, sm := smOf [(45, sumPar LStart 7 sum45), (67, sumTab LStart 7 sum67), (66, sumTab LStart 7 sum66), (65, sumTab LStart 7 sum65), (44, sumTab LStart 7 sum44), (47, sumTab LStart 7 sum47), (13, sumTab LStart 7 sum13), (101, sumTab LStart 7 sum101), (104, sumTab LStart 7 sum104)] }
end Go.Proofs.YtcachlbljjpjdaaGreatDoor
