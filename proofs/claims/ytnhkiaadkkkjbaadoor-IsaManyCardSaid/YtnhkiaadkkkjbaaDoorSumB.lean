/- What some functions leave, by runs. No condition. -/
import Derived.Test.YtnhkiaadkkkjbaaDoorSumA
namespace Go.Proofs.YtnhkiaadkkkjbaaDoor
open Go Go.Proofs
set_option maxRecDepth 100000
def sum25_a0 : List V := [(.int .i64 (.lit (0)))]
def sum25_r0 : R Leaf := (.ok { v := (.int .u32 (.lit (1))), objs := [], n := 7 })
theorem sum25_0 : leafOf LStart 7 ((ev cx13 4000).call 25 sum25_a0 (stG LStart 7)) = sum25_r0 := by kernel_rfl
def sum25_a1 : List V := [(.int .i64 (.lit (1)))]
def sum25_r1 : R Leaf := (.ok { v := (.int .u32 (.lit (2))), objs := [], n := 7 })
theorem sum25_1 : leafOf LStart 7 ((ev cx13 4000).call 25 sum25_a1 (stG LStart 7)) = sum25_r1 := by kernel_rfl
def sum25_a2 : List V := [(.int .i64 (.lit (2)))]
def sum25_r2 : R Leaf := (.ok { v := (.int .u32 (.lit (4))), objs := [], n := 7 })
theorem sum25_2 : leafOf LStart 7 ((ev cx13 4000).call 25 sum25_a2 (stG LStart 7)) = sum25_r2 := by kernel_rfl
def sum25_a3 : List V := [(.int .i64 (.lit (3)))]
def sum25_r3 : R Leaf := (.ok { v := (.int .u32 (.lit (8))), objs := [], n := 7 })
theorem sum25_3 : leafOf LStart 7 ((ev cx13 4000).call 25 sum25_a3 (stG LStart 7)) = sum25_r3 := by kernel_rfl
def sum25_a4 : List V := [(.int .i64 (.lit (4)))]
def sum25_r4 : R Leaf := (.ok { v := (.int .u32 (.lit (16))), objs := [], n := 7 })
theorem sum25_4 : leafOf LStart 7 ((ev cx13 4000).call 25 sum25_a4 (stG LStart 7)) = sum25_r4 := by kernel_rfl
def sum25_a5 : List V := [(.int .i64 (.lit (5)))]
def sum25_r5 : R Leaf := (.ok { v := (.int .u32 (.lit (32))), objs := [], n := 7 })
theorem sum25_5 : leafOf LStart 7 ((ev cx13 4000).call 25 sum25_a5 (stG LStart 7)) = sum25_r5 := by kernel_rfl
def sum25_a6 : List V := [(.int .i64 (.lit (6)))]
def sum25_r6 : R Leaf := (.ok { v := (.int .u32 (.lit (64))), objs := [], n := 7 })
theorem sum25_6 : leafOf LStart 7 ((ev cx13 4000).call 25 sum25_a6 (stG LStart 7)) = sum25_r6 := by kernel_rfl
def sum25_a7 : List V := [(.int .i64 (.lit (7)))]
def sum25_r7 : R Leaf := (.ok { v := (.int .u32 (.lit (128))), objs := [], n := 7 })
theorem sum25_7 : leafOf LStart 7 ((ev cx13 4000).call 25 sum25_a7 (stG LStart 7)) = sum25_r7 := by kernel_rfl
def sum25_a8 : List V := [(.int .i64 (.lit (8)))]
def sum25_r8 : R Leaf := (.ok { v := (.int .u32 (.lit (256))), objs := [], n := 7 })
theorem sum25_8 : leafOf LStart 7 ((ev cx13 4000).call 25 sum25_a8 (stG LStart 7)) = sum25_r8 := by kernel_rfl
def sum25_a9 : List V := [(.int .i64 (.lit (9)))]
def sum25_r9 : R Leaf := (.ok { v := (.int .u32 (.lit (512))), objs := [], n := 7 })
theorem sum25_9 : leafOf LStart 7 ((ev cx13 4000).call 25 sum25_a9 (stG LStart 7)) = sum25_r9 := by kernel_rfl
def sum25_a10 : List V := [(.int .i64 (.lit (10)))]
def sum25_r10 : R Leaf := (.ok { v := (.int .u32 (.lit (1024))), objs := [], n := 7 })
theorem sum25_10 : leafOf LStart 7 ((ev cx13 4000).call 25 sum25_a10 (stG LStart 7)) = sum25_r10 := by kernel_rfl
def sum25_a11 : List V := [(.int .i64 (.lit (11)))]
def sum25_r11 : R Leaf := (.ok { v := (.int .u32 (.lit (2048))), objs := [], n := 7 })
theorem sum25_11 : leafOf LStart 7 ((ev cx13 4000).call 25 sum25_a11 (stG LStart 7)) = sum25_r11 := by kernel_rfl
def sum25_a12 : List V := [(.int .i64 (.lit (12)))]
def sum25_r12 : R Leaf := (.ok { v := (.int .u32 (.lit (4096))), objs := [], n := 7 })
theorem sum25_12 : leafOf LStart 7 ((ev cx13 4000).call 25 sum25_a12 (stG LStart 7)) = sum25_r12 := by kernel_rfl
def sum25_a13 : List V := [(.int .i64 (.lit (13)))]
def sum25_r13 : R Leaf := (.ok { v := (.int .u32 (.lit (8192))), objs := [], n := 7 })
theorem sum25_13 : leafOf LStart 7 ((ev cx13 4000).call 25 sum25_a13 (stG LStart 7)) = sum25_r13 := by kernel_rfl
def sum25_a14 : List V := [(.int .i64 (.lit (14)))]
def sum25_r14 : R Leaf := (.ok { v := (.int .u32 (.lit (16384))), objs := [], n := 7 })
theorem sum25_14 : leafOf LStart 7 ((ev cx13 4000).call 25 sum25_a14 (stG LStart 7)) = sum25_r14 := by kernel_rfl
def sum25_a15 : List V := [(.int .i64 (.lit (15)))]
def sum25_r15 : R Leaf := (.ok { v := (.int .u32 (.lit (32768))), objs := [], n := 7 })
theorem sum25_15 : leafOf LStart 7 ((ev cx13 4000).call 25 sum25_a15 (stG LStart 7)) = sum25_r15 := by kernel_rfl
def sum25_a16 : List V := [(.int .i64 (.lit (16)))]
def sum25_r16 : R Leaf := (.ok { v := (.int .u32 (.lit (65536))), objs := [], n := 7 })
theorem sum25_16 : leafOf LStart 7 ((ev cx13 4000).call 25 sum25_a16 (stG LStart 7)) = sum25_r16 := by kernel_rfl
def sum25_a17 : List V := [(.int .i64 (.lit (17)))]
def sum25_r17 : R Leaf := (.ok { v := (.int .u32 (.lit (131072))), objs := [], n := 7 })
theorem sum25_17 : leafOf LStart 7 ((ev cx13 4000).call 25 sum25_a17 (stG LStart 7)) = sum25_r17 := by kernel_rfl
def sum25_a18 : List V := [(.int .i64 (.lit (18)))]
def sum25_r18 : R Leaf := (.ok { v := (.int .u32 (.lit (262144))), objs := [], n := 7 })
theorem sum25_18 : leafOf LStart 7 ((ev cx13 4000).call 25 sum25_a18 (stG LStart 7)) = sum25_r18 := by kernel_rfl
def sum25_a19 : List V := [(.int .i64 (.lit (19)))]
def sum25_r19 : R Leaf := (.ok { v := (.int .u32 (.lit (524288))), objs := [], n := 7 })
theorem sum25_19 : leafOf LStart 7 ((ev cx13 4000).call 25 sum25_a19 (stG LStart 7)) = sum25_r19 := by kernel_rfl
def sum25_a20 : List V := [(.int .i64 (.lit (20)))]
def sum25_r20 : R Leaf := (.ok { v := (.int .u32 (.lit (1048576))), objs := [], n := 7 })
theorem sum25_20 : leafOf LStart 7 ((ev cx13 4000).call 25 sum25_a20 (stG LStart 7)) = sum25_r20 := by kernel_rfl
def sum25_a21 : List V := [(.int .i64 (.lit (21)))]
def sum25_r21 : R Leaf := (.ok { v := (.int .u32 (.lit (2097152))), objs := [], n := 7 })
theorem sum25_21 : leafOf LStart 7 ((ev cx13 4000).call 25 sum25_a21 (stG LStart 7)) = sum25_r21 := by kernel_rfl
def sum25_a22 : List V := [(.int .i64 (.lit (22)))]
def sum25_r22 : R Leaf := (.ok { v := (.int .u32 (.lit (4194304))), objs := [], n := 7 })
theorem sum25_22 : leafOf LStart 7 ((ev cx13 4000).call 25 sum25_a22 (stG LStart 7)) = sum25_r22 := by kernel_rfl
def sum25_a23 : List V := [(.int .i64 (.lit (23)))]
def sum25_r23 : R Leaf := (.ok { v := (.int .u32 (.lit (8388608))), objs := [], n := 7 })
theorem sum25_23 : leafOf LStart 7 ((ev cx13 4000).call 25 sum25_a23 (stG LStart 7)) = sum25_r23 := by kernel_rfl
def sum25_a24 : List V := [(.int .i64 (.lit (24)))]
def sum25_r24 : R Leaf := (.ok { v := (.int .u32 (.lit (16777216))), objs := [], n := 7 })
theorem sum25_24 : leafOf LStart 7 ((ev cx13 4000).call 25 sum25_a24 (stG LStart 7)) = sum25_r24 := by kernel_rfl
def sum25_a25 : List V := [(.int .i64 (.lit (25)))]
def sum25_r25 : R Leaf := (.ok { v := (.int .u32 (.lit (33554432))), objs := [], n := 7 })
theorem sum25_25 : leafOf LStart 7 ((ev cx13 4000).call 25 sum25_a25 (stG LStart 7)) = sum25_r25 := by kernel_rfl
def sum25_a26 : List V := [(.int .i64 (.lit (26)))]
def sum25_r26 : R Leaf := (.ok { v := (.int .u32 (.lit (67108864))), objs := [], n := 7 })
theorem sum25_26 : leafOf LStart 7 ((ev cx13 4000).call 25 sum25_a26 (stG LStart 7)) = sum25_r26 := by kernel_rfl
def sum25_a27 : List V := [(.int .i64 (.lit (27)))]
def sum25_r27 : R Leaf := (.ok { v := (.int .u32 (.lit (134217728))), objs := [], n := 7 })
theorem sum25_27 : leafOf LStart 7 ((ev cx13 4000).call 25 sum25_a27 (stG LStart 7)) = sum25_r27 := by kernel_rfl
def sum25_a28 : List V := [(.int .i64 (.lit (28)))]
def sum25_r28 : R Leaf := (.ok { v := (.int .u32 (.lit (268435456))), objs := [], n := 7 })
theorem sum25_28 : leafOf LStart 7 ((ev cx13 4000).call 25 sum25_a28 (stG LStart 7)) = sum25_r28 := by kernel_rfl
def sum25_a29 : List V := [(.int .i64 (.lit (29)))]
def sum25_r29 : R Leaf := (.ok { v := (.int .u32 (.lit (536870912))), objs := [], n := 7 })
theorem sum25_29 : leafOf LStart 7 ((ev cx13 4000).call 25 sum25_a29 (stG LStart 7)) = sum25_r29 := by kernel_rfl
def sum25_a30 : List V := [(.int .i64 (.lit (30)))]
def sum25_r30 : R Leaf := (.ok { v := (.int .u32 (.lit (1073741824))), objs := [], n := 7 })
theorem sum25_30 : leafOf LStart 7 ((ev cx13 4000).call 25 sum25_a30 (stG LStart 7)) = sum25_r30 := by kernel_rfl
def sum25_a31 : List V := [(.int .i64 (.lit (31)))]
def sum25_r31 : R Leaf := (.ok { v := (.int .u32 (.lit (2147483648))), objs := [], n := 7 })
theorem sum25_31 : leafOf LStart 7 ((ev cx13 4000).call 25 sum25_a31 (stG LStart 7)) = sum25_r31 := by kernel_rfl
def sum25 : List (List V × R Leaf) := [(sum25_a0, sum25_r0), (sum25_a1, sum25_r1), (sum25_a2, sum25_r2), (sum25_a3, sum25_r3), (sum25_a4, sum25_r4), (sum25_a5, sum25_r5), (sum25_a6, sum25_r6), (sum25_a7, sum25_r7), (sum25_a8, sum25_r8), (sum25_a9, sum25_r9), (sum25_a10, sum25_r10), (sum25_a11, sum25_r11), (sum25_a12, sum25_r12), (sum25_a13, sum25_r13), (sum25_a14, sum25_r14), (sum25_a15, sum25_r15), (sum25_a16, sum25_r16), (sum25_a17, sum25_r17), (sum25_a18, sum25_r18), (sum25_a19, sum25_r19), (sum25_a20, sum25_r20), (sum25_a21, sum25_r21), (sum25_a22, sum25_r22), (sum25_a23, sum25_r23), (sum25_a24, sum25_r24), (sum25_a25, sum25_r25), (sum25_a26, sum25_r26), (sum25_a27, sum25_r27), (sum25_a28, sum25_r28), (sum25_a29, sum25_r29), (sum25_a30, sum25_r30), (sum25_a31, sum25_r31)]
theorem sum25_ok : TabOk cx13 LStart 7 4000 25 sum25 := .cons rfl sum25_0 <| .cons rfl sum25_1 <| .cons rfl sum25_2 <| .cons rfl sum25_3 <| .cons rfl sum25_4 <| .cons rfl sum25_5 <| .cons rfl sum25_6 <| .cons rfl sum25_7 <| .cons rfl sum25_8 <| .cons rfl sum25_9 <| .cons rfl sum25_10 <| .cons rfl sum25_11 <| .cons rfl sum25_12 <| .cons rfl sum25_13 <| .cons rfl sum25_14 <| .cons rfl sum25_15 <| .cons rfl sum25_16 <| .cons rfl sum25_17 <| .cons rfl sum25_18 <| .cons rfl sum25_19 <| .cons rfl sum25_20 <| .cons rfl sum25_21 <| .cons rfl sum25_22 <| .cons rfl sum25_23 <| .cons rfl sum25_24 <| .cons rfl sum25_25 <| .cons rfl sum25_26 <| .cons rfl sum25_27 <| .cons rfl sum25_28 <| .cons rfl sum25_29 <| .cons rfl sum25_30 <| .cons rfl sum25_31 <| .nil
noncomputable def cx25 : Cx := { cx with sm := smOf [(25, sumTab LStart 7 sum25), (13, sumTab LStart 7 sum13), (39, sumTab LStart 7 sum39)] }
def sum22_a0 : List V := [(.int .i64 (.lit (1)))]
def sum22_r0 : R Leaf := (.ok { v := (.int .u8 (.lit (117))), objs := [], n := 7 })
theorem sum22_0 : leafOf LStart 7 ((ev cx25 4000).call 22 sum22_a0 (stG LStart 7)) = sum22_r0 := by kernel_rfl
def sum22_a1 : List V := [(.int .i64 (.lit (2)))]
def sum22_r1 : R Leaf := (.ok { v := (.int .u8 (.lit (117))), objs := [], n := 7 })
theorem sum22_1 : leafOf LStart 7 ((ev cx25 4000).call 22 sum22_a1 (stG LStart 7)) = sum22_r1 := by kernel_rfl
def sum22_a2 : List V := [(.int .i64 (.lit (3)))]
def sum22_r2 : R Leaf := (.ok { v := (.int .u8 (.lit (106))), objs := [], n := 7 })
theorem sum22_2 : leafOf LStart 7 ((ev cx25 4000).call 22 sum22_a2 (stG LStart 7)) = sum22_r2 := by kernel_rfl
def sum22_a3 : List V := [(.int .i64 (.lit (4)))]
def sum22_r3 : R Leaf := (.ok { v := (.int .u8 (.lit (108))), objs := [], n := 7 })
theorem sum22_3 : leafOf LStart 7 ((ev cx25 4000).call 22 sum22_a3 (stG LStart 7)) = sum22_r3 := by kernel_rfl
def sum22_a4 : List V := [(.int .i64 (.lit (5)))]
def sum22_r4 : R Leaf := (.ok { v := (.int .u8 (.lit (98))), objs := [], n := 7 })
theorem sum22_4 : leafOf LStart 7 ((ev cx25 4000).call 22 sum22_a4 (stG LStart 7)) = sum22_r4 := by kernel_rfl
def sum22_a5 : List V := [(.int .i64 (.lit (6)))]
def sum22_r5 : R Leaf := (.ok { v := (.int .u8 (.lit (98))), objs := [], n := 7 })
theorem sum22_5 : leafOf LStart 7 ((ev cx25 4000).call 22 sum22_a5 (stG LStart 7)) = sum22_r5 := by kernel_rfl
def sum22_a6 : List V := [(.int .i64 (.lit (7)))]
def sum22_r6 : R Leaf := (.ok { v := (.int .u8 (.lit (98))), objs := [], n := 7 })
theorem sum22_6 : leafOf LStart 7 ((ev cx25 4000).call 22 sum22_a6 (stG LStart 7)) = sum22_r6 := by kernel_rfl
def sum22_a7 : List V := [(.int .i64 (.lit (8)))]
def sum22_r7 : R Leaf := (.ok { v := (.int .u8 (.lit (98))), objs := [], n := 7 })
theorem sum22_7 : leafOf LStart 7 ((ev cx25 4000).call 22 sum22_a7 (stG LStart 7)) = sum22_r7 := by kernel_rfl
def sum22_a8 : List V := [(.int .i64 (.lit (9)))]
def sum22_r8 : R Leaf := (.ok { v := (.int .u8 (.lit (98))), objs := [], n := 7 })
theorem sum22_8 : leafOf LStart 7 ((ev cx25 4000).call 22 sum22_a8 (stG LStart 7)) = sum22_r8 := by kernel_rfl
def sum22_a9 : List V := [(.int .i64 (.lit (10)))]
def sum22_r9 : R Leaf := (.ok { v := (.int .u8 (.lit (98))), objs := [], n := 7 })
theorem sum22_9 : leafOf LStart 7 ((ev cx25 4000).call 22 sum22_a9 (stG LStart 7)) = sum22_r9 := by kernel_rfl
def sum22_a10 : List V := [(.int .i64 (.lit (11)))]
def sum22_r10 : R Leaf := (.ok { v := (.int .u8 (.lit (108))), objs := [], n := 7 })
theorem sum22_10 : leafOf LStart 7 ((ev cx25 4000).call 22 sum22_a10 (stG LStart 7)) = sum22_r10 := by kernel_rfl
def sum22_a11 : List V := [(.int .i64 (.lit (12)))]
def sum22_r11 : R Leaf := (.ok { v := (.int .u8 (.lit (108))), objs := [], n := 7 })
theorem sum22_11 : leafOf LStart 7 ((ev cx25 4000).call 22 sum22_a11 (stG LStart 7)) = sum22_r11 := by kernel_rfl
def sum22_a12 : List V := [(.int .i64 (.lit (13)))]
def sum22_r12 : R Leaf := (.ok { v := (.int .u8 (.lit (108))), objs := [], n := 7 })
theorem sum22_12 : leafOf LStart 7 ((ev cx25 4000).call 22 sum22_a12 (stG LStart 7)) = sum22_r12 := by kernel_rfl
def sum22_a13 : List V := [(.int .i64 (.lit (14)))]
def sum22_r13 : R Leaf := (.ok { v := (.int .u8 (.lit (108))), objs := [], n := 7 })
theorem sum22_13 : leafOf LStart 7 ((ev cx25 4000).call 22 sum22_a13 (stG LStart 7)) = sum22_r13 := by kernel_rfl
def sum22_a14 : List V := [(.int .i64 (.lit (15)))]
def sum22_r14 : R Leaf := (.ok { v := (.int .u8 (.lit (108))), objs := [], n := 7 })
theorem sum22_14 : leafOf LStart 7 ((ev cx25 4000).call 22 sum22_a14 (stG LStart 7)) = sum22_r14 := by kernel_rfl
def sum22_a15 : List V := [(.int .i64 (.lit (16)))]
def sum22_r15 : R Leaf := (.ok { v := (.int .u8 (.lit (115))), objs := [], n := 7 })
theorem sum22_15 : leafOf LStart 7 ((ev cx25 4000).call 22 sum22_a15 (stG LStart 7)) = sum22_r15 := by kernel_rfl
def sum22_a16 : List V := [(.int .i64 (.lit (17)))]
def sum22_r16 : R Leaf := (.ok { v := (.int .u8 (.lit (115))), objs := [], n := 7 })
theorem sum22_16 : leafOf LStart 7 ((ev cx25 4000).call 22 sum22_a16 (stG LStart 7)) = sum22_r16 := by kernel_rfl
def sum22_a17 : List V := [(.int .i64 (.lit (18)))]
def sum22_r17 : R Leaf := (.ok { v := (.int .u8 (.lit (115))), objs := [], n := 7 })
theorem sum22_17 : leafOf LStart 7 ((ev cx25 4000).call 22 sum22_a17 (stG LStart 7)) = sum22_r17 := by kernel_rfl
def sum22_a18 : List V := [(.int .i64 (.lit (19)))]
def sum22_r18 : R Leaf := (.ok { v := (.int .u8 (.lit (105))), objs := [], n := 7 })
theorem sum22_18 : leafOf LStart 7 ((ev cx25 4000).call 22 sum22_a18 (stG LStart 7)) = sum22_r18 := by kernel_rfl
def sum22_a19 : List V := [(.int .i64 (.lit (20)))]
def sum22_r19 : R Leaf := (.ok { v := (.int .u8 (.lit (105))), objs := [], n := 7 })
theorem sum22_19 : leafOf LStart 7 ((ev cx25 4000).call 22 sum22_a19 (stG LStart 7)) = sum22_r19 := by kernel_rfl
def sum22_a20 : List V := [(.int .i64 (.lit (21)))]
def sum22_r20 : R Leaf := (.ok { v := (.int .u8 (.lit (105))), objs := [], n := 7 })
theorem sum22_20 : leafOf LStart 7 ((ev cx25 4000).call 22 sum22_a20 (stG LStart 7)) = sum22_r20 := by kernel_rfl
def sum22_a21 : List V := [(.int .i64 (.lit (22)))]
def sum22_r21 : R Leaf := (.ok { v := (.int .u8 (.lit (105))), objs := [], n := 7 })
theorem sum22_21 : leafOf LStart 7 ((ev cx25 4000).call 22 sum22_a21 (stG LStart 7)) = sum22_r21 := by kernel_rfl
def sum22_a22 : List V := [(.int .i64 (.lit (23)))]
def sum22_r22 : R Leaf := (.ok { v := (.int .u8 (.lit (105))), objs := [], n := 7 })
theorem sum22_22 : leafOf LStart 7 ((ev cx25 4000).call 22 sum22_a22 (stG LStart 7)) = sum22_r22 := by kernel_rfl
def sum22_a23 : List V := [(.int .i64 (.lit (24)))]
def sum22_r23 : R Leaf := (.ok { v := (.int .u8 (.lit (105))), objs := [], n := 7 })
theorem sum22_23 : leafOf LStart 7 ((ev cx25 4000).call 22 sum22_a23 (stG LStart 7)) = sum22_r23 := by kernel_rfl
def sum22_a24 : List V := [(.int .i64 (.lit (25)))]
def sum22_r24 : R Leaf := (.ok { v := (.int .u8 (.lit (104))), objs := [], n := 7 })
theorem sum22_24 : leafOf LStart 7 ((ev cx25 4000).call 22 sum22_a24 (stG LStart 7)) = sum22_r24 := by kernel_rfl
def sum22_a25 : List V := [(.int .i64 (.lit (26)))]
def sum22_r25 : R Leaf := (.ok { v := (.int .u8 (.lit (104))), objs := [], n := 7 })
theorem sum22_25 : leafOf LStart 7 ((ev cx25 4000).call 22 sum22_a25 (stG LStart 7)) = sum22_r25 := by kernel_rfl
def sum22_a26 : List V := [(.int .i64 (.lit (27)))]
def sum22_r26 : R Leaf := (.ok { v := (.int .u8 (.lit (104))), objs := [], n := 7 })
theorem sum22_26 : leafOf LStart 7 ((ev cx25 4000).call 22 sum22_a26 (stG LStart 7)) = sum22_r26 := by kernel_rfl
def sum22_a27 : List V := [(.int .i64 (.lit (28)))]
def sum22_r27 : R Leaf := (.ok { v := (.int .u8 (.lit (114))), objs := [], n := 7 })
theorem sum22_27 : leafOf LStart 7 ((ev cx25 4000).call 22 sum22_a27 (stG LStart 7)) = sum22_r27 := by kernel_rfl
def sum22_a28 : List V := [(.int .i64 (.lit (29)))]
def sum22_r28 : R Leaf := (.ok { v := (.int .u8 (.lit (114))), objs := [], n := 7 })
theorem sum22_28 : leafOf LStart 7 ((ev cx25 4000).call 22 sum22_a28 (stG LStart 7)) = sum22_r28 := by kernel_rfl
def sum22_a29 : List V := [(.int .i64 (.lit (30)))]
def sum22_r29 : R Leaf := (.ok { v := (.int .u8 (.lit (114))), objs := [], n := 7 })
theorem sum22_29 : leafOf LStart 7 ((ev cx25 4000).call 22 sum22_a29 (stG LStart 7)) = sum22_r29 := by kernel_rfl
def sum22_a30 : List V := [(.int .i64 (.lit (31)))]
def sum22_r30 : R Leaf := (.ok { v := (.int .u8 (.lit (114))), objs := [], n := 7 })
theorem sum22_30 : leafOf LStart 7 ((ev cx25 4000).call 22 sum22_a30 (stG LStart 7)) = sum22_r30 := by kernel_rfl
def sum22_a31 : List V := [(.int .i64 (.lit (32)))]
def sum22_r31 : R Leaf := (.ok { v := (.int .u8 (.lit (114))), objs := [], n := 7 })
theorem sum22_31 : leafOf LStart 7 ((ev cx25 4000).call 22 sum22_a31 (stG LStart 7)) = sum22_r31 := by kernel_rfl
def sum22_a32 : List V := [(.int .i64 (.lit (33)))]
def sum22_r32 : R Leaf := (.ok { v := (.int .u8 (.lit (114))), objs := [], n := 7 })
theorem sum22_32 : leafOf LStart 7 ((ev cx25 4000).call 22 sum22_a32 (stG LStart 7)) = sum22_r32 := by kernel_rfl
def sum22_a33 : List V := [(.int .i64 (.lit (34)))]
def sum22_r33 : R Leaf := (.ok { v := (.int .u8 (.lit (114))), objs := [], n := 7 })
theorem sum22_33 : leafOf LStart 7 ((ev cx25 4000).call 22 sum22_a33 (stG LStart 7)) = sum22_r33 := by kernel_rfl
def sum22_a34 : List V := [(.int .i64 (.lit (35)))]
def sum22_r34 : R Leaf := (.ok { v := (.int .u8 (.lit (114))), objs := [], n := 7 })
theorem sum22_34 : leafOf LStart 7 ((ev cx25 4000).call 22 sum22_a34 (stG LStart 7)) = sum22_r34 := by kernel_rfl
def sum22_a35 : List V := [(.int .i64 (.lit (36)))]
def sum22_r35 : R Leaf := (.ok { v := (.int .u8 (.lit (114))), objs := [], n := 7 })
theorem sum22_35 : leafOf LStart 7 ((ev cx25 4000).call 22 sum22_a35 (stG LStart 7)) = sum22_r35 := by kernel_rfl
def sum22_a36 : List V := [(.int .i64 (.lit (37)))]
def sum22_r36 : R Leaf := (.ok { v := (.int .u8 (.lit (114))), objs := [], n := 7 })
theorem sum22_36 : leafOf LStart 7 ((ev cx25 4000).call 22 sum22_a36 (stG LStart 7)) = sum22_r36 := by kernel_rfl
def sum22_a37 : List V := [(.int .i64 (.lit (38)))]
def sum22_r37 : R Leaf := (.ok { v := (.int .u8 (.lit (102))), objs := [], n := 7 })
theorem sum22_37 : leafOf LStart 7 ((ev cx25 4000).call 22 sum22_a37 (stG LStart 7)) = sum22_r37 := by kernel_rfl
def sum22_a38 : List V := [(.int .i64 (.lit (39)))]
def sum22_r38 : R Leaf := (.ok { v := (.int .u8 (.lit (101))), objs := [], n := 7 })
theorem sum22_38 : leafOf LStart 7 ((ev cx25 4000).call 22 sum22_a38 (stG LStart 7)) = sum22_r38 := by kernel_rfl
def sum22_a39 : List V := [(.int .i64 (.lit (40)))]
def sum22_r39 : R Leaf := (.ok { v := (.int .u8 (.lit (114))), objs := [], n := 7 })
theorem sum22_39 : leafOf LStart 7 ((ev cx25 4000).call 22 sum22_a39 (stG LStart 7)) = sum22_r39 := by kernel_rfl
def sum22_a40 : List V := [(.int .i64 (.lit (41)))]
def sum22_r40 : R Leaf := (.ok { v := (.int .u8 (.lit (114))), objs := [], n := 7 })
theorem sum22_40 : leafOf LStart 7 ((ev cx25 4000).call 22 sum22_a40 (stG LStart 7)) = sum22_r40 := by kernel_rfl
def sum22_a41 : List V := [(.int .i64 (.lit (42)))]
def sum22_r41 : R Leaf := (.ok { v := (.int .u8 (.lit (114))), objs := [], n := 7 })
theorem sum22_41 : leafOf LStart 7 ((ev cx25 4000).call 22 sum22_a41 (stG LStart 7)) = sum22_r41 := by kernel_rfl
def sum22_a42 : List V := [(.int .i64 (.lit (43)))]
def sum22_r42 : R Leaf := (.ok { v := (.int .u8 (.lit (114))), objs := [], n := 7 })
theorem sum22_42 : leafOf LStart 7 ((ev cx25 4000).call 22 sum22_a42 (stG LStart 7)) = sum22_r42 := by kernel_rfl
def sum22_a43 : List V := [(.int .i64 (.lit (44)))]
def sum22_r43 : R Leaf := (.ok { v := (.int .u8 (.lit (114))), objs := [], n := 7 })
theorem sum22_43 : leafOf LStart 7 ((ev cx25 4000).call 22 sum22_a43 (stG LStart 7)) = sum22_r43 := by kernel_rfl
def sum22_a44 : List V := [(.int .i64 (.lit (45)))]
def sum22_r44 : R Leaf := (.ok { v := (.int .u8 (.lit (114))), objs := [], n := 7 })
theorem sum22_44 : leafOf LStart 7 ((ev cx25 4000).call 22 sum22_a44 (stG LStart 7)) = sum22_r44 := by kernel_rfl
def sum22_a45 : List V := [(.int .i64 (.lit (46)))]
def sum22_r45 : R Leaf := (.ok { v := (.int .u8 (.lit (114))), objs := [], n := 7 })
theorem sum22_45 : leafOf LStart 7 ((ev cx25 4000).call 22 sum22_a45 (stG LStart 7)) = sum22_r45 := by kernel_rfl
def sum22_a46 : List V := [(.int .i64 (.lit (47)))]
def sum22_r46 : R Leaf := (.ok { v := (.int .u8 (.lit (114))), objs := [], n := 7 })
theorem sum22_46 : leafOf LStart 7 ((ev cx25 4000).call 22 sum22_a46 (stG LStart 7)) = sum22_r46 := by kernel_rfl
def sum22_a47 : List V := [(.int .i64 (.lit (48)))]
def sum22_r47 : R Leaf := (.ok { v := (.int .u8 (.lit (113))), objs := [], n := 7 })
theorem sum22_47 : leafOf LStart 7 ((ev cx25 4000).call 22 sum22_a47 (stG LStart 7)) = sum22_r47 := by kernel_rfl
def sum22_a48 : List V := [(.int .i64 (.lit (49)))]
def sum22_r48 : R Leaf := (.ok { v := (.int .u8 (.lit (97))), objs := [], n := 7 })
theorem sum22_48 : leafOf LStart 7 ((ev cx25 4000).call 22 sum22_a48 (stG LStart 7)) = sum22_r48 := by kernel_rfl
def sum22_a49 : List V := [(.int .i64 (.lit (50)))]
def sum22_r49 : R Leaf := (.ok { v := (.int .u8 (.lit (97))), objs := [], n := 7 })
theorem sum22_49 : leafOf LStart 7 ((ev cx25 4000).call 22 sum22_a49 (stG LStart 7)) = sum22_r49 := by kernel_rfl
def sum22_a50 : List V := [(.int .i64 (.lit (51)))]
def sum22_r50 : R Leaf := (.ok { v := (.int .u8 (.lit (97))), objs := [], n := 7 })
theorem sum22_50 : leafOf LStart 7 ((ev cx25 4000).call 22 sum22_a50 (stG LStart 7)) = sum22_r50 := by kernel_rfl
def sum22_a51 : List V := [(.int .i64 (.lit (52)))]
def sum22_r51 : R Leaf := (.ok { v := (.int .u8 (.lit (97))), objs := [], n := 7 })
theorem sum22_51 : leafOf LStart 7 ((ev cx25 4000).call 22 sum22_a51 (stG LStart 7)) = sum22_r51 := by kernel_rfl
def sum22_a52 : List V := [(.int .i64 (.lit (53)))]
def sum22_r52 : R Leaf := (.ok { v := (.int .u8 (.lit (97))), objs := [], n := 7 })
theorem sum22_52 : leafOf LStart 7 ((ev cx25 4000).call 22 sum22_a52 (stG LStart 7)) = sum22_r52 := by kernel_rfl
def sum22_a53 : List V := [(.int .i64 (.lit (54)))]
def sum22_r53 : R Leaf := (.ok { v := (.int .u8 (.lit (97))), objs := [], n := 7 })
theorem sum22_53 : leafOf LStart 7 ((ev cx25 4000).call 22 sum22_a53 (stG LStart 7)) = sum22_r53 := by kernel_rfl
def sum22_a54 : List V := [(.int .i64 (.lit (55)))]
def sum22_r54 : R Leaf := (.ok { v := (.int .u8 (.lit (97))), objs := [], n := 7 })
theorem sum22_54 : leafOf LStart 7 ((ev cx25 4000).call 22 sum22_a54 (stG LStart 7)) = sum22_r54 := by kernel_rfl
def sum22_a55 : List V := [(.int .i64 (.lit (56)))]
def sum22_r55 : R Leaf := (.ok { v := (.int .u8 (.lit (97))), objs := [], n := 7 })
theorem sum22_55 : leafOf LStart 7 ((ev cx25 4000).call 22 sum22_a55 (stG LStart 7)) = sum22_r55 := by kernel_rfl
def sum22_a56 : List V := [(.int .i64 (.lit (57)))]
def sum22_r56 : R Leaf := (.ok { v := (.int .u8 (.lit (97))), objs := [], n := 7 })
theorem sum22_56 : leafOf LStart 7 ((ev cx25 4000).call 22 sum22_a56 (stG LStart 7)) = sum22_r56 := by kernel_rfl
def sum22_a57 : List V := [(.int .i64 (.lit (58)))]
def sum22_r57 : R Leaf := (.ok { v := (.int .u8 (.lit (97))), objs := [], n := 7 })
theorem sum22_57 : leafOf LStart 7 ((ev cx25 4000).call 22 sum22_a57 (stG LStart 7)) = sum22_r57 := by kernel_rfl
def sum22_a58 : List V := [(.int .i64 (.lit (59)))]
def sum22_r58 : R Leaf := (.ok { v := (.int .u8 (.lit (99))), objs := [], n := 7 })
theorem sum22_58 : leafOf LStart 7 ((ev cx25 4000).call 22 sum22_a58 (stG LStart 7)) = sum22_r58 := by kernel_rfl
def sum22 : List (List V × R Leaf) := [(sum22_a0, sum22_r0), (sum22_a1, sum22_r1), (sum22_a2, sum22_r2), (sum22_a3, sum22_r3), (sum22_a4, sum22_r4), (sum22_a5, sum22_r5), (sum22_a6, sum22_r6), (sum22_a7, sum22_r7), (sum22_a8, sum22_r8), (sum22_a9, sum22_r9), (sum22_a10, sum22_r10), (sum22_a11, sum22_r11), (sum22_a12, sum22_r12), (sum22_a13, sum22_r13), (sum22_a14, sum22_r14), (sum22_a15, sum22_r15), (sum22_a16, sum22_r16), (sum22_a17, sum22_r17), (sum22_a18, sum22_r18), (sum22_a19, sum22_r19), (sum22_a20, sum22_r20), (sum22_a21, sum22_r21), (sum22_a22, sum22_r22), (sum22_a23, sum22_r23), (sum22_a24, sum22_r24), (sum22_a25, sum22_r25), (sum22_a26, sum22_r26), (sum22_a27, sum22_r27), (sum22_a28, sum22_r28), (sum22_a29, sum22_r29), (sum22_a30, sum22_r30), (sum22_a31, sum22_r31), (sum22_a32, sum22_r32), (sum22_a33, sum22_r33), (sum22_a34, sum22_r34), (sum22_a35, sum22_r35), (sum22_a36, sum22_r36), (sum22_a37, sum22_r37), (sum22_a38, sum22_r38), (sum22_a39, sum22_r39), (sum22_a40, sum22_r40), (sum22_a41, sum22_r41), (sum22_a42, sum22_r42), (sum22_a43, sum22_r43), (sum22_a44, sum22_r44), (sum22_a45, sum22_r45), (sum22_a46, sum22_r46), (sum22_a47, sum22_r47), (sum22_a48, sum22_r48), (sum22_a49, sum22_r49), (sum22_a50, sum22_r50), (sum22_a51, sum22_r51), (sum22_a52, sum22_r52), (sum22_a53, sum22_r53), (sum22_a54, sum22_r54), (sum22_a55, sum22_r55), (sum22_a56, sum22_r56), (sum22_a57, sum22_r57), (sum22_a58, sum22_r58)]
theorem sum22_ok : TabOk cx25 LStart 7 4000 22 sum22 := .cons rfl sum22_0 <| .cons rfl sum22_1 <| .cons rfl sum22_2 <| .cons rfl sum22_3 <| .cons rfl sum22_4 <| .cons rfl sum22_5 <| .cons rfl sum22_6 <| .cons rfl sum22_7 <| .cons rfl sum22_8 <| .cons rfl sum22_9 <| .cons rfl sum22_10 <| .cons rfl sum22_11 <| .cons rfl sum22_12 <| .cons rfl sum22_13 <| .cons rfl sum22_14 <| .cons rfl sum22_15 <| .cons rfl sum22_16 <| .cons rfl sum22_17 <| .cons rfl sum22_18 <| .cons rfl sum22_19 <| .cons rfl sum22_20 <| .cons rfl sum22_21 <| .cons rfl sum22_22 <| .cons rfl sum22_23 <| .cons rfl sum22_24 <| .cons rfl sum22_25 <| .cons rfl sum22_26 <| .cons rfl sum22_27 <| .cons rfl sum22_28 <| .cons rfl sum22_29 <| .cons rfl sum22_30 <| .cons rfl sum22_31 <| .cons rfl sum22_32 <| .cons rfl sum22_33 <| .cons rfl sum22_34 <| .cons rfl sum22_35 <| .cons rfl sum22_36 <| .cons rfl sum22_37 <| .cons rfl sum22_38 <| .cons rfl sum22_39 <| .cons rfl sum22_40 <| .cons rfl sum22_41 <| .cons rfl sum22_42 <| .cons rfl sum22_43 <| .cons rfl sum22_44 <| .cons rfl sum22_45 <| .cons rfl sum22_46 <| .cons rfl sum22_47 <| .cons rfl sum22_48 <| .cons rfl sum22_49 <| .cons rfl sum22_50 <| .cons rfl sum22_51 <| .cons rfl sum22_52 <| .cons rfl sum22_53 <| .cons rfl sum22_54 <| .cons rfl sum22_55 <| .cons rfl sum22_56 <| .cons rfl sum22_57 <| .cons rfl sum22_58 <| .nil
noncomputable def cx22 : Cx := { cx with sm := smOf [(22, sumTab LStart 7 sum22), (25, sumTab LStart 7 sum25), (13, sumTab LStart 7 sum13), (39, sumTab LStart 7 sum39)] }
def sum29_a0 : List V := [(.int .i64 (.lit (1)))]
def sum29_r0 : R Leaf := (.ok { v := (.int .u32 (.lit (55))), objs := [], n := 7 })
theorem sum29_0 : leafOf LStart 7 ((ev cx22 4000).call 29 sum29_a0 (stG LStart 7)) = sum29_r0 := by kernel_rfl
def sum29_a1 : List V := [(.int .i64 (.lit (2)))]
def sum29_r1 : R Leaf := (.ok { v := (.int .u32 (.lit (23))), objs := [], n := 7 })
theorem sum29_1 : leafOf LStart 7 ((ev cx22 4000).call 29 sum29_a1 (stG LStart 7)) = sum29_r1 := by kernel_rfl
def sum29_a2 : List V := [(.int .i64 (.lit (3)))]
def sum29_r2 : R Leaf := (.ok { v := (.int .u32 (.lit (111))), objs := [], n := 7 })
theorem sum29_2 : leafOf LStart 7 ((ev cx22 4000).call 29 sum29_a2 (stG LStart 7)) = sum29_r2 := by kernel_rfl
def sum29_a3 : List V := [(.int .i64 (.lit (4)))]
def sum29_r3 : R Leaf := (.ok { v := (.int .u32 (.lit (103))), objs := [], n := 7 })
theorem sum29_3 : leafOf LStart 7 ((ev cx22 4000).call 29 sum29_a3 (stG LStart 7)) = sum29_r3 := by kernel_rfl
def sum29_a4 : List V := [(.int .i64 (.lit (5)))]
def sum29_r4 : R Leaf := (.ok { v := (.int .u32 (.lit (99))), objs := [], n := 7 })
theorem sum29_4 : leafOf LStart 7 ((ev cx22 4000).call 29 sum29_a4 (stG LStart 7)) = sum29_r4 := by kernel_rfl
def sum29_a5 : List V := [(.int .i64 (.lit (6)))]
def sum29_r5 : R Leaf := (.ok { v := (.int .u32 (.lit (99))), objs := [], n := 7 })
theorem sum29_5 : leafOf LStart 7 ((ev cx22 4000).call 29 sum29_a5 (stG LStart 7)) = sum29_r5 := by kernel_rfl
def sum29_a6 : List V := [(.int .i64 (.lit (7)))]
def sum29_r6 : R Leaf := (.ok { v := (.int .u32 (.lit (99))), objs := [], n := 7 })
theorem sum29_6 : leafOf LStart 7 ((ev cx22 4000).call 29 sum29_a6 (stG LStart 7)) = sum29_r6 := by kernel_rfl
def sum29_a7 : List V := [(.int .i64 (.lit (8)))]
def sum29_r7 : R Leaf := (.ok { v := (.int .u32 (.lit (99))), objs := [], n := 7 })
theorem sum29_7 : leafOf LStart 7 ((ev cx22 4000).call 29 sum29_a7 (stG LStart 7)) = sum29_r7 := by kernel_rfl
def sum29_a8 : List V := [(.int .i64 (.lit (9)))]
def sum29_r8 : R Leaf := (.ok { v := (.int .u32 (.lit (99))), objs := [], n := 7 })
theorem sum29_8 : leafOf LStart 7 ((ev cx22 4000).call 29 sum29_a8 (stG LStart 7)) = sum29_r8 := by kernel_rfl
def sum29_a9 : List V := [(.int .i64 (.lit (10)))]
def sum29_r9 : R Leaf := (.ok { v := (.int .u32 (.lit (99))), objs := [], n := 7 })
theorem sum29_9 : leafOf LStart 7 ((ev cx22 4000).call 29 sum29_a9 (stG LStart 7)) = sum29_r9 := by kernel_rfl
def sum29_a10 : List V := [(.int .i64 (.lit (11)))]
def sum29_r10 : R Leaf := (.ok { v := (.int .u32 (.lit (3))), objs := [], n := 7 })
theorem sum29_10 : leafOf LStart 7 ((ev cx22 4000).call 29 sum29_a10 (stG LStart 7)) = sum29_r10 := by kernel_rfl
def sum29_a11 : List V := [(.int .i64 (.lit (12)))]
def sum29_r11 : R Leaf := (.ok { v := (.int .u32 (.lit (3))), objs := [], n := 7 })
theorem sum29_11 : leafOf LStart 7 ((ev cx22 4000).call 29 sum29_a11 (stG LStart 7)) = sum29_r11 := by kernel_rfl
def sum29_a12 : List V := [(.int .i64 (.lit (13)))]
def sum29_r12 : R Leaf := (.ok { v := (.int .u32 (.lit (3))), objs := [], n := 7 })
theorem sum29_12 : leafOf LStart 7 ((ev cx22 4000).call 29 sum29_a12 (stG LStart 7)) = sum29_r12 := by kernel_rfl
def sum29_a13 : List V := [(.int .i64 (.lit (14)))]
def sum29_r13 : R Leaf := (.ok { v := (.int .u32 (.lit (3))), objs := [], n := 7 })
theorem sum29_13 : leafOf LStart 7 ((ev cx22 4000).call 29 sum29_a13 (stG LStart 7)) = sum29_r13 := by kernel_rfl
def sum29_a14 : List V := [(.int .i64 (.lit (15)))]
def sum29_r14 : R Leaf := (.ok { v := (.int .u32 (.lit (3))), objs := [], n := 7 })
theorem sum29_14 : leafOf LStart 7 ((ev cx22 4000).call 29 sum29_a14 (stG LStart 7)) = sum29_r14 := by kernel_rfl
def sum29_a15 : List V := [(.int .i64 (.lit (16)))]
def sum29_r15 : R Leaf := (.ok { v := (.int .u32 (.lit (35))), objs := [], n := 7 })
theorem sum29_15 : leafOf LStart 7 ((ev cx22 4000).call 29 sum29_a15 (stG LStart 7)) = sum29_r15 := by kernel_rfl
def sum29_a16 : List V := [(.int .i64 (.lit (17)))]
def sum29_r16 : R Leaf := (.ok { v := (.int .u32 (.lit (35))), objs := [], n := 7 })
theorem sum29_16 : leafOf LStart 7 ((ev cx22 4000).call 29 sum29_a16 (stG LStart 7)) = sum29_r16 := by kernel_rfl
def sum29_a17 : List V := [(.int .i64 (.lit (18)))]
def sum29_r17 : R Leaf := (.ok { v := (.int .u32 (.lit (35))), objs := [], n := 7 })
theorem sum29_17 : leafOf LStart 7 ((ev cx22 4000).call 29 sum29_a17 (stG LStart 7)) = sum29_r17 := by kernel_rfl
def sum29_a18 : List V := [(.int .i64 (.lit (19)))]
def sum29_r18 : R Leaf := (.ok { v := (.int .u32 (.lit (19))), objs := [], n := 7 })
theorem sum29_18 : leafOf LStart 7 ((ev cx22 4000).call 29 sum29_a18 (stG LStart 7)) = sum29_r18 := by kernel_rfl
def sum29_a19 : List V := [(.int .i64 (.lit (20)))]
def sum29_r19 : R Leaf := (.ok { v := (.int .u32 (.lit (19))), objs := [], n := 7 })
theorem sum29_19 : leafOf LStart 7 ((ev cx22 4000).call 29 sum29_a19 (stG LStart 7)) = sum29_r19 := by kernel_rfl
def sum29_a20 : List V := [(.int .i64 (.lit (21)))]
def sum29_r20 : R Leaf := (.ok { v := (.int .u32 (.lit (19))), objs := [], n := 7 })
theorem sum29_20 : leafOf LStart 7 ((ev cx22 4000).call 29 sum29_a20 (stG LStart 7)) = sum29_r20 := by kernel_rfl
def sum29_a21 : List V := [(.int .i64 (.lit (22)))]
def sum29_r21 : R Leaf := (.ok { v := (.int .u32 (.lit (19))), objs := [], n := 7 })
theorem sum29_21 : leafOf LStart 7 ((ev cx22 4000).call 29 sum29_a21 (stG LStart 7)) = sum29_r21 := by kernel_rfl
def sum29_a22 : List V := [(.int .i64 (.lit (23)))]
def sum29_r22 : R Leaf := (.ok { v := (.int .u32 (.lit (19))), objs := [], n := 7 })
theorem sum29_22 : leafOf LStart 7 ((ev cx22 4000).call 29 sum29_a22 (stG LStart 7)) = sum29_r22 := by kernel_rfl
def sum29_a23 : List V := [(.int .i64 (.lit (24)))]
def sum29_r23 : R Leaf := (.ok { v := (.int .u32 (.lit (19))), objs := [], n := 7 })
theorem sum29_23 : leafOf LStart 7 ((ev cx22 4000).call 29 sum29_a23 (stG LStart 7)) = sum29_r23 := by kernel_rfl
def sum29_a24 : List V := [(.int .i64 (.lit (25)))]
def sum29_r24 : R Leaf := (.ok { v := (.int .u32 (.lit (19))), objs := [], n := 7 })
theorem sum29_24 : leafOf LStart 7 ((ev cx22 4000).call 29 sum29_a24 (stG LStart 7)) = sum29_r24 := by kernel_rfl
def sum29_a25 : List V := [(.int .i64 (.lit (26)))]
def sum29_r25 : R Leaf := (.ok { v := (.int .u32 (.lit (19))), objs := [], n := 7 })
theorem sum29_25 : leafOf LStart 7 ((ev cx22 4000).call 29 sum29_a25 (stG LStart 7)) = sum29_r25 := by kernel_rfl
def sum29_a26 : List V := [(.int .i64 (.lit (27)))]
def sum29_r26 : R Leaf := (.ok { v := (.int .u32 (.lit (19))), objs := [], n := 7 })
theorem sum29_26 : leafOf LStart 7 ((ev cx22 4000).call 29 sum29_a26 (stG LStart 7)) = sum29_r26 := by kernel_rfl
def sum29_a27 : List V := [(.int .i64 (.lit (28)))]
def sum29_r27 : R Leaf := (.ok { v := (.int .u32 (.lit (51))), objs := [], n := 7 })
theorem sum29_27 : leafOf LStart 7 ((ev cx22 4000).call 29 sum29_a27 (stG LStart 7)) = sum29_r27 := by kernel_rfl
def sum29_a28 : List V := [(.int .i64 (.lit (29)))]
def sum29_r28 : R Leaf := (.ok { v := (.int .u32 (.lit (51))), objs := [], n := 7 })
theorem sum29_28 : leafOf LStart 7 ((ev cx22 4000).call 29 sum29_a28 (stG LStart 7)) = sum29_r28 := by kernel_rfl
def sum29_a29 : List V := [(.int .i64 (.lit (30)))]
def sum29_r29 : R Leaf := (.ok { v := (.int .u32 (.lit (51))), objs := [], n := 7 })
theorem sum29_29 : leafOf LStart 7 ((ev cx22 4000).call 29 sum29_a29 (stG LStart 7)) = sum29_r29 := by kernel_rfl
def sum29_a30 : List V := [(.int .i64 (.lit (31)))]
def sum29_r30 : R Leaf := (.ok { v := (.int .u32 (.lit (51))), objs := [], n := 7 })
theorem sum29_30 : leafOf LStart 7 ((ev cx22 4000).call 29 sum29_a30 (stG LStart 7)) = sum29_r30 := by kernel_rfl
def sum29_a31 : List V := [(.int .i64 (.lit (32)))]
def sum29_r31 : R Leaf := (.ok { v := (.int .u32 (.lit (51))), objs := [], n := 7 })
theorem sum29_31 : leafOf LStart 7 ((ev cx22 4000).call 29 sum29_a31 (stG LStart 7)) = sum29_r31 := by kernel_rfl
def sum29_a32 : List V := [(.int .i64 (.lit (33)))]
def sum29_r32 : R Leaf := (.ok { v := (.int .u32 (.lit (51))), objs := [], n := 7 })
theorem sum29_32 : leafOf LStart 7 ((ev cx22 4000).call 29 sum29_a32 (stG LStart 7)) = sum29_r32 := by kernel_rfl
def sum29_a33 : List V := [(.int .i64 (.lit (34)))]
def sum29_r33 : R Leaf := (.ok { v := (.int .u32 (.lit (51))), objs := [], n := 7 })
theorem sum29_33 : leafOf LStart 7 ((ev cx22 4000).call 29 sum29_a33 (stG LStart 7)) = sum29_r33 := by kernel_rfl
def sum29_a34 : List V := [(.int .i64 (.lit (35)))]
def sum29_r34 : R Leaf := (.ok { v := (.int .u32 (.lit (51))), objs := [], n := 7 })
theorem sum29_34 : leafOf LStart 7 ((ev cx22 4000).call 29 sum29_a34 (stG LStart 7)) = sum29_r34 := by kernel_rfl
def sum29_a35 : List V := [(.int .i64 (.lit (36)))]
def sum29_r35 : R Leaf := (.ok { v := (.int .u32 (.lit (51))), objs := [], n := 7 })
theorem sum29_35 : leafOf LStart 7 ((ev cx22 4000).call 29 sum29_a35 (stG LStart 7)) = sum29_r35 := by kernel_rfl
def sum29_a36 : List V := [(.int .i64 (.lit (37)))]
def sum29_r36 : R Leaf := (.ok { v := (.int .u32 (.lit (51))), objs := [], n := 7 })
theorem sum29_36 : leafOf LStart 7 ((ev cx22 4000).call 29 sum29_a36 (stG LStart 7)) = sum29_r36 := by kernel_rfl
def sum29_a37 : List V := [(.int .i64 (.lit (38)))]
def sum29_r37 : R Leaf := (.ok { v := (.int .u32 (.lit (15))), objs := [], n := 7 })
theorem sum29_37 : leafOf LStart 7 ((ev cx22 4000).call 29 sum29_a37 (stG LStart 7)) = sum29_r37 := by kernel_rfl
def sum29_a38 : List V := [(.int .i64 (.lit (39)))]
def sum29_r38 : R Leaf := (.ok { v := (.int .u32 (.lit (115))), objs := [], n := 7 })
theorem sum29_38 : leafOf LStart 7 ((ev cx22 4000).call 29 sum29_a38 (stG LStart 7)) = sum29_r38 := by kernel_rfl
def sum29_a39 : List V := [(.int .i64 (.lit (40)))]
def sum29_r39 : R Leaf := (.ok { v := (.int .u32 (.lit (51))), objs := [], n := 7 })
theorem sum29_39 : leafOf LStart 7 ((ev cx22 4000).call 29 sum29_a39 (stG LStart 7)) = sum29_r39 := by kernel_rfl
def sum29_a40 : List V := [(.int .i64 (.lit (41)))]
def sum29_r40 : R Leaf := (.ok { v := (.int .u32 (.lit (51))), objs := [], n := 7 })
theorem sum29_40 : leafOf LStart 7 ((ev cx22 4000).call 29 sum29_a40 (stG LStart 7)) = sum29_r40 := by kernel_rfl
def sum29_a41 : List V := [(.int .i64 (.lit (42)))]
def sum29_r41 : R Leaf := (.ok { v := (.int .u32 (.lit (51))), objs := [], n := 7 })
theorem sum29_41 : leafOf LStart 7 ((ev cx22 4000).call 29 sum29_a41 (stG LStart 7)) = sum29_r41 := by kernel_rfl
def sum29_a42 : List V := [(.int .i64 (.lit (43)))]
def sum29_r42 : R Leaf := (.ok { v := (.int .u32 (.lit (51))), objs := [], n := 7 })
theorem sum29_42 : leafOf LStart 7 ((ev cx22 4000).call 29 sum29_a42 (stG LStart 7)) = sum29_r42 := by kernel_rfl
def sum29_a43 : List V := [(.int .i64 (.lit (44)))]
def sum29_r43 : R Leaf := (.ok { v := (.int .u32 (.lit (51))), objs := [], n := 7 })
theorem sum29_43 : leafOf LStart 7 ((ev cx22 4000).call 29 sum29_a43 (stG LStart 7)) = sum29_r43 := by kernel_rfl
def sum29_a44 : List V := [(.int .i64 (.lit (45)))]
def sum29_r44 : R Leaf := (.ok { v := (.int .u32 (.lit (51))), objs := [], n := 7 })
theorem sum29_44 : leafOf LStart 7 ((ev cx22 4000).call 29 sum29_a44 (stG LStart 7)) = sum29_r44 := by kernel_rfl
def sum29_a45 : List V := [(.int .i64 (.lit (46)))]
def sum29_r45 : R Leaf := (.ok { v := (.int .u32 (.lit (51))), objs := [], n := 7 })
theorem sum29_45 : leafOf LStart 7 ((ev cx22 4000).call 29 sum29_a45 (stG LStart 7)) = sum29_r45 := by kernel_rfl
def sum29_a46 : List V := [(.int .i64 (.lit (47)))]
def sum29_r46 : R Leaf := (.ok { v := (.int .u32 (.lit (51))), objs := [], n := 7 })
theorem sum29_46 : leafOf LStart 7 ((ev cx22 4000).call 29 sum29_a46 (stG LStart 7)) = sum29_r46 := by kernel_rfl
def sum29_a47 : List V := [(.int .i64 (.lit (48)))]
def sum29_r47 : R Leaf := (.ok { v := (.int .u32 (.lit (47))), objs := [], n := 7 })
theorem sum29_47 : leafOf LStart 7 ((ev cx22 4000).call 29 sum29_a47 (stG LStart 7)) = sum29_r47 := by kernel_rfl
def sum29_a48 : List V := [(.int .i64 (.lit (49)))]
def sum29_r48 : R Leaf := (.ok { v := (.int .u32 (.lit (47))), objs := [], n := 7 })
theorem sum29_48 : leafOf LStart 7 ((ev cx22 4000).call 29 sum29_a48 (stG LStart 7)) = sum29_r48 := by kernel_rfl
def sum29_a49 : List V := [(.int .i64 (.lit (50)))]
def sum29_r49 : R Leaf := (.ok { v := (.int .u32 (.lit (47))), objs := [], n := 7 })
theorem sum29_49 : leafOf LStart 7 ((ev cx22 4000).call 29 sum29_a49 (stG LStart 7)) = sum29_r49 := by kernel_rfl
def sum29_a50 : List V := [(.int .i64 (.lit (51)))]
def sum29_r50 : R Leaf := (.ok { v := (.int .u32 (.lit (47))), objs := [], n := 7 })
theorem sum29_50 : leafOf LStart 7 ((ev cx22 4000).call 29 sum29_a50 (stG LStart 7)) = sum29_r50 := by kernel_rfl
def sum29_a51 : List V := [(.int .i64 (.lit (52)))]
def sum29_r51 : R Leaf := (.ok { v := (.int .u32 (.lit (47))), objs := [], n := 7 })
theorem sum29_51 : leafOf LStart 7 ((ev cx22 4000).call 29 sum29_a51 (stG LStart 7)) = sum29_r51 := by kernel_rfl
def sum29_a52 : List V := [(.int .i64 (.lit (53)))]
def sum29_r52 : R Leaf := (.ok { v := (.int .u32 (.lit (47))), objs := [], n := 7 })
theorem sum29_52 : leafOf LStart 7 ((ev cx22 4000).call 29 sum29_a52 (stG LStart 7)) = sum29_r52 := by kernel_rfl
def sum29_a53 : List V := [(.int .i64 (.lit (54)))]
def sum29_r53 : R Leaf := (.ok { v := (.int .u32 (.lit (47))), objs := [], n := 7 })
theorem sum29_53 : leafOf LStart 7 ((ev cx22 4000).call 29 sum29_a53 (stG LStart 7)) = sum29_r53 := by kernel_rfl
def sum29_a54 : List V := [(.int .i64 (.lit (55)))]
def sum29_r54 : R Leaf := (.ok { v := (.int .u32 (.lit (47))), objs := [], n := 7 })
theorem sum29_54 : leafOf LStart 7 ((ev cx22 4000).call 29 sum29_a54 (stG LStart 7)) = sum29_r54 := by kernel_rfl
def sum29_a55 : List V := [(.int .i64 (.lit (56)))]
def sum29_r55 : R Leaf := (.ok { v := (.int .u32 (.lit (47))), objs := [], n := 7 })
theorem sum29_55 : leafOf LStart 7 ((ev cx22 4000).call 29 sum29_a55 (stG LStart 7)) = sum29_r55 := by kernel_rfl
def sum29_a56 : List V := [(.int .i64 (.lit (57)))]
def sum29_r56 : R Leaf := (.ok { v := (.int .u32 (.lit (47))), objs := [], n := 7 })
theorem sum29_56 : leafOf LStart 7 ((ev cx22 4000).call 29 sum29_a56 (stG LStart 7)) = sum29_r56 := by kernel_rfl
def sum29_a57 : List V := [(.int .i64 (.lit (58)))]
def sum29_r57 : R Leaf := (.ok { v := (.int .u32 (.lit (47))), objs := [], n := 7 })
theorem sum29_57 : leafOf LStart 7 ((ev cx22 4000).call 29 sum29_a57 (stG LStart 7)) = sum29_r57 := by kernel_rfl
def sum29_a58 : List V := [(.int .i64 (.lit (59)))]
def sum29_r58 : R Leaf := (.ok { v := (.int .u32 (.lit (115))), objs := [], n := 7 })
theorem sum29_58 : leafOf LStart 7 ((ev cx22 4000).call 29 sum29_a58 (stG LStart 7)) = sum29_r58 := by kernel_rfl
def sum29 : List (List V × R Leaf) := [(sum29_a0, sum29_r0), (sum29_a1, sum29_r1), (sum29_a2, sum29_r2), (sum29_a3, sum29_r3), (sum29_a4, sum29_r4), (sum29_a5, sum29_r5), (sum29_a6, sum29_r6), (sum29_a7, sum29_r7), (sum29_a8, sum29_r8), (sum29_a9, sum29_r9), (sum29_a10, sum29_r10), (sum29_a11, sum29_r11), (sum29_a12, sum29_r12), (sum29_a13, sum29_r13), (sum29_a14, sum29_r14), (sum29_a15, sum29_r15), (sum29_a16, sum29_r16), (sum29_a17, sum29_r17), (sum29_a18, sum29_r18), (sum29_a19, sum29_r19), (sum29_a20, sum29_r20), (sum29_a21, sum29_r21), (sum29_a22, sum29_r22), (sum29_a23, sum29_r23), (sum29_a24, sum29_r24), (sum29_a25, sum29_r25), (sum29_a26, sum29_r26), (sum29_a27, sum29_r27), (sum29_a28, sum29_r28), (sum29_a29, sum29_r29), (sum29_a30, sum29_r30), (sum29_a31, sum29_r31), (sum29_a32, sum29_r32), (sum29_a33, sum29_r33), (sum29_a34, sum29_r34), (sum29_a35, sum29_r35), (sum29_a36, sum29_r36), (sum29_a37, sum29_r37), (sum29_a38, sum29_r38), (sum29_a39, sum29_r39), (sum29_a40, sum29_r40), (sum29_a41, sum29_r41), (sum29_a42, sum29_r42), (sum29_a43, sum29_r43), (sum29_a44, sum29_r44), (sum29_a45, sum29_r45), (sum29_a46, sum29_r46), (sum29_a47, sum29_r47), (sum29_a48, sum29_r48), (sum29_a49, sum29_r49), (sum29_a50, sum29_r50), (sum29_a51, sum29_r51), (sum29_a52, sum29_r52), (sum29_a53, sum29_r53), (sum29_a54, sum29_r54), (sum29_a55, sum29_r55), (sum29_a56, sum29_r56), (sum29_a57, sum29_r57), (sum29_a58, sum29_r58)]
theorem sum29_ok : TabOk cx22 LStart 7 4000 29 sum29 := .cons rfl sum29_0 <| .cons rfl sum29_1 <| .cons rfl sum29_2 <| .cons rfl sum29_3 <| .cons rfl sum29_4 <| .cons rfl sum29_5 <| .cons rfl sum29_6 <| .cons rfl sum29_7 <| .cons rfl sum29_8 <| .cons rfl sum29_9 <| .cons rfl sum29_10 <| .cons rfl sum29_11 <| .cons rfl sum29_12 <| .cons rfl sum29_13 <| .cons rfl sum29_14 <| .cons rfl sum29_15 <| .cons rfl sum29_16 <| .cons rfl sum29_17 <| .cons rfl sum29_18 <| .cons rfl sum29_19 <| .cons rfl sum29_20 <| .cons rfl sum29_21 <| .cons rfl sum29_22 <| .cons rfl sum29_23 <| .cons rfl sum29_24 <| .cons rfl sum29_25 <| .cons rfl sum29_26 <| .cons rfl sum29_27 <| .cons rfl sum29_28 <| .cons rfl sum29_29 <| .cons rfl sum29_30 <| .cons rfl sum29_31 <| .cons rfl sum29_32 <| .cons rfl sum29_33 <| .cons rfl sum29_34 <| .cons rfl sum29_35 <| .cons rfl sum29_36 <| .cons rfl sum29_37 <| .cons rfl sum29_38 <| .cons rfl sum29_39 <| .cons rfl sum29_40 <| .cons rfl sum29_41 <| .cons rfl sum29_42 <| .cons rfl sum29_43 <| .cons rfl sum29_44 <| .cons rfl sum29_45 <| .cons rfl sum29_46 <| .cons rfl sum29_47 <| .cons rfl sum29_48 <| .cons rfl sum29_49 <| .cons rfl sum29_50 <| .cons rfl sum29_51 <| .cons rfl sum29_52 <| .cons rfl sum29_53 <| .cons rfl sum29_54 <| .cons rfl sum29_55 <| .cons rfl sum29_56 <| .cons rfl sum29_57 <| .cons rfl sum29_58 <| .nil
noncomputable def cx29 : Cx := { cx with sm := smOf [(29, sumTab LStart 7 sum29), (22, sumTab LStart 7 sum22), (25, sumTab LStart 7 sum25), (13, sumTab LStart 7 sum13), (39, sumTab LStart 7 sum39)] }
def sum30_a0 : List V := [(.int .i64 (.lit (1)))]
def sum30_r0 : R Leaf := (.ok { v := (.int .u32 (.lit (0))), objs := [], n := 8 })
theorem sum30_0 : leafOf LStart 7 ((ev cx29 4000).call 30 sum30_a0 (stG LStart 7)) = sum30_r0 := by kernel_rfl
def sum30_a1 : List V := [(.int .i64 (.lit (2)))]
def sum30_r1 : R Leaf := (.ok { v := (.int .u32 (.lit (0))), objs := [], n := 8 })
theorem sum30_1 : leafOf LStart 7 ((ev cx29 4000).call 30 sum30_a1 (stG LStart 7)) = sum30_r1 := by kernel_rfl
def sum30_a2 : List V := [(.int .i64 (.lit (3)))]
def sum30_r2 : R Leaf := (.ok { v := (.int .u32 (.lit (0))), objs := [], n := 8 })
theorem sum30_2 : leafOf LStart 7 ((ev cx29 4000).call 30 sum30_a2 (stG LStart 7)) = sum30_r2 := by kernel_rfl
def sum30_a3 : List V := [(.int .i64 (.lit (4)))]
def sum30_r3 : R Leaf := (.ok { v := (.int .u32 (.lit (0))), objs := [], n := 8 })
theorem sum30_3 : leafOf LStart 7 ((ev cx29 4000).call 30 sum30_a3 (stG LStart 7)) = sum30_r3 := by kernel_rfl
def sum30_a4 : List V := [(.int .i64 (.lit (5)))]
def sum30_r4 : R Leaf := (.ok { v := (.int .u32 (.lit (0))), objs := [], n := 8 })
theorem sum30_4 : leafOf LStart 7 ((ev cx29 4000).call 30 sum30_a4 (stG LStart 7)) = sum30_r4 := by kernel_rfl
def sum30_a5 : List V := [(.int .i64 (.lit (6)))]
def sum30_r5 : R Leaf := (.ok { v := (.int .u32 (.lit (1))), objs := [], n := 8 })
theorem sum30_5 : leafOf LStart 7 ((ev cx29 4000).call 30 sum30_a5 (stG LStart 7)) = sum30_r5 := by kernel_rfl
def sum30_a6 : List V := [(.int .i64 (.lit (7)))]
def sum30_r6 : R Leaf := (.ok { v := (.int .u32 (.lit (4))), objs := [], n := 8 })
theorem sum30_6 : leafOf LStart 7 ((ev cx29 4000).call 30 sum30_a6 (stG LStart 7)) = sum30_r6 := by kernel_rfl
def sum30_a7 : List V := [(.int .i64 (.lit (8)))]
def sum30_r7 : R Leaf := (.ok { v := (.int .u32 (.lit (5))), objs := [], n := 8 })
theorem sum30_7 : leafOf LStart 7 ((ev cx29 4000).call 30 sum30_a7 (stG LStart 7)) = sum30_r7 := by kernel_rfl
def sum30_a8 : List V := [(.int .i64 (.lit (9)))]
def sum30_r8 : R Leaf := (.ok { v := (.int .u32 (.lit (6))), objs := [], n := 8 })
theorem sum30_8 : leafOf LStart 7 ((ev cx29 4000).call 30 sum30_a8 (stG LStart 7)) = sum30_r8 := by kernel_rfl
def sum30_a9 : List V := [(.int .i64 (.lit (10)))]
def sum30_r9 : R Leaf := (.ok { v := (.int .u32 (.lit (7))), objs := [], n := 8 })
theorem sum30_9 : leafOf LStart 7 ((ev cx29 4000).call 30 sum30_a9 (stG LStart 7)) = sum30_r9 := by kernel_rfl
def sum30_a10 : List V := [(.int .i64 (.lit (11)))]
def sum30_r10 : R Leaf := (.ok { v := (.int .u32 (.lit (0))), objs := [], n := 8 })
theorem sum30_10 : leafOf LStart 7 ((ev cx29 4000).call 30 sum30_a10 (stG LStart 7)) = sum30_r10 := by kernel_rfl
def sum30_a11 : List V := [(.int .i64 (.lit (12)))]
def sum30_r11 : R Leaf := (.ok { v := (.int .u32 (.lit (1))), objs := [], n := 8 })
theorem sum30_11 : leafOf LStart 7 ((ev cx29 4000).call 30 sum30_a11 (stG LStart 7)) = sum30_r11 := by kernel_rfl
def sum30_a12 : List V := [(.int .i64 (.lit (13)))]
def sum30_r12 : R Leaf := (.ok { v := (.int .u32 (.lit (2))), objs := [], n := 8 })
theorem sum30_12 : leafOf LStart 7 ((ev cx29 4000).call 30 sum30_a12 (stG LStart 7)) = sum30_r12 := by kernel_rfl
def sum30_a13 : List V := [(.int .i64 (.lit (14)))]
def sum30_r13 : R Leaf := (.ok { v := (.int .u32 (.lit (4))), objs := [], n := 8 })
theorem sum30_13 : leafOf LStart 7 ((ev cx29 4000).call 30 sum30_a13 (stG LStart 7)) = sum30_r13 := by kernel_rfl
def sum30_a14 : List V := [(.int .i64 (.lit (15)))]
def sum30_r14 : R Leaf := (.ok { v := (.int .u32 (.lit (5))), objs := [], n := 8 })
theorem sum30_14 : leafOf LStart 7 ((ev cx29 4000).call 30 sum30_a14 (stG LStart 7)) = sum30_r14 := by kernel_rfl
def sum30_a15 : List V := [(.int .i64 (.lit (16)))]
def sum30_r15 : R Leaf := (.ok { v := (.int .u32 (.lit (0))), objs := [], n := 8 })
theorem sum30_15 : leafOf LStart 7 ((ev cx29 4000).call 30 sum30_a15 (stG LStart 7)) = sum30_r15 := by kernel_rfl
def sum30_a16 : List V := [(.int .i64 (.lit (17)))]
def sum30_r16 : R Leaf := (.ok { v := (.int .u32 (.lit (1))), objs := [], n := 8 })
theorem sum30_16 : leafOf LStart 7 ((ev cx29 4000).call 30 sum30_a16 (stG LStart 7)) = sum30_r16 := by kernel_rfl
def sum30_a17 : List V := [(.int .i64 (.lit (18)))]
def sum30_r17 : R Leaf := (.ok { v := (.int .u32 (.lit (2))), objs := [], n := 8 })
theorem sum30_17 : leafOf LStart 7 ((ev cx29 4000).call 30 sum30_a17 (stG LStart 7)) = sum30_r17 := by kernel_rfl
def sum30_a18 : List V := [(.int .i64 (.lit (19)))]
def sum30_r18 : R Leaf := (.ok { v := (.int .u32 (.lit (0))), objs := [], n := 8 })
theorem sum30_18 : leafOf LStart 7 ((ev cx29 4000).call 30 sum30_a18 (stG LStart 7)) = sum30_r18 := by kernel_rfl
def sum30_a19 : List V := [(.int .i64 (.lit (20)))]
def sum30_r19 : R Leaf := (.ok { v := (.int .u32 (.lit (2))), objs := [], n := 8 })
theorem sum30_19 : leafOf LStart 7 ((ev cx29 4000).call 30 sum30_a19 (stG LStart 7)) = sum30_r19 := by kernel_rfl
def sum30_a20 : List V := [(.int .i64 (.lit (21)))]
def sum30_r20 : R Leaf := (.ok { v := (.int .u32 (.lit (3))), objs := [], n := 8 })
theorem sum30_20 : leafOf LStart 7 ((ev cx29 4000).call 30 sum30_a20 (stG LStart 7)) = sum30_r20 := by kernel_rfl
def sum30_a21 : List V := [(.int .i64 (.lit (22)))]
def sum30_r21 : R Leaf := (.ok { v := (.int .u32 (.lit (4))), objs := [], n := 8 })
theorem sum30_21 : leafOf LStart 7 ((ev cx29 4000).call 30 sum30_a21 (stG LStart 7)) = sum30_r21 := by kernel_rfl
def sum30_a22 : List V := [(.int .i64 (.lit (23)))]
def sum30_r22 : R Leaf := (.ok { v := (.int .u32 (.lit (6))), objs := [], n := 8 })
theorem sum30_22 : leafOf LStart 7 ((ev cx29 4000).call 30 sum30_a22 (stG LStart 7)) = sum30_r22 := by kernel_rfl
def sum30_a23 : List V := [(.int .i64 (.lit (24)))]
def sum30_r23 : R Leaf := (.ok { v := (.int .u32 (.lit (7))), objs := [], n := 8 })
theorem sum30_23 : leafOf LStart 7 ((ev cx29 4000).call 30 sum30_a23 (stG LStart 7)) = sum30_r23 := by kernel_rfl
def sum30_a24 : List V := [(.int .i64 (.lit (25)))]
def sum30_r24 : R Leaf := (.ok { v := (.int .u32 (.lit (1))), objs := [], n := 8 })
theorem sum30_24 : leafOf LStart 7 ((ev cx29 4000).call 30 sum30_a24 (stG LStart 7)) = sum30_r24 := by kernel_rfl
def sum30_a25 : List V := [(.int .i64 (.lit (26)))]
def sum30_r25 : R Leaf := (.ok { v := (.int .u32 (.lit (5))), objs := [], n := 8 })
theorem sum30_25 : leafOf LStart 7 ((ev cx29 4000).call 30 sum30_a25 (stG LStart 7)) = sum30_r25 := by kernel_rfl
def sum30_a26 : List V := [(.int .i64 (.lit (27)))]
def sum30_r26 : R Leaf := (.ok { v := (.int .u32 (.lit (5))), objs := [], n := 8 })
theorem sum30_26 : leafOf LStart 7 ((ev cx29 4000).call 30 sum30_a26 (stG LStart 7)) = sum30_r26 := by kernel_rfl
def sum30_a27 : List V := [(.int .i64 (.lit (28)))]
def sum30_r27 : R Leaf := (.ok { v := (.int .u32 (.lit (0))), objs := [], n := 8 })
theorem sum30_27 : leafOf LStart 7 ((ev cx29 4000).call 30 sum30_a27 (stG LStart 7)) = sum30_r27 := by kernel_rfl
def sum30_a28 : List V := [(.int .i64 (.lit (29)))]
def sum30_r28 : R Leaf := (.ok { v := (.int .u32 (.lit (0))), objs := [], n := 8 })
theorem sum30_28 : leafOf LStart 7 ((ev cx29 4000).call 30 sum30_a28 (stG LStart 7)) = sum30_r28 := by kernel_rfl
def sum30_a29 : List V := [(.int .i64 (.lit (30)))]
def sum30_r29 : R Leaf := (.ok { v := (.int .u32 (.lit (1))), objs := [], n := 8 })
theorem sum30_29 : leafOf LStart 7 ((ev cx29 4000).call 30 sum30_a29 (stG LStart 7)) = sum30_r29 := by kernel_rfl
def sum30_a30 : List V := [(.int .i64 (.lit (31)))]
def sum30_r30 : R Leaf := (.ok { v := (.int .u32 (.lit (2))), objs := [], n := 8 })
theorem sum30_30 : leafOf LStart 7 ((ev cx29 4000).call 30 sum30_a30 (stG LStart 7)) = sum30_r30 := by kernel_rfl
def sum30_a31 : List V := [(.int .i64 (.lit (32)))]
def sum30_r31 : R Leaf := (.ok { v := (.int .u32 (.lit (3))), objs := [], n := 8 })
theorem sum30_31 : leafOf LStart 7 ((ev cx29 4000).call 30 sum30_a31 (stG LStart 7)) = sum30_r31 := by kernel_rfl
def sum30_a32 : List V := [(.int .i64 (.lit (33)))]
def sum30_r32 : R Leaf := (.ok { v := (.int .u32 (.lit (4))), objs := [], n := 8 })
theorem sum30_32 : leafOf LStart 7 ((ev cx29 4000).call 30 sum30_a32 (stG LStart 7)) = sum30_r32 := by kernel_rfl
def sum30_a33 : List V := [(.int .i64 (.lit (34)))]
def sum30_r33 : R Leaf := (.ok { v := (.int .u32 (.lit (5))), objs := [], n := 8 })
theorem sum30_33 : leafOf LStart 7 ((ev cx29 4000).call 30 sum30_a33 (stG LStart 7)) = sum30_r33 := by kernel_rfl
def sum30_a34 : List V := [(.int .i64 (.lit (35)))]
def sum30_r34 : R Leaf := (.ok { v := (.int .u32 (.lit (5))), objs := [], n := 8 })
theorem sum30_34 : leafOf LStart 7 ((ev cx29 4000).call 30 sum30_a34 (stG LStart 7)) = sum30_r34 := by kernel_rfl
def sum30_a35 : List V := [(.int .i64 (.lit (36)))]
def sum30_r35 : R Leaf := (.ok { v := (.int .u32 (.lit (6))), objs := [], n := 8 })
theorem sum30_35 : leafOf LStart 7 ((ev cx29 4000).call 30 sum30_a35 (stG LStart 7)) = sum30_r35 := by kernel_rfl
def sum30_a36 : List V := [(.int .i64 (.lit (37)))]
def sum30_r36 : R Leaf := (.ok { v := (.int .u32 (.lit (7))), objs := [], n := 8 })
theorem sum30_36 : leafOf LStart 7 ((ev cx29 4000).call 30 sum30_a36 (stG LStart 7)) = sum30_r36 := by kernel_rfl
def sum30_a37 : List V := [(.int .i64 (.lit (38)))]
def sum30_r37 : R Leaf := (.ok { v := (.int .u32 (.lit (0))), objs := [], n := 8 })
theorem sum30_37 : leafOf LStart 7 ((ev cx29 4000).call 30 sum30_a37 (stG LStart 7)) = sum30_r37 := by kernel_rfl
def sum30_a38 : List V := [(.int .i64 (.lit (39)))]
def sum30_r38 : R Leaf := (.ok { v := (.int .u32 (.lit (0))), objs := [], n := 8 })
theorem sum30_38 : leafOf LStart 7 ((ev cx29 4000).call 30 sum30_a38 (stG LStart 7)) = sum30_r38 := by kernel_rfl
def sum30_a39 : List V := [(.int .i64 (.lit (40)))]
def sum30_r39 : R Leaf := (.ok { v := (.int .u32 (.lit (0))), objs := [], n := 8 })
theorem sum30_39 : leafOf LStart 7 ((ev cx29 4000).call 30 sum30_a39 (stG LStart 7)) = sum30_r39 := by kernel_rfl
def sum30_a40 : List V := [(.int .i64 (.lit (41)))]
def sum30_r40 : R Leaf := (.ok { v := (.int .u32 (.lit (1))), objs := [], n := 8 })
theorem sum30_40 : leafOf LStart 7 ((ev cx29 4000).call 30 sum30_a40 (stG LStart 7)) = sum30_r40 := by kernel_rfl
def sum30_a41 : List V := [(.int .i64 (.lit (42)))]
def sum30_r41 : R Leaf := (.ok { v := (.int .u32 (.lit (2))), objs := [], n := 8 })
theorem sum30_41 : leafOf LStart 7 ((ev cx29 4000).call 30 sum30_a41 (stG LStart 7)) = sum30_r41 := by kernel_rfl
def sum30_a42 : List V := [(.int .i64 (.lit (43)))]
def sum30_r42 : R Leaf := (.ok { v := (.int .u32 (.lit (3))), objs := [], n := 8 })
theorem sum30_42 : leafOf LStart 7 ((ev cx29 4000).call 30 sum30_a42 (stG LStart 7)) = sum30_r42 := by kernel_rfl
def sum30_a43 : List V := [(.int .i64 (.lit (44)))]
def sum30_r43 : R Leaf := (.ok { v := (.int .u32 (.lit (4))), objs := [], n := 8 })
theorem sum30_43 : leafOf LStart 7 ((ev cx29 4000).call 30 sum30_a43 (stG LStart 7)) = sum30_r43 := by kernel_rfl
def sum30_a44 : List V := [(.int .i64 (.lit (45)))]
def sum30_r44 : R Leaf := (.ok { v := (.int .u32 (.lit (5))), objs := [], n := 8 })
theorem sum30_44 : leafOf LStart 7 ((ev cx29 4000).call 30 sum30_a44 (stG LStart 7)) = sum30_r44 := by kernel_rfl
def sum30_a45 : List V := [(.int .i64 (.lit (46)))]
def sum30_r45 : R Leaf := (.ok { v := (.int .u32 (.lit (6))), objs := [], n := 8 })
theorem sum30_45 : leafOf LStart 7 ((ev cx29 4000).call 30 sum30_a45 (stG LStart 7)) = sum30_r45 := by kernel_rfl
def sum30_a46 : List V := [(.int .i64 (.lit (47)))]
def sum30_r46 : R Leaf := (.ok { v := (.int .u32 (.lit (7))), objs := [], n := 8 })
theorem sum30_46 : leafOf LStart 7 ((ev cx29 4000).call 30 sum30_a46 (stG LStart 7)) = sum30_r46 := by kernel_rfl
def sum30_a47 : List V := [(.int .i64 (.lit (48)))]
def sum30_r47 : R Leaf := (.ok { v := (.int .u32 (.lit (2))), objs := [], n := 8 })
theorem sum30_47 : leafOf LStart 7 ((ev cx29 4000).call 30 sum30_a47 (stG LStart 7)) = sum30_r47 := by kernel_rfl
def sum30_a48 : List V := [(.int .i64 (.lit (49)))]
def sum30_r48 : R Leaf := (.ok { v := (.int .u32 (.lit (2))), objs := [], n := 8 })
theorem sum30_48 : leafOf LStart 7 ((ev cx29 4000).call 30 sum30_a48 (stG LStart 7)) = sum30_r48 := by kernel_rfl
def sum30_a49 : List V := [(.int .i64 (.lit (50)))]
def sum30_r49 : R Leaf := (.ok { v := (.int .u32 (.lit (2))), objs := [], n := 8 })
theorem sum30_49 : leafOf LStart 7 ((ev cx29 4000).call 30 sum30_a49 (stG LStart 7)) = sum30_r49 := by kernel_rfl
def sum30_a50 : List V := [(.int .i64 (.lit (51)))]
def sum30_r50 : R Leaf := (.ok { v := (.int .u32 (.lit (2))), objs := [], n := 8 })
theorem sum30_50 : leafOf LStart 7 ((ev cx29 4000).call 30 sum30_a50 (stG LStart 7)) = sum30_r50 := by kernel_rfl
def sum30_a51 : List V := [(.int .i64 (.lit (52)))]
def sum30_r51 : R Leaf := (.ok { v := (.int .u32 (.lit (2))), objs := [], n := 8 })
theorem sum30_51 : leafOf LStart 7 ((ev cx29 4000).call 30 sum30_a51 (stG LStart 7)) = sum30_r51 := by kernel_rfl
def sum30_a52 : List V := [(.int .i64 (.lit (53)))]
def sum30_r52 : R Leaf := (.ok { v := (.int .u32 (.lit (2))), objs := [], n := 8 })
theorem sum30_52 : leafOf LStart 7 ((ev cx29 4000).call 30 sum30_a52 (stG LStart 7)) = sum30_r52 := by kernel_rfl
def sum30_a53 : List V := [(.int .i64 (.lit (54)))]
def sum30_r53 : R Leaf := (.ok { v := (.int .u32 (.lit (2))), objs := [], n := 8 })
theorem sum30_53 : leafOf LStart 7 ((ev cx29 4000).call 30 sum30_a53 (stG LStart 7)) = sum30_r53 := by kernel_rfl
def sum30_a54 : List V := [(.int .i64 (.lit (55)))]
def sum30_r54 : R Leaf := (.ok { v := (.int .u32 (.lit (2))), objs := [], n := 8 })
theorem sum30_54 : leafOf LStart 7 ((ev cx29 4000).call 30 sum30_a54 (stG LStart 7)) = sum30_r54 := by kernel_rfl
def sum30_a55 : List V := [(.int .i64 (.lit (56)))]
def sum30_r55 : R Leaf := (.ok { v := (.int .u32 (.lit (2))), objs := [], n := 8 })
theorem sum30_55 : leafOf LStart 7 ((ev cx29 4000).call 30 sum30_a55 (stG LStart 7)) = sum30_r55 := by kernel_rfl
def sum30_a56 : List V := [(.int .i64 (.lit (57)))]
def sum30_r56 : R Leaf := (.ok { v := (.int .u32 (.lit (2))), objs := [], n := 8 })
theorem sum30_56 : leafOf LStart 7 ((ev cx29 4000).call 30 sum30_a56 (stG LStart 7)) = sum30_r56 := by kernel_rfl
def sum30_a57 : List V := [(.int .i64 (.lit (58)))]
def sum30_r57 : R Leaf := (.ok { v := (.int .u32 (.lit (2))), objs := [], n := 8 })
theorem sum30_57 : leafOf LStart 7 ((ev cx29 4000).call 30 sum30_a57 (stG LStart 7)) = sum30_r57 := by kernel_rfl
def sum30_a58 : List V := [(.int .i64 (.lit (59)))]
def sum30_r58 : R Leaf := (.ok { v := (.int .u32 (.lit (2))), objs := [], n := 8 })
theorem sum30_58 : leafOf LStart 7 ((ev cx29 4000).call 30 sum30_a58 (stG LStart 7)) = sum30_r58 := by kernel_rfl
def sum30 : List (List V × R Leaf) := [(sum30_a0, sum30_r0), (sum30_a1, sum30_r1), (sum30_a2, sum30_r2), (sum30_a3, sum30_r3), (sum30_a4, sum30_r4), (sum30_a5, sum30_r5), (sum30_a6, sum30_r6), (sum30_a7, sum30_r7), (sum30_a8, sum30_r8), (sum30_a9, sum30_r9), (sum30_a10, sum30_r10), (sum30_a11, sum30_r11), (sum30_a12, sum30_r12), (sum30_a13, sum30_r13), (sum30_a14, sum30_r14), (sum30_a15, sum30_r15), (sum30_a16, sum30_r16), (sum30_a17, sum30_r17), (sum30_a18, sum30_r18), (sum30_a19, sum30_r19), (sum30_a20, sum30_r20), (sum30_a21, sum30_r21), (sum30_a22, sum30_r22), (sum30_a23, sum30_r23), (sum30_a24, sum30_r24), (sum30_a25, sum30_r25), (sum30_a26, sum30_r26), (sum30_a27, sum30_r27), (sum30_a28, sum30_r28), (sum30_a29, sum30_r29), (sum30_a30, sum30_r30), (sum30_a31, sum30_r31), (sum30_a32, sum30_r32), (sum30_a33, sum30_r33), (sum30_a34, sum30_r34), (sum30_a35, sum30_r35), (sum30_a36, sum30_r36), (sum30_a37, sum30_r37), (sum30_a38, sum30_r38), (sum30_a39, sum30_r39), (sum30_a40, sum30_r40), (sum30_a41, sum30_r41), (sum30_a42, sum30_r42), (sum30_a43, sum30_r43), (sum30_a44, sum30_r44), (sum30_a45, sum30_r45), (sum30_a46, sum30_r46), (sum30_a47, sum30_r47), (sum30_a48, sum30_r48), (sum30_a49, sum30_r49), (sum30_a50, sum30_r50), (sum30_a51, sum30_r51), (sum30_a52, sum30_r52), (sum30_a53, sum30_r53), (sum30_a54, sum30_r54), (sum30_a55, sum30_r55), (sum30_a56, sum30_r56), (sum30_a57, sum30_r57), (sum30_a58, sum30_r58)]
theorem sum30_ok : TabOk cx29 LStart 7 4000 30 sum30 := .cons rfl sum30_0 <| .cons rfl sum30_1 <| .cons rfl sum30_2 <| .cons rfl sum30_3 <| .cons rfl sum30_4 <| .cons rfl sum30_5 <| .cons rfl sum30_6 <| .cons rfl sum30_7 <| .cons rfl sum30_8 <| .cons rfl sum30_9 <| .cons rfl sum30_10 <| .cons rfl sum30_11 <| .cons rfl sum30_12 <| .cons rfl sum30_13 <| .cons rfl sum30_14 <| .cons rfl sum30_15 <| .cons rfl sum30_16 <| .cons rfl sum30_17 <| .cons rfl sum30_18 <| .cons rfl sum30_19 <| .cons rfl sum30_20 <| .cons rfl sum30_21 <| .cons rfl sum30_22 <| .cons rfl sum30_23 <| .cons rfl sum30_24 <| .cons rfl sum30_25 <| .cons rfl sum30_26 <| .cons rfl sum30_27 <| .cons rfl sum30_28 <| .cons rfl sum30_29 <| .cons rfl sum30_30 <| .cons rfl sum30_31 <| .cons rfl sum30_32 <| .cons rfl sum30_33 <| .cons rfl sum30_34 <| .cons rfl sum30_35 <| .cons rfl sum30_36 <| .cons rfl sum30_37 <| .cons rfl sum30_38 <| .cons rfl sum30_39 <| .cons rfl sum30_40 <| .cons rfl sum30_41 <| .cons rfl sum30_42 <| .cons rfl sum30_43 <| .cons rfl sum30_44 <| .cons rfl sum30_45 <| .cons rfl sum30_46 <| .cons rfl sum30_47 <| .cons rfl sum30_48 <| .cons rfl sum30_49 <| .cons rfl sum30_50 <| .cons rfl sum30_51 <| .cons rfl sum30_52 <| .cons rfl sum30_53 <| .cons rfl sum30_54 <| .cons rfl sum30_55 <| .cons rfl sum30_56 <| .cons rfl sum30_57 <| .cons rfl sum30_58 <| .nil
noncomputable def cx30 : Cx := { cx with sm := smOf [(30, sumTab LStart 7 sum30), (29, sumTab LStart 7 sum29), (22, sumTab LStart 7 sum22), (25, sumTab LStart 7 sum25), (13, sumTab LStart 7 sum13), (39, sumTab LStart 7 sum39)] }
def sum31_a0 : List V := [(.int .i64 (.lit (1)))]
def sum31_r0 : R Leaf := (.ok { v := (.int .u32 (.lit (0))), objs := [], n := 7 })
theorem sum31_0 : leafOf LStart 7 ((ev cx30 4000).call 31 sum31_a0 (stG LStart 7)) = sum31_r0 := by kernel_rfl
def sum31_a1 : List V := [(.int .i64 (.lit (2)))]
def sum31_r1 : R Leaf := (.ok { v := (.int .u32 (.lit (0))), objs := [], n := 7 })
theorem sum31_1 : leafOf LStart 7 ((ev cx30 4000).call 31 sum31_a1 (stG LStart 7)) = sum31_r1 := by kernel_rfl
def sum31_a2 : List V := [(.int .i64 (.lit (3)))]
def sum31_r2 : R Leaf := (.ok { v := (.int .u32 (.lit (0))), objs := [], n := 7 })
theorem sum31_2 : leafOf LStart 7 ((ev cx30 4000).call 31 sum31_a2 (stG LStart 7)) = sum31_r2 := by kernel_rfl
def sum31_a3 : List V := [(.int .i64 (.lit (4)))]
def sum31_r3 : R Leaf := (.ok { v := (.int .u32 (.lit (0))), objs := [], n := 7 })
theorem sum31_3 : leafOf LStart 7 ((ev cx30 4000).call 31 sum31_a3 (stG LStart 7)) = sum31_r3 := by kernel_rfl
def sum31_a4 : List V := [(.int .i64 (.lit (5)))]
def sum31_r4 : R Leaf := (.ok { v := (.int .u32 (.lit (0))), objs := [], n := 7 })
theorem sum31_4 : leafOf LStart 7 ((ev cx30 4000).call 31 sum31_a4 (stG LStart 7)) = sum31_r4 := by kernel_rfl
def sum31_a5 : List V := [(.int .i64 (.lit (6)))]
def sum31_r5 : R Leaf := (.ok { v := (.int .u32 (.lit (0))), objs := [], n := 7 })
theorem sum31_5 : leafOf LStart 7 ((ev cx30 4000).call 31 sum31_a5 (stG LStart 7)) = sum31_r5 := by kernel_rfl
def sum31_a6 : List V := [(.int .i64 (.lit (7)))]
def sum31_r6 : R Leaf := (.ok { v := (.int .u32 (.lit (0))), objs := [], n := 7 })
theorem sum31_6 : leafOf LStart 7 ((ev cx30 4000).call 31 sum31_a6 (stG LStart 7)) = sum31_r6 := by kernel_rfl
def sum31_a7 : List V := [(.int .i64 (.lit (8)))]
def sum31_r7 : R Leaf := (.ok { v := (.int .u32 (.lit (0))), objs := [], n := 7 })
theorem sum31_7 : leafOf LStart 7 ((ev cx30 4000).call 31 sum31_a7 (stG LStart 7)) = sum31_r7 := by kernel_rfl
def sum31_a8 : List V := [(.int .i64 (.lit (9)))]
def sum31_r8 : R Leaf := (.ok { v := (.int .u32 (.lit (0))), objs := [], n := 7 })
theorem sum31_8 : leafOf LStart 7 ((ev cx30 4000).call 31 sum31_a8 (stG LStart 7)) = sum31_r8 := by kernel_rfl
def sum31_a9 : List V := [(.int .i64 (.lit (10)))]
def sum31_r9 : R Leaf := (.ok { v := (.int .u32 (.lit (0))), objs := [], n := 7 })
theorem sum31_9 : leafOf LStart 7 ((ev cx30 4000).call 31 sum31_a9 (stG LStart 7)) = sum31_r9 := by kernel_rfl
def sum31_a10 : List V := [(.int .i64 (.lit (11)))]
def sum31_r10 : R Leaf := (.ok { v := (.int .u32 (.lit (0))), objs := [], n := 7 })
theorem sum31_10 : leafOf LStart 7 ((ev cx30 4000).call 31 sum31_a10 (stG LStart 7)) = sum31_r10 := by kernel_rfl
def sum31_a11 : List V := [(.int .i64 (.lit (12)))]
def sum31_r11 : R Leaf := (.ok { v := (.int .u32 (.lit (0))), objs := [], n := 7 })
theorem sum31_11 : leafOf LStart 7 ((ev cx30 4000).call 31 sum31_a11 (stG LStart 7)) = sum31_r11 := by kernel_rfl
def sum31_a12 : List V := [(.int .i64 (.lit (13)))]
def sum31_r12 : R Leaf := (.ok { v := (.int .u32 (.lit (0))), objs := [], n := 7 })
theorem sum31_12 : leafOf LStart 7 ((ev cx30 4000).call 31 sum31_a12 (stG LStart 7)) = sum31_r12 := by kernel_rfl
def sum31_a13 : List V := [(.int .i64 (.lit (14)))]
def sum31_r13 : R Leaf := (.ok { v := (.int .u32 (.lit (0))), objs := [], n := 7 })
theorem sum31_13 : leafOf LStart 7 ((ev cx30 4000).call 31 sum31_a13 (stG LStart 7)) = sum31_r13 := by kernel_rfl
def sum31_a14 : List V := [(.int .i64 (.lit (15)))]
def sum31_r14 : R Leaf := (.ok { v := (.int .u32 (.lit (0))), objs := [], n := 7 })
theorem sum31_14 : leafOf LStart 7 ((ev cx30 4000).call 31 sum31_a14 (stG LStart 7)) = sum31_r14 := by kernel_rfl
def sum31_a15 : List V := [(.int .i64 (.lit (16)))]
def sum31_r15 : R Leaf := (.ok { v := (.int .u32 (.lit (0))), objs := [], n := 7 })
theorem sum31_15 : leafOf LStart 7 ((ev cx30 4000).call 31 sum31_a15 (stG LStart 7)) = sum31_r15 := by kernel_rfl
def sum31_a16 : List V := [(.int .i64 (.lit (17)))]
def sum31_r16 : R Leaf := (.ok { v := (.int .u32 (.lit (0))), objs := [], n := 7 })
theorem sum31_16 : leafOf LStart 7 ((ev cx30 4000).call 31 sum31_a16 (stG LStart 7)) = sum31_r16 := by kernel_rfl
def sum31_a17 : List V := [(.int .i64 (.lit (18)))]
def sum31_r17 : R Leaf := (.ok { v := (.int .u32 (.lit (0))), objs := [], n := 7 })
theorem sum31_17 : leafOf LStart 7 ((ev cx30 4000).call 31 sum31_a17 (stG LStart 7)) = sum31_r17 := by kernel_rfl
def sum31_a18 : List V := [(.int .i64 (.lit (19)))]
def sum31_r18 : R Leaf := (.ok { v := (.int .u32 (.lit (0))), objs := [], n := 7 })
theorem sum31_18 : leafOf LStart 7 ((ev cx30 4000).call 31 sum31_a18 (stG LStart 7)) = sum31_r18 := by kernel_rfl
def sum31_a19 : List V := [(.int .i64 (.lit (20)))]
def sum31_r19 : R Leaf := (.ok { v := (.int .u32 (.lit (0))), objs := [], n := 7 })
theorem sum31_19 : leafOf LStart 7 ((ev cx30 4000).call 31 sum31_a19 (stG LStart 7)) = sum31_r19 := by kernel_rfl
def sum31_a20 : List V := [(.int .i64 (.lit (21)))]
def sum31_r20 : R Leaf := (.ok { v := (.int .u32 (.lit (0))), objs := [], n := 7 })
theorem sum31_20 : leafOf LStart 7 ((ev cx30 4000).call 31 sum31_a20 (stG LStart 7)) = sum31_r20 := by kernel_rfl
def sum31_a21 : List V := [(.int .i64 (.lit (22)))]
def sum31_r21 : R Leaf := (.ok { v := (.int .u32 (.lit (0))), objs := [], n := 7 })
theorem sum31_21 : leafOf LStart 7 ((ev cx30 4000).call 31 sum31_a21 (stG LStart 7)) = sum31_r21 := by kernel_rfl
def sum31_a22 : List V := [(.int .i64 (.lit (23)))]
def sum31_r22 : R Leaf := (.ok { v := (.int .u32 (.lit (0))), objs := [], n := 7 })
theorem sum31_22 : leafOf LStart 7 ((ev cx30 4000).call 31 sum31_a22 (stG LStart 7)) = sum31_r22 := by kernel_rfl
def sum31_a23 : List V := [(.int .i64 (.lit (24)))]
def sum31_r23 : R Leaf := (.ok { v := (.int .u32 (.lit (0))), objs := [], n := 7 })
theorem sum31_23 : leafOf LStart 7 ((ev cx30 4000).call 31 sum31_a23 (stG LStart 7)) = sum31_r23 := by kernel_rfl
def sum31_a24 : List V := [(.int .i64 (.lit (25)))]
def sum31_r24 : R Leaf := (.ok { v := (.int .u32 (.lit (0))), objs := [], n := 7 })
theorem sum31_24 : leafOf LStart 7 ((ev cx30 4000).call 31 sum31_a24 (stG LStart 7)) = sum31_r24 := by kernel_rfl
def sum31_a25 : List V := [(.int .i64 (.lit (26)))]
def sum31_r25 : R Leaf := (.ok { v := (.int .u32 (.lit (0))), objs := [], n := 7 })
theorem sum31_25 : leafOf LStart 7 ((ev cx30 4000).call 31 sum31_a25 (stG LStart 7)) = sum31_r25 := by kernel_rfl
def sum31_a26 : List V := [(.int .i64 (.lit (27)))]
def sum31_r26 : R Leaf := (.ok { v := (.int .u32 (.lit (32))), objs := [], n := 7 })
theorem sum31_26 : leafOf LStart 7 ((ev cx30 4000).call 31 sum31_a26 (stG LStart 7)) = sum31_r26 := by kernel_rfl
def sum31_a27 : List V := [(.int .i64 (.lit (28)))]
def sum31_r27 : R Leaf := (.ok { v := (.int .u32 (.lit (0))), objs := [], n := 7 })
theorem sum31_27 : leafOf LStart 7 ((ev cx30 4000).call 31 sum31_a27 (stG LStart 7)) = sum31_r27 := by kernel_rfl
def sum31_a28 : List V := [(.int .i64 (.lit (29)))]
def sum31_r28 : R Leaf := (.ok { v := (.int .u32 (.lit (32))), objs := [], n := 7 })
theorem sum31_28 : leafOf LStart 7 ((ev cx30 4000).call 31 sum31_a28 (stG LStart 7)) = sum31_r28 := by kernel_rfl
def sum31_a29 : List V := [(.int .i64 (.lit (30)))]
def sum31_r29 : R Leaf := (.ok { v := (.int .u32 (.lit (0))), objs := [], n := 7 })
theorem sum31_29 : leafOf LStart 7 ((ev cx30 4000).call 31 sum31_a29 (stG LStart 7)) = sum31_r29 := by kernel_rfl
def sum31_a30 : List V := [(.int .i64 (.lit (31)))]
def sum31_r30 : R Leaf := (.ok { v := (.int .u32 (.lit (0))), objs := [], n := 7 })
theorem sum31_30 : leafOf LStart 7 ((ev cx30 4000).call 31 sum31_a30 (stG LStart 7)) = sum31_r30 := by kernel_rfl
def sum31_a31 : List V := [(.int .i64 (.lit (32)))]
def sum31_r31 : R Leaf := (.ok { v := (.int .u32 (.lit (0))), objs := [], n := 7 })
theorem sum31_31 : leafOf LStart 7 ((ev cx30 4000).call 31 sum31_a31 (stG LStart 7)) = sum31_r31 := by kernel_rfl
def sum31_a32 : List V := [(.int .i64 (.lit (33)))]
def sum31_r32 : R Leaf := (.ok { v := (.int .u32 (.lit (0))), objs := [], n := 7 })
theorem sum31_32 : leafOf LStart 7 ((ev cx30 4000).call 31 sum31_a32 (stG LStart 7)) = sum31_r32 := by kernel_rfl
def sum31_a33 : List V := [(.int .i64 (.lit (34)))]
def sum31_r33 : R Leaf := (.ok { v := (.int .u32 (.lit (0))), objs := [], n := 7 })
theorem sum31_33 : leafOf LStart 7 ((ev cx30 4000).call 31 sum31_a33 (stG LStart 7)) = sum31_r33 := by kernel_rfl
def sum31_a34 : List V := [(.int .i64 (.lit (35)))]
def sum31_r34 : R Leaf := (.ok { v := (.int .u32 (.lit (32))), objs := [], n := 7 })
theorem sum31_34 : leafOf LStart 7 ((ev cx30 4000).call 31 sum31_a34 (stG LStart 7)) = sum31_r34 := by kernel_rfl
def sum31_a35 : List V := [(.int .i64 (.lit (36)))]
def sum31_r35 : R Leaf := (.ok { v := (.int .u32 (.lit (0))), objs := [], n := 7 })
theorem sum31_35 : leafOf LStart 7 ((ev cx30 4000).call 31 sum31_a35 (stG LStart 7)) = sum31_r35 := by kernel_rfl
def sum31_a36 : List V := [(.int .i64 (.lit (37)))]
def sum31_r36 : R Leaf := (.ok { v := (.int .u32 (.lit (0))), objs := [], n := 7 })
theorem sum31_36 : leafOf LStart 7 ((ev cx30 4000).call 31 sum31_a36 (stG LStart 7)) = sum31_r36 := by kernel_rfl
def sum31_a37 : List V := [(.int .i64 (.lit (38)))]
def sum31_r37 : R Leaf := (.ok { v := (.int .u32 (.lit (0))), objs := [], n := 7 })
theorem sum31_37 : leafOf LStart 7 ((ev cx30 4000).call 31 sum31_a37 (stG LStart 7)) = sum31_r37 := by kernel_rfl
def sum31_a38 : List V := [(.int .i64 (.lit (39)))]
def sum31_r38 : R Leaf := (.ok { v := (.int .u32 (.lit (0))), objs := [], n := 7 })
theorem sum31_38 : leafOf LStart 7 ((ev cx30 4000).call 31 sum31_a38 (stG LStart 7)) = sum31_r38 := by kernel_rfl
def sum31_a39 : List V := [(.int .i64 (.lit (40)))]
def sum31_r39 : R Leaf := (.ok { v := (.int .u32 (.lit (1))), objs := [], n := 7 })
theorem sum31_39 : leafOf LStart 7 ((ev cx30 4000).call 31 sum31_a39 (stG LStart 7)) = sum31_r39 := by kernel_rfl
def sum31_a40 : List V := [(.int .i64 (.lit (41)))]
def sum31_r40 : R Leaf := (.ok { v := (.int .u32 (.lit (1))), objs := [], n := 7 })
theorem sum31_40 : leafOf LStart 7 ((ev cx30 4000).call 31 sum31_a40 (stG LStart 7)) = sum31_r40 := by kernel_rfl
def sum31_a41 : List V := [(.int .i64 (.lit (42)))]
def sum31_r41 : R Leaf := (.ok { v := (.int .u32 (.lit (1))), objs := [], n := 7 })
theorem sum31_41 : leafOf LStart 7 ((ev cx30 4000).call 31 sum31_a41 (stG LStart 7)) = sum31_r41 := by kernel_rfl
def sum31_a42 : List V := [(.int .i64 (.lit (43)))]
def sum31_r42 : R Leaf := (.ok { v := (.int .u32 (.lit (1))), objs := [], n := 7 })
theorem sum31_42 : leafOf LStart 7 ((ev cx30 4000).call 31 sum31_a42 (stG LStart 7)) = sum31_r42 := by kernel_rfl
def sum31_a43 : List V := [(.int .i64 (.lit (44)))]
def sum31_r43 : R Leaf := (.ok { v := (.int .u32 (.lit (1))), objs := [], n := 7 })
theorem sum31_43 : leafOf LStart 7 ((ev cx30 4000).call 31 sum31_a43 (stG LStart 7)) = sum31_r43 := by kernel_rfl
def sum31_a44 : List V := [(.int .i64 (.lit (45)))]
def sum31_r44 : R Leaf := (.ok { v := (.int .u32 (.lit (1))), objs := [], n := 7 })
theorem sum31_44 : leafOf LStart 7 ((ev cx30 4000).call 31 sum31_a44 (stG LStart 7)) = sum31_r44 := by kernel_rfl
def sum31_a45 : List V := [(.int .i64 (.lit (46)))]
def sum31_r45 : R Leaf := (.ok { v := (.int .u32 (.lit (1))), objs := [], n := 7 })
theorem sum31_45 : leafOf LStart 7 ((ev cx30 4000).call 31 sum31_a45 (stG LStart 7)) = sum31_r45 := by kernel_rfl
def sum31_a46 : List V := [(.int .i64 (.lit (47)))]
def sum31_r46 : R Leaf := (.ok { v := (.int .u32 (.lit (1))), objs := [], n := 7 })
theorem sum31_46 : leafOf LStart 7 ((ev cx30 4000).call 31 sum31_a46 (stG LStart 7)) = sum31_r46 := by kernel_rfl
def sum31_a47 : List V := [(.int .i64 (.lit (48)))]
def sum31_r47 : R Leaf := (.ok { v := (.int .u32 (.lit (8))), objs := [], n := 8 })
theorem sum31_47 : leafOf LStart 7 ((ev cx30 4000).call 31 sum31_a47 (stG LStart 7)) = sum31_r47 := by kernel_rfl
def sum31_a48 : List V := [(.int .i64 (.lit (49)))]
def sum31_r48 : R Leaf := (.ok { v := (.int .u32 (.lit (12))), objs := [], n := 8 })
theorem sum31_48 : leafOf LStart 7 ((ev cx30 4000).call 31 sum31_a48 (stG LStart 7)) = sum31_r48 := by kernel_rfl
def sum31_a49 : List V := [(.int .i64 (.lit (50)))]
def sum31_r49 : R Leaf := (.ok { v := (.int .u32 (.lit (4))), objs := [], n := 8 })
theorem sum31_49 : leafOf LStart 7 ((ev cx30 4000).call 31 sum31_a49 (stG LStart 7)) = sum31_r49 := by kernel_rfl
def sum31_a50 : List V := [(.int .i64 (.lit (51)))]
def sum31_r50 : R Leaf := (.ok { v := (.int .u32 (.lit (0))), objs := [], n := 8 })
theorem sum31_50 : leafOf LStart 7 ((ev cx30 4000).call 31 sum31_a50 (stG LStart 7)) = sum31_r50 := by kernel_rfl
def sum31_a51 : List V := [(.int .i64 (.lit (52)))]
def sum31_r51 : R Leaf := (.ok { v := (.int .u32 (.lit (16))), objs := [], n := 8 })
theorem sum31_51 : leafOf LStart 7 ((ev cx30 4000).call 31 sum31_a51 (stG LStart 7)) = sum31_r51 := by kernel_rfl
def sum31_a52 : List V := [(.int .i64 (.lit (53)))]
def sum31_r52 : R Leaf := (.ok { v := (.int .u32 (.lit (48))), objs := [], n := 8 })
theorem sum31_52 : leafOf LStart 7 ((ev cx30 4000).call 31 sum31_a52 (stG LStart 7)) = sum31_r52 := by kernel_rfl
def sum31_a53 : List V := [(.int .i64 (.lit (54)))]
def sum31_r53 : R Leaf := (.ok { v := (.int .u32 (.lit (32))), objs := [], n := 8 })
theorem sum31_53 : leafOf LStart 7 ((ev cx30 4000).call 31 sum31_a53 (stG LStart 7)) = sum31_r53 := by kernel_rfl
def sum31_a54 : List V := [(.int .i64 (.lit (55)))]
def sum31_r54 : R Leaf := (.ok { v := (.int .u32 (.lit (64))), objs := [], n := 8 })
theorem sum31_54 : leafOf LStart 7 ((ev cx30 4000).call 31 sum31_a54 (stG LStart 7)) = sum31_r54 := by kernel_rfl
def sum31_a55 : List V := [(.int .i64 (.lit (56)))]
def sum31_r55 : R Leaf := (.ok { v := (.int .u32 (.lit (80))), objs := [], n := 8 })
theorem sum31_55 : leafOf LStart 7 ((ev cx30 4000).call 31 sum31_a55 (stG LStart 7)) = sum31_r55 := by kernel_rfl
def sum31_a56 : List V := [(.int .i64 (.lit (57)))]
def sum31_r56 : R Leaf := (.ok { v := (.int .u32 (.lit (96))), objs := [], n := 8 })
theorem sum31_56 : leafOf LStart 7 ((ev cx30 4000).call 31 sum31_a56 (stG LStart 7)) = sum31_r56 := by kernel_rfl
def sum31_a57 : List V := [(.int .i64 (.lit (58)))]
def sum31_r57 : R Leaf := (.ok { v := (.int .u32 (.lit (112))), objs := [], n := 8 })
theorem sum31_57 : leafOf LStart 7 ((ev cx30 4000).call 31 sum31_a57 (stG LStart 7)) = sum31_r57 := by kernel_rfl
def sum31_a58 : List V := [(.int .i64 (.lit (59)))]
def sum31_r58 : R Leaf := (.ok { v := (.int .u32 (.lit (0))), objs := [], n := 7 })
theorem sum31_58 : leafOf LStart 7 ((ev cx30 4000).call 31 sum31_a58 (stG LStart 7)) = sum31_r58 := by kernel_rfl
def sum31 : List (List V × R Leaf) := [(sum31_a0, sum31_r0), (sum31_a1, sum31_r1), (sum31_a2, sum31_r2), (sum31_a3, sum31_r3), (sum31_a4, sum31_r4), (sum31_a5, sum31_r5), (sum31_a6, sum31_r6), (sum31_a7, sum31_r7), (sum31_a8, sum31_r8), (sum31_a9, sum31_r9), (sum31_a10, sum31_r10), (sum31_a11, sum31_r11), (sum31_a12, sum31_r12), (sum31_a13, sum31_r13), (sum31_a14, sum31_r14), (sum31_a15, sum31_r15), (sum31_a16, sum31_r16), (sum31_a17, sum31_r17), (sum31_a18, sum31_r18), (sum31_a19, sum31_r19), (sum31_a20, sum31_r20), (sum31_a21, sum31_r21), (sum31_a22, sum31_r22), (sum31_a23, sum31_r23), (sum31_a24, sum31_r24), (sum31_a25, sum31_r25), (sum31_a26, sum31_r26), (sum31_a27, sum31_r27), (sum31_a28, sum31_r28), (sum31_a29, sum31_r29), (sum31_a30, sum31_r30), (sum31_a31, sum31_r31), (sum31_a32, sum31_r32), (sum31_a33, sum31_r33), (sum31_a34, sum31_r34), (sum31_a35, sum31_r35), (sum31_a36, sum31_r36), (sum31_a37, sum31_r37), (sum31_a38, sum31_r38), (sum31_a39, sum31_r39), (sum31_a40, sum31_r40), (sum31_a41, sum31_r41), (sum31_a42, sum31_r42), (sum31_a43, sum31_r43), (sum31_a44, sum31_r44), (sum31_a45, sum31_r45), (sum31_a46, sum31_r46), (sum31_a47, sum31_r47), (sum31_a48, sum31_r48), (sum31_a49, sum31_r49), (sum31_a50, sum31_r50), (sum31_a51, sum31_r51), (sum31_a52, sum31_r52), (sum31_a53, sum31_r53), (sum31_a54, sum31_r54), (sum31_a55, sum31_r55), (sum31_a56, sum31_r56), (sum31_a57, sum31_r57), (sum31_a58, sum31_r58)]
theorem sum31_ok : TabOk cx30 LStart 7 4000 31 sum31 := .cons rfl sum31_0 <| .cons rfl sum31_1 <| .cons rfl sum31_2 <| .cons rfl sum31_3 <| .cons rfl sum31_4 <| .cons rfl sum31_5 <| .cons rfl sum31_6 <| .cons rfl sum31_7 <| .cons rfl sum31_8 <| .cons rfl sum31_9 <| .cons rfl sum31_10 <| .cons rfl sum31_11 <| .cons rfl sum31_12 <| .cons rfl sum31_13 <| .cons rfl sum31_14 <| .cons rfl sum31_15 <| .cons rfl sum31_16 <| .cons rfl sum31_17 <| .cons rfl sum31_18 <| .cons rfl sum31_19 <| .cons rfl sum31_20 <| .cons rfl sum31_21 <| .cons rfl sum31_22 <| .cons rfl sum31_23 <| .cons rfl sum31_24 <| .cons rfl sum31_25 <| .cons rfl sum31_26 <| .cons rfl sum31_27 <| .cons rfl sum31_28 <| .cons rfl sum31_29 <| .cons rfl sum31_30 <| .cons rfl sum31_31 <| .cons rfl sum31_32 <| .cons rfl sum31_33 <| .cons rfl sum31_34 <| .cons rfl sum31_35 <| .cons rfl sum31_36 <| .cons rfl sum31_37 <| .cons rfl sum31_38 <| .cons rfl sum31_39 <| .cons rfl sum31_40 <| .cons rfl sum31_41 <| .cons rfl sum31_42 <| .cons rfl sum31_43 <| .cons rfl sum31_44 <| .cons rfl sum31_45 <| .cons rfl sum31_46 <| .cons rfl sum31_47 <| .cons rfl sum31_48 <| .cons rfl sum31_49 <| .cons rfl sum31_50 <| .cons rfl sum31_51 <| .cons rfl sum31_52 <| .cons rfl sum31_53 <| .cons rfl sum31_54 <| .cons rfl sum31_55 <| .cons rfl sum31_56 <| .cons rfl sum31_57 <| .cons rfl sum31_58 <| .nil
noncomputable def cx31 : Cx := { cx with sm := smOf [(31, sumTab LStart 7 sum31), (30, sumTab LStart 7 sum30), (29, sumTab LStart 7 sum29), (22, sumTab LStart 7 sum22), (25, sumTab LStart 7 sum25), (13, sumTab LStart 7 sum13), (39, sumTab LStart 7 sum39)] }
def sum23_a0 : List V := [(.int .u32 (.bv [.pos 0, .pos 1, .pos 2, .pos 3, .pos 4, .pos 5, .pos 6, .pos 7, .pos 8, .pos 9, .pos 10, .pos 11, .pos 12, .pos 13, .pos 14, .pos 15, .pos 16, .pos 17, .pos 18, .pos 19, .pos 20, .pos 21, .pos 22, .pos 23, .pos 24, .pos 25, .pos 26, .pos 27, .pos 28, .pos 29, .pos 30, .pos 31] (.zero))), (.int .i64 (.lit (11))), (.int .i64 (.lit (7)))]
def sum23_r0 : R Leaf := (.ok { v := (.int .u32 (.bv [.pos 7, .pos 8, .pos 9, .pos 10, .pos 11] (.zero))), objs := [], n := 7 })
theorem sum23_0 : leafOf LStart 7 ((ev cx31 4000).call 23 sum23_a0 (stG LStart 7)) = sum23_r0 := by kernel_rfl
def sum23_a1 : List V := [(.int .u32 (.bv [.pos 0, .pos 1, .pos 2, .pos 3, .pos 4, .pos 5, .pos 6, .pos 7, .pos 8, .pos 9, .pos 10, .pos 11, .pos 12, .pos 13, .pos 14, .pos 15, .pos 16, .pos 17, .pos 18, .pos 19, .pos 20, .pos 21, .pos 22, .pos 23, .pos 24, .pos 25, .pos 26, .pos 27, .pos 28, .pos 29, .pos 30, .pos 31] (.zero))), (.int .i64 (.lit (19))), (.int .i64 (.lit (15)))]
def sum23_r1 : R Leaf := (.ok { v := (.int .u32 (.bv [.pos 15, .pos 16, .pos 17, .pos 18, .pos 19] (.zero))), objs := [], n := 7 })
theorem sum23_1 : leafOf LStart 7 ((ev cx31 4000).call 23 sum23_a1 (stG LStart 7)) = sum23_r1 := by kernel_rfl
def sum23_a2 : List V := [(.int .u32 (.bv [.pos 0, .pos 1, .pos 2, .pos 3, .pos 4, .pos 5, .pos 6, .pos 7, .pos 8, .pos 9, .pos 10, .pos 11, .pos 12, .pos 13, .pos 14, .pos 15, .pos 16, .pos 17, .pos 18, .pos 19, .pos 20, .pos 21, .pos 22, .pos 23, .pos 24, .pos 25, .pos 26, .pos 27, .pos 28, .pos 29, .pos 30, .pos 31] (.zero))), (.int .i64 (.lit (24))), (.int .i64 (.lit (20)))]
def sum23_r2 : R Leaf := (.ok { v := (.int .u32 (.bv [.pos 20, .pos 21, .pos 22, .pos 23, .pos 24] (.zero))), objs := [], n := 7 })
theorem sum23_2 : leafOf LStart 7 ((ev cx31 4000).call 23 sum23_a2 (stG LStart 7)) = sum23_r2 := by kernel_rfl
def sum23_a3 : List V := [(.int .u32 (.bv [.pos 0, .pos 1, .pos 2, .pos 3, .pos 4, .pos 5, .pos 6, .pos 7, .pos 8, .pos 9, .pos 10, .pos 11, .pos 12, .pos 13, .pos 14, .pos 15, .pos 16, .pos 17, .pos 18, .pos 19, .pos 20, .pos 21, .pos 22, .pos 23, .pos 24, .pos 25, .pos 26, .pos 27, .pos 28, .pos 29, .pos 30, .pos 31] (.zero))), (.int .i64 (.lit (31))), (.int .i64 (.lit (31)))]
def sum23_r3 : R Leaf := (.ok { v := (.int .u32 (.bv [.pos 31] (.zero))), objs := [], n := 7 })
theorem sum23_3 : leafOf LStart 7 ((ev cx31 4000).call 23 sum23_a3 (stG LStart 7)) = sum23_r3 := by kernel_rfl
def sum23_a4 : List V := [(.int .u32 (.bv [.pos 0, .pos 1, .pos 2, .pos 3, .pos 4, .pos 5, .pos 6, .pos 7, .pos 8, .pos 9, .pos 10, .pos 11, .pos 12, .pos 13, .pos 14, .pos 15, .pos 16, .pos 17, .pos 18, .pos 19, .pos 20, .pos 21, .pos 22, .pos 23, .pos 24, .pos 25, .pos 26, .pos 27, .pos 28, .pos 29, .pos 30, .pos 31] (.zero))), (.int .i64 (.lit (19))), (.int .i64 (.lit (12)))]
def sum23_r4 : R Leaf := (.ok { v := (.int .u32 (.bv [.pos 12, .pos 13, .pos 14, .pos 15, .pos 16, .pos 17, .pos 18, .pos 19] (.zero))), objs := [], n := 7 })
theorem sum23_4 : leafOf LStart 7 ((ev cx31 4000).call 23 sum23_a4 (stG LStart 7)) = sum23_r4 := by kernel_rfl
def sum23_a5 : List V := [(.int .u32 (.bv [.pos 0, .pos 1, .pos 2, .pos 3, .pos 4, .pos 5, .pos 6, .pos 7, .pos 8, .pos 9, .pos 10, .pos 11, .pos 12, .pos 13, .pos 14, .pos 15, .pos 16, .pos 17, .pos 18, .pos 19, .pos 20, .pos 21, .pos 22, .pos 23, .pos 24, .pos 25, .pos 26, .pos 27, .pos 28, .pos 29, .pos 30, .pos 31] (.zero))), (.int .i64 (.lit (20))), (.int .i64 (.lit (20)))]
def sum23_r5 : R Leaf := (.ok { v := (.int .u32 (.bv [.pos 20] (.zero))), objs := [], n := 7 })
theorem sum23_5 : leafOf LStart 7 ((ev cx31 4000).call 23 sum23_a5 (stG LStart 7)) = sum23_r5 := by kernel_rfl
def sum23_a6 : List V := [(.int .u32 (.bv [.pos 0, .pos 1, .pos 2, .pos 3, .pos 4, .pos 5, .pos 6, .pos 7, .pos 8, .pos 9, .pos 10, .pos 11, .pos 12, .pos 13, .pos 14, .pos 15, .pos 16, .pos 17, .pos 18, .pos 19, .pos 20, .pos 21, .pos 22, .pos 23, .pos 24, .pos 25, .pos 26, .pos 27, .pos 28, .pos 29, .pos 30, .pos 31] (.zero))), (.int .i64 (.lit (30))), (.int .i64 (.lit (21)))]
def sum23_r6 : R Leaf := (.ok { v := (.int .u32 (.bv [.pos 21, .pos 22, .pos 23, .pos 24, .pos 25, .pos 26, .pos 27, .pos 28, .pos 29, .pos 30] (.zero))), objs := [], n := 7 })
theorem sum23_6 : leafOf LStart 7 ((ev cx31 4000).call 23 sum23_a6 (stG LStart 7)) = sum23_r6 := by kernel_rfl
def sum23_a7 : List V := [(.int .u32 (.bv [.pos 0, .pos 1, .pos 2, .pos 3, .pos 4, .pos 5, .pos 6, .pos 7, .pos 8, .pos 9, .pos 10, .pos 11, .pos 12, .pos 13, .pos 14, .pos 15, .pos 16, .pos 17, .pos 18, .pos 19, .pos 20, .pos 21, .pos 22, .pos 23, .pos 24, .pos 25, .pos 26, .pos 27, .pos 28, .pos 29, .pos 30, .pos 31] (.zero))), (.int .i64 (.lit (7))), (.int .i64 (.lit (7)))]
def sum23_r7 : R Leaf := (.ok { v := (.int .u32 (.bv [.pos 7] (.zero))), objs := [], n := 7 })
theorem sum23_7 : leafOf LStart 7 ((ev cx31 4000).call 23 sum23_a7 (stG LStart 7)) = sum23_r7 := by kernel_rfl
def sum23_a8 : List V := [(.int .u32 (.bv [.pos 0, .pos 1, .pos 2, .pos 3, .pos 4, .pos 5, .pos 6, .pos 7, .pos 8, .pos 9, .pos 10, .pos 11, .pos 12, .pos 13, .pos 14, .pos 15, .pos 16, .pos 17, .pos 18, .pos 19, .pos 20, .pos 21, .pos 22, .pos 23, .pos 24, .pos 25, .pos 26, .pos 27, .pos 28, .pos 29, .pos 30, .pos 31] (.zero))), (.int .i64 (.lit (30))), (.int .i64 (.lit (25)))]
def sum23_r8 : R Leaf := (.ok { v := (.int .u32 (.bv [.pos 25, .pos 26, .pos 27, .pos 28, .pos 29, .pos 30] (.zero))), objs := [], n := 7 })
theorem sum23_8 : leafOf LStart 7 ((ev cx31 4000).call 23 sum23_a8 (stG LStart 7)) = sum23_r8 := by kernel_rfl
def sum23_a9 : List V := [(.int .u32 (.bv [.pos 0, .pos 1, .pos 2, .pos 3, .pos 4, .pos 5, .pos 6, .pos 7, .pos 8, .pos 9, .pos 10, .pos 11, .pos 12, .pos 13, .pos 14, .pos 15, .pos 16, .pos 17, .pos 18, .pos 19, .pos 20, .pos 21, .pos 22, .pos 23, .pos 24, .pos 25, .pos 26, .pos 27, .pos 28, .pos 29, .pos 30, .pos 31] (.zero))), (.int .i64 (.lit (11))), (.int .i64 (.lit (8)))]
def sum23_r9 : R Leaf := (.ok { v := (.int .u32 (.bv [.pos 8, .pos 9, .pos 10, .pos 11] (.zero))), objs := [], n := 7 })
theorem sum23_9 : leafOf LStart 7 ((ev cx31 4000).call 23 sum23_a9 (stG LStart 7)) = sum23_r9 := by kernel_rfl
def sum23_a10 : List V := [(.int .u32 (.bv [.pos 0, .pos 1, .pos 2, .pos 3, .pos 4, .pos 5, .pos 6, .pos 7, .pos 8, .pos 9, .pos 10, .pos 11, .pos 12, .pos 13, .pos 14, .pos 15, .pos 16, .pos 17, .pos 18, .pos 19, .pos 20, .pos 21, .pos 22, .pos 23, .pos 24, .pos 25, .pos 26, .pos 27, .pos 28, .pos 29, .pos 30, .pos 31] (.zero))), (.int .i64 (.lit (31))), (.int .i64 (.lit (25)))]
def sum23_r10 : R Leaf := (.ok { v := (.int .u32 (.bv [.pos 25, .pos 26, .pos 27, .pos 28, .pos 29, .pos 30, .pos 31] (.zero))), objs := [], n := 7 })
theorem sum23_10 : leafOf LStart 7 ((ev cx31 4000).call 23 sum23_a10 (stG LStart 7)) = sum23_r10 := by kernel_rfl
def sum23_a11 : List V := [(.int .u32 (.bv [.pos 0, .pos 1, .pos 2, .pos 3, .pos 4, .pos 5, .pos 6, .pos 7, .pos 8, .pos 9, .pos 10, .pos 11, .pos 12, .pos 13, .pos 14, .pos 15, .pos 16, .pos 17, .pos 18, .pos 19, .pos 20, .pos 21, .pos 22, .pos 23, .pos 24, .pos 25, .pos 26, .pos 27, .pos 28, .pos 29, .pos 30, .pos 31] (.zero))), (.int .i64 (.lit (31))), (.int .i64 (.lit (20)))]
def sum23_r11 : R Leaf := (.ok { v := (.int .u32 (.bv [.pos 20, .pos 21, .pos 22, .pos 23, .pos 24, .pos 25, .pos 26, .pos 27, .pos 28, .pos 29, .pos 30, .pos 31] (.zero))), objs := [], n := 7 })
theorem sum23_11 : leafOf LStart 7 ((ev cx31 4000).call 23 sum23_a11 (stG LStart 7)) = sum23_r11 := by kernel_rfl
def sum23_a12 : List V := [(.int .u32 (.bv [.pos 0, .pos 1, .pos 2, .pos 3, .pos 4, .pos 5, .pos 6, .pos 7, .pos 8, .pos 9, .pos 10, .pos 11, .pos 12, .pos 13, .pos 14, .pos 15, .pos 16, .pos 17, .pos 18, .pos 19, .pos 20, .pos 21, .pos 22, .pos 23, .pos 24, .pos 25, .pos 26, .pos 27, .pos 28, .pos 29, .pos 30, .pos 31] (.zero))), (.int .i64 (.lit (27))), (.int .i64 (.lit (20)))]
def sum23_r12 : R Leaf := (.ok { v := (.int .u32 (.bv [.pos 20, .pos 21, .pos 22, .pos 23, .pos 24, .pos 25, .pos 26, .pos 27] (.zero))), objs := [], n := 7 })
theorem sum23_12 : leafOf LStart 7 ((ev cx31 4000).call 23 sum23_a12 (stG LStart 7)) = sum23_r12 := by kernel_rfl
def sum23_a13 : List V := [(.int .u32 (.bv [.pos 0, .pos 1, .pos 2, .pos 3, .pos 4, .pos 5, .pos 6, .pos 7, .pos 8, .pos 9, .pos 10, .pos 11, .pos 12, .pos 13, .pos 14, .pos 15, .pos 16, .pos 17, .pos 18, .pos 19, .pos 20, .pos 21, .pos 22, .pos 23, .pos 24, .pos 25, .pos 26, .pos 27, .pos 28, .pos 29, .pos 30, .pos 31] (.zero))), (.int .i64 (.lit (26))), (.int .i64 (.lit (26)))]
def sum23_r13 : R Leaf := (.ok { v := (.int .u32 (.bv [.pos 26] (.zero))), objs := [], n := 7 })
theorem sum23_13 : leafOf LStart 7 ((ev cx31 4000).call 23 sum23_a13 (stG LStart 7)) = sum23_r13 := by kernel_rfl
def sum23_a14 : List V := [(.int .u32 (.bv [.pos 0, .pos 1, .pos 2, .pos 3, .pos 4, .pos 5, .pos 6, .pos 7, .pos 8, .pos 9, .pos 10, .pos 11, .pos 12, .pos 13, .pos 14, .pos 15, .pos 16, .pos 17, .pos 18, .pos 19, .pos 20, .pos 21, .pos 22, .pos 23, .pos 24, .pos 25, .pos 26, .pos 27, .pos 28, .pos 29, .pos 30, .pos 31] (.zero))), (.int .i64 (.lit (25))), (.int .i64 (.lit (25)))]
def sum23_r14 : R Leaf := (.ok { v := (.int .u32 (.bv [.pos 25] (.zero))), objs := [], n := 7 })
theorem sum23_14 : leafOf LStart 7 ((ev cx31 4000).call 23 sum23_a14 (stG LStart 7)) = sum23_r14 := by kernel_rfl
def sum23_a15 : List V := [(.int .u32 (.bv [.pos 0, .pos 1, .pos 2, .pos 3, .pos 4, .pos 5, .pos 6, .pos 7, .pos 8, .pos 9, .pos 10, .pos 11, .pos 12, .pos 13, .pos 14, .pos 15, .pos 16, .pos 17, .pos 18, .pos 19, .pos 20, .pos 21, .pos 22, .pos 23, .pos 24, .pos 25, .pos 26, .pos 27, .pos 28, .pos 29, .pos 30, .pos 31] (.zero))), (.int .i64 (.lit (10))), (.int .i64 (.lit (1)))]
def sum23_r15 : R Leaf := (.ok { v := (.int .u32 (.bv [.pos 1, .pos 2, .pos 3, .pos 4, .pos 5, .pos 6, .pos 7, .pos 8, .pos 9, .pos 10] (.zero))), objs := [], n := 7 })
theorem sum23_15 : leafOf LStart 7 ((ev cx31 4000).call 23 sum23_a15 (stG LStart 7)) = sum23_r15 := by kernel_rfl
def sum23_a16 : List V := [(.int .u32 (.bv [.pos 0, .pos 1, .pos 2, .pos 3, .pos 4, .pos 5, .pos 6, .pos 7, .pos 8, .pos 9, .pos 10, .pos 11, .pos 12, .pos 13, .pos 14, .pos 15, .pos 16, .pos 17, .pos 18, .pos 19, .pos 20, .pos 21, .pos 22, .pos 23, .pos 24, .pos 25, .pos 26, .pos 27, .pos 28, .pos 29, .pos 30, .pos 31] (.zero))), (.int .i64 (.lit (11))), (.int .i64 (.lit (11)))]
def sum23_r16 : R Leaf := (.ok { v := (.int .u32 (.bv [.pos 11] (.zero))), objs := [], n := 7 })
theorem sum23_16 : leafOf LStart 7 ((ev cx31 4000).call 23 sum23_a16 (stG LStart 7)) = sum23_r16 := by kernel_rfl
def sum23_a17 : List V := [(.int .u32 (.bv [.pos 0, .pos 1, .pos 2, .pos 3, .pos 4, .pos 5, .pos 6, .pos 7, .pos 8, .pos 9, .pos 10, .pos 11, .pos 12, .pos 13, .pos 14, .pos 15, .pos 16, .pos 17, .pos 18, .pos 19, .pos 20, .pos 21, .pos 22, .pos 23, .pos 24, .pos 25, .pos 26, .pos 27, .pos 28, .pos 29, .pos 30, .pos 31] (.zero))), (.int .i64 (.lit (12))), (.int .i64 (.lit (12)))]
def sum23_r17 : R Leaf := (.ok { v := (.int .u32 (.bv [.pos 12] (.zero))), objs := [], n := 7 })
theorem sum23_17 : leafOf LStart 7 ((ev cx31 4000).call 23 sum23_a17 (stG LStart 7)) = sum23_r17 := by kernel_rfl
def sum23_a18 : List V := [(.int .u32 (.bv [.pos 0, .pos 1, .pos 2, .pos 3, .pos 4, .pos 5, .pos 6, .pos 7, .pos 8, .pos 9, .pos 10, .pos 11, .pos 12, .pos 13, .pos 14, .pos 15, .pos 16, .pos 17, .pos 18, .pos 19, .pos 20, .pos 21, .pos 22, .pos 23, .pos 24, .pos 25, .pos 26, .pos 27, .pos 28, .pos 29, .pos 30, .pos 31] (.zero))), (.int .i64 (.lit (10))), (.int .i64 (.lit (5)))]
def sum23_r18 : R Leaf := (.ok { v := (.int .u32 (.bv [.pos 5, .pos 6, .pos 7, .pos 8, .pos 9, .pos 10] (.zero))), objs := [], n := 7 })
theorem sum23_18 : leafOf LStart 7 ((ev cx31 4000).call 23 sum23_a18 (stG LStart 7)) = sum23_r18 := by kernel_rfl
def sum23_a19 : List V := [(.int .u32 (.bv [.pos 0, .pos 1, .pos 2, .pos 3, .pos 4, .pos 5, .pos 6, .pos 7, .pos 8, .pos 9, .pos 10, .pos 11, .pos 12, .pos 13, .pos 14, .pos 15, .pos 16, .pos 17, .pos 18, .pos 19, .pos 20, .pos 21, .pos 22, .pos 23, .pos 24, .pos 25, .pos 26, .pos 27, .pos 28, .pos 29, .pos 30, .pos 31] (.zero))), (.int .i64 (.lit (4))), (.int .i64 (.lit (1)))]
def sum23_r19 : R Leaf := (.ok { v := (.int .u32 (.bv [.pos 1, .pos 2, .pos 3, .pos 4] (.zero))), objs := [], n := 7 })
theorem sum23_19 : leafOf LStart 7 ((ev cx31 4000).call 23 sum23_a19 (stG LStart 7)) = sum23_r19 := by kernel_rfl
def sum23_a20 : List V := [(.int .u32 (.bv [.pos 0, .pos 1, .pos 2, .pos 3, .pos 4, .pos 5, .pos 6, .pos 7, .pos 8, .pos 9, .pos 10, .pos 11, .pos 12, .pos 13, .pos 14, .pos 15, .pos 16, .pos 17, .pos 18, .pos 19, .pos 20, .pos 21, .pos 22, .pos 23, .pos 24, .pos 25, .pos 26, .pos 27, .pos 28, .pos 29, .pos 30, .pos 31] (.zero))), (.int .i64 (.lit (11))), (.int .i64 (.lit (5)))]
def sum23_r20 : R Leaf := (.ok { v := (.int .u32 (.bv [.pos 5, .pos 6, .pos 7, .pos 8, .pos 9, .pos 10, .pos 11] (.zero))), objs := [], n := 7 })
theorem sum23_20 : leafOf LStart 7 ((ev cx31 4000).call 23 sum23_a20 (stG LStart 7)) = sum23_r20 := by kernel_rfl
def sum23_a21 : List V := [(.int .u32 (.bv [.pos 0, .pos 1, .pos 2, .pos 3, .pos 4, .pos 5, .pos 6, .pos 7, .pos 8, .pos 9, .pos 10, .pos 11, .pos 12, .pos 13, .pos 14, .pos 15, .pos 16, .pos 17, .pos 18, .pos 19, .pos 20, .pos 21, .pos 22, .pos 23, .pos 24, .pos 25, .pos 26, .pos 27, .pos 28, .pos 29, .pos 30, .pos 31] (.zero))), (.int .i64 (.lit (4))), (.int .i64 (.lit (0)))]
def sum23_r21 : R Leaf := (.ok { v := (.int .u32 (.bv [.pos 0, .pos 1, .pos 2, .pos 3, .pos 4] (.zero))), objs := [], n := 7 })
theorem sum23_21 : leafOf LStart 7 ((ev cx31 4000).call 23 sum23_a21 (stG LStart 7)) = sum23_r21 := by kernel_rfl
def sum23_a22 : List V := [(.int .u32 (.bv [.pos 0, .pos 1, .pos 2, .pos 3, .pos 4, .pos 5, .pos 6, .pos 7, .pos 8, .pos 9, .pos 10, .pos 11, .pos 12, .pos 13, .pos 14, .pos 15, .pos 16, .pos 17, .pos 18, .pos 19, .pos 20, .pos 21, .pos 22, .pos 23, .pos 24, .pos 25, .pos 26, .pos 27, .pos 28, .pos 29, .pos 30, .pos 31] (.zero))), (.int .i64 (.lit (11))), (.int .i64 (.lit (0)))]
def sum23_r22 : R Leaf := (.ok { v := (.int .u32 (.bv [.pos 0, .pos 1, .pos 2, .pos 3, .pos 4, .pos 5, .pos 6, .pos 7, .pos 8, .pos 9, .pos 10, .pos 11] (.zero))), objs := [], n := 7 })
theorem sum23_22 : leafOf LStart 7 ((ev cx31 4000).call 23 sum23_a22 (stG LStart 7)) = sum23_r22 := by kernel_rfl
def sum23 : List (List V × R Leaf) := [(sum23_a0, sum23_r0), (sum23_a1, sum23_r1), (sum23_a2, sum23_r2), (sum23_a3, sum23_r3), (sum23_a4, sum23_r4), (sum23_a5, sum23_r5), (sum23_a6, sum23_r6), (sum23_a7, sum23_r7), (sum23_a8, sum23_r8), (sum23_a9, sum23_r9), (sum23_a10, sum23_r10), (sum23_a11, sum23_r11), (sum23_a12, sum23_r12), (sum23_a13, sum23_r13), (sum23_a14, sum23_r14), (sum23_a15, sum23_r15), (sum23_a16, sum23_r16), (sum23_a17, sum23_r17), (sum23_a18, sum23_r18), (sum23_a19, sum23_r19), (sum23_a20, sum23_r20), (sum23_a21, sum23_r21), (sum23_a22, sum23_r22)]
theorem sum23_ok : TabOk cx31 LStart 7 4000 23 sum23 := .cons rfl sum23_0 <| .cons rfl sum23_1 <| .cons rfl sum23_2 <| .cons rfl sum23_3 <| .cons rfl sum23_4 <| .cons rfl sum23_5 <| .cons rfl sum23_6 <| .cons rfl sum23_7 <| .cons rfl sum23_8 <| .cons rfl sum23_9 <| .cons rfl sum23_10 <| .cons rfl sum23_11 <| .cons rfl sum23_12 <| .cons rfl sum23_13 <| .cons rfl sum23_14 <| .cons rfl sum23_15 <| .cons rfl sum23_16 <| .cons rfl sum23_17 <| .cons rfl sum23_18 <| .cons rfl sum23_19 <| .cons rfl sum23_20 <| .cons rfl sum23_21 <| .cons rfl sum23_22 <| .nil
noncomputable def cx23 : Cx := { cx with sm := smOf [(23, sumPar LStart 7 sum23), (31, sumTab LStart 7 sum31), (30, sumTab LStart 7 sum30), (29, sumTab LStart 7 sum29), (22, sumTab LStart 7 sum22), (25, sumTab LStart 7 sum25), (13, sumTab LStart 7 sum13), (39, sumTab LStart 7 sum39)] }
def sum32_a0 : List V := [(.int .i64 (.var 0))]
def sum32_r0 : R Leaf := (.br (.eq (.var 0) (.lit (1)))
 (.ok { v := (.tuple [(.agg [(.int .i64 (.lit (1))), (.str (.slit [108, 117, 105])), (.int .u32 (.lit (127))), (.bool (.lit (1))), (.bool (.lit (0))), (.bool (.lit (0))), (.bool (.lit (0))), (.func (.func 59) [] []), (.func (.func 60) [] []), (.func (.func 61) [] []), (.func (.func 62) [] []), (.int .u32 (.lit (55)))]), (.bool (.lit (1)))]), objs := [], n := 38 })
 (.br (.eq (.var 0) (.lit (2)))
  (.ok { v := (.tuple [(.agg [(.int .i64 (.lit (2))), (.str (.slit [97, 117, 105, 112, 99])), (.int .u32 (.lit (127))), (.bool (.lit (1))), (.bool (.lit (0))), (.bool (.lit (0))), (.bool (.lit (0))), (.func (.func 59) [] []), (.func (.func 60) [] []), (.func (.func 61) [] []), (.func (.func 62) [] []), (.int .u32 (.lit (23)))]), (.bool (.lit (1)))]), objs := [], n := 40 })
  (.br (.eq (.var 0) (.lit (3)))
   (.ok { v := (.tuple [(.agg [(.int .i64 (.lit (3))), (.str (.slit [106, 97, 108])), (.int .u32 (.lit (127))), (.bool (.lit (1))), (.bool (.lit (0))), (.bool (.lit (0))), (.bool (.lit (0))), (.func (.func 91) [] [(.ptr 23 0)]), (.func (.func 65) [] []), (.func (.func 66) [] []), (.func (.func 67) [] []), (.int .u32 (.lit (111)))]), (.bool (.lit (1)))]), objs := [(22, .cells [(.int .i64 (.lit (1048574)))] 2 none), (21, .cells [(.int .i64 (.lit (-1048576)))] 2 none), (23, .cells [(.func (.func 87) [] [(.ptr 21 0), (.ptr 22 0)])] 32 none)], n := 42 })
   (.br (.eq (.var 0) (.lit (4)))
    (.ok { v := (.tuple [(.agg [(.int .i64 (.lit (4))), (.str (.slit [106, 97, 108, 114])), (.int .u32 (.lit (28799))), (.bool (.lit (1))), (.bool (.lit (1))), (.bool (.lit (0))), (.bool (.lit (0))), (.func (.func 87) [] [(.ptr 13 0), (.ptr 14 0)]), (.func (.func 49) [] []), (.func (.func 46) [] []), (.func (.func 54) [] []), (.int .u32 (.lit (103)))]), (.bool (.lit (1)))]), objs := [(14, .cells [(.int .i64 (.lit (2047)))] 2 none), (13, .cells [(.int .i64 (.lit (-2048)))] 2 none)], n := 44 })
    (.br (.eq (.var 0) (.lit (5)))
     (.ok { v := (.tuple [(.agg [(.int .i64 (.lit (5))), (.str (.slit [98, 101, 113])), (.int .u32 (.lit (28799))), (.bool (.lit (0))), (.bool (.lit (1))), (.bool (.lit (1))), (.bool (.lit (0))), (.func (.func 91) [] [(.ptr 28 0)]), (.func (.func 70) [] []), (.func (.func 71) [] []), (.func (.func 72) [] []), (.int .u32 (.lit (99)))]), (.bool (.lit (1)))]), objs := [(27, .cells [(.int .i64 (.lit (4094)))] 2 none), (26, .cells [(.int .i64 (.lit (-4096)))] 2 none), (28, .cells [(.func (.func 87) [] [(.ptr 26 0), (.ptr 27 0)])] 32 none)], n := 48 })
     (.br (.eq (.var 0) (.lit (6)))
      (.ok { v := (.tuple [(.agg [(.int .i64 (.lit (6))), (.str (.slit [98, 110, 101])), (.int .u32 (.lit (28799))), (.bool (.lit (0))), (.bool (.lit (1))), (.bool (.lit (1))), (.bool (.lit (0))), (.func (.func 91) [] [(.ptr 28 0)]), (.func (.func 70) [] []), (.func (.func 71) [] []), (.func (.func 72) [] []), (.int .u32 (.lit (4195)))]), (.bool (.lit (1)))]), objs := [(27, .cells [(.int .i64 (.lit (4094)))] 2 none), (26, .cells [(.int .i64 (.lit (-4096)))] 2 none), (28, .cells [(.func (.func 87) [] [(.ptr 26 0), (.ptr 27 0)])] 32 none)], n := 50 })
      (.br (.eq (.var 0) (.lit (7)))
       (.ok { v := (.tuple [(.agg [(.int .i64 (.lit (7))), (.str (.slit [98, 108, 116])), (.int .u32 (.lit (28799))), (.bool (.lit (0))), (.bool (.lit (1))), (.bool (.lit (1))), (.bool (.lit (0))), (.func (.func 91) [] [(.ptr 28 0)]), (.func (.func 70) [] []), (.func (.func 71) [] []), (.func (.func 72) [] []), (.int .u32 (.lit (16483)))]), (.bool (.lit (1)))]), objs := [(27, .cells [(.int .i64 (.lit (4094)))] 2 none), (26, .cells [(.int .i64 (.lit (-4096)))] 2 none), (28, .cells [(.func (.func 87) [] [(.ptr 26 0), (.ptr 27 0)])] 32 none)], n := 52 })
       (.br (.eq (.var 0) (.lit (8)))
        (.ok { v := (.tuple [(.agg [(.int .i64 (.lit (8))), (.str (.slit [98, 103, 101])), (.int .u32 (.lit (28799))), (.bool (.lit (0))), (.bool (.lit (1))), (.bool (.lit (1))), (.bool (.lit (0))), (.func (.func 91) [] [(.ptr 28 0)]), (.func (.func 70) [] []), (.func (.func 71) [] []), (.func (.func 72) [] []), (.int .u32 (.lit (20579)))]), (.bool (.lit (1)))]), objs := [(27, .cells [(.int .i64 (.lit (4094)))] 2 none), (26, .cells [(.int .i64 (.lit (-4096)))] 2 none), (28, .cells [(.func (.func 87) [] [(.ptr 26 0), (.ptr 27 0)])] 32 none)], n := 54 })
        (.br (.eq (.var 0) (.lit (9)))
         (.ok { v := (.tuple [(.agg [(.int .i64 (.lit (9))), (.str (.slit [98, 108, 116, 117])), (.int .u32 (.lit (28799))), (.bool (.lit (0))), (.bool (.lit (1))), (.bool (.lit (1))), (.bool (.lit (0))), (.func (.func 91) [] [(.ptr 28 0)]), (.func (.func 70) [] []), (.func (.func 71) [] []), (.func (.func 72) [] []), (.int .u32 (.lit (24675)))]), (.bool (.lit (1)))]), objs := [(27, .cells [(.int .i64 (.lit (4094)))] 2 none), (26, .cells [(.int .i64 (.lit (-4096)))] 2 none), (28, .cells [(.func (.func 87) [] [(.ptr 26 0), (.ptr 27 0)])] 32 none)], n := 56 })
         (.br (.eq (.var 0) (.lit (10)))
          (.ok { v := (.tuple [(.agg [(.int .i64 (.lit (10))), (.str (.slit [98, 103, 101, 117])), (.int .u32 (.lit (28799))), (.bool (.lit (0))), (.bool (.lit (1))), (.bool (.lit (1))), (.bool (.lit (0))), (.func (.func 91) [] [(.ptr 28 0)]), (.func (.func 70) [] []), (.func (.func 71) [] []), (.func (.func 72) [] []), (.int .u32 (.lit (28771)))]), (.bool (.lit (1)))]), objs := [(27, .cells [(.int .i64 (.lit (4094)))] 2 none), (26, .cells [(.int .i64 (.lit (-4096)))] 2 none), (28, .cells [(.func (.func 87) [] [(.ptr 26 0), (.ptr 27 0)])] 32 none)], n := 58 })
          (.br (.eq (.var 0) (.lit (11)))
           (.ok { v := (.tuple [(.agg [(.int .i64 (.lit (11))), (.str (.slit [108, 98])), (.int .u32 (.lit (28799))), (.bool (.lit (1))), (.bool (.lit (1))), (.bool (.lit (0))), (.bool (.lit (0))), (.func (.func 87) [] [(.ptr 13 0), (.ptr 14 0)]), (.func (.func 49) [] []), (.func (.func 46) [] []), (.func (.func 54) [] []), (.int .u32 (.lit (3)))]), (.bool (.lit (1)))]), objs := [(14, .cells [(.int .i64 (.lit (2047)))] 2 none), (13, .cells [(.int .i64 (.lit (-2048)))] 2 none)], n := 62 })
           (.br (.eq (.var 0) (.lit (12)))
            (.ok { v := (.tuple [(.agg [(.int .i64 (.lit (12))), (.str (.slit [108, 104])), (.int .u32 (.lit (28799))), (.bool (.lit (1))), (.bool (.lit (1))), (.bool (.lit (0))), (.bool (.lit (0))), (.func (.func 87) [] [(.ptr 13 0), (.ptr 14 0)]), (.func (.func 49) [] []), (.func (.func 46) [] []), (.func (.func 54) [] []), (.int .u32 (.lit (4099)))]), (.bool (.lit (1)))]), objs := [(14, .cells [(.int .i64 (.lit (2047)))] 2 none), (13, .cells [(.int .i64 (.lit (-2048)))] 2 none)], n := 64 })
            (.br (.eq (.var 0) (.lit (13)))
             (.ok { v := (.tuple [(.agg [(.int .i64 (.lit (13))), (.str (.slit [108, 119])), (.int .u32 (.lit (28799))), (.bool (.lit (1))), (.bool (.lit (1))), (.bool (.lit (0))), (.bool (.lit (0))), (.func (.func 87) [] [(.ptr 13 0), (.ptr 14 0)]), (.func (.func 49) [] []), (.func (.func 46) [] []), (.func (.func 54) [] []), (.int .u32 (.lit (8195)))]), (.bool (.lit (1)))]), objs := [(14, .cells [(.int .i64 (.lit (2047)))] 2 none), (13, .cells [(.int .i64 (.lit (-2048)))] 2 none)], n := 66 })
             (.br (.eq (.var 0) (.lit (14)))
              (.ok { v := (.tuple [(.agg [(.int .i64 (.lit (14))), (.str (.slit [108, 98, 117])), (.int .u32 (.lit (28799))), (.bool (.lit (1))), (.bool (.lit (1))), (.bool (.lit (0))), (.bool (.lit (0))), (.func (.func 87) [] [(.ptr 13 0), (.ptr 14 0)]), (.func (.func 49) [] []), (.func (.func 46) [] []), (.func (.func 54) [] []), (.int .u32 (.lit (16387)))]), (.bool (.lit (1)))]), objs := [(14, .cells [(.int .i64 (.lit (2047)))] 2 none), (13, .cells [(.int .i64 (.lit (-2048)))] 2 none)], n := 68 })
              (.br (.eq (.var 0) (.lit (15)))
               (.ok { v := (.tuple [(.agg [(.int .i64 (.lit (15))), (.str (.slit [108, 104, 117])), (.int .u32 (.lit (28799))), (.bool (.lit (1))), (.bool (.lit (1))), (.bool (.lit (0))), (.bool (.lit (0))), (.func (.func 87) [] [(.ptr 13 0), (.ptr 14 0)]), (.func (.func 49) [] []), (.func (.func 46) [] []), (.func (.func 54) [] []), (.int .u32 (.lit (20483)))]), (.bool (.lit (1)))]), objs := [(14, .cells [(.int .i64 (.lit (2047)))] 2 none), (13, .cells [(.int .i64 (.lit (-2048)))] 2 none)], n := 70 })
               (.br (.eq (.var 0) (.lit (16)))
                (.ok { v := (.tuple [(.agg [(.int .i64 (.lit (16))), (.str (.slit [115, 98])), (.int .u32 (.lit (28799))), (.bool (.lit (0))), (.bool (.lit (1))), (.bool (.lit (1))), (.bool (.lit (0))), (.func (.func 87) [] [(.ptr 29 0), (.ptr 30 0)]), (.func (.func 73) [] []), (.func (.func 74) [] []), (.func (.func 75) [] []), (.int .u32 (.lit (35)))]), (.bool (.lit (1)))]), objs := [(30, .cells [(.int .i64 (.lit (2047)))] 2 none), (29, .cells [(.int .i64 (.lit (-2048)))] 2 none)], n := 74 })
                (.br (.eq (.var 0) (.lit (17)))
                 (.ok { v := (.tuple [(.agg [(.int .i64 (.lit (17))), (.str (.slit [115, 104])), (.int .u32 (.lit (28799))), (.bool (.lit (0))), (.bool (.lit (1))), (.bool (.lit (1))), (.bool (.lit (0))), (.func (.func 87) [] [(.ptr 29 0), (.ptr 30 0)]), (.func (.func 73) [] []), (.func (.func 74) [] []), (.func (.func 75) [] []), (.int .u32 (.lit (4131)))]), (.bool (.lit (1)))]), objs := [(30, .cells [(.int .i64 (.lit (2047)))] 2 none), (29, .cells [(.int .i64 (.lit (-2048)))] 2 none)], n := 76 })
                 (.br (.eq (.var 0) (.lit (18)))
                  (.ok { v := (.tuple [(.agg [(.int .i64 (.lit (18))), (.str (.slit [115, 119])), (.int .u32 (.lit (28799))), (.bool (.lit (0))), (.bool (.lit (1))), (.bool (.lit (1))), (.bool (.lit (0))), (.func (.func 87) [] [(.ptr 29 0), (.ptr 30 0)]), (.func (.func 73) [] []), (.func (.func 74) [] []), (.func (.func 75) [] []), (.int .u32 (.lit (8227)))]), (.bool (.lit (1)))]), objs := [(30, .cells [(.int .i64 (.lit (2047)))] 2 none), (29, .cells [(.int .i64 (.lit (-2048)))] 2 none)], n := 78 })
                  (.br (.eq (.var 0) (.lit (19)))
                   (.ok { v := (.tuple [(.agg [(.int .i64 (.lit (19))), (.str (.slit [97, 100, 100, 105])), (.int .u32 (.lit (28799))), (.bool (.lit (1))), (.bool (.lit (1))), (.bool (.lit (0))), (.bool (.lit (0))), (.func (.func 87) [] [(.ptr 13 0), (.ptr 14 0)]), (.func (.func 49) [] []), (.func (.func 46) [] []), (.func (.func 50) [] []), (.int .u32 (.lit (19)))]), (.bool (.lit (1)))]), objs := [(14, .cells [(.int .i64 (.lit (2047)))] 2 none), (13, .cells [(.int .i64 (.lit (-2048)))] 2 none)], n := 82 })
                   (.br (.eq (.var 0) (.lit (20)))
                    (.ok { v := (.tuple [(.agg [(.int .i64 (.lit (20))), (.str (.slit [115, 108, 116, 105])), (.int .u32 (.lit (28799))), (.bool (.lit (1))), (.bool (.lit (1))), (.bool (.lit (0))), (.bool (.lit (0))), (.func (.func 87) [] [(.ptr 13 0), (.ptr 14 0)]), (.func (.func 49) [] []), (.func (.func 46) [] []), (.func (.func 50) [] []), (.int .u32 (.lit (8211)))]), (.bool (.lit (1)))]), objs := [(14, .cells [(.int .i64 (.lit (2047)))] 2 none), (13, .cells [(.int .i64 (.lit (-2048)))] 2 none)], n := 84 })
                    (.br (.eq (.var 0) (.lit (21)))
                     (.ok { v := (.tuple [(.agg [(.int .i64 (.lit (21))), (.str (.slit [115, 108, 116, 105, 117])), (.int .u32 (.lit (28799))), (.bool (.lit (1))), (.bool (.lit (1))), (.bool (.lit (0))), (.bool (.lit (0))), (.func (.func 87) [] [(.ptr 13 0), (.ptr 14 0)]), (.func (.func 49) [] []), (.func (.func 46) [] []), (.func (.func 50) [] []), (.int .u32 (.lit (12307)))]), (.bool (.lit (1)))]), objs := [(14, .cells [(.int .i64 (.lit (2047)))] 2 none), (13, .cells [(.int .i64 (.lit (-2048)))] 2 none)], n := 86 })
                     (.br (.eq (.var 0) (.lit (22)))
                      (.ok { v := (.tuple [(.agg [(.int .i64 (.lit (22))), (.str (.slit [120, 111, 114, 105])), (.int .u32 (.lit (28799))), (.bool (.lit (1))), (.bool (.lit (1))), (.bool (.lit (0))), (.bool (.lit (0))), (.func (.func 87) [] [(.ptr 13 0), (.ptr 14 0)]), (.func (.func 49) [] []), (.func (.func 46) [] []), (.func (.func 50) [] []), (.int .u32 (.lit (16403)))]), (.bool (.lit (1)))]), objs := [(14, .cells [(.int .i64 (.lit (2047)))] 2 none), (13, .cells [(.int .i64 (.lit (-2048)))] 2 none)], n := 88 })
                      (.br (.eq (.var 0) (.lit (23)))
                       (.ok { v := (.tuple [(.agg [(.int .i64 (.lit (23))), (.str (.slit [111, 114, 105])), (.int .u32 (.lit (28799))), (.bool (.lit (1))), (.bool (.lit (1))), (.bool (.lit (0))), (.bool (.lit (0))), (.func (.func 87) [] [(.ptr 13 0), (.ptr 14 0)]), (.func (.func 49) [] []), (.func (.func 46) [] []), (.func (.func 50) [] []), (.int .u32 (.lit (24595)))]), (.bool (.lit (1)))]), objs := [(14, .cells [(.int .i64 (.lit (2047)))] 2 none), (13, .cells [(.int .i64 (.lit (-2048)))] 2 none)], n := 90 })
                       (.br (.eq (.var 0) (.lit (24)))
                        (.ok { v := (.tuple [(.agg [(.int .i64 (.lit (24))), (.str (.slit [97, 110, 100, 105])), (.int .u32 (.lit (28799))), (.bool (.lit (1))), (.bool (.lit (1))), (.bool (.lit (0))), (.bool (.lit (0))), (.func (.func 87) [] [(.ptr 13 0), (.ptr 14 0)]), (.func (.func 49) [] []), (.func (.func 46) [] []), (.func (.func 50) [] []), (.int .u32 (.lit (28691)))]), (.bool (.lit (1)))]), objs := [(14, .cells [(.int .i64 (.lit (2047)))] 2 none), (13, .cells [(.int .i64 (.lit (-2048)))] 2 none)], n := 92 })
                        (.br (.eq (.var 0) (.lit (25)))
                         (.ok { v := (.tuple [(.agg [(.int .i64 (.lit (25))), (.str (.slit [115, 108, 108, 105])), (.int .u32 (.lit (4261441663))), (.bool (.lit (1))), (.bool (.lit (1))), (.bool (.lit (0))), (.bool (.lit (0))), (.func (.func 87) [] [(.ptr 24 0), (.ptr 25 0)]), (.func (.func 68) [] []), (.func (.func 69) [] []), (.func (.func 50) [] []), (.int .u32 (.lit (4115)))]), (.bool (.lit (1)))]), objs := [(25, .cells [(.int .i64 (.lit (31)))] 2 none), (24, .cells [(.int .i64 (.lit (0)))] 2 none)], n := 96 })
                         (.br (.eq (.var 0) (.lit (26)))
                          (.ok { v := (.tuple [(.agg [(.int .i64 (.lit (26))), (.str (.slit [115, 114, 108, 105])), (.int .u32 (.lit (4261441663))), (.bool (.lit (1))), (.bool (.lit (1))), (.bool (.lit (0))), (.bool (.lit (0))), (.func (.func 87) [] [(.ptr 24 0), (.ptr 25 0)]), (.func (.func 68) [] []), (.func (.func 69) [] []), (.func (.func 50) [] []), (.int .u32 (.lit (20499)))]), (.bool (.lit (1)))]), objs := [(25, .cells [(.int .i64 (.lit (31)))] 2 none), (24, .cells [(.int .i64 (.lit (0)))] 2 none)], n := 98 })
                          (.br (.eq (.var 0) (.lit (27)))
                           (.ok { v := (.tuple [(.agg [(.int .i64 (.lit (27))), (.str (.slit [115, 114, 97, 105])), (.int .u32 (.lit (4261441663))), (.bool (.lit (1))), (.bool (.lit (1))), (.bool (.lit (0))), (.bool (.lit (0))), (.func (.func 87) [] [(.ptr 24 0), (.ptr 25 0)]), (.func (.func 68) [] []), (.func (.func 69) [] []), (.func (.func 50) [] []), (.int .u32 (.lit (1073762323)))]), (.bool (.lit (1)))]), objs := [(25, .cells [(.int .i64 (.lit (31)))] 2 none), (24, .cells [(.int .i64 (.lit (0)))] 2 none)], n := 100 })
                           (.br (.eq (.var 0) (.lit (28)))
                            (.ok { v := (.tuple [(.agg [(.int .i64 (.lit (28))), (.str (.slit [97, 100, 100])), (.int .u32 (.lit (4261441663))), (.bool (.lit (1))), (.bool (.lit (1))), (.bool (.lit (1))), (.bool (.lit (0))), (.func (.func 55) [] []), (.func (.func 45) [] []), (.func (.func 45) [] []), (.func (.func 56) [] []), (.int .u32 (.lit (51)))]), (.bool (.lit (1)))]), objs := [], n := 102 })
                            (.br (.eq (.var 0) (.lit (29)))
                             (.ok { v := (.tuple [(.agg [(.int .i64 (.lit (29))), (.str (.slit [115, 117, 98])), (.int .u32 (.lit (4261441663))), (.bool (.lit (1))), (.bool (.lit (1))), (.bool (.lit (1))), (.bool (.lit (0))), (.func (.func 55) [] []), (.func (.func 45) [] []), (.func (.func 45) [] []), (.func (.func 56) [] []), (.int .u32 (.lit (1073741875)))]), (.bool (.lit (1)))]), objs := [], n := 104 })
                             (.br (.eq (.var 0) (.lit (30)))
                              (.ok { v := (.tuple [(.agg [(.int .i64 (.lit (30))), (.str (.slit [115, 108, 108])), (.int .u32 (.lit (4261441663))), (.bool (.lit (1))), (.bool (.lit (1))), (.bool (.lit (1))), (.bool (.lit (0))), (.func (.func 55) [] []), (.func (.func 45) [] []), (.func (.func 45) [] []), (.func (.func 56) [] []), (.int .u32 (.lit (4147)))]), (.bool (.lit (1)))]), objs := [], n := 108 })
                              (.br (.eq (.var 0) (.lit (31)))
                               (.ok { v := (.tuple [(.agg [(.int .i64 (.lit (31))), (.str (.slit [115, 108, 116])), (.int .u32 (.lit (4261441663))), (.bool (.lit (1))), (.bool (.lit (1))), (.bool (.lit (1))), (.bool (.lit (0))), (.func (.func 55) [] []), (.func (.func 45) [] []), (.func (.func 45) [] []), (.func (.func 56) [] []), (.int .u32 (.lit (8243)))]), (.bool (.lit (1)))]), objs := [], n := 110 })
                               (.br (.eq (.var 0) (.lit (32)))
                                (.ok { v := (.tuple [(.agg [(.int .i64 (.lit (32))), (.str (.slit [115, 108, 116, 117])), (.int .u32 (.lit (4261441663))), (.bool (.lit (1))), (.bool (.lit (1))), (.bool (.lit (1))), (.bool (.lit (0))), (.func (.func 55) [] []), (.func (.func 45) [] []), (.func (.func 45) [] []), (.func (.func 56) [] []), (.int .u32 (.lit (12339)))]), (.bool (.lit (1)))]), objs := [], n := 112 })
                                (.br (.eq (.var 0) (.lit (33)))
                                 (.ok { v := (.tuple [(.agg [(.int .i64 (.lit (33))), (.str (.slit [120, 111, 114])), (.int .u32 (.lit (4261441663))), (.bool (.lit (1))), (.bool (.lit (1))), (.bool (.lit (1))), (.bool (.lit (0))), (.func (.func 55) [] []), (.func (.func 45) [] []), (.func (.func 45) [] []), (.func (.func 56) [] []), (.int .u32 (.lit (16435)))]), (.bool (.lit (1)))]), objs := [], n := 114 })
                                 (.br (.eq (.var 0) (.lit (34)))
                                  (.ok { v := (.tuple [(.agg [(.int .i64 (.lit (34))), (.str (.slit [115, 114, 108])), (.int .u32 (.lit (4261441663))), (.bool (.lit (1))), (.bool (.lit (1))), (.bool (.lit (1))), (.bool (.lit (0))), (.func (.func 55) [] []), (.func (.func 45) [] []), (.func (.func 45) [] []), (.func (.func 56) [] []), (.int .u32 (.lit (20531)))]), (.bool (.lit (1)))]), objs := [], n := 116 })
                                  (.br (.eq (.var 0) (.lit (35)))
                                   (.ok { v := (.tuple [(.agg [(.int .i64 (.lit (35))), (.str (.slit [115, 114, 97])), (.int .u32 (.lit (4261441663))), (.bool (.lit (1))), (.bool (.lit (1))), (.bool (.lit (1))), (.bool (.lit (0))), (.func (.func 55) [] []), (.func (.func 45) [] []), (.func (.func 45) [] []), (.func (.func 56) [] []), (.int .u32 (.lit (1073762355)))]), (.bool (.lit (1)))]), objs := [], n := 118 })
                                   (.br (.eq (.var 0) (.lit (36)))
                                    (.ok { v := (.tuple [(.agg [(.int .i64 (.lit (36))), (.str (.slit [111, 114])), (.int .u32 (.lit (4261441663))), (.bool (.lit (1))), (.bool (.lit (1))), (.bool (.lit (1))), (.bool (.lit (0))), (.func (.func 55) [] []), (.func (.func 45) [] []), (.func (.func 45) [] []), (.func (.func 56) [] []), (.int .u32 (.lit (24627)))]), (.bool (.lit (1)))]), objs := [], n := 122 })
                                    (.br (.eq (.var 0) (.lit (37)))
                                     (.ok { v := (.tuple [(.agg [(.int .i64 (.lit (37))), (.str (.slit [97, 110, 100])), (.int .u32 (.lit (4261441663))), (.bool (.lit (1))), (.bool (.lit (1))), (.bool (.lit (1))), (.bool (.lit (0))), (.func (.func 55) [] []), (.func (.func 45) [] []), (.func (.func 45) [] []), (.func (.func 56) [] []), (.int .u32 (.lit (28723)))]), (.bool (.lit (1)))]), objs := [], n := 124 })
                                     (.br (.eq (.var 0) (.lit (38)))
                                      (.ok { v := (.tuple [(.agg [(.int .i64 (.lit (38))), (.str (.slit [102, 101, 110, 99, 101])), (.int .u32 (.lit (4027580415))), (.bool (.lit (0))), (.bool (.lit (0))), (.bool (.lit (0))), (.bool (.lit (0))), (.func (.func 87) [] [(.ptr 31 0), (.ptr 32 0)]), (.func (.func 76) [] []), (.func (.func 77) [] []), (.func (.func 53) [] []), (.int .u32 (.lit (15)))]), (.bool (.lit (1)))]), objs := [(32, .cells [(.int .i64 (.lit (255)))] 2 none), (31, .cells [(.int .i64 (.lit (0)))] 2 none)], n := 126 })
                                      (.br (.eq (.var 0) (.lit (39)))
                                       (.ok { v := (.tuple [(.agg [(.int .i64 (.lit (39))), (.str (.slit [101, 99, 97, 108, 108])), (.int .u32 (.lit (4294967295))), (.bool (.lit (0))), (.bool (.lit (0))), (.bool (.lit (0))), (.bool (.lit (0))), (.func (.func 55) [] []), (.func (.func 45) [] []), (.func (.func 45) [] []), (.func (.func 78) [] []), (.int .u32 (.lit (115)))]), (.bool (.lit (1)))]), objs := [], n := 128 })
                                       (.br (.eq (.var 0) (.lit (40)))
                                        (.ok { v := (.tuple [(.agg [(.int .i64 (.lit (40))), (.str (.slit [109, 117, 108])), (.int .u32 (.lit (4261441663))), (.bool (.lit (1))), (.bool (.lit (1))), (.bool (.lit (1))), (.bool (.lit (0))), (.func (.func 55) [] []), (.func (.func 45) [] []), (.func (.func 45) [] []), (.func (.func 56) [] []), (.int .u32 (.lit (33554483)))]), (.bool (.lit (1)))]), objs := [], n := 132 })
                                        (.br (.eq (.var 0) (.lit (41)))
                                         (.ok { v := (.tuple [(.agg [(.int .i64 (.lit (41))), (.str (.slit [109, 117, 108, 104])), (.int .u32 (.lit (4261441663))), (.bool (.lit (1))), (.bool (.lit (1))), (.bool (.lit (1))), (.bool (.lit (0))), (.func (.func 55) [] []), (.func (.func 45) [] []), (.func (.func 45) [] []), (.func (.func 56) [] []), (.int .u32 (.lit (33558579)))]), (.bool (.lit (1)))]), objs := [], n := 134 })
                                         (.br (.eq (.var 0) (.lit (42)))
                                          (.ok { v := (.tuple [(.agg [(.int .i64 (.lit (42))), (.str (.slit [109, 117, 108, 104, 115, 117])), (.int .u32 (.lit (4261441663))), (.bool (.lit (1))), (.bool (.lit (1))), (.bool (.lit (1))), (.bool (.lit (0))), (.func (.func 55) [] []), (.func (.func 45) [] []), (.func (.func 45) [] []), (.func (.func 56) [] []), (.int .u32 (.lit (33562675)))]), (.bool (.lit (1)))]), objs := [], n := 136 })
                                          (.br (.eq (.var 0) (.lit (43)))
                                           (.ok { v := (.tuple [(.agg [(.int .i64 (.lit (43))), (.str (.slit [109, 117, 108, 104, 117])), (.int .u32 (.lit (4261441663))), (.bool (.lit (1))), (.bool (.lit (1))), (.bool (.lit (1))), (.bool (.lit (0))), (.func (.func 55) [] []), (.func (.func 45) [] []), (.func (.func 45) [] []), (.func (.func 56) [] []), (.int .u32 (.lit (33566771)))]), (.bool (.lit (1)))]), objs := [], n := 138 })
                                           (.br (.eq (.var 0) (.lit (44)))
                                            (.ok { v := (.tuple [(.agg [(.int .i64 (.lit (44))), (.str (.slit [100, 105, 118])), (.int .u32 (.lit (4261441663))), (.bool (.lit (1))), (.bool (.lit (1))), (.bool (.lit (1))), (.bool (.lit (0))), (.func (.func 55) [] []), (.func (.func 45) [] []), (.func (.func 45) [] []), (.func (.func 56) [] []), (.int .u32 (.lit (33570867)))]), (.bool (.lit (1)))]), objs := [], n := 140 })
                                            (.br (.eq (.var 0) (.lit (45)))
                                             (.ok { v := (.tuple [(.agg [(.int .i64 (.lit (45))), (.str (.slit [100, 105, 118, 117])), (.int .u32 (.lit (4261441663))), (.bool (.lit (1))), (.bool (.lit (1))), (.bool (.lit (1))), (.bool (.lit (0))), (.func (.func 55) [] []), (.func (.func 45) [] []), (.func (.func 45) [] []), (.func (.func 56) [] []), (.int .u32 (.lit (33574963)))]), (.bool (.lit (1)))]), objs := [], n := 142 })
                                             (.br (.eq (.var 0) (.lit (46)))
                                              (.ok { v := (.tuple [(.agg [(.int .i64 (.lit (46))), (.str (.slit [114, 101, 109])), (.int .u32 (.lit (4261441663))), (.bool (.lit (1))), (.bool (.lit (1))), (.bool (.lit (1))), (.bool (.lit (0))), (.func (.func 55) [] []), (.func (.func 45) [] []), (.func (.func 45) [] []), (.func (.func 56) [] []), (.int .u32 (.lit (33579059)))]), (.bool (.lit (1)))]), objs := [], n := 144 })
                                              (.br (.eq (.var 0) (.lit (47)))
                                               (.ok { v := (.tuple [(.agg [(.int .i64 (.lit (47))), (.str (.slit [114, 101, 109, 117])), (.int .u32 (.lit (4261441663))), (.bool (.lit (1))), (.bool (.lit (1))), (.bool (.lit (1))), (.bool (.lit (0))), (.func (.func 55) [] []), (.func (.func 45) [] []), (.func (.func 45) [] []), (.func (.func 56) [] []), (.int .u32 (.lit (33583155)))]), (.bool (.lit (1)))]), objs := [], n := 146 })
                                               (.br (.eq (.var 0) (.lit (48)))
                                                (.ok { v := (.tuple [(.agg [(.int .i64 (.lit (48))), (.str (.slit [108, 114])), (.int .u32 (.lit (4193284223))), (.bool (.lit (1))), (.bool (.lit (1))), (.bool (.lit (0))), (.bool (.lit (1))), (.func (.func 55) [] []), (.func (.func 45) [] []), (.func (.func 45) [] []), (.func (.func 58) [] []), (.int .u32 (.lit (268443695)))]), (.bool (.lit (1)))]), objs := [], n := 150 })
                                                (.br (.eq (.var 0) (.lit (49)))
                                                 (.ok { v := (.tuple [(.agg [(.int .i64 (.lit (49))), (.str (.slit [115, 99])), (.int .u32 (.lit (4160778367))), (.bool (.lit (1))), (.bool (.lit (1))), (.bool (.lit (1))), (.bool (.lit (1))), (.func (.func 55) [] []), (.func (.func 45) [] []), (.func (.func 45) [] []), (.func (.func 57) [] []), (.int .u32 (.lit (402661423)))]), (.bool (.lit (1)))]), objs := [], n := 154 })
                                                 (.br (.eq (.var 0) (.lit (50)))
                                                  (.ok { v := (.tuple [(.agg [(.int .i64 (.lit (50))), (.str (.slit [97, 109, 111, 115, 119, 97, 112])), (.int .u32 (.lit (4160778367))), (.bool (.lit (1))), (.bool (.lit (1))), (.bool (.lit (1))), (.bool (.lit (1))), (.func (.func 55) [] []), (.func (.func 45) [] []), (.func (.func 45) [] []), (.func (.func 57) [] []), (.int .u32 (.lit (134225967)))]), (.bool (.lit (1)))]), objs := [], n := 156 })
                                                  (.br (.eq (.var 0) (.lit (51)))
                                                   (.ok { v := (.tuple [(.agg [(.int .i64 (.lit (51))), (.str (.slit [97, 109, 111, 97, 100, 100])), (.int .u32 (.lit (4160778367))), (.bool (.lit (1))), (.bool (.lit (1))), (.bool (.lit (1))), (.bool (.lit (1))), (.func (.func 55) [] []), (.func (.func 45) [] []), (.func (.func 45) [] []), (.func (.func 57) [] []), (.int .u32 (.lit (8239)))]), (.bool (.lit (1)))]), objs := [], n := 158 })
                                                   (.br (.eq (.var 0) (.lit (52)))
                                                    (.ok { v := (.tuple [(.agg [(.int .i64 (.lit (52))), (.str (.slit [97, 109, 111, 120, 111, 114])), (.int .u32 (.lit (4160778367))), (.bool (.lit (1))), (.bool (.lit (1))), (.bool (.lit (1))), (.bool (.lit (1))), (.func (.func 55) [] []), (.func (.func 45) [] []), (.func (.func 45) [] []), (.func (.func 57) [] []), (.int .u32 (.lit (536879151)))]), (.bool (.lit (1)))]), objs := [], n := 160 })
                                                    (.br (.eq (.var 0) (.lit (53)))
                                                     (.ok { v := (.tuple [(.agg [(.int .i64 (.lit (53))), (.str (.slit [97, 109, 111, 97, 110, 100])), (.int .u32 (.lit (4160778367))), (.bool (.lit (1))), (.bool (.lit (1))), (.bool (.lit (1))), (.bool (.lit (1))), (.func (.func 55) [] []), (.func (.func 45) [] []), (.func (.func 45) [] []), (.func (.func 57) [] []), (.int .u32 (.lit (1610620975)))]), (.bool (.lit (1)))]), objs := [], n := 162 })
                                                     (.br (.eq (.var 0) (.lit (54)))
                                                      (.ok { v := (.tuple [(.agg [(.int .i64 (.lit (54))), (.str (.slit [97, 109, 111, 111, 114])), (.int .u32 (.lit (4160778367))), (.bool (.lit (1))), (.bool (.lit (1))), (.bool (.lit (1))), (.bool (.lit (1))), (.func (.func 55) [] []), (.func (.func 45) [] []), (.func (.func 45) [] []), (.func (.func 57) [] []), (.int .u32 (.lit (1073750063)))]), (.bool (.lit (1)))]), objs := [], n := 164 })
                                                      (.br (.eq (.var 0) (.lit (55)))
                                                       (.ok { v := (.tuple [(.agg [(.int .i64 (.lit (55))), (.str (.slit [97, 109, 111, 109, 105, 110])), (.int .u32 (.lit (4160778367))), (.bool (.lit (1))), (.bool (.lit (1))), (.bool (.lit (1))), (.bool (.lit (1))), (.func (.func 55) [] []), (.func (.func 45) [] []), (.func (.func 45) [] []), (.func (.func 57) [] []), (.int .u32 (.lit (2147491887)))]), (.bool (.lit (1)))]), objs := [], n := 166 })
                                                       (.br (.eq (.var 0) (.lit (56)))
                                                        (.ok { v := (.tuple [(.agg [(.int .i64 (.lit (56))), (.str (.slit [97, 109, 111, 109, 97, 120])), (.int .u32 (.lit (4160778367))), (.bool (.lit (1))), (.bool (.lit (1))), (.bool (.lit (1))), (.bool (.lit (1))), (.func (.func 55) [] []), (.func (.func 45) [] []), (.func (.func 45) [] []), (.func (.func 57) [] []), (.int .u32 (.lit (2684362799)))]), (.bool (.lit (1)))]), objs := [], n := 168 })
                                                        (.br (.eq (.var 0) (.lit (57)))
                                                         (.ok { v := (.tuple [(.agg [(.int .i64 (.lit (57))), (.str (.slit [97, 109, 111, 109, 105, 110, 117])), (.int .u32 (.lit (4160778367))), (.bool (.lit (1))), (.bool (.lit (1))), (.bool (.lit (1))), (.bool (.lit (1))), (.func (.func 55) [] []), (.func (.func 45) [] []), (.func (.func 45) [] []), (.func (.func 57) [] []), (.int .u32 (.lit (3221233711)))]), (.bool (.lit (1)))]), objs := [], n := 170 })
                                                         (.br (.eq (.var 0) (.lit (58)))
                                                          (.ok { v := (.tuple [(.agg [(.int .i64 (.lit (58))), (.str (.slit [97, 109, 111, 109, 97, 120, 117])), (.int .u32 (.lit (4160778367))), (.bool (.lit (1))), (.bool (.lit (1))), (.bool (.lit (1))), (.bool (.lit (1))), (.func (.func 55) [] []), (.func (.func 45) [] []), (.func (.func 45) [] []), (.func (.func 57) [] []), (.int .u32 (.lit (3758104623)))]), (.bool (.lit (1)))]), objs := [], n := 172 })
                                                          (.br (.eq (.var 0) (.lit (59)))
                                                           (.ok { v := (.tuple [(.agg [(.int .i64 (.lit (59))), (.str (.slit [104, 97, 114, 116, 105, 100])), (.int .u32 (.lit (4294963327))), (.bool (.lit (1))), (.bool (.lit (0))), (.bool (.lit (0))), (.bool (.lit (0))), (.func (.func 55) [] []), (.func (.func 45) [] []), (.func (.func 45) [] []), (.func (.func 79) [] []), (.int .u32 (.lit (4047511667)))]), (.bool (.lit (1)))]), objs := [], n := 174 })
                                                           (.ok { v := (.tuple [(.agg [(.int .i64 (.lit (0))), (.str (.slit [])), (.int .u32 (.lit (0))), (.bool (.lit (0))), (.bool (.lit (0))), (.bool (.lit (0))), (.bool (.lit (0))), .nilfunc, .nilfunc, .nilfunc, .nilfunc, (.int .u32 (.lit (0)))]), (.bool (.lit (0)))]), objs := [], n := 174 }))))))))))))))))))))))))))))))))))))))))))))))))))))))))))))
theorem sum32_0 : leafOf LStart 7 ((ev cx23 4000).call 32 sum32_a0 (stG LStart 7)) = sum32_r0 := by kernel_rfl
def sum32 : List (List V × R Leaf) := [(sum32_a0, sum32_r0)]
theorem sum32_ok : TabOk cx23 LStart 7 4000 32 sum32 := .cons rfl sum32_0 <| .nil
noncomputable def cx32 : Cx := { cx with sm := smOf [(32, sumPar LStart 7 sum32), (23, sumPar LStart 7 sum23), (31, sumTab LStart 7 sum31), (30, sumTab LStart 7 sum30), (29, sumTab LStart 7 sum29), (22, sumTab LStart 7 sum22), (25, sumTab LStart 7 sum25), (13, sumTab LStart 7 sum13), (39, sumTab LStart 7 sum39)] }
end Go.Proofs.YtnhkiaadkkkjbaaDoor
