/- What some functions leave, by runs. No condition. -/
import Derived.Test.YtnhkiaadkkkjbaaDoorDoor
namespace Go.Proofs.YtnhkiaadkkkjbaaDoor
open Go Go.Proofs
set_option maxRecDepth 100000
def sum39_a0 : List V := [(.str (.slit [98, 101, 113, 32, 98, 110, 101, 32, 98, 108, 116, 32, 98, 103, 101, 32, 98, 108, 116, 117, 32, 98, 103, 101, 117]))]
def sum39_r0 : R Leaf := (.ok { v := (.slice 7 0 6 (.known 6)), objs := [(7, .cells [(.str (.slit [98, 101, 113])), (.str (.slit [98, 110, 101])), (.str (.slit [98, 108, 116])), (.str (.slit [98, 103, 101])), (.str (.slit [98, 108, 116, 117])), (.str (.slit [98, 103, 101, 117]))] 9 none)], n := 8 })
theorem sum39_0 : leafOf LStart 7 ((ev cx 4000).call 39 sum39_a0 (stG LStart 7)) = sum39_r0 := by kernel_rfl
def sum39_a1 : List V := [(.str (.slit [108, 98, 32, 108, 104, 32, 108, 119, 32, 108, 98, 117, 32, 108, 104, 117]))]
def sum39_r1 : R Leaf := (.ok { v := (.slice 7 0 5 (.known 5)), objs := [(7, .cells [(.str (.slit [108, 98])), (.str (.slit [108, 104])), (.str (.slit [108, 119])), (.str (.slit [108, 98, 117])), (.str (.slit [108, 104, 117]))] 9 none)], n := 8 })
theorem sum39_1 : leafOf LStart 7 ((ev cx 4000).call 39 sum39_a1 (stG LStart 7)) = sum39_r1 := by kernel_rfl
def sum39_a2 : List V := [(.str (.slit [115, 98, 32, 115, 104, 32, 115, 119]))]
def sum39_r2 : R Leaf := (.ok { v := (.slice 7 0 3 (.known 3)), objs := [(7, .cells [(.str (.slit [115, 98])), (.str (.slit [115, 104])), (.str (.slit [115, 119]))] 9 none)], n := 8 })
theorem sum39_2 : leafOf LStart 7 ((ev cx 4000).call 39 sum39_a2 (stG LStart 7)) = sum39_r2 := by kernel_rfl
def sum39_a3 : List V := [(.str (.slit [97, 100, 100, 105, 32, 115, 108, 116, 105, 32, 115, 108, 116, 105, 117, 32, 120, 111, 114, 105, 32, 111, 114, 105, 32, 97, 110, 100, 105]))]
def sum39_r3 : R Leaf := (.ok { v := (.slice 7 0 6 (.known 6)), objs := [(7, .cells [(.str (.slit [97, 100, 100, 105])), (.str (.slit [115, 108, 116, 105])), (.str (.slit [115, 108, 116, 105, 117])), (.str (.slit [120, 111, 114, 105])), (.str (.slit [111, 114, 105])), (.str (.slit [97, 110, 100, 105]))] 9 none)], n := 8 })
theorem sum39_3 : leafOf LStart 7 ((ev cx 4000).call 39 sum39_a3 (stG LStart 7)) = sum39_r3 := by kernel_rfl
def sum39_a4 : List V := [(.str (.slit [115, 108, 108, 105, 32, 115, 114, 108, 105]))]
def sum39_r4 : R Leaf := (.ok { v := (.slice 7 0 2 (.known 2)), objs := [(7, .cells [(.str (.slit [115, 108, 108, 105])), (.str (.slit [115, 114, 108, 105]))] 9 none)], n := 8 })
theorem sum39_4 : leafOf LStart 7 ((ev cx 4000).call 39 sum39_a4 (stG LStart 7)) = sum39_r4 := by kernel_rfl
def sum39_a5 : List V := [(.str (.slit [115, 108, 108, 32, 115, 108, 116, 32, 115, 108, 116, 117, 32, 120, 111, 114, 32, 115, 114, 108]))]
def sum39_r5 : R Leaf := (.ok { v := (.slice 7 0 5 (.known 5)), objs := [(7, .cells [(.str (.slit [115, 108, 108])), (.str (.slit [115, 108, 116])), (.str (.slit [115, 108, 116, 117])), (.str (.slit [120, 111, 114])), (.str (.slit [115, 114, 108]))] 9 none)], n := 8 })
theorem sum39_5 : leafOf LStart 7 ((ev cx 4000).call 39 sum39_a5 (stG LStart 7)) = sum39_r5 := by kernel_rfl
def sum39_a6 : List V := [(.str (.slit [111, 114, 32, 97, 110, 100]))]
def sum39_r6 : R Leaf := (.ok { v := (.slice 7 0 2 (.known 2)), objs := [(7, .cells [(.str (.slit [111, 114])), (.str (.slit [97, 110, 100]))] 9 none)], n := 8 })
theorem sum39_6 : leafOf LStart 7 ((ev cx 4000).call 39 sum39_a6 (stG LStart 7)) = sum39_r6 := by kernel_rfl
def sum39_a7 : List V := [(.str (.slit [109, 117, 108, 32, 109, 117, 108, 104, 32, 109, 117, 108, 104, 115, 117, 32, 109, 117, 108, 104, 117, 32, 100, 105, 118, 32, 100, 105, 118, 117, 32, 114, 101, 109, 32, 114, 101, 109, 117]))]
def sum39_r7 : R Leaf := (.ok { v := (.slice 7 0 8 (.known 8)), objs := [(7, .cells [(.str (.slit [109, 117, 108])), (.str (.slit [109, 117, 108, 104])), (.str (.slit [109, 117, 108, 104, 115, 117])), (.str (.slit [109, 117, 108, 104, 117])), (.str (.slit [100, 105, 118])), (.str (.slit [100, 105, 118, 117])), (.str (.slit [114, 101, 109])), (.str (.slit [114, 101, 109, 117]))] 9 none)], n := 8 })
theorem sum39_7 : leafOf LStart 7 ((ev cx 4000).call 39 sum39_a7 (stG LStart 7)) = sum39_r7 := by kernel_rfl
def sum39_a8 : List V := [(.str (.slit [108, 114]))]
def sum39_r8 : R Leaf := (.ok { v := (.slice 7 0 1 (.known 1)), objs := [(7, .cells [(.str (.slit [108, 114]))] 9 none)], n := 8 })
theorem sum39_8 : leafOf LStart 7 ((ev cx 4000).call 39 sum39_a8 (stG LStart 7)) = sum39_r8 := by kernel_rfl
def sum39_a9 : List V := [(.str (.slit [115, 99, 32, 97, 109, 111, 115, 119, 97, 112, 32, 97, 109, 111, 97, 100, 100, 32, 97, 109, 111, 120, 111, 114, 32, 97, 109, 111, 97, 110, 100, 32, 97, 109, 111, 111, 114, 32, 97, 109, 111, 109, 105, 110, 32, 97, 109, 111, 109, 97, 120, 32, 97, 109, 111, 109, 105, 110, 117, 32, 97, 109, 111, 109, 97, 120, 117]))]
def sum39_r9 : R Leaf := (.ok { v := (.slice 7 0 10 (.known 10)), objs := [(7, .cells [(.str (.slit [115, 99])), (.str (.slit [97, 109, 111, 115, 119, 97, 112])), (.str (.slit [97, 109, 111, 97, 100, 100])), (.str (.slit [97, 109, 111, 120, 111, 114])), (.str (.slit [97, 109, 111, 97, 110, 100])), (.str (.slit [97, 109, 111, 111, 114])), (.str (.slit [97, 109, 111, 109, 105, 110])), (.str (.slit [97, 109, 111, 109, 97, 120])), (.str (.slit [97, 109, 111, 109, 105, 110, 117])), (.str (.slit [97, 109, 111, 109, 97, 120, 117]))] 9 none)], n := 8 })
theorem sum39_9 : leafOf LStart 7 ((ev cx 4000).call 39 sum39_a9 (stG LStart 7)) = sum39_r9 := by kernel_rfl
def sum39 : List (List V × R Leaf) := [(sum39_a0, sum39_r0), (sum39_a1, sum39_r1), (sum39_a2, sum39_r2), (sum39_a3, sum39_r3), (sum39_a4, sum39_r4), (sum39_a5, sum39_r5), (sum39_a6, sum39_r6), (sum39_a7, sum39_r7), (sum39_a8, sum39_r8), (sum39_a9, sum39_r9)]
theorem sum39_ok : TabOk cx LStart 7 4000 39 sum39 := .cons rfl sum39_0 <| .cons rfl sum39_1 <| .cons rfl sum39_2 <| .cons rfl sum39_3 <| .cons rfl sum39_4 <| .cons rfl sum39_5 <| .cons rfl sum39_6 <| .cons rfl sum39_7 <| .cons rfl sum39_8 <| .cons rfl sum39_9 <| .nil
noncomputable def cx39 : Cx := { cx with sm := smOf [(39, sumTab LStart 7 sum39)] }
def sum13_a0 : List V := []
def sum13_r0 : R Leaf := (.ok { v := (.bool (.lit (1))), objs := [], n := 168 })
theorem sum13_0 : leafOf LStart 7 ((ev cx39 4000).call 13 sum13_a0 (stG LStart 7)) = sum13_r0 := by kernel_rfl
def sum13 : List (List V × R Leaf) := [(sum13_a0, sum13_r0)]
theorem sum13_ok : TabOk cx39 LStart 7 4000 13 sum13 := .cons rfl sum13_0 <| .nil
noncomputable def cx13 : Cx := { cx with sm := smOf [(13, sumTab LStart 7 sum13), (39, sumTab LStart 7 sum39)] }
end Go.Proofs.YtnhkiaadkkkjbaaDoor
