/- ScriptStarts: the other runs; all of them. No condition. -/
import Derived.Test.YtodbpiifjpnnbaaGreatDoorVRn1
import Derived.Test.YtodbpiifjpnnbaaGreatDoorVRn2
import Derived.Test.YtodbpiifjpnnbaaGreatDoorVRn3
import Derived.Test.YtodbpiifjpnnbaaGreatDoorVRn4
import Derived.Test.YtodbpiifjpnnbaaGreatDoorVRn5
import Derived.Test.YtodbpiifjpnnbaaGreatDoorVRn6
namespace Go.Proofs.YtodbpiifjpnnbaaGreatDoor
open Go Go.Proofs Go.RowKit
set_option maxRecDepth 100000 in
theorem runM0_0 : runS false 0 0 0 = true := by kernel_rfl
set_option maxRecDepth 100000 in
theorem runM0_1 : runS false 1 0 0 = true := by kernel_rfl
set_option maxRecDepth 100000 in
theorem runM0_2 : runS false 2 0 0 = true := by kernel_rfl
set_option maxRecDepth 100000 in
theorem runM0_3 : runS false 3 0 0 = true := by kernel_rfl
set_option maxRecDepth 100000 in
theorem runM0_4 : runS false 4 0 0 = true := by kernel_rfl
set_option maxRecDepth 100000 in
theorem runM0_5 : runS false 5 0 0 = true := by kernel_rfl
set_option maxRecDepth 100000 in
theorem runM0_6 : runS false 6 0 0 = true := by kernel_rfl
set_option maxRecDepth 100000 in
theorem runM0_7 : runS true 0 0 0 = true := by kernel_rfl
set_option maxRecDepth 100000 in
theorem runM1_0 : runS false 0 1 0 = true := by kernel_rfl
set_option maxRecDepth 100000 in
theorem runM1_1 : runS false 1 1 0 = true := by kernel_rfl
set_option maxRecDepth 100000 in
theorem runM1_2 : runS false 2 1 0 = true := by kernel_rfl
set_option maxRecDepth 100000 in
theorem runM1_3 : runS false 3 1 0 = true := by kernel_rfl
set_option maxRecDepth 100000 in
theorem runM1_4 : runS false 4 1 0 = true := by kernel_rfl
set_option maxRecDepth 100000 in
theorem runM1_5 : runS false 5 1 0 = true := by kernel_rfl
set_option maxRecDepth 100000 in
theorem runM1_6 : runS false 6 1 0 = true := by kernel_rfl
set_option maxRecDepth 100000 in
theorem runM1_7 : runS true 0 1 0 = true := by kernel_rfl
set_option maxRecDepth 100000 in
theorem runB_7 : runS true 0 2 0 = true := by kernel_rfl
set_option maxRecDepth 100000 in
theorem runB_0 : runS false 0 2 0 = true := by kernel_rfl
set_option maxRecDepth 100000 in
theorem runB_5 : runS false 5 2 0 = true := by kernel_rfl
set_option maxRecDepth 100000 in
theorem runB_6 : runS false 6 2 0 = true := by kernel_rfl
set_option maxRecDepth 100000 in
theorem runO0 : runG false true 0 0 = true := by kernel_rfl
set_option maxRecDepth 100000 in
theorem runG0_0 : runG false false 0 0 = true := by kernel_rfl
set_option maxRecDepth 100000 in
theorem runG0_1 : runG false false 1 0 = true := by kernel_rfl
set_option maxRecDepth 100000 in
theorem runG0_2 : runG false false 2 0 = true := by kernel_rfl
set_option maxRecDepth 100000 in
theorem runG0_3 : runG false false 3 0 = true := by kernel_rfl
set_option maxRecDepth 100000 in
theorem runG0_4 : runG false false 4 0 = true := by kernel_rfl
set_option maxRecDepth 100000 in
theorem runG0_5 : runG false false 5 0 = true := by kernel_rfl
set_option maxRecDepth 100000 in
theorem runG0_6 : runG false false 6 0 = true := by kernel_rfl
set_option maxRecDepth 100000 in
theorem runG0_7 : runG true false 0 0 = true := by kernel_rfl
set_option maxRecDepth 100000 in
theorem runO1 : runG false true 0 1 = true := by kernel_rfl
set_option maxRecDepth 100000 in
theorem runG1_0 : runG false false 0 1 = true := by kernel_rfl
set_option maxRecDepth 100000 in
theorem runG1_1 : runG false false 1 1 = true := by kernel_rfl
set_option maxRecDepth 100000 in
theorem runG1_2 : runG false false 2 1 = true := by kernel_rfl
set_option maxRecDepth 100000 in
theorem runG1_3 : runG false false 3 1 = true := by kernel_rfl
set_option maxRecDepth 100000 in
theorem runG1_4 : runG false false 4 1 = true := by kernel_rfl
set_option maxRecDepth 100000 in
theorem runG1_5 : runG false false 5 1 = true := by kernel_rfl
set_option maxRecDepth 100000 in
theorem runG1_6 : runG false false 6 1 = true := by kernel_rfl
set_option maxRecDepth 100000 in
theorem runG1_7 : runG true false 0 1 = true := by kernel_rfl
set_option maxRecDepth 100000 in
theorem runO2 : runG false true 0 2 = true := by kernel_rfl
set_option maxRecDepth 100000 in
theorem runG2_0 : runG false false 0 2 = true := by kernel_rfl
set_option maxRecDepth 100000 in
theorem runG2_1 : runG false false 1 2 = true := by kernel_rfl
set_option maxRecDepth 100000 in
theorem runG2_2 : runG false false 2 2 = true := by kernel_rfl
set_option maxRecDepth 100000 in
theorem runG2_3 : runG false false 3 2 = true := by kernel_rfl
set_option maxRecDepth 100000 in
theorem runG2_4 : runG false false 4 2 = true := by kernel_rfl
set_option maxRecDepth 100000 in
theorem runG2_5 : runG false false 5 2 = true := by kernel_rfl
set_option maxRecDepth 100000 in
theorem runG2_6 : runG false false 6 2 = true := by kernel_rfl
set_option maxRecDepth 100000 in
theorem runG2_7 : runG true false 0 2 = true := by kernel_rfl
theorem runO_all {i : Nat} (hi : i < 3) : runG false true 0 i = true := by
 match i, hi with
 | 0, _ => exact runO0
 | 1, _ => exact runO1
 | 2, _ => exact runO2
theorem runG_all {z : Bool} {k i : Nat} (hz : z = true → k = 0) (hk : k ≤ 6) (hi : i < 3) : runG z false k i = true := by
 match z, k, i, hz, hk, hi with
 | true, 0, 0, _, _, _ => exact runG0_7
 | true, 0, 1, _, _, _ => exact runG1_7
 | true, 0, 2, _, _, _ => exact runG2_7
 | true, k + 1, _, hz, _, _ => cases hz rfl
 | false, 0, 0, _, _, _ => exact runG0_0
 | false, 0, 1, _, _, _ => exact runG1_0
 | false, 0, 2, _, _, _ => exact runG2_0
 | false, 1, 0, _, _, _ => exact runG0_1
 | false, 1, 1, _, _, _ => exact runG1_1
 | false, 1, 2, _, _, _ => exact runG2_1
 | false, 2, 0, _, _, _ => exact runG0_2
 | false, 2, 1, _, _, _ => exact runG1_2
 | false, 2, 2, _, _, _ => exact runG2_2
 | false, 3, 0, _, _, _ => exact runG0_3
 | false, 3, 1, _, _, _ => exact runG1_3
 | false, 3, 2, _, _, _ => exact runG2_3
 | false, 4, 0, _, _, _ => exact runG0_4
 | false, 4, 1, _, _, _ => exact runG1_4
 | false, 4, 2, _, _, _ => exact runG2_4
 | false, 5, 0, _, _, _ => exact runG0_5
 | false, 5, 1, _, _, _ => exact runG1_5
 | false, 5, 2, _, _, _ => exact runG2_5
 | false, 6, 0, _, _, _ => exact runG0_6
 | false, 6, 1, _, _, _ => exact runG1_6
 | false, 6, 2, _, _, _ => exact runG2_6
theorem runC_all {k s : Nat} (h1 : 1 ≤ k) (h4 : k ≤ 4) (hs1 : 1 ≤ s) (hs : s < 11) : runS false k 2 s = true := by
 match k, h1, h4, s, hs1, hs with
 | 1, _, _, 1, _, _ => exact run1_1
 | 1, _, _, 2, _, _ => exact run1_2
 | 1, _, _, 3, _, _ => exact run1_3
 | 1, _, _, 4, _, _ => exact run1_4
 | 1, _, _, 5, _, _ => exact run1_5
 | 1, _, _, 6, _, _ => exact run1_6
 | 1, _, _, 7, _, _ => exact run1_7
 | 1, _, _, 8, _, _ => exact run1_8
 | 1, _, _, 9, _, _ => exact run1_9
 | 1, _, _, 10, _, _ => exact run1_10
 | 2, _, _, 1, _, _ => exact run2_1
 | 2, _, _, 2, _, _ => exact run2_2
 | 2, _, _, 3, _, _ => exact run2_3
 | 2, _, _, 4, _, _ => exact run2_4
 | 2, _, _, 5, _, _ => exact run2_5
 | 2, _, _, 6, _, _ => exact run2_6
 | 2, _, _, 7, _, _ => exact run2_7
 | 2, _, _, 8, _, _ => exact run2_8
 | 2, _, _, 9, _, _ => exact run2_9
 | 2, _, _, 10, _, _ => exact run2_10
 | 3, _, _, 1, _, _ => exact run3_1
 | 3, _, _, 2, _, _ => exact run3_2
 | 3, _, _, 3, _, _ => exact run3_3
 | 3, _, _, 4, _, _ => exact run3_4
 | 3, _, _, 5, _, _ => exact run3_5
 | 3, _, _, 6, _, _ => exact run3_6
 | 3, _, _, 7, _, _ => exact run3_7
 | 3, _, _, 8, _, _ => exact run3_8
 | 3, _, _, 9, _, _ => exact run3_9
 | 3, _, _, 10, _, _ => exact run3_10
 | 4, _, _, 1, _, _ => exact run4_1
 | 4, _, _, 2, _, _ => exact run4_2
 | 4, _, _, 3, _, _ => exact run4_3
 | 4, _, _, 4, _, _ => exact run4_4
 | 4, _, _, 5, _, _ => exact run4_5
 | 4, _, _, 6, _, _ => exact run4_6
 | 4, _, _, 7, _, _ => exact run4_7
 | 4, _, _, 8, _, _ => exact run4_8
 | 4, _, _, 9, _, _ => exact run4_9
 | 4, _, _, 10, _, _ => exact run4_10
theorem runS_all {z : Bool} {k i s0 : Nat} (hz : z = true → k = 0) (hk : k ≤ 6) (hi : i < 3) (h1 : 1 ≤ s0) (hs : s0 < 11) : ∃ s, (s = 0 ∨ s = s0) ∧ runS z k i s = true := by
 match z, k, i, hz, hk, hi with
 | true, k + 1, _, hz, _, _ => cases hz rfl
 | true, 0, 0, _, _, _ => exact ⟨0, .inl rfl, runM0_7⟩
 | true, 0, 1, _, _, _ => exact ⟨0, .inl rfl, runM1_7⟩
 | true, 0, 2, _, _, _ => exact ⟨0, .inl rfl, runB_7⟩
 | false, 0, 0, _, _, _ => exact ⟨0, .inl rfl, runM0_0⟩
 | false, 0, 1, _, _, _ => exact ⟨0, .inl rfl, runM1_0⟩
 | false, 0, 2, _, _, _ => exact ⟨0, .inl rfl, runB_0⟩
 | false, 1, 0, _, _, _ => exact ⟨0, .inl rfl, runM0_1⟩
 | false, 1, 1, _, _, _ => exact ⟨0, .inl rfl, runM1_1⟩
 | false, 1, 2, _, _, _ => exact ⟨s0, .inr rfl, runC_all (by decide) (by decide) h1 hs⟩
 | false, 2, 0, _, _, _ => exact ⟨0, .inl rfl, runM0_2⟩
 | false, 2, 1, _, _, _ => exact ⟨0, .inl rfl, runM1_2⟩
 | false, 2, 2, _, _, _ => exact ⟨s0, .inr rfl, runC_all (by decide) (by decide) h1 hs⟩
 | false, 3, 0, _, _, _ => exact ⟨0, .inl rfl, runM0_3⟩
 | false, 3, 1, _, _, _ => exact ⟨0, .inl rfl, runM1_3⟩
 | false, 3, 2, _, _, _ => exact ⟨s0, .inr rfl, runC_all (by decide) (by decide) h1 hs⟩
 | false, 4, 0, _, _, _ => exact ⟨0, .inl rfl, runM0_4⟩
 | false, 4, 1, _, _, _ => exact ⟨0, .inl rfl, runM1_4⟩
 | false, 4, 2, _, _, _ => exact ⟨s0, .inr rfl, runC_all (by decide) (by decide) h1 hs⟩
 | false, 5, 0, _, _, _ => exact ⟨0, .inl rfl, runM0_5⟩
 | false, 5, 1, _, _, _ => exact ⟨0, .inl rfl, runM1_5⟩
 | false, 5, 2, _, _, _ => exact ⟨0, .inl rfl, runB_5⟩
 | false, 6, 0, _, _, _ => exact ⟨0, .inl rfl, runM0_6⟩
 | false, 6, 1, _, _, _ => exact ⟨0, .inl rfl, runM1_6⟩
 | false, 6, 2, _, _, _ => exact ⟨0, .inl rfl, runB_6⟩
end Go.Proofs.YtodbpiifjpnnbaaGreatDoor
