/- IsaEncode: all the Ops' runs. No condition. -/
import Derived.Test.YtnhkiaadkkkjbaaDoorIsaEncodeB
import Derived.Test.YtnhkiaadkkkjbaaDoorIsaEncodeC
import Derived.Test.YtnhkiaadkkkjbaaDoorIsaEncodeD
import Derived.Test.YtnhkiaadkkkjbaaDoorIsaEncodeE
namespace Go.Proofs.YtnhkiaadkkkjbaaDoor
open Go Go.Proofs

def EncAll : List Nat → Prop
  | [] => True
  | k :: l => encRun k = true ∧ EncAll l
theorem EncAll.mem : ∀ {l : List Nat}, EncAll l → ∀ k ∈ l, encRun k = true
  | [], _, k, hk => by simp at hk
  | j :: l, h, k, hk => by
    rcases List.mem_cons.1 hk with rfl | hk
    · exact h.1
    · exact EncAll.mem h.2 k hk
def ops59 : List Nat := [1, 2, 3, 4, 5, 6, 7, 8, 9, 10, 11, 12, 13, 14, 15, 16, 17, 18, 19, 20, 21, 22, 23, 24, 25, 26, 27, 28, 29, 30, 31, 32, 33, 34, 35, 36, 37, 38, 39, 40, 41, 42, 43, 44, 45, 46, 47, 48, 49, 50, 51, 52, 53, 54, 55, 56, 57, 58, 59]
theorem enc_all : EncAll ops59 := ⟨enc_1, enc_2, enc_3, enc_4, enc_5, enc_6, enc_7, enc_8, enc_9, enc_10, enc_11, enc_12, enc_13, enc_14, enc_15, enc_16, enc_17, enc_18, enc_19, enc_20, enc_21, enc_22, enc_23, enc_24, enc_25, enc_26, enc_27, enc_28, enc_29, enc_30, enc_31, enc_32, enc_33, enc_34, enc_35, enc_36, enc_37, enc_38, enc_39, enc_40, enc_41, enc_42, enc_43, enc_44, enc_45, enc_46, enc_47, enc_48, enc_49, enc_50, enc_51, enc_52, enc_53, enc_54, enc_55, enc_56, enc_57, enc_58, enc_59, trivial⟩
theorem ops59_mem {k : Nat} (h1 : 1 ≤ k) (h2 : k ≤ 59) : k ∈ ops59 := by
  have e : ops59 = List.range' 1 59 := by rfl
  rw [e, List.mem_range']
  exact ⟨k - 1, by omega, by omega⟩
end Go.Proofs.YtnhkiaadkkkjbaaDoor
