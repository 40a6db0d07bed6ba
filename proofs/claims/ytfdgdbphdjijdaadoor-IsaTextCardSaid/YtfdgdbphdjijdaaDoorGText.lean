/- IsaText: of any instruction the law answers true, and nothing that was there is turned. No condition. -/
import Derived.Test.YtfdgdbphdjijdaaDoorGEv0
import Derived.Test.YtfdgdbphdjijdaaDoorGEv1
import Derived.Test.YtfdgdbphdjijdaaDoorGEv2
import Derived.Test.YtfdgdbphdjijdaaDoorGEv3
namespace Go.Proofs.YtfdgdbphdjijdaaDoor
open Go Go.Proofs Go.ChangeShapes Go.WideShapes Go.ChangeAt Go.RowKit
def TextAll : List Nat → Prop
 | [] => True
 | k :: l => textRun k = true ∧ TextAll l
theorem TextAll.mem : ∀ {l : List Nat}, TextAll l → ∀ k ∈ l, textRun k = true
 | [], _, k, hk => by simp at hk
 | j :: l, h, k, hk => by
  rcases List.mem_cons.1 hk with rfl | hk
  ·exact h.1
  ·exact TextAll.mem h.2 k hk
def ops59 : List Nat := [1, 2, 3, 4, 5, 6, 7, 8, 9, 10, 11, 12, 13, 14, 15, 16, 17, 18, 19, 20, 21, 22, 23, 24, 25, 26, 27, 28, 29, 30, 31, 32, 33, 34, 35, 36, 37, 38, 39, 40, 41, 42, 43, 44, 45, 46, 47, 48, 49, 50, 51, 52, 53, 54, 55, 56, 57, 58, 59]
theorem text_all : TextAll ops59 := ⟨text_1, text_2, text_3, text_4, text_5, text_6, text_7, text_8, text_9, text_10, text_11, text_12, text_13, text_14, text_15, text_16, text_17, text_18, text_19, text_20, text_21, text_22, text_23, text_24, text_25, text_26, text_27, text_28, text_29, text_30, text_31, text_32, text_33, text_34, text_35, text_36, text_37, text_38, text_39, text_40, text_41, text_42, text_43, text_44, text_45, text_46, text_47, text_48, text_49, text_50, text_51, text_52, text_53, text_54, text_55, text_56, text_57, text_58, text_59, trivial⟩
theorem ops59_mem {k : Nat} (h1 : 1 ≤ k) (h2 : k ≤ 59) : k ∈ ops59 := by
 have e : ops59 = List.range' 1 59 := by rfl
 rw [e, List.mem_range']
 exact ⟨k - 1, by omega, by omega⟩
theorem noOp_ok {ρ : Env} : ∀ {k : Nat}, (∀ j : Nat, 1 ≤ j → j ≤ k → ρ.v 0 ≠ j) → PcOk ρ (noOp k)
 | 0, _ => fun f hf => by simp [noOp] at hf
 | k + 1, h => fun f hf => by
  unfold noOp at hf
  rcases List.mem_cons.1 hf with rfl | hf
  ·have := h (k + 1) (by omega) (by omega)
   rw [tt_eq]
   simp only [X.den]
   exact beq_eq_false_iff_ne.2 this
  ·exact noOp_ok (fun j h1 h2 => h j h1 (by omega)) f hf
theorem low_ok {ρ : Env} {i : Nat} (h : ρ.v i < 0) : PcOk ρ (tooLow i) := fun f hf => by
 obtain rfl := List.mem_singleton.1 hf
 rw [tt_lt]
 simp only [X.den]
 exact decide_eq_true h
theorem high_ok {ρ : Env} {i : Nat} (h : 32 ≤ ρ.v i) : PcOk ρ (tooHigh i) := fun f hf => by
 obtain rfl := List.mem_singleton.1 hf
 rw [tt_le]
 simp only [X.den]
 exact decide_eq_true h
theorem text_go {W : World} (hL : laidMetH Tryd.prog Rows.isaTextRow.laid W) {op rd r1 r2 n : Int} {x y : Bool} {c : Cx} (hs : SumOk Tryd.prog c (instE W op rd r1 r2 n x y)) (htt : c.tt = cxD.tt) (hft : c.ft = cxD.ft) (hng : c.ng = 7) {w o a b d : X} {pc : PC} (hr : textAt c w o a b d pc = true) (hw : w.den (instE W op rd r1 r2 n x y) = n) (h0 : o.den (instE W op rd r1 r2 n x y) = op) (h1 : a.den (instE W op rd r1 r2 n x y) = rd) (h2 : b.den (instE W op rd r1 r2 n x y) = r1) (h3 : d.den (instE W op rd r1 r2 n x y) = r2) (hp : PcOk (instE W op rd r1 r2 n x y) pc) :
  Calls Tryd.prog 3 #[instV op rd r1 r2 n x y] W fun e W' => e = .returned (.bool true) ∧ Below W.heap.size W W' := by
 unfold textAt at hr
 rw [← evT_call] at hr
 exact law_chk (by rw [htt]; exact tt_ok) (by rw [hft]; exact ft_ok) hng hs Tryd.func3 hL rfl hp hr (instX_says hw h0 h1 h2 h3)
theorem text_walk {W : World} (hL : laidMetH Tryd.prog Rows.isaTextRow.laid W) {op rd r1 r2 n : Int} {x y : Bool} (hn : 0 ≤ n ∧ n < 4294967296) : Calls Tryd.prog 3 #[instV op rd r1 r2 n x y] W fun e W' => e = .returned (.bool true) ∧ Below W.heap.size W W' := by
 obtain ⟨g0, g1, g2⟩ := reg_of (W := W) (op := op) (rd := rd) (r1 := r1) (r2 := r2) (n := n) (x := x) (y := y)
 by_cases hop : ∃ k : Nat, 1 ≤ k ∧ k ≤ 59 ∧ op = k
 ·obtain ⟨k, h1, h2, rfl⟩ := hop
  have hk := TextAll.mem text_all k (ops59_mem h1 h2)
  unfold textRun at hk
  dsimp only at hk
  simp only [Bool.and_eq_true] at hk
  obtain ⟨k0, k1, k2, k3, k4, k5, k6⟩ := hk
  have hs : SumOk Tryd.prog cxT (instE W k rd r1 r2 n x y) := allT (roAll_start hL) rfl fun _ => rfl
  have go : ∀ {w a b c : X} {pc : PC}, textAt cxT w (.lit (Int.ofNat k)) a b c pc = true → w.den (instE W k rd r1 r2 n x y) = n → a.den (instE W k rd r1 r2 n x y) = rd → b.den (instE W k rd r1 r2 n x y) = r1 → c.den (instE W k rd r1 r2 n x y) = r2 → PcOk (instE W k rd r1 r2 n x y) pc →
    Calls Tryd.prog 3 #[instV k rd r1 r2 n x y] W fun e W' => e = .returned (.bool true) ∧ Below W.heap.size W W' := fun hr hw ha hb hc hp => text_go hL hs rfl rfl rfl hr hw rfl ha hb hc hp
  have hi := imm_den (W := W) (op := k) (rd := rd) (r1 := r1) (r2 := r2) (x := x) (y := y) hn
  by_cases a1 : rd < 0
  ·exact go k1 hi rfl rfl rfl (low_ok a1)
  by_cases a2 : 32 ≤ rd
  ·exact go k2 hi rfl rfl rfl (high_ok a2)
  have h0 := g0 ⟨by omega, by omega⟩
  by_cases b1 : r1 < 0
  ·exact go k3 hi h0 rfl rfl (low_ok b1)
  by_cases b2 : 32 ≤ r1
  ·exact go k4 hi h0 rfl rfl (high_ok b2)
  have h1 := g1 ⟨by omega, by omega⟩
  by_cases c1 : r2 < 0
  ·exact go k5 hi h0 h1 rfl (low_ok c1)
  by_cases c2 : 32 ≤ r2
  ·exact go k6 hi h0 h1 rfl (high_ok c2)
  have h2 := g2 ⟨by omega, by omega⟩
  split at k0
  ·simp only [Bool.and_eq_true] at k0
   by_cases hb : n < 2147483648
   ·exact go k0.1 (immL_den ⟨hn.1, hb⟩) h0 h1 h2 fun f hf => by simp at hf
   ·exact go k0.2 (immH_den (by omega) hn.2) h0 h1 h2 fun f hf => by simp at hf
  ·exact go k0 hi h0 h1 h2 fun f hf => by simp at hf
 ·exact text_go hL (allO (roAll_start hL) rfl fun _ => rfl) rfl rfl rfl text_other (imm_den hn) rfl rfl rfl rfl (noOp_ok fun j h1 h2 e => hop ⟨j, h1, h2, e⟩)
end Go.Proofs.YtfdgdbphdjijdaaDoor
