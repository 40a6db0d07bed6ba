/- IsaUnlike: what Encode, Text, Decode answer of any instruction. No condition. -/
import Derived.Test.YtfdgdbphdjijdaaDoorUEv0
import Derived.Test.YtfdgdbphdjijdaaDoorUEv1
import Derived.Test.YtfdgdbphdjijdaaDoorUEv2
import Derived.Test.YtfdgdbphdjijdaaDoorUEv3
import Derived.Test.YtfdgdbphdjijdaaDoorUEv4
import Derived.Test.YtfdgdbphdjijdaaDoorUEv5
import Derived.Test.YtfdgdbphdjijdaaDoorULaw
namespace Go.Proofs.YtfdgdbphdjijdaaDoor
open Go Go.Proofs Go.RowKit
def UAll : List Nat → Prop
 | [] => True
 | k :: l => uRun k = true ∧ UAll l
theorem UAll.mem : ∀ {l : List Nat}, UAll l → ∀ k ∈ l, uRun k = true
 | [], _, k, hk => by simp at hk
 | j :: l, h, k, hk => by
  rcases List.mem_cons.1 hk with rfl | hk
  ·exact h.1
  ·exact UAll.mem h.2 k hk
def uOps : List Nat := [1, 2, 3, 4, 5, 6, 7, 8, 9, 10, 11, 12, 13, 14, 15, 16, 17, 18, 19, 20, 21, 22, 23, 24, 25, 26, 27, 28, 29, 30, 31, 32, 33, 34, 35, 36, 37, 38, 39, 40, 41, 42, 43, 44, 45, 46, 47, 48, 49, 50, 51, 52, 53, 54, 55, 56, 57, 58, 59]
theorem u_all : UAll uOps := ⟨u_1, u_2, u_3, u_4, u_5, u_6, u_7, u_8, u_9, u_10, u_11, u_12, u_13, u_14, u_15, u_16, u_17, u_18, u_19, u_20, u_21, u_22, u_23, u_24, u_25, u_26, u_27, u_28, u_29, u_30, u_31, u_32, u_33, u_34, u_35, u_36, u_37, u_38, u_39, u_40, u_41, u_42, u_43, u_44, u_45, u_46, u_47, u_48, u_49, u_50, u_51, u_52, u_53, u_54, u_55, u_56, u_57, u_58, u_59, trivial⟩
theorem uOps_mem {k : Nat} (h1 : 1 ≤ k) (h2 : k ≤ 59) : k ∈ uOps := by
 have e : uOps = List.range' 1 59 := by rfl
 rw [e, List.mem_range']
 exact ⟨k - 1, by omega, by omega⟩
theorem noOp_ok {ρ : Env} : ∀ {k : Nat}, (∀ j : Nat, 1 ≤ j → j ≤ k → ρ.v 0 ≠ j) → PcOk ρ (noOp k)
 | 0, _ => fun f hf => by simp [noOp] at hf
 | k + 1, h => fun f hf => by
  unfold noOp at hf
  rcases List.mem_cons.1 hf with rfl | hf
  ·have := h (k + 1) (by omega) (by omega)
   rw [tt_eq]
   simp only [X.den]
   exact beq_eq_false_iff_ne.2 this
  ·exact noOp_ok (fun j h1 h2 => h j h1 (by omega)) f hf
theorem low_ok {ρ : Env} {i : Nat} (h : ρ.v i < 0) : PcOk ρ (tooLow i) := fun f hf => by
 obtain rfl := List.mem_singleton.1 hf
 rw [tt_lt]
 simp only [X.den]
 exact decide_eq_true h
theorem high_ok {ρ : Env} {i : Nat} (h : 32 ≤ ρ.v i) : PcOk ρ (tooHigh i) := fun f hf => by
 obtain rfl := List.mem_singleton.1 hf
 rw [tt_le]
 simp only [X.den]
 exact decide_eq_true h
structure CallAt (ro : Nat → Obj) (f : FuncId) (a val : Value) : Prop where
 is : ∃ (c : Cx) (ρ' : Env) (pc0 : PC) (x v : V) (st' : St), SumOk Tryd.prog c ρ' ∧ c.tt = cxD.tt ∧ c.ft = cxD.ft ∧ c.ng = 7 ∧ ρ'.ro = ro ∧ PcOk ρ' pc0 ∧ ((ev c 4000).call f [x] { stG LStart 7 with pc := pc0 }).sel ρ' = some (.ret v, st') ∧ roThere LStart st'.h = true ∧ st'.n ≤ 10000 ∧ (∀ π, v.conc ρ' π = val) ∧ x.pure = true ∧ ∀ π, x.conc ρ' π = a
def encVal (r : Int) : Bool → Value
 | true => .tuple #[.int .u32 r, .int .i64 0]
 | false => .tuple #[.int .u32 0, .int .i64 2]
def txtVal (s : List UInt8) : Bool → Value
 | true => .tuple #[.string ⟨s.toArray⟩, .int .i64 0]
 | false => .tuple #[.string ⟨#[]⟩, .int .i64 2]
structure Uni (ro : Nat → Obj) (op rd r1 r2 n : Int) (p q m : Bool) (r : Int) (s : List UInt8) : Prop where
 enc : CallAt ro 9 (instV op rd r1 r2 n p q) (encVal r m)
 txt : CallAt ro 5 (instV op rd r1 r2 n p q) (txtVal s m)
 dec : m = true → CallAt ro 13 (.int .u32 r) (.tuple #[instV op rd r1 r2 n p q, .bool true])
 told : m = true → ∃ k : Nat, 1 ≤ k ∧ k ≤ 59 ∧ op = k ∧ s = textOf k p q rd r1 r2 n ∧ Told rd r1 r2 n (formOf k)
theorem eqC_ok {ρ : Env} {pc : PC} (hp : PcOk ρ pc) {x y : X} (h : eqC pc x y = true) : x.den ρ = y.den ρ := by
 unfold eqC at h
 split at h
 ·rename_i e
  rw [X.beq_eq e]
 ·split at h
  ·rename_i e
   rw [← simpX_den hp x, ← simpX_den hp y, X.beq_eq e]
  ·have k := chk_ok hp h
   rw [tt_eq] at k
   exact eq_of_beq k
theorem sameT_ok {ρ : Env} {pc : PC} (hp : PcOk ρ pc) {x : X} : ∀ {y : X}, sameT pc x y = true → x.sden ρ = y.sden ρ := by
 induction x with
 | slit a =>
  intro y h
  simp only [sameT] at h
  split at h
  ·rw [natsBeq_eq h]
  ·cases h
 | scat a b ia ib =>
  intro y h
  simp only [sameT] at h
  split at h
  ·split at h
   ·rename_i e
    simp only [X.sden]
    rw [ia e, ib h]
   ·cases h
  ·cases h
 | sfn f x ix =>
  intro y h
  simp only [sameT] at h
  split at h
  ·split at h
   ·rename_i e
    simp only [X.sden]
    rw [eqC_ok hp h, Nat.eq_of_beq_eq_true e]
   ·cases h
  ·cases h
 | _ => intro y h; simp [sameT] at h
theorem noneE_ok {ρ : Env} {π : Pl} {v : V} {pc : PC} (h : noneE v pc = true) (r : Int) : v.conc ρ π = encVal r false := by
 unfold noneE at h
 split at h
 ·rename_i z e
  simp only [Bool.and_eq_true] at h
  rw [intBeq_eq h.1, intBeq_eq h.2]
  rfl
 ·cases h
theorem noneT_ok {ρ : Env} {π : Pl} {v : V} {pc : PC} (h : noneT v pc = true) (s : List UInt8) : v.conc ρ π = txtVal s false := by
 unfold noneT at h
 split at h
 ·rename_i t e
  simp only [Bool.and_eq_true] at h
  rw [intBeq_eq h.2]
  show Value.tuple #[.string ⟨(t.sden ρ).toArray⟩, .int .i64 2] = _
  rw [isNone_ok ρ h.1]
  rfl
 ·cases h
theorem natsOf_map : ∀ l : List UInt8, (natsOf l).map UInt8.ofNat = l
 | [] => rfl
 | c :: l => by simp [natsOf, natsOf_map l]
section
variable {ρ : Env} (hsf : ∀ n, ρ.sf 1 n = Lib.itoa n)
include hsf
theorem num_sden {x r : X} (h0 : -9223372036854775808 ≤ x.den ρ) (h1 : x.den ρ ≤ 18446744073709551615) : (numX x r).sden ρ = Lib.itoa (x.den ρ) ++ r.sden ρ := by
 unfold numX
 rw [mkCat_sden]
 show nzText (ρ.sf 1 (x.den ρ)) ++ _ = _
 rw [hsf, nz_itoa h0 h1]
theorem xn_sden {x r : X} (h0 : -9223372036854775808 ≤ x.den ρ) (h1 : x.den ρ ≤ 18446744073709551615) : (xnX x r).sden ρ = xT (x.den ρ) ++ r.sden ρ := by
 unfold xnX
 rw [mkCat_sden, num_sden hsf h0 h1]
 rfl
end
theorem cm_sden {ρ : Env} {r : X} : (cmX r).sden ρ = 44 :: 32 :: r.sden ρ := by
 unfold cmX
 rw [mkCat_sden]
 rfl
theorem par_sden {ρ : Env} (hsf : ∀ n, ρ.sf 1 n = Lib.itoa n) {x : X} (h0 : -9223372036854775808 ≤ x.den ρ) (h1 : x.den ρ ≤ 18446744073709551615) : (parX x).sden ρ = 40 :: (xT (x.den ρ) ++ [41]) := by
 unfold parX
 rw [mkCat_sden, xn_sden hsf h0 h1]
 rfl
section
variable {W : World} {op rd r1 r2 n : Int} {x y : Bool}
theorem sgnX_den {hi : Bool} (hn : 0 ≤ n ∧ n < 4294967296) (hh : hi = decide (2147483648 ≤ n)) : (sgnX hi).den (instE W op rd r1 r2 n x y) = sgn n := by
 have e : ∀ t : B, bvDen (instE W op rd r1 r2 n x y) (posL 15 31) t = ((n.toNat % 2 ^ 31 : Nat) : Int) + 2 ^ 31 * bvDen (instE W op rd r1 r2 n x y) [] t := fun t => by
  have := bits_of (ρ := instE W op rd r1 r2 n x y) (o := 15) (k := 31) (n := n.toNat) (fun i hi => imm_bit (by omega)) [] t
  rwa [List.append_nil] at this
 unfold sgn
 by_cases hb : n < 2147483648
 ·have : hi = false := by rw [hh]; exact decide_eq_false (by omega)
  subst this
  rw [if_pos hb]
  show bvDen _ (posL 15 31) .zero = n
  rw [e]
  simp [bvDen, B.den, b2i]
  omega
 ·have : hi = true := by rw [hh]; exact decide_eq_true (by omega)
  subst this
  rw [if_neg hb]
  show bvDen _ (posL 15 31) .one = n - 4294967296
  rw [e]
  simp [bvDen, B.den, b2i]
  omega
theorem immT_den {hi : Bool} (hn : 0 ≤ n ∧ n < 4294967296) (hh : hi = decide (2147483648 ≤ n)) : (immH (topB hi)).den (instE W op rd r1 r2 n x y) = n := by
 by_cases hb : n < 2147483648
 ·have : hi = false := by rw [hh]; exact decide_eq_false (by omega)
  subst this
  exact immL_den ⟨hn.1, hb⟩
 ·have : hi = true := by rw [hh]; exact decide_eq_true (by omega)
  subst this
  exact immH_den (by omega) hn.2
theorem upX_den {hi : Bool} (hn : 0 ≤ n ∧ n < 4294967296) (hh : hi = decide (2147483648 ≤ n)) : (upX hi).den (instE W op rd r1 r2 n x y) = n / 4096 := by
 have e := bits_of (ρ := instE W op rd r1 r2 n x y) (o := 27) (k := 19) (n := n.toNat / 2 ^ 12) (fun i hi => by
  rw [Nat.testBit_div_two_pow, show 27 + i = 15 + (i + 12) by omega]
  exact imm_bit (by omega)) (topB hi) .zero
 show bvDen _ (posL 27 19 ++ topB hi) .zero = _
 rw [e]
 by_cases hb : n < 2147483648
 ·have : hi = false := by rw [hh]; exact decide_eq_false (by omega)
  subst this
  simp [bvDen, B.den, b2i, topB]
  omega
 ·have : hi = true := by rw [hh]; exact decide_eq_true (by omega)
  subst this
  simp [bvDen, B.den, b2i, topB]
  omega
theorem lowX_den (hn : 0 ≤ n ∧ n < 4294967296) : lowX.den (instE W op rd r1 r2 n x y) = n % 4096 := by
 have e := bits_of (ρ := instE W op rd r1 r2 n x y) (o := 15) (k := 12) (n := n.toNat) (fun i hi => imm_bit (by omega)) [] .zero
 rw [List.append_nil] at e
 show bvDen _ (posL 15 12) .zero = _
 rw [e]
 simp [bvDen, B.den, b2i]
 omega
theorem told_sden {hi : Bool} (hn : 0 ≤ n ∧ n < 4294967296) (hh : hi = decide (2147483648 ≤ n)) (a0 : 0 ≤ rd ∧ rd < 32) (a1 : 0 ≤ r1 ∧ r1 < 32) (a2 : 0 ≤ r2 ∧ r2 < 32) (f : Nat) : (toldX hi f).sden (instE W op rd r1 r2 n x y) = told rd r1 r2 n f := by
 obtain ⟨g0, g1, g2⟩ := reg_of (W := W) (op := op) (rd := rd) (r1 := r1) (r2 := r2) (n := n) (x := x) (y := y)
 have d0 : rdX.den (instE W op rd r1 r2 n x y) = rd := g0 a0
 have d1 : r1X.den (instE W op rd r1 r2 n x y) = r1 := g1 a1
 have d2 : r2X.den (instE W op rd r1 r2 n x y) = r2 := g2 a2
 have ds : (sgnX hi).den (instE W op rd r1 r2 n x y) = sgn n := sgnX_den hn hh
 have du : (upX hi).den (instE W op rd r1 r2 n x y) = n / 4096 := upX_den hn hh
 have hs : -2147483648 ≤ sgn n ∧ sgn n < 2147483648 := by unfold sgn; split <;> omega
 have k0 : ∀ r, (xnX rdX r).sden (instE W op rd r1 r2 n x y) = xT rd ++ r.sden (instE W op rd r1 r2 n x y) := fun r => by rw [xn_sden (fun _ => rfl) (by rw [d0]; omega) (by rw [d0]; omega), d0]
 have k1 : ∀ r, (xnX r1X r).sden (instE W op rd r1 r2 n x y) = xT r1 ++ r.sden (instE W op rd r1 r2 n x y) := fun r => by rw [xn_sden (fun _ => rfl) (by rw [d1]; omega) (by rw [d1]; omega), d1]
 have k2 : ∀ r, (xnX r2X r).sden (instE W op rd r1 r2 n x y) = xT r2 ++ r.sden (instE W op rd r1 r2 n x y) := fun r => by rw [xn_sden (fun _ => rfl) (by rw [d2]; omega) (by rw [d2]; omega), d2]
 have ks : ∀ r, (numX (sgnX hi) r).sden (instE W op rd r1 r2 n x y) = Lib.itoa (sgn n) ++ r.sden (instE W op rd r1 r2 n x y) := fun r => by rw [num_sden (fun _ => rfl) (by rw [ds]; omega) (by rw [ds]; omega), ds]
 have ku : ∀ r, (numX (upX hi) r).sden (instE W op rd r1 r2 n x y) = Lib.itoa (n / 4096) ++ r.sden (instE W op rd r1 r2 n x y) := fun r => by rw [num_sden (fun _ => rfl) (by rw [du]; omega) (by rw [du]; omega), du]
 have kp : (parX r1X).sden (instE W op rd r1 r2 n x y) = 40 :: (xT r1 ++ [41]) := by rw [par_sden (fun _ => rfl) (by rw [d1]; omega) (by rw [d1]; omega), d1]
 have kn : noX.sden (instE W op rd r1 r2 n x y) = [] := rfl
 match f with
 | 0 => simp only [toldX, told, k0, cm_sden, ku, kn]
 | 1 => simp only [toldX, told, k0, cm_sden, ks, kn]
 | 2 => simp only [toldX, told, k0, cm_sden, ks, kp]
 | 3 => simp only [toldX, told, k1, k2, cm_sden, ks, kn]
 | 4 => simp only [toldX, told, k2, cm_sden, ks, kp]
 | 5 => simp only [toldX, told, k0, k1, cm_sden, ks, kn]
 | 6 => simp only [toldX, told, k0, k1, k2, cm_sden, kn]
 | 7 => simp only [toldX, told, ks, kn]
 | 8 => rfl
 | 9 => simp only [toldX, told, k0, cm_sden, kp]
 | 10 => simp only [toldX, told, k0, k2, cm_sden, kp]
 | _ + 11 => simp only [toldX, told, k0, kn]
theorem text_sden {hi p q : Bool} (hn : 0 ≤ n ∧ n < 4294967296) (hh : hi = decide (2147483648 ≤ n)) (a0 : 0 ≤ rd ∧ rd < 32) (a1 : 0 ≤ r1 ∧ r1 < 32) (a2 : 0 ≤ r2 ∧ r2 < 32) (k : Nat) : (utxX k hi p q).sden (instE W op rd r1 r2 n x y) = textOf k p q rd r1 r2 n := by
 unfold utxX textOf tailOf
 rw [mkCat_sden]
 show (natsOf (nameOf k ++ sufOf p q)).map UInt8.ofNat ++ _ = _
 rw [natsOf_map, List.append_assoc]
 congr 2
 split
 ·rename_i e
  rw [if_pos (Nat.eq_of_beq_eq_true e)]
  rfl
 ·rename_i e
  have e' : ¬ formOf k = 8 := fun h => by rw [h] at e; cases e
  rw [if_neg e', mkCat_sden, told_sden hn hh a0 a1 a2]
  rfl
theorem instF_says {w o a b c : X} {p q : Bool} (hw : w.den (instE W op rd r1 r2 n x y) = n) (h0 : o.den (instE W op rd r1 r2 n x y) = op) (h1 : a.den (instE W op rd r1 r2 n x y) = rd) (h2 : b.den (instE W op rd r1 r2 n x y) = r1) (h3 : c.den (instE W op rd r1 r2 n x y) = r2) (π : Pl) : (instF w o a b c p q).conc (instE W op rd r1 r2 n x y) π = instV op rd r1 r2 n p q := by
 cases p <;> cases q <;> (simp only [instF, flagL, V.conc, V.concs, hw, h0, h1, h2, h3]; rfl)
theorem zero_told {pc : PC} (hp : PcOk (instE W op rd r1 r2 n x y) pc) {hi : Bool} {f : Nat} (hn : 0 ≤ n ∧ n < 4294967296) (hh : hi = decide (2147483648 ≤ n)) (a0 : 0 ≤ rd ∧ rd < 32) (a1 : 0 ≤ r1 ∧ r1 < 32) (a2 : 0 ≤ r2 ∧ r2 < 32) (h : zeroOk pc hi f = true) : Told rd r1 r2 n f := by
 obtain ⟨g0, g1, g2⟩ := reg_of (W := W) (op := op) (rd := rd) (r1 := r1) (r2 := r2) (n := n) (x := x) (y := y)
 unfold zeroOk at h
 simp only [Bool.and_eq_true, Bool.or_eq_true, Bool.not_eq_true'] at h
 obtain ⟨h1, h2, h3, h4, h5⟩ := h
 have nb : ∀ a b : Nat, Nat.beq a b = decide (a = b) := fun a b => by
  cases e : Nat.beq a b with
  | true => exact (decide_eq_true (Nat.eq_of_beq_eq_true e)).symm
  | false => exact (decide_eq_false fun h => by rw [h, Nat.beq_refl] at e; cases e).symm
 have nl : ∀ a b : Nat, Nat.ble a b = decide (a ≤ b) := fun a b => by
  cases e : Nat.ble a b with
  | true => exact (decide_eq_true (Nat.le_of_ble_eq_true e)).symm
  | false => exact (decide_eq_false fun h => by rw [Nat.ble_eq_true_of_le h] at e; cases e).symm
 simp only [zRd, zR1, zR2, zIm, nb, nl, Bool.or_eq_false_iff, Bool.and_eq_false_iff, Bool.not_eq_false', Bool.or_eq_true, decide_eq_false_iff_not, decide_eq_true_eq] at h1 h2 h3 h4 h5
 refine ⟨hn.1, hn.2, fun e => ?_, fun e => ?_, ?_, fun e => ?_, fun e => ?_⟩
 ·rcases h1 with h1 | h1
  ·omega
  ·have := eqC_ok hp h1
   rwa [show rdX.den _ = rd from g0 a0] at this
 ·rcases h2 with h2 | h2
  ·omega
  ·have := eqC_ok hp h2
   rwa [show r1X.den _ = r1 from g1 a1] at this
 ·rcases h3 with h3 | h3
  ·exact .inl h3
  ·have := eqC_ok hp h3
   exact .inr (by rwa [show r2X.den _ = r2 from g2 a2] at this)
 ·rcases h4 with h4 | h4
  ·omega
  ·have := eqC_ok hp h4
   rwa [immT_den hn hh] at this
 ·rcases h5 with h5 | h5
  ·omega
  ·have := eqC_ok hp h5
   rwa [lowX_den hn] at this
end
section
variable {W : World} {ro : Nat → Obj} (hall : RoAll ro) (hW : ∀ x ∈ LStart, W.heap[x.1]? = some (ro x.1))
include hall hW
theorem uCall_go {c : Cx} {ρ : Env} (hs : SumOk Tryd.prog c ρ) (h1 : c.tt = cxD.tt) (h2 : c.ft = cxD.ft) (h3 : c.ng = 7) (hr : ρ.ro = ro) {x : V} (hx : x.pure = true) {pc : PC} (hpc : PcOk ρ pc) {f : FuncId} {fn : Func} {k : V → PC → Bool} (hfn : Tryd.prog.funcs[f]? = some fn)
  (h : uCall c f x pc k = true) : ∃ (v : V) (pc' : PC), PcOk ρ pc' ∧ k v pc' = true ∧ ∀ a val, (∀ π, x.conc ρ π = a) → (∀ π, v.conc ρ π = val) → CallAt ro f a val := by
 unfold uCall at h
 rw [← evT_call] at h
 obtain ⟨v, st, e1, e2⟩ := overR_sel (ρ := ρ) h
 split at e2
 ·rename_i e3
  split at e2
  ·rename_i e4
   have hp : PcOk ρ st.pc := pc_after (w := W) (π0 := πStart) mixed_door (by rw [h1]; exact tt_ok) (by rw [h2]; exact ft_ok) hs h3 LStart_lt (hall ρ hr) (fun _ _ => rfl) (by rw [hr]; exact hW) hpc e1 (by simp [V.pures, hx]) hfn
   exact ⟨v, st.pc, hp, e2, fun a val ha hv => ⟨c, ρ, pc, x, v, st, hs, h1, h2, h3, hr, hpc, e1, e4, Nat.le_of_ble_eq_true e3, hv, hx, ha⟩⟩
  ·cases e2
 ·cases e2
theorem out_ex {c : Cx} {ρ : Env} (hs : SumOk Tryd.prog c ρ) (h1 : c.tt = cxD.tt) (h2 : c.ft = cxD.ft) (h3 : c.ng = 7) (hr : ρ.ro = ro) {x : V} (hx : x.pure = true) {pc : PC} (hpc : PcOk ρ pc) {op rd r1 r2 n : Int} {p q : Bool} (ha : ∀ π, x.conc ρ π = instV op rd r1 r2 n p q) (h : outAt c x pc = true) : ∃ u : Bool × Int × List UInt8, Uni ro op rd r1 r2 n p q u.1 u.2.1 u.2.2 := by
 unfold outAt at h
 obtain ⟨v1, pc1, p1, h, c1⟩ := uCall_go hall hW hs h1 h2 h3 hr hx hpc Tryd.func9 h
 simp only [Bool.and_eq_true] at h
 obtain ⟨v2, pc2, p2, h', c2⟩ := uCall_go hall hW hs h1 h2 h3 hr hx p1 Tryd.func5 h.2
 exact ⟨(false, 0, []), c1 _ _ ha fun π => noneE_ok h.1 0, c2 _ _ ha fun π => noneT_ok h' [], (fun h => by cases h), (fun h => by cases h)⟩
end
theorem in_ex {W : World} (hL : RoAll (roOf W)) (hW : ∀ x ∈ LStart, W.heap[x.1]? = some (roOf W x.1)) {k : Nat} {hi p q : Bool} {rd r1 r2 n : Int} (hk : 1 ≤ k ∧ k ≤ 59) (hn : 0 ≤ n ∧ n < 4294967296) (hh : hi = decide (2147483648 ≤ n)) (a0 : 0 ≤ rd ∧ rd < 32) (a1 : 0 ≤ r1 ∧ r1 < 32) (a2 : 0 ≤ r2 ∧ r2 < 32) (h : inAt k hi p q = true) : ∃ u : Bool × Int × List UInt8, Uni (roOf W) k rd r1 r2 n p q u.1 u.2.1 u.2.2 := by
 obtain ⟨g0, g1, g2⟩ := reg_of (W := W) (op := k) (rd := rd) (r1 := r1) (r2 := r2) (n := n) (x := p) (y := q)
 have hs : SumOk Tryd.prog cxT (instE W k rd r1 r2 n p q) := allT hL rfl fun _ => rfl
 have ha : ∀ π, (instF (immH (topB hi)) (.lit (Int.ofNat k)) rdX r1X r2X p q).conc (instE W k rd r1 r2 n p q) π = instV k rd r1 r2 n p q := fun π => instF_says (immT_den hn hh) rfl (g0 a0) (g1 a1) (g2 a2) π
 have hx : (instF (immH (topB hi)) (.lit (Int.ofNat k)) rdX r1X r2X p q).pure = true := by cases p <;> cases q <;> rfl
 unfold inAt at h
 dsimp only at h
 obtain ⟨v1, pc1, p1, h, c1⟩ := uCall_go hL hW hs rfl rfl rfl rfl hx (fun f hf => by cases hf) Tryd.func9 h
 unfold lookE at h
 split at h
 ·rename_i hne
  obtain ⟨v2, pc2, p2, h, c2⟩ := uCall_go hL hW hs rfl rfl rfl rfl hx p1 Tryd.func5 h
  exact ⟨(false, 0, []), c1 _ _ ha fun π => noneE_ok hne 0, c2 _ _ ha fun π => noneT_ok h [], (fun h => by cases h), (fun h => by cases h)⟩
 ·split at h
  ·rename_i w e _
   simp only [Bool.and_eq_true] at h
   obtain ⟨he, h⟩ := h
   obtain ⟨v2, pc2, p2, h, c2⟩ := uCall_go hL hW hs rfl rfl rfl rfl hx p1 Tryd.func5 h
   unfold lookT at h
   split at h
   ·rename_i t e2
    simp only [Bool.and_eq_true] at h
    obtain ⟨he2, ht, hz, h⟩ := h
    obtain ⟨v3, pc3, p3, h, c3⟩ := uCall_go hL hW hs rfl rfl rfl rfl rfl p2 Tryd.func13 h
    have eT := (sameT_ok p2 ht).trans (text_sden hn hh a0 a1 a2 k)
    refine ⟨(true, w.den (instE W k rd r1 r2 n p q), textOf k p q rd r1 r2 n), c1 _ _ ha fun π => ?_, c2 _ _ ha fun π => ?_, fun _ => c3 _ _ (fun π => rfl) fun π => ?_, fun _ => ⟨k, hk.1, hk.2, rfl, rfl, zero_told p2 hn hh a0 a1 a2 hz⟩⟩
    ·rw [intBeq_eq he]
     rfl
    ·rw [intBeq_eq he2]
     show Value.tuple #[.string ⟨(t.sden _).toArray⟩, .int .i64 0] = _
     rw [eT]
     rfl
    ·unfold decOk at h
     split at h
     ·rename_i o a b c i p' q' is
      simp only [Bool.and_eq_true] at h
      obtain ⟨i1, i2, i3, i4, i5, i6, i7, i8⟩ := h
      have j1 := chk_ok p3 i1
      have j2 := eqC_ok p3 i2
      have j3 := (eqC_ok p3 i3).trans (g0 a0)
      have j4 := (eqC_ok p3 i4).trans (g1 a1)
      have j5 := (eqC_ok p3 i5).trans (g2 a2)
      have j6 := (eqC_ok p3 i6).trans (immT_den hn hh)
      have j7 := chk_ok p3 i7
      have j8 := chk_ok p3 i8
      simp only [V.conc, V.concs, j1, j2, j3, j4, j5, j6, j7, j8]
      rfl
     ·cases h
   ·cases h
  ·cases h
theorem uni_ex {W : World} (hL : RoAll (roOf W)) (hW : ∀ x ∈ LStart, W.heap[x.1]? = some (roOf W x.1)) {op rd r1 r2 n : Int} {p q : Bool} (hn : 0 ≤ n ∧ n < 4294967296) : ∃ u : Bool × Int × List UInt8, Uni (roOf W) op rd r1 r2 n p q u.1 u.2.1 u.2.2 := by
 obtain ⟨g0, g1, g2⟩ := reg_of (W := W) (op := op) (rd := rd) (r1 := r1) (r2 := r2) (n := n) (x := p) (y := q)
 have hi := imm_den (W := W) (op := op) (rd := rd) (r1 := r1) (r2 := r2) (x := p) (y := q) hn
 have says : ∀ {w o a b d : X}, w.den (instE W op rd r1 r2 n p q) = n → o.den (instE W op rd r1 r2 n p q) = op → a.den (instE W op rd r1 r2 n p q) = rd → b.den (instE W op rd r1 r2 n p q) = r1 → d.den (instE W op rd r1 r2 n p q) = r2 → ∀ π, (instX w o a b d).conc (instE W op rd r1 r2 n p q) π = instV op rd r1 r2 n p q := fun hw h0 h1 h2 h3 π => by
  have := instX_says (W := W) hw h0 h1 h2 h3 (S := fun _ => False) (π0 := π) π fun _ h => h.elim
  exact (List.cons.inj this).1
 by_cases hop : ∃ k : Nat, 1 ≤ k ∧ k ≤ 59 ∧ op = k
 ·obtain ⟨k, h1, h2, rfl⟩ := hop
  have hk := UAll.mem u_all k (uOps_mem h1 h2)
  unfold uRun inRun outRun at hk
  dsimp only at hk
  simp only [Bool.and_eq_true] at hk
  obtain ⟨⟨l0, l1, l2, l3⟩, ⟨m0, m1, m2, m3⟩, k1, k2, k3, k4, k5, k6⟩ := hk
  have hs : SumOk Tryd.prog cxT (instE W k rd r1 r2 n p q) := allT hL rfl fun _ => rfl
  by_cases a1 : rd < 0
  ·exact out_ex hL hW hs rfl rfl rfl rfl rfl (low_ok (i := 1) a1) (says hi rfl rfl rfl rfl) k1
  by_cases a2 : 32 ≤ rd
  ·exact out_ex hL hW hs rfl rfl rfl rfl rfl (high_ok (i := 1) a2) (says hi rfl rfl rfl rfl) k2
  have h0 := g0 ⟨by omega, by omega⟩
  by_cases b1 : r1 < 0
  ·exact out_ex hL hW hs rfl rfl rfl rfl rfl (low_ok (i := 2) b1) (says hi rfl h0 rfl rfl) k3
  by_cases b2 : 32 ≤ r1
  ·exact out_ex hL hW hs rfl rfl rfl rfl rfl (high_ok (i := 2) b2) (says hi rfl h0 rfl rfl) k4
  have h1' := g1 ⟨by omega, by omega⟩
  by_cases c1 : r2 < 0
  ·exact out_ex hL hW hs rfl rfl rfl rfl rfl (low_ok (i := 3) c1) (says hi rfl h0 h1' rfl) k5
  by_cases c2 : 32 ≤ r2
  ·exact out_ex hL hW hs rfl rfl rfl rfl rfl (high_ok (i := 3) c2) (says hi rfl h0 h1' rfl) k6
  have go : ∀ {hi : Bool}, hi = decide (2147483648 ≤ n) → inAt k hi p q = true → ∃ u : Bool × Int × List UInt8, Uni (roOf W) k rd r1 r2 n p q u.1 u.2.1 u.2.2 := fun hh h => in_ex hL hW ⟨h1, h2⟩ hn hh ⟨by omega, by omega⟩ ⟨by omega, by omega⟩ ⟨by omega, by omega⟩ h
  by_cases hb : n < 2147483648
  ·refine go (hi := false) (decide_eq_false (by omega)).symm ?_
   cases p <;> cases q
   ·exact l0
   ·exact l2
   ·exact l1
   ·exact l3
  ·refine go (hi := true) (decide_eq_true (by omega)).symm ?_
   cases p <;> cases q
   ·exact m0
   ·exact m2
   ·exact m1
   ·exact m3
 ·exact out_ex hL hW (allO hL (ρ := instE W op rd r1 r2 n p q) rfl fun _ => rfl) rfl rfl rfl rfl rfl (noOp_ok fun j h1 h2 e => hop ⟨j, h1, h2, e⟩) (says hi rfl rfl rfl rfl) u_other
end Go.Proofs.YtfdgdbphdjijdaaDoor
