/- IsaText: words and instructions as bits; what is run. No condition. -/
import Derived.Test.YtfdgdbphdjijdaaDoorGOk
import Derived.Test.YtfdgdbphdjijdaaDoorGNum
namespace Go.Proofs.YtfdgdbphdjijdaaDoor
open Go Go.Proofs Go.ChangeShapes Go.WideShapes Go.RowKit
def posL (o : Nat) : Nat → List B
 | 0 => []
 | k + 1 => .pos o :: posL (o + 1) k
theorem posL_den {ρ : Env} (l : List B) (t : B) : ∀ (k o : Nat), bvDen ρ (posL o k ++ l) t = lowN (fun i => ρ.b (o + i)) k + 2 ^ k * bvDen ρ l t
 | 0, o => by simp [posL, lowN]
 | k + 1, o => by
  rw [posL, List.cons_append, bvDen_cons, posL_den l t k (o + 1), lowN, Int.mul_add, show (2 : Int) ^ (k + 1) = 2 * 2 ^ k from by rw [Int.pow_succ]; omega, Int.mul_assoc]
  have : (fun i => ρ.b (o + 1 + i)) = fun i => ρ.b (o + (i + 1)) := funext fun i => by rw [show o + 1 + i = o + (i + 1) by omega]
  rw [this]
  show b2i (ρ.b o) + _ = b2i (ρ.b (o + 0)) + _ + _
  rw [Nat.add_zero]
  omega
theorem low_test (n k : Nat) : lowN (fun i => n.testBit i) k = ((n % 2 ^ k : Nat) : Int) := by
 rw [← lowNat_cast]
 congr 1
 apply Nat.eq_of_testBit_eq
 intro i
 rw [lowNat_bit, Nat.testBit_mod_two_pow]
theorem bits_of {ρ : Env} {o k : Nat} {n : Nat} (hb : ∀ i, i < k → ρ.b (o + i) = n.testBit i) (l : List B) (t : B) : bvDen ρ (posL o k ++ l) t = ((n % 2 ^ k : Nat) : Int) + 2 ^ k * bvDen ρ l t := by
 rw [posL_den, lowN_congr hb, low_test]
theorem word_of {ρ : Env} {o k : Nat} {n : Int} (h0 : 0 ≤ n) (h1 : n < 2 ^ k) (hb : ∀ i, i < k → ρ.b (o + i) = n.toNat.testBit i) : bvDen ρ (posL o k) .zero = n := by
 have e := bits_of (ρ := ρ) (o := o) (k := k) hb [] .zero
 rw [List.append_nil] at e
 rw [e]
 obtain ⟨m, rfl⟩ := Int.eq_ofNat_of_zero_le h0
 have hm : m < 2 ^ k := by exact_mod_cast h1
 rw [show (m : Int).toNat = m from rfl, Nat.mod_eq_of_lt hm]
 simp [bvDen, B.den, b2i]
def wordX (o n : Nat) : X := .bv (posL o n) .zero
def flagX (i : Nat) : X := .cube (2 ^ i) (2 ^ i)
def instX (w op rd r1 r2 : X) : V := .agg [.int .i64 op, .int .i64 rd, .int .i64 r1, .int .i64 r2, .int .u32 w, .bool (flagX 47), .bool (flagX 48)]
def immX : X := wordX 15 32
def immH (l : List B) : X := .bv (posL 15 31 ++ l) .zero
def instV (op rd r1 r2 n : Int) (x y : Bool) : Value := .agg #[.int .i64 op, .int .i64 rd, .int .i64 r1, .int .i64 r2, .int .u32 n, .bool x, .bool y]
def instB (rd r1 r2 n : Int) (x y : Bool) (i : Nat) : Bool := if i < 5 then rd.toNat.testBit i else if i < 10 then r1.toNat.testBit (i - 5) else if i < 15 then r2.toNat.testBit (i - 10) else if i < 47 then n.toNat.testBit (i - 15) else if i < 48 then x else y
def instE (W : World) (op rd r1 r2 n : Int) (x y : Bool) : Env := { f1 := fun _ _ => 0, f2 := fun _ _ _ => 0, s := fun _ => [], sf := fun _ n => Lib.itoa n, ro := roOf W, win := fun _ => ⟨0, 0, none⟩, b := instB rd r1 r2 n x y, v := fun i => match i with
 | 0 => op
 | 1 => rd
 | 2 => r1
 | _ => r2 }
set_option maxRecDepth 100000 in
theorem open_inst {H : Type} {enc : TypeId × Value → H} {W : World} {base : Nat} {sp : Nat → Bool} {held : Bool} {r : Reach} {b0 : Nat} {v : Value} {d : DataW H} {ps : List MemPlace} (hval : Value.okWide Tryd.prog W r b0 25 v) (h : DataW.Trod enc Tryd.prog W base sp held 25 v d ps) :
  ∃ (op rd r1 r2 n : Int) (x y : Bool), v = instV op rd r1 r2 n x y ∧ 0 ≤ n ∧ n < 4294967296 := by
 obtain ⟨cs, rfl, hs⟩ := okWide_struct Tryd.underlying25 hval
 obtain ⟨fuel, hf⟩ := h
 obtain ⟨xs, m, rfl, _, hlen, hxs, hel⟩ := DataW.trod_struct Tryd.underlying25 hf
 have hc : Tryd.prog.cellsOf 25 = 7 := by kernel_rfl
 have c23 : Tryd.prog.cellsOf 22 = 1 := by kernel_rfl
 have c3 : Tryd.prog.cellsOf 3 = 1 := by kernel_rfl
 have c22 : Tryd.prog.cellsOf 23 = 1 := by kernel_rfl
 have c4 : Tryd.prog.cellsOf 4 = 1 := by kernel_rfl
 obtain ⟨l⟩ := cs
 have hl : l.length = 7 := by simpa [hc] using hs
 have hxl : xs.length = 7 := by simpa using hxs
 have get : ∀ i (hi : i < xs.length), xs[i]? = some xs[i] := fun i hi => List.getElem?_eq_getElem hi
 match l, hl with
 | [a0, a1, a2, a3, a4, a5, a6], _ =>
  have e0 := hel 0 { name := "Op", type := 22, offset := 0, embedded := false, tag := "", pkgPath := "", byteOffset := 0 } rfl
  have e1 := hel 1 { name := "Rd", type := 3, offset := 1, embedded := false, tag := "", pkgPath := "", byteOffset := 8 } rfl
  have e2 := hel 2 { name := "Rs1", type := 3, offset := 2, embedded := false, tag := "", pkgPath := "", byteOffset := 16 } rfl
  have e3 := hel 3 { name := "Rs2", type := 3, offset := 3, embedded := false, tag := "", pkgPath := "", byteOffset := 24 } rfl
  have e4 := hel 4 { name := "Imm", type := 23, offset := 4, embedded := false, tag := "", pkgPath := "", byteOffset := 32 } rfl
  have e5 := hel 5 { name := "Aq", type := 4, offset := 5, embedded := false, tag := "", pkgPath := "", byteOffset := 36 } rfl
  have e6 := hel 6 { name := "Rl", type := 4, offset := 6, embedded := false, tag := "", pkgPath := "", byteOffset := 37 } rfl
  rw [get _ (by omega)] at e0 e1 e2 e3 e4 e5 e6
  dsimp only at e0 e1 e2 e3 e4 e5 e6
  rw [c23] at e0
  rw [c3] at e1 e2 e3
  rw [c22] at e4
  rw [c4] at e5 e6
  obtain ⟨op, h0, _, _⟩ := DataW.trod_int Tryd.underlying22 e0
  obtain ⟨rd, h1, _, _⟩ := DataW.trod_int Tryd.underlying3 e1
  obtain ⟨r1, h2, _, _⟩ := DataW.trod_int Tryd.underlying3 e2
  obtain ⟨r2, h3, _, _⟩ := DataW.trod_int Tryd.underlying3 e3
  obtain ⟨n, h4, _, hn⟩ := DataW.trod_int Tryd.underlying23 e4
  obtain ⟨x, h5, _⟩ := DataW.trod_bool Tryd.underlying4 e5
  obtain ⟨y, h6, _⟩ := DataW.trod_bool Tryd.underlying4 e6
  have hr : 0 ≤ n ∧ n < 4294967296 := by
   simp [Lit.wf, IntKind.min, IntKind.max, IntKind.signed, IntKind.bits] at hn
   omega
  simp [Value.cells] at h0 h1 h2 h3 h4 h5 h6
  subst h0 h1 h2 h3 h4 h5 h6
  exact ⟨op, rd, r1, r2, n, x, y, rfl, hr⟩
theorem flag_tt {ρ : Env} (i : Nat) : (flagX i).tt ρ = ρ.b i := by
 have h := cube1 (ρ := ρ) (i := i) (b := true)
 rw [X.tt]
 unfold flagX
 rw [X.den, b2i_tt]
 cases hb : ρ.b i with
 | true => exact h.2 hb
 | false =>
  cases hc : cubeB ρ (2 ^ i) (2 ^ i) with
  | false => rfl
  | true =>
   rw [h.1 hc] at hb
   cases hb
theorem imm_bit {W : World} {op rd r1 r2 n : Int} {x y : Bool} {i : Nat} (hi : i < 32) : (instE W op rd r1 r2 n x y).b (15 + i) = n.toNat.testBit i := by
 show instB rd r1 r2 n x y (15 + i) = _
 unfold instB
 rw [if_neg (by omega), if_neg (by omega), if_neg (by omega), if_pos (by omega), show 15 + i - 15 = i by omega]
theorem imm_den {W : World} {op rd r1 r2 n : Int} {x y : Bool} (hn : 0 ≤ n ∧ n < 4294967296) : immX.den (instE W op rd r1 r2 n x y) = n :=
 word_of hn.1 (by simpa using hn.2) fun i hi => imm_bit hi
theorem immL_den {W : World} {op rd r1 r2 n : Int} {x y : Bool} (hn : 0 ≤ n ∧ n < 2147483648) : (immH []).den (instE W op rd r1 r2 n x y) = n := by
 show bvDen _ (posL 15 31 ++ []) .zero = n
 rw [List.append_nil]
 exact word_of hn.1 (by simpa using hn.2) fun i hi => imm_bit (by omega)
theorem immH_den {W : World} {op rd r1 r2 n : Int} {x y : Bool} (h1 : 2147483648 ≤ n) (h2 : n < 4294967296) : (immH [.one]).den (instE W op rd r1 r2 n x y) = n := by
 have e := bits_of (ρ := instE W op rd r1 r2 n x y) (o := 15) (k := 31) (n := n.toNat) (fun i hi => imm_bit (by omega)) [.one] .zero
 show bvDen _ (posL 15 31 ++ [.one]) .zero = n
 rw [e]
 have hm : n.toNat % 2 ^ 31 = n.toNat - 2147483648 := by omega
 rw [hm]
 simp [bvDen, B.den, b2i]
 omega
theorem instX_says {W : World} {op rd r1 r2 n : Int} {x y : Bool} {w o a b c : X} (hw : w.den (instE W op rd r1 r2 n x y) = n) (h0 : o.den (instE W op rd r1 r2 n x y) = op) (h1 : a.den (instE W op rd r1 r2 n x y) = rd) (h2 : b.den (instE W op rd r1 r2 n x y) = r1) (h3 : c.den (instE W op rd r1 r2 n x y) = r2) {S : Nat → Prop} {π0 : Pl} :
  SaysL (instE W op rd r1 r2 n x y) S π0 [instX w o a b c] [instV op rd r1 r2 n x y] := by
 intro π _
 have e5 : (flagX 47).tt (instE W op rd r1 r2 n x y) = x := flag_tt 47
 have e6 : (flagX 48).tt (instE W op rd r1 r2 n x y) = y := flag_tt 48
 simp only [instX, V.concs, V.conc, hw, h0, h1, h2, h3, e5, e6]
 rfl
theorem reg_of {W : World} {op rd r1 r2 n : Int} {x y : Bool} : (0 ≤ rd ∧ rd < 32 → (wordX 0 5).den (instE W op rd r1 r2 n x y) = rd) ∧ (0 ≤ r1 ∧ r1 < 32 → (wordX 5 5).den (instE W op rd r1 r2 n x y) = r1) ∧ (0 ≤ r2 ∧ r2 < 32 → (wordX 10 5).den (instE W op rd r1 r2 n x y) = r2) := by
 refine ⟨fun h => ?_, fun h => ?_, fun h => ?_⟩
 ·exact word_of h.1 (by simpa using h.2) fun i hi => by
   show instB rd r1 r2 n x y (0 + i) = _
   unfold instB
   rw [if_pos (by omega), Nat.zero_add]
 ·exact word_of h.1 (by simpa using h.2) fun i hi => by
   show instB rd r1 r2 n x y (5 + i) = _
   unfold instB
   rw [if_neg (by omega), if_pos (by omega), show 5 + i - 5 = i by omega]
 ·exact word_of h.1 (by simpa using h.2) fun i hi => by
   show instB rd r1 r2 n x y (10 + i) = _
   unfold instB
   rw [if_neg (by omega), if_neg (by omega), if_pos (by omega), show 10 + i - 10 = i by omega]
noncomputable def cxT : Cx := { cxD with sm := smOf [(23, numS false .i64), (15, numS true .i64), (53, numS true .u64), (79, joinS), (7, sumTab LStart 7 sum7), (18, sumPar LStart 7 sum18), (11, sumTab LStart 7 sum11), (25, sumTab LStart 7 sum25), (28, sumTab LStart 7 sum28)] }
theorem allT {ro : Nat → Obj} (h : RoAll ro) {ρ : Env} (hr : ρ.ro = ro) (hsf : ∀ n, ρ.sf 1 n = Lib.itoa n) : SumOk Tryd.prog cxT ρ :=
 smOf_okL (l := [(23, numS false .i64), (15, numS true .i64), (53, numS true .u64), (79, joinS), (7, sumTab LStart 7 sum7), (18, sumPar LStart 7 sum18), (11, sumTab LStart 7 sum11), (25, sumTab LStart 7 sum25), (28, sumTab LStart 7 sum28)]) ⟨itoa_at rfl (h ρ hr) hsf, fmtI_at rfl (h ρ hr) hsf, fmtU_at rfl (h ρ hr) hsf, join_at, at7 h hr rfl, at18 h hr rfl, at11 h hr rfl, at25 h hr rfl, at28 h hr rfl, trivial⟩ rfl
noncomputable def cxO : Cx := { cxD with sm := smOf [(23, numS false .i64), (15, numS true .i64), (53, numS true .u64), (79, joinS), (7, sumTab LStart 7 sum7), (18, sumPar LStart 7 sum18), (25, sumTab LStart 7 sum25), (28, sumTab LStart 7 sum28)] }
theorem allO {ro : Nat → Obj} (h : RoAll ro) {ρ : Env} (hr : ρ.ro = ro) (hsf : ∀ n, ρ.sf 1 n = Lib.itoa n) : SumOk Tryd.prog cxO ρ :=
 smOf_okL (l := [(23, numS false .i64), (15, numS true .i64), (53, numS true .u64), (79, joinS), (7, sumTab LStart 7 sum7), (18, sumPar LStart 7 sum18), (25, sumTab LStart 7 sum25), (28, sumTab LStart 7 sum28)]) ⟨itoa_at rfl (h ρ hr) hsf, fmtI_at rfl (h ρ hr) hsf, fmtU_at rfl (h ρ hr) hsf, join_at, at7 h hr rfl, at18 h hr rfl, at25 h hr rfl, at28 h hr rfl, trivial⟩ rfl
noncomputable def textAt (c : Cx) (w o a b d : X) (pc : PC) : Bool := allChk LStart ((evT c 4000).call 3 [instX w o a b d] (stPc pc))
def tooLow (i : Nat) : PC := [(.lt (.var i) (.lit 0), true)]
def tooHigh (i : Nat) : PC := [(.le (.lit 32) (.var i), true)]
noncomputable def textRun (k : Nat) : Bool := match X.lit (Int.ofNat k) with
 | o => (match Nat.ble k 2 with
  | true => textAt cxT (immH []) o (wordX 0 5) (wordX 5 5) (wordX 10 5) [] && textAt cxT (immH [.one]) o (wordX 0 5) (wordX 5 5) (wordX 10 5) []
  | false => textAt cxT immX o (wordX 0 5) (wordX 5 5) (wordX 10 5) []) && (textAt cxT immX o (.var 1) (.var 2) (.var 3) (tooLow 1) && (textAt cxT immX o (.var 1) (.var 2) (.var 3) (tooHigh 1) &&
  (textAt cxT immX o (wordX 0 5) (.var 2) (.var 3) (tooLow 2) && (textAt cxT immX o (wordX 0 5) (.var 2) (.var 3) (tooHigh 2) && (textAt cxT immX o (wordX 0 5) (wordX 5 5) (.var 3) (tooLow 3) && textAt cxT immX o (wordX 0 5) (wordX 5 5) (.var 3) (tooHigh 3))))))
def noOp : Nat → PC
 | 0 => []
 | k + 1 => (.eq (.var 0) (.lit (Int.ofNat (k + 1))), false) :: noOp k
noncomputable def runO : Bool := textAt cxO immX (.var 0) (.var 1) (.var 2) (.var 3) (noOp 59)
end Go.Proofs.YtfdgdbphdjijdaaDoor
