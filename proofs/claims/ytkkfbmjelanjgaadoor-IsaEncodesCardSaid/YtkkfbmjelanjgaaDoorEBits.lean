/- IsaEncodes: words and instructions as bits; what is looked at. No condition. -/
import Derived.Test.YtkkfbmjelanjgaaDoorEOk
import Derived.Test.YtkkfbmjelanjgaaDoorFwF
namespace Go.Proofs.YtkkfbmjelanjgaaDoor
open Go Go.Proofs
def posL (o : Nat) : Nat → List B
 | 0 => []
 | k + 1 => .pos o :: posL (o + 1) k
theorem posL_den {ρ : Env} (l : List B) (t : B) : ∀ (k o : Nat), bvDen ρ (posL o k ++ l) t = lowN (fun i => ρ.b (o + i)) k + 2 ^ k * bvDen ρ l t
 | 0, o => by simp [posL, lowN]
 | k + 1, o => by
  rw [posL, List.cons_append, bvDen_cons, posL_den l t k (o + 1), lowN, Int.mul_add, show (2 : Int) ^ (k + 1) = 2 * 2 ^ k from by rw [Int.pow_succ]; omega, Int.mul_assoc]
  have : (fun i => ρ.b (o + 1 + i)) = fun i => ρ.b (o + (i + 1)) := funext fun i => by rw [show o + 1 + i = o + (i + 1) by omega]
  rw [this]
  show b2i (ρ.b o) + _ = b2i (ρ.b (o + 0)) + _ + _
  rw [Nat.add_zero]
  omega
theorem low_test (n k : Nat) : lowN (fun i => n.testBit i) k = ((n % 2 ^ k : Nat) : Int) := by
 rw [← lowNat_cast]
 congr 1
 apply Nat.eq_of_testBit_eq
 intro i
 rw [lowNat_bit, Nat.testBit_mod_two_pow]
theorem bits_of {ρ : Env} {o k : Nat} {n : Nat} (hb : ∀ i, i < k → ρ.b (o + i) = n.testBit i) (l : List B) (t : B) : bvDen ρ (posL o k ++ l) t = ((n % 2 ^ k : Nat) : Int) + 2 ^ k * bvDen ρ l t := by
 rw [posL_den, lowN_congr hb, low_test]
theorem word_of {ρ : Env} {o k : Nat} {n : Int} (h0 : 0 ≤ n) (h1 : n < 2 ^ k) (hb : ∀ i, i < k → ρ.b (o + i) = n.toNat.testBit i) : bvDen ρ (posL o k) .zero = n := by
 have e := bits_of (ρ := ρ) (o := o) (k := k) hb [] .zero
 rw [List.append_nil] at e
 rw [e]
 obtain ⟨m, rfl⟩ := Int.eq_ofNat_of_zero_le h0
 have hm : m < 2 ^ k := by exact_mod_cast h1
 rw [show (m : Int).toNat = m from rfl, Nat.mod_eq_of_lt hm]
 simp [bvDen, B.den, b2i]
def wordX (o n : Nat) : X := .bv (posL o n) .zero
def flagX (i : Nat) : X := .cube (2 ^ i) (2 ^ i)
def instX (op rd r1 r2 : X) : V := .agg [.int .i64 op, .int .i64 rd, .int .i64 r1, .int .i64 r2, .int .u32 (wordX 15 32), .bool (flagX 47), .bool (flagX 48)]
def instV (op rd r1 r2 n : Int) (x y : Bool) : Value := .agg #[.int .i64 op, .int .i64 rd, .int .i64 r1, .int .i64 r2, .int .u32 n, .bool x, .bool y]
def instB (rd r1 r2 n : Int) (x y : Bool) (i : Nat) : Bool := if i < 5 then rd.toNat.testBit i else if i < 10 then r1.toNat.testBit (i - 5) else if i < 15 then r2.toNat.testBit (i - 10) else if i < 47 then n.toNat.testBit (i - 15) else if i < 48 then x else y
def instE (ro : Nat → Obj) (op rd r1 r2 n : Int) (x y : Bool) : Env := { f1 := fun _ _ => 0, f2 := fun _ _ _ => 0, s := fun _ => [], sf := fun _ _ => [], ro := ro, win := fun _ => ⟨0, 0, none⟩, b := instB rd r1 r2 n x y, v := fun i => match i with
 | 0 => op
 | 1 => rd
 | 2 => r1
 | _ => r2 }
theorem flag_tt {ρ : Env} (i : Nat) : (flagX i).tt ρ = ρ.b i := by
 have h := cube1 (ρ := ρ) (i := i) (b := true)
 rw [X.tt]
 unfold flagX
 rw [X.den, b2i_tt]
 cases hb : ρ.b i with
 | true => exact h.2 hb
 | false =>
  cases hc : cubeB ρ (2 ^ i) (2 ^ i) with
  | false => rfl
  | true =>
   rw [h.1 hc] at hb
   cases hb
theorem instX_says {ro : Nat → Obj} {op rd r1 r2 n : Int} {x y : Bool} (hn : 0 ≤ n ∧ n < 4294967296) {o a b c : X} (h0 : o.den (instE ro op rd r1 r2 n x y) = op) (h1 : a.den (instE ro op rd r1 r2 n x y) = rd) (h2 : b.den (instE ro op rd r1 r2 n x y) = r1) (h3 : c.den (instE ro op rd r1 r2 n x y) = r2) {π : Pl} :
  (instX o a b c).conc (instE ro op rd r1 r2 n x y) π = instV op rd r1 r2 n x y := by
 have e4 : bvDen (instE ro op rd r1 r2 n x y) (posL 15 32) .zero = n := word_of hn.1 (by simpa using hn.2) fun i hi => by
  show instB rd r1 r2 n x y (15 + i) = _
  unfold instB
  rw [if_neg (by omega), if_neg (by omega), if_neg (by omega), if_pos (by omega), show 15 + i - 15 = i by omega]
 have e5 : (flagX 47).tt (instE ro op rd r1 r2 n x y) = x := flag_tt 47
 have e6 : (flagX 48).tt (instE ro op rd r1 r2 n x y) = y := flag_tt 48
 simp only [instX, V.concs, V.conc, h0, h1, h2, h3, e5, e6, wordX, X.den, e4]
 rfl
theorem reg_of {ro : Nat → Obj} {op rd r1 r2 n : Int} {x y : Bool} : (0 ≤ rd ∧ rd < 32 → (wordX 0 5).den (instE ro op rd r1 r2 n x y) = rd) ∧ (0 ≤ r1 ∧ r1 < 32 → (wordX 5 5).den (instE ro op rd r1 r2 n x y) = r1) ∧ (0 ≤ r2 ∧ r2 < 32 → (wordX 10 5).den (instE ro op rd r1 r2 n x y) = r2) := by
 refine ⟨fun h => ?_, fun h => ?_, fun h => ?_⟩
 ·exact word_of h.1 (by simpa using h.2) fun i hi => by
   show instB rd r1 r2 n x y (0 + i) = _
   unfold instB
   rw [if_pos (by omega), Nat.zero_add]
 ·exact word_of h.1 (by simpa using h.2) fun i hi => by
   show instB rd r1 r2 n x y (5 + i) = _
   unfold instB
   rw [if_neg (by omega), if_pos (by omega), show 5 + i - 5 = i by omega]
 ·exact word_of h.1 (by simpa using h.2) fun i hi => by
   show instB rd r1 r2 n x y (10 + i) = _
   unfold instB
   rw [if_neg (by omega), if_neg (by omega), if_pos (by omega), show 10 + i - 10 = i by omega]
noncomputable def look3 (acc : List V) (pc : PC) : Bool := match acc with
 | [.int .u32 r, .bool m, .tuple [.int .u32 w, .int .i64 e]] => chk 1000 pc (.ite m (.ite (.eq e (.lit 0)) (.eq w r) (.lit 0)) (.ite (.eq w (.lit 0)) (.eq e (.lit 2)) (.lit 0))) true
 | _ => false
noncomputable def look2 (acc : List V) (pc : PC) : Bool := match acc with
 | [.bool m, .tuple [.int .u32 w, .int .i64 e]] => chk 1000 pc (.ite m (.lit 0) (.ite (.eq w (.lit 0)) (.eq e (.lit 2)) (.lit 0))) true
 | _ => false
noncomputable def run3 (o a b c : X) (pc : PC) : Bool := comp (evT cx4 4000).call LStart 7 10000 [(5, [instX o a b c]), (6, [instX o a b c]), (7, [instX o a b c])] [] pc look3
noncomputable def run2 (o a b c : X) (pc : PC) : Bool := comp (evT cx4 4000).call LStart 7 10000 [(5, [instX o a b c]), (6, [instX o a b c])] [] pc look2
def tooLow (i : Nat) : PC := [(.lt (.var i) (.lit 0), true)]
def tooHigh (i : Nat) : PC := [(.le (.lit 32) (.var i), true)]
noncomputable def encRun (k : Nat) : Bool := match X.lit (Int.ofNat k) with
 | o => run3 o (wordX 0 5) (wordX 5 5) (wordX 10 5) [] && (run2 o (.var 1) (.var 2) (.var 3) (tooLow 1) && (run2 o (.var 1) (.var 2) (.var 3) (tooHigh 1) &&
  (run2 o (wordX 0 5) (.var 2) (.var 3) (tooLow 2) && (run2 o (wordX 0 5) (.var 2) (.var 3) (tooHigh 2) && (run2 o (wordX 0 5) (wordX 5 5) (.var 3) (tooLow 3) && run2 o (wordX 0 5) (wordX 5 5) (.var 3) (tooHigh 3))))))
def noOp : Nat → PC
 | 0 => []
 | k + 1 => (.eq (.var 0) (.lit (Int.ofNat (k + 1))), false) :: noOp k
noncomputable def cxF : Cx := { cxD with sm := smOf [(20, sumPar LStart 7 sum20), (15, sumPar LStart 7 sum15), (16, sumTab LStart 7 sum16), (23, sumTab LStart 7 sum23), (26, sumTab LStart 7 sum26)] }
theorem allF {ro : Nat → Obj} (h : RoAll ro) {ρ : Env} (hr : ρ.ro = ro) : SumOk Tryd.prog cxF ρ :=
 smOf_okL (l := [(20, sumPar LStart 7 sum20), (15, sumPar LStart 7 sum15), (16, sumTab LStart 7 sum16), (23, sumTab LStart 7 sum23), (26, sumTab LStart 7 sum26)]) ⟨at20 h hr rfl, at15 h hr rfl, at16 h hr rfl, at23 h hr rfl, at26 h hr rfl, trivial⟩ rfl
noncomputable def runF : Bool := comp (evT cxF 4000).call LStart 7 10000 [(5, [instX (.var 0) (.var 1) (.var 2) (.var 3)]), (6, [instX (.var 0) (.var 1) (.var 2) (.var 3)])] [] (noOp 59) look2
end Go.Proofs.YtkkfbmjelanjgaaDoor
