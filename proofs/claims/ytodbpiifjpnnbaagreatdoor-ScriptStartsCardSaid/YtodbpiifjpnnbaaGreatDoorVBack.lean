/- ScriptStarts: what came in; the law's walk. No condition. -/
import Derived.Test.YtodbpiifjpnnbaaGreatDoorVRn
namespace Go.Proofs.YtodbpiifjpnnbaaGreatDoor
open Go Go.Proofs Go.ChangeShapes Go.WideShapes Go.ChangeAt Go.RowKit
section
variable {d : GD} {gm : Nat → Int → Int} {gc : Nat → Nat → Int → Int}
theorem anys_get : ∀ {k q j : Nat} {v : V}, (anys q k)[j]? = some v → j < k ∧ v = .any (q + j)
 | 0, _, _, _, h => by simp [anys] at h
 | k + 1, q, 0, v, h => by
  simp only [anys, List.getElem?_cons_zero, Option.some.injEq] at h
  exact ⟨by omega, h.symm⟩
 | k + 1, q, j + 1, v, h => by
  simp only [anys, List.getElem?_cons_succ] at h
  obtain ⟨h1, h2⟩ := anys_get h
  exact ⟨by omega, by rw [h2]; congr 1; omega⟩
theorem wR_mem : ∀ {k : Nat} {x : Nat × SObj}, x ∈ wR k → ∃ j, j < k ∧ x = (10 + j, .warr (10 + j) (300 + 10 * j) [.int .u32] (.var (52 + 2 * j)))
 | 0, x, h => by cases h
 | k + 1, x, h => by
  rcases List.mem_append.1 h with h | h
  ·obtain ⟨j, h1, h2⟩ := wR_mem h
   exact ⟨j, by omega, h2⟩
  ·exact ⟨k, by omega, List.mem_singleton.1 h⟩
theorem lLen : ∀ {j : Nat}, j < 6 → (lEnv d gm gc).v (52 + 2 * j) = d.len j ∧ (lEnv d gm gc).win (10 + j) = d.at_ j ∧ (lEnv d gm gc).f1 (300 + 10 * j) = gc j 0 ∧ (lEnv d gm gc).ro (10 + j) = roW d.W (d.at_ j).block ∧ (lPl d (10 + j)).1 = (d.at_ j).block ∧ (lPl d (20 + j)).3 = d.cell j
 | 0, _ => ⟨rfl, rfl, rfl, rfl, rfl, rfl⟩
 | 1, _ => ⟨rfl, rfl, rfl, rfl, rfl, rfl⟩
 | 2, _ => ⟨rfl, rfl, rfl, rfl, rfl, rfl⟩
 | 3, _ => ⟨rfl, rfl, rfl, rfl, rfl, rfl⟩
 | 4, _ => ⟨rfl, rfl, rfl, rfl, rfl, rfl⟩
 | 5, _ => ⟨rfl, rfl, rfl, rfl, rfl, rfl⟩
theorem op_yes {j : Nat} (h : d.op j = true) : d.nilc j = false ∧ 1 ≤ d.n j ∧ d.len j = d.n j ∧ d.at_ j = d.p j := by
 have h' := h
 unfold GD.op at h
 split at h
 ·cases h
 ·rename_i h1
  refine ⟨h1, Nat.le_of_ble_eq_true h, ?_, ?_⟩
  ·unfold GD.len
   rw [h1]
   rfl
  ·unfold GD.at_
   rw [h']
theorem op_no {j : Nat} (h : d.op j = false) : d.len j = 0 ∧ d.at_ j = d.a := by
 have h' := h
 unfold GD.op at h
 refine ⟨?_, by unfold GD.at_; rw [h']⟩
 unfold GD.len
 split at h
 ·rename_i h1
  rw [h1]
  rfl
 ·rename_i h1
  rw [h1]
  show d.n j = 0
  by_cases h0 : 1 ≤ d.n j
  ·rw [Nat.ble_eq_true_of_le h0] at h
   cases h
  ·omega
structure Ins (d : GD) (gm : Nat → Int → Int) (gc : Nat → Nat → Int → Int) (z : Bool) : Prop where
 none : z = true → d.k = 0
 row : z = false → 1 ≤ d.k → d.Row d.W
 codes : ∀ j, j < d.k → d.op j = true → CameIn d.W [.int .u32] (d.p j) (d.n j) (gc j)
 le : ∀ j, j < d.k → d.n j ≤ d.c j
def MIn (d : GD) (gm : Nat → Int → Int) : Nat → Prop
 | 0 => d.nilm = true
 | 1 => d.nilm = false ∧ d.m = 0
 | _ => d.nilm = false ∧ 1 ≤ d.m ∧ d.m ≤ d.mc ∧ CameIn d.W [.int .u8] d.mp d.m gm
theorem ml_of (h : d.nilm = false) : d.ml = d.m := by
 unfold GD.ml
 rw [h]
 rfl
theorem mV_conc {π : Pl} : ∀ {i : Nat}, i < 3 → MIn d gm i → (mV i).conc (lEnv d gm gc) π = d.mem
 | 0, _, h => by
  unfold GD.mem
  rw [show d.nilm = true from h]
  rfl
 | 1, _, h => by
  unfold GD.mem
  rw [h.1, h.2]
  show Value.slice (some (d.mp.add (0 * 1))) 0 ((d.mc : Int)).toNat = _
  rw [Int.toNat_natCast]
  simp [slW, Addr.add]
 | 2, _, h => by
  unfold GD.mem
  rw [h.1]
  show Value.slice (some (d.mp.add (0 * 1))) ((d.ml : Int)).toNat ((d.mc : Int)).toNat = _
  rw [Int.toNat_natCast, Int.toNat_natCast, ml_of h.1]
  simp [slW, Addr.add]
theorem tle {ρ : Env} {x y : X} (h : x.den ρ ≤ y.den ρ) : (X.le x y).tt ρ = true := by rw [tt_le]; exact decide_eq_true h
theorem pcNil {ρ : Env} : PcOk ρ [] := fun f hf => by cases hf
theorem pcCons {ρ : Env} {x : X} {b : Bool} {pc : PC} (h : x.tt ρ = b) (hp : PcOk ρ pc) : PcOk ρ ((x, b) :: pc) := fun f hf => by
 rcases List.mem_cons.1 hf with rfl | hf
 ·exact h
 ·exact hp f hf
theorem pcApp {ρ : Env} {p q : PC} (hp : PcOk ρ p) (hq : PcOk ρ q) : PcOk ρ (p ++ q) := fun f hf => (List.mem_append.1 hf).elim (hp f) (hq f)
theorem mPc_ok : ∀ {i : Nat}, i < 3 → MIn d gm i → PcOk (lEnv d gm gc) (mPc i)
 | 0, _, _ => pcNil
 | 1, _, _ => pcCons (tle (show (0 : Int) ≤ (d.mc : Int) from Int.natCast_nonneg _)) pcNil
 | 2, _, h => pcCons (tle (by show (1 : Int) ≤ (d.ml : Int); rw [ml_of h.1]; exact Int.ofNat_le.2 h.2.1)) (pcCons (tle (by show (d.ml : Int) ≤ (d.mc : Int); rw [ml_of h.1]; exact Int.ofNat_le.2 h.2.2.1)) pcNil)
theorem mSm_ok (h : d.ml ≤ 1024) : PcOk (lEnv d gm gc) mSm := pcCons (tle (by show (d.ml : Int) ≤ 1024; omega)) pcNil
theorem kV_conc {π : Pl} {z : Bool} : (kV z d.k).conc (lEnv d gm gc) π = d.codes z := by
 cases z
 ·show Value.slice (some (d.a.add 0)) ((d.k : Int)).toNat ((d.cap : Int)).toNat = _
  rw [Int.toNat_natCast, Int.toNat_natCast]
  simp [GD.codes, Addr.add]
 ·rfl
theorem rowsV {z : Bool} (I : Ins d gm gc z) (hk : d.k ≤ 6) {i : Nat} (hi : i < 3) (hm : MIn d gm i) : RowsV (lEnv d gm gc) d.W (mR i ++ kR d.k) 7 26 (lPl d) := by
 have hr : d.k ≠ 0 → d.Row d.W := fun h0 => I.row (by
  cases hz : z
  ·rfl
  ·exact absurd (I.none hz) h0) (by omega)
 have hkR : ∀ {k : Nat} {x : Nat × SObj}, x ∈ kR k → k ≠ 0 ∧ (x = (8, .win 8 (anys 20 k) (.lit (.ofNat k)) 1) ∨ ∃ j, j < k ∧ x = (10 + j, .warr (10 + j) (300 + 10 * j) [.int .u32] (.var (52 + 2 * j)))) := fun {k x} h => by
  cases k with
  | zero => cases h
  | succ k =>
   rcases List.mem_cons.1 h with h | h
   ·exact ⟨by omega, .inl h⟩
   ·exact ⟨by omega, .inr (wR_mem h)⟩
 have hmR : ∀ {x : Nat × SObj}, x ∈ mR i → i = 2 ∧ x = (7, .warr 7 200 [.int .u8] (.var 50)) := fun {x} h => by
  match i, hi, h with
  | 0, _, h => cases h
  | 1, _, h => cases h
  | 2, _, h => exact ⟨rfl, List.mem_singleton.1 h⟩
 have hx : ∀ {x : Nat × SObj}, x ∈ mR i ++ kR d.k → (i = 2 ∧ x = (7, .warr 7 200 [.int .u8] (.var 50))) ∨ (d.k ≠ 0 ∧ x = (8, .win 8 (anys 20 d.k) (.lit (.ofNat d.k)) 1)) ∨ (d.k ≠ 0 ∧ ∃ j, j < d.k ∧ x = (10 + j, .warr (10 + j) (300 + 10 * j) [.int .u32] (.var (52 + 2 * j)))) := fun {x} h => by
  rcases List.mem_append.1 h with h | h
  ·exact .inl (hmR h)
  ·obtain ⟨h0, h | h⟩ := hkR h
   ·exact .inr (.inl ⟨h0, h⟩)
   ·exact .inr (.inr ⟨h0, h⟩)
 refine ⟨fun i hi => ?_, fun x h => ?_, by decide, fun x h => ?_, fun x h π hπ => ?_⟩
 ·unfold lPl
  rw [if_neg (by omega)]
  cases hb : Nat.ble 7 i with
  | true => have := Nat.le_of_ble_eq_true hb; omega
  | false => rfl
 ·rcases hx h with ⟨_, rfl⟩ | ⟨_, rfl⟩ | ⟨_, j, hj, rfl⟩
  ·exact ⟨show 7 ≤ 7 by decide, show 7 < 26 by decide⟩
  ·exact ⟨show 7 ≤ 8 by decide, show 8 < 26 by decide⟩
  ·exact ⟨show 7 ≤ 10 + j by omega, show 10 + j < 26 by omega⟩
 ·rcases hx h with ⟨_, rfl⟩ | ⟨_, rfl⟩ | ⟨_, j, hj, rfl⟩ <;> rfl
 ·rcases hx h with ⟨e, rfl⟩ | ⟨h0, rfl⟩ | ⟨h0, j, hj, rfl⟩
  ·subst e
   have hc := hm.2.2.2
   refine ⟨roW d.W d.mp.block, hc.block, hc.is (t := 200) rfl rfl (fun c hc => ?_) ?_ ?_⟩
   ·match c, hc with
    | 0, _ => rfl
   ·show ((d.ml : Int)).toNat ≤ d.m
    rw [Int.toNat_natCast, ml_of hm.1]
    exact Nat.le_refl _
   ·rw [hπ 7 (by decide)]
    rfl
  ·have R := hr h0
   obtain ⟨cs, t, fr, h1, h2⟩ := R.row
   refine ⟨_, h1, ⟨R.spot, ?_, cs, t, fr, rfl, fun j v hj hjk => ?_⟩, ?_⟩
   ·rw [hπ 8 (by decide)]
    rfl
   ·obtain ⟨h3, rfl⟩ := anys_get hj
    show cs[d.a.off + j]? = some (π (20 + j)).3
    rw [hπ (20 + j) (by show 20 + j < 26; omega), (lLen (d := d) (gm := gm) (gc := gc) (j := j) (by omega)).2.2.2.2.2]
    exact h2 j h3
   ·show _ = roW d.W d.a.block
    simp only [roW, h1, Option.getD_some]
  ·obtain ⟨e1, e2, e3, e4, e5, _⟩ := lLen (d := d) (gm := gm) (gc := gc) (j := j) (by omega)
   have e6 : (π (10 + j)).1 = (d.at_ j).block := by rw [hπ (10 + j) (by show 10 + j < 26; omega), e5]
   cases ho : d.op j with
   | true =>
    obtain ⟨_, _, o3, o4⟩ := op_yes ho
    rw [o4] at e2 e4 e5 e6
    have hc := I.codes j hj ho
    refine ⟨roW d.W (d.p j).block, by rw [e5]; exact hc.block, hc.is (t := 300 + 10 * j) e2 e4 (fun c hc => ?_) ?_ e6⟩
    ·match c, hc with
     | 0, _ => exact e3
    ·show ((lEnv d gm gc).v (52 + 2 * j)).toNat ≤ d.n j
     rw [e1, o3, Int.toNat_natCast]
     exact Nat.le_refl _
   | false =>
    obtain ⟨o1, o2⟩ := op_no ho
    rw [o2] at e2 e4 e5 e6
    have R := hr h0
    obtain ⟨cs, t, fr, h1, h2⟩ := R.row
    refine ⟨_, by rw [e5]; exact h1, ⟨by rw [e2]; exact R.spot, by rw [e2, e6], cs, t, fr, rfl, fun j' c k hj' hk => ?_⟩, ?_⟩
    ·exfalso
     have : ((lEnv d gm gc).v (52 + 2 * j)).toNat = 0 := by rw [e1, o1]; rfl
     have h3 : j' < ((lEnv d gm gc).v (52 + 2 * j)).toNat := hj'
     omega
    ·rw [e4]
     simp only [roW, h1, Option.getD_some]
theorem fit_at {z : Bool} (I : Ins d gm gc z) (hk : d.k ≤ 4) (hl : ∀ j, j < d.k → d.len j ≤ 40) {j : Nat} (hj : j < d.k) : FitAt (lEnv d gm gc) j := by
 have R := I.row (by
  cases hz : z
  ·rfl
  ·have := I.none hz
   omega) (by omega)
 obtain ⟨cs, t, fr, h1, h2⟩ := R.row
 obtain ⟨e1, e2, _⟩ := lLen (d := d) (gm := gm) (gc := gc) (j := j) (by omega)
 refine ⟨cs, t, fr, d.cell j, ?_, h2 j hj, ?_⟩
 ·show roW d.W d.a.block = _
  simp only [roW, h1, Option.getD_some]
 ·cases ho : d.op j with
  | true =>
   obtain ⟨o1, o2, o3, o4⟩ := op_yes ho
   have h40 := hl j hj
   have hle := I.le j hj
   refine .inr (.inr ⟨d.c j, ?_, ?_, ?_, ?_⟩)
   ·rw [e1, e2, o4, o3, Int.toNat_natCast]
    unfold GD.cell
    rw [o1]
    rfl
   ·rw [e1]; omega
   ·rw [e1]; omega
   ·rw [e1]; omega
  | false =>
   obtain ⟨o1, _⟩ := op_no ho
   unfold GD.len at o1
   unfold GD.cell
   cases hz : d.nilc j with
   | true => exact .inl rfl
   | false =>
    rw [hz] at o1
    have o1 : d.n j = 0 := o1
    rw [o1]
    exact .inr (.inl ⟨_, _, rfl⟩)
theorem win8 {z : Bool} (I : Ins d gm gc z) (h : 1 ≤ d.k) : (lEnv d gm gc).win 8 = d.a ∧ ∃ cs t fr, (lEnv d gm gc).ro 8 = .cells cs t fr ∧ ∀ j, j < d.k → cs[d.a.off + j]? = some (d.cell j) := by
 have R := I.row (by
  cases hz : z
  ·rfl
  ·have := I.none hz
   omega) h
 obtain ⟨cs, t, fr, h1, h2⟩ := R.row
 refine ⟨rfl, cs, t, fr, ?_, h2⟩
 show roW d.W d.a.block = _
 simp only [roW, h1, Option.getD_some]
theorem pow_tab : ((List.range 65).all fun n => Nat.beq n 0 || (List.range 7).any (fun s => decide ((n : Int) = pow s)) || !(bitsI 0 .i64 (n : Int) ((n : Int) - 1) == 0)) = true := by kernel_rfl
theorem pow_of (n : Nat) (h1 : 1 ≤ n) (h2 : n ≤ 64) : (∃ s, s < 7 ∧ (n : Int) = pow s) ∨ ((X.bits 0 .i64 (.var 91) (.sub (.var 91) (.lit 1))).den { lEnv d gm gc with v := fun _ => (n : Int) } == (X.lit 0).den (lEnv d gm gc)) = false := by
 have h := List.all_eq_true.1 pow_tab n (List.mem_range.2 (by omega))
 rcases Bool.or_eq_true _ _ ▸ h with h | h
 ·rcases Bool.or_eq_true _ _ ▸ h with h | h
  ·have := Nat.eq_of_beq_eq_true h
   omega
  ·obtain ⟨s, h3, h4⟩ := List.any_eq_true.1 h
   exact .inl ⟨s, List.mem_range.1 h3, of_decide_eq_true h4⟩
 ·right
  show (bitsI 0 .i64 (n : Int) ((n : Int) - 1) == 0) = false
  cases hb : (bitsI 0 .i64 (n : Int) ((n : Int) - 1) == 0) with
  | false => rfl
  | true => rw [hb] at h; cases h
theorem sets_of : ∃ s, s < 11 ∧ (sX s).den (lEnv d gm gc) = d.s ∧ 1 ≤ s ∧ PcOk (lEnv d gm gc) (sPc s) := by
 have e91 : (X.var 91).den (lEnv d gm gc) = d.s := rfl
 have lt1 : ∀ {x y : X} {b : Bool}, decide (x.den (lEnv d gm gc) < y.den (lEnv d gm gc)) = b → (X.lt x y).tt (lEnv d gm gc) = b := fun h => by rw [tt_lt]; exact h
 by_cases h1 : d.s < 1
 ·exact ⟨1, by decide, rfl, by decide, pcCons (lt1 (by rw [e91]; exact decide_eq_true h1)) pcNil⟩
 have p1 : (X.lt (.var 91) (.lit 1)).tt (lEnv d gm gc) = false := lt1 (by rw [e91]; exact decide_eq_false h1)
 by_cases h2 : 64 < d.s
 ·exact ⟨2, by decide, rfl, by decide, pcCons p1 (pcCons (lt1 (by rw [e91]; exact decide_eq_true h2)) pcNil)⟩
 have p2 : (X.lt (.lit 64) (.var 91)).tt (lEnv d gm gc) = false := lt1 (by rw [e91]; exact decide_eq_false h2)
 have hn : (d.s.toNat : Int) = d.s := by omega
 rcases pow_of (d := d) (gm := gm) (gc := gc) d.s.toNat (by omega) (by omega) with ⟨s, s1, s2⟩ | h
 ·exact ⟨s + 4, by omega, by show pow s = d.s; rw [← s2, hn], by omega, pcNil⟩
 ·have h : ((X.bits 0 .i64 (.var 91) (.sub (.var 91) (.lit 1))).den (lEnv d gm gc) == (X.lit 0).den (lEnv d gm gc)) = false := by
   rw [hn] at h
   exact h
  exact ⟨3, by decide, rfl, by decide, pcCons p1 (pcCons p2 (pcCons (by rw [tt_eq]; exact h) pcNil))⟩
end
theorem RoAll.of {ρ : Env} (h : RoAt ρ LStart) : ∀ ρ' : Env, ρ'.ro = ρ.ro → RoAt ρ' LStart := fun ρ' hr => ⟨fun x hx => by
 simp only [LStart, List.mem_singleton] at hx
 subst hx
 obtain ⟨t, fr, h2⟩ := h.is _ (List.mem_singleton.2 rfl)
 exact ⟨t, fr, fun π => by rw [hr, h2 π, asciiL_concs, asciiL_concs]⟩⟩
section
variable {d : GD} {gm : Nat → Int → Int} {gc : Nat → Nat → Int → Int} {z : Bool} {i : Nat}
theorem arg_conc {π : Pl} (hi : i < 3) (hm : MIn d gm i) {x : X} (hs : x.den (lEnv d gm gc) = d.s) {c : V} (hc : c.conc (lEnv d gm gc) π = d.codes z) : (argV c (mV i) x).conc (lEnv d gm gc) π = .agg #[d.codes z, d.mem, .int .i64 d.s, .int .i64 d.w] := by
 show Value.agg [c.conc (lEnv d gm gc) π, (mV i).conc (lEnv d gm gc) π, .int .i64 (x.den (lEnv d gm gc)), .int .i64 d.w].toArray = _
 rw [hc, mV_conc hi hm, hs]
theorem sumV_ok (hro : RoAt (lEnv d gm gc) LStart) (I : Ins d gm gc z) {k0 : Nat} (hk0 : k0 ≤ 4) (hfit : ∀ j, j < k0 → FitAt (lEnv d gm gc) j) {arg : V} {row b : Bool} (harg : ∀ π, arg.conc (lEnv d gm gc) π = .agg #[d.codes z, d.mem, .int .i64 d.s, .int .i64 d.w]) (hrow : row = false → d.k = 0 ∨ 6 < d.k) (hrow' : row = true → 1 ≤ d.k) (hb : d.gb = b) :
  SumOk Tryz.prog (cxV k0 arg row b) (lEnv d gm gc) :=
 smOf_okL (l := smV k0 arg row b) ⟨at5 (ro := (lEnv d gm gc).ro) (fun ρ' hr => RoAll.of hro ρ' hr) rfl rfl, coreS_ok hk0 rfl hro hfit, greatS_ok rfl hro harg I.none hrow (fun h => win8 I (hrow' h)) hb, trivial⟩ rfl
theorem start_go (hro : RoAt (lEnv d gm gc) LStart) (hW : ∀ x ∈ LStart, d.W.heap[x.1]? = some ((lEnv d gm gc).ro x.1)) (I : Ins d gm gc z) (hi : i < 3) (hm : MIn d gm i) : Calls Tryz.prog 3 #[.agg #[d.codes z, d.mem, .int .i64 d.s, .int .i64 d.w]] d.W fun e W' => e = .returned (.bool true) ∧ Below d.W.heap.size d.W W' := by
 have one : PcOk (lEnv d gm gc) [(.le (.lit 0) (.lit 7), true)] := pcCons rfl pcNil
 have hb0 : ∀ {k : Nat}, Nat.blt 0 k = false → k = 0 := fun {k} h => by
  cases k with
  | zero => rfl
  | succ k => rw [Nat.ble_eq_true_of_le (show 1 ≤ k + 1 by omega) |> (show Nat.blt 0 (k + 1) = true from ·)] at h; cases h
 have hb1 : ∀ {k : Nat}, Nat.blt 0 k = true → 1 ≤ k := fun h => Nat.le_of_ble_eq_true h
 by_cases hg : d.great
 ·have gb := GD.gb_yes hg
  by_cases hk : d.k ≤ 6
  ·have ha : ∀ π, (argV (kV z d.k) (mV i) (.var 91)).conc (lEnv d gm gc) π = .agg #[d.codes z, d.mem, .int .i64 d.s, .int .i64 d.w] := fun π => arg_conc hi hm rfl kV_conc
   exact law_rowsV (cx := cxV 0 (argV (kV z d.k) (mV i) (.var 91)) (Nat.blt 0 d.k) true) (L := LStart) (ng := 7) (nm := 26) (ρ := lEnv d gm gc) (N := 4000) mixed_door tt_ok ft_ok (sumV_ok hro I (by decide) (fun j hj => by omega) ha (fun h => .inl (hb0 h)) hb1 gb) Tryz.func3 rfl LStart_lt hro hW (rowsV I hk hi hm) (pcApp (mPc_ok hi hm) one) (by rw [evT_call]; exact runG_all I.none hk hi) fun π _ => by
    show [_] = [_]
    rw [ha]
  ·have hz : z = false := by
    cases hz : z
    ·rfl
    ·have := I.none hz
     omega
   have ha : ∀ π, (argV (.wslice 8 0 (.var 93) (.var 92)) (mV i) (.var 91)).conc (lEnv d gm gc) π = .agg #[d.codes z, d.mem, .int .i64 d.s, .int .i64 d.w] := fun π => arg_conc hi hm rfl (by
    rw [hz]
    show Value.slice (some (d.a.add 0)) ((d.k : Int)).toNat ((d.cap : Int)).toNat = _
    rw [Int.toNat_natCast, Int.toNat_natCast]
    simp [GD.codes, Addr.add])
   refine law_rowsV (cx := cxV 0 (argV (.wslice 8 0 (.var 93) (.var 92)) (mV i) (.var 91)) false true) (L := LStart) (ng := 7) (nm := 26) (ws := []) (ρ := lEnv d gm gc) (πs := lPl d) (N := 4000) mixed_door tt_ok ft_ok (sumV_ok hro I (by decide) (fun j hj => by omega) ha (fun _ => .inr (by omega)) (fun h => by cases h) gb) Tryz.func3 rfl LStart_lt hro hW ⟨fun k hk => ?_, (fun y hy => by cases hy), by decide, (fun y hy => by cases hy), fun y hy => by cases hy⟩ (pcApp (pcCons (x := .lt (.lit 6) (.var 93)) (b := true) (by rw [tt_lt]; exact decide_eq_true (show (6 : Int) < (d.k : Int) by omega)) (mPc_ok hi hm)) one) (by rw [evT_call]; exact runO_all hi) fun π _ => by
    show [_] = [_]
    rw [ha]
   unfold lPl
   rw [if_neg (by omega)]
   cases hb : Nat.ble 7 k with
   | true => have := Nat.le_of_ble_eq_true hb; omega
   | false => rfl
 ·have gb := GD.gb_no hg
  have hk : d.k ≤ 6 := Nat.le_of_not_lt fun h => hg (.inl h)
  have hml : d.ml ≤ 1024 := Nat.le_of_not_lt fun h => hg (.inr (.inl h))
  have hl : ∀ j, j < d.k → d.len j ≤ 40 := fun j hj => Nat.le_of_not_lt fun h => hg (.inr (.inr ⟨j, hj, h⟩))
  obtain ⟨s0, hs0, hx0, h10, hp0⟩ := sets_of (d := d) (gm := gm) (gc := gc)
  obtain ⟨s, hs, hr⟩ := runS_all (z := z) (k := d.k) (i := i) I.none hk hi h10 hs0
  have hx : (sX s).den (lEnv d gm gc) = d.s ∧ PcOk (lEnv d gm gc) (sPc s) := by
   rcases hs with rfl | rfl
   ·exact ⟨rfl, pcNil⟩
   ·exact ⟨hx0, hp0⟩
  have ha : ∀ π, (argV (kV z d.k) (mV i) (sX s)).conc (lEnv d gm gc) π = .agg #[d.codes z, d.mem, .int .i64 d.s, .int .i64 d.w] := fun π => arg_conc hi hm hx.1 kV_conc
  have hk0 : (if d.k < 5 then d.k else 0) ≤ 4 := by split <;> omega
  refine law_rowsV (cx := cxV (if d.k < 5 then d.k else 0) (argV (kV z d.k) (mV i) (sX s)) (Nat.blt 0 d.k) false) (L := LStart) (ng := 7) (nm := 26) (ρ := lEnv d gm gc) (N := 4000) mixed_door tt_ok ft_ok (sumV_ok hro I hk0 (fun j hj => ?_) ha (fun h => .inl (hb0 h)) hb1 gb) Tryz.func3 rfl LStart_lt hro hW (rowsV I hk hi hm) (pcApp (pcApp (mPc_ok hi hm) (pcApp (mSm_ok hml) hx.2)) one) (by rw [evT_call]; exact hr) fun π _ => by
   show [_] = [_]
   rw [ha]
  by_cases h5 : d.k < 5
  ·rw [if_pos h5] at hj
   exact fit_at I (by omega) hl hj
  ·rw [if_neg h5] at hj
   omega
end
theorem roAll_starts {W : World} (h : laidMetH Tryz.prog Rows.scriptStartsRow.laid W) {ρ : Env} (h0 : ρ.ro 0 = roW W 0) : RoAt ρ LStart ∧ ∀ x ∈ LStart, W.heap[x.1]? = some (ρ.ro x.1) := by
 obtain ⟨t, fr, h1⟩ := of_laid h
 have e : ρ.ro 0 = .cells ((asciiZ 256).map (.int .u8)).toArray t fr := by rw [h0]; simp only [roW, h1, Option.getD_some]
 refine ⟨⟨fun x hx => ?_⟩, fun x hx => ?_⟩ <;> (simp only [LStart, List.mem_singleton] at hx; subst hx)
 ·exact ⟨t, fr, fun π => by rw [e, asciiL_concs]⟩
 ·rw [e]; exact h1
set_option maxRecDepth 100000 in
theorem setup_of {H : Type} {enc : TypeId × Value → H} {W : World} {v : Value} {d0 : DataW H} {p : List MemPlace} {base b0 : Nat} {sp : Nat → Bool} {held : Bool} {r : Reach} (hval : Value.okWide Tryz.prog W r b0 25 v) (h : DataW.Trod enc Tryz.prog W base sp held 25 v d0 p) :
  ∃ u0 u1 s w, v = .agg #[u0, u1, .int .i64 s, .int .i64 w] ∧ (∃ fuel x, DataW.trod enc Tryz.prog W base sp held fuel 22 [u0] = some x) ∧ ∃ m : SlD, m.In W [.int .u8] u1 := by
 obtain ⟨cs, rfl, hs⟩ := okWide_struct Tryz.underlying25 hval
 obtain ⟨fuel, hf⟩ := h
 obtain ⟨xs, m, rfl, _, hlen, hxs, hel⟩ := DataW.trod_struct Tryz.underlying25 hf
 have hc : Tryz.prog.cellsOf 25 = 4 := by kernel_rfl
 have c0 : Tryz.prog.cellsOf 22 = 1 := by kernel_rfl
 have c1 : Tryz.prog.cellsOf 23 = 1 := by kernel_rfl
 have c2 : Tryz.prog.cellsOf 3 = 1 := by kernel_rfl
 obtain ⟨l⟩ := cs
 have hl : l.length = 4 := by simpa [hc] using hs
 have hxl : xs.length = 4 := by simpa using hxs
 have get : ∀ i (hi : i < xs.length), xs[i]? = some xs[i] := fun i hi => List.getElem?_eq_getElem hi
 match l, hl with
 | [a0, a1, a2, a3], _ =>
  have e0 := hel 0 { name := "Codes", type := 22, offset := 0, embedded := false, tag := "", pkgPath := "", byteOffset := 0 } rfl
  have e1 := hel 1 { name := "Memory", type := 23, offset := 1, embedded := false, tag := "", pkgPath := "", byteOffset := 24 } rfl
  have e2 := hel 2 { name := "Sets", type := 3, offset := 2, embedded := false, tag := "", pkgPath := "", byteOffset := 48 } rfl
  have e3 := hel 3 { name := "Ways", type := 3, offset := 3, embedded := false, tag := "", pkgPath := "", byteOffset := 56 } rfl
  rw [get _ (by omega)] at e0 e1 e2 e3
  dsimp only at e0 e1 e2 e3
  rw [c0] at e0
  rw [c1] at e1
  rw [c2] at e2 e3
  obtain ⟨s, h2, _⟩ := DataW.trod_int Tryz.underlying3 e2
  obtain ⟨w, h3, _⟩ := DataW.trod_int Tryz.underlying3 e3
  simp [Value.cells] at h2 h3
  subst h2 h3
  exact ⟨a0, a1, s, w, rfl, ⟨_, _, e0⟩, slIn_of (k := 3) Tryz.underlying23 (by kernel_rfl) (by kernel_rfl) (by decide) e1⟩
theorem slW_len {s : SlD} {W : World} {ks : List CK} {v : Value} (h : s.In W ks v) : v = slW s.z s.a s.n s.c := h.1
theorem mIn_of {d : GD} {s : SlD} {u : Value} (h : s.In d.W [.int .u8] u) (hz : d.nilm = s.z) (hm : d.m = s.n) (hc : d.mc = s.c) (hp : d.mp = s.a) : ∃ i, i < 3 ∧ MIn d s.g i := by
 obtain ⟨_, h2, h3, h4⟩ := h
 cases hs : s.z with
 | true => exact ⟨0, by decide, hz.trans hs⟩
 | false =>
  by_cases h0 : s.n = 0
  ·exact ⟨1, by decide, hz.trans hs, hm.trans h0⟩
  ·refine ⟨2, by decide, hz.trans hs, by omega, by omega, ?_⟩
   rw [hp, hm]
   exact h4 hs (by omega)
set_option maxRecDepth 100000 in
theorem start_walk {H : Type} {enc : TypeId × Value → H} {W : World} (h : laidMetH Tryz.prog Rows.scriptStartsRow.laid W) {v0 : Value} {d0 : DataW H} {p0 : List MemPlace} {b0 : Nat} (hv0 : Value.okWide Tryz.prog W .any b0 25 v0)
  (h0 : DataW.Trod enc Tryz.prog W 0 (fun _ => true) true 25 v0 d0 p0) : Calls Tryz.prog 3 #[v0] W fun e W' => e = .returned (.bool true) ∧ Below W.heap.size W W' := by
 obtain ⟨u0, u1, s, w, rfl, ⟨fuel, x, hx⟩, m, hm⟩ := setup_of hv0 h0
 have hu1 : u1 = slW m.z m.a m.n m.c := hm.1
 rcases open_rows Tryz.underlying22 (by kernel_rfl) hx with rfl | ⟨a, len, cap, zs, rfl, hle, hel⟩
 ·let d : GD := ⟨W, 0, 0, ⟨0, 0, none⟩, fun _ => true, fun _ => 0, fun _ => 0, fun _ => ⟨0, 0, none⟩, m.z, m.n, m.c, m.a, s, w⟩
  obtain ⟨i, hi, hmi⟩ := mIn_of (d := d) hm rfl rfl rfl rfl
  obtain ⟨hro, hW⟩ := roAll_starts h (ρ := lEnv d m.g fun _ _ _ => 0) rfl
  have key := start_go (d := d) (z := true) hro hW ⟨fun _ => rfl, (fun h => by cases h), (fun j hj => by cases hj), fun j hj => by cases hj⟩ hi hmi
  rw [hu1]
  exact key
 ·have hsl : ∀ j, ∃ c : SlD, j < len → c.In W [.int .u32] (zs j) := fun j => by
   by_cases hj : j < len
   ·obtain ⟨_, n, y, hy⟩ := hel j hj
    obtain ⟨c, hc⟩ := slIn_of (ks := [.int .u32]) (k := 3) Tryz.underlying42 (by kernel_rfl) (by kernel_rfl) (by decide) hy
    exact ⟨c, fun _ => hc⟩
   ·exact ⟨⟨true, ⟨0, 0, none⟩, 0, 0, fun _ _ => 0⟩, fun h => absurd h hj⟩
  obtain ⟨f, hf⟩ := Classical.axiomOfChoice hsl
  let d : GD := ⟨W, len, cap, a, fun j => (f j).z, fun j => (f j).n, fun j => (f j).c, fun j => (f j).a, m.z, m.n, m.c, m.a, s, w⟩
  obtain ⟨i, hi, hmi⟩ := mIn_of (d := d) hm rfl rfl rfl rfl
  obtain ⟨hro, hW⟩ := roAll_starts h (ρ := lEnv d m.g fun j => (f j).g) rfl
  have hrow : 1 ≤ len → d.Row W := fun h1 => by
   obtain ⟨r1, cs, t, fr, r2, r3⟩ := rowSl_of h1 fun i hi => (hel i hi).1
   refine ⟨r1, cs, t, fr, r2, fun j hj => ?_⟩
   rw [r3 j hj, (hf j hj).1]
   rfl
  have key := start_go (d := d) (z := false) hro hW ⟨(fun h => by cases h), fun _ h1 => hrow h1, (fun j hj ho => by
   obtain ⟨o1, o2, _, _⟩ := op_yes ho
   exact (hf j hj).2.2.2 o1 o2), fun j hj => (hf j hj).2.1⟩ hi hmi
  rw [hu1]
  exact key
end Go.Proofs.YtodbpiifjpnnbaaGreatDoor
