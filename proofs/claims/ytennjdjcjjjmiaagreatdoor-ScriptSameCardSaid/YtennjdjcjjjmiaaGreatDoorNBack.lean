/- ScriptSame: what came in; the law's walk. No condition. -/
import Derived.Test.YtennjdjcjjjmiaaGreatDoorNRn0
import Derived.Test.YtennjdjcjjjmiaaGreatDoorNRn1
import Derived.Test.YtennjdjcjjjmiaaGreatDoorNRn2
namespace Go.Proofs.YtennjdjcjjjmiaaGreatDoor
open Go Go.Proofs Go.ChangeShapes Go.WideShapes Go.ChangeAt Go.RowKit
theorem run_at : ∀ i0 i1 i2 i5, i0 < 3 → i1 < 3 → i2 < 3 → i5 < 3 → okRuns i0 i1 i2 i5 = true := by
 intro i0 i1 i2 i5 h0 h1 h2 h5
 match i0, h0, i1, h1, i2, h2, i5, h5 with
 | 0, _, 0, _, 0, _, 0, _ => exact run0000
 | 0, _, 0, _, 0, _, 1, _ => exact run0001
 | 0, _, 0, _, 0, _, 2, _ => exact run0002
 | 0, _, 0, _, 1, _, 0, _ => exact run0010
 | 0, _, 0, _, 1, _, 1, _ => exact run0011
 | 0, _, 0, _, 1, _, 2, _ => exact run0012
 | 0, _, 0, _, 2, _, 0, _ => exact run0020
 | 0, _, 0, _, 2, _, 1, _ => exact run0021
 | 0, _, 0, _, 2, _, 2, _ => exact run0022
 | 0, _, 1, _, 0, _, 0, _ => exact run0100
 | 0, _, 1, _, 0, _, 1, _ => exact run0101
 | 0, _, 1, _, 0, _, 2, _ => exact run0102
 | 0, _, 1, _, 1, _, 0, _ => exact run0110
 | 0, _, 1, _, 1, _, 1, _ => exact run0111
 | 0, _, 1, _, 1, _, 2, _ => exact run0112
 | 0, _, 1, _, 2, _, 0, _ => exact run0120
 | 0, _, 1, _, 2, _, 1, _ => exact run0121
 | 0, _, 1, _, 2, _, 2, _ => exact run0122
 | 0, _, 2, _, 0, _, 0, _ => exact run0200
 | 0, _, 2, _, 0, _, 1, _ => exact run0201
 | 0, _, 2, _, 0, _, 2, _ => exact run0202
 | 0, _, 2, _, 1, _, 0, _ => exact run0210
 | 0, _, 2, _, 1, _, 1, _ => exact run0211
 | 0, _, 2, _, 1, _, 2, _ => exact run0212
 | 0, _, 2, _, 2, _, 0, _ => exact run0220
 | 0, _, 2, _, 2, _, 1, _ => exact run0221
 | 0, _, 2, _, 2, _, 2, _ => exact run0222
 | 1, _, 0, _, 0, _, 0, _ => exact run1000
 | 1, _, 0, _, 0, _, 1, _ => exact run1001
 | 1, _, 0, _, 0, _, 2, _ => exact run1002
 | 1, _, 0, _, 1, _, 0, _ => exact run1010
 | 1, _, 0, _, 1, _, 1, _ => exact run1011
 | 1, _, 0, _, 1, _, 2, _ => exact run1012
 | 1, _, 0, _, 2, _, 0, _ => exact run1020
 | 1, _, 0, _, 2, _, 1, _ => exact run1021
 | 1, _, 0, _, 2, _, 2, _ => exact run1022
 | 1, _, 1, _, 0, _, 0, _ => exact run1100
 | 1, _, 1, _, 0, _, 1, _ => exact run1101
 | 1, _, 1, _, 0, _, 2, _ => exact run1102
 | 1, _, 1, _, 1, _, 0, _ => exact run1110
 | 1, _, 1, _, 1, _, 1, _ => exact run1111
 | 1, _, 1, _, 1, _, 2, _ => exact run1112
 | 1, _, 1, _, 2, _, 0, _ => exact run1120
 | 1, _, 1, _, 2, _, 1, _ => exact run1121
 | 1, _, 1, _, 2, _, 2, _ => exact run1122
 | 1, _, 2, _, 0, _, 0, _ => exact run1200
 | 1, _, 2, _, 0, _, 1, _ => exact run1201
 | 1, _, 2, _, 0, _, 2, _ => exact run1202
 | 1, _, 2, _, 1, _, 0, _ => exact run1210
 | 1, _, 2, _, 1, _, 1, _ => exact run1211
 | 1, _, 2, _, 1, _, 2, _ => exact run1212
 | 1, _, 2, _, 2, _, 0, _ => exact run1220
 | 1, _, 2, _, 2, _, 1, _ => exact run1221
 | 1, _, 2, _, 2, _, 2, _ => exact run1222
 | 2, _, 0, _, 0, _, 0, _ => exact run2000
 | 2, _, 0, _, 0, _, 1, _ => exact run2001
 | 2, _, 0, _, 0, _, 2, _ => exact run2002
 | 2, _, 0, _, 1, _, 0, _ => exact run2010
 | 2, _, 0, _, 1, _, 1, _ => exact run2011
 | 2, _, 0, _, 1, _, 2, _ => exact run2012
 | 2, _, 0, _, 2, _, 0, _ => exact run2020
 | 2, _, 0, _, 2, _, 1, _ => exact run2021
 | 2, _, 0, _, 2, _, 2, _ => exact run2022
 | 2, _, 1, _, 0, _, 0, _ => exact run2100
 | 2, _, 1, _, 0, _, 1, _ => exact run2101
 | 2, _, 1, _, 0, _, 2, _ => exact run2102
 | 2, _, 1, _, 1, _, 0, _ => exact run2110
 | 2, _, 1, _, 1, _, 1, _ => exact run2111
 | 2, _, 1, _, 1, _, 2, _ => exact run2112
 | 2, _, 1, _, 2, _, 0, _ => exact run2120
 | 2, _, 1, _, 2, _, 1, _ => exact run2121
 | 2, _, 1, _, 2, _, 2, _ => exact run2122
 | 2, _, 2, _, 0, _, 0, _ => exact run2200
 | 2, _, 2, _, 0, _, 1, _ => exact run2201
 | 2, _, 2, _, 0, _, 2, _ => exact run2202
 | 2, _, 2, _, 1, _, 0, _ => exact run2210
 | 2, _, 2, _, 1, _, 1, _ => exact run2211
 | 2, _, 2, _, 1, _, 2, _ => exact run2212
 | 2, _, 2, _, 2, _, 0, _ => exact run2220
 | 2, _, 2, _, 2, _, 1, _ => exact run2221
 | 2, _, 2, _, 2, _, 2, _ => exact run2222
theorem run_all {i0 i1 i2 i3 i4 i5 : Nat} (h0 : i0 < 3) (h1 : i1 < 3) (h2 : i2 < 3) (h3 : i3 < 3) (h4 : i4 < 3) (h5 : i5 < 3) : ∀ m ∈ memPcs i2 i5, okRun i0 i1 i2 i3 i4 i5 m = true :=
 List.all_eq_true.1 (all3_ok (all3_ok (run_at i0 i1 i2 i5 h0 h1 h2 h5) i3 h3) i4 h4)
theorem rowText_len {ρ : Env} {t n : Nat} {lo : Int} : (rowText ρ t lo n).length = n := by simp [rowText]
theorem u8_eq {x y : Int} (h : UInt8.ofNat (IntKind.u8.wrap x).toNat = UInt8.ofNat (IntKind.u8.wrap y).toNat) : IntKind.u8.wrap x = IntKind.u8.wrap y := by
 have hx : 0 ≤ IntKind.u8.wrap x ∧ IntKind.u8.wrap x ≤ 255 := by simp [IntKind.wrap, IntKind.bits, IntKind.signed]; omega
 have hy : 0 ≤ IntKind.u8.wrap y ∧ IntKind.u8.wrap y ≤ 255 := by simp [IntKind.wrap, IntKind.bits, IntKind.signed]; omega
 have h2 := congrArg UInt8.toNat h
 simp only [UInt8.toNat_ofNat'] at h2
 omega
theorem eqAt_u8 {ρ : Env} {t s : Nat} {j : Int} : eqAt ρ t s [.int .u8] j ↔ IntKind.u8.wrap (ρ.f1 t j) = IntKind.u8.wrap (ρ.f1 s j) := by
 have h : (X.eq (.wrap .u8 (.fn1 (t + 0) (.lit j))) (.wrap .u8 (.fn1 (s + 0) (.lit j)))).tt ρ = decide (IntKind.u8.wrap (ρ.f1 t j) = IntKind.u8.wrap (ρ.f1 s j)) := eq_tt rfl rfl
 unfold eqAt cEqs cEqs
 rw [List.forall_mem_singleton, h, decide_eq_true_iff]
theorem text_eq {ρ : Env} {t s : Nat} {n m : Int} (hn : 0 ≤ n) (hm : 0 ≤ m) : rowText ρ t 0 n.toNat = rowText ρ s 0 m.toNat ↔ n = m ∧ eqAll ρ t s [.int .u8] n := by
 refine ⟨fun h => ?_, fun ⟨h, k⟩ => ?_⟩
 ·have e := congrArg List.length h
  rw [rowText_len, rowText_len] at e
  have e' : n = m := by omega
  subst e'
  refine ⟨rfl, fun j h0 h1 => eqAt_u8.2 ?_⟩
  have h2 := congrArg (fun l => l[j.toNat]?) h
  have hj : j.toNat < n.toNat := by omega
  simp only [rowText, List.getElem?_map, List.getElem?_range hj, Option.map_some, Option.some.injEq] at h2
  have h3 := u8_eq h2
  rwa [show (0 : Int) + (j.toNat : Int) = j by omega] at h3
 ·subst h
  unfold rowText
  refine List.map_congr_left fun i hi => ?_
  have hi' := List.mem_range.1 hi
  have h3 := eqAt_u8.1 (k (i : Int) (by omega) (by omega))
  rw [show (0 : Int) + (i : Int) = i by omega, h3]
theorem seq_tt {ρ : Env} {x y : X} : (X.seq x y).tt ρ = (x.sden ρ == y.sden ρ) := by
 rw [X.tt, X.den, b2i_tt]
def SIn (W : World) (ks : List CK) (v : Value) (g : Nat → Int → Int) (n c : Int) (a : Addr) : Nat → Prop
 | 0 => v = .slice none 0 0
 | 1 => v = .slice (some a) 0 c.toNat ∧ 0 ≤ c
 | _ => v = .slice (some a) n.toNat c.toNat ∧ 1 ≤ n ∧ n ≤ 9223372036854775807 ∧ n ≤ c ∧ CameIn W ks a n.toNat g
theorem sIn_of {H : Type} {enc : TypeId × Value → H} {W : World} {v : Value} {base : Nat} {sp : Nat → Bool} {held : Bool} {t e k fuel : Nat} {ks : List CK} {x : DataW H × List MemPlace} (hu : Tryz.prog.underlying t = some (.slice e)) (hk : flatK Tryz.prog k e = some ks) (hc : Tryz.prog.cellsOf e = ks.length) (hp : 0 < ks.length)
  (h : DataW.trod enc Tryz.prog W base sp held fuel t [v] = some x) : ∃ g n c a i, i < 3 ∧ SIn W ks v g n c a i := by
 rcases open_row hu hk hc h with hcs | ⟨a, len, cap, zs, hcs, _, hle, hm, hz⟩
 ·obtain rfl := List.head_eq_of_cons_eq hcs
  exact ⟨fun _ _ => 0, 0, 0, ⟨0, 0, none⟩, 0, by decide, rfl⟩
 ·obtain rfl := List.head_eq_of_cons_eq hcs
  by_cases hl0 : len = 0
  ·subst hl0
   exact ⟨fun _ _ => 0, 0, cap, a, 1, by decide, rfl, by omega⟩
  ·have hc := cameIn_of (by omega) hp hz
   have hb : maxLen = 9223372036854775807 := rfl
   exact ⟨_, len, cap, a, 2, by decide, rfl, by omega, by omega, by omega, hc⟩
set_option maxRecDepth 100000 in
theorem ran_of {H : Type} {enc : TypeId × Value → H} {W : World} {v : Value} {d0 : DataW H} {p : List MemPlace} {base b0 : Nat} {sp : Nat → Bool} {held : Bool} {r : Reach} (hval : Value.okWide Tryz.prog W r b0 43 v) (h : DataW.Trod enc Tryz.prog W base sp held 43 v d0 p) :
  ∃ u0 u1 u2 b, v = .agg #[u0, u1, u2, .bool b] ∧ (∃ g n c a i, i < 3 ∧ SIn W kD u0 g n c a i) ∧ (∃ g n c a i, i < 3 ∧ SIn W kH u1 g n c a i) ∧ ∃ g n c a i, i < 3 ∧ SIn W [.int .u8] u2 g n c a i := by
 obtain ⟨cs, rfl, hs⟩ := okWide_struct Tryz.underlying43 hval
 obtain ⟨fuel, hf⟩ := h
 obtain ⟨xs, m, rfl, _, hlen, hxs, hel⟩ := DataW.trod_struct Tryz.underlying43 hf
 have hc : Tryz.prog.cellsOf 43 = 4 := by kernel_rfl
 have c40 : Tryz.prog.cellsOf 40 = 1 := by kernel_rfl
 have c41 : Tryz.prog.cellsOf 41 = 1 := by kernel_rfl
 have c22 : Tryz.prog.cellsOf 22 = 1 := by kernel_rfl
 have c4 : Tryz.prog.cellsOf 4 = 1 := by kernel_rfl
 obtain ⟨l⟩ := cs
 have hl : l.length = 4 := by simpa [hc] using hs
 have hxl : xs.length = 4 := by simpa using hxs
 have get : ∀ i (hi : i < xs.length), xs[i]? = some xs[i] := fun i hi => List.getElem?_eq_getElem hi
 match l, hl with
 | [a0, a1, a2, a3], _ =>
  have e0 := hel 0 { name := "Dids", type := 40, offset := 0, embedded := false, tag := "", pkgPath := "", byteOffset := 0 } rfl
  have e1 := hel 1 { name := "Harts", type := 41, offset := 1, embedded := false, tag := "", pkgPath := "", byteOffset := 24 } rfl
  have e2 := hel 2 { name := "Memory", type := 22, offset := 2, embedded := false, tag := "", pkgPath := "", byteOffset := 48 } rfl
  have e3 := hel 3 { name := "Rests", type := 4, offset := 3, embedded := false, tag := "", pkgPath := "", byteOffset := 72 } rfl
  rw [get _ (by omega)] at e0 e1 e2 e3
  dsimp only at e0 e1 e2 e3
  rw [c40] at e0
  rw [c41] at e1
  rw [c22] at e2
  rw [c4] at e3
  obtain ⟨b, h3, _⟩ := DataW.trod_bool Tryz.underlying4 e3
  simp [Value.cells] at h3
  subst h3
  exact ⟨a0, a1, a2, b, rfl, sIn_of (k := 8) Tryz.underlying40 (by kernel_rfl) (by kernel_rfl) (by decide) e0, sIn_of (k := 8) Tryz.underlying41 (by kernel_rfl) (by kernel_rfl) (by decide) e1, sIn_of (k := 3) Tryz.underlying22 (by kernel_rfl) (by kernel_rfl) (by decide) e2⟩
theorem tle {ρ : Env} {x y : X} (h : x.den ρ ≤ y.den ρ) : (X.le x y).tt ρ = true := (le_tt rfl rfl).trans (decide_eq_true h)
theorem pcApp {ρ : Env} {p q : PC} (hp : PcOk ρ p) (hq : PcOk ρ q) : PcOk ρ (p ++ q) := fun f hf => (List.mem_append.1 hf).elim (hp f) (hq f)
section
variable {d : NK} {v : Value} {j : Nat} {ks : List CK}
abbrev NK.In (d : NK) (ks : List CK) (v : Value) (j : Nat) : Nat → Prop := SIn d.W ks v (d.g j) (d.n j) (d.c j) (d.a j)
theorem pc1 {q : Nat} (hq : d.env.v q = d.c j) (h : d.In ks v j 1) : PcOk d.env [(.le (.lit 0) (.var q), true)] :=
 pcCons (tle (by show 0 ≤ d.env.v q; rw [hq]; exact h.2)) pcNil
theorem pc2 {n q : Nat} (hn : d.env.v n = d.n j) (hq : d.env.v q = d.c j) (h : d.In ks v j 2) : PcOk d.env [(.le (.lit 1) (.var n), true), (.le (.var n) lBig, true), (.le (.var n) (.var q), true)] :=
 pcCons (tle (by show 1 ≤ d.env.v n; rw [hn]; exact h.2.1)) (pcCons (tle (by show d.env.v n ≤ 9223372036854775807; rw [hn]; exact h.2.2.1)) (pcCons (tle (by show d.env.v n ≤ d.env.v q; rw [hn, hq]; exact h.2.2.2.1)) pcNil))
theorem s0Pc : ∀ {i : Nat}, i < 3 → d.In kD v 0 i → PcOk d.env (slPc 0 i)
 | 0, _, _ => pcNil
 | 1, _, h => pc1 rfl h
 | 2, _, h => pc2 rfl rfl h
theorem s1Pc : ∀ {i : Nat}, i < 3 → d.In kH v 1 i → PcOk d.env (slPc 1 i)
 | 0, _, _ => pcNil
 | 1, _, h => pc1 rfl h
 | 2, _, h => pc2 rfl rfl h
theorem s2Pc : ∀ {i : Nat}, i < 3 → d.In [.int .u8] v 2 i → PcOk d.env (slPc 2 i)
 | 0, _, _ => pcNil
 | 1, _, h => pc1 rfl h
 | 2, _, h => pc2 rfl rfl h
theorem s3Pc : ∀ {i : Nat}, i < 3 → d.In kD v 3 i → PcOk d.env (slPc 3 i)
 | 0, _, _ => pcNil
 | 1, _, h => pc1 rfl h
 | 2, _, h => pc2 rfl rfl h
theorem s4Pc : ∀ {i : Nat}, i < 3 → d.In kH v 4 i → PcOk d.env (slPc 4 i)
 | 0, _, _ => pcNil
 | 1, _, h => pc1 rfl h
 | 2, _, h => pc2 rfl rfl h
theorem s5Pc : ∀ {i : Nat}, i < 3 → d.In [.int .u8] v 5 i → PcOk d.env (slPc 5 i)
 | 0, _, _ => pcNil
 | 1, _, h => pc1 rfl h
 | 2, _, h => pc2 rfl rfl h
theorem add_none (a : Addr) : a.add 0 = a := by simp [Addr.add]
theorem co1 {π : Pl} {b w q : Nat} (hb : d.env.win b = d.a j) (hq : d.env.v q = d.c j) (h : d.In ks v j 1) : (V.xslice true b (.lit 0) w (.lit 0) (.known (.var q))).conc d.env π = v := by
 refine Eq.trans ?_ h.1.symm
 show Value.slice (some ((d.env.win b).add (0 * w))) 0 (d.env.v q).toNat = _
 rw [hb, hq, Nat.zero_mul, add_none]
theorem co2 {π : Pl} {b w n q : Nat} (hb : d.env.win b = d.a j) (hn : d.env.v n = d.n j) (hq : d.env.v q = d.c j) (h : d.In ks v j 2) : (V.xslice true b (.lit 0) w (.var n) (.known (.var q))).conc d.env π = v := by
 refine Eq.trans ?_ h.1.symm
 show Value.slice (some ((d.env.win b).add (0 * w))) (d.env.v n).toNat (d.env.v q).toNat = _
 rw [hb, hn, hq, Nat.zero_mul, add_none]
theorem s0Co {π : Pl} : ∀ {i : Nat}, i < 3 → d.In kD v 0 i → (slV 0 i).conc d.env π = v
 | 0, _, h => h.symm
 | 1, _, h => co1 rfl rfl h
 | 2, _, h => co2 rfl rfl rfl h
theorem s1Co {π : Pl} : ∀ {i : Nat}, i < 3 → d.In kH v 1 i → (slV 1 i).conc d.env π = v
 | 0, _, h => h.symm
 | 1, _, h => co1 rfl rfl h
 | 2, _, h => co2 rfl rfl rfl h
theorem s2Co {π : Pl} : ∀ {i : Nat}, i < 3 → d.In [.int .u8] v 2 i → (slV 2 i).conc d.env π = v
 | 0, _, h => h.symm
 | 1, _, h => co1 rfl rfl h
 | 2, _, h => co2 rfl rfl rfl h
theorem s3Co {π : Pl} : ∀ {i : Nat}, i < 3 → d.In kD v 3 i → (slV 3 i).conc d.env π = v
 | 0, _, h => h.symm
 | 1, _, h => co1 rfl rfl h
 | 2, _, h => co2 rfl rfl rfl h
theorem s4Co {π : Pl} : ∀ {i : Nat}, i < 3 → d.In kH v 4 i → (slV 4 i).conc d.env π = v
 | 0, _, h => h.symm
 | 1, _, h => co1 rfl rfl h
 | 2, _, h => co2 rfl rfl rfl h
theorem s5Co {π : Pl} : ∀ {i : Nat}, i < 3 → d.In [.int .u8] v 5 i → (slV 5 i).conc d.env π = v
 | 0, _, h => h.symm
 | 1, _, h => co1 rfl rfl h
 | 2, _, h => co2 rfl rfl rfl h
theorem slR_mem {x : Nat × SObj} : ∀ {i : Nat}, i < 3 → x ∈ slR j i → i = 2 ∧ x = sR j
 | 0, _, h => by cases h
 | 1, _, h => by cases h
 | 2, _, h => ⟨rfl, List.mem_singleton.1 h⟩
theorem memIn {u : Value} {i k : Nat} (hi : i < 3) (hk : k < 3) (h2 : d.In [.int .u8] v 2 i) (h5 : d.In [.int .u8] u 5 k) : ∃ m ∈ memPcs i k, PcOk d.env m := by
 have hA : txA.sden d.env = rowText d.env 600 0 (d.n 2).toNat := rfl
 have hB : txB.sden d.env = rowText d.env 700 0 (d.n 5).toNat := rfl
 have e0 : eqAll d.env 600 700 [.int .u8] (d.n 2) ↔ eqAll d.e0 600 700 [.int .u8] (d.n 2) := eqAll_env (ρ1 := d.env) (ρ := d.e0) rfl
 match i, hi, k, hk, h2, h5 with
 | 0, _, 0, _, _, _ => exact ⟨_, List.mem_singleton.2 rfl, pcNil⟩
 | 0, _, 1, _, _, _ => exact ⟨_, List.mem_singleton.2 rfl, pcNil⟩
 | 1, _, 0, _, _, _ => exact ⟨_, List.mem_singleton.2 rfl, pcNil⟩
 | 1, _, 1, _, _, _ => exact ⟨_, List.mem_singleton.2 rfl, pcNil⟩
 | 0, _, 2, _, _, h5 => exact ⟨_, List.mem_singleton.2 rfl, pcCons (seq_tt.trans (nilB h5.2.1 hB)) pcNil⟩
 | 1, _, 2, _, _, h5 => exact ⟨_, List.mem_singleton.2 rfl, pcCons (seq_tt.trans (nilB h5.2.1 hB)) pcNil⟩
 | 2, _, 0, _, h2, _ => exact ⟨_, List.mem_singleton.2 rfl, pcCons (seq_tt.trans (nilA h2.2.1 hA)) pcNil⟩
 | 2, _, 1, _, h2, _ => exact ⟨_, List.mem_singleton.2 rfl, pcCons (seq_tt.trans (nilA h2.2.1 hA)) pcNil⟩
 | 2, _, 2, _, h2, h5 =>
  have key := text_eq (ρ := d.env) (t := 600) (s := 700) (show 0 ≤ d.n 2 by have := h2.2.1; omega) (show 0 ≤ d.n 5 by have := h5.2.1; omega)
  by_cases hq : rowText d.env 600 0 (d.n 2).toNat = rowText d.env 700 0 (d.n 5).toNat
  ·obtain ⟨q1, q2⟩ := key.1 hq
   exact ⟨_, List.mem_cons_self .., pcCons (seq_tt.trans (by rw [hA, hB, hq]; exact beq_self_eq_true _)) (pcCons (eq2n rfl rfl (tv_yes (e0.1 q2))) (pcCons (eq2 rfl rfl q1) pcNil))⟩
  ·have hs : (X.seq txA txB).tt d.env = false := seq_tt.trans (by rw [hA, hB]; exact beq_false_of_ne hq)
   by_cases hn : d.n 2 = d.n 5
   ·exact ⟨_, List.mem_cons_of_mem _ (List.mem_cons_self ..), pcCons hs (pcCons (eq2 rfl rfl (tv_no fun q => hq (key.2 ⟨hn, e0.2 q⟩))) pcNil)⟩
   ·exact ⟨_, List.mem_cons_of_mem _ (List.mem_cons_of_mem _ (List.mem_cons_self ..)), pcCons hs (pcCons (eq2n rfl rfl hn) pcNil)⟩
where
 nilA (h : 1 ≤ d.n 2) (e : txA.sden d.env = rowText d.env 600 0 (d.n 2).toNat) : (txA.sden d.env == (X.slit []).sden d.env) = false := by
  refine beq_false_of_ne fun q => ?_
  have := congrArg List.length (e.symm.trans q)
  rw [rowText_len] at this
  have h0 : ((X.slit []).sden d.env).length = 0 := rfl
  omega
 nilB (h : 1 ≤ d.n 5) (e : txB.sden d.env = rowText d.env 700 0 (d.n 5).toNat) : ((X.slit []).sden d.env == txB.sden d.env) = false := by
  refine beq_false_of_ne fun q => ?_
  have := congrArg List.length (q.trans e)
  rw [rowText_len] at this
  have h0 : ((X.slit []).sden d.env).length = 0 := rfl
  omega
theorem rests_conc {π : Pl} {i k : Nat} (h : d.env.v i = b2i (!d.r k)) : (V.bool (.eq (.var i) (.lit 0))).conc d.env π = .bool (d.r k) := by
 show Value.bool ((X.eq (.var i) (.lit 0)).tt d.env) = _
 rw [eq_tt (ρ := d.env) (x := .var i) (y := .lit 0) h rfl]
 cases d.r k <;> rfl
end
theorem roAll_same {W : World} (h : laidMetH Tryz.prog Rows.scriptSameRow.laid W) {ρ : Env} (h0 : ρ.ro 0 = roW W 0) : RoAt ρ LStart ∧ ∀ x ∈ LStart, W.heap[x.1]? = some (ρ.ro x.1) := by
 obtain ⟨t, fr, h1⟩ := of_laid h
 have e : ρ.ro 0 = .cells ((asciiZ 256).map (.int .u8)).toArray t fr := by rw [h0]; simp only [roW, h1, Option.getD_some]
 refine ⟨⟨fun x hx => ?_⟩, fun x hx => ?_⟩ <;> (simp only [LStart, List.mem_singleton] at hx; subst hx)
 ·exact ⟨t, fr, fun π => by rw [e, asciiL_concs]⟩
 ·rw [e]; exact h1
def pick {α : Type} (x0 x1 x2 x3 x4 x5 : α) : Nat → α
 | 0 => x0
 | 1 => x1
 | 2 => x2
 | 3 => x3
 | 4 => x4
 | _ => x5
set_option maxRecDepth 100000 in
theorem same_walk {H : Type} {enc : TypeId × Value → H} {W : World} (h : laidMetH Tryz.prog Rows.scriptSameRow.laid W) {v0 v1 : Value} {d0 d1 : DataW H} {p0 p1 : List MemPlace} {b0 b1 : Nat} (hv0 : Value.okWide Tryz.prog W .any b0 43 v0) (hv1 : Value.okWide Tryz.prog W .any b1 43 v1)
  (h0 : DataW.Trod enc Tryz.prog W 0 (fun _ => true) true 43 v0 d0 p0) (h1 : DataW.Trod enc Tryz.prog W 0 (fun _ => true) true 43 v1 d1 p1) : Calls Tryz.prog 7 #[v0, v1] W fun e W' => e = .returned (.bool true) ∧ Below W.heap.size W W' := by
 obtain ⟨u0, u1, u2, r0, rfl, ⟨g0, n0, c0, a0, i0, l0, S0⟩, ⟨g1, n1, c1, a1, i1, l1, S1⟩, ⟨g2, n2, c2, a2, i2, l2, S2⟩⟩ := ran_of hv0 h0
 obtain ⟨u3, u4, u5, r3, rfl, ⟨g3, n3, c3, a3, i3, l3, S3⟩, ⟨g4, n4, c4, a4, i4, l4, S4⟩, ⟨g5, n5, c5, a5, i5, l5, S5⟩⟩ := ran_of hv1 h1
 let d : NK := ⟨W, pick g0 g1 g2 g3 g4 g5, pick n0 n1 n2 n3 n4 n5, pick c0 c1 c2 c3 c4 c5, pick a0 a1 a2 a3 a4 a5, pick r0 r3 r3 r3 r3 r3⟩
 have S0 : d.In kD u0 0 i0 := S0
 have S1 : d.In kH u1 1 i1 := S1
 have S2 : d.In [.int .u8] u2 2 i2 := S2
 have S3 : d.In kD u3 3 i3 := S3
 have S4 : d.In kH u4 4 i4 := S4
 have S5 : d.In [.int .u8] u5 5 i5 := S5
 obtain ⟨hro, hW⟩ := roAll_same h (ρ := d.env) rfl
 have hmem : ∀ x ∈ wsOf i0 i1 i2 i3 i4 i5, (i0 = 2 ∧ x = sR 0) ∨ (i1 = 2 ∧ x = sR 1) ∨ (i2 = 2 ∧ x = sR 2) ∨ (i3 = 2 ∧ x = sR 3) ∨ (i4 = 2 ∧ x = sR 4) ∨ (i5 = 2 ∧ x = sR 5) := by
  intro x hx
  unfold wsOf at hx
  simp only [List.mem_append] at hx
  exact hx.imp (slR_mem l0) fun hx => hx.imp (slR_mem l1) fun hx => hx.imp (slR_mem l2) fun hx => hx.imp (slR_mem l3) fun hx => hx.imp (slR_mem l4) (slR_mem l5)
 have C0 : i0 = 2 → CameIn W kD (d.a 0) (d.n 0).toNat (d.g 0) := by
  intro e
  rw [e] at S0
  exact S0.2.2.2.2
 have C1 : i1 = 2 → CameIn W kH (d.a 1) (d.n 1).toNat (d.g 1) := by
  intro e
  rw [e] at S1
  exact S1.2.2.2.2
 have C2 : i2 = 2 → CameIn W [.int .u8] (d.a 2) (d.n 2).toNat (d.g 2) := by
  intro e
  rw [e] at S2
  exact S2.2.2.2.2
 have C3 : i3 = 2 → CameIn W kD (d.a 3) (d.n 3).toNat (d.g 3) := by
  intro e
  rw [e] at S3
  exact S3.2.2.2.2
 have C4 : i4 = 2 → CameIn W kH (d.a 4) (d.n 4).toNat (d.g 4) := by
  intro e
  rw [e] at S4
  exact S4.2.2.2.2
 have C5 : i5 = 2 → CameIn W [.int .u8] (d.a 5) (d.n 5).toNat (d.g 5) := by
  intro e
  rw [e] at S5
  exact S5.2.2.2.2
 have F0 : ∀ c, c < (kD : List CK).length → d.env.f1 (200 + c) = d.g 0 c := by
  intro c hc
  have hl : (kD : List CK).length = 20 := rfl
  show d.f (200 + c) = d.g 0 c
  unfold NK.f
  rw [if_pos (by omega), Nat.add_sub_cancel_left]
 have F1 : ∀ c, c < (kH : List CK).length → d.env.f1 (400 + c) = d.g 1 c := by
  intro c hc
  have hl : (kH : List CK).length = 35 := rfl
  show d.f (400 + c) = d.g 1 c
  unfold NK.f
  rw [if_neg (by omega), if_neg (by omega), if_pos (by omega), Nat.add_sub_cancel_left]
 have F2 : ∀ c, c < ([.int .u8] : List CK).length → d.env.f1 (600 + c) = d.g 2 c := by
  intro c hc
  have hl : ([.int .u8] : List CK).length = 1 := rfl
  show d.f (600 + c) = d.g 2 c
  unfold NK.f
  rw [if_neg (by omega), if_neg (by omega), if_neg (by omega), if_neg (by omega), if_pos (by omega), Nat.add_sub_cancel_left]
 have F3 : ∀ c, c < (kD : List CK).length → d.env.f1 (300 + c) = d.g 3 c := by
  intro c hc
  have hl : (kD : List CK).length = 20 := rfl
  show d.f (300 + c) = d.g 3 c
  unfold NK.f
  rw [if_neg (by omega), if_pos (by omega), Nat.add_sub_cancel_left]
 have F4 : ∀ c, c < (kH : List CK).length → d.env.f1 (500 + c) = d.g 4 c := by
  intro c hc
  have hl : (kH : List CK).length = 35 := rfl
  show d.f (500 + c) = d.g 4 c
  unfold NK.f
  rw [if_neg (by omega), if_neg (by omega), if_neg (by omega), if_pos (by omega), Nat.add_sub_cancel_left]
 have F5 : ∀ c, c < ([.int .u8] : List CK).length → d.env.f1 (700 + c) = d.g 5 c := by
  intro c hc
  have hl : ([.int .u8] : List CK).length = 1 := rfl
  show d.f (700 + c) = d.g 5 c
  unfold NK.f
  rw [if_neg (by omega), if_neg (by omega), if_neg (by omega), if_neg (by omega), if_neg (by omega), Nat.add_sub_cancel_left]
 have hrows : RowsAt d.env W (wsOf i0 i1 i2 i3 i4 i5) 7 13 := by
  refine ⟨fun x hx => ?_, by decide, fun x hx => ?_, fun x hx => ?_, fun x hx π hπ => ?_⟩ <;> rcases hmem x hx with ⟨e, rfl⟩ | ⟨e, rfl⟩ | ⟨e, rfl⟩ | ⟨e, rfl⟩ | ⟨e, rfl⟩ | ⟨e, rfl⟩
  ·decide
  ·decide
  ·decide
  ·decide
  ·decide
  ·decide
  ·exact (C0 e).block
  ·exact (C1 e).block
  ·exact (C2 e).block
  ·exact (C3 e).block
  ·exact (C4 e).block
  ·exact (C5 e).block
  ·rfl
  ·rfl
  ·rfl
  ·rfl
  ·rfl
  ·rfl
  ·exact (C0 e).is (t := 200) rfl rfl F0 (Nat.le_refl _) hπ
  ·exact (C1 e).is (t := 400) rfl rfl F1 (Nat.le_refl _) hπ
  ·exact (C2 e).is (t := 600) rfl rfl F2 (Nat.le_refl _) hπ
  ·exact (C3 e).is (t := 300) rfl rfl F3 (Nat.le_refl _) hπ
  ·exact (C4 e).is (t := 500) rfl rfl F4 (Nat.le_refl _) hπ
  ·exact (C5 e).is (t := 700) rfl rfl F5 (Nat.le_refl _) hπ
 obtain ⟨m, hm, hmp⟩ := memIn l2 l5 S2 S5
 have hpc : PcOk d.env (pcOf i0 i1 i2 i3 i4 i5 m) := pcApp (s0Pc l0 S0) (pcApp (s1Pc l1 S1) (pcApp (s2Pc l2 S2) (pcApp (s3Pc l3 S3) (pcApp (s4Pc l4 S4) (pcApp (s5Pc l5 S5) (pcApp hmp (pcCons rfl pcNil)))))))
 have ha : SaysL d.env (fun i => i < 13) (πRows d.env 7) [argA i0 i1 i2, argB i3 i4 i5] [.agg #[u0, u1, u2, .bool r0], .agg #[u3, u4, u5, .bool r3]] := by
  intro π _
  have e0 : (argA i0 i1 i2).conc d.env π = .agg #[u0, u1, u2, .bool r0] := by
   show Value.agg [(slV 0 i0).conc d.env π, (slV 1 i1).conc d.env π, (slV 2 i2).conc d.env π, (V.bool (.eq (.var 70) (.lit 0))).conc d.env π].toArray = _
   rw [s0Co l0 S0, s1Co l1 S1, s2Co l2 S2, rests_conc (d := d) (k := 0) rfl]
   rfl
  have e1 : (argB i3 i4 i5).conc d.env π = .agg #[u3, u4, u5, .bool r3] := by
   show Value.agg [(slV 3 i3).conc d.env π, (slV 4 i4).conc d.env π, (slV 5 i5).conc d.env π, (V.bool (.eq (.var 73) (.lit 0))).conc d.env π].toArray = _
   rw [s3Co l3 S3, s4Co l4 S4, s5Co l5 S5, rests_conc (d := d) (k := 1) rfl]
   rfl
  show [(argA i0 i1 i2).conc d.env π, (argB i3 i4 i5).conc d.env π] = _
  rw [e0, e1]
 exact law_rows (cx := cxK) (L := LStart) (ng := 7) (nm := 13) (ρ := d.env) (N := 4000) mixed_door tt_ok ft_ok (allK hro) Tryz.func7 rfl LStart_lt hro hW hrows hpc (by rw [evT_call]; exact run_all l0 l1 l2 l3 l4 l5 m hm) ha
end Go.Proofs.YtennjdjcjjjmiaaGreatDoor
