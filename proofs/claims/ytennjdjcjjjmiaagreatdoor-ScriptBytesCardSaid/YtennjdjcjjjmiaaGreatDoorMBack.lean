/- ScriptBytes: the runs; of any bytes, any choices the law answers true, and nothing that was there is turned. No condition. -/
import Derived.Test.YtennjdjcjjjmiaaGreatDoorMTold
import Derived.Test.YtennjdjcjjjmiaaGreatDoorFwH
namespace Go.Proofs.YtennjdjcjjjmiaaGreatDoor
open Go Go.Proofs Go.ChangeShapes Go.WideShapes Go.ChangeAt Go.RowKit
noncomputable def tv (P : Prop) : Int := by classical exact if P then 1 else 0
theorem tv_yes {P : Prop} (h : P) : tv P ≠ 0 := by
 unfold tv
 rw [if_pos h]
 decide
theorem tv_no {P : Prop} (h : ¬ P) : tv P = 0 := by
 unfold tv
 rw [if_neg h]
theorem nV_ok {a : Int} (h : 0 ≤ nV a) : 1 ≤ a ∧ a ≤ 5 := by
 by_cases h1 : a = 1
 ·omega
 by_cases h2 : a = 2
 ·omega
 by_cases h3 : a = 3
 ·omega
 by_cases h4 : a = 4
 ·omega
 by_cases h5 : a = 5
 ·omega
 simp [nV, nE, X.den, b2i, h1, h2, h3, h4, h5] at h
def okR (g : Nat → Int → Int) (n : Int) : Prop := ∀ j : Int, 0 ≤ j → j < n → okC (wI (g 0) j) (wI (g 1) j) (wI (g 2) j)
def sameR (g h : Nat → Int → Int) (n : Int) : Prop := ∀ j : Int, 0 ≤ j → j < n → wI (g 0) j = wI (h 0) j ∧ wI (g 1) j = wI (h 1) j ∧ wI (g 2) j = wI (h 2) j
def bytesR (g : Nat → Int → Int) (n : Int) : Int → Int := rowB (g 0) (g 1) (g 2) n
theorem same_r (g : Nat → Int → Int) (n : Int) : sameR g g n := fun _ _ _ => ⟨rfl, rfl, rfl⟩
structure BK where
 W : World
 gl : Nat → Int → Int
 nl : Int
 cl : Int
 al : Addr
 gb : Int → Int
 nb : Int
 cb : Int
 ab : Addr
def BK.m (d : BK) : Int := (d.nb + 1) / 2
def BK.r (d : BK) : Nat → Int → Int := rowF d.gb d.nb d.m
noncomputable def BK.env (d : BK) : Env :=
 {b := fun _ => false
  v := fun i => if i = 50 then d.nl else if i = 51 then d.cl else if i = 60 then d.nb else if i = 61 then d.cb else if i = 62 then d.m else if i = 63 then 2 * d.nl else if i = 64 then tv (okR d.gl d.nl)
   else if i = 76 then tv (sameR d.gl d.gl d.nl) else if i = 96 then tv (sameR d.r d.r d.m) else 0
  f1 := fun f => if f = 10 then d.gb else if f = 20 then d.r 0 else if f = 21 then d.r 1 else if f = 22 then d.r 2 else if f = 40 then d.gl 0 else if f = 41 then d.gl 1 else if f = 42 then d.gl 2 else if f = 60 then bytesR d.gl d.nl else fun _ => 0
  f2 := fun _ _ _ => 0, s := fun _ => [], sf := fun _ _ => []
  ro := fun i => if i = 7 then roW d.W d.al.block else if i = 8 then roW d.W d.ab.block else roW d.W i
  win := fun i => if i = 7 then d.al else d.ab }
def sb (v : List (Nat × X)) (f : List (Nat × Nat × Nat)) : Sub := { v := v, n := 0, b := [], s := [], f := f }
def two (x : X) : X := .mul (.lit 2) x
def ki : List CK := [.int .i64, .int .i64, .int .i64]
def sSm2 : List Sub := [sb [(50, .var 62), (54, .var 62), (66, .var 96)] [(40, 3, 20), (44, 3, 20)]]
def sSm3 : List Sub := [sb [(54, .var 50), (66, .var 76)] [(44, 3, 40)]]
def big : List V → Bool := fun l => l.any fun a => match a with
 | .xslice _ _ _ _ (.var _) _ => true
 | _ => false
def soK (f : FuncId) (args : List V) (_ : St) : Bool := match f with
 | 9 => big args
 | 10 => big args
 | 11 => big args
 | 12 => big args
 | 13 => big args
 | _ => true
noncomputable def smL : List (FuncId × (List V → St → R (V × St))) := [(8, sumTab LStart 7 sum8), (9, sumSites LStart 7 Ch3P Ch3R [sb [] []]), (10, sumSites LStart 7 Rw3P Rw3R [sb [] []]), (11, sumSites LStart 7 RRP RRR [sb [] []]), (12, orS (sumSites LStart 7 Sm2P Sm2R sSm2) (sumSites LStart 7 Sm3P Sm3R sSm3)), (13, sumSites LStart 7 RCP RCR [sb [] []])]
noncomputable def cxK : Cx := { cxD with sm := smOf smL, sx := true, mg := true, js := true, so := soK }
section
variable {d : BK}
theorem specA1 : ∀ σ ∈ [sb [] []], SpecA (σ.env d.env) := by
 intro σ hσ
 obtain rfl := List.mem_singleton.1 hσ
 exact ⟨rfl, fun c hc => by
  match c, hc with
  | 0, _ => rfl
  | 1, _ => rfl
  | 2, _ => rfl⟩
theorem specB1 : ∀ σ ∈ [sb [] []], SpecB (σ.env d.env) := by
 intro σ hσ
 obtain rfl := List.mem_singleton.1 hσ
 exact ⟨rfl, fun h => tv_yes h, fun h => tv_no h, rfl⟩
theorem specD2 : ∀ σ ∈ sSm2, SpecD (σ.env d.env) := by
 intro σ hσ
 obtain rfl := List.mem_singleton.1 hσ
 exact ⟨fun h => tv_yes h, fun h => tv_no h⟩
theorem specD3 : ∀ σ ∈ sSm3, SpecD (σ.env d.env) := by
 intro σ hσ
 obtain rfl := List.mem_singleton.1 hσ
 exact ⟨fun h => tv_yes h, fun h => tv_no h⟩
theorem allK (hro : RoAt d.env LStart) : SumOk Tryz.prog cxK d.env :=
 smOf_okL (l := smL) ⟨at8 (ro := d.env.ro) (fun ρ' hr => RoAll.of hro ρ' hr) rfl rfl, Ch3_at rfl hro specA1, Rw3_at rfl hro specB1, RR_at rfl hro specB1, orS_ok (Sm2_at rfl hro specD2) (Sm3_at rfl hro specD3), RC_at rfl hro specA1, trivial⟩ rfl
end
def e0 (t : Nat) : X := .wrap .i64 (.fn1 t (.lit 0))
def lA : Nat → V × PC
 | 0 => (.nilslice, [])
 | 1 => (.xslice true 7 (.lit 0) 3 (.lit 0) (.known (.var 51)), [(.le (.lit 0) (.var 51), true)])
 | 2 => (.xslice true 7 (.lit 0) 3 (.var 50) (.known (.var 51)), [(.le (.lit 1) (.var 50), true), (.le (.var 50) (.lit 1000), true), (.le (.var 50) (.var 51), true), (.eq (.var 64) (.lit 0), true), (.eq (.var 76) (.lit 0), false)])
 | 3 => (.xslice true 7 (.lit 0) 3 (.var 50) (.known (.var 51)), [(.le (.lit 1) (.var 50), true), (.le (.var 50) (.lit 1000), true), (.le (.var 50) (.var 51), true), (.eq (.var 64) (.lit 0), false), (.le (.var 63) (two (.var 50)), true), (.le (two (.var 50)) (.var 63), true), (.eq (.var 76) (.lit 0), false), (.lt (e0 40) (.lit 1), false), (.lt (.lit 5) (e0 40), false), (.lt (e0 41) (.lit 0), false), (.lt (.lit 3) (e0 41), false), (.lt (e0 42) (.lit 0), false), (.lt (.lit 255) (e0 42), false)])
 | _ => (.xslice true 7 (.lit 0) 3 (.var 50) (.known (.var 51)), [(.lt (.lit 1000) (.var 50), true), (.le (.var 50) (.var 51), true)])
def bA : Nat → V × PC
 | 0 => (.nilslice, [])
 | 1 => (.xslice true 8 (.lit 0) 1 (.lit 0) (.known (.var 61)), [(.le (.lit 0) (.var 61), true)])
 | 2 => (.xslice true 8 (.lit 0) 1 (.lit 1) (.known (.var 61)), [(.le (.lit 1) (.var 61), true), (.le (.lit 1) (.var 60), true)])
 | 3 => (.xslice true 8 (.lit 0) 1 (.var 60) (.known (.var 61)), [(.lt (.var 60) (.lit 2), false), (.le (.var 60) (.lit 3000), true), (.le (.var 60) (.var 61), true), (.le (.lit 1) (.var 62), true), (.le (.var 62) (.lit 1500), true), (.eq (.var 96) (.lit 0), false)])
 | _ => (.xslice true 8 (.lit 0) 1 (.var 60) (.known (.var 61)), [(.lt (.lit 3000) (.var 60), true), (.le (.var 60) (.var 61), true)])
def wsOf (i j : Nat) : List (Nat × SObj) := (match Nat.ble 2 i with
 | true => [(7, .warr 7 40 ki (.var 50))]
 | false => []) ++ (match Nat.ble 2 j with
 | true => [(8, .warr 8 10 [.int .u8] (.var 60))]
 | false => [])
def pcOf (i j : Nat) : PC := (lA i).2 ++ ((bA j).2 ++ [(.le (.lit 0) (.lit 7), true)])
noncomputable def okRun (i j : Nat) : Bool := allChkX ((evT cxK 4000).call 3 [(bA j).1, (lA i).1] (stRows LStart (wsOf i j) 9 (pcOf i j)))
noncomputable def okRuns (i : Nat) : Bool := and6 (okRun i 0) (okRun i 1) (okRun i 2) (okRun i 3) (okRun i 4) true
set_option maxRecDepth 100000 in
theorem run0 : okRuns 0 = true := by kernel_rfl
set_option maxRecDepth 100000 in
theorem run1 : okRuns 1 = true := by kernel_rfl
set_option maxRecDepth 100000 in
theorem run2 : okRuns 2 = true := by kernel_rfl
set_option maxRecDepth 100000 in
theorem run3 : okRuns 3 = true := by kernel_rfl
set_option maxRecDepth 100000 in
theorem run4 : okRuns 4 = true := by kernel_rfl
theorem run_all : ∀ i j, i < 5 → j < 5 → okRun i j = true := by
 have key : ∀ i, okRuns i = true → ∀ j, j < 5 → okRun i j = true := by
  intro i h j hj
  obtain ⟨h0, h1, h2, h3, h4, _⟩ := and6_ok h
  match j, hj with
  | 0, _ => exact h0
  | 1, _ => exact h1
  | 2, _ => exact h2
  | 3, _ => exact h3
  | 4, _ => exact h4
 intro i j hi hj
 match i, hi with
 | 0, _ => exact key 0 run0 j hj
 | 1, _ => exact key 1 run1 j hj
 | 2, _ => exact key 2 run2 j hj
 | 3, _ => exact key 3 run3 j hj
 | 4, _ => exact key 4 run4 j hj
def LIn (W : World) (v : Value) (gl : Nat → Int → Int) (nl cl : Int) (al : Addr) : Nat → Prop
 | 0 => v = .slice none 0 0
 | 1 => v = .slice (some al) 0 cl.toNat ∧ 0 ≤ cl
 | 2 => v = .slice (some al) nl.toNat cl.toNat ∧ 1 ≤ nl ∧ nl ≤ 1000 ∧ nl ≤ cl ∧ ¬ okR gl nl ∧ CameIn W ki al nl.toNat gl
 | 3 => v = .slice (some al) nl.toNat cl.toNat ∧ 1 ≤ nl ∧ nl ≤ 1000 ∧ nl ≤ cl ∧ okR gl nl ∧ CameIn W ki al nl.toNat gl
 | _ => v = .slice (some al) nl.toNat cl.toNat ∧ 1000 < nl ∧ nl ≤ cl ∧ CameIn W ki al nl.toNat gl
def BIn (W : World) (v : Value) (gb : Nat → Int → Int) (nb cb : Int) (ab : Addr) : Nat → Prop
 | 0 => v = .slice none 0 0
 | 1 => v = .slice (some ab) 0 cb.toNat ∧ 0 ≤ cb
 | 2 => v = .slice (some ab) 1 cb.toNat ∧ nb = 1 ∧ 1 ≤ cb ∧ CameIn W [.int .u8] ab 1 gb
 | 3 => v = .slice (some ab) nb.toNat cb.toNat ∧ 2 ≤ nb ∧ nb ≤ 3000 ∧ nb ≤ cb ∧ CameIn W [.int .u8] ab nb.toNat gb
 | _ => v = .slice (some ab) nb.toNat cb.toNat ∧ 3000 < nb ∧ nb ≤ cb ∧ CameIn W [.int .u8] ab nb.toNat gb
set_option maxRecDepth 100000 in
theorem lIn_of {H : Type} {enc : TypeId × Value → H} {W : World} {v : Value} {d0 : DataW H} {p : List MemPlace} {base b0 : Nat} {sp : Nat → Bool} {held : Bool} {r : Reach} (hval : Value.okWide Tryz.prog W r b0 23 v) (h0 : DataW.Trod enc Tryz.prog W base sp held 23 v d0 p) :
  ∃ gl nl cl al i, i < 5 ∧ LIn W v gl nl cl al i := by
 obtain ⟨ad, ln, cp, rfl⟩ := okWide_slice Tryz.underlying23 hval
 obtain ⟨fuel, hf⟩ := h0
 rcases open_row (n := 3) (ks := ki) Tryz.underlying23 (by kernel_rfl) (by kernel_rfl) hf with hcs | ⟨a, len, cap, zs, hcs, _, hle, _, hz⟩
 ·simp [Value.cells] at hcs
  obtain ⟨rfl, rfl, rfl⟩ := hcs
  exact ⟨fun _ _ => 0, 0, 0, ⟨0, 0, none⟩, 0, by decide, rfl⟩
 ·simp [Value.cells] at hcs
  obtain ⟨rfl, rfl, rfl⟩ := hcs
  by_cases hl0 : ln = 0
  ·subst hl0
   exact ⟨fun _ _ => 0, 0, cp, a, 1, by decide, rfl, by omega⟩
  ·have hc := cameIn_of (by omega) (by decide) hz
   by_cases hbig : 1000 < (ln : Int)
   ·exact ⟨_, ln, cp, a, 4, by decide, rfl, hbig, by omega, hc⟩
   ·by_cases hok : okR (fun c j => cellI ((zs j.toNat).getD c default)) ln
    ·exact ⟨_, ln, cp, a, 3, by decide, rfl, by omega, by omega, by omega, hok, hc⟩
    ·exact ⟨_, ln, cp, a, 2, by decide, rfl, by omega, by omega, by omega, hok, hc⟩
set_option maxRecDepth 100000 in
theorem bIn_of {H : Type} {enc : TypeId × Value → H} {W : World} {v : Value} {d0 : DataW H} {p : List MemPlace} {base b0 : Nat} {sp : Nat → Bool} {held : Bool} {r : Reach} (hval : Value.okWide Tryz.prog W r b0 22 v) (h0 : DataW.Trod enc Tryz.prog W base sp held 22 v d0 p) :
  ∃ gb nb cb ab j, j < 5 ∧ BIn W v gb nb cb ab j := by
 obtain ⟨ad, ln, cp, rfl⟩ := okWide_slice Tryz.underlying22 hval
 obtain ⟨fuel, hf⟩ := h0
 rcases open_row (n := 3) (ks := [.int .u8]) Tryz.underlying22 (by kernel_rfl) (by kernel_rfl) hf with hcs | ⟨a, len, cap, zs, hcs, _, hle, _, hz⟩
 ·simp [Value.cells] at hcs
  obtain ⟨rfl, rfl, rfl⟩ := hcs
  exact ⟨fun _ _ => 0, 0, 0, ⟨0, 0, none⟩, 0, by decide, rfl⟩
 ·simp [Value.cells] at hcs
  obtain ⟨rfl, rfl, rfl⟩ := hcs
  by_cases hl0 : ln = 0
  ·subst hl0
   exact ⟨fun _ _ => 0, 0, cp, a, 1, by decide, rfl, by omega⟩
  ·have hc := cameIn_of (by omega) (by decide) hz
   by_cases hl1 : ln = 1
   ·subst hl1
    exact ⟨_, 1, cp, a, 2, by decide, rfl, rfl, by omega, hc⟩
   ·by_cases hbig : 3000 < (ln : Int)
    ·exact ⟨_, ln, cp, a, 4, by decide, rfl, hbig, by omega, hc⟩
    ·exact ⟨_, ln, cp, a, 3, by decide, rfl, by omega, by omega, by omega, hc⟩
theorem tle {ρ : Env} {x y : X} (h : x.den ρ ≤ y.den ρ) : (X.le x y).tt ρ = true := (le_tt rfl rfl).trans (decide_eq_true h)
theorem tlt {ρ : Env} {x y : X} (h : x.den ρ < y.den ρ) : (X.lt x y).tt ρ = true := (lt_tt rfl rfl).trans (decide_eq_true h)
theorem pcApp {ρ : Env} {p q : PC} (hp : PcOk ρ p) (hq : PcOk ρ q) : PcOk ρ (p ++ q) := fun f hf => (List.mem_append.1 hf).elim (hp f) (hq f)
section
variable {d : BK} {v : Value}
theorem lPc : ∀ {i : Nat}, LIn d.W v d.gl d.nl d.cl d.al i → PcOk d.env (lA i).2
 | 0, _ => pcNil
 | 1, h => pcCons (tle h.2) pcNil
 | 2, h => pcCons (tle h.2.1) (pcCons (tle h.2.2.1) (pcCons (tle h.2.2.2.1) (pcCons (eq2 rfl rfl (tv_no h.2.2.2.2.1)) (pcCons (eq2n rfl rfl (tv_yes (same_r _ _))) pcNil))))
 | 3, h => by
  obtain ⟨k1, k2, k3, k4, k5⟩ := h.2.2.2.2.1 0 (by omega) (by have := h.2.1; omega)
  have k0 := nV_ok k1
  exact pcCons (tle h.2.1) (pcCons (tle h.2.2.1) (pcCons (tle h.2.2.2.1) (pcCons (eq2n rfl rfl (tv_yes h.2.2.2.2.1)) (pcCons (tle (Int.le_refl _)) (pcCons (tle (Int.le_refl _)) (pcCons (eq2n rfl rfl (tv_yes (same_r _ _)))
   (pcCons (lt2n rfl rfl (by show ¬ wI (d.gl 0) 0 < 1; omega)) (pcCons (lt2n rfl rfl (by show ¬ 5 < wI (d.gl 0) 0; omega)) (pcCons (lt2n rfl rfl (by show ¬ wI (d.gl 1) 0 < 0; omega)) (pcCons (lt2n rfl rfl (by show ¬ 3 < wI (d.gl 1) 0; omega)) (pcCons (lt2n rfl rfl (by show ¬ wI (d.gl 2) 0 < 0; omega)) (pcCons (lt2n rfl rfl (by show ¬ 255 < wI (d.gl 2) 0; omega)) pcNil))))))))))))
 | _ + 4, h => pcCons (tlt h.2.1) (pcCons (tle h.2.2.1) pcNil)
theorem bPc {g : Nat → Int → Int} : ∀ {j : Nat}, BIn d.W v g d.nb d.cb d.ab j → PcOk d.env (bA j).2
 | 0, _ => pcNil
 | 1, h => pcCons (tle h.2) pcNil
 | 2, h => by
  have hn : d.nb = 1 := h.2.1
  exact pcCons (tle h.2.2.1) (pcCons (tle (by show 1 ≤ d.nb; omega)) pcNil)
 | 3, h => by
  have h2 : 2 ≤ d.nb := h.2.1
  have h3 : d.nb ≤ 3000 := h.2.2.1
  have hm : d.m = (d.nb + 1) / 2 := rfl
  exact pcCons (lt2n rfl rfl (by show ¬ d.nb < 2; omega)) (pcCons (tle h3) (pcCons (tle h.2.2.2.1) (pcCons (tle (by show 1 ≤ d.m; omega)) (pcCons (tle (by show d.m ≤ 1500; omega)) (pcCons (eq2n rfl rfl (tv_yes (same_r _ _))) pcNil)))))
 | _ + 4, h => pcCons (tlt h.2.1) (pcCons (tle h.2.2.1) pcNil)
end
theorem roAll_bytes {W : World} (h : laidMetH Tryz.prog Rows.scriptBytesRow.laid W) {ρ : Env} (h0 : ρ.ro 0 = roW W 0) : RoAt ρ LStart ∧ ∀ x ∈ LStart, W.heap[x.1]? = some (ρ.ro x.1) := by
 obtain ⟨t, fr, h1⟩ := of_laid h
 have e : ρ.ro 0 = .cells ((asciiZ 256).map (.int .u8)).toArray t fr := by rw [h0]; simp only [roW, h1, Option.getD_some]
 refine ⟨⟨fun x hx => ?_⟩, fun x hx => ?_⟩ <;> (simp only [LStart, List.mem_singleton] at hx; subst hx)
 ·exact ⟨t, fr, fun π => by rw [e, asciiL_concs]⟩
 ·rw [e]; exact h1
theorem add_none (a : Addr) : a.add 0 = a := by simp [Addr.add]
set_option maxRecDepth 100000 in
theorem bytes_walk {H : Type} {enc : TypeId × Value → H} {W : World} (h : laidMetH Tryz.prog Rows.scriptBytesRow.laid W) {v0 v1 : Value} {d0 d1 : DataW H} {p0 p1 : List MemPlace} {b0 b1 : Nat} (hv0 : Value.okWide Tryz.prog W .any b0 22 v0) (hv1 : Value.okWide Tryz.prog W .any b1 23 v1)
  (h0 : DataW.Trod enc Tryz.prog W 0 (fun _ => true) true 22 v0 d0 p0) (h1 : DataW.Trod enc Tryz.prog W 0 (fun _ => true) true 23 v1 d1 p1) : Calls Tryz.prog 3 #[v0, v1] W fun e W' => e = .returned (.bool true) ∧ Below W.heap.size W W' := by
 obtain ⟨gl, nl, cl, al, i, hi, hL⟩ := lIn_of hv1 h1
 obtain ⟨gb, nb, cb, ab, j, hj, hB⟩ := bIn_of hv0 h0
 let d : BK := ⟨W, gl, nl, cl, al, gb 0, nb, cb, ab⟩
 have hL' : LIn d.W v1 d.gl d.nl d.cl d.al i := hL
 have hB' : BIn d.W v0 gb d.nb d.cb d.ab j := hB
 obtain ⟨hro, hW⟩ := roAll_bytes h (ρ := d.env) rfl
 have hl : 2 ≤ i → CameIn W ki al nl.toNat gl := by
  intro h2
  match i, hi, h2, hL with
  | 2, _, _, hL => exact hL.2.2.2.2.2
  | 3, _, _, hL => exact hL.2.2.2.2.2
  | 4, _, _, hL => exact hL.2.2.2
 have hb : 2 ≤ j → CameIn W [.int .u8] ab nb.toNat gb := by
  intro h2
  match j, hj, h2, hB with
  | 2, _, _, hB => rw [show nb.toNat = 1 by rw [hB.2.1]; rfl]; exact hB.2.2.2
  | 3, _, _, hB => exact hB.2.2.2.2
  | 4, _, _, hB => exact hB.2.2.2
 have hmem : ∀ x ∈ wsOf i j, (x = (7, .warr 7 40 ki (.var 50)) ∧ 2 ≤ i) ∨ (x = (8, .warr 8 10 [.int .u8] (.var 60)) ∧ 2 ≤ j) := by
  intro x hx
  unfold wsOf at hx
  rcases List.mem_append.1 hx with hx | hx
  ·split at hx
   ·rename_i hc
    exact .inl ⟨List.mem_singleton.1 hx, Nat.le_of_ble_eq_true hc⟩
   ·cases hx
  ·split at hx
   ·rename_i hc
    exact .inr ⟨List.mem_singleton.1 hx, Nat.le_of_ble_eq_true hc⟩
   ·cases hx
 have hrows : RowsAt d.env W (wsOf i j) 7 9 := by
  refine ⟨fun x hx => ?_, by decide, fun x hx => ?_, fun x hx => ?_, fun x hx π hπ => ?_⟩ <;> rcases hmem x hx with ⟨rfl, h2⟩ | ⟨rfl, h2⟩
  ·decide
  ·decide
  ·exact (hl h2).block
  ·exact (hb h2).block
  ·rfl
  ·rfl
  ·exact (hl h2).is (t := 40) rfl rfl (fun c hc => by
    match c, hc with
    | 0, _ => rfl
    | 1, _ => rfl
    | 2, _ => rfl) (Nat.le_refl _) hπ
  ·exact (hb h2).is (t := 10) rfl rfl (fun c hc => by
    match c, hc with
    | 0, _ => rfl) (Nat.le_refl _) hπ
 have hpc : PcOk d.env (pcOf i j) := pcApp (lPc hL') (pcApp (bPc hB') (pcCons rfl pcNil))
 have ha : SaysL d.env (fun i => i < 9) (πRows d.env 7) [(bA j).1, (lA i).1] [v0, v1] := by
  have e1 : ∀ π, (lA i).1.conc d.env π = v1 := by
   intro π
   match i, hi, hL with
   | 0, _, hL => exact hL.symm
   | 1, _, hL => exact (congrArg (fun a => Value.slice (some a) 0 cl.toNat) (add_none al)).trans hL.1.symm
   | 2, _, hL => exact (congrArg (fun a => Value.slice (some a) nl.toNat cl.toNat) (add_none al)).trans hL.1.symm
   | 3, _, hL => exact (congrArg (fun a => Value.slice (some a) nl.toNat cl.toNat) (add_none al)).trans hL.1.symm
   | 4, _, hL => exact (congrArg (fun a => Value.slice (some a) nl.toNat cl.toNat) (add_none al)).trans hL.1.symm
  have e0 : ∀ π, (bA j).1.conc d.env π = v0 := by
   intro π
   match j, hj, hB with
   | 0, _, hB => exact hB.symm
   | 1, _, hB => exact (congrArg (fun a => Value.slice (some a) 0 cb.toNat) (add_none ab)).trans hB.1.symm
   | 2, _, hB => exact (congrArg (fun a => Value.slice (some a) 1 cb.toNat) (add_none ab)).trans hB.1.symm
   | 3, _, hB => exact (congrArg (fun a => Value.slice (some a) nb.toNat cb.toNat) (add_none ab)).trans hB.1.symm
   | 4, _, hB => exact (congrArg (fun a => Value.slice (some a) nb.toNat cb.toNat) (add_none ab)).trans hB.1.symm
  intro π _
  show [(bA j).1.conc d.env π, (lA i).1.conc d.env π] = [v0, v1]
  rw [e0, e1]
 exact law_rows (cx := cxK) (L := LStart) (ng := 7) (nm := 9) (ρ := d.env) (N := 4000) mixed_door tt_ok ft_ok (allK hro) Tryz.func3 rfl LStart_lt hro hW hrows hpc (by rw [evT_call]; exact run_all i j hi hj) ha
end Go.Proofs.YtennjdjcjjjmiaaGreatDoor
