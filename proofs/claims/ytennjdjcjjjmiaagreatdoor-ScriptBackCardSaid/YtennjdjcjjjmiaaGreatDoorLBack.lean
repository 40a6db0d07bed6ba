/- ScriptBack: the runs; of any choices, any bytes the law answers true, and nothing that was there is turned. No condition. -/
import Derived.Test.YtennjdjcjjjmiaaGreatDoorLTold
import Derived.Test.YtennjdjcjjjmiaaGreatDoorFwH
namespace Go.Proofs.YtennjdjcjjjmiaaGreatDoor
open Go Go.Proofs Go.ChangeShapes Go.WideShapes Go.ChangeAt Go.RowKit
noncomputable def tv (P : Prop) : Int := by classical exact if P then 1 else 0
theorem tv_yes {P : Prop} (h : P) : tv P ≠ 0 := by
 unfold tv
 rw [if_pos h]
 decide
theorem tv_no {P : Prop} (h : ¬ P) : tv P = 0 := by
 unfold tv
 rw [if_neg h]
theorem nV_ok {a : Int} (h : 0 ≤ nV a) : 1 ≤ a ∧ a ≤ 5 := by
 by_cases h1 : a = 1
 ·omega
 by_cases h2 : a = 2
 ·omega
 by_cases h3 : a = 3
 ·omega
 by_cases h4 : a = 4
 ·omega
 by_cases h5 : a = 5
 ·omega
 simp [nV, nE, X.den, b2i, h1, h2, h3, h4, h5] at h
theorem fin_bits : ∀ (a : Fin 5) (b : Fin 4), kV (bit0 ((a.val : Nat) + 1 : Int) ((b.val : Nat) : Int)) = ((a.val : Nat) + 1 : Int) ∧ hV (bit0 ((a.val : Nat) + 1 : Int) ((b.val : Nat) : Int)) = ((b.val : Nat) : Int) := by decide +kernel
theorem fin_kinds : ∀ a : Fin 5, 0 ≤ nV ((a.val : Nat) + 1 : Int) := by decide +kernel
theorem bits_back {a b c : Int} (h : okC a b c) : kV (bit0 a b) = a ∧ hV (bit0 a b) = b := by
 obtain ⟨h1, h2, h3, _, _⟩ := h
 have h4 := nV_ok h1
 have := fin_bits ⟨(a - 1).toNat, by omega⟩ ⟨b.toNat, by omega⟩
 dsimp only at this
 rwa [show (((a - 1).toNat : Nat) : Int) + 1 = a by omega, show ((b.toNat : Nat) : Int) = b by omega] at this
def okR (g : Nat → Int → Int) (n : Int) : Prop := ∀ j : Int, 0 ≤ j → j < n → okC (wI (g 0) j) (wI (g 1) j) (wI (g 2) j)
def sameR (g h : Nat → Int → Int) (n : Int) : Prop := ∀ j : Int, 0 ≤ j → j < n → wI (g 0) j = wI (h 0) j ∧ wI (g 1) j = wI (h 1) j ∧ wI (g 2) j = wI (h 2) j
def bytesR (g : Nat → Int → Int) (n : Int) : Int → Int := rowB (g 0) (g 1) (g 2) n
theorem back_same {g : Nat → Int → Int} {n : Int} (h : okR g n) : sameR (rowF (bytesR g n) (2 * n) n) g n := by
 intro j h0 h1
 obtain ⟨e1, e2⟩ := bits_back (h j h0 h1)
 have hb : byteV (bytesR g n) (2 * j) = bit0 (wI (g 0) j) (wI (g 1) j) := by
  unfold byteV bytesR
  rw [rowB_in]
  unfold rowB
  rw [if_pos ⟨by omega, by omega⟩, if_pos (by omega), show 2 * j / 2 = j by omega]
 have hc : byteV (bytesR g n) (2 * j + 1) = wI (g 2) j := by
  unfold byteV bytesR
  rw [rowB_in]
  unfold rowB
  rw [if_pos ⟨by omega, by omega⟩, if_neg (by omega), show (2 * j + 1) / 2 = j by omega]
  exact u8_same (h j h0 h1).2.2.2
 refine ⟨?_, ?_, ?_⟩ <;> (show IntKind.i64.wrap (rowF _ _ _ _ _) = _; rw [rowF_in]; unfold rowF; rw [if_pos ⟨h0, h1⟩])
 ·show kV (byteV (bytesR g n) (2 * j)) = _
  rw [hb, e1]
 ·show hV (byteV (bytesR g n) (2 * j)) = _
  rw [hb, e2]
 ·show (if 2 * j + 1 < 2 * n then byteV (bytesR g n) (2 * j + 1) else 0) = _
  rw [if_pos (by omega), hc]
theorem own_ok (g : Int → Int) (n m : Int) : okR (rowF g n m) m := by
 intro j h0 h1
 have e : ∀ c, wI (rowF g n m c) j = el g n c j := fun c => by
  show IntKind.i64.wrap (rowF g n m c j) = _
  rw [rowF_in]
  unfold rowF
  rw [if_pos ⟨h0, h1⟩]
 rw [e, e, e]
 have hb := byteV_in g (2 * j)
 have hb' := byteV_in g (2 * j + 1)
 have h2 := kV_in hb
 have h3 := hV_in hb
 refine ⟨?_, h3.1, h3.2, ?_, ?_⟩
 ·have := fin_kinds ⟨(kV (byteV g (2 * j)) - 1).toNat, by omega⟩
  dsimp only at this
  rwa [show (((kV (byteV g (2 * j)) - 1).toNat : Nat) : Int) + 1 = kV (byteV g (2 * j)) by omega] at this
 ·show 0 ≤ (if 2 * j + 1 < n then byteV g (2 * j + 1) else 0)
  split <;> omega
 ·show (if 2 * j + 1 < n then byteV g (2 * j + 1) else 0) ≤ 255
  split <;> omega
structure BK where
 W : World
 gl : Nat → Int → Int
 nl : Int
 cl : Int
 al : Addr
 gb : Int → Int
 nb : Int
 cb : Int
 ab : Addr
def BK.m (d : BK) : Int := (d.nb + 1) / 2
def BK.r (d : BK) : Nat → Int → Int := rowF d.gb d.nb d.m
noncomputable def BK.env (d : BK) : Env :=
 {b := fun _ => false
  v := fun i => if i = 50 then d.nl else if i = 51 then d.cl else if i = 60 then d.nb else if i = 61 then d.cb else if i = 62 then d.m else if i = 63 then 2 * d.nl else if i = 64 then tv (okR d.gl d.nl) else if i = 72 then d.nl
   else if i = 76 then tv (sameR (rowF (bytesR d.gl d.nl) (2 * d.nl) d.nl) d.gl d.nl) else if i = 83 then 2 * d.m else if i = 84 then tv (okR d.r d.m) else if i = 92 then d.m else if i = 96 then tv (sameR (rowF (bytesR d.r d.m) (2 * d.m) d.m) d.r d.m) else 0
  f1 := fun f => if f = 10 then d.gb else if f = 20 then d.r 0 else if f = 21 then d.r 1 else if f = 22 then d.r 2 else if f = 40 then d.gl 0 else if f = 41 then d.gl 1 else if f = 42 then d.gl 2 else if f = 60 then bytesR d.gl d.nl
   else if f = 120 then rowF (bytesR d.gl d.nl) (2 * d.nl) d.nl 0 else if f = 121 then rowF (bytesR d.gl d.nl) (2 * d.nl) d.nl 1 else if f = 122 then rowF (bytesR d.gl d.nl) (2 * d.nl) d.nl 2 else if f = 160 then bytesR d.r d.m
   else if f = 220 then rowF (bytesR d.r d.m) (2 * d.m) d.m 0 else if f = 221 then rowF (bytesR d.r d.m) (2 * d.m) d.m 1 else if f = 222 then rowF (bytesR d.r d.m) (2 * d.m) d.m 2 else fun _ => 0
  f2 := fun _ _ _ => 0, s := fun _ => [], sf := fun _ _ => []
  ro := fun i => if i = 7 then roW d.W d.al.block else if i = 8 then roW d.W d.ab.block else roW d.W i
  win := fun i => if i = 7 then d.al else d.ab }
def sb (v : List (Nat × X)) (f : List (Nat × Nat × Nat)) : Sub := { v := v, n := 0, b := [], s := [], f := f }
def two (x : X) : X := .mul (.lit 2) x
def ki : List CK := [.int .i64, .int .i64, .int .i64]
def sCh2 : List Sub := [sb [(60, .var 63), (61, two (.var 50)), (62, .var 72)] [(10, 1, 60), (20, 3, 120)], sb [(60, .var 83), (61, two (.var 62)), (62, .var 92)] [(10, 1, 160), (20, 3, 220)], sb [(60, .var 83), (61, two (.lit 1)), (62, .var 92)] [(10, 1, 160), (20, 3, 220)]]
def sRw2 : Bool → List Sub
 | true => [sb [(50, .lit 1), (51, .lit 1), (63, .var 83), (64, .var 84)] [(40, 3, 20), (60, 1, 160)]]
 | false => [sb [(50, .var 62), (51, .var 62), (63, .var 83), (64, .var 84)] [(40, 3, 20), (60, 1, 160)]]
def sSm1 : List Sub := [sb [(50, .var 72), (54, .var 50), (66, .var 76)] [(40, 3, 120), (44, 3, 40)]]
def sSm2 : List Sub := [sb [(50, .var 92), (54, .var 62), (66, .var 96)] [(40, 3, 220), (44, 3, 20)], sb [(50, .var 92), (54, .lit 1), (66, .var 96)] [(40, 3, 220), (44, 3, 20)]]
def b8 : X := .wrap .u8 (.fn1 10 (.lit 0))
def wkL : Bool → List (A × List CK × X × Nat)
 | true => [(.put (.put (.put (.fill (.lit 0)) (.lit 0) 0 (kE b8)) (.lit 0) 1 (hE b8)) (.lit 0) 2 (.lit 0), ki, .lit 1, 20)]
 | false => []
noncomputable def chS (o : Bool) : List V → St → R (V × St) := orS (weakSm (wkL o) (sumSites LStart 7 Ch0P Ch0R [sb [] []])) (orS (sumSites LStart 7 Ch1P Ch1R [sb [] []]) (sumSites LStart 7 Ch2P Ch2R sCh2))
noncomputable def rwS (o : Bool) : List V → St → R (V × St) := orS (sumSites LStart 7 Rw1P Rw1R [sb [] []]) (sumSites LStart 7 Rw2P Rw2R (sRw2 o))
noncomputable def smS : List V → St → R (V × St) := orS (sumSites LStart 7 Sm1P Sm1R sSm1) (sumSites LStart 7 Sm2P Sm2R sSm2)
def big : List V → Bool
 | .xslice _ _ _ _ (.var _) _ :: _ => true
 | .xslice _ _ _ _ (.lit (.ofNat 1)) _ :: _ => true
 | _ => false
def soK (f : FuncId) (args : List V) (_ : St) : Bool := match f with
 | 9 => big args
 | 10 => big args
 | 12 => big args
 | _ => true
noncomputable def smL (o : Bool) : List (FuncId × (List V → St → R (V × St))) := [(8, sumTab LStart 7 sum8), (9, chS o), (10, rwS o), (12, smS)]
noncomputable def cxK (o : Bool) : Cx := { cxD with sm := smOf (smL o), sx := true, mg := true, js := true, so := soK }
section
variable {d : BK}
theorem specA1 : SpecA ((sb [] []).env d.env) := ⟨rfl, fun c hc => by
 match c, hc with
 | 0, _ => rfl
 | 1, _ => rfl
 | 2, _ => rfl⟩
theorem specA2 : ∀ σ ∈ sCh2, SpecA (σ.env d.env) := by
 have h1 : (2 * d.nl + 1) / 2 = d.nl := by omega
 have h2 : (2 * d.m + 1) / 2 = d.m := by omega
 intro σ hσ
 simp only [sCh2, List.mem_cons, List.not_mem_nil, or_false] at hσ
 rcases hσ with rfl | rfl | rfl
 ·refine ⟨h1.symm, fun c hc => ?_⟩
  show _ = rowF (bytesR d.gl d.nl) (2 * d.nl) ((2 * d.nl + 1) / 2) c
  rw [h1]
  match c, hc with
  | 0, _ => rfl
  | 1, _ => rfl
  | 2, _ => rfl
 ·refine ⟨h2.symm, fun c hc => ?_⟩
  show _ = rowF (bytesR d.r d.m) (2 * d.m) ((2 * d.m + 1) / 2) c
  rw [h2]
  match c, hc with
  | 0, _ => rfl
  | 1, _ => rfl
  | 2, _ => rfl
 ·refine ⟨h2.symm, fun c hc => ?_⟩
  show _ = rowF (bytesR d.r d.m) (2 * d.m) ((2 * d.m + 1) / 2) c
  rw [h2]
  match c, hc with
  | 0, _ => rfl
  | 1, _ => rfl
  | 2, _ => rfl
theorem specB1 : SpecB ((sb [] []).env d.env) := ⟨rfl, fun h => tv_yes h, fun h => tv_no h, rfl⟩
theorem specB2 {o : Bool} (ho : o = true → d.m = 1) : ∀ σ ∈ sRw2 o, SpecB (σ.env d.env) := by
 intro σ hσ
 cases o with
 | true =>
  obtain rfl := List.mem_singleton.1 hσ
  have hm := ho rfl
  have e : okR d.r 1 = okR d.r d.m := by rw [hm]
  refine ⟨?_, fun h => tv_yes (P := okR d.r d.m) (e ▸ h), fun h => tv_no (P := okR d.r d.m) (e ▸ h), ?_⟩
  ·show 2 * d.m = 2 * 1
   rw [hm]
  ·show bytesR d.r d.m = bytesR d.r 1
   rw [hm]
 | false =>
  obtain rfl := List.mem_singleton.1 hσ
  exact ⟨rfl, fun h => tv_yes h, fun h => tv_no h, rfl⟩
theorem specD1 : ∀ σ ∈ sSm1, SpecD (σ.env d.env) := by
 intro σ hσ
 obtain rfl := List.mem_singleton.1 hσ
 exact ⟨fun h => tv_yes h, fun h => tv_no h⟩
theorem specD2 : ∀ σ ∈ sSm2, SpecD (σ.env d.env) := by
 intro σ hσ
 simp only [sSm2, List.mem_cons, List.not_mem_nil, or_false] at hσ
 rcases hσ with rfl | rfl
 ·exact ⟨fun h => tv_yes h, fun h => tv_no h⟩
 ·exact ⟨fun h => tv_yes h, fun h => tv_no h⟩
theorem weak_ok {o : Bool} (ho : o = true → d.nb = 1) : WeakOk d.env (wkL o) := by
 intro x hx
 cases o with
 | false => cases hx
 | true =>
  have hn := ho rfl
  obtain rfl := List.mem_singleton.1 hx
  intro j c k hj hk
  have hj0 : j = 0 := by
   have : j < (1 : Int).toNat := hj
   omega
  subst hj0
  have hm : d.m = 1 := by unfold BK.m; rw [hn]; decide
  have e : ∀ c, IntKind.i64.wrap (d.r c 0) = el d.gb d.nb c 0 := fun c => by
   unfold BK.r
   rw [rowF_in]
   unfold rowF
   rw [hm, if_pos ⟨by omega, by omega⟩]
  revert k
  revert c
  refine three ⟨?_, ?_, ?_⟩
  ·show Value.int .i64 (kV (byteV d.gb 0)) = Value.int .i64 (IntKind.i64.wrap (d.r 0 0))
   rw [e]
   rfl
  ·show Value.int .i64 (hV (byteV d.gb 0)) = Value.int .i64 (IntKind.i64.wrap (d.r 1 0))
   rw [e]
   rfl
  ·show Value.int .i64 0 = Value.int .i64 (IntKind.i64.wrap (d.r 2 0))
   rw [e]
   exact congrArg (Value.int .i64) (if_neg (by omega) : el d.gb d.nb 2 0 = 0).symm
theorem allK {o : Bool} (hro : RoAt d.env LStart) (ho : o = true → d.nb = 1) : SumOk Tryz.prog (cxK o) d.env := by
 have hm : o = true → d.m = 1 := fun h => by unfold BK.m; rw [ho h]; decide
 have one : ∀ {s : Sub} {P : Sub → Prop}, P s → ∀ σ ∈ [s], P σ := fun h σ hσ => by obtain rfl := List.mem_singleton.1 hσ; exact h
 refine smOf_okL (l := smL o) ⟨at8 (ro := d.env.ro) (fun ρ' hr => RoAll.of hro ρ' hr) rfl rfl, ?_, ?_, ?_, trivial⟩ rfl
 ·exact orS_ok (weakSm_ok (weak_ok ho) (Ch0_at rfl hro)) (orS_ok (Ch1_at rfl hro (one specA1)) (Ch2_at rfl hro specA2))
 ·exact orS_ok (Rw1_at rfl hro (one specB1)) (Rw2_at rfl hro (specB2 hm))
 ·exact orS_ok (Sm1_at rfl hro specD1) (Sm2_at rfl hro specD2)
end
def lA : Nat → V × PC
 | 0 => (.nilslice, [])
 | 1 => (.xslice true 7 (.lit 0) 3 (.lit 0) (.known (.var 51)), [(.le (.lit 0) (.var 51), true)])
 | 2 => (.xslice true 7 (.lit 0) 3 (.var 50) (.known (.var 51)), [(.le (.lit 1) (.var 50), true), (.le (.var 50) (.lit 1000), true), (.le (.var 50) (.var 51), true), (.eq (.var 64) (.lit 0), true)])
 | 3 => (.xslice true 7 (.lit 0) 3 (.var 50) (.known (.var 51)), [(.le (.lit 1) (.var 50), true), (.le (.var 50) (.lit 1000), true), (.le (.var 50) (.var 51), true), (.eq (.var 64) (.lit 0), false), (.le (.var 63) (two (.var 50)), true), (.le (two (.var 50)) (.var 63), true), (.le (.var 72) (.var 50), true), (.le (.var 50) (.var 72), true), (.eq (.var 76) (.lit 0), false)])
 | _ => (.xslice true 7 (.lit 0) 3 (.var 50) (.known (.var 51)), [(.lt (.lit 1000) (.var 50), true), (.le (.var 50) (.var 51), true)])
def bA : Nat → V × PC
 | 0 => (.nilslice, [])
 | 1 => (.xslice true 8 (.lit 0) 1 (.lit 0) (.known (.var 61)), [(.le (.lit 0) (.var 61), true)])
 | 2 => (.xslice true 8 (.lit 0) 1 (.lit 1) (.known (.var 61)), [(.le (.lit 1) (.var 61), true), (.le (.lit 1) (.var 60), true), (.eq (.var 84) (.lit 0), false), (.le (.var 83) (.lit 2), true), (.le (.lit 2) (.var 83), true), (.le (.var 92) (.lit 1), true), (.le (.lit 1) (.var 92), true), (.eq (.var 96) (.lit 0), false)])
 | 3 => (.xslice true 8 (.lit 0) 1 (.var 60) (.known (.var 61)), [(.lt (.var 60) (.lit 2), false), (.le (.var 60) (.lit 3000), true), (.le (.var 60) (.var 61), true), (.le (.lit 1) (.var 62), true), (.le (.var 62) (.lit 1500), true), (.eq (.var 84) (.lit 0), false), (.le (.var 83) (two (.var 62)), true), (.le (two (.var 62)) (.var 83), true), (.le (.var 92) (.var 62), true), (.le (.var 62) (.var 92), true), (.eq (.var 96) (.lit 0), false)])
 | _ => (.xslice true 8 (.lit 0) 1 (.var 60) (.known (.var 61)), [(.lt (.lit 3000) (.var 60), true), (.le (.var 60) (.var 61), true)])
def wsOf (i j : Nat) : List (Nat × SObj) := (match Nat.ble 2 i with
 | true => [(7, .warr 7 40 ki (.var 50))]
 | false => []) ++ (match Nat.ble 2 j with
 | true => [(8, .warr 8 10 [.int .u8] (.var 60))]
 | false => [])
def pcOf (i j : Nat) : PC := (lA i).2 ++ ((bA j).2 ++ [(.le (.lit 0) (.lit 7), true)])
noncomputable def okRun (i j : Nat) : Bool := allChkX ((evT (cxK (Nat.beq j 2)) 4000).call 4 [(lA i).1, (bA j).1] (stRows LStart (wsOf i j) 9 (pcOf i j)))
noncomputable def okRuns (i : Nat) : Bool := and6 (okRun i 0) (okRun i 1) (okRun i 2) (okRun i 3) (okRun i 4) true
set_option maxRecDepth 100000 in
theorem run0 : okRuns 0 = true := by kernel_rfl
set_option maxRecDepth 100000 in
theorem run1 : okRuns 1 = true := by kernel_rfl
set_option maxRecDepth 100000 in
theorem run2 : okRuns 2 = true := by kernel_rfl
set_option maxRecDepth 100000 in
theorem run3 : okRuns 3 = true := by kernel_rfl
set_option maxRecDepth 100000 in
theorem run4 : okRuns 4 = true := by kernel_rfl
theorem run_all : ∀ i j, i < 5 → j < 5 → okRun i j = true := by
 have key : ∀ i, okRuns i = true → ∀ j, j < 5 → okRun i j = true := by
  intro i h j hj
  obtain ⟨h0, h1, h2, h3, h4, _⟩ := and6_ok h
  match j, hj with
  | 0, _ => exact h0
  | 1, _ => exact h1
  | 2, _ => exact h2
  | 3, _ => exact h3
  | 4, _ => exact h4
 intro i j hi hj
 match i, hi with
 | 0, _ => exact key 0 run0 j hj
 | 1, _ => exact key 1 run1 j hj
 | 2, _ => exact key 2 run2 j hj
 | 3, _ => exact key 3 run3 j hj
 | 4, _ => exact key 4 run4 j hj
def LIn (W : World) (v : Value) (gl : Nat → Int → Int) (nl cl : Int) (al : Addr) : Nat → Prop
 | 0 => v = .slice none 0 0
 | 1 => v = .slice (some al) 0 cl.toNat ∧ 0 ≤ cl
 | 2 => v = .slice (some al) nl.toNat cl.toNat ∧ 1 ≤ nl ∧ nl ≤ 1000 ∧ nl ≤ cl ∧ ¬ okR gl nl ∧ CameIn W ki al nl.toNat gl
 | 3 => v = .slice (some al) nl.toNat cl.toNat ∧ 1 ≤ nl ∧ nl ≤ 1000 ∧ nl ≤ cl ∧ okR gl nl ∧ CameIn W ki al nl.toNat gl
 | _ => v = .slice (some al) nl.toNat cl.toNat ∧ 1000 < nl ∧ nl ≤ cl ∧ CameIn W ki al nl.toNat gl
def BIn (W : World) (v : Value) (gb : Nat → Int → Int) (nb cb : Int) (ab : Addr) : Nat → Prop
 | 0 => v = .slice none 0 0
 | 1 => v = .slice (some ab) 0 cb.toNat ∧ 0 ≤ cb
 | 2 => v = .slice (some ab) 1 cb.toNat ∧ nb = 1 ∧ 1 ≤ cb ∧ CameIn W [.int .u8] ab 1 gb
 | 3 => v = .slice (some ab) nb.toNat cb.toNat ∧ 2 ≤ nb ∧ nb ≤ 3000 ∧ nb ≤ cb ∧ CameIn W [.int .u8] ab nb.toNat gb
 | _ => v = .slice (some ab) nb.toNat cb.toNat ∧ 3000 < nb ∧ nb ≤ cb ∧ CameIn W [.int .u8] ab nb.toNat gb
set_option maxRecDepth 100000 in
theorem lIn_of {H : Type} {enc : TypeId × Value → H} {W : World} {v : Value} {d0 : DataW H} {p : List MemPlace} {base b0 : Nat} {sp : Nat → Bool} {held : Bool} {r : Reach} (hval : Value.okWide Tryz.prog W r b0 23 v) (h0 : DataW.Trod enc Tryz.prog W base sp held 23 v d0 p) :
  ∃ gl nl cl al i, i < 5 ∧ LIn W v gl nl cl al i := by
 obtain ⟨ad, ln, cp, rfl⟩ := okWide_slice Tryz.underlying23 hval
 obtain ⟨fuel, hf⟩ := h0
 rcases open_row (n := 3) (ks := ki) Tryz.underlying23 (by kernel_rfl) (by kernel_rfl) hf with hcs | ⟨a, len, cap, zs, hcs, _, hle, _, hz⟩
 ·simp [Value.cells] at hcs
  obtain ⟨rfl, rfl, rfl⟩ := hcs
  exact ⟨fun _ _ => 0, 0, 0, ⟨0, 0, none⟩, 0, by decide, rfl⟩
 ·simp [Value.cells] at hcs
  obtain ⟨rfl, rfl, rfl⟩ := hcs
  by_cases hl0 : ln = 0
  ·subst hl0
   exact ⟨fun _ _ => 0, 0, cp, a, 1, by decide, rfl, by omega⟩
  ·have hc := cameIn_of (by omega) (by decide) hz
   by_cases hbig : 1000 < (ln : Int)
   ·exact ⟨_, ln, cp, a, 4, by decide, rfl, hbig, by omega, hc⟩
   ·by_cases hok : okR (fun c j => cellI ((zs j.toNat).getD c default)) ln
    ·exact ⟨_, ln, cp, a, 3, by decide, rfl, by omega, by omega, by omega, hok, hc⟩
    ·exact ⟨_, ln, cp, a, 2, by decide, rfl, by omega, by omega, by omega, hok, hc⟩
set_option maxRecDepth 100000 in
theorem bIn_of {H : Type} {enc : TypeId × Value → H} {W : World} {v : Value} {d0 : DataW H} {p : List MemPlace} {base b0 : Nat} {sp : Nat → Bool} {held : Bool} {r : Reach} (hval : Value.okWide Tryz.prog W r b0 22 v) (h0 : DataW.Trod enc Tryz.prog W base sp held 22 v d0 p) :
  ∃ gb nb cb ab j, j < 5 ∧ BIn W v gb nb cb ab j := by
 obtain ⟨ad, ln, cp, rfl⟩ := okWide_slice Tryz.underlying22 hval
 obtain ⟨fuel, hf⟩ := h0
 rcases open_row (n := 3) (ks := [.int .u8]) Tryz.underlying22 (by kernel_rfl) (by kernel_rfl) hf with hcs | ⟨a, len, cap, zs, hcs, _, hle, _, hz⟩
 ·simp [Value.cells] at hcs
  obtain ⟨rfl, rfl, rfl⟩ := hcs
  exact ⟨fun _ _ => 0, 0, 0, ⟨0, 0, none⟩, 0, by decide, rfl⟩
 ·simp [Value.cells] at hcs
  obtain ⟨rfl, rfl, rfl⟩ := hcs
  by_cases hl0 : ln = 0
  ·subst hl0
   exact ⟨fun _ _ => 0, 0, cp, a, 1, by decide, rfl, by omega⟩
  ·have hc := cameIn_of (by omega) (by decide) hz
   by_cases hl1 : ln = 1
   ·subst hl1
    exact ⟨_, 1, cp, a, 2, by decide, rfl, rfl, by omega, hc⟩
   ·by_cases hbig : 3000 < (ln : Int)
    ·exact ⟨_, ln, cp, a, 4, by decide, rfl, hbig, by omega, hc⟩
    ·exact ⟨_, ln, cp, a, 3, by decide, rfl, by omega, by omega, by omega, hc⟩
theorem tle {ρ : Env} {x y : X} (h : x.den ρ ≤ y.den ρ) : (X.le x y).tt ρ = true := (le_tt rfl rfl).trans (decide_eq_true h)
theorem tlt {ρ : Env} {x y : X} (h : x.den ρ < y.den ρ) : (X.lt x y).tt ρ = true := (lt_tt rfl rfl).trans (decide_eq_true h)
theorem pcApp {ρ : Env} {p q : PC} (hp : PcOk ρ p) (hq : PcOk ρ q) : PcOk ρ (p ++ q) := fun f hf => (List.mem_append.1 hf).elim (hp f) (hq f)
section
variable {d : BK} {v : Value}
theorem lPc : ∀ {i : Nat}, LIn d.W v d.gl d.nl d.cl d.al i → PcOk d.env (lA i).2
 | 0, _ => pcNil
 | 1, h => pcCons (tle h.2) pcNil
 | 2, h => pcCons (tle h.2.1) (pcCons (tle h.2.2.1) (pcCons (tle h.2.2.2.1) (pcCons (eq2 rfl rfl (tv_no h.2.2.2.2.1)) pcNil)))
 | 3, h => pcCons (tle h.2.1) (pcCons (tle h.2.2.1) (pcCons (tle h.2.2.2.1) (pcCons (eq2n rfl rfl (tv_yes h.2.2.2.2.1)) (pcCons (tle (Int.le_refl _)) (pcCons (tle (Int.le_refl _)) (pcCons (tle (Int.le_refl _)) (pcCons (tle (Int.le_refl _)) (pcCons (eq2n rfl rfl (tv_yes (back_same h.2.2.2.2.1))) pcNil))))))))
 | _ + 4, h => pcCons (tlt h.2.1) (pcCons (tle h.2.2.1) pcNil)
theorem own_r : okR d.r d.m := own_ok d.gb d.nb d.m
theorem bPc {g : Nat → Int → Int} : ∀ {j : Nat}, BIn d.W v g d.nb d.cb d.ab j → PcOk d.env (bA j).2
 | 0, _ => pcNil
 | 1, h => pcCons (tle h.2) pcNil
 | 2, h => by
  have hn : d.nb = 1 := h.2.1
  have hm : d.m = 1 := by unfold BK.m; rw [hn]; decide
  exact pcCons (tle h.2.2.1) (pcCons (tle (by show 1 ≤ d.nb; omega)) (pcCons (eq2n rfl rfl (tv_yes own_r)) (pcCons (tle (by show 2 * d.m ≤ 2; omega)) (pcCons (tle (by show 2 ≤ 2 * d.m; omega)) (pcCons (tle (by show d.m ≤ 1; omega)) (pcCons (tle (by show 1 ≤ d.m; omega)) (pcCons (eq2n rfl rfl (tv_yes (back_same own_r))) pcNil)))))))
 | 3, h => by
  have h2 : 2 ≤ d.nb := h.2.1
  have h3 : d.nb ≤ 3000 := h.2.2.1
  have hm : d.m = (d.nb + 1) / 2 := rfl
  exact pcCons (lt2n rfl rfl (by show ¬ d.nb < 2; omega)) (pcCons (tle h3) (pcCons (tle h.2.2.2.1) (pcCons (tle (by show 1 ≤ d.m; omega)) (pcCons (tle (by show d.m ≤ 1500; omega)) (pcCons (eq2n rfl rfl (tv_yes own_r)) (pcCons (tle (Int.le_refl _)) (pcCons (tle (Int.le_refl _)) (pcCons (tle (Int.le_refl _)) (pcCons (tle (Int.le_refl _)) (pcCons (eq2n rfl rfl (tv_yes (back_same own_r))) pcNil))))))))))
 | _ + 4, h => pcCons (tlt h.2.1) (pcCons (tle h.2.2.1) pcNil)
end
theorem roAll_back {W : World} (h : laidMetH Tryz.prog Rows.scriptBackRow.laid W) {ρ : Env} (h0 : ρ.ro 0 = roW W 0) : RoAt ρ LStart ∧ ∀ x ∈ LStart, W.heap[x.1]? = some (ρ.ro x.1) := by
 obtain ⟨t, fr, h1⟩ := of_laid h
 have e : ρ.ro 0 = .cells ((asciiZ 256).map (.int .u8)).toArray t fr := by rw [h0]; simp only [roW, h1, Option.getD_some]
 refine ⟨⟨fun x hx => ?_⟩, fun x hx => ?_⟩ <;> (simp only [LStart, List.mem_singleton] at hx; subst hx)
 ·exact ⟨t, fr, fun π => by rw [e, asciiL_concs]⟩
 ·rw [e]; exact h1
theorem add_none (a : Addr) : a.add 0 = a := by simp [Addr.add]
set_option maxRecDepth 100000 in
theorem back_walk {H : Type} {enc : TypeId × Value → H} {W : World} (h : laidMetH Tryz.prog Rows.scriptBackRow.laid W) {v0 v1 : Value} {d0 d1 : DataW H} {p0 p1 : List MemPlace} {b0 b1 : Nat} (hv0 : Value.okWide Tryz.prog W .any b0 23 v0) (hv1 : Value.okWide Tryz.prog W .any b1 22 v1)
  (h0 : DataW.Trod enc Tryz.prog W 0 (fun _ => true) true 23 v0 d0 p0) (h1 : DataW.Trod enc Tryz.prog W 0 (fun _ => true) true 22 v1 d1 p1) : Calls Tryz.prog 4 #[v0, v1] W fun e W' => e = .returned (.bool true) ∧ Below W.heap.size W W' := by
 obtain ⟨gl, nl, cl, al, i, hi, hL⟩ := lIn_of hv0 h0
 obtain ⟨gb, nb, cb, ab, j, hj, hB⟩ := bIn_of hv1 h1
 let d : BK := ⟨W, gl, nl, cl, al, gb 0, nb, cb, ab⟩
 have hL' : LIn d.W v0 d.gl d.nl d.cl d.al i := hL
 have hB' : BIn d.W v1 gb d.nb d.cb d.ab j := hB
 obtain ⟨hro, hW⟩ := roAll_back h (ρ := d.env) rfl
 have ho : Nat.beq j 2 = true → d.nb = 1 := fun e => by
  obtain rfl := Nat.eq_of_beq_eq_true e
  exact hB.2.1
 have hl : 2 ≤ i → CameIn W ki al nl.toNat gl := by
  intro h2
  match i, hi, h2, hL with
  | 2, _, _, hL => exact hL.2.2.2.2.2
  | 3, _, _, hL => exact hL.2.2.2.2.2
  | 4, _, _, hL => exact hL.2.2.2
 have hb : 2 ≤ j → CameIn W [.int .u8] ab nb.toNat gb := by
  intro h2
  match j, hj, h2, hB with
  | 2, _, _, hB => rw [show nb.toNat = 1 by rw [hB.2.1]; rfl]; exact hB.2.2.2
  | 3, _, _, hB => exact hB.2.2.2.2
  | 4, _, _, hB => exact hB.2.2.2
 have hmem : ∀ x ∈ wsOf i j, (x = (7, .warr 7 40 ki (.var 50)) ∧ 2 ≤ i) ∨ (x = (8, .warr 8 10 [.int .u8] (.var 60)) ∧ 2 ≤ j) := by
  intro x hx
  unfold wsOf at hx
  rcases List.mem_append.1 hx with hx | hx
  ·split at hx
   ·rename_i hc
    exact .inl ⟨List.mem_singleton.1 hx, Nat.le_of_ble_eq_true hc⟩
   ·cases hx
  ·split at hx
   ·rename_i hc
    exact .inr ⟨List.mem_singleton.1 hx, Nat.le_of_ble_eq_true hc⟩
   ·cases hx
 have hrows : RowsAt d.env W (wsOf i j) 7 9 := by
  refine ⟨fun x hx => ?_, by decide, fun x hx => ?_, fun x hx => ?_, fun x hx π hπ => ?_⟩ <;> rcases hmem x hx with ⟨rfl, h2⟩ | ⟨rfl, h2⟩
  ·decide
  ·decide
  ·exact (hl h2).block
  ·exact (hb h2).block
  ·rfl
  ·rfl
  ·exact (hl h2).is (t := 40) rfl rfl (fun c hc => by
    match c, hc with
    | 0, _ => rfl
    | 1, _ => rfl
    | 2, _ => rfl) (Nat.le_refl _) hπ
  ·exact (hb h2).is (t := 10) rfl rfl (fun c hc => by
    match c, hc with
    | 0, _ => rfl) (Nat.le_refl _) hπ
 have hpc : PcOk d.env (pcOf i j) := pcApp (lPc hL') (pcApp (bPc hB') (pcCons rfl pcNil))
 have ha : SaysL d.env (fun i => i < 9) (πRows d.env 7) [(lA i).1, (bA j).1] [v0, v1] := by
  have e0 : ∀ π, (lA i).1.conc d.env π = v0 := by
   intro π
   match i, hi, hL with
   | 0, _, hL => exact hL.symm
   | 1, _, hL => exact (congrArg (fun a => Value.slice (some a) 0 cl.toNat) (add_none al)).trans hL.1.symm
   | 2, _, hL => exact (congrArg (fun a => Value.slice (some a) nl.toNat cl.toNat) (add_none al)).trans hL.1.symm
   | 3, _, hL => exact (congrArg (fun a => Value.slice (some a) nl.toNat cl.toNat) (add_none al)).trans hL.1.symm
   | 4, _, hL => exact (congrArg (fun a => Value.slice (some a) nl.toNat cl.toNat) (add_none al)).trans hL.1.symm
  have e1 : ∀ π, (bA j).1.conc d.env π = v1 := by
   intro π
   match j, hj, hB with
   | 0, _, hB => exact hB.symm
   | 1, _, hB => exact (congrArg (fun a => Value.slice (some a) 0 cb.toNat) (add_none ab)).trans hB.1.symm
   | 2, _, hB => exact (congrArg (fun a => Value.slice (some a) 1 cb.toNat) (add_none ab)).trans hB.1.symm
   | 3, _, hB => exact (congrArg (fun a => Value.slice (some a) nb.toNat cb.toNat) (add_none ab)).trans hB.1.symm
   | 4, _, hB => exact (congrArg (fun a => Value.slice (some a) nb.toNat cb.toNat) (add_none ab)).trans hB.1.symm
  intro π _
  show [(lA i).1.conc d.env π, (bA j).1.conc d.env π] = [v0, v1]
  rw [e0, e1]
 exact law_rows (cx := cxK (Nat.beq j 2)) (L := LStart) (ng := 7) (nm := 9) (ρ := d.env) (N := 4000) mixed_door tt_ok ft_ok (allK hro ho) Tryz.func4 rfl LStart_lt hro hW hrows hpc (by rw [evT_call]; exact run_all i j hi hj) ha
end Go.Proofs.YtennjdjcjjjmiaaGreatDoor
