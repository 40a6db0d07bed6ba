/- ScriptSame: the runs; of any two runs the law answers true, and nothing that was there is turned. No condition. -/
import Derived.Test.YtennjdjcjjjmiaaGreatDoorNTold
import Derived.Test.YtennjdjcjjjmiaaGreatDoorFwH
namespace Go.Proofs.YtennjdjcjjjmiaaGreatDoor
open Go Go.Proofs Go.ChangeShapes Go.WideShapes Go.ChangeAt Go.RowKit
noncomputable def tv (P : Prop) : Int := by classical exact if P then 1 else 0
theorem tv_yes {P : Prop} (h : P) : tv P ≠ 0 := by
 unfold tv
 rw [if_pos h]
 decide
theorem tv_no {P : Prop} (h : ¬ P) : tv P = 0 := by
 unfold tv
 rw [if_neg h]
structure NK where
 W : World
 g : Nat → Nat → Int → Int
 n : Nat → Int
 c : Nat → Int
 a : Nat → Addr
 r : Nat → Bool
def NK.f (d : NK) (i : Nat) : Int → Int := if i < 300 then d.g 0 (i - 200) else if i < 400 then d.g 3 (i - 300) else if i < 500 then d.g 1 (i - 400) else if i < 600 then d.g 4 (i - 500) else if i < 700 then d.g 2 (i - 600) else d.g 5 (i - 700)
def NK.e0 (d : NK) : Env := { b := fun _ => false, v := fun _ => 0, f1 := d.f, f2 := fun _ _ _ => 0, s := fun _ => [], sf := fun _ _ => [], ro := fun _ => .deferred none, win := fun _ => ⟨0, 0, none⟩ }
noncomputable def NK.env (d : NK) : Env :=
 {b := fun _ => false
  v := fun i => if i = 50 then d.n 0 else if i = 51 then d.c 0 else if i = 54 then d.n 1 else if i = 55 then d.c 1 else if i = 58 then d.n 2 else if i = 59 then d.c 2 else if i = 52 then d.n 3 else if i = 53 then d.c 3 else if i = 56 then d.n 4 else if i = 57 then d.c 4 else if i = 60 then d.n 5 else if i = 61 then d.c 5 else if i = 62 then tv (eqAll d.e0 200 300 kD (d.n 0)) else if i = 63 then tv (eqAll d.e0 400 500 kH (d.n 1)) else if i = 64 then tv (eqAll d.e0 600 700 [.int .u8] (d.n 2)) else if i = 70 then b2i (!d.r 0) else if i = 73 then b2i (!d.r 1) else 0
  f1 := d.f
  f2 := fun _ _ _ => 0, s := fun _ => [], sf := fun _ _ => []
  ro := fun i => match Nat.ble 7 i with
   | true => roW d.W (d.a (i - 7)).block
   | false => roW d.W i
  win := fun i => d.a (i - 7) }
def sb (v : List (Nat × X)) (f : List (Nat × Nat × Nat)) : Sub := { v := v, n := 0, b := [], s := [], f := f }
def isOpen : V → Bool
 | .xslice _ _ _ _ (.var _) _ => true
 | _ => false
def soK (f : FuncId) (args : List V) (_ : St) : Bool := match f with
 | 34 => args.all isOpen
 | 35 => args.all isOpen
 | 36 => args.all isOpen
 | 25 => args.all isOpen
 | 26 => args.all isOpen
 | _ => true
noncomputable def smL : List (FuncId × (List V → St → R (V × St))) := [(8, sumTab LStart 7 sum8), (34, orS (sumSites LStart 7 EDP EDR [sb [] []]) (sumSites LStart 7 SDP SDR [sb [] []])), (35, orS (sumSites LStart 7 EHP EHR [sb [] []]) (sumSites LStart 7 SHP SHR [sb [] []])), (36, orS (sumSites LStart 7 EBP EBR [sb [] []]) (sumSites LStart 7 SBP SBR [sb [] []])), (25, sumSites LStart 7 DDP DDR [sb [] []]), (26, sumSites LStart 7 DHP DHR [sb [] []])]
noncomputable def cxK : Cx := { cxD with sm := smOf smL, sx := true, mg := true, js := true, so := soK }
theorem eqAll_env {ρ1 ρ : Env} (hf : ρ1.f1 = ρ.f1) {t s : Nat} {ks : List CK} {n : Int} : eqAll ρ1 t s ks n ↔ eqAll ρ t s ks n :=
 ⟨fun h j h0 h1 => (cEqs_env hf rfl).1 (h j h0 h1), fun h j h0 h1 => (cEqs_env hf rfl).2 (h j h0 h1)⟩
section
variable {d : NK}
theorem specD : ∀ σ ∈ [sb [] []], SpecE (σ.env d.env) 50 200 300 kD 62 := by
 intro σ hσ
 obtain rfl := List.mem_singleton.1 hσ
 have e : eqAll ((sb [] []).env d.env) 200 300 kD (d.n 0) ↔ eqAll d.e0 200 300 kD (d.n 0) := eqAll_env (ρ1 := (sb [] []).env d.env) (ρ := d.e0) rfl
 exact ⟨fun h => tv_yes (e.1 h), fun h => tv_no fun k => h (e.2 k)⟩
theorem specH : ∀ σ ∈ [sb [] []], SpecE (σ.env d.env) 54 400 500 kH 63 := by
 intro σ hσ
 obtain rfl := List.mem_singleton.1 hσ
 have e : eqAll ((sb [] []).env d.env) 400 500 kH (d.n 1) ↔ eqAll d.e0 400 500 kH (d.n 1) := eqAll_env (ρ1 := (sb [] []).env d.env) (ρ := d.e0) rfl
 exact ⟨fun h => tv_yes (e.1 h), fun h => tv_no fun k => h (e.2 k)⟩
theorem specB : ∀ σ ∈ [sb [] []], SpecE (σ.env d.env) 58 600 700 [.int .u8] 64 := by
 intro σ hσ
 obtain rfl := List.mem_singleton.1 hσ
 have e : eqAll ((sb [] []).env d.env) 600 700 [.int .u8] (d.n 2) ↔ eqAll d.e0 600 700 [.int .u8] (d.n 2) := eqAll_env (ρ1 := (sb [] []).env d.env) (ρ := d.e0) rfl
 exact ⟨fun h => tv_yes (e.1 h), fun h => tv_no fun k => h (e.2 k)⟩
theorem allK (hro : RoAt d.env LStart) : SumOk Tryz.prog cxK d.env :=
 smOf_okL (l := smL) ⟨at8 (ro := d.env.ro) (fun ρ' hr => RoAll.of hro ρ' hr) rfl rfl, orS_ok (ED_at rfl hro specD) (SD_at rfl hro), orS_ok (EH_at rfl hro specH) (SH_at rfl hro), orS_ok (EB_at rfl hro specB) (SB_at rfl hro), DD_at rfl hro specD, DH_at rfl hro specH, trivial⟩ rfl
end
def sE : Nat → V
 | 0 => .xslice true 7 (.lit 0) 20 (.lit 0) (.known (.var 51))
 | 1 => .xslice true 8 (.lit 0) 35 (.lit 0) (.known (.var 55))
 | 2 => .xslice true 9 (.lit 0) 1 (.lit 0) (.known (.var 59))
 | 3 => .xslice true 10 (.lit 0) 20 (.lit 0) (.known (.var 53))
 | 4 => .xslice true 11 (.lit 0) 35 (.lit 0) (.known (.var 57))
 | _ => .xslice true 12 (.lit 0) 1 (.lit 0) (.known (.var 61))
def sO : Nat → V
 | 0 => .xslice true 7 (.lit 0) 20 (.var 50) (.known (.var 51))
 | 1 => .xslice true 8 (.lit 0) 35 (.var 54) (.known (.var 55))
 | 2 => .xslice true 9 (.lit 0) 1 (.var 58) (.known (.var 59))
 | 3 => .xslice true 10 (.lit 0) 20 (.var 52) (.known (.var 53))
 | 4 => .xslice true 11 (.lit 0) 35 (.var 56) (.known (.var 57))
 | _ => .xslice true 12 (.lit 0) 1 (.var 60) (.known (.var 61))
def sR : Nat → Nat × SObj
 | 0 => (7, .warr 7 200 kD (.var 50))
 | 1 => (8, .warr 8 400 kH (.var 54))
 | 2 => (9, .warr 9 600 [.int .u8] (.var 58))
 | 3 => (10, .warr 10 300 kD (.var 52))
 | 4 => (11, .warr 11 500 kH (.var 56))
 | _ => (12, .warr 12 700 [.int .u8] (.var 60))
def sQ : Nat → PC
 | 0 => [(.le (.lit 0) (.var 51), true)]
 | 1 => [(.le (.lit 0) (.var 55), true)]
 | 2 => [(.le (.lit 0) (.var 59), true)]
 | 3 => [(.le (.lit 0) (.var 53), true)]
 | 4 => [(.le (.lit 0) (.var 57), true)]
 | _ => [(.le (.lit 0) (.var 61), true)]
def sP : Nat → PC
 | 0 => [(.le (.lit 1) (.var 50), true), (.le (.var 50) lBig, true), (.le (.var 50) (.var 51), true)]
 | 1 => [(.le (.lit 1) (.var 54), true), (.le (.var 54) lBig, true), (.le (.var 54) (.var 55), true)]
 | 2 => [(.le (.lit 1) (.var 58), true), (.le (.var 58) lBig, true), (.le (.var 58) (.var 59), true)]
 | 3 => [(.le (.lit 1) (.var 52), true), (.le (.var 52) lBig, true), (.le (.var 52) (.var 53), true)]
 | 4 => [(.le (.lit 1) (.var 56), true), (.le (.var 56) lBig, true), (.le (.var 56) (.var 57), true)]
 | _ => [(.le (.lit 1) (.var 60), true), (.le (.var 60) lBig, true), (.le (.var 60) (.var 61), true)]
def slV (j : Nat) : Nat → V
 | 0 => .nilslice
 | 1 => sE j
 | _ => sO j
def slPc (j : Nat) : Nat → PC
 | 0 => []
 | 1 => sQ j
 | _ => sP j
def slR (j : Nat) : Nat → List (Nat × SObj)
 | 0 => []
 | 1 => []
 | _ => [sR j]
def txA : X := .btext 600 (.lit 0) (.var 58)
def txB : X := .btext 700 (.lit 0) (.var 60)
def memPcs (i j : Nat) : List PC := match i, j with
 | 2, 2 => [[(.seq txA txB, true), (.eq (.var 64) (.lit 0), false), (.eq (.var 58) (.var 60), true)], [(.seq txA txB, false), (.eq (.var 64) (.lit 0), true)], [(.seq txA txB, false), (.eq (.var 58) (.var 60), false)]]
 | 2, _ => [[(.seq txA (.slit []), false)]]
 | _, 2 => [[(.seq (.slit []) txB, false)]]
 | _, _ => [[]]
def wsOf (i0 i1 i2 i3 i4 i5 : Nat) : List (Nat × SObj) := slR 0 i0 ++ (slR 1 i1 ++ (slR 2 i2 ++ (slR 3 i3 ++ (slR 4 i4 ++ slR 5 i5))))
def pcOf (i0 i1 i2 i3 i4 i5 : Nat) (m : PC) : PC := slPc 0 i0 ++ (slPc 1 i1 ++ (slPc 2 i2 ++ (slPc 3 i3 ++ (slPc 4 i4 ++ (slPc 5 i5 ++ (m ++ [(.le (.lit 0) (.lit 7), true)]))))))
def argA (i0 i1 i2 : Nat) : V := .agg [slV 0 i0, slV 1 i1, slV 2 i2, .bool (.eq (.var 70) (.lit 0))]
def argB (i3 i4 i5 : Nat) : V := .agg [slV 3 i3, slV 4 i4, slV 5 i5, .bool (.eq (.var 73) (.lit 0))]
noncomputable def okRun (i0 i1 i2 i3 i4 i5 : Nat) (m : PC) : Bool := allChkX ((evT cxK 4000).call 7 [argA i0 i1 i2, argB i3 i4 i5] (stRows LStart (wsOf i0 i1 i2 i3 i4 i5) 13 (pcOf i0 i1 i2 i3 i4 i5 m)))
def all3 (f : Nat → Bool) : Bool := match f 0 with
 | true => match f 1 with
  | true => f 2
  | false => false
 | false => false
theorem all3_ok {f : Nat → Bool} (h : all3 f = true) : ∀ i, i < 3 → f i = true := by
 unfold all3 at h
 split at h
 ·rename_i h0
  split at h
  ·rename_i h1
   intro i hi
   match i, hi with
   | 0, _ => exact h0
   | 1, _ => exact h1
   | 2, _ => exact h
  ·cases h
 ·cases h
noncomputable def okRuns (i0 i1 i2 i5 : Nat) : Bool := all3 fun i3 => all3 fun i4 => (memPcs i2 i5).all (okRun i0 i1 i2 i3 i4 i5)
end Go.Proofs.YtennjdjcjjjmiaaGreatDoor
