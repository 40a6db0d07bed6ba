/- AloneParts: the law's cases, as runs. No condition. -/
import Derived.Test.YtmickljjofbmiaaGreatDoorSEnv
namespace Go.Proofs.YtmickljjofbmiaaGreatDoor
open Go Go.Proofs Go.ChangeShapes Go.WideShapes Go.ChangeAt Go.RowKit
def idSm (s : List V → St → _root_.Go.Proofs.YtmickljjofbmiaaGreatDoor.R (V × St)) (args : List V) (st : St) : _root_.Go.Proofs.YtmickljjofbmiaaGreatDoor.R (V × St) := match args with
 | a :: b :: c :: l => match V.beq c (i64 (.lit 0)) with
  | true => s (a :: b :: i64 (.var 42) :: l) st
  | false => .stuck "number"
 | _ => .stuck "number"
theorem idSm_ok {cx : Cx} {ρ : Env} (h : ρ.v 42 = 0) {f : FuncId} {s : List V → St → _root_.Go.Proofs.YtmickljjofbmiaaGreatDoor.R (V × St)} (hs : cV Tryz.prog cx ρ f s) : cV Tryz.prog cx ρ f (idSm s) := by
 refine cV.via fun args st v st' hv hpc => ?_
 unfold idSm at hv
 split at hv
 ·rename_i a b c l
  split at hv
  ·rename_i h1
   refine ⟨s, _, st, v, st', hs, fun π => ?_, .refl _, rfl, hv, fun _ => rfl, .refl _⟩
   rw [V.beq_eq _ _ h1]
   show a.ae ρ π :: b.ae ρ π :: .int .i64 (ρ.v 42) :: V.af ρ π l = a.ae ρ π :: b.ae ρ π :: .int .i64 0 :: V.af ρ π l
   rw [h]
  ·simp [R.ai] at hv
 ·simp [R.ai] at hv
theorem weakS2_ok {cx : Cx} {ρ : Env} {l : List (A × List CK × X × Nat)} (hl : K3 ρ l) {f : FuncId} {s : List V → St → _root_.Go.Proofs.YtmickljjofbmiaaGreatDoor.R (V × St)} (h : cV Tryz.prog cx ρ f s) : cV Tryz.prog cx ρ f (weakS2 l s) := by
 intro args st v st' e S π0 w ac n hh ha
 obtain ⟨⟨v1, st1⟩, e1, e2⟩ := bo e
 simp only [R.ai, Option.some.injEq, Prod.mk.injEq] at e2
 obtain ⟨rfl, rfl⟩ := e2
 refine (h args st v1 st1 e1 S π0 w ac n hh ha).mono fun e w' hp => ?_
 obtain ⟨h1, π1, g, h2⟩ := hp
 have hless : qQ ρ st1 (weak2 l v1 st1) := by
  unfold weak2
  split
  ·exact xI hl _ h1
  ·exact .refl _
 have hn : (weak2 l v1 st1).n = st1.n := by
  unfold weak2 Be
  split <;> (try split) <;> (try split) <;> rfl
 refine ⟨hless.pc h1, π1, g.less hless, ?_⟩
 rw [hn]
 exact h2
def gdS : PC := [(.le (.lit 1) (.var 43), true), (.le (.var 43) (.var 44), true), (.le (.lit 1) (.var 44), true)]
noncomputable def runS (args : List V) (st : St) : _root_.Go.Proofs.YtmickljjofbmiaaGreatDoor.R (V × St) := match args with
 | [_, _, _, .int _ (.var n)] => match Nat.beq n 43 with
  | true => uK gdS (weakS2 [(.base 60, NA, .var 60, 75)] (uL aj 7 ARP ARR [sb0])) args st
  | false => uL aj 7 BRP BRR [s2] args st
 | _ => .stuck "run"
noncomputable def soS (f : FuncId) (args : List V) (st : St) : Bool := match f with
 | 10 => match args with
  | [_, _, _, .int _ (.var n)] => match Nat.beq n 43 with
   | true => E4 sb0 st.pc ARP.pc
   | false => E4 s2 st.pc BRP.pc
  | _ => false
 | 12 => match args with
  | .xslice _ _ _ _ (.var _) _ :: _ => true
  | _ => false
 | _ => true
noncomputable def smPa : j6 := [(8, bT aj 7 Z0), (12, uL aj 7 CMP CMR [sb0]), (10, idSm runS)]
noncomputable def lpPa : List LoopI := [PPL 1 0, PPL 1 1, PPL 1 2, PPL 1 3, PPL 2 0, PPL 2 1, PPL 2 2, PPL 2 3]
noncomputable def cxP0 : Cx := { O4 smPa with so := soS }
noncomputable def cxPa : Cx := { cxP0 with lp := some (Yl lpPa) }
def wsOf (i j : Nat) : List (Nat × au) := (match Nat.ble 2 i with
 | true => [(8, .warr 8 10 [.int .u32] (.var 40))]
 | false => []) ++ (match Nat.ble 2 j with
 | true => [(9, .warr 9 20 [.int .u8] (.var 50))]
 | false => [])
noncomputable def okRun (i j k z : Nat) : Bool := mT ((X1 cxPa 4000).call 7 [(cA i).1, (bA j).1, .agg [i64 (.var 43), i64 (.var 44)]] (TC aj (wsOf i j) 10 (pcOf i j k z)))
noncomputable def okRuns (i j : Nat) : Bool := bM (okRun i j 0 0) (okRun i j 1 0) (okRun i j 2 0) (okRun i j 3 0) (match Nat.beq i 2 && Nat.beq j 3 with
 | true => okRun i j 4 3
 | false => okRun i j 4 0) (match Nat.beq i 2 && Nat.beq j 3 with
 | true => bM (okRun i j 5 1) (okRun i j 5 2) true true true true
 | false => okRun i j 5 0)
set_option maxRecDepth 100000 in
theorem runs0 : bM (okRuns 0 0) (okRuns 0 1) (okRuns 0 2) (okRuns 0 3) (okRuns 0 4) true = true := by kernel_rfl
set_option maxRecDepth 100000 in
theorem runs1 : bM (okRuns 1 0) (okRuns 1 1) (okRuns 1 2) (okRuns 1 3) (okRuns 1 4) true = true := by kernel_rfl
set_option maxRecDepth 100000 in
theorem runs2 : bM (okRuns 2 0) (okRuns 2 1) (okRuns 2 2) (okRuns 2 3) (okRuns 2 4) true = true := by kernel_rfl
set_option maxRecDepth 100000 in
theorem runs3 : bM (okRuns 3 0) (okRuns 3 1) (okRuns 3 2) (okRuns 3 3) (okRuns 3 4) true = true := by kernel_rfl
def zOk (i j k z : Nat) : Prop := match Nat.beq i 2 && Nat.beq j 3 with
 | true => match k with
  | 5 => z = 1 ∨ z = 2
  | 4 => z = 3
  | _ => z = 0
 | false => z = 0
theorem run_all {i j k z : Nat} (hi : i < 4) (hj : j < 5) (hk : k < 6) (hz : zOk i j k z) : okRun i j k z = true := by
 have key : okRuns i j = true := by
  match i, hi with
  | 0, _ =>
   obtain ⟨h0, h1, h2, h3, h4, _⟩ := az runs0
   match j, hj with
   | 0, _ => exact h0
   | 1, _ => exact h1
   | 2, _ => exact h2
   | 3, _ => exact h3
   | 4, _ => exact h4
  | 1, _ =>
   obtain ⟨h0, h1, h2, h3, h4, _⟩ := az runs1
   match j, hj with
   | 0, _ => exact h0
   | 1, _ => exact h1
   | 2, _ => exact h2
   | 3, _ => exact h3
   | 4, _ => exact h4
  | 2, _ =>
   obtain ⟨h0, h1, h2, h3, h4, _⟩ := az runs2
   match j, hj with
   | 0, _ => exact h0
   | 1, _ => exact h1
   | 2, _ => exact h2
   | 3, _ => exact h3
   | 4, _ => exact h4
  | 3, _ =>
   obtain ⟨h0, h1, h2, h3, h4, _⟩ := az runs3
   match j, hj with
   | 0, _ => exact h0
   | 1, _ => exact h1
   | 2, _ => exact h2
   | 3, _ => exact h3
   | 4, _ => exact h4
 obtain ⟨h0, h1, h2, h3, h4, h5⟩ := az key
 unfold zOk at hz
 cases hc : Nat.beq i 2 && Nat.beq j 3 with
 | true =>
  rw [hc] at hz h4 h5
  match k, hk with
  | 0, _ => obtain rfl : z = 0 := hz; exact h0
  | 1, _ => obtain rfl : z = 0 := hz; exact h1
  | 2, _ => obtain rfl : z = 0 := hz; exact h2
  | 3, _ => obtain rfl : z = 0 := hz; exact h3
  | 4, _ => obtain rfl : z = 3 := hz; exact h4
  | 5, _ =>
   obtain ⟨g1, g2, _⟩ := az h5
   have hz : z = 1 ∨ z = 2 := hz
   rcases hz with rfl | rfl
   ·exact g1
   ·exact g2
 | false =>
  rw [hc] at hz h4 h5
  obtain rfl : z = 0 := hz
  match k, hk with
  | 0, _ => exact h0
  | 1, _ => exact h1
  | 2, _ => exact h2
  | 3, _ => exact h3
  | 4, _ => exact h4
  | 5, _ => exact h5
end Go.Proofs.YtmickljjofbmiaaGreatDoor
