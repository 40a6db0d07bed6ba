/- IsaEncodes: its loop's shape (printed by hencl). IsaEncodes: small things for loops that are told. IsaEncodes: its loop is told; of any instructions the law answers true, and nothing that was there is turned. No condition. -/
import Derived.Test.YtkkfbmjelanjgaaDoorEAt
import Derived.Test.YtkkfbmjelanjgaaDoorFwH
namespace Go.Proofs.YtkkfbmjelanjgaaDoor
open Go
noncomputable def roC (_ : Nat) : List V := asciiL 256
abbrev U : V := .undef
def kI : List CK := [.int .i64, .int .i64, .int .i64, .int .i64, .int .u32, .bool, .bool]
def lpsOf : Code → List Code
 | .seq a b => lpsOf a ++ lpsOf b
 | .cond _ a b => lpsOf a ++ lpsOf b
 | .block _ c => lpsOf c
 | .loop c => c :: lpsOf c
 | .scope c => lpsOf c
 | .rangeFunc _ _ a b => lpsOf a ++ lpsOf b
 | _ => []
noncomputable def bodyOf (_ : Nat) : Code := Tryd.f3.body.getD .skip
noncomputable def lb (f k : Nat) : Code := (lpsOf (bodyOf f)).getD k .skip
noncomputable def smL : List (FuncId × (List V → St → R (V × St))) := [(4, sumTab LStart 7 sum4), (5, symI encS), (6, symI mayS), (7, symI refS)]
noncomputable def cxB : Cx := { cxD with sm := smOf smL, sx := true, mg := true, js := true }
noncomputable def A1H : H := itemsH [(0, .ro 0 (roC 0)),
  (7, .warr 7 20 kI (.var 50))]
noncomputable def A1Pc : PC := [((.le (.lit 1) (.var 50)), true), ((.le (.var 50) (.lit 60)), true), ((.le (.var 50) (.var 51)), true), ((.le (.lit 0) (.lit 7)), true)]
noncomputable def A1I : Pat := ⟨⟨[(.xslice true 7 (.lit 0) 7 (.var 50) (.known (.var 51))), U, (.any 8), (.int .i64 (.var 100)), (.any 9), (.any 10), (.any 11), (.xslice true 7 (.lit 0) 7 (.var 50) (.known (.var 51))), (.int .i64 (.var 50)), (.bool (.lt (.lit 60) (.var 50))), U, (.any 12), (.any 13), (.any 14), (.any 15), (.any 16), (.any 17), (.any 18), (.any 19), (.any 20), (.any 21), (.any 22), (.any 23), (.any 24), (.any 25), (.any 26), (.any 27), (.any 28), (.any 29), (.any 30), (.any 31), (.any 32), (.any 33), (.any 34), (.any 35), (.any 36), (.any 37), (.any 38), (.any 39), (.any 40), (.any 41), (.any 42), (.any 43), (.any 44), (.any 45), (.any 46), (.any 47), (.any 48), (.any 49), (.any 50), (.any 51), (.any 52), (.any 53), (.any 54), (.any 55), (.any 56), (.any 57), (.any 58), U], []⟩,
 [(0, .ro 0 (roC 0)),
  (7, .warr 7 20 kI (.var 50))],
 59, [((.le (.lit 0) (.var 100)), true), ((.le (.lit 1) (.var 50)), true), ((.le (.var 50) (.lit 60)), true), ((.le (.var 50) (.var 51)), true), ((.le (.lit 0) (.lit 7)), true)], [0, 1, 2, 3, 4, 5, 6, 7, 8, 9, 10, 11, 12, 13, 14, 15, 16, 17, 18, 19, 20, 21, 22, 23, 24, 25, 26, 27, 28, 29, 30, 31, 32, 33, 34, 35, 36, 37, 38, 39, 40, 41, 42, 43, 44, 45, 46, 47, 48, 49, 50, 51, 52, 53, 54, 55, 56, 57, 58]⟩
noncomputable def A1T : Tch := ⟨[100], []⟩
noncomputable def A1S : Mt := (mtV [(100, (.lit 0))] [])
noncomputable def A1O : OutP := ⟨(.exit 0), ⟨⟨[(.xslice true 7 (.lit 0) 7 (.var 50) (.known (.var 51))), U, (.any 8), (.any 9), (.any 10), (.any 11), (.any 12), (.xslice true 7 (.lit 0) 7 (.var 50) (.known (.var 51))), (.int .i64 (.var 50)), (.bool (.lt (.lit 60) (.var 50))), U, (.any 13), (.xslice true 7 (.lit 0) 7 (.var 50) (.known (.var 51))), (.int .i64 (.var 50)), (.any 14), (.any 15), (.any 16), (.any 17), (.any 18), (.any 19), (.any 20), (.any 21), (.any 22), (.any 23), (.any 24), (.any 25), (.any 26), (.any 27), (.any 28), (.any 29), (.any 30), (.any 31), (.any 32), (.any 33), (.any 34), (.any 35), (.any 36), (.any 37), (.any 38), (.any 39), (.any 40), (.any 41), (.any 42), (.any 43), (.any 44), (.any 45), (.any 46), (.any 47), (.any 48), (.any 49), (.any 50), (.any 51), (.any 52), (.any 53), (.any 54), (.any 55), (.any 56), (.any 57), U], []⟩,
 [(0, .ro 0 (roC 0)),
  (7, .warr 7 20 kI (.var 50))],
 58, [], [0, 1, 2, 3, 4, 5, 6, 7, 8, 9, 10, 11, 12, 13, 14, 15, 16, 17, 18, 19, 20, 21, 22, 23, 24, 25, 26, 27, 28, 29, 30, 31, 32, 33, 34, 35, 36, 37, 38, 39, 40, 41, 42, 43, 44, 45, 46, 47, 48, 49, 50, 51, 52, 53, 54, 55, 56, 57]⟩⟩
noncomputable def A1LL : R LL :=
 (.br (.lt (.var 100) (.var 50))
  (.br (.eq (.fn1 30 (.var 100)) (.lit 1))
  (.ok (.next (mtV [(100, (.add (.var 100) (.lit 1)))] [])))
  (.ok (.next (mtV [(100, (.add (.var 100) (.lit 1)))] []))))
  (.ok (.out 0 (mtV [] []))))
noncomputable def A1L : LoopI := ⟨none, (lb 3 0), ⟨[(.xslice true 7 (.lit 0) 7 (.var 50) (.known (.var 51))), U, (.bool (.lit 0)), (.int .i64 (.lit 0)), U, U, U, (.xslice true 7 (.lit 0) 7 (.var 50) (.known (.var 51))), (.int .i64 (.var 50)), (.bool (.lt (.lit 60) (.var 50))), U, U, U, U, U, U, U, U, U, U, U, U, U, U, U, U, U, U, U, U, U, U, U, U, U, U, U, U, U, U, U, U, U, U, U, U, U, U, U, U, U, U, U, U, U, U, U, U, U], []⟩, ⟨A1H, 8, A1Pc⟩, .ok (A1O.ex, A1O.pat.fr, ⟨A1O.pat.st.h, A1O.pat.st.n, A1Pc⟩)⟩
set_option maxRecDepth 100000 in
theorem A1_chk : (match (ev cxB 4000).code A1L.rnd A1L.body A1I.fr A1I.st with | raw => chkTree A1T A1L.st.n A1I [A1O] raw (fillLL A1I [A1O] raw A1LL)) = true := by kernel_rfl
set_option maxRecDepth 100000 in
theorem A1_ok : loopOk 7 A1L A1I [A1O] = true := by kernel_rfl
set_option maxRecDepth 100000 in
theorem A1_ent : fit A1T (fillMt A1I A1L.fr A1L.st A1S.v A1S.a) A1L.st.n A1I A1L.fr A1L.st = true := by kernel_rfl
end Go.Proofs.YtkkfbmjelanjgaaDoor
namespace Go.Proofs.YtkkfbmjelanjgaaDoor
open Go Go.Proofs
theorem pcNil {ρ : Env} : PcOk ρ [] := fun f hf => by cases hf
theorem pcCons {ρ : Env} {x : X} {b : Bool} {pc : PC} (h : x.tt ρ = b) (hp : PcOk ρ pc) : PcOk ρ ((x, b) :: pc) := fun f hf => by
 rcases List.mem_cons.1 hf with rfl | hf
 ·exact h
 ·exact hp f hf
theorem lt_tt {ρ : Env} {x y : X} {a b : Int} (hx : x.den ρ = a) (hy : y.den ρ = b) : (X.lt x y).tt ρ = decide (a < b) := by
 rw [X.tt, X.den, b2i_tt, hx, hy]
theorem le_tt {ρ : Env} {x y : X} {a b : Int} (hx : x.den ρ = a) (hy : y.den ρ = b) : (X.le x y).tt ρ = decide (a ≤ b) := by
 rw [X.tt, X.den, b2i_tt, hx, hy]
theorem eq_tt {ρ : Env} {x y : X} {a b : Int} (hx : x.den ρ = a) (hy : y.den ρ = b) : (X.eq x y).tt ρ = decide (a = b) := by
 rw [X.tt, X.den, b2i_tt, hx, hy]
 rfl
theorem lt2 {ρ : Env} {x y : X} {a b : Int} (hx : x.den ρ = a) (hy : y.den ρ = b) (h : a < b) : (X.lt x y).tt ρ = true := (lt_tt hx hy).trans (decide_eq_true h)
theorem lt2n {ρ : Env} {x y : X} {a b : Int} (hx : x.den ρ = a) (hy : y.den ρ = b) (h : ¬ a < b) : (X.lt x y).tt ρ = false := (lt_tt hx hy).trans (decide_eq_false h)
theorem eq2 {ρ : Env} {x y : X} {a b : Int} (hx : x.den ρ = a) (hy : y.den ρ = b) (h : a = b) : (X.eq x y).tt ρ = true := (eq_tt hx hy).trans (decide_eq_true h)
theorem eq2n {ρ : Env} {x y : X} {a b : Int} (hx : x.den ρ = a) (hy : y.den ρ = b) (h : ¬ a = b) : (X.eq x y).tt ρ = false := (eq_tt hx hy).trans (decide_eq_false h)
theorem look_one {α : Type} {k i : Nat} {x y : α} (h : look [(k, x)] i = some y) : i = k ∧ x = y := by
 unfold look at h
 split at h
 ·rename_i hb
  exact ⟨(Nat.eq_of_beq_eq_true hb).symm, Option.some.inj h⟩
 ·simp [look] at h
theorem look_two {α : Type} {k l i : Nat} {x z y : α} (h : look [(k, x), (l, z)] i = some y) : (i = k ∧ x = y) ∨ (i = l ∧ z = y) := by
 unfold look at h
 split at h
 ·rename_i hb
  exact .inl ⟨(Nat.eq_of_beq_eq_true hb).symm, Option.some.inj h⟩
 ·exact .inr (look_one h)
theorem look_nil {α : Type} {i : Nat} {y : α} (h : look [] i = some y) : False := by cases h
def Env.tk (ρ : Env) (vs : List (Nat × Int)) (f m : Nat) (g : Nat → Int → Int) : Env := { ρ with
 v := fun i => match look vs i with
  | some n => n
  | none => ρ.v i
 f1 := fun i => match Nat.ble f i with
  | true => match Nat.blt i (f + m) with
   | true => g (i - f)
   | false => ρ.f1 i
  | false => ρ.f1 i }
theorem look_out {vs : List (Nat × Int)} {l : List Nat} : (∀ x ∈ vs, memN x.1 l = true) → ∀ {i}, memN i l = false → look vs i = none := by
 induction vs with
 | nil => intro _ _ _; rfl
 | cons x vs ih =>
  intro h i hi
  obtain ⟨k, n⟩ := x
  unfold look
  split
  ·rename_i hb
   have := h _ (List.mem_cons_self ..)
   rw [Nat.eq_of_beq_eq_true hb, hi] at this
   cases this
  ·exact ih (fun y hy => h y (List.mem_cons_of_mem _ hy)) hi
theorem tk_agree {t : Tch} {ρ : Env} {vs : List (Nat × Int)} {f m : Nat} {g : Nat → Int → Int} (h1 : ∀ x ∈ vs, memN x.1 t.vs = true) (h2 : ∀ i, f ≤ i → i < f + m → inR t.ts i = true) : Agree t ρ (ρ.tk vs f m g) where
 v := fun i hi => by simp [Env.tk, look_out h1 hi]
 f1 := fun i hi => by
  simp only [Env.tk]
  split
  ·rename_i ha
   split
   ·rename_i hb
    rw [h2 i (Nat.le_of_ble_eq_true ha) (Nat.le_of_ble_eq_true hb)] at hi
    cases hi
   ·rfl
  ·rfl
 b := rfl
 f2 := rfl
 s := rfl
 sf := rfl
 ro := rfl
 win := rfl
theorem Agree.symm {t : Tch} {ρ1 ρ2 : Env} (h : Agree t ρ1 ρ2) : Agree t ρ2 ρ1 := ⟨fun i hi => (h.v i hi).symm, fun f hf => (h.f1 f hf).symm, h.b.symm, h.f2.symm, h.s.symm, h.sf.symm, h.ro.symm, h.win.symm⟩
theorem Agree.trans {t : Tch} {ρ1 ρ2 ρ3 : Env} (h : Agree t ρ1 ρ2) (k : Agree t ρ2 ρ3) : Agree t ρ1 ρ3 := ⟨fun i hi => (k.v i hi).trans (h.v i hi), fun f hf => (k.f1 f hf).trans (h.f1 f hf), k.b.trans h.b, k.f2.trans h.f2, k.s.trans h.s, k.sf.trans h.sf, k.ro.trans h.ro, k.win.trans h.win⟩
theorem tk_two {t : Tch} {ρ : Env} {f m : Nat} (h1 : memN 100 t.vs = true) (h2 : memN 101 t.vs = true) (h3 : ∀ i, f ≤ i → i < f + m → inR t.ts i = true) {a b : Int} {g : Nat → Int → Int} : Agree t ρ (ρ.tk [(100, a), (101, b)] f m g) :=
 tk_agree (fun x hx => by
  rcases List.mem_cons.1 hx with rfl | hx
  ·exact h1
  ·obtain rfl := List.mem_singleton.1 hx
   exact h2) h3
theorem tk_one {t : Tch} {ρ : Env} (h1 : memN 100 t.vs = true) {a : Int} {g : Nat → Int → Int} : Agree t ρ (ρ.tk [(100, a)] 0 0 g) :=
 tk_agree (fun x hx => by
  obtain rfl := List.mem_singleton.1 hx
  exact h1) (fun i hi hj => by omega)
theorem RoAll.of {ρ : Env} (h : RoAt ρ LStart) : ∀ ρ' : Env, ρ'.ro = ρ.ro → RoAt ρ' LStart := fun ρ' hr => ⟨fun x hx => by
 simp only [LStart, List.mem_singleton] at hx
 subst hx
 obtain ⟨t, fr, h2⟩ := h.is _ (List.mem_singleton.2 rfl)
 exact ⟨t, fr, fun π => by rw [hr, h2 π, asciiL_concs, asciiL_concs]⟩⟩
theorem lpOk {cx : Cx} {ρ : Env} {L : LoopI} {c : Cx} (hc : SumOk Tryd.prog c ρ) (hl : LoopTold Tryd.prog cx ρ L) (e1 : cx.sm = c.sm) (e2 : cx.dm = c.dm) (e3 : cx.ng = c.ng) (e4 : cx.lp = some (lpOf [L])) (e5 : cx.dm = dmH := by rfl) (e6 : cx.ng = 7 := by rfl) : SumOk Tryd.prog cx ρ := by
 have h := sum_flags (c' := { cx with lp := c.lp }) hc e1 e2 e3 rfl
 refine ⟨fun f s hs args st v st' he S π0 w ac n hh ha => h.sum f s hs args st v st' he S π0 w ac n ⟨hh.pc, hh.at_, hh.glob, hh.fresh⟩ ha, fun g s hg => dm_ok e6 g s (by rw [← e5]; exact hg), fun lp hlp => ?_⟩
 rw [e4] at hlp
 obtain rfl := Option.some.inj hlp
 exact lpOf_ok fun L' hL => by obtain rfl := List.mem_singleton.1 hL; exact hl
def envD (ρ : Env) (k : Int) : Env := ρ.tk [(100, k)] 0 0 fun _ _ => 0
theorem envD_f1 (ρ : Env) (k : Int) : (envD ρ k).f1 = ρ.f1 := by
 funext i
 show (match Nat.ble 0 i with
  | true => match Nat.blt i (0 + 0) with
   | true => (fun _ => 0 : Int → Int)
   | false => ρ.f1 i
  | false => ρ.f1 i) = ρ.f1 i
 have h1 : Nat.ble 0 i = true := Nat.ble_eq_true_of_le (Nat.zero_le _)
 have h2 : Nat.blt i (0 + 0) = false := by
  cases h : Nat.blt i (0 + 0) with
  | false => rfl
  | true => exact absurd (Nat.le_of_ble_eq_true h) (by omega)
 rw [h1, h2]
end Go.Proofs.YtkkfbmjelanjgaaDoor
namespace Go.Proofs.YtkkfbmjelanjgaaDoor
open Go Go.Proofs Go.ChangeShapes Go.WideShapes Go.ChangeAt Go.RowKit
section
variable {W : World} {ro : Nat → Obj} {ρ : Env} {cx : Cx} (hall : RoAll ro) (hW : ∀ x ∈ LStart, W.heap[x.1]? = some (ro x.1)) (hS : Syms ro ρ)
include hall hW hS
theorem allS : SumOk Tryd.prog cxB ρ := smOf_okL (l := smL) ⟨at4 hall hS.hro rfl, sym5 hall hW hS rfl, sym6 hall hW hS rfl, sym7 hall hW hS rfl, trivial⟩ rfl
omit hall hW in
theorem symsD (k : Int) : Syms ro (envD ρ k) := ⟨hS.hro, fun j => by rw [envD_f1]; exact hS.m j, fun j => by rw [envD_f1]; exact hS.r j⟩
theorem enc_told (hng : cx.ng = 7) : LoopTold Tryd.prog cx ρ A1L := by
 intro res hr S π0 w a r nn hh
 have hn1 : 1 ≤ ρ.v 50 := by
  have h1 := hh.pc ((.le (.lit 1) (.var 50)), true) (by simp [A1L, A1Pc])
  have h2 : (X.le (.lit 1) (.var 50)).tt ρ = decide (1 ≤ ρ.v 50) := le_tt rfl rfl
  rw [h2] at h1
  exact of_decide_eq_true h1
 have ag : ∀ k, Agree A1T ρ (envD ρ k) := fun k => tk_one rfl
 have hlt : ∀ k, (X.lt (.var 100) (.var 50)).tt (envD ρ k) = decide (k < ρ.v 50) := fun k => lt_tt rfl rfl
 refine loop_told2 (cxB := cxB) (t := A1T) (I := A1I) (outs := [A1O]) (ll := A1LL) (N := 4000) (ng := 7) A1S (fun ρ1 => ∃ k : Int, 0 ≤ k ∧ k ≤ ρ.v 50 ∧ ρ1 = envD ρ k) (fun ρ1 => (ρ.v 50 + 2 - ρ1.v 100).toNat)
  (fun ρ1 h1 => ?_) rfl hng A1_chk A1_ok A1_ent ⟨envD ρ 0, ⟨ag 0, fun i x h => ?_, fun f ks q h => (look_nil h).elim⟩, 0, by omega, by omega, rfl⟩ ?_ res hr S π0 w a r nn hh
 ·obtain ⟨k, _, _, rfl⟩ := h1
  exact (ev_ok mixed_door tt_ok ft_ok (allS hall hW (symsD hS k)) 4000).1
 ·obtain ⟨rfl, rfl⟩ := look_one h
  rfl
 ·rintro ρ1 ⟨k, h1, h2, rfl⟩ _
  by_cases c1 : k < ρ.v 50
  ·have t1 := (hlt k).trans (decide_eq_true c1)
   refine ⟨.next (mtV [(100, .add (.var 100) (.lit 1))] []), ?_, ?_⟩
   ·show (R.br _ (R.br _ _ _) _).sel _ = _
    simp only [R.sel, t1, if_true]
    split <;> rfl
   ·dsimp only
    refine ⟨envD ρ (k + 1), ⟨(ag k).symm.trans (ag (k + 1)), fun i x h => ?_, fun f ks q h => (look_nil h).elim⟩, ⟨k + 1, by omega, by omega, rfl⟩, ?_⟩
    ·obtain ⟨rfl, rfl⟩ := look_one h
     rfl
    ·show (ρ.v 50 + 2 - (k + 1)).toNat < (ρ.v 50 + 2 - k).toNat
     omega
  ·have t1 := (hlt k).trans (decide_eq_false c1)
   refine ⟨.out 0 (mtV [] []), ?_, ⟨(ag k).symm, fun i x h => (look_nil h).elim, fun f ks q h => (look_nil h).elim⟩, A1O, rfl, ?_⟩
   ·show (R.br _ _ _).sel _ = _
    simp only [R.sel, t1, Bool.false_eq_true, if_false]
   ·rfl
end
structure EK where
 W : World
 g : Nat → Int → Int
 n : Int
 c : Int
 a : Addr
def EK.ro (d : EK) (i : Nat) : Obj := match Nat.ble 7 i with
 | true => roW d.W d.a.block
 | false => roW d.W i
noncomputable def EK.env (d : EK) : Env :=
 {b := fun _ => false
  v := fun i => if i = 50 then d.n else if i = 51 then d.c else 0
  f1 := fun f => if f = 30 then fun j => b2i (encP d.ro (instJ (fun f => d.g (f - 20)) j)).1 else if f = 31 then fun j => (encP d.ro (instJ (fun f => d.g (f - 20)) j)).2 else d.g (f - 20)
  f2 := fun _ _ _ => 0, s := fun _ => [], sf := fun _ _ => []
  ro := d.ro
  win := fun _ => d.a }
theorem EK.syms (d : EK) : Syms d.ro d.env := ⟨rfl, fun _ => rfl, fun _ => rfl⟩
noncomputable def cxK : Cx := { cxB with lp := some (lpOf [A1L]) }
def lV : Nat → V × PC
 | 0 => (.nilslice, [])
 | 1 => (.xslice true 7 (.lit 0) 7 (.lit 0) (.known (.var 51)), [(.le (.lit 0) (.var 51), true)])
 | 2 => (.xslice true 7 (.lit 0) 7 (.var 50) (.known (.var 51)), [(.le (.lit 1) (.var 50), true), (.le (.var 50) (.lit 60), true), (.le (.var 50) (.var 51), true)])
 | _ => (.xslice true 7 (.lit 0) 7 (.var 50) (.known (.var 51)), [(.lt (.lit 60) (.var 50), true), (.le (.var 50) (.var 51), true)])
def wsOf (i : Nat) : List (Nat × SObj) := match Nat.ble 2 i with
 | true => [(7, .warr 7 20 kI (.var 50))]
 | false => []
def pcOf (i : Nat) : PC := (lV i).2 ++ [(.le (.lit 0) (.lit 7), true)]
noncomputable def okRun (i : Nat) : Bool := allChkX ((evT cxK 4000).call 3 [(lV i).1] (stRows LStart (wsOf i) 8 (pcOf i)))
set_option maxRecDepth 100000 in
theorem law0 : okRun 0 = true := by kernel_rfl
set_option maxRecDepth 100000 in
theorem law1 : okRun 1 = true := by kernel_rfl
set_option maxRecDepth 100000 in
theorem law2 : okRun 2 = true := by kernel_rfl
set_option maxRecDepth 100000 in
theorem law3 : okRun 3 = true := by kernel_rfl
theorem run_all {i : Nat} (hi : i < 4) : okRun i = true := by
 match i, hi with
 | 0, _ => exact law0
 | 1, _ => exact law1
 | 2, _ => exact law2
 | 3, _ => exact law3
def LIn (d : EK) (v : Value) : Nat → Prop
 | 0 => v = .slice none 0 0
 | 1 => v = .slice (some d.a) 0 d.c.toNat ∧ 0 ≤ d.c
 | 2 => v = .slice (some d.a) d.n.toNat d.c.toNat ∧ 1 ≤ d.n ∧ d.n ≤ 60 ∧ d.n ≤ d.c ∧ CameIn d.W kI d.a d.n.toNat d.g
 | _ => v = .slice (some d.a) d.n.toNat d.c.toNat ∧ 60 < d.n ∧ d.n ≤ d.c ∧ CameIn d.W kI d.a d.n.toNat d.g
set_option maxRecDepth 100000 in
theorem lIn_of {H : Type} {enc : TypeId × Value → H} {W : World} {v : Value} {d0 : DataW H} {p : List MemPlace} {base b0 : Nat} {sp : Nat → Bool} {held : Bool} {r : Reach} (hval : Value.okWide Tryd.prog W r b0 22 v) (h0 : DataW.Trod enc Tryd.prog W base sp held 22 v d0 p) :
  ∃ d : EK, d.W = W ∧ ∃ i, i < 4 ∧ LIn d v i := by
 obtain ⟨ad, ln, cp, rfl⟩ := okWide_slice Tryd.underlying22 hval
 obtain ⟨fuel, hf⟩ := h0
 rcases open_row (n := 3) (ks := kI) Tryd.underlying22 (by kernel_rfl) (by kernel_rfl) hf with hcs | ⟨a, len, cap, zs, hcs, _, hle, _, hz⟩
 ·simp [Value.cells] at hcs
  obtain ⟨rfl, rfl, rfl⟩ := hcs
  exact ⟨⟨W, fun _ _ => 0, 0, 0, ⟨0, 0, none⟩⟩, rfl, 0, by decide, rfl⟩
 ·simp [Value.cells] at hcs
  obtain ⟨rfl, rfl, rfl⟩ := hcs
  by_cases hl0 : ln = 0
  ·subst hl0
   exact ⟨⟨W, fun _ _ => 0, 0, cp, a⟩, rfl, 1, by decide, rfl, Int.natCast_nonneg _⟩
  ·have hc := cameIn_of (by omega) (by decide) hz
   by_cases hbig : 60 < (ln : Int)
   ·exact ⟨⟨W, _, ln, cp, a⟩, rfl, 3, by decide, rfl, hbig, Int.ofNat_le.2 hle, hc⟩
   ·exact ⟨⟨W, _, ln, cp, a⟩, rfl, 2, by decide, rfl, by show (1 : Int) ≤ ln; omega, by show (ln : Int) ≤ 60; omega, Int.ofNat_le.2 hle, hc⟩
theorem tle {ρ : Env} {x y : X} (h : x.den ρ ≤ y.den ρ) : (X.le x y).tt ρ = true := (le_tt rfl rfl).trans (decide_eq_true h)
theorem tlt {ρ : Env} {x y : X} (h : x.den ρ < y.den ρ) : (X.lt x y).tt ρ = true := (lt_tt rfl rfl).trans (decide_eq_true h)
theorem pcApp {ρ : Env} {p q : PC} (hp : PcOk ρ p) (hq : PcOk ρ q) : PcOk ρ (p ++ q) := fun f hf => (List.mem_append.1 hf).elim (hp f) (hq f)
theorem lPc {d : EK} {v : Value} : ∀ {i : Nat}, LIn d v i → PcOk d.env (lV i).2
 | 0, _ => pcNil
 | 1, h => pcCons (tle h.2) pcNil
 | 2, h => pcCons (tle h.2.1) (pcCons (tle h.2.2.1) (pcCons (tle h.2.2.2.1) pcNil))
 | _ + 3, h => pcCons (tlt h.2.1) (pcCons (tle h.2.2.1) pcNil)
theorem roAll_encs {W : World} (h : laidMetH Tryd.prog Rows.isaEncodesRow.laid W) {ro : Nat → Obj} (h0 : ro 0 = roW W 0) : RoAll ro ∧ ∀ x ∈ LStart, W.heap[x.1]? = some (ro x.1) := by
 obtain ⟨t, fr, h1⟩ := of_laid h
 have e : ro 0 = .cells ((asciiZ 256).map (.int .u8)).toArray t fr := by rw [h0]; simp only [roW, h1, Option.getD_some]
 refine ⟨fun ρ hr => ⟨fun x hx => ?_⟩, fun x hx => ?_⟩ <;> (simp only [LStart, List.mem_singleton] at hx; subst hx)
 ·exact ⟨t, fr, fun π => by rw [hr, e, asciiL_concs]⟩
 ·rw [e]; exact h1
theorem add_none (a : Addr) : a.add 0 = a := by simp [Addr.add]
set_option maxRecDepth 100000 in
theorem encs_walk {H : Type} {enc : TypeId × Value → H} {W : World} (h : laidMetH Tryd.prog Rows.isaEncodesRow.laid W) {v0 : Value} {d0 : DataW H} {p0 : List MemPlace} {b0 : Nat} (hv0 : Value.okWide Tryd.prog W .any b0 22 v0)
  (h0 : DataW.Trod enc Tryd.prog W 0 (fun _ => true) true 22 v0 d0 p0) : Calls Tryd.prog 3 #[v0] W fun e W' => e = .returned (.bool true) ∧ Below W.heap.size W W' := by
 obtain ⟨d, rfl, i, hi, hL⟩ := lIn_of hv0 h0
 obtain ⟨hall, hW⟩ := roAll_encs h (ro := d.ro) rfl
 have hl : 2 ≤ i → CameIn d.W kI d.a d.n.toNat d.g := by
  intro h2
  match i, hi, h2, hL with
  | 2, _, _, hL => exact hL.2.2.2.2
  | 3, _, _, hL => exact hL.2.2.2
 have hmem : ∀ x ∈ wsOf i, x = (7, .warr 7 20 kI (.var 50)) ∧ 2 ≤ i := by
  intro x hx
  unfold wsOf at hx
  split at hx
  ·rename_i hc
   exact ⟨List.mem_singleton.1 hx, Nat.le_of_ble_eq_true hc⟩
  ·cases hx
 have hrows : RowsAt d.env d.W (wsOf i) 7 8 := by
  refine ⟨fun x hx => ?_, by decide, fun x hx => ?_, fun x hx => ?_, fun x hx π hπ => ?_⟩ <;> obtain ⟨rfl, h2⟩ := hmem x hx
  ·decide
  ·exact (hl h2).block
  ·rfl
  ·exact (hl h2).is (t := 20) rfl rfl (fun c hc => by
    match c, hc with
    | 0, _ => rfl
    | 1, _ => rfl
    | 2, _ => rfl
    | 3, _ => rfl
    | 4, _ => rfl
    | 5, _ => rfl
    | 6, _ => rfl) (Nat.le_refl _) hπ
 have hpc : PcOk d.env (pcOf i) := pcApp (lPc hL) (pcCons rfl pcNil)
 have ha : SaysL d.env (fun i => i < 8) (πRows d.env 7) [(lV i).1] [v0] := by
  have e0 : ∀ π, (lV i).1.conc d.env π = v0 := by
   intro π
   match i, hi, hL with
   | 0, _, hL => exact hL.symm
   | 1, _, hL => exact (congrArg (fun a => Value.slice (some a) 0 d.c.toNat) (add_none d.a)).trans hL.1.symm
   | 2, _, hL => exact (congrArg (fun a => Value.slice (some a) d.n.toNat d.c.toNat) (add_none d.a)).trans hL.1.symm
   | 3, _, hL => exact (congrArg (fun a => Value.slice (some a) d.n.toNat d.c.toNat) (add_none d.a)).trans hL.1.symm
  intro π _
  show [(lV i).1.conc d.env π] = [v0]
  rw [e0]
 exact law_rows (cx := cxK) (L := LStart) (ng := 7) (nm := 8) (ρ := d.env) (N := 4000) mixed_door tt_ok ft_ok (lpOk (c := cxB) (allS hall hW d.syms) (enc_told hall hW d.syms rfl) rfl rfl rfl rfl) Tryd.func3 rfl LStart_lt (hall _ rfl) hW hrows hpc (by rw [evT_call]; exact run_all hi) ha
end Go.Proofs.YtkkfbmjelanjgaaDoor
