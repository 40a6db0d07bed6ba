/- ScriptSame: small things for loops that are told. ScriptSame: the loops that compare rows are told; what the functions answer, wherever they are called. No condition. -/
import Derived.Test.YtennjdjcjjjmiaaGreatDoorLLoops
namespace Go.Proofs.YtennjdjcjjjmiaaGreatDoor
open Go Go.Proofs
theorem pcNil {ρ : Env} : PcOk ρ [] := fun f hf => by cases hf
theorem pcCons {ρ : Env} {x : X} {b : Bool} {pc : PC} (h : x.tt ρ = b) (hp : PcOk ρ pc) : PcOk ρ ((x, b) :: pc) := fun f hf => by
 rcases List.mem_cons.1 hf with rfl | hf
 ·exact h
 ·exact hp f hf
theorem lt_tt {ρ : Env} {x y : X} {a b : Int} (hx : x.den ρ = a) (hy : y.den ρ = b) : (X.lt x y).tt ρ = decide (a < b) := by
 rw [X.tt, X.den, b2i_tt, hx, hy]
theorem le_tt {ρ : Env} {x y : X} {a b : Int} (hx : x.den ρ = a) (hy : y.den ρ = b) : (X.le x y).tt ρ = decide (a ≤ b) := by
 rw [X.tt, X.den, b2i_tt, hx, hy]
theorem eq_tt {ρ : Env} {x y : X} {a b : Int} (hx : x.den ρ = a) (hy : y.den ρ = b) : (X.eq x y).tt ρ = decide (a = b) := by
 rw [X.tt, X.den, b2i_tt, hx, hy]
 rfl
theorem lt2 {ρ : Env} {x y : X} {a b : Int} (hx : x.den ρ = a) (hy : y.den ρ = b) (h : a < b) : (X.lt x y).tt ρ = true := (lt_tt hx hy).trans (decide_eq_true h)
theorem lt2n {ρ : Env} {x y : X} {a b : Int} (hx : x.den ρ = a) (hy : y.den ρ = b) (h : ¬ a < b) : (X.lt x y).tt ρ = false := (lt_tt hx hy).trans (decide_eq_false h)
theorem eq2 {ρ : Env} {x y : X} {a b : Int} (hx : x.den ρ = a) (hy : y.den ρ = b) (h : a = b) : (X.eq x y).tt ρ = true := (eq_tt hx hy).trans (decide_eq_true h)
theorem eq2n {ρ : Env} {x y : X} {a b : Int} (hx : x.den ρ = a) (hy : y.den ρ = b) (h : ¬ a = b) : (X.eq x y).tt ρ = false := (eq_tt hx hy).trans (decide_eq_false h)
theorem look_one {α : Type} {k i : Nat} {x y : α} (h : look [(k, x)] i = some y) : i = k ∧ x = y := by
 unfold look at h
 split at h
 ·rename_i hb
  exact ⟨(Nat.eq_of_beq_eq_true hb).symm, Option.some.inj h⟩
 ·simp [look] at h
theorem look_two {α : Type} {k l i : Nat} {x z y : α} (h : look [(k, x), (l, z)] i = some y) : (i = k ∧ x = y) ∨ (i = l ∧ z = y) := by
 unfold look at h
 split at h
 ·rename_i hb
  exact .inl ⟨(Nat.eq_of_beq_eq_true hb).symm, Option.some.inj h⟩
 ·exact .inr (look_one h)
theorem look_nil {α : Type} {i : Nat} {y : α} (h : look [] i = some y) : False := by cases h
def Env.tk (ρ : Env) (vs : List (Nat × Int)) (f m : Nat) (g : Nat → Int → Int) : Env := { ρ with
 v := fun i => match look vs i with
  | some n => n
  | none => ρ.v i
 f1 := fun i => match Nat.ble f i with
  | true => match Nat.blt i (f + m) with
   | true => g (i - f)
   | false => ρ.f1 i
  | false => ρ.f1 i }
theorem look_out {vs : List (Nat × Int)} {l : List Nat} : (∀ x ∈ vs, memN x.1 l = true) → ∀ {i}, memN i l = false → look vs i = none := by
 induction vs with
 | nil => intro _ _ _; rfl
 | cons x vs ih =>
  intro h i hi
  obtain ⟨k, n⟩ := x
  unfold look
  split
  ·rename_i hb
   have := h _ (List.mem_cons_self ..)
   rw [Nat.eq_of_beq_eq_true hb, hi] at this
   cases this
  ·exact ih (fun y hy => h y (List.mem_cons_of_mem _ hy)) hi
theorem tk_agree {t : Tch} {ρ : Env} {vs : List (Nat × Int)} {f m : Nat} {g : Nat → Int → Int} (h1 : ∀ x ∈ vs, memN x.1 t.vs = true) (h2 : ∀ i, f ≤ i → i < f + m → inR t.ts i = true) : Agree t ρ (ρ.tk vs f m g) where
 v := fun i hi => by simp [Env.tk, look_out h1 hi]
 f1 := fun i hi => by
  simp only [Env.tk]
  split
  ·rename_i ha
   split
   ·rename_i hb
    rw [h2 i (Nat.le_of_ble_eq_true ha) (Nat.le_of_ble_eq_true hb)] at hi
    cases hi
   ·rfl
  ·rfl
 b := rfl
 f2 := rfl
 s := rfl
 sf := rfl
 ro := rfl
 win := rfl
theorem Agree.symm {t : Tch} {ρ1 ρ2 : Env} (h : Agree t ρ1 ρ2) : Agree t ρ2 ρ1 := ⟨fun i hi => (h.v i hi).symm, fun f hf => (h.f1 f hf).symm, h.b.symm, h.f2.symm, h.s.symm, h.sf.symm, h.ro.symm, h.win.symm⟩
theorem Agree.trans {t : Tch} {ρ1 ρ2 ρ3 : Env} (h : Agree t ρ1 ρ2) (k : Agree t ρ2 ρ3) : Agree t ρ1 ρ3 := ⟨fun i hi => (k.v i hi).trans (h.v i hi), fun f hf => (k.f1 f hf).trans (h.f1 f hf), k.b.trans h.b, k.f2.trans h.f2, k.s.trans h.s, k.sf.trans h.sf, k.ro.trans h.ro, k.win.trans h.win⟩
theorem tk_two {t : Tch} {ρ : Env} {f m : Nat} (h1 : memN 100 t.vs = true) (h2 : memN 101 t.vs = true) (h3 : ∀ i, f ≤ i → i < f + m → inR t.ts i = true) {a b : Int} {g : Nat → Int → Int} : Agree t ρ (ρ.tk [(100, a), (101, b)] f m g) :=
 tk_agree (fun x hx => by
  rcases List.mem_cons.1 hx with rfl | hx
  ·exact h1
  ·obtain rfl := List.mem_singleton.1 hx
   exact h2) h3
theorem tk_one {t : Tch} {ρ : Env} (h1 : memN 100 t.vs = true) {a : Int} {g : Nat → Int → Int} : Agree t ρ (ρ.tk [(100, a)] 0 0 g) :=
 tk_agree (fun x hx => by
  obtain rfl := List.mem_singleton.1 hx
  exact h1) (fun i hi hj => by omega)
theorem allB {ρ : Env} : SumOk Tryz.prog cxB ρ := sum_flags (c := cxD) allD
theorem code_B {ρ : Env} : CodeOk Tryz.prog cxB ρ (ev cxB 4000).code := (ev_ok mixed_door tt_ok ft_ok allB 4000).1
theorem RoAll.of {ρ : Env} (h : RoAt ρ LStart) : ∀ ρ' : Env, ρ'.ro = ρ.ro → RoAt ρ' LStart := fun ρ' hr => ⟨fun x hx => by
 simp only [LStart, List.mem_singleton] at hx
 subst hx
 obtain ⟨t, fr, h2⟩ := h.is _ (List.mem_singleton.2 rfl)
 exact ⟨t, fr, fun π => by rw [hr, h2 π, asciiL_concs, asciiL_concs]⟩⟩
theorem lpOk {cx : Cx} {ρ : Env} {L : LoopI} {c : Cx} (hc : SumOk Tryz.prog c ρ) (hl : LoopTold Tryz.prog cx ρ L) (e1 : cx.sm = c.sm) (e2 : cx.dm = c.dm) (e3 : cx.ng = c.ng) (e4 : cx.lp = some (lpOf [L])) (e5 : cx.dm = dmH := by rfl) (e6 : cx.ng = 7 := by rfl) : SumOk Tryz.prog cx ρ := by
 have h := sum_flags (c' := { cx with lp := c.lp }) hc e1 e2 e3 rfl
 refine ⟨fun f s hs args st v st' he S π0 w ac n hh ha => h.sum f s hs args st v st' he S π0 w ac n ⟨hh.pc, hh.at_, hh.glob, hh.fresh⟩ ha, fun g s hg => dm_ok e6 g s (by rw [← e5]; exact hg), fun lp hlp => ?_⟩
 rw [e4] at hlp
 obtain rfl := Option.some.inj hlp
 exact lpOf_ok fun L' hL => by obtain rfl := List.mem_singleton.1 hL; exact hl
def orS (s1 s2 : List V → St → R (V × St)) (args : List V) (st : St) : R (V × St) := match s1 args st with
 | .stuck _ => s2 args st
 | r => r
theorem orS_ok {cx : Cx} {ρ : Env} {f : FuncId} {s1 s2 : List V → St → R (V × St)} (h1 : SumAt Tryz.prog cx ρ f s1) (h2 : SumAt Tryz.prog cx ρ f s2) : SumAt Tryz.prog cx ρ f (orS s1 s2) := by
 intro args st v st' he
 unfold orS at he
 split at he
 ·exact h2 args st v st' he
 ·exact h1 args st v st' he
end Go.Proofs.YtennjdjcjjjmiaaGreatDoor
namespace Go.Proofs.YtennjdjcjjjmiaaGreatDoor
open Go Go.Proofs
theorem chain_yes {ρ : Env} {y n : R LL} : ∀ {l : List X}, (∀ x ∈ l, x.tt ρ = true) → (chainL y n l).sel ρ = y.sel ρ
 | [], _ => rfl
 | x :: l, h => by
  show (R.br x (chainL y n l) n).sel ρ = _
  simp only [R.sel, h x (List.mem_cons_self ..), if_true]
  exact chain_yes fun z hz => h z (List.mem_cons_of_mem _ hz)
theorem chain_no {ρ : Env} {y n : R LL} : ∀ {l : List X}, ¬ (∀ x ∈ l, x.tt ρ = true) → (chainL y n l).sel ρ = n.sel ρ
 | [], h => (h fun x hx => by cases hx).elim
 | x :: l, h => by
  show (R.br x (chainL y n l) n).sel ρ = _
  cases hx : x.tt ρ with
  | false => simp only [R.sel, hx, Bool.false_eq_true, if_false]
  | true =>
   simp only [R.sel, hx, if_true]
   refine chain_no fun k => h fun z hz => ?_
   rcases List.mem_cons.1 hz with rfl | hz
   ·exact hx
   ·exact k z hz
theorem cEqs_env {ρ1 ρ : Env} {x y : X} (hf : ρ1.f1 = ρ.f1) (hx : x.den ρ1 = y.den ρ) {t s : Nat} : ∀ {ks : List CK} {c : Nat}, (∀ z ∈ cEqs x t s c ks, z.tt ρ1 = true) ↔ (∀ z ∈ cEqs y t s c ks, z.tt ρ = true)
 | [], _ => ⟨fun _ z hz => by (cases hz), fun _ z hz => by (cases hz)⟩
 | k :: ks, c => by
  have one : ∀ {a b : X} {l m : List X}, a.tt ρ1 = b.tt ρ → ((∀ z ∈ l, z.tt ρ1 = true) ↔ (∀ z ∈ m, z.tt ρ = true)) → ((∀ z ∈ a :: l, z.tt ρ1 = true) ↔ (∀ z ∈ b :: m, z.tt ρ = true)) := fun e h => by
   simp only [List.forall_mem_cons, e, h]
  cases k with
  | int k => exact one (by simp only [X.tt, X.den, hf, hx]) (cEqs_env hf hx)
  | bool => exact one (by simp only [X.tt, X.den, hf, hx]) (cEqs_env hf hx)
def eqAt (ρ : Env) (t s : Nat) (ks : List CK) (j : Int) : Prop := ∀ x ∈ cEqs (.lit j) t s 0 ks, x.tt ρ = true
def eqAll (ρ : Env) (t s : Nat) (ks : List CK) (n : Int) : Prop := ∀ j : Int, 0 ≤ j → j < n → eqAt ρ t s ks j
structure SpecE (ρ : Env) (n t s : Nat) (ks : List CK) (q : Nat) : Prop where
 yes : eqAll ρ t s ks (ρ.v n) → ρ.v q ≠ 0
 no : ¬ eqAll ρ t s ks (ρ.v n) → ρ.v q = 0
section
variable {ρ : Env} {cx : Cx}
def envD (ρ : Env) (k : Int) : Env := ρ.tk [(100, k)] 0 0 fun _ _ => 0
theorem envD_f1 (ρ : Env) (k : Int) : (envD ρ k).f1 = ρ.f1 := by
 funext i
 show (match Nat.ble 0 i with
  | true => match Nat.blt i (0 + 0) with
   | true => (fun _ => 0 : Int → Int)
   | false => ρ.f1 i
  | false => ρ.f1 i) = ρ.f1 i
 have h1 : Nat.ble 0 i = true := Nat.ble_eq_true_of_le (Nat.zero_le _)
 have h2 : Nat.blt i (0 + 0) = false := by
  cases h : Nat.blt i (0 + 0) with
  | false => rfl
  | true => exact absurd (Nat.le_of_ble_eq_true h) (by omega)
 rw [h1, h2]
def tchE : Tch := ⟨[100], []⟩
def mtE : Mt := mtV [(100, .lit 0)] []
theorem Eq_told {n t s q : Nat} {ks : List CK} {L : LoopI} {I : Pat} {O0 O1 : OutP} (hng : cx.ng = 7) (hv : ∀ k, (envD ρ k).v n = ρ.v n) (hn : PcOk ρ L.st.pc → 1 ≤ ρ.v n)
  (hchk : (match (ev cxB 4000).code L.rnd L.body I.fr I.st with | raw => chkTree tchE L.st.n I [O0, O1] raw (fillLL I [O0, O1] raw (eqLL n t s ks))) = true) (hok : loopOk 7 L I [O0, O1] = true) (hent : fit tchE (fillMt I L.fr L.st mtE.v mtE.a) L.st.n I L.fr L.st = true)
  (hres : L.res = .br (.eq (.var q) (.lit 0)) (.ok (O0.ex, O0.pat.fr, ⟨O0.pat.st.h, O0.pat.st.n, L.st.pc⟩)) (.ok (O1.ex, O1.pat.fr, ⟨O1.pat.st.h, O1.pat.st.n, L.st.pc⟩))) (hS : SpecE ρ n t s ks q) : LoopTold Tryz.prog cx ρ L := by
 intro res hr S π0 w a r nn hh
 have hn1 := hn hh.pc
 have ag : ∀ k, Agree tchE ρ (envD ρ k) := fun k => tk_one rfl
 have hlt : ∀ k, (X.lt (.var 100) (.var n)).tt (envD ρ k) = decide (k < ρ.v n) := fun k => lt_tt rfl (hv k)
 have hq : ∀ k, (∀ x ∈ cEqs (.var 100) t s 0 ks, x.tt (envD ρ k) = true) ↔ eqAt ρ t s ks k := fun k => cEqs_env (envD_f1 ρ k) rfl
 have out0 : ∀ k, EnvRel tchE (envD ρ k) ρ (mtV [] []) := fun k => ⟨(ag k).symm, fun i x h => (look_nil h).elim, fun f ks q h => (look_nil h).elim⟩
 refine loop_told2 (cxB := cxB) (t := tchE) (I := I) (outs := [O0, O1]) (ll := eqLL n t s ks) (N := 4000) (ng := 7) mtE (fun ρ1 => ∃ k : Int, 0 ≤ k ∧ k ≤ ρ.v n ∧ eqAll ρ t s ks k ∧ ρ1 = envD ρ k) (fun ρ1 => (ρ.v n + 2 - ρ1.v 100).toNat)
  (fun _ _ => code_B) rfl hng hchk hok hent ⟨envD ρ 0, ⟨ag 0, fun i x h => ?_, fun f ks q h => (look_nil h).elim⟩, 0, by omega, by omega, fun j h1 h2 => by omega, rfl⟩ ?_ res hr S π0 w a r nn hh
 ·obtain ⟨rfl, rfl⟩ := look_one h
  rfl
 ·rintro ρ1 ⟨k, h1, h2, h3, rfl⟩ _
  by_cases c1 : k < ρ.v n
  ·have t1 := (hlt k).trans (decide_eq_true c1)
   by_cases c2 : eqAt ρ t s ks k
   ·refine ⟨.next (mtV [(100, .add (.var 100) (.lit 1))] []), ?_, ?_⟩
    ·show (R.br _ _ _).sel _ = _
     simp only [R.sel, t1, if_true]
     exact (chain_yes ((hq k).2 c2)).trans rfl
    ·dsimp only
     refine ⟨envD ρ (k + 1), ⟨(ag k).symm.trans (ag (k + 1)), fun i x h => ?_, fun f ks q h => (look_nil h).elim⟩, ⟨k + 1, by omega, by omega, fun j g1 g2 => ?_, rfl⟩, ?_⟩
     ·obtain ⟨rfl, rfl⟩ := look_one h
      rfl
     ·rcases Int.lt_or_eq_of_le (Int.lt_add_one_iff.1 g2) with g3 | rfl
      ·exact h3 j g1 g3
      ·exact c2
     ·show (ρ.v n + 2 - (k + 1)).toNat < (ρ.v n + 2 - k).toNat
      omega
   ·have t2 : (X.eq (.var q) (.lit 0)).tt ρ = true := eq2 rfl rfl (hS.no fun h => c2 (h k h1 c1))
    refine ⟨.out 0 (mtV [] []), ?_, out0 k, O0, rfl, ?_⟩
    ·show (R.br _ _ _).sel _ = _
     simp only [R.sel, t1, if_true]
     exact (chain_no fun h => c2 ((hq k).1 h)).trans rfl
    ·rw [hres]
     simp only [R.sel, t2, if_true]
  ·have t1 := (hlt k).trans (decide_eq_false c1)
   have hk : k = ρ.v n := by omega
   have t2 : (X.eq (.var q) (.lit 0)).tt ρ = false := eq2n rfl rfl (hS.yes (hk ▸ h3))
   refine ⟨.out 1 (mtV [] []), ?_, out0 k, O1, rfl, ?_⟩
   ·show (R.br _ _ _).sel _ = _
    simp only [R.sel, t1, Bool.false_eq_true, if_false]
   ·rw [hres]
    simp only [R.sel, t2, Bool.false_eq_true, if_false]
theorem Self_told {n : Nat} {L : LoopI} {I : Pat} {O : OutP} (hng : cx.ng = 7) (hv : ∀ k, (envD ρ k).v n = ρ.v n) (hn : PcOk ρ L.st.pc → 1 ≤ ρ.v n)
  (hchk : (match (ev cxB 4000).code L.rnd L.body I.fr I.st with | raw => chkTree tchE L.st.n I [O] raw (fillLL I [O] raw (selfLL n))) = true) (hok : loopOk 7 L I [O] = true) (hent : fit tchE (fillMt I L.fr L.st mtE.v mtE.a) L.st.n I L.fr L.st = true)
  (hres : L.res = .ok (O.ex, O.pat.fr, ⟨O.pat.st.h, O.pat.st.n, L.st.pc⟩)) : LoopTold Tryz.prog cx ρ L := by
 intro res hr S π0 w a r nn hh
 have hn1 := hn hh.pc
 have ag : ∀ k, Agree tchE ρ (envD ρ k) := fun k => tk_one rfl
 have hlt : ∀ k, (X.lt (.var 100) (.var n)).tt (envD ρ k) = decide (k < ρ.v n) := fun k => lt_tt rfl (hv k)
 refine loop_told2 (cxB := cxB) (t := tchE) (I := I) (outs := [O]) (ll := selfLL n) (N := 4000) (ng := 7) mtE (fun ρ1 => ∃ k : Int, 0 ≤ k ∧ k ≤ ρ.v n ∧ ρ1 = envD ρ k) (fun ρ1 => (ρ.v n + 2 - ρ1.v 100).toNat)
  (fun _ _ => code_B) rfl hng hchk hok hent ⟨envD ρ 0, ⟨ag 0, fun i x h => ?_, fun f ks q h => (look_nil h).elim⟩, 0, by omega, by omega, rfl⟩ ?_ res hr S π0 w a r nn hh
 ·obtain ⟨rfl, rfl⟩ := look_one h
  rfl
 ·rintro ρ1 ⟨k, h1, h2, rfl⟩ _
  by_cases c1 : k < ρ.v n
  ·have t1 := (hlt k).trans (decide_eq_true c1)
   refine ⟨.next (mtV [(100, .add (.var 100) (.lit 1))] []), ?_, ?_⟩
   ·show (R.br _ _ _).sel _ = _
    simp only [R.sel, t1, if_true]
    rfl
   ·dsimp only
    refine ⟨envD ρ (k + 1), ⟨(ag k).symm.trans (ag (k + 1)), fun i x h => ?_, fun f ks q h => (look_nil h).elim⟩, ⟨k + 1, by omega, by omega, rfl⟩, ?_⟩
    ·obtain ⟨rfl, rfl⟩ := look_one h
     rfl
    ·show (ρ.v n + 2 - (k + 1)).toNat < (ρ.v n + 2 - k).toNat
     omega
  ·have t1 := (hlt k).trans (decide_eq_false c1)
   refine ⟨.out 0 (mtV [] []), ?_, ⟨(ag k).symm, fun i x h => (look_nil h).elim, fun f ks q h => (look_nil h).elim⟩, O, rfl, ?_⟩
   ·show (R.br _ _ _).sel _ = _
    simp only [R.sel, t1, Bool.false_eq_true, if_false]
   ·rw [hres]
    rfl
end
theorem nOf {ρ : Env} {pc : PC} {n : Nat} (h : ((.le (.lit 1) (.var n)), true) ∈ pc) (hp : PcOk ρ pc) : 1 ≤ ρ.v n := by
 have h1 := hp _ h
 have h2 : (X.le (.lit 1) (.var n)).tt ρ = decide (1 ≤ ρ.v n) := le_tt rfl rfl
 rw [h2] at h1
 exact of_decide_eq_true h1
section
variable {cx : Cx} {ρ : Env} (hng : cx.ng = 7) (hro : RoAt ρ LStart)
include hng hro in
theorem ED_at {l : List Sub} (hl : ∀ σ ∈ l, SpecE (σ.env ρ) 50 200 300 kD 62) : SumAt Tryz.prog cx ρ 34 (sumSites LStart 7 EDP EDR l) :=
 sumSites_ok (cx0 := cxED) (N := 4000) mixed_door tt_ok ft_ok hng rfl LStart_lt (RoAll.of hro) Tryz.func34 (by rw [evT_call]; exact ED_run) fun σ hσ => lpOk (c := cxB) allB (Eq_told rfl (fun _ => rfl) (nOf (by simp [A1L, A1Pc])) A1_chk A1_ok A1_ent rfl (hl σ hσ)) rfl rfl rfl rfl
include hng hro in
theorem EH_at {l : List Sub} (hl : ∀ σ ∈ l, SpecE (σ.env ρ) 54 400 500 kH 63) : SumAt Tryz.prog cx ρ 35 (sumSites LStart 7 EHP EHR l) :=
 sumSites_ok (cx0 := cxEH) (N := 4000) mixed_door tt_ok ft_ok hng rfl LStart_lt (RoAll.of hro) Tryz.func35 (by rw [evT_call]; exact EH_run) fun σ hσ => lpOk (c := cxB) allB (Eq_told rfl (fun _ => rfl) (nOf (by simp [A2L, A2Pc])) A2_chk A2_ok A2_ent rfl (hl σ hσ)) rfl rfl rfl rfl
include hng hro in
theorem EB_at {l : List Sub} (hl : ∀ σ ∈ l, SpecE (σ.env ρ) 58 600 700 [.int .u8] 64) : SumAt Tryz.prog cx ρ 36 (sumSites LStart 7 EBP EBR l) :=
 sumSites_ok (cx0 := cxEB) (N := 4000) mixed_door tt_ok ft_ok hng rfl LStart_lt (RoAll.of hro) Tryz.func36 (by rw [evT_call]; exact EB_run) fun σ hσ => lpOk (c := cxB) allB (Eq_told rfl (fun _ => rfl) (nOf (by simp [A3L, A3Pc])) A3_chk A3_ok A3_ent rfl (hl σ hσ)) rfl rfl rfl rfl
include hng hro in
theorem DD_at {l : List Sub} (hl : ∀ σ ∈ l, SpecE (σ.env ρ) 50 200 300 kD 62) : SumAt Tryz.prog cx ρ 25 (sumSites LStart 7 DDP DDR l) :=
 sumSites_ok (cx0 := cxDD) (N := 4000) mixed_door tt_ok ft_ok hng rfl LStart_lt (RoAll.of hro) Tryz.func25 (by rw [evT_call]; exact DD_run) fun σ hσ => lpOk (c := cxB) allB (Eq_told rfl (fun _ => rfl) (nOf (by simp [D1L, D1Pc])) D1_chk D1_ok D1_ent rfl (hl σ hσ)) rfl rfl rfl rfl
include hng hro in
theorem DH_at {l : List Sub} (hl : ∀ σ ∈ l, SpecE (σ.env ρ) 54 400 500 kH 63) : SumAt Tryz.prog cx ρ 26 (sumSites LStart 7 DHP DHR l) :=
 sumSites_ok (cx0 := cxDH) (N := 4000) mixed_door tt_ok ft_ok hng rfl LStart_lt (RoAll.of hro) Tryz.func26 (by rw [evT_call]; exact DH_run) fun σ hσ => lpOk (c := cxB) allB (Eq_told rfl (fun _ => rfl) (nOf (by simp [D2L, D2Pc])) D2_chk D2_ok D2_ent rfl (hl σ hσ)) rfl rfl rfl rfl
include hng hro in
theorem SD_at {l : List Sub} : SumAt Tryz.prog cx ρ 34 (sumSites LStart 7 SDP SDR l) :=
 sumSites_ok (cx0 := cxSD) (N := 4000) mixed_door tt_ok ft_ok hng rfl LStart_lt (RoAll.of hro) Tryz.func34 (by rw [evT_call]; exact SD_run) fun σ hσ => lpOk (c := cxB) allB (Self_told rfl (fun _ => rfl) (nOf (by simp [B1L, B1Pc])) B1_chk B1_ok B1_ent rfl) rfl rfl rfl rfl
include hng hro in
theorem SH_at {l : List Sub} : SumAt Tryz.prog cx ρ 35 (sumSites LStart 7 SHP SHR l) :=
 sumSites_ok (cx0 := cxSH) (N := 4000) mixed_door tt_ok ft_ok hng rfl LStart_lt (RoAll.of hro) Tryz.func35 (by rw [evT_call]; exact SH_run) fun σ hσ => lpOk (c := cxB) allB (Self_told rfl (fun _ => rfl) (nOf (by simp [B2L, B2Pc])) B2_chk B2_ok B2_ent rfl) rfl rfl rfl rfl
include hng hro in
theorem SB_at {l : List Sub} : SumAt Tryz.prog cx ρ 36 (sumSites LStart 7 SBP SBR l) :=
 sumSites_ok (cx0 := cxSB) (N := 4000) mixed_door tt_ok ft_ok hng rfl LStart_lt (RoAll.of hro) Tryz.func36 (by rw [evT_call]; exact SB_run) fun σ hσ => lpOk (c := cxB) allB (Self_told rfl (fun _ => rfl) (nOf (by simp [B3L, B3Pc])) B3_chk B3_ok B3_ent rfl) rfl rfl rfl rfl
end
end Go.Proofs.YtennjdjcjjjmiaaGreatDoor
