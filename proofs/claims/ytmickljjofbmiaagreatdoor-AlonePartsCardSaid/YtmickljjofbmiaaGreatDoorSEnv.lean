/- AloneParts: the variables of the law over two runs. No condition. -/
import Derived.Test.YtmickljjofbmiaaGreatDoorSCon
import Derived.Test.YtmickljjofbmiaaGreatDoorAKn
namespace Go.Proofs.YtmickljjofbmiaaGreatDoor
open Go Go.Proofs Go.ChangeShapes Go.WideShapes Go.ChangeAt Go.RowKit
theorem le_at {ρ : Env} {pc : PC} {x y : X} (i : Nat) (hp : av ρ pc) (h : pc[i]? = some (.le x y, true)) : x.den ρ ≤ y.den ρ := by
 have h1 := hp _ (List.mem_of_getElem? h)
 rw [MP] at h1
 exact of_decide_eq_true h1
theorem pcNil {ρ : Env} : av ρ [] := fun f hf => by cases hf
theorem pcCons {ρ : Env} {x : X} {b : Bool} {pc : PC} (h : x.tt ρ = b) (hp : av ρ pc) : av ρ ((x, b) :: pc) := fun f hf => by
 rcases List.mem_cons.1 hf with rfl | hf
 ·exact h
 ·exact hp f hf
theorem pcApp {ρ : Env} {p q : PC} (hp : av ρ p) (hq : av ρ q) : av ρ (p ++ q) := fun f hf => (List.mem_append.1 hf).elim (hp f) (hq f)
theorem tle {ρ : Env} {x y : X} (h : x.den ρ ≤ y.den ρ) : (X.le x y).tt ρ = true := by rw [MP]; exact decide_eq_true h
theorem tlt {ρ : Env} {x y : X} (h : x.den ρ < y.den ρ) : (X.lt x y).tt ρ = true := by rw [A8]; exact decide_eq_true h
noncomputable def tv (P : Prop) : Int := by classical exact if P then 1 else 0
theorem tv_yes {P : Prop} (h : P) : tv P ≠ 0 := by
 unfold tv
 rw [if_pos h]
 decide
theorem tv_no {P : Prop} (h : ¬ P) : tv P = 0 := by
 unfold tv
 rw [if_neg h]
structure LPk where
 W : World
 gc : Int → Int
 nc : Int
 cc : Int
 ac : Addr
 gb : Int → Int
 nb : Int
 cb : Int
 ab : Addr
 few : Int
 most : Int
 N1 : Nat
 N2 : Nat
def LPk.ro (d : LPk) (i : Nat) : Obj := if i = 8 then roW d.W d.ac.block else if i = 9 then roW d.W d.ab.block else roW d.W i
def LPk.par (d : LPk) : Par := ⟨d.ro, d.gc, d.nc, d.nb, 0⟩
def LPk.s0 (d : LPk) : jB := ⟨zD 0, d.gb, false, 0⟩
noncomputable def tabF (p : Par) (s0 : jB) (f : Nat) (n i : Nat) : Int := if f = 1 then (if i < 7 then (acc p (aA p s0 n)).cell i else (yK p (aA p s0 n)).2) else if f = 2 then (if i = 0 then (sL p (aA p s0 n)).1 else if i = 1 then (sL p (aA p s0 n)).2.1 else (sL p (aA p s0 n)).2.2)
 else if i ≤ 34 then (XR p (aA p s0 n) f).1.cell i else (XR p (aA p s0 n) f).2.cell (i - 35)
noncomputable def LPk.env (d : LPk) : Env :=
 {b := fun _ => false
  v := fun i => if 501 ≤ i ∧ i ≤ 534 then (aA d.par d.s0 d.N1).h.cell (i - 500) else if 601 ≤ i ∧ i ≤ 634 then (aA d.par d.s0 d.N2).h.cell (i - 600)
   else if i = 40 then d.nc else if i = 41 then d.cc else if i = 43 then d.few else if i = 44 then d.most else if i = 50 then d.nb else if i = 51 then d.cb else if i = 60 then d.N1 else if i = 80 then d.N2
   else if i = 67 then tv (∃ j, j < d.N1 ∧ aql d.par (aA d.par d.s0 j)) else if i = 540 then a7 (aA d.par d.s0 d.N1).res else if i = 541 then (aA d.par d.s0 d.N1).at_
   else if i = 640 then a7 (aA d.par d.s0 d.N2).res else if i = 641 then (aA d.par d.s0 d.N2).at_ else 0
  f1 := fun i => if 60 ≤ i ∧ i ≤ 73 then si d.par d.s0 d.N1 (i - 60) else if 75 ≤ i ∧ i ≤ 88 then si d.par d.s0 d.N2 (i - 75) else if i = 10 then d.gc else if i = 20 then d.gb else if i = 50 then (aA d.par d.s0 d.N1).m else if i = 55 then (aA d.par d.s0 d.N1).m
   else if i = 52 then (aA d.par d.s0 d.N2).m else fun _ => 0
  f2 := fun f n i => tabF d.par d.s0 f n.toNat i.toNat
  s := fun _ => [], sf := fun _ _ => []
  ro := d.ro
  win := fun i => if i = 8 then d.ac else d.ab }
theorem LPk.tabs (d : LPk) : Dr d.par d.s0 d.env where
 ro := rfl
 size := rfl
 id := rfl
 acc n i h := by
  show tabF _ _ 1 (n : Int).toNat (i : Int).toNat = _
  rw [Int.toNat_natCast, Int.toNat_natCast]
  unfold tabF
  rw [if_pos rfl, if_pos h]
 why n := rfl
 am0 n := rfl
 am1 n := rfl
 am2 n := rfl
 hart b n i h1 h2 h3 := by
  show tabF _ _ b (n : Int).toNat (i : Int).toNat = _
  rw [Int.toNat_natCast, Int.toNat_natCast]
  unfold tabF
  rw [if_neg (by omega), if_neg (by omega), if_pos h3]
 com b n i h1 h2 h3 := by
  show tabF _ _ b (n : Int).toNat (((35 + i : Nat) : Int)).toNat = _
  rw [Int.toNat_natCast, Int.toNat_natCast]
  unfold tabF
  rw [if_neg (by omega), if_neg (by omega), if_neg (by omega), show 35 + i - 35 = i by omega]
structure LPk.Good (d : LPk) : Prop where
 len1 : 1 ≤ d.nc
 size : 16 ≤ d.nb ∧ d.nb ≤ 4096
structure Ends (p : Par) (s0 : jB) (M : Int) (N : Nat) : Prop where
 n1 : 1 ≤ N
 most : (N : Int) ≤ M
 go : ∀ j, j < N → (aA p s0 j).h.cause = 0
 stop : (N : Int) = M ∨ (aA p s0 N).h.cause ≠ 0
theorem ends_ex {p : Par} {s0 : jB} (h0 : (aA p s0 0).h.cause = 0) (m : Nat) : ∃ N, Ends p s0 ((m : Int) + 1) N := by
 induction m with
 | zero =>
  refine ⟨1, Nat.le_refl _, by omega, fun j hj => ?_, .inl (by omega)⟩
  obtain rfl : j = 0 := by omega
  exact h0
 | succ m ih =>
  obtain ⟨N, h1, h2, h3, h4⟩ := ih
  by_cases hc : (aA p s0 N).h.cause = 0
  ·have e : N = m + 1 := by
    rcases h4 with h4 | h4
    ·omega
    ·exact absurd hc h4
   refine ⟨N + 1, by omega, by omega, fun j hj => ?_, .inl (by omega)⟩
   rcases Nat.lt_or_ge j N with h | h
   ·exact h3 j h
   ·obtain rfl : j = N := by omega
    exact hc
  ·exact ⟨N, h1, by omega, h3, .inr hc⟩
theorem ends_of {p : Par} {s0 : jB} (h0 : (aA p s0 0).h.cause = 0) (most : Int) : ∃ N : Nat, 1 ≤ most → Ends p s0 most N := by
 by_cases h : 1 ≤ most
 ·obtain ⟨N, hN⟩ := ends_ex h0 (most.toNat - 1)
  refine ⟨N, fun _ => ?_⟩
  have e : ((most.toNat - 1 : Nat) : Int) + 1 = most := by omega
  rwa [e] at hN
 ·exact ⟨0, fun h' => absurd h' h⟩
theorem ends_le {p : Par} {s0 : jB} {M1 M2 : Int} {N1 N2 : Nat} (h1 : Ends p s0 M1 N1) (h2 : Ends p s0 M2 N2) (h : M1 ≤ M2) : N1 ≤ N2 := by
 rcases Nat.lt_or_ge N2 N1 with q | q
 ·rcases h2.stop with e | e
  ·have := h1.most
   omega
  ·exact absurd (h1.go N2 q) e
 ·exact q
section
variable {d : LPk}
theorem LPk.runOk (g : d.Good) : FK d.par d.s0 d.env := ⟨d.tabs, rfl, rfl, rfl, rfl, rfl, rfl, ⟨show (0 : Int) ≤ 0 by decide, show (0 : Int) ≤ 3 by decide⟩, g.len1, g.size⟩
theorem LPk.cell (i : Nat) (h1 : 1 ≤ i) (h2 : i ≤ 34) : d.env.v (500 + i) = (aA d.par d.s0 d.N1).h.cell i := by
 show (if 501 ≤ 500 + i ∧ 500 + i ≤ 534 then _ else _) = _
 rw [if_pos (by omega), show 500 + i - 500 = i by omega]
theorem LPk.cell2 (i : Nat) (h1 : 1 ≤ i) (h2 : i ≤ 34) : d.env.v (600 + i) = (aA d.par d.s0 d.N2).h.cell i := by
 show (if 501 ≤ 600 + i ∧ 600 + i ≤ 534 then _ else _) = _
 rw [if_neg (by omega), if_pos (by omega), show 600 + i - 600 = i by omega]
theorem LPk.abM (c : Nat) (hc : c < 14) : d.env.f1 (60 + c) = si d.par d.s0 d.N1 c := by
 show (if 60 ≤ 60 + c ∧ 60 + c ≤ 73 then _ else _) = _
 rw [if_pos (by omega), show 60 + c - 60 = c by omega]
theorem LPk.row2 (c : Nat) (hc : c < 14) : d.env.f1 (75 + c) = si d.par d.s0 d.N2 c := by
 show (if 60 ≤ 75 + c ∧ 75 + c ≤ 73 then _ else _) = _
 rw [if_neg (by omega), if_pos (by omega), show 75 + c - 75 = c by omega]
theorem LPk.specM (h : Ends d.par d.s0 d.few d.N1) : SpecM d.par d.s0 d.env d.N1 where
 n1 := h.n1
 most := h.most
 go := h.go
 stop := h.stop
 n := rfl
 hart := d.cell
 res := rfl
 at_ := rfl
 mem := rfl
 row := d.abM
def s2 : Sub := { v := (43, .var 44) :: (60, .var 80) :: (540, .var 640) :: (541, .var 641) :: hvL 500 (fun i => .var (600 + i)) 1 34, n := 0, b := [], s := [], f := [(60, 14, 75), (50, 1, 52)] }
theorem look_hv {o : Nat} {g : Nat → X} : ∀ {n j q : Nat}, j ≤ q → q < j + n → look (hvL o g j n) (o + q) = some (g q)
 | 0, j, q, h1, h2 => by omega
 | n + 1, j, q, h1, h2 => by
  show (match Nat.beq (o + j) (o + q) with
   | true => some (g j)
   | false => look (hvL o g (j + 1) n) (o + q)) = _
  by_cases e : j = q
  ·subst e
   rw [show Nat.beq (o + j) (o + j) = true from Nat.beq_refl _]
  ·have hb : Nat.beq (o + j) (o + q) = false := by
    cases hb : Nat.beq (o + j) (o + q) with
    | true => have := Nat.eq_of_beq_eq_true hb; omega
    | false => rfl
   rw [hb]
   exact look_hv (by omega) (by omega)
theorem s2_cell {ρ : Env} (i : Nat) (h1 : 1 ≤ i) (h2 : i ≤ 34) : (s2.env ρ).v (500 + i) = ρ.v (600 + i) := by
 have nb : ∀ k, k < 500 ∨ 534 < k → Nat.beq k (500 + i) = false := fun k hk => by
  cases hb : Nat.beq k (500 + i) with
  | true => have := Nat.eq_of_beq_eq_true hb; omega
  | false => rfl
 have e : look s2.v (500 + i) = some (.var (600 + i)) := by
  show (match Nat.beq 43 (500 + i) with
   | true => some (X.var 44)
   | false => match Nat.beq 60 (500 + i) with
    | true => some (X.var 80)
    | false => match Nat.beq 540 (500 + i) with
     | true => some (X.var 640)
     | false => match Nat.beq 541 (500 + i) with
      | true => some (X.var 641)
      | false => look (hvL 500 (fun i => X.var (600 + i)) 1 34) (500 + i)) = _
  rw [nb 43 (by omega), nb 60 (by omega), nb 540 (by omega), nb 541 (by omega)]
  exact look_hv h1 (by omega)
 show (match look s2.v (500 + i) with
  | some x => x.den ρ
  | none => ρ.v (500 + i)) = _
 rw [e]
 rfl
theorem LPk.tabs2 (d : LPk) : Dr d.par d.s0 (s2.env d.env) := ⟨d.tabs.ro, d.tabs.size, d.tabs.id, d.tabs.acc, d.tabs.why, d.tabs.am0, d.tabs.am1, d.tabs.am2, d.tabs.hart, d.tabs.com⟩
theorem LPk.run2 (g : d.Good) : FK d.par d.s0 (s2.env d.env) := ⟨d.tabs2, rfl, rfl, rfl, rfl, rfl, rfl, ⟨show (0 : Int) ≤ 0 by decide, show (0 : Int) ≤ 3 by decide⟩, g.len1, g.size⟩
theorem LPk.age (h : Ends d.par d.s0 d.most d.N2) : SpecM d.par d.s0 (s2.env d.env) d.N2 where
 n1 := h.n1
 most := h.most
 go := h.go
 stop := h.stop
 n := rfl
 hart i h1 h2 := (s2_cell i h1 h2).trans (d.cell2 i h1 h2)
 res := rfl
 at_ := rfl
 mem := rfl
 row c hc := by
  have e : (s2.env d.env).f1 (60 + c) = d.env.f1 (75 + c) := by
   match c, hc with
   | 0, _ | 1, _ | 2, _ | 3, _ | 4, _ | 5, _ | 6, _ | 7, _ | 8, _ | 9, _ | 10, _ | 11, _ | 12, _ | 13, _ => rfl
  rw [e, d.row2 c hc]
theorem LPk.r7 (g : d.Good) (h1 : Ends d.par d.s0 d.few d.N1) (h2 : Ends d.par d.s0 d.most d.N2) (h : d.few ≤ d.most) : PutsOk d.par d.s0 d.env d.N1 d.N2 where
 ro := rfl
 size := rfl
 sz := g.size
 am2 := d.tabs.am2
 n := rfl
 n1 := h1.n1
 le := ends_le h1 h2 h
 go := h2.go
 row := d.row2
 bytes := rfl
 mem := rfl
 start := ⟨Pg ⟨show (0 : Int) ≤ 0 by decide, show (0 : Int) ≤ 3 by decide⟩, rfl, show (0 : Int) ≤ 0 by decide, show (0 : Int) ≤ 4294967295 by decide⟩
theorem LPk.weak (h : d.N1 ≤ d.N2) : K3 d.env [(.base 60, NA, .var 60, 75)] := by
 intro x hx j c k hj hk
 obtain rfl := List.mem_singleton.1 hx
 have hc := vK hk
 have hj : j < d.N1 := by
  have hj : j < (d.N1 : Int).toNat := hj
  omega
 have e : d.env.f1 (60 + c) j = d.env.f1 (75 + c) j := by
  rw [d.abM c hc, d.row2 c hc]
  unfold si
  rw [if_pos (by omega), if_pos (by omega)]
 show k.val (k.sym d.env 60 c j) = k.val (k.sym d.env 75 c j)
 cases k <;> simp only [CK.sym, e]
variable (hro : RoAt d.env aj) (hW : ∀ x ∈ aj, d.W.heap[x.1]? = some (d.env.ro x.1)) (he1 : 1 ≤ d.few → Ends d.par d.s0 d.few d.N1) (he2 : 1 ≤ d.most → Ends d.par d.s0 d.most d.N2)
include hro hW
include he1 in
theorem LPk.ar_told {cx : Cx} (hng : cx.ng = 7) : oc Tryz.prog cx d.env BD := by
 by_cases hp : av d.env Xg
 ·have g : d.Good := ⟨le_at (x := .lit 1) (y := .var 40) 0 hp rfl, ⟨le_at (x := .lit 16) (y := .var 50) 3 hp rfl, le_at (x := .var 50) (y := .lit 4096) 4 hp rfl⟩⟩
  exact alG (p := d.par) (bx.of hro) hW (LPk.runOk g) hng (LPk.specM (he1 (le_at (x := .lit 1) (y := .var 43) 7 hp rfl)))
 ·intro res hr S π0 w a r nn hh
  exact absurd hh.pc hp
include he2 in
theorem LPk.br_told {cx : Cx} (hng : cx.ng = 7) : oc Tryz.prog cx (s2.env d.env) BRL := by
 by_cases hp : av (s2.env d.env) BRPc
 ·have g : d.Good := ⟨le_at (x := .lit 1) (y := .var 40) 0 hp rfl, ⟨le_at (x := .lit 16) (y := .var 50) 3 hp rfl, le_at (x := .var 50) (y := .lit 4096) 4 hp rfl⟩⟩
  exact BR_told (p := d.par) (bx.of hro) hW (LPk.run2 g) hng (LPk.age (he2 (le_at (x := .lit 1) (y := .var 43) 7 hp rfl)))
 ·intro res hr S π0 w a r nn hh
  exact absurd hh.pc hp
include he1 he2 in
theorem LPk.pp_told {cx : Cx} (hng : cx.ng = 7) {z k : Nat} (hz : z = 1 ∨ z = 2) (hst : okPP z k = true) : oc Tryz.prog cx d.env (PPL z k) := by
 by_cases hp : av d.env (ppPc z k)
 ·have hq : av d.env (pcOf 2 3 5 z) := fun f hf => hp f (List.mem_append_right _ hf)
  have hc : av d.env (cA 2).2 := fun f hf => hq f (List.mem_append_left _ hf)
  have hb : av d.env (bA 3).2 := fun f hf => hq f (List.mem_append_right _ (List.mem_append_left _ hf))
  have hx : av d.env (xsS 5) := fun f hf => hq f (List.mem_append_right _ (List.mem_append_right _ (List.mem_append_left _ hf)))
  have hzz : av d.env (zS z) := fun f hf => hq f (List.mem_append_right _ (List.mem_append_right _ (List.mem_append_right _ (List.mem_append_left _ hf))))
  have g : d.Good := ⟨le_at (x := .lit 1) (y := .var 40) 0 hc rfl, ⟨le_at (x := .lit 16) (y := .var 50) 0 hb rfl, le_at (x := .var 50) (y := .lit 4096) 1 hb rfl⟩⟩
  have e1 := he1 (le_at (x := .lit 1) (y := .var 43) 0 hx rfl)
  have e2 := he2 (le_at (x := .lit 1) (y := .var 44) 2 hx rfl)
  have B := LPk.r7 g e1 e2 (le_at (x := .var 43) (y := .var 44) 1 hx rfl)
  refine PP_told (p := d.par) (bx.of hro) hW B hng hz hst (fun h => ?_) (fun h => ?_)
  ·subst h
   have h0 := hzz _ (List.mem_cons_self ..)
   rw [dR] at h0
   have h0 : tv (∃ j, j < d.N1 ∧ aql d.par (aA d.par d.s0 j)) = 0 := beq_iff_eq.1 h0
   exact fun i hi hput => tv_yes ⟨i, hi, hput⟩ h0
  ·subst h
   have h0 := hzz _ (List.mem_cons_self ..)
   rw [dR] at h0
   have h0 : tv (∃ j, j < d.N1 ∧ aql d.par (aA d.par d.s0 j)) ≠ 0 := beq_eq_false_iff_ne.1 h0
   exact Classical.byContradiction fun hn => h0 (tv_no hn)
 ·intro res hr S π0 w a r nn hh
  exact absurd hh.pc hp
end
end Go.Proofs.YtmickljjofbmiaaGreatDoor
