/- AloneParts: of any code, any bytes, any two numbers of steps the law answers true, and nothing that was there is turned. No condition. -/
import Derived.Test.YtmickljjofbmiaaGreatDoorSLaw
namespace Go.Proofs.YtmickljjofbmiaaGreatDoor
open Go Go.Proofs Go.ChangeShapes Go.WideShapes Go.ChangeAt Go.RowKit
def CIn (W : World) (v : Value) (g : Nat → Int → Int) (n c : Int) (a : Addr) : Nat → Prop
 | 0 => v = .slice none 0 0
 | 1 => v = .slice (some a) 0 c.toNat ∧ 0 ≤ c
 | 2 => v = .slice (some a) n.toNat c.toNat ∧ 1 ≤ n ∧ n ≤ 200 ∧ n ≤ c ∧ yF W [.int .u32] a n.toNat g
 | _ => v = .slice (some a) n.toNat c.toNat ∧ 200 < n ∧ n ≤ c ∧ yF W [.int .u32] a n.toNat g
def BIn (W : World) (v : Value) (g : Nat → Int → Int) (n c : Int) (a : Addr) : Nat → Prop
 | 0 => v = .slice none 0 0
 | 1 => v = .slice (some a) 0 c.toNat ∧ 0 ≤ c
 | 2 => v = .slice (some a) n.toNat c.toNat ∧ 1 ≤ n ∧ n < 16 ∧ n ≤ c ∧ yF W [.int .u8] a n.toNat g
 | 3 => v = .slice (some a) n.toNat c.toNat ∧ 16 ≤ n ∧ n ≤ 4096 ∧ n ≤ c ∧ yF W [.int .u8] a n.toNat g
 | _ => v = .slice (some a) n.toNat c.toNat ∧ 4096 < n ∧ n ≤ c ∧ yF W [.int .u8] a n.toNat g
def XIn (few most : Int) : Nat → Prop
 | 0 => 300 < most
 | 1 => most ≤ 300 ∧ few < 0
 | 2 => most ≤ 300 ∧ 0 ≤ few ∧ most < few
 | 3 => few ≤ 0 ∧ 0 ≤ few ∧ most ≤ 0 ∧ 0 ≤ most
 | 4 => few ≤ 0 ∧ 0 ≤ few ∧ 1 ≤ most ∧ most ≤ 300
 | _ => 1 ≤ few ∧ few ≤ most ∧ 1 ≤ most ∧ most ≤ 300 ∧ few ≤ 300
theorem xIn_of (few most : Int) : ∃ k, k < 6 ∧ XIn few most k := by
 by_cases h : 300 < most
 ·exact ⟨0, by decide, h⟩
 by_cases h1 : few < 0
 ·exact ⟨1, by decide, by omega, h1⟩
 by_cases h2 : most < few
 ·exact ⟨2, by decide, by omega, by omega, h2⟩
 by_cases h3 : 1 ≤ few
 ·exact ⟨5, by decide, h3, by omega, by omega, by omega, by omega⟩
 by_cases h4 : 1 ≤ most
 ·exact ⟨4, by decide, by omega, by omega, h4, by omega⟩
 ·exact ⟨3, by decide, by omega, by omega, by omega, by omega⟩
section
variable {H : Type} {enc : TypeId × Value → H} {W : World} {v : Value} {d0 : DataW H} {p : List MemPlace} {base b0 : Nat} {sp : Nat → Bool} {held : Bool} {r : Reach}
set_option maxRecDepth 100000 in
theorem cIn_of (hval : Value.okWide Tryz.prog W r b0 25 v) (h0 : DataW.Trod enc Tryz.prog W base sp held 25 v d0 p) : ∃ g n c a i, i < 4 ∧ CIn W v g n c a i := by
 obtain ⟨ad, ln, cp, rfl⟩ := okWide_slice Tryz.underlying25 hval
 obtain ⟨fuel, hf⟩ := h0
 rcases open_row (n := 3) (ks := [.int .u32]) Tryz.underlying25 (by kernel_rfl) (by kernel_rfl) hf with hcs | ⟨a, len, cap, zs, hcs, _, hle, _, hz⟩
 ·simp [Value.cells] at hcs
  obtain ⟨rfl, rfl, rfl⟩ := hcs
  exact ⟨fun _ _ => 0, 0, 0, ⟨0, 0, none⟩, 0, by decide, rfl⟩
 ·simp [Value.cells] at hcs
  obtain ⟨rfl, rfl, rfl⟩ := hcs
  by_cases hl0 : ln = 0
  ·subst hl0
   exact ⟨fun _ _ => 0, 0, cp, a, 1, by decide, rfl, by omega⟩
  ·have hc := ad2 (by omega) (by decide) hz
   by_cases hbig : 200 < (ln : Int)
   ·exact ⟨_, ln, cp, a, 3, by decide, rfl, hbig, by omega, hc⟩
   ·exact ⟨_, ln, cp, a, 2, by decide, rfl, by omega, by omega, by omega, hc⟩
set_option maxRecDepth 100000 in
theorem bIn_of (hval : Value.okWide Tryz.prog W r b0 22 v) (h0 : DataW.Trod enc Tryz.prog W base sp held 22 v d0 p) : ∃ g n c a i, i < 5 ∧ BIn W v g n c a i := by
 obtain ⟨ad, ln, cp, rfl⟩ := okWide_slice Tryz.underlying22 hval
 obtain ⟨fuel, hf⟩ := h0
 rcases open_row (n := 3) (ks := [.int .u8]) Tryz.underlying22 (by kernel_rfl) (by kernel_rfl) hf with hcs | ⟨a, len, cap, zs, hcs, _, hle, _, hz⟩
 ·simp [Value.cells] at hcs
  obtain ⟨rfl, rfl, rfl⟩ := hcs
  exact ⟨fun _ _ => 0, 0, 0, ⟨0, 0, none⟩, 0, by decide, rfl⟩
 ·simp [Value.cells] at hcs
  obtain ⟨rfl, rfl, rfl⟩ := hcs
  by_cases hl0 : ln = 0
  ·subst hl0
   exact ⟨fun _ _ => 0, 0, cp, a, 1, by decide, rfl, by omega⟩
  ·have hc := ad2 (by omega) (by decide) hz
   by_cases hbig : 4096 < (ln : Int)
   ·exact ⟨_, ln, cp, a, 4, by decide, rfl, hbig, by omega, hc⟩
   ·by_cases hs : (ln : Int) < 16
    ·exact ⟨_, ln, cp, a, 2, by decide, rfl, by omega, hs, by omega, hc⟩
    ·exact ⟨_, ln, cp, a, 3, by decide, rfl, by omega, by omega, by omega, hc⟩
set_option maxRecDepth 100000 in
theorem parts_of (hval : Value.okWide Tryz.prog W r b0 56 v) (h0 : DataW.Trod enc Tryz.prog W base sp held 56 v d0 p) : ∃ a b, v = .agg #[.int .i64 a, .int .i64 b] := by
 obtain ⟨cs, rfl, hk⟩ := ad6 (n := 3) (ks := [.int .i64, .int .i64]) Tryz.underlying56 (by kernel_rfl) hval h0
 rcases cs with _ | ⟨x, _ | ⟨y, _ | ⟨z, l⟩⟩⟩
 ·exact False.elim hk
 ·exact False.elim hk.2
 ·obtain ⟨hx, hy, _⟩ := hk
  obtain ⟨a, rfl, _⟩ := hx
  obtain ⟨b, rfl, _⟩ := hy
  exact ⟨a, b, rfl⟩
 ·exact False.elim hk.2.2
end
section
variable {d : LPk} {v : Value}
theorem cPc {g : Nat → Int → Int} : ∀ {i : Nat}, CIn d.W v g d.nc d.cc d.ac i → av d.env (cA i).2
 | 0, _ => pcNil
 | 1, h => pcCons (tle h.2) pcNil
 | 2, h => pcCons (tle h.2.1) (pcCons (tle h.2.2.1) (pcCons (tle h.2.2.2.1) pcNil))
 | _ + 3, h => pcCons (tlt h.2.1) (pcCons (tle h.2.2.1) pcNil)
theorem bPc {g : Nat → Int → Int} : ∀ {i : Nat}, BIn d.W v g d.nb d.cb d.ab i → av d.env (bA i).2
 | 0, _ => pcNil
 | 1, h => pcCons (tle h.2) pcNil
 | 2, h => pcCons (tle h.2.1) (pcCons (tlt h.2.2.1) (pcCons (tle h.2.2.2.1) pcNil))
 | 3, h => pcCons (tle h.2.1) (pcCons (tle h.2.2.1) (pcCons (tle h.2.2.2.1) pcNil))
 | _ + 4, h => pcCons (tlt h.2.1) (pcCons (tle h.2.2.1) pcNil)
theorem btext_eq {t u : Nat} (h : d.env.f1 t = d.env.f1 u) : (X.seq (.btext t (.lit 0) (.var 50)) (.btext u (.lit 0) (.var 50))).tt d.env = true := by
 rw [X.tt, X.den, dd]
 refine beq_iff_eq.2 ?_
 show uF d.env t _ _ = uF d.env u _ _
 unfold uF
 rw [h]
theorem xPc : ∀ {k : Nat}, XIn d.few d.most k → av d.env (xsS k)
 | 0, h => pcCons (tlt h) pcNil
 | 1, h => pcCons (tle h.1) (pcCons (tlt h.2) pcNil)
 | 2, h => pcCons (tle h.1) (pcCons (tle h.2.1) (pcCons (tlt h.2.2) pcNil))
 | 3, h => pcCons (tle h.1) (pcCons (tle h.2.1) (pcCons (tle h.2.2.1) (pcCons (tle h.2.2.2) pcNil)))
 | 4, h => pcCons (tle h.1) (pcCons (tle h.2.1) (pcCons (tle h.2.2.1) (pcCons (tle h.2.2.2) pcNil)))
 | _ + 5, h => pcCons (tle h.1) (pcCons (tle h.2.1) (pcCons (tle h.2.2.1) (pcCons (tle h.2.2.2.1) (pcCons (tle h.2.2.2.2) pcNil))))
theorem zPc (he1 : 1 ≤ d.few → Ends d.par d.s0 d.few d.N1) (he2 : 1 ≤ d.most → Ends d.par d.s0 d.most d.N2) {i j k : Nat} (hk : k < 6) (hx : XIn d.few d.most k) : ∃ z, zOk i j k z ∧ av d.env (zS z) := by
 unfold zOk
 cases hc : Nat.beq i 2 && Nat.beq j 3 with
 | false => exact ⟨0, rfl, pcNil⟩
 | true =>
  match k, hk, hx with
  | 0, _, _ => exact ⟨0, rfl, pcNil⟩
  | 1, _, _ => exact ⟨0, rfl, pcNil⟩
  | 2, _, _ => exact ⟨0, rfl, pcNil⟩
  | 3, _, _ => exact ⟨0, rfl, pcNil⟩
  | 4, _, hx =>
   have e := he2 hx.2.2.1
   have h1 : (1 : Int) ≤ (d.N2 : Int) := by have := e.n1; omega
   have h2 : (d.N2 : Int) ≤ 300 := by have := e.most; have := hx.2.2.2; omega
   exact ⟨3, rfl, pcCons (tle h1) (pcCons (tle h2) pcNil)⟩
  | 5, _, hx =>
   obtain ⟨x1, x2, x3, x4, x5⟩ := hx
   have e1 := he1 x1
   have e2 := he2 x3
   have hle := ends_le e1 e2 x2
   have n1 := e1.n1
   have m1 := e1.most
   have m2 := e2.most
   have fin : av d.env [le (.lit 1) (.var 60), le (.var 60) (.var 43), le (.var 60) (.var 80), le (.var 60) (.lit 300), le (.var 80) (.lit 300)] :=
    pcCons (tle (show (1 : Int) ≤ (d.N1 : Int) by omega)) (pcCons (tle (show (d.N1 : Int) ≤ d.few by omega)) (pcCons (tle (show (d.N1 : Int) ≤ (d.N2 : Int) by omega)) (pcCons (tle (show (d.N1 : Int) ≤ 300 by omega)) (pcCons (tle (show (d.N2 : Int) ≤ 300 by omega)) pcNil))))
   by_cases hp : ∃ j, j < d.N1 ∧ aql d.par (aA d.par d.s0 j)
   ·refine ⟨2, .inr rfl, pcCons (by rw [dR]; exact beq_eq_false_iff_ne.2 (tv_yes hp)) (pcCons ?_ fin)⟩
    exact btext_eq rfl
   ·refine ⟨1, .inl rfl, pcCons (by rw [dR]; exact beq_iff_eq.2 (tv_no hp)) (pcCons ?_ fin)⟩
    exact btext_eq (seq_noS d.N1 fun i hi hput => hp ⟨i, hi, hput⟩)
end
theorem roAll_run {W : World} (h : laidMetH Tryz.prog Rows.alonePartsRow.laid W) {ρ : Env} (h0 : ρ.ro 0 = roW W 0) : RoAt ρ aj ∧ ∀ x ∈ aj, W.heap[x.1]? = some (ρ.ro x.1) := by
 obtain ⟨t, fr, h1⟩ := Yt h
 have e : ρ.ro 0 = .cells ((rF 256).map (.int .u8)).toArray t fr := by rw [h0]; simp only [roW, h1, Option.getD_some]
 refine ⟨⟨fun x hx => ?_⟩, fun x hx => ?_⟩ <;> (simp only [aj, List.mem_singleton] at hx; subst hx)
 ·exact ⟨t, fr, fun π => by rw [e, sM]⟩
 ·rw [e]; exact h1
theorem add_none (a : Addr) : a.add 0 = a := by simp [Addr.add]
set_option maxRecDepth 100000 in
theorem parts_walk {H : Type} {enc : TypeId × Value → H} {W : World} (h : laidMetH Tryz.prog Rows.alonePartsRow.laid W) {v0 v1 v2 : Value} {d0 d1 d2 : DataW H} {p0 p1 p2 : List MemPlace} {b0 b1 b2 : Nat}
  (hv0 : Value.okWide Tryz.prog W .any b0 25 v0) (hv1 : Value.okWide Tryz.prog W .any b1 22 v1) (hv2 : Value.okWide Tryz.prog W .any b2 56 v2)
  (h0 : DataW.Trod enc Tryz.prog W 0 (fun _ => true) true 25 v0 d0 p0) (h1 : DataW.Trod enc Tryz.prog W 0 (fun _ => true) true 22 v1 d1 p1) (h2 : DataW.Trod enc Tryz.prog W 0 (fun _ => true) true 56 v2 d2 p2) :
  Calls Tryz.prog 7 #[v0, v1, v2] W fun e W' => e = .returned (.bool true) ∧ Below W.heap.size W W' := by
 obtain ⟨gc, nc, cc, ac, i, hi, hC⟩ := cIn_of hv0 h0
 obtain ⟨gb, nb, cb, ab, j, hj, hB⟩ := bIn_of hv1 h1
 obtain ⟨few, most, rfl⟩ := parts_of hv2 h2
 obtain ⟨k, hk, hX⟩ := xIn_of few most
 let d0 : LPk := ⟨W, gc 0, nc, cc, ac, gb 0, nb, cb, ab, few, most, 0, 0⟩
 obtain ⟨N1, hN1⟩ := ends_of (p := d0.par) (s0 := d0.s0) rfl few
 obtain ⟨N2, hN2⟩ := ends_of (p := d0.par) (s0 := d0.s0) rfl most
 let d : LPk := ⟨W, gc 0, nc, cc, ac, gb 0, nb, cb, ab, few, most, N1, N2⟩
 have hC' : CIn d.W v0 gc d.nc d.cc d.ac i := hC
 have hB' : BIn d.W v1 gb d.nb d.cb d.ab j := hB
 have hX' : XIn d.few d.most k := hX
 have he1 : 1 ≤ d.few → Ends d.par d.s0 d.few d.N1 := hN1
 have he2 : 1 ≤ d.most → Ends d.par d.s0 d.most d.N2 := hN2
 obtain ⟨hro, hW⟩ := roAll_run h (ρ := d.env) rfl
 obtain ⟨z, hz, hzp⟩ := zPc (i := i) (j := j) he1 he2 hk hX'
 have hc : 2 ≤ i → yF W [.int .u32] ac nc.toNat gc := by
  intro h2
  match i, hi, h2, hC with
  | 2, _, _, hC => exact hC.2.2.2.2
  | 3, _, _, hC => exact hC.2.2.2
 have hb : 2 ≤ j → yF W [.int .u8] ab nb.toNat gb := by
  intro h2
  match j, hj, h2, hB with
  | 2, _, _, hB => exact hB.2.2.2.2
  | 3, _, _, hB => exact hB.2.2.2.2
  | 4, _, _, hB => exact hB.2.2.2
 have hmem : ∀ x ∈ wsOf i j, (x = (8, .warr 8 10 [.int .u32] (.var 40)) ∧ 2 ≤ i) ∨ (x = (9, .warr 9 20 [.int .u8] (.var 50)) ∧ 2 ≤ j) := by
  intro x hx
  unfold wsOf at hx
  rcases List.mem_append.1 hx with hx | hx
  ·split at hx
   ·rename_i hc
    exact .inl ⟨List.mem_singleton.1 hx, Nat.le_of_ble_eq_true hc⟩
   ·cases hx
  ·split at hx
   ·rename_i hc
    exact .inr ⟨List.mem_singleton.1 hx, Nat.le_of_ble_eq_true hc⟩
   ·cases hx
 have hrows : RowsAt d.env W (wsOf i j) 7 10 := by
  refine ⟨fun x hx => ?_, by decide, fun x hx => ?_, fun x hx => ?_, fun x hx π hπ => ?_⟩ <;> rcases hmem x hx with ⟨rfl, h2⟩ | ⟨rfl, h2⟩
  ·decide
  ·decide
  ·exact (hc h2).block
  ·exact (hb h2).block
  ·rfl
  ·rfl
  ·exact (hc h2).is (t := 10) rfl rfl (fun c hc => by
    match c, hc with
    | 0, _ => rfl) (Nat.le_refl _) hπ
  ·exact (hb h2).is (t := 20) rfl rfl (fun c hc => by
    match c, hc with
    | 0, _ => rfl) (Nat.le_refl _) hπ
 have hpc : av d.env (pcOf i j k z) := pcApp (cPc hC') (pcApp (bPc hB') (pcApp (xPc hX') (pcApp hzp (pcCons (tle (show (0 : Int) ≤ 0 by decide)) (pcCons (tle (show (0 : Int) ≤ 3 by decide)) (pcCons rfl pcNil))))))
 have ha : bK d.env (fun i => i < 10) (πRows d.env 7) [(cA i).1, (bA j).1, .agg [i64 (.var 43), i64 (.var 44)]] [v0, v1, .agg #[.int .i64 few, .int .i64 most]] := by
  have e0 : ∀ π, (cA i).1.ae d.env π = v0 := by
   intro π
   match i, hi, hC with
   | 0, _, hC => exact hC.symm
   | 1, _, hC => exact (congrArg (fun a => Value.slice (some a) 0 cc.toNat) (add_none ac)).trans hC.1.symm
   | 2, _, hC => exact (congrArg (fun a => Value.slice (some a) nc.toNat cc.toNat) (add_none ac)).trans hC.1.symm
   | 3, _, hC => exact (congrArg (fun a => Value.slice (some a) nc.toNat cc.toNat) (add_none ac)).trans hC.1.symm
  have e1 : ∀ π, (bA j).1.ae d.env π = v1 := by
   intro π
   match j, hj, hB with
   | 0, _, hB => exact hB.symm
   | 1, _, hB => exact (congrArg (fun a => Value.slice (some a) 0 cb.toNat) (add_none ab)).trans hB.1.symm
   | 2, _, hB => exact (congrArg (fun a => Value.slice (some a) nb.toNat cb.toNat) (add_none ab)).trans hB.1.symm
   | 3, _, hB => exact (congrArg (fun a => Value.slice (some a) nb.toNat cb.toNat) (add_none ab)).trans hB.1.symm
   | 4, _, hB => exact (congrArg (fun a => Value.slice (some a) nb.toNat cb.toNat) (add_none ab)).trans hB.1.symm
  intro π _
  show [(cA i).1.ae d.env π, (bA j).1.ae d.env π, .agg #[.int .i64 few, .int .i64 most]] = _
  rw [e0, e1]
 have hr : cV Tryz.prog cxP0 d.env 10 runS := by
  have h1 : cV Tryz.prog cxP0 d.env 10 (uK gdS (weakS2 [(.base 60, NA, .var 60, 75)] (uL aj 7 ARP ARR [sb0]))) := Ui fun hg => weakS2_ok (LPk.weak (ends_le (he1 (le_at (x := .lit 1) (y := .var 43) 0 hg rfl)) (he2 (le_at (x := .lit 1) (y := .var 44) 2 hg rfl)) (le_at (x := .var 43) (y := .var 44) 1 hg rfl))) (AR_at (cx := cxP0) (l := [sb0]) rfl hro fun σ hσ => by
   obtain rfl := List.mem_singleton.1 hσ
   rw [sb0_env]
   exact LPk.ar_told hro hW he1 rfl)
  have h2 := BR_at (cx := cxP0) (l := [s2]) rfl hro fun σ hσ => by
   obtain rfl := List.mem_singleton.1 hσ
   exact LPk.br_told hro hW he2 rfl
  intro args st v st' hs
  unfold runS at hs
  split at hs
  ·split at hs
   ·exact h1 _ st v st' hs
   ·exact h2 _ st v st' hs
  ·simp [R.ai] at hs
 have hall0 : SumOk Tryz.prog cxP0 d.env := uI (l := smPa) ⟨(aqy (bx.of hro) _ rfl _ rfl).1, CM_at rfl hro, idSm_ok rfl hr, trivial⟩ rfl
 have hall : SumOk Tryz.prog cxPa d.env := by
  refine ⟨fun f s hs args st v st' he S π0 w ac n hh ha => hall0.sum f s hs args st v st' he S π0 w ac n ⟨hh.pc, hh.at_, hh.glob, hh.fresh⟩ ha, fun g s hg => Zj rfl g s hg, fun lp hlp => ?_⟩
  obtain rfl := Option.some.inj (show some (Yl lpPa) = some lp from hlp)
  obtain ⟨a0, a1, a2, a3, _⟩ := az PP_ok1
  obtain ⟨b0, b1, b2, b3, _⟩ := az PP_ok2
  refine Ym fun L hL => ?_
  simp only [lpPa, List.mem_cons, List.not_mem_nil, or_false] at hL
  have go := fun {z k : Nat} (hz : z = 1 ∨ z = 2) (hst : okPP z k = true) => LPk.pp_told (d := d) hro hW he1 he2 (cx := cxPa) rfl hz hst
  rcases hL with rfl | rfl | rfl | rfl | rfl | rfl | rfl | rfl
  ·exact go (.inl rfl) a0
  ·exact go (.inl rfl) a1
  ·exact go (.inl rfl) a2
  ·exact go (.inl rfl) a3
  ·exact go (.inr rfl) b0
  ·exact go (.inr rfl) b1
  ·exact go (.inr rfl) b2
  ·exact go (.inr rfl) b3
 exact aeE (cx := cxPa) (L := aj) (ng := 7) (nm := 10) (ρ := d.env) (N := 4000) cr pL oQ hall Tryz.func7 rfl fp hro hW hrows hpc (by rw [de]; exact run_all hi hj hk hz) ha
end Go.Proofs.YtmickljjofbmiaaGreatDoor
