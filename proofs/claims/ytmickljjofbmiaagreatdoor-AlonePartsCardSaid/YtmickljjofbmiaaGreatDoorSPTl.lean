/- AloneParts: the law's loop of r7 is told. No condition. -/
import Derived.Test.YtmickljjofbmiaaGreatDoorSCol
import Derived.Test.YtmickljjofbmiaaGreatDoorSLk
namespace Go.Proofs.YtmickljjofbmiaaGreatDoor
open Go Go.Proofs
structure PutsOk (p : Par) (s0 : jB) (ρ : Env) (N1 N2 : Nat) : Prop where
 ro : ρ.ro = p.ro
 size : ρ.v 50 = p.size
 sz : 16 ≤ p.size ∧ p.size ≤ 4096
 am2 : ∀ n : Nat, ρ.f2 2 n (2 : Nat) = (sL p (aA p s0 n)).2.2
 n : ρ.v 60 = N1
 n1 : 1 ≤ N1
 le : N1 ≤ N2
 go : ∀ j, j < N2 → (aA p s0 j).h.cause = 0
 row : ∀ c, c < 14 → ρ.f1 (75 + c) = si p s0 N2 c
 bytes : ρ.f1 20 = s0.m
 mem : ρ.f1 55 = (aA p s0 N1).m
 start : s0.h.Ok ∧ s0.h.id = p.id ∧ (0 ≤ s0.at_ ∧ s0.at_ ≤ 4294967295)
noncomputable def envS (ρ : Env) (p : Par) (s0 : jB) (n : Nat) : Env := { ρ with
 v := fun i => if i = 100 then (n : Int) else ρ.v i
 f1 := fun i => if i = 30 then (aA p s0 n).m else ρ.f1 i }
theorem envS_v {ρ : Env} {p : Par} {s0 : jB} {n i : Nat} (h : eS i tPP.vs = false) : (envS ρ p s0 n).v i = ρ.v i := if_neg fun e => by subst e; exact absurd h (by decide)
theorem envS_f {ρ : Env} {p : Par} {s0 : jB} {n i : Nat} (h : RU tPP.ts i = false) : (envS ρ p s0 n).f1 i = ρ.f1 i := if_neg fun e => by subst e; exact absurd h (by decide)
theorem agreeS {ρ : Env} {p : Par} {s0 : jB} (n m : Nat) : Agree tPP (envS ρ p s0 n) (envS ρ p s0 m) := ⟨fun i h => by rw [envS_v h, envS_v h], fun i h => by rw [envS_f h, envS_f h], rfl, rfl, rfl, rfl, rfl, rfl⟩
theorem agreeS0 {ρ : Env} {p : Par} {s0 : jB} (n : Nat) : Agree tPP ρ (envS ρ p s0 n) := ⟨fun _ h => envS_v h, fun _ h => envS_f h, rfl, rfl, rfl, rfl, rfl, rfl⟩
theorem agreeS1 {ρ : Env} {p : Par} {s0 : jB} (n : Nat) : Agree tPP (envS ρ p s0 n) ρ := ⟨fun _ h => (envS_v h).symm, fun _ h => (envS_f h).symm, rfl, rfl, rfl, rfl, rfl, rfl⟩
theorem wrap64 {z : Int} (h : 0 ≤ z ∧ z ≤ 4294967295) : IntKind.i64.wrap z = z := bn (by simp only [jT]; omega) (by simp only [kR]; omega)
theorem wrapU {z : Int} (h : 0 ≤ z ∧ z ≤ 4294967295) : IntKind.u32.wrap z = z := bn (by simp only [jT]; omega) (by simp only [kR]; omega)
theorem tleS {ρ : Env} {x y : X} (h : x.den ρ ≤ y.den ρ) : (X.le x y).tt ρ = true := by rw [MP]; exact decide_eq_true h
theorem allS {ρ : Env} : SumOk Tryz.prog (O4 []) ρ := uI (l := []) trivial rfl
structure AtN (ρ : Env) (size : Int) (n : X) (g : Nat → Int) : Prop where
 cols : ColsOk size g
 size : ρ.v 50 = size
 f : ∀ c, c < 14 → ρ.f1 (75 + c) (n.den ρ) = g c
section
variable {ρ : Env} {size : Int} {n : X} {g : Nat → Int} (h : AtN ρ size n g)
include h
theorem AtN.k : (kdX n).den ρ = g 2 := by
 show IntKind.i64.wrap (ρ.f1 (75 + 2) (n.den ρ)) = _
 rw [h.f 2 (by omega)]
 have := h.cols.k
 exact wrap64 (by omega)
theorem AtN.ad : (adX2 n).den ρ = g 3 := by
 show IntKind.u32.wrap (ρ.f1 (75 + 3) (n.den ρ)) = _
 rw [h.f 3 (by omega)]
 exact wrapU h.cols.ad
theorem AtN.w : (wdX n).den ρ = g 4 := by
 show IntKind.i64.wrap (ρ.f1 (75 + 4) (n.den ρ)) = _
 rw [h.f 4 (by omega)]
 have := h.cols.w
 exact wrap64 (by omega)
theorem AtN.v : (vlX n).den ρ = g 5 := by
 show IntKind.u32.wrap (ρ.f1 (75 + 5) (n.den ρ)) = _
 rw [h.f 5 (by omega)]
 exact wrapU h.cols.v
theorem AtN.op : (X.wrap .i64 (.fn1 81 n)).den ρ = g 6 := by
 show IntKind.i64.wrap (ρ.f1 (75 + 6) (n.den ρ)) = _
 rw [h.f 6 (by omega)]
 have := h.cols.op
 exact wrap64 (by omega)
theorem AtN.x : (X.wrap .u32 (.fn1 84 n)).den ρ = g 9 := by
 show IntKind.u32.wrap (ρ.f1 (75 + 9) (n.den ρ)) = _
 rw [h.f 9 (by omega)]
 exact wrapU h.cols.x
theorem AtN.ok : (okC n).tt ρ = decide (g 10 = 1) := by
 unfold okC
 rw [dR]
 show (ρ.f1 (75 + 10) (n.den ρ) == 1) = _
 rw [h.f 10 (by omega)]
 by_cases e : g 10 = 1
 ·simp [e]
 ·rw [decide_eq_false e]; exact beq_eq_false_iff_ne.2 e
theorem AtN.eqk (j : Int) : (X.eq (kdX n) (.lit j)).tt ρ = decide (g 2 = j) := by
 rw [dR, h.k]
 show (g 2 == j) = _
 by_cases e : g 2 = j
 ·simp [e]
 ·rw [decide_eq_false e]; exact beq_eq_false_iff_ne.2 e
end
theorem putS_ok {cx : Cx} (hng : cx.ng = 7) {ρ : Env} (hro : ∀ ρ' : Env, ρ'.ro = ρ.ro → RoAt ρ' aj) {size : Int} {n : X} {g : Nat → Int} (h : AtN ρ size n g) (h5 : g 2 = 5 → g 4 = 4) : cV Tryz.prog cx ρ 19 (eT aj PT0P PT0R PT1P PT1R n) := by
 refine cV.via fun args st v st' hv hpc => ?_
 unfold eT at hv
 split at hv
 ·rename_i sl ad w x
  split at hv
  ·rename_i hb
   obtain ⟨h1, h2, _⟩ := az hb
   have e1 := X.beq_eq h1
   have hw : w.den ρ = g 4 := by
    split at h2
    ·rename_i h3
     rw [X.beq_eq h3]
     exact h.w
    ·obtain ⟨h3, h4, _⟩ := az h2
     rw [X.beq_eq h3]
     have hk := GD hpc h4 _ (List.mem_cons_self ..)
     rw [h.eqk] at hk
     exact (h5 (of_decide_eq_true hk)).symm
   have hf : av ρ (putPc ad w) := by
    have ha : ad.den ρ = g 3 := by rw [e1]; exact h.ad
    have q1 := h.cols.ad
    have q2 := h.cols.w
    have q3 := h.cols.fits
    intro f hf
    simp only [putPc, List.mem_cons, List.not_mem_nil, or_false] at hf
    rcases hf with rfl | rfl | rfl | rfl
    ·exact tleS (by show (0 : Int) ≤ _; omega)
    ·exact tleS (by show (0 : Int) ≤ _; omega)
    ·exact tleS (by show _ ≤ (4 : Int); omega)
    ·refine tleS ?_
     show ad.den ρ + w.den ρ ≤ ρ.v 50
     rw [h.size]
     omega
   have less : qQ ρ st { st with pc := putPc ad w ++ st.pc } := ⟨fun hp f hf' => (List.mem_append.1 hf').elim (hf f) (hp f), Nat.le_refl _, fun i o ho => ⟨o, ho, fun _ _ q => q, rfl⟩⟩
   split at hv
   ·exact ⟨_, _, _, v, st', KO (cx0 := O4 []) (N := 4000) cr pL oQ hng rfl fp hro Tryz.func19 (by rw [de]; exact PT0_run) (fun _ _ => allS), fun _ => rfl, less, rfl, hv, fun _ => rfl, .refl _⟩
   ·exact ⟨_, _, _, v, st', KO (cx0 := O4 []) (N := 4000) cr pL oQ hng rfl fp hro Tryz.func19 (by rw [de]; exact PT1_run) (fun _ _ => allS), fun _ => rfl, less, rfl, hv, fun _ => rfl, .refl _⟩
  ·simp [R.ai] at hv
 ·simp [R.ai] at hv
theorem amoP_ok {cx : Cx} (hng : cx.ng = 7) {ρ : Env} {size : Int} {n : X} {g : Nat → Int} (h : AtN ρ size n g) {z : Int} (hz : g 2 = 5 → bc Tryz.prog aj 7 100000 ρ.ro 20 [.int .i64 (g 6), .int .u32 (g 9), .int .u32 (g 5)] (.int .u32 z) ∧ 0 ≤ z ∧ z ≤ 4294967295) (ht : (tb 2 n 2).den ρ = z) : cV Tryz.prog cx ρ 20 (amoP aj n) := by
 refine Ui fun hg => ?_
 have h5 : g 2 = 5 := by
  have hk := hg _ (List.mem_cons_self ..)
  rw [h.eqk] at hk
  exact of_decide_eq_true hk
 obtain ⟨hc, hr⟩ := hz h5
 refine pI (m := 100000) cr hng fp Tryz.func20 fun x hx => ?_
 obtain rfl := List.mem_singleton.1 hx
 refine Gh hc (fun π => ?_) (fun π => ?_) (fun _ => rfl) rfl
 ·simp only [V.af, V.ae, h.op, h.x, h.v]
 ·simp only [V.ae, u32, cU ht hr]
theorem wT_sel {ρ : Env} {wd : X} {w : Nat} (hw : wd.den ρ = (w : Int)) (h : w ≤ 4) {g : Nat → _root_.Go.Proofs.YtmickljjofbmiaaGreatDoor.R LM} : (wT wd g).ai ρ = (g w).ai ρ := by
 have t : ∀ k : Nat, (X.lt (.lit (k : Int)) wd).tt ρ = decide (k < w) := fun k => by
  rw [A8, hw]
  show decide ((k : Int) < (w : Int)) = _
  by_cases e : k < w
  ·rw [decide_eq_true e, decide_eq_true (by omega)]
  ·rw [decide_eq_false e, decide_eq_false (by omega)]
 have t0 : (X.lt (.lit 0) wd).tt ρ = decide (0 < w) := t 0
 have t1 : (X.lt (.lit 1) wd).tt ρ = decide (1 < w) := t 1
 have t2 : (X.lt (.lit 2) wd).tt ρ = decide (2 < w) := t 2
 have t3 : (X.lt (.lit 3) wd).tt ρ = decide (3 < w) := t 3
 unfold wT
 match w, h with
 | 0, _ => rw [Lc t0]
 | 1, _ => rw [sO t0, Lc t1]
 | 2, _ => rw [sO t0, sO t1, Lc t2]
 | 3, _ => rw [sO t0, sO t1, sO t2, Lc t3]
 | 4, _ => rw [sO t0, sO t1, sO t2, sO t3]
def InvS (ρ : Env) (p : Par) (s0 : jB) (N j : Nat) (ρ1 : Env) : Prop := ∃ n : Nat, ρ1 = envS ρ p s0 n ∧ (j = 0 → n = 0) ∧ n ≤ N ∧ (j = 1 → ∀ i, i < n → ¬ aql p (aA p s0 i)) ∧ (j = 2 → ∃ i, i < n ∧ aql p (aA p s0 i))
def EndsS (ρ : Env) (p : Par) (s0 : jB) (N : Nat) (L : LoopI) (ρ1 : Env) (x : LM) : Prop := match x with
 | .next j' σ => ∃ ρ2, b8 tPP ρ1 ρ2 σ ∧ InvS ρ p s0 N j' ρ2 ∧ ((N : Int) + 1 - ρ2.v 100).toNat < ((N : Int) + 1 - ρ1.v 100).toNat
 | .out k σ => b8 tPP ρ1 ρ σ ∧ ∃ O, nth [PPO0, PPO1] k = some O ∧ L.res.ai ρ = some (O.ex, O.pat.fr, ⟨O.pat.st.h, O.pat.st.n, L.st.pc⟩)
 | .never => False
section
variable {W : World} {p : Par} (hro : bx p.ro) (hW : ∀ x ∈ aj, W.heap[x.1]? = some (p.ro x.1))
variable {s0 : jB} {ρ : Env} {N1 N2 : Nat} (B : PutsOk p s0 ρ N1 N2)
include hro hW B
theorem PutsOk.st (n : Nat) : (aA p s0 n).h.Ok := (Tg hro hW B.start.1 B.start.2.1 B.start.2.2 n).1
omit hro hW B in
theorem rowC_at {n : Nat} (h : n < N2) (c : Nat) : si p s0 N2 c n = DL p (aA p s0 n) c := by
 unfold si
 rw [if_pos (by omega), Int.toNat_natCast]
omit hro hW B in
theorem rowC_out {n : Nat} (h : ¬ n < N2) (c : Nat) : si p s0 N2 c n = 0 := by
 unfold si
 rw [if_neg (by omega)]
theorem PutsOk.cols (n : Nat) : ColsOk p.size fun c => si p s0 N2 c n := by
 have hsz := B.sz
 by_cases h : n < N2
 ·have e : (fun c => si p s0 N2 c n) = DL p (aA p s0 n) := funext fun c => rowC_at h c
  rw [e]
  exact col_ok hro hW (B.st hro hW n) (B.go n h) hsz.1
 ·have e : (fun c => si p s0 N2 c n) = fun _ => 0 := funext fun c => rowC_out h c
  rw [e]
  refine ⟨?_, ?_, ?_, ?_, ?_, ?_, ?_, .inl rfl⟩ <;> omega
theorem PutsOk.at {n : Nat} {x : X} (hx : x.den (envS ρ p s0 n) = (n : Int)) : AtN (envS ρ p s0 n) p.size x fun c => si p s0 N2 c n where
 cols := B.cols hro hW n
 size := B.size
 f c hc := by
  rw [hx]
  show (if 75 + c = 30 then _ else ρ.f1 (75 + c)) _ = _
  rw [if_neg (by omega), B.row c hc]
theorem PutsOk.w4 {n : Nat} (h : si p s0 N2 2 n = 5) : si p s0 N2 4 n = 4 := by
 by_cases hn : n < N2
 ·rw [rowC_at hn] at h ⊢
  cases hf : fS p (aA p s0 n) with
  | false =>
   have e : DL p (aA p s0 n) 2 = 0 := by unfold DL; rw [hf]; rfl
   omega
  | true =>
   have e2 : DL p (aA p s0 n) 2 = ((acc p (aA p s0 n)).k : Int) := by unfold DL; rw [hf]; rfl
   have e4 : DL p (aA p s0 n) 4 = ((acc p (aA p s0 n)).w : Int) := by unfold DL; rw [hf]; rfl
   have := (fQ hro hW (B.st hro hW n) (B.go n hn)).w4 (by omega) (by omega)
   omega
 ·rw [rowC_out hn] at h
  omega
theorem PutsOk.sum {n : Nat} {x : X} (hx : x.den (envS ρ p s0 n) = (n : Int)) : SumOk Tryz.prog (O4 (smPP x)) (envS ρ p s0 n) := by
 have hA := B.at hro hW hx
 refine uI (l := smPP x) ⟨putS_ok (ρ := envS ρ p s0 n) rfl (fun ρ' hr => hro ρ' (hr.trans (show (envS ρ p s0 n).ro = p.ro from B.ro))) hA (B.w4 hro hW), amoP_ok rfl hA (z := (sL p (aA p s0 n)).2.2) (fun h5 => ?_) ?_, trivial⟩ rfl
 ·have hn : n < N2 := by
   by_cases h : n < N2
   ·exact h
   ·have h5 : si p s0 N2 2 n = 5 := h5
    rw [rowC_out h] at h5
    omega
  rw [rowC_at hn, rowC_at hn, rowC_at hn, show (envS ρ p s0 n).ro = p.ro from B.ro]
  have h5 : si p s0 N2 2 n = 5 := h5
  rw [rowC_at hn] at h5
  exact col_amo hro hW (B.st hro hW n) (B.go n hn) h5
 ·exact (bp hx 2 2).trans (B.am2 n)
theorem PP_round {L : LoopI} {n : Nat} (hn : n < N1) {x x1 : X} (hx : x.den (envS ρ p s0 n) = (n : Int)) (hx1 : x1.den (envS ρ p s0 n) = (n : Int) + 1) {mem : A} (hm : qV (envS ρ p s0 n) mem (aA p s0 n).m) (hr : sy (envS ρ p s0 n) mem) {j : Nat} (hj : j = 1 ∨ j = 2)
  (h1 : j = 1 → ∀ i, i < n → ¬ aql p (aA p s0 i)) (h2 : j = 2 → ∃ i, i < n ∧ aql p (aA p s0 i)) : ∃ y, (PPt j x x1 mem).ai (envS ρ p s0 n) = some y ∧ EndsS ρ p s0 N1 L (envS ρ p s0 n) y := by
 have hA := B.at hro hW hx
 have hle := B.le
 have hn2 : n < N2 := by omega
 have hs := B.st hro hW n
 have hc := B.go n hn2
 have eg : ∀ c, si p s0 N2 c n = DL p (aA p s0 n) c := rowC_at hn2
 obtain ⟨m1, m2, m3⟩ := col_mem hro hW hs hc
 have hput := col_put hro hW hs hc
 have en : aA p s0 (n + 1) = Xd p (aA p s0 n) := rfl
 have lt : ((N1 : Int) + 1 - (envS ρ p s0 (n + 1)).v 100).toNat < ((N1 : Int) + 1 - (envS ρ p s0 n).v 100).toNat := by
  show ((N1 : Int) + 1 - ((n + 1 : Nat) : Int)).toNat < ((N1 : Int) + 1 - (n : Int)).toNat
  omega
 have v100 : (envS ρ p s0 (n + 1)).v 100 = x1.den (envS ρ p s0 n) := by
  rw [hx1]
  show ((n + 1 : Nat) : Int) = _
  omega
 have vs : ∀ i y, look [(100, x1)] i = some y → (envS ρ p s0 (n + 1)).v i = y.den (envS ρ p s0 n) := fun i y h => by
  rcases dN h with ⟨rfl, rfl⟩ | h
  ·exact v100
  ·exact (my h).elim
 have goP : ∀ {mem' : A}, qV (envS ρ p s0 n) mem' (aA p s0 (n + 1)).m → sy (envS ρ p s0 n) mem' → stores (DL p (aA p s0 n)) → EndsS ρ p s0 N1 L (envS ρ p s0 n) (putL x1 mem') := fun hm' hr' hst =>
  ⟨envS ρ p s0 (n + 1), ⟨agreeS n (n + 1), vs, aeF (yl hm' hr' rfl)⟩, ⟨n + 1, rfl, (fun h => nomatch h), hn, (fun h => nomatch h), fun _ => ⟨n, Nat.lt_succ_self n, hput.1 hst⟩⟩, lt⟩
 have goN : ¬ stores (DL p (aA p s0 n)) → EndsS ρ p s0 N1 L (envS ρ p s0 n) (notL j x1 mem) := fun hst => by
  have hno : ¬ aql p (aA p s0 n) := fun h => hst (hput.2 h)
  have hm' : qV (envS ρ p s0 n) mem (aA p s0 (n + 1)).m := by rw [en, m3 hst]; exact hm
  have inv : InvS ρ p s0 N1 j (envS ρ p s0 (n + 1)) := by
   refine ⟨n + 1, rfl, fun h => (by rcases hj with rfl | rfl <;> cases h), hn, fun h i hi => ?_, fun h => ?_⟩
   ·rcases Nat.lt_or_ge i n with q | q
    ·exact h1 h i q
    ·obtain rfl : i = n := Nat.le_antisymm (Nat.le_of_lt_succ hi) q
     exact hno
   ·obtain ⟨i, q1, q2⟩ := h2 h
    exact ⟨i, Nat.lt_succ_of_lt q1, q2⟩
  rcases hj with rfl | rfl
  ·exact ⟨envS ρ p s0 (n + 1), ⟨agreeS n (n + 1), vs, fun f ks q h => (my h).elim⟩, inv, lt⟩
  ·exact ⟨envS ρ p s0 (n + 1), ⟨agreeS n (n + 1), vs, aeF (yl hm' hr rfl)⟩, inv, lt⟩
 have hcols := hA.cols
 have hw := hcols.w
 have hv := hcols.v
 have goW : (DL p (aA p s0 n) 2 = 2 ∨ (DL p (aA p s0 n) 2 = 4 ∧ DL p (aA p s0 n) 10 = 1)) → ∃ y, (wT (wdX x) fun w => .ok (putL x1 (stP (adX2 x) (vlX x) 0 w mem))).ai (envS ρ p s0 n) = some y ∧ EndsS ρ p s0 N1 L (envS ρ p s0 n) y := fun hk => by
  obtain ⟨w, hw'⟩ : ∃ w : Nat, si p s0 N2 4 n = (w : Int) := ⟨(si p s0 N2 4 n).toNat, (Int.toNat_of_nonneg hw.1).symm⟩
  have hw4 : w ≤ 4 := by
   have h4 : si p s0 N2 4 n ≤ 4 := hw.2
   rw [hw'] at h4
   clear lt v100
   omega
  refine ⟨_, (wT_sel (hA.w.trans hw') hw4).trans rfl, goP ?_ (stP_rg hA.v hv w 0 _ (by omega) hr) ?_⟩
  ·rw [en, m1 hk, ← eg 3, ← eg 4, ← eg 5, hw', Int.toNat_natCast]
   exact stP_is hA.ad hA.v hv hm hw4
  ·rcases hk with h | h
   ·exact .inl h
   ·exact .inr (.inl h)
 unfold PPt
 by_cases k2 : DL p (aA p s0 n) 2 = 2
 ·rw [sO ((hA.eqk 2).trans (decide_eq_true ((eg 2).trans k2)))]
  exact goW (.inl k2)
 rw [Lc ((hA.eqk 2).trans (decide_eq_false fun h => k2 ((eg 2).symm.trans h)))]
 by_cases k4 : DL p (aA p s0 n) 2 = 4
 ·rw [sO ((hA.eqk 4).trans (decide_eq_true ((eg 2).trans k4)))]
  by_cases k10 : DL p (aA p s0 n) 10 = 1
  ·rw [sO (hA.ok.trans (decide_eq_true ((eg 10).trans k10)))]
   exact goW (.inr ⟨k4, k10⟩)
  ·rw [Lc (hA.ok.trans (decide_eq_false fun h => k10 ((eg 10).symm.trans h)))]
   refine ⟨_, rfl, goN ?_⟩
   rintro (h | ⟨_, h⟩ | h)
   ·exact k2 h
   ·exact k10 h
   ·omega
 rw [Lc ((hA.eqk 4).trans (decide_eq_false fun h => k4 ((eg 2).symm.trans h)))]
 by_cases k5 : DL p (aA p s0 n) 2 = 5
 ·rw [sO ((hA.eqk 5).trans (decide_eq_true ((eg 2).trans k5)))]
  obtain ⟨_, hz⟩ := col_amo hro hW hs hc k5
  have ht : (sq (tb 2 x 2)).den (envS ρ p s0 n) = (sL p (aA p s0 n)).2.2 := cU ((bp hx 2 2).trans (B.am2 n)) hz
  refine ⟨_, rfl, goP ?_ (stP_rg ht hz 4 0 _ (by omega) hr) (.inr (.inr k5))⟩
  rw [en, m2 k5, ← eg 3]
  exact stP_is hA.ad ht hz hm (by omega)
 ·rw [Lc ((hA.eqk 5).trans (decide_eq_false fun h => k5 ((eg 2).symm.trans h)))]
  refine ⟨_, rfl, goN ?_⟩
  rintro (h | ⟨h, _⟩ | h)
  ·exact k2 h
  ·exact k4 h
  ·exact k5 h
theorem PP_told {cx : Cx} (hng : cx.ng = 7) {z k : Nat} (hz : z = 1 ∨ z = 2) (hst : okPP z k = true) (h1 : z = 1 → ∀ i, i < N1 → ¬ aql p (aA p s0 i)) (h2 : z = 2 → ∃ i, i < N1 ∧ aql p (aA p s0 i)) : oc Tryz.prog cx ρ (PPL z k) := by
 unfold okPP at hst
 simp only [Bool.and_eq_true] at hst
 obtain ⟨k1, k2, k3⟩ := hst
 refine LI (cxB := fun j => match j with | 0 => O4 (smPP (.lit 0)) | _ => O4 (smPP (.var 100))) (t := tPP) (Is := [PPI0, PPI1, PPI2]) (outs := [PPO0, PPO1]) (lls := [PPl0, PPl 1 (.base 20), PPl 2 (.base 30)]) (N := 4000) (ng := 7) (I0 := PPI0) ⟨[], [], [], []⟩ (InvS ρ p s0 N1) (fun ρ1 => ((N1 : Int) + 1 - ρ1.v 100).toNat)
  (fun j ρ1 hI => ?_) (fun j => by cases j <;> rfl) hng (fun j I ll hI hll => ?_) (fun j I hI => ?_) k1 k2 rfl k3 ⟨envS ρ p s0 0, ⟨agreeS0 0, fun i x h => (my h).elim, fun f ks q h => (my h).elim⟩, 0, rfl, fun _ => rfl, by omega, fun h => by omega, fun h => by omega⟩ (fun j ρ1 I ll hI hll hinv hpc => ?_)
 ·obtain ⟨n, rfl, h0, hn, _, _⟩ := hI
  cases j with
  | zero =>
   obtain rfl := h0 rfl
   exact (q9 cr pL oQ (B.sum hro hW (n := 0) (x := .lit 0) rfl) 4000).1
  | succ j => exact (q9 cr pL oQ (B.sum hro hW (n := n) (x := .var 100) rfl) 4000).1
 ·match j, hI, hll with
  | 0, hI, hll =>
   obtain rfl := Option.some.inj (show some PPI0 = some I from hI)
   obtain rfl := Option.some.inj (show some PPl0 = some ll from hll)
   exact PP_chk0
  | 1, hI, hll =>
   obtain rfl := Option.some.inj (show some PPI1 = some I from hI)
   obtain rfl := Option.some.inj (show some (PPl 1 (.base 20)) = some ll from hll)
   exact PP_chk1
  | 2, hI, hll =>
   obtain rfl := Option.some.inj (show some PPI2 = some I from hI)
   obtain rfl := Option.some.inj (show some (PPl 2 (.base 30)) = some ll from hll)
   exact PP_chk2
 ·match j, hI with
  | 0, _ => exact ⟨_, rfl⟩
  | 1, _ => exact ⟨_, rfl⟩
  | 2, _ => exact ⟨_, rfl⟩
 ·obtain ⟨n, rfl, h0, hn, i1, i2⟩ := hinv
  have hn1 := B.n1
  suffices h : ∃ x, ll.ai (envS ρ p s0 n) = some x ∧ EndsS ρ p s0 N1 (PPL z k) (envS ρ p s0 n) x by
   obtain ⟨x, hx, he⟩ := h
   refine ⟨x, hx, ?_⟩
   cases x <;> exact he
  have tl : (X.lt (.var 100) (.var 60)).tt (envS ρ p s0 n) = decide (n < N1) := by
   rw [A8]
   show decide ((n : Int) < ρ.v 60) = _
   rw [B.n]
   by_cases e : n < N1
   ·rw [decide_eq_true e, decide_eq_true (by omega)]
   ·rw [decide_eq_false e, decide_eq_false (by omega)]
  match j, hI, hll with
  | 0, hI, hll =>
   obtain rfl := h0 rfl
   obtain rfl := Option.some.inj (show some PPl0 = some ll from hll)
   exact PP_round hro hW B (by omega) rfl rfl (sN (ρ := envS ρ p s0 0) (t := 20) (m := s0.m) B.bytes) (pP 20) (.inl rfl) (fun _ i hi => by omega) (fun h => by omega)
  | 1, hI, hll =>
   obtain rfl := Option.some.inj (show some (PPl 1 (.base 20)) = some ll from hll)
   unfold PPl
   by_cases e : n < N1
   ·rw [sO (tl.trans (decide_eq_true e))]
    refine PP_round hro hW B e rfl rfl (sN (ρ := envS ρ p s0 n) (t := 20) (m := (aA p s0 n).m) ?_) (pP 20) (.inl rfl) i1 (fun h => by omega)
    show ρ.f1 20 = _
    rw [B.bytes, seq_noS n (i1 rfl)]
   ·rw [Lc (tl.trans (decide_eq_false e))]
    obtain rfl : n = N1 := by omega
    rcases hz with rfl | rfl
    ·exact ⟨_, rfl, ⟨agreeS1 n, fun i x h => (my h).elim, fun f ks q h => (my h).elim⟩, PPO0, rfl, rfl⟩
    ·obtain ⟨i, q1, q2⟩ := h2 rfl
     exact absurd q2 (i1 rfl i q1)
  | 2, hI, hll =>
   obtain rfl := Option.some.inj (show some (PPl 2 (.base 30)) = some ll from hll)
   unfold PPl
   by_cases e : n < N1
   ·rw [sO (tl.trans (decide_eq_true e))]
    exact PP_round hro hW B e rfl rfl (sN (ρ := envS ρ p s0 n) (t := 30) (m := (aA p s0 n).m) rfl) (pP 30) (.inr rfl) (fun h => by omega) i2
   ·rw [Lc (tl.trans (decide_eq_false e))]
    obtain rfl : n = N1 := by omega
    rcases hz with rfl | rfl
    ·obtain ⟨i, q1, q2⟩ := i2 rfl
     exact absurd q2 (h1 rfl i q1)
    ·exact ⟨_, rfl, ⟨agreeS1 n, fun i x h => (my h).elim, aeF (yl (sN (ρ := envS ρ p s0 n) (t := 30) (m := (aA p s0 n).m) rfl) (pP 30) B.mem)⟩, PPO1, rfl, rfl⟩
end
end Go.Proofs.YtmickljjofbmiaaGreatDoor
