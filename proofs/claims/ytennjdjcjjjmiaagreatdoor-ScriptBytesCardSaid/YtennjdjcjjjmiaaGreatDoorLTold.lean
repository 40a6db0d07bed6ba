/- script's functions: their loops are told; what the functions do, wherever they are called. script.Raw, the document's Same: their loops are told. No condition. -/
import Derived.Test.YtennjdjcjjjmiaaGreatDoorLLoops
namespace Go.Proofs.YtennjdjcjjjmiaaGreatDoor
open Go Go.Proofs
theorem pcNil {ρ : Env} : PcOk ρ [] := fun f hf => by cases hf
theorem pcCons {ρ : Env} {x : X} {b : Bool} {pc : PC} (h : x.tt ρ = b) (hp : PcOk ρ pc) : PcOk ρ ((x, b) :: pc) := fun f hf => by
 rcases List.mem_cons.1 hf with rfl | hf
 ·exact h
 ·exact hp f hf
theorem lt_tt {ρ : Env} {x y : X} {a b : Int} (hx : x.den ρ = a) (hy : y.den ρ = b) : (X.lt x y).tt ρ = decide (a < b) := by
 rw [X.tt, X.den, b2i_tt, hx, hy]
theorem le_tt {ρ : Env} {x y : X} {a b : Int} (hx : x.den ρ = a) (hy : y.den ρ = b) : (X.le x y).tt ρ = decide (a ≤ b) := by
 rw [X.tt, X.den, b2i_tt, hx, hy]
theorem eq_tt {ρ : Env} {x y : X} {a b : Int} (hx : x.den ρ = a) (hy : y.den ρ = b) : (X.eq x y).tt ρ = decide (a = b) := by
 rw [X.tt, X.den, b2i_tt, hx, hy]
 rfl
theorem lt2 {ρ : Env} {x y : X} {a b : Int} (hx : x.den ρ = a) (hy : y.den ρ = b) (h : a < b) : (X.lt x y).tt ρ = true := (lt_tt hx hy).trans (decide_eq_true h)
theorem lt2n {ρ : Env} {x y : X} {a b : Int} (hx : x.den ρ = a) (hy : y.den ρ = b) (h : ¬ a < b) : (X.lt x y).tt ρ = false := (lt_tt hx hy).trans (decide_eq_false h)
theorem eq2 {ρ : Env} {x y : X} {a b : Int} (hx : x.den ρ = a) (hy : y.den ρ = b) (h : a = b) : (X.eq x y).tt ρ = true := (eq_tt hx hy).trans (decide_eq_true h)
theorem eq2n {ρ : Env} {x y : X} {a b : Int} (hx : x.den ρ = a) (hy : y.den ρ = b) (h : ¬ a = b) : (X.eq x y).tt ρ = false := (eq_tt hx hy).trans (decide_eq_false h)
theorem look_one {α : Type} {k i : Nat} {x y : α} (h : look [(k, x)] i = some y) : i = k ∧ x = y := by
 unfold look at h
 split at h
 ·rename_i hb
  exact ⟨(Nat.eq_of_beq_eq_true hb).symm, Option.some.inj h⟩
 ·simp [look] at h
theorem look_two {α : Type} {k l i : Nat} {x z y : α} (h : look [(k, x), (l, z)] i = some y) : (i = k ∧ x = y) ∨ (i = l ∧ z = y) := by
 unfold look at h
 split at h
 ·rename_i hb
  exact .inl ⟨(Nat.eq_of_beq_eq_true hb).symm, Option.some.inj h⟩
 ·exact .inr (look_one h)
theorem look_nil {α : Type} {i : Nat} {y : α} (h : look [] i = some y) : False := by cases h
def Env.tk (ρ : Env) (vs : List (Nat × Int)) (f m : Nat) (g : Nat → Int → Int) : Env := { ρ with
 v := fun i => match look vs i with
  | some n => n
  | none => ρ.v i
 f1 := fun i => match Nat.ble f i with
  | true => match Nat.blt i (f + m) with
   | true => g (i - f)
   | false => ρ.f1 i
  | false => ρ.f1 i }
theorem look_out {vs : List (Nat × Int)} {l : List Nat} : (∀ x ∈ vs, memN x.1 l = true) → ∀ {i}, memN i l = false → look vs i = none := by
 induction vs with
 | nil => intro _ _ _; rfl
 | cons x vs ih =>
  intro h i hi
  obtain ⟨k, n⟩ := x
  unfold look
  split
  ·rename_i hb
   have := h _ (List.mem_cons_self ..)
   rw [Nat.eq_of_beq_eq_true hb, hi] at this
   cases this
  ·exact ih (fun y hy => h y (List.mem_cons_of_mem _ hy)) hi
theorem tk_agree {t : Tch} {ρ : Env} {vs : List (Nat × Int)} {f m : Nat} {g : Nat → Int → Int} (h1 : ∀ x ∈ vs, memN x.1 t.vs = true) (h2 : ∀ i, f ≤ i → i < f + m → inR t.ts i = true) : Agree t ρ (ρ.tk vs f m g) where
 v := fun i hi => by simp [Env.tk, look_out h1 hi]
 f1 := fun i hi => by
  simp only [Env.tk]
  split
  ·rename_i ha
   split
   ·rename_i hb
    rw [h2 i (Nat.le_of_ble_eq_true ha) (Nat.le_of_ble_eq_true hb)] at hi
    cases hi
   ·rfl
  ·rfl
 b := rfl
 f2 := rfl
 s := rfl
 sf := rfl
 ro := rfl
 win := rfl
theorem Agree.symm {t : Tch} {ρ1 ρ2 : Env} (h : Agree t ρ1 ρ2) : Agree t ρ2 ρ1 := ⟨fun i hi => (h.v i hi).symm, fun f hf => (h.f1 f hf).symm, h.b.symm, h.f2.symm, h.s.symm, h.sf.symm, h.ro.symm, h.win.symm⟩
theorem Agree.trans {t : Tch} {ρ1 ρ2 ρ3 : Env} (h : Agree t ρ1 ρ2) (k : Agree t ρ2 ρ3) : Agree t ρ1 ρ3 := ⟨fun i hi => (k.v i hi).trans (h.v i hi), fun f hf => (k.f1 f hf).trans (h.f1 f hf), k.b.trans h.b, k.f2.trans h.f2, k.s.trans h.s, k.sf.trans h.sf, k.ro.trans h.ro, k.win.trans h.win⟩
theorem tk_two {t : Tch} {ρ : Env} {f m : Nat} (h1 : memN 100 t.vs = true) (h2 : memN 101 t.vs = true) (h3 : ∀ i, f ≤ i → i < f + m → inR t.ts i = true) {a b : Int} {g : Nat → Int → Int} : Agree t ρ (ρ.tk [(100, a), (101, b)] f m g) :=
 tk_agree (fun x hx => by
  rcases List.mem_cons.1 hx with rfl | hx
  ·exact h1
  ·obtain rfl := List.mem_singleton.1 hx
   exact h2) h3
theorem tk_one {t : Tch} {ρ : Env} (h1 : memN 100 t.vs = true) {a : Int} {g : Nat → Int → Int} : Agree t ρ (ρ.tk [(100, a)] 0 0 g) :=
 tk_agree (fun x hx => by
  obtain rfl := List.mem_singleton.1 hx
  exact h1) (fun i hi hj => by omega)
def InI (z : Int) : Prop := -9223372036854775808 ≤ z ∧ z ≤ 9223372036854775807
theorem wrap_i {z : Int} (h : InI z) : IntKind.i64.wrap z = z := wrap_in (by simp [kLo]; exact h.1) (by simp [kHi]; exact h.2)
def nilEnv : Env := { b := fun _ => false, v := fun _ => 0, f1 := fun _ _ => 0, f2 := fun _ _ _ => 0, s := fun _ => [], sf := fun _ _ => [], ro := fun _ => .deferred none, win := fun _ => ⟨0, 0, none⟩ }
def kV (n : Int) : Int := (kE (.lit n)).den nilEnv
def hV (n : Int) : Int := (hE (.lit n)).den nilEnv
theorem kh_fin : ∀ b : Fin 256, (1 ≤ kV ((b.val : Nat) : Int) ∧ kV ((b.val : Nat) : Int) ≤ 5) ∧ (0 ≤ hV ((b.val : Nat) : Int) ∧ hV ((b.val : Nat) : Int) < 4) := by decide +kernel
def byteV (g : Int → Int) (i : Int) : Int := IntKind.u8.wrap (g i)
theorem u8_in (z : Int) : 0 ≤ IntKind.u8.wrap z ∧ IntKind.u8.wrap z ≤ 255 := by
 simp [IntKind.wrap, IntKind.bits, IntKind.signed]
 omega
theorem u8_same {z : Int} (h : 0 ≤ z ∧ z ≤ 255) : IntKind.u8.wrap z = z := wrap_in (by simp [kLo]; omega) (by simp [kHi]; omega)
theorem byteV_in (g : Int → Int) (i : Int) : 0 ≤ byteV g i ∧ byteV g i ≤ 255 := u8_in _
theorem kV_in {b : Int} (h : 0 ≤ b ∧ b ≤ 255) : 1 ≤ kV b ∧ kV b ≤ 5 := by
 have := (kh_fin ⟨b.toNat, by omega⟩).1
 rwa [show ((b.toNat : Nat) : Int) = b by omega] at this
theorem hV_in {b : Int} (h : 0 ≤ b ∧ b ≤ 255) : 0 ≤ hV b ∧ hV b < 4 := by
 have := (kh_fin ⟨b.toNat, by omega⟩).2
 rwa [show ((b.toNat : Nat) : Int) = b by omega] at this
def el (g : Int → Int) (n : Int) (c : Nat) (j : Int) : Int := match c with
 | 0 => kV (byteV g (2 * j))
 | 1 => hV (byteV g (2 * j))
 | _ => if 2 * j + 1 < n then byteV g (2 * j + 1) else 0
theorem el_in (g : Int → Int) (n : Int) (c : Nat) (j : Int) : InI (el g n c j) := by
 have hb := byteV_in g (2 * j)
 have hb' := byteV_in g (2 * j + 1)
 have h1 := kV_in hb
 have h2 := hV_in hb
 unfold InI el
 split
 ·omega
 ·omega
 ·split <;> omega
def rowF (g : Int → Int) (n m : Int) (c : Nat) (j : Int) : Int := if 0 ≤ j ∧ j < m then el g n c j else 0
theorem rowF_in (g : Int → Int) (n m : Int) (c : Nat) (j : Int) : IntKind.i64.wrap (rowF g n m c j) = rowF g n m c j := by
 refine wrap_i ?_
 unfold rowF
 split
 ·exact el_in ..
 ·unfold InI; omega
theorem three {P : Nat → CK → Prop} (h : P 0 (.int .i64) ∧ P 1 (.int .i64) ∧ P 2 (.int .i64)) : ∀ (c : Nat) (k : CK), [CK.int .i64, .int .i64, .int .i64][c]? = some k → P c k := by
 intro c k hk
 match c, hk with
 | 0, hk => obtain rfl := Option.some.inj hk; exact h.1
 | 1, hk => obtain rfl := Option.some.inj hk; exact h.2.1
 | 2, hk => obtain rfl := Option.some.inj hk; exact h.2.2
theorem only {P : Nat → CK → Prop} (h : P 0 (.int .u8)) : ∀ (c : Nat) (k : CK), [CK.int .u8][c]? = some k → P c k := by
 intro c k hk
 match c, hk with
 | 0, hk => obtain rfl := Option.some.inj hk; exact h
theorem rowF_step {g : Int → Int} {n k : Int} (hk : 0 ≤ k) (c : Nat) (j : Int) : rowF g n (k + 1) c j = if j = k then el g n c k else rowF g n k c j := by
 unfold rowF
 by_cases e : j = k
 ·subst e
  rw [if_pos ⟨hk, by omega⟩, if_pos rfl]
 ·rw [if_neg e]
  by_cases q : 0 ≤ j ∧ j < k
  ·rw [if_pos q, if_pos ⟨q.1, by omega⟩]
  ·rw [if_neg q, if_neg (by omega)]
theorem row_put {ρ1 ρ2 : Env} {g : Int → Int} {n k : Int} {i x0 x1 x2 : X} (hk : 0 ≤ k) (hi : i.den ρ1 = k) (h0 : x0.den ρ1 = el g n 0 k) (h1 : x1.den ρ1 = el g n 1 k) (h2 : x2.den ρ1 = el g n 2 k)
  (e1 : ∀ c, c < 3 → ρ1.f1 (30 + c) = rowF g n k c) (e2 : ∀ c, c < 3 → ρ2.f1 (30 + c) = rowF g n (k + 1) c) :
  ∀ (c : Nat) (q : CK), [CK.int .i64, .int .i64, .int .i64][c]? = some q → ∀ j : Int, q.val (q.sym ρ2 30 c j) = q.val (A.den ρ1 q c j (.put (.put (.put (.base 30) i 0 x0) i 1 x1) i 2 x2)) := by
 refine three ⟨fun j => ?_, fun j => ?_, fun j => ?_⟩ <;>
  (simp only [A.den, CK.sym, CK.val, hi, h0, h1, h2, e1 _ (by decide : 0 < 3), e1 _ (by decide : 1 < 3), e1 _ (by decide : 2 < 3), e2 _ (by decide : 0 < 3), e2 _ (by decide : 1 < 3), e2 _ (by decide : 2 < 3), rowF_in, rowF_step hk]; by_cases e : j = k <;> simp [e, rowF_in, wrap_i (el_in g n _ k)])
theorem wrap_0 : IntKind.i64.wrap 0 = 0 := by decide
theorem row_first {ρ1 ρ2 : Env} {g : Int → Int} {n : Int} {i x0 x1 x2 : X} (hi : i.den ρ1 = 0) (h0 : x0.den ρ1 = el g n 0 0) (h1 : x1.den ρ1 = el g n 1 0) (h2 : x2.den ρ1 = el g n 2 0) (e2 : ∀ c, c < 3 → ρ2.f1 (30 + c) = rowF g n 1 c) :
  ∀ (c : Nat) (q : CK), [CK.int .i64, .int .i64, .int .i64][c]? = some q → ∀ j : Int, q.val (q.sym ρ2 30 c j) = q.val (A.den ρ1 q c j (.put (.put (.put (.fill (.lit 0)) i 0 x0) i 1 x1) i 2 x2)) := by
 have hf : ∀ c j, rowF g n 1 c j = if j = 0 then el g n c 0 else 0 := by
  intro c j
  have := rowF_step (g := g) (n := n) (Int.le_refl 0) c j
  rw [show (0 : Int) + 1 = 1 by omega] at this
  rw [this]
  by_cases e : j = 0
  ·simp [e]
  ·rw [if_neg e, if_neg e]
   unfold rowF
   rw [if_neg (by omega)]
 refine three ⟨fun j => ?_, fun j => ?_, fun j => ?_⟩ <;>
  (simp only [A.den, X.den, CK.sym, CK.val, hi, h0, h1, h2, e2 _ (by decide : 0 < 3), e2 _ (by decide : 1 < 3), e2 _ (by decide : 2 < 3), hf]; by_cases e : j = 0 <;> simp [e, wrap_i (el_in g n _ 0), wrap_0])
structure SpecA (ρ : Env) : Prop where
 m : ρ.v 62 = (ρ.v 60 + 1) / 2
 r : ∀ c, c < 3 → ρ.f1 (20 + c) = rowF (ρ.f1 10) (ρ.v 60) ((ρ.v 60 + 1) / 2) c
theorem allB {ρ : Env} : SumOk Tryz.prog cxB ρ := sum_flags (c := cxD) allD
theorem code_B {ρ : Env} : CodeOk Tryz.prog cxB ρ (ev cxB 4000).code := (ev_ok mixed_door tt_ok ft_ok allB 4000).1
section
variable {ρ : Env} {cx : Cx}
def envA (ρ : Env) (k : Int) : Env := ρ.tk [(100, 2 * k), (101, k)] 30 3 fun c j => rowF (ρ.f1 10) (ρ.v 60) k c j
theorem envA_row (ρ : Env) (k : Int) : ∀ c, c < 3 → (envA ρ k).f1 (30 + c) = rowF (ρ.f1 10) (ρ.v 60) k c := by
 intro c hc
 match c, hc with
 | 0, _ => rfl
 | 1, _ => rfl
 | 2, _ => rfl
theorem inR_A : ∀ i, 30 ≤ i → i < 30 + 3 → inR A1T.ts i = true := by
 intro i h1 h2
 obtain rfl | rfl | rfl : i = 30 ∨ i = 31 ∨ i = 32 := by omega
 ·rfl
 ·rfl
 ·rfl
theorem A_told {L : LoopI} {I : Pat} {O : OutP} (hng : cx.ng = 7) (hn : PcOk ρ L.st.pc → 2 ≤ ρ.v 60)
  (hchk : (match (ev cxB 4000).code L.rnd L.body I.fr I.st with | raw => chkTree A1T L.st.n I [O] raw (fillLL I [O] raw A1LL)) = true) (hok : loopOk 7 L I [O] = true) (hent : fit A1T (fillMt I L.fr L.st A1S.v A1S.a) L.st.n I L.fr L.st = true)
  (hres : L.res = .ok (O.ex, O.pat.fr, ⟨O.pat.st.h, O.pat.st.n, L.st.pc⟩)) (hS : SpecA ρ) : LoopTold Tryz.prog cx ρ L := by
 intro res hr S π0 w a r n hh
 have hn2 := hn hh.pc
 have ag : ∀ k, Agree A1T ρ (envA ρ k) := fun k => tk_two rfl rfl inR_A
 refine loop_told2 (cxB := cxB) (t := A1T) (I := I) (outs := [O]) (ll := A1LL) (N := 4000) (ng := 7) A1S (fun ρ1 => ∃ k : Int, 1 ≤ k ∧ 2 * k ≤ ρ.v 60 + 1 ∧ ρ1 = envA ρ k) (fun ρ1 => (ρ.v 60 + 2 - ρ1.v 100).toNat)
  (fun _ _ => code_B) rfl hng hchk hok hent ⟨envA ρ 1, ⟨ag 1, fun i x h => ?_, fun f ks q h => ?_⟩, 1, by omega, by omega, rfl⟩ ?_ res hr S π0 w a r n hh
 ·rcases look_two h with ⟨rfl, rfl⟩ | ⟨rfl, rfl⟩ <;> rfl
 ·obtain ⟨rfl, e⟩ := look_one h
  obtain ⟨rfl, rfl⟩ := Prod.mk.inj e
  refine row_first (g := ρ.f1 10) (n := ρ.v 60) rfl rfl rfl ?_ (envA_row ρ 1)
  exact (if_pos (by omega) : el (ρ.f1 10) (ρ.v 60) 2 0 = byteV (ρ.f1 10) (2 * 0 + 1)).symm
 ·rintro ρ1 ⟨k, h1, h2, rfl⟩ _
  have put : ∀ {x : X}, x.den (envA ρ k) = el (ρ.f1 10) (ρ.v 60) 2 k → ∀ (c : Nat) (q : CK), [CK.int .i64, .int .i64, .int .i64][c]? = some q → ∀ j : Int, q.val (q.sym (envA ρ (k + 1)) 30 c j) = q.val (A.den (envA ρ k) q c j (.put (.put (.put (.base 30) (.var 101) 0 (kE (.wrap .u8 (.fn1 10 (.var 100))))) (.var 101) 1 (hE (.wrap .u8 (.fn1 10 (.var 100))))) (.var 101) 2 x)) :=
   fun hx => row_put (g := ρ.f1 10) (n := ρ.v 60) (k := k) (by omega) rfl rfl rfl hx (envA_row ρ k) (envA_row ρ (k + 1))
  by_cases c1 : 2 * k < ρ.v 60
  ·have t1 : (X.lt (.var 100) (.var 60)).tt (envA ρ k) = true := lt2 rfl rfl c1
   by_cases c2 : ρ.v 60 - 2 * k < 2
   ·have t2 : (X.lt (.sub (.var 60) (.var 100)) (.lit 2)).tt (envA ρ k) = true := lt2 rfl rfl c2
    refine ⟨_, by simp only [A1LL, R.sel, t1, t2, if_true]; rfl, ?_⟩
    dsimp only
    refine ⟨envA ρ (k + 1), ⟨(ag k).symm.trans (ag (k + 1)), fun i x h => ?_, fun f ks q h => ?_⟩, ⟨k + 1, by omega, by omega, rfl⟩, ?_⟩
    ·rcases look_two h with ⟨rfl, rfl⟩ | ⟨rfl, rfl⟩
     ·show 2 * (k + 1) = 2 * k + 2
      omega
     ·rfl
    ·obtain ⟨rfl, e⟩ := look_one h
     obtain ⟨rfl, rfl⟩ := Prod.mk.inj e
     exact put (if_neg (by omega) : el (ρ.f1 10) (ρ.v 60) 2 k = 0).symm
    ·show (ρ.v 60 + 2 - 2 * (k + 1)).toNat < (ρ.v 60 + 2 - 2 * k).toNat
     omega
   ·have t2 : (X.lt (.sub (.var 60) (.var 100)) (.lit 2)).tt (envA ρ k) = false := lt2n rfl rfl c2
    refine ⟨_, by simp only [A1LL, R.sel, t1, t2, if_true, Bool.false_eq_true, if_false]; rfl, ?_⟩
    dsimp only
    refine ⟨envA ρ (k + 1), ⟨(ag k).symm.trans (ag (k + 1)), fun i x h => ?_, fun f ks q h => ?_⟩, ⟨k + 1, by omega, by omega, rfl⟩, ?_⟩
    ·rcases look_two h with ⟨rfl, rfl⟩ | ⟨rfl, rfl⟩
     ·show 2 * (k + 1) = 2 * k + 2
      omega
     ·rfl
    ·obtain ⟨rfl, e⟩ := look_one h
     obtain ⟨rfl, rfl⟩ := Prod.mk.inj e
     exact put (if_pos (by omega) : el (ρ.f1 10) (ρ.v 60) 2 k = byteV (ρ.f1 10) (2 * k + 1)).symm
    ·show (ρ.v 60 + 2 - 2 * (k + 1)).toNat < (ρ.v 60 + 2 - 2 * k).toNat
     omega
  ·have t1 : (X.lt (.var 100) (.var 60)).tt (envA ρ k) = false := lt2n rfl rfl c1
   have hk : k = (ρ.v 60 + 1) / 2 := by omega
   refine ⟨_, by simp only [A1LL, R.sel, t1, Bool.false_eq_true, if_false]; rfl, ?_⟩
   dsimp only
   refine ⟨⟨(ag k).symm, fun i x h => ?_, fun f ks q h => ?_⟩, O, rfl, by rw [hres]; rfl⟩
   ·obtain ⟨rfl, rfl⟩ := look_one h
    show ρ.v 62 = k
    rw [hS.m, hk]
   ·obtain ⟨rfl, e⟩ := look_one h
    obtain ⟨rfl, rfl⟩ := Prod.mk.inj e
    refine three ⟨fun j => ?_, fun j => ?_, fun j => ?_⟩
    ·show Value.int .i64 (IntKind.i64.wrap (ρ.f1 (20 + 0) j)) = Value.int .i64 (IntKind.i64.wrap ((envA ρ k).f1 (30 + 0) j))
     rw [hS.r 0 (by decide), envA_row ρ k 0 (by decide), hk]
    ·show Value.int .i64 (IntKind.i64.wrap (ρ.f1 (20 + 1) j)) = Value.int .i64 (IntKind.i64.wrap ((envA ρ k).f1 (30 + 1) j))
     rw [hS.r 1 (by decide), envA_row ρ k 1 (by decide), hk]
    ·show Value.int .i64 (IntKind.i64.wrap (ρ.f1 (20 + 2) j)) = Value.int .i64 (IntKind.i64.wrap ((envA ρ k).f1 (30 + 2) j))
     rw [hS.r 2 (by decide), envA_row ρ k 2 (by decide), hk]
end
end Go.Proofs.YtennjdjcjjjmiaaGreatDoor
namespace Go.Proofs.YtennjdjcjjjmiaaGreatDoor
open Go Go.Proofs
def nV (n : Int) : Int := (nE (.lit n)).den nilEnv
def bit0 (a b : Int) : Int := IntKind.u8.wrap (bitsI 1 .i64 (nV a) (IntKind.i64.wrap (b * 8)))
def okC (a b c : Int) : Prop := 0 ≤ nV a ∧ 0 ≤ b ∧ b < 4 ∧ 0 ≤ c ∧ c ≤ 255
def wI (g : Int → Int) (j : Int) : Int := IntKind.i64.wrap (g j)
def rowB (a b c : Int → Int) (k : Int) (j : Int) : Int := if 0 ≤ j ∧ j < 2 * k then (if j % 2 = 0 then bit0 (wI a (j / 2)) (wI b (j / 2)) else IntKind.u8.wrap (wI c (j / 2))) else 0
theorem rowB_in (a b c : Int → Int) (k j : Int) : IntKind.u8.wrap (rowB a b c k j) = rowB a b c k j := by
 refine u8_same ?_
 unfold rowB
 split
 ·split
  ·exact u8_in _
  ·exact u8_in _
 ·omega
theorem rowB_step {a b c : Int → Int} {k : Int} (hk : 0 ≤ k) (j : Int) : rowB a b c (k + 1) j = if j = 2 * k + 1 then IntKind.u8.wrap (wI c k) else if j = 2 * k then bit0 (wI a k) (wI b k) else rowB a b c k j := by
 unfold rowB
 by_cases e1 : j = 2 * k + 1
 ·rw [if_pos ⟨by omega, by omega⟩, if_neg (by omega), if_pos e1, show j / 2 = k by omega]
 ·rw [if_neg e1]
  by_cases e2 : j = 2 * k
  ·rw [if_pos ⟨by omega, by omega⟩, if_pos (by omega), if_pos e2, show j / 2 = k by omega]
  ·rw [if_neg e2]
   by_cases q : 0 ≤ j ∧ j < 2 * k
   ·rw [if_pos q, if_pos ⟨q.1, by omega⟩]
   ·rw [if_neg q, if_neg (by omega)]
def allC (ρ : Env) (n : Int) : Prop := ∀ j : Int, 0 ≤ j → j < n → okC (wI (ρ.f1 40) j) (wI (ρ.f1 41) j) (wI (ρ.f1 42) j)
structure SpecB (ρ : Env) : Prop where
 n : ρ.v 63 = 2 * ρ.v 50
 yes : allC ρ (ρ.v 50) → ρ.v 64 ≠ 0
 no : ¬ allC ρ (ρ.v 50) → ρ.v 64 = 0
 r : ρ.f1 60 = rowB (ρ.f1 40) (ρ.f1 41) (ρ.f1 42) (ρ.v 50)
theorem RoAll.of {ρ : Env} (h : RoAt ρ LStart) : ∀ ρ' : Env, ρ'.ro = ρ.ro → RoAt ρ' LStart := fun ρ' hr => ⟨fun x hx => by
 simp only [LStart, List.mem_singleton] at hx
 subst hx
 obtain ⟨t, fr, h2⟩ := h.is _ (List.mem_singleton.2 rfl)
 exact ⟨t, fr, fun π => by rw [hr, h2 π, asciiL_concs, asciiL_concs]⟩⟩
theorem Ix_at {cx : Cx} {ρ : Env} (hng : cx.ng = 7) (hro : RoAt ρ LStart) : SumAt Tryz.prog cx ρ 21 (sumFree LStart 7 IxP IxR) :=
 sumFree_ok (cx0 := cxI) (N := 4000) mixed_door tt_ok ft_ok hng rfl LStart_lt (RoAll.of hro) Tryz.func21 (by rw [evT_call]; exact Ix_run) fun _ _ => sum_flags (c := cxD) allD
theorem allR {ρ : Env} (hro : RoAt ρ LStart) : SumOk Tryz.prog cxR ρ := smOf_okL (l := [(21, sumFree LStart 7 IxP IxR)]) ⟨Ix_at rfl hro, trivial⟩ rfl
theorem code_R {ρ : Env} (hro : RoAt ρ LStart) : CodeOk Tryz.prog cxR ρ (ev cxR 4000).code := (ev_ok mixed_door tt_ok ft_ok (allR hro) 4000).1
section
variable {ρ : Env} {cx : Cx}
def envB (ρ : Env) (k : Int) : Env := ρ.tk [(100, 2 * k), (101, k)] 30 1 fun _ j => rowB (ρ.f1 40) (ρ.f1 41) (ρ.f1 42) k j
theorem inR_B : ∀ i, 30 ≤ i → i < 30 + 1 → inR B1T.ts i = true := by
 intro i h1 h2
 obtain rfl : i = 30 := by omega
 rfl
theorem B_told {L : LoopI} {I : Pat} {O0 O1 : OutP} (hng : cx.ng = 7) (hro : RoAt ρ LStart) (hn : PcOk ρ L.st.pc → 1 ≤ ρ.v 50)
  (hchk : (match (ev cxR 4000).code L.rnd L.body I.fr I.st with | raw => chkTree B1T L.st.n I [O0, O1] raw (fillLL I [O0, O1] raw B1LL)) = true) (hok : loopOk 7 L I [O0, O1] = true) (hent : fit B1T (fillMt I L.fr L.st B1S.v B1S.a) L.st.n I L.fr L.st = true)
  (hres : L.res = .br (.eq (.var 64) (.lit 0)) (.ok (O0.ex, O0.pat.fr, ⟨O0.pat.st.h, O0.pat.st.n, L.st.pc⟩)) (.ok (O1.ex, O1.pat.fr, ⟨O1.pat.st.h, O1.pat.st.n, L.st.pc⟩))) (hS : SpecB ρ) : LoopTold Tryz.prog cx ρ L := by
 intro res hr S π0 w a r n hh
 have hn1 := hn hh.pc
 have ag : ∀ k, Agree B1T ρ (envB ρ k) := fun k => tk_two rfl rfl inR_B
 refine loop_told2 (cxB := cxR) (t := B1T) (I := I) (outs := [O0, O1]) (ll := B1LL) (N := 4000) (ng := 7) B1S (fun ρ1 => ∃ k : Int, 0 ≤ k ∧ k ≤ ρ.v 50 ∧ allC ρ k ∧ ρ1 = envB ρ k) (fun ρ1 => (ρ.v 50 + 2 - ρ1.v 101).toNat)
  (fun ρ1 h1 => code_R (by obtain ⟨k, _, _, _, rfl⟩ := h1; exact RoAll.of hro _ rfl)) rfl hng hchk hok hent ⟨envB ρ 0, ⟨ag 0, fun i x h => ?_, fun f ks q h => ?_⟩, 0, by omega, by omega, fun j h1 h2 => by omega, rfl⟩ ?_ res hr S π0 w a r n hh
 ·rcases look_two h with ⟨rfl, rfl⟩ | ⟨rfl, rfl⟩ <;> rfl
 ·obtain ⟨rfl, e⟩ := look_one h
  obtain ⟨rfl, rfl⟩ := Prod.mk.inj e
  refine only fun j => ?_
  show Value.int .u8 (IntKind.u8.wrap (rowB (ρ.f1 40) (ρ.f1 41) (ρ.f1 42) 0 j)) = Value.int .u8 0
  rw [rowB_in]
  unfold rowB
  rw [if_neg (by omega)]
 ·rintro ρ1 ⟨k, h1, h2, h3, rfl⟩ _
  by_cases c1 : k < ρ.v 50
  ·have t1 : (X.lt (.var 101) (.var 50)).tt (envB ρ k) = true := lt2 rfl rfl c1
   have bad : ¬ okC (wI (ρ.f1 40) k) (wI (ρ.f1 41) k) (wI (ρ.f1 42) k) → ∃ O, nth [O0, O1] 0 = some O ∧ L.res.sel ρ = some (O.ex, O.pat.fr, ⟨O.pat.st.h, O.pat.st.n, L.st.pc⟩) := by
    intro hb
    refine ⟨O0, rfl, ?_⟩
    have t : (X.eq (.var 64) (.lit 0)).tt ρ = true := eq2 rfl rfl (hS.no fun h => hb (h k h1 c1))
    rw [hres]
    simp only [R.sel, t, if_true]
   have out0 : EnvRel B1T (envB ρ k) ρ (mtV [] []) := ⟨(ag k).symm, fun i x h => (look_nil h).elim, fun f ks q h => (look_nil h).elim⟩
   by_cases d1 : nV (wI (ρ.f1 40) k) < 0
   ·have u1 : (X.lt (nE (.wrap .i64 (.fn1 40 (.var 101)))) (.lit 0)).tt (envB ρ k) = true := lt2 rfl rfl d1
    exact ⟨.out 0 (mtV [] []), by simp only [B1LL, R.sel, t1, u1, if_true], out0, bad fun h => by have := h.1; omega⟩
   have u1 : (X.lt (nE (.wrap .i64 (.fn1 40 (.var 101)))) (.lit 0)).tt (envB ρ k) = false := lt2n rfl rfl d1
   by_cases d2 : wI (ρ.f1 41) k < 0
   ·have u2 : (X.lt (.wrap .i64 (.fn1 41 (.var 101))) (.lit 0)).tt (envB ρ k) = true := lt2 rfl rfl d2
    exact ⟨.out 0 (mtV [] []), by simp only [B1LL, R.sel, t1, u1, u2, if_true, Bool.false_eq_true, if_false], out0, bad fun h => by have := h.2.1; omega⟩
   have u2 : (X.lt (.wrap .i64 (.fn1 41 (.var 101))) (.lit 0)).tt (envB ρ k) = false := lt2n rfl rfl d2
   by_cases d3 : ¬ wI (ρ.f1 41) k < 4
   ·have u3 : (X.lt (.wrap .i64 (.fn1 41 (.var 101))) (.lit 4)).tt (envB ρ k) = false := lt2n rfl rfl d3
    exact ⟨.out 0 (mtV [] []), by simp only [B1LL, R.sel, t1, u1, u2, u3, if_true, Bool.false_eq_true, if_false], out0, bad fun h => by have := h.2.2.1; omega⟩
   have u3 : (X.lt (.wrap .i64 (.fn1 41 (.var 101))) (.lit 4)).tt (envB ρ k) = true := lt2 rfl rfl (Decidable.not_not.1 d3)
   by_cases d4 : wI (ρ.f1 42) k < 0
   ·have u4 : (X.lt (.wrap .i64 (.fn1 42 (.var 101))) (.lit 0)).tt (envB ρ k) = true := lt2 rfl rfl d4
    exact ⟨.out 0 (mtV [] []), by simp only [B1LL, R.sel, t1, u1, u2, u3, u4, if_true, Bool.false_eq_true, if_false], out0, bad fun h => by have := h.2.2.2.1; omega⟩
   have u4 : (X.lt (.wrap .i64 (.fn1 42 (.var 101))) (.lit 0)).tt (envB ρ k) = false := lt2n rfl rfl d4
   by_cases d5 : 255 < wI (ρ.f1 42) k
   ·have u5 : (X.lt (.lit 255) (.wrap .i64 (.fn1 42 (.var 101)))).tt (envB ρ k) = true := lt2 rfl rfl d5
    exact ⟨.out 0 (mtV [] []), by simp only [B1LL, R.sel, t1, u1, u2, u3, u4, u5, if_true, Bool.false_eq_true, if_false], out0, bad fun h => by have := h.2.2.2.2; omega⟩
   have u5 : (X.lt (.lit 255) (.wrap .i64 (.fn1 42 (.var 101)))).tt (envB ρ k) = false := lt2n rfl rfl d5
   have hk : okC (wI (ρ.f1 40) k) (wI (ρ.f1 41) k) (wI (ρ.f1 42) k) := ⟨by omega, by omega, by omega, by omega, by omega⟩
   refine ⟨_, by simp only [B1LL, R.sel, t1, u1, u2, u3, u4, u5, if_true, Bool.false_eq_true, if_false]; rfl, ?_⟩
   dsimp only
   refine ⟨envB ρ (k + 1), ⟨(ag k).symm.trans (ag (k + 1)), fun i x h => ?_, fun f ks q h => ?_⟩, ⟨k + 1, by omega, by omega, fun j g1 g2 => ?_, rfl⟩, ?_⟩
   ·rcases look_two h with ⟨rfl, rfl⟩ | ⟨rfl, rfl⟩
    ·show 2 * (k + 1) = 2 * k + 2
     omega
    ·rfl
   ·obtain ⟨rfl, e⟩ := look_one h
    obtain ⟨rfl, rfl⟩ := Prod.mk.inj e
    refine only fun j => ?_
    show Value.int .u8 (IntKind.u8.wrap (rowB (ρ.f1 40) (ρ.f1 41) (ρ.f1 42) (k + 1) j)) = Value.int .u8 (if 0 = 0 ∧ j = 2 * k + 1 then IntKind.u8.wrap (wI (ρ.f1 42) k) else if 0 = 0 ∧ j = 2 * k then bit0 (wI (ρ.f1 40) k) (wI (ρ.f1 41) k) else IntKind.u8.wrap (rowB (ρ.f1 40) (ρ.f1 41) (ρ.f1 42) k j))
    rw [rowB_in, rowB_in, rowB_step h1]
    simp
   ·rcases Int.lt_or_eq_of_le (Int.lt_add_one_iff.1 g2) with g3 | rfl
    ·exact h3 j g1 g3
    ·exact hk
   ·show (ρ.v 50 + 2 - (k + 1)).toNat < (ρ.v 50 + 2 - k).toNat
    omega
  ·have t1 : (X.lt (.var 101) (.var 50)).tt (envB ρ k) = false := lt2n rfl rfl c1
   have hk : k = ρ.v 50 := by omega
   have t : (X.eq (.var 64) (.lit 0)).tt ρ = false := eq2n rfl rfl (hS.yes (hk ▸ h3))
   refine ⟨_, by simp only [B1LL, R.sel, t1, Bool.false_eq_true, if_false]; rfl, ?_⟩
   dsimp only
   refine ⟨⟨(ag k).symm, fun i x h => ?_, fun f ks q h => ?_⟩, O1, rfl, by rw [hres]; simp only [R.sel, t, Bool.false_eq_true, if_false]⟩
   ·obtain ⟨rfl, rfl⟩ := look_one h
    show ρ.v 63 = 2 * k
    rw [hS.n, hk]
   ·obtain ⟨rfl, e⟩ := look_one h
    obtain ⟨rfl, rfl⟩ := Prod.mk.inj e
    refine only fun j => ?_
    show Value.int .u8 (IntKind.u8.wrap (ρ.f1 60 j)) = Value.int .u8 (IntKind.u8.wrap (rowB (ρ.f1 40) (ρ.f1 41) (ρ.f1 42) k j))
    rw [hS.r, hk]
def sameC (ρ : Env) (j : Int) : Prop := wI (ρ.f1 40) j = wI (ρ.f1 44) j ∧ wI (ρ.f1 41) j = wI (ρ.f1 45) j ∧ wI (ρ.f1 42) j = wI (ρ.f1 46) j
def allS (ρ : Env) (n : Int) : Prop := ∀ j : Int, 0 ≤ j → j < n → sameC ρ j
structure SpecD (ρ : Env) : Prop where
 yes : allS ρ (ρ.v 50) → ρ.v 66 ≠ 0
 no : ¬ allS ρ (ρ.v 50) → ρ.v 66 = 0
def envD (ρ : Env) (k : Int) : Env := ρ.tk [(100, k)] 0 0 fun _ _ => 0
theorem D_told {L : LoopI} {I : Pat} {O0 O1 : OutP} (hng : cx.ng = 7) (hn : PcOk ρ L.st.pc → 1 ≤ ρ.v 50)
  (hchk : (match (ev cxB 4000).code L.rnd L.body I.fr I.st with | raw => chkTree D1T L.st.n I [O0, O1] raw (fillLL I [O0, O1] raw D1LL)) = true) (hok : loopOk 7 L I [O0, O1] = true) (hent : fit D1T (fillMt I L.fr L.st D1S.v D1S.a) L.st.n I L.fr L.st = true)
  (hres : L.res = .br (.eq (.var 66) (.lit 0)) (.ok (O0.ex, O0.pat.fr, ⟨O0.pat.st.h, O0.pat.st.n, L.st.pc⟩)) (.ok (O1.ex, O1.pat.fr, ⟨O1.pat.st.h, O1.pat.st.n, L.st.pc⟩))) (hS : SpecD ρ) : LoopTold Tryz.prog cx ρ L := by
 intro res hr S π0 w a r n hh
 have hn1 := hn hh.pc
 have ag : ∀ k, Agree D1T ρ (envD ρ k) := fun k => tk_one rfl
 refine loop_told2 (cxB := cxB) (t := D1T) (I := I) (outs := [O0, O1]) (ll := D1LL) (N := 4000) (ng := 7) D1S (fun ρ1 => ∃ k : Int, 0 ≤ k ∧ k ≤ ρ.v 50 ∧ allS ρ k ∧ ρ1 = envD ρ k) (fun ρ1 => (ρ.v 50 + 2 - ρ1.v 100).toNat)
  (fun _ _ => code_B) rfl hng hchk hok hent ⟨envD ρ 0, ⟨ag 0, fun i x h => ?_, fun f ks q h => (look_nil h).elim⟩, 0, by omega, by omega, fun j h1 h2 => by omega, rfl⟩ ?_ res hr S π0 w a r n hh
 ·obtain ⟨rfl, rfl⟩ := look_one h
  rfl
 ·rintro ρ1 ⟨k, h1, h2, h3, rfl⟩ _
  by_cases c1 : k < ρ.v 50
  ·have t1 : (X.lt (.var 100) (.var 50)).tt (envD ρ k) = true := lt2 rfl rfl c1
   have bad : ¬ sameC ρ k → ∃ O, nth [O0, O1] 0 = some O ∧ L.res.sel ρ = some (O.ex, O.pat.fr, ⟨O.pat.st.h, O.pat.st.n, L.st.pc⟩) := by
    intro hb
    refine ⟨O0, rfl, ?_⟩
    have t : (X.eq (.var 66) (.lit 0)).tt ρ = true := eq2 rfl rfl (hS.no fun h => hb (h k h1 c1))
    rw [hres]
    simp only [R.sel, t, if_true]
   have out0 : EnvRel D1T (envD ρ k) ρ (mtV [] []) := ⟨(ag k).symm, fun i x h => (look_nil h).elim, fun f ks q h => (look_nil h).elim⟩
   by_cases d1 : ¬ wI (ρ.f1 40) k = wI (ρ.f1 44) k
   ·have u1 : (X.eq (.wrap .i64 (.fn1 40 (.var 100))) (.wrap .i64 (.fn1 44 (.var 100)))).tt (envD ρ k) = false := eq2n rfl rfl d1
    exact ⟨.out 0 (mtV [] []), by simp only [D1LL, R.sel, t1, u1, if_true, Bool.false_eq_true, if_false], out0, bad fun h => d1 h.1⟩
   have u1 : (X.eq (.wrap .i64 (.fn1 40 (.var 100))) (.wrap .i64 (.fn1 44 (.var 100)))).tt (envD ρ k) = true := eq2 rfl rfl (Decidable.not_not.1 d1)
   by_cases d2 : ¬ wI (ρ.f1 41) k = wI (ρ.f1 45) k
   ·have u2 : (X.eq (.wrap .i64 (.fn1 41 (.var 100))) (.wrap .i64 (.fn1 45 (.var 100)))).tt (envD ρ k) = false := eq2n rfl rfl d2
    exact ⟨.out 0 (mtV [] []), by simp only [D1LL, R.sel, t1, u1, u2, if_true, Bool.false_eq_true, if_false], out0, bad fun h => d2 h.2.1⟩
   have u2 : (X.eq (.wrap .i64 (.fn1 41 (.var 100))) (.wrap .i64 (.fn1 45 (.var 100)))).tt (envD ρ k) = true := eq2 rfl rfl (Decidable.not_not.1 d2)
   by_cases d3 : ¬ wI (ρ.f1 42) k = wI (ρ.f1 46) k
   ·have u3 : (X.eq (.wrap .i64 (.fn1 42 (.var 100))) (.wrap .i64 (.fn1 46 (.var 100)))).tt (envD ρ k) = false := eq2n rfl rfl d3
    exact ⟨.out 0 (mtV [] []), by simp only [D1LL, R.sel, t1, u1, u2, u3, if_true, Bool.false_eq_true, if_false], out0, bad fun h => d3 h.2.2⟩
   have u3 : (X.eq (.wrap .i64 (.fn1 42 (.var 100))) (.wrap .i64 (.fn1 46 (.var 100)))).tt (envD ρ k) = true := eq2 rfl rfl (Decidable.not_not.1 d3)
   refine ⟨_, by simp only [D1LL, R.sel, t1, u1, u2, u3, if_true]; rfl, ?_⟩
   dsimp only
   refine ⟨envD ρ (k + 1), ⟨(ag k).symm.trans (ag (k + 1)), fun i x h => ?_, fun f ks q h => (look_nil h).elim⟩, ⟨k + 1, by omega, by omega, fun j g1 g2 => ?_, rfl⟩, ?_⟩
   ·obtain ⟨rfl, rfl⟩ := look_one h
    rfl
   ·rcases Int.lt_or_eq_of_le (Int.lt_add_one_iff.1 g2) with g3 | rfl
    ·exact h3 j g1 g3
    ·exact ⟨Decidable.not_not.1 d1, Decidable.not_not.1 d2, Decidable.not_not.1 d3⟩
   ·show (ρ.v 50 + 2 - (k + 1)).toNat < (ρ.v 50 + 2 - k).toNat
    omega
  ·have t1 : (X.lt (.var 100) (.var 50)).tt (envD ρ k) = false := lt2n rfl rfl c1
   have hk : k = ρ.v 50 := by omega
   have t : (X.eq (.var 66) (.lit 0)).tt ρ = false := eq2n rfl rfl (hS.yes (hk ▸ h3))
   refine ⟨_, by simp only [D1LL, R.sel, t1, Bool.false_eq_true, if_false]; rfl, ?_⟩
   dsimp only
   exact ⟨⟨(ag k).symm, fun i x h => (look_nil h).elim, fun f ks q h => (look_nil h).elim⟩, O1, rfl, by rw [hres]; simp only [R.sel, t, Bool.false_eq_true, if_false]⟩
end
theorem lpOk {cx : Cx} {ρ : Env} {L : LoopI} {c : Cx} (hc : SumOk Tryz.prog c ρ) (hl : LoopTold Tryz.prog cx ρ L) (e1 : cx.sm = c.sm) (e2 : cx.dm = c.dm) (e3 : cx.ng = c.ng) (e4 : cx.lp = some (lpOf [L])) (e5 : cx.dm = dmH := by rfl) (e6 : cx.ng = 7 := by rfl) : SumOk Tryz.prog cx ρ := by
 have h := sum_flags (c' := { cx with lp := c.lp }) hc e1 e2 e3 rfl
 refine ⟨fun f s hs args st v st' he S π0 w ac n hh ha => h.sum f s hs args st v st' he S π0 w ac n ⟨hh.pc, hh.at_, hh.glob, hh.fresh⟩ ha, fun g s hg => dm_ok e6 g s (by rw [← e5]; exact hg), fun lp hlp => ?_⟩
 rw [e4] at hlp
 obtain rfl := Option.some.inj hlp
 exact lpOf_ok fun L' hL => by obtain rfl := List.mem_singleton.1 hL; exact hl
def orS (s1 s2 : List V → St → R (V × St)) (args : List V) (st : St) : R (V × St) := match s1 args st with
 | .stuck _ => s2 args st
 | r => r
theorem orS_ok {cx : Cx} {ρ : Env} {f : FuncId} {s1 s2 : List V → St → R (V × St)} (h1 : SumAt Tryz.prog cx ρ f s1) (h2 : SumAt Tryz.prog cx ρ f s2) : SumAt Tryz.prog cx ρ f (orS s1 s2) := by
 intro args st v st' he
 unfold orS at he
 split at he
 ·exact h2 args st v st' he
 ·exact h1 args st v st' he
section
theorem n60 {ρ : Env} {pc : PC} (hp : PcOk ρ (((.lt (.var 60) (.lit 2)), false) :: pc)) : 2 ≤ ρ.v 60 := by
 have h := hp _ (List.mem_cons_self ..)
 have h2 : (X.lt (.var 60) (.lit 2)).tt ρ = decide (ρ.v 60 < 2) := lt_tt rfl rfl
 rw [h2] at h
 have := of_decide_eq_false h
 omega
theorem n50 {ρ : Env} {pc : PC} (hp : PcOk ρ (((.le (.lit 1) (.var 50)), true) :: pc)) : 1 ≤ ρ.v 50 := by
 have h := hp _ (List.mem_cons_self ..)
 have h2 : (X.le (.lit 1) (.var 50)).tt ρ = decide (1 ≤ ρ.v 50) := le_tt rfl rfl
 rw [h2] at h
 exact of_decide_eq_true h
theorem n50' {ρ : Env} {pc : PC} {f : X × Bool} (hp : PcOk ρ (f :: ((.le (.lit 1) (.var 50)), true) :: pc)) : 1 ≤ ρ.v 50 := n50 fun g hg => hp g (List.mem_cons_of_mem _ hg)
end
end Go.Proofs.YtennjdjcjjjmiaaGreatDoor
