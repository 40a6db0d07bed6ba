/- The document's Choices and Raw: their loops are told. script's functions, the document's ones: what they do, wherever they are called. No condition. -/
import Derived.Test.YtennjdjcjjjmiaaGreatDoorLTold
namespace Go.Proofs.YtennjdjcjjjmiaaGreatDoor
open Go Go.Proofs
section
variable {ρ : Env} {cx : Cx}
def envE (ρ : Env) (k : Int) : Env := ρ.tk [(100, k), (101, 2 * k)] 30 3 fun c j => rowF (ρ.f1 10) (ρ.v 60) k c j
theorem envE_row (ρ : Env) (k : Int) : ∀ c, c < 3 → (envE ρ k).f1 (30 + c) = rowF (ρ.f1 10) (ρ.v 60) k c := by
 intro c hc
 match c, hc with
 | 0, _ => rfl
 | 1, _ => rfl
 | 2, _ => rfl
theorem inR_E : ∀ i, 30 ≤ i → i < 30 + 3 → inR E1T.ts i = true := by
 intro i h1 h2
 obtain rfl | rfl | rfl : i = 30 ∨ i = 31 ∨ i = 32 := by omega
 ·rfl
 ·rfl
 ·rfl
theorem E_told {L : LoopI} {I : Pat} {O : OutP} (hng : cx.ng = 7) (hn : PcOk ρ L.st.pc → 2 ≤ ρ.v 60)
  (hchk : (match (ev cxB 4000).code L.rnd L.body I.fr I.st with | raw => chkTree E1T L.st.n I [O] raw (fillLL I [O] raw E1LL)) = true) (hok : loopOk 7 L I [O] = true) (hent : fit E1T (fillMt I L.fr L.st E1S.v E1S.a) L.st.n I L.fr L.st = true)
  (hres : L.res = .ok (O.ex, O.pat.fr, ⟨O.pat.st.h, O.pat.st.n, L.st.pc⟩)) (hS : SpecA ρ) : LoopTold Tryz.prog cx ρ L := by
 intro res hr S π0 w a r n hh
 have hn2 := hn hh.pc
 have ag : ∀ k, Agree E1T ρ (envE ρ k) := fun k => tk_two rfl rfl inR_E
 refine loop_told2 (cxB := cxB) (t := E1T) (I := I) (outs := [O]) (ll := E1LL) (N := 4000) (ng := 7) E1S (fun ρ1 => ∃ k : Int, 1 ≤ k ∧ 2 * k ≤ ρ.v 60 + 1 ∧ ρ1 = envE ρ k) (fun ρ1 => (ρ.v 60 + 2 - ρ1.v 101).toNat)
  (fun _ _ => code_B) rfl hng hchk hok hent ⟨envE ρ 1, ⟨ag 1, fun i x h => ?_, fun f ks q h => ?_⟩, 1, by omega, by omega, rfl⟩ ?_ res hr S π0 w a r n hh
 ·rcases look_two h with ⟨rfl, rfl⟩ | ⟨rfl, rfl⟩ <;> rfl
 ·obtain ⟨rfl, e⟩ := look_one h
  obtain ⟨rfl, rfl⟩ := Prod.mk.inj e
  refine row_first (g := ρ.f1 10) (n := ρ.v 60) rfl rfl rfl ?_ (envE_row ρ 1)
  exact (if_pos (by omega) : el (ρ.f1 10) (ρ.v 60) 2 0 = byteV (ρ.f1 10) (2 * 0 + 1)).symm
 ·rintro ρ1 ⟨k, h1, h2, rfl⟩ _
  by_cases c1 : 2 * k < ρ.v 60
  ·have t1 : (X.lt (.var 101) (.var 60)).tt (envE ρ k) = true := lt2 rfl rfl c1
   refine ⟨_, by simp only [E1LL, R.sel, t1, if_true]; rfl, ?_⟩
   dsimp only
   refine ⟨envE ρ (k + 1), ⟨(ag k).symm.trans (ag (k + 1)), fun i x h => ?_, fun f ks q h => ?_⟩, ⟨k + 1, by omega, by omega, rfl⟩, ?_⟩
   ·rcases look_two h with ⟨rfl, rfl⟩ | ⟨rfl, rfl⟩
    ·rfl
    ·show 2 * (k + 1) = 2 * k + 2
     omega
   ·obtain ⟨rfl, e⟩ := look_one h
    obtain ⟨rfl, rfl⟩ := Prod.mk.inj e
    refine row_put (g := ρ.f1 10) (n := ρ.v 60) (k := k) (by omega) rfl rfl rfl ?_ (envE_row ρ k) (envE_row ρ (k + 1))
    show (if b2i (decide (2 * k + 1 < ρ.v 60)) == 0 then (0 : Int) else byteV (ρ.f1 10) (2 * k + 1)) = (if 2 * k + 1 < ρ.v 60 then byteV (ρ.f1 10) (2 * k + 1) else 0)
    by_cases c2 : 2 * k + 1 < ρ.v 60 <;> simp [c2, b2i]
   ·show (ρ.v 60 + 2 - 2 * (k + 1)).toNat < (ρ.v 60 + 2 - 2 * k).toNat
    omega
  ·have t1 : (X.lt (.var 101) (.var 60)).tt (envE ρ k) = false := lt2n rfl rfl c1
   have hk : k = (ρ.v 60 + 1) / 2 := by omega
   refine ⟨_, by simp only [E1LL, R.sel, t1, Bool.false_eq_true, if_false]; rfl, ?_⟩
   dsimp only
   refine ⟨⟨(ag k).symm, fun i x h => ?_, fun f ks q h => ?_⟩, O, rfl, by rw [hres]; rfl⟩
   ·obtain ⟨rfl, rfl⟩ := look_one h
    show ρ.v 62 = k
    rw [hS.m, hk]
   ·obtain ⟨rfl, e⟩ := look_one h
    obtain ⟨rfl, rfl⟩ := Prod.mk.inj e
    refine three ⟨fun j => ?_, fun j => ?_, fun j => ?_⟩
    ·show Value.int .i64 (IntKind.i64.wrap (ρ.f1 (20 + 0) j)) = Value.int .i64 (IntKind.i64.wrap ((envE ρ k).f1 (30 + 0) j))
     rw [hS.r 0 (by decide), envE_row ρ k 0 (by decide), hk]
    ·show Value.int .i64 (IntKind.i64.wrap (ρ.f1 (20 + 1) j)) = Value.int .i64 (IntKind.i64.wrap ((envE ρ k).f1 (30 + 1) j))
     rw [hS.r 1 (by decide), envE_row ρ k 1 (by decide), hk]
    ·show Value.int .i64 (IntKind.i64.wrap (ρ.f1 (20 + 2) j)) = Value.int .i64 (IntKind.i64.wrap ((envE ρ k).f1 (30 + 2) j))
     rw [hS.r 2 (by decide), envE_row ρ k 2 (by decide), hk]
def pE (k : X) : X := .ite (.eq k (.lit 0)) (.lit 0) (.ite (.eq k (.lit 1)) (.lit 0) (.ite (.eq k (.lit 2)) (.lit 2) (.ite (.eq k (.lit 3)) (.lit 4) (.ite (.eq k (.lit 4)) (.lit 6) (.lit 7)))))
def pV (n : Int) : Int := (pE (.lit n)).den nilEnv
theorem fin_pe : ∀ (a : Fin 5) (b : Fin 4), IntKind.u8.wrap (pV ((a.val : Nat) + 1 : Int) + IntKind.u8.wrap (8 * ((b.val : Nat) : Int))) = bit0 ((a.val : Nat) + 1 : Int) ((b.val : Nat) : Int) := by decide +kernel
theorem fin_kinds : ∀ a : Fin 5, 0 ≤ nV ((a.val : Nat) + 1 : Int) := by decide +kernel
def okD (a b c : Int) : Prop := 1 ≤ a ∧ a ≤ 5 ∧ 0 ≤ b ∧ b ≤ 3 ∧ 0 ≤ c ∧ c ≤ 255
theorem okD_bits {a b c : Int} (h : okD a b c) : IntKind.u8.wrap (pV a + IntKind.u8.wrap (8 * b)) = bit0 a b := by
 obtain ⟨h1, h2, h3, h4, _, _⟩ := h
 have := fin_pe ⟨(a - 1).toNat, by omega⟩ ⟨b.toNat, by omega⟩
 dsimp only at this
 rwa [show (((a - 1).toNat : Nat) : Int) + 1 = a by omega, show ((b.toNat : Nat) : Int) = b by omega] at this
theorem okD_okC {a b c : Int} (h : okD a b c) : okC a b c := by
 obtain ⟨h1, h2, h3, h4, h5, h6⟩ := h
 refine ⟨?_, h3, by omega, h5, h6⟩
 have := fin_kinds ⟨(a - 1).toNat, by omega⟩
 dsimp only at this
 rwa [show (((a - 1).toNat : Nat) : Int) + 1 = a by omega] at this
theorem nV_range {a : Int} (h : 0 ≤ nV a) : 1 ≤ a ∧ a ≤ 5 := by
 by_cases h1 : a = 1
 ·omega
 by_cases h2 : a = 2
 ·omega
 by_cases h3 : a = 3
 ·omega
 by_cases h4 : a = 4
 ·omega
 by_cases h5 : a = 5
 ·omega
 simp [nV, nE, X.den, b2i, h1, h2, h3, h4, h5] at h
theorem inR_G : ∀ i, 30 ≤ i → i < 30 + 1 → inR G1T.ts i = true := by
 intro i h1 h2
 obtain rfl : i = 30 := by omega
 rfl
theorem G_told {L : LoopI} {I : Pat} {O0 O1 : OutP} (hng : cx.ng = 7) (hn : PcOk ρ L.st.pc → 1 ≤ ρ.v 50 ∧ okD (wI (ρ.f1 40) 0) (wI (ρ.f1 41) 0) (wI (ρ.f1 42) 0))
  (hchk : (match (ev cxB 4000).code L.rnd L.body I.fr I.st with | raw => chkTree G1T L.st.n I [O0, O1] raw (fillLL I [O0, O1] raw G1LL)) = true) (hok : loopOk 7 L I [O0, O1] = true) (hent : fit G1T (fillMt I L.fr L.st G1S.v G1S.a) L.st.n I L.fr L.st = true)
  (hres : L.res = .br (.eq (.var 64) (.lit 0)) (.ok (O0.ex, O0.pat.fr, ⟨O0.pat.st.h, O0.pat.st.n, L.st.pc⟩)) (.ok (O1.ex, O1.pat.fr, ⟨O1.pat.st.h, O1.pat.st.n, L.st.pc⟩))) (hS : SpecB ρ) : LoopTold Tryz.prog cx ρ L := by
 intro res hr S π0 w a r n hh
 obtain ⟨hn1, hd0⟩ := hn hh.pc
 have ag : ∀ k, Agree G1T ρ (envB ρ k) := fun k => tk_two rfl rfl inR_G
 have hA1 : allC ρ 1 := by
  intro j g1 g2
  obtain rfl : j = 0 := by omega
  exact okD_okC hd0
 refine loop_told2 (cxB := cxB) (t := G1T) (I := I) (outs := [O0, O1]) (ll := G1LL) (N := 4000) (ng := 7) G1S (fun ρ1 => ∃ k : Int, 1 ≤ k ∧ k ≤ ρ.v 50 ∧ allC ρ k ∧ ρ1 = envB ρ k) (fun ρ1 => (ρ.v 50 + 2 - ρ1.v 101).toNat)
  (fun _ _ => code_B) rfl hng hchk hok hent ⟨envB ρ 1, ⟨ag 1, fun i x h => ?_, fun f ks q h => ?_⟩, 1, by omega, by omega, hA1, rfl⟩ ?_ res hr S π0 w a r n hh
 ·rcases look_two h with ⟨rfl, rfl⟩ | ⟨rfl, rfl⟩ <;> rfl
 ·obtain ⟨rfl, e⟩ := look_one h
  obtain ⟨rfl, rfl⟩ := Prod.mk.inj e
  refine only fun j => ?_
  have hs := rowB_step (a := ρ.f1 40) (b := ρ.f1 41) (c := ρ.f1 42) (Int.le_refl 0) j
  show Value.int .u8 (IntKind.u8.wrap (rowB (ρ.f1 40) (ρ.f1 41) (ρ.f1 42) 1 j)) = Value.int .u8 (if 0 = 0 ∧ j = 1 then IntKind.u8.wrap (wI (ρ.f1 42) 0) else if 0 = 0 ∧ j = 0 then IntKind.u8.wrap (pV (wI (ρ.f1 40) 0) + IntKind.u8.wrap (8 * wI (ρ.f1 41) 0)) else 0)
  rw [okD_bits hd0, rowB_in]
  rw [show (0 : Int) + 1 = 1 by omega, show (2 : Int) * 0 + 1 = 1 by omega, show (2 : Int) * 0 = 0 by omega] at hs
  rw [hs]
  have h0 : rowB (ρ.f1 40) (ρ.f1 41) (ρ.f1 42) 0 j = 0 := by
   unfold rowB
   rw [if_neg (by omega)]
  simp [h0]
 ·rintro ρ1 ⟨k, h1, h2, h3, rfl⟩ _
  by_cases c1 : k < ρ.v 50
  ·have t1 : (X.lt (.var 101) (.var 50)).tt (envB ρ k) = true := lt2 rfl rfl c1
   have bad : ¬ okC (wI (ρ.f1 40) k) (wI (ρ.f1 41) k) (wI (ρ.f1 42) k) → ∃ O, nth [O0, O1] 0 = some O ∧ L.res.sel ρ = some (O.ex, O.pat.fr, ⟨O.pat.st.h, O.pat.st.n, L.st.pc⟩) := by
    intro hb
    refine ⟨O0, rfl, ?_⟩
    have t : (X.eq (.var 64) (.lit 0)).tt ρ = true := eq2 rfl rfl (hS.no fun h => hb (h k (by omega) c1))
    rw [hres]
    simp only [R.sel, t, if_true]
   have out0 : EnvRel G1T (envB ρ k) ρ (mtV [] []) := ⟨(ag k).symm, fun i x h => (look_nil h).elim, fun f ks q h => (look_nil h).elim⟩
   by_cases d1 : wI (ρ.f1 40) k < 1
   ·have u1 : (X.lt (.wrap .i64 (.fn1 40 (.var 101))) (.lit 1)).tt (envB ρ k) = true := lt2 rfl rfl d1
    exact ⟨.out 0 (mtV [] []), by simp only [G1LL, R.sel, t1, u1, if_true], out0, bad fun h => by have := nV_range h.1; omega⟩
   have u1 : (X.lt (.wrap .i64 (.fn1 40 (.var 101))) (.lit 1)).tt (envB ρ k) = false := lt2n rfl rfl d1
   by_cases d2 : 5 < wI (ρ.f1 40) k
   ·have u2 : (X.lt (.lit 5) (.wrap .i64 (.fn1 40 (.var 101)))).tt (envB ρ k) = true := lt2 rfl rfl d2
    exact ⟨.out 0 (mtV [] []), by simp only [G1LL, R.sel, t1, u1, u2, if_true, Bool.false_eq_true, if_false], out0, bad fun h => by have := nV_range h.1; omega⟩
   have u2 : (X.lt (.lit 5) (.wrap .i64 (.fn1 40 (.var 101)))).tt (envB ρ k) = false := lt2n rfl rfl d2
   by_cases d3 : wI (ρ.f1 41) k < 0
   ·have u3 : (X.lt (.wrap .i64 (.fn1 41 (.var 101))) (.lit 0)).tt (envB ρ k) = true := lt2 rfl rfl d3
    exact ⟨.out 0 (mtV [] []), by simp only [G1LL, R.sel, t1, u1, u2, u3, if_true, Bool.false_eq_true, if_false], out0, bad fun h => by have := h.2.1; omega⟩
   have u3 : (X.lt (.wrap .i64 (.fn1 41 (.var 101))) (.lit 0)).tt (envB ρ k) = false := lt2n rfl rfl d3
   by_cases d4 : 3 < wI (ρ.f1 41) k
   ·have u4 : (X.lt (.lit 3) (.wrap .i64 (.fn1 41 (.var 101)))).tt (envB ρ k) = true := lt2 rfl rfl d4
    exact ⟨.out 0 (mtV [] []), by simp only [G1LL, R.sel, t1, u1, u2, u3, u4, if_true, Bool.false_eq_true, if_false], out0, bad fun h => by have := h.2.2.1; omega⟩
   have u4 : (X.lt (.lit 3) (.wrap .i64 (.fn1 41 (.var 101)))).tt (envB ρ k) = false := lt2n rfl rfl d4
   by_cases d5 : wI (ρ.f1 42) k < 0
   ·have u5 : (X.lt (.wrap .i64 (.fn1 42 (.var 101))) (.lit 0)).tt (envB ρ k) = true := lt2 rfl rfl d5
    exact ⟨.out 0 (mtV [] []), by simp only [G1LL, R.sel, t1, u1, u2, u3, u4, u5, if_true, Bool.false_eq_true, if_false], out0, bad fun h => by have := h.2.2.2.1; omega⟩
   have u5 : (X.lt (.wrap .i64 (.fn1 42 (.var 101))) (.lit 0)).tt (envB ρ k) = false := lt2n rfl rfl d5
   by_cases d6 : 255 < wI (ρ.f1 42) k
   ·have u6 : (X.lt (.lit 255) (.wrap .i64 (.fn1 42 (.var 101)))).tt (envB ρ k) = true := lt2 rfl rfl d6
    exact ⟨.out 0 (mtV [] []), by simp only [G1LL, R.sel, t1, u1, u2, u3, u4, u5, u6, if_true, Bool.false_eq_true, if_false], out0, bad fun h => by have := h.2.2.2.2; omega⟩
   have u6 : (X.lt (.lit 255) (.wrap .i64 (.fn1 42 (.var 101)))).tt (envB ρ k) = false := lt2n rfl rfl d6
   have hk : okD (wI (ρ.f1 40) k) (wI (ρ.f1 41) k) (wI (ρ.f1 42) k) := ⟨by omega, by omega, by omega, by omega, by omega, by omega⟩
   refine ⟨_, by simp only [G1LL, R.sel, t1, u1, u2, u3, u4, u5, u6, if_true, Bool.false_eq_true, if_false]; rfl, ?_⟩
   dsimp only
   refine ⟨envB ρ (k + 1), ⟨(ag k).symm.trans (ag (k + 1)), fun i x h => ?_, fun f ks q h => ?_⟩, ⟨k + 1, by omega, by omega, fun j g1 g2 => ?_, rfl⟩, ?_⟩
   ·rcases look_two h with ⟨rfl, rfl⟩ | ⟨rfl, rfl⟩
    ·show 2 * (k + 1) = 2 * k + 2
     omega
    ·rfl
   ·obtain ⟨rfl, e⟩ := look_one h
    obtain ⟨rfl, rfl⟩ := Prod.mk.inj e
    refine only fun j => ?_
    show Value.int .u8 (IntKind.u8.wrap (rowB (ρ.f1 40) (ρ.f1 41) (ρ.f1 42) (k + 1) j)) = Value.int .u8 (if 0 = 0 ∧ j = 2 * k + 1 then IntKind.u8.wrap (wI (ρ.f1 42) k) else if 0 = 0 ∧ j = 2 * k then IntKind.u8.wrap (pV (wI (ρ.f1 40) k) + IntKind.u8.wrap (8 * wI (ρ.f1 41) k)) else IntKind.u8.wrap (rowB (ρ.f1 40) (ρ.f1 41) (ρ.f1 42) k j))
    rw [okD_bits hk, rowB_in, rowB_in, rowB_step (by omega)]
    simp
   ·rcases Int.lt_or_eq_of_le (Int.lt_add_one_iff.1 g2) with g3 | rfl
    ·exact h3 j g1 g3
    ·exact okD_okC hk
   ·show (ρ.v 50 + 2 - (k + 1)).toNat < (ρ.v 50 + 2 - k).toNat
    omega
  ·have t1 : (X.lt (.var 101) (.var 50)).tt (envB ρ k) = false := lt2n rfl rfl c1
   have hk : k = ρ.v 50 := by omega
   have t : (X.eq (.var 64) (.lit 0)).tt ρ = false := eq2n rfl rfl (hS.yes (hk ▸ h3))
   refine ⟨_, by simp only [G1LL, R.sel, t1, Bool.false_eq_true, if_false]; rfl, ?_⟩
   dsimp only
   refine ⟨⟨(ag k).symm, fun i x h => ?_, fun f ks q h => ?_⟩, O1, rfl, by rw [hres]; simp only [R.sel, t, Bool.false_eq_true, if_false]⟩
   ·obtain ⟨rfl, rfl⟩ := look_one h
    show ρ.v 63 = 2 * k
    rw [hS.n, hk]
   ·obtain ⟨rfl, e⟩ := look_one h
    obtain ⟨rfl, rfl⟩ := Prod.mk.inj e
    refine only fun j => ?_
    show Value.int .u8 (IntKind.u8.wrap (ρ.f1 60 j)) = Value.int .u8 (IntKind.u8.wrap (rowB (ρ.f1 40) (ρ.f1 41) (ρ.f1 42) k j))
    rw [hS.r, hk]
end
end Go.Proofs.YtennjdjcjjjmiaaGreatDoor
namespace Go.Proofs.YtennjdjcjjjmiaaGreatDoor
open Go Go.Proofs
section
variable {cx : Cx} {ρ : Env} (hng : cx.ng = 7) (hro : RoAt ρ LStart)
include hng hro in
theorem Ch3_at {l : List Sub} (hl : ∀ σ ∈ l, SpecA (σ.env ρ)) : SumAt Tryz.prog cx ρ 9 (sumSites LStart 7 Ch3P Ch3R l) :=
 sumSites_ok (cx0 := cxCh3) (N := 4000) mixed_door tt_ok ft_ok hng rfl LStart_lt (RoAll.of hro) Tryz.func9 (by rw [evT_call]; exact Ch3_run) fun σ hσ => lpOk (c := cxB) allB (A_told rfl n60 A1_chk A1_ok A1_ent rfl (hl σ hσ)) rfl rfl rfl rfl
include hng hro in
theorem RC_at {l : List Sub} (hl : ∀ σ ∈ l, SpecA (σ.env ρ)) : SumAt Tryz.prog cx ρ 13 (sumSites LStart 7 RCP RCR l) :=
 sumSites_ok (cx0 := cxRC) (N := 4000) mixed_door tt_ok ft_ok hng rfl LStart_lt (RoAll.of hro) Tryz.func13 (by rw [evT_call]; exact RC_run) fun σ hσ => lpOk (c := cxB) allB (E_told rfl n60 E1_chk E1_ok E1_ent rfl (hl σ hσ)) rfl rfl rfl rfl
include hng hro in
theorem Rw3_at {l : List Sub} (hl : ∀ σ ∈ l, SpecB (σ.env ρ)) : SumAt Tryz.prog cx ρ 10 (sumSites LStart 7 Rw3P Rw3R l) :=
 sumSites_ok (cx0 := cxRw3) (N := 4000) mixed_door tt_ok ft_ok hng rfl LStart_lt (RoAll.of hro) Tryz.func10 (by rw [evT_call]; exact Rw3_run) fun σ hσ => lpOk (c := cxR) (allR (RoAll.of hro _ rfl)) (B_told rfl (RoAll.of hro _ rfl) n50 B1_chk B1_ok B1_ent rfl (hl σ hσ)) rfl rfl rfl rfl
theorem n50d {ρ : Env} (hp : PcOk ρ G1L.st.pc) : 1 ≤ ρ.v 50 ∧ okD (wI (ρ.f1 40) 0) (wI (ρ.f1 41) 0) (wI (ρ.f1 42) 0) := by
 have lt : ∀ {x y : X}, (X.lt x y, false) ∈ G1Pc → ¬ x.den ρ < y.den ρ := fun {x y} h => by
  have h1 := hp _ h
  have h2 : (X.lt x y).tt ρ = decide (x.den ρ < y.den ρ) := lt_tt rfl rfl
  rw [h2] at h1
  exact of_decide_eq_false h1
 have le : ∀ {x y : X}, (X.le x y, true) ∈ G1Pc → x.den ρ ≤ y.den ρ := fun {x y} h => by
  have h1 := hp _ h
  have h2 : (X.le x y).tt ρ = decide (x.den ρ ≤ y.den ρ) := le_tt rfl rfl
  rw [h2] at h1
  exact of_decide_eq_true h1
 have e1 : (1 : Int) ≤ ρ.v 50 := le (x := .lit 1) (y := .var 50) (by simp [G1Pc])
 have e2 : ¬ wI (ρ.f1 40) 0 < 1 := lt (x := .wrap .i64 (.fn1 40 (.lit 0))) (y := .lit 1) (by simp [G1Pc])
 have e3 : ¬ 5 < wI (ρ.f1 40) 0 := lt (x := .lit 5) (y := .wrap .i64 (.fn1 40 (.lit 0))) (by simp [G1Pc])
 have e4 : ¬ wI (ρ.f1 41) 0 < 0 := lt (x := .wrap .i64 (.fn1 41 (.lit 0))) (y := .lit 0) (by simp [G1Pc])
 have e5 : ¬ 3 < wI (ρ.f1 41) 0 := lt (x := .lit 3) (y := .wrap .i64 (.fn1 41 (.lit 0))) (by simp [G1Pc])
 have e6 : ¬ wI (ρ.f1 42) 0 < 0 := lt (x := .wrap .i64 (.fn1 42 (.lit 0))) (y := .lit 0) (by simp [G1Pc])
 have e7 : ¬ 255 < wI (ρ.f1 42) 0 := lt (x := .lit 255) (y := .wrap .i64 (.fn1 42 (.lit 0))) (by simp [G1Pc])
 exact ⟨e1, by omega, by omega, by omega, by omega, by omega, by omega⟩
include hng hro in
theorem RR_at {l : List Sub} (hl : ∀ σ ∈ l, SpecB (σ.env ρ)) : SumAt Tryz.prog cx ρ 11 (sumSites LStart 7 RRP RRR l) :=
 sumSites_ok (cx0 := cxRR) (N := 4000) mixed_door tt_ok ft_ok hng rfl LStart_lt (RoAll.of hro) Tryz.func11 (by rw [evT_call]; exact RR_run) fun σ hσ => lpOk (c := cxB) allB (G_told rfl n50d G1_chk G1_ok G1_ent rfl (hl σ hσ)) rfl rfl rfl rfl
include hng hro in
theorem Sm2_at {l : List Sub} (hl : ∀ σ ∈ l, SpecD (σ.env ρ)) : SumAt Tryz.prog cx ρ 12 (sumSites LStart 7 Sm2P Sm2R l) :=
 sumSites_ok (cx0 := cxSm2) (N := 4000) mixed_door tt_ok ft_ok hng rfl LStart_lt (RoAll.of hro) Tryz.func12 (by rw [evT_call]; exact Sm2_run) fun σ hσ => lpOk (c := cxB) allB (D_told rfl n50' D2_chk D2_ok D2_ent rfl (hl σ hσ)) rfl rfl rfl rfl
include hng hro in
theorem Sm3_at {l : List Sub} (hl : ∀ σ ∈ l, SpecD (σ.env ρ)) : SumAt Tryz.prog cx ρ 12 (sumSites LStart 7 Sm3P Sm3R l) :=
 sumSites_ok (cx0 := cxSm3) (N := 4000) mixed_door tt_ok ft_ok hng rfl LStart_lt (RoAll.of hro) Tryz.func12 (by rw [evT_call]; exact Sm3_run) fun σ hσ => lpOk (c := cxB) allB (D_told rfl n50' D1_chk D1_ok D1_ent rfl (hl σ hσ)) rfl rfl rfl rfl
end
end Go.Proofs.YtennjdjcjjjmiaaGreatDoor
