/- done, as a summary: it is always true. Words as variables of bits, one behind the other. No condition. -/
import Derived.Test.YtcachlbljjpjdaaGreatDoorHDoneEvB
import Derived.Test.YtcachlbljjpjdaaGreatDoorHOk
namespace Go.Proofs.YtcachlbljjpjdaaGreatDoor
open Go Go.Proofs Go.RowKit
noncomputable section

theorem doneX_conc {ρ : Env} {id pc : Int} {regs : List Int} {cause n : Int} {w a : Nat} {ok : Bool} (h : HartOk id pc regs cause) (hn : InI n) (ha : a < 4294967296) {x : X} (hx : x.den (doneEnv ρ id pc regs cause n w a ok) = (w : Int)) {π : Pl} :
    V.concs (doneEnv ρ id pc regs cause n w a ok) π (doneX x) = [hartW id pc regs cause, toldW w n a ok] := by
  have e1 := hartX_conc (ρ := doneEnv ρ id pc regs cause n w a ok) (π := π) (o := 0) (f := 0) h ⟨rfl, rfl, rfl, fun j hj => regs_get regs j hj⟩
  have e2 : (wordX 32 32).den (doneEnv ρ id pc regs cause n w a ok) = (a : Int) := word_of (by omega) (by omega) fun i hi => by
    show doneB w a ok (32 + i) = _
    unfold doneB
    rw [if_neg (by omega), if_pos (by omega), show 32 + i - 32 = i by omega]
    rfl
  have e3 : (flagX 64).tt (doneEnv ρ id pc regs cause n w a ok) = ok := flag_tt 64
  have e4 : (X.wrap .i64 (.var 3)).den (doneEnv ρ id pc regs cause n w a ok) = n := wrap_i hn
  simp only [doneX, V.concs, e1]
  simp only [V.conc, V.concs, hx, e2, e3, e4, toldW]
def symDone (args : List V) (st : St) : R (V × St) := match args with
  | [h, t] => match isHart h, isTold t, roThere LStart st.h with
    | true, true, true => .ok (.bool (.lit 1), { st with n := st.n + 100000 })
    | _, _, _ => .stuck "done"
  | _ => .stuck "done"
theorem at12 {ro : Nat → Obj} (h : RoAll ro) {ρ : Env} (hr : ρ.ro = ro) {c : Cx} (hc : c.ng = 7) : SumAt Tryz.prog c ρ 12 symDone := by
  intro args st v st' hs S π0 w ac m hh ha
  unfold symDone at hs
  split at hs
  · split at hs
    · rename_i h1 h2 h3
      simp only [R.sel, Option.some.injEq, Prod.mk.injEq] at hs
      obtain ⟨rfl, rfl⟩ := hs
      obtain ⟨id, pc, regs, cause, hk, e1⟩ := isHart_ok (ρ := ρ) h1
      obtain ⟨wd, n, a, b, hw, hn, hA, e2⟩ := isTold_ok (ρ := ρ) h2
      obtain ⟨wd, rfl⟩ := Int.eq_ofNat_of_zero_le hw.1
      obtain ⟨a, rfl⟩ := Int.eq_ofNat_of_zero_le hA.1
      have hwd : wd < 4294967296 := by have := hw.2; omega
      have had : a < 4294967296 := by have := hA.2; omega
      obtain ⟨cm, cv, hfit, hrun⟩ := Cut.sel done_all wd
      obtain ⟨x, st2, hsel, hx, hth, hle⟩ := allChkM_sel (ρ := doneEnv ρ id pc regs cause n wd a b) hrun
      have hargs : SaysL (doneEnv ρ id pc regs cause n wd a b) S π0 (doneX (wordC cm cv)) ac := fun π hk' => by
        rw [← ha π hk', doneX_conc hk hn had (wordC_den hwd hfit fun i hi => by show doneB wd a b i = _; unfold doneB; rw [if_pos (by omega)])]
        simp only [V.concs, e1, e2]
      have key := leaf_post3 (P := Tryz.prog) (cx := c) (cx0 := cxL) (ρ := ρ) (ρ' := doneEnv ρ id pc regs cause n wd a b) mixed_door tt_ok ft_ok (sum_flags (all59 h hr)) hc rfl LStart_lt (h _ hr) rfl hsel hth (v' := .bool (.lit 1))
        (fun hp π => by simp only [V.conc, hx hp]; rfl) rfl (objs := []) (fun x hx => by simp at hx) rfl Tryz.func12 hh h3 hargs (n := m)
      refine key.mono fun e w' hp => ?_
      refine EPost.more (st1 := { h := st.h, n := st.n + (st2.n - 7), pc := st.pc }) (v := .bool (.lit 1)) hp (m := st.n + 100000) ?_
      show st.n + (st2.n - 7) ≤ st.n + 100000
      omega
    · simp [R.sel] at hs
  · simp [R.sel] at hs
def cxW : Cx := { cx with dm := dmH, sx := true, sm := smOf [(12, symDone), (13, sumTab LStart 7 sum13)] }
theorem allW {ro : Nat → Obj} (h : RoAll ro) {ρ : Env} (hr : ρ.ro = ro) : SumOk Tryz.prog cxW ρ :=
  smOf_okL (l := [(12, symDone), (13, sumTab LStart 7 sum13)]) ⟨at12 h hr rfl, at13 h hr rfl, trivial⟩ rfl
end
end Go.Proofs.YtcachlbljjpjdaaGreatDoor

namespace Go.Proofs.YtcachlbljjpjdaaGreatDoor
open Go Go.Proofs Go.RowKit
def wordsB (l : List Nat) (i : Nat) : Bool := (l.getD (i / 32) 0).testBit (i % 32)
def wordsEnv (ρ : Env) (l : List Nat) : Env := { ρ with b := wordsB l }
theorem wordsB_at {ρ : Env} (l : List Nat) (i j : Nat) (hj : j < 32) : (wordsEnv ρ l).b (32 * i + j) = ((l.getD i 0 : Nat) : Int).toNat.testBit j := by
  show wordsB l (32 * i + j) = _
  unfold wordsB
  rw [show (32 * i + j) / 32 = i by omega, show (32 * i + j) % 32 = j by omega]
  rfl
end Go.Proofs.YtcachlbljjpjdaaGreatDoor
