/- AloneParts: what alone.Run (over two memories), the laws' commits leave, as summaries. No condition. -/
import Derived.Test.YtmickljjofbmiaaGreatDoorSBTl
import Derived.Test.YtmickljjofbmiaaGreatDoorSKp
import Derived.Test.YtmickljjofbmiaaGreatDoorSPTl
namespace Go.Proofs.YtmickljjofbmiaaGreatDoor
open Go Go.Proofs
theorem bx.of {ρ : Env} (h : RoAt ρ aj) : ∀ ρ' : Env, ρ'.ro = ρ.ro → RoAt ρ' aj := fun ρ' hr => ⟨fun x hx => by
 simp only [aj, List.mem_singleton] at hx
 subst hx
 obtain ⟨t, fr, h2⟩ := h.is _ (List.mem_singleton.2 rfl)
 exact ⟨t, fr, fun π => by rw [hr, h2 π, sM, sM]⟩⟩
theorem allN {ρ : Env} : SumOk Tryz.prog (O4 []) ρ := uI (l := []) trivial rfl
theorem lpOk {ρ : Env} {L : LoopI} (hl : oc Tryz.prog (cxLp L) ρ L) : SumOk Tryz.prog (cxLp L) ρ := by
 have h := Db (c' := { cxLp L with lp := none }) (allN (ρ := ρ)) rfl rfl rfl rfl
 refine ⟨fun f s hs args st v st' he S π0 w ac n hh ha => h.sum f s hs args st v st' he S π0 w ac n ⟨hh.pc, hh.at_, hh.glob, hh.fresh⟩ ha, fun g s hg => Zj rfl g s hg, fun lp hlp => ?_⟩
 obtain rfl := Option.some.inj (show some (Yl [L]) = some lp from hlp)
 exact Ym fun L' hL => by obtain rfl := List.mem_singleton.1 hL; exact hl
section
variable {ρ : Env}
theorem look_nil {α : Type} {i : Nat} {y : α} (h : look [] i = some y) : False := by cases h
theorem look_one {α : Type} {k i : Nat} {x y : α} (h : look [(k, x)] i = some y) : i = k ∧ x = y := by
 rcases dN h with ⟨rfl, rfl⟩ | h
 ·exact ⟨rfl, rfl⟩
 ·cases h
def envD (ρ : Env) (k : Int) : Env := { ρ with v := fun i => if i = 100 then k else ρ.v i }
theorem Self_told {cx : Cx} (hng : cx.ng = 7) : oc Tryz.prog cx ρ C1L := by
 intro res hr S π0 w a r nn hh
 have hn1 : 1 ≤ ρ.v 60 := by
  have h := hh.pc _ (.head _)
  rw [show (X.le (.lit 1) (.var 60)).tt ρ = decide (1 ≤ ρ.v 60) from MP] at h
  exact of_decide_eq_true h
 have h100 : ∀ i, eS i C1T.vs = false → i ≠ 100 := fun i h => by rintro rfl; cases h
 have ag : ∀ k, Agree C1T ρ (envD ρ k) := fun k => ⟨fun i h => if_neg (h100 i h), fun _ _ => rfl, rfl, rfl, rfl, rfl, rfl, rfl⟩
 have ag' : ∀ k, Agree C1T (envD ρ k) ρ := fun k => ⟨fun i h => (if_neg (h100 i h)).symm, fun _ _ => rfl, rfl, rfl, rfl, rfl, rfl, rfl⟩
 have ag2 : ∀ k l, Agree C1T (envD ρ k) (envD ρ l) := fun k l => ⟨fun i h => (if_neg (h100 i h)).trans (if_neg (h100 i h)).symm, fun _ _ => rfl, rfl, rfl, rfl, rfl, rfl, rfl⟩
 have hlt : ∀ k, (X.lt (.var 100) (.var 60)).tt (envD ρ k) = decide (k < ρ.v 60) := fun k => A8
 refine aaJ (cxB := O4 []) (t := C1T) (I := C1I) (outs := [C1O]) (ll := C1LL) (N := 4000) (ng := 7) C1S (fun ρ1 => ∃ k : Int, 0 ≤ k ∧ k ≤ ρ.v 60 ∧ ρ1 = envD ρ k) (fun ρ1 => (ρ.v 60 + 2 - ρ1.v 100).toNat)
  (fun _ _ => (q9 cr pL oQ allN 4000).1) rfl hng C1_chk C1_ok C1_ent ⟨envD ρ 0, ⟨ag 0, fun i x h => ?_, fun f ks q h => (look_nil h).elim⟩, 0, by omega, by omega, rfl⟩ ?_ res hr S π0 w a r nn hh
 ·obtain ⟨rfl, rfl⟩ := look_one h
  rfl
 ·rintro ρ1 ⟨k, h1, h2, rfl⟩ _
  by_cases c1 : k < ρ.v 60
  ·have t1 := (hlt k).trans (decide_eq_true c1)
   refine ⟨.next (Zz [(100, .add (.var 100) (.lit 1))] []), sO t1, ?_⟩
   dsimp only
   refine ⟨envD ρ (k + 1), ⟨ag2 k (k + 1), fun i x h => ?_, fun f ks q h => (look_nil h).elim⟩, ⟨k + 1, by omega, by omega, rfl⟩, ?_⟩
   ·obtain ⟨rfl, rfl⟩ := look_one h
    rfl
   ·show (ρ.v 60 + 2 - (k + 1)).toNat < (ρ.v 60 + 2 - k).toNat
    omega
  ·have t1 := (hlt k).trans (decide_eq_false c1)
   exact ⟨.out 0 (Zz [] []), Lc t1, ⟨ag' k, fun i x h => (look_nil h).elim, fun f ks q h => (look_nil h).elim⟩, C1O, rfl, rfl⟩
end
section
variable {cx : Cx} {ρ : Env} (hng : cx.ng = 7) (hro : RoAt ρ aj)
include hng hro
theorem CM_at {l : List Sub} : cV Tryz.prog cx ρ 12 (uL aj 7 CMP CMR l) :=
 KO (cx0 := cxLp C1L) (N := 4000) cr pL oQ hng rfl fp (bx.of hro) Tryz.func12 (by rw [de]; exact CM_run) fun _ _ => lpOk (Self_told rfl)
theorem AR_at {l : List Sub} (hl : ∀ σ ∈ l, oc Tryz.prog (cxLp BD) (σ.env ρ) BD) : cV Tryz.prog cx ρ 10 (uL aj 7 ARP ARR l) :=
 KO (cx0 := cxLp BD) (N := 4000) cr pL oQ hng rfl fp (bx.of hro) Tryz.func10 (by rw [de]; exact AR_run) fun σ hσ => lpOk (hl σ hσ)
theorem BR_at {l : List Sub} (hl : ∀ σ ∈ l, oc Tryz.prog (cxLp BRL) (σ.env ρ) BRL) : cV Tryz.prog cx ρ 10 (uL aj 7 BRP BRR l) :=
 KO (cx0 := cxLp BRL) (N := 4000) cr pL oQ hng rfl fp (bx.of hro) Tryz.func10 (by rw [de]; exact BR_run) fun σ hσ => lpOk (hl σ hσ)
end
def sb0 : Sub := { v := [], n := 0, b := [], s := [] }
theorem sb0_env (ρ : Env) : sb0.env ρ = ρ := rfl
end Go.Proofs.YtmickljjofbmiaaGreatDoor
