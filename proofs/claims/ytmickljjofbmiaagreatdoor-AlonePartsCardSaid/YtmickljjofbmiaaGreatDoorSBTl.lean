/- AloneParts: alone.Run's loop over a memory of unknown room is told. No condition. -/
import Derived.Test.YtmickljjofbmiaaGreatDoorQATl
import Derived.Test.YtmickljjofbmiaaGreatDoorSLk
namespace Go.Proofs.YtmickljjofbmiaaGreatDoor
open Go Go.Proofs
section
variable {W : World} {p : Par} (hro : bx p.ro) (hW : ∀ x ∈ aj, W.heap[x.1]? = some (p.ro x.1))
variable {s0 : jB} {ρ : Env} (B : FK p s0 ρ)
include hro hW B
def InvB (ρ : Env) (p : Par) (s0 : jB) (N j : Nat) (ρ1 : Env) : Prop := ∃ n : Nat, ρ1 = ck ρ p s0 n ∧ (j = 0 → n = 0) ∧ (j ≠ 0 → 1 ≤ n) ∧ n ≤ N ∧ (aA p s0 n).h.cause = 0
def EndsB (ρ : Env) (p : Par) (s0 : jB) (N : Nat) (ρ1 : Env) (x : LM) : Prop := match x with
 | .next j' σ => ∃ ρ2, b8 tM ρ1 ρ2 σ ∧ InvB ρ p s0 N j' ρ2 ∧ (ρ.v 43 - ρ2.v 100).toNat < (ρ.v 43 - ρ1.v 100).toNat
 | .out k σ => b8 tM ρ1 ρ σ ∧ ∃ O, nth [BRO0, BRO1] k = some O ∧ BRL.res.ai ρ = some (O.ex, O.pat.fr, ⟨O.pat.st.h, O.pat.st.n, BRL.st.pc⟩)
 | .never => False
omit hro hW B in
theorem BR_res1 {N : Nat} (S : SpecM p s0 ρ N) (h : (aA p s0 N).h.cause ≠ 0) : BRL.res.ai ρ = some (BRO1.ex, BRO1.pat.fr, ⟨BRO1.pat.st.h, BRO1.pat.st.n, BRL.st.pc⟩) := by
 have e : (X.eq (.var 534) (.lit 0)).tt ρ = false := by
  rw [dR]
  exact beq_eq_false_iff_ne.2 (by rw [show (X.var 534).den ρ = ρ.v (500 + 34) from rfl, S.hart 34 (by omega) (by omega)]; exact h)
 exact Lc e
omit hro hW B in
theorem BR_res0 {N : Nat} (S : SpecM p s0 ρ N) (h : (aA p s0 N).h.cause = 0) : BRL.res.ai ρ = some (BRO0.ex, BRO0.pat.fr, ⟨BRO0.pat.st.h, BRO0.pat.st.n, BRL.st.pc⟩) := by
 have e : (X.eq (.var 534) (.lit 0)).tt ρ = true := by
  rw [dR, show (X.var 534).den ρ = ρ.v (500 + 34) from rfl, S.hart 34 (by omega) (by omega)]
  exact beq_iff_eq.2 h
 exact sO e
theorem BR_end {N n : Nat} (S : SpecM p s0 ρ N) (hn : n ≤ N) (hlt : (n : Int) < ρ.v 43) (hc : (aA p s0 n).h.cause = 0) (hf : fS p (aA p s0 n) = true) {r : RdX} (R : RdOk p (aA p s0 n) (ck ρ p s0 n) n r) (hrow : sD (ck ρ p s0 n) r.row (si p s0 n)) {e : EndX} (he : EndOk p (aA p s0 n) (ck ρ p s0 n) e) :
  ∃ x, (DW r e).ai (ck ρ p s0 n) = some x ∧ EndsB ρ p s0 N (ck ρ p s0 n) x := by
 obtain ⟨e1, e2, e3, e4, e5⟩ := O6 hro hW B hc hf R.n he
 have e6 := Rn hro hW B hc hf R.n he hrow
 obtain ⟨s1, s2⟩ := OA S hn hlt hc
 by_cases hz : (aA p s0 (n + 1)).h.cause = 0
 ·refine ⟨ZA r e, sO (by rw [dR, e2, hz]; rfl), ck ρ p s0 (n + 1), ?_, ⟨n + 1, rfl, fun h => by omega, fun _ => by omega, s1, hz⟩, ?_⟩
  ·refine My (Z6 n (n + 1)) (by rw [R.n1]; rfl) (by rw [e3]; rfl) (by rw [e4]; rfl) (fun i h1 h2 => by rw [e1 i h1 h2]; exact g8 h1 h2) (tC (yl e5 he.rg rfl) (yx e6 fun c hc => sX hc))
  ·show (ρ.v 43 - ((n + 1 : Nat) : Int)).toNat < (ρ.v 43 - (n : Int)).toNat
   omega
 ·obtain rfl := s2 hz
  refine ⟨afS r e, Lc (by rw [dR, e2]; exact beq_eq_false_iff_ne.2 hz), ?_, BRO1, rfl, BR_res1 S hz⟩
  exact My (Dv n) (by rw [R.n1, S.n]; rfl) (by rw [e3, S.res]) (by rw [e4, S.at_]) (fun i h1 h2 => by rw [e1 i h1 h2]; exact S.hart i h1 h2) (tC (yl e5 he.rg S.mem) (yx e6 S.row))
theorem BR_told {cx : Cx} (hng : cx.ng = 7) {N : Nat} (S : SpecM p s0 ρ N) : oc Tryz.prog cx ρ BRL := by
 have hst := BR_ok
 simp only [Bool.and_eq_true] at hst
 obtain ⟨k1, k2, k3⟩ := hst
 have h00 := pF B
 refine LI (cxB := fun j => match j with | 0 => O4 (Qj (abL 20)) | _ => O4 (Qj (abM 30))) (t := tM) (Is := [BRI0, BRI1]) (outs := [BRO0, BRO1]) (lls := [QQ, K2]) (N := 4000) (ng := 7) (I0 := BRI0) ⟨[], [], [], []⟩ (InvB ρ p s0 N) (fun ρ1 => (ρ.v 43 - ρ1.v 100).toNat)
  (fun j ρ1 hI => ?_) (fun j => by cases j <;> rfl) hng (fun j I ll hI hll => ?_) (fun j I hI => ?_) k1 k2 rfl k3 ⟨ck ρ p s0 0, ⟨Xt 0, fun i x h => (my h).elim, fun f ks q h => (my h).elim⟩, 0, rfl, fun _ => rfl, fun h => absurd rfl h, by omega, h00.2.2.2⟩ (fun j ρ1 I ll hI hll hinv hpc => ?_)
 ·obtain ⟨n, rfl, h0, h1, hn, hc⟩ := hI
  have hs := KI hro hW B n
  cases j with
  | zero =>
   obtain rfl := h0 rfl
   exact (q9 cr pL oQ (OC hro hW (B.at 0).T (YT (B.at 0) 20 B.bytes) hs.1 hs.2.1 (fun _ => hc) B.size) 4000).1
  | succ j =>
   exact (q9 cr pL oQ (OC hro hW (B.at n).T (YU B.T B.code n hs.1 hs.2.1 (t := 30) rfl) hs.1 hs.2.1 (fun _ => hc) B.size) 4000).1
 ·match j, hI, hll with
  | 0, hI, hll =>
   obtain rfl := Option.some.inj (show some BRI0 = some I from hI)
   obtain rfl := Option.some.inj (show some QQ = some ll from hll)
   exact BR_chk0
  | 1, hI, hll =>
   obtain rfl := Option.some.inj (show some BRI1 = some I from hI)
   obtain rfl := Option.some.inj (show some K2 = some ll from hll)
   exact BR_chk1
 ·match j, hI with
  | 0, _ => exact ⟨_, rfl⟩
  | 1, _ => exact ⟨_, rfl⟩
 ·obtain ⟨n, rfl, h0, h1, hn, hc⟩ := hinv
  have hs := KI hro hW B n
  suffices h : ∃ x, ll.ai (ck ρ p s0 n) = some x ∧ EndsB ρ p s0 N (ck ρ p s0 n) x by
   obtain ⟨x, hx, he⟩ := h
   refine ⟨x, hx, ?_⟩
   cases x <;> exact he
  match j, hI, hll with
  | 0, hI, hll =>
   obtain rfl := h0 rfl
   obtain rfl := Option.some.inj (show some QQ = some ll from hll)
   have R := afh B
   obtain ⟨e, he, hsel⟩ := F8 hro hW (B.T.at 0) R hs.1 hc (fun v z hv hz i hi => yV hv hz hi) (v2 := 0) (fun _ => (B.T.at 0).am0 0) (g := DW (QM (.base 20))) (sc := sc0 (QM (.base 20)) (DW (QM (.base 20)))) (fun h4 => abS R h4 B.res)
   have := S.n1
   have := S.most
   obtain ⟨x, hx, hend⟩ := BR_end hro hW B S (n := 0) (by omega) (by omega) hc (aaz B) R RE he
   exact ⟨x, by rw [QQ, GZ hro hW B hc rfl, hsel]; exact hx, hend⟩
  | 1, hI, hll =>
   obtain rfl := Option.some.inj (show some K2 = some ll from hll)
   have hmost := S.most
   by_cases hlt : (n : Int) < ρ.v 43
   ·have t1 : (X.lt (.var 100) (.var 43)).tt (ck ρ p s0 n) = true := by rw [A8]; exact decide_eq_true hlt
    have t2 : (X.eq (.var 134) (.lit 0)).tt (ck ρ p s0 n) = true := by
     rw [dR, show (X.var 134).den (ck ρ p s0 n) = (ck ρ p s0 n).v (100 + 34) from rfl, g8 (by omega) (by omega)]
     exact beq_iff_eq.2 hc
    have hpcv : (ck ρ p s0 n).v 101 = (aA p s0 n).h.pc := g8 (i := 1) (by omega) (by omega)
    cases hf : fS p (aA p s0 n) with
    | true =>
     have R : RdOk p (aA p s0 n) (ck ρ p s0 n) n (ZE (.base 30) (.base 31)) := af0 rfl
     obtain ⟨e, he, hsel⟩ := F8 hro hW (B.T.at n) R hs.1 hc (fun v z hv hz i hi => yV hv hz hi) (v2 := 0) (fun _ => (B.T.at n).am0 n) (g := DW (ZE (.base 30) (.base 31))) (sc := scT DI (ZE (.base 30) (.base 31)) (DW (ZE (.base 30) (.base 31)))) (fun h4 => abT hro hW (B.T.at n) R hs.1 hc (fun v z hv hz i hi => yV hv hz hi) h4)
     obtain ⟨x, hx, hend⟩ := BR_end hro hW B S hn hlt hc hf R (yO fun c hc => sX hc) he
     refine ⟨x, ?_, hend⟩
     unfold K2
     rw [sO t1, sO t2, Gs (p := p) (s := aA p s0 n) hpcv B.len, if_pos hf, GZ hro hW B hc rfl, hsel]
     exact hx
    | false =>
     have en : aA p s0 (n + 1) = _ := Sk hc hf
     have hz : (aA p s0 (n + 1)).h.cause ≠ 0 := by rw [en]; simp
     obtain ⟨s1, s2⟩ := OA S hn hlt hc
     obtain rfl := s2 hz
     refine ⟨Zq (ZE (.base 30) (.base 31)), ?_, ?_, BRO1, rfl, BR_res1 S hz⟩
     ·unfold K2
      rw [sO t1, sO t2, Gs (p := p) (s := aA p s0 n) hpcv B.len, if_neg (by rw [hf]; decide)]
      rfl
     ·have e6 : sD (ck ρ p s0 n) (pj (.var 100) 0 (Na (.var 101)) (.base 31)) (si p s0 (n + 1)) := Ky (yO fun c hc => sX hc) rfl rfl (OX hs.1 hpcv hf)
      refine ⟨Dv n, fun i x h => ?_, tC (yl (sN rfl) (pP 30) (by rw [S.mem, en]; rfl)) (yx e6 S.row)⟩
      rcases dN h with ⟨rfl, rfl⟩ | h
      ·rw [S.n]; rfl
      rcases dN h with ⟨rfl, rfl⟩ | h
      ·rw [show (534 : Nat) = 500 + 34 from rfl, S.hart 34 (by omega) (by omega), en]; rfl
      rcases dN h with ⟨rfl, rfl⟩ | h
      ·rw [S.res, en]; rfl
      rcases dN h with ⟨rfl, rfl⟩ | h
      ·rw [S.at_, en]; rfl
      ·obtain ⟨q, q1, q2, rfl, rfl⟩ := zT h
       rw [S.hart q q1 (by omega), en]
       show gN.cell { (aA p s0 n).h with cause := 4 } q = (ck ρ p s0 n).v (100 + q)
       rw [g8 q1 (by omega)]
       match q, q1, q2 with
       | 1, _, _ => rfl
       | q + 2, _, h2 =>
        show (if q < 32 then _ else _) = (if q < 32 then _ else _)
        rw [if_pos (by omega), if_pos (by omega)]
   ·have t1 : (X.lt (.var 100) (.var 43)).tt (ck ρ p s0 n) = false := by rw [A8]; exact decide_eq_false hlt
    obtain rfl : N = n := by omega
    refine ⟨Zx, by unfold K2; rw [Lc t1]; rfl, ?_, BRO0, rfl, BR_res0 S hc⟩
    exact My (Dv N) (by rw [S.n]; rfl) (by rw [S.res]; rfl) (by rw [S.at_]; rfl) (fun i q1 q2 => by rw [S.hart i q1 q2]; exact (g8 q1 q2).symm) (tC (yl (sN rfl) (pP 30) S.mem) (yx (yO fun c hc => sX hc) S.row))
end
end Go.Proofs.YtmickljjofbmiaaGreatDoor
