/- AloneParts: the columns of a commit tell what it does to memory (plain law); bytes that are put, in a row. No condition. -/
import Derived.Test.YtmickljjofbmiaaGreatDoorQATl
import Derived.Test.YtmickljjofbmiaaGreatDoorSLm
namespace Go.Proofs.YtmickljjofbmiaaGreatDoor
open Go Go.Proofs
section
variable {ρ : Env}
theorem adJ_den {ad : X} {a : Int} (ha : ad.den ρ = a) : ∀ i : Nat, (adJ ad i).den ρ = a + i
 | 0 => by rw [adJ, ha]; omega
 | i + 1 => by
  show ad.den ρ + ((i + 1 : Nat) : Int) = _
  rw [ha]
theorem stP_mem {ad : X} {a : Int} (ha : ad.den ρ = a) {v : X} {z : Int} (hv : v.den ρ = z) (hz : 0 ≤ z ∧ z ≤ 4294967295) {m0 : Int → Int} :
  ∀ (w i : Nat) (x : A) (m : Int → Int), i + w ≤ 4 → qV ρ x m → (∀ j, m j = QN m0 a i z j) → ∃ m', qV ρ (stP ad v i w x) m' ∧ ∀ j, m' j = QN m0 a (i + w) z j
 | 0, i, x, m, _, hx, hm => ⟨m, hx, hm⟩
 | w + 1, i, x, m, hi, hx, hm => by
  have := stP_mem ha hv hz (m0 := m0) w (i + 1) (.put x (adJ ad i) 0 (F5 v i)) (QN m0 a (i + 1) z) (by omega) (fun j => ?_) (fun j => rfl)
  ·rw [show i + (w + 1) = i + 1 + w by omega]
   exact this
  ·have e : A.den ρ (.int .u8) 0 j (.put x (adJ ad i) 0 (F5 v i)) = if (0 : Nat) = 0 ∧ j = a + i then z / 256 ^ i % 256 else A.den ρ (.int .u8) 0 j x := by
    rw [A.den, adJ_den ha, aes hv hz (by omega)]
   rw [e]
   by_cases hj : j = a + i
   ·rw [if_pos ⟨rfl, hj⟩]
    unfold QN
    rw [if_pos (by omega), hj, show (a + (i : Int) - a).toNat = i by omega]
   ·rw [if_neg (fun h => hj h.2), hx j, hm j]
    unfold QN
    by_cases h1 : a ≤ j ∧ j < a + i
    ·rw [if_pos h1, if_pos (by omega)]
    ·rw [if_neg h1, if_neg (by omega)]
theorem stP_is {ad : X} {a : Int} (ha : ad.den ρ = a) {v : X} {z : Int} (hv : v.den ρ = z) (hz : 0 ≤ z ∧ z ≤ 4294967295) {x : A} {m : Int → Int} (hx : qV ρ x m) {w : Nat} (hw : w ≤ 4) : qV ρ (stP ad v 0 w x) (QN m a w z) := by
 obtain ⟨m', h1, h2⟩ := stP_mem ha hv hz (m0 := m) w 0 x m (by omega) hx (fun j => by unfold QN; rw [if_neg (by omega)])
 rw [Nat.zero_add] at h2
 rwa [funext h2] at h1
theorem stP_rg {ad v : X} {z : Int} (hv : v.den ρ = z) (hz : 0 ≤ z ∧ z ≤ 4294967295) : ∀ (w i : Nat) (x : A), i + w ≤ 4 → sy ρ x → sy ρ (stP ad v i w x)
 | 0, _, _, _, hx => hx
 | w + 1, i, x, h, hx => stP_rg hv hz w (i + 1) _ (by omega) fun j => by
  rw [A.den]
  split
  ·rw [aes hv hz (by omega)]
   omega
  ·exact hx j
end
theorem nxt_noS {p : Par} {s : jB} (h : ¬ aql p s) : (Xd p s).m = s.m := by
 unfold Xd
 split
 ·rfl
 ·split
  ·rfl
  ·rename_i e
   have hp : ¬ YG p s := fun h' => h ⟨e, h'⟩
   show qS p s = _
   unfold qS
   split
   ·rename_i h2; exact absurd (.inl h2) hp
   ·rename_i h4
    split
    ·rename_i h1
     rw [Bool.and_eq_true, decide_eq_true_iff] at h1
     exact absurd (.inr (.inl ⟨h4, h1⟩)) hp
    ·rfl
   ·rename_i h5; exact absurd (.inr (.inr h5)) hp
   ·rfl
theorem seq_noS {p : Par} {s0 : jB} : ∀ (n : Nat), (∀ i, i < n → ¬ aql p (aA p s0 i)) → (aA p s0 n).m = s0.m
 | 0, _ => rfl
 | n + 1, h => (nxt_noS (h n (by omega))).trans (seq_noS n fun i hi => h i (by omega))
structure ColsOk (size : Int) (f : Nat → Int) : Prop where
 k : 0 ≤ f 2 ∧ f 2 ≤ 6
 ad : 0 ≤ f 3 ∧ f 3 ≤ 4294967295
 w : 0 ≤ f 4 ∧ f 4 ≤ 4
 fits : f 3 + f 4 ≤ size
 v : 0 ≤ f 5 ∧ f 5 ≤ 4294967295
 op : 0 ≤ f 6 ∧ f 6 ≤ 58
 x : 0 ≤ f 9 ∧ f 9 ≤ 4294967295
 ok : f 10 = 0 ∨ f 10 = 1
def stores (f : Nat → Int) : Prop := f 2 = 2 ∨ (f 2 = 4 ∧ f 10 = 1) ∨ f 2 = 5
section
variable {W : World} {p : Par} (hro : bx p.ro) (hW : ∀ x ∈ aj, W.heap[x.1]? = some (p.ro x.1))
variable {s : jB} (hs : s.h.Ok) (hc : s.h.cause = 0)
include hro hW hs hc
theorem col_ok (hsz : 16 ≤ p.size) : ColsOk p.size (DL p s) := by
 cases hf : fS p s with
 | false =>
  have e : ∀ c, c ≠ 0 → c ≠ 13 → DL p s c = 0 := fun c h1 h2 => by
   unfold DL
   rw [hf]
   show (if c = 0 then s.h.pc else if c = 13 then 4 else 0) = 0
   rw [if_neg h1, if_neg h2]
  have e2 := e 2 (by decide) (by decide)
  have e3 := e 3 (by decide) (by decide)
  have e4 := e 4 (by decide) (by decide)
  have e5 := e 5 (by decide) (by decide)
  have e6 := e 6 (by decide) (by decide)
  have e9 := e 9 (by decide) (by decide)
  exact ⟨by omega, by omega, by omega, by omega, by omega, by omega, by omega, .inl (e 10 (by decide) (by decide))⟩
 | true =>
  have e2 : DL p s 2 = ((acc p s).k : Int) := by unfold DL; rw [hf]; rfl
  have e3 : DL p s 3 = (acc p s).ad := by unfold DL; rw [hf]; rfl
  have e4 : DL p s 4 = ((acc p s).w : Int) := by unfold DL; rw [hf]; rfl
  have e5 : DL p s 5 = (acc p s).v := by unfold DL; rw [hf]; rfl
  have e6 : DL p s 6 = ((acc p s).op : Int) := by unfold DL; rw [hf]; rfl
  have e9 : DL p s 9 = (O2 p s).2.x := by unfold DL; rw [hf]; rfl
  have e10 : DL p s 10 = a7 (O2 p s).2.ok := by unfold DL; rw [hf]; rfl
  have ha := fQ hro hW hs hc
  have hx : 0 ≤ (O2 p s).2.x ∧ (O2 p s).2.x ≤ 4294967295 := (ow hro hW hs hc (xK p s)).com.x
  have hk := ha.k
  have hw : (acc p s).w ≤ 4 ∧ (acc p s).ad + (acc p s).w ≤ p.size := by
   by_cases h1 : 1 ≤ (acc p s).k ∧ (acc p s).k ≤ 5
   ·have h3 := (ha.at_ h1.1 h1.2).2
    by_cases h2 : (acc p s).k ≤ 2
    ·have := ha.w h1.1 h2; omega
    ·have := ha.w4 (by omega) h1.2; omega
   ·have := ha.none (by omega); omega
  have hop : (acc p s).op ≤ 58 := by
   by_cases h5 : (acc p s).k = 5
   ·exact (ha.amo h5).2
   ·have := ha.op h5; omega
  have had := ha.ad
  have hv := ha.v
  refine ⟨by omega, by omega, by omega, by omega, by omega, by omega, by omega, ?_⟩
  rw [e10]
  cases (O2 p s).2.ok
  ·exact .inl rfl
  ·exact .inr rfl
theorem sc_ok (h4 : (acc p s).k = 4) : (O2 p s).2.ok = (s.res && decide (s.at_ = (acc p s).ad)) := by
 have h := (ow hro hW hs hc (xK p s)).cok
 rw [if_pos h4] at h
 show (OZ p s (om p s (xK p s)).1 (om p s (xK p s)).2).2.ok = _
 rw [h]
 cases hr : s.res with
 | true =>
  have hb : xK p s = 14 := by simp only [xK, h4, hr]
  rw [hb]
  simp [om]
 | false =>
  have hb : xK p s = 10 := by simp only [xK, h4, hr]
  rw [hb]
  simp [om]
theorem col_put : stores (DL p s) ↔ aql p s := by
 unfold aql
 cases hf : fS p s with
 | false =>
  have e : DL p s 2 = 0 := by unfold DL; rw [hf]; rfl
  unfold stores
  rw [e]
  constructor
  ·rintro (h | ⟨h, _⟩ | h) <;> omega
  ·rintro ⟨h, _⟩; cases h
 | true =>
  have e2 : DL p s 2 = ((acc p s).k : Int) := by unfold DL; rw [hf]; rfl
  have e10 : DL p s 10 = a7 (O2 p s).2.ok := by unfold DL; rw [hf]; rfl
  unfold stores YG
  rw [e2, e10]
  constructor
  ·rintro (h | ⟨h, h'⟩ | h)
   ·exact ⟨rfl, .inl (by omega)⟩
   ·have h4 : (acc p s).k = 4 := by omega
    have hok := sc_ok hro hW hs hc h4
    have ht : (O2 p s).2.ok = true := by
     cases ho : (O2 p s).2.ok with
     | true => rfl
     | false => rw [ho] at h'; exact absurd h' (by decide)
    rw [ht] at hok
    have hok := hok.symm
    rw [Bool.and_eq_true, decide_eq_true_iff] at hok
    exact ⟨rfl, .inr (.inl ⟨h4, hok⟩)⟩
   ·exact ⟨rfl, .inr (.inr (by omega))⟩
  ·rintro ⟨_, h | ⟨h, h'⟩ | h⟩
   ·exact .inl (by omega)
   ·refine .inr (.inl ⟨by omega, ?_⟩)
    rw [sc_ok hro hW hs hc h, h'.1, decide_eq_true h'.2]
    rfl
   ·exact .inr (.inr (by omega))
theorem col_mem : (DL p s 2 = 2 ∨ (DL p s 2 = 4 ∧ DL p s 10 = 1) → (Xd p s).m = QN s.m (DL p s 3) (DL p s 4).toNat (DL p s 5)) ∧ (DL p s 2 = 5 → (Xd p s).m = QN s.m (DL p s 3) 4 (sL p s).2.2) ∧ (¬ stores (DL p s) → (Xd p s).m = s.m) := by
 cases hf : fS p s with
 | false =>
  have e : DL p s 2 = 0 := by unfold DL; rw [hf]; rfl
  refine ⟨fun h => ?_, fun h => ?_, fun _ => ?_⟩
  ·rcases h with h | ⟨h, _⟩ <;> omega
  ·omega
  ·rw [Sk hc hf]
 | true =>
  have e2 : DL p s 2 = ((acc p s).k : Int) := by unfold DL; rw [hf]; rfl
  have e3 : DL p s 3 = (acc p s).ad := by unfold DL; rw [hf]; rfl
  have e4 : DL p s 4 = ((acc p s).w : Int) := by unfold DL; rw [hf]; rfl
  have e5 : DL p s 5 = (acc p s).v := by unfold DL; rw [hf]; rfl
  have e10 : DL p s 10 = a7 (O2 p s).2.ok := by unfold DL; rw [hf]; rfl
  have ha := fQ hro hW hs hc
  rw [aaO hc hf]
  refine ⟨fun h => ?_, fun h => ?_, fun h => ?_⟩
  ·show qS p s = _
   rw [e3, e4, e5, Int.toNat_natCast]
   rcases h with h | ⟨h, h'⟩
   ·have h2 : (acc p s).k = 2 := by omega
    simp only [qS, h2]
   ·have h4 : (acc p s).k = 4 := by omega
    have hw := ha.w4 (by omega) (by omega)
    have hok := sc_ok hro hW hs hc h4
    have ht : (O2 p s).2.ok = true := by
     cases ho : (O2 p s).2.ok with
     | true => rfl
     | false => rw [e10, ho] at h'; exact absurd h' (by decide)
    rw [ht] at hok
    simp only [qS, h4, ← hok, hw]
  ·show qS p s = _
   have h5 : (acc p s).k = 5 := by omega
   rw [e3, (uU hro hW hs hc).2.2.1 h5]
   simp only [qS, h5]
  ·show qS p s = _
   have hp : ¬ YG p s := fun hp => h ((col_put hro hW hs hc).2 ⟨hf, hp⟩)
   unfold qS
   split
   ·rename_i h2; exact absurd (.inl h2) hp
   ·rename_i h4
    split
    ·rename_i h1
     rw [Bool.and_eq_true, decide_eq_true_iff] at h1
     exact absurd (.inr (.inl ⟨h4, h1⟩)) hp
    ·rfl
   ·rename_i h5; exact absurd (.inr (.inr h5)) hp
   ·rfl
theorem col_amo (h5 : DL p s 2 = 5) : bc Tryz.prog aj 7 100000 p.ro 20 [.int .i64 (DL p s 6), .int .u32 (DL p s 9), .int .u32 (DL p s 5)] (.int .u32 (sL p s).2.2) ∧ 0 ≤ (sL p s).2.2 ∧ (sL p s).2.2 ≤ 4294967295 := by
 cases hf : fS p s with
 | false =>
  have e : DL p s 2 = 0 := by unfold DL; rw [hf]; rfl
  omega
 | true =>
  have e2 : DL p s 2 = ((acc p s).k : Int) := by unfold DL; rw [hf]; rfl
  have e5 : DL p s 5 = (acc p s).v := by unfold DL; rw [hf]; rfl
  have e6 : DL p s 6 = ((acc p s).op : Int) := by unfold DL; rw [hf]; rfl
  have e9 : DL p s 9 = (O2 p s).2.x := by unfold DL; rw [hf]; rfl
  have h5' : (acc p s).k = 5 := by omega
  have h := (ow hro hW hs hc (xK p s)).cx
  have hb : xK p s = 13 := by simp only [xK, h5']
  have hw := (fQ hro hW hs hc).w4 (by omega) (by omega)
  have ha := uU hro hW hs hc
  have hx : (O2 p s).2.x = ld s.m (acc p s).ad 4 := by
   show (OZ p s (om p s (xK p s)).1 (om p s (xK p s)).2).2.x = _
   rw [h, hb, h5', hw, show Z9 5 4 (om p s 13).1 = (om p s 13).1 % 2 ^ (8 * 4) from if_pos (by decide)]
   have hl := R4 s.m 4 (acc p s).ad
   have h2 : ld s.m (acc p s).ad 4 < 4294967296 := hl.2
   show (ld s.m (acc p s).ad 4) % 4294967296 = _
   exact Int.emod_eq_of_lt hl.1 h2
  rw [e5, e6, e9, hx]
  exact ⟨ha.2.1, ha.2.2.2.2⟩
end
end Go.Proofs.YtmickljjofbmiaaGreatDoor
