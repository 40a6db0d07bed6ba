/- Symbolic execution: the bounds that expressions have by themselves. No condition. -/
import Derived.Test.YtcachlbljjpjdaaGreatDoorSeBv
namespace Go.Proofs.YtcachlbljjpjdaaGreatDoor
open Go

theorem b2i_tt (b : Bool) : (b2i b != 0) = b := by cases b <;> rfl
theorem b2i_zero (b : Bool) : (b2i b == 0) = !b := by cases b <;> rfl
theorem b2i_rg (b : Bool) : 0 ≤ b2i b ∧ b2i b ≤ 1 := by cases b <;> decide
theorem wrap_rg (k : IntKind) (n : Int) : kLo k ≤ k.wrap n ∧ k.wrap n ≤ kHi k := by
  unfold IntKind.wrap
  cases k <;> simp only [kLo, kHi, IntKind.bits, IntKind.signed, Bool.false_and, Bool.true_and, Bool.false_eq_true, if_false, decide_eq_true_eq, Int.reducePow, Nat.reduceSub, ge_iff_le] <;> first | omega | (split <;> omega)
theorem wrap_in {k : IntKind} {n : Int} (h1 : kLo k ≤ n) (h2 : n ≤ kHi k) : k.wrap n = n := by
  unfold IntKind.wrap
  cases k <;> simp only [kLo, kHi, IntKind.bits, IntKind.signed, Bool.false_and, Bool.true_and, Bool.false_eq_true, if_false, decide_eq_true_eq, Int.reducePow, Nat.reduceSub, ge_iff_le] at * <;> first | omega | (split <;> omega)
theorem wrap_wrap (k : IntKind) (n : Int) : k.wrap (k.wrap n) = k.wrap n := wrap_in (wrap_rg k n).1 (wrap_rg k n).2
theorem wrap_mul (k : IntKind) (a b : Int) : k.wrap (k.wrap a * b) = k.wrap (a * b) := by
  have e : ∀ m : Int, (2 ^ k.bits : Int) ∣ k.wrap m - m := by
    intro m
    unfold IntKind.wrap
    have h := Int.emod_add_mul_ediv m (2 ^ k.bits : Int)
    dsimp only
    split
    · exact ⟨-(m / 2 ^ k.bits) - 1, by rw [Int.mul_sub, Int.mul_neg]; omega⟩
    · exact ⟨-(m / 2 ^ k.bits), by rw [Int.mul_neg]; omega⟩
  have key : ∀ x y : Int, (2 ^ k.bits : Int) ∣ x - y → k.wrap x = k.wrap y := by
    intro x y h
    have : x % (2 ^ k.bits : Int) = y % (2 ^ k.bits : Int) := by
      obtain ⟨c, hc⟩ := h
      rw [show x = y + 2 ^ k.bits * c by omega, Int.add_mul_emod_self_left]
    unfold IntKind.wrap
    rw [this]
  refine key _ _ ?_
  obtain ⟨c, hc⟩ := e a
  exact ⟨c * b, by rw [← Int.sub_mul, hc, Int.mul_assoc]⟩
theorem imin_le (a b : Int) : imin a b ≤ a ∧ imin a b ≤ b := by
  unfold imin
  split
  · rename_i h; have := of_decide_eq_true h; omega
  · rename_i h; have := of_decide_eq_false h; omega
theorem le_imax (a b : Int) : a ≤ imax a b ∧ b ≤ imax a b := by
  unfold imax
  split
  · rename_i h; have := of_decide_eq_true h; omega
  · rename_i h; have := of_decide_eq_false h; omega
theorem imin_or (a b : Int) : imin a b = a ∨ imin a b = b := by
  unfold imin
  split <;> simp
theorem bvDen_rg {ρ : Env} : ∀ (l : List B) (t : B), -Int.ofNat (2 ^ l.length) ≤ bvDen ρ l t ∧ bvDen ρ l t ≤ Int.ofNat (2 ^ l.length) - 1
  | [], t => by
    have := b2i_rg (t.den ρ)
    simp only [bvDen, List.length_nil, Nat.pow_zero]
    show -1 ≤ _ ∧ _ ≤ (1 : Int) - 1
    omega
  | b :: l, t => by
    have h1 := bvDen_rg (ρ := ρ) l t
    have h2 := b2i_rg (b.den ρ)
    simp only [bvDen, List.length_cons, Nat.pow_succ]
    have e : Int.ofNat (2 ^ l.length * 2) = 2 * Int.ofNat (2 ^ l.length) := by
      show ((2 ^ l.length * 2 : Nat) : Int) = 2 * ((2 ^ l.length : Nat) : Int)
      omega
    rw [e]
    omega
theorem bv_ext {ρ : Env} {l m : List B} {t u : B} (h : ∀ i, bitAt ρ l t i = bitAt ρ m u i) : bvDen ρ l t = bvDen ρ m u := by
  have h1 := bvDen_rg (ρ := ρ) l t
  have h2 := bvDen_rg (ρ := ρ) m u
  have e1 := bvDen_low (ρ := ρ) l t (l.length + m.length + 1)
  have e2 := bvDen_low (ρ := ρ) m u (l.length + m.length + 1)
  rw [lowN_congr (fun i _ => h i), ← e2] at e1
  have p1 : (2 : Nat) ^ l.length ≤ 2 ^ (l.length + m.length) := Nat.pow_le_pow_right (by omega) (by omega)
  have p2 : (2 : Nat) ^ m.length ≤ 2 ^ (l.length + m.length) := Nat.pow_le_pow_right (by omega) (by omega)
  have p3 : (2 : Int) ^ (l.length + m.length + 1) = 2 * ((2 ^ (l.length + m.length) : Nat) : Int) := by rw [Int.pow_succ, Int.mul_comm]; simp
  rw [p3] at e1
  have q1 : -(((2 ^ l.length : Nat) : Int)) ≤ bvDen ρ l t ∧ bvDen ρ l t ≤ ((2 ^ l.length : Nat) : Int) - 1 := h1
  have q2 : -(((2 ^ m.length : Nat) : Int)) ≤ bvDen ρ m u ∧ bvDen ρ m u ≤ ((2 ^ m.length : Nat) : Int) - 1 := h2
  generalize 2 ^ (l.length + m.length) = K at *
  generalize 2 ^ l.length = A at *
  generalize 2 ^ m.length = C at *
  generalize bvDen ρ l t = x at *
  generalize bvDen ρ m u = y at *
  have hd : (2 * (K : Int)) ∣ (x - y) := Int.dvd_of_emod_eq_zero (by rw [Int.sub_emod, e1]; simp)
  have hz : x - y = 0 := Int.eq_zero_of_dvd_of_natAbs_lt_natAbs hd (by omega)
  omega
theorem mul_abs {A B a b : Int} (h1 : -A ≤ a) (h2 : a ≤ A) (h3 : -B ≤ b) (h4 : b ≤ B) : -(A*B) ≤ a*b ∧ a*b ≤ A*B := by
  have e1 := Int.mul_nonneg (show 0 ≤ A - a by omega) (show 0 ≤ B + b by omega)
  have e2 := Int.mul_nonneg (show 0 ≤ A + a by omega) (show 0 ≤ B - b by omega)
  have e3 := Int.mul_nonneg (show 0 ≤ A - a by omega) (show 0 ≤ B - b by omega)
  have e4 := Int.mul_nonneg (show 0 ≤ A + a by omega) (show 0 ≤ B + b by omega)
  simp only [Int.sub_mul, Int.add_mul, Int.mul_sub, Int.mul_add] at e1 e2 e3 e4
  omega
def Rg.has (r : Rg) (n : Int) : Prop := r.lo ≤ n ∧ n ≤ r.hi
theorem Rg.abs_has {r : Rg} {n : Int} (h : r.has n) : -r.abs ≤ n ∧ n ≤ r.abs := by
  have := le_imax r.hi (-r.lo)
  obtain ⟨h1, h2⟩ := h
  unfold Rg.abs
  omega
theorem tdiv_abs {a b m : Int} (h : -m ≤ a ∧ a ≤ m) : -m ≤ a.tdiv b ∧ a.tdiv b ≤ m := by
  have h1 := Int.natAbs_tdiv a b
  have h2 : (a.tdiv b).natAbs ≤ a.natAbs := by rw [h1]; exact Nat.div_le_self _ _
  omega
theorem tmod_abs {a b m : Int} (h : -m ≤ a ∧ a ≤ m) : -m ≤ a.tmod b ∧ a.tmod b ≤ m := by
  have h1 := Int.natAbs_tmod a b
  have h2 : (a.tmod b).natAbs ≤ a.natAbs := by rw [h1]; exact Nat.mod_le _ _
  omega
theorem rgMul_has {a b : Rg} {x y : Int} (h1 : a.has x) (h2 : b.has y) : (rgMul a b).has (x * y) := by
  unfold rgMul
  split
  · rename_i e1 e2
    have e1 := of_decide_eq_true e1
    have e2 := of_decide_eq_true e2
    obtain ⟨h1, h3⟩ := h1
    obtain ⟨h2, h4⟩ := h2
    exact ⟨Int.mul_le_mul h1 h2 e2 (by omega), Int.mul_le_mul h3 h4 (by omega) (by omega)⟩
  · exact mul_abs (Rg.abs_has h1).1 (Rg.abs_has h1).2 (Rg.abs_has h2).1 (Rg.abs_has h2).2
theorem rgQuo_has {a : Rg} {x y : Int} {m : Option Int} (h1 : a.has x) (h2 : ∀ n, m = some n → y = n) : (rgQuo a m).has (x.tdiv y) := by
  unfold rgQuo
  split
  · rename_i n
    obtain rfl := h2 n rfl
    split
    · rename_i e1 e2
      have e1 := of_decide_eq_true e1
      have e2 := of_decide_eq_true e2
      have hx : 0 ≤ x := Int.le_trans e1 h1.1
      refine ⟨?_, ?_⟩
      · rw [Int.tdiv_eq_ediv_of_nonneg hx]; exact Int.ediv_nonneg hx (by omega)
      · rw [Int.tdiv_eq_ediv_of_nonneg hx]; exact Int.ediv_le_ediv e2 h1.2
    · exact tdiv_abs (Rg.abs_has h1)
  · exact tdiv_abs (Rg.abs_has h1)
theorem rgRem_has {a : Rg} {x y : Int} {m : Option Int} (h1 : a.has x) (h2 : ∀ n, m = some n → y = n) : (rgRem a m).has (x.tmod y) := by
  unfold rgRem
  split
  · rename_i n
    obtain rfl := h2 n rfl
    split
    · rename_i e1
      have e1 := of_decide_eq_true e1
      have l1 := Int.tmod_lt_of_pos x e1
      have l2 := Int.lt_tmod_of_pos x e1
      split
      · rename_i e2
        have e2 := of_decide_eq_true e2
        have hx : 0 ≤ x := Int.le_trans e2 h1.1
        have h3 := Int.tmod_eq_emod_of_nonneg (b := y) hx
        have h4 := Int.emod_nonneg x (show y ≠ 0 by omega)
        have h5 : x % y ≤ x := by
          have := Int.emod_add_mul_ediv x y
          have := Int.mul_nonneg (show 0 ≤ y by omega) (Int.ediv_nonneg hx (show 0 ≤ y by omega))
          omega
        refine ⟨by rw [h3]; exact h4, ?_⟩
        rcases imin_or a.hi (y - 1) with e | e <;> dsimp only <;> rw [e]
        · have := h1.2; omega
        · omega
      · exact ⟨by dsimp only; omega, by dsimp only; omega⟩
    · exact tmod_abs (Rg.abs_has h1)
  · split
    · rename_i e1
      have e1 := of_decide_eq_true e1
      have hx : 0 ≤ x := Int.le_trans e1 h1.1
      obtain ⟨h2, h3⟩ := tmod_abs (a := x) (b := y) (m := x) ⟨by omega, Int.le_refl _⟩
      refine ⟨?_, Int.le_trans h3 h1.2⟩
      have h4 := Int.natAbs_tmod x y
      have h5 : 0 ≤ x.tmod y := Int.tmod_nonneg y hx
      exact h5
    · exact tmod_abs (Rg.abs_has h1)
theorem rg2_some {f : Rg → Rg → Rg} {a b : Option Rg} {r : Rg} (h : rg2 f a b = some r) : ∃ x y, a = some x ∧ b = some y ∧ r = f x y := by
  unfold rg2 at h
  split at h
  · cases h
  · split at h
    · cases h
    · exact ⟨_, _, rfl, rfl, (Option.some.inj h).symm⟩
theorem bitsI_rg (o : Nat) (k : IntKind) (a b : Int) : kLo k ≤ bitsI o k a b ∧ bitsI o k a b ≤ kHi k := by
  unfold bitsI
  split <;> exact wrap_rg k _
theorem litI_ok {ρ : Env} {b : X} (n : Int) (h : litI b = some n) : b.den ρ = n := by
  unfold litI at h
  split at h
  · obtain rfl := Option.some.inj h; rfl
  · cases h
theorem rng_ok {ρ : Env} : ∀ {x : X} {r : Rg}, rng x = some r → r.has (x.den ρ) := by
  intro x
  induction x with
  | lit n => intro r h; obtain rfl := Option.some.inj h; exact ⟨Int.le_refl _, Int.le_refl _⟩
  | wrap k a _ => intro r h; obtain rfl := Option.some.inj h; exact wrap_rg k _
  | bits o k a b _ _ => intro r h; obtain rfl := Option.some.inj h; exact bitsI_rg o k _ _
  | shl k a b _ _ => intro r h; obtain rfl := Option.some.inj h; exact wrap_rg k _
  | bv l t =>
    intro r h
    unfold rng at h
    have h0 := bvDen_rg (ρ := ρ) l t
    split at h
    · obtain rfl := Option.some.inj h
      have := bvDen_zero_nonneg (ρ := ρ) l
      exact ⟨by simp only [X.den]; omega, h0.2⟩
    · obtain rfl := Option.some.inj h
      exact h0
  | eq a b _ _ => intro r h; obtain rfl := Option.some.inj h; exact b2i_rg _
  | lt a b _ _ => intro r h; obtain rfl := Option.some.inj h; exact b2i_rg _
  | le a b _ _ => intro r h; obtain rfl := Option.some.inj h; exact b2i_rg _
  | not a _ => intro r h; obtain rfl := Option.some.inj h; exact b2i_rg _
  | seq a b _ _ => intro r h; obtain rfl := Option.some.inj h; exact b2i_rg _
  | cube m v => intro r h; obtain rfl := Option.some.inj h; exact b2i_rg _
  | ite c a b _ ia ib =>
    intro r h
    obtain ⟨x, y, hx, hy, rfl⟩ := rg2_some (show rg2 _ (rng a) (rng b) = some r from h)
    have h1 := ia hx
    have h2 := ib hy
    have m1 := imin_le x.lo y.lo
    have m2 := le_imax x.hi y.hi
    simp only [X.den]
    split
    · exact ⟨Int.le_trans m1.2 h2.1, Int.le_trans h2.2 m2.2⟩
    · exact ⟨Int.le_trans m1.1 h1.1, Int.le_trans h1.2 m2.1⟩
  | add a b ia ib =>
    intro r h
    obtain ⟨x, y, hx, hy, rfl⟩ := rg2_some (show rg2 _ (rng a) (rng b) = some r from h)
    obtain ⟨h1, h2⟩ := ia hx
    obtain ⟨h3, h4⟩ := ib hy
    exact ⟨by simp only [X.den]; omega, by simp only [X.den]; omega⟩
  | sub a b ia ib =>
    intro r h
    obtain ⟨x, y, hx, hy, rfl⟩ := rg2_some (show rg2 _ (rng a) (rng b) = some r from h)
    obtain ⟨h1, h2⟩ := ia hx
    obtain ⟨h3, h4⟩ := ib hy
    exact ⟨by simp only [X.den]; omega, by simp only [X.den]; omega⟩
  | mul a b ia ib =>
    intro r h
    obtain ⟨x, y, hx, hy, rfl⟩ := rg2_some (show rg2 _ (rng a) (rng b) = some r from h)
    exact rgMul_has (ia hx) (ib hy)
  | quo a b ia _ =>
    intro r h
    unfold rng at h
    split at h
    · rename_i s hs
      obtain rfl := Option.some.inj h
      exact rgQuo_has (ia hs) fun n hn => litI_ok n hn
    · cases h
  | rem a b ia _ =>
    intro r h
    unfold rng at h
    split at h
    · rename_i s hs
      obtain rfl := Option.some.inj h
      exact rgRem_has (ia hs) fun n hn => litI_ok n hn
    · cases h
  | shr k a b ia _ =>
    intro r h
    unfold rng at h
    split at h
    · rename_i s hs
      obtain rfl := Option.some.inj h
      obtain ⟨h1, h2⟩ := ia hs
      have m1 := imin_le s.lo 0
      have m2 := le_imax s.hi 0
      simp only [X.den, shrI]
      generalize min (b.den ρ).toNat k.bits = p
      have hp : (0 : Int) < 2 ^ p := Int.pow_pos (by omega)
      rw [Int.fdiv_eq_ediv_of_nonneg _ (Int.le_of_lt hp)]
      generalize (2 : Int) ^ p = q at hp
      generalize a.den ρ = z at *
      have e := Int.emod_add_mul_ediv z q
      have e1 := Int.emod_nonneg z (show q ≠ 0 by omega)
      have e2 := Int.emod_lt_of_pos z hp
      refine ⟨?_, ?_⟩
      · dsimp only
        rcases Int.lt_or_le z 0 with hz | hz
        · have : z ≤ z / q := by
            rw [Int.le_ediv_iff_mul_le hp]
            have := Int.mul_le_mul_of_nonpos_left (show z ≤ 0 by omega) (show (1 : Int) ≤ q by omega)
            omega
          omega
        · have := Int.ediv_nonneg hz (Int.le_of_lt hp); omega
      · dsimp only
        rcases Int.lt_or_le z 0 with hz | hz
        · have : z / q ≤ 0 := Int.ediv_le_of_le_mul hp (by omega)
          omega
        · have := Int.ediv_le_self q hz
          omega
    · cases h
  | _ => intro r h; cases h
theorem inK_ok {ρ : Env} {k : IntKind} {x : X} (h : inK k x = true) : kLo k ≤ x.den ρ ∧ x.den ρ ≤ kHi k := by
  unfold inK at h
  split at h
  · rename_i r hr
    obtain ⟨h1, h2⟩ := rng_ok (ρ := ρ) hr
    split at h
    · rename_i h3
      have h3 := of_decide_eq_true h3
      have h4 := of_decide_eq_true h
      omega
    · cases h
  · cases h
theorem nonneg_ok {ρ : Env} {x : X} (h : nonneg x = true) : 0 ≤ x.den ρ := by
  unfold nonneg at h
  split at h
  · rename_i r hr
    have := (rng_ok (ρ := ρ) hr).1
    have := of_decide_eq_true h
    omega
  · cases h
theorem mulWrap_den (ρ : Env) (k : IntKind) (a : X) : (mulWrap k a).den ρ = k.wrap (a.den ρ) := by
  unfold mulWrap
  split
  · split
    · rename_i j x m n h
      obtain rfl := kindBeq_eq h
      simp only [X.den]
      rw [wrap_mul, Int.mul_assoc]
    · simp only [X.den]
  · simp only [X.den]
theorem wrapR_den (ρ : Env) (k : IntKind) (a : X) : (wrapR k a).den ρ = k.wrap (a.den ρ) := by
  unfold wrapR
  split
  · rename_i h
    have := inK_ok (ρ := ρ) h
    rw [wrap_in this.1 this.2]
  · exact mulWrap_den ρ k a
end Go.Proofs.YtcachlbljjpjdaaGreatDoor
