/- Symbolic execution, part 4: expressions and tests mean what they say. No condition. -/
import Derived.Test.YtcachlbljjpjdaaGreatDoorSeRg
namespace Go.Proofs.YtcachlbljjpjdaaGreatDoor
open Go

section
variable (ρ : Env)
theorem mkWrap_den (k : IntKind) (a : X) : (mkWrap k a).den ρ = k.wrap (a.den ρ) := by
  unfold mkWrap
  split
  · simp [X.den]
  · rw [mkBvW_den]; rfl
  · exact wrapR_den ρ k _
theorem isZ_ok {a : X} (h : isZ a = true) : a.den ρ = 0 := by
  unfold isZ at h
  split at h
  · simp only [X.den]; exact intBeq_eq h
  · cases h
theorem addD_den (k : IntKind) (a b : X) : (addD k a b).den ρ = k.wrap (a.den ρ + b.den ρ) := by
  unfold addD
  split
  · rename_i h
    rw [wrapR_den, isZ_ok ρ h, Int.add_zero]
  · split
    · rename_i h
      rw [wrapR_den, isZ_ok ρ h, Int.zero_add]
    · rw [wrapR_den]; simp only [X.den]
theorem mkAdd_den (k : IntKind) (a b : X) : (mkAdd k a b).den ρ = k.wrap (a.den ρ + b.den ρ) := by
  unfold mkAdd; split
  · simp [X.den]
  · have hd : (addD k a b).den ρ = k.wrap (a.den ρ + b.den ρ) := addD_den ρ k a b
    refine bothB_elim (ρ := ρ) (Pr := fun x : X => x.den ρ = k.wrap (a.den ρ + b.den ρ)) hd fun l t m u ha hb => ?_
    refine optBv_den (by rw [hd, ha, hb]) fun r s h => ?_
    rw [ha, hb, ← addB_den h]
    simp [b2i]
theorem mkSub_den (k : IntKind) (a b : X) : (mkSub k a b).den ρ = k.wrap (a.den ρ - b.den ρ) := by
  unfold mkSub; split
  · simp [X.den]
  · rename_i n _
    have hd : (wrapR k (.sub a (.lit n))).den ρ = k.wrap (a.den ρ - (X.lit n).den ρ) := wrapR_den ρ k _
    refine bothB_elim (ρ := ρ) (Pr := fun x : X => x.den ρ = k.wrap (a.den ρ - (X.lit n).den ρ)) hd fun l t m u ha hb => ?_
    refine optBv_den hd fun r s h => ?_
    rw [ha, ← addB_den h, ← hb]
    simp [b2i, X.den, Int.sub_eq_add_neg]
  · have hd : (wrapR k (.sub a b)).den ρ = k.wrap (a.den ρ - b.den ρ) := wrapR_den ρ k _
    refine bothB_elim (ρ := ρ) (Pr := fun x : X => x.den ρ = k.wrap (a.den ρ - b.den ρ)) hd fun l t m u ha hb => ?_
    refine optBv_den hd fun r s h => ?_
    rw [ha, hb, ← subB_den h]
theorem mulBv_den {k : IntKind} {l : List B} {t : B} {n : Int} {d : X} (hd : d.den ρ = k.wrap (bvDen ρ l t * n)) : (mulBv k l t n d).den ρ = k.wrap (bvDen ρ l t * n) := by
  unfold mulBv
  split
  · rename_i n
    split
    · rename_i s hs
      rw [mkBvW_den, zerosB_den, pow2_eq hs]
      simp
    · exact hd
  · exact hd
theorem mkMul_den (k : IntKind) (a b : X) : (mkMul k a b).den ρ = k.wrap (a.den ρ * b.den ρ) := by
  unfold mkMul; split
  · simp [X.den]
  · exact mulBv_den ρ (by rw [wrapR_den]; simp only [X.den])
  · rename_i n l t
    rw [Int.mul_comm]
    exact mulBv_den ρ (n := n) (by rw [wrapR_den]; simp only [X.den, Int.mul_comm])
  · rw [wrapR_den]; simp only [X.den]
theorem quoBv_den {k : IntKind} {l : List B} {t : B} {n : Int} {d : X} (hd : d.den ρ = k.wrap ((bvDen ρ l t).tdiv n)) : (quoBv k l t n d).den ρ = k.wrap ((bvDen ρ l t).tdiv n) := by
  unfold quoBv
  split
  · rename_i n
    split
    · rename_i s hs
      rw [mkBvW_den, dropB_den, pow2_eq hs, Int.tdiv_eq_ediv_of_nonneg (bvDen_zero_nonneg l)]
      simp
    · exact hd
  · exact hd
theorem mkQuo_den (k : IntKind) (a b : X) : (mkQuo k a b).den ρ = k.wrap ((a.den ρ).tdiv (b.den ρ)) := by
  unfold mkQuo; split
  · simp [X.den]
  · exact quoBv_den ρ (by rw [wrapR_den]; simp only [X.den])
  · rw [wrapR_den]; simp only [X.den]
theorem kOf_ok {n : Int} {k : IntKind} (h : kOf n = some k) : k.signed = false ∧ n = 2 ^ k.bits := by
  unfold kOf at h
  split at h
  · rename_i e; obtain rfl := Option.some.inj h; exact ⟨rfl, intBeq_eq e⟩
  · split at h
    · rename_i e; obtain rfl := Option.some.inj h; exact ⟨rfl, intBeq_eq e⟩
    · split at h
      · rename_i e; obtain rfl := Option.some.inj h; exact ⟨rfl, intBeq_eq e⟩
      · cases h
theorem remLit_den (a : X) (n : Int) : (remLit a n).den ρ = (a.den ρ).tmod n := by
  unfold remLit
  split
  · simp only [X.den]
  · rename_i r hr
    obtain ⟨h1, h2⟩ := rng_ok (ρ := ρ) hr
    split
    · simp only [X.den]
    · rename_i h3
      have h3 := of_decide_eq_true h3
      rw [Int.tmod_eq_emod_of_nonneg (by omega)]
      split
      · rename_i h4
        have h4 := of_decide_eq_true h4
        exact (Int.emod_eq_of_lt (by omega) (by omega)).symm
      · split
        · rename_i k hk
          obtain ⟨h5, h6⟩ := kOf_ok hk
          rw [mulWrap_den, h6]
          simp [IntKind.wrap, h5]
        · simp only [X.den]
          rw [Int.tmod_eq_emod_of_nonneg (by omega)]
theorem remBv_den {l : List B} {t : B} {n : Int} {d : X} (hd : d.den ρ = (bvDen ρ l t).tmod n) : (remBv l t n d).den ρ = (bvDen ρ l t).tmod n := by
  unfold remBv
  split
  · rename_i n
    split
    · split
      · rename_i s hs
        rw [mkBv_den, clipU_den, ← bvDen_low, pow2_eq hs, Int.tmod_eq_emod_of_nonneg (bvDen_zero_nonneg l)]
        simp
      · exact hd
    · split
      · rename_i hn
        have hn' := Nat.eq_of_beq_eq_true hn
        subst hn'
        split
        · rename_i b l'
          rw [mkBv_den, bvDen_nil]
          have h1 := bvDen_one_neg (ρ := ρ) (b :: l')
          have h2 : (bvDen ρ (b :: l') .one).tmod 2 = -((-bvDen ρ (b :: l') .one).tmod 2) := by rw [Int.neg_tmod, Int.neg_neg]
          rw [show (Int.ofNat 2) = 2 from rfl, h2, Int.tmod_eq_emod_of_nonneg (by omega)]
          rw [bvDen_cons] at h1 ⊢
          rcases b2i_01 (b.den ρ) with h | h <;> omega
        · exact hd
      · exact hd
    · exact hd
  · exact hd
theorem mkRem_den (a b : X) : (mkRem a b).den ρ = (a.den ρ).tmod (b.den ρ) := by
  unfold mkRem; split
  · simp [X.den]
  · exact remBv_den ρ (by simp [X.den])
  · exact remLit_den ρ _ _
  · simp [X.den]
theorem mask_low {k : IntKind} {j : Nat} {x : Int} (hj : j < k.bits) (h0 : 0 ≤ x) (h1 : x ≤ kHi k) :
    k.wrap ((BitVec.ofInt k.bits x &&& BitVec.ofInt k.bits (((2 ^ j - 1 : Nat) : Int))).toNat : Int) = x % (2 ^ j : Nat) ∧
    k.wrap ((BitVec.ofInt k.bits x &&& ~~~BitVec.ofInt k.bits (((2 ^ j - 1 : Nat) : Int))).toNat : Int) = x - x % (2 ^ j : Nat) := by
  obtain ⟨n, rfl⟩ := Int.eq_ofNat_of_zero_le h0
  have hn : n < 2 ^ k.bits := by
    have : (n : Int) ≤ kHi k := h1
    cases k <;> simp only [kHi, IntKind.bits] at this ⊢ <;> omega
  have hp : 2 ^ j < 2 ^ k.bits := Nat.pow_lt_pow_right (by omega) hj
  have hp0 : 0 < 2 ^ j := Nat.two_pow_pos j
  have e1 : (BitVec.ofInt k.bits (n : Int)).toNat = n := by
    rw [BitVec.toNat_ofInt]
    have : ((n : Int) % ((2 ^ k.bits : Nat) : Int)) = n := Int.emod_eq_of_lt (by omega) (by omega)
    rw [this]
    rfl
  have e2 : (BitVec.ofInt k.bits ((2 ^ j - 1 : Nat) : Int)).toNat = 2 ^ j - 1 := by
    rw [BitVec.toNat_ofInt]
    have : (((2 ^ j - 1 : Nat) : Int) % ((2 ^ k.bits : Nat) : Int)) = ((2 ^ j - 1 : Nat) : Int) := Int.emod_eq_of_lt (by omega) (by omega)
    rw [this]
    rfl
  have hm : n % 2 ^ j ≤ n := Nat.mod_le _ _
  constructor
  · rw [BitVec.toNat_and, e1, e2, Nat.and_two_pow_sub_one_eq_mod]
    have h2 : kLo k ≤ ((n % 2 ^ j : Nat) : Int) := by
      have : kLo k ≤ 0 := by cases k <;> decide
      omega
    rw [wrap_in h2 (by omega)]
    rfl
  · have e3 : (BitVec.ofInt k.bits (n : Int) &&& ~~~BitVec.ofInt k.bits ((2 ^ j - 1 : Nat) : Int)).toNat = n - n % 2 ^ j := by
      rw [BitVec.toNat_and, BitVec.toNat_not, e1, e2]
      apply Nat.eq_of_testBit_eq
      intro i
      have h5 : n - n % 2 ^ j = 2 ^ j * (n / 2 ^ j) := by
        have := Nat.mod_add_div n (2 ^ j)
        omega
      rw [h5, Nat.testBit_and, Nat.mul_comm, Nat.testBit_mul_two_pow]
      rw [show 2 ^ k.bits - 1 - (2 ^ j - 1) = 2 ^ k.bits - ((2 ^ j - 1) + 1) by omega, Nat.testBit_two_pow_sub_succ (by omega)]
      rw [Nat.testBit_two_pow_sub_one]
      by_cases hi : i < j
      · simp [hi, show ¬ j ≤ i by omega]
      · have : j ≤ i := by omega
        simp [hi, this, Nat.testBit_div_two_pow]
        intro hb
        rcases Nat.lt_or_ge i k.bits with h | h
        · exact h
        · have : n < 2 ^ i := Nat.lt_of_lt_of_le hn (Nat.pow_le_pow_right (by omega) h)
          rw [Nat.testBit_lt_two_pow this] at hb
          cases hb
    rw [e3]
    have h2 : kLo k ≤ ((n - n % 2 ^ j : Nat) : Int) := by
      have : kLo k ≤ 0 := by cases k <;> decide
      omega
    rw [wrap_in h2 (by omega)]
    have : ((n % 2 ^ j : Nat) : Int) = (n : Int) % ((2 ^ j : Nat) : Int) := by simp
    omega
theorem maskLit_den {o : Nat} {k : IntKind} {a : X} {m : Int} {d : X} (hd : d.den ρ = bitsI o k (a.den ρ) m) : (maskLit o k a m d).den ρ = bitsI o k (a.den ρ) m := by
  unfold maskLit
  split
  · rename_i m
    split
    · rename_i h1 h2
      split
      · rename_i j hj
        split
        · rename_i hb
          have hb := Nat.le_of_ble_eq_true hb
          have e := pow2_eq hj
          obtain rfl : m = 2 ^ j - 1 := by omega
          obtain ⟨m1, m2⟩ := mask_low (x := a.den ρ) hb (nonneg_ok h1) (inK_ok (ρ := ρ) h2).2
          have h0 := nonneg_ok (ρ := ρ) h1
          split
          · rw [remLit_den, Int.tmod_eq_emod_of_nonneg h0]
            exact m1.symm
          · have h3 := (inK_ok (ρ := ρ) h2).2
            have h4 : 0 ≤ a.den ρ % ((2 ^ j : Nat) : Int) := Int.emod_nonneg _ (by have := Nat.two_pow_pos j; omega)
            have h5 : a.den ρ % ((2 ^ j : Nat) : Int) ≤ a.den ρ := by
              have e1 := Int.emod_add_mul_ediv (a.den ρ) ((2 ^ j : Nat) : Int)
              have e2 := Int.mul_nonneg (show (0 : Int) ≤ ((2 ^ j : Nat) : Int) by omega) (Int.ediv_nonneg h0 (show (0 : Int) ≤ ((2 ^ j : Nat) : Int) by omega))
              omega
            have h6 : kLo k ≤ 0 := by cases k <;> decide
            rw [wrapR_den]
            simp only [X.den]
            rw [remLit_den, Int.tmod_eq_emod_of_nonneg h0, show (Int.ofNat (2 ^ j)) = ((2 ^ j : Nat) : Int) from rfl, wrap_in (by omega) (by omega)]
            exact m2.symm
          · exact hd
        · exact hd
      · exact hd
    · exact hd
  · exact hd
theorem bitsD_den (o : Nat) (k : IntKind) (a b : X) : (bitsD o k a b).den ρ = bitsI o k (a.den ρ) (b.den ρ) := by
  unfold bitsD
  split
  · exact maskLit_den ρ rfl
  · rfl
theorem mkBits_den (o : Nat) (k : IntKind) (a b : X) : (mkBits o k a b).den ρ = bitsI o k (a.den ρ) (b.den ρ) := by
  unfold mkBits; split
  · simp [X.den]
  · refine bothB_elim (ρ := ρ) (Pr := fun x : X => x.den ρ = bitsI o k (a.den ρ) (b.den ρ)) (bitsD_den ρ o k a b) fun l t m u ha hb => ?_
    unfold optBv
    split
    · rename_i r s h
      rw [mkBvW_den, ha, hb, bits_zip k h]
    · exact bitsD_den ρ o k a b
theorem mkShl_den (k : IntKind) (a b : X) : (mkShl k a b).den ρ = shlI k (a.den ρ) (b.den ρ) := by
  unfold mkShl; split
  · simp [X.den]
  · rw [mkBvW_den, zerosB_den]; rfl
  · rw [wrapR_den]
    simp only [X.den, shlI]
    simp
  · simp [X.den]
theorem mkShr_den (k : IntKind) (a b : X) : (mkShr k a b).den ρ = shrI k (a.den ρ) (b.den ρ) := by
  unfold mkShr; split
  · simp [X.den]
  · rw [mkBv_den, dropB_den]
    simp only [X.den, shrI]
    rw [Int.fdiv_eq_ediv_of_nonneg]
    exact Int.le_of_lt (Int.pow_pos (by omega))
  · split
    · rename_i h
      have h0 := nonneg_ok (ρ := ρ) h
      simp only [X.den, shrI]
      rw [Int.tdiv_eq_ediv_of_nonneg h0, Int.fdiv_eq_ediv_of_nonneg]
      · simp
      · exact Int.le_of_lt (Int.pow_pos (by omega))
    · simp [X.den]
  · simp [X.den]
theorem apart_ok {a b : X} (h : apart a b = true) : (a.den ρ == b.den ρ) = false := by
  unfold apart at h
  split at h
  · cases h
  · rename_i r hr
    obtain ⟨h1, h2⟩ := rng_ok (ρ := ρ) hr
    split at h
    · cases h
    · rename_i s hs
      obtain ⟨h3, h4⟩ := rng_ok (ρ := ρ) hs
      refine beq_eq_false_iff_ne.2 fun e => ?_
      split at h
      · rename_i h5
        have h5 := of_decide_eq_true h5
        omega
      · have h := of_decide_eq_true h
        omega
theorem wrap_mod (k : IntKind) (n m : Int) (h1 : kLo k ≤ m) (h2 : m ≤ kHi k) : k.wrap n = m ↔ n % (2 ^ k.bits : Int) = m % (2 ^ k.bits : Int) := by
  unfold IntKind.wrap
  cases k <;> simp only [kLo, kHi, IntKind.bits, IntKind.signed, Bool.false_and, Bool.true_and, Bool.false_eq_true, if_false, decide_eq_true_eq, Int.reducePow, Nat.reduceSub, ge_iff_le] at * <;> first | omega | (split <;> omega)
theorem unwrap_den {k : IntKind} {a : X} {m : Int} {d : X} (hd : d.den ρ = b2i (k.wrap (a.den ρ) == m)) : (unwrap k a m d).den ρ = b2i (k.wrap (a.den ρ) == m) := by
  unfold unwrap
  split
  · exact hd
  · rename_i r hr
    obtain ⟨h1, h2⟩ := rng_ok (ρ := ρ) hr
    split
    · rename_i e1 e2 e3
      have e1 := of_decide_eq_true e1
      have e2 := of_decide_eq_true e2
      have e3 := of_decide_eq_true e3
      have hp : (0 : Int) < Int.ofNat (2 ^ k.bits) := by
        show (0 : Int) < ((2 ^ k.bits : Nat) : Int)
        have := Nat.two_pow_pos k.bits
        omega
      have hpe : Int.ofNat (2 ^ k.bits) = (2 : Int) ^ k.bits := by simp
      have hw := wrap_mod k (a.den ρ) m e2 e3
      generalize hP : Int.ofNat (2 ^ k.bits) = p at *
      rw [← hpe] at hw
      have key : (k.wrap (a.den ρ) = m) ↔ a.den ρ = r.lo + (m - r.lo) % p := by
        rw [hw]
        have q1 := Int.emod_nonneg (m - r.lo) (show p ≠ 0 by omega)
        have q2 := Int.emod_lt_of_pos (m - r.lo) hp
        have q3 := Int.emod_add_mul_ediv (m - r.lo) p
        constructor
        · intro h
          have h3 : (a.den ρ - r.lo) % p = (m - r.lo) % p := by rw [Int.sub_emod, h, ← Int.sub_emod]
          rw [Int.emod_eq_of_lt (by omega) (by omega)] at h3
          omega
        · intro h
          rw [h, show r.lo + (m - r.lo) % p = m + p * -((m - r.lo) / p) by rw [Int.mul_neg]; omega, Int.add_mul_emod_self_left]
      dsimp only
      split
      · simp only [X.den]
        congr 1
        rw [Bool.eq_iff_iff, beq_iff_eq, beq_iff_eq, key]
      · rename_i e4
        have e4 := of_decide_eq_false e4
        have : (k.wrap (a.den ρ) == m) = false := beq_eq_false_iff_ne.2 fun e => by
          have := key.1 e
          omega
        rw [this]
        rfl
    · exact hd
theorem eqLit_den (a : X) (m : Int) : (eqLit a m).den ρ = b2i (a.den ρ == m) := by
  unfold eqLit
  split
  · rename_i h
    have := apart_ok ρ h
    simp only [X.den] at this
    rw [this]
    rfl
  · split
    · exact unwrap_den ρ (by simp only [X.den])
    · rename_i c p q _
      have e : ((X.ite c (.lit p) (.lit q)).den ρ == m) = if c.den ρ == 0 then q == m else p == m := by
        simp only [X.den]
        split <;> rfl
      rw [e]
      split <;> rename_i h1 h2 <;> rw [intBeq_iff] at h1 h2 <;> rw [h1, h2] <;> simp only [X.den] <;> split <;> rfl
    · simp only [X.den]
theorem eqD_den (a b : X) : (eqD a b).den ρ = b2i (a.den ρ == b.den ρ) := by
  unfold eqD
  split
  · exact eqLit_den ρ _ _
  · split
    · rename_i h
      rw [apart_ok ρ h]
      rfl
    · simp only [X.den]
theorem ltD_den (a b : X) : (ltD a b).den ρ = b2i (decide (a.den ρ < b.den ρ)) := by
  unfold ltD
  split
  · simp only [X.den]
  · rename_i r hr
    obtain ⟨h1, h2⟩ := rng_ok (ρ := ρ) hr
    split
    · simp only [X.den]
    · rename_i s hs
      obtain ⟨h3, h4⟩ := rng_ok (ρ := ρ) hs
      split
      · rename_i h; have h := of_decide_eq_true h
        rw [decide_eq_true (by omega)]; rfl
      · split
        · rename_i h; have h := of_decide_eq_true h
          rw [decide_eq_false (by omega)]; rfl
        · simp only [X.den]
theorem leD_den (a b : X) : (leD a b).den ρ = b2i (decide (a.den ρ ≤ b.den ρ)) := by
  have hd : (X.not (.lt b a)).den ρ = b2i (decide (a.den ρ ≤ b.den ρ)) := by
    simp only [X.den, b2i_zero]
    congr 1
    by_cases h : a.den ρ ≤ b.den ρ
    · rw [decide_eq_true h, decide_eq_false (by omega)]; rfl
    · rw [decide_eq_false h, decide_eq_true (by omega)]; rfl
  unfold leD
  split
  · exact hd
  · rename_i r hr
    obtain ⟨h1, h2⟩ := rng_ok (ρ := ρ) hr
    split
    · exact hd
    · rename_i s hs
      obtain ⟨h3, h4⟩ := rng_ok (ρ := ρ) hs
      split
      · rename_i h; have h := of_decide_eq_true h
        rw [decide_eq_true (by omega)]; rfl
      · split
        · rename_i h; have h := of_decide_eq_true h
          rw [decide_eq_false (by omega)]; rfl
        · exact hd
theorem mkEq_den (a b : X) : (mkEq a b).den ρ = b2i (a.den ρ == b.den ρ) := by
  unfold mkEq
  split
  · simp only [X.den, intBeq_iff]
  · rename_i _ m _
    have hd : (eqLit b m).den ρ = b2i ((X.lit m).den ρ == b.den ρ) := by rw [eqLit_den]; simp only [X.den]; rw [Bool.beq_comm]
    refine bothB_elim (ρ := ρ) (Pr := fun x : X => x.den ρ = b2i ((X.lit m).den ρ == b.den ρ)) hd fun l t m' u ha hb => ?_
    have h := eq_bits (ρ := ρ) (l := l) (t := t) (m := m') (u := u) (d := eqLit b m) (by rw [← ha, ← hb]; exact hd)
    rw [← ha, ← hb] at h
    exact h
  · refine bothB_elim (ρ := ρ) (Pr := fun x : X => x.den ρ = b2i (a.den ρ == b.den ρ)) ?_ fun l t m u ha hb => ?_
    · split
      · rename_i he
        rw [X.beq_eq he]
        simp [X.den, b2i]
      · exact eqD_den ρ a b
    have h := eq_bits (ρ := ρ) (l := l) (t := t) (m := m) (u := u) (d := eqD a b) (by rw [← ha, ← hb]; exact eqD_den ρ a b)
    rw [← ha, ← hb] at h
    exact h
theorem mkEq_tt (a b : X) : (mkEq a b).tt ρ = (a.den ρ == b.den ρ) := by rw [X.tt, mkEq_den, b2i_tt]
theorem mkLt_den (a b : X) : (mkLt a b).den ρ = b2i (decide (a.den ρ < b.den ρ)) := by
  unfold mkLt; split
  · simp only [X.den]; congr
  · rename_i l t n
    refine ofGn_den (p := bvDen ρ l t < n) (by simp only [X.den]; rfl) fun h => ?_
    rw [(geB_is h).1]
    omega
  · rename_i n l t
    refine ofG_den (p := n < bvDen ρ l t) (by simp only [X.den]; rfl) fun h => ?_
    rw [(geB_is h).1]
    omega
  · exact ltD_den ρ _ _
theorem mkLt_tt (a b : X) : (mkLt a b).tt ρ = decide (a.den ρ < b.den ρ) := by rw [X.tt, mkLt_den, b2i_tt]
theorem mkLe_den (a b : X) : (mkLe a b).den ρ = b2i (decide (a.den ρ ≤ b.den ρ)) := by
  unfold mkLe; split
  · simp only [X.den]; congr
  · rename_i l t n
    refine ofGn_den (p := bvDen ρ l t ≤ n) (by simp only [X.den]; rfl) fun h => ?_
    rw [(geB_is h).1]
    omega
  · rename_i n l t
    refine ofG_den (p := n ≤ bvDen ρ l t) (by simp only [X.den]; rfl) fun h => ?_
    rw [(geB_is h).1]
  · exact leD_den ρ _ _
theorem mkLe_tt (a b : X) : (mkLe a b).tt ρ = decide (a.den ρ ≤ b.den ρ) := by rw [X.tt, mkLe_den, b2i_tt]
theorem mkNot_tt (a : X) : (mkNot a).tt ρ = !a.tt ρ := by
  unfold mkNot X.tt; split
  · simp only [X.den, b2i_tt, intBeq_iff]; simp [bne]
  · simp only [X.den, b2i_tt]; simp [bne]
theorem mkNot_den (a : X) : (mkNot a).den ρ = b2i (!a.tt ρ) := by
  unfold mkNot X.tt; split <;> simp only [X.den, intBeq_iff] <;> simp [bne]
theorem addOf_ok {x y z : X} {k : Option IntKind} (h : addOf x = some (k, y, z)) : x.den ρ = (wrapO k (.add y z)).den ρ ∧ (wrapO k y).den ρ = y.den ρ ∧ ∀ w : X, w.den ρ = 0 → (wrapO k (.add y w)).den ρ = y.den ρ := by
  unfold addOf at h
  split at h
  · simp only [Option.some.injEq, Prod.mk.injEq] at h
    obtain ⟨rfl, rfl, rfl⟩ := h
    exact ⟨rfl, rfl, fun w hw => by simp [wrapO, X.den, hw]⟩
  · split at h
    · rename_i hk
      simp only [Option.some.injEq, Prod.mk.injEq] at h
      obtain ⟨rfl, rfl, rfl⟩ := h
      have := inK_ok (ρ := ρ) hk
      refine ⟨rfl, ?_, fun w hw => ?_⟩
      · simp only [wrapO, X.den]; exact wrap_in this.1 this.2
      · simp only [wrapO, X.den, hw, Int.add_zero]; exact wrap_in this.1 this.2
    · cases h
  · cases h
theorem wrapO_add {k : Option IntKind} {y z w : X} (h : z.den ρ = w.den ρ) : (wrapO k (.add y z)).den ρ = (wrapO k (.add y w)).den ρ := by
  cases k <;> simp only [wrapO, X.den, h]
theorem ite_if (c a b : X) : (X.ite c a b).den ρ = if c.tt ρ then a.den ρ else b.den ρ := by
  by_cases h : c.den ρ = 0 <;> simp [X.den, X.tt, h]
theorem iteSum2_den (c a b : X) : (iteSum2 c a b).den ρ = if c.tt ρ then a.den ρ else b.den ρ := by
  unfold iteSum2
  split
  · rename_i k y z hb
    obtain ⟨h1, _, h3⟩ := addOf_ok ρ hb
    split
    · rename_i he
      obtain rfl := X.beq_eq he
      rw [h1]
      split
      · rename_i hc
        exact h3 _ (by rw [ite_if, if_pos hc]; rfl)
      · rename_i hc
        exact wrapO_add ρ (by rw [ite_if, if_neg hc])
    · exact ite_if ρ c a b
  · exact ite_if ρ c a b
theorem iteSum_den (c a b : X) : (iteSum c a b).den ρ = if c.tt ρ then a.den ρ else b.den ρ := by
  unfold iteSum
  split
  · rename_i k y z ha
    obtain ⟨h1, _, h3⟩ := addOf_ok ρ ha
    split
    · rename_i he
      obtain rfl := X.beq_eq he
      rw [h1]
      split
      · rename_i hc
        exact wrapO_add ρ (by rw [ite_if, if_pos hc])
      · rename_i hc
        exact h3 _ (by rw [ite_if, if_neg hc]; rfl)
    · exact iteSum2_den ρ c a b
  · exact iteSum2_den ρ c a b
theorem sign_wrap (z : X) (h1 : kLo .u32 ≤ z.den ρ) (h2 : z.den ρ ≤ kHi .u32) : (X.wrap .i32 z).den ρ = if (X.lt z (.lit 2147483648)).tt ρ then z.den ρ else (X.sub z (.lit 4294967296)).den ρ := by
  simp only [kLo, kHi] at h1 h2
  have e1 : (X.lt z (.lit 2147483648)).tt ρ = decide (z.den ρ < 2147483648) := by
    rw [Bool.eq_iff_iff, decide_eq_true_iff]
    simp only [X.tt, X.den, b2i_tt]
    exact decide_eq_true_iff
  rw [e1]
  simp only [X.den]
  simp only [IntKind.wrap, IntKind.bits, IntKind.signed, Bool.true_and, decide_eq_true_eq, Int.reducePow, Nat.reduceSub, ge_iff_le]
  rw [Int.emod_eq_of_lt (by omega) (by omega)]
  split <;> split <;> omega
theorem iteSign_den {c a b : X} {m : Int} {x : X} (hc : c = .lt x (.lit m)) : (iteSign c a b m x).den ρ = if c.tt ρ then a.den ρ else b.den ρ := by
  have hd : (X.ite c a b).den ρ = if c.tt ρ then a.den ρ else b.den ρ := by
    by_cases h : c.den ρ = 0 <;> simp [X.den, X.tt, h]
  unfold iteSign
  split
  · split
    · rename_i y w h1 h2
      split
      · rename_i h3 h4 h5
        obtain rfl := intBeq_eq h1
        obtain rfl := intBeq_eq h2
        obtain rfl := X.beq_eq h3
        obtain rfl := X.beq_eq h4
        have := inK_ok (ρ := ρ) h5
        subst hc
        exact sign_wrap ρ _ this.1 this.2
      · exact hd
    · exact hd
  · exact iteSum_den ρ c a b
theorem word_wrap (q : X) : (X.wrap .u32 q).den ρ = if (X.lt (.rem q (.lit 4294967296)) (.lit 0)).tt ρ then (X.add (.rem q (.lit 4294967296)) (.lit 4294967296)).den ρ else (X.rem q (.lit 4294967296)).den ρ := by
  have e1 : (X.lt (.rem q (.lit 4294967296)) (.lit 0)).tt ρ = decide ((q.den ρ).tmod 4294967296 < 0) := by
    rw [Bool.eq_iff_iff, decide_eq_true_iff]
    simp only [X.tt, X.den, b2i_tt]
    exact decide_eq_true_iff
  have e2 : (X.wrap .u32 q).den ρ = q.den ρ % 4294967296 := by simp [X.den, IntKind.wrap, IntKind.bits, IntKind.signed]
  have e3 : (X.add (.rem q (.lit 4294967296)) (.lit 4294967296)).den ρ = (q.den ρ).tmod 4294967296 + 4294967296 := by simp only [X.den]
  have e4 : (X.rem q (.lit 4294967296)).den ρ = (q.den ρ).tmod 4294967296 := by simp only [X.den]
  rw [e1, e2, e3, e4]
  generalize q.den ρ = n
  have e5 : 0 ≤ n → n.tmod 4294967296 = n % 4294967296 := fun h => Int.tmod_eq_emod_of_nonneg h
  have e6 : n < 0 → n.tmod 4294967296 = -((-n) % 4294967296) := fun h => by
    have h1 := Int.neg_tmod (-n) 4294967296
    have h2 : (-n).tmod 4294967296 = (-n) % 4294967296 := Int.tmod_eq_emod_of_nonneg (by omega)
    rw [Int.neg_neg, h2] at h1
    exact h1
  rcases Int.lt_or_le n 0 with hn | hn
  · rw [e6 hn]
    by_cases h : -(-n % 4294967296) < 0
    · rw [if_pos (decide_eq_true h)]; omega
    · rw [if_neg (by simpa using h)]; omega
  · rw [e5 hn, if_neg (by rw [decide_eq_true_eq]; omega)]
theorem iteWord_den {c a b : X} {q : X} (hc : c = .lt (.rem q (.lit 4294967296)) (.lit 0)) : (iteWord c a b q).den ρ = if c.tt ρ then a.den ρ else b.den ρ := by
  unfold iteWord
  split
  · split
    · rename_i y v w h1 h2
      split
      · split
        · rename_i z u h3 h4 h5
          obtain rfl := intBeq_eq h1
          obtain rfl := intBeq_eq h2
          obtain rfl := intBeq_eq h3
          obtain rfl := X.beq_eq h4
          obtain rfl := X.beq_eq h5
          subst hc
          exact word_wrap ρ _
        · exact iteSum_den ρ c _ _
      · exact iteSum_den ρ c _ _
    · exact iteSum_den ρ c _ _
  · exact iteSum_den ρ c a b
theorem iteB_den {i : Nat} {vb : Bool} {x y c : B} (h : iteB i vb x y = some c) : c.den ρ = if ρ.b i == vb then x.den ρ else y.den ρ := by
  have one : ∀ (w : Bool) (b : B), ρ.b i = w → (setB (2 ^ i) (bitN i w) b).den ρ = b.den ρ := fun w b hw => setB_den (fun j hj => by
    rw [Nat.testBit_two_pow] at hj
    have hj := of_decide_eq_true hj
    subst hj
    rw [bitN_test, hw]
    simp) b
  unfold iteB at h
  split at h
  · rename_i he
    obtain rfl := Option.some.inj h
    rw [B.beq_eq he]
    split <;> rfl
  · have hx := one vb x
    have hy := one (!vb) y
    generalize setB (2 ^ i) (bitN i vb) x = x1 at *
    generalize setB (2 ^ i) (bitN i !vb) y = y1 at *
    dsimp only at h
    split at h
    · rename_i he
      obtain rfl := Option.some.inj h
      have := B.beq_eq he
      subst this
      cases hb : ρ.b i <;> cases vb <;> simp_all
    · split at h
      · obtain rfl := Option.some.inj h
        cases hb : ρ.b i <;> cases vb <;> simp_all [B.den]
      · obtain rfl := Option.some.inj h
        cases hb : ρ.b i <;> cases vb <;> simp_all [B.den]
      · cases h
theorem iteBits_den (c a b : X) (m v : Nat) (hc : c = .cube m v) : (iteBits c a b m v).den ρ = if c.tt ρ then a.den ρ else b.den ρ := by
  unfold iteBits
  split
  · rename_i hm
    have hm := Nat.eq_of_beq_eq_true hm
    refine bothB_elim (ρ := ρ) (Pr := fun x : X => x.den ρ = if c.tt ρ then a.den ρ else b.den ρ) (iteSum_den ρ c a b) fun l t n u ha hb => ?_
    split
    · rename_i r s hz
      rw [mkBv_den, ha, hb]
      have hbit := zipB_bit (ρ := ρ) (g := fun x y => if ρ.b m.log2 == Nat.testBit v m.log2 then x else y) (fun _ _ _ h => iteB_den ρ h) hz
      have ht : c.tt ρ = (ρ.b m.log2 == Nat.testBit v m.log2) := by
        subst hc
        simp only [X.tt, X.den, b2i_tt]
        rw [Bool.eq_iff_iff, cubeB_iff, beq_iff_eq]
        constructor
        · intro h
          exact h m.log2 (by rw [hm, Nat.log2_two_pow]; simp)
        · intro h j hj
          rw [hm, Nat.testBit_two_pow] at hj
          have hj := of_decide_eq_true hj
          rw [← hj]
          exact h
      rw [ht]
      split
      · rename_i he
        exact bv_ext fun i => by rw [hbit i]; simp only [he, if_true]
      · rename_i he
        exact bv_ext fun i => by rw [hbit i]; simp only [he, Bool.false_eq_true, if_false]
    · exact ite_if ρ c a b
  · exact iteSum_den ρ c a b
theorem iteD_den (c a b : X) : (iteD c a b).den ρ = if c.tt ρ then a.den ρ else b.den ρ := by
  unfold iteD
  split
  · exact iteBits_den ρ _ a b _ _ rfl
  · split
    · rename_i h1 h2
      obtain rfl := intBeq_eq h1
      obtain rfl := intBeq_eq h2
      exact iteWord_den ρ rfl
    · exact iteSum_den ρ _ _ _
  · exact iteSign_den ρ rfl
  · exact iteSum_den ρ _ _ _
theorem mkIte_den (c a b : X) : (mkIte c a b).den ρ = if c.tt ρ then a.den ρ else b.den ρ := by
  unfold mkIte
  split
  · rename_i n
    simp only [X.tt, X.den, intBeq_iff]
    by_cases h : n = 0 <;> simp [h]
  · split
    · rename_i h
      rw [X.beq_eq h]; simp
    · exact iteD_den ρ _ _ _
theorem mkIteS_sden (c a b : X) : (mkIteS c a b).sden ρ = if c.tt ρ then a.sden ρ else b.sden ρ := by
  unfold mkIteS X.tt
  split
  · rename_i n
    simp only [X.den, intBeq_iff]
    by_cases h : n = 0 <;> simp [h]
  · split
    · rename_i h
      rw [X.beq_eq h]; simp
    · by_cases h : c.den ρ = 0 <;> simp [X.sden, h]
theorem mkIte_tt (c a b : X) : (mkIte c a b).tt ρ = if c.tt ρ then a.tt ρ else b.tt ρ := by
  unfold X.tt
  rw [mkIte_den]
  unfold X.tt
  split <;> rfl
theorem mkAnd_tt (a b : X) : (mkAnd a b).tt ρ = (a.tt ρ && b.tt ρ) := by
  unfold mkAnd
  rw [mkIte_tt]
  cases a.tt ρ <;> simp [X.tt, X.den]
theorem mkIff_tt (a b : X) : (mkIff a b).tt ρ = (a.tt ρ == b.tt ρ) := by
  unfold mkIff
  split
  · rename_i m n
    simp only [X.tt, X.den, intBeq_iff, bne]
    cases (m == 0) <;> cases (n == 0) <;> rfl
  · rename_i _ m _
    have h : (X.lit m).tt ρ = !intBeq m 0 := by simp [X.tt, X.den, intBeq_iff, bne]
    rw [h]
    split
    · rename_i hm; rw [mkNot_tt, hm]; cases b.tt ρ <;> rfl
    · rename_i hm; rw [show intBeq m 0 = false by simpa using hm]; cases b.tt ρ <;> rfl
  · rename_i m _
    have h : (X.lit m).tt ρ = !intBeq m 0 := by simp [X.tt, X.den, intBeq_iff, bne]
    rw [h]
    split
    · rename_i hm; rw [mkNot_tt, hm]; cases a.tt ρ <;> rfl
    · rename_i hm; rw [show intBeq m 0 = false by simpa using hm]; cases a.tt ρ <;> rfl
  · split
    · rename_i he
      rw [X.beq_eq he]
      simp [X.tt, X.den]
    · rw [X.tt]
      simp only [X.den, mkNot_den, b2i_tt]
      cases a.tt ρ <;> cases b.tt ρ <;> rfl
theorem ofNat_mod (l : List Nat) : (l.map (· % 256)).map UInt8.ofNat = l.map UInt8.ofNat := by
  rw [List.map_map]
  apply List.map_congr_left
  intro n _
  apply UInt8.toNat.inj
  simp [UInt8.toNat_ofNat']
theorem ofNat_inj : ∀ (l m : List Nat), l.map UInt8.ofNat = m.map UInt8.ofNat ↔ l.map (· % 256) = m.map (· % 256)
  | [], [] => by simp
  | [], _ :: _ => by simp
  | _ :: _, [] => by simp
  | a :: l, b :: m => by
    simp only [List.map_cons, List.cons.injEq, ofNat_inj l m]
    constructor
    · rintro ⟨h1, h2⟩
      refine ⟨?_, h2⟩
      have := congrArg UInt8.toNat h1
      simpa [UInt8.toNat_ofNat'] using this
    · rintro ⟨h1, h2⟩
      refine ⟨?_, h2⟩
      apply UInt8.toNat.inj
      simpa [UInt8.toNat_ofNat'] using h1
theorem natsBeq_iff (l m : List Nat) : natsBeq l m = decide (l = m) := by
  by_cases h : l = m
  · subst h
    simp only [decide_true]
    induction l with
    | nil => rfl
    | cons a l ih => simp [natsBeq, ih]
  · simp only [h, decide_false]
    cases hb : natsBeq l m
    · rfl
    · exact absurd (natsBeq_eq hb) h
theorem nzText_ne (l : List UInt8) : nzText l ≠ [] := by
  unfold nzText
  split <;> simp
theorem nzText_len (l : List UInt8) : (nzText l).length ≤ 1000 := by
  unfold nzText
  split
  · simp
  · rename_i c m h
    have : (l.take 1000).length ≤ 1000 := by simp; omega
    rw [h] at this
    exact this
theorem nonE_ok : ∀ {x : X}, nonE x = true → x.sden ρ ≠ [] := by
  intro x
  induction x with
  | slit l =>
    intro h
    cases l with
    | nil => simp [nonE] at h
    | cons c l => simp [X.sden]
  | sfn f a _ => intro _; simp only [X.sden]; exact nzText_ne _
  | scat a b ia ib =>
    intro h
    unfold nonE at h
    split at h
    · rename_i ha
      simp [X.sden, ia ha]
    · simp [X.sden, ib h]
  | _ => intro h; simp [nonE] at h
theorem isNone_ok {x : X} (h : isNone x = true) : x.sden ρ = [] := by
  unfold isNone at h
  split at h
  · split at h
    · rfl
    · cases h
  · cases h
theorem seqRest_den (a b : X) : (seqRest a b).den ρ = b2i (a.sden ρ == b.sden ρ) := by
  unfold seqRest
  split
  · rename_i he
    rw [X.beq_eq he]
    simp [X.den, b2i]
  · split
    · rename_i h1 h2
      have e1 := isNone_ok ρ h1
      have e2 := nonE_ok ρ h2
      have : (a.sden ρ == b.sden ρ) = false := by rw [e1]; exact beq_eq_false_iff_ne.2 fun e => e2 e.symm
      rw [this]; rfl
    · split
      · rename_i h1 h2
        have e1 := isNone_ok ρ h2
        have e2 := nonE_ok ρ h1
        have : (a.sden ρ == b.sden ρ) = false := by rw [e1]; exact beq_eq_false_iff_ne.2 e2
        rw [this]; rfl
      · simp only [X.den]
theorem mkSeq_tt (a b : X) : (mkSeq a b).tt ρ = (a.sden ρ == b.sden ρ) := by
  unfold mkSeq X.tt
  split
  · rename_i l m
    simp only [X.den, b2i_tt, X.sden, natsBeq_iff]
    rw [Bool.eq_iff_iff]
    simp [← ofNat_inj]
  · rw [seqRest_den, b2i_tt]
theorem consLit_sden (l : List Nat) (b : X) : (consLit l b).sden ρ = l.map UInt8.ofNat ++ b.sden ρ := by
  unfold consLit
  split
  · simp
  · split <;> simp [X.sden]
theorem catEnd_sden (a b : X) : (catEnd a b).sden ρ = a.sden ρ ++ b.sden ρ := by
  unfold catEnd
  split
  · rename_i h
    rw [isNone_ok ρ h]; simp
  · simp [X.sden]
theorem mkCat_sden (a b : X) : (mkCat a b).sden ρ = a.sden ρ ++ b.sden ρ := by
  induction a generalizing b with
  | slit l => unfold mkCat; rw [consLit_sden]; simp [X.sden]
  | scat a c ia ic => unfold mkCat; rw [ia, ic]; simp [X.sden]
  | lit n => unfold mkCat; exact catEnd_sden ρ _ _
  | svar i => unfold mkCat; exact catEnd_sden ρ _ _
  | sfn f a _ => unfold mkCat; exact catEnd_sden ρ _ _
  | ite c x y _ _ _ => unfold mkCat; exact catEnd_sden ρ _ _
  | _ => unfold mkCat; simp [X.sden]
theorem lenB_ok : ∀ {x : X} {n : Nat}, lenB x = some n → (x.sden ρ).length ≤ n := by
  intro x
  induction x with
  | slit l =>
    intro n h
    obtain rfl := Option.some.inj (show some l.length = some n from h)
    simp [X.sden]
  | sfn f a _ =>
    intro n h
    obtain rfl := Option.some.inj (show some 1000 = some n from h)
    simp only [X.sden]
    exact nzText_len _
  | scat a b ia ib =>
    intro n h
    unfold lenB at h
    split at h
    · rename_i m k hm hk
      obtain rfl := Option.some.inj h
      have h1 := ia hm
      have h2 := ib hk
      simp only [X.sden, List.length_append]
      omega
    · cases h
  | _ => intro n h; simp [lenB] at h
theorem mkLen_den (a : X) : (mkLen a).den ρ = ((a.sden ρ).length : Int) := by
  unfold mkLen; split <;> simp [X.den, X.sden]
theorem shortX_ok {a : X} (h : (shortX a).tt ρ = true) : ((a.sden ρ).length : Int) ≤ 1000000000 := by
  have old : (mkLe (mkLen a) longStr).tt ρ = true → ((a.sden ρ).length : Int) ≤ 1000000000 := fun h => by
    rw [mkLe_tt] at h
    have := of_decide_eq_true h
    simpa [mkLen_den, longStr, X.den] using this
  unfold shortX at h
  split at h
  · rename_i n hn
    split at h
    · rename_i hb
      have h1 := lenB_ok ρ hn
      have h2 := Nat.le_of_ble_eq_true hb
      omega
    · exact old h
  · exact old h
end

/-! ### Facts -/
def PcOk (ρ : Env) (pc : PC) : Prop := ∀ f ∈ pc, f.1.tt ρ = f.2
theorem factOf_ok {ρ : Env} {x : X} : ∀ {pc : PC} {b : Bool}, PcOk ρ pc → factOf x pc = some b → x.tt ρ = b
  | [], _, _, h => by simp [factOf] at h
  | (y, c) :: pc, b, hp, h => by
    unfold factOf at h
    split at h
    · rename_i he
      simp only [Option.some.injEq] at h
      rw [← X.beq_eq he, ← h]
      exact hp (y, c) (by simp)
    · exact factOf_ok (fun f hf => hp f (by simp [hf])) h
theorem tt_eq {ρ : Env} (a b : X) : (X.eq a b).tt ρ = (a.den ρ == b.den ρ) := by simp only [X.tt, X.den, b2i_tt]
theorem tt_lt {ρ : Env} (a b : X) : (X.lt a b).tt ρ = decide (a.den ρ < b.den ρ) := by simp only [X.tt, X.den, b2i_tt]
theorem tt_le {ρ : Env} (a b : X) : (X.le a b).tt ρ = decide (a.den ρ ≤ b.den ρ) := by simp only [X.tt, X.den, b2i_tt]
theorem lt_of_tt {a b : Int} (h : decide (a < b) = true) : a < b := of_decide_eq_true h
theorem le_of_tt {a b : Int} (h : decide (a ≤ b) = true) : a ≤ b := of_decide_eq_true h
theorem not_lt_of_tt {a b : Int} (h : decide (a < b) = false) : b ≤ a := Int.not_lt.1 (of_decide_eq_false h)
theorem not_le_of_tt {a b : Int} (h : decide (a ≤ b) = false) : b < a := Int.not_le.1 (of_decide_eq_false h)
theorem loOf_ok {ρ : Env} {a : X} : ∀ {pc : PC} {n : Int}, PcOk ρ pc → loOf a pc = some n → n ≤ a.den ρ
  | [], _, _, h => by simp [loOf] at h
  | (x, b) :: pc, n, hp, h => by
    have hx := hp (x, b) (by simp)
    have ih : ∀ m, loOf a pc = some m → m ≤ a.den ρ := fun m hm => loOf_ok (fun f hf => hp f (by simp [hf])) hm
    have hw : ∀ k : Int, k ≤ a.den ρ → (match loOf a pc with | none => some k | some m => some (if decide (m < k) then k else m)) = some n → n ≤ a.den ρ := by
      intro k hk h
      cases hr : loOf a pc with
      | none => rw [hr] at h; simp at h; omega
      | some m =>
        rw [hr] at h
        have := ih m hr
        simp at h
        split at h <;> omega
    simp only at hx
    unfold loOf at h
    simp only at h
    split at h
    · split at h
      · rename_i he; rw [tt_eq, X.beq_eq he] at hx; exact hw _ (by simp [X.den] at hx; omega) h
      · exact ih n h
    · split at h
      · rename_i he; rw [tt_lt, X.beq_eq he] at hx; simp only [X.den] at hx; exact hw _ (by first | (have := lt_of_tt hx; omega) | (have := not_lt_of_tt hx; omega)) h
      · exact ih n h
    · split at h
      · rename_i he; rw [tt_le, X.beq_eq he] at hx; simp only [X.den] at hx; exact hw _ (by first | (have := le_of_tt hx; omega) | (have := not_le_of_tt hx; omega)) h
      · exact ih n h
    · split at h
      · rename_i he; rw [tt_lt, X.beq_eq he] at hx; simp only [X.den] at hx; exact hw _ (by first | (have := lt_of_tt hx; omega) | (have := not_lt_of_tt hx; omega)) h
      · exact ih n h
    · split at h
      · rename_i he; rw [tt_le, X.beq_eq he] at hx; simp only [X.den] at hx; exact hw _ (by first | (have := le_of_tt hx; omega) | (have := not_le_of_tt hx; omega)) h
      · exact ih n h
    · exact ih n h
theorem hiOf_ok {ρ : Env} {a : X} : ∀ {pc : PC} {n : Int}, PcOk ρ pc → hiOf a pc = some n → a.den ρ ≤ n
  | [], _, _, h => by simp [hiOf] at h
  | (x, b) :: pc, n, hp, h => by
    have hx := hp (x, b) (by simp)
    have ih : ∀ m, hiOf a pc = some m → a.den ρ ≤ m := fun m hm => hiOf_ok (fun f hf => hp f (by simp [hf])) hm
    have hw : ∀ k : Int, a.den ρ ≤ k → (match hiOf a pc with | none => some k | some m => some (if decide (k < m) then k else m)) = some n → a.den ρ ≤ n := by
      intro k hk h
      cases hr : hiOf a pc with
      | none => rw [hr] at h; simp at h; omega
      | some m =>
        rw [hr] at h
        have := ih m hr
        simp at h
        split at h <;> omega
    simp only at hx
    unfold hiOf at h
    simp only at h
    split at h
    · split at h
      · rename_i he; rw [tt_eq, X.beq_eq he] at hx; exact hw _ (by simp [X.den] at hx; omega) h
      · exact ih n h
    · split at h
      · rename_i he; rw [tt_lt, X.beq_eq he] at hx; simp only [X.den] at hx; exact hw _ (by first | (have := lt_of_tt hx; omega) | (have := not_lt_of_tt hx; omega)) h
      · exact ih n h
    · split at h
      · rename_i he; rw [tt_le, X.beq_eq he] at hx; simp only [X.den] at hx; exact hw _ (by first | (have := le_of_tt hx; omega) | (have := not_le_of_tt hx; omega)) h
      · exact ih n h
    · split at h
      · rename_i he; rw [tt_lt, X.beq_eq he] at hx; simp only [X.den] at hx; exact hw _ (by first | (have := lt_of_tt hx; omega) | (have := not_lt_of_tt hx; omega)) h
      · exact ih n h
    · split at h
      · rename_i he; rw [tt_le, X.beq_eq he] at hx; simp only [X.den] at hx; exact hw _ (by first | (have := le_of_tt hx; omega) | (have := not_le_of_tt hx; omega)) h
      · exact ih n h
    · exact ih n h
theorem bumpUp_ok {ρ : Env} {a : X} {pc : PC} (hp : PcOk ρ pc) : ∀ (f : Nat) (n : Int), n ≤ a.den ρ → bumpUp a pc f n ≤ a.den ρ
  | 0, n, h => h
  | f + 1, n, h => by
    simp only [bumpUp]
    split
    · rename_i hf
      have := factOf_ok hp hf
      rw [tt_eq] at this
      simp [X.den] at this
      exact bumpUp_ok hp f (n + 1) (by omega)
    · exact h
theorem bumpDown_ok {ρ : Env} {a : X} {pc : PC} (hp : PcOk ρ pc) : ∀ (f : Nat) (n : Int), a.den ρ ≤ n → a.den ρ ≤ bumpDown a pc f n
  | 0, n, h => h
  | f + 1, n, h => by
    simp only [bumpDown]
    split
    · rename_i hf
      have := factOf_ok hp hf
      rw [tt_eq] at this
      simp [X.den] at this
      exact bumpDown_ok hp f (n - 1) (by omega)
    · exact h
theorem loB_ok {ρ : Env} {a : X} {pc : PC} {n : Int} (hp : PcOk ρ pc) (h : loB a pc = some n) : n ≤ a.den ρ := by
  unfold loB at h
  split at h
  · rename_i m hm
    simp only [Option.some.injEq] at h
    rw [← h]
    exact bumpUp_ok hp _ _ (loOf_ok hp hm)
  · simp at h
theorem hiB_ok {ρ : Env} {a : X} {pc : PC} {n : Int} (hp : PcOk ρ pc) (h : hiB a pc = some n) : a.den ρ ≤ n := by
  unfold hiB at h
  split at h
  · rename_i m hm
    simp only [Option.some.injEq] at h
    rw [← h]
    exact bumpDown_ok hp _ _ (hiOf_ok hp hm)
  · simp at h
theorem optLt_lo {ρ : Env} {a : X} {pc : PC} {n : Int} (hp : PcOk ρ pc) (h : optLt (some n) (loB a pc) = true) : n < a.den ρ := by
  unfold optLt at h
  split at h
  · rename_i m k e1 e2
    simp at h e1
    have := loB_ok hp e2
    omega
  · simp at h
theorem optLt_hi {ρ : Env} {a : X} {pc : PC} {n : Int} (hp : PcOk ρ pc) (h : optLt (hiB a pc) (some n) = true) : a.den ρ < n := by
  unfold optLt at h
  split at h
  · rename_i m k e1 e2
    simp at h e2
    have := hiB_ok hp e1
    omega
  · simp at h
theorem decAtom_ok {ρ : Env} {pc : PC} {x : X} {b : Bool} (hp : PcOk ρ pc) (h : decAtom pc x = some b) : x.tt ρ = b := by
  unfold decAtom at h
  split at h
  · rename_i c hc
    simp only [Option.some.injEq] at h
    rw [← h]; exact factOf_ok hp hc
  · split at h
    · rw [X.tt]
      simp only [X.den, b2i_tt]
      exact decCube_ok hp h
    · simp only at h
      split at h
      · rename_i hc
        simp only [Option.some.injEq] at h
        rw [tt_eq, ← h]
        rw [Bool.or_eq_true] at hc
        rcases hc with hc | hc
        · have h1 := optLt_lo hp hc
          simp [X.den]; omega
        · have h1 := optLt_hi hp hc
          simp [X.den]; omega
      · split at h
        · rename_i l u e1 e2
          split at h
          · rename_i hb
            simp only [Option.some.injEq] at h
            rw [Bool.and_eq_true] at hb
            have h1 := loB_ok hp e1
            have h2 := hiB_ok hp e2
            have h3 := intBeq_eq hb.1
            have h4 := intBeq_eq hb.2
            rw [tt_eq, ← h]
            simp [X.den]; omega
          · simp at h
        · simp at h
    · simp only at h
      split at h
      · rename_i hc
        have h1 := optLt_hi hp hc
        simp only [Option.some.injEq] at h
        rw [tt_lt, ← h]; simp only [X.den]; first | (exact decide_eq_true (by omega)) | (exact decide_eq_false (by omega))
      · split at h
        · rename_i hc
          have h1 := optLt_lo hp hc
          simp only [Option.some.injEq] at h
          rw [tt_lt, ← h]; simp only [X.den]; first | (exact decide_eq_true (by omega)) | (exact decide_eq_false (by omega))
        · simp at h
    · simp only at h
      split at h
      · rename_i hc
        have h1 := optLt_hi hp hc
        simp only [Option.some.injEq] at h
        rw [tt_le, ← h]; simp only [X.den]; first | (exact decide_eq_true (by omega)) | (exact decide_eq_false (by omega))
      · split at h
        · rename_i hc
          have h1 := optLt_lo hp hc
          simp only [Option.some.injEq] at h
          rw [tt_le, ← h]; simp only [X.den]; first | (exact decide_eq_true (by omega)) | (exact decide_eq_false (by omega))
        · simp at h
    · simp only at h
      split at h
      · rename_i hc
        have h1 := optLt_lo hp hc
        simp only [Option.some.injEq] at h
        rw [tt_lt, ← h]; simp only [X.den]; first | (exact decide_eq_true (by omega)) | (exact decide_eq_false (by omega))
      · split at h
        · rename_i hc
          have h1 := optLt_hi hp hc
          simp only [Option.some.injEq] at h
          rw [tt_lt, ← h]; simp only [X.den]; first | (exact decide_eq_true (by omega)) | (exact decide_eq_false (by omega))
        · simp at h
    · simp only at h
      split at h
      · rename_i hc
        have h1 := optLt_lo hp hc
        simp only [Option.some.injEq] at h
        rw [tt_le, ← h]; simp only [X.den]; first | (exact decide_eq_true (by omega)) | (exact decide_eq_false (by omega))
      · split at h
        · rename_i hc
          have h1 := optLt_hi hp hc
          simp only [Option.some.injEq] at h
          rw [tt_le, ← h]; simp only [X.den]; first | (exact decide_eq_true (by omega)) | (exact decide_eq_false (by omega))
        · simp at h
    · simp at h
theorem sel_bind {α β : Type} {ρ : Env} {r : R α} {k : α → R β} {b : β} (h : (r.bind k).sel ρ = some b) : ∃ a, r.sel ρ = some a ∧ (k a).sel ρ = some b := by
  induction r with
  | ok a => exact ⟨a, rfl, h⟩
  | br c t f it jf =>
    simp only [R.bind, R.sel] at h ⊢
    split at h
    · rename_i hc; simp only [hc, if_true]; exact it h
    · rename_i hc; simp only [hc, if_false, Bool.false_eq_true]; exact jf h
  | stuck s => simp [R.bind, R.sel] at h
/-- The same state but for facts. -/
structure Like (ρ : Env) (st st' : St) : Prop where
  h : st'.h = st.h
  n : st'.n = st.n
  pc : PcOk ρ st'.pc
theorem Like.refl {ρ : Env} {st : St} (h : PcOk ρ st.pc) : Like ρ st st := ⟨rfl, rfl, h⟩
theorem Like.trans {ρ : Env} {a b c : St} (h : Like ρ a b) (h' : Like ρ b c) : Like ρ a c := ⟨h'.h.trans h.h, h'.n.trans h.n, h'.pc⟩
theorem split_atom {α : Type} {ρ : Env} {st : St} {x : X} {k : St → Bool → R α} {a : α} (hp : PcOk ρ st.pc)
    (h : (match decAtom st.pc x with
      | some b => k st b
      | none => R.br x (k { st with pc := (x, true) :: st.pc } true) (k { st with pc := (x, false) :: st.pc } false)).sel ρ = some a) :
    ∃ st', Like ρ st st' ∧ (k st' (x.tt ρ)).sel ρ = some a := by
  cases hd : decAtom st.pc x with
  | some b =>
    rw [hd] at h
    exact ⟨st, .refl hp, by rw [decAtom_ok hp hd]; exact h⟩
  | none =>
    rw [hd] at h
    simp only [R.sel] at h
    cases hx : x.tt ρ with
    | true =>
      rw [hx, if_pos rfl] at h
      exact ⟨{ st with pc := (x, true) :: st.pc }, ⟨rfl, rfl, fun f hf => (List.mem_cons.1 hf).elim (fun e => by rw [e]; exact hx) (hp f)⟩, h⟩
    | false =>
      rw [hx, if_neg (by simp)] at h
      exact ⟨{ st with pc := (x, false) :: st.pc }, ⟨rfl, rfl, fun f hf => (List.mem_cons.1 hf).elim (fun e => by rw [e]; exact hx) (hp f)⟩, h⟩
theorem split_sel {α : Type} {ρ : Env} {x : X} : ∀ {st : St} {k : St → Bool → R α} {a : α}, PcOk ρ st.pc → (split st x k).sel ρ = some a →
    ∃ st', Like ρ st st' ∧ (k st' (x.tt ρ)).sel ρ = some a := by
  induction x with
  | lit n =>
    intro st k a hp h
    refine ⟨st, .refl hp, ?_⟩
    simp only [split] at h
    rw [show (X.lit n).tt ρ = !intBeq n 0 from by simp [X.tt, X.den, intBeq_iff, bne]]
    exact h
  | not y ih =>
    intro st k a hp h
    simp only [split] at h
    obtain ⟨st', hl, h'⟩ := ih (k := fun st b => k st !b) hp h
    exact ⟨st', hl, by rw [show (X.not y).tt ρ = !y.tt ρ from by simp only [X.tt, X.den, bne, b2i_zero, Bool.not_not]]; exact h'⟩
  | ite c a b ic ia ib =>
    intro st k r hp h
    simp only [split] at h
    obtain ⟨st', hl, h'⟩ := ic (k := fun st t => match t with
      | true => split st a k
      | false => split st b k) hp h
    have e : (X.ite c a b).tt ρ = if c.tt ρ then a.tt ρ else b.tt ρ := by
      simp only [X.tt, X.den]
      by_cases hc : c.den ρ = 0 <;> simp [hc]
    cases hc : c.tt ρ with
    | true =>
      rw [hc] at h'
      obtain ⟨st2, hl2, h2⟩ := ia hl.pc h'
      exact ⟨st2, hl.trans hl2, by rw [e, hc]; exact h2⟩
    | false =>
      rw [hc] at h'
      obtain ⟨st2, hl2, h2⟩ := ib hl.pc h'
      exact ⟨st2, hl.trans hl2, by rw [e, hc]; exact h2⟩
  | _ =>
    intro st k a hp h
    simp only [split] at h
    exact split_atom hp h
end Go.Proofs.YtcachlbljjpjdaaGreatDoor
