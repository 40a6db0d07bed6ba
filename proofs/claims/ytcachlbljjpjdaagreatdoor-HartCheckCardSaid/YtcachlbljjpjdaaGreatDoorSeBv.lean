/- Symbolic execution, part 3 a: bits mean what they say. No condition. -/
import Derived.Test.YtcachlbljjpjdaaGreatDoorSe3
namespace Go.Proofs.YtcachlbljjpjdaaGreatDoor
open Go

section
variable {ρ : Env}
theorem B.not_den (b : B) : b.not.den ρ = !b.den ρ := by cases b <;> simp [B.not, B.den]
theorem B.and_den {a b c : B} (h : a.and b = some c) : c.den ρ = (a.den ρ && b.den ρ) := by
  unfold B.and at h
  split at h
  · injection h with h; subst h; simp [B.den]
  · injection h with h; subst h; simp [B.den]
  · split at h
    · injection h with h; subst h; simp [B.den]
    · injection h with h; subst h; simp [B.den]
    · split at h
      · rename_i hb
        injection h with h; subst h
        rw [B.beq_eq hb]; simp
      · rename_i hb
        injection h with h; subst h
        rw [B.beq_eq hb, B.not_den]; simp [B.den]
      · cases h
theorem B.or_den {a b c : B} (h : a.or b = some c) : c.den ρ = (a.den ρ || b.den ρ) := by
  unfold B.or at h
  split at h
  · rename_i d hd
    injection h with h; subst h
    rw [B.not_den, B.and_den hd, B.not_den, B.not_den]
    cases a.den ρ <;> cases b.den ρ <;> rfl
  · cases h
theorem B.xor_den {a b c : B} (h : a.xor b = some c) : c.den ρ = (a.den ρ ^^ b.den ρ) := by
  unfold B.xor at h
  split at h
  · injection h with h; subst h; simp [B.den]
  · injection h with h; subst h; rw [B.not_den]; simp [B.den]
  · split at h
    · injection h with h; subst h; simp [B.den]
    · injection h with h; subst h; rw [B.not_den]; simp [B.den]
    · split at h
      · rename_i hb
        injection h with h; subst h
        rw [B.beq_eq hb]; simp [B.den]
      · rename_i hb
        injection h with h; subst h
        rw [B.beq_eq hb, B.not_den]; simp [B.den]
      · cases h
theorem B.diff_den {a b c : B} (h : a.diff b = some c) : c.den ρ = (a.den ρ && !b.den ρ) := by
  rw [B.and_den (show a.and b.not = some c from h), B.not_den]
/-- The bit at a place. -/
def bitAt (ρ : Env) (l : List B) (t : B) (i : Nat) : Bool := match l[i]? with
  | some b => b.den ρ
  | none => t.den ρ
theorem bitAt_nil (t : B) (i : Nat) : bitAt ρ [] t i = t.den ρ := by simp [bitAt]
theorem bitAt_zero (b : B) (l : List B) (t : B) : bitAt ρ (b :: l) t 0 = b.den ρ := by simp [bitAt]
theorem bitAt_succ (b : B) (l : List B) (t : B) (i : Nat) : bitAt ρ (b :: l) t (i + 1) = bitAt ρ l t i := by simp [bitAt]
theorem bvDen_nil (t : B) : bvDen ρ [] t = -b2i (t.den ρ) := rfl
theorem bvDen_cons (b : B) (l : List B) (t : B) : bvDen ρ (b :: l) t = b2i (b.den ρ) + 2 * bvDen ρ l t := rfl
theorem b2i_01 (b : Bool) : b2i b = 0 ∨ b2i b = 1 := by cases b <;> simp [b2i]
theorem b2i_zero' (b : Bool) : (b2i b == 0) = !b := by cases b <;> rfl
theorem b2i_inj {a b : Bool} (h : b2i a = b2i b) : a = b := by cases a <;> cases b <;> simp [b2i] at h ⊢
/-- A number is told by its bits. -/
theorem bvDen_bit (l : List B) (t : B) : ∀ i, bitAt ρ l t i = decide (bvDen ρ l t / 2 ^ i % 2 = 1) := by
  induction l with
  | nil =>
    intro i
    rw [bitAt_nil, bvDen_nil]
    cases t.den ρ with
    | false => simp [b2i]
    | true =>
      have : (-b2i true : Int) / 2 ^ i = -1 := by
        show (-1 : Int) / 2 ^ i = -1
        have h1 : (0 : Int) < 2 ^ i := by
          have := Int.pow_pos (n := 2) (m := i) (by omega)
          exact this
        exact Int.ediv_eq_neg_one_of_neg_of_le (by omega) (by omega)
      rw [this]; rfl
  | cons b l ih =>
    intro i
    cases i with
    | zero =>
      rw [bitAt_zero, bvDen_cons]
      cases b.den ρ <;> simp [b2i] <;> omega
    | succ i =>
      rw [bitAt_succ, ih i, bvDen_cons]
      have : (b2i (b.den ρ) + 2 * bvDen ρ l t) / 2 ^ (i + 1) = bvDen ρ l t / 2 ^ i := by
        rw [show (2 : Int) ^ (i + 1) = 2 * 2 ^ i from by rw [Int.pow_succ]; omega, ← Int.ediv_ediv_of_nonneg (by omega)]
        congr 1
        rcases b2i_01 (b.den ρ) with h | h <;> omega
      rw [this]
theorem zipR_bit {f : B → B → Option B} {g : Bool → Bool → Bool} (hf : ∀ a b c, f a b = some c → c.den ρ = g (a.den ρ) (b.den ρ)) {t : B} : ∀ {m : List B} {u : B} {r : List B} {s : B}, zipR f t m u = some (r, s) → ∀ i, bitAt ρ r s i = g (t.den ρ) (bitAt ρ m u i)
  | [], u, r, s, h, i => by
    unfold zipR at h
    split at h
    · rename_i c hc
      simp only [Option.some.injEq, Prod.mk.injEq] at h
      obtain ⟨rfl, rfl⟩ := h
      rw [bitAt_nil, bitAt_nil, hf _ _ _ hc]
    · cases h
  | c :: m, u, r, s, h, i => by
    unfold zipR consB at h
    split at h
    · cases h
    · rename_i d hd
      split at h
      · cases h
      · rename_i l' t' hr
        simp only [Option.some.injEq, Prod.mk.injEq] at h
        obtain ⟨rfl, rfl⟩ := h
        cases i with
        | zero => rw [bitAt_zero, bitAt_zero, hf _ _ _ hd]
        | succ i => rw [bitAt_succ, bitAt_succ, zipR_bit hf hr]
theorem zipB_bit {f : B → B → Option B} {g : Bool → Bool → Bool} (hf : ∀ a b c, f a b = some c → c.den ρ = g (a.den ρ) (b.den ρ)) : ∀ {l : List B} {t : B} {m : List B} {u : B} {r : List B} {s : B}, zipB f l t m u = some (r, s) → ∀ i, bitAt ρ r s i = g (bitAt ρ l t i) (bitAt ρ m u i)
  | [], t, m, u, r, s, h, i => by
    rw [bitAt_nil]
    exact zipR_bit hf (by unfold zipB at h; exact h) i
  | b :: l, t, [], u, r, s, h, i => by
    unfold zipB consB at h
    dsimp only at h
    split at h
    · cases h
    · rename_i d hd
      split at h
      · cases h
      · rename_i l' t' hr
        simp only [Option.some.injEq, Prod.mk.injEq] at h
        obtain ⟨rfl, rfl⟩ := h
        cases i with
        | zero => rw [bitAt_zero, bitAt_zero, bitAt_nil, hf _ _ _ hd]
        | succ i => rw [bitAt_succ, bitAt_succ, zipB_bit hf hr, bitAt_nil, bitAt_nil]
  | b :: l, t, c :: m, u, r, s, h, i => by
    unfold zipB consB at h
    dsimp only at h
    split at h
    · cases h
    · rename_i d hd
      split at h
      · cases h
      · rename_i l' t' hr
        simp only [Option.some.injEq, Prod.mk.injEq] at h
        obtain ⟨rfl, rfl⟩ := h
        cases i with
        | zero => rw [bitAt_zero, bitAt_zero, bitAt_zero, hf _ _ _ hd]
        | succ i => rw [bitAt_succ, bitAt_succ, bitAt_succ, zipB_bit hf hr]
/-- The lowest bits, as a number. -/
def lowN (f : Nat → Bool) : Nat → Int
  | 0 => 0
  | n + 1 => b2i (f 0) + 2 * lowN (fun i => f (i + 1)) n
theorem lowN_congr {f g : Nat → Bool} : ∀ {n : Nat}, (∀ i, i < n → f i = g i) → lowN f n = lowN g n
  | 0, _ => rfl
  | n + 1, h => by rw [lowN, lowN, h 0 (by omega), lowN_congr fun i hi => h (i + 1) (by omega)]
theorem bvDen_low (l : List B) (t : B) : ∀ n, bvDen ρ l t % 2 ^ n = lowN (bitAt ρ l t) n := by
  induction l with
  | nil =>
    intro n
    rw [bvDen_nil]
    have e : bitAt ρ [] t = fun _ => t.den ρ := funext fun i => bitAt_nil t i
    rw [e]
    induction n with
    | zero => simp [lowN, Int.emod_one]
    | succ n ih =>
      rw [lowN, ← ih, show (2 : Int) ^ (n + 1) = 2 * 2 ^ n from by rw [Int.pow_succ]; omega]
      have h1 : (0 : Int) < 2 ^ n := Int.pow_pos (by omega)
      cases t.den ρ with
      | false => simp [b2i]
      | true =>
        show (-1 : Int) % (2 * 2 ^ n) = 1 + 2 * (-1 % 2 ^ n)
        rw [Int.emod_eq_add_self_emod, Int.emod_eq_of_lt (by omega) (by omega), Int.emod_eq_add_self_emod, Int.emod_eq_of_lt (a := -1 + 2 ^ n) (by omega) (by omega)]
        omega
  | cons b l ih =>
    intro n
    cases n with
    | zero => simp [lowN, Int.emod_one]
    | succ n =>
      rw [lowN, bitAt_zero, show (fun i => bitAt ρ (b :: l) t (i + 1)) = bitAt ρ l t from funext fun i => bitAt_succ b l t i, ← ih n, bvDen_cons, show (2 : Int) ^ (n + 1) = 2 * 2 ^ n from by rw [Int.pow_succ]; omega]
      have h1 : (0 : Int) < 2 ^ n := Int.pow_pos (by omega)
      have h2 := Int.emod_nonneg (bvDen ρ l t) (b := 2 ^ n) (by omega)
      have h3 := Int.emod_lt_of_pos (bvDen ρ l t) h1
      have h4 := Int.mul_ediv_add_emod (bvDen ρ l t) (2 ^ n)
      have h5 : b2i (b.den ρ) + 2 * bvDen ρ l t = (b2i (b.den ρ) + 2 * (bvDen ρ l t % 2 ^ n)) + (2 * 2 ^ n) * (bvDen ρ l t / 2 ^ n) := by
        have : 2 * bvDen ρ l t = 2 * (2 ^ n * (bvDen ρ l t / 2 ^ n) + bvDen ρ l t % 2 ^ n) := by rw [h4]
        rw [this, Int.mul_add, ← Int.mul_assoc]
        omega
      rw [h5, Int.add_mul_emod_self_left]
      refine Int.emod_eq_of_lt ?_ ?_
      · rcases b2i_01 (b.den ρ) with h | h <;> omega
      · rcases b2i_01 (b.den ρ) with h | h <;> omega
theorem clipU_den : ∀ (n : Nat) (l : List B) (t : B), bvDen ρ (clipU n l t) .zero = lowN (bitAt ρ l t) n
  | 0, l, t => by simp [clipU, bvDen, lowN, B.den, b2i]
  | n + 1, [], t => by
    have e : bitAt ρ [] t = fun _ => t.den ρ := funext fun i => bitAt_nil t i
    have ih := clipU_den n [] t
    rw [e] at ih ⊢
    unfold clipU
    split
    · have hz : ∀ n, lowN (fun _ => B.zero.den ρ) n = 0 := by
        intro n
        induction n with
        | zero => rfl
        | succ n ih => rw [lowN, ih]; simp [B.den, b2i]
      rw [hz]
      simp [bvDen, B.den, b2i]
    · rw [bvDen_cons, lowN, ih]
  | n + 1, b :: l, t => by
    unfold clipU
    rw [bvDen_cons, lowN, clipU_den n l t, bitAt_zero]
    rw [show (fun i => bitAt ρ (b :: l) t (i + 1)) = bitAt ρ l t from funext fun i => bitAt_succ b l t i]
theorem clipS_den : ∀ (n : Nat) (l : List B) (t : B) (r : List B) (s : B), clipS n l t = (r, s) → bvDen ρ r s = lowN (bitAt ρ l t) n - 2 ^ n * b2i (bitAt ρ l t n)
  | n, [], t, r, s, h => by
    have : r = [] ∧ s = t := by cases n <;> simp [clipS] at h <;> exact ⟨h.1, h.2.symm⟩
    obtain ⟨rfl, rfl⟩ := this
    have e : bitAt ρ [] s = fun _ => s.den ρ := funext fun i => bitAt_nil s i
    rw [e, bvDen_nil]
    clear h e
    induction n with
    | zero => simp [lowN]
    | succ n ih =>
      have ih' : -b2i (s.den ρ) = lowN (fun _ => s.den ρ) n - 2 ^ n * b2i (s.den ρ) := ih
      rw [lowN, show (2 : Int) ^ (n + 1) = 2 * 2 ^ n from by rw [Int.pow_succ]; omega, Int.mul_assoc]
      dsimp only
      omega
  | 0, b :: l, t, r, s, h => by
    simp only [clipS, Prod.mk.injEq] at h
    obtain ⟨rfl, rfl⟩ := h
    rw [bvDen_nil, bitAt_zero]
    simp [lowN]
  | n + 1, b :: l, t, r, s, h => by
    unfold clipS at h
    split at h
    rename_i r' s' hr
    simp only [Prod.mk.injEq] at h
    obtain ⟨rfl, rfl⟩ := h
    have ih := clipS_den n l t r' s' hr
    rw [bvDen_cons, ih, lowN, bitAt_zero, bitAt_succ, show (fun i => bitAt ρ (b :: l) t (i + 1)) = bitAt ρ l t from funext fun i => bitAt_succ b l t i, show (2 : Int) ^ (n + 1) = 2 * 2 ^ n from by rw [Int.pow_succ]; omega, Int.mul_assoc]
    omega
theorem trimB_den (t : B) : ∀ l, bvDen ρ (trimB t l) t = bvDen ρ l t
  | [] => rfl
  | b :: l => by
    have ih := trimB_den t l
    unfold trimB
    split
    · rename_i he
      rw [he] at ih
      split
      · rename_i hb
        rw [bvDen_cons, ← ih, B.beq_eq hb, bvDen_nil]
        omega
      · rw [bvDen_cons, bvDen_cons, ← ih]
    · rename_i c r he
      rw [he] at ih
      rw [bvDen_cons, ih, bvDen_cons]
theorem litOf_den {t : B} : ∀ {l : List B} {n : Int}, litOf t l = some n → bvDen ρ l t = n
  | [], n, h => by
    unfold litOf at h
    split at h
    · obtain rfl := Option.some.inj h
      simp [bvDen, B.den, b2i]
    · obtain rfl := Option.some.inj h
      simp [bvDen, B.den, b2i]
    · cases h
  | b :: l, n, h => by
    unfold litOf at h
    split at h
    · cases h
    · rename_i m hm
      have ih := litOf_den hm
      rw [bvDen_cons, ih]
      split at h
      · obtain rfl := Option.some.inj h
        simp [B.den, b2i]
      · obtain rfl := Option.some.inj h
        simp [B.den, b2i]
        omega
      · cases h
theorem mkBv_den (l : List B) (t : B) : (mkBv l t).den ρ = bvDen ρ l t := by
  unfold mkBv
  split
  · rename_i n h
    simp only [X.den, litOf_den h]
  · simp only [X.den, trimB_den]
theorem lowN_split (f : Nat → Bool) : ∀ n, lowN f (n + 1) = lowN f n + 2 ^ n * b2i (f n)
  | 0 => by simp [lowN]
  | n + 1 => by
    rw [lowN, lowN_split (fun i => f (i + 1)) n, lowN, show (2 : Int) ^ (n + 1) = 2 * 2 ^ n from by rw [Int.pow_succ]; omega, Int.mul_assoc]
    omega
theorem lowN_bounds (f : Nat → Bool) : ∀ n, 0 ≤ lowN f n ∧ lowN f n < 2 ^ n
  | 0 => by simp [lowN]
  | n + 1 => by
    have h := lowN_bounds (fun i => f (i + 1)) n
    rw [lowN, show (2 : Int) ^ (n + 1) = 2 * 2 ^ n from by rw [Int.pow_succ]; omega]
    rcases b2i_01 (f 0) with h1 | h1 <;> omega
theorem mkBvW_den (k : IntKind) (l : List B) (t : B) : (mkBvW k l t).den ρ = k.wrap (bvDen ρ l t) := by
  unfold mkBvW IntKind.wrap
  have h1 := bvDen_low (ρ := ρ) l t k.bits
  split
  · rename_i hs
    rw [mkBv_den, clipU_den, ← h1, hs]
    simp
  · rename_i hs
    split
    rename_i r s hr
    rw [mkBv_den, clipS_den _ _ _ _ _ hr]
    obtain ⟨n, hn⟩ : ∃ n, k.bits = n + 1 := by cases k <;> exact ⟨_, rfl⟩
    simp only [hs, Bool.true_and, decide_eq_true_eq]
    rw [h1, hn, Nat.add_sub_cancel, lowN_split]
    have h2 := lowN_bounds (bitAt ρ l t) n
    rw [show (2 : Int) ^ (n + 1) = 2 * 2 ^ n from by rw [Int.pow_succ]; omega]
    cases bitAt ρ l t n with
    | false =>
      rw [if_neg (by simp [b2i]; omega)]
      simp [b2i]
    | true =>
      rw [if_pos (by simp [b2i]; omega)]
      simp [b2i]
      omega
/-! ### Bits of words -/
def lowNat (f : Nat → Bool) : Nat → Nat
  | 0 => 0
  | n + 1 => (f 0).toNat + 2 * lowNat (fun i => f (i + 1)) n
theorem lowNat_cast (f : Nat → Bool) : ∀ n, ((lowNat f n : Nat) : Int) = lowN f n
  | 0 => rfl
  | n + 1 => by
    rw [lowNat, lowN, ← lowNat_cast (fun i => f (i + 1)) n]
    cases f 0 <;> simp [b2i]
theorem lowNat_lt (f : Nat → Bool) (n : Nat) : lowNat f n < 2 ^ n := by
  have h := (lowN_bounds f n).2
  rw [← lowNat_cast] at h
  exact_mod_cast h
theorem lowNat_bit : ∀ (f : Nat → Bool) (n i : Nat), (lowNat f n).testBit i = (decide (i < n) && f i)
  | f, 0, i => by simp [lowNat]
  | f, n + 1, 0 => by
    rw [lowNat, Nat.testBit_zero]
    cases f 0 <;> simp <;> omega
  | f, n + 1, i + 1 => by
    rw [lowNat, Nat.testBit_succ]
    have : ((f 0).toNat + 2 * lowNat (fun i => f (i + 1)) n) / 2 = lowNat (fun i => f (i + 1)) n := by
      cases f 0 <;> simp <;> omega
    rw [this, lowNat_bit]
    simp
def bvOf (f : Nat → Bool) (n : Nat) : BitVec n := BitVec.ofNat n (lowNat f n)
theorem bvOf_toNat (f : Nat → Bool) (n : Nat) : (bvOf f n).toNat = lowNat f n := by
  simp [bvOf, Nat.mod_eq_of_lt (lowNat_lt f n)]
theorem bvOf_get (f : Nat → Bool) (n i : Nat) (h : i < n) : (bvOf f n).getLsbD i = f i := by
  rw [BitVec.getLsbD, bvOf_toNat, lowNat_bit]
  simp [h]
theorem ofInt_bv (l : List B) (t : B) (n : Nat) : BitVec.ofInt n (bvDen ρ l t) = bvOf (bitAt ρ l t) n := by
  apply BitVec.eq_of_toNat_eq
  rw [bvOf_toNat, BitVec.toNat_ofInt]
  have := bvDen_low (ρ := ρ) l t n
  have h2 : ((2 ^ n : Nat) : Int) = 2 ^ n := by simp
  rw [h2, this, ← lowNat_cast]
  simp
theorem wrap_low (k : IntKind) (l : List B) (t : B) : k.wrap (((bvOf (bitAt ρ l t) k.bits).toNat : Nat) : Int) = k.wrap (bvDen ρ l t) := by
  rw [bvOf_toNat, lowNat_cast, ← bvDen_low]
  unfold IntKind.wrap
  rw [Int.emod_emod_of_dvd _ (Int.dvd_refl _)]
theorem bits_zip {o : Nat} (k : IntKind) {l : List B} {t : B} {m : List B} {u : B} {r : List B} {s : B} (h : zipB (B.op o) l t m u = some (r, s)) : bitsI o k (bvDen ρ l t) (bvDen ρ m u) = k.wrap (bvDen ρ r s) := by
  rw [← wrap_low]
  unfold bitsI
  split
  · have hz := zipB_bit (g := fun a b => a && b) (ρ := ρ) (fun a b c hc => B.and_den hc) (show zipB B.and l t m u = some (r, s) from h)
    rw [ofInt_bv, ofInt_bv]
    congr 3
    apply BitVec.eq_of_getLsbD_eq
    intro i hi
    rw [BitVec.getLsbD_and, bvOf_get _ _ _ hi, bvOf_get _ _ _ hi, bvOf_get _ _ _ hi, hz]
  · have hz := zipB_bit (g := fun a b => a || b) (ρ := ρ) (fun a b c hc => B.or_den hc) (show zipB B.or l t m u = some (r, s) from h)
    rw [ofInt_bv, ofInt_bv]
    congr 3
    apply BitVec.eq_of_getLsbD_eq
    intro i hi
    rw [BitVec.getLsbD_or, bvOf_get _ _ _ hi, bvOf_get _ _ _ hi, bvOf_get _ _ _ hi, hz]
  · have hz := zipB_bit (g := fun a b => a ^^ b) (ρ := ρ) (fun a b c hc => B.xor_den hc) (show zipB B.xor l t m u = some (r, s) from h)
    rw [ofInt_bv, ofInt_bv]
    congr 3
    apply BitVec.eq_of_getLsbD_eq
    intro i hi
    rw [BitVec.getLsbD_xor, bvOf_get _ _ _ hi, bvOf_get _ _ _ hi, bvOf_get _ _ _ hi, hz]
  · rename_i h0 h1 h2
    have hop : B.op o = B.diff := by
      unfold B.op
      split
      · exact absurd rfl h0
      · exact absurd rfl h1
      · exact absurd rfl h2
      · rfl
    rw [hop] at h
    have hz := zipB_bit (g := fun a b => a && !b) (ρ := ρ) (fun a b c hc => B.diff_den hc) h
    rw [ofInt_bv, ofInt_bv]
    congr 3
    apply BitVec.eq_of_getLsbD_eq
    intro i hi
    rw [BitVec.getLsbD_and, BitVec.getLsbD_not, bvOf_get _ _ _ hi, bvOf_get _ _ _ hi, bvOf_get _ _ _ hi, hz]
    simp [hi]

/-! ### Numbers that are written out -/
theorem ofNatB_den : ∀ (f n : Nat), n < 2 ^ f → bvDen ρ (ofNatB f n) .zero = n
  | 0, n, h => by
    have : n = 0 := by simpa using h
    subst this
    simp [ofNatB, bvDen, B.den, b2i]
  | f + 1, 0, _ => by simp [ofNatB, bvDen, B.den, b2i]
  | f + 1, m + 1, h => by
    unfold ofNatB
    have h1 : (m + 1) / 2 < 2 ^ f := by
      rw [Nat.pow_succ] at h
      omega
    rw [bvDen_cons, ofNatB_den f ((m + 1) / 2) h1]
    cases hb : Nat.beq ((m + 1) % 2) 1 with
    | true =>
      have := Nat.eq_of_beq_eq_true hb
      simp only [B.den, b2i, if_true]
      omega
    | false =>
      have : (m + 1) % 2 ≠ 1 := Nat.ne_of_beq_eq_false hb
      simp only [B.den, b2i, Bool.false_eq_true, if_false]
      omega
theorem notsB_den (t : B) : ∀ l : List B, bvDen ρ (notsB l) t.not = -1 - bvDen ρ l t
  | [] => by
    rw [notsB, bvDen_nil, bvDen_nil, B.not_den]
    cases t.den ρ <;> simp [b2i]
  | b :: l => by
    rw [notsB, bvDen_cons, bvDen_cons, notsB_den t l, B.not_den]
    cases b.den ρ <;> simp [b2i] <;> omega
theorem toB_den {x : X} {l : List B} {t : B} (h : toB x = some (l, t)) : x.den ρ = bvDen ρ l t := by
  unfold toB at h
  split at h
  · simp only [Option.some.injEq, Prod.mk.injEq] at h
    obtain ⟨rfl, rfl⟩ := h
    rfl
  · split at h
    · rename_i n
      split at h
      · rename_i hn
        simp only [Option.some.injEq, Prod.mk.injEq] at h
        obtain ⟨rfl, rfl⟩ := h
        rw [ofNatB_den 70 n (Nat.le_of_ble_eq_true hn)]
        rfl
      · cases h
    · rename_i n
      split at h
      · rename_i hn
        simp only [Option.some.injEq, Prod.mk.injEq] at h
        obtain ⟨rfl, rfl⟩ := h
        have := notsB_den (ρ := ρ) .zero (ofNatB 70 n)
        rw [ofNatB_den 70 n (Nat.le_of_ble_eq_true hn)] at this
        show Int.negSucc n = _
        rw [show B.zero.not = B.one from rfl] at this
        rw [this]
        omega
      · cases h
  · cases h
theorem bothB_elim {α : Type} {Pr : α → Prop} {a b : X} {k : List B → B → List B → B → α} {d : α} (hd : Pr d) (hk : ∀ l t m u, a.den ρ = bvDen ρ l t → b.den ρ = bvDen ρ m u → Pr (k l t m u)) : Pr (bothB a b k d) := by
  have h : Pr (match toB a with
      | none => d
      | some (l, t) => match toB b with
        | none => d
        | some (m, u) => k l t m u) := by
    split
    · exact hd
    · rename_i l t ha
      split
      · exact hd
      · rename_i m u hb
        exact hk _ _ _ _ (toB_den ha) (toB_den hb)
  unfold bothB
  split
  · exact hd
  · exact h
theorem optBv_den {k : IntKind} {d : X} {o : Option (List B × B)} {n : Int} (hd : d.den ρ = k.wrap n) (h : ∀ r s, o = some (r, s) → k.wrap (bvDen ρ r s) = k.wrap n) : (optBv k d o).den ρ = k.wrap n := by
  unfold optBv
  split
  · rw [mkBvW_den]
    exact h _ _ rfl
  · exact hd
theorem zerosB_den (l : List B) (t : B) : ∀ n, bvDen ρ (zerosB n l) t = bvDen ρ l t * 2 ^ n
  | 0 => by simp [zerosB]
  | n + 1 => by
    rw [zerosB, bvDen_cons, zerosB_den l t n, Int.pow_succ, show B.zero.den ρ = false from rfl, show b2i false = 0 from rfl, Int.zero_add, ← Int.mul_assoc, Int.mul_comm 2, Int.mul_assoc, Int.mul_comm 2 (2 ^ n)]
theorem dropB_den (t : B) : ∀ (n : Nat) (l : List B), bvDen ρ (dropB n l) t = bvDen ρ l t / 2 ^ n
  | 0, l => by simp [dropB]
  | n + 1, [] => by
    have h1 : (0 : Int) < 2 ^ (n + 1) := Int.pow_pos (by omega)
    rw [dropB, bvDen_nil]
    cases t.den ρ with
    | false => simp [b2i]
    | true =>
      show (-1 : Int) = (-1) / 2 ^ (n + 1)
      exact (Int.ediv_eq_neg_one_of_neg_of_le (by omega) (by omega)).symm
  | n + 1, b :: l => by
    rw [dropB, dropB_den t n l, bvDen_cons, show (2 : Int) ^ (n + 1) = 2 * 2 ^ n from by rw [Int.pow_succ]; omega, ← Int.ediv_ediv_of_nonneg (by omega)]
    congr 1
    rcases b2i_01 (b.den ρ) with h | h <;> omega
theorem pow2_eq {n s : Nat} (h : pow2 n = some s) : n = 2 ^ s := by
  unfold pow2 at h
  split at h
  · rename_i hb
    split at h
    · obtain rfl := Option.some.inj h
      exact (Nat.eq_of_beq_eq_true hb).symm
    · cases h
  · cases h
theorem bvDen_zero_nonneg : ∀ l : List B, 0 ≤ bvDen ρ l .zero
  | [] => by simp [bvDen, B.den, b2i]
  | b :: l => by
    have := bvDen_zero_nonneg l
    rw [bvDen_cons]
    rcases b2i_01 (b.den ρ) with h | h <;> omega
theorem bvDen_one_neg : ∀ l : List B, bvDen ρ l .one < 0
  | [] => by simp [bvDen, B.den, b2i]
  | b :: l => by
    have := bvDen_one_neg l
    rw [bvDen_cons]
    rcases b2i_01 (b.den ρ) with h | h <;> omega
/-! ### Adding -/
theorem add1_den {x y s : B} {c d : Bool} (h : add1 x y c = some (s, d)) : b2i (x.den ρ) + b2i (y.den ρ) + b2i c = b2i (s.den ρ) + 2 * b2i d := by
  unfold add1 at h
  split at h
  · split at h
    · simp only [Option.some.injEq, Prod.mk.injEq] at h
      obtain ⟨rfl, rfl⟩ := h
      simp [B.den, b2i]
    · split at h
      · simp only [Option.some.injEq, Prod.mk.injEq] at h
        obtain ⟨rfl, rfl⟩ := h
        simp [B.den, b2i]
      · split at h
        · simp only [Option.some.injEq, Prod.mk.injEq] at h
          obtain ⟨rfl, rfl⟩ := h
          simp [B.den, b2i]
        · cases h
  · split at h
    · simp only [Option.some.injEq, Prod.mk.injEq] at h
      obtain ⟨rfl, rfl⟩ := h
      simp [B.den, b2i]
      omega
    · split at h
      · simp only [Option.some.injEq, Prod.mk.injEq] at h
        obtain ⟨rfl, rfl⟩ := h
        simp [B.den, b2i]
        omega
      · split at h
        · simp only [Option.some.injEq, Prod.mk.injEq] at h
          obtain ⟨rfl, rfl⟩ := h
          simp [B.den, b2i]
        · cases h
theorem addEnd_den {t u s : B} {r : List B} {c : Bool} (h : addEnd t u c = some (r, s)) : -b2i (t.den ρ) + -b2i (u.den ρ) + b2i c = bvDen ρ r s := by
  unfold addEnd at h
  split at h
  · rename_i s' d hs
    have := add1_den (ρ := ρ) hs
    split at h
    · simp only [Option.some.injEq, Prod.mk.injEq] at h
      obtain ⟨rfl, rfl⟩ := h
      rw [bvDen_nil]
      simp only [b2i, if_true] at this ⊢
      omega
    · simp only [Option.some.injEq, Prod.mk.injEq] at h
      obtain ⟨rfl, rfl⟩ := h
      rw [bvDen_nil]
      simp only [b2i, Bool.false_eq_true, if_false] at this ⊢
      omega
    · cases h
  · cases h
theorem consB_some {b : B} {o : Option (List B × B)} {r : List B} {s : B} (h : consB (some b) o = some (r, s)) : ∃ l, o = some (l, s) ∧ r = b :: l := by
  unfold consB at h
  dsimp only at h
  split at h
  · cases h
  · simp only [Option.some.injEq, Prod.mk.injEq] at h
    obtain ⟨rfl, rfl⟩ := h
    exact ⟨_, rfl, rfl⟩
theorem addR_den {t : B} : ∀ {m : List B} {u : B} {c : Bool} {r : List B} {s : B}, addR t m u c = some (r, s) → -b2i (t.den ρ) + bvDen ρ m u + b2i c = bvDen ρ r s
  | [], u, c, r, s, h => addEnd_den (by unfold addR at h; exact h)
  | y :: m, u, c, r, s, h => by
    unfold addR at h
    split at h
    · rename_i s' d hs
      obtain ⟨l', h1, rfl⟩ := consB_some h
      have := add1_den (ρ := ρ) hs
      have ih := addR_den h1
      rw [bvDen_cons, bvDen_cons, ← ih]
      omega
    · cases h
theorem addB_den : ∀ {l : List B} {t : B} {m : List B} {u : B} {c : Bool} {r : List B} {s : B}, addB l t m u c = some (r, s) → bvDen ρ l t + bvDen ρ m u + b2i c = bvDen ρ r s
  | [], t, m, u, c, r, s, h => addR_den (by unfold addB at h; exact h)
  | x :: l, t, [], u, c, r, s, h => by
    unfold addB at h
    dsimp only at h
    split at h
    · rename_i s' d hs
      obtain ⟨l', h1, rfl⟩ := consB_some h
      have := add1_den (ρ := ρ) hs
      have ih := addB_den h1
      rw [bvDen_nil] at ih
      rw [bvDen_cons, bvDen_cons, bvDen_nil, ← ih]
      omega
    · cases h
  | x :: l, t, y :: m, u, c, r, s, h => by
    unfold addB at h
    dsimp only at h
    split at h
    · rename_i s' d hs
      obtain ⟨l', h1, rfl⟩ := consB_some h
      have := add1_den (ρ := ρ) hs
      have ih := addB_den h1
      rw [bvDen_cons, bvDen_cons, bvDen_cons, ← ih]
      omega
    · cases h
theorem B.sub_den {a b c : B} (h : B.sub a b = some c) : b2i (a.den ρ) - b2i (b.den ρ) = b2i (c.den ρ) := by
  unfold B.sub at h
  split at h
  · obtain rfl := Option.some.inj h
    simp [B.den, b2i]
  · split at h
    · obtain rfl := Option.some.inj h
      rw [B.not_den, show B.one.den ρ = true from rfl]
      cases b.den ρ <;> rfl
    · split at h
      · rename_i hb
        obtain rfl := Option.some.inj h
        rw [B.beq_eq hb]
        simp [B.den, b2i]
      · cases h
theorem consB_some' {b : Option B} {o : Option (List B × B)} {r : List B} {s : B} (h : consB b o = some (r, s)) : ∃ c l, b = some c ∧ o = some (l, s) ∧ r = c :: l := by
  cases b with
  | none => cases h
  | some c =>
    obtain ⟨l, h1, h2⟩ := consB_some h
    exact ⟨c, l, rfl, h1, h2⟩
theorem subR_den {t : B} : ∀ {m : List B} {u : B} {r : List B} {s : B}, zipR B.sub t m u = some (r, s) → -b2i (t.den ρ) - bvDen ρ m u = bvDen ρ r s
  | [], u, r, s, h => by
    unfold zipR at h
    split at h
    · rename_i c hc
      simp only [Option.some.injEq, Prod.mk.injEq] at h
      obtain ⟨rfl, rfl⟩ := h
      have := B.sub_den (ρ := ρ) hc
      rw [bvDen_nil, bvDen_nil]
      omega
    · cases h
  | y :: m, u, r, s, h => by
    unfold zipR at h
    obtain ⟨c, l, h1, h2, rfl⟩ := consB_some' h
    have := B.sub_den (ρ := ρ) h1
    have ih := subR_den h2
    rw [bvDen_cons, bvDen_cons, ← ih]
    omega
theorem subB_den : ∀ {l : List B} {t : B} {m : List B} {u : B} {r : List B} {s : B}, zipB B.sub l t m u = some (r, s) → bvDen ρ l t - bvDen ρ m u = bvDen ρ r s
  | [], t, m, u, r, s, h => subR_den (by unfold zipB at h; exact h)
  | x :: l, t, [], u, r, s, h => by
    unfold zipB at h
    obtain ⟨c, l', h1, h2, rfl⟩ := consB_some' h
    have := B.sub_den (ρ := ρ) h1
    have ih := subB_den h2
    rw [bvDen_nil] at ih
    rw [bvDen_cons, bvDen_cons, bvDen_nil, ← ih]
    omega
  | x :: l, t, y :: m, u, r, s, h => by
    unfold zipB at h
    obtain ⟨c, l', h1, h2, rfl⟩ := consB_some' h
    have := B.sub_den (ρ := ρ) h1
    have ih := subB_den h2
    rw [bvDen_cons, bvDen_cons, bvDen_cons, ← ih]
    omega
/-! ### Tests -/
theorem cubeB_iff {m v : Nat} : cubeB ρ m v = true ↔ ∀ i, m.testBit i = true → ρ.b i = v.testBit i := by
  unfold cubeB
  rw [List.all_eq_true]
  constructor
  · intro h i hi
    have hlt : i < m.log2 + 1 := by
      rcases Nat.lt_or_ge i (m.log2 + 1) with h1 | h1
      · exact h1
      · have h2 : m < 2 ^ i := Nat.lt_of_lt_of_le Nat.lt_log2_self (Nat.pow_le_pow_right (by omega) h1)
        rw [Nat.testBit_lt_two_pow h2] at hi
        cases hi
    have := h i (List.mem_range.2 hlt)
    simpa [hi] using this
  · intro h i _
    cases hi : m.testBit i with
    | false => simp
    | true => simp [h i hi]
/-- What a question stands for. -/
def Q.is (ρ : Env) : Q → Prop
  | .ff => False
  | .c m v => cubeB ρ m v = true
  | .bad => False
theorem bitN_test {i j : Nat} {b : Bool} : (bitN i b).testBit j = (b && decide (i = j)) := by
  cases b <;> simp [bitN, Nat.testBit_two_pow]
theorem add_bit {m i j : Nat} : (m ||| 2 ^ i).testBit j = (m.testBit j || decide (i = j)) := by
  rw [Nat.testBit_or, Nat.testBit_two_pow]
theorem Q.with_is {q : Q} {i : Nat} {b : Bool} (hq : q ≠ .bad) (hv : ∀ m v, q = .c m v → ∀ j, v.testBit j = true → m.testBit j = true) :
    (q.with i b) ≠ .bad ∧ ((q.with i b).is ρ ↔ q.is ρ ∧ ρ.b i = b) ∧ ∀ m v, q.with i b = .c m v → ∀ j, v.testBit j = true → m.testBit j = true := by
  cases q with
  | ff => simp [Q.with, Q.is]
  | bad => exact absurd rfl hq
  | c m v =>
    have hv' := hv m v rfl
    unfold Q.with
    dsimp only
    cases hm : m.testBit i with
    | true =>
      dsimp only
      have hc : Q.is ρ (.c m v) → ρ.b i = v.testBit i := fun h => cubeB_iff.1 h i hm
      cases hvi : v.testBit i <;> cases b <;> dsimp only <;> rw [hvi] at hc
      · exact ⟨by simp, ⟨fun h => ⟨h, hc h⟩, fun h => h.1⟩, fun m' v' e => hv m' v' e⟩
      · exact ⟨by simp, ⟨fun h => h.elim, fun h => by have h1 := hc h.1; have h2 := h.2; rw [h1] at h2; cases h2⟩, fun m' v' e => by cases e⟩
      · exact ⟨by simp, ⟨fun h => h.elim, fun h => by have h1 := hc h.1; have h2 := h.2; rw [h1] at h2; cases h2⟩, fun m' v' e => by cases e⟩
      · exact ⟨by simp, ⟨fun h => ⟨h, hc h⟩, fun h => h.1⟩, fun m' v' e => hv m' v' e⟩
    | false =>
      dsimp only
      have hvi : v.testBit i = false := by
        cases h : v.testBit i with
        | false => rfl
        | true => rw [hv' i h] at hm; cases hm
      have e1 : ∀ j, (m ||| 2 ^ i).testBit j = (m.testBit j || decide (i = j)) := fun j => add_bit
      have e2 : ∀ j, (v ||| bitN i b).testBit j = (v.testBit j || (b && decide (i = j))) := by
        intro j
        rw [Nat.testBit_or, bitN_test]
      refine ⟨by simp, ?_, fun m' v' e j hj => ?_⟩
      · simp only [Q.is, cubeB_iff]
        constructor
        · intro h
          refine ⟨fun j hj => ?_, ?_⟩
          · have := h j (by rw [e1, hj]; rfl)
            rw [this, e2]
            by_cases hij : i = j
            · subst hij; rw [hm] at hj; cases hj
            · simp [hij]
          · have := h i (by rw [e1]; simp)
            rw [this, e2, hvi]
            simp
        · rintro ⟨h1, h2⟩ j hj
          rw [e1] at hj
          rw [e2]
          by_cases hij : i = j
          · subst hij; rw [hvi, h2]; simp
          · simp only [hij, decide_false, Bool.or_false, Bool.and_false] at hj ⊢
            exact h1 j hj
      · simp only [Q.c.injEq] at e
        obtain ⟨rfl, rfl⟩ := e
        rw [e2] at hj
        rw [e1]
        by_cases hij : i = j
        · simp [hij]
        · simp only [hij, decide_false, Bool.and_false, Bool.or_false] at hj
          rw [hv' j hj]; rfl
def Q.wf (q : Q) : Prop := ∀ m v, q = .c m v → ∀ j, v.testBit j = true → m.testBit j = true
theorem Q.same1_is {q : Q} {a b : B} (hw : q.wf) (h : q.same1 a b ≠ .bad) (hq : q ≠ .bad) : ((q.same1 a b).is ρ ↔ q.is ρ ∧ a.den ρ = b.den ρ) ∧ (q.same1 a b).wf := by
  have W := fun (i : Nat) (c : Bool) => Q.with_is (ρ := ρ) (i := i) (b := c) hq hw
  cases a <;> cases b <;> simp only [Q.same1, B.den] at h ⊢
  case zero.zero => exact ⟨by simp, hw⟩
  case one.one => exact ⟨by simp, hw⟩
  case zero.one => exact ⟨by simp [Q.is], fun m v e => by cases e⟩
  case one.zero => exact ⟨by simp [Q.is], fun m v e => by cases e⟩
  case zero.pos i => exact ⟨(W i false).2.1.trans (by cases ρ.b i <;> simp), (W i false).2.2⟩
  case zero.neg i => exact ⟨(W i true).2.1.trans (by cases ρ.b i <;> simp), (W i true).2.2⟩
  case one.pos i => exact ⟨(W i true).2.1.trans (by cases ρ.b i <;> simp), (W i true).2.2⟩
  case one.neg i => exact ⟨(W i false).2.1.trans (by cases ρ.b i <;> simp), (W i false).2.2⟩
  case pos.zero i => exact ⟨(W i false).2.1, (W i false).2.2⟩
  case pos.one i => exact ⟨(W i true).2.1, (W i true).2.2⟩
  case neg.zero i => exact ⟨(W i true).2.1.trans (by simp), (W i true).2.2⟩
  case neg.one i => exact ⟨(W i false).2.1.trans (by simp), (W i false).2.2⟩
  case pos.pos i j =>
    split at h
    · rename_i hb
      rw [Nat.eq_of_beq_eq_true hb]
      exact ⟨by simp, hw⟩
    · exact absurd rfl h
  case neg.neg i j =>
    split at h
    · rename_i hb
      rw [Nat.eq_of_beq_eq_true hb]
      exact ⟨by simp, hw⟩
    · exact absurd rfl h
  case pos.neg i j =>
    split at h
    · rename_i hb
      rw [Nat.eq_of_beq_eq_true hb]
      exact ⟨by simp [Q.is], fun m v e => by cases e⟩
    · exact absurd rfl h
  case neg.pos i j =>
    split at h
    · rename_i hb
      rw [Nat.eq_of_beq_eq_true hb]
      exact ⟨by simp [Q.is], fun m v e => by cases e⟩
    · exact absurd rfl h
theorem Q.same_is {q : Q} {a b : B} (hw : q.wf) (h : q.same a b ≠ .bad) : ((q.same a b).is ρ ↔ q.is ρ ∧ a.den ρ = b.den ρ) ∧ (q.same a b).wf := by
  unfold Q.same at h ⊢
  split at h
  · exact ⟨by simp [Q.is], hw⟩
  · exact absurd rfl h
  · exact Q.same1_is hw h (by simp)
theorem bit_split {a b : Bool} {x y : Int} : (b2i a + 2 * x = b2i b + 2 * y) ↔ (a = b ∧ x = y) := by
  constructor
  · intro h
    cases a <;> cases b <;> simp [b2i] at h ⊢ <;> omega
  · rintro ⟨rfl, rfl⟩; rfl
theorem bv_nil_cons (t b : B) (l : List B) (u : B) : (bvDen ρ [] t = bvDen ρ (b :: l) u) ↔ (t.den ρ = b.den ρ ∧ bvDen ρ [] t = bvDen ρ l u) := by
  have e : bvDen ρ [] t = b2i (t.den ρ) + 2 * bvDen ρ [] t := by rw [bvDen_nil]; omega
  rw [bvDen_cons]
  constructor
  · intro h
    rw [e] at h
    exact bit_split.1 h
  · intro h
    rw [e]
    exact bit_split.2 h
theorem Q.same_bad {a b : B} : Q.same .bad a b = .bad := rfl
theorem eqR_is {t : B} : ∀ {m : List B} {u : B} {q : Q}, q.wf → eqR t m u q ≠ .bad → ((eqR t m u q).is ρ ↔ q.is ρ ∧ bvDen ρ [] t = bvDen ρ m u)
  | [], u, q, hw, h => by
    unfold eqR at h ⊢
    rw [(Q.same_is hw h).1, bvDen_nil, bvDen_nil]
    constructor
    · rintro ⟨h1, h2⟩; exact ⟨h1, by rw [h2]⟩
    · rintro ⟨h1, h2⟩; exact ⟨h1, b2i_inj (by omega)⟩
  | c :: m, u, q, hw, h => by
    unfold eqR at h ⊢
    split at h
    · simp [Q.is]
    · have hs : q.same t c ≠ .bad := by
        intro hb
        rw [hb] at h
        have : ∀ m : List B, eqR t m u .bad = .bad := by
          intro m
          induction m with
          | nil => rfl
          | cons c m ih => unfold eqR; exact ih
        exact h (this m)
      obtain ⟨h1, h2⟩ := Q.same_is (ρ := ρ) hw hs
      rw [eqR_is h2 h, h1, bv_nil_cons, and_assoc]
theorem eqB_bad (u : B) : ∀ (l : List B) (t : B) (m : List B), eqB l t m u .bad = .bad
  | [], t, m => by
    unfold eqB
    induction m with
    | nil => rfl
    | cons c m ih => unfold eqR; exact ih
  | b :: l, t, [] => by unfold eqB; exact eqB_bad u l t []
  | b :: l, t, c :: m => by unfold eqB; exact eqB_bad u l t m
theorem eqB_is : ∀ {l : List B} {t : B} {m : List B} {u : B} {q : Q}, q.wf → eqB l t m u q ≠ .bad → ((eqB l t m u q).is ρ ↔ q.is ρ ∧ bvDen ρ l t = bvDen ρ m u)
  | [], t, m, u, q, hw, h => by
    unfold eqB at h ⊢
    exact eqR_is hw h
  | b :: l, t, [], u, q, hw, h => by
    unfold eqB at h ⊢
    split at h
    · simp [Q.is]
    · dsimp only at h ⊢
      have hs : q.same b u ≠ .bad := by
        intro hb
        rw [hb, eqB_bad] at h
        exact h rfl
      obtain ⟨h1, h2⟩ := Q.same_is (ρ := ρ) hw hs
      rw [eqB_is h2 h, h1, and_assoc, eq_comm (a := bvDen ρ (b :: l) t), bv_nil_cons, eq_comm (a := u.den ρ), eq_comm (a := bvDen ρ [] u)]
  | b :: l, t, c :: m, u, q, hw, h => by
    unfold eqB at h ⊢
    split at h
    · simp [Q.is]
    · dsimp only at h ⊢
      have hs : q.same b c ≠ .bad := by
        intro hb
        rw [hb, eqB_bad] at h
        exact h rfl
      obtain ⟨h1, h2⟩ := Q.same_is (ρ := ρ) hw hs
      rw [eqB_is h2 h, h1, bvDen_cons, bvDen_cons, bit_split, and_assoc]
theorem wf0 : (Q.c 0 0).wf := by
  intro m v e j hj
  simp only [Q.c.injEq] at e
  obtain ⟨rfl, rfl⟩ := e
  exact hj
theorem is0 : (Q.c 0 0).is ρ := cubeB_iff.2 fun i hi => by simp at hi
theorem eq_bits {l : List B} {t : B} {m : List B} {u : B} {d : X} (hd : d.den ρ = b2i (bvDen ρ l t == bvDen ρ m u)) : (ofQ d (eqB l t m u (.c 0 0))).den ρ = b2i (bvDen ρ l t == bvDen ρ m u) := by
  have key := eqB_is (ρ := ρ) (l := l) (t := t) (m := m) (u := u) wf0
  cases hq : eqB l t m u (.c 0 0) with
  | bad => exact hd
  | ff =>
    rw [hq] at key
    have := (key (by simp)).symm
    have hne : ¬ bvDen ρ l t = bvDen ρ m u := fun e => (this.1 ⟨is0, e⟩)
    simp [ofQ, X.den, hne, b2i]
  | c m' v' =>
    rw [hq] at key
    have hk := key (by simp)
    have hk' : cubeB ρ m' v' = true ↔ bvDen ρ l t = bvDen ρ m u := by
      refine Iff.trans (show cubeB ρ m' v' = true ↔ (Q.c m' v').is ρ from Iff.rfl) (hk.trans ?_)
      exact ⟨fun h => h.2, fun h => ⟨is0, h⟩⟩
    have e : cubeB ρ m' v' = (bvDen ρ l t == bvDen ρ m u) := by
      cases hc : cubeB ρ m' v' with
      | true => rw [hk'.1 hc]; simp
      | false =>
        have : ¬ bvDen ρ l t = bvDen ρ m u := fun e => by rw [hk'.2 e] at hc; cases hc
        simp [this]
    unfold ofQ
    dsimp only
    split
    · rename_i hm
      have hm0 : m' = 0 := Nat.eq_of_beq_eq_true hm
      have : cubeB ρ m' v' = true := cubeB_iff.2 fun i hi => by rw [hm0] at hi; simp at hi
      rw [← e, this]
      rfl
    · rw [← e]
      rfl

theorem single_eq {m : Nat} (h : single m = true) {j k : Nat} (hj : m.testBit j = true) (hk : m.testBit k = true) : j = k := by
  have e := Nat.eq_of_beq_eq_true h
  have key : ∀ (n m : Nat), m < 2 ^ n → m &&& (m - 1) = 0 → ∀ j k, m.testBit j = true → m.testBit k = true → j = k := by
    intro n
    induction n with
    | zero =>
      intro m hm _ j k hj
      have : m = 0 := by simpa using hm
      subst this
      simp at hj
    | succ n ih =>
      intro m hm he j k hj hk
      rcases Nat.mod_two_eq_zero_or_one m with h0 | h1
      · -- the lowest bit is none
        have hj0 : j ≠ 0 := fun e => by subst e; rw [Nat.testBit_zero] at hj; simp [h0] at hj
        have hk0 : k ≠ 0 := fun e => by subst e; rw [Nat.testBit_zero] at hk; simp [h0] at hk
        obtain ⟨j', rfl⟩ := Nat.exists_eq_succ_of_ne_zero hj0
        obtain ⟨k', rfl⟩ := Nat.exists_eq_succ_of_ne_zero hk0
        rw [Nat.succ_eq_add_one, Nat.testBit_succ] at hj hk
        have h2 : (m / 2) &&& (m / 2 - 1) = 0 := by
          have h3 : ((m &&& (m - 1)) / 2) = (m / 2) &&& ((m - 1) / 2) := by
            apply Nat.eq_of_testBit_eq
            intro i
            rw [← Nat.testBit_succ, Nat.testBit_and, Nat.testBit_and, Nat.testBit_succ, Nat.testBit_succ]
          rw [he] at h3
          have hm0 : m ≠ 0 := fun e => by subst e; simp at hj
          have h4 : (m - 1) / 2 = m / 2 - 1 := by omega
          rw [h4] at h3
          simpa using h3.symm
        have := ih (m / 2) (by rw [Nat.pow_succ] at hm; omega) h2 j' k' hj hk
        omega
      · -- the lowest bit is one: then it is all
        have h2 : m / 2 = 0 := by
          have h3 : ((m &&& (m - 1)) / 2) = (m / 2) &&& ((m - 1) / 2) := by
            apply Nat.eq_of_testBit_eq
            intro i
            rw [← Nat.testBit_succ, Nat.testBit_and, Nat.testBit_and, Nat.testBit_succ, Nat.testBit_succ]
          rw [he] at h3
          have h4 : (m - 1) / 2 = m / 2 := by omega
          rw [h4, Nat.and_self] at h3
          simpa using h3.symm
        have hm1 : m = 1 := by omega
        subst hm1
        have f : ∀ i, (1 : Nat).testBit i = true → i = 0 := by
          intro i hi
          have : (2 ^ 0 : Nat).testBit i = true := hi
          rw [Nat.testBit_two_pow] at this
          exact (by simpa using this : 0 = i).symm
        rw [f j hj, f k hk]
  exact key (m + 1) m (Nat.lt_trans (Nat.lt_succ_self m) Nat.lt_two_pow_self) e j k hj hk
theorem flip1_is {m v v' : Nat} (h : flip1 m v = some v') (hw : ∀ j, v.testBit j = true → m.testBit j = true) : (cubeB ρ m v' = true ↔ ¬ cubeB ρ m v = true) ∧ ∀ j, v'.testBit j = true → m.testBit j = true := by
  unfold flip1 at h
  split at h
  · cases h
  · rename_i h0
    split at h
    · rename_i hs
      obtain rfl := Option.some.inj h
      have hm0 : m ≠ 0 := Nat.ne_of_beq_eq_false h0
      obtain ⟨j, hj⟩ := Nat.exists_testBit_of_ne_zero hm0
      have hone : ∀ k, m.testBit k = true → k = j := fun k hk => single_eq hs hk hj
      have e1 : cubeB ρ m v = true ↔ ρ.b j = v.testBit j := by
        rw [cubeB_iff]
        exact ⟨fun h => h j hj, fun h k hk => by rw [hone k hk]; exact h⟩
      have e2 : cubeB ρ m (m ^^^ v) = true ↔ ρ.b j = !v.testBit j := by
        rw [cubeB_iff]
        have : (m ^^^ v).testBit j = !v.testBit j := by rw [Nat.testBit_xor, hj]; simp
        exact ⟨fun h => by rw [h j hj, this], fun h k hk => by rw [hone k hk, h, this]⟩
      refine ⟨?_, fun k hk => ?_⟩
      · rw [e1, e2]
        cases ρ.b j <;> cases v.testBit j <;> simp
      · rw [Nat.testBit_xor] at hk
        cases hmk : m.testBit k with
        | true => rfl
        | false =>
          rw [hmk] at hk
          have := hw k (by simpa using hk)
          rw [hmk] at this
          exact this
    · cases h
/-- What an answer on the least stands for. -/
def G.is (ρ : Env) : G → Prop
  | .tt => True
  | .ff => False
  | .c m v => cubeB ρ m v = true
  | .n m v => ¬ cubeB ρ m v = true
  | .bad => False
def G.wf : G → Prop
  | .c m v => ∀ j, v.testBit j = true → m.testBit j = true
  | .n m v => ∀ j, v.testBit j = true → m.testBit j = true
  | _ => True
theorem cube1 {i : Nat} {b : Bool} : cubeB ρ (2 ^ i) (bitN i b) = true ↔ ρ.b i = b := by
  rw [cubeB_iff]
  constructor
  · intro h
    have := h i (by simp)
    rw [this, bitN_test]
    simp
  · intro h j hj
    rw [Nat.testBit_two_pow] at hj
    have : i = j := by simpa using hj
    subst this
    rw [h, bitN_test]
    simp
theorem wf1 {i : Nat} {b : Bool} : ∀ j, (bitN i b).testBit j = true → (2 ^ i).testBit j = true := by
  intro j hj
  rw [bitN_test] at hj
  rw [Nat.testBit_two_pow]
  cases b <;> simp at hj ⊢
  exact hj
theorem Q.wf_c {m v : Nat} (h : ∀ j, v.testBit j = true → m.testBit j = true) : (Q.c m v).wf := by
  intro m' v' e
  simp only [Q.c.injEq] at e
  obtain ⟨rfl, rfl⟩ := e
  exact h
theorem G.join_is {r1 r0 : G} {i : Nat} {b : Bool} (w1 : r1.wf) (w0 : r0.wf) (h1 : r1 ≠ .bad) (h0 : r0 ≠ .bad) (hm : r0.is ρ → r1.is ρ) (h : G.join r1 r0 i b ≠ .bad) :
    ((G.join r1 r0 i b).is ρ ↔ if ρ.b i = b then r1.is ρ else r0.is ρ) ∧ (G.join r1 r0 i b).wf := by
  cases r1 with
  | bad => exact absurd rfl h1
  | ff =>
    refine ⟨?_, trivial⟩
    have h2 : ¬ r0.is ρ := fun h => hm h
    show False ↔ if ρ.b i = b then False else r0.is ρ
    by_cases hb : ρ.b i = b
    · simp [hb]
    · simp [hb, h2]
  | tt =>
    cases r0 with
    | bad => exact absurd rfl h0
    | tt => exact ⟨by simp [G.join, G.is], trivial⟩
    | ff =>
      refine ⟨?_, wf1⟩
      show cubeB ρ (2 ^ i) (bitN i b) = true ↔ _
      rw [cube1]
      simp [G.is]
    | c m v =>
      unfold G.join at h ⊢
      dsimp only at h ⊢
      cases hf : flip1 m v with
      | none => rw [hf] at h; exact absurd rfl h
      | some v' =>
        rw [hf] at h
        dsimp only at h ⊢
        obtain ⟨f1, f2⟩ := flip1_is (ρ := ρ) hf w0
        have W := Q.with_is (ρ := ρ) (q := .c m v') (i := i) (b := !b) (by simp) (Q.wf_c f2)
        have hne : (ρ.b i = !b) ↔ ¬ ρ.b i = b := by cases ρ.b i <;> cases b <;> simp
        split at h
        · rename_i hq
          rw [hq] at W
          refine ⟨?_, trivial⟩
          have := W.2.1
          simp only [Q.is, false_iff, not_and, f1] at this
          by_cases hb : ρ.b i = b
          · simp [hb, G.is]
          · simp only [hb, if_false, G.is, true_iff]
            cases hc : cubeB ρ m v with
            | true => rfl
            | false => exact absurd (hne.2 hb) (this (by simp [hc]))
        · rename_i m' v'' hq
          rw [hq] at W
          refine ⟨?_, W.2.2 m' v'' rfl⟩
          have := W.2.1
          simp only [G.is]
          rw [show (cubeB ρ m' v'' = true) ↔ _ from this]
          simp only [Q.is, hne, f1]
          by_cases hb : ρ.b i = b
          · simp [hb]
          · simp [hb]
        · exact absurd rfl h
    | n m v =>
      have W := Q.with_is (ρ := ρ) (q := .c m v) (i := i) (b := !b) (by simp) (Q.wf_c w0)
      unfold G.join at h ⊢
      dsimp only at h ⊢
      have hne : (ρ.b i = !b) ↔ ¬ ρ.b i = b := by cases ρ.b i <;> cases b <;> simp
      split at h
      · rename_i hq
        rw [hq] at W
        refine ⟨?_, trivial⟩
        have := W.2.1
        simp only [Q.is, false_iff, not_and] at this
        by_cases hb : ρ.b i = b
        · simp [hb, G.is]
        · simp only [hb, if_false, G.is, true_iff]
          exact fun hc => this hc (hne.2 hb)
      · rename_i m' v' hq
        rw [hq] at W
        refine ⟨?_, W.2.2 m' v' rfl⟩
        have := W.2.1
        simp only [G.is]
        rw [show (cubeB ρ m' v' = true) ↔ _ from this]
        simp only [Q.is, hne]
        by_cases hb : ρ.b i = b
        · simp [hb]
        · simp [hb]
      · exact absurd rfl h
  | c m v =>
    cases r0 with
    | bad => exact absurd rfl h0
    | tt =>
      refine ⟨?_, trivial⟩
      have := hm trivial
      simp only [G.join, G.is] at this ⊢
      simp [this]
    | ff =>
      have W := Q.with_is (ρ := ρ) (q := .c m v) (i := i) (b := b) (by simp) (Q.wf_c w1)
      unfold G.join at h ⊢
      dsimp only at h ⊢
      cases hq : (Q.c m v).with i b with
      | bad => exact absurd hq W.1
      | ff =>
        rw [hq] at W
        refine ⟨?_, trivial⟩
        have := W.2.1
        simp only [Q.is, false_iff, not_and] at this
        simp only [G.ofQ, G.is, false_iff]
        by_cases hb : ρ.b i = b
        · simp only [hb, if_true]
          exact fun hc => this hc hb
        · simp [hb]
      | c m' v' =>
        rw [hq] at W
        refine ⟨?_, W.2.2 m' v' rfl⟩
        have := W.2.1
        simp only [G.ofQ, G.is]
        rw [show (cubeB ρ m' v' = true) ↔ _ from this]
        simp only [Q.is]
        by_cases hb : ρ.b i = b
        · simp [hb]
        · simp [hb]
    | c m' v' =>
      unfold G.join at h ⊢
      dsimp only at h ⊢
      split at h
      · rename_i ha hb
        rw [Nat.eq_of_beq_eq_true ha, Nat.eq_of_beq_eq_true hb]
        exact ⟨by simp, w0⟩
      · exact absurd rfl h
    | n m' v' => exact absurd rfl h
  | n m v =>
    cases r0 with
    | bad => exact absurd rfl h0
    | tt =>
      refine ⟨?_, trivial⟩
      have := hm trivial
      simp only [G.join, G.is] at this ⊢
      simp [this]
    | ff =>
      unfold G.join at h ⊢
      dsimp only at h ⊢
      cases hf : flip1 m v with
      | none => rw [hf] at h; exact absurd rfl h
      | some v' =>
        rw [hf] at h
        dsimp only at h ⊢
        obtain ⟨f1, f2⟩ := flip1_is (ρ := ρ) hf w1
        have W := Q.with_is (ρ := ρ) (q := .c m v') (i := i) (b := b) (by simp) (Q.wf_c f2)
        cases hq : (Q.c m v').with i b with
        | bad => exact absurd hq W.1
        | ff =>
          rw [hq] at W
          refine ⟨?_, trivial⟩
          have := W.2.1
          simp only [Q.is, false_iff, not_and, f1] at this
          simp only [G.ofQ, G.is, false_iff]
          by_cases hb : ρ.b i = b
          · simp only [hb, if_true]
            exact fun hc => this hc hb
          · simp [hb]
        | c m' v'' =>
          rw [hq] at W
          refine ⟨?_, W.2.2 m' v'' rfl⟩
          have := W.2.1
          simp only [G.ofQ, G.is]
          rw [show (cubeB ρ m' v'' = true) ↔ _ from this]
          simp only [Q.is, f1]
          by_cases hb : ρ.b i = b
          · simp [hb]
          · simp [hb]
    | c m' v' => exact absurd rfl h
    | n m' v' =>
      unfold G.join at h ⊢
      dsimp only at h ⊢
      split at h
      · rename_i ha hb
        rw [Nat.eq_of_beq_eq_true ha, Nat.eq_of_beq_eq_true hb]
        exact ⟨by simp, w0⟩
      · exact absurd rfl h
theorem G.join_bad1 {r0 : G} {i : Nat} {b : Bool} : G.join .bad r0 i b = .bad := rfl
theorem G.join_bad0 {r1 : G} {i : Nat} {b : Bool} (h : G.join r1 .bad i b ≠ .bad) : r1 = .ff := by
  cases r1 <;> first | rfl | exact absurd rfl h
theorem geB_is {t : B} : ∀ {l : List B} {c : Int}, geB t l c ≠ .bad → ((geB t l c).is ρ ↔ c ≤ bvDen ρ l t) ∧ (geB t l c).wf
  | [], c, h => by
    unfold geB at h ⊢
    rw [bvDen_nil]
    cases h1 : decide (c ≤ -1) with
    | true =>
      have := of_decide_eq_true h1
      refine ⟨⟨fun _ => ?_, fun _ => trivial⟩, trivial⟩
      rcases b2i_01 (t.den ρ) with h | h <;> omega
    | false =>
      have h1' := of_decide_eq_false h1
      dsimp only
      cases h2 : decide (1 ≤ c) with
      | true =>
        have := of_decide_eq_true h2
        refine ⟨⟨fun h => h.elim, fun h => ?_⟩, trivial⟩
        exfalso
        rcases b2i_01 (t.den ρ) with h' | h' <;> omega
      | false =>
        have h2' := of_decide_eq_false h2
        have hc : c = 0 := by omega
        subst hc
        dsimp only
        cases t with
        | zero => simp [G.is, G.wf, B.den, b2i]
        | one => simp [G.is, G.wf, B.den, b2i]
        | pos i =>
          refine ⟨?_, fun j hj => by simp at hj⟩
          show cubeB ρ (2 ^ i) 0 = true ↔ _
          rw [show (0 : Nat) = bitN i false from rfl, cube1, show (B.pos i).den ρ = ρ.b i from rfl]
          cases ρ.b i <;> simp [b2i]
        | neg i =>
          refine ⟨?_, fun j hj => hj⟩
          show cubeB ρ (2 ^ i) (2 ^ i) = true ↔ _
          rw [show cubeB ρ (2 ^ i) (2 ^ i) = cubeB ρ (2 ^ i) (bitN i true) from rfl, cube1, show (B.neg i).den ρ = !ρ.b i from rfl]
          cases ρ.b i <;> simp [b2i]
  | b :: l, c, h => by
    unfold geB at h ⊢
    rw [bvDen_cons]
    have step1 : ∀ x : Int, (c / 2 ≤ x ↔ c ≤ 1 + 2 * x) := fun x => by omega
    have step0 : ∀ x : Int, ((c + 1) / 2 ≤ x ↔ c ≤ 0 + 2 * x) := fun x => by omega
    cases b with
    | zero =>
      dsimp only at h ⊢
      obtain ⟨h1, h2⟩ := geB_is h
      exact ⟨h1.trans (step0 _), h2⟩
    | one =>
      dsimp only at h ⊢
      obtain ⟨h1, h2⟩ := geB_is h
      exact ⟨h1.trans (step1 _), h2⟩
    | pos i =>
      dsimp only at h ⊢
      have hd : (B.pos i).den ρ = ρ.b i := rfl
      rw [hd]
      cases he : intBeq ((c + 1) / 2) (c / 2) with
      | true =>
        have he' := intBeq_eq he
        rw [he] at h
        dsimp only at h ⊢
        obtain ⟨h1, h2⟩ := geB_is h
        refine ⟨h1.trans ?_, h2⟩
        cases ρ.b i with
        | true => exact step1 _
        | false => rw [← he']; exact step0 _
      | false =>
        rw [he] at h
        dsimp only at h ⊢
        have n1 : geB t l (c / 2) ≠ .bad := fun e => by rw [e, G.join_bad1] at h; exact h rfl
        obtain ⟨h1, w1⟩ := geB_is n1
        by_cases n0 : geB t l ((c + 1) / 2) = .bad
        · rw [n0] at h ⊢
          have := G.join_bad0 h
          rw [this] at h1 ⊢
          refine ⟨⟨fun h => h.elim, fun h => ?_⟩, trivial⟩
          exact h1.2 (by cases hb : ρ.b i <;> simp [hb, b2i] at h <;> omega)
        · obtain ⟨h0, w0⟩ := geB_is n0
          obtain ⟨h2, h3⟩ := G.join_is (ρ := ρ) w1 w0 n1 n0 (fun h => h1.2 (by have := h0.1 h; omega)) h
          refine ⟨h2.trans ?_, h3⟩
          cases ρ.b i with
          | true => simp only [if_true]; exact h1.trans (step1 _)
          | false => simp only [Bool.false_eq_true, if_false]; exact h0.trans (step0 _)
    | neg i =>
      dsimp only at h ⊢
      have hd : (B.neg i).den ρ = !ρ.b i := rfl
      rw [hd]
      cases he : intBeq ((c + 1) / 2) (c / 2) with
      | true =>
        have he' := intBeq_eq he
        rw [he] at h
        dsimp only at h ⊢
        obtain ⟨h1, h2⟩ := geB_is h
        refine ⟨h1.trans ?_, h2⟩
        cases ρ.b i with
        | false => exact step1 _
        | true => rw [← he']; exact step0 _
      | false =>
        rw [he] at h
        dsimp only at h ⊢
        have n1 : geB t l (c / 2) ≠ .bad := fun e => by rw [e, G.join_bad1] at h; exact h rfl
        obtain ⟨h1, w1⟩ := geB_is n1
        by_cases n0 : geB t l ((c + 1) / 2) = .bad
        · rw [n0] at h ⊢
          have := G.join_bad0 h
          rw [this] at h1 ⊢
          refine ⟨⟨fun h => h.elim, fun h => ?_⟩, trivial⟩
          exact h1.2 (by cases hb : ρ.b i <;> simp [hb, b2i] at h <;> omega)
        · obtain ⟨h0, w0⟩ := geB_is n0
          obtain ⟨h2, h3⟩ := G.join_is (ρ := ρ) w1 w0 n1 n0 (fun h => h1.2 (by have := h0.1 h; omega)) h
          refine ⟨h2.trans ?_, h3⟩
          cases ρ.b i with
          | false => simp only [if_true]; exact h1.trans (step1 _)
          | true => simp only [Bool.true_eq_false, if_false]; exact h0.trans (step0 _)
theorem ofG_den {d : X} {g : G} {p : Prop} [Decidable p] (hd : d.den ρ = b2i (decide p)) (h : g ≠ .bad → (g.is ρ ↔ p)) : (ofG d g).den ρ = b2i (decide p) := by
  cases g with
  | bad => exact hd
  | tt => have := h (by simp); simp only [G.is, true_iff] at this; simp [ofG, X.den, this, b2i]
  | ff => have := h (by simp); simp only [G.is, false_iff] at this; simp [ofG, X.den, this, b2i]
  | c m v =>
    have := h (by simp)
    simp only [G.is] at this
    simp only [ofG, X.den]
    congr 1
    cases hc : cubeB ρ m v with
    | true => simp [this.1 hc]
    | false => simp; exact fun hp => by rw [this.2 hp] at hc; cases hc
  | n m v =>
    have := h (by simp)
    simp only [G.is] at this
    simp only [ofG, X.den, b2i_zero']
    congr 1
    cases hc : cubeB ρ m v with
    | true => simp; exact fun hp => (this.2 hp) hc
    | false => simp; exact this.1 (by simp [hc])
theorem ofGn_den {d : X} {g : G} {p : Prop} [Decidable p] (hd : d.den ρ = b2i (decide p)) (h : g ≠ .bad → (g.is ρ ↔ ¬ p)) : (ofGn d g).den ρ = b2i (decide p) := by
  cases g with
  | bad => exact hd
  | tt => have := h (by simp); simp only [G.is, true_iff] at this; simp [ofGn, X.den, this, b2i]
  | ff => have := h (by simp); simp only [G.is, false_iff, Decidable.not_not] at this; simp [ofGn, X.den, this, b2i]
  | c m v =>
    have := h (by simp)
    simp only [G.is] at this
    simp only [ofGn, X.den, b2i_zero']
    congr 1
    cases hc : cubeB ρ m v with
    | true => simp; exact this.1 hc
    | false => simp; exact Decidable.not_not.1 fun hp => by rw [this.2 hp] at hc; cases hc
  | n m v =>
    have := h (by simp)
    simp only [G.is] at this
    simp only [ofGn, X.den]
    congr 1
    cases hc : cubeB ρ m v with
    | true => simp; exact Decidable.not_not.1 fun hp => (this.2 hp) hc
    | false => simp; exact this.1 (by simp [hc])

/-! ### What is known -/
theorem knownOf_ok : ∀ {pc : List (X × Bool)}, (∀ f ∈ pc, f.1.tt ρ = f.2) → ∀ i, (knownOf pc).1.testBit i = true → ρ.b i = (knownOf pc).2.testBit i
  | [], _, i, h => by simp [knownOf] at h
  | (x, b) :: pc, hp, i, h => by
    have ih := knownOf_ok (pc := pc) fun f hf => hp f (List.mem_cons_of_mem _ hf)
    have hx := hp (x, b) (List.mem_cons_self ..)
    have mix : ∀ (M V m v : Nat), (∀ i, M.testBit i = true → ρ.b i = V.testBit i) → (∀ i, m.testBit i = true → ρ.b i = v.testBit i) → ∀ i, (M ||| m).testBit i = true → ρ.b i = ((V &&& (M ^^^ (M &&& m))) ||| (v &&& m)).testBit i := by
      intro M V m v hM hm i hi
      simp only [Nat.testBit_or, Nat.testBit_and, Nat.testBit_xor] at hi ⊢
      cases hmi : m.testBit i with
      | true => rw [hm i hmi]; cases M.testBit i <;> simp
      | false =>
        rw [hmi, Bool.or_false] at hi
        rw [hM i hi, hi]
        simp
    unfold knownOf at h ⊢
    split at h
    · rename_i m v
      split at h
      · have hm : cubeB ρ m v = true := by
          have : (X.cube m v).tt ρ = true := hx
          unfold X.tt X.den at this
          cases hc : cubeB ρ m v with
          | true => rfl
          | false => rw [hc] at this; simp [b2i] at this
        exact mix _ _ _ _ ih (cubeB_iff.1 hm) i h
      · split at h
        · rename_i hs
          have hm : cubeB ρ m v = false := by
            have : (X.cube m v).tt ρ = false := hx
            unfold X.tt X.den at this
            cases hc : cubeB ρ m v with
            | false => rfl
            | true => rw [hc] at this; simp [b2i] at this
          have hone : ∀ j, m.testBit j = true → ∀ k, m.testBit k = true → j = k := by
            intro j hj k hk
            exact single_eq hs hj hk
          refine mix _ _ _ _ ih (fun j hj => ?_) i h
          rw [Nat.testBit_xor, hj]
          cases hb : ρ.b j with
          | true =>
            cases hv : v.testBit j with
            | false => rfl
            | true =>
              have : cubeB ρ m v = true := cubeB_iff.2 fun k hk => by
                obtain rfl := hone j hj k hk
                rw [hb, hv]
              rw [this] at hm; cases hm
          | false =>
            cases hv : v.testBit j with
            | true => rfl
            | false =>
              have : cubeB ρ m v = true := cubeB_iff.2 fun k hk => by
                obtain rfl := hone j hj k hk
                rw [hb, hv]
              rw [this] at hm; cases hm
        · exact ih i h
    · exact ih i h
theorem falseCube_ok {M V m v : Nat} (hk : ∀ i, M.testBit i = true → ρ.b i = V.testBit i) : ∀ {pc : List (X × Bool)}, (∀ f ∈ pc, f.1.tt ρ = f.2) → falseCube M V m v pc = true → cubeB ρ m v = false
  | [], _, h => by simp [falseCube] at h
  | (x, b) :: pc, hp, h => by
    have ih := falseCube_ok (m := m) (v := v) hk (pc := pc) fun f hf => hp f (List.mem_cons_of_mem _ hf)
    have hx := hp (x, b) (List.mem_cons_self ..)
    unfold falseCube at h
    split at h
    · rename_i m' v'
      split at h
      · exact ih h
      · split at h
        · rename_i h0
          dsimp only at h
          split at h
          · rename_i h1 h2
            have e0 := Nat.eq_of_beq_eq_true h0
            have e1 := Nat.eq_of_beq_eq_true h1
            have e2 := Nat.eq_of_beq_eq_true h2
            have hm : cubeB ρ m' v' = false := by
              have : (X.cube m' v').tt ρ = false := hx
              unfold X.tt X.den at this
              cases hc : cubeB ρ m' v' with
              | false => rfl
              | true => rw [hc] at this; simp [b2i] at this
            cases hc : cubeB ρ m v with
            | false => rfl
            | true =>
              have hc' := cubeB_iff.1 hc
              have : cubeB ρ m' v' = true := cubeB_iff.2 fun i hi => by
                have a0 := congrArg (fun x => x.testBit i) e0
                have a1 := congrArg (fun x => x.testBit i) e1
                have a2 := congrArg (fun x => x.testBit i) e2
                simp only [Nat.testBit_and, Nat.testBit_xor, hi, Bool.true_and, Nat.zero_testBit] at a0 a1 a2
                cases hM : M.testBit i with
                | true =>
                  rw [hM, Bool.true_and] at a0
                  rw [hk i hM]
                  revert a0
                  cases v'.testBit i <;> cases V.testBit i <;> simp
                | false =>
                  rw [hM] at a1 a2
                  have hmi : m.testBit i = true := by simpa using a1
                  rw [hc' i hmi]
                  simpa using a2
              rw [this] at hm; cases hm
          · exact ih h
        · exact ih h
    · exact ih h
theorem decCube_ok {m v : Nat} {pc : List (X × Bool)} {b : Bool} (hp : ∀ f ∈ pc, f.1.tt ρ = f.2) (h : decCube m v pc = some b) : cubeB ρ m v = b := by
  have hk := knownOf_ok hp
  unfold decCube at h
  split at h
  rename_i M V hMV
  rw [hMV] at hk
  dsimp only at hk
  split at h
  · rename_i hb
    obtain rfl := Option.some.inj h
    cases hc : cubeB ρ m v with
    | false => rfl
    | true =>
      have hne := Nat.ne_of_beq_eq_false hb
      exfalso
      apply hne
      apply Nat.eq_of_testBit_eq
      intro i
      simp only [Nat.testBit_and, Nat.testBit_xor, Nat.zero_testBit]
      cases h1 : m.testBit i with
      | false => simp
      | true => cases h2 : M.testBit i with
        | false => simp
        | true => rw [← cubeB_iff.1 hc i h1, hk i h2]; simp
  · rename_i hb0
    split at h
    · rename_i hb1
      obtain rfl := Option.some.inj h
      have e0 := Nat.eq_of_beq_eq_true hb0
      have e1 := Nat.eq_of_beq_eq_true hb1
      refine cubeB_iff.2 fun i hi => ?_
      have a1 := congrArg (fun x => x.testBit i) e1
      have a0 := congrArg (fun x => x.testBit i) e0
      simp only [Nat.testBit_and, Nat.testBit_xor, hi, Bool.true_and, Nat.zero_testBit] at a1 a0
      rw [a1, Bool.true_and] at a0
      rw [hk i a1]
      revert a0
      cases v.testBit i <;> cases V.testBit i <;> simp
    · split at h
      · rename_i hf
        obtain rfl := Option.some.inj h
        exact falseCube_ok hk hp hf
      · cases h
theorem setB_den {M V : Nat} (hk : ∀ i, M.testBit i = true → ρ.b i = V.testBit i) (b : B) : (setB M V b).den ρ = b.den ρ := by
  unfold setB
  split
  · rename_i i
    split
    · rename_i hi
      split
      · rename_i hv; simp only [B.den]; rw [hk i hi, hv]
      · rename_i hv; simp only [B.den]; rw [hk i hi, hv]
    · rfl
  · rename_i i
    split
    · rename_i hi
      split
      · rename_i hv; simp only [B.den]; rw [hk i hi, hv]; rfl
      · rename_i hv; simp only [B.den]; rw [hk i hi, hv]; rfl
    · rfl
  · rfl
theorem setsB_den {M V : Nat} (hk : ∀ i, M.testBit i = true → ρ.b i = V.testBit i) (t : B) : ∀ l : List B, bvDen ρ (setsB M V l) (setB M V t) = bvDen ρ l t
  | [] => by rw [setsB, bvDen_nil, bvDen_nil, setB_den hk]
  | b :: l => by rw [setsB, bvDen_cons, bvDen_cons, setB_den hk, setsB_den hk t l]
theorem simpX_den {pc : List (X × Bool)} (hp : ∀ f ∈ pc, f.1.tt ρ = f.2) (x : X) : (simpX pc x).den ρ = x.den ρ := by
  have hk := knownOf_ok hp
  unfold simpX
  split
  · split
    rename_i M V hMV
    rw [hMV] at hk
    split
    · rfl
    · rw [mkBv_den, setsB_den hk]
      rfl
  · rfl
end
end Go.Proofs.YtcachlbljjpjdaaGreatDoor
