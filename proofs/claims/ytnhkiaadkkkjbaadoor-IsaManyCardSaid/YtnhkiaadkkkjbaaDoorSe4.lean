/- Symbolic execution, part 4: expressions and tests mean what they say. No condition. -/
import Derived.Test.YtnhkiaadkkkjbaaDoorSeBv
namespace Go.Proofs.YtnhkiaadkkkjbaaDoor
open Go

theorem b2i_tt (b : Bool) : (b2i b != 0) = b := by cases b <;> rfl
theorem b2i_zero (b : Bool) : (b2i b == 0) = !b := by cases b <;> rfl
theorem wrap_wrap (k : IntKind) (n : Int) : k.wrap (k.wrap n) = k.wrap n := by
  unfold IntKind.wrap
  cases k <;> simp only [IntKind.bits, IntKind.signed, Bool.false_and, Bool.true_and, Bool.false_eq_true, if_false, decide_eq_true_eq, Int.reducePow, Nat.reduceSub, ge_iff_le] <;>
    first
    | omega
    | (split
       · rename_i h
         simp only [Int.sub_emod_right, Int.emod_emod, Int.emod_self, Int.sub_zero]
         rw [if_pos h]
       · rename_i h
         simp only [Int.emod_emod]
         rw [if_neg h])
section
variable (ρ : Env)
theorem mkWrap_den (k : IntKind) (a : X) : (mkWrap k a).den ρ = k.wrap (a.den ρ) := by
  unfold mkWrap
  split
  · simp [X.den]
  · split
    · rename_i j b h
      rw [← kindBeq_eq h]
      simp [X.den, wrap_wrap]
    · simp [X.den]
  · rw [mkBvW_den]; rfl
  · simp [X.den]
theorem mkAdd_den (k : IntKind) (a b : X) : (mkAdd k a b).den ρ = k.wrap (a.den ρ + b.den ρ) := by
  unfold mkAdd; split
  · simp [X.den]
  · refine bothB_elim (ρ := ρ) (Pr := fun x : X => x.den ρ = k.wrap (a.den ρ + b.den ρ)) (by simp [X.den]) fun l t m u ha hb => ?_
    refine optBv_den (by simp [X.den]) fun r s h => ?_
    rw [ha, hb, ← addB_den h]
    simp [b2i]
theorem mkSub_den (k : IntKind) (a b : X) : (mkSub k a b).den ρ = k.wrap (a.den ρ - b.den ρ) := by
  unfold mkSub; split
  · simp [X.den]
  · rename_i n _
    refine bothB_elim (ρ := ρ) (Pr := fun x : X => x.den ρ = k.wrap (a.den ρ - (X.lit n).den ρ)) (by simp [X.den]) fun l t m u ha hb => ?_
    refine optBv_den (by simp [X.den]) fun r s h => ?_
    rw [ha, ← addB_den h, ← hb]
    simp [b2i, X.den, Int.sub_eq_add_neg]
  · refine bothB_elim (ρ := ρ) (Pr := fun x : X => x.den ρ = k.wrap (a.den ρ - b.den ρ)) (by simp [X.den]) fun l t m u ha hb => ?_
    refine optBv_den (by simp [X.den]) fun r s h => ?_
    rw [ha, hb, ← subB_den h]
theorem mulBv_den {k : IntKind} {l : List B} {t : B} {n : Int} {d : X} (hd : d.den ρ = k.wrap (bvDen ρ l t * n)) : (mulBv k l t n d).den ρ = k.wrap (bvDen ρ l t * n) := by
  unfold mulBv
  split
  · rename_i n
    split
    · rename_i s hs
      rw [mkBvW_den, zerosB_den, pow2_eq hs]
      simp
    · exact hd
  · exact hd
theorem mkMul_den (k : IntKind) (a b : X) : (mkMul k a b).den ρ = k.wrap (a.den ρ * b.den ρ) := by
  unfold mkMul; split
  · simp [X.den]
  · exact mulBv_den ρ (by simp [X.den])
  · rename_i n l t
    rw [Int.mul_comm]
    exact mulBv_den ρ (n := n) (by simp [X.den, Int.mul_comm])
  · simp [X.den]
theorem quoBv_den {k : IntKind} {l : List B} {t : B} {n : Int} {d : X} (hd : d.den ρ = k.wrap ((bvDen ρ l t).tdiv n)) : (quoBv k l t n d).den ρ = k.wrap ((bvDen ρ l t).tdiv n) := by
  unfold quoBv
  split
  · rename_i n
    split
    · rename_i s hs
      rw [mkBvW_den, dropB_den, pow2_eq hs, Int.tdiv_eq_ediv_of_nonneg (bvDen_zero_nonneg l)]
      simp
    · exact hd
  · exact hd
theorem mkQuo_den (k : IntKind) (a b : X) : (mkQuo k a b).den ρ = k.wrap ((a.den ρ).tdiv (b.den ρ)) := by
  unfold mkQuo; split
  · simp [X.den]
  · exact quoBv_den ρ (by simp [X.den])
  · simp [X.den]
theorem remBv_den {l : List B} {t : B} {n : Int} {d : X} (hd : d.den ρ = (bvDen ρ l t).tmod n) : (remBv l t n d).den ρ = (bvDen ρ l t).tmod n := by
  unfold remBv
  split
  · rename_i n
    split
    · split
      · rename_i s hs
        rw [mkBv_den, clipU_den, ← bvDen_low, pow2_eq hs, Int.tmod_eq_emod_of_nonneg (bvDen_zero_nonneg l)]
        simp
      · exact hd
    · split
      · rename_i hn
        have hn' := Nat.eq_of_beq_eq_true hn
        subst hn'
        split
        · rename_i b l'
          rw [mkBv_den, bvDen_nil]
          have h1 := bvDen_one_neg (ρ := ρ) (b :: l')
          have h2 : (bvDen ρ (b :: l') .one).tmod 2 = -((-bvDen ρ (b :: l') .one).tmod 2) := by rw [Int.neg_tmod, Int.neg_neg]
          rw [show (Int.ofNat 2) = 2 from rfl, h2, Int.tmod_eq_emod_of_nonneg (by omega)]
          rw [bvDen_cons] at h1 ⊢
          rcases b2i_01 (b.den ρ) with h | h <;> omega
        · exact hd
      · exact hd
    · exact hd
  · exact hd
theorem mkRem_den (a b : X) : (mkRem a b).den ρ = (a.den ρ).tmod (b.den ρ) := by
  unfold mkRem; split
  · simp [X.den]
  · exact remBv_den ρ (by simp [X.den])
  · simp [X.den]
theorem mkBits_den (o : Nat) (k : IntKind) (a b : X) : (mkBits o k a b).den ρ = bitsI o k (a.den ρ) (b.den ρ) := by
  unfold mkBits; split
  · simp [X.den]
  · refine bothB_elim (ρ := ρ) (Pr := fun x : X => x.den ρ = bitsI o k (a.den ρ) (b.den ρ)) (by simp [X.den]) fun l t m u ha hb => ?_
    unfold optBv
    split
    · rename_i r s h
      rw [mkBvW_den, ha, hb, bits_zip k h]
    · simp [X.den]
theorem mkShl_den (k : IntKind) (a b : X) : (mkShl k a b).den ρ = shlI k (a.den ρ) (b.den ρ) := by
  unfold mkShl; split
  · simp [X.den]
  · rw [mkBvW_den, zerosB_den]; rfl
  · simp [X.den]
theorem mkShr_den (k : IntKind) (a b : X) : (mkShr k a b).den ρ = shrI k (a.den ρ) (b.den ρ) := by
  unfold mkShr; split
  · simp [X.den]
  · rw [mkBv_den, dropB_den]
    simp only [X.den, shrI]
    rw [Int.fdiv_eq_ediv_of_nonneg]
    exact Int.le_of_lt (Int.pow_pos (by omega))
  · simp [X.den]
theorem mkEq_den (a b : X) : (mkEq a b).den ρ = b2i (a.den ρ == b.den ρ) := by
  unfold mkEq
  split
  · simp only [X.den, intBeq_iff]
  · rename_i _ m _
    refine bothB_elim (ρ := ρ) (Pr := fun x : X => x.den ρ = b2i ((X.lit m).den ρ == b.den ρ)) (by simp only [X.den]; rw [Bool.beq_comm]) fun l t m' u ha hb => ?_
    have h := eq_bits (ρ := ρ) (l := l) (t := t) (m := m') (u := u) (d := .eq b (.lit m)) (by rw [← ha, ← hb]; simp only [X.den]; rw [Bool.beq_comm])
    rw [← ha, ← hb] at h
    exact h
  · refine bothB_elim (ρ := ρ) (Pr := fun x : X => x.den ρ = b2i (a.den ρ == b.den ρ)) ?_ fun l t m u ha hb => ?_
    · split
      · rename_i he
        rw [X.beq_eq he]
        simp [X.den, b2i]
      · simp only [X.den]
    have h := eq_bits (ρ := ρ) (l := l) (t := t) (m := m) (u := u) (d := .eq a b) (by rw [← ha, ← hb]; simp only [X.den])
    rw [← ha, ← hb] at h
    exact h
theorem mkEq_tt (a b : X) : (mkEq a b).tt ρ = (a.den ρ == b.den ρ) := by rw [X.tt, mkEq_den, b2i_tt]
theorem mkLt_den (a b : X) : (mkLt a b).den ρ = b2i (decide (a.den ρ < b.den ρ)) := by
  unfold mkLt; split
  · simp only [X.den]; congr
  · rename_i l t n
    refine ofGn_den (p := bvDen ρ l t < n) (by simp only [X.den]; rfl) fun h => ?_
    rw [(geB_is h).1]
    omega
  · rename_i n l t
    refine ofG_den (p := n < bvDen ρ l t) (by simp only [X.den]; rfl) fun h => ?_
    rw [(geB_is h).1]
    omega
  · simp only [X.den]
theorem mkLt_tt (a b : X) : (mkLt a b).tt ρ = decide (a.den ρ < b.den ρ) := by rw [X.tt, mkLt_den, b2i_tt]
theorem mkLe_den (a b : X) : (mkLe a b).den ρ = b2i (decide (a.den ρ ≤ b.den ρ)) := by
  unfold mkLe; split
  · simp only [X.den]; congr
  · rename_i l t n
    refine ofGn_den (p := bvDen ρ l t ≤ n) (by simp only [X.den]; rfl) fun h => ?_
    rw [(geB_is h).1]
    omega
  · rename_i n l t
    refine ofG_den (p := n ≤ bvDen ρ l t) (by simp only [X.den]; rfl) fun h => ?_
    rw [(geB_is h).1]
  · simp only [X.den]
theorem mkLe_tt (a b : X) : (mkLe a b).tt ρ = decide (a.den ρ ≤ b.den ρ) := by rw [X.tt, mkLe_den, b2i_tt]
theorem mkNot_tt (a : X) : (mkNot a).tt ρ = !a.tt ρ := by
  unfold mkNot X.tt; split
  · simp only [X.den, b2i_tt, intBeq_iff]; simp [bne]
  · simp only [X.den, b2i_tt]; simp [bne]
theorem mkNot_den (a : X) : (mkNot a).den ρ = b2i (!a.tt ρ) := by
  unfold mkNot X.tt; split <;> simp only [X.den, intBeq_iff] <;> simp [bne]
theorem mkIte_den (c a b : X) : (mkIte c a b).den ρ = if c.tt ρ then a.den ρ else b.den ρ := by
  unfold mkIte X.tt
  split
  · rename_i n
    simp only [X.den, intBeq_iff]
    by_cases h : n = 0 <;> simp [h]
  · split
    · rename_i h
      rw [X.beq_eq h]; simp
    · by_cases h : c.den ρ = 0 <;> simp [X.den, h]
theorem mkIte_sden (c a b : X) : (mkIte c a b).sden ρ = if c.tt ρ then a.sden ρ else b.sden ρ := by
  unfold mkIte X.tt
  split
  · rename_i n
    simp only [X.den, intBeq_iff]
    by_cases h : n = 0 <;> simp [h]
  · split
    · rename_i h
      rw [X.beq_eq h]; simp
    · by_cases h : c.den ρ = 0 <;> simp [X.sden, h]
theorem mkIte_tt (c a b : X) : (mkIte c a b).tt ρ = if c.tt ρ then a.tt ρ else b.tt ρ := by
  unfold X.tt
  rw [mkIte_den]
  unfold X.tt
  split <;> rfl
theorem mkAnd_tt (a b : X) : (mkAnd a b).tt ρ = (a.tt ρ && b.tt ρ) := by
  unfold mkAnd
  rw [mkIte_tt]
  cases a.tt ρ <;> simp [X.tt, X.den]
theorem mkIff_tt (a b : X) : (mkIff a b).tt ρ = (a.tt ρ == b.tt ρ) := by
  unfold mkIff
  split
  · rename_i m n
    simp only [X.tt, X.den, intBeq_iff, bne]
    cases (m == 0) <;> cases (n == 0) <;> rfl
  · rename_i _ m _
    have h : (X.lit m).tt ρ = !intBeq m 0 := by simp [X.tt, X.den, intBeq_iff, bne]
    rw [h]
    split
    · rename_i hm; rw [mkNot_tt, hm]; cases b.tt ρ <;> rfl
    · rename_i hm; rw [show intBeq m 0 = false by simpa using hm]; cases b.tt ρ <;> rfl
  · rename_i m _
    have h : (X.lit m).tt ρ = !intBeq m 0 := by simp [X.tt, X.den, intBeq_iff, bne]
    rw [h]
    split
    · rename_i hm; rw [mkNot_tt, hm]; cases a.tt ρ <;> rfl
    · rename_i hm; rw [show intBeq m 0 = false by simpa using hm]; cases a.tt ρ <;> rfl
  · split
    · rename_i he
      rw [X.beq_eq he]
      simp [X.tt, X.den]
    · rw [X.tt]
      simp only [X.den, mkNot_den, b2i_tt]
      cases a.tt ρ <;> cases b.tt ρ <;> rfl
theorem ofNat_mod (l : List Nat) : (l.map (· % 256)).map UInt8.ofNat = l.map UInt8.ofNat := by
  rw [List.map_map]
  apply List.map_congr_left
  intro n _
  apply UInt8.toNat.inj
  simp [UInt8.toNat_ofNat']
theorem ofNat_inj : ∀ (l m : List Nat), l.map UInt8.ofNat = m.map UInt8.ofNat ↔ l.map (· % 256) = m.map (· % 256)
  | [], [] => by simp
  | [], _ :: _ => by simp
  | _ :: _, [] => by simp
  | a :: l, b :: m => by
    simp only [List.map_cons, List.cons.injEq, ofNat_inj l m]
    constructor
    · rintro ⟨h1, h2⟩
      refine ⟨?_, h2⟩
      have := congrArg UInt8.toNat h1
      simpa [UInt8.toNat_ofNat'] using this
    · rintro ⟨h1, h2⟩
      refine ⟨?_, h2⟩
      apply UInt8.toNat.inj
      simpa [UInt8.toNat_ofNat'] using h1
theorem natsBeq_iff (l m : List Nat) : natsBeq l m = decide (l = m) := by
  by_cases h : l = m
  · subst h
    simp only [decide_true]
    induction l with
    | nil => rfl
    | cons a l ih => simp [natsBeq, ih]
  · simp only [h, decide_false]
    cases hb : natsBeq l m
    · rfl
    · exact absurd (natsBeq_eq hb) h
theorem nzText_ne (l : List UInt8) : nzText l ≠ [] := by
  unfold nzText
  split <;> simp
theorem nzText_len (l : List UInt8) : (nzText l).length ≤ 1000 := by
  unfold nzText
  split
  · simp
  · rename_i c m h
    have : (l.take 1000).length ≤ 1000 := by simp; omega
    rw [h] at this
    exact this
theorem nonE_ok : ∀ {x : X}, nonE x = true → x.sden ρ ≠ [] := by
  intro x
  induction x with
  | slit l =>
    intro h
    cases l with
    | nil => simp [nonE] at h
    | cons c l => simp [X.sden]
  | sfn f a _ => intro _; simp only [X.sden]; exact nzText_ne _
  | scat a b ia ib =>
    intro h
    unfold nonE at h
    split at h
    · rename_i ha
      simp [X.sden, ia ha]
    · simp [X.sden, ib h]
  | _ => intro h; simp [nonE] at h
theorem isNone_ok {x : X} (h : isNone x = true) : x.sden ρ = [] := by
  unfold isNone at h
  split at h
  · split at h
    · rfl
    · cases h
  · cases h
theorem seqRest_den (a b : X) : (seqRest a b).den ρ = b2i (a.sden ρ == b.sden ρ) := by
  unfold seqRest
  split
  · rename_i he
    rw [X.beq_eq he]
    simp [X.den, b2i]
  · split
    · rename_i h1 h2
      have e1 := isNone_ok ρ h1
      have e2 := nonE_ok ρ h2
      have : (a.sden ρ == b.sden ρ) = false := by rw [e1]; exact beq_eq_false_iff_ne.2 fun e => e2 e.symm
      rw [this]; rfl
    · split
      · rename_i h1 h2
        have e1 := isNone_ok ρ h2
        have e2 := nonE_ok ρ h1
        have : (a.sden ρ == b.sden ρ) = false := by rw [e1]; exact beq_eq_false_iff_ne.2 e2
        rw [this]; rfl
      · simp only [X.den]
theorem mkSeq_tt (a b : X) : (mkSeq a b).tt ρ = (a.sden ρ == b.sden ρ) := by
  unfold mkSeq X.tt
  split
  · rename_i l m
    simp only [X.den, b2i_tt, X.sden, natsBeq_iff]
    rw [Bool.eq_iff_iff]
    simp [← ofNat_inj]
  · rw [seqRest_den, b2i_tt]
theorem consLit_sden (l : List Nat) (b : X) : (consLit l b).sden ρ = l.map UInt8.ofNat ++ b.sden ρ := by
  unfold consLit
  split
  · simp
  · split <;> simp [X.sden]
theorem catEnd_sden (a b : X) : (catEnd a b).sden ρ = a.sden ρ ++ b.sden ρ := by
  unfold catEnd
  split
  · rename_i h
    rw [isNone_ok ρ h]; simp
  · simp [X.sden]
theorem mkCat_sden (a b : X) : (mkCat a b).sden ρ = a.sden ρ ++ b.sden ρ := by
  induction a generalizing b with
  | slit l => unfold mkCat; rw [consLit_sden]; simp [X.sden]
  | scat a c ia ic => unfold mkCat; rw [ia, ic]; simp [X.sden]
  | lit n => unfold mkCat; exact catEnd_sden ρ _ _
  | svar i => unfold mkCat; exact catEnd_sden ρ _ _
  | sfn f a _ => unfold mkCat; exact catEnd_sden ρ _ _
  | ite c x y _ _ _ => unfold mkCat; exact catEnd_sden ρ _ _
  | _ => unfold mkCat; simp [X.sden]
theorem lenB_ok : ∀ {x : X} {n : Nat}, lenB x = some n → (x.sden ρ).length ≤ n := by
  intro x
  induction x with
  | slit l =>
    intro n h
    obtain rfl := Option.some.inj (show some l.length = some n from h)
    simp [X.sden]
  | sfn f a _ =>
    intro n h
    obtain rfl := Option.some.inj (show some 1000 = some n from h)
    simp only [X.sden]
    exact nzText_len _
  | scat a b ia ib =>
    intro n h
    unfold lenB at h
    split at h
    · rename_i m k hm hk
      obtain rfl := Option.some.inj h
      have h1 := ia hm
      have h2 := ib hk
      simp only [X.sden, List.length_append]
      omega
    · cases h
  | _ => intro n h; simp [lenB] at h
theorem mkLen_den (a : X) : (mkLen a).den ρ = ((a.sden ρ).length : Int) := by
  unfold mkLen; split <;> simp [X.den, X.sden]
theorem shortX_ok {a : X} (h : (shortX a).tt ρ = true) : ((a.sden ρ).length : Int) ≤ 1000000000 := by
  have old : (mkLe (mkLen a) longStr).tt ρ = true → ((a.sden ρ).length : Int) ≤ 1000000000 := fun h => by
    rw [mkLe_tt] at h
    have := of_decide_eq_true h
    simpa [mkLen_den, longStr, X.den] using this
  unfold shortX at h
  split at h
  · rename_i n hn
    split at h
    · rename_i hb
      have h1 := lenB_ok ρ hn
      have h2 := Nat.le_of_ble_eq_true hb
      omega
    · exact old h
  · exact old h
end

/-! ### Facts -/
def PcOk (ρ : Env) (pc : PC) : Prop := ∀ f ∈ pc, f.1.tt ρ = f.2
theorem factOf_ok {ρ : Env} {x : X} : ∀ {pc : PC} {b : Bool}, PcOk ρ pc → factOf x pc = some b → x.tt ρ = b
  | [], _, _, h => by simp [factOf] at h
  | (y, c) :: pc, b, hp, h => by
    unfold factOf at h
    split at h
    · rename_i he
      simp only [Option.some.injEq] at h
      rw [← X.beq_eq he, ← h]
      exact hp (y, c) (by simp)
    · exact factOf_ok (fun f hf => hp f (by simp [hf])) h
theorem tt_eq {ρ : Env} (a b : X) : (X.eq a b).tt ρ = (a.den ρ == b.den ρ) := by simp only [X.tt, X.den, b2i_tt]
theorem tt_lt {ρ : Env} (a b : X) : (X.lt a b).tt ρ = decide (a.den ρ < b.den ρ) := by simp only [X.tt, X.den, b2i_tt]
theorem tt_le {ρ : Env} (a b : X) : (X.le a b).tt ρ = decide (a.den ρ ≤ b.den ρ) := by simp only [X.tt, X.den, b2i_tt]
theorem lt_of_tt {a b : Int} (h : decide (a < b) = true) : a < b := of_decide_eq_true h
theorem le_of_tt {a b : Int} (h : decide (a ≤ b) = true) : a ≤ b := of_decide_eq_true h
theorem not_lt_of_tt {a b : Int} (h : decide (a < b) = false) : b ≤ a := Int.not_lt.1 (of_decide_eq_false h)
theorem not_le_of_tt {a b : Int} (h : decide (a ≤ b) = false) : b < a := Int.not_le.1 (of_decide_eq_false h)
theorem loOf_ok {ρ : Env} {a : X} : ∀ {pc : PC} {n : Int}, PcOk ρ pc → loOf a pc = some n → n ≤ a.den ρ
  | [], _, _, h => by simp [loOf] at h
  | (x, b) :: pc, n, hp, h => by
    have hx := hp (x, b) (by simp)
    have ih : ∀ m, loOf a pc = some m → m ≤ a.den ρ := fun m hm => loOf_ok (fun f hf => hp f (by simp [hf])) hm
    have hw : ∀ k : Int, k ≤ a.den ρ → (match loOf a pc with | none => some k | some m => some (if decide (m < k) then k else m)) = some n → n ≤ a.den ρ := by
      intro k hk h
      cases hr : loOf a pc with
      | none => rw [hr] at h; simp at h; omega
      | some m =>
        rw [hr] at h
        have := ih m hr
        simp at h
        split at h <;> omega
    simp only at hx
    unfold loOf at h
    simp only at h
    split at h
    · split at h
      · rename_i he; rw [tt_eq, X.beq_eq he] at hx; exact hw _ (by simp [X.den] at hx; omega) h
      · exact ih n h
    · split at h
      · rename_i he; rw [tt_lt, X.beq_eq he] at hx; simp only [X.den] at hx; exact hw _ (by first | (have := lt_of_tt hx; omega) | (have := not_lt_of_tt hx; omega)) h
      · exact ih n h
    · split at h
      · rename_i he; rw [tt_le, X.beq_eq he] at hx; simp only [X.den] at hx; exact hw _ (by first | (have := le_of_tt hx; omega) | (have := not_le_of_tt hx; omega)) h
      · exact ih n h
    · split at h
      · rename_i he; rw [tt_lt, X.beq_eq he] at hx; simp only [X.den] at hx; exact hw _ (by first | (have := lt_of_tt hx; omega) | (have := not_lt_of_tt hx; omega)) h
      · exact ih n h
    · split at h
      · rename_i he; rw [tt_le, X.beq_eq he] at hx; simp only [X.den] at hx; exact hw _ (by first | (have := le_of_tt hx; omega) | (have := not_le_of_tt hx; omega)) h
      · exact ih n h
    · exact ih n h
theorem hiOf_ok {ρ : Env} {a : X} : ∀ {pc : PC} {n : Int}, PcOk ρ pc → hiOf a pc = some n → a.den ρ ≤ n
  | [], _, _, h => by simp [hiOf] at h
  | (x, b) :: pc, n, hp, h => by
    have hx := hp (x, b) (by simp)
    have ih : ∀ m, hiOf a pc = some m → a.den ρ ≤ m := fun m hm => hiOf_ok (fun f hf => hp f (by simp [hf])) hm
    have hw : ∀ k : Int, a.den ρ ≤ k → (match hiOf a pc with | none => some k | some m => some (if decide (k < m) then k else m)) = some n → a.den ρ ≤ n := by
      intro k hk h
      cases hr : hiOf a pc with
      | none => rw [hr] at h; simp at h; omega
      | some m =>
        rw [hr] at h
        have := ih m hr
        simp at h
        split at h <;> omega
    simp only at hx
    unfold hiOf at h
    simp only at h
    split at h
    · split at h
      · rename_i he; rw [tt_eq, X.beq_eq he] at hx; exact hw _ (by simp [X.den] at hx; omega) h
      · exact ih n h
    · split at h
      · rename_i he; rw [tt_lt, X.beq_eq he] at hx; simp only [X.den] at hx; exact hw _ (by first | (have := lt_of_tt hx; omega) | (have := not_lt_of_tt hx; omega)) h
      · exact ih n h
    · split at h
      · rename_i he; rw [tt_le, X.beq_eq he] at hx; simp only [X.den] at hx; exact hw _ (by first | (have := le_of_tt hx; omega) | (have := not_le_of_tt hx; omega)) h
      · exact ih n h
    · split at h
      · rename_i he; rw [tt_lt, X.beq_eq he] at hx; simp only [X.den] at hx; exact hw _ (by first | (have := lt_of_tt hx; omega) | (have := not_lt_of_tt hx; omega)) h
      · exact ih n h
    · split at h
      · rename_i he; rw [tt_le, X.beq_eq he] at hx; simp only [X.den] at hx; exact hw _ (by first | (have := le_of_tt hx; omega) | (have := not_le_of_tt hx; omega)) h
      · exact ih n h
    · exact ih n h
theorem bumpUp_ok {ρ : Env} {a : X} {pc : PC} (hp : PcOk ρ pc) : ∀ (f : Nat) (n : Int), n ≤ a.den ρ → bumpUp a pc f n ≤ a.den ρ
  | 0, n, h => h
  | f + 1, n, h => by
    simp only [bumpUp]
    split
    · rename_i hf
      have := factOf_ok hp hf
      rw [tt_eq] at this
      simp [X.den] at this
      exact bumpUp_ok hp f (n + 1) (by omega)
    · exact h
theorem bumpDown_ok {ρ : Env} {a : X} {pc : PC} (hp : PcOk ρ pc) : ∀ (f : Nat) (n : Int), a.den ρ ≤ n → a.den ρ ≤ bumpDown a pc f n
  | 0, n, h => h
  | f + 1, n, h => by
    simp only [bumpDown]
    split
    · rename_i hf
      have := factOf_ok hp hf
      rw [tt_eq] at this
      simp [X.den] at this
      exact bumpDown_ok hp f (n - 1) (by omega)
    · exact h
theorem loB_ok {ρ : Env} {a : X} {pc : PC} {n : Int} (hp : PcOk ρ pc) (h : loB a pc = some n) : n ≤ a.den ρ := by
  unfold loB at h
  split at h
  · rename_i m hm
    simp only [Option.some.injEq] at h
    rw [← h]
    exact bumpUp_ok hp _ _ (loOf_ok hp hm)
  · simp at h
theorem hiB_ok {ρ : Env} {a : X} {pc : PC} {n : Int} (hp : PcOk ρ pc) (h : hiB a pc = some n) : a.den ρ ≤ n := by
  unfold hiB at h
  split at h
  · rename_i m hm
    simp only [Option.some.injEq] at h
    rw [← h]
    exact bumpDown_ok hp _ _ (hiOf_ok hp hm)
  · simp at h
theorem optLt_lo {ρ : Env} {a : X} {pc : PC} {n : Int} (hp : PcOk ρ pc) (h : optLt (some n) (loB a pc) = true) : n < a.den ρ := by
  unfold optLt at h
  split at h
  · rename_i m k e1 e2
    simp at h e1
    have := loB_ok hp e2
    omega
  · simp at h
theorem optLt_hi {ρ : Env} {a : X} {pc : PC} {n : Int} (hp : PcOk ρ pc) (h : optLt (hiB a pc) (some n) = true) : a.den ρ < n := by
  unfold optLt at h
  split at h
  · rename_i m k e1 e2
    simp at h e2
    have := hiB_ok hp e1
    omega
  · simp at h
theorem decAtom_ok {ρ : Env} {pc : PC} {x : X} {b : Bool} (hp : PcOk ρ pc) (h : decAtom pc x = some b) : x.tt ρ = b := by
  unfold decAtom at h
  split at h
  · rename_i c hc
    simp only [Option.some.injEq] at h
    rw [← h]; exact factOf_ok hp hc
  · split at h
    · rw [X.tt]
      simp only [X.den, b2i_tt]
      exact decCube_ok hp h
    · simp only at h
      split at h
      · rename_i hc
        simp only [Option.some.injEq] at h
        rw [tt_eq, ← h]
        rw [Bool.or_eq_true] at hc
        rcases hc with hc | hc
        · have h1 := optLt_lo hp hc
          simp [X.den]; omega
        · have h1 := optLt_hi hp hc
          simp [X.den]; omega
      · split at h
        · rename_i l u e1 e2
          split at h
          · rename_i hb
            simp only [Option.some.injEq] at h
            rw [Bool.and_eq_true] at hb
            have h1 := loB_ok hp e1
            have h2 := hiB_ok hp e2
            have h3 := intBeq_eq hb.1
            have h4 := intBeq_eq hb.2
            rw [tt_eq, ← h]
            simp [X.den]; omega
          · simp at h
        · simp at h
    · simp only at h
      split at h
      · rename_i hc
        have h1 := optLt_hi hp hc
        simp only [Option.some.injEq] at h
        rw [tt_lt, ← h]; simp only [X.den]; first | (exact decide_eq_true (by omega)) | (exact decide_eq_false (by omega))
      · split at h
        · rename_i hc
          have h1 := optLt_lo hp hc
          simp only [Option.some.injEq] at h
          rw [tt_lt, ← h]; simp only [X.den]; first | (exact decide_eq_true (by omega)) | (exact decide_eq_false (by omega))
        · simp at h
    · simp only at h
      split at h
      · rename_i hc
        have h1 := optLt_hi hp hc
        simp only [Option.some.injEq] at h
        rw [tt_le, ← h]; simp only [X.den]; first | (exact decide_eq_true (by omega)) | (exact decide_eq_false (by omega))
      · split at h
        · rename_i hc
          have h1 := optLt_lo hp hc
          simp only [Option.some.injEq] at h
          rw [tt_le, ← h]; simp only [X.den]; first | (exact decide_eq_true (by omega)) | (exact decide_eq_false (by omega))
        · simp at h
    · simp only at h
      split at h
      · rename_i hc
        have h1 := optLt_lo hp hc
        simp only [Option.some.injEq] at h
        rw [tt_lt, ← h]; simp only [X.den]; first | (exact decide_eq_true (by omega)) | (exact decide_eq_false (by omega))
      · split at h
        · rename_i hc
          have h1 := optLt_hi hp hc
          simp only [Option.some.injEq] at h
          rw [tt_lt, ← h]; simp only [X.den]; first | (exact decide_eq_true (by omega)) | (exact decide_eq_false (by omega))
        · simp at h
    · simp only at h
      split at h
      · rename_i hc
        have h1 := optLt_lo hp hc
        simp only [Option.some.injEq] at h
        rw [tt_le, ← h]; simp only [X.den]; first | (exact decide_eq_true (by omega)) | (exact decide_eq_false (by omega))
      · split at h
        · rename_i hc
          have h1 := optLt_hi hp hc
          simp only [Option.some.injEq] at h
          rw [tt_le, ← h]; simp only [X.den]; first | (exact decide_eq_true (by omega)) | (exact decide_eq_false (by omega))
        · simp at h
    · simp at h
theorem sel_bind {α β : Type} {ρ : Env} {r : R α} {k : α → R β} {b : β} (h : (r.bind k).sel ρ = some b) : ∃ a, r.sel ρ = some a ∧ (k a).sel ρ = some b := by
  induction r with
  | ok a => exact ⟨a, rfl, h⟩
  | br c t f it jf =>
    simp only [R.bind, R.sel] at h ⊢
    split at h
    · rename_i hc; simp only [hc, if_true]; exact it h
    · rename_i hc; simp only [hc, if_false, Bool.false_eq_true]; exact jf h
  | stuck s => simp [R.bind, R.sel] at h
/-- The same state but for facts. -/
structure Like (ρ : Env) (st st' : St) : Prop where
  h : st'.h = st.h
  n : st'.n = st.n
  pc : PcOk ρ st'.pc
theorem Like.refl {ρ : Env} {st : St} (h : PcOk ρ st.pc) : Like ρ st st := ⟨rfl, rfl, h⟩
theorem Like.trans {ρ : Env} {a b c : St} (h : Like ρ a b) (h' : Like ρ b c) : Like ρ a c := ⟨h'.h.trans h.h, h'.n.trans h.n, h'.pc⟩
theorem split_atom {α : Type} {ρ : Env} {st : St} {x : X} {k : St → Bool → R α} {a : α} (hp : PcOk ρ st.pc)
    (h : (match decAtom st.pc x with
      | some b => k st b
      | none => R.br x (k { st with pc := (x, true) :: st.pc } true) (k { st with pc := (x, false) :: st.pc } false)).sel ρ = some a) :
    ∃ st', Like ρ st st' ∧ (k st' (x.tt ρ)).sel ρ = some a := by
  cases hd : decAtom st.pc x with
  | some b =>
    rw [hd] at h
    exact ⟨st, .refl hp, by rw [decAtom_ok hp hd]; exact h⟩
  | none =>
    rw [hd] at h
    simp only [R.sel] at h
    cases hx : x.tt ρ with
    | true =>
      rw [hx, if_pos rfl] at h
      exact ⟨{ st with pc := (x, true) :: st.pc }, ⟨rfl, rfl, fun f hf => (List.mem_cons.1 hf).elim (fun e => by rw [e]; exact hx) (hp f)⟩, h⟩
    | false =>
      rw [hx, if_neg (by simp)] at h
      exact ⟨{ st with pc := (x, false) :: st.pc }, ⟨rfl, rfl, fun f hf => (List.mem_cons.1 hf).elim (fun e => by rw [e]; exact hx) (hp f)⟩, h⟩
theorem split_sel {α : Type} {ρ : Env} {x : X} : ∀ {st : St} {k : St → Bool → R α} {a : α}, PcOk ρ st.pc → (split st x k).sel ρ = some a →
    ∃ st', Like ρ st st' ∧ (k st' (x.tt ρ)).sel ρ = some a := by
  induction x with
  | lit n =>
    intro st k a hp h
    refine ⟨st, .refl hp, ?_⟩
    simp only [split] at h
    rw [show (X.lit n).tt ρ = !intBeq n 0 from by simp [X.tt, X.den, intBeq_iff, bne]]
    exact h
  | not y ih =>
    intro st k a hp h
    simp only [split] at h
    obtain ⟨st', hl, h'⟩ := ih (k := fun st b => k st !b) hp h
    exact ⟨st', hl, by rw [show (X.not y).tt ρ = !y.tt ρ from by simp only [X.tt, X.den, bne, b2i_zero, Bool.not_not]]; exact h'⟩
  | ite c a b ic ia ib =>
    intro st k r hp h
    simp only [split] at h
    obtain ⟨st', hl, h'⟩ := ic (k := fun st t => match t with
      | true => split st a k
      | false => split st b k) hp h
    have e : (X.ite c a b).tt ρ = if c.tt ρ then a.tt ρ else b.tt ρ := by
      simp only [X.tt, X.den]
      by_cases hc : c.den ρ = 0 <;> simp [hc]
    cases hc : c.tt ρ with
    | true =>
      rw [hc] at h'
      obtain ⟨st2, hl2, h2⟩ := ia hl.pc h'
      exact ⟨st2, hl.trans hl2, by rw [e, hc]; exact h2⟩
    | false =>
      rw [hc] at h'
      obtain ⟨st2, hl2, h2⟩ := ib hl.pc h'
      exact ⟨st2, hl.trans hl2, by rw [e, hc]; exact h2⟩
  | _ =>
    intro st k a hp h
    simp only [split] at h
    exact split_atom hp h
end Go.Proofs.YtnhkiaadkkkjbaaDoor
