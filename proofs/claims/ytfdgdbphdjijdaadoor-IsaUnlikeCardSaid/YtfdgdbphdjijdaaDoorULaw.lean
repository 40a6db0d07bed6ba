/- IsaUnlike: unlike instructions have unlike texts: numerals, names, parts. IsaUnlike: a call has one answer. No condition. -/
import Derived.Lib.ItoaMem
import Derived.Calls
namespace Go.Proofs.YtfdgdbphdjijdaaDoor
open Go
def isDig (c : UInt8) : Bool := Nat.ble 48 c.toNat && Nat.ble c.toNat 57
theorem dig_lt {d : Nat} (h : d < 10) : isDig (UInt8.ofNat (48 + d)) = true := by
 have e : (UInt8.ofNat (48 + d)).toNat = 48 + d := by simp [UInt8.toNat_ofNat']; omega
 simp only [isDig, e, Bool.and_eq_true]
 exact ⟨Nat.ble_eq_true_of_le (by omega), Nat.ble_eq_true_of_le (by omega)⟩
theorem dec_dig (u : Nat) : ∀ c ∈ Lib.decDigits u, isDig c = true := by
 induction u using Nat.strongRecOn with
 | _ u ih =>
  intro c hc
  rw [Lib.decDigits] at hc
  split at hc
  ·rename_i h
   obtain rfl := List.mem_singleton.1 hc
   exact dig_lt h
  ·rename_i h
   rcases List.mem_append.1 hc with hc | hc
   ·exact ih (u / 10) (by omega) c hc
   ·obtain rfl := List.mem_singleton.1 hc
    exact dig_lt (Nat.mod_lt _ (by decide))
theorem dig_inj {a b : Nat} (ha : a < 10) (hb : b < 10) (h : UInt8.ofNat (48 + a) = UInt8.ofNat (48 + b)) : a = b := by
 have := congrArg UInt8.toNat h
 simp only [UInt8.toNat_ofNat'] at this
 omega
theorem dec_inj : ∀ (u v : Nat), Lib.decDigits u = Lib.decDigits v → u = v := by
 intro u
 induction u using Nat.strongRecOn with
 | _ u ih =>
  intro v h
  have hl := congrArg List.length h
  rw [Lib.decDigits_length, Lib.decDigits_length] at hl
  by_cases hu : u < 10
  ·by_cases hv : v < 10
   ·have eu : Lib.decDigits u = [UInt8.ofNat (48 + u)] := by rw [Lib.decDigits, dif_pos hu]
    have ev : Lib.decDigits v = [UInt8.ofNat (48 + v)] := by rw [Lib.decDigits, dif_pos hv]
    rw [eu, ev] at h
    exact dig_inj hu hv (List.cons.inj h).1
   ·rw [Lib.nDigits_small hu, Lib.nDigits_big hv] at hl
    have := Lib.nDigits_pos (v / 10)
    omega
  ·by_cases hv : v < 10
   ·rw [Lib.nDigits_small hv, Lib.nDigits_big hu] at hl
    have := Lib.nDigits_pos (u / 10)
    omega
   ·have eu : Lib.decDigits u = Lib.decDigits (u / 10) ++ [UInt8.ofNat (48 + u % 10)] := by rw [Lib.decDigits, dif_neg hu]
    have ev : Lib.decDigits v = Lib.decDigits (v / 10) ++ [UInt8.ofNat (48 + v % 10)] := by rw [Lib.decDigits, dif_neg hv]
    rw [eu, ev] at h
    obtain ⟨h1, h2⟩ := List.append_inj' h rfl
    have e1 := ih (u / 10) (by omega) (v / 10) h1
    have e2 := dig_inj (Nat.mod_lt u (by decide)) (Nat.mod_lt v (by decide)) (List.cons.inj h2).1
    omega
def noDig : List UInt8 → Bool
 | [] => true
 | c :: _ => !isDig c
theorem span_inj {a b s t : List UInt8} (ha : ∀ c ∈ a, isDig c = true) (hb : ∀ c ∈ b, isDig c = true) (hs : noDig s = true) (ht : noDig t = true) (h : a ++ s = b ++ t) : a = b ∧ s = t := by
 induction a generalizing b with
 | nil =>
  cases b with
  | nil => exact ⟨rfl, h⟩
  | cons c b =>
   have hc := hb c (List.mem_cons_self ..)
   rw [List.nil_append, List.cons_append] at h
   subst h
   simp [noDig, hc] at hs
 | cons c a ih =>
  cases b with
  | nil =>
   have hc := ha c (List.mem_cons_self ..)
   rw [List.nil_append, List.cons_append] at h
   subst h
   simp [noDig, hc] at ht
  | cons d b =>
   obtain ⟨rfl, h'⟩ := List.cons.inj (show c :: (a ++ s) = d :: (b ++ t) from h)
   obtain ⟨rfl, rfl⟩ := ih (fun x hx => ha x (List.mem_cons_of_mem _ hx)) (fun x hx => hb x (List.mem_cons_of_mem _ hx)) h'
   exact ⟨rfl, rfl⟩
theorem itoa_inj {m n : Int} {s t : List UInt8} (hs : noDig s = true) (ht : noDig t = true) (h : Lib.itoa m ++ s = Lib.itoa n ++ t) : m = n ∧ s = t := by
 have first : ∀ u : Nat, ∃ c l, Lib.decDigits u = c :: l ∧ isDig c = true := by
  intro u
  cases e : Lib.decDigits u with
  | nil =>
   have := congrArg List.length e
   rw [Lib.decDigits_length] at this
   have := Lib.nDigits_pos u
   simp at *
   omega
  | cons c l => exact ⟨c, l, rfl, dec_dig u c (by rw [e]; exact List.mem_cons_self ..)⟩
 have minus : isDig 45 = false := rfl
 unfold Lib.itoa at h
 by_cases h1 : m < 0 <;> by_cases h2 : n < 0
 ·rw [if_pos h1, if_pos h2] at h
  obtain ⟨e, e2⟩ := span_inj (dec_dig _) (dec_dig _) hs ht (List.cons.inj h).2
  have := dec_inj _ _ e
  exact ⟨by omega, e2⟩
 ·rw [if_pos h1, if_neg h2] at h
  obtain ⟨c, l, e, hc⟩ := first n.toNat
  rw [e, List.cons_append, List.cons_append] at h
  rw [← (List.cons.inj h).1, minus] at hc
  cases hc
 ·rw [if_neg h1, if_pos h2] at h
  obtain ⟨c, l, e, hc⟩ := first m.toNat
  rw [e, List.cons_append, List.cons_append] at h
  rw [(List.cons.inj h).1, minus] at hc
  cases hc
 ·rw [if_neg h1, if_neg h2] at h
  obtain ⟨e, e2⟩ := span_inj (dec_dig _) (dec_dig _) hs ht h
  have := dec_inj _ _ e
  exact ⟨by omega, e2⟩
def nameOf : Nat → List UInt8
 | 1 => [108, 117, 105]
 | 2 => [97, 117, 105, 112, 99]
 | 3 => [106, 97, 108]
 | 4 => [106, 97, 108, 114]
 | 5 => [98, 101, 113]
 | 6 => [98, 110, 101]
 | 7 => [98, 108, 116]
 | 8 => [98, 103, 101]
 | 9 => [98, 108, 116, 117]
 | 10 => [98, 103, 101, 117]
 | 11 => [108, 98]
 | 12 => [108, 104]
 | 13 => [108, 119]
 | 14 => [108, 98, 117]
 | 15 => [108, 104, 117]
 | 16 => [115, 98]
 | 17 => [115, 104]
 | 18 => [115, 119]
 | 19 => [97, 100, 100, 105]
 | 20 => [115, 108, 116, 105]
 | 21 => [115, 108, 116, 105, 117]
 | 22 => [120, 111, 114, 105]
 | 23 => [111, 114, 105]
 | 24 => [97, 110, 100, 105]
 | 25 => [115, 108, 108, 105]
 | 26 => [115, 114, 108, 105]
 | 27 => [115, 114, 97, 105]
 | 28 => [97, 100, 100]
 | 29 => [115, 117, 98]
 | 30 => [115, 108, 108]
 | 31 => [115, 108, 116]
 | 32 => [115, 108, 116, 117]
 | 33 => [120, 111, 114]
 | 34 => [115, 114, 108]
 | 35 => [115, 114, 97]
 | 36 => [111, 114]
 | 37 => [97, 110, 100]
 | 38 => [102, 101, 110, 99, 101]
 | 39 => [101, 99, 97, 108, 108]
 | 40 => [109, 117, 108]
 | 41 => [109, 117, 108, 104]
 | 42 => [109, 117, 108, 104, 115, 117]
 | 43 => [109, 117, 108, 104, 117]
 | 44 => [100, 105, 118]
 | 45 => [100, 105, 118, 117]
 | 46 => [114, 101, 109]
 | 47 => [114, 101, 109, 117]
 | 48 => [108, 114]
 | 49 => [115, 99]
 | 50 => [97, 109, 111, 115, 119, 97, 112]
 | 51 => [97, 109, 111, 97, 100, 100]
 | 52 => [97, 109, 111, 120, 111, 114]
 | 53 => [97, 109, 111, 97, 110, 100]
 | 54 => [97, 109, 111, 111, 114]
 | 55 => [97, 109, 111, 109, 105, 110]
 | 56 => [97, 109, 111, 109, 97, 120]
 | 57 => [97, 109, 111, 109, 105, 110, 117]
 | 58 => [97, 109, 111, 109, 97, 120, 117]
 | 59 => [104, 97, 114, 116, 105, 100]
 | _ => []
def formOf : Nat → Nat
 | 1 => 0
 | 2 => 0
 | 3 => 1
 | 4 => 2
 | 5 => 3
 | 6 => 3
 | 7 => 3
 | 8 => 3
 | 9 => 3
 | 10 => 3
 | 11 => 2
 | 12 => 2
 | 13 => 2
 | 14 => 2
 | 15 => 2
 | 16 => 4
 | 17 => 4
 | 18 => 4
 | 19 => 5
 | 20 => 5
 | 21 => 5
 | 22 => 5
 | 23 => 5
 | 24 => 5
 | 25 => 5
 | 26 => 5
 | 27 => 5
 | 28 => 6
 | 29 => 6
 | 30 => 6
 | 31 => 6
 | 32 => 6
 | 33 => 6
 | 34 => 6
 | 35 => 6
 | 36 => 6
 | 37 => 6
 | 38 => 7
 | 39 => 8
 | 40 => 6
 | 41 => 6
 | 42 => 6
 | 43 => 6
 | 44 => 6
 | 45 => 6
 | 46 => 6
 | 47 => 6
 | 48 => 9
 | 49 => 10
 | 50 => 10
 | 51 => 10
 | 52 => 10
 | 53 => 10
 | 54 => 10
 | 55 => 10
 | 56 => 10
 | 57 => 10
 | 58 => 10
 | 59 => 11
 | _ => 12
def sufOf : Bool → Bool → List UInt8
 | true, true => [46, 97, 113, 114, 108]
 | true, false => [46, 97, 113]
 | false, true => [46, 114, 108]
 | false, false => []
def sgn (n : Int) : Int := if n < 2147483648 then n else n - 4294967296
def xT (z : Int) : List UInt8 := 120 :: Lib.itoa z
def told (rd r1 r2 n : Int) : Nat → List UInt8
 | 0 => xT rd ++ 44 :: 32 :: (Lib.itoa (n / 4096) ++ [])
 | 1 => xT rd ++ 44 :: 32 :: (Lib.itoa (sgn n) ++ [])
 | 2 => xT rd ++ 44 :: 32 :: (Lib.itoa (sgn n) ++ 40 :: (xT r1 ++ [41]))
 | 3 => xT r1 ++ 44 :: 32 :: (xT r2 ++ 44 :: 32 :: (Lib.itoa (sgn n) ++ []))
 | 4 => xT r2 ++ 44 :: 32 :: (Lib.itoa (sgn n) ++ 40 :: (xT r1 ++ [41]))
 | 5 => xT rd ++ 44 :: 32 :: (xT r1 ++ 44 :: 32 :: (Lib.itoa (sgn n) ++ []))
 | 6 => xT rd ++ 44 :: 32 :: (xT r1 ++ 44 :: 32 :: (xT r2 ++ []))
 | 7 => Lib.itoa (sgn n) ++ []
 | 8 => []
 | 9 => xT rd ++ 44 :: 32 :: 40 :: (xT r1 ++ [41])
 | 10 => xT rd ++ 44 :: 32 :: (xT r2 ++ 44 :: 32 :: 40 :: (xT r1 ++ [41]))
 | _ => xT rd ++ []
def tailOf (rd r1 r2 n : Int) (f : Nat) : List UInt8 := if f = 8 then [] else 32 :: told rd r1 r2 n f
def textOf (k : Nat) (aq rl : Bool) (rd r1 r2 n : Int) : List UInt8 := nameOf k ++ (sufOf aq rl ++ tailOf rd r1 r2 n (formOf k))
structure Told (rd r1 r2 n : Int) (f : Nat) : Prop where
 lo : 0 ≤ n
 hi : n < 4294967296
 rd : (f = 3 ∨ f = 4 ∨ f = 7 ∨ f = 8) → rd = 0
 r1 : (f = 0 ∨ f = 1 ∨ f = 7 ∨ f = 8 ∨ f = 11) → r1 = 0
 r2 : (f = 3 ∨ f = 4 ∨ f = 6 ∨ f = 10) ∨ r2 = 0
 im : (6 ≤ f ∧ f ≠ 7) → n = 0
 u : f = 0 → n % 4096 = 0
theorem sgn_inj {m n : Int} (hm : 0 ≤ m ∧ m < 4294967296) (hn : 0 ≤ n ∧ n < 4294967296) (h : sgn m = sgn n) : m = n := by
 unfold sgn at h
 split at h <;> split at h <;> omega
theorem xT_inj {a b : Int} {s t : List UInt8} (hs : noDig s = true) (ht : noDig t = true) (h : xT a ++ s = xT b ++ t) : a = b ∧ s = t := itoa_inj hs ht (List.cons.inj h).2
theorem two_inj {a b : UInt8} {s t : List UInt8} (h : a :: b :: s = a :: b :: t) : s = t := (List.cons.inj (List.cons.inj h).2).2
theorem told_inj {rd r1 r2 n rd' r1' r2' n' : Int} {f : Nat} (hf : f < 12) (a : Told rd r1 r2 n f) (b : Told rd' r1' r2' n' f) (h : told rd r1 r2 n f = told rd' r1' r2' n' f) : rd = rd' ∧ r1 = r1' ∧ r2 = r2' ∧ n = n' := by
 have za : 0 ≤ n ∧ n < 4294967296 := ⟨a.lo, a.hi⟩
 have zb : 0 ≤ n' ∧ n' < 4294967296 := ⟨b.lo, b.hi⟩
 obtain ⟨_, _, a1, a2, a3, a4, a5⟩ := a
 obtain ⟨_, _, b1, b2, b3, b4, b5⟩ := b
 match f, hf with
 | 0, _ =>
  obtain ⟨e1, h⟩ := xT_inj rfl rfl h
  obtain ⟨e2, _⟩ := itoa_inj rfl rfl (two_inj h)
  exact ⟨e1, by omega, by omega, by omega⟩
 | 1, _ =>
  obtain ⟨e1, h⟩ := xT_inj rfl rfl h
  obtain ⟨e2, _⟩ := itoa_inj rfl rfl (two_inj h)
  exact ⟨e1, by omega, by omega, sgn_inj za zb e2⟩
 | 2, _ =>
  obtain ⟨e1, h⟩ := xT_inj rfl rfl h
  obtain ⟨e2, h⟩ := itoa_inj rfl rfl (two_inj h)
  obtain ⟨e3, _⟩ := xT_inj rfl rfl (List.cons.inj h).2
  exact ⟨e1, e3, by omega, sgn_inj za zb e2⟩
 | 3, _ =>
  obtain ⟨e1, h⟩ := xT_inj rfl rfl h
  obtain ⟨e2, h⟩ := xT_inj rfl rfl (two_inj h)
  obtain ⟨e3, _⟩ := itoa_inj rfl rfl (two_inj h)
  exact ⟨by omega, e1, e2, sgn_inj za zb e3⟩
 | 4, _ =>
  obtain ⟨e1, h⟩ := xT_inj rfl rfl h
  obtain ⟨e2, h⟩ := itoa_inj rfl rfl (two_inj h)
  obtain ⟨e3, _⟩ := xT_inj rfl rfl (List.cons.inj h).2
  exact ⟨by omega, e3, e1, sgn_inj za zb e2⟩
 | 5, _ =>
  obtain ⟨e1, h⟩ := xT_inj rfl rfl h
  obtain ⟨e2, h⟩ := xT_inj rfl rfl (two_inj h)
  obtain ⟨e3, _⟩ := itoa_inj rfl rfl (two_inj h)
  exact ⟨e1, e2, by omega, sgn_inj za zb e3⟩
 | 6, _ =>
  obtain ⟨e1, h⟩ := xT_inj rfl rfl h
  obtain ⟨e2, h⟩ := xT_inj rfl rfl (two_inj h)
  obtain ⟨e3, _⟩ := xT_inj rfl rfl (two_inj h)
  exact ⟨e1, e2, e3, by omega⟩
 | 7, _ =>
  obtain ⟨e1, _⟩ := itoa_inj rfl rfl h
  exact ⟨by omega, by omega, by omega, sgn_inj za zb e1⟩
 | 8, _ => exact ⟨by omega, by omega, by omega, by omega⟩
 | 9, _ =>
  obtain ⟨e1, h⟩ := xT_inj rfl rfl h
  obtain ⟨e2, _⟩ := xT_inj rfl rfl (List.cons.inj (two_inj h)).2
  exact ⟨e1, e2, by omega, by omega⟩
 | 10, _ =>
  obtain ⟨e1, h⟩ := xT_inj rfl rfl h
  obtain ⟨e2, h⟩ := xT_inj rfl rfl (two_inj h)
  obtain ⟨e3, _⟩ := xT_inj rfl rfl (List.cons.inj (two_inj h)).2
  exact ⟨e1, e3, e2, by omega⟩
 | 11, _ =>
  obtain ⟨e1, _⟩ := xT_inj rfl rfl h
  exact ⟨e1, by omega, by omega, by omega⟩
def isLet (c : UInt8) : Bool := Nat.ble 97 c.toNat
theorem name_let : ∀ i : Fin 60, (nameOf i.val).all isLet = true := by decide +kernel
theorem name_inj : ∀ i j : Fin 60, 1 ≤ i.val → 1 ≤ j.val → nameOf i.val = nameOf j.val → i = j := by decide +kernel
theorem form_lt : ∀ i : Fin 60, 1 ≤ i.val → formOf i.val < 12 := by decide +kernel
def noLet : List UInt8 → Bool
 | [] => true
 | c :: _ => !isLet c
theorem let_inj {a b s t : List UInt8} (ha : a.all isLet = true) (hb : b.all isLet = true) (hs : noLet s = true) (ht : noLet t = true) (h : a ++ s = b ++ t) : a = b ∧ s = t := by
 induction a generalizing b with
 | nil =>
  cases b with
  | nil => exact ⟨rfl, h⟩
  | cons c b =>
   rw [List.all_cons, Bool.and_eq_true] at hb
   rw [List.nil_append, List.cons_append] at h
   subst h
   simp [noLet, hb.1] at hs
 | cons c a ih =>
  rw [List.all_cons, Bool.and_eq_true] at ha
  cases b with
  | nil =>
   rw [List.nil_append, List.cons_append] at h
   subst h
   simp [noLet, ha.1] at ht
  | cons d b =>
   rw [List.all_cons, Bool.and_eq_true] at hb
   obtain ⟨rfl, h'⟩ := List.cons.inj (show c :: (a ++ s) = d :: (b ++ t) from h)
   obtain ⟨rfl, rfl⟩ := ih ha.2 hb.2 h'
   exact ⟨rfl, rfl⟩
theorem tail_let (aq rl : Bool) (rd r1 r2 n : Int) (f : Nat) : noLet (sufOf aq rl ++ tailOf rd r1 r2 n f) = true := by
 unfold tailOf
 cases aq <;> cases rl <;> split <;> rfl
theorem suf_inj {aq rl aq' rl' : Bool} {rd r1 r2 n rd' r1' r2' n' : Int} {f : Nat} (h : sufOf aq rl ++ tailOf rd r1 r2 n f = sufOf aq' rl' ++ tailOf rd' r1' r2' n' f) : aq = aq' ∧ rl = rl' ∧ tailOf rd r1 r2 n f = tailOf rd' r1' r2' n' f := by
 unfold tailOf at h ⊢
 by_cases e : f = 8
 ·simp only [if_pos e] at h ⊢
  revert h
  cases aq <;> cases rl <;> cases aq' <;> cases rl' <;> simp [sufOf]
 ·simp only [if_neg e] at h ⊢
  revert h
  cases aq <;> cases rl <;> cases aq' <;> cases rl' <;> simp [sufOf]
theorem text_inj {k k' : Nat} {aq rl aq' rl' : Bool} {rd r1 r2 n rd' r1' r2' n' : Int} (hk : 1 ≤ k ∧ k ≤ 59) (hk' : 1 ≤ k' ∧ k' ≤ 59) (a : Told rd r1 r2 n (formOf k)) (b : Told rd' r1' r2' n' (formOf k')) (h : textOf k aq rl rd r1 r2 n = textOf k' aq' rl' rd' r1' r2' n') :
  k = k' ∧ aq = aq' ∧ rl = rl' ∧ rd = rd' ∧ r1 = r1' ∧ r2 = r2' ∧ n = n' := by
 obtain ⟨e1, h⟩ := let_inj (name_let ⟨k, by omega⟩) (name_let ⟨k', by omega⟩) (tail_let ..) (tail_let ..) h
 have e2 := name_inj ⟨k, by omega⟩ ⟨k', by omega⟩ hk.1 hk'.1 e1
 obtain rfl : k = k' := congrArg Fin.val e2
 obtain ⟨e3, e4, h⟩ := suf_inj h
 have hf := form_lt ⟨k, by omega⟩ hk.1
 have ht : told rd r1 r2 n (formOf k) = told rd' r1' r2' n' (formOf k) := by
  unfold tailOf at h
  by_cases e : formOf k = 8
  ·rw [e]
   rfl
  ·rw [if_neg e, if_neg e] at h
   exact (List.cons.inj h).2
 exact ⟨rfl, e3, e4, told_inj hf a b ht⟩
end Go.Proofs.YtfdgdbphdjijdaaDoor
namespace Go.Proofs.YtfdgdbphdjijdaaDoor
open Go
theorem run_det {P : Program} {a b : Outcome} {wa wb : World} : ∀ {n1 n2 : Nat} {m m1 m2 : Machine}, runN P n1 m = .next m1 → runN P n2 m = .next m2 → step P m1 = .ended a wa → step P m2 = .ended b wb → m1 = m2
 | 0, 0, m, m1, m2, h1, h2, _, _ => by
  simp only [runN] at h1 h2
  injection h1 with h1
  injection h2 with h2
  rw [← h1, ← h2]
 | 0, n2 + 1, m, m1, m2, h1, h2, e1, _ => by
  simp only [runN] at h1
  injection h1 with h1
  subst h1
  simp [runN, e1] at h2
 | n1 + 1, 0, m, m1, m2, h1, h2, _, e2 => by
  simp only [runN] at h2
  injection h2 with h2
  subst h2
  simp [runN, e2] at h1
 | n1 + 1, n2 + 1, m, m1, m2, h1, h2, e1, e2 => by
  cases hs : step P m with
  | next m' =>
   simp only [runN, hs] at h1 h2
   exact run_det h1 h2 e1 e2
  | _ => simp [runN, hs] at h1
theorem calls_det {P : Program} {f : FuncId} {args : Array Value} {w : World} {v1 v2 : Value} (hi : P.inits.idxOf? f = none) (h1 : Calls P f args w fun e _ => e = .returned v1) (h2 : Calls P f args w fun e _ => e = .returned v2) : v1 = v2 := by
 obtain ⟨e1, w1, fr1, rfl, ⟨n1, c1⟩, g1, l1⟩ := h1 []
 obtain ⟨e2, w2, fr2, rfl, ⟨n2, c2⟩, g2, l2⟩ := h2 []
 have d1 := step_leave_done l1 (by rw [g1]; exact hi)
 have d2 := step_leave_done l2 (by rw [g2]; exact hi)
 have e := run_det c1 c2 d1 d2
 rw [e, d2] at d1
 injection d1 with d1
 injection d1 with d1
 exact d1.symm
end Go.Proofs.YtfdgdbphdjijdaaDoor
