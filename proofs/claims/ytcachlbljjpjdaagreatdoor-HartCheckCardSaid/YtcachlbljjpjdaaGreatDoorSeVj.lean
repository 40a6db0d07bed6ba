/- Symbolic execution: values that are one of two; elements whose number is left open. No condition. -/
import Derived.Test.YtcachlbljjpjdaaGreatDoorSe4
namespace Go.Proofs.YtcachlbljjpjdaaGreatDoor
open Go

theorem Fn.func_eq {f g : FuncId} (h : Nat.beq f g = true) : f = g := Nat.eq_of_beq_eq_true h
mutual
theorem V.beq_eq : ∀ (u v : V), u.beq v = true → u = v
  | .int k x, v, h => by
    cases v <;> simp only [V.beq, Bool.false_eq_true] at h
    simp only [Bool.and_eq_true] at h
    rw [kindBeq_eq h.1, X.beq_eq h.2]
  | .bool x, v, h => by
    cases v <;> simp only [V.beq, Bool.false_eq_true] at h
    rw [X.beq_eq h]
  | .str x, v, h => by
    cases v <;> simp only [V.beq, Bool.false_eq_true] at h
    rw [X.beq_eq h]
  | .ptr b o, v, h => by
    cases v <;> simp only [V.beq, Bool.false_eq_true] at h
    simp only [Bool.and_eq_true] at h
    rw [Nat.eq_of_beq_eq_true h.1, Nat.eq_of_beq_eq_true h.2]
  | .nilptr, v, h => by cases v <;> simp only [V.beq, Bool.false_eq_true] at h; rfl
  | .slice b o n c, v, h => by
    cases v <;> simp only [V.beq, Bool.false_eq_true] at h
    rename_i b' o' n' c'
    simp only [Bool.and_eq_true] at h
    obtain ⟨⟨⟨h1, h2⟩, h3⟩, h4⟩ := h
    rw [Nat.eq_of_beq_eq_true h1, Nat.eq_of_beq_eq_true h2, Nat.eq_of_beq_eq_true h3]
    cases c <;> cases c' <;> simp only [Bool.and_eq_true, Bool.false_eq_true] at h4
    · rw [Nat.eq_of_beq_eq_true h4]
    · rw [Nat.eq_of_beq_eq_true h4.1, Nat.eq_of_beq_eq_true h4.2]
  | .nilslice, v, h => by cases v <;> simp only [V.beq, Bool.false_eq_true] at h; rfl
  | .map b, v, h => by
    cases v <;> simp only [V.beq, Bool.false_eq_true] at h
    rw [Nat.eq_of_beq_eq_true h]
  | .nilmap, v, h => by cases v <;> simp only [V.beq, Bool.false_eq_true] at h; rfl
  | .func f a b, v, h => by
    cases f <;> cases v <;> try (simp only [V.beq, Bool.false_eq_true] at h)
    rename_i f g c d
    cases g <;> simp only [V.beq, Bool.false_eq_true] at h
    simp only [Bool.and_eq_true] at h
    rw [Nat.eq_of_beq_eq_true h.1.1, V.beqs_eq _ _ h.1.2, V.beqs_eq _ _ h.2]
  | .yield b, v, h => by
    cases v <;> simp only [V.beq, Bool.false_eq_true] at h
    rw [Nat.eq_of_beq_eq_true h]
  | .nilfunc, v, h => by cases v <;> simp only [V.beq, Bool.false_eq_true] at h; rfl
  | .iface t x, v, h => by
    cases v <;> simp only [V.beq, Bool.false_eq_true] at h
    simp only [Bool.and_eq_true] at h
    rw [Nat.eq_of_beq_eq_true h.1, V.beq_eq _ _ h.2]
  | .niliface, v, h => by cases v <;> simp only [V.beq, Bool.false_eq_true] at h; rfl
  | .agg l, v, h => by
    cases v <;> simp only [V.beq, Bool.false_eq_true] at h
    rw [V.beqs_eq _ _ h]
  | .tuple l, v, h => by
    cases v <;> simp only [V.beq, Bool.false_eq_true] at h
    rw [V.beqs_eq _ _ h]
  | .wptr b o, v, h => by
    cases v <;> simp only [V.beq, Bool.false_eq_true] at h
    simp only [Bool.and_eq_true] at h
    rw [Nat.eq_of_beq_eq_true h.1, Nat.eq_of_beq_eq_true h.2]
  | .wslice b o n c, v, h => by
    cases v <;> simp only [V.beq, Bool.false_eq_true] at h
    simp only [Bool.and_eq_true] at h
    obtain ⟨⟨⟨h1, h2⟩, h3⟩, h4⟩ := h
    rw [Nat.eq_of_beq_eq_true h1, Nat.eq_of_beq_eq_true h2, X.beq_eq h3, X.beq_eq h4]
  | .ite c a b, v, h => by
    cases v <;> simp only [V.beq, Bool.false_eq_true] at h
    simp only [Bool.and_eq_true] at h
    rw [X.beq_eq h.1.1, V.beq_eq _ _ h.1.2, V.beq_eq _ _ h.2]
  | .sptr b o n i, v, h => by
    cases v <;> simp only [V.beq, Bool.false_eq_true] at h
    simp only [Bool.and_eq_true] at h
    obtain ⟨⟨⟨h1, h2⟩, h3⟩, h4⟩ := h
    rw [Nat.eq_of_beq_eq_true h1, Nat.eq_of_beq_eq_true h2, Nat.eq_of_beq_eq_true h3, X.beq_eq h4]
theorem V.beqs_eq : ∀ (u v : List V), V.beqs u v = true → u = v
  | [], [], _ => rfl
  | [], _ :: _, h => by simp [V.beqs] at h
  | _ :: _, [], h => by simp [V.beqs] at h
  | a :: l, b :: m, h => by
    simp only [V.beqs, Bool.and_eq_true] at h
    rw [V.beq_eq _ _ h.1, V.beqs_eq _ _ h.2]
end

section
variable {ρ : Env} {π : Pl}
theorem conc_ite (c : X) (a b : V) : (V.ite c a b).conc ρ π = if c.tt ρ then a.conc ρ π else b.conc ρ π := rfl
theorem joinD_conc (c : X) (a b : V) : (joinD c a b).conc ρ π = if c.tt ρ then a.conc ρ π else b.conc ρ π := by
  unfold joinD
  split
  · rename_i h
    rw [V.beq_eq _ _ h]
    split <;> rfl
  · rfl
mutual
theorem joinV_conc (c : X) : ∀ a b : V, (joinV c a b).conc ρ π = if c.tt ρ then a.conc ρ π else b.conc ρ π
  | .int k x, b => by
    unfold joinV
    cases b with
    | int j y =>
      dsimp only
      split
      · rename_i h
        obtain rfl := kindBeq_eq h
        simp only [V.conc, mkIte_den]
        split <;> rfl
      · rfl
    | _ => rfl
  | .bool x, b => by
    unfold joinV
    cases b with
    | bool y =>
      simp only [V.conc, mkIte_tt]
      split <;> rfl
    | _ => rfl
  | .str x, b => by
    unfold joinV
    cases b with
    | str y =>
      simp only [V.conc, mkIteS_sden]
      split <;> rfl
    | _ => rfl
  | .agg l, b => by
    unfold joinV
    cases b with
    | agg m =>
      dsimp only
      split
      · rename_i r h
        simp only [V.conc, joinVs_conc c l m h]
        split <;> rfl
      · rfl
    | _ => rfl
  | .tuple l, b => by
    unfold joinV
    cases b with
    | tuple m =>
      dsimp only
      split
      · rename_i r h
        simp only [V.conc, joinVs_conc c l m h]
        split <;> rfl
      · rfl
    | _ => rfl
  | .ptr _ _, b => by unfold joinV; exact joinD_conc c _ b
  | .nilptr, b => by unfold joinV; exact joinD_conc c _ b
  | .slice _ _ _ _, b => by unfold joinV; exact joinD_conc c _ b
  | .nilslice, b => by unfold joinV; exact joinD_conc c _ b
  | .map _, b => by unfold joinV; exact joinD_conc c _ b
  | .nilmap, b => by unfold joinV; exact joinD_conc c _ b
  | .func _ _ _, b => by unfold joinV; exact joinD_conc c _ b
  | .yield _, b => by unfold joinV; exact joinD_conc c _ b
  | .nilfunc, b => by unfold joinV; exact joinD_conc c _ b
  | .iface _ _, b => by unfold joinV; exact joinD_conc c _ b
  | .niliface, b => by unfold joinV; exact joinD_conc c _ b
  | .wptr _ _, b => by unfold joinV; exact joinD_conc c _ b
  | .wslice _ _ _ _, b => by unfold joinV; exact joinD_conc c _ b
  | .ite _ _ _, b => by unfold joinV; exact joinD_conc c _ b
  | .sptr _ _ _ _, b => by unfold joinV; exact joinD_conc c _ b
theorem joinVs_conc (c : X) : ∀ (l m : List V) {r : List V}, joinVs c l m = some r → V.concs ρ π r = if c.tt ρ then V.concs ρ π l else V.concs ρ π m
  | [], [], r, h => by
    obtain rfl := Option.some.inj (show some [] = some r from h)
    split <;> rfl
  | a :: l, b :: m, r, h => by
    unfold joinVs at h
    dsimp only at h
    split at h
    · rename_i q hq
      obtain rfl := Option.some.inj h
      have := joinVs_conc c l m hq
      simp only [V.concs, joinV_conc c a b, this]
      split <;> rfl
    · cases h
  | [], b :: m, r, h => by unfold joinVs at h; exact absurd h (by simp)
  | a :: l, [], r, h => by unfold joinVs at h; exact absurd h (by simp)
end
theorem joinVs_len (c : X) : ∀ (l m : List V) {r : List V}, joinVs c l m = some r → r.length = l.length ∧ r.length = m.length
  | [], [], r, h => by
    obtain rfl := Option.some.inj (show some [] = some r from h)
    exact ⟨rfl, rfl⟩
  | a :: l, b :: m, r, h => by
    unfold joinVs at h
    dsimp only at h
    split at h
    · rename_i q hq
      obtain rfl := Option.some.inj h
      have := joinVs_len c l m hq
      simp only [List.length_cons]
      omega
    · cases h
  | [], b :: m, r, h => by unfold joinVs at h; exact absurd h (by simp)
  | a :: l, [], r, h => by unfold joinVs at h; exact absurd h (by simp)
/-- A value that is one of two is split. -/
theorem splitV_sel {α : Type} : ∀ {n : Nat} {st : St} {v : V} {k : St → V → R α} {a : α}, PcOk ρ st.pc → (splitV n st v k).sel ρ = some a →
    ∃ st' v', Like ρ st st' ∧ (∀ π : Pl, v'.conc ρ π = v.conc ρ π) ∧ (k st' v').sel ρ = some a
  | 0, st, v, k, a, hp, h => ⟨st, v, .refl hp, fun _ => rfl, h⟩
  | n + 1, st, v, k, a, hp, h => by
    unfold splitV at h
    split at h
    · rename_i c x y
      obtain ⟨st1, hl, h1⟩ := split_sel hp h
      split at h1
      · rename_i hc
        obtain ⟨st2, v2, hl2, hv2, h2⟩ := splitV_sel hl.pc h1
        exact ⟨st2, v2, hl.trans hl2, fun π => by rw [hv2 π, conc_ite, if_pos hc], h2⟩
      · rename_i hc
        obtain ⟨st2, v2, hl2, hv2, h2⟩ := splitV_sel hl.pc h1
        exact ⟨st2, v2, hl.trans hl2, fun π => by rw [hv2 π, conc_ite, if_neg (by rw [hc]; simp)], h2⟩
    · exact ⟨st, v, .refl hp, fun _ => rfl, h⟩
theorem selGo_conc {i : X} : ∀ {l : List V} {j : Nat} {r : V}, selGo i j l = some r → ∀ n, i.den ρ = ((j + n : Nat) : Int) → ∀ v, l[n]? = some v → r.conc ρ π = v.conc ρ π
  | [], j, r, h, n, hi, v, hv => by simp at hv
  | u :: l, j, r, h, n, hi, v, hv => by
    unfold selGo at h
    split at h
    · obtain rfl := Option.some.inj h
      cases n with
      | zero => simp at hv; rw [hv]
      | succ n => simp at hv
    · split at h
      · rename_i q hq
        obtain rfl := Option.some.inj h
        rw [joinV_conc, mkEq_tt]
        simp only [X.den]
        cases n with
        | zero =>
          simp at hv
          have e : (i.den ρ == Int.ofNat j) = true := by rw [hi]; simp
          simp only [e, if_true, hv]
        | succ n =>
          have e : (i.den ρ == Int.ofNat j) = false := by rw [hi]; simp; omega
          simp only [e, Bool.false_eq_true, if_false]
          exact selGo_conc hq n (by rw [hi]; congr 1; omega) v (by simpa using hv)
      · cases h
theorem isFn_get {k : IntKind} {f : Nat} : ∀ {l : List V} {j : Nat}, isFn k f j l = true → ∀ (n : Nat) (v : V), l[n]? = some v → v = V.int k (.wrap k (.fn1 f (.lit ((j + n : Nat) : Int))))
  | [], j, h, n, v, hv => by simp at hv
  | u :: l, j, h, n, v, hv => by
    unfold isFn at h
    split at h
    · split at h
      · rename_i h1 h2
        split at h
        · rename_i h3 h4
          cases n with
          | zero =>
            simp at hv
            rw [← hv, kindBeq_eq h1, kindBeq_eq h2, Nat.eq_of_beq_eq_true h3, intBeq_eq h4]
            rfl
          | succ n =>
            have := isFn_get h n v (by simpa using hv)
            rw [this, show j + 1 + n = j + (n + 1) by omega]
        · cases h
      · cases h
    · cases h
theorem selV_conc {i : X} {l : List V} {r : V} (h : selV i l = some r) {n : Nat} (hi : i.den ρ = (n : Int)) {v : V} (hv : l[n]? = some v) : r.conc ρ π = v.conc ρ π := by
  have old : selGo i 0 l = some r → r.conc ρ π = v.conc ρ π := fun h => selGo_conc h n (by rw [hi]; simp) v hv
  unfold selV at h
  split at h
  · split at h
    · rename_i hf
      obtain rfl := Option.some.inj h
      have := isFn_get hf n v hv
      rw [this]
      simp only [V.conc, X.den, hi, Nat.zero_add]
    · exact old h
  · exact old h
theorem symPut_len {i : X} {u : V} : ∀ (l : List V) (j : Nat), (symPut i u j l).length = l.length
  | [], _ => rfl
  | _ :: l, j => by simp [symPut, symPut_len l]
theorem symPut_conc {i : X} {u : V} : ∀ (l : List V) (j n : Nat), i.den ρ = ((j + n : Nat) : Int) → V.concs ρ π (symPut i u j l) = (V.concs ρ π l).set n (u.conc ρ π)
  | [], j, n, _ => by simp [symPut, V.concs]
  | v :: l, j, n, h => by
    simp only [symPut, V.concs, joinV_conc, mkEq_tt, X.den]
    cases n with
    | zero =>
      have e : (i.den ρ == Int.ofNat j) = true := by rw [h]; simp
      simp only [e, if_true, List.set_cons_zero, List.cons.injEq, true_and]
      have key : ∀ (l : List V) (j' : Nat), i.den ρ < (j' : Int) → V.concs ρ π (symPut i u j' l) = V.concs ρ π l := by
        intro l
        induction l with
        | nil => intro j' _; rfl
        | cons w l ih =>
          intro j' hj
          simp only [symPut, V.concs, joinV_conc, mkEq_tt, X.den]
          have e : (i.den ρ == Int.ofNat j') = false := beq_eq_false_iff_ne.2 (by simp; omega)
          simp only [e, Bool.false_eq_true, if_false]
          rw [ih (j' + 1) (by omega)]
      exact key l (j + 1) (by rw [h]; omega)
    | succ n =>
      have e : (i.den ρ == Int.ofNat j) = false := by rw [h]; simp; omega
      simp only [e, Bool.false_eq_true, if_false, List.set_cons_succ, List.cons.injEq, true_and]
      exact symPut_conc l (j + 1) n (by rw [h]; congr 1; omega)
end
end Go.Proofs.YtcachlbljjpjdaaGreatDoor
