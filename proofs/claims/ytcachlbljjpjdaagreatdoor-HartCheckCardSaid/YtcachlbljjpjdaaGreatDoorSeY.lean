/- Symbolic execution, part 35: functions as symbols: two trees that agree; more names. No condition. -/
import Derived.Test.YtcachlbljjpjdaaGreatDoorSeX
namespace Go.Proofs.YtcachlbljjpjdaaGreatDoor
open Go Go.RowKit
noncomputable section

section
variable {ρ : Env} {S : Nat → Prop} {π0 π1 : Pl} {h h1 : H} {w w1 : World} {n n1 n2 : Nat}
theorem Ext.more {i : Nat} (hn : n1 ≤ n2) (hi : Ext S n n1 i) : Ext S n n2 i := hi.elim .inl fun ⟨a, b⟩ => .inr ⟨a, Nat.lt_of_lt_of_le b hn⟩
/-- More names may be taken. -/
theorem Goes.more (g : Goes ρ S π0 h w n π1 h1 w1 n1) (hn : n1 ≤ n2) : Goes ρ S π0 h w n π1 h1 w1 n2 where
  le := Nat.le_trans g.le hn
  known := g.known
  at_ := ⟨fun π hk => g.at_.rep π fun i hi => hk i (Ext.more hn hi), fun i o hi => Ext.more hn (g.at_.dom i o hi)⟩
  sub := g.sub
  keep := g.keep
  size := g.size
  same := g.same
theorem EPost.more {st : St} {v : V} {st1 : St} {m : Nat} {e : Ending} (hp : EPost ρ S π0 st w (.ret v, st1) e w1) (hn : st1.n ≤ m) : EPost ρ S π0 st w (.ret v, { st1 with n := m }) e w1 := by
  obtain ⟨hpc, π2, g, c, he, hv⟩ := hp
  exact ⟨hpc, π2, g.more hn, c, he, fun π hk => hv π fun i hi => hk i (Ext.more hn hi)⟩
end

/-! ### Two values that are the same by what is known -/
mutual
def sameV (pc : PC) : V → V → Bool
  | .int k x, .int j y => kindBeq k j && (match holds pc (mkEq x y) with
    | some true => true
    | _ => false)
  | .bool x, .bool y => match holds pc (mkIff x y) with
    | some true => true
    | _ => false
  | .agg l, .agg m => sameVs pc l m
  | .tuple l, .tuple m => sameVs pc l m
  | _, _ => false
def sameVs (pc : PC) : List V → List V → Bool
  | [], [] => true
  | v :: l, u :: m => sameV pc v u && sameVs pc l m
  | _, _ => false
end
/-- A tree's leaf, by what is known; the other tree's leaf holds the same. -/
def agreeLeaf (lf : Leaf) (m : Nat) : R Leaf → PC → Bool
  | .ok lf', pc => sameV pc lf.v lf'.v && (Nat.ble lf.n m && (Nat.ble lf'.n m && (lf.objs.isEmpty && lf'.objs.isEmpty)))
  | .br c t f, pc => match decAtom pc c with
    | some true => agreeLeaf lf m t pc
    | some false => agreeLeaf lf m f pc
    | none => agreeLeaf lf m t ((c, true) :: pc) && agreeLeaf lf m f ((c, false) :: pc)
  | .stuck _, _ => false
def agree (m : Nat) : R Leaf → R Leaf → PC → Bool
  | .ok lf, u, pc => agreeLeaf lf m u pc
  | .br c t f, u, pc => match decAtom pc c with
    | some true => agree m t u pc
    | some false => agree m f u pc
    | none => agree m t u ((c, true) :: pc) && agree m f u ((c, false) :: pc)
  | .stuck _, _, _ => false
section
variable {ρ : Env}
theorem holds_tt {pc : PC} (hp : PcOk ρ pc) : ∀ {x : X} {b : Bool}, holds pc x = some b → x.tt ρ = b := by
  intro x
  induction x with
  | lit n =>
    intro b h
    simp only [holds, Option.some.injEq] at h
    subst h
    simp [X.tt, X.den, intBeq_iff, bne]
  | not a ih =>
    intro b h
    simp only [holds] at h
    split at h
    · rename_i c hc
      obtain rfl := Option.some.inj h
      have := ih hc
      rw [show (X.not a).tt ρ = !a.tt ρ from by simp only [X.tt, X.den, bne, b2i_zero, Bool.not_not], this]
    · cases h
  | ite c x y ic ix iy =>
    intro b h
    have e : (X.ite c x y).tt ρ = if c.tt ρ then x.tt ρ else y.tt ρ := by
      simp only [X.tt, X.den]
      by_cases hc : c.den ρ = 0 <;> simp [hc]
    simp only [holds] at h
    split at h
    · rename_i hc
      rw [e, ic hc]
      exact ix h
    · rename_i hc
      rw [e, ic hc]
      exact iy h
    · cases h
  | _ =>
    intro b h
    simp only [holds] at h
    exact decAtom_ok hp h
theorem addF_ok {pc : PC} (hp : PcOk ρ pc) : ∀ {c : X} {b : Bool}, c.tt ρ = b → PcOk ρ (addF pc c b) := by
  intro c
  induction c with
  | not y ih =>
    intro b h
    unfold addF
    exact ih (by rw [← h, show (X.not y).tt ρ = !y.tt ρ from by simp only [X.tt, X.den, bne, b2i_zero, Bool.not_not], Bool.not_not])
  | _ =>
    intro b h f hf
    unfold addF at hf
    rcases List.mem_cons.1 hf with rfl | hf
    · exact h
    · exact hp f hf
theorem ite_den (c a b : X) : (X.ite c a b).den ρ = if c.tt ρ then a.den ρ else b.den ρ := by
  by_cases h : c.den ρ = 0 <;> simp [X.den, X.tt, h]
theorem simpD_den {pc : PC} (hp : PcOk ρ pc) : ∀ {n : Nat} {x : X}, (simpD pc n x).den ρ = x.den ρ
  | 0, x => rfl
  | n + 1, x => by
    unfold simpD
    split
    · split
      · rename_i hc
        rw [simpD_den hp, ite_den, holds_tt hp hc]; rfl
      · rename_i hc
        rw [simpD_den hp, ite_den, holds_tt hp hc]; rfl
      · rfl
    · exact simpX_den hp _
theorem bool_beq {a b : Bool} (h : sameB a b = true) : a = b := by cases a <;> cases b <;> simp [sameB] at h <;> rfl
theorem chk_ok : ∀ {f : Nat} {pc : PC} {x : X} {b : Bool}, PcOk ρ pc → chk f pc x b = true → x.tt ρ = b
  | 0, _, _, _, _, h => by simp [chk] at h
  | f + 1, pc, x, b, hp, h => by
    have two : ∀ (c y : X), (match chk f (addF pc c true) y b with
        | true => chk f (addF pc c false) y b
        | false => false) = true → y.tt ρ = b := by
      intro c y h
      split at h
      · rename_i h1
        cases hc : c.tt ρ with
        | true => exact chk_ok (addF_ok hp hc) h1
        | false => exact chk_ok (addF_ok hp hc) h
      · cases h
    unfold chk at h
    split at h
    · rename_i n
      rw [← bool_beq h]
      simp [X.tt, X.den, intBeq_iff, bne]
    · rename_i a
      have := chk_ok hp h
      rw [show (X.not a).tt ρ = !a.tt ρ from by simp only [X.tt, X.den, bne, b2i_zero, Bool.not_not], this, Bool.not_not]
    · rename_i c p q
      have e : (X.ite c p q).tt ρ = if c.tt ρ then p.tt ρ else q.tt ρ := by
        rw [X.tt, ite_den]
        unfold X.tt
        split <;> rfl
      rw [e]
      split at h
      · rename_i hc; rw [holds_tt hp hc]; exact chk_ok hp h
      · rename_i hc; rw [holds_tt hp hc]; exact chk_ok hp h
      · split at h
        · rename_i h0
          rw [chk_ok hp h0]
          exact chk_ok hp h
        split at h
        · rename_i h1
          cases hc : c.tt ρ with
          | true => exact chk_ok (addF_ok hp hc) h1
          | false => exact chk_ok (addF_ok hp hc) h
        · cases h
    · rename_i u v
      have e : (X.eq u v).tt ρ = (X.eq (simpD pc 100 u) (simpD pc 100 v)).tt ρ := by rw [tt_eq, tt_eq, simpD_den hp, simpD_den hp]
      rw [e]
      generalize simpD pc 100 u = u' at *
      generalize simpD pc 100 v = v' at *
      dsimp only at h
      split at h
      · rename_i t ht
        have := holds_tt hp ht
        rw [mkEq_tt] at this
        rw [tt_eq, this]
        exact bool_beq h
      · split at h
        · exact two _ _ h
        · split at h
          · exact two _ _ h
          · cases h
    · split at h
      · rename_i t ht
        rw [holds_tt hp ht]
        exact bool_beq h
      · cases h
theorem allChk_sel {L : List (Nat × List V)} : ∀ {r : EOut}, allChk L r = true → ∃ x st, r.sel ρ = some (.ret (.bool x), st) ∧ (PcOk ρ st.pc → x.tt ρ = true) ∧ roThere L st.h = true
  | .ok a, h => by
    unfold allChk at h
    split at h
    · rename_i x st e
      injection e with e
      subst e
      split at h
      · rename_i hx
        exact ⟨x, st, rfl, fun hp => chk_ok hp hx, h⟩
      · cases h
    · cases h
    · rename_i e; cases e
    · rename_i e; cases e
  | .br c t f, h => by
    unfold allChk at h
    split at h
    · rename_i ht
      unfold R.sel
      split
      · exact allChk_sel ht
      · exact allChk_sel h
    · cases h
  | .stuck _, h => by simp [allChk] at h
mutual
theorem sameV_ok {pc : PC} (hp : PcOk ρ pc) (π : Pl) : ∀ {u v : V}, sameV pc u v = true → u.conc ρ π = v.conc ρ π
  | .int k x, v, h => by
    cases v <;> simp only [sameV, Bool.false_eq_true] at h
    rw [Bool.and_eq_true] at h
    obtain ⟨h1, h2⟩ := h
    split at h2
    · rename_i he
      have := holds_tt hp he
      rw [mkEq_tt] at this
      simp only [V.conc, kindBeq_eq h1]
      rw [eq_of_beq this]
    · cases h2
  | .bool x, v, h => by
    cases v <;> simp only [sameV, Bool.false_eq_true] at h
    split at h
    · rename_i he
      have := holds_tt hp he
      rw [mkIff_tt] at this
      simp only [V.conc]
      rw [eq_of_beq this]
    · cases h
  | .agg l, v, h => by
    cases v <;> simp only [sameV, Bool.false_eq_true] at h
    simp only [V.conc, sameVs_ok hp π h]
  | .tuple l, v, h => by
    cases v <;> simp only [sameV, Bool.false_eq_true] at h
    simp only [V.conc, sameVs_ok hp π h]
  | .str _, v, h => by simp [sameV] at h
  | .ptr _ _, v, h => by simp [sameV] at h
  | .nilptr, v, h => by simp [sameV] at h
  | .slice _ _ _ _, v, h => by simp [sameV] at h
  | .nilslice, v, h => by simp [sameV] at h
  | .map _, v, h => by simp [sameV] at h
  | .nilmap, v, h => by simp [sameV] at h
  | .func _ _ _, v, h => by simp [sameV] at h
  | .yield _, v, h => by simp [sameV] at h
  | .nilfunc, v, h => by simp [sameV] at h
  | .iface _ _, v, h => by simp [sameV] at h
  | .niliface, v, h => by simp [sameV] at h
  | .wptr _ _, v, h => by simp [sameV] at h
  | .wslice _ _ _ _, v, h => by simp [sameV] at h
  | .ite _ _ _, v, h => by simp [sameV] at h
  | .sptr _ _ _ _, v, h => by simp [sameV] at h
theorem sameVs_ok {pc : PC} (hp : PcOk ρ pc) (π : Pl) : ∀ {l m : List V}, sameVs pc l m = true → V.concs ρ π l = V.concs ρ π m
  | [], m, h => by
    cases m with
    | nil => rfl
    | cons _ _ => simp [sameVs] at h
  | v :: l, m, h => by
    cases m with
    | nil => simp [sameVs] at h
    | cons u m =>
      simp only [sameVs, Bool.and_eq_true] at h
      simp only [V.concs, sameV_ok hp π h.1, sameVs_ok hp π h.2]
end
theorem pc_more {pc : PC} {c : X} (hp : PcOk ρ pc) {b : Bool} (hc : c.tt ρ = b) : PcOk ρ ((c, b) :: pc) := fun f hf => by
  rcases List.mem_cons.1 hf with rfl | hf
  · exact hc
  · exact hp f hf
theorem agreeLeaf_ok {lf : Leaf} {m : Nat} : ∀ {u : R Leaf} {pc : PC}, PcOk ρ pc → agreeLeaf lf m u pc = true → ∃ lf', u.sel ρ = some lf' ∧ (∀ π, lf.v.conc ρ π = lf'.v.conc ρ π) ∧ lf.n ≤ m ∧ lf'.n ≤ m ∧ lf.objs = [] ∧ lf'.objs = []
  | .ok lf', pc, hp, h => by
    simp only [agreeLeaf, Bool.and_eq_true] at h
    obtain ⟨h1, h2, h3, h4, h5⟩ := h
    exact ⟨lf', rfl, fun π => sameV_ok hp π h1, Nat.le_of_ble_eq_true h2, Nat.le_of_ble_eq_true h3, List.isEmpty_iff.1 h4, List.isEmpty_iff.1 h5⟩
  | .br c t f, pc, hp, h => by
    unfold agreeLeaf at h
    unfold R.sel
    split at h
    · rename_i hd
      rw [if_pos (decAtom_ok hp hd)]
      exact agreeLeaf_ok hp h
    · rename_i hd
      rw [if_neg (by rw [decAtom_ok hp hd]; simp)]
      exact agreeLeaf_ok hp h
    · rw [Bool.and_eq_true] at h
      cases hc : c.tt ρ with
      | true => rw [if_pos rfl]; exact agreeLeaf_ok (pc_more hp hc) h.1
      | false => rw [if_neg (by simp)]; exact agreeLeaf_ok (pc_more hp hc) h.2
  | .stuck _, pc, hp, h => by simp [agreeLeaf] at h
theorem agree_ok {m : Nat} : ∀ {t u : R Leaf} {pc : PC}, PcOk ρ pc → agree m t u pc = true → ∃ lf lf', t.sel ρ = some lf ∧ u.sel ρ = some lf' ∧ (∀ π, lf.v.conc ρ π = lf'.v.conc ρ π) ∧ lf.n ≤ m ∧ lf'.n ≤ m ∧ lf.objs = [] ∧ lf'.objs = []
  | .ok lf, u, pc, hp, h => by
    obtain ⟨lf', h1, h2⟩ := agreeLeaf_ok hp (show agreeLeaf lf m u pc = true from h)
    exact ⟨lf, lf', rfl, h1, h2⟩
  | .br c t f, u, pc, hp, h => by
    unfold agree at h
    rw [show (R.br c t f).sel ρ = if c.tt ρ then t.sel ρ else f.sel ρ from rfl]
    split at h
    · rename_i hd
      rw [if_pos (decAtom_ok hp hd)]
      exact agree_ok hp h
    · rename_i hd
      rw [if_neg (by rw [decAtom_ok hp hd]; simp)]
      exact agree_ok hp h
    · rw [Bool.and_eq_true] at h
      cases hc : c.tt ρ with
      | true => rw [if_pos rfl]; exact agree_ok (pc_more hp hc) h.1
      | false => rw [if_neg (by simp)]; exact agree_ok (pc_more hp hc) h.2
  | .stuck _, u, pc, hp, h => by simp [agree] at h
end
end
end Go.Proofs.YtcachlbljjpjdaaGreatDoor
