/- Symbolic execution, part 12: maps. No condition. -/
import Derived.Test.YtcachlbljjpjdaaGreatDoorSeB
namespace Go.Proofs.YtcachlbljjpjdaaGreatDoor
open Go

theorem unlike_symm {x y : Value} (h : unlike x y) : unlike y x := by
  cases x <;> cases y <;> simp_all [unlike]
  · exact fun e => h e.symm
  · exact fun e => h.2 e.symm
  · exact fun e => h e.symm
theorem unlike_irrefl {x : Value} (h : unlike x x) : False := by
  cases x <;> simp_all [unlike]
/-- A key's value, of a kind of keys. -/
def fits : TypeDesc → Value → Prop
  | .int _, .int _ _ => True
  | .string, .string _ => True
  | .bool, .bool _ => True
  | _, _ => False
theorem same_self {d : TypeDesc} {x : Value} (h : fits d x) : Instr.sameNow d x x = some true := by
  cases d <;> cases x <;> simp_all [fits, Instr.sameNow]
  rename_i s
  rw [beq_toListBytes]; simp
theorem same_unlike {d : TypeDesc} {x y : Value} (h : fits d x) (hu : unlike x y) : Instr.sameNow d x y = some false := by
  cases d <;> cases x <;> cases y <;> simp_all [fits, unlike, Instr.sameNow]
  rename_i s t
  rw [beq_toListBytes]
  simp only [beq_eq_false_iff_ne, ne_eq]
  intro e
  apply hu
  apply ByteArray.ext
  apply Array.ext'
  rw [← ByteArray.toList_eq, ← ByteArray.toList_eq, e]
abbrev prs (ms : List MapEntry) : List (Value × Value) := ms.map fun e => (e.key, e.val)
theorem findNow_hit {d : TypeDesc} {K v : Value} (hf : fits d K) : ∀ (ms : List MapEntry) (i : Nat), ((prs ms).map (·.1)).Pairwise unlike → (K, v) ∈ prs ms →
    ∃ j e, Instr.findNow d K ms i = some (some (i + j, v)) ∧ ms[j]? = some e ∧ e.key = K
  | [], i, _, hm => by simp at hm
  | e :: ms, i, hp, hm => by
    simp only [List.map_cons, List.pairwise_cons] at hp
    simp only [List.map_cons, List.mem_cons] at hm
    by_cases he : e.key = K
    · have hv : e.val = v := by
        rcases hm with hm | hm
        · exact (Prod.ext_iff.1 hm).2.symm
        · have := hp.1 K (by simp only [List.map_map, List.mem_map] at hm ⊢; obtain ⟨x, hx, e'⟩ := hm; exact ⟨x, hx, (Prod.ext_iff.1 e').1⟩)
          rw [he] at this
          exact (unlike_irrefl this).elim
      exact ⟨0, e, by simp [Instr.findNow, he, same_self hf, hv], rfl, he⟩
    · have hm' : (K, v) ∈ prs ms := by
        rcases hm with hm | hm
        · exact absurd (Prod.ext_iff.1 hm).1.symm he
        · exact hm
      have hu := hp.1 K (by simp only [List.map_map, List.mem_map] at hm' ⊢; obtain ⟨x, hx, e'⟩ := hm'; exact ⟨x, hx, (Prod.ext_iff.1 e').1⟩)
      obtain ⟨j, e2, h1, h2, h3⟩ := findNow_hit hf ms (i + 1) hp.2 hm'
      exact ⟨j + 1, e2, by simp only [Instr.findNow, same_unlike hf (unlike_symm hu), h1]; congr 3; omega, h2, h3⟩
theorem findNow_miss {d : TypeDesc} {K : Value} (hf : fits d K) : ∀ (ms : List MapEntry) (i : Nat), (∀ x ∈ (prs ms).map (·.1), unlike K x) → Instr.findNow d K ms i = some none
  | [], i, _ => rfl
  | e :: ms, i, h => by
    simp only [Instr.findNow, same_unlike hf (h e.key (by simp)), findNow_miss hf ms (i + 1) (fun x hx => h x (by simp only [List.map_cons, List.mem_cons]; exact .inr hx))]
theorem checkKey_ok {P : Program} {t : TypeId} {d : TypeDesc} {x : Value} (hu : P.underlying t = some d) (hf : fits d x) (b : Bool) (n : Nat) (w : World) : (Instr.checkKey b (n + 1) t x).run P w = .ok () w := by
  unfold Instr.checkKey
  rw [Sem.run_bind, run_underlying hu, Result.andThen_ok]
  cases d <;> cases x <;> simp_all [fits]
section
variable {ρ : Env} {π : Pl} {α : Type}
theorem keyFits_ok {d : TypeDesc} {k : V} (h : keyFits d k = true) : fits d (k.conc ρ π) := by
  cases d <;> cases k <;> simp_all [keyFits, fits, V.conc]
theorem findEntry_sel {key : V} {k : St → Option (Nat × V) → R α} {a : α} : ∀ (es : List (V × V)) (i : Nat) (st : St), PcOk ρ st.pc → (findEntry st key es i k).sel ρ = some a →
    ∃ st' res, Like ρ st st' ∧ (k st' res).sel ρ = some a ∧
      (∀ j v, res = some (j, v) → ∃ m key', j = i + m ∧ es[m]? = some (key', v) ∧ key'.conc ρ π = key.conc ρ π) ∧
      (res = none → ∀ x ∈ (entriesOf ρ π es).map (·.1), unlike (key.conc ρ π) x)
  | [], i, st, hp, h => ⟨st, none, .refl hp, h, by simp, by simp [entriesOf]⟩
  | (key', v) :: es, i, st, hp, h => by
    simp only [findEntry] at h
    have hit : ∀ st1, Like ρ st st1 → key'.conc ρ π = key.conc ρ π → (k st1 (some (i, v))).sel ρ = some a → ∃ st' res, Like ρ st st' ∧ (k st' res).sel ρ = some a ∧
      (∀ j v', res = some (j, v') → ∃ m key'', j = i + m ∧ ((key', v) :: es)[m]? = some (key'', v') ∧ key''.conc ρ π = key.conc ρ π) ∧
      (res = none → ∀ x ∈ (entriesOf ρ π ((key', v) :: es)).map (·.1), unlike (key.conc ρ π) x) := by
      intro st1 hl he hk
      refine ⟨st1, some (i, v), hl, hk, ?_, by simp⟩
      intro j v' e
      simp only [Option.some.injEq, Prod.mk.injEq] at e
      obtain ⟨rfl, rfl⟩ := e
      exact ⟨0, key', rfl, rfl, he⟩
    have miss : ∀ st1, Like ρ st st1 → unlike (key.conc ρ π) (key'.conc ρ π) → (findEntry st1 key es (i + 1) k).sel ρ = some a → ∃ st' res, Like ρ st st' ∧ (k st' res).sel ρ = some a ∧
      (∀ j v', res = some (j, v') → ∃ m key'', j = i + m ∧ ((key', v) :: es)[m]? = some (key'', v') ∧ key''.conc ρ π = key.conc ρ π) ∧
      (res = none → ∀ x ∈ (entriesOf ρ π ((key', v) :: es)).map (·.1), unlike (key.conc ρ π) x) := by
      intro st1 hl hu hk
      obtain ⟨st2, res, hl2, h2, h3, h4⟩ := findEntry_sel es (i + 1) st1 hl.pc hk
      refine ⟨st2, res, hl.trans hl2, h2, ?_, ?_⟩
      · intro j v' e
        obtain ⟨m, key'', e1, e2, e3⟩ := h3 j v' e
        exact ⟨m + 1, key'', by omega, e2, e3⟩
      · intro e x hx
        simp only [entriesOf, List.map_cons, List.mem_cons] at hx
        rcases hx with rfl | hx
        · exact hu
        · exact h4 e x hx
    split at h
    · rename_i ka x kb y
      split at h
      · rename_i hk
        obtain ⟨st1, hl, h1⟩ := split_sel hp h
        rw [mkEq_tt] at h1
        split at h1
        · rename_i he
          simp only [beq_iff_eq] at he
          exact hit st1 hl (by simp [V.conc, kindBeq_eq hk, he]) h1
        · rename_i he
          simp only [beq_iff_eq] at he
          exact miss st1 hl (by simp [V.conc, unlike, kindBeq_eq hk, he]) h1
      · simp [R.sel] at h
    · rename_i x y
      obtain ⟨st1, hl, h1⟩ := split_sel hp h
      rw [mkSeq_tt] at h1
      split at h1
      · rename_i he
        simp only [beq_iff_eq] at he
        exact hit st1 hl (by simp [V.conc, he]) h1
      · rename_i he
        simp only [beq_iff_eq] at he
        exact miss st1 hl (by
          simp only [V.conc, unlike, ne_eq, ByteArray.mk.injEq]
          intro e
          exact he (by simpa using congrArg Array.toList e)) h1
    · rename_i x y
      obtain ⟨st1, hl, h1⟩ := split_sel hp h
      rw [mkIff_tt] at h1
      split at h1
      · rename_i he
        simp only [beq_iff_eq] at he
        exact hit st1 hl (by simp [V.conc, he]) h1
      · rename_i he
        simp only [beq_iff_eq] at he
        exact miss st1 hl (by simp [V.conc, unlike, he]) h1
    · simp [R.sel] at h
end
end Go.Proofs.YtcachlbljjpjdaaGreatDoor
