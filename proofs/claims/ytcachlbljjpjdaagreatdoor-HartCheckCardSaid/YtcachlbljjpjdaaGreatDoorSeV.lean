/- Symbolic execution, part 31: tables of types and functions, checked entry by entry. No condition. -/
import Derived.Test.YtcachlbljjpjdaaGreatDoorSeU
namespace Go.Proofs.YtcachlbljjpjdaaGreatDoor
open Go

section
variable {α : Type}
/-- What stands in a try: the path, last bit first. -/
def T.list : T α → List Bool → List (List Bool × α)
  | .nil, _ => []
  | .node l v r, p => (match v with | some a => [(p, a)] | none => []) ++ T.list l (false :: p) ++ T.list r (true :: p)
theorem T.list_get : ∀ (t : T α) (bs p : List Bool) (a : α), t.getB bs = some a → (bs.reverse ++ p, a) ∈ t.list p
  | .nil, _, _, _, h => by simp [T.getB] at h
  | .node l v r, [], p, a, h => by
    simp only [T.getB] at h
    subst h
    simp [T.list]
  | .node l v r, b :: bs, p, a, h => by
    cases b with
    | true =>
      have := T.list_get r bs (true :: p) a h
      simp only [T.list]
      exact List.mem_append.2 (.inr (by simpa using this))
    | false =>
      have := T.list_get l bs (false :: p) a h
      simp only [T.list]
      exact List.mem_append.2 (.inl (List.mem_append.2 (.inr (by simpa using this))))
def bitsNum : List Bool → Nat → Nat
  | [], n => n
  | b :: bs, n => bitsNum bs (2 * n + (match b with | true => 1 | false => 0))
theorem bitsNum_append : ∀ (a b : List Bool) (m : Nat), bitsNum (a ++ b) m = bitsNum b (bitsNum a m)
  | [], b, m => rfl
  | x :: a, b, m => by simp only [List.cons_append, bitsNum, bitsNum_append a b]
theorem bitsNum_bitsF : ∀ (f n : Nat), n ≤ f → bitsNum (bitsF f n).reverse 0 = n := by
  intro f
  induction f using Nat.strongRecOn with
  | _ f ih =>
    intro n h
    cases f with
    | zero => obtain rfl : n = 0 := by omega
              rfl
    | succ f => cases n with
      | zero => rfl
      | succ n =>
        simp only [bitsF, List.reverse_cons]
        rw [bitsNum_append, ih f (by omega) ((n + 1) / 2) (by omega)]
        have h2 := Nat.mod_two_eq_zero_or_one (n + 1)
        simp only [bitsNum]
        rcases h2 with h2 | h2 <;> rw [h2] <;> simp <;> omega
theorem bitsNum_bitsOf (n : Nat) : bitsNum (bitsOf n).reverse 0 = n := bitsNum_bitsF n n (Nat.le_refl n)
def T.items (t : T α) : List (Nat × α) := (t.list []).map fun x => (bitsNum x.1 0, x.2)
theorem T.items_get {t : T α} {n : Nat} {a : α} (h : t.get n = some a) : (n, a) ∈ t.items := by
  have := T.list_get t (bitsOf n) [] a h
  simp only [List.append_nil] at this
  refine List.mem_map.2 ⟨_, this, ?_⟩
  simp [bitsNum_bitsOf]
/-- One after the other. -/
def AllL (p : Nat → α → Prop) : List (Nat × α) → Prop
  | [] => True
  | x :: l => p x.1 x.2 ∧ AllL p l
theorem AllL.mem {p : Nat → α → Prop} : ∀ {l : List (Nat × α)}, AllL p l → ∀ {n a}, (n, a) ∈ l → p n a
  | [], _, _, _, h => by simp at h
  | x :: l, hl, n, a, h => by
    rcases List.mem_cons.1 h with rfl | h
    · exact hl.1
    · exact hl.2.mem h
end
theorem TOk.of_list {P : Program} {tt : T TD} {l : List (Nat × TD)} (h : tt.items = l) (ha : AllL (TDOk P) l) : TOk P tt :=
  fun _ _ hg => ha.mem (h ▸ T.items_get hg)
def FnOk (P : Program) (f : Nat) (fn : Func) : Prop := P.funcs[f]? = some fn ∧ (fn.name == "runtime.NumGoroutine") = false ∧ fn.body.isSome = true
theorem FOk.of_list {P : Program} {ft : T Func} {l : List (Nat × Func)} (h : ft.items = l) (ha : AllL (FnOk P) l) : FOk P ft :=
  fun _ _ hg => ha.mem (h ▸ T.items_get hg)
def isAggV : V → Bool
  | .agg _ => true
  | _ => false
theorem TDOk.of {P : Program} {t : TypeId} {td : TD} (i : TypeInfo) (hi : P.info? t = some i) (hu : P.underlying t = some td.d) (hs : i.size = td.size ∧ i.bytes = td.bytes ∧ td.zero.length = td.size) (hz : (i.zero.bind ofValue).map (fun v => (v.cells, isAggV v)) = some (td.zero, td.agg))
    (ha : td.agg = (match td.d with | .struct _ | .array _ _ => true | _ => false))
    (hf : td.flat = true → td.agg = true → P.eqGuardType P.depth t = false ∧ P.stoodInHeld t = false ∧ (match td.d with | .struct fs => fs.toList.all fun f => f.name != "_" | _ => true) = true) : TDOk P t td := by
  refine ⟨⟨i, hi, hs.1, hs.2.1, ?_⟩, hu, hs.2.2, ha, hf⟩
  cases hiz : i.zero with
  | none => rw [hiz] at hz; simp at hz
  | some z =>
    rw [hiz] at hz
    simp only [Option.bind_some] at hz
    cases hv : ofValue z with
    | none => rw [hv] at hz; simp at hz
    | some v =>
      rw [hv] at hz
      simp only [Option.map_some, Option.some.injEq, Prod.mk.injEq] at hz
      obtain ⟨h1, h2⟩ := hz
      have hc : ∀ ρ π, v.conc ρ π = z := fun ρ π => ofValue_ok ρ π z v hv
      refine ⟨z, rfl, fun ρ π => by rw [← hc ρ π, cells_conc _ _ _ (ofValue_notIte hv), h1], fun hag => ?_, fun hag l e => ?_⟩
      · rw [hag] at h2
        cases v <;> simp only [isAggV, Bool.false_eq_true] at h2
        exact ⟨_, (hc ⟨fun _ => false, fun _ => 0, fun _ _ => 0, fun _ _ _ => 0, fun _ => [], fun _ _ => [], fun _ => .deferred none, fun _ => ⟨0, 0, none⟩⟩ fun _ => (0, 0)).symm⟩
      · rw [hag] at h2
        have := hc ⟨fun _ => false, fun _ => 0, fun _ _ => 0, fun _ _ _ => 0, fun _ => [], fun _ _ => [], fun _ => .deferred none, fun _ => ⟨0, 0, none⟩⟩ fun _ => (0, 0)
        rw [e] at this
        have hni := ofValue_notIte hv
        cases v <;> simp only [isAggV, Bool.true_eq_false] at h2 <;> first | (simp [V.isIte] at hni; done) | simp [V.conc] at this
end Go.Proofs.YtcachlbljjpjdaaGreatDoor
