/- Symbolic execution: functions of words whose value is told by an expression. No condition. -/
import Derived.Test.YtcachlbljjpjdaaGreatDoorSeY
namespace Go.Proofs.YtcachlbljjpjdaaGreatDoor
open Go Go.RowKit
noncomputable section

/-- The first arguments are words. -/
def takeU : Nat → List V → Option (List X × List V)
  | 0, l => some ([], l)
  | _ + 1, [] => none
  | n + 1, v :: l => match v with
    | .int .u32 x => match inK .u32 x, takeU n l with
      | true, some (xs, r) => some (x :: xs, r)
      | _, _ => none
    | _ => none
/-- Some words, then what is written out: a word, as an expression. -/
def symU (rows : List (List V × (List X → X))) (n : Nat) (args : List V) (st : St) : R (V × St) := match takeU n args with
  | none => .stuck "words expected"
  | some (xs, r) => match rows.find? (fun x => V.beqs r x.1) with
    | none => .stuck "words: no such row"
    | some (_, mk) => .ok (.int .u32 (mk xs), { st with n := st.n + 1000 })
def varsU : Nat → Nat → List V
  | _, 0 => []
  | i, n + 1 => .int .u32 (.wrap .u32 (.var i)) :: varsU (i + 1) n
theorem takeU_ok {ρ : Env} : ∀ {n : Nat} {args : List V} {xs : List X} {r : List V}, takeU n args = some (xs, r) → xs.length = n ∧ (∀ x ∈ xs, 0 ≤ x.den ρ ∧ x.den ρ ≤ 4294967295) ∧ ∀ π, V.concs ρ π args = xs.map (fun x => Value.int .u32 (x.den ρ)) ++ V.concs ρ π r
  | 0, args, xs, r, h => by
    simp only [takeU, Option.some.injEq, Prod.mk.injEq] at h
    obtain ⟨rfl, rfl⟩ := h
    exact ⟨rfl, fun x hx => by simp at hx, fun π => rfl⟩
  | n + 1, [], xs, r, h => by simp [takeU] at h
  | n + 1, v :: l, xs, r, h => by
    unfold takeU at h
    split at h
    · split at h
      · rename_i h1 h2
        simp only [Option.some.injEq, Prod.mk.injEq] at h
        obtain ⟨rfl, rfl⟩ := h
        obtain ⟨e1, e2, e3⟩ := takeU_ok (ρ := ρ) h2
        refine ⟨by simp [e1], fun x hx => ?_, fun π => by simp [V.concs, V.conc, e3]⟩
        rcases List.mem_cons.1 hx with rfl | hx
        · exact inK_ok h1
        · exact e2 x hx
      · cases h
    · cases h
theorem varsU_conc {ρ : Env} {π : Pl} : ∀ {n i : Nat} {zs : List Int}, zs.length = n → (∀ z ∈ zs, 0 ≤ z ∧ z ≤ 4294967295) → (∀ j (h : j < zs.length), ρ.v (i + j) = zs[j]) → V.concs ρ π (varsU i n) = zs.map (Value.int .u32)
  | 0, i, zs, hl, _, _ => by
    obtain rfl := List.eq_nil_of_length_eq_zero hl
    rfl
  | n + 1, i, [], hl, _, _ => by simp at hl
  | n + 1, i, z :: zs, hl, hz, hv => by
    have h0 : ρ.v i = z := hv 0 (by simp)
    have := varsU_conc (ρ := ρ) (π := π) (n := n) (i := i + 1) (zs := zs) (by simpa using hl) (fun y hy => hz y (by simp [hy])) fun j hj => by
      have := hv (j + 1) (by simp; omega)
      rw [show i + 1 + j = i + (j + 1) by omega, this]
      rfl
    have hw := hz z (by simp)
    simp only [varsU, V.concs, V.conc, X.den, h0, this, List.map_cons]
    rw [wrap_in (by simp [kLo]; omega) (by simp [kHi]; omega)]
theorem varsU_pure : ∀ n i, V.pures (varsU i n) = true
  | 0, _ => rfl
  | n + 1, i => by simp [varsU, V.pures, V.pure, varsU_pure n]
theorem pures_append : ∀ {l m : List V}, V.pures l = true → V.pures m = true → V.pures (l ++ m) = true
  | [], _, _, h => h
  | v :: l, m, h, h' => by
    simp only [V.pures, Bool.and_eq_true] at h
    simp only [List.cons_append, V.pures, Bool.and_eq_true]
    exact ⟨h.1, pures_append h.2 h'⟩
section
variable {P : Program} {cx cx0 : Cx} {ρ : Env} {ng : Nat}
/-- What is asked of a row: a run at variables, and what its leaves hold. -/
structure RowU (cx0 : Cx) (ng N n : Nat) (f : FuncId) (rest : List V) (mk : List X → X) (F : List Int → Int) (t : R Leaf) : Prop where
  run : leafOf [] ng ((ev cx0 N).call f (varsU 0 n ++ rest) (stG [] ng)) = t
  pure : V.pures rest = true
  closed : ∀ ρ ρ' π π', V.concs ρ π rest = V.concs ρ' π' rest
  den : ∀ (ρ : Env) (xs : List X), xs.length = n → (∀ x ∈ xs, 0 ≤ x.den ρ ∧ x.den ρ ≤ 4294967295) → (mk xs).den ρ = F (xs.map fun x => x.den ρ)
  spec : ∀ (ρ : Env) (zs : List Int), zs.length = n → (∀ z ∈ zs, 0 ≤ z ∧ z ≤ 4294967295) → (∀ j (h : j < zs.length), ρ.v j = zs[j]) → ∃ lf, t.sel ρ = some lf ∧ lf.objs = [] ∧ lf.n ≤ ng + 1000 ∧ ∀ π, lf.v.conc ρ π = .int .u32 (F zs)
theorem symU_ok (hmix : P.follows .mixedOrders = true) (htt : TOk P cx0.tt) (hft : FOk P cx0.ft) (hsm : ∀ ρ' : Env, ρ'.ro = ρ.ro → SumOk P cx0 ρ') (hng : cx.ng = ng) (hng0 : cx0.ng = ng) {N n : Nat} {f : FuncId} {fn : Func} (hfn : P.funcs[f]? = some fn)
    {rows : List (List V × (List X → X))} (hr : ∀ x ∈ rows, ∃ F t, RowU cx0 ng N n f x.1 x.2 F t) : SumAt P cx ρ f (symU rows n) := by
  intro args st v st' h S π0 w ac m hh ha
  unfold symU at h
  split at h
  · simp [R.sel] at h
  · rename_i xs r htk
    split at h
    · simp [R.sel] at h
    · rename_i rest mk hfind
      simp only [R.sel, Option.some.injEq, Prod.mk.injEq] at h
      obtain ⟨rfl, rfl⟩ := h
      have hmem := List.mem_of_find?_eq_some hfind
      have hbeq := List.find?_some hfind
      dsimp only at hbeq
      obtain rfl := V.beqs_eq _ _ hbeq
      obtain ⟨F, t, hrow⟩ := hr _ hmem
      dsimp only at hrow
      obtain ⟨e1, e2, e3⟩ := takeU_ok (ρ := ρ) htk
      let zs := xs.map fun x => x.den ρ
      let ρ' : Env := { ρ with v := fun i => zs.getD i 0 }
      have hzl : zs.length = n := by simp [zs, e1]
      have hz : ∀ z ∈ zs, 0 ≤ z ∧ z ≤ 4294967295 := fun z hz => by
        obtain ⟨x, hx, rfl⟩ := List.mem_map.1 hz
        exact e2 x hx
      have hv : ∀ j (h : j < zs.length), ρ'.v j = zs[j] := fun j h => by
        show zs.getD j 0 = zs[j]
        rw [List.getD_eq_getElem?_getD, List.getElem?_eq_getElem h]
        rfl
      obtain ⟨lf, hl, ho, hn, hc⟩ := hrow.spec ρ' zs hzl hz hv
      obtain ⟨st2, h4, h5, hnw, h6, h7⟩ := leafOf_sel (L := []) (ng := ng) (ρ := ρ') (r := (ev cx0 N).call f (varsU 0 n ++ r) (stG [] ng)) (by rw [hrow.run]; exact hl)
      have hargs : SaysL ρ' S π0 (varsU 0 n ++ r) ac := fun π hk => by
        rw [← ha π hk, e3, concs_append, varsU_conc hzl hz (fun j h => by rw [Nat.zero_add]; exact hv j h), hrow.closed ρ' ρ π π]
        simp [zs]
      have key := leaf_post2 (P := P) (cx := cx) (cx0 := cx0) (ρ := ρ) (ρ' := ρ') hmix htt hft (hsm ρ' rfl) hng hng0 (fun x hx => by simp at hx) ⟨fun x hx => by simp at hx⟩ rfl h4 h5 (v' := .int .u32 (mk xs))
        (fun π => by rw [hc π]; simp only [V.conc]; rw [hrow.den ρ xs e1 e2]) rfl (objs := []) (fun x hx => by simp at hx) (pures_append (varsU_pure n 0) hrow.pure) hfn hh rfl hargs (n := m)
      refine key.mono fun e w' hp => ?_
      refine EPost.more (st1 := { h := st.h, n := st.n + (st2.n - ng), pc := st.pc }) (v := .int .u32 (mk xs)) hp (m := st.n + 1000) ?_
      show st.n + (st2.n - ng) ≤ st.n + 1000
      rw [h7] at hn
      omega
end
end
end Go.Proofs.YtcachlbljjpjdaaGreatDoor
