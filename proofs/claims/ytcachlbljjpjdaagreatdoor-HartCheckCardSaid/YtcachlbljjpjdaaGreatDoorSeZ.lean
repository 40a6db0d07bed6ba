/- Symbolic execution, part 36: a run over a part of a row that came in. No condition. -/
import Derived.Test.YtcachlbljjpjdaaGreatDoorSeY
namespace Go.Proofs.YtcachlbljjpjdaaGreatDoor
open Go Go.RowKit

def stWin (L : List (Nat × List V)) (n : Nat) (c : List V) (len : X) (es : Nat) (pc : PC) : St := { h := (roHeap L).set n (.win n c len es), n := n + 1, pc := pc }
def winThere (n : Nat) (h : H) : Bool := match h.get n with
  | some (.win m _ _ _) => Nat.beq n m
  | _ => false
noncomputable def allTrueW (L : List (Nat × List V)) (n : Nat) : EOut → Bool
  | .ok (.ret (.bool x), st) => match holds st.pc x with
    | some true => roThere L st.h && winThere n st.h
    | _ => false
  | .ok _ => false
  | .br _ t f => match allTrueW L n t with
    | true => allTrueW L n f
    | false => false
  | .stuck _ => false
theorem allTrueW_sel {L : List (Nat × List V)} {n : Nat} {ρ : Env} : ∀ {r : EOut}, allTrueW L n r = true → ∃ x st, r.sel ρ = some (.ret (.bool x), st) ∧ holds st.pc x = some true ∧ roThere L st.h = true ∧ winThere n st.h = true
  | .ok a, h => by
    unfold allTrueW at h
    split at h
    · rename_i x st e
      injection e with e
      subst e
      split at h
      · rename_i hx
        rw [Bool.and_eq_true] at h
        exact ⟨x, st, rfl, hx, h.1, h.2⟩
      · cases h
    · cases h
    · rename_i e; cases e
    · rename_i e; cases e
  | .br c t f, h => by
    unfold allTrueW at h
    split at h
    · rename_i ht
      unfold R.sel
      split
      · exact allTrueW_sel ht
      · exact allTrueW_sel h
    · cases h
  | .stuck _, h => by simp [allTrueW] at h
section
variable {P : Program} {cx : Cx} {ρ : Env} {W : World} {L : List (Nat × List V)} {ng : Nat} {c : List V} {len : X} {es : Nat} {pc : PC}
/-- What is asked of the row. -/
structure WinAt (ρ : Env) (W : World) (L : List (Nat × List V)) (n : Nat) (c : List V) (len : X) (es : Nat) : Prop where
  spot : (ρ.win n).spot = none
  obj : W.heap[(ρ.win n).block]? = some (ρ.ro n)
  other : ∀ x ∈ L, x.1 ≠ (ρ.win n).block
  cells : ∃ (cs : Array Value) (t : TypeId) (fr : Nat × Nat), ρ.ro n = .cells cs t fr ∧ ∀ (j : Nat) (v : V), c[j]? = some v → j < (len.den ρ).toNat * es → ∀ π, cs[(ρ.win n).off + j]? = some (v.conc ρ π)
def πWin (ρ : Env) (n : Nat) : Pl := fun i => match Nat.beq i n with
  | true => ((ρ.win n).block, 0)
  | false => (i, 0)
theorem πWin_self {n : Nat} : (πWin ρ n n).1 = (ρ.win n).block := by
  unfold πWin
  rw [Nat.beq_refl]
theorem πWin_other {n i : Nat} (h : i ≠ n) : (πWin ρ n i).1 = i := by
  unfold πWin
  cases hb : Nat.beq i n with
  | true => exact absurd (Nat.eq_of_beq_eq_true hb) h
  | false => rfl
theorem here_win (hng : cx.ng = ng) (hL : ∀ x ∈ L, x.1 < ng) (hro : RoAt ρ L) (hW : ∀ x ∈ L, W.heap[x.1]? = some (ρ.ro x.1)) (hw : WinAt ρ W L ng c len es) (hpc : PcOk ρ pc) : Here cx ρ (fun i => i < ng + 1) (πWin ρ ng) (stWin L ng c len es pc) W := by
  have hget : ∀ i o, ((roHeap L).set ng (.win ng c len es)).get i = some o → (i = ng ∧ o = .win ng c len es) ∨ ∃ x ∈ L, i = x.1 ∧ o = .ro x.1 x.2 := by
    intro i o hi
    by_cases h : ng = i
    · subst h
      rw [T.get_set_same] at hi
      exact .inl ⟨rfl, (Option.some.inj hi).symm⟩
    · rw [T.get_set_other _ _ h] at hi
      exact .inr (roHeap_get hi)
  refine ⟨hpc, ⟨fun π hk => ⟨fun i o hi => ?_, fun i j o o' hi hj e => ?_⟩, fun i o hi => ?_⟩, fun g hg => ?_, fun i hi hs => ?_⟩
  · rcases hget i o hi with ⟨rfl, rfl⟩ | ⟨x, hx, rfl, rfl⟩
    · have h1 : (π i).1 = (ρ.win i).block := by rw [hk i (by show i < i + 1; omega)]; exact πWin_self
      obtain ⟨cs, t, fr, e1, e2⟩ := hw.cells
      exact ⟨_, by rw [h1]; exact hw.obj, ⟨hw.spot, h1.symm, cs, t, fr, e1, fun j v hj hlt => e2 j v hj hlt π⟩, rfl⟩
    · have hlt := hL x hx
      have h1 : (π x.1).1 = x.1 := by rw [hk x.1 (by show x.1 < ng + 1; omega)]; exact πWin_other (by omega)
      obtain ⟨t, fr, h2⟩ := hro.is x hx
      exact ⟨_, by rw [h1]; exact hW x hx, ⟨t, fr, h2 π⟩, rfl⟩
  · rcases hget i o hi with ⟨rfl, rfl⟩ | ⟨x, hx, rfl, rfl⟩ <;> rcases hget j o' hj with ⟨rfl, rfl⟩ | ⟨y, hy, rfl, rfl⟩
    · rfl
    · have hlt := hL y hy
      rw [hk i (by show i < i + 1; omega), hk y.1 (by show y.1 < i + 1; omega), πWin_self, πWin_other (by omega)] at e
      exact absurd e.symm (hw.other y hy)
    · have hlt := hL x hx
      rw [hk j (by show j < j + 1; omega), hk x.1 (by show x.1 < j + 1; omega), πWin_self, πWin_other (by omega)] at e
      exact absurd e (hw.other x hx)
    · have h1 := hL x hx
      have h2 := hL y hy
      rw [hk x.1 (by show x.1 < ng + 1; omega), hk y.1 (by show y.1 < ng + 1; omega), πWin_other (by omega), πWin_other (by omega)] at e
      exact e
  · rcases hget i o hi with ⟨rfl, rfl⟩ | ⟨x, hx, rfl, rfl⟩
    · show i < i + 1; omega
    · have := hL x hx
      show x.1 < ng + 1; omega
  · rw [hng] at hg
    exact ⟨by show g < ng + 1; omega, πWin_other (by omega)⟩
  · have h1 : ng + 1 ≤ i := hi
    have h2 : i < ng + 1 := hs
    omega
theorem below_win (hL : ∀ x ∈ L, x.1 < ng) (hW : ∀ x ∈ L, W.heap[x.1]? = some (ρ.ro x.1)) (hw : WinAt ρ W L ng c len es) {π1 : Pl} {w' : World} {n' : Nat} {h' : H} (g : Goes ρ (fun i => i < ng + 1) (πWin ρ ng) ((roHeap L).set ng (.win ng c len es)) W (ng + 1) π1 h' w' n') (ht : roThere L h' = true) (hwt : winThere ng h' = true) : Below W.heap.size W w' := by
  refine ⟨g.same.2.1, g.same.1, g.same.2.2, g.size, fun k hk => ?_⟩
  by_cases h0 : ∃ x ∈ L, x.1 = k
  · obtain ⟨x, hx, rfl⟩ := h0
    obtain ⟨c, hc⟩ := roThere_get ht x hx
    obtain ⟨ob, h1, _, h2⟩ := (g.at_.rep π1 fun _ _ => rfl).obj _ _ hc
    have hlt := hL x hx
    have h3 : (π1 x.1).1 = x.1 := by rw [g.known x.1 (by show x.1 < ng + 1; omega)]; exact πWin_other (by omega)
    rw [h3, h2] at h1
    rw [h1, hW x hx]
  · by_cases h1 : k = (ρ.win ng).block
    · subst h1
      unfold winThere at hwt
      split at hwt
      · rename_i m c' len' es' hg
        obtain rfl := Nat.eq_of_beq_eq_true hwt
        obtain ⟨ob, h1, _, h2⟩ := (g.at_.rep π1 fun _ _ => rfl).obj _ _ hg
        have h3 : (π1 ng).1 = (ρ.win ng).block := by rw [g.known ng (by show ng < ng + 1; omega)]; exact πWin_self
        rw [h3, h2] at h1
        rw [h1, hw.obj]
      · cases hwt
    · refine g.keep k hk fun i o hi e => ?_
      by_cases h : ng = i
      · subst h
        rw [πWin_self] at e
        exact h1 e.symm
      · rw [T.get_set_other _ _ h] at hi
        obtain ⟨x, hx, rfl, rfl⟩ := roHeap_get hi
        rw [πWin_other (fun e => h e.symm)] at e
        exact h0 ⟨x, hx, e⟩
/-- A law over a part of a row. -/
theorem law_win {N : Nat} {f : FuncId} {fn : Func} {args : List V} {ac : List Value} (hmix : P.follows .mixedOrders = true) (htt : TOk P cx.tt) (hft : FOk P cx.ft) (hsm : SumOk P cx ρ) (hf : P.funcs[f]? = some fn)
    (hng : cx.ng = ng) (hL : ∀ x ∈ L, x.1 < ng) (hro : RoAt ρ L) (hW : ∀ x ∈ L, W.heap[x.1]? = some (ρ.ro x.1)) (hw : WinAt ρ W L ng c len es) (hpc : PcOk ρ pc)
    (ht : allTrueW L ng ((ev cx N).call f args (stWin L ng c len es pc)) = true) (ha : SaysL ρ (fun i => i < ng + 1) (πWin ρ ng) args ac) :
    Calls P f ac.toArray W fun e W' => e = .returned (.bool true) ∧ Below W.heap.size W W' := by
  obtain ⟨x, st, hsel, hx, h1, h2⟩ := allTrueW_sel (ρ := ρ) ht
  refine (ev_calls hmix htt hft hsm hsel (here_win hng hL hro hW hw hpc) ha hf).mono fun e W' hp => ?_
  obtain ⟨hpc', π1, g, c, rfl, hv⟩ := hp
  refine ⟨?_, below_win hL hW hw g h1 h2⟩
  rw [← hv π1 fun _ _ => rfl]
  simp [V.conc, holds_tt hpc' hx]
end
end Go.Proofs.YtcachlbljjpjdaaGreatDoor
