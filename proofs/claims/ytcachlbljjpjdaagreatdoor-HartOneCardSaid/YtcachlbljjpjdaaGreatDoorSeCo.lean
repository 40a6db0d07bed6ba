/- Several calls, each from the start with what was known behind the one before: what they leave is looked at together. No condition. -/
import Derived.Test.YtcachlbljjpjdaaGreatDoorFwF
import Derived.Test.YtcachlbljjpjdaaGreatDoorFwT
namespace Go.Proofs.YtcachlbljjpjdaaGreatDoor
open Go Go.Proofs
def overR : EOut → (V → St → Bool) → Bool
  | .ok (.ret v, st), k => k v st
  | .ok _, _ => false
  | .br _ t f, k => match overR t k with
    | true => overR f k
    | false => false
  | .stuck _, _ => false
theorem overR_sel {ρ : Env} {k : V → St → Bool} : ∀ {r : EOut}, overR r k = true → ∃ v st, r.sel ρ = some (.ret v, st) ∧ k v st = true
  | .ok a, h => by
    unfold overR at h
    split at h
    · rename_i v st e
      injection e with e
      subst e
      exact ⟨v, st, rfl, h⟩
    · cases h
    · rename_i e; cases e
    · rename_i e; cases e
  | .br c t f, h => by
    unfold overR at h
    split at h
    · rename_i ht
      unfold R.sel
      split
      · exact overR_sel ht
      · exact overR_sel h
    · cases h
  | .stuck _, h => by simp [overR] at h
def comp (call : FuncId → List V → St → EOut) (L : List (Nat × List V)) (ng m : Nat) : List (FuncId × List V) → List V → PC → (List V → PC → Bool) → Bool
  | [], acc, pc, k => k acc pc
  | (f, a) :: l, acc, pc, k => overR (call f a { stG L ng with pc := pc }) fun v st => match Nat.ble st.n m with
    | true => match roThere L st.h with
      | true => comp call L ng m l (v :: acc) st.pc k
      | false => false
    | false => false
theorem comp_step {ρ : Env} {call : FuncId → List V → St → EOut} {L : List (Nat × List V)} {ng m : Nat} {f : FuncId} {a : List V} {l : List (FuncId × List V)} {acc : List V} {pc : PC} {k : List V → PC → Bool} (h : comp call L ng m ((f, a) :: l) acc pc k = true) :
    ∃ v st, (call f a { stG L ng with pc := pc }).sel ρ = some (.ret v, st) ∧ st.n ≤ m ∧ roThere L st.h = true ∧ comp call L ng m l (v :: acc) st.pc k = true := by
  obtain ⟨v, st, h1, h2⟩ := overR_sel (ρ := ρ) (by unfold comp at h; exact h)
  split at h2
  · rename_i hm
    split at h2
    · rename_i hr
      exact ⟨v, st, h1, Nat.le_of_ble_eq_true hm, hr, h2⟩
    · cases h2
  · cases h2
theorem pc_after {P : Program} {cx0 : Cx} {ρ : Env} {w : World} {L : List (Nat × List V)} {ng : Nat} {π0 : Pl} (hmix : P.follows .mixedOrders = true) (htt : TOk P cx0.tt) (hft : FOk P cx0.ft) (hsm : SumOk P cx0 ρ) (hng0 : cx0.ng = ng) (hL : ∀ x ∈ L, x.1 < ng) (hro : RoAt ρ L) (hπ : ∀ g, g < ng → (π0 g).1 = g) (hW : ∀ x ∈ L, w.heap[x.1]? = some (ρ.ro x.1))
    {N : Nat} {f : FuncId} {fn : Func} {args : List V} {v : V} {st' : St} {pc0 : PC} (hpc0 : PcOk ρ pc0) (hsel : ((ev cx0 N).call f args { stG L ng with pc := pc0 }).sel ρ = some (.ret v, st')) (hpure : V.pures args = true) (hfn : P.funcs[f]? = some fn) : PcOk ρ st'.pc := by
  have h0 := (here_stG (cx0 := cx0) (π0 := π0) hng0 hL hro hπ hW).like (st1 := { stG L ng with pc := pc0 }) ⟨rfl, rfl, hpc0⟩
  have ha0 : SaysL ρ (fun i => i < ng) π0 args (V.concs ρ π0 args) := fun π _ => V.pures_eq hpure
  obtain ⟨e, w', fr, hp, _⟩ := (callsIn_wide (n := 0).1 ((ev_ok hmix htt hft hsm N).2.2 f args _ _ hsel _ π0 w _ 0 h0 ha0 ⟨fn, hfn⟩)) []
  exact hp.1
section
variable {P : Program} {cx cx0 : Cx} {ρ : Env} {S : Nat → Prop} {π0 : Pl} {st st' : St} {w : World} {L : List (Nat × List V)} {ng : Nat}
theorem leaf_post4 {ρ' : Env} {pc0 : PC} (hpc0 : PcOk ρ' pc0) (hmix : P.follows .mixedOrders = true) (htt : TOk P cx0.tt) (hft : FOk P cx0.ft) (hsm : SumOk P cx0 ρ') (hng : cx.ng = ng) (hng0 : cx0.ng = ng) (hL : ∀ x ∈ L, x.1 < ng) (hro : RoAt ρ' L) (hroe : ρ'.ro = ρ.ro)
    {N : Nat} {f : FuncId} {fn : Func} {args : List V} {v v' : V} {objs : List (Nat × SObj)} (hsel : ((ev cx0 N).call f args { stG L ng with pc := pc0 }).sel ρ' = some (.ret v, st')) (hthere' : roThere L st'.h = true) (hv' : PcOk ρ' st'.pc → ∀ π, v'.conc ρ π = v.conc ρ' π) (hnw : v'.noWin = true)
    (hobjs : ∀ x ∈ objs, ng ≤ x.1 ∧ ∃ o, st'.h.get x.1 = some o ∧ x.2.plain = true ∧ ∀ π b ob, o.is ρ' π b ob → x.2.is ρ π b ob) (hpure : V.pures args = true) (hfn : P.funcs[f]? = some fn)
    (hh : Here cx ρ S π0 st w) (hthere : roThere L st.h = true) {ac : List Value} (ha : SaysL ρ' S π0 args ac) {n : Nat} :
    CallsIn Fence.wide n P f ac.toArray w (EPost ρ S π0 st w (.ret (v'.ren (sh st.n ng)), { h := putAll (sh st.n ng) objs st.h, n := st.n + (st'.n - ng), pc := st.pc })) := by
  have hπ : ∀ g, g < ng → (π0 g).1 = g := fun g hg => (hh.glob g (by rw [hng]; exact hg)).2
  have hSg : ∀ g, g < ng → S g := fun g hg => (hh.glob g (by rw [hng]; exact hg)).1
  have hngn : ng ≤ st.n := by
    rcases Nat.lt_or_ge st.n ng with h | h
    · exact absurd (hSg st.n h) (hh.fresh st.n (Nat.le_refl _))
    · exact h
  have hW : ∀ x ∈ L, w.heap[x.1]? = some (ρ.ro x.1) := by
    intro x hx
    obtain ⟨c, hc⟩ := roThere_get hthere x hx
    obtain ⟨ob, h1, _, h2⟩ := (hh.at_.rep π0 fun _ _ => rfl).obj _ _ hc
    rw [hπ _ (hL x hx), h2] at h1
    exact h1
  have hW2 : ∀ x ∈ L, w.heap[x.1]? = some (ρ'.ro x.1) := fun x hx => by rw [hroe]; exact hW x hx
  have h0 := (here_stG (cx0 := cx0) (π0 := π0) hng0 hL hro hπ hW2).like (st1 := { stG L ng with pc := pc0 }) ⟨rfl, rfl, hpc0⟩
  have ha0 : SaysL ρ' (fun i => i < ng) π0 args ac := fun π _ => (V.pures_eq hpure).trans (ha π0 fun _ _ => rfl)
  refine ((ev_ok hmix htt hft hsm N).2.2 f args _ _ hsel _ π0 w ac n h0 ha0 ⟨fn, hfn⟩).mono fun e w' hp => ?_
  obtain ⟨hpc', πc, g, c, rfl, hv⟩ := hp
  have hb := below_of hL hπ hW2 g hthere'
  have hle : ng ≤ st'.n := g.le
  refine ⟨hh.pc, fun i => if i < st.n then π0 i else πc (i - st.n + ng), ?_⟩
  have hpi : ∀ b, (fun i => if i < st.n then π0 i else πc (i - st.n + ng)) (sh st.n ng b) = πc b := by
    intro b
    dsimp only
    rcases Nat.lt_or_ge b ng with h | h
    · rw [sh_lt h, if_pos (by omega), g.known b h]
    · rw [sh_ge h, if_neg (by omega), show b - ng + st.n - st.n + ng = b by omega]
  have hkn : ∀ π, Known (Ext S st.n (st.n + (st'.n - ng))) π (fun i => if i < st.n then π0 i else πc (i - st.n + ng)) → Known (Ext (fun i => i < ng) ng st'.n) (fun b => π (sh st.n ng b)) πc := by
    intro π hk b hbb
    dsimp only
    rw [← hpi b]
    refine hk _ ?_
    rcases hbb with h | ⟨h1, h2⟩
    · rw [sh_lt h]
      exact .inl (hSg b h)
    · rw [sh_ge h1]
      exact .inr ⟨by omega, by omega⟩
  have hk0 : Known S (fun i => if i < st.n then π0 i else πc (i - st.n + ng)) π0 := by
    intro i hi
    dsimp only
    rw [if_pos]
    rcases Nat.lt_or_ge i st.n with h | h
    · exact h
    · exact absurd hi (hh.fresh i h)
  have hold : ∀ π, Known (Ext S st.n (st.n + (st'.n - ng))) π (fun i => if i < st.n then π0 i else πc (i - st.n + ng)) → ∀ i o, st.h.get i = some o → ∃ ob, w.heap[(π i).1]? = some ob ∧ o.is ρ π i ob := by
    intro π hk i o hi
    exact (hh.at_.rep π fun j hj => (hk j (.inl hj)).trans (hk0 j hj)).obj i o hi
  have hnew : ∀ x ∈ objs, w.heap.size ≤ (πc x.1).1 := by
    intro x hx
    obtain ⟨h1, o, h2, h3, hob⟩ := hobjs x hx
    rcases g.sub x.1 o h2 with h | ⟨i0, o0, h4, h5⟩
    · exact h
    · obtain ⟨y, hy, rfl, rfl⟩ := roHeap_get h4
      exfalso
      obtain ⟨c, hc⟩ := roThere_get hthere' y hy
      have h6 := (g.at_.rep πc fun _ _ => rfl).inj y.1 x.1 _ _ hc h2 (by rw [← h5, g.known y.1 (hL y hy)])
      have := hL y hy
      omega
  refine ⟨?_, ⟨c, rfl, fun π hk => ?_⟩⟩
  · refine ⟨by dsimp only; omega, hk0, ⟨fun π hk => ⟨fun i o hi => ?_, fun i j o o' hi hj e => ?_⟩, fun i o hi => ?_⟩, fun i o hi => ?_, fun j hj hne => hb.block j hj, hb.size, ⟨hb.tape, hb.os, hb.output⟩⟩
    · rcases putAll_get hi with ⟨x, hx, rfl, rfl⟩ | hi
      · obtain ⟨h1, o, h2, h3, hob⟩ := hobjs x hx
        obtain ⟨ob, h4, h5⟩ := (g.at_.rep _ (hkn π hk)).obj x.1 o h2
        exact ⟨ob, h4, SObj.is_ren h3 (hob _ _ _ h5)⟩
      · obtain ⟨ob, h1, h2⟩ := hold π hk i o hi
        have hlt : (π i).1 < w.heap.size := (Array.getElem?_eq_some_iff.1 h1).1
        exact ⟨ob, by rw [hb.block _ hlt]; exact h1, h2⟩
    · have hmix : ∀ (i j : Nat) (o : SObj) (x : Nat × SObj), st.h.get i = some o → x ∈ objs → (π i).1 = (π (sh st.n ng x.1)).1 → False := by
        intro i j o x hi hx e
        obtain ⟨ob, h1, _⟩ := hold π hk i o hi
        have hlt : (π i).1 < w.heap.size := (Array.getElem?_eq_some_iff.1 h1).1
        have h2 := hnew x hx
        obtain ⟨h3, o, h4, _⟩ := hobjs x hx
        have h5 : (π (sh st.n ng x.1)) = πc x.1 := hkn π hk x.1 (g.at_.dom _ _ h4)
        rw [h5] at e
        omega
      rcases putAll_get hi with ⟨x, hx, rfl, rfl⟩ | hi <;> rcases putAll_get hj with ⟨y, hy, rfl, rfl⟩ | hj
      · obtain ⟨h1, _, h2, h3⟩ := hobjs x hx
        obtain ⟨h4, _, h5, h6⟩ := hobjs y hy
        rw [(g.at_.rep _ (hkn π hk)).inj x.1 y.1 _ _ h2 h5 e]
      · exact (hmix j 0 _ x hj hx e.symm).elim
      · exact (hmix i 0 _ y hi hy e).elim
      · exact (hh.at_.rep π fun j hj => (hk j (.inl hj)).trans (hk0 j hj)).inj i j _ _ hi hj e
    · rcases putAll_get hi with ⟨x, hx, rfl, rfl⟩ | hi
      · obtain ⟨h1, _, h2, h3⟩ := hobjs x hx
        rcases g.at_.dom _ _ h2 with h | ⟨_, h⟩
        · have : x.1 < ng := h
          omega
        · have h' : x.1 < st'.n := h
          rw [sh_ge h1]
          exact .inr ⟨by omega, by dsimp only; omega⟩
      · exact .inl (hh.at_.dom i o hi)
    · rcases putAll_get hi with ⟨x, hx, rfl, rfl⟩ | hi
      · refine .inl ?_
        have := hnew x hx
        rw [← hpi x.1] at this
        exact this
      · exact .inr ⟨i, o, hi, congrArg Prod.fst (hk0 i (hh.at_.dom i o hi)).symm⟩
  · rw [V.conc_ren _ _ _ _ hnw, hv' hpc']
    exact hv _ (hkn π hk)
end
end Go.Proofs.YtcachlbljjpjdaaGreatDoor
