/- Symbolic execution, part 33: what a call leaves, in names of its own; summaries out of runs. No condition. -/
import Derived.Test.YtcachlbljjpjdaaGreatDoorSeV
import Derived.Test.YtcachlbljjpjdaaGreatDoorSeWd
import Derived.Below
namespace Go.Proofs.YtcachlbljjpjdaaGreatDoor
open Go Go.RowKit

/-! ### Renaming -/
mutual
theorem V.conc_ren (ρ : Env) (π : Pl) (r : Nat → Nat) : ∀ v : V, v.noWin = true → (v.ren r).conc ρ π = v.conc ρ (fun i => π (r i))
  | .int k x, _ => rfl
  | .bool x, _ => rfl
  | .str x, _ => rfl
  | .ptr b o, _ => rfl
  | .nilptr, _ => rfl
  | .slice b o n c, _ => by cases c <;> rfl
  | .nilslice, _ => rfl
  | .map b, _ => rfl
  | .nilmap, _ => rfl
  | .func f a c, h => by
    simp only [V.noWin, Bool.and_eq_true] at h
    simp only [V.ren, V.conc, V.concs_ren ρ π r a h.1, V.concs_ren ρ π r c h.2]
  | .yield b, _ => rfl
  | .nilfunc, _ => rfl
  | .iface t v, h => by
    simp only [V.noWin] at h
    simp only [V.ren, V.conc, V.conc_ren ρ π r v h]
  | .niliface, _ => rfl
  | .agg l, h => by
    simp only [V.noWin] at h
    simp only [V.ren, V.conc, V.concs_ren ρ π r l h]
  | .tuple l, h => by
    simp only [V.noWin] at h
    simp only [V.ren, V.conc, V.concs_ren ρ π r l h]
  | .wptr _ _, h => by simp [V.noWin] at h
  | .wslice _ _ _ _, h => by simp [V.noWin] at h
  | .ite c a b, h => by
    simp only [V.noWin, Bool.and_eq_true] at h
    simp only [V.ren, V.conc, V.conc_ren ρ π r a h.1, V.conc_ren ρ π r b h.2]
  | .sptr _ _ _ _, _ => rfl
theorem V.concs_ren (ρ : Env) (π : Pl) (r : Nat → Nat) : ∀ l : List V, V.noWins l = true → V.concs ρ π (V.rens r l) = V.concs ρ (fun i => π (r i)) l
  | [], _ => rfl
  | v :: l, h => by
    simp only [V.noWins, Bool.and_eq_true] at h
    simp only [V.rens, V.concs, V.conc_ren ρ π r v h.1, V.concs_ren ρ π r l h.2]
end
mutual
theorem V.pure_eq {ρ : Env} {π π' : Pl} : ∀ {v : V}, v.pure = true → v.conc ρ π = v.conc ρ π'
  | .int _ _, _ => rfl
  | .bool _, _ => rfl
  | .str _, _ => rfl
  | .ptr _ _, h => by simp [V.pure] at h
  | .nilptr, _ => rfl
  | .slice _ _ _ _, h => by simp [V.pure] at h
  | .nilslice, _ => rfl
  | .map _, h => by simp [V.pure] at h
  | .nilmap, _ => rfl
  | .func _ a c, h => by
    simp only [V.pure, Bool.and_eq_true] at h
    simp only [V.conc, V.pures_eq (π' := π') h.1, V.pures_eq (π' := π') h.2]
  | .yield _, h => by simp [V.pure] at h
  | .wptr _ _, h => by simp [V.pure] at h
  | .wslice _ _ _ _, h => by simp [V.pure] at h
  | .sptr _ _ _ _, h => by simp [V.pure] at h
  | .ite c a b, h => by
    simp only [V.pure, Bool.and_eq_true] at h
    simp only [V.conc, V.pure_eq (π := π) (π' := π') h.1, V.pure_eq (π := π) (π' := π') h.2]
  | .nilfunc, _ => rfl
  | .iface _ v, h => by
    simp only [V.pure] at h
    simp only [V.conc, V.pure_eq (π' := π') h]
  | .niliface, _ => rfl
  | .agg l, h => by
    simp only [V.pure] at h
    simp only [V.conc, V.pures_eq (π' := π') h]
  | .tuple l, h => by
    simp only [V.pure] at h
    simp only [V.conc, V.pures_eq (π' := π') h]
theorem V.pures_eq {ρ : Env} {π π' : Pl} : ∀ {l : List V}, V.pures l = true → V.concs ρ π l = V.concs ρ π' l
  | [], _ => rfl
  | v :: l, h => by
    simp only [V.pures, Bool.and_eq_true] at h
    simp only [V.concs, V.pure_eq (π' := π') h.1, V.pures_eq (π' := π') h.2]
end
theorem V.rens_length (r : Nat → Nat) : ∀ l : List V, (V.rens r l).length = l.length
  | [] => rfl
  | _ :: l => by simp [V.rens, V.rens_length r l]
theorem entries_ren (ρ : Env) (π : Pl) (r : Nat → Nat) : ∀ es : List (V × V), noWinEs es = true → entriesOf ρ π (renEs r es) = entriesOf ρ (fun i => π (r i)) es
  | [], _ => rfl
  | (k, v) :: l, h => by
    simp only [noWinEs, Bool.and_eq_true] at h
    have := entries_ren ρ π r l h.2.2
    simp only [entriesOf] at this
    simp only [entriesOf, renEs, List.map_cons, V.conc_ren _ _ _ _ h.1, V.conc_ren _ _ _ _ h.2.1, this]
theorem SObj.is_ren {ρ : Env} {π : Pl} {r : Nat → Nat} {b : Nat} {ob : Obj} : ∀ {o : SObj}, o.plain = true → o.is ρ (fun i => π (r i)) b ob → (o.ren r).is ρ π (r b) ob
  | .cells c e w, hp, ⟨spare, h1, h2⟩ => ⟨spare, by rw [V.concs_ren _ _ _ _ hp]; exact h1, by rw [V.rens_length]; exact h2⟩
  | .map es, hp, ⟨ms, clock, h1, h2, h3⟩ => ⟨ms, clock, h1, by rw [entries_ren _ _ _ _ hp]; exact h2, by rw [entries_ren _ _ _ _ hp]; exact h3⟩
  | .loop _ _ _ _ _ _ _, h, _ => by simp [SObj.plain] at h
  | .deferred _, h, _ => by simp [SObj.plain] at h
  | .ro _ _, h, _ => by simp [SObj.plain] at h
  | .win _ _ _ _, h, _ => by simp [SObj.plain] at h
theorem putAll_get {r : Nat → Nat} {h : H} {i : Nat} {o : SObj} : ∀ {l : List (Nat × SObj)}, (putAll r l h).get i = some o → (∃ x ∈ l, i = r x.1 ∧ o = x.2.ren r) ∨ h.get i = some o
  | [], e => .inr e
  | (b, o') :: l, e => by
    unfold putAll at e
    by_cases hi : r b = i
    · subst hi
      rw [T.get_set_same] at e
      exact .inl ⟨(b, o'), by simp, rfl, (Option.some.inj e).symm⟩
    · rw [T.get_set_other _ _ hi] at e
      rcases putAll_get e with ⟨x, hx, h1, h2⟩ | h1
      · exact .inl ⟨x, by simp [hx], h1, h2⟩
      · exact .inr h1

/-! ### The heap that a run begins with: rows that are only read -/
structure RoAt (ρ : Env) (L : List (Nat × List V)) : Prop where
  is : ∀ x ∈ L, ∃ t fr, ∀ π, ρ.ro x.1 = .cells (V.concs ρ π x.2).toArray t fr
theorem roHeap_get {i : Nat} {o : SObj} : ∀ {L : List (Nat × List V)}, (roHeap L).get i = some o → ∃ x ∈ L, i = x.1 ∧ o = .ro x.1 x.2
  | [], e => by
    unfold roHeap at e
    rw [T.get_nil] at e
    cases e
  | (j, c) :: l, e => by
    unfold roHeap at e
    by_cases hi : j = i
    · subst hi
      rw [T.get_set_same] at e
      exact ⟨(j, c), by simp, rfl, (Option.some.inj e).symm⟩
    · rw [T.get_set_other _ _ hi] at e
      obtain ⟨x, hx, h1, h2⟩ := roHeap_get e
      exact ⟨x, by simp [hx], h1, h2⟩
theorem roThere_get {h : H} : ∀ {L : List (Nat × List V)}, roThere L h = true → ∀ x ∈ L, ∃ c, h.get x.1 = some (.ro x.1 c)
  | [], _, x, hx => by simp at hx
  | (i, c) :: l, e, x, hx => by
    unfold roThere at e
    split at e
    · rename_i j c' hj
      simp only [Bool.and_eq_true] at e
      rcases List.mem_cons.1 hx with rfl | hx
      · exact ⟨c', by rw [hj, Nat.eq_of_beq_eq_true e.1]⟩
      · exact roThere_get e.2 x hx
    · cases e
section
variable {P : Program} {cx cx0 : Cx} {ρ : Env} {S : Nat → Prop} {π0 : Pl} {st st' : St} {w : World} {L : List (Nat × List V)} {ng : Nat}
theorem here_stG (hng : cx0.ng = ng) (hL : ∀ x ∈ L, x.1 < ng) (hro : RoAt ρ L) (hπ : ∀ g, g < ng → (π0 g).1 = g) (hW : ∀ x ∈ L, w.heap[x.1]? = some (ρ.ro x.1)) : Here cx0 ρ (fun i => i < ng) π0 (stG L ng) w := by
  refine ⟨by simp [stG, PcOk], ⟨fun π hk => ⟨fun i o hi => ?_, fun i j o o' hi hj e => ?_⟩, fun i o hi => ?_⟩, fun g hg => ?_, fun i hi hs => ?_⟩
  · obtain ⟨x, hx, rfl, rfl⟩ := roHeap_get hi
    have h1 : (π x.1).1 = x.1 := by rw [hk x.1 (hL x hx)]; exact hπ _ (hL x hx)
    obtain ⟨t, fr, h2⟩ := hro.is x hx
    exact ⟨_, by rw [h1]; exact hW x hx, ⟨t, fr, h2 π⟩, rfl⟩
  · obtain ⟨x, hx, rfl, rfl⟩ := roHeap_get hi
    obtain ⟨y, hy, rfl, rfl⟩ := roHeap_get hj
    rw [hk x.1 (hL x hx), hk y.1 (hL y hy), hπ _ (hL x hx), hπ _ (hL y hy)] at e
    exact e
  · obtain ⟨x, hx, rfl, rfl⟩ := roHeap_get hi
    exact hL x hx
  · rw [hng] at hg
    exact ⟨hg, hπ g hg⟩
  · have h1 : ng ≤ i := hi
    have h2 : i < ng := hs
    omega
/-- A run that began so has turned nothing that was there. -/
theorem below_of (hL : ∀ x ∈ L, x.1 < ng) (hπ : ∀ g, g < ng → (π0 g).1 = g) (hW : ∀ x ∈ L, w.heap[x.1]? = some (ρ.ro x.1)) {π1 : Pl} {w' : World} {n' : Nat} {h' : H} (g : Goes ρ (fun i => i < ng) π0 (roHeap L) w ng π1 h' w' n') (ht : roThere L h' = true) : Below w.heap.size w w' := by
  refine ⟨g.same.2.1, g.same.1, g.same.2.2, g.size, fun k hk => ?_⟩
  by_cases h0 : ∃ x ∈ L, x.1 = k
  · obtain ⟨x, hx, rfl⟩ := h0
    obtain ⟨c, hc⟩ := roThere_get ht x hx
    obtain ⟨ob, h1, _, h2⟩ := (g.at_.rep π1 fun _ _ => rfl).obj _ _ hc
    have h3 : (π1 x.1).1 = x.1 := by rw [g.known x.1 (hL x hx)]; exact hπ _ (hL x hx)
    rw [h3, h2] at h1
    rw [h1, hW x hx]
  · refine g.keep k hk fun i o hi e => h0 ?_
    obtain ⟨x, hx, rfl, rfl⟩ := roHeap_get hi
    exact ⟨x, hx, by rw [← hπ _ (hL x hx)]; exact e⟩
theorem sh_lt {m n i : Nat} (h : i < n) : sh m n i = i := by
  unfold sh
  rw [show Nat.blt i n = true from Nat.ble_eq_true_of_le h]
theorem sh_ge {m n i : Nat} (h : n ≤ i) : sh m n i = i - n + m := by
  unfold sh
  rw [show Nat.blt i n = false by
    cases hb : Nat.blt i n with
    | false => rfl
    | true => have := Nat.le_of_ble_eq_true hb; omega]
/-- A call that was run by itself, in another heap, and its variables filled. -/
theorem leaf_post2 {ρ' : Env} (hmix : P.follows .mixedOrders = true) (htt : TOk P cx0.tt) (hft : FOk P cx0.ft) (hsm : SumOk P cx0 ρ') (hng : cx.ng = ng) (hng0 : cx0.ng = ng) (hL : ∀ x ∈ L, x.1 < ng) (hro : RoAt ρ' L) (hroe : ρ'.ro = ρ.ro)
    {N : Nat} {f : FuncId} {fn : Func} {args : List V} {v v' : V} {objs : List (Nat × SObj)} (hsel : ((ev cx0 N).call f args (stG L ng)).sel ρ' = some (.ret v, st')) (hthere' : roThere L st'.h = true) (hv' : ∀ π, v'.conc ρ π = v.conc ρ' π) (hnw : v'.noWin = true)
    (hobjs : ∀ x ∈ objs, ng ≤ x.1 ∧ ∃ o, st'.h.get x.1 = some o ∧ x.2.plain = true ∧ ∀ π b ob, o.is ρ' π b ob → x.2.is ρ π b ob) (hpure : V.pures args = true) (hfn : P.funcs[f]? = some fn)
    (hh : Here cx ρ S π0 st w) (hthere : roThere L st.h = true) {ac : List Value} (ha : SaysL ρ' S π0 args ac) {n : Nat} :
    CallsIn Fence.wide n P f ac.toArray w (EPost ρ S π0 st w (.ret (v'.ren (sh st.n ng)), { h := putAll (sh st.n ng) objs st.h, n := st.n + (st'.n - ng), pc := st.pc })) := by
  have hπ : ∀ g, g < ng → (π0 g).1 = g := fun g hg => (hh.glob g (by rw [hng]; exact hg)).2
  have hSg : ∀ g, g < ng → S g := fun g hg => (hh.glob g (by rw [hng]; exact hg)).1
  have hngn : ng ≤ st.n := by
    rcases Nat.lt_or_ge st.n ng with h | h
    · exact absurd (hSg st.n h) (hh.fresh st.n (Nat.le_refl _))
    · exact h
  have hW : ∀ x ∈ L, w.heap[x.1]? = some (ρ.ro x.1) := by
    intro x hx
    obtain ⟨c, hc⟩ := roThere_get hthere x hx
    obtain ⟨ob, h1, _, h2⟩ := (hh.at_.rep π0 fun _ _ => rfl).obj _ _ hc
    rw [hπ _ (hL x hx), h2] at h1
    exact h1
  have hW2 : ∀ x ∈ L, w.heap[x.1]? = some (ρ'.ro x.1) := fun x hx => by rw [hroe]; exact hW x hx
  have h0 := here_stG (cx0 := cx0) (π0 := π0) hng0 hL hro hπ hW2
  have ha0 : SaysL ρ' (fun i => i < ng) π0 args ac := fun π _ => (V.pures_eq hpure).trans (ha π0 fun _ _ => rfl)
  refine ((ev_ok hmix htt hft hsm N).2.2 f args _ _ hsel _ π0 w ac n h0 ha0 ⟨fn, hfn⟩).mono fun e w' hp => ?_
  obtain ⟨_, πc, g, c, rfl, hv⟩ := hp
  have hb := below_of hL hπ hW2 g hthere'
  have hle : ng ≤ st'.n := g.le
  refine ⟨hh.pc, fun i => if i < st.n then π0 i else πc (i - st.n + ng), ?_⟩
  have hpi : ∀ b, (fun i => if i < st.n then π0 i else πc (i - st.n + ng)) (sh st.n ng b) = πc b := by
    intro b
    dsimp only
    rcases Nat.lt_or_ge b ng with h | h
    · rw [sh_lt h, if_pos (by omega), g.known b h]
    · rw [sh_ge h, if_neg (by omega), show b - ng + st.n - st.n + ng = b by omega]
  have hkn : ∀ π, Known (Ext S st.n (st.n + (st'.n - ng))) π (fun i => if i < st.n then π0 i else πc (i - st.n + ng)) → Known (Ext (fun i => i < ng) ng st'.n) (fun b => π (sh st.n ng b)) πc := by
    intro π hk b hbb
    dsimp only
    rw [← hpi b]
    refine hk _ ?_
    rcases hbb with h | ⟨h1, h2⟩
    · rw [sh_lt h]
      exact .inl (hSg b h)
    · rw [sh_ge h1]
      exact .inr ⟨by omega, by omega⟩
  have hk0 : Known S (fun i => if i < st.n then π0 i else πc (i - st.n + ng)) π0 := by
    intro i hi
    dsimp only
    rw [if_pos]
    rcases Nat.lt_or_ge i st.n with h | h
    · exact h
    · exact absurd hi (hh.fresh i h)
  have hold : ∀ π, Known (Ext S st.n (st.n + (st'.n - ng))) π (fun i => if i < st.n then π0 i else πc (i - st.n + ng)) → ∀ i o, st.h.get i = some o → ∃ ob, w.heap[(π i).1]? = some ob ∧ o.is ρ π i ob := by
    intro π hk i o hi
    exact (hh.at_.rep π fun j hj => (hk j (.inl hj)).trans (hk0 j hj)).obj i o hi
  have hnew : ∀ x ∈ objs, w.heap.size ≤ (πc x.1).1 := by
    intro x hx
    obtain ⟨h1, o, h2, h3, hob⟩ := hobjs x hx
    rcases g.sub x.1 o h2 with h | ⟨i0, o0, h4, h5⟩
    · exact h
    · obtain ⟨y, hy, rfl, rfl⟩ := roHeap_get h4
      exfalso
      obtain ⟨c, hc⟩ := roThere_get hthere' y hy
      have h6 := (g.at_.rep πc fun _ _ => rfl).inj y.1 x.1 _ _ hc h2 (by rw [← h5, g.known y.1 (hL y hy)])
      have := hL y hy
      omega
  refine ⟨?_, ⟨c, rfl, fun π hk => ?_⟩⟩
  · refine ⟨by dsimp only; omega, hk0, ⟨fun π hk => ⟨fun i o hi => ?_, fun i j o o' hi hj e => ?_⟩, fun i o hi => ?_⟩, fun i o hi => ?_, fun j hj hne => hb.block j hj, hb.size, ⟨hb.tape, hb.os, hb.output⟩⟩
    · rcases putAll_get hi with ⟨x, hx, rfl, rfl⟩ | hi
      · obtain ⟨h1, o, h2, h3, hob⟩ := hobjs x hx
        obtain ⟨ob, h4, h5⟩ := (g.at_.rep _ (hkn π hk)).obj x.1 o h2
        exact ⟨ob, h4, SObj.is_ren h3 (hob _ _ _ h5)⟩
      · obtain ⟨ob, h1, h2⟩ := hold π hk i o hi
        have hlt : (π i).1 < w.heap.size := (Array.getElem?_eq_some_iff.1 h1).1
        exact ⟨ob, by rw [hb.block _ hlt]; exact h1, h2⟩
    · have hmix : ∀ (i j : Nat) (o : SObj) (x : Nat × SObj), st.h.get i = some o → x ∈ objs → (π i).1 = (π (sh st.n ng x.1)).1 → False := by
        intro i j o x hi hx e
        obtain ⟨ob, h1, _⟩ := hold π hk i o hi
        have hlt : (π i).1 < w.heap.size := (Array.getElem?_eq_some_iff.1 h1).1
        have h2 := hnew x hx
        obtain ⟨h3, o, h4, _⟩ := hobjs x hx
        have h5 : (π (sh st.n ng x.1)) = πc x.1 := hkn π hk x.1 (g.at_.dom _ _ h4)
        rw [h5] at e
        omega
      rcases putAll_get hi with ⟨x, hx, rfl, rfl⟩ | hi <;> rcases putAll_get hj with ⟨y, hy, rfl, rfl⟩ | hj
      · obtain ⟨h1, _, h2, h3⟩ := hobjs x hx
        obtain ⟨h4, _, h5, h6⟩ := hobjs y hy
        rw [(g.at_.rep _ (hkn π hk)).inj x.1 y.1 _ _ h2 h5 e]
      · exact (hmix j 0 _ x hj hx e.symm).elim
      · exact (hmix i 0 _ y hi hy e).elim
      · exact (hh.at_.rep π fun j hj => (hk j (.inl hj)).trans (hk0 j hj)).inj i j _ _ hi hj e
    · rcases putAll_get hi with ⟨x, hx, rfl, rfl⟩ | hi
      · obtain ⟨h1, _, h2, h3⟩ := hobjs x hx
        rcases g.at_.dom _ _ h2 with h | ⟨_, h⟩
        · have : x.1 < ng := h
          omega
        · have h' : x.1 < st'.n := h
          rw [sh_ge h1]
          exact .inr ⟨by omega, by dsimp only; omega⟩
      · exact .inl (hh.at_.dom i o hi)
    · rcases putAll_get hi with ⟨x, hx, rfl, rfl⟩ | hi
      · refine .inl ?_
        have := hnew x hx
        rw [← hpi x.1] at this
        exact this
      · exact .inr ⟨i, o, hi, congrArg Prod.fst (hk0 i (hh.at_.dom i o hi)).symm⟩
  · rw [V.conc_ren _ _ _ _ hnw, hv']
    exact hv _ (hkn π hk)

/-- A call that was run by itself, in another heap. -/
theorem leaf_post (hmix : P.follows .mixedOrders = true) (htt : TOk P cx0.tt) (hft : FOk P cx0.ft) (hsm : SumOk P cx0 ρ) (hng : cx.ng = ng) (hng0 : cx0.ng = ng) (hL : ∀ x ∈ L, x.1 < ng) (hro : RoAt ρ L)
    {N : Nat} {f : FuncId} {fn : Func} {args : List V} {v : V} {objs : List (Nat × SObj)} (hsel : ((ev cx0 N).call f args (stG L ng)).sel ρ = some (.ret v, st')) (hthere' : roThere L st'.h = true) (hnw : v.noWin = true)
    (hobjs : ∀ x ∈ objs, ng ≤ x.1 ∧ st'.h.get x.1 = some x.2 ∧ x.2.plain = true) (hpure : V.pures args = true) (hfn : P.funcs[f]? = some fn)
    (hh : Here cx ρ S π0 st w) (hthere : roThere L st.h = true) {ac : List Value} (ha : SaysL ρ S π0 args ac) {n : Nat} :
    CallsIn Fence.wide n P f ac.toArray w (EPost ρ S π0 st w (.ret (v.ren (sh st.n ng)), { h := putAll (sh st.n ng) objs st.h, n := st.n + (st'.n - ng), pc := st.pc })) :=
  leaf_post2 hmix htt hft hsm hng hng0 hL hro rfl hsel hthere' (fun _ => rfl) hnw (fun x hx => ⟨(hobjs x hx).1, x.2, (hobjs x hx).2.1, (hobjs x hx).2.2, fun _ _ _ h => h⟩) hpure hfn hh hthere ha

/-! ### Summaries out of runs -/
theorem keepOf_mem {h : H} {ng : Nat} : ∀ {l : List Nat}, ∀ x ∈ keepOf h ng l, ng ≤ x.1 ∧ h.get x.1 = some x.2 ∧ x.2.plain = true
  | [], x, hx => by simp [keepOf] at hx
  | b :: l, x, hx => by
    unfold keepOf at hx
    split at hx
    · rename_i hb
      split at hx
      · rename_i o ho
        split at hx
        · rename_i hp
          rcases List.mem_cons.1 hx with rfl | hx
          · exact ⟨Nat.le_of_ble_eq_true hb, ho, hp⟩
          · exact keepOf_mem x hx
        · exact keepOf_mem x hx
      · exact keepOf_mem x hx
    · exact keepOf_mem x hx
theorem leafOf_sel {lf : Leaf} : ∀ {r : EOut}, (leafOf L ng r).sel ρ = some lf → ∃ st', r.sel ρ = some (.ret lf.v, st') ∧ roThere L st'.h = true ∧ lf.v.noWin = true ∧ lf.objs = keepOf st'.h ng (reach st'.h ng 5 (addNew lf.v.names [])) ∧ lf.n = st'.n
  | .ok (.ret v, st), h => by
    unfold leafOf at h
    split at h
    · rename_i ht
      rw [Bool.and_eq_true] at ht
      simp only [R.sel, Option.some.injEq] at h
      subst h
      exact ⟨st, rfl, ht.1, ht.2, rfl, rfl⟩
    · simp [R.sel] at h
  | .ok (.panic _, _), h => by simp [leafOf, R.sel] at h
  | .br c t f, h => by
    unfold leafOf at h
    unfold R.sel at h ⊢
    split at h
    · rename_i hc
      rw [if_pos hc]
      exact leafOf_sel h
    · rename_i hc
      rw [if_neg hc]
      exact leafOf_sel h
  | .stuck _, h => by simp [leafOf, R.sel] at h
theorem goSum_sel {v : V} : ∀ {r : R Leaf} {st : St}, PcOk ρ st.pc → (goSum ng r st).sel ρ = some (v, st') →
    ∃ lf st1, r.sel ρ = some lf ∧ Like ρ st st1 ∧ v = lf.v.ren (sh st1.n ng) ∧ st' = { h := putAll (sh st1.n ng) lf.objs st1.h, n := st1.n + (lf.n - ng), pc := st1.pc }
  | .ok lf, st, hp, h => by
    simp only [goSum, R.sel, Option.some.injEq, Prod.mk.injEq] at h
    exact ⟨lf, st, rfl, .refl hp, h.1.symm, h.2.symm⟩
  | .br c t f, st, hp, h => by
    unfold goSum at h
    obtain ⟨st1, hl, h1⟩ := split_sel hp h
    split at h1
    · rename_i hc
      obtain ⟨lf, st2, h2, h3, h4⟩ := goSum_sel hl.pc h1
      exact ⟨lf, st2, by unfold R.sel; rw [if_pos hc]; exact h2, hl.trans h3, h4⟩
    · rename_i hc
      obtain ⟨lf, st2, h2, h3, h4⟩ := goSum_sel hl.pc h1
      exact ⟨lf, st2, by unfold R.sel; rw [if_neg (by simp [hc])]; exact h2, hl.trans h3, h4⟩
  | .stuck _, _, _, h => by simp [goSum, R.sel] at h
/-- Each row of such a table is a run's. -/
def TabOk (cx0 : Cx) (L : List (Nat × List V)) (ng N : Nat) (f : FuncId) (t : List (List V × R Leaf)) : Prop :=
  ∀ x ∈ t, V.pures x.1 = true ∧ leafOf L ng ((ev cx0 N).call f x.1 (stG L ng)) = x.2
theorem TabOk.nil {N : Nat} {f : FuncId} : TabOk cx0 L ng N f [] := fun x hx => by simp at hx
theorem TabOk.cons {N : Nat} {f : FuncId} {a : List V} {tr : R Leaf} {l : List (List V × R Leaf)} (h1 : V.pures a = true) (h2 : leafOf L ng ((ev cx0 N).call f a (stG L ng)) = tr) (h : TabOk cx0 L ng N f l) : TabOk cx0 L ng N f ((a, tr) :: l) :=
  fun x hx => by
    rcases List.mem_cons.1 hx with rfl | hx
    · exact ⟨h1, h2⟩
    · exact h x hx
/-- What is asked of one summary. -/
def SumAt (P : Program) (cx : Cx) (ρ : Env) (f : FuncId) (s : List V → St → R (V × St)) : Prop :=
  ∀ args st v st', (s args st).sel ρ = some (v, st') → ∀ S π0 w ac n, Here cx ρ S π0 st w → SaysL ρ S π0 args ac → CallsIn Fence.wide n P f ac.toArray w (EPost ρ S π0 st w (.ret v, st'))
theorem sumTab_ok (hmix : P.follows .mixedOrders = true) (htt : TOk P cx0.tt) (hft : FOk P cx0.ft) (hsm : SumOk P cx0 ρ) (hng : cx.ng = ng) (hng0 : cx0.ng = ng) (hL : ∀ x ∈ L, x.1 < ng) (hro : RoAt ρ L)
    {N : Nat} {f : FuncId} {fn : Func} (hfn : P.funcs[f]? = some fn) : ∀ {t : List (List V × R Leaf)}, TabOk cx0 L ng N f t → SumAt P cx ρ f (sumTab L ng t)
  | [], _, args, st, v, st', h, _, _, _, _, _, _, _ => by simp [sumTab, R.sel] at h
  | (a0, tr) :: l, ht, args, st, v, st', h, S, π0, w, ac, n, hh, ha => by
    unfold sumTab at h
    split at h
    · rename_i hb
      obtain rfl := V.beqs_eq _ _ hb
      split at h
      · rename_i hthere
        obtain ⟨lf, st1, h1, hl, rfl, rfl⟩ := goSum_sel hh.pc h
        obtain ⟨h2, h3⟩ := ht _ (List.mem_cons_self ..)
        dsimp only at h2 h3
        rw [← h3] at h1
        obtain ⟨st2, h4, h5, hnw, h6, h7⟩ := leafOf_sel h1
        have hh1 := hh.like hl
        have := leaf_post hmix htt hft hsm hng hng0 hL hro h4 h5 hnw (objs := lf.objs) (by rw [h6]; exact keepOf_mem) h2 hfn hh1 (by rw [hl.h]; exact hthere) ha (n := n)
        refine this.mono fun e w' hp => EPost.like hl ?_
        rw [h7]
        exact hp
      · simp [R.sel] at h
    · exact sumTab_ok hmix htt hft hsm hng hng0 hL hro hfn (fun x hx => ht x (List.mem_cons_of_mem _ hx)) args st v st' h S π0 w ac n hh ha
end
end Go.Proofs.YtcachlbljjpjdaaGreatDoor
