/- Symbolic execution, part 14: builtins. No condition. -/
import Derived.Test.YtcachlbljjpjdaaGreatDoorSeD
namespace Go.Proofs.YtcachlbljjpjdaaGreatDoor
open Go

theorem growBy_le (m : Nat) : ∀ (r c : Nat), Builtin.growBy m r c + 200 ≤ 2 ^ r * (c + 200)
  | 0, c => by simp [Builtin.growBy]
  | r + 1, c => by
    unfold Builtin.growBy
    split
    · have : 1 * (c + 200) ≤ 2 ^ (r + 1) * (c + 200) := Nat.mul_le_mul_right _ Nat.one_le_two_pow
      omega
    · have h1 := growBy_le m r (c + (c + 768) / 4)
      have h2 : c + (c + 768) / 4 + 200 ≤ 2 * (c + 200) := by omega
      have h3 : 2 ^ r * (c + (c + 768) / 4 + 200) ≤ 2 ^ r * (2 * (c + 200)) := Nat.mul_le_mul_left _ h2
      have h4 : 2 ^ r * (2 * (c + 200)) = 2 ^ (r + 1) * (c + 200) := by rw [Nat.pow_succ, Nat.mul_assoc]
      omega
theorem nextcap_ok (need c bytes : Nat) (h : (need + c + 1) * (bytes + 1) ≤ 2000000000) : ¬ (Builtin.nextslicecap need c * bytes > 2 ^ 48) := by
  have h1 : Builtin.nextslicecap need c ≤ need + 16 * c + 3200 := by
    unfold Builtin.nextslicecap
    split
    · omega
    · split
      · omega
      · have := growBy_le need 4 c
        omega
  have h2 : Builtin.nextslicecap need c * bytes ≤ (need + 16 * c + 3200) * bytes := Nat.mul_le_mul_right _ h1
  have h3 : (need + 16 * c + 3200) * bytes ≤ 3200 * ((need + c + 1) * (bytes + 1)) := by
    have e1 : (need + 16 * c + 3200) ≤ 3200 * (need + c + 1) := by omega
    have e2 : (need + 16 * c + 3200) * bytes ≤ (3200 * (need + c + 1)) * (bytes + 1) := Nat.mul_le_mul e1 (by omega)
    rw [Nat.mul_assoc] at e2
    exact e2
  omega
theorem size_ba (l : List UInt8) : (⟨l.toArray⟩ : ByteArray).size = l.length := by simp [ByteArray.size]
section ops
variable {P : Program} {cx : Cx} {ρ : Env} {π : Pl} {w : World} {tm : List V} {a : Act} {st st' : St} {r : OR} {o : Oper}
theorem RepH.heap {h : H} {w' : World} (hr : RepH ρ π h w) (he : w'.heap = w.heap) : RepH ρ π h w' := ⟨fun i o hi => by rw [he]; exact hr.obj i o hi, hr.inj⟩
theorem Mv.from_heap {h h' : H} {n n' : Nat} {w1 w' : World} (m : Mv ρ π h n w1 h' n' w') (he : w1.heap = w.heap) (hs : w1.tape = w.tape ∧ w1.os = w.os ∧ w1.output = w.output) : Mv ρ π h n w h' n' w' where
  rep := m.rep
  dom := m.dom
  sub := by rw [← he]; exact m.sub
  keep := by rw [← he]; exact m.keep
  size := by rw [← he]; exact m.size
  same := ⟨m.same.1.trans hs.1, m.same.2.1.trans hs.2.1, m.same.2.2.trans hs.2.2⟩
theorem lenOf_ok {v : V} {n : Nat} (h : lenV v = some n) : (Builtin.lenOf (v.conc ρ π)).run P w = .ok n w := by
  unfold lenV at h
  split at h
  · simp only [Option.some.injEq] at h; subst h; simp [V.conc, Builtin.lenOf]
  · simp only [Option.some.injEq] at h; subst h; simp [V.conc, Builtin.lenOf]
  · simp only [Option.some.injEq] at h; subst h; simp [V.conc, Builtin.lenOf, X.sden, size_ba]
  · simp at h
theorem elemsOf_ok {h : H} (hr : RepH ρ π h w) {size n : Nat} {v : V} {cs : List V} (e : elemsOf h size n v = some cs) :
    (Builtin.firstCells size n (v.conc ρ π)).run P w = .ok (V.concs ρ π cs).toArray w := by
  unfold elemsOf at e
  split at e
  · simp only [V.conc, Builtin.firstCells]
    exact (load_cells hr e).1
  · simp only [Option.some.injEq] at e; subst e; simp [V.conc, Builtin.firstCells, V.concs]
  · rename_i l
    simp only [Option.some.injEq] at e; subst e
    simp only [V.conc, Builtin.firstCells, Sem.run_pure, X.sden]
    congr 1
    apply Array.ext'
    rw [Array.toList_map, Lib.extract_data]
    show List.map _ (((l.map UInt8.ofNat).toArray.toList.drop 0).take (n - 0)) = _
    simp only [List.drop_zero, Nat.sub_zero, concs_map, List.map_map, ← List.map_take]
    apply List.map_congr_left
    intro x _
    simp [V.conc, X.den, UInt8.toNat_ofNat']
  · simp at e
theorem takeN_all {α : Type} : ∀ (l : List α), takeN l.length l = some l
  | [] => rfl
  | a :: l => by simp [takeN, takeN_all l]
/-- A block goes on under another name, with other contents. -/
theorem Mv.move {h : H} (hr : RepH ρ π h w) {n b : Nat} {o o' : SObj} {ob : Obj} (hb : h.get b = some o) (hn : (π n).1 = (π b).1) (ho : o'.is ρ π n ob) :
    Mv ρ π h n w ((h.drop b).set n o') (n + 1) { w with heap := w.heap.setIfInBounds (π b).1 ob } := by
  obtain ⟨ob0, h1, _⟩ := hr.obj b o hb
  have hlt : (π b).1 < w.heap.size := (Array.getElem?_eq_some_iff.1 h1).1
  have hget : ∀ i x, n ≠ i → ((h.drop b).set n o').get i = some x → h.get i = some x ∧ b ≠ i := by
    intro i x e hi
    rw [T.get_set_other _ _ e] at hi
    by_cases eb : b = i
    · subst eb; rw [T.get_drop_same] at hi; simp at hi
    · rw [T.get_drop_other _ eb] at hi; exact ⟨hi, eb⟩
  refine ⟨⟨?_, ?_⟩, ?_, ?_, ?_, ?_, ⟨rfl, rfl, rfl⟩⟩
  · intro i x hi
    by_cases e : n = i
    · subst e
      rw [T.get_set_same] at hi
      cases hi
      exact ⟨ob, by rw [hn]; simp [hlt], ho⟩
    · obtain ⟨hi2, eb⟩ := hget i x e hi
      obtain ⟨x', h2, h3⟩ := hr.obj i x hi2
      refine ⟨x', ?_, h3⟩
      have : (π b).1 ≠ (π i).1 := fun e' => eb (hr.inj b i _ _ hb hi2 e')
      rw [← h2]
      simp only [Array.getElem?_setIfInBounds]
      rw [if_neg this]
  · intro i j x y hi hj he
    by_cases e : n = i
    · by_cases e' : n = j
      · rw [← e, ← e']
      · obtain ⟨hj2, eb⟩ := hget j y e' hj
        subst e
        exact absurd (hr.inj b j _ _ hb hj2 (by rw [← hn, he])) eb
    · obtain ⟨hi2, eb⟩ := hget i x e hi
      by_cases e' : n = j
      · subst e'
        exact absurd (hr.inj b i _ _ hb hi2 (by rw [← hn, he])) eb
      · obtain ⟨hj2, _⟩ := hget j y e' hj
        exact hr.inj i j _ _ hi2 hj2 he
  · intro i x hi
    by_cases e : n = i
    · exact .inr (by omega)
    · exact .inl ⟨x, (hget i x e hi).1⟩
  · intro i x hi
    by_cases e : n = i
    · subst e; exact .inr ⟨b, o, hb, hn.symm⟩
    · exact .inr ⟨i, x, (hget i x e hi).1, rfl⟩
  · intro j hj hne
    simp only [Array.getElem?_setIfInBounds]
    rw [if_neg (hne b o hb)]
  · simp
/-- The call of a builtin. -/
theorem run_builtin {cl : Call} {b : Builtin} {args : List V} (ho : o.op = .call cl) (hb : cl.callee = .builtin b) (ha : cl.args.toList.map a.eval = V.concs ρ π args) :
    ∃ consts, (execOp a.eval o).run P w = (builtin b cl.argTypes o.type consts (V.concs ρ π args).toArray).run P w := by
  refine ⟨cl.args.map fun | .const _ => true | _ => false, ?_⟩
  simp only [execOp, ho, resolve, hb, map_arr, ha, Sem.run_bind, Sem.run_pure, Result.andThen_ok, invoke]
  rfl
theorem ok_len {cl : Call} {args : List V} (c : Ctx P cx ρ π st.h w tm a) (hpc : PcOk ρ st.pc) (ho : o.op = .call cl) (hb : cl.callee = .builtin .len) (ha : cl.args.toList.map a.eval = V.concs ρ π args)
    (h : (evLen cx st cl.argTypes.toList args).sel ρ = some (r, st')) : OpOk P cx tm ρ π st st' w ((execOp a.eval o).run P w) r := by
  have hl := Like.refl hpc
  obtain ⟨consts, hrun⟩ := run_builtin (P := P) (w := w) ho hb ha
  unfold evLen at h
  split at h
  · rename_i t ts x xs hts
    have ht0 : cl.argTypes[0]? = some t := by rw [← Array.getElem?_toList, hts]; rfl
    have key : ∀ u : V, (Builtin.len_ cl.argTypes o.type (V.concs ρ π (x :: xs)).toArray).run P w = .ok (u.conc ρ π) w → (execOp a.eval o).run P w = .ok (.value (u.conc ρ π)) w := by
      intro u hu
      rw [hrun]
      simp [builtin, hu]
    split at h
    · rename_i td hd
      have hk := c.tt t td hd
      have hu := hk.under
      split at h
      · rename_i y hdd
        rw [hdd] at hu
        refine OpOk.value c.rep hl h (key _ ?_)
        simp [Builtin.len_, ht0, V.concs, run_underlying hu, V.conc, mkLen_den, size_ba, goInt]
      · rename_i n e y hdd
        rw [hdd] at hu
        refine OpOk.value c.rep hl h (key _ ?_)
        simp [Builtin.len_, ht0, V.concs, run_underlying hu, V.conc, X.den, goInt]
      · rename_i y arr hdd
        rw [hdd] at hu
        split at h
        · rename_i ad had
          have hka := c.tt arr ad had
          have hua := hka.under
          split at h
          · rename_i n e hdd2
            rw [hdd2] at hua
            refine OpOk.value c.rep hl h (key _ ?_)
            simp [Builtin.len_, ht0, V.concs, run_underlying hu, run_underlying hua, V.conc, X.den, goInt]
          · simp [R.sel] at h
        · simp [R.sel] at h
      · rename_i e b off n cp hdd
        rw [hdd] at hu
        refine OpOk.value c.rep hl h (key _ ?_)
        simp [Builtin.len_, ht0, V.concs, run_underlying hu, V.conc, X.den, goInt]
      · rename_i e hdd
        rw [hdd] at hu
        refine OpOk.value c.rep hl h (key _ ?_)
        simp [Builtin.len_, ht0, V.concs, run_underlying hu, V.conc, X.den, goInt]
      · rename_i e b off n cp hdd
        rw [hdd] at hu
        obtain ⟨st1, hl1, h1⟩ := split_sel hpc h
        rw [mkLe_tt] at h1
        split at h1
        · rename_i hle
          have hle' := of_decide_eq_true hle
          simp only [X.den] at hle'
          refine OpOk.value c.rep hl1 h1 (key _ ?_)
          simp [Builtin.len_, ht0, V.concs, run_underlying hu, V.conc, goInt]
          omega
        · simp [R.sel] at h1
      · rename_i k e hdd
        rw [hdd] at hu
        refine OpOk.value c.rep hl h (key _ ?_)
        simp [Builtin.len_, ht0, V.concs, run_underlying hu, V.conc, X.den, goInt]
      · rename_i k e b hdd
        rw [hdd] at hu
        split at h
        · rename_i es hb
          obtain ⟨ms, clock, h1, h2, _⟩ := c.rep.mapObj hb
          have hlen : ms.length = es.length := by
            have := h2.length_eq
            simpa [entriesOf] using this
          refine OpOk.value c.rep hl h (key _ ?_)
          simp [Builtin.len_, ht0, V.concs, run_underlying hu, V.conc, X.den, goInt, run_getObj_map h1, hlen]
        · simp [R.sel] at h
      · simp [R.sel] at h
    · simp [R.sel] at h
  · simp [R.sel] at h
theorem max2_ok {gt : Bool} {x y z : V} (h : max2V gt x y = some z) : (if gt then Builtin.max2 (x.conc ρ π) (y.conc ρ π) else Builtin.min2 (x.conc ρ π) (y.conc ρ π)).run P w = .ok (z.conc ρ π) w := by
  unfold max2V at h
  split at h
  · split at h
    · rename_i hk
      simp only [Option.some.injEq] at h
      subst h
      cases gt
      · simp only [V.conc, Bool.false_eq_true, if_false, Builtin.min2, Sem.run_pure, mkIte_den, mkLt_tt, decide_eq_true_eq]
      · simp only [V.conc, if_true, Builtin.max2, Sem.run_pure, mkIte_den, mkLt_tt, decide_eq_true_eq, gt_iff_lt]
    · simp at h
  · simp at h
theorem maxV_ok {gt : Bool} : ∀ {l : List V} {x z : V}, maxV gt x l = some z → ((V.concs ρ π l).foldlM (if gt then Builtin.max2 else Builtin.min2) (x.conc ρ π)).run P w = .ok (z.conc ρ π) w
  | [], x, z, h => by simp only [maxV, Option.some.injEq] at h; subst h; simp [V.concs]
  | y :: l, x, z, h => by
    simp only [maxV] at h
    split at h
    · rename_i c hc
      have := max2_ok (P := P) (ρ := ρ) (π := π) (w := w) hc
      have e : ((if gt then Builtin.max2 else Builtin.min2) (x.conc ρ π) (y.conc ρ π)).run P w = .ok (c.conc ρ π) w := by
        rw [← this]; cases gt <;> rfl
      rw [V.concs, List.foldlM_cons, Sem.run_bind, e, Result.andThen_ok]
      exact maxV_ok h
    · simp at h
theorem ok_max {gt : Bool} {cl : Call} {x : V} {l : List V} {s : String} (c : Ctx P cx ρ π st.h w tm a) (hpc : PcOk ρ st.pc) (ho : o.op = .call cl) (hb : cl.callee = .builtin (if gt then .max else .min)) (ha : cl.args.toList.map a.eval = V.concs ρ π (x :: l))
    (h : (optv st (maxV gt x l) s).sel ρ = some (r, st')) : OpOk P cx tm ρ π st st' w ((execOp a.eval o).run P w) r := by
  obtain ⟨consts, hrun⟩ := run_builtin (P := P) (w := w) ho hb ha
  refine OpOk.optv c.rep (.refl hpc) h fun u hu => ?_
  rw [hrun]
  have := maxV_ok (P := P) (ρ := ρ) (π := π) (w := w) hu
  cases gt
  · simp only [Bool.false_eq_true, if_false] at this ⊢
    simp [builtin, Builtin.min_, V.concs, this]
  · simp only [if_true] at this ⊢
    simp [builtin, Builtin.max_, V.concs, this]
theorem ok_copy {cl : Call} {args : List V} (c : Ctx P cx ρ π st.h w tm a) (hpc : PcOk ρ st.pc) (ho : o.op = .call cl) (hb : cl.callee = .builtin .copy) (ha : cl.args.toList.map a.eval = V.concs ρ π args)
    (h : (evCopy cx st cl.argTypes.toList args).sel ρ = some (r, st')) : OpOk P cx tm ρ π st st' w ((execOp a.eval o).run P w) r := by
  have hl := Like.refl hpc
  obtain ⟨consts, hrun⟩ := run_builtin (P := P) (w := w) ho hb ha
  unfold evCopy at h
  split at h
  · rename_i t ts d x xs hts
    have ht0 : cl.argTypes[0]? = some t := by rw [← Array.getElem?_toList, hts]; rfl
    split at h
    · rename_i td hd
      have hk := c.tt t td hd
      have hu := hk.under
      split at h
      · rename_i elem hdd
        rw [hdd] at hu
        split at h
        · rename_i ed dl xl hed hdl hxl
          have hke := c.tt elem ed hed
          simp only at h
          split at h
          · simp [R.sel] at h
          · rename_i cs hcs
            have h1 := lenOf_ok (P := P) (ρ := ρ) (π := π) (w := w) hxl
            have h2 := elemsOf_ok (P := P) (ρ := ρ) (π := π) c.rep hcs
            split at h
            · refine OpOk.value c.rep hl h ?_
              rw [hrun]
              simp only [lenV, Option.some.injEq] at hdl
              subst hdl
              rw [Nat.min_zero] at h2
              simp [builtin, Builtin.copy_, ht0, V.concs, run_underlying hu, V.conc, h1, hke.runSize, h2, X.den, goInt]
            · rename_i b off n2 cp
              simp only [lenV, Option.some.injEq] at hdl
              subst hdl
              split at h
              · rename_i h' hp
                simp only [okv, R.sel, Option.some.injEq, Prod.mk.injEq] at h
                obtain ⟨rfl, rfl⟩ := h
                obtain ⟨w', g1, g2⟩ := store_cells (P := P) c.rep hp st.n
                refine ⟨hpc, Nat.le_refl _, fun _ => ⟨w', ?_, g2⟩⟩
                rw [hrun]
                simp [builtin, Builtin.copy_, ht0, V.concs, run_underlying hu, V.conc, h1, hke.runSize, h2, X.den, goInt, g1]
              · simp [R.sel] at h
            · simp [R.sel] at h
        · simp [R.sel] at h
      · simp [R.sel] at h
    · simp [R.sel] at h
  · simp [R.sel] at h
theorem zeroCells_ok {ρ : Env} {π : Pl} (z : List V) (n : Nat) : Builtin.zeroCells (V.concs ρ π z).toArray n = (V.concs ρ π (repeatL z n)).toArray := by
  unfold Builtin.zeroCells
  rw [show (V.concs ρ π z).toArray.size = z.length by simp [concs_len]]
  have := zeros_ok ρ π z n
  rw [show (V.concs ρ π z).toArray.size = z.length by simp [concs_len]] at this
  exact this
/-- The run of an append that must grow. -/
theorem append_grows {cl : Call} {T : TypeId} {t u : TypeId} {elem : TypeId} {td ud ed : TD} (ht0 : cl.argTypes[0]? = some t) (ht1 : cl.argTypes[1]? = some u) (hk : TDOk P t td) (hku : TDOk P u ud) (hke : TDOk P elem ed)
    (hdd : td.d = .slice elem) (hud : ∀ k, ud.d ≠ .int k) {h : H} (hr : RepH ρ π h w) {x : V} {xs : List V} {base : Option Addr} {sLen sCap n : Nat} {old new : List V} (hx : lenV x = some n) (hnew : elemsOf h ed.size n x = some new)
    (hold : ∀ w' : World, w'.heap = w.heap → (Builtin.firstCells ed.size sLen (.slice base sLen sCap)).run P w' = .ok (V.concs ρ π old).toArray w')
    (hgt : ¬ sLen + n ≤ sCap) (hsmall : (sLen + n + sCap + 1) * (ed.bytes + 1) ≤ 2000000000) :
    ∃ (cap : Nat) (w1 : World), sLen + n ≤ cap ∧ w1.heap = w.heap ∧ (w1.tape = w.tape ∧ w1.os = w.os ∧ w1.output = w.output) ∧
      (Builtin.append_ cl.argTypes T (Value.slice base sLen sCap :: V.concs ρ π (x :: xs)).toArray).run P w =
        .ok (.slice (some ⟨w.heap.size, 0, none⟩) (sLen + n) cap) { w1 with heap := w1.heap.push (.cells (V.concs ρ π (old ++ new) ++ V.concs ρ π (repeatL ed.zero (cap - (sLen + n)))).toArray elem (0, 0)) } := by
  have hu := hk.under
  rw [hdd] at hu
  obtain ⟨i, hi, hsz, hby, _⟩ := hke.info
  have hti : ∀ w : World, (typeInfo elem).run P w = .ok i w := fun w => by simp [typeInfo, hi]
  have hneed : sLen + n ≤ 2000000000 := by
    have : (sLen + n + sCap + 1) * 1 ≤ (sLen + n + sCap + 1) * (ed.bytes + 1) := Nat.mul_le_mul_left _ (by omega)
    omega
  have hcap := nextcap_ok (sLen + n) sCap ed.bytes hsmall
  let q : Question := .appendCap (sLen + n) sCap elem
  let w1 : World := { w with drawn := w.drawn + 1 }
  have hch : (choose q).run P w = .ok (q.cut (w.tape w.drawn q)) w1 := by
    simp [choose, Sem.run, q, Question.forced, w1]
  have hle : sLen + n ≤ q.cut (w.tape w.drawn q) := by simp [q, Question.cut]
  have hroom : ∀ (m : Nat) (w : World), (askRoom m).run P w = .ok () w := by
    intro m w
    unfold askRoom
    split <;> simp [mark, Sem.run]
  refine ⟨q.cut (w.tape w.drawn q), w1, hle, rfl, ⟨rfl, rfl, rfl⟩, ?_⟩
  have hr1 : RepH ρ π h w1 := hr.heap rfl
  obtain ⟨z, hz, hzc, _⟩ := zero_cells hke w1 ρ π
  have hzeros : (underlying u).run P w = .ok ud.d w := hku.runUnder w
  have hnz : (match ud.d with | .int _ => true | _ => false) = false := by
    cases hq : ud.d <;> first | rfl | exact absurd hq (hud _)
  have hmx : ¬ (((sLen + n : Nat) : Int) > IntKind.i64.max) := by rw [IntKind.max_i64]; omega
  have hh1 := lenOf_ok (P := P) (ρ := ρ) (π := π) (w := w) hx
  have hh2 := elemsOf_ok (P := P) (ρ := ρ) (π := π) hr1 hnew
  have hm : ∀ (al be : Bool), (match ud.d with | .int _ => al | _ => be) = be := by
    intro al be
    cases hq : ud.d <;> first | rfl | exact absurd hq (hud _)
  simp only [Builtin.append_, ht0, ht1, V.concs, List.getElem?_toArray, List.getElem?_cons_zero, List.getElem?_cons_succ, Sem.run_bind, run_underlying hu, Result.andThen_ok, hke.runSize, hzeros, Sem.run_pure]
  have hold1 := hold w1 rfl
  have hch' : (choose (Question.appendCap (sLen + n) sCap elem)).run P w = .ok (q.cut (w.tape w.drawn q)) w1 := hch
  simp only [Bool.false_eq_true, if_false, Bool.not_false, if_true, Sem.run_bind, hh1, Result.andThen_ok, if_neg hgt, hti, hmx, false_and, hby, hcap, hch', hroom, hold1, hh2, hz, hzc, zeroCells_ok]
  simp only [newRow, Go.newObj, Sem.run_bind, Sem.run, Result.andThen_ok, Sem.run_pure]
  simp only [concs_append, List.append_toArray]
  rfl
theorem ok_append {cl : Call} {args : List V} (c : Ctx P cx ρ π st.h w tm a) (hpc : PcOk ρ st.pc) (ho : o.op = .call cl) (hb : cl.callee = .builtin .append) (ha : cl.args.toList.map a.eval = V.concs ρ π args)
    (h : (evAppend cx st cl.argTypes.toList args).sel ρ = some (r, st')) : OpOk P cx tm ρ π st st' w ((execOp a.eval o).run P w) r := by
  have hl := Like.refl hpc
  obtain ⟨consts, hrun⟩ := run_builtin (P := P) (w := w) ho hb ha
  unfold evAppend at h
  split at h
  · rename_i t u ts s x xs hts
    have ht0 : cl.argTypes[0]? = some t := by rw [← Array.getElem?_toList, hts]; rfl
    have ht1 : cl.argTypes[1]? = some u := by rw [← Array.getElem?_toList, hts]; rfl
    split at h
    · rename_i td ud hd hud
      have hk := c.tt t td hd
      have hku := c.tt u ud hud
      split at h
      · simp [R.sel] at h
      · rename_i elem hdd hni
        split at h
        · simp [R.sel] at h
        · rename_i ed hed
          have hke := c.tt elem ed hed
          split at h
          · simp [R.sel] at h
          · rename_i n hn
            split at h
            · simp [R.sel] at h
            · rename_i new hnew
              split at h
              · simp [R.sel] at h
              · rename_i hsz
                have hsz' := Nat.eq_of_beq_eq_true hsz
                have hlx := lenOf_ok (P := P) (ρ := ρ) (π := π) (w := w) hn
                have hex := elemsOf_ok (P := P) (ρ := ρ) (π := π) c.rep hnew
                have hu := hk.under
                rw [hdd] at hu
                have hniz : ∀ k, ud.d ≠ .int k := fun k e => hni k e
                -- a new, wide block
                have wide : ∀ (base : Option Addr) (sLen sCap : Nat) (old : List V) (hs : s.conc ρ π = .slice base sLen sCap) (hold : ∀ w' : World, w'.heap = w.heap → (Builtin.firstCells ed.size sLen (.slice base sLen sCap)).run P w' = .ok (V.concs ρ π old).toArray w')
                    (hol : old.length = sLen * ed.size) (hgt : ¬ sLen + n ≤ sCap) (hsmall : (sLen + n + sCap + 1) * (ed.bytes + 1) ≤ 2000000000) (hd : H) (hsub : ∀ i o, hd.get i = some o → st.h.get i = some o)
                    (h : R.sel ρ (okv (newObj { st with h := hd } (.cells (old ++ new) elem (some ed.size))) (.slice st.n 0 (sLen + n) (.room st.n 0))) = some (r, st')), OpOk P cx tm ρ π st st' w ((execOp a.eval o).run P w) r := by
                  intro base sLen sCap old hs hold hol hgt hsmall hd hsub h
                  simp only [okv, R.sel, Option.some.injEq, Prod.mk.injEq] at h
                  obtain ⟨rfl, rfl⟩ := h
                  obtain ⟨cap, w1, hle, hw1, hw2, hap⟩ := append_grows (T := o.type) (xs := xs) ht0 ht1 hk hku hke hdd hniz c.rep hn hnew hold hgt hsmall
                  rw [← hs] at hap
                  have hfull : (execOp a.eval o).run P w = .ok (.value (.slice (some ⟨w.heap.size, 0, none⟩) (sLen + n) cap)) { w1 with heap := w1.heap.push (.cells (V.concs ρ π (old ++ new) ++ V.concs ρ π (repeatL ed.zero (cap - (sLen + n)))).toArray elem (0, 0)) } := by
                    rw [hrun]
                    simp only [builtin, V.concs, Sem.run_bind] at hap ⊢
                    rw [hap]
                    rfl
                  refine ⟨hpc, by simp [newObj], fun hpl => ?_⟩
                  have hpl' := hpl (by simp [newObj])
                  rw [hfull] at hpl'
                  simp only [resPlace] at hpl'
                  refine ⟨_, by rw [hfull]; simp only [V.conc, Cp.conc, hpl', Nat.sub_zero]; rfl, ?_⟩
                  have hr1 : RepH ρ π hd w1 := ⟨fun i o hi => by rw [hw1]; exact c.rep.obj i o (hsub i o hi), fun i j o o' hi hj => c.rep.inj i j o o' (hsub i o hi) (hsub j o' hj)⟩
                  have m := Mv.new (n := st.n) (o := .cells (old ++ new) elem (some ed.size)) (ob := .cells (V.concs ρ π (old ++ new) ++ V.concs ρ π (repeatL ed.zero (cap - (sLen + n)))).toArray elem (0, 0)) hr1 (by rw [hpl', hw1]) ⟨_, rfl, by
                    simp only [wideIs, concs_len, repeatL_len, hke.len, List.length_append, hsz', hol, hpl']
                    rw [← Nat.add_mul, ← Nat.add_mul]
                    congr 1; omega⟩
                  have m2 := m.from_heap (w := w) hw1 hw2
                  exact ⟨m2.rep, fun i o hi => (m2.dom i o hi).imp_left fun ⟨o0, h0⟩ => ⟨o0, hsub i o0 h0⟩, fun i o hi => (m2.sub i o hi).imp_right fun ⟨i0, o0, h0, e⟩ => ⟨i0, o0, hsub i0 o0 h0, e⟩,
                    fun j hj hne => m2.keep j hj fun i o hi => hne i o (hsub i o hi), m2.size, m2.same⟩
                split at h
                · -- nil
                  split at h
                  · rename_i hn0
                    have hn0' := Nat.eq_of_beq_eq_true hn0
                    subst hn0'
                    refine OpOk.value c.rep hl h ?_
                    rw [hrun]
                    simp [builtin, Builtin.append_, ht0, ht1, V.concs, V.conc, run_underlying hu, hke.runSize, hku.runUnder, hlx, hex]
                  · rename_i hn0
                    split at h
                    · rename_i hsm
                      have hsm' := Nat.le_of_ble_eq_true hsm
                      have hne : n ≠ 0 := fun e => hn0 (by rw [e]; rfl)
                      have h' : R.sel ρ (okv (newObj { st with h := st.h } (.cells ([] ++ new) elem (some ed.size))) (.slice st.n 0 (0 + n) (.room st.n 0))) = some (r, st') := by simpa using h
                      exact wide none 0 0 [] rfl (fun w' _ => by simp [Builtin.firstCells, V.concs]) (by simp) (by omega) (by simp only [Nat.zero_add, Nat.add_zero]; omega) st.h (fun _ _ h => h) h'
                    · simp [R.sel] at h
                · rename_i b off len cc
                  split at h
                  · rename_i hfit
                    have hfit' := Nat.le_of_ble_eq_true hfit
                    split at h
                    · rename_i h' hp
                      simp only [okv, R.sel, Option.some.injEq, Prod.mk.injEq] at h
                      obtain ⟨rfl, rfl⟩ := h
                      obtain ⟨w', g1, g2⟩ := store_cells (P := P) c.rep hp st.n
                      refine ⟨hpc, Nat.le_refl _, fun _ => ⟨w', ?_, g2⟩⟩
                      rw [hrun]
                      simp [builtin, Builtin.append_, ht0, ht1, V.concs, V.conc, Cp.conc, run_underlying hu, hke.runSize, hku.runUnder, hlx, hex, hfit', addr_add, g1]
                    · simp [R.sel] at h
                  · rename_i hfit
                    split at h
                    · rename_i hsm
                      have hsm' := Nat.le_of_ble_eq_true hsm
                      split at h
                      · rename_i old hold
                        have hgt : ¬ len + n ≤ cc := fun e => hfit (Nat.ble_eq_true_of_le e)
                        exact wide _ len cc old rfl (fun w' hw' => (load_cells (c.rep.heap hw') hold).1) (load_cells (P := P) c.rep hold).2 hgt (by omega) st.h (fun _ _ h => h) h
                      · simp [R.sel] at h
                    · simp [R.sel] at h
                · rename_i b len b'
                  split at h
                  · rename_i cs e sz hbk
                    split at h
                    · rename_i hall
                      simp only [Bool.and_eq_true] at hall
                      obtain ⟨⟨⟨⟨⟨hb1, hb2⟩, hb3⟩, hb4⟩, hb5⟩, hb6⟩ := hall
                      have e1 := Nat.eq_of_beq_eq_true hb1
                      have e2 := Nat.eq_of_beq_eq_true hb2
                      have e3 := Nat.eq_of_beq_eq_true hb3
                      have e4 := Nat.eq_of_beq_eq_true hb4
                      have e5 := Nat.le_of_ble_eq_true hb5
                      subst e1 e2 e4
                      obtain ⟨spare, hsp1, hsp2⟩ := c.rep.cellsObj hbk
                      simp only [wideIs] at hsp2
                      by_cases hfit : len + n ≤ (π b).2
                      · simp only [okv, R.sel, Option.some.injEq, Prod.mk.injEq] at h
                        obtain ⟨rfl, rfl⟩ := h
                        have hfits : len * ed.size + n * ed.size ≤ (π b).2 * ed.size := by
                          rw [← Nat.add_mul]; exact Nat.mul_le_mul_right _ hfit
                        have hst := run_storeCells_at (P := P) (π b).1 (len * ed.size) e (V.concs ρ π new) 0 _ w hsp1 (by simp only [List.size_toArray, List.length_append, concs_len]; omega) (fun v hv => by
                          rw [concs_map] at hv
                          obtain ⟨u, hu, rfl⟩ := List.mem_map.1 hv
                          exact one_conc ρ π u (allOne_iff hb6 u hu))
                        have hlt : (π b).1 < w.heap.size := (Array.getElem?_eq_some_iff.1 hsp1).1
                        have ew : w.setRow (π b).1 (List.take (len * ed.size + 0) (V.concs ρ π cs ++ spare).toArray.toList ++ V.concs ρ π new ++ List.drop (len * ed.size + 0 + (V.concs ρ π new).length) (V.concs ρ π cs ++ spare).toArray.toList).toArray =
                            { w with heap := w.heap.setIfInBounds (π b).1 (.cells (V.concs ρ π (cs ++ new) ++ spare.drop new.length).toArray e (0, 0)) } := by
                          unfold World.setRow
                          congr 1
                          apply Array.ext_getElem?
                          intro j
                          simp only [Array.getElem?_modify, Array.getElem?_setIfInBounds]
                          by_cases ej : (π b).1 = j
                          · subst ej
                            simp only [if_true, hsp1, hlt, Option.map_some]
                            congr 2
                            simp only [Nat.add_zero, concs_len, concs_append]
                            rw [List.take_append_of_le_length (by rw [concs_len]; omega), List.take_of_length_le (by rw [concs_len]; omega), List.drop_append, List.drop_of_length_le (by rw [concs_len]; omega)]
                            simp only [List.nil_append, concs_len]
                            rw [show len * ed.size + new.length - cs.length = new.length by omega]
                          · simp [ej]
                        rw [ew] at hst
                        have hfull : (execOp a.eval o).run P w = .ok (.value (.slice (some ⟨(π b).1, 0, none⟩) (len + n) (π b).2)) { w with heap := w.heap.setIfInBounds (π b).1 (.cells (V.concs ρ π (cs ++ new) ++ spare.drop new.length).toArray e (0, 0)) } := by
                          rw [hrun]
                          simp [builtin, Builtin.append_, ht0, ht1, V.concs, V.conc, Cp.conc, run_underlying hu, hke.runSize, hku.runUnder, hlx, hex, hfit, addr_add, hst]
                        refine ⟨hpc, by simp [newObj], fun hpl => ?_⟩
                        have hpl' := hpl (by simp [newObj])
                        rw [hfull] at hpl'
                        simp only [resPlace] at hpl'
                        refine ⟨_, by rw [hfull]; simp only [V.conc, Cp.conc, hpl', Nat.sub_zero]; rfl, ?_⟩
                        exact Mv.move c.rep hbk (by rw [hpl']) ⟨_, rfl, by
                          simp only [wideIs, List.length_append, List.length_drop, hpl']
                          omega⟩
                      · have hold : cellsAt st.h b 0 (len * ed.size) = some cs := by
                          simp only [cellsAt, rowAt, hbk, dropN_eq, List.drop_zero]
                          rw [← e3]; exact takeN_all cs
                        refine wide _ len ((π b).2 - 0) cs rfl (fun w' hw' => ?_) e3 (by omega) ?_ (st.h.drop b) (fun i o hi => ?_) h
                        · exact (load_cells (c.rep.heap hw') hold).1
                        · have : (len + n + ((π b).2 - 0) + 1) * (ed.bytes + 1) ≤ (2 * (len + n + 1)) * (ed.bytes + 1) := Nat.mul_le_mul_right _ (by omega)
                          rw [Nat.mul_assoc] at this
                          omega
                        · by_cases eb : b = i
                          · subst eb; rw [T.get_drop_same] at hi; simp at hi
                          · rw [T.get_drop_other _ eb] at hi; exact hi
                    · simp [R.sel] at h
                  · simp [R.sel] at h
                · simp [R.sel] at h
      · simp [R.sel] at h
    · simp [R.sel] at h
  · simp [R.sel] at h
end ops
end Go.Proofs.YtcachlbljjpjdaaGreatDoor
