/- Symbolic execution, part 7: more operations: equality, strings, building, loading, storing. No condition. -/
import Derived.Test.YtcachlbljjpjdaaGreatDoorSe6
import Derived.Laws.StructEq
namespace Go.Proofs.YtcachlbljjpjdaaGreatDoor
open Go

section
variable {P : Program} {ρ : Env} {π : Pl} {w : World}
theorem seg_list (ρ : Env) (π : Pl) (cs l : List V) (off n : Nat) (h : takeN n (dropN cs off) = some l) : ((V.concs ρ π cs).drop off).take n = V.concs ρ π l := by
  obtain ⟨h1, _, h3⟩ := takeN_eq _ _ _ h
  rw [dropN_eq] at h1
  rw [← h1, concs_take, concs_drop]
theorem part_ok {tt : T TD} (ht : TOk P tt) {t : TypeId} {cs : List V} {off : Nat} {v : V} (h : partV tt t cs off = some v) :
    (part t (V.concs ρ π cs).toArray off).run P w = .ok (v.conc ρ π) w := by
  unfold partV at h
  split at h
  · rename_i d hd
    have hk := ht t d hd
    unfold part
    rw [Sem.run_bind, hk.runAgg]
    cases ha : d.agg with
    | true =>
      rw [ha] at h
      simp only [if_true] at h
      split at h
      · rename_i l hl
        simp only [Option.some.injEq] at h
        subst h
        simp [hk.runSize, V.conc, seg_list ρ π cs l off d.size hl]
      · simp at h
    | false =>
      rw [ha] at h
      simp only [Bool.false_eq_true, if_false, nth_eq] at h
      simp [concs_get, h]
  · simp at h
end

theorem beq_ba (a b : List UInt8) : ((⟨a.toArray⟩ : ByteArray) == ⟨b.toArray⟩) = (a == b) := by
  rw [show ((⟨a.toArray⟩ : ByteArray) == ⟨b.toArray⟩) = (a.toArray == b.toArray) from rfl]
  simp
theorem toList_ba (a : List UInt8) : (⟨a.toArray⟩ : ByteArray).toList = a := by
  rw [ByteArray.toList_eq]

/-! ### Equality -/
section eq
variable {P : Program} {tt : T TD} {ρ : Env} {π : Pl}
theorem forIn_arr {β : Type} (fs : Array Field) (b : β) (f : Field → β → Sem (ForInStep β)) : (forIn fs b f : Sem β) = forIn fs.toList b f := by
  rw [Array.forIn_toList]
theorem eqFields_ok (w : World) (ht : TOk P tt) (eq : TypeId → V → V → Option X) (d : Nat) (xs ys : List V)
    (heq : ∀ t x y e, eq t x y = some e → (Op.equalIn d t (x.conc ρ π) (y.conc ρ π)).run P w = .ok (e.tt ρ) w) :
    ∀ (fs : List Field) (e : X), eqFields eq tt xs ys fs = some e → (fs.all fun f => f.name != "_") = true →
      (forIn fs ((none : Option Bool), ()) (fun f (_ : Option Bool × Unit) =>
        (if f.name = "_" then pure (ForInStep.yield (none, ()))
        else do
          let x ← part f.type (V.concs ρ π xs).toArray f.offset
          let y ← part f.type (V.concs ρ π ys).toArray f.offset
          let r ← Op.equalIn d f.type x y
          if r = false then pure (ForInStep.done (some false, ())) else pure (ForInStep.yield (none, ())) : Sem (ForInStep (Option Bool × Unit))))).run P w =
        .ok (if e.tt ρ then none else some false, ()) w
  | [], e, h, _ => by
    simp only [eqFields, Option.some.injEq] at h
    subst h
    simp [X.tt, X.den]
  | f :: fs, e, h, hn => by
    simp only [eqFields] at h
    split at h
    · rename_i x y hx hy
      split at h
      · rename_i e1 e2 h1 h2
        simp only [Option.some.injEq] at h
        subst h
        simp only [List.all_cons, Bool.and_eq_true, bne_iff_ne, ne_eq] at hn
        have ih := eqFields_ok w ht eq d xs ys heq fs e2 h2 hn.2
        simp only [List.forIn_cons, Sem.run_bind, hn.1, if_false, part_ok ht hx, part_ok ht hy, Result.andThen_ok, heq _ _ _ _ h1, mkAnd_tt]
        cases he : e1.tt ρ with
        | true =>
          simp only [Bool.true_eq_false, if_false, Sem.run_pure, Result.andThen_ok, Bool.true_and]
          exact ih
        | false => simp
      · simp at h
    · simp at h
theorem eqElems_ok (w : World) (ht : TOk P tt) (eq : V → V → Option X) (d : Nat) (elem : TypeId) (n : Nat) (xs ys : List V)
    (heq : ∀ x y e, eq x y = some e → (Op.equalIn d elem (x.conc ρ π) (y.conc ρ π)).run P w = .ok (e.tt ρ) w) :
    ∀ (m i : Nat) (e : X), eqElems eq tt elem n xs ys i m = some e →
      (forIn (List.range' i m) ((none : Option Bool), ()) (fun j (_ : Option Bool × Unit) =>
        (do
          let x ← part elem (V.concs ρ π xs).toArray (j * n)
          let y ← part elem (V.concs ρ π ys).toArray (j * n)
          let r ← Op.equalIn d elem x y
          if r = false then pure (ForInStep.done (some false, ())) else pure (ForInStep.yield (none, ())) : Sem (ForInStep (Option Bool × Unit))))).run P w =
        .ok (if e.tt ρ then none else some false, ()) w
  | 0, i, e, h => by
    simp only [eqElems, Option.some.injEq] at h
    subst h
    simp [X.tt, X.den]
  | m + 1, i, e, h => by
    simp only [eqElems] at h
    split at h
    · rename_i x y hx hy
      split at h
      · rename_i e1 e2 h1 h2
        simp only [Option.some.injEq] at h
        subst h
        have ih := eqElems_ok w ht eq d elem n xs ys heq m (i + 1) e2 h2
        simp only [List.range'_succ, List.forIn_cons, Sem.run_bind, part_ok ht hx, part_ok ht hy, Result.andThen_ok, heq _ _ _ h1, mkAnd_tt]
        cases he : e1.tt ρ with
        | true =>
          simp only [Bool.true_eq_false, if_false, Sem.run_pure, Result.andThen_ok, Bool.true_and]
          exact ih
        | false => simp
      · simp at h
    · simp at h
set_option maxHeartbeats 2000000 in
theorem eqV_ok (ht : TOk P tt) (w : World) : ∀ (n : Nat) (m : Nat) (t : TypeId) (x y : V) (e : X), n ≤ m → eqV tt n t x y = some e →
    (Op.equalIn m t (x.conc ρ π) (y.conc ρ π)).run P w = .ok (e.tt ρ) w
  | 0, _, _, _, _, _, _, h => by simp [eqV] at h
  | n + 1, 0, _, _, _, _, hm, _ => by omega
  | n + 1, m + 1, t, x, y, e, hm, h => by
    unfold eqV at h
    split at h
    · simp at h
    · rename_i td hd
      have hk := ht t td hd
      have hu := hk.under
      simp only at h
      split at h
      · rename_i hdd
        simp only [Option.some.injEq] at h
        subst h
        rw [hdd] at hu
        simp [Op.equalIn, run_underlying hu, V.conc, mkIff_tt]
      · rename_i hdd
        rw [hdd] at hu
        split at h
        · rename_i hk2
          simp only [Option.some.injEq] at h
          subst h
          simp [Op.equalIn, run_underlying hu, V.conc, mkEq_tt, kindBeq_eq hk2]
        · simp at h
      · rename_i hdd
        simp only [Option.some.injEq] at h
        subst h
        rw [hdd] at hu
        simp [Op.equalIn, run_underlying hu, V.conc, mkSeq_tt]
        exact beq_ba _ _
      · rename_i hdd
        simp only [Option.some.injEq] at h
        subst h
        rw [hdd] at hu
        simp [Op.equalIn, run_underlying hu, V.conc, X.tt, X.den]
      · rename_i hdd
        simp only [Option.some.injEq] at h
        subst h
        rw [hdd] at hu
        simp [Op.equalIn, run_underlying hu, V.conc, X.tt, X.den]
      · rename_i hdd
        simp only [Option.some.injEq] at h
        subst h
        rw [hdd] at hu
        simp [Op.equalIn, run_underlying hu, V.conc, X.tt, X.den]
      · rename_i hdd
        simp only [Option.some.injEq] at h
        subst h
        rw [hdd] at hu
        simp [Op.equalIn, run_underlying hu, V.conc, X.tt, X.den]
      · rename_i hdd
        simp only [Option.some.injEq] at h
        subst h
        rw [hdd] at hu
        simp [Op.equalIn, run_underlying hu, V.conc, X.tt, X.den]
      · rename_i fields xs ys hdd
        split at h
        · rename_i hf
          rw [hdd] at hu
          have ha : td.agg = true := by rw [hk.agg, hdd]
          obtain ⟨_, hs, hn⟩ := hk.flat hf ha
          rw [hdd] at hn
          have := eqFields_ok (ρ := ρ) (π := π) w ht (eqV tt n) m xs ys (fun t x y e he => eqV_ok ht w n m t x y e (by omega) he) fields.toList e h hn
          unfold Op.equalIn
          simp only [V.conc, Sem.run_bind, run_underlying hu, Result.andThen_ok, program, Sem.run, hs, ne_eq, ite_not, Bool.not_eq_true', Bool.false_eq_true, if_false, forIn_arr]
          rw [this]
          cases e.tt ρ <;> rfl
        · simp at h
      · rename_i len elem xs ys hdd
        split at h
        · rename_i hf
          split at h
          · rename_i ed he
            have hke := ht elem ed he
            rw [hdd] at hu
            have := eqElems_ok (ρ := ρ) (π := π) w ht (eqV tt n elem) m elem ed.size xs ys (fun x y e he => eqV_ok ht w n m elem x y e (by omega) he) len 0 e h
            unfold Op.equalIn
            simp only [V.conc, Sem.run_bind, run_underlying hu, Result.andThen_ok, hke.runSize, ne_eq, ite_not, Bool.not_eq_true', forIn_arr]
            simp only [Std.Legacy.Range.forIn_eq_forIn_range', Std.Legacy.Range.size, Nat.sub_zero, Nat.add_sub_cancel, Nat.div_one]
            rw [this]
            cases e.tt ρ <;> rfl
          · simp at h
        · simp at h
      all_goals first
        | (simp at h; done)
        | (rename_i hdd
           simp only [Option.some.injEq] at h
           subst h
           rw [hdd] at hu
           simp [Op.equalIn, run_underlying hu, V.conc, X.tt, X.den])
end eq

section ops
variable {P : Program} {cx : Cx} {ρ : Env} {π : Pl} {w : World} {tm : List V} {a : Act} {st st' : St} {r : OR}
theorem ok_str {op : BinOp} {x y : X} {t : TypeId} {p q : Operand} {ty : TypeId} {o : Oper} (c : Ctx P cx ρ π st.h w tm a) (hpc : PcOk ρ st.pc) (ho : o.op = .binOp op t p q ty)
    (hx : a.eval p = (V.str x).conc ρ π) (hy : a.eval q = (V.str y).conc ρ π) (h : (binStr st op x y).sel ρ = some (r, st')) : OpOk P cx tm ρ π st st' w ((execOp a.eval o).run P w) r := by
  have hl := Like.refl hpc
  unfold binStr at h
  split at h
  · obtain ⟨st1, hl1, h1⟩ := split_sel hpc h
    split at h1
    · simp [R.sel] at h1
    · rename_i hd
      obtain ⟨st2, hl2, h2⟩ := split_sel hl1.pc h1
      split at h2
      · simp [R.sel] at h2
      · rename_i hd2
        have e1 := shortX_ok ρ hd
        have e2 := shortX_ok ρ hd2
        refine OpOk.value c.rep (hl1.trans hl2) h2 ?_
        have hs : ¬ ((((⟨(x.sden ρ).toArray⟩ : ByteArray).size + (⟨(y.sden ρ).toArray⟩ : ByteArray).size : Nat) : Int) > IntKind.i64.max) := by
          simp only [ByteArray.size, List.size_toArray, IntKind.max_i64]
          omega
        simp only [execOp, ho, hx, hy, V.conc, eqGuard_at_string, binOp, Op.stringOp, hs, if_false, mkCat_sden]
        simp only [Sem.run_pure, pure_bind]
        congr 3
  · refine OpOk.value c.rep hl h ?_
    simp only [execOp, ho, hx, hy, V.conc, eqGuard_at_string, binOp, Op.stringOp, toList_ba, mkSeq_tt]
    rfl
  · refine OpOk.value c.rep hl h ?_
    simp only [execOp, ho, hx, hy, V.conc, eqGuard_at_string, binOp, Op.stringOp, toList_ba, mkSeq_tt, mkNot_tt]
    rfl
  · simp [R.sel] at h
theorem eqGuardIn_agg (t : TypeId) (p q : Operand) (x y : Value) (hg : P.eqGuardType P.depth t = false) (op : BinOp) (hx : ∃ l, x = .agg l) (hy : ∃ l, y = .agg l) :
    (eqGuard op t p q x y).run P w = .ok () w := by
  obtain ⟨l, rfl⟩ := hx
  obtain ⟨m, rfl⟩ := hy
  unfold eqGuard
  cases op <;> simp [program, Sem.run, hg]
theorem eqV_agg {tt : T TD} {n : Nat} {t : TypeId} {xs : List V} {y : V} {e : X} (ht : TOk P tt) (h : eqV tt (n + 1) t (.agg xs) y = some e) : P.eqGuardType P.depth t = false ∧ ∃ ys, y = .agg ys := by
  unfold eqV at h
  split at h
  · simp at h
  · rename_i td hd
    have hk := ht t td hd
    simp only at h
    cases y with
    | agg ys =>
      refine ⟨?_, ys, rfl⟩
      split at h <;> first
        | contradiction
        | (rename_i hdd _ _
           split at h
           · rename_i hf
             exact (hk.flat hf (by rw [hk.agg, hdd])).1
           · simp at h)
        | (simp at h; done)
    | _ => cases htd : td.d <;> rw [htd] at h <;> simp at h
theorem eqV_nilif {tt : T TD} {n : Nat} {t : TypeId} {y : V} {e : X} (h : eqV tt (n + 1) t .niliface y = some e) : ∃ u v, y = .iface u v := by
  unfold eqV at h
  split at h
  · simp at h
  · rename_i td hd
    simp only at h
    cases y with
    | iface u v => exact ⟨u, v, rfl⟩
    | _ => cases htd : td.d <;> rw [htd] at h <;> simp at h
theorem eqV_noIte {tt : T TD} {n : Nat} {t : TypeId} {c : X} {a b y : V} {e : X} (h : eqV tt (n + 1) t (.ite c a b) y = some e) : False := by
  unfold eqV at h
  split at h
  · simp at h
  · rename_i td hd
    simp only at h
    cases y <;> cases htd : td.d <;> rw [htd] at h <;> simp at h
theorem eqV_noIteR {tt : T TD} {n : Nat} {t : TypeId} {x y : V} {e : X} (h : eqV tt (n + 1) t x y = some e) : y.isIte = false := by
  unfold eqV at h
  split at h
  · simp at h
  · simp only at h
    split at h <;> first | rfl | (simp at h; done)
theorem ok_eq {op : BinOp} {x y : V} {t : TypeId} {p q : Operand} {ty : TypeId} {o : Oper} (c : Ctx P cx ρ π st.h w tm a) (hpc : PcOk ρ st.pc) (ho : o.op = .binOp op t p q ty)
    (hx : a.eval p = x.conc ρ π) (hy : a.eval q = y.conc ρ π) (hni : ∀ k u, x ≠ .int k u ∨ ∀ j v, y ≠ .int j v) (hns : ∀ u, x ≠ .str u ∨ ∀ v, y ≠ .str v) (h : (binEq cx st op t x y).sel ρ = some (r, st')) :
    OpOk P cx tm ρ π st st' w ((execOp a.eval o).run P w) r := by
  have hl := Like.refl hpc
  unfold binEq at h
  have key : ∀ e, eqV cx.tt 100 t x y = some e → (op = .eql ∨ op = .neq) → (execOp a.eval o).run P w = .ok (.value (.bool (if op = .eql then e.tt ρ else !e.tt ρ))) w := by
    intro e he hop
    have h1 := eqV_ok (ρ := ρ) (π := π) c.tt w 100 Op.maxDepth t x y e (by decide) he
    have hg : (eqGuard op t p q (x.conc ρ π) (y.conc ρ π)).run P w = .ok () w := by
      cases x
      case agg xs =>
        obtain ⟨hg, ys, rfl⟩ := eqV_agg c.tt he
        exact eqGuardIn_agg t p q _ _ hg op ⟨_, rfl⟩ ⟨_, rfl⟩
      case niliface =>
        obtain ⟨u, v, rfl⟩ := eqV_nilif he
        simp only [V.conc, eqGuard_nil_iface]
        rfl
      case ite => exact (eqV_noIte he).elim
      all_goals (cases op <;> simp [eqGuard, V.conc])
    have hb : (binOp op t (x.conc ρ π) (y.conc ρ π)).run P w = .ok (.bool (if op = .eql then e.tt ρ else !e.tt ρ)) w := by
      rcases hop with rfl | rfl
      · cases x
        case int k u =>
          cases y
          case int j v => exact absurd rfl ((hni k u).resolve_left (fun h => h rfl) j v)
          case ite => exact absurd (eqV_noIteR he) (by simp [V.isIte])
          all_goals (simp only [V.conc] at h1; simp [binOp, V.conc, Op.equal, h1])
        case str u =>
          cases y
          case str v => exact absurd rfl ((hns u).resolve_left (fun h => h rfl) v)
          case ite => exact absurd (eqV_noIteR he) (by simp [V.isIte])
          all_goals (simp only [V.conc] at h1; simp [binOp, V.conc, Op.equal, h1])
        case ite => exact (eqV_noIte he).elim
        all_goals (simp only [V.conc] at h1; simp [binOp, V.conc, Op.equal, h1])
      · cases x
        case int k u =>
          cases y
          case int j v => exact absurd rfl ((hni k u).resolve_left (fun h => h rfl) j v)
          case ite => exact absurd (eqV_noIteR he) (by simp [V.isIte])
          all_goals (simp only [V.conc] at h1; simp [binOp, V.conc, Op.equal, h1])
        case str u =>
          cases y
          case str v => exact absurd rfl ((hns u).resolve_left (fun h => h rfl) v)
          case ite => exact absurd (eqV_noIteR he) (by simp [V.isIte])
          all_goals (simp only [V.conc] at h1; simp [binOp, V.conc, Op.equal, h1])
        case ite => exact (eqV_noIte he).elim
        all_goals (simp only [V.conc] at h1; simp [binOp, V.conc, Op.equal, h1])
    simp only [execOp, ho, hx, hy, Sem.run_bind, hg, hb, Result.andThen_ok, Sem.run_pure]
  split at h
  · rename_i e he
    exact OpOk.value c.rep hl h (by rw [key e he (.inl rfl)]; simp [V.conc])
  · rename_i e he
    exact OpOk.value c.rep hl h (by rw [key e he (.inr rfl)]; simp [V.conc, mkNot_tt])
  · simp [R.sel] at h
end ops
end Go.Proofs.YtcachlbljjpjdaaGreatDoor
