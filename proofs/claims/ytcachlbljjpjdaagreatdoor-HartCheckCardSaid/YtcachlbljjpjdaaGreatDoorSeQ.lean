/- Symbolic execution, part 26: a drawn region, operation by operation: what is known goes on. No condition. -/
import Derived.Test.YtcachlbljjpjdaaGreatDoorSeP
namespace Go.Proofs.YtcachlbljjpjdaaGreatDoor
open Go

theorem FrIs.known {ρ : Env} {S S' : Nat → Prop} {π0 π1 : Pl} {fr : Fr} {a : Act} (h : FrIs ρ S π0 fr a) (hk : Known S π1 π0) (hs : ∀ i, S i → S' i) : FrIs ρ S' π1 fr a :=
  let ⟨tc, h1, h2, h3⟩ := h
  ⟨tc, h1, h2.go hk hs, h3.go hk hs⟩
/-- A region that is looked at. -/
structure Reg (P : Program) (cx : Cx) (slf : Self) (ρ : Env) (ops : Array Oper) (bs ord : List Nat) (f : Nat → RS) (S : Nat → Prop) (π0 : Pl) (fr : Fr) (st : St) (w : World) (a : Act) : Prop where
  tt : TOk P cx.tt
  ft : FOk P cx.ft
  call : CallOk P cx ρ slf.call
  round : RoundOk P cx ρ slf
  tr : Tr cx slf ρ ops bs ord f
  zero : f 0 = { fr := fr, st := st, sm := [], mm := none, bigs := [], reads := [] }
  here : Here cx ρ S π0 st w
  fr : FrIs ρ S π0 fr a
structure Inv (ρ : Env) (ops : Array Oper) (bs ord : List Nat) (f : Nat → RS) (S : Nat → Prop) (π0 : Pl) (fr : Fr) (st : St) (w : World) (E : Nat → Prop) (t : Nat) (π1 : Pl) (a1 : Act) (w1 : World) : Prop where
  tle : t ≤ ord.length
  lt : ∀ p, E p → p < ord.length
  stage : ∀ p, BigAt ord f p → (E p ↔ p < t)
  closed : ∀ p i o b, E p → Pos ops bs ord p i o b → ∀ q g, ord[q]? = some g → Nat.testBit b g = true → E q
  gg : GoesG ρ S π0 st.h w (idsE S ord f E) π1 (HGE ops bs ord f E t) w1
  clear : ∀ i o, SmG ops bs ord f E i o ∨ MmG ord f E i o → (f t).st.h.get i = none
  fr : FrIs ρ (idsE S ord f E) π1 { tm := tmE ops ord f E, df := fr.df } a1
section
variable {P : Program} {cx : Cx} {slf : Self} {ρ : Env} {ops : Array Oper} {bs ord : List Nat} {f : Nat → RS} {S : Nat → Prop} {π0 : Pl} {fr : Fr} {st : St} {w : World} {a : Act}
  {E : Nat → Prop} {t : Nat} {π1 : Pl} {a1 : Act} {w1 : World} {p i : Nat} {o : Oper} {b : Nat}
/-- What may come next. -/
structure Nxt (ops : Array Oper) (bs ord : List Nat) (E : Nat → Prop) (p i : Nat) (o : Oper) (b : Nat) : Prop where
  pos : Pos ops bs ord p i o b
  new : ¬ E p
  ready : ∀ q g, ord[q]? = some g → Nat.testBit b g = true → E q
theorem Reg.mm0 (R : Reg P cx slf ρ ops bs ord f S π0 fr st w a) : (f 0).mm = none := by rw [R.zero]
theorem Reg.sm0 (R : Reg P cx slf ρ ops bs ord f S π0 fr st w a) : (f 0).sm = [] := by rw [R.zero]
theorem Reg.bigs0 (R : Reg P cx slf ρ ops bs ord f S π0 fr st w a) : (f 0).bigs = [] := by rw [R.zero]
theorem Reg.n0 (R : Reg P cx slf ρ ops bs ord f S π0 fr st w a) : ∀ i, (f 0).st.n ≤ i → ¬ S i := by rw [R.zero]; exact R.here.fresh
/-- All calls ahead of it are done. -/
theorem Inv.bigsDone (R : Reg P cx slf ρ ops bs ord f S π0 fr st w a) (X : Nxt ops bs ord E p i o b) {r : Nat} (hb : BigAt ord f r) (hr : r < p) : E r := by
  obtain ⟨g, hg, e⟩ := hb
  exact X.ready r g hg (R.tr.bigBefore R.bigs0 X.pos hr ⟨g, hg, e⟩ hg)
theorem Inv.stageLe (R : Reg P cx slf ρ ops bs ord f S π0 fr st w a) (I : Inv ρ ops bs ord f S π0 fr st w E t π1 a1 w1) (X : Nxt ops bs ord E p i o b) (h : t ≤ p) : (f t).st.h = (f p).st.h := by
  refine (R.tr.sameHeap h (Nat.le_of_lt X.pos.lt) ?_).symm
  intro r h1 h2 hb
  have := (I.stage r hb).1 (Inv.bigsDone R X hb h2)
  omega
/-- What is asked once an operation is done that is no call. -/
theorem Inv.next (I : Inv ρ ops bs ord f S π0 fr st w E t π1 a1 w1) (R : Reg P cx slf ρ ops bs ord f S π0 fr st w a) (X : Nxt ops bs ord E p i o b) (hb : ¬ BigAt ord f p) {v : V} {c : Value} {π2 : Pl} {w2 : World}
    (hv : (f (p + 1)).fr = { (f p).fr with tm := putD (f p).fr.tm o.dst v }) (hk : Known (idsE S ord f E) π2 π1)
    (hg : GoesG ρ S π0 st.h w (Ext (idsE S ord f E) (f p).st.n (f (p + 1)).st.n) π2 (HGE ops bs ord f (fun q => E q ∨ q = p) t) w2)
    (hc : ∀ i o, SmG ops bs ord f (fun q => E q ∨ q = p) i o ∨ MmG ord f (fun q => E q ∨ q = p) i o → (f t).st.h.get i = none)
    (hs : Says ρ (Ext (idsE S ord f E) (f p).st.n (f (p + 1)).st.n) π2 v c) : Inv ρ ops bs ord f S π0 fr st w (fun q => E q ∨ q = p) t π2 (a1.put o.dst c) w2 := by
  have hids := idsE_put (S := S) (ord := ord) (f := f) (E := E) X.pos.lt
  refine ⟨I.tle, fun q hq => hq.elim (I.lt q) fun e => e ▸ X.pos.lt, fun r hr => ?_, ?_, by rw [hids]; exact hg, hc, ?_⟩
  · rw [← I.stage r hr]
    exact ⟨fun h => h.elim id fun e => absurd (e ▸ hr) hb, .inl⟩
  · rintro r j x c (hr | rfl) hpos q g hq hbit
    · exact .inl (I.closed r j x c hr hpos q g hq hbit)
    · obtain ⟨_, _, rfl⟩ := X.pos.uniq hpos
      exact .inl (X.ready q g hq hbit)
  · rw [hids, R.tr.tmE_put X.pos hv]
    exact (I.fr.known hk fun i hi => .inl hi).put hs
theorem Inv.guard (R : Reg P cx slf ρ ops bs ord f S π0 fr st w a) (I : Inv ρ ops bs ord f S π0 fr st w E t π1 a1 w1) (X : Nxt ops bs ord E p i o b) : ∀ d ∈ guardTmp ops.toList o, ∃ π, a1.tmps[d]? = ((f p).fr.tm[d]?).map (V.conc ρ π) := by
  intro d hd
  obtain ⟨tc, h1, h2, _⟩ := I.fr
  refine ⟨π1, ?_⟩
  rw [← (R.tr.evSame X.pos X.ready).2 d hd, h1, List.getElem?_toArray, ← h2 π1 fun _ _ => rfl, concs_get]
theorem Inv.ev (R : Reg P cx slf ρ ops bs ord f S π0 fr st w a) (X : Nxt ops bs ord E p i o b) (st1 : St) : evOp cx (f p).fr.tm st1 o = evOp cx (tmE ops ord f E) st1 o :=
  evOp_congr (R.tr.evSame X.pos X.ready).1
theorem Inv.globs (R : Reg P cx slf ρ ops bs ord f S π0 fr st w a) (I : Inv ρ ops bs ord f S π0 fr st w E t π1 a1 w1) : Globs cx (idsE S ord f E) π1 := R.here.glob.go I.gg.known I.gg.mono
/-- An operation at what it sees. -/
theorem Inv.op (R : Reg P cx slf ρ ops bs ord f S π0 fr st w a) (I : Inv ρ ops bs ord f S π0 fr st w E t π1 a1 w1) (X : Nxt ops bs ord E p i o b) {st1 st2 : St} {r : OR} (hv : ∀ i o, st1.h.get i = some o → HGE ops bs ord f E t i o)
    (hpc : PcOk ρ st1.pc) (h : (evOp cx (f p).fr.tm st1 o).sel ρ = some (r, st2)) (hf : Fresh (idsE S ord f E) st1.n st2.n) :
    PcOk ρ st2.pc ∧ ∃ π2 w2, Goes ρ (idsE S ord f E) π1 st1.h w1 st1.n π2 st2.h w2 st2.n ∧ Back P ρ (Ext (idsE S ord f E) st1.n st2.n) π2 w1 ((execOp a1.eval o).run P w1) w2 r := by
  obtain ⟨tc, h1, h2, _⟩ := I.fr
  rw [Inv.ev R X] at h
  exact op_goes R.tt R.ft (I.gg.view hv) (Inv.globs R I) h2 h1 hpc h hf
/-- Nothing new has come but names. -/
theorem HGE.plain (R : Reg P cx slf ρ ops bs ord f S π0 fr st w a) (X : Nxt ops bs ord E p i o b) (hm : (f (p + 1)).mm = (f p).mm) (hs : ∀ s : Sm, (f (p + 1)).sm ≠ s :: (f p).sm) :
    (∀ i o, HGE ops bs ord f (fun q => E q ∨ q = p) t i o → HGE ops bs ord f E t i o) ∧
    (∀ i o, SmG ops bs ord f (fun q => E q ∨ q = p) i o ∨ MmG ord f (fun q => E q ∨ q = p) i o → SmG ops bs ord f E i o ∨ MmG ord f E i o) := by
  have key : ∀ i o, SmG ops bs ord f (fun q => E q ∨ q = p) i o ∨ MmG ord f (fun q => E q ∨ q = p) i o → SmG ops bs ord f E i o ∨ MmG ord f E i o := by
    rintro i o (h | h)
    · exact .inl (h.less (fun _ => Iff.rfl) hs)
    · exact .inr (h.less R.tr R.mm0 X.pos hm)
  refine ⟨fun i o h => ?_, key⟩
  rcases h with h | h
  · exact .inl h
  · exact .inr (key i o h)
theorem noCons {l : List Sm} (s : Sm) : l ≠ s :: l := fun e => by have := congrArg List.length e; simp at this
theorem noBig (h : (f (p + 1)).bigs = (f p).bigs) : ¬ BigAt ord f p := fun ⟨g, _, hg⟩ => by
  rw [h] at hg
  have := congrArg List.length hg
  simp at this
/-- One operation that hands back a value, or nothing. -/
theorem does_val {K : Act → World → Prop} {w2 : World} {c : Value} (hw : Region.wanted o (yielded ops a1.tmps) = true) (hd : ∀ c, o.op ≠ .defer c) (e : (execOp a1.eval o).run P w1 = .ok (.value c) w2) (h : K (a1.put o.dst c) w2) : Does P ops o a1 w1 K :=
  .inr ⟨hw, hd, .inl ⟨c, w2, e, h⟩⟩
end
end Go.Proofs.YtcachlbljjpjdaaGreatDoor
