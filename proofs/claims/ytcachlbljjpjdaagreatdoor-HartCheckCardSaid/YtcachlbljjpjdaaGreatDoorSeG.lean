/- Symbolic execution, part 16: operations one behind the other, in code. No condition. -/
import Derived.Test.YtcachlbljjpjdaaGreatDoorSeF
import Derived.RangeFuncLeaves
import Derived.RangeFuncCalls
namespace Go.Proofs.YtcachlbljjpjdaaGreatDoor
open Go

abbrev FN (ro : Option Nat) : Fence := { fn := fun _ => True, depth := none, alive := false, round := ro }
theorem Ext.trans_eq {S : Nat → Prop} {n n1 n2 : Nat} (h1 : n ≤ n1) (h2 : n1 ≤ n2) : Ext (Ext S n n1) n1 n2 = Ext S n n2 := funext fun i => propext (Ext.trans h1 h2 i)
theorem Ext.same_eq {S : Nat → Prop} {n : Nat} : Ext S n n = S := funext fun _ => propext Ext.same
structure Here (cx : Cx) (ρ : Env) (S : Nat → Prop) (π0 : Pl) (st : St) (w : World) : Prop where
  pc : PcOk ρ st.pc
  at_ : At ρ S π0 st.h w
  glob : Globs cx S π0
  fresh : ∀ i, st.n ≤ i → ¬ S i
def FrIs (ρ : Env) (S : Nat → Prop) (π0 : Pl) (fr : Fr) (a : Act) : Prop := ∃ tc, a.tmps = List.toArray tc ∧ SaysL ρ S π0 fr.tm tc ∧ SaysD ρ S π0 fr.df a.defers
def ExIs (ρ : Env) (S : Nat → Prop) (π0 : Pl) : Ex → Exit → Prop
  | .normal, e => e = .normal
  | .exit id, e => e = .exit id
  | .ret, e => e = .ret
  | .panic v, e => ∃ c, e = .panic [{ v := c, recovered := false }] ∧ Says ρ S π0 v c
  | .die v, e => ∃ c, e = .panic [{ v := c, recovered := false }] ∧ Says ρ S π0 v c
def FrEx (ρ : Env) (S : Nat → Prop) (π0 : Pl) (ex : Ex) (fr : Fr) (a : Act) : Prop := match ex with
  | .die _ => fr.df = [] → a.defers = []
  | _ => FrIs ρ S π0 fr a
def EnIs (ρ : Env) (S : Nat → Prop) (π0 : Pl) : En → Ending → Prop
  | .ret v, e => ∃ c, e = .returned c ∧ Says ρ S π0 v c
  | .panic v, e => ∃ c, e = .panicked [{ v := c, recovered := false }] ∧ Says ρ S π0 v c
def RndOk (S : Nat → Prop) (π0 : Pl) (rnd ro : Option Nat) : Prop := match rnd, ro with
  | none, none => True
  | some l, some L => S l ∧ (π0 l).1 = L
  | _, _ => False
def CPost (ρ : Env) (S : Nat → Prop) (π0 : Pl) (st : St) (w : World) (res : Ex × Fr × St) (e : Exit) (a : Act) (w' : World) : Prop :=
  PcOk ρ res.2.2.pc ∧ ∃ π1, Goes ρ S π0 st.h w st.n π1 res.2.2.h w' res.2.2.n ∧ ExIs ρ (Ext S st.n res.2.2.n) π1 res.1 e ∧ FrEx ρ (Ext S st.n res.2.2.n) π1 res.1 res.2.1 a
def EPost (ρ : Env) (S : Nat → Prop) (π0 : Pl) (st : St) (w : World) (res : En × St) (e : Ending) (w' : World) : Prop :=
  PcOk ρ res.2.pc ∧ ∃ π1, Goes ρ S π0 st.h w st.n π1 res.2.h w' res.2.n ∧ EnIs ρ (Ext S st.n res.2.n) π1 res.1 e
section
variable {P : Program} {cx : Cx} {ρ : Env} {S : Nat → Prop} {π0 π1 : Pl} {st st1 : St} {w w1 : World} {a : Act} {fr : Fr}
theorem Here.go (h : Here cx ρ S π0 st w) (g : Goes ρ S π0 st.h w st.n π1 st1.h w1 st1.n) (hpc : PcOk ρ st1.pc) : Here cx ρ (Ext S st.n st1.n) π1 st1 w1 where
  pc := hpc
  at_ := g.at_
  glob := h.glob.go g.known fun _ => .inl
  fresh := fun i hi hs => hs.elim (fun hs => h.fresh i (Nat.le_trans g.le hi) hs) fun ⟨_, h2⟩ => by omega
theorem Here.fresh' (h : Here cx ρ S π0 st w) (n : Nat) : Fresh S st.n n := fun i hi _ => h.fresh i hi
theorem FrIs.go (h : FrIs ρ S π0 fr a) (g : Goes ρ S π0 st.h w st.n π1 st1.h w1 st1.n) : FrIs ρ (Ext S st.n st1.n) π1 fr a :=
  let ⟨tc, h1, h2, h3⟩ := h
  ⟨tc, h1, h2.go g.known fun _ => .inl, h3.go g.known fun _ => .inl⟩
theorem RndOk.go {rnd ro : Option Nat} (h : RndOk S π0 rnd ro) (g : Goes ρ S π0 st.h w st.n π1 st1.h w1 st1.n) : RndOk (Ext S st.n st1.n) π1 rnd ro := by
  unfold RndOk at *
  split at h
  · trivial
  · exact ⟨.inl h.1, by rw [g.known _ h.1]; exact h.2⟩
  · exact h.elim
theorem CPost.trans {res : Ex × Fr × St} {e : Exit} {w2 : World} (g : Goes ρ S π0 st.h w st.n π1 st1.h w1 st1.n) (h : CPost ρ (Ext S st.n st1.n) π1 st1 w1 res e a w2) : CPost ρ S π0 st w res e a w2 := by
  obtain ⟨h1, π2, h2, h3, h4⟩ := h
  rw [Ext.trans_eq g.le h2.le] at h3 h4
  exact ⟨h1, π2, g.trans h2, h3, h4⟩
theorem EPost.trans {res : En × St} {e : Ending} {w2 : World} (g : Goes ρ S π0 st.h w st.n π1 st1.h w1 st1.n) (h : EPost ρ (Ext S st.n st1.n) π1 st1 w1 res e w2) : EPost ρ S π0 st w res e w2 := by
  obtain ⟨h1, π2, h2, h3⟩ := h
  rw [Ext.trans_eq g.le h2.le] at h3
  exact ⟨h1, π2, g.trans h2, h3⟩
/-- Only facts have come. -/
theorem Here.like (h : Here cx ρ S π0 st w) (hl : Like ρ st st1) : Here cx ρ S π0 st1 w := ⟨hl.pc, by rw [hl.h]; exact h.at_, h.glob, by rw [hl.n]; exact h.fresh⟩
theorem CPost.like {res : Ex × Fr × St} {e : Exit} {w2 : World} (hl : Like ρ st st1) (h : CPost ρ S π0 st1 w res e a w2) : CPost ρ S π0 st w res e a w2 := by
  unfold CPost at *
  rw [hl.h, hl.n] at h
  exact h
theorem EPost.like {res : En × St} {e : Ending} {w2 : World} (hl : Like ρ st st1) (h : EPost ρ S π0 st1 w res e w2) : EPost ρ S π0 st w res e w2 := by
  unfold EPost at *
  rw [hl.h, hl.n] at h
  exact h
theorem FrIs.put {v : V} {c : Value} {dst : Option Tmp} (h : FrIs ρ S π0 fr a) (hv : Says ρ S π0 v c) : FrIs ρ S π0 { fr with tm := putD fr.tm dst v } (a.put dst c) := by
  obtain ⟨tc, h1, h2, h3⟩ := h
  cases dst with
  | none => exact ⟨tc, h1, h2, h3⟩
  | some d =>
    refine ⟨tc.set d c, by simp [Act.put, h1], fun π hk => ?_, h3⟩
    have e1 := h2 π hk
    have e2 := hv π hk
    simp only [putD, setN_eq]
    rw [← e1, ← e2, concs_map, concs_map, List.map_set]
theorem says_undef : Says ρ S π0 .undef undef := fun _ _ => rfl
theorem eval_says {o : Operand} {v : V} (htt : TOk P cx.tt) (hft : FOk P cx.ft) (h : Here cx ρ S π0 st w) (hf : FrIs ρ S π0 fr a) (he : evO cx fr.tm o = some v) : Says ρ S π0 v (a.eval o) := by
  obtain ⟨tc, h1, h2, _⟩ := hf
  intro π hk
  exact (evO_ok ⟨htt, hft, h.at_.rep π hk, by rw [h1, h2 π hk], fun g hg => by rw [hk g (h.glob g hg).1]; exact (h.glob g hg).2⟩ he).symm
/-- Whether an operation is wanted. -/
theorem wanted_sel {ops : Array Oper} {o : Oper} {k : St → Bool → COut} {res : Ex × Fr × St} (h : Here cx ρ S π0 st w) (hf : FrIs ρ S π0 fr a) (e : (wantedV st ops.toList fr.tm o k).sel ρ = some res) :
    ∃ st1, Like ρ st st1 ∧ (k st1 (Region.wanted o (yielded ops a.tmps))).sel ρ = some res := by
  obtain ⟨tc, h1, h2, _⟩ := hf
  unfold wantedV at e
  unfold Region.wanted
  split at e
  · rename_i hg
    rw [hg]
    exact ⟨st, .refl h.pc, e⟩
  · rename_i j want hg
    rw [hg]
    simp only [nth_eq, Array.getElem?_toList] at e
    unfold yielded
    dsimp only
    split at e
    · rename_i hd
      rw [hd]
      exact ⟨st, .refl h.pc, by simpa using e⟩
    · rename_i d hd
      rw [hd]
      simp only [Option.bind_some]
      have ht := h2 π0 fun _ _ => rfl
      have hat : a.tmps[d]? = (fr.tm[d]?).map (V.conc ρ π0) := by
        rw [h1, ← ht, List.getElem?_toArray, concs_get]
      rw [hat]
      split at e
      · rename_i x hx
        rw [hx]
        obtain ⟨st1, hl, h3⟩ := split_sel h.pc e
        refine ⟨st1, hl, ?_⟩
        simpa [V.conc] using h3
      · simp [R.sel] at e
      · rename_i hx hx2
        refine ⟨st, .refl h.pc, ?_⟩
        cases hq : fr.tm[d]? with
        | none => simpa using e
        | some v => cases v <;> first | exact absurd hq (hx _) | exact absurd hq (hx2 _ _ _) | (simpa [V.conc] using e)
theorem forceN_eq {β : Type} (n : Nat) (k : Nat → β) : forceN n k = k n := by cases n <;> rfl
theorem forceI_eq {β : Type} (n : Int) (k : Int → β) : forceI n k = k n := by cases n <;> simp [forceI, forceN_eq]
theorem forceX_eq {β : Type} (x : X) (k : X → β) : forceX x k = k x := by cases x <;> simp [forceX, forceI_eq]
theorem forceV_eq {β : Type} (v : V) (k : V → β) : forceV v k = k v := by cases v <;> simp [forceV, forceX_eq]
theorem setK_eq {β : Type} : ∀ (l : List V) (n : Nat) (b : V) (k : List V → β), setK l n b k = k (setN l n b)
  | [], n, _, _ => by cases n <;> rfl
  | _ :: _, 0, _, _ => rfl
  | a :: l, n + 1, b, k => setK_eq l n b fun l => k (a :: l)
theorem putK_eq {β : Type} (l : List V) (d : Option Nat) (v : V) (k : List V → β) : putK l d v k = k (putD l d v) := by cases d <;> simp [putK, putD, setK_eq]
theorem forceL_eq {β : Type} : ∀ (l : List V) (k : List V → β), forceL l k = k l
  | [], _ => rfl
  | v :: l, k => by simp [forceL, forceL_eq l]
end

/-- What is asked of the functions that are called, and of code within. -/
def CallOk (P : Program) (cx : Cx) (ρ : Env) (call : FuncId → List V → St → EOut) : Prop :=
  ∀ f args st res, (call f args st).sel ρ = some res → ∀ S π0 w ac n, Here cx ρ S π0 st w → SaysL ρ S π0 args ac → (∃ fn, P.funcs[f]? = some fn) →
    CallsIn Fence.wide n P f ac.toArray w (EPost ρ S π0 st w res)
def CodeOk (P : Program) (cx : Cx) (ρ : Env) (code : Option Nat → Code → Fr → St → COut) : Prop :=
  ∀ rnd c fr st res, (code rnd c fr st).sel ρ = some res → ∀ S π0 w a ro n, Here cx ρ S π0 st w → FrIs ρ S π0 fr a → RndOk S π0 rnd ro →
    c.wpIn (FN ro) n P (CPost ρ S π0 st w res) a w
def LoopOk (P : Program) (cx : Cx) (ρ : Env) (m : Nat) (loop : Option Nat → Code → Fr → St → COut) : Prop :=
  ∀ rnd c fr st res, (loop rnd c fr st).sel ρ = some res → ∀ S π0 w a ro n, Here cx ρ S π0 st w → FrIs ρ S π0 fr a → RndOk S π0 rnd ro →
    Code.roundsIn (FN ro) n P c (CPost ρ S π0 st w res) m a w
def RoundOk (P : Program) (cx : Cx) (ρ : Env) (self : Self) : Prop :=
  ∀ l args st res, (evRound self l args st).sel ρ = some res → ∀ S π0 w ac n, Here cx ρ S π0 st w → SaysL ρ S π0 args ac →
    ∃ (fn : FuncId) (tmps : Array Value) (assign body : Code), (Instr.yield (π0 l).1 ac.toArray).run P w = .ok (.round (π0 l).1 fn tmps assign body) w ∧
      RoundIn Fence.wide n P (π0 l).1 fn tmps assign body w (EPost ρ S π0 st w res)

section
variable {P : Program} {cx : Cx} {ρ : Env}
/-- One operation. -/
theorem oper_ok (htt : TOk P cx.tt) (hft : FOk P cx.ft) {self : Self} (hcall : CallOk P cx ρ self.call) (hround : RoundOk P cx ρ self) {rnd ro : Option Nat} {fr : Fr} {st : St} {o : Oper} {k : Fr → St → COut} {res : Ex × Fr × St}
    (e : (evOper cx self rnd fr st o k).sel ρ = some res) {S : Nat → Prop} {π0 : Pl} {w : World} {a : Act} {n : Nat} (h : Here cx ρ S π0 st w) (hf : FrIs ρ S π0 fr a) (hr : RndOk S π0 rnd ro) {next : Act → World → Prop} {Q : Exit → Act → World → Prop}
    (hk : ∀ fr1 st1 π1 w1 a1, (k fr1 st1).sel ρ = some res → Goes ρ S π0 st.h w st.n π1 st1.h w1 st1.n → PcOk ρ st1.pc → FrIs ρ (Ext S st.n st1.n) π1 fr1 a1 → next a1 w1)
    (hq : ∀ e a w', CPost ρ S π0 st w res e a w' → Q e a w') : o.wpIn (FN ro) n P a w next Q := by
  refine ⟨fun _ _ => trivial, ?_⟩
  unfold evOper at e
  obtain ⟨⟨r, st1⟩, e1, e2⟩ := sel_bind e
  obtain ⟨tc, ht1, ht2, ht3⟩ := hf
  obtain ⟨hpc1, π1, w1, g1, hb⟩ := op_goes htt hft h.at_ h.glob ht2 ht1 h.pc e1 (h.fresh' _)
  have hf1 : FrIs ρ (Ext S st.n st1.n) π1 fr a := FrIs.go ⟨tc, ht1, ht2, ht3⟩ g1
  have h1 := h.go g1 hpc1
  have hsem : (∀ d, r ≠ .defer d) ∨ ro = none → o.semAt ro a.eval = execOp a.eval o := by
    intro hd
    rcases hd with hd | rfl
    · refine Oper.semAt_eq ro a.eval o ?_
      intro cl ho
      have hev := e1
      unfold evOp at hev
      obtain ⟨⟨r0, st0⟩, hev, hev2⟩ := sel_bind hev
      unfold evOp0 at hev
      rw [ho] at hev
      simp only [oDefer] at hev
      split at hev
      · split at hev
        · simp only [R.sel, Option.some.injEq, Prod.mk.injEq] at hev
          obtain ⟨rfl, rfl⟩ := hev
          simp only [resolveV, R.sel, Option.some.injEq, Prod.mk.injEq] at hev2
          exact hd _ hev2.1.symm
        · simp [R.sel] at hev
      · simp [R.sel] at hev
    · rfl
  cases r with
  | val v =>
    obtain ⟨c, hres, hv⟩ := hb
    rw [hsem (.inl (by simp)), hres, Oper.uponIn_value]
    simp only [forceV_eq, putK_eq] at e2
    exact hk _ _ _ _ _ e2 g1 hpc1 (hf1.put hv)
  | skip =>
    rw [hsem (.inl (by simp)), show (execOp a.eval o).run P w = _ from hb, Oper.uponIn_skip]
    exact hk _ _ _ _ _ e2 g1 hpc1 (hf1.put says_undef)
  | enter f args =>
    obtain ⟨rfl, cs, fn, hres, hargs, hfn⟩ := hb
    rw [hsem (.inl (by simp)), hres, Oper.uponIn_enter]
    refine ⟨fun hd => by simp at hd, ?_⟩
    obtain ⟨⟨en, st2⟩, e3, e4⟩ := sel_bind e2
    have hc := hcall f args st1 (en, st2) e3 _ _ _ cs (n - 1) h1 hargs ⟨fn, hfn⟩
    refine CallsIn.mono (F := FN ro) hc ?_
    rintro e' w2 ⟨hpc2, π2, g2, hen⟩
    have g12 := g1.trans g2
    cases en with
    | ret v =>
      obtain ⟨c, rfl, hv⟩ := hen
      simp only [forceV_eq, putK_eq] at e4
      obtain ⟨st3, v3, hl3, hv3, e5⟩ := splitV_sel hpc2 e4
      have hf2 := (hf1.go g2).put (dst := o.dst) (v := v3) fun π hk => (hv3 π).trans (hv π hk)
      simp only [Ext.trans_eq g1.le g2.le] at hf2
      exact hk _ _ _ _ _ e5 (by rw [hl3.h, hl3.n]; exact g12) hl3.pc (by rw [hl3.n]; exact hf2)
    | panic v =>
      obtain ⟨c, rfl, hv⟩ := hen
      simp only [R.sel, Option.some.injEq] at e4
      subst e4
      have hf2 := hf1.go g2
      simp only [Ext.trans_eq g1.le g2.le] at hf2 hv
      exact hq _ _ _ ⟨hpc2, π2, g12, ⟨c, rfl, hv⟩, hf2⟩
  | round l args =>
    obtain ⟨rfl, cs, hres, hargs⟩ := hb
    obtain ⟨⟨en, st2⟩, e3, e4⟩ := sel_bind e2
    obtain ⟨fn, tmps, assign, body, hy, hR⟩ := hround l args st1 (en, st2) e3 _ _ _ cs (n - 1) h1 hargs
    rw [hsem (.inl (by simp)), hres, hy, Oper.uponIn_round]
    refine ⟨fun hd => by simp at hd, ?_⟩
    refine RoundIn.mono (F := FN ro) hR ?_
    rintro e' w2 ⟨hpc2, π2, g2, hen⟩
    have g12 := g1.trans g2
    cases en with
    | ret v =>
      obtain ⟨c, rfl, hv⟩ := hen
      have hf2 := (hf1.go g2).put (dst := o.dst) hv
      simp only [Ext.trans_eq g1.le g2.le] at hf2
      exact hk _ _ _ _ _ e4 g12 hpc2 hf2
    | panic v => simp [R.sel] at e4
  | panic v =>
    obtain ⟨rfl, c, hres, hv⟩ := hb
    rw [hsem (.inl (by simp)), hres, Oper.uponIn_panic]
    simp only [R.sel, Option.some.injEq] at e2
    subst e2
    exact hq _ _ _ ⟨hpc1, π1, g1, ⟨c, rfl, hv⟩, hf1⟩
  | defer d =>
    obtain ⟨rfl, c, hres, hd⟩ := hb
    dsimp only at e2
    split at e2
    · have hro : ro = none := by
        cases ro with
        | none => rfl
        | some L => exact hr.elim
      subst hro
      rw [hsem (.inr rfl), hres, Oper.uponIn_defer]
      refine hk _ _ _ _ _ e2 g1 hpc1 ?_
      have hf2 : FrIs ρ (Ext S st.n st1.n) π1 { fr with df := d :: fr.df } { a with defers := c :: a.defers } := by
        obtain ⟨tc, h1, h2, h3⟩ := hf1
        exact ⟨tc, h1, h2, fun π hk => by simp [hd π hk, h3 π hk]⟩
      exact hf2.put says_undef
    · simp [R.sel] at e2
/-- A plain region's operations. -/
theorem ops_ok (htt : TOk P cx.tt) (hft : FOk P cx.ft) {self : Self} (hcall : CallOk P cx ρ self.call) (hround : RoundOk P cx ρ self) {rnd ro : Option Nat} {ops : Array Oper} :
    ∀ (l : List Oper) (i : Nat), ops.toList.drop i = l → ∀ (fr : Fr) (st : St) (res : Ex × Fr × St), (evOps cx self rnd ops.toList l fr st).sel ρ = some res →
      ∀ (S : Nat → Prop) (π0 : Pl) (w : World) (a : Act) (n : Nat), Here cx ρ S π0 st w → FrIs ρ S π0 fr a → RndOk S π0 rnd ro →
      ∀ (Q : Exit → Act → World → Prop), (∀ e a w', CPost ρ S π0 st w res e a w' → Q e a w') → wpOpsIn (FN ro) n P ops Q (List.range' i l.length) a w
  | [], i, hl, fr, st, res, e, S, π0, w, a, n, h, hf, hr, Q, hQ => by
    simp only [evOps, R.sel, Option.some.injEq] at e
    subst e
    exact hQ _ _ _ ⟨h.pc, π0, Goes.refl h.at_ _, rfl, by rw [Ext.same_eq]; exact hf⟩
  | o :: l, i, hl, fr, st, res, e, S, π0, w, a, n, h, hf, hr, Q, hQ => by
    have ho : ops[i]? = some o := by
      have := congrArg (fun x => x[0]?) hl
      simpa [List.getElem?_drop] using this
    have hl' : ops.toList.drop (i + 1) = l := by
      have := congrArg List.tail hl
      simpa [List.tail_drop] using this
    simp only [evOps, putK_eq] at e
    obtain ⟨st1, hlk, e1⟩ := wanted_sel h hf e
    simp only [List.length_cons, List.range'_succ, wpOpsIn, ho]
    have h1 := h.like hlk
    split
    · rename_i hw
      rw [hw] at e1
      refine oper_ok htt hft hcall hround e1 h1 hf hr ?_ (fun e a w' hp => hQ _ _ _ (hp.like hlk))
      intro fr2 st2 π2 w2 a2 e2 g2 hpc2 hf2
      exact ops_ok htt hft hcall hround (rnd := rnd) (ro := ro) l (i + 1) hl' fr2 st2 res e2 _ _ w2 a2 n (h1.go g2 hpc2) hf2 (hr.go g2) Q (fun e a w' hp => hQ _ _ _ ((hp.trans g2).like hlk))
    · rename_i hw
      have hw' : Region.wanted o (yielded ops a.tmps) = false := by simpa using hw
      rw [hw'] at e1
      refine ⟨fun _ _ => trivial, ?_⟩
      exact ops_ok htt hft hcall hround (rnd := rnd) (ro := ro) l (i + 1) hl' _ st1 res e1 S π0 w (a.put o.dst undef) n h1 (hf.put says_undef) hr Q (fun e a w' hp => hQ _ _ _ (hp.like hlk))
end
end Go.Proofs.YtcachlbljjpjdaaGreatDoor
