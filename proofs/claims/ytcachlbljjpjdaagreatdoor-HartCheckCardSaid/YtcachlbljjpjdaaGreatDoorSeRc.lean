/- Symbolic execution: a deferred function that asks recover first. No condition. -/
import Derived.Test.YtcachlbljjpjdaaGreatDoorSeU
import Derived.RecoverIn
namespace Go.Proofs.YtcachlbljjpjdaaGreatDoor
open Go

def panV : Option V → V
  | none => .niliface
  | some v => v
/-- What follows recover is run with what it hands back. -/
noncomputable def recS (cx : Cx) (N : Nat) (ntmps d : Nat) (rest : Code) (args : List V) (st : St) (e : Option V) : R (Option V × St) :=
  ((ev cx N).code none rest { tm := setN (args ++ List.replicate (ntmps - args.length) .undef) d (panV e), df := [] } st).bind fun (ex, fr, st) => match ex, fr.df with
    | .normal, [] => .ok (none, st)
    | .ret, [] => .ok (none, st)
    | _, _ => .stuck "deferred"
theorem rec_ok {P : Program} {cx cx0 : Cx} {ρ : Env} (hmix : P.follows .mixedOrders = true) (htt : TOk P cx0.tt) (hft : FOk P cx0.ft) (hsm : SumOk P cx0 ρ) (hng : cx.ng = cx0.ng) {g : FuncId} {fn : Func} {id d N : Nat} {o : Oper} {rest : Code}
    (hf : P.funcs[g]? = some fn) (hb : fn.body = some (.seq (.region id #[o] false) rest)) (ho : o.op = .call { callee := .builtin .recover, args := #[], argTypes := #[] }) (hg : o.guard = none) (hd : o.dst = some d) (hres : fn.results = #[])
    (hname : fn.name ≠ "runtime.NumGoroutine") : DefAt P cx ρ g (recS cx0 N fn.ntmps d rest) := by
  refine ⟨⟨fn, _, hf, hb, hname⟩, fun args st e e' st' h S π0 w ac u n hh ha hu => ?_⟩
  have hh0 : Here cx0 ρ S π0 st w := ⟨hh.pc, hh.at_, fun g hg => hh.glob g (by rw [hng]; exact hg), hh.fresh⟩
  unfold recS at h
  obtain ⟨⟨ex, fr1, st1⟩, h1, h2⟩ := sel_bind h
  have hex : (ex = .normal ∨ ex = .ret) ∧ fr1.df = [] ∧ e' = none ∧ st' = st1 := by
    dsimp only at h2
    split at h2
    · rename_i e1 e2
      simp only [R.sel, Option.some.injEq, Prod.mk.injEq] at h2
      exact ⟨.inl rfl, e2, h2.1.symm, h2.2.symm⟩
    · rename_i e1 e2
      simp only [R.sel, Option.some.injEq, Prod.mk.injEq] at h2
      exact ⟨.inr rfl, e2, h2.1.symm, h2.2.symm⟩
    · simp [R.sel] at h2
  obtain ⟨hex, hdf, rfl, rfl⟩ := hex
  refine callsDIn_of_wpSIn (F := Fence.wide) hf hb trivial fun c₀ cs hc0 => ?_
  refine wpSIn_seq (wpSIn_region ?_)
  have hlen : ac.length = args.length := by rw [← ha π0 fun _ _ => rfl, concs_len]
  have hcode := (ev_ok hmix htt hft hsm N).1 none rest _ st _ h1 S π0 w
  have hrun : ∀ ev, (execOp ev o).run P w = .ok .recover w := by
    intro ev
    simp [execOp, ho, Go.resolve, invoke, builtin]
  have go : ∀ (v : Value) (c₁ : Frame) (u1 : FrameMode), Says ρ S π0 (panV e) v → c₁ = { c₀ with mode := u1 } → settle u1 = .returning →
      rest.wpSIn Fence.wide n P (bodyPostS P fn c₀ cs fun en u' w' => (∃ c, en = .returned c) ∧ PcOk ρ st'.pc ∧ ∃ π1, Goes ρ S π0 st.h w st.n π1 st'.h w' st'.n ∧ ModeIs ρ (Ext S st.n st'.n) π1 none (settle u'))
        (({ tmps := ac.toArray ++ Array.replicate (fn.ntmps - ac.toArray.size) undef, defers := [] } : Act).put o.dst v) (c₁ :: cs) w := by
    intro v c₁ u1 hv hc1 hset
    refine wpSIn_of_wpIn rfl ?_
    have hf0 : FrIs ρ S π0 { tm := setN (args ++ List.replicate (fn.ntmps - args.length) .undef) d (panV e), df := [] } (({ tmps := ac.toArray ++ Array.replicate (fn.ntmps - ac.toArray.size) undef, defers := [] } : Act).put o.dst v) := by
      have h0 : FrIs ρ S π0 { tm := args ++ List.replicate (fn.ntmps - args.length) .undef, df := [] } { tmps := ac.toArray ++ Array.replicate (fn.ntmps - ac.toArray.size) undef, defers := [] } := by
        refine ⟨ac ++ List.replicate (fn.ntmps - args.length) undef, by simp [hlen], ha.append ?_, fun π hk => rfl⟩
        intro π hk
        rw [concs_map, List.map_replicate]
        rfl
      have := h0.put (dst := o.dst) hv
      rw [hd] at this ⊢
      exact this
    refine wpIn_mono (F := FN none) (hcode _ none n hh0 hf0 trivial) ?_
    rintro ee a' w' ⟨hpc, π1, g1, hx, hfr⟩
    have hfr : FrIs ρ (Ext S st.n st'.n) π1 fr1 a' := by rcases hex with rfl | rfl <;> exact hfr
    obtain ⟨tc, f1, f2, f3⟩ := hfr
    have hdef : a'.defers = [] := by
      have := f3 π1 fun _ _ => rfl
      rw [hdf] at this
      exact this.symm
    have hr : (results fn a'.tmps).run P w' = .ok (.tuple #[]) w' := by simp [results, hres]
    have hfin : (∃ c, Ending.returned (.tuple #[]) = .returned c) ∧ PcOk ρ st'.pc ∧ ∃ π1, Goes ρ S π0 st.h w st.n π1 st'.h w' st'.n ∧ ModeIs ρ (Ext S st.n st'.n) π1 none (settle u1) := ⟨⟨_, rfl⟩, hpc, π1, g1, hset⟩
    dsimp only at hx
    rcases hex with rfl | rfl
    · obtain rfl : ee = .normal := hx
      exact ⟨hdef, u1, by rw [hc1], _, hr, hfin⟩
    · obtain rfl : ee = .ret := hx
      exact ⟨hdef, u1, by rw [hc1], _, hr, hfin⟩
  have hw : ∀ y, Region.wanted o y = true := fun y => by simp [Region.wanted, hg]
  show wpOpsSIn Fence.wide n P #[o] _ [0] _ _ _
  simp only [wpOpsSIn, List.getElem?_toArray, List.getElem?_cons_zero, hw, if_true, hrun]
  refine ⟨fun _ _ => trivial, ?_⟩
  cases e with
  | none =>
    have hu0 : u = .returning := hu
    have : recoverD (c₀ :: cs) = none := by simp [recoverD, hc0, hu0]
    rw [this]
    dsimp only
    exact go .nilIface c₀ c₀.mode (fun _ _ => rfl) rfl (by rw [hc0, hu0]; rfl)
  | some v =>
    obtain ⟨c, rfl, hv⟩ := hu
    have : recoverD (c₀ :: cs) = some (c, { c₀ with mode := .panicking [{ v := c, recovered := true }] } :: cs) := by simp [recoverD, hc0]
    rw [this]
    dsimp only
    exact go c _ _ hv rfl rfl
end Go.Proofs.YtcachlbljjpjdaaGreatDoor
