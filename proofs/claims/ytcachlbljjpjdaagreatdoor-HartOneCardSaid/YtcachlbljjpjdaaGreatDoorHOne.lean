/- HartOne: of every hart, word, size and any two answers the law answers true, and nothing that was there is turned. No condition. -/
import Derived.Test.YtcachlbljjpjdaaGreatDoorHOneEv
import Derived.Test.YtcachlbljjpjdaaGreatDoorHOneRun
import Derived.Test.YtcachlbljjpjdaaGreatDoorHRun
import Derived.Test.YtcachlbljjpjdaaGreatDoorCards
import Derived.Test.YtcachlbljjpjdaaGreatDoorTie
import Derived.SevenTiedAt
namespace Go.Proofs.YtcachlbljjpjdaaGreatDoor
open Go Go.Proofs Go.ChangeShapes Go.WideShapes Go.ChangeAt Go.RowKit

noncomputable section
structure OneArg where
  id : Int
  pc : Int
  regs : List Int
  cause : Int
  n : Int
  w : Nat
  a : Nat
  ok : Bool
  b : Nat
  ok2 : Bool
structure OneArg.Ok (A : OneArg) : Prop where
  h : HartOk A.id A.pc A.regs A.cause
  n : InI A.n
  w : A.w < 4294967296
  a : A.a < 4294967296
  b : A.b < 4294967296
def OneArg.hart (A : OneArg) : Value := hartW A.id A.pc A.regs A.cause
def oneB (A : OneArg) (i : Nat) : Bool := if i < 32 then A.w.testBit i else if i < 64 then A.a.testBit (i - 32) else if i < 65 then A.ok else if i < 97 then A.b.testBit (i - 65) else A.ok2
def oneVar (A : OneArg) (vs : List Int) (i : Nat) : Int := if i < 100 then doneVar A.id A.pc A.cause A.n i else vs.getD (i - 100) 0
def oneFn (regs regs2 : List Int) (f : Nat) (z : Int) : Int := if f = 1 then regs2.getD z.toNat 0 else regs.getD z.toNat 0
def oneEnv (ρ : Env) (A : OneArg) (vs regs2 : List Int) : Env := { ρ with b := oneB A, v := oneVar A vs, f1 := oneFn A.regs regs2 }
section
variable {ρ : Env} {A : OneArg} {vs regs2 : List Int} {π : Pl} (h : A.Ok)
include h
theorem one_hart : (hartX 0 0).conc (oneEnv ρ A vs regs2) π = A.hart :=
  hartX_conc h.h ⟨rfl, rfl, rfl, fun j hj => regs_get A.regs j hj⟩
theorem one_word : (wordX 0 32).den (oneEnv ρ A vs regs2) = (A.w : Int) := word_of (by omega) (by have := h.w; omega) fun i hi => by
  show oneB A (0 + i) = _
  unfold oneB
  rw [if_pos (by omega), Nat.zero_add]
  rfl
theorem one_cube {m v : Nat} (hf : FitsC m v A.w) : (wordC m v).den (oneEnv ρ A vs regs2) = (A.w : Int) := wordC_den h.w hf fun i hi => by
  show oneB A i = _
  unfold oneB
  rw [if_pos (by omega)]
theorem one_a : (wordX 32 32).den (oneEnv ρ A vs regs2) = (A.a : Int) := word_of (by omega) (by have := h.a; omega) fun i hi => by
  show oneB A (32 + i) = _
  unfold oneB
  rw [if_neg (by omega), if_pos (by omega), show 32 + i - 32 = i by omega]
  rfl
theorem one_ans1 : (ansX 32).conc (oneEnv ρ A vs regs2) π = ansW A.a A.ok := by
  have e2 : (flagX 64).tt (oneEnv ρ A vs regs2) = A.ok := flag_tt 64
  simp only [ansX, V.conc, V.concs, one_a h, e2, ansW]
theorem one_ans2 : (ansX 65).conc (oneEnv ρ A vs regs2) π = ansW A.b A.ok2 := by
  have e1 : (wordX 65 32).den (oneEnv ρ A vs regs2) = (A.b : Int) := word_of (by omega) (by have := h.b; omega) fun i hi => by
    show oneB A (65 + i) = _
    unfold oneB
    rw [if_neg (by omega), if_neg (by omega), if_neg (by omega), if_pos (by omega), show 65 + i - 65 = i by omega]
    rfl
  have e2 : (flagX 97).tt (oneEnv ρ A vs regs2) = A.ok2 := flag_tt 97
  simp only [ansX, V.conc, V.concs, e1, e2, ansW]
theorem one_n : (X.wrap .i64 (.var 3)).den (oneEnv ρ A vs regs2) = A.n := wrap_i h.n
theorem oneA1_conc {x : X} (hx : x.den (oneEnv ρ A vs regs2) = (A.w : Int)) : V.concs (oneEnv ρ A vs regs2) π (oneA1 x) = [A.hart, .int .u32 A.w, .int .i64 A.n, ansW A.a A.ok] := by
  simp only [oneA1, V.concs, one_hart h, one_ans1 h]
  simp only [sizeX, V.conc, hx, one_n h]
theorem oneA2_conc {x : X} (hx : x.den (oneEnv ρ A vs regs2) = (A.w : Int)) : V.concs (oneEnv ρ A vs regs2) π (oneA2 x) = [A.hart, .int .u32 A.w, .int .i64 A.n, ansW A.b A.ok2] := by
  simp only [oneA2, V.concs, one_hart h, one_ans2 h]
  simp only [sizeX, V.conc, hx, one_n h]
theorem oneA3_conc {x : X} (hx : x.den (oneEnv ρ A vs regs2) = (A.w : Int)) : V.concs (oneEnv ρ A vs regs2) π (oneA3 x) = [A.hart, .int .u32 A.w, .int .i64 A.n] := by
  simp only [oneA3, V.concs, one_hart h]
  simp only [sizeX, V.conc, hx, one_n h]
theorem oneA_conc : V.concs (oneEnv ρ A vs regs2) π (oneA (wordX 0 32)) = [A.hart, toldW A.w A.n A.a A.ok, ansW A.b A.ok2] := by
  have e2 : (flagX 64).tt (oneEnv ρ A vs regs2) = A.ok := flag_tt 64
  simp only [oneA, V.concs, one_hart h, one_ans2 h]
  simp only [sizeX, V.conc, V.concs, one_a h, e2, one_word h, one_n h, toldW]
end
section
variable {id pc : Int} {regs : List Int} {cause : Int} {ρ : Env} {π : Pl}
theorem regsJ_concs {ρ : Env} {π : Pl} {U : Int} {jj : Nat} (hr : ∀ j (h : j < regs.length), ρ.f1 0 (Int.ofNat j) = regs[j]) (hu : ∀ z ∈ regs, InU z) (hlen : regs.length = 32) (hU : InU U) (hv : ρ.v 103 = U) {r : List V} : ∀ (k i : Nat), i + k = 32 → V.concs ρ π (regsJ jj i k r) = ((regs.set jj U).drop i).map (Value.int .u32) ++ V.concs ρ π r
  | 0, i, e => by
    rw [List.drop_of_length_le (by simp; omega)]
    rfl
  | k + 1, i, e => by
    have hi : i < (regs.set jj U).length := by simp; omega
    have hi' : i < regs.length := by omega
    rw [List.drop_eq_getElem_cons hi]
    simp only [regsJ, V.concs, V.conc, List.map_cons, List.cons_append]
    rw [regsJ_concs hr hu hlen hU hv k (i + 1) (by omega)]
    congr 2
    rw [List.getElem_set]
    cases hb : Nat.beq i jj with
    | true =>
      rw [if_pos (Nat.eq_of_beq_eq_true hb).symm]
      show IntKind.u32.wrap (ρ.v 103) = U
      rw [hv, wrap_u hU]
    | false =>
      rw [if_neg (fun e => Nat.ne_of_beq_eq_false hb e.symm), rX_den hr hu hlen (by omega), List.getD_eq_getElem?_getD, List.getElem?_eq_getElem hi']
      rfl
theorem outJ_conc {j : Nat} {P U : Int} (h : HartOk id pc regs cause) (hP : InU P) (hU : InU U) (v0 : ρ.v 0 = id) (hr : ∀ j (h : j < regs.length), ρ.f1 0 (Int.ofNat j) = regs[j]) (v2 : ρ.v 102 = P) (v3 : ρ.v 103 = U) : (outJ j).conc ρ π = doneW (hartW id P (regs.set j U) 0) := by
  simp only [outJ, idX, V.conc, V.concs, X.den, zeroV', v0, v2, wrap_i h.id, wrap_u hP]
  rw [regsJ_concs hr h.regs h.len hU v3 32 0 (by omega)]
  rfl
theorem outH_conc {c : Int} (h : HartOk id pc regs cause) (hc : InI c) (v0 : ρ.v 0 = id) (v1 : ρ.v 1 = pc) (hr : ∀ j (h : j < regs.length), ρ.f1 0 (Int.ofNat j) = regs[j]) (v2 : ρ.v 100 = c) : outH.conc ρ π = doneW (hartW id pc regs c) := by
  simp only [outH, idX, pcX, V.conc, V.concs, X.den, zeroV', v0, v1, wrap_i h.id, wrap_u h.pc]
  rw [regsX_concs h.regs hr 32 0 (by rw [h.len])]
  simp only [V.concs, V.conc, X.den, v2, wrap_i hc, List.drop_zero]
  rfl
theorem outL_conc (h : HartOk id pc regs cause) (v0 : ρ.v 104 = id) (v1 : ρ.v 105 = pc) (v2 : ρ.v 106 = cause) (hr : ∀ j (h : j < regs.length), ρ.f1 1 (Int.ofNat j) = regs[j]) : outL.conc ρ π = doneW (hartW id pc regs cause) := by
  simp only [outL, V.conc, V.concs, hartX_conc h ⟨v0, v1, v2, hr⟩, zeroV']
  rfl
theorem lt_tt {ρ : Env} {x y : X} {a b : Int} (hx : x.den ρ = a) (hy : y.den ρ = b) : (X.lt x y).tt ρ = decide (a < b) := by
  rw [X.tt, X.den, b2i_tt, hx, hy]
theorem eq_tt {ρ : Env} {x y : X} {a b : Int} (hx : x.den ρ = a) (hy : y.den ρ = b) : (X.eq x y).tt ρ = decide (a = b) := by
  rw [X.tt, X.den, b2i_tt, hx, hy]
  rfl
theorem actX_conc {k ad wd nn op cv : Int} {q r : Bool} {c : X} (hk : InI k) (had : InU ad) (hwd : InI wd) (hnn : InU nn) (hop : InI op) (hc : c.den ρ = cv) (v1 : ρ.v 107 = k) (v2 : ρ.v 108 = ad) (v3 : ρ.v 109 = wd) (v4 : ρ.v 110 = nn) (v5 : ρ.v 111 = op) (v6 : ρ.v 112 = b2i q) (v7 : ρ.v 113 = b2i r) :
    (actX c).conc ρ π = actW (accW k ad wd nn op q r) cv := by
  have e6 : (X.eq (.var 112) (.lit 1)).tt ρ = q := (eq_tt (x := .var 112) (y := .lit 1) (b := 1) v6 rfl).trans (by cases q <;> rfl)
  have e7 : (X.eq (.var 113) (.lit 1)).tt ρ = r := (eq_tt (x := .var 113) (y := .lit 1) (b := 1) v7 rfl).trans (by cases r <;> rfl)
  simp only [actX, accX, V.conc, V.concs, X.den, v1, v2, v3, v4, v5, wrap_i hk, wrap_u had, wrap_i hwd, wrap_u hnn, wrap_i hop, e6, e7, hc, zeroV']
  rfl
end
theorem regsJ_ren {s : Nat → Nat} {jj : Nat} {r : List V} : ∀ (k i : Nat), V.rens s (regsJ jj i k r) = regsJ jj i k (V.rens s r)
  | 0, _ => rfl
  | k + 1, i => by
    show V.int .u32 _ :: V.rens s (regsJ jj (i + 1) k r) = V.int .u32 _ :: regsJ jj (i + 1) k (V.rens s r)
    rw [regsJ_ren k (i + 1)]
theorem outJ_ren {s : Nat → Nat} {j : Nat} : (outJ j).ren s = outJ j := by
  show V.tuple [.agg (.int .i64 idX :: .int .u32 (.wrap .u32 (.var 102)) :: V.rens s (regsJ j 0 32 [zeroV'])), zeroV'] = outJ j
  rw [regsJ_ren]
  rfl
def CallsAs (c : Cx) (ρ : Env) (f : FuncId) (A : List V) (r : V) : Prop := ∀ st, roThere LStart st.h = true → ∀ S π0 w ac m, Here c ρ S π0 st w → SaysL ρ S π0 A ac → CallsIn Fence.wide m Tryz.prog f ac.toArray w (EPost ρ S π0 st w (.ret r, { st with n := st.n + 100000 }))
theorem one_at {ro : Nat → Obj} (h : RoAll ro) {ρ ρ0 : Env} (hr : ρ.ro = ro) (hr0 : ρ0.ro = ro) {c : Cx} (hc : c.ng = 7) {f : FuncId} {fn : Func} (hfn : Tryz.prog.funcs[f]? = some fn) {A A0 : List V} {R r : V} {pc0 : PC} {st2 : St} (hpc0 : PcOk ρ0 pc0) (hsel : ((ev cxL 4000).call f A0 { stG LStart 7 with pc := pc0 }).sel ρ0 = some (.ret r, st2)) (hth : roThere LStart st2.h = true) (hn : st2.n ≤ 100007)
    (hA : ∀ π, V.concs ρ π A = V.concs ρ0 π A0) (hR : ∀ π, R.conc ρ π = r.conc ρ0 π) (hN : R.noWin = true ∧ ∀ s, R.ren s = R) (hpure : V.pures A0 = true) : CallsAs c ρ f A R := fun st hthere S π0 w ac m hh ha => by
  have hargs : SaysL ρ0 S π0 A0 ac := fun π hk => by rw [← ha π hk, hA]
  have key := leaf_post4 (P := Tryz.prog) (cx := c) (cx0 := cxL) (ρ := ρ) (ρ' := ρ0) hpc0 mixed_door tt_ok ft_ok (sum_flags (all59 h hr0)) hc rfl LStart_lt (h _ hr0) (hr0.trans hr.symm) hsel hth (v' := R) (fun _ => hR) hN.1 (objs := []) (fun x hx => by simp at hx) hpure hfn hh hthere hargs (n := m)
  refine key.mono fun e w' hp => ?_
  rw [hN.2] at hp
  exact EPost.more (st1 := { h := st.h, n := st.n + (st2.n - 7), pc := st.pc }) (v := R) hp (m := st.n + 100000) (by show st.n + (st2.n - 7) ≤ st.n + 100000; omega)
theorem two_at {ρ : Env} {c : Cx} {r1 r2 : V} (h1 : CallsAs c ρ 20 (oneA1 (wordX 0 32)) r1) (h2 : CallsAs c ρ 20 (oneA2 (wordX 0 32)) r2) : SumAt Tryz.prog c ρ 20 (symTwo r1 r2) := by
  intro args st v st' hs S π0 w ac m hh ha
  unfold symTwo at hs
  split at hs
  · rename_i ht
    split at hs
    · rename_i hb
      obtain rfl := V.beqs_eq _ _ hb
      simp only [R.sel, Option.some.injEq, Prod.mk.injEq] at hs
      obtain ⟨rfl, rfl⟩ := hs
      exact h1 _ ht _ _ _ _ _ hh ha
    · split at hs
      · rename_i hb
        obtain rfl := V.beqs_eq _ _ hb
        simp only [R.sel, Option.some.injEq, Prod.mk.injEq] at hs
        obtain ⟨rfl, rfl⟩ := hs
        exact h2 _ ht _ _ _ _ _ hh ha
      · simp [R.sel] at hs
  · simp [R.sel] at hs
theorem act_at {ρ : Env} {c : Cx} {r3 : V} (h1 : CallsAs c ρ 17 (oneA3 (wordX 0 32)) r3) : SumAt Tryz.prog c ρ 17 (symAct r3) := by
  intro args st v st' hs S π0 w ac m hh ha
  unfold symAct at hs
  split at hs
  · rename_i ht
    split at hs
    · rename_i hb
      obtain rfl := V.beqs_eq _ _ hb
      simp only [R.sel, Option.some.injEq, Prod.mk.injEq] at hs
      obtain ⟨rfl, rfl⟩ := hs
      exact h1 _ ht _ _ _ _ _ hh ha
    · simp [R.sel] at hs
  · simp [R.sel] at hs
theorem pcNil {ρ : Env} : PcOk ρ [] := fun f hf => by cases hf
theorem pcCons {ρ : Env} {x : X} {b : Bool} {pc : PC} (h : x.tt ρ = b) (hp : PcOk ρ pc) : PcOk ρ ((x, b) :: pc) := fun f hf => by
  rcases List.mem_cons.1 hf with rfl | hf
  · exact h
  · exact hp f hf
section
variable {ρ : Env} {A : OneArg} {vs regs2 : List Int} (h : A.Ok)
include h
theorem one_id : idX.den (oneEnv ρ A vs regs2) = A.id := wrap_i h.h.id
theorem one_cause : (X.wrap .i64 (.var 2)).den (oneEnv ρ A vs regs2) = A.cause := wrap_i h.h.cause
theorem one_r0 : (rX 0).den (oneEnv ρ A vs regs2) = A.regs.getD 0 0 := rX_den (fun j hj => regs_get A.regs j hj) h.h.regs h.h.len (by omega)
theorem go_ok (h1 : ¬ A.id < 0) (h2 : A.id < 4) (h3 : A.regs.getD 0 0 = 0) (h4 : ¬ A.cause < 0) (h5 : ¬ 4 < A.cause) (h6 : A.cause = 0) : PcOk (oneEnv ρ A vs regs2) goPc :=
  pcCons ((eq_tt (one_cause h) rfl).trans (decide_eq_true h6)) <| pcCons ((lt_tt rfl (one_cause h)).trans (decide_eq_false h5)) <| pcCons ((lt_tt (one_cause h) rfl).trans (decide_eq_false h4)) <| pcCons ((eq_tt (one_r0 h) rfl).trans (decide_eq_true h3)) <| pcCons ((lt_tt (one_id h) rfl).trans (decide_eq_true h2)) <| pcCons ((lt_tt (one_id h) rfl).trans (decide_eq_false h1)) pcNil
end
def OneWalk (W : World) (A : OneArg) : Prop := Calls Tryz.prog 10 #[A.hart, toldW A.w A.n A.a A.ok, ansW A.b A.ok2] W fun e W' => e = .returned (.bool true) ∧ Below W.heap.size W W'
theorem one_calls {W : World} (hL : laidMetH Tryz.prog Rows.hartOneRow.laid W) {A : OneArg} (h : A.Ok) {vs regs2 : List Int} {cx1 : Cx} (htt : cx1.tt = cx.tt) (hft : cx1.ft = cx.ft) (hng : cx1.ng = 7)
    (hs : SumOk Tryz.prog cx1 (oneEnv (env0 W) A vs regs2)) {p : PC} (hp : PcOk (oneEnv (env0 W) A vs regs2) p) (hr : allChk LStart ((ev cx1 4000).call 10 (oneA (wordX 0 32)) (stPc p)) = true) :
    OneWalk W A :=
  law_chk (ρ := oneEnv (env0 W) A vs regs2) (cx := cx1) (by rw [htt]; exact tt_ok) (by rw [hft]; exact ft_ok) hng hs Tryz.func10 hL rfl hp hr fun π _ => oneA_conc h
theorem one_walk {W : World} (hL : laidMetH Tryz.prog Rows.hartOneRow.laid W) {A : OneArg} (h : A.Ok) :
    OneWalk W A := by
  have hro := roAll_start hL
  have no : ∀ i, noR i = true → PcOk (oneEnv (env0 W) A [] []) (noPc i) → OneWalk W A :=
    fun i hr hp => one_calls hL h (cx1 := cxL) rfl rfl rfl (sum_flags (all59 hro rfl)) hp hr
  have eid := one_id (ρ := env0 W) (vs := []) (regs2 := []) h
  have er0 := one_r0 (ρ := env0 W) (vs := []) (regs2 := []) h
  have eca := one_cause (ρ := env0 W) (vs := []) (regs2 := []) h
  by_cases h1 : A.id < 0
  · exact no 0 one_no0 (pcCons ((lt_tt eid rfl).trans (decide_eq_true h1)) pcNil)
  have p1 := pcCons ((lt_tt eid (y := .lit 0) rfl).trans (decide_eq_false h1)) pcNil
  by_cases h2 : A.id < 4
  rotate_left
  · exact no 1 one_no1 (pcCons ((lt_tt eid rfl).trans (decide_eq_false h2)) p1)
  replace p1 := pcCons ((lt_tt eid (y := .lit 4) rfl).trans (decide_eq_true h2)) p1
  by_cases h3 : A.regs.getD 0 0 = 0
  rotate_left
  · exact no 2 one_no2 (pcCons ((eq_tt er0 rfl).trans (decide_eq_false h3)) p1)
  replace p1 := pcCons ((eq_tt er0 (y := .lit 0) rfl).trans (decide_eq_true h3)) p1
  by_cases h4 : A.cause < 0
  · exact no 3 one_no3 (pcCons ((lt_tt eca rfl).trans (decide_eq_true h4)) p1)
  replace p1 := pcCons ((lt_tt eca (y := .lit 0) rfl).trans (decide_eq_false h4)) p1
  by_cases h5 : 4 < A.cause
  · exact no 4 one_no4 (pcCons ((lt_tt rfl eca).trans (decide_eq_true h5)) p1)
  replace p1 := pcCons ((lt_tt (x := .lit 4) rfl eca).trans (decide_eq_false h5)) p1
  by_cases h6 : A.cause = 0
  rotate_left
  · exact no 5 one_no5 (pcCons ((eq_tt eca rfl).trans (decide_eq_false h6)) p1)
  have go : ∀ vs regs2, PcOk (oneEnv (env0 W) A vs regs2) goPc := fun _ _ => go_ok h h1 h2 h3 h4 h5 h6
  obtain ⟨cut, hcut⟩ := one_all
  obtain ⟨cm, cv, hf, hrun⟩ := Cut.sel hcut A.w
  have after : ∀ {f : FuncId} {fn : Func} {args : List V} {v : V} {st' : St} {pc0 : PC}, PcOk (oneEnv (env0 W) A [] []) pc0 → ((ev cxL 4000).call f args { stG LStart 7 with pc := pc0 }).sel (oneEnv (env0 W) A [] []) = some (.ret v, st') → V.pures args = true → Tryz.prog.funcs[f]? = some fn → PcOk (oneEnv (env0 W) A [] []) st'.pc :=
    fun hp hs hpu hfn => pc_after (π0 := πStart) mixed_door tt_ok ft_ok (sum_flags (all59 hro rfl)) rfl LStart_lt (hro _ rfl) (fun _ _ => rfl) (roAt_start hL (ρ := oneEnv (env0 W) A [] []) rfl).2 hp hs hpu hfn
  obtain ⟨r1, s1, e1, n1, t1, hrun⟩ := comp_step (ρ := oneEnv (env0 W) A [] []) hrun
  have q1 := after (go _ _) e1 rfl Tryz.func20
  obtain ⟨r2, s2, e2, n2, t2, hrun⟩ := comp_step (ρ := oneEnv (env0 W) A [] []) hrun
  have q2 := after q1 e2 rfl Tryz.func20
  obtain ⟨r3, s3, e3, n3, t3, hrun⟩ := comp_step (ρ := oneEnv (env0 W) A [] []) hrun
  have q3 := after q2 e3 rfl Tryz.func17
  unfold comp at hrun
  obtain ⟨r1', r2', r3', o, p, act, el, hone, c1, c2, c3⟩ := oneOk_ok q3 (id0 := A.id) (pc0 := A.pc) (regs := A.regs) rfl rfl h6 h.h.id h.h.pc (fun j hj => regs_get A.regs j hj) h.h.regs h.h.len hrun
  simp only [List.cons.injEq, and_true] at el
  obtain ⟨rfl, rfl, rfl⟩ := el
  have sums : ∀ {vs regs2 : List Int} {R1 R2 R3 : V}, (∀ π, R1.conc (oneEnv (env0 W) A vs regs2) π = o) → (∀ π, R2.conc (oneEnv (env0 W) A vs regs2) π = p) → (∀ π, R3.conc (oneEnv (env0 W) A vs regs2) π = act) →
      (R1.noWin = true ∧ ∀ s, R1.ren s = R1) → (R2.noWin = true ∧ ∀ s, R2.ren s = R2) → (R3.noWin = true ∧ ∀ s, R3.ren s = R3) → SumOk Tryz.prog (cxP R1 R2 R3) (oneEnv (env0 W) A vs regs2) := by
    intro vs regs2 R1 R2 R3 k1 k2 k3 m1 m2 m3
    exact smOf_okL (l := [(20, symTwo R1 R2), (17, symAct R3), (13, sumTab LStart 7 sum13)]) ⟨two_at (one_at hro rfl rfl rfl Tryz.func20 (go _ _) e1 t1 n1 (fun π => by rw [oneA1_conc h (one_word h), oneA1_conc h (one_cube h hf)]) (fun π => (k1 π).trans (c1 π).symm) m1 rfl)
      (one_at hro rfl rfl rfl Tryz.func20 q1 e2 t2 n2 (fun π => by rw [oneA2_conc h (one_word h), oneA2_conc h (one_cube h hf)]) (fun π => (k2 π).trans (c2 π).symm) m2 rfl), act_at (one_at hro rfl rfl rfl Tryz.func17 q2 e3 t3 n3 (fun π => by rw [oneA3_conc h (one_word h), oneA3_conc h (one_cube h hf)]) (fun π => (k3 π).trans (c3 π).symm) m3 rfl), at13 hro rfl rfl, trivial⟩ rfl
  have nJ : ∀ j, (outJ j).noWin = true ∧ ∀ s, (outJ j).ren s = outJ j := fun j => ⟨rfl, fun s => outJ_ren⟩
  have nA : ∀ c, (actX c).noWin = true ∧ ∀ s, (actX c).ren s = actX c := fun c => ⟨rfl, fun s => rfl⟩
  have rg : ∀ j (h : j < A.regs.length), A.regs.getD (Int.ofNat j).toNat 0 = A.regs[j] := fun j hj => regs_get A.regs j hj
  have call : ∀ {vs regs2 : List Int} {R1 R2 R3 : V}, SumOk Tryz.prog (cxP R1 R2 R3) (oneEnv (env0 W) A vs regs2) → ∀ {p : PC}, PcOk (oneEnv (env0 W) A vs regs2) p → oneR R1 R2 R3 p = true → OneWalk W A := fun hs _ hp hr => one_calls hL h (cx1 := cxP _ _ _) rfl rfl rfl hs hp hr
  cases hone with
  | halt c k ad wd nn op q r hc0 hc hk hadd hwdd hnn hop ho hp hact =>
    have kH : ∀ π, outH.conc (oneEnv (env0 W) A [c, 0, 0, 0, 0, 0, 0, k, ad, wd, nn, op, b2i q, b2i r] []) π = o := fun π => (outH_conc h.h hc rfl rfl rg rfl).trans ho.symm
    have e100 : (X.wrap .i64 (.var 100)).den (oneEnv (env0 W) A [c, 0, 0, 0, 0, 0, 0, k, ad, wd, nn, op, b2i q, b2i r] []) = c := wrap_i hc
    exact call (sums kH (fun π => (kH π).trans hp.symm) (fun π => (actX_conc hk hadd hwdd hnn hop e100 rfl rfl rfl rfl rfl rfl rfl).trans hact.symm) ⟨rfl, fun s => rfl⟩ ⟨rfl, fun s => rfl⟩ (nA _)) (pcCons ((eq_tt e100 (y := .lit 0) (b := 0) rfl).trans (decide_eq_false hc0)) (go _ _)) one_halt
  | norm j P U k ad wd nn op q r hj1 hj2 hP hU hk hadd hwdd hnn hop ho hp hact =>
    have kJ : ∀ π, (outJ j).conc (oneEnv (env0 W) A [0, 0, P, U, 0, 0, 0, k, ad, wd, nn, op, b2i q, b2i r] []) π = o := fun π => (outJ_conc h.h hP hU rfl rg rfl rfl).trans ho.symm
    exact call (sums kJ (fun π => (kJ π).trans hp.symm) (fun π => (actX_conc hk hadd hwdd hnn hop rfl rfl rfl rfl rfl rfl rfl rfl).trans hact.symm) (nJ j) (nJ j) (nA _)) (go _ _) (one_norm j hj1 hj2)
  | loud j P U k ad wd nn op q r id2 pc2 regs2 c2 hj1 hj2 hP hU hk hadd hwdd hnn hop hk0 hk2 hk6 hh2 ho hp hact =>
    have kJ : ∀ π, (outJ j).conc (oneEnv (env0 W) A [0, 0, P, U, id2, pc2, c2, k, ad, wd, nn, op, b2i q, b2i r] regs2) π = o := fun π => (outJ_conc h.h hP hU rfl rg rfl rfl).trans ho.symm
    have e107 : (X.wrap .i64 (.var 107)).den (oneEnv (env0 W) A [0, 0, P, U, id2, pc2, c2, k, ad, wd, nn, op, b2i q, b2i r] regs2) = k := wrap_i hk
    exact call (sums kJ (fun π => (outL_conc hh2 rfl rfl rfl fun j hj => regs_get regs2 j hj).trans hp.symm) (fun π => (actX_conc hk hadd hwdd hnn hop rfl rfl rfl rfl rfl rfl rfl rfl).trans hact.symm) (nJ j) ⟨rfl, fun s => rfl⟩ (nA _))
      (pcCons ((eq_tt e107 (y := .lit 0) (b := 0) rfl).trans (decide_eq_false hk0)) <| pcCons ((eq_tt e107 (y := .lit 2) (b := 2) rfl).trans (decide_eq_false hk2)) <| pcCons ((eq_tt e107 (y := .lit 6) (b := 6) rfl).trans (decide_eq_false hk6)) (go _ _)) (one_loud j hj1 hj2)
theorem hartOne_walk {W : World} (hL : laidMetH Tryz.prog Rows.hartOneRow.laid W) {id pc : Int} {regs : List Int} {cause : Int} (h : HartOk id pc regs cause) {w n a b : Int} {ok ok2 : Bool} (hw : InU w) (hn : InI n) (ha : InU a) (hb : InU b) :
    Calls Tryz.prog 10 #[hartW id pc regs cause, toldW w n a ok, ansW b ok2] W fun e W' => e = .returned (.bool true) ∧ Below W.heap.size W W' := by
  obtain ⟨w, rfl⟩ := Int.eq_ofNat_of_zero_le hw.1
  obtain ⟨a, rfl⟩ := Int.eq_ofNat_of_zero_le ha.1
  obtain ⟨b, rfl⟩ := Int.eq_ofNat_of_zero_le hb.1
  exact one_walk hL (A := ⟨id, pc, regs, cause, n, w, a, ok, b, ok2⟩) ⟨h, hn, by have := hw.2; show w < _; omega, by have := ha.2; show a < _; omega, by have := hb.2; show b < _; omega⟩
end

set_option maxRecDepth 100000 in
theorem hartOne_lifted (os : Os) (started : os.Started) (H : Type) (enc : TypeId × Value → H) :
    ReturnsInHanded {} Tryz.checked os 10 .any (fun w args => (Rows.hartOneSpec.pre enc Tryz.prog Tryz.f10 [] false w args ∧ laidMetH Tryz.prog Rows.hartOneRow.laid w) ∧ sizedMet enc Tryz.prog Tryz.f10 (OpenSpec.ofChange Rows.hartOneSpec) false w args)
      (Rows.hartOneSpec.post enc Tryz.prog Tryz.f10 false true false false) := by
  refine returnsInHanded_of_change_and (C := Tryz.checked) (X := fun w _ => laidMetH Tryz.prog Rows.hartOneRow.laid w) (fun _ _ _ hh h => h.of_heap hh) own_door started (by kernel_rfl) Tryz.func10
    (ChangeSpec.witness_shaped (enc := enc) (C := Tryz.checked) (os := os) (X := fun w _ => laidMetH Tryz.prog Rows.hartOneRow.laid w) false (World.doorLaid Tryz.prog 4000 os) #[hartW 0 0 (List.replicate 32 0) 0, toldW 0 0 0 false, ansW 0 false] 8 rfl (World.shaped_of_RefB (by kernel_rfl) (by kernel_rfl)) (by kernel_rfl) (by kernel_rfl) (by kernel_rfl) (door_met os _)) ?_
  intro W base args ds gs before hval0 hW _ _ hL _
  have hval : ∀ (j : Nat) t v, Tryz.f10.params[j]? = some t → args[j]? = some v → Value.okWide Tryz.prog W .any base t v := hval0
  have hW' := hW
  obtain ⟨p, q, hA0, hV, rfl, hfz, hnd⟩ := hW
  have hA : DataW.TrodAll enc Tryz.prog W 0 (fun _ => true) true Tryz.f10.params.toList args.toList ds p := hA0
  rw [Tryz.params10] at hA hval
  obtain ⟨v0, v1, v2, d0, d1, d2, p0, p1, p2, ea, rfl, rfl, h0, h1, h2⟩ := trodAll_three hA
  subst ea
  obtain ⟨id, pc, regs, cause, rfl, k0⟩ := open_hart (hval 0 26 v0 rfl rfl) h0
  obtain ⟨w, n, a, b, rfl, kw, kn, ka⟩ := open_told (hval 1 30 v1 rfl rfl) h1
  obtain ⟨a2, b2, rfl, ka2⟩ := open_ans (hval 2 28 v2 rfl rfl) h2
  refine (hartOne_walk hL k0 kw kn ka ka2).mono fun e W' ⟨he, hw⟩ => ?_
  subst he
  exact ⟨_, rfl, shut_law laidOut_door (by rw [Tryz.params10]; decide +kernel) rfl Tryz.underlying4 rfl hW' rfl hw⟩

theorem hartOne_row : Rows.HartOneSaid :=
  OpenClaim.holds_of_wide 10 Tryz.f10 rfl rfl rfl rfl rfl rfl rfl ⟨rfl, rfl, rfl, rfl, rfl⟩ rfl rfl rfl rfl rfl (by kernel_rfl) Tryz.func10 (by kernel_rfl)
    (of_decide_eq_true (by kernel_rfl)) (by unfold Func.isWrapper; first | (rw [if_pos (by decide +kernel)]; kernel_rfl) | (rw [if_neg (by decide +kernel)]; exact ⟨rfl, rfl⟩))
    (fun os started H enc _ => hartOne_lifted os started H enc)

theorem hartOne_holds : Rows.HartOneCardSaid :=
  Claim7.holds_tied_plain_at .later [] [.data, .data, .data, .listed, .data] true (true, "4f864911adc0c7fcfafd2db5302275d1938f333ff405a3cd709f376062733914") true
    hartOne_row (fun _ h => by cases h) (by kernel_rfl) (fun _ h => by cases h) hartOne_row_tie rfl ⟨rfl, rfl⟩ (by kernel_rfl) rfl
    (fun f fn hf hfn => by
      obtain rfl : f = 10 := Option.some.inj ((show Tryz.prog.funcNamed "quadrille/quadrillelaw04.HartOne" = some 10 by kernel_rfl).symm.trans hf) |>.symm
      obtain rfl : fn = Tryz.f10 := (Option.some.inj (Tryz.func10.symm.trans hfn)).symm
      exact ⟨by kernel_rfl, fun j t ht => by
        rw [Tryz.params10] at ht
        have hm : t ∈ [26, 30, 28] := by simpa using Array.mem_of_getElem? ht
        have hall : ([26, 30, 28].all fun u => !Tryz.prog.wantsStandIn u) = true := by kernel_rfl
        exact (show Tryz.prog.wantsStandIn t = false by simpa using List.all_eq_true.1 hall t hm)⟩)
    (by kernel_rfl)
#print axioms hartOne_holds
end Go.Proofs.YtcachlbljjpjdaaGreatDoor
