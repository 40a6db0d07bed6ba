/- IsaEncodes: what the three functions answer of any instruction. No condition. -/
import Derived.Test.YtkkfbmjelanjgaaDoorEEv0
import Derived.Test.YtkkfbmjelanjgaaDoorEEv1
import Derived.Test.YtkkfbmjelanjgaaDoorEEv2
import Derived.Test.YtkkfbmjelanjgaaDoorEEv3
namespace Go.Proofs.YtkkfbmjelanjgaaDoor
open Go Go.Proofs Go.RowKit
def EncAll : List Nat → Prop
 | [] => True
 | k :: l => encRun k = true ∧ EncAll l
theorem EncAll.mem : ∀ {l : List Nat}, EncAll l → ∀ k ∈ l, encRun k = true
 | [], _, k, hk => by simp at hk
 | j :: l, h, k, hk => by
  rcases List.mem_cons.1 hk with rfl | hk
  ·exact h.1
  ·exact EncAll.mem h.2 k hk
def ops59 : List Nat := [1, 2, 3, 4, 5, 6, 7, 8, 9, 10, 11, 12, 13, 14, 15, 16, 17, 18, 19, 20, 21, 22, 23, 24, 25, 26, 27, 28, 29, 30, 31, 32, 33, 34, 35, 36, 37, 38, 39, 40, 41, 42, 43, 44, 45, 46, 47, 48, 49, 50, 51, 52, 53, 54, 55, 56, 57, 58, 59]
theorem enc_all : EncAll ops59 := ⟨enc_1, enc_2, enc_3, enc_4, enc_5, enc_6, enc_7, enc_8, enc_9, enc_10, enc_11, enc_12, enc_13, enc_14, enc_15, enc_16, enc_17, enc_18, enc_19, enc_20, enc_21, enc_22, enc_23, enc_24, enc_25, enc_26, enc_27, enc_28, enc_29, enc_30, enc_31, enc_32, enc_33, enc_34, enc_35, enc_36, enc_37, enc_38, enc_39, enc_40, enc_41, enc_42, enc_43, enc_44, enc_45, enc_46, enc_47, enc_48, enc_49, enc_50, enc_51, enc_52, enc_53, enc_54, enc_55, enc_56, enc_57, enc_58, enc_59, trivial⟩
theorem ops59_mem {k : Nat} (h1 : 1 ≤ k) (h2 : k ≤ 59) : k ∈ ops59 := by
 have e : ops59 = List.range' 1 59 := by rfl
 rw [e, List.mem_range']
 exact ⟨k - 1, by omega, by omega⟩
theorem noOp_ok {ρ : Env} : ∀ {k : Nat}, (∀ j : Nat, 1 ≤ j → j ≤ k → ρ.v 0 ≠ j) → PcOk ρ (noOp k)
 | 0, _ => fun f hf => by simp [noOp] at hf
 | k + 1, h => fun f hf => by
  unfold noOp at hf
  rcases List.mem_cons.1 hf with rfl | hf
  ·have := h (k + 1) (by omega) (by omega)
   rw [tt_eq]
   simp only [X.den]
   exact beq_eq_false_iff_ne.2 this
  ·exact noOp_ok (fun j h1 h2 => h j h1 (by omega)) f hf
theorem low_ok {ρ : Env} {i : Nat} (h : ρ.v i < 0) : PcOk ρ (tooLow i) := fun f hf => by
 obtain rfl := List.mem_singleton.1 hf
 rw [tt_lt]
 simp only [X.den]
 exact decide_eq_true h
theorem high_ok {ρ : Env} {i : Nat} (h : 32 ≤ ρ.v i) : PcOk ρ (tooHigh i) := fun f hf => by
 obtain rfl := List.mem_singleton.1 hf
 rw [tt_le]
 simp only [X.den]
 exact decide_eq_true h
structure CallAt (ro : Nat → Obj) (f : FuncId) (a val : Value) : Prop where
 is : ∃ (c : Cx) (ρ' : Env) (pc0 : PC) (x v : V) (st' : St), SumOk Tryd.prog c ρ' ∧ c.tt = cxD.tt ∧ c.ft = cxD.ft ∧ c.ng = 7 ∧ ρ'.ro = ro ∧ PcOk ρ' pc0 ∧ ((ev c 4000).call f [x] { stG LStart 7 with pc := pc0 }).sel ρ' = some (.ret v, st') ∧ roThere LStart st'.h = true ∧ st'.n ≤ 10000 ∧ (∀ π, v.conc ρ' π = val) ∧ x.pure = true ∧ ∀ π, x.conc ρ' π = a
theorem tt_iteX {ρ : Env} {c a b : X} : (X.ite c a b).tt ρ = if c.tt ρ then a.tt ρ else b.tt ρ := by
 simp only [X.tt, X.den]
 cases h : c.den ρ == 0 <;> simp [bne, h]
theorem tt_zero {ρ : Env} : (X.lit 0).tt ρ = false := rfl
theorem two_tt {ρ : Env} {a b c d : X} (h : (X.ite (.eq a b) (.eq c d) (.lit 0)).tt ρ = true) : a.den ρ = b.den ρ ∧ c.den ρ = d.den ρ := by
 rw [tt_iteX, tt_eq, tt_eq, tt_zero] at h
 split at h
 ·rename_i e
  exact ⟨by simpa using e, by simpa using h⟩
 ·cases h
theorem look3_ok {ρ : Env} {acc : List V} {pc : PC} (hp : PcOk ρ pc) (h : look3 acc pc = true) : ∃ r m w e, acc = [.int .u32 r, .bool m, .tuple [.int .u32 w, .int .i64 e]] ∧ (m.tt ρ = true → e.den ρ = 0 ∧ w.den ρ = r.den ρ) ∧ (m.tt ρ = false → w.den ρ = 0 ∧ e.den ρ = 2) := by
 unfold look3 at h
 split at h
 ·rename_i r m w e
  have k := chk_ok hp h
  rw [tt_iteX] at k
  refine ⟨r, m, w, e, rfl, fun hm => ?_, fun hm => ?_⟩
  ·rw [hm, if_pos rfl] at k
   exact two_tt k
  ·rw [hm, if_neg (by decide)] at k
   exact two_tt k
 ·cases h
theorem look2_ok {ρ : Env} {acc : List V} {pc : PC} (hp : PcOk ρ pc) (h : look2 acc pc = true) : ∃ m w e, acc = [.bool m, .tuple [.int .u32 w, .int .i64 e]] ∧ m.tt ρ = false ∧ w.den ρ = 0 ∧ e.den ρ = 2 := by
 unfold look2 at h
 split at h
 ·rename_i m w e
  have k := chk_ok hp h
  rw [tt_iteX] at k
  cases hm : m.tt ρ with
  | true =>
   rw [hm, if_pos rfl, tt_zero] at k
   cases k
  | false =>
   rw [hm, if_neg (by decide)] at k
   exact ⟨m, w, e, rfl, hm, two_tt k⟩
 ·cases h
def encVal (r : Int) : Bool → Value
 | true => .tuple #[.int .u32 r, .int .i64 0]
 | false => .tuple #[.int .u32 0, .int .i64 2]
structure Enc (ro : Nat → Obj) (a : Value) (m : Bool) (r : Int) : Prop where
 enc : CallAt ro 5 a (encVal r m)
 may : CallAt ro 6 a (.bool m)
 ref : m = true → CallAt ro 7 a (.int .u32 r)
section
variable {W : World} {ro : Nat → Obj} (hall : RoAll ro) (hW : ∀ x ∈ LStart, W.heap[x.1]? = some (ro x.1))
include hall hW
theorem comp_go {c : Cx} {ρ : Env} (hs : SumOk Tryd.prog c ρ) (h1 : c.tt = cxD.tt) (h2 : c.ft = cxD.ft) (h3 : c.ng = 7) (hr : ρ.ro = ro) {x : V} (hx : x.pure = true) {pc : PC} (hpc : PcOk ρ pc) {f : FuncId} {fn : Func} {l : List (FuncId × List V)} {acc : List V} {k : List V → PC → Bool} (hfn : Tryd.prog.funcs[f]? = some fn)
  (h : comp (ev c 4000).call LStart 7 10000 ((f, [x]) :: l) acc pc k = true) : ∃ (v : V) (st : St), PcOk ρ st.pc ∧ comp (ev c 4000).call LStart 7 10000 l (v :: acc) st.pc k = true ∧ ∀ a val, (∀ π, x.conc ρ π = a) → (∀ π, v.conc ρ π = val) → CallAt ro f a val := by
 obtain ⟨v, st, e1, e2, e3, e4⟩ := comp_step (ρ := ρ) h
 have hp : PcOk ρ st.pc := pc_after (w := W) (π0 := πStart) mixed_door (by rw [h1]; exact tt_ok) (by rw [h2]; exact ft_ok) hs h3 LStart_lt (hall ρ hr) (fun _ _ => rfl) (by rw [hr]; exact hW) hpc e1 (by simp [V.pures, hx]) hfn
 exact ⟨v, st, hp, e4, fun a val ha hv => ⟨c, ρ, pc, x, v, st, hs, h1, h2, h3, hr, hpc, e1, e3, e2, hv, hx, ha⟩⟩
theorem enc3 {ρ : Env} (hr : ρ.ro = ro) {o a b c : X} {pc : PC} (hpc : PcOk ρ pc) {i : Value} (hi : ∀ π, (instX o a b c).conc ρ π = i) (h : run3 o a b c pc = true) : ∃ p : Bool × Int, Enc ro i p.1 p.2 := by
 unfold run3 at h
 rw [← evT_call] at h
 have hs := all4 hall hr
 obtain ⟨v1, s1, p1, h, c1⟩ := comp_go hall hW hs rfl rfl rfl hr rfl hpc Tryd.func5 h
 obtain ⟨v2, s2, p2, h, c2⟩ := comp_go hall hW hs rfl rfl rfl hr rfl p1 Tryd.func6 h
 obtain ⟨v3, s3, p3, h, c3⟩ := comp_go hall hW hs rfl rfl rfl hr rfl p2 Tryd.func7 h
 obtain ⟨r, m, w, e, ha, hy, hn⟩ := look3_ok p3 (show look3 [v3, v2, v1] s3.pc = true from h)
 injection ha with a3 ha
 injection ha with a2 ha
 injection ha with a1 _
 subst a3 a2 a1
 refine ⟨(m.tt ρ, r.den ρ), c1 _ _ hi fun π => ?_, c2 _ _ hi fun π => rfl, fun _ => c3 _ _ hi fun π => rfl⟩
 show Value.tuple #[.int .u32 (w.den ρ), .int .i64 (e.den ρ)] = encVal (r.den ρ) (m.tt ρ)
 cases hm : m.tt ρ with
 | true => rw [(hy hm).1, (hy hm).2]; rfl
 | false => rw [(hn hm).1, (hn hm).2]; rfl
theorem enc2 {cc : Cx} {ρ : Env} (hs : SumOk Tryd.prog cc ρ) (g1 : cc.tt = cxD.tt) (g2 : cc.ft = cxD.ft) (g3 : cc.ng = 7) (hr : ρ.ro = ro) {o a b c : X} {pc : PC} (hpc : PcOk ρ pc) {i : Value} (hi : ∀ π, (instX o a b c).conc ρ π = i) (h : comp (evT cc 4000).call LStart 7 10000 [(5, [instX o a b c]), (6, [instX o a b c])] [] pc look2 = true) : ∃ p : Bool × Int, Enc ro i p.1 p.2 := by
 rw [← evT_call] at h
 obtain ⟨v1, s1, p1, h, c1⟩ := comp_go hall hW hs g1 g2 g3 hr rfl hpc Tryd.func5 h
 obtain ⟨v2, s2, p2, h, c2⟩ := comp_go hall hW hs g1 g2 g3 hr rfl p1 Tryd.func6 h
 obtain ⟨m, w, e, ha, hm, hw, he⟩ := look2_ok p2 (show look2 [v2, v1] s2.pc = true from h)
 injection ha with a2 ha
 injection ha with a1 _
 subst a2 a1
 refine ⟨(false, 0), c1 _ _ hi fun π => ?_, c2 _ _ hi fun π => ?_, fun h => by cases h⟩
 ·show Value.tuple #[.int .u32 (w.den ρ), .int .i64 (e.den ρ)] = encVal 0 false
  rw [hw, he]
  rfl
 ·show Value.bool (m.tt ρ) = _
  rw [hm]
theorem enc_ex {op rd r1 r2 n : Int} {x y : Bool} (hn : 0 ≤ n ∧ n < 4294967296) : ∃ p : Bool × Int, Enc ro (instV op rd r1 r2 n x y) p.1 p.2 := by
 obtain ⟨g0, g1, g2⟩ := reg_of (ro := ro) (op := op) (rd := rd) (r1 := r1) (r2 := r2) (n := n) (x := x) (y := y)
 by_cases hop : ∃ k : Nat, 1 ≤ k ∧ k ≤ 59 ∧ op = k
 ·obtain ⟨k, h1, h2, rfl⟩ := hop
  have hk := EncAll.mem enc_all k (ops59_mem h1 h2)
  unfold encRun at hk
  dsimp only at hk
  simp only [Bool.and_eq_true] at hk
  obtain ⟨k0, k1, k2, k3, k4, k5, k6⟩ := hk
  have go : ∀ {a b c : X} {pc : PC}, run2 (.lit (Int.ofNat k)) a b c pc = true → a.den (instE ro k rd r1 r2 n x y) = rd → b.den (instE ro k rd r1 r2 n x y) = r1 → c.den (instE ro k rd r1 r2 n x y) = r2 → PcOk (instE ro k rd r1 r2 n x y) pc → ∃ p : Bool × Int, Enc ro (instV k rd r1 r2 n x y) p.1 p.2 := fun hr ha hb hc hp =>
   enc2 hall hW (ρ := instE ro k rd r1 r2 n x y) (all4 hall rfl) rfl rfl rfl rfl hp (fun π => instX_says hn rfl ha hb hc) hr
  by_cases a1 : rd < 0
  ·exact go k1 rfl rfl rfl (low_ok a1)
  by_cases a2 : 32 ≤ rd
  ·exact go k2 rfl rfl rfl (high_ok a2)
  have h0 := g0 ⟨by omega, by omega⟩
  by_cases b1 : r1 < 0
  ·exact go k3 h0 rfl rfl (low_ok b1)
  by_cases b2 : 32 ≤ r1
  ·exact go k4 h0 rfl rfl (high_ok b2)
  have h1 := g1 ⟨by omega, by omega⟩
  by_cases c1 : r2 < 0
  ·exact go k5 h0 h1 rfl (low_ok c1)
  by_cases c2 : 32 ≤ r2
  ·exact go k6 h0 h1 rfl (high_ok c2)
  exact enc3 hall hW (ρ := instE ro k rd r1 r2 n x y) rfl (fun f hf => by simp at hf) (fun π => instX_says hn rfl h0 h1 (g2 ⟨by omega, by omega⟩)) k0
 ·exact enc2 hall hW (ρ := instE ro op rd r1 r2 n x y) (allF hall rfl) rfl rfl rfl rfl (noOp_ok fun j h1 h2 e => hop ⟨j, h1, h2, e⟩) (fun π => instX_says hn rfl rfl rfl rfl) enc_other
end
noncomputable def encP (ro : Nat → Obj) (a : Value) : Bool × Int := by classical exact if h : ∃ p : Bool × Int, Enc ro a p.1 p.2 then h.choose else (false, 0)
theorem encP_ok {ro : Nat → Obj} {a : Value} (h : ∃ p : Bool × Int, Enc ro a p.1 p.2) : Enc ro a (encP ro a).1 (encP ro a).2 := by
 unfold encP
 rw [dif_pos h]
 exact h.choose_spec
def instJ (f : Nat → Int → Int) (j : Int) : Value := instV (IntKind.i64.wrap (f 20 j)) (IntKind.i64.wrap (f 21 j)) (IntKind.i64.wrap (f 22 j)) (IntKind.i64.wrap (f 23 j)) (IntKind.u32.wrap (f 24 j)) (f 25 j == 1) (f 26 j == 1)
def rowI (z : X) : V := .agg [.int .i64 (.wrap .i64 (.fn1 20 z)), .int .i64 (.wrap .i64 (.fn1 21 z)), .int .i64 (.wrap .i64 (.fn1 22 z)), .int .i64 (.wrap .i64 (.fn1 23 z)), .int .u32 (.wrap .u32 (.fn1 24 z)), .bool (.eq (.fn1 25 z) (.lit 1)), .bool (.eq (.fn1 26 z) (.lit 1))]
theorem rowI_conc {ρ : Env} {π : Pl} (z : X) : (rowI z).conc ρ π = instJ ρ.f1 (z.den ρ) := by
 show Value.agg #[_, _, _, _, _, .bool ((X.eq (.fn1 25 z) (.lit 1)).tt ρ), .bool ((X.eq (.fn1 26 z) (.lit 1)).tt ρ)] = _
 rw [tt_eq, tt_eq]
 rfl
def mX (z : X) : X := .eq (.fn1 30 z) (.lit 1)
def encS (z : X) : Bool → Option V
 | true => some (.tuple [.int .u32 (.fn1 31 z), .int .i64 (.lit 0)])
 | false => some (.tuple [.int .u32 (.lit 0), .int .i64 (.lit 2)])
def mayS (_ : X) : Bool → Option V
 | true => some (.bool (.lit 1))
 | false => some (.bool (.lit 0))
def refS (z : X) : Bool → Option V
 | true => some (.int .u32 (.fn1 31 z))
 | false => none
noncomputable def symI (mk : X → Bool → Option V) (args : List V) (st : St) : R (V × St) := match args with
 | [.agg (.int .i64 (.wrap .i64 (.fn1 20 z)) :: l)] => match V.beqs [.agg (.int .i64 (.wrap .i64 (.fn1 20 z)) :: l)] [rowI z], roThere LStart st.h with
  | true, true => split st (mX z) fun st b => match mk z b with
   | some v => .ok (v, { st with n := st.n + 10000 })
   | none => .stuck "symI"
  | _, _ => .stuck "symI"
 | _ => .stuck "symI"
structure Syms (ro : Nat → Obj) (ρ : Env) : Prop where
 hro : ρ.ro = ro
 m : ∀ j, ρ.f1 30 j = b2i (encP ro (instJ ρ.f1 j)).1
 r : ∀ j, ρ.f1 31 j = (encP ro (instJ ρ.f1 j)).2
section
variable {ro : Nat → Obj} {ρ : Env} {cx : Cx}
theorem Syms.tt (h : Syms ro ρ) (z : X) : (mX z).tt ρ = (encP ro (instJ ρ.f1 (z.den ρ))).1 := by
 unfold mX
 rw [tt_eq]
 show (ρ.f1 30 (z.den ρ) == 1) = _
 rw [h.m]
 cases (encP ro (instJ ρ.f1 (z.den ρ))).1 <;> rfl
theorem symI_ok (hall : RoAll ro) (hS : Syms ro ρ) (hng : cx.ng = 7) {f : FuncId} {fn : Func} (hfn : Tryd.prog.funcs[f]? = some fn) {mk : X → Bool → Option V}
  (hm : ∀ z v, mk z (encP ro (instJ ρ.f1 (z.den ρ))).1 = some v → v.noWin = true ∧ (∀ k, v.ren k = v) ∧ ∃ val, CallAt ro f (instJ ρ.f1 (z.den ρ)) val ∧ ∀ π, v.conc ρ π = val) : SumAt Tryd.prog cx ρ f (symI mk) := by
 intro args st v st' hs S π0 w ac n hh ha
 unfold symI at hs
 split at hs
 ·rename_i z l
  split at hs
  ·rename_i hb hthere
   obtain ⟨st1, L, hs⟩ := split_sel hh.pc hs
   rw [hS.tt] at hs
   split at hs
   ·rename_i v0 hv0
    simp only [R.sel, Option.some.injEq, Prod.mk.injEq] at hs
    obtain ⟨rfl, rfl⟩ := hs
    obtain ⟨hnw, hren, val, ⟨c, ρ', pc0, x, v1, st2, q1, q2, q3, q4, q5, q6, q7, q8, q9, q10, q11, q12⟩, hval⟩ := hm z v0 hv0
    rw [V.beqs_eq _ _ hb] at ha
    have hargs : SaysL ρ' S π0 [x] ac := fun π hk => by
     rw [← ha π hk]
     show [x.conc ρ' π] = [(rowI z).conc ρ π]
     rw [q12, rowI_conc]
    have key := leaf_post4 (P := Tryd.prog) (cx := cx) (cx0 := c) (ρ := ρ) (ρ' := ρ') (st := st1) q6 mixed_door (by rw [q2]; exact tt_ok) (by rw [q3]; exact ft_ok) q1 hng q4 LStart_lt (hall ρ' q5) (q5.trans hS.hro.symm) q7 q8 (v' := v0) (fun _ π => (hval π).trans (q10 π).symm) hnw (objs := []) (fun x hx => by simp at hx) (by simp [V.pures, q11]) hfn (hh.like L) (by rw [L.h]; exact hthere) hargs (n := n)
    refine key.mono fun e w' hp => EPost.like L ?_
    rw [hren] at hp
    exact EPost.more (st1 := { h := st1.h, n := st1.n + (st2.n - 7), pc := st1.pc }) (v := v0) hp (m := st1.n + 10000) (by show st1.n + (st2.n - 7) ≤ st1.n + 10000; omega)
   ·simp [R.sel] at hs
  ·simp [R.sel] at hs
 ·simp [R.sel] at hs
end
section
variable {W : World} {ro : Nat → Obj} {ρ : Env} {cx : Cx} (hall : RoAll ro) (hW : ∀ x ∈ LStart, W.heap[x.1]? = some (ro x.1)) (hS : Syms ro ρ) (hng : cx.ng = 7)
include hall hW in
theorem encJ (f : Nat → Int → Int) (j : Int) : Enc ro (instJ f j) (encP ro (instJ f j)).1 (encP ro (instJ f j)).2 := by
 refine encP_ok (enc_ex hall hW ?_)
 simp [IntKind.wrap, IntKind.bits, IntKind.signed]
 omega
include hall hW hS hng in
theorem sym5 : SumAt Tryd.prog cx ρ 5 (symI encS) := symI_ok hall hS hng Tryd.func5 fun z v hv => by
 have h := (encJ hall hW ρ.f1 (z.den ρ)).enc
 cases hb : (encP ro (instJ ρ.f1 (z.den ρ))).1 <;> (rw [hb] at hv h; obtain rfl := Option.some.inj hv)
 ·exact ⟨rfl, fun _ => rfl, _, h, fun π => rfl⟩
 ·exact ⟨rfl, fun _ => rfl, _, h, fun π => by
   show Value.tuple #[.int .u32 (ρ.f1 31 (z.den ρ)), .int .i64 0] = _
   rw [hS.r]
   rfl⟩
include hall hW hS hng in
theorem sym6 : SumAt Tryd.prog cx ρ 6 (symI mayS) := symI_ok hall hS hng Tryd.func6 fun z v hv => by
 have h := (encJ hall hW ρ.f1 (z.den ρ)).may
 cases hb : (encP ro (instJ ρ.f1 (z.den ρ))).1 <;> (rw [hb] at hv h; obtain rfl := Option.some.inj hv)
 ·exact ⟨rfl, fun _ => rfl, _, h, fun π => rfl⟩
 ·exact ⟨rfl, fun _ => rfl, _, h, fun π => rfl⟩
include hall hW hS hng in
theorem sym7 : SumAt Tryd.prog cx ρ 7 (symI refS) := symI_ok hall hS hng Tryd.func7 fun z v hv => by
 have h := (encJ hall hW ρ.f1 (z.den ρ)).ref
 cases hb : (encP ro (instJ ρ.f1 (z.den ρ))).1 <;> rw [hb] at hv
 ·cases hv
 ·obtain rfl := Option.some.inj hv
  exact ⟨rfl, fun _ => rfl, _, h hb, fun π => by
   show Value.int .u32 (ρ.f1 31 (z.den ρ)) = _
   rw [hS.r]⟩
end
end Go.Proofs.YtkkfbmjelanjgaaDoor
