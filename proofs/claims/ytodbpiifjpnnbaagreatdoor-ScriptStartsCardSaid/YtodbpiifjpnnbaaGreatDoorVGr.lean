/- core.New of any words: what it lays anew. core.New as a summary: of words that are only there. great: which setups are too great. great as a summary; what came in: slices, rows of slices. No condition. -/
import Derived.Test.YtodbpiifjpnnbaaGreatDoorVDoor
import Derived.Test.YtodbpiifjpnnbaaGreatDoorFwH
namespace Go.Proofs.YtodbpiifjpnnbaaGreatDoor
open Go Go.Proofs Go.RowKit
def Fit (W : World) (cv : Value) : Prop := cv = .slice none 0 0 ∨ (∃ (a : Addr) (cap : Nat), cv = .slice (some a) 0 cap) ∨ ∃ (a : Addr) (n cap : Nat) (g : Nat → Int → Int), cv = .slice (some a) n cap ∧ 1 ≤ n ∧ n ≤ 1024 ∧ n ≤ cap ∧ CameIn W [.int .u32] a n g
def zw : Nat → List V
 | 0 => []
 | n + 1 => .int .u32 (.lit 0) :: zw n
def bufC : List V := [.int .u32 (.lit 0), .int .i64 (.lit 0), .int .u32 (.lit 0), .int .u32 (.lit 0), .int .i64 (.lit 0), .int .u32 (.lit 0), .int .u32 (.lit 0), .int .i64 (.lit 0), .int .u32 (.lit 0), .int .u32 (.lit 0), .int .i64 (.lit 0), .int .u32 (.lit 0), .int .i64 (.lit 0), .int .i64 (.lit 0)]
def coreC (i x : X) (b : Nat) (code : V) : List V := .int .i64 i :: (zw 33 ++ [.int .i64 (.lit 0), code, .int .i64 x, .ptr b 0, .int .i64 (.lit 0), .nilptr])
def zv : Nat → List Value
 | 0 => []
 | n + 1 => .int .u32 0 :: zv n
def bufV : List Value := [.int .u32 0, .int .i64 0, .int .u32 0, .int .u32 0, .int .i64 0, .int .u32 0, .int .u32 0, .int .i64 0, .int .u32 0, .int .u32 0, .int .i64 0, .int .u32 0, .int .i64 0, .int .i64 0]
def coreV (i x : Int) (b : Nat) (code : Value) : List Value := .int .i64 i :: (zv 33 ++ [.int .i64 0, code, .int .i64 x, .pointer (some ⟨b, 0, none⟩), .int .i64 0, .pointer none])
theorem bufC_conc (ρ : Env) (π : Pl) : V.concs ρ π bufC = bufV := rfl
theorem coreC_conc (ρ : Env) (π : Pl) (i x : X) (b : Nat) (code : V) : V.concs ρ π (coreC i x b code) = coreV (i.den ρ) (x.den ρ) (π b).1 (code.conc ρ π) := rfl
def CoreRet (W : World) (i x : Int) (e : Ending) (w' : World) : Prop := ∃ B0 B1 u, e = .returned (.tuple #[.pointer (some ⟨B1, 0, none⟩), .int .i64 0]) ∧ W.heap.size ≤ B0 ∧ W.heap.size ≤ B1 ∧ B0 ≠ B1 ∧ w'.heap[B0]? = some (.cells bufV.toArray 191 (0, 0)) ∧ w'.heap[B1]? = some (.cells (coreV i x B0 u).toArray 118 (0, 0)) ∧ Below W.heap.size W w'
noncomputable def coreLook (bN cN : Nat) (code : V) (v : V) (st : St) : Bool := match V.beq v (.tuple [.ptr cN 0, .int .i64 (.lit 0)]), Nat.beq bN cN, st.h.get bN, st.h.get cN with
 | true, false, some (.cells b tb none), some (.cells c tc none) => match V.beqs b bufC, Nat.beq tb 191, V.beqs c (coreC (.var 61) (.var 60) bN code), Nat.beq tc 118 with
  | true, true, true, true => true
  | _, _, _, _ => false
 | _, _, _, _ => false
def corePc (l : PC) : PC := [(.le (.lit 0) (.var 61), true), (.lt (.var 61) (.lit 4), true), (.le (.lit 0) (.var 60), true), (.le (.var 60) (.lit 4096), true)] ++ (l ++ [(.le (.lit 0) (.lit 7), true)])
noncomputable def coreRun (arg : V) (ws : List (Nat × SObj)) (l : PC) (bN cN : Nat) (code : V) : Bool := overR ((evT { cxD with sx := true, js := true } 4000).call 38 [.int .i64 (.var 61), arg, .int .i64 (.var 60)] (stRows LStart ws 8 (corePc l))) (coreLook bN cN code)
def emA : V := .xslice true 7 (.lit 0) 1 (.lit 0) (.known (.var 51))
def opA : V := .xslice true 7 (.lit 0) 1 (.var 50) (.known (.var 51))
def opW : List (Nat × SObj) := [(7, .warr 7 20 [.int .u32] (.var 50))]
def opL : PC := [(.le (.lit 1) (.var 50), true), (.le (.var 50) (.lit 1024), true), (.le (.var 50) (.var 51), true)]
set_option maxRecDepth 100000 in
theorem core_nil : coreRun .nilslice [] [] 8 9 .nilslice = true := by kernel_rfl
set_option maxRecDepth 100000 in
theorem core_empty : coreRun emA [] [(.le (.lit 0) (.var 51), true)] 9 10 (.slice 8 0 0 (.known 0)) = true := by kernel_rfl
set_option maxRecDepth 100000 in
theorem core_open : coreRun opA opW opL 10 11 (.xslice false 9 (.lit 0) 1 (.var 50) (.room (.var 50))) = true := by kernel_rfl
section
variable {W : World} {ρ : Env} {πs : Pl} {ws : List (Nat × SObj)} {i x : Int}
theorem core_go (hro : RoAt ρ LStart) (hW : ∀ x ∈ LStart, W.heap[x.1]? = some (ρ.ro x.1)) (hw : RowsV ρ W ws 7 8 πs) {l : PC} (hpc : PcOk ρ (corePc l)) {arg : V} {cv : Value} (ha : ∀ π, arg.conc ρ π = cv) (hi : ρ.v 61 = i) (hx : ρ.v 60 = x) {bN cN : Nat} {code : V} (hr : coreRun arg ws l bN cN code = true) : Calls Tryz.prog 38 #[.int .i64 i, cv, .int .i64 x] W (CoreRet W i x) := by
 unfold coreRun at hr
 rw [← evT_call] at hr
 obtain ⟨v, st, hsel, hk⟩ := overR_sel (ρ := ρ) hr
 have hs : SumOk Tryz.prog { cxD with sx := true, js := true } ρ := sum_flags (c := cxD) allD
 have hh := here_rowsV (cx := { cxD with sx := true, js := true }) (ng := 7) rfl LStart_lt hro hW hw hpc
 have hargs : SaysL ρ (fun i => i < 8) πs [.int .i64 (.var 61), arg, .int .i64 (.var 60)] [.int .i64 i, cv, .int .i64 x] := fun π _ => by
  show [Value.int .i64 (ρ.v 61), arg.conc ρ π, Value.int .i64 (ρ.v 60)] = _
  rw [ha, hi, hx]
 refine (ev_calls mixed_door tt_ok ft_ok hs hsel hh hargs Tryz.func38).mono fun e w' hp => ?_
 obtain ⟨_, π1, g, c, rfl, hv⟩ := hp
 have hold : ∀ i o, (stRows LStart ws 8 (corePc l)).h.get i = some o → o.froz = true := fun i o hi => by
  rcases winHeap_get hi with h | ⟨_, h⟩
  ·exact hw.froz _ h
  ·obtain ⟨y, hy, rfl, rfl⟩ := roHeap_get h
   rfl
 have hnew : ∀ i o, st.h.get i = some o → o.froz = false → W.heap.size ≤ (π1 i).1 := fun i o hi hf => by
  rcases g.sub i o hi with h | ⟨i0, o0, h1, _, h2⟩
  ·exact h
  ·rw [h2 (hold i0 o0 h1)] at hf
   cases hf
 unfold coreLook at hk
 split at hk
 ·rename_i b tb c' tc e1 e2 e3 e4
  split at hk
  ·rename_i k1 k2 k3 k4
   have rep := g.at_.rep π1 fun _ _ => rfl
   obtain ⟨ob, o1, sp, o2, o3⟩ := rep.obj bN _ e3
   obtain ⟨oc, p1, sq, p2, p3⟩ := rep.obj cN _ e4
   have s1 : sp = [] := by simpa [wideIs] using o3
   have s2 : sq = [] := by simpa [wideIs] using p3
   rw [o2, s1, List.append_nil, V.beqs_eq _ _ k1, bufC_conc, Nat.eq_of_beq_eq_true k2] at o1
   rw [p2, s2, List.append_nil, V.beqs_eq _ _ k3, coreC_conc, Nat.eq_of_beq_eq_true k4] at p1
   have hc := (hv π1 fun _ _ => rfl).symm
   rw [V.beq_eq _ _ e1] at hc
   have q1 : (X.var 61).den ρ = i := hi
   have q2 : (X.var 60).den ρ = x := hx
   rw [q1, q2] at p1
   refine ⟨(π1 bN).1, (π1 cN).1, code.conc ρ π1, by rw [hc]; rfl, hnew bN _ e3 rfl, hnew cN _ e4 rfl, fun e => ?_, o1, p1, g.same.2.1, g.same.1, g.same.2.2, g.size, fun k hk => g.keep k hk fun i o hi _ => hold i o hi⟩
   rcases rep.inj bN cN _ _ e3 e4 e with h | h
   ·rw [h, Nat.beq_refl] at e2
    cases e2
   ·cases h.1
  ·cases hk
 ·cases hk
end
def coreEnv (W : World) (i x n cap : Int) (a : Addr) (g : Nat → Int → Int) : Env :=
 {b := fun _ => false
  v := fun k => if k = 60 then x else if k = 61 then i else if k = 50 then n else cap
  f1 := fun k => g (k - 20)
  f2 := fun _ _ _ => 0, s := fun _ => [], sf := fun _ _ => []
  ro := fun k => match Nat.ble 7 k with
   | true => roOf W a.block
   | false => roOf W k
  win := fun _ => a }
theorem core_ret {W : World} (hall : RoAll (roOf W)) (hW : ∀ x ∈ LStart, W.heap[x.1]? = some (roOf W x.1)) {cv : Value} (hf : Fit W cv) {i x : Int} (hi : 0 ≤ i ∧ i < 4) (hx : 0 ≤ x ∧ x ≤ 4096) : Calls Tryz.prog 38 #[.int .i64 i, cv, .int .i64 x] W (CoreRet W i x) := by
 have hro : ∀ n cap a g, RoAt (coreEnv W i x n cap a g) LStart := fun n cap a g => ⟨fun y hy => by
  simp only [LStart, List.mem_singleton] at hy
  subst hy
  obtain ⟨t, fr, h⟩ := (hall { coreEnv W i x n cap a g with ro := roOf W } rfl).is (0, asciiL 256) (by simp [LStart])
  refine ⟨t, fr, fun π => ?_⟩
  have h1 := h π
  rw [asciiL_concs] at h1 ⊢
  exact h1⟩
 have hW' : ∀ n cap a g, ∀ y ∈ LStart, W.heap[y.1]? = some ((coreEnv W i x n cap a g).ro y.1) := fun n cap a g y hy => by
  have h1 := hW y hy
  simp only [LStart, List.mem_singleton] at hy
  subst hy
  exact h1
 have tle : ∀ {ρ : Env} {a b : X}, a.den ρ ≤ b.den ρ → (X.le a b).tt ρ = true := fun h => by rw [tt_le]; exact decide_eq_true h
 have tlt : ∀ {ρ : Env} {a b : X}, a.den ρ < b.den ρ → (X.lt a b).tt ρ = true := fun h => by rw [tt_lt]; exact decide_eq_true h
 have one : ∀ {ρ : Env} {y : X} {t : Bool} {pc : PC}, y.tt ρ = t → PcOk ρ pc → PcOk ρ ((y, t) :: pc) := fun h hp f hf => by
  rcases List.mem_cons.1 hf with rfl | hf
  ·exact h
  ·exact hp f hf
 have nil : ∀ {ρ : Env}, PcOk ρ [] := fun f hf => by cases hf
 have hpc : ∀ (n cap : Int) (a : Addr) (g : Nat → Int → Int) {l : PC}, PcOk (coreEnv W i x n cap a g) (l ++ [(.le (.lit 0) (.lit 7), true)]) → PcOk (coreEnv W i x n cap a g) (corePc l) := fun n cap a g {l} h => one (tle hi.1) (one (tlt hi.2) (one (tle hx.1) (one (tle hx.2) h)))
 have glob : ∀ (a : Addr) (k : Nat), k < 7 → (πRows (coreEnv W i x 0 0 a fun _ _ => 0) 7 k).1 = k := fun a k hk => πRows_glob hk
 have add0 : ∀ a : Addr, a.add 0 = a := fun a => by simp [Addr.add]
 rcases hf with rfl | ⟨a, cap, rfl⟩ | ⟨a, n, cap, g, rfl, h1, h2, h3, hc⟩
 ·exact core_go (ρ := coreEnv W i x 0 0 ⟨0, 0, none⟩ fun _ _ => 0) (πs := πRows (coreEnv W i x 0 0 ⟨0, 0, none⟩ fun _ _ => 0) 7) (hro 0 0 _ _) (hW' 0 0 _ _) ⟨glob _, (fun y hy => by cases hy), by decide, (fun y hy => by cases hy), fun y hy => by cases hy⟩ (hpc 0 0 _ _ (l := []) (one rfl nil)) (fun π => rfl) rfl rfl core_nil
 ·exact core_go (ρ := coreEnv W i x 0 cap a fun _ _ => 0) (πs := πRows (coreEnv W i x 0 cap a fun _ _ => 0) 7) (hro 0 cap a _) (hW' 0 cap a _) ⟨fun k hk => πRows_glob hk, (fun y hy => by cases hy), by decide, (fun y hy => by cases hy), fun y hy => by cases hy⟩ (hpc 0 cap a _ (l := [(.le (.lit 0) (.var 51), true)]) (one (tle (a := .lit 0) (b := .var 51) (show (0 : Int) ≤ (cap : Int) from Int.natCast_nonneg cap)) (one rfl nil))) (fun π => by
   show Value.slice (some (a.add 0)) 0 ((cap : Int)).toNat = _
   rw [add0, Int.toNat_natCast]) rfl rfl core_empty
 ·exact core_go (ρ := coreEnv W i x n cap a g) (πs := πRows (coreEnv W i x n cap a g) 7) (hro n cap a g) (hW' n cap a g) ⟨fun k hk => πRows_glob hk, (fun y hy => by
    obtain rfl := List.mem_singleton.1 hy
    decide), by decide, (fun y hy => by
    obtain rfl := List.mem_singleton.1 hy
    rfl), fun y hy π hk => by
    obtain rfl := List.mem_singleton.1 hy
    exact ⟨roW W a.block, hc.block, hc.is (t := 20) rfl rfl (fun c hc => by
     match c, hc with
     | 0, _ => rfl) (by show ((n : Int)).toNat ≤ n; omega) (by rw [hk 7 (by decide)]; rfl)⟩⟩
   (hpc n cap a g (l := opL) (one (tle (a := .lit 1) (b := .var 50) (show (1 : Int) ≤ n by omega)) (one (tle (a := .var 50) (b := .lit 1024) (show (n : Int) ≤ 1024 by omega)) (one (tle (a := .var 50) (b := .var 51) (show (n : Int) ≤ cap by omega)) (one rfl nil))))) (fun π => by
   show Value.slice (some (a.add 0)) ((n : Int)).toNat ((cap : Int)).toNat = _
   rw [add0, Int.toNat_natCast, Int.toNat_natCast]) rfl rfl core_open
end Go.Proofs.YtodbpiifjpnnbaaGreatDoor
namespace Go.Proofs.YtodbpiifjpnnbaaGreatDoor
open Go Go.Proofs Go.RowKit
def anys : Nat → Nat → List V
 | _, 0 => []
 | q, n + 1 => .any q :: anys (q + 1) n
def FitAt (ρ : Env) (j : Nat) : Prop := ∃ cs t fr cv, ρ.ro 8 = .cells cs t fr ∧ cs[(ρ.win 8).off + j]? = some cv ∧ (cv = .slice none 0 0 ∨ (∃ (a : Addr) (cap : Nat), cv = .slice (some a) 0 cap) ∨ ∃ cap : Nat, cv = .slice (some (ρ.win (10 + j))) (ρ.v (52 + 2 * j)).toNat cap ∧ 1 ≤ ρ.v (52 + 2 * j) ∧ ρ.v (52 + 2 * j) ≤ 1024 ∧ ρ.v (52 + 2 * j) ≤ cap)
def coreAt (k0 : Nat) (st : St) (j q : Nat) : Bool := match Nat.blt j k0, st.h.get 8, st.h.get (10 + j) with
 | true, some (.win t c (.lit k) es), some (.warr _ _ [.int .u32] (.var n)) => match Nat.beq t 8, Nat.beq es 1, Nat.blt j k.toNat, Nat.beq n (52 + 2 * j) with
  | true, true, true, true => match c[j]? with
   | some (.any q') => Nat.beq q q'
   | _ => false
  | _, _, _, _ => false
 | _, _, _ => false
def coreO (i x : X) (n : Nat) : List (Nat × SObj) := [(n + 1, .cells (coreC i x n (.any (n + 2))) 118 none), (n, .cells bufC 191 none)]
noncomputable def coreS (k0 : Nat) (args : List V) (st : St) : R (V × St) := match args with
 | [.int .i64 (.lit (.ofNat j)), .any q, .int .i64 x] => match coreAt k0 st j q, leL st.pc (.lit 0) x, leL st.pc x (.lit 4096), roThere LStart st.h with
  | true, true, true, true => .ok (.tuple [.ptr (st.n + 1) 0, .int .i64 (.lit 0)], { h := putO (coreO (.lit (.ofNat j)) x st.n) st.h, n := st.n + 3, pc := st.pc })
  | _, _, _, _ => .stuck "core.New"
 | _ => .stuck "core.New"
theorem ro_now {cx : Cx} {ρ : Env} {S : Nat → Prop} {π0 : Pl} {st : St} {w : World} (hng : cx.ng = 7) (hro : RoAt ρ LStart) (hh : Here cx ρ S π0 st w) (ht : roThere LStart st.h = true) : RoAll (roOf w) ∧ ∀ x ∈ LStart, w.heap[x.1]? = some (roOf w x.1) := by
 have h0 : w.heap[0]? = some (ρ.ro 0) := by
  obtain ⟨c, hc⟩ := roThere_get ht (0, asciiL 256) (by simp [LStart])
  obtain ⟨ob, h1, _, h2⟩ := (hh.at_.rep π0 fun _ _ => rfl).obj _ _ hc
  have h5 : (π0 0).1 = 0 := (hh.glob 0 (by rw [hng]; decide)).2
  dsimp only at h1
  rw [h5, h2] at h1
  exact h1
 have h1 : roOf w 0 = ρ.ro 0 := by simp only [roOf, h0, Option.getD_some]
 refine ⟨fun ρ' hr => ⟨fun x hx => ?_⟩, fun x hx => ?_⟩
 ·simp only [LStart, List.mem_singleton] at hx
  subst hx
  obtain ⟨t, fr, h2⟩ := hro.is (0, asciiL 256) (by simp [LStart])
  refine ⟨t, fr, fun π => ?_⟩
  have h3 := h2 π
  rw [asciiL_concs] at h3 ⊢
  rw [hr]
  show roOf w 0 = _
  rw [h1]
  exact h3
 ·simp only [LStart, List.mem_singleton] at hx
  subst hx
  show w.heap[0]? = some (roOf w 0)
  rw [h1]
  exact h0
theorem coreS_ok {cx : Cx} {ρ : Env} {k0 : Nat} (hk0 : k0 ≤ 4) (hng : cx.ng = 7) (hro : RoAt ρ LStart) (hfit : ∀ j, j < k0 → FitAt ρ j) : SumAt Tryz.prog cx ρ 38 (coreS k0) := by
 intro args st v st' hs S π0 w ac n hh ha
 unfold coreS at hs
 split at hs
 ·rename_i j q x
  split at hs
  ·rename_i h1 h2 h3 h4
   simp only [R.sel, Option.some.injEq, Prod.mk.injEq] at hs
   obtain ⟨rfl, rfl⟩ := hs
   have x0 : (0 : Int) ≤ x.den ρ := leL_ok hh.pc h2
   have x1 : x.den ρ ≤ 4096 := leL_ok hh.pc h3
   have rep := hh.at_.rep π0 fun _ _ => rfl
   unfold coreAt at h1
   split at h1
   ·rename_i t c k es e1 s n' hj g8 g10
    split at h1
    ·rename_i k1 k2 k3 k4
     split at h1
     ·rename_i q' hq
      have jk : j < k0 := Nat.le_of_ble_eq_true hj
      have j4 : j < 4 := by omega
      obtain rfl := Nat.eq_of_beq_eq_true k1
      obtain rfl := Nat.eq_of_beq_eq_true k2
      obtain rfl := Nat.eq_of_beq_eq_true k4
      obtain rfl := Nat.eq_of_beq_eq_true h1
      obtain ⟨o8, a1, ⟨_, _, cs, ty, fr, a2, a3⟩, a4⟩ := rep.obj _ _ g8
      have hcell := a3 j (.any q) hq (by
       have := Nat.le_of_ble_eq_true k3
       show j < ((X.lit k).den ρ).toNat * 1
       simp only [X.den]
       omega)
      rw [a2] at a4
      have hF : FitAt ρ j := hfit j jk
      obtain ⟨cs', ty', fr', cv, b1, b2, b3⟩ := hF
      rw [← a4] at b1
      obtain ⟨rfl, _, _⟩ := Obj.cells.inj b1
      rw [hcell] at b2
      have hcv : (π0 q).3 = cv := Option.some.inj b2
      obtain ⟨o10, c1, ⟨c2, c3, cs2, ty2, fr2, c4, c5⟩, _⟩ := rep.obj _ _ g10
      have hfitw : Fit w cv := by
       rcases b3 with h | ⟨a, cap, h⟩ | ⟨cap, h, h5, h6, h7⟩
       ·exact .inl h
       ·exact .inr (.inl ⟨a, cap, h⟩)
       ·refine .inr (.inr ⟨_, _, cap, fun c j => ρ.f1 (s + c) j, h, by omega, by omega, by omega, c2, cs2, ty2, fr2, by rw [c3, c1, c4], fun j' c k hj' hk => ?_⟩)
        have := c5 j' c k hj' hk
        match c, hk with
        | 0, hk =>
         obtain rfl := Option.some.inj hk
         exact this
      obtain ⟨hall, hW⟩ := ro_now hng hro hh h4
      have key := core_ret (W := w) hall hW hfitw (i := (j : Int)) (x := x.den ρ) ⟨by omega, by omega⟩ ⟨x0, x1⟩
      have hac : ac.toArray = #[.int .i64 (j : Int), cv, .int .i64 (x.den ρ)] := by
       rw [← ha π0 fun _ _ => rfl, ← hcv]
       rfl
      rw [hac]
      refine (callsIn_wide.2 key).mono fun e w' hp => ?_
      obtain ⟨B0, B1, u, rfl, d1, d2, d3, d4, d5, hb⟩ := hp
      let π1 : Pl := fun i => if i < st.n then π0 i else if i = st.n then ⟨B0, 0, .nilFunc⟩ else if i = st.n + 1 then ⟨B1, 0, .nilFunc⟩ else ⟨0, 0, u⟩
      have p0 : π1 st.n = ⟨B0, 0, .nilFunc⟩ := by
       show (if st.n < st.n then _ else if st.n = st.n then _ else _) = _
       rw [if_neg (by omega), if_pos rfl]
      have p1 : π1 (st.n + 1) = ⟨B1, 0, .nilFunc⟩ := by
       show (if st.n + 1 < st.n then _ else if st.n + 1 = st.n then _ else if st.n + 1 = st.n + 1 then _ else _) = _
       rw [if_neg (by omega), if_neg (by omega), if_pos rfl]
      have p2 : π1 (st.n + 2) = ⟨0, 0, u⟩ := by
       show (if st.n + 2 < st.n then _ else if st.n + 2 = st.n then _ else if st.n + 2 = st.n + 1 then _ else _) = _
       rw [if_neg (by omega), if_neg (by omega), if_neg (by omega)]
      refine post_new (π1 := π1) hh hb (fun i hi => if_pos hi) (by omega) (fun y hy => ?_) (fun y hy z hz e => ?_) fun π hk => ?_
      ·simp only [coreO, List.mem_cons, List.not_mem_nil, or_false] at hy
       rcases hy with rfl | rfl
       ·refine ⟨by dsimp only; omega, by dsimp only; omega, by dsimp only; rw [p1]; exact d2, fun π hk => ⟨_, by dsimp only; rw [p1]; exact d5, [], ?_, rfl⟩⟩
        rw [coreC_conc, List.append_nil, hk st.n (by omega) (by omega), p0]
        show _ = Obj.cells (coreV _ _ _ (π (st.n + 2)).3).toArray _ _
        rw [hk (st.n + 2) (by omega) (by omega), p2]
        rfl
       ·refine ⟨by dsimp only; omega, by dsimp only; omega, by dsimp only; rw [p0]; exact d1, fun π hk => ⟨_, by dsimp only; rw [p0]; exact d4, [], ?_, rfl⟩⟩
        rw [bufC_conc, List.append_nil]
      ·simp only [coreO, List.mem_cons, List.not_mem_nil, or_false] at hy hz
       rcases hy with rfl | rfl <;> rcases hz with rfl | rfl
       ·rfl
       ·dsimp only at e ⊢
        rw [p0, p1] at e
        exact (d3 e.symm).elim
       ·dsimp only at e ⊢
        rw [p0, p1] at e
        exact (d3 e).elim
       ·rfl
      ·show Value.tuple #[.pointer (some ⟨(π (st.n + 1)).1, 0, none⟩), .int .i64 0] = _
       rw [hk (st.n + 1) (by omega) (by omega), p1]
     ·cases h1
    ·cases h1
   ·cases h1
  ·simp [R.sel] at hs
 ·simp [R.sel] at hs
end Go.Proofs.YtodbpiifjpnnbaaGreatDoor
namespace Go.Proofs.YtodbpiifjpnnbaaGreatDoor
open Go Go.Proofs Go.RowKit
structure GD where
 W : World
 k : Nat
 cap : Nat
 a : Addr
 nilc : Nat → Bool
 n : Nat → Nat
 c : Nat → Nat
 p : Nat → Addr
 nilm : Bool
 m : Nat
 mc : Nat
 mp : Addr
 s : Int
 w : Int
def slW (z : Bool) (a : Addr) (n c : Nat) : Value := match z with
 | true => .slice none 0 0
 | false => .slice (some a) n c
def lnW (z : Bool) (n : Nat) : Nat := match z with
 | true => 0
 | false => n
def GD.cell (d : GD) (j : Nat) : Value := slW (d.nilc j) (d.p j) (d.n j) (d.c j)
def GD.len (d : GD) (j : Nat) : Nat := lnW (d.nilc j) (d.n j)
def GD.ml (d : GD) : Nat := lnW d.nilm d.m
def GD.mem (d : GD) : Value := slW d.nilm d.mp d.m d.mc
def b01 : Bool → Int
 | true => 0
 | false => 1
def GD.great (d : GD) : Prop := 6 < d.k ∨ 1024 < d.ml ∨ ∃ j, j < d.k ∧ 40 < d.len j
structure GD.Row (d : GD) (W : World) : Prop where
 spot : d.a.spot = none
 row : ∃ cs t fr, W.heap[d.a.block]? = some (.cells cs t fr) ∧ ∀ j, j < d.k → cs[d.a.off + j]? = some (d.cell j)
def gEnv (d : GD) (W : World) : Env :=
 {b := fun _ => false
  v := fun i => if i = 50 then d.ml else if i = 51 then d.mc else if i = 68 then b01 d.nilm else if i = 92 then d.cap else if i = 93 then d.k else if i = 95 then d.s else if i = 97 then d.w else if 70 ≤ i ∧ i < 80 then b01 (d.nilc (i - 70)) else if i % 2 = 0 then d.len ((i - 52) / 2) else d.c ((i - 53) / 2)
  f1 := fun _ _ => 0
  f2 := fun _ _ _ => 0, s := fun _ => [], sf := fun _ _ => []
  ro := fun k => match Nat.ble 7 k with
   | true => roW W d.a.block
   | false => roW W k
  win := fun i => if i = 7 then d.mp else if i = 8 then d.a else d.p (i - 10) }
def gCell (j : Nat) : V := .ite (.eq (.var (70 + j)) (.lit 0)) .nilslice (.xslice true (10 + j) (.lit 0) 1 (.var (52 + 2 * j)) (.known (.var (53 + 2 * j))))
def gCells : Nat → List V
 | 0 => []
 | k + 1 => gCells k ++ [gCell k]
def gMem : V := .ite (.eq (.var 68) (.lit 0)) .nilslice (.xslice true 7 (.lit 0) 1 (.var 50) (.known (.var 51)))
def gPcs : Nat → PC
 | 0 => [(.le (.lit 0) (.var 50), true), (.le (.lit 0) (.lit 7), true)]
 | k + 1 => (.le (.lit 0) (.var (52 + 2 * k)), true) :: gPcs k
noncomputable def shortB (pc : PC) (j : Nat) : Bool := leL pc (.var (52 + 2 * j)) (.lit 40) || (match factOf (.eq (.var (70 + j)) (.lit 0)) pc with
 | some true => true
 | _ => false)
noncomputable def shorts (pc : PC) : Nat → Bool
 | 0 => true
 | k + 1 => shortB pc k && shorts pc k
noncomputable def longs (pc : PC) : Nat → Bool
 | 0 => false
 | k + 1 => leL pc (.lit 41) (.var (52 + 2 * k)) || longs pc k
noncomputable def gLook (k : Nat) (v : V) (st : St) : Bool := match v with
 | .bool (.lit 0) => shorts st.pc k && (leL st.pc (.var 50) (.lit 1024) || (match factOf (.eq (.var 68) (.lit 0)) st.pc with
  | some true => true
  | _ => false))
 | .bool (.lit 1) => leL st.pc (.lit 1025) (.var 50) || longs st.pc k
 | _ => false
noncomputable def gRun (codes : V) (ws : List (Nat × SObj)) (pc : PC) (look : V → St → Bool) : Bool :=
 overR ((evT { cxD with sx := true, js := true } 4000).call 4 [.agg [codes, gMem, .int .i64 (.var 95), .int .i64 (.var 97)]] (stRows LStart ws 16 pc)) look
def gCodes (k : Nat) : V := .wslice 8 0 (.lit (.ofNat k)) (.var 92)
def gWs (k : Nat) : List (Nat × SObj) := [(8, .win 8 (gCells k) (.lit (.ofNat k)) 1)]
set_option maxRecDepth 100000 in
theorem great_nil : gRun .nilslice [] (gPcs 0) (gLook 0) = true := by kernel_rfl
set_option maxRecDepth 100000 in
theorem great_over : gRun (.wslice 8 0 (.var 93) (.var 92)) [] ((.lt (.lit 6) (.var 93), true) :: gPcs 0) (fun v _ => V.beq v (.bool (.lit 1))) = true := by kernel_rfl
set_option maxRecDepth 100000 in
theorem great0 : gRun (gCodes 0) [] (gPcs 0) (gLook 0) = true := by kernel_rfl
set_option maxRecDepth 100000 in
theorem great1 : gRun (gCodes 1) (gWs 1) (gPcs 1) (gLook 1) = true := by kernel_rfl
set_option maxRecDepth 100000 in
theorem great2 : gRun (gCodes 2) (gWs 2) (gPcs 2) (gLook 2) = true := by kernel_rfl
set_option maxRecDepth 100000 in
theorem great3 : gRun (gCodes 3) (gWs 3) (gPcs 3) (gLook 3) = true := by kernel_rfl
set_option maxRecDepth 100000 in
theorem great4 : gRun (gCodes 4) (gWs 4) (gPcs 4) (gLook 4) = true := by kernel_rfl
set_option maxRecDepth 100000 in
theorem great5 : gRun (gCodes 5) (gWs 5) (gPcs 5) (gLook 5) = true := by kernel_rfl
set_option maxRecDepth 100000 in
theorem great6 : gRun (gCodes 6) (gWs 6) (gPcs 6) (gLook 6) = true := by kernel_rfl
open Classical in
noncomputable def GD.gb (d : GD) : Bool := if d.great then true else false
theorem GD.gb_yes {d : GD} (h : d.great) : d.gb = true := by
 unfold GD.gb
 rw [if_pos h]
theorem GD.gb_no {d : GD} (h : ¬ d.great) : d.gb = false := by
 unfold GD.gb
 rw [if_neg h]
section
variable {d : GD} {W : World}
theorem sl_conc {ρ : Env} {π : Pl} {z : Bool} {a : Addr} {n c b i j k : Nat} (h0 : ρ.v k = b01 z) (h1 : ρ.win b = a) (h2 : ρ.v i = lnW z n) (h3 : ρ.v j = c) : (V.ite (.eq (.var k) (.lit 0)) .nilslice (.xslice true b (.lit 0) 1 (.var i) (.known (.var j)))).conc ρ π = slW z a n c := by
 show (if (X.eq (.var k) (.lit 0)).tt ρ then Value.slice none 0 0 else Value.slice (some ((ρ.win b).add (0 * 1))) (ρ.v i).toNat (ρ.v j).toNat) = _
 rw [tt_eq]
 show (if (ρ.v k == 0) = true then _ else _) = _
 rw [h0, h1, h2, h3]
 cases z
 ·simp [b01, slW, lnW, Addr.add]
 ·simp [b01, slW]
theorem gMem_conc {π : Pl} : gMem.conc (gEnv d W) π = d.mem := sl_conc rfl rfl rfl rfl
theorem gCell_conc {π : Pl} : ∀ {j : Nat}, j < 6 → (gCell j).conc (gEnv d W) π = d.cell j
 | 0, _ => sl_conc rfl rfl rfl rfl
 | 1, _ => sl_conc rfl rfl rfl rfl
 | 2, _ => sl_conc rfl rfl rfl rfl
 | 3, _ => sl_conc rfl rfl rfl rfl
 | 4, _ => sl_conc rfl rfl rfl rfl
 | 5, _ => sl_conc rfl rfl rfl rfl
theorem gLen : ∀ {j : Nat}, j < 6 → (gEnv d W).v (52 + 2 * j) = d.len j ∧ (gEnv d W).v (70 + j) = b01 (d.nilc j)
 | 0, _ => ⟨rfl, rfl⟩
 | 1, _ => ⟨rfl, rfl⟩
 | 2, _ => ⟨rfl, rfl⟩
 | 3, _ => ⟨rfl, rfl⟩
 | 4, _ => ⟨rfl, rfl⟩
 | 5, _ => ⟨rfl, rfl⟩
theorem gCells_get : ∀ {k j : Nat} {v : V}, (gCells k)[j]? = some v → j < k ∧ v = gCell j
 | 0, j, v, h => by simp [gCells] at h
 | k + 1, j, v, h => by
  have hl : ∀ k, (gCells k).length = k := fun k => by
   induction k with
   | zero => rfl
   | succ k ih => simp [gCells, ih]
  unfold gCells at h
  by_cases hj : j < k
  ·rw [List.getElem?_append_left (by rw [hl]; exact hj)] at h
   exact ⟨by omega, (gCells_get h).2⟩
  ·rw [List.getElem?_append_right (by rw [hl]; omega), hl] at h
   have h1 : j - k = 0 := by
    have := (List.getElem?_eq_some_iff.1 h).1
    simp at this
    omega
   rw [h1] at h
   have h2 : j = k := by omega
   subst h2
   exact ⟨by omega, (Option.some.inj h).symm⟩
theorem nil_of {z : Bool} (h : b01 z = 0) : z = true := by
 cases z
 ·cases h
 ·rfl
theorem fact0 {ρ : Env} {pc : PC} {k : Nat} (hp : PcOk ρ pc) (h : (match factOf (.eq (.var k) (.lit 0)) pc with
  | some true => true
  | _ => false) = true) : ρ.v k = 0 := by
 split at h
 ·rename_i hf
  have := factOf_ok hp hf
  rw [tt_eq] at this
  exact eq_of_beq this
 ·cases h
theorem shorts_ok {pc : PC} (hp : PcOk (gEnv d W) pc) : ∀ {k : Nat}, k ≤ 6 → shorts pc k = true → ∀ j, j < k → d.len j ≤ 40
 | 0, _, _, j, hj => by omega
 | k + 1, hk, h, j, hj => by
  unfold shorts at h
  rw [Bool.and_eq_true] at h
  by_cases hjk : j = k
  ·subst hjk
   obtain ⟨e1, e2⟩ := gLen (d := d) (W := W) (j := j) (by omega)
   rcases Bool.or_eq_true _ _ ▸ h.1 with h1 | h1
   ·have := leL_ok hp h1
    have e3 : (X.var (52 + 2 * j)).den (gEnv d W) = d.len j := e1
    have e4 : (X.lit 40).den (gEnv d W) = 40 := rfl
    rw [e3, e4] at this
    omega
   ·have h2 := fact0 hp h1
    rw [e2] at h2
    unfold GD.len
    rw [nil_of h2]
    exact Nat.zero_le _
  ·exact shorts_ok hp (by omega) h.2 j (by omega)
theorem longs_ok {pc : PC} (hp : PcOk (gEnv d W) pc) : ∀ {k : Nat}, k ≤ 6 → longs pc k = true → ∃ j, j < k ∧ 40 < d.len j
 | 0, _, h => by cases h
 | k + 1, hk, h => by
  unfold longs at h
  rcases Bool.or_eq_true _ _ ▸ h with h1 | h1
  ·have e1 := (gLen (d := d) (W := W) (j := k) (by omega)).1
   have := leL_ok hp h1
   have e3 : (X.var (52 + 2 * k)).den (gEnv d W) = d.len k := e1
   have e4 : (X.lit 41).den (gEnv d W) = 41 := rfl
   rw [e3, e4] at this
   exact ⟨k, by omega, by omega⟩
  ·obtain ⟨j, h2, h3⟩ := longs_ok hp (by omega) h1
   exact ⟨j, by omega, h3⟩
theorem gLook_ok {v : V} {st : St} (hk : d.k ≤ 6) (hp : PcOk (gEnv d W) st.pc) (h : gLook d.k v st = true) (π : Pl) : v.conc (gEnv d W) π = .bool d.gb := by
 have e50 : (X.var 50).den (gEnv d W) = d.ml := rfl
 unfold gLook at h
 split at h
 ·rw [Bool.and_eq_true] at h
  have hm : d.ml ≤ 1024 := by
   rcases Bool.or_eq_true _ _ ▸ h.2 with h1 | h1
   ·have := leL_ok hp h1
    have e4 : (X.lit 1024).den (gEnv d W) = 1024 := rfl
    rw [e50, e4] at this
    omega
   ·have h2 : b01 d.nilm = 0 := fact0 hp h1
    unfold GD.ml
    rw [nil_of h2]
    exact Nat.zero_le _
  rw [GD.gb_no]
  ·rfl
  ·rintro (h1 | h1 | ⟨j, h1, h2⟩)
   ·omega
   ·omega
   ·have := shorts_ok hp hk h.1 j h1
    omega
 ·rw [GD.gb_yes]
  ·rfl
  ·rcases Bool.or_eq_true _ _ ▸ h with h1 | h1
   ·have := leL_ok hp h1
    have e4 : (X.lit 1025).den (gEnv d W) = 1025 := rfl
    rw [e50, e4] at this
    exact .inr (.inl (by omega))
   ·exact .inr (.inr (longs_ok hp hk h1))
 ·cases h
theorem great_go (hro : RoAt (gEnv d W) LStart) (hW : ∀ x ∈ LStart, W.heap[x.1]? = some ((gEnv d W).ro x.1)) {ws : List (Nat × SObj)} (hw : RowsV (gEnv d W) W ws 7 16 (πRows (gEnv d W) 7)) {pc : PC} (hpc : PcOk (gEnv d W) pc) {codes : V} {cv : Value} (hc : ∀ π, codes.conc (gEnv d W) π = cv) {look : V → St → Bool} (hr : gRun codes ws pc look = true)
  (K : ∀ v st, PcOk (gEnv d W) st.pc → look v st = true → ∀ π, v.conc (gEnv d W) π = .bool d.gb) : Calls Tryz.prog 4 #[.agg #[cv, d.mem, .int .i64 d.s, .int .i64 d.w]] W fun e w' => e = .returned (.bool d.gb) ∧ Below W.heap.size W w' := by
 unfold gRun at hr
 rw [← evT_call] at hr
 obtain ⟨v, st, hsel, hk⟩ := overR_sel (ρ := gEnv d W) hr
 have hs : SumOk Tryz.prog { cxD with sx := true, js := true } (gEnv d W) := sum_flags (c := cxD) allD
 have hh := here_rowsV (cx := { cxD with sx := true, js := true }) (ng := 7) rfl LStart_lt hro hW hw hpc
 have hargs : SaysL (gEnv d W) (fun i => i < 16) (πRows (gEnv d W) 7) [.agg [codes, gMem, .int .i64 (.var 95), .int .i64 (.var 97)]] [.agg #[cv, d.mem, .int .i64 d.s, .int .i64 d.w]] := fun π _ => by
  show [Value.agg [codes.conc (gEnv d W) π, gMem.conc (gEnv d W) π, Value.int .i64 d.s, Value.int .i64 d.w].toArray] = _
  rw [hc, gMem_conc]
 refine (ev_calls mixed_door tt_ok ft_ok hs hsel hh hargs Tryz.func4).mono fun e w' hp => ?_
 obtain ⟨hpc', π1, g, c, rfl, hv⟩ := hp
 refine ⟨?_, g.same.2.1, g.same.1, g.same.2.2, g.size, fun k hk => g.keep k hk fun i o hi _ => ?_⟩
 ·rw [← hv π1 fun _ _ => rfl, K v st hpc' hk]
 ·rcases winHeap_get hi with h | ⟨_, h⟩
  ·exact hw.froz _ h
  ·obtain ⟨x, hx, rfl, rfl⟩ := roHeap_get h
   rfl
theorem gPcs_ok : ∀ {k : Nat}, k ≤ 6 → PcOk (gEnv d W) (gPcs k)
 | 0, _ => fun f hf => by
  rcases List.mem_cons.1 hf with rfl | hf
  ·rw [tt_le]
   exact decide_eq_true (show (0 : Int) ≤ (d.ml : Int) from Int.natCast_nonneg _)
  ·rcases List.mem_cons.1 hf with rfl | hf
   ·rfl
   ·cases hf
 | k + 1, hk => fun f hf => by
  rcases List.mem_cons.1 hf with rfl | hf
  ·rw [tt_le]
   refine decide_eq_true ?_
   show (0 : Int) ≤ (gEnv d W).v (52 + 2 * k)
   rw [(gLen (j := k) (by omega)).1]
   exact Int.natCast_nonneg _
  ·exact gPcs_ok (by omega) f hf
end
def GD.codes (d : GD) : Bool → Value
 | true => .slice none 0 0
 | false => .slice (some d.a) d.k d.cap
theorem great_ret {W : World} {d : GD} (hall : RoAll (roOf W)) (hW : ∀ x ∈ LStart, W.heap[x.1]? = some (roOf W x.1)) (z : Bool) (hz : z = true → d.k = 0) (hrow : z = false → 1 ≤ d.k → d.k ≤ 6 → d.Row W) : Calls Tryz.prog 4 #[.agg #[d.codes z, d.mem, .int .i64 d.s, .int .i64 d.w]] W fun e w' => e = .returned (.bool d.gb) ∧ Below W.heap.size W w' := by
 have hro : RoAt (gEnv d W) LStart := ⟨fun y hy => by
  simp only [LStart, List.mem_singleton] at hy
  subst hy
  obtain ⟨t, fr, h⟩ := (hall { gEnv d W with ro := roOf W } rfl).is (0, asciiL 256) (by simp [LStart])
  refine ⟨t, fr, fun π => ?_⟩
  have h1 := h π
  rw [asciiL_concs] at h1 ⊢
  exact h1⟩
 have hW' : ∀ y ∈ LStart, W.heap[y.1]? = some ((gEnv d W).ro y.1) := fun y hy => by
  have h1 := hW y hy
  simp only [LStart, List.mem_singleton] at hy
  subst hy
  exact h1
 have none : RowsV (gEnv d W) W [] 7 16 (πRows (gEnv d W) 7) := ⟨fun k hk => πRows_glob hk, (fun y hy => by cases hy), by decide, (fun y hy => by cases hy), fun y hy => by cases hy⟩
 have add0 : d.a.add 0 = d.a := by simp [Addr.add]
 cases z with
 | true =>
  have h0 := hz rfl
  exact great_go hro hW' none (gPcs_ok (k := 0) (by omega)) (fun π => rfl) great_nil fun v st hp h π => gLook_ok (by omega) hp (by rw [h0]; exact h) π
 | false =>
  by_cases hk : d.k ≤ 6
  ·have hrows : (1 ≤ d.k ∧ RowsV (gEnv d W) W (gWs d.k) 7 16 (πRows (gEnv d W) 7)) ∨ d.k = 0 := by
    by_cases h0 : d.k = 0
    ·exact .inr h0
    ·left
     have R := hrow rfl (by omega) hk
     obtain ⟨cs, t, fr, h1, h2⟩ := R.row
     refine ⟨by omega, fun k hk => πRows_glob hk, (fun y hy => ?_), by decide, (fun y hy => ?_), fun y hy π hπ => ?_⟩ <;> obtain rfl := List.mem_singleton.1 hy
     ·exact ⟨show 7 ≤ 8 by decide, show 8 < 16 by decide⟩
     ·rfl
     ·refine ⟨_, h1, ⟨R.spot, ?_, cs, t, fr, rfl, fun j v hj hjk => ?_⟩, ?_⟩
      ·rw [hπ 8 (by decide)]
       rfl
      ·obtain ⟨h3, rfl⟩ := gCells_get hj
       rw [gCell_conc (by omega)]
       exact h2 j h3
      ·show _ = roW W d.a.block
       simp only [roW, h1, Option.getD_some]
   have hcc : ∀ π, (gCodes d.k).conc (gEnv d W) π = d.codes false := fun π => by
    show Value.slice (some (d.a.add 0)) ((d.k : Int)).toNat ((d.cap : Int)).toNat = _
    rw [add0, Int.toNat_natCast, Int.toNat_natCast]
    rfl
   rcases hrows with ⟨h1, hr⟩ | h0
   ·have run : ∀ k, 1 ≤ k → k ≤ 6 → gRun (gCodes k) (gWs k) (gPcs k) (gLook k) = true := fun k k1 k6 => by
     match k, k1, k6 with
     | 1, _, _ => exact great1
     | 2, _, _ => exact great2
     | 3, _, _ => exact great3
     | 4, _, _ => exact great4
     | 5, _, _ => exact great5
     | 6, _, _ => exact great6
    have run := run d.k h1 hk
    exact great_go hro hW' hr (gPcs_ok hk) hcc run fun v st hp h π => gLook_ok hk hp h π
   ·exact great_go hro hW' none (gPcs_ok (k := 0) (by omega)) (fun π => by have := hcc π; rw [h0] at this; exact this) great0 fun v st hp h π => gLook_ok hk hp (by rw [h0]; exact h) π
  ·refine great_go hro hW' none (pc := (.lt (.lit 6) (.var 93), true) :: gPcs 0) (fun f hf => ?_) (fun π => ?_) great_over fun v st hp h π => ?_
   ·rcases List.mem_cons.1 hf with rfl | hf
    ·rw [tt_lt]
     refine decide_eq_true ?_
     show (6 : Int) < (d.k : Int)
     omega
    ·exact gPcs_ok (k := 0) (by omega) f hf
   ·show Value.slice (some (d.a.add 0)) ((d.k : Int)).toNat ((d.cap : Int)).toNat = _
    rw [add0, Int.toNat_natCast, Int.toNat_natCast]
    rfl
   ·rw [V.beq_eq _ _ h, GD.gb_yes (.inl (by omega))]
    rfl
end Go.Proofs.YtodbpiifjpnnbaaGreatDoor
namespace Go.Proofs.YtodbpiifjpnnbaaGreatDoor
open Go Go.Proofs Go.ChangeShapes Go.WideShapes Go.ChangeAt Go.RowKit
def rowOk (row : Bool) (st : St) : Bool := match row with
 | false => true
 | true => match st.h.get 8 with
  | some (.win t _ _ _) => Nat.beq t 8
  | _ => false
noncomputable def greatS (arg : V) (row b : Bool) (args : List V) (st : St) : R (V × St) := match V.beqs args [arg], rowOk row st, roThere LStart st.h with
 | true, true, true => .ok (.bool (.lit (b2i b)), st)
 | _, _, _ => .stuck "great"
theorem greatS_ok {cx : Cx} {ρ : Env} (hng : cx.ng = 7) (hro : RoAt ρ LStart) {d : GD} {z row b : Bool} {arg : V} (harg : ∀ π, arg.conc ρ π = .agg #[d.codes z, d.mem, .int .i64 d.s, .int .i64 d.w]) (hz : z = true → d.k = 0) (hrow : row = false → d.k = 0 ∨ 6 < d.k)
  (hrow' : row = true → ρ.win 8 = d.a ∧ ∃ cs t fr, ρ.ro 8 = .cells cs t fr ∧ ∀ j, j < d.k → cs[d.a.off + j]? = some (d.cell j)) (hb : d.gb = b) : SumAt Tryz.prog cx ρ 4 (greatS arg row b) := by
 intro args st v st' hs S π0 w ac n hh ha
 unfold greatS at hs
 split at hs
 ·rename_i h1 h2 h3
  simp only [R.sel, Option.some.injEq, Prod.mk.injEq] at hs
  obtain ⟨rfl, rfl⟩ := hs
  obtain ⟨hall, hW⟩ := ro_now hng hro hh h3
  have rep := hh.at_.rep π0 fun _ _ => rfl
  have hR : z = false → 1 ≤ d.k → d.k ≤ 6 → d.Row w := fun _ k1 k6 => by
   cases row with
   | false => rcases hrow rfl with h | h <;> omega
   | true =>
    obtain ⟨e1, cs, t, fr, e2, e3⟩ := hrow' rfl
    unfold rowOk at h2
    dsimp only at h2
    split at h2
    ·rename_i t' c len es g8
     obtain ⟨o8, a1, ⟨a2, a3, _⟩, a4⟩ := rep.obj _ _ g8
     obtain rfl := Nat.eq_of_beq_eq_true h2
     rw [e1] at a2 a3
     exact ⟨a2, cs, t, fr, by rw [a3, a1, a4, e2], e3⟩
    ·cases h2
  have key := great_ret (W := w) (d := d) hall hW z hz hR
  have hac : ac.toArray = #[.agg #[d.codes z, d.mem, .int .i64 d.s, .int .i64 d.w]] := by
   rw [← ha π0 fun _ _ => rfl, V.beqs_eq _ _ h1]
   show [arg.conc ρ π0].toArray = _
   rw [harg]
  rw [hac]
  refine (callsIn_wide.2 key).mono fun e w' hp => ?_
  obtain ⟨rfl, hbl⟩ := hp
  refine post_below hh hbl fun π => ?_
  rw [hb]
  cases b <;> rfl
 ·simp [R.sel] at hs
structure SlD where
 z : Bool
 a : Addr
 n : Nat
 c : Nat
 g : Nat → Int → Int
def SlD.In (s : SlD) (W : World) (ks : List CK) (v : Value) : Prop := v = slW s.z s.a s.n s.c ∧ s.n ≤ s.c ∧ (s.z = true → s.n = 0) ∧ (s.z = false → 1 ≤ s.n → CameIn W ks s.a s.n s.g)
section
variable {H : Type} {enc : TypeId × Value → H} {W : World} {base : Nat} {sp : Nat → Bool} {held : Bool}
theorem slIn_of {v : Value} {t e k fuel : Nat} {ks : List CK} {x : DataW H × List MemPlace} (hu : Tryz.prog.underlying t = some (.slice e)) (hk : flatK Tryz.prog k e = some ks) (hc : Tryz.prog.cellsOf e = ks.length) (hp : 0 < ks.length)
  (h : DataW.trod enc Tryz.prog W base sp held fuel t [v] = some x) : ∃ s : SlD, s.In W ks v := by
 rcases open_row hu hk hc h with hcs | ⟨a, len, cap, zs, hcs, _, hle, hm, hz⟩
 ·obtain rfl := List.head_eq_of_cons_eq hcs
  exact ⟨⟨true, ⟨0, 0, none⟩, 0, 0, fun _ _ => 0⟩, rfl, Nat.le_refl _, fun _ => rfl, fun h => by cases h⟩
 ·obtain rfl := List.head_eq_of_cons_eq hcs
  exact ⟨⟨false, a, len, cap, _⟩, rfl, hle, (fun h => by cases h), fun _ h => cameIn_of h hp hz⟩
theorem open_rows {t e fuel : Nat} {v : Value} {x : DataW H × List MemPlace} (hu : Tryz.prog.underlying t = some (.slice e)) (hc : Tryz.prog.cellsOf e = 1) (h : DataW.trod enc Tryz.prog W base sp held fuel t [v] = some x) :
  v = .slice none 0 0 ∨ ∃ (a : Addr) (len cap : Nat) (zs : Nat → Value), v = .slice (some a) len cap ∧ len ≤ cap ∧ ∀ i, i < len → W.cell? (a.add i) = some (zs i) ∧ ∃ n y, DataW.trod enc Tryz.prog W base sp held n e [zs i] = some y := by
 rcases DataW.trod_slice hu h with ⟨h0, _⟩ | ⟨a, len, cap, elems, rest, m, _, h0, _, hb, hl, hm, hlen, hel, _, _⟩
 ·exact .inl (List.head_eq_of_cons_eq h0)
 ·refine .inr ⟨a, len, cap, fun i => (((W.cells? base (a.add (i * Tryz.prog.cellsOf e)) (Tryz.prog.cellsOf e)).getD []).head?).getD default, List.head_eq_of_cons_eq h0, hl, fun i hi => ?_⟩
  have hi' := hel i hi
  rw [List.getElem?_eq_getElem (by omega), Option.bind_eq_some_iff] at hi'
  obtain ⟨cs', hcs, hy⟩ := hi'
  obtain ⟨_, hl2, hg⟩ := World.cells?_some hcs
  dsimp only
  rw [hcs, Option.getD_some]
  rw [hc] at hl2 hg
  match cs', hl2 with
  | [u], _ =>
   have h1 := hg 0 (by decide)
   rw [add_add, Nat.mul_one, Nat.add_zero] at h1
   exact ⟨h1, _, _, hy⟩
theorem rowSl_of {a : Addr} {k : Nat} {zs : Nat → Value} (hk : 1 ≤ k) (h : ∀ i, i < k → W.cell? (a.add i) = some (zs i)) : a.spot = none ∧ ∃ cs t fr, W.heap[a.block]? = some (.cells cs t fr) ∧ ∀ j, j < k → cs[a.off + j]? = some (zs j) := by
 have h0 : ∃ cs t fr, W.heap[a.block]? = some (.cells cs t fr) ∧ a.spot = none := by
  have h3 := h 0 hk
  unfold World.cell? at h3
  split at h3
  ·rename_i cs t fr hb
   refine ⟨cs, t, fr, by simpa [Addr.add] using hb, ?_⟩
   cases hs : a.spot with
   | none => rfl
   | some n => simp [Addr.add, hs] at h3
  ·cases h3
 obtain ⟨cs, t, fr, hb, hs⟩ := h0
 refine ⟨hs, cs, t, fr, hb, fun j hj => ?_⟩
 have h3 := h j hj
 rw [add_plain hs] at h3
 unfold World.cell? at h3
 dsimp only at h3
 rw [hb] at h3
 simpa using h3
end
end Go.Proofs.YtodbpiifjpnnbaaGreatDoor
