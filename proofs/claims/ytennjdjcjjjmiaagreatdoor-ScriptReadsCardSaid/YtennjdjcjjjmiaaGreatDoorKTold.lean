/- ScriptReads: of any bytes the law answers true. ScriptReads: its three loops. No condition. -/
import Derived.Test.YtennjdjcjjjmiaaGreatDoorKLoops
import Derived.Test.YtennjdjcjjjmiaaGreatDoorFwF
import Derived.Test.YtennjdjcjjjmiaaGreatDoorKRuns
namespace Go.Proofs.YtennjdjcjjjmiaaGreatDoor
open Go Go.Proofs Go.ChangeShapes Go.WideShapes Go.ChangeAt Go.RowKit
theorem roAll_of {W : World} (h : laidMetH Tryz.prog Rows.scriptReadsRow.laid W) {ro : Nat → Obj} (h0 : ro 0 = roOf W 0) : RoAll ro ∧ W.heap[0]? = some (ro 0) := by
  obtain ⟨t, fr, h1⟩ := of_laid h
  have e : ro 0 = .cells ((asciiZ 256).map (.int .u8)).toArray t fr := by rw [h0]; simp only [roOf, h1, Option.getD_some]
  refine ⟨fun ρ hr => ⟨fun x hx => ?_⟩, by rw [h1, e]⟩
  simp only [LStart, List.mem_singleton] at hx
  subst hx
  exact ⟨t, fr, fun π => by rw [hr, e, asciiL_concs]⟩
def InI (z : Int) : Prop := -9223372036854775808 ≤ z ∧ z ≤ 9223372036854775807
theorem wrap_i {z : Int} (h : InI z) : IntKind.i64.wrap z = z := wrap_in (by simp [kLo]; exact h.1) (by simp [kHi]; exact h.2)
theorem wf_i {z : Int} (h : (Lit.int .i64 z).wf = true) : InI z := by
  simp [Lit.wf, IntKind.min, IntKind.max, IntKind.signed, IntKind.bits] at h
  unfold InI
  omega
theorem pcNil {ρ : Env} : PcOk ρ [] := fun f hf => by cases hf
theorem pcCons {ρ : Env} {x : X} {b : Bool} {pc : PC} (h : x.tt ρ = b) (hp : PcOk ρ pc) : PcOk ρ ((x, b) :: pc) := fun f hf => by
  rcases List.mem_cons.1 hf with rfl | hf
  · exact h
  · exact hp f hf
theorem lt_tt {ρ : Env} {x y : X} {a b : Int} (hx : x.den ρ = a) (hy : y.den ρ = b) : (X.lt x y).tt ρ = decide (a < b) := by
  rw [X.tt, X.den, b2i_tt, hx, hy]
theorem le_tt {ρ : Env} {x y : X} {a b : Int} (hx : x.den ρ = a) (hy : y.den ρ = b) : (X.le x y).tt ρ = decide (a ≤ b) := by
  rw [X.tt, X.den, b2i_tt, hx, hy]
theorem eq_tt {ρ : Env} {x y : X} {a b : Int} (hx : x.den ρ = a) (hy : y.den ρ = b) : (X.eq x y).tt ρ = decide (a = b) := by
  rw [X.tt, X.den, b2i_tt, hx, hy]
  rfl
def varEnv (W : World) (v : Nat → Int) : Env := { b := fun _ => false, v := v, f1 := fun _ _ => 0, f2 := fun _ _ _ => 0, s := fun _ => [], sf := fun _ _ => [], ro := roOf W, win := fun _ => ⟨0, 0, none⟩ }
def nilEnv : Env := { b := fun _ => false, v := fun _ => 0, f1 := fun _ _ => 0, f2 := fun _ _ _ => 0, s := fun _ => [], sf := fun _ _ => [], ro := fun _ => .deferred none, win := fun _ => ⟨0, 0, none⟩ }
def kV (n : Int) : Int := (kE (.lit n)).den nilEnv
def hV (n : Int) : Int := (hE (.lit n)).den nilEnv
theorem kE_den {ρ : Env} (b : X) : (kE b).den ρ = kV (b.den ρ) := rfl
theorem hE_den {ρ : Env} (b : X) : (hE b).den ρ = hV (b.den ρ) := rfl
theorem kh_fin : ∀ b : Fin 256, (0 ≤ kV ((b.val : Nat) : Int) ∧ kV ((b.val : Nat) : Int) ≤ 255) ∧ (0 ≤ hV ((b.val : Nat) : Int) ∧ hV ((b.val : Nat) : Int) ≤ 255) := by decide +kernel
def byteV (g : Int → Int) (i : Int) : Int := IntKind.u8.wrap (g i)
theorem byteV_in (g : Int → Int) (i : Int) : 0 ≤ byteV g i ∧ byteV g i ≤ 255 := by
  unfold byteV
  simp [IntKind.wrap, IntKind.bits, IntKind.signed]
  omega
theorem kV_in {b : Int} (h : 0 ≤ b ∧ b ≤ 255) : 0 ≤ kV b ∧ kV b ≤ 255 := by
  have := (kh_fin ⟨b.toNat, by omega⟩).1
  rwa [show ((b.toNat : Nat) : Int) = b by omega] at this
theorem hV_in {b : Int} (h : 0 ≤ b ∧ b ≤ 255) : 0 ≤ hV b ∧ hV b ≤ 255 := by
  have := (kh_fin ⟨b.toNat, by omega⟩).2
  rwa [show ((b.toNat : Nat) : Int) = b by omega] at this
def el (g : Int → Int) (n : Int) (c : Nat) (j : Int) : Int := match c with
  | 0 => kV (byteV g (2 * j))
  | 1 => hV (byteV g (2 * j))
  | _ => if 2 * j + 1 < n then byteV g (2 * j + 1) else 0
theorem el_in (g : Int → Int) (n : Int) (c : Nat) (j : Int) : InI (el g n c j) := by
  have hb := byteV_in g (2 * j)
  have hb' := byteV_in g (2 * j + 1)
  have h1 := kV_in hb
  have h2 := hV_in hb
  unfold InI el
  split
  · omega
  · omega
  · split <;> omega
def rowF (g : Int → Int) (n m : Int) (c : Nat) (j : Int) : Int := if 0 ≤ j ∧ j < m then el g n c j else 0
theorem rowF_in (g : Int → Int) (n m : Int) (c : Nat) (j : Int) : IntKind.i64.wrap (rowF g n m c j) = rowF g n m c j := by
  refine wrap_i ?_
  unfold rowF
  split
  · exact el_in ..
  · unfold InI; omega
structure RD where
  W : World
  g : Int → Int
  n : Int
  cp : Int
  ad : Addr
def RD.m (d : RD) : Int := (d.n + 1) / 2
def RD.env (d : RD) (ro : Nat → Obj) (k a b : Int) : Env :=
  { b := fun _ => false
    v := fun i => if i = 60 then d.n else if i = 61 then d.cp else if i = 62 then d.m else if i = 63 then d.m else if i = 100 then a else if i = 101 then b else 0
    f1 := fun f j => if f = 10 then d.g j else if f = 20 then rowF d.g d.n d.m 0 j else if f = 21 then rowF d.g d.n d.m 1 j else if f = 22 then rowF d.g d.n d.m 2 j else if f = 23 then rowF d.g d.n d.m 0 j else if f = 24 then rowF d.g d.n d.m 1 j else if f = 25 then rowF d.g d.n d.m 2 j
      else if f = 30 then rowF d.g d.n k 0 j else if f = 31 then rowF d.g d.n k 1 j else if f = 32 then rowF d.g d.n k 2 j else 0
    f2 := fun _ _ _ => 0, s := fun _ => [], sf := fun _ _ => [], ro := ro, win := fun _ => d.ad }
theorem env_agree {d : RD} {ro : Nat → Obj} {t : Tch} (h1 : memN 100 t.vs = true) (h2 : memN 101 t.vs = true) (h3 : inR t.ts 30 = true ∧ inR t.ts 31 = true ∧ inR t.ts 32 = true) {k a b k' a' b' : Int} : Agree t (d.env ro k a b) (d.env ro k' a' b') where
  v := fun i hi => by
    have n1 : i ≠ 100 := fun e => by rw [e, h1] at hi; cases hi
    have n2 : i ≠ 101 := fun e => by rw [e, h2] at hi; cases hi
    simp [RD.env, n1, n2]
  f1 := fun f hf => by
    have n1 : f ≠ 30 := fun e => by rw [e, h3.1] at hf; cases hf
    have n2 : f ≠ 31 := fun e => by rw [e, h3.2.1] at hf; cases hf
    have n3 : f ≠ 32 := fun e => by rw [e, h3.2.2] at hf; cases hf
    funext j
    simp [RD.env, n1, n2, n3]
  b := rfl
  f2 := rfl
  s := rfl
  sf := rfl
  ro := rfl
  win := rfl
theorem look_one {α : Type} {k i : Nat} {x y : α} (h : look [(k, x)] i = some y) : i = k ∧ x = y := by
  unfold look at h
  split at h
  · rename_i hb
    exact ⟨(Nat.eq_of_beq_eq_true hb).symm, Option.some.inj h⟩
  · simp [look] at h
theorem look_two {α : Type} {k l i : Nat} {x z y : α} (h : look [(k, x), (l, z)] i = some y) : (i = k ∧ x = y) ∨ (i = l ∧ z = y) := by
  unfold look at h
  split at h
  · rename_i hb
    exact .inl ⟨(Nat.eq_of_beq_eq_true hb).symm, Option.some.inj h⟩
  · exact .inr (look_one h)
theorem three {P : Nat → CK → Prop} (h : P 0 (.int .i64) ∧ P 1 (.int .i64) ∧ P 2 (.int .i64)) : ∀ (c : Nat) (k : CK), [CK.int .i64, .int .i64, .int .i64][c]? = some k → P c k := by
  intro c k hk
  match c, hk with
  | 0, hk => obtain rfl := Option.some.inj hk; exact h.1
  | 1, hk => obtain rfl := Option.some.inj hk; exact h.2.1
  | 2, hk => obtain rfl := Option.some.inj hk; exact h.2.2
theorem row_put {d : RD} {ro : Nat → Obj} {k a b : Int} {i x0 x1 x2 : X} (hk : 0 ≤ k) (hi : i.den (d.env ro k a b) = k) (h0 : x0.den (d.env ro k a b) = el d.g d.n 0 k) (h1 : x1.den (d.env ro k a b) = el d.g d.n 1 k) (h2 : x2.den (d.env ro k a b) = el d.g d.n 2 k) {a' b' : Int} :
    ∀ (c : Nat) (q : CK), [CK.int .i64, .int .i64, .int .i64][c]? = some q → ∀ j : Int, q.val (q.sym (d.env ro (k + 1) a' b') 30 c j) = q.val (A.den (d.env ro k a b) q c j (.put (.put (.put (.base 30) i 0 x0) i 1 x1) i 2 x2)) := by
  have step : ∀ (c : Nat) (j : Int), rowF d.g d.n (k + 1) c j = if j = k then el d.g d.n c k else rowF d.g d.n k c j := by
    intro c j
    unfold rowF
    by_cases e : j = k
    · subst e
      rw [if_pos ⟨hk, by omega⟩, if_pos rfl]
    · rw [if_neg e]
      by_cases q : 0 ≤ j ∧ j < k
      · rw [if_pos q, if_pos ⟨q.1, by omega⟩]
      · rw [if_neg q, if_neg (by omega)]
  refine three ⟨fun j => ?_, fun j => ?_, fun j => ?_⟩
  · show Value.int .i64 (IntKind.i64.wrap (rowF d.g d.n (k + 1) 0 j)) = Value.int .i64 (A.den ..)
    rw [rowF_in, step]
    simp only [A.den, hi, h0, CK.sym]
    by_cases e : j = k <;> simp [e]
    show _ = IntKind.i64.wrap (rowF d.g d.n k 0 j)
    rw [rowF_in]
  · show Value.int .i64 (IntKind.i64.wrap (rowF d.g d.n (k + 1) 1 j)) = Value.int .i64 (A.den ..)
    rw [rowF_in, step]
    simp only [A.den, hi, h1, CK.sym]
    by_cases e : j = k <;> simp [e]
    show _ = IntKind.i64.wrap (rowF d.g d.n k 1 j)
    rw [rowF_in]
  · show Value.int .i64 (IntKind.i64.wrap (rowF d.g d.n (k + 1) 2 j)) = Value.int .i64 (A.den ..)
    rw [rowF_in, step]
    simp only [A.den, hi, h2, CK.sym]
    by_cases e : j = k <;> simp [e]
    show _ = IntKind.i64.wrap (rowF d.g d.n k 2 j)
    rw [rowF_in]
theorem row_first {d : RD} {ro : Nat → Obj} {k a b : Int} {i x0 x1 x2 : X} (hi : i.den (d.env ro k a b) = 0) (h0 : x0.den (d.env ro k a b) = el d.g d.n 0 0) (h1 : x1.den (d.env ro k a b) = el d.g d.n 1 0) (h2 : x2.den (d.env ro k a b) = el d.g d.n 2 0) {a' b' : Int} :
    ∀ (c : Nat) (q : CK), [CK.int .i64, .int .i64, .int .i64][c]? = some q → ∀ j : Int, q.val (q.sym (d.env ro 1 a' b') 30 c j) = q.val (A.den (d.env ro k a b) q c j (.put (.put (.put (.fill (.lit 0)) i 0 x0) i 1 x1) i 2 x2)) := by
  have step : ∀ (c : Nat) (j : Int), rowF d.g d.n 1 c j = if j = 0 then el d.g d.n c 0 else 0 := by
    intro c j
    unfold rowF
    by_cases e : j = 0
    · subst e
      rw [if_pos ⟨by omega, by omega⟩, if_pos rfl]
    · rw [if_neg e, if_neg (by omega)]
  refine three ⟨fun j => ?_, fun j => ?_, fun j => ?_⟩
  · show Value.int .i64 (IntKind.i64.wrap (rowF d.g d.n 1 0 j)) = Value.int .i64 (A.den ..)
    rw [rowF_in, step]
    simp only [A.den, hi, h0, X.den]
    by_cases e : j = 0 <;> simp [e]
  · show Value.int .i64 (IntKind.i64.wrap (rowF d.g d.n 1 1 j)) = Value.int .i64 (A.den ..)
    rw [rowF_in, step]
    simp only [A.den, hi, h1, X.den]
    by_cases e : j = 0 <;> simp [e]
  · show Value.int .i64 (IntKind.i64.wrap (rowF d.g d.n 1 2 j)) = Value.int .i64 (A.den ..)
    rw [rowF_in, step]
    simp only [A.den, hi, h2, X.den]
    by_cases e : j = 0 <;> simp [e]
end Go.Proofs.YtennjdjcjjjmiaaGreatDoor

namespace Go.Proofs.YtennjdjcjjjmiaaGreatDoor
open Go Go.Proofs
theorem allB {ρ : Env} : SumOk Tryz.prog cxB ρ := sum_flags (c := cxD) allD
theorem code_B {ρ : Env} : CodeOk Tryz.prog cxB ρ (ev cxB 4000).code := (ev_ok mixed_door tt_ok ft_ok allB 4000).1
theorem lt2 {ρ : Env} {x y : X} {a b : Int} (hx : x.den ρ = a) (hy : y.den ρ = b) (h : a < b) : (X.lt x y).tt ρ = true := (lt_tt hx hy).trans (decide_eq_true h)
theorem lt2n {ρ : Env} {x y : X} {a b : Int} (hx : x.den ρ = a) (hy : y.den ρ = b) (h : ¬ a < b) : (X.lt x y).tt ρ = false := (lt_tt hx hy).trans (decide_eq_false h)
section
variable {d : RD} {ro : Nat → Obj}
theorem n_two {pc : PC} (hp : PcOk (d.env ro 0 0 0) (((.lt (.var 60) (.lit (2))), false) :: pc)) : 2 ≤ d.n := by
  have h := hp _ (List.mem_cons_self ..)
  have h2 : (X.lt (.var 60) (.lit 2)).tt (d.env ro 0 0 0) = decide (d.n < 2) := lt_tt rfl rfl
  rw [h2] at h
  have := of_decide_eq_false h
  omega
theorem put_k {k a b v : Int} {x : X} (h : x.den (d.env ro k a b) = 2 * v) : (kE (.wrap .u8 (.fn1 10 x))).den (d.env ro k a b) = el d.g d.n 0 v := by
  rw [kE_den]
  show kV (IntKind.u8.wrap (d.g (x.den (d.env ro k a b)))) = kV (byteV d.g (2 * v))
  rw [h]
  rfl
theorem put_h {k a b v : Int} {x : X} (h : x.den (d.env ro k a b) = 2 * v) : (hE (.wrap .u8 (.fn1 10 x))).den (d.env ro k a b) = el d.g d.n 1 v := by
  rw [hE_den]
  show hV (IntKind.u8.wrap (d.g (x.den (d.env ro k a b)))) = hV (byteV d.g (2 * v))
  rw [h]
  rfl
theorem el_two {v : Int} (h : 2 * v + 1 < d.n) : el d.g d.n 2 v = byteV d.g (2 * v + 1) := if_pos h
theorem el_none {v : Int} (h : ¬ 2 * v + 1 < d.n) : el d.g d.n 2 v = 0 := if_neg h
theorem row_end {k a b a' b' : Int} (f : Nat) (hf : f = 20 ∨ f = 23) (hk : k = d.m) : ∀ (c : Nat) (q : CK), [CK.int .i64, .int .i64, .int .i64][c]? = some q → ∀ j : Int, q.val (q.sym (d.env ro 0 a' b') f c j) = q.val (A.den (d.env ro k a b) q c j (.base 30)) := by
  subst hk
  rcases hf with rfl | rfl <;> exact three ⟨fun j => rfl, fun j => rfl, fun j => rfl⟩
theorem A_told {z : Bool} : LoopTold Tryz.prog (cxL z) (d.env ro 0 0 0) (AL z) := by
  intro res hres S π0 w a r n hh
  have hn := n_two (show PcOk (d.env ro 0 0 0) APc from hh.pc)
  refine loop_told (cxB := cxB) (t := AT) (I := AI z) (outs := [AO z]) (ll := ALL) (N := 4000) (ng := 7) AS (fun ρ1 => ∃ k : Int, 1 ≤ k ∧ 2 * k ≤ d.n + 1 ∧ ρ1 = d.env ro k (2 * k) k) (fun ρ1 => (d.n + 2 - ρ1.v 100).toNat)
    (fun _ _ => code_B) rfl rfl (A_chk z) (A_ok z) (A_ent z) ⟨d.env ro 1 (2 * 1) 1, ⟨env_agree rfl rfl ⟨rfl, rfl, rfl⟩, fun i x h => ?_, fun f ks q h => ?_⟩, 1, by omega, by omega, rfl⟩ ?_ res hres S π0 w a r n hh
  · rcases look_two h with ⟨rfl, rfl⟩ | ⟨rfl, rfl⟩ <;> rfl
  · obtain ⟨rfl, e⟩ := look_one h
    obtain ⟨rfl, rfl⟩ := Prod.mk.inj e
    refine row_first (d := d) (ro := ro) (k := 0) (a := 0) (b := 0) rfl (put_k (v := 0) rfl) (put_h (v := 0) rfl) ?_
    exact (el_two (d := d) (v := 0) (by omega)).symm
  · rintro ρ1 ⟨k, h1, h2, rfl⟩ _
    by_cases c1 : 2 * k < d.n
    · have t1 : (X.lt (.var 100) (.var 60)).tt (d.env ro k (2 * k) k) = true := lt2 rfl rfl c1
      by_cases c2 : d.n - 2 * k < 2
      · have t2 : (X.lt (.sub (.var 60) (.var 100)) (.lit 2)).tt (d.env ro k (2 * k) k) = true := lt2 rfl rfl c2
        refine ⟨_, by simp only [ALL, R.sel, t1, t2, if_true]; rfl, ?_⟩
        dsimp only
        refine ⟨d.env ro (k + 1) (2 * (k + 1)) (k + 1), ⟨env_agree rfl rfl ⟨rfl, rfl, rfl⟩, fun i x h => ?_, fun f ks q h => ?_⟩, ⟨k + 1, by omega, by omega, rfl⟩, ?_⟩
        · rcases look_two h with ⟨rfl, rfl⟩ | ⟨rfl, rfl⟩
          · show 2 * (k + 1) = 2 * k + 2
            omega
          · rfl
        · obtain ⟨rfl, e⟩ := look_one h
          obtain ⟨rfl, rfl⟩ := Prod.mk.inj e
          refine row_put (by omega) rfl (put_k (v := k) rfl) (put_h (v := k) rfl) ?_
          exact (el_none (d := d) (v := k) (by omega)).symm
        · show (d.n + 2 - 2 * (k + 1)).toNat < (d.n + 2 - 2 * k).toNat
          omega
      · have t2 : (X.lt (.sub (.var 60) (.var 100)) (.lit 2)).tt (d.env ro k (2 * k) k) = false := lt2n rfl rfl c2
        refine ⟨_, by simp only [ALL, R.sel, t1, t2, if_true, Bool.false_eq_true, if_false]; rfl, ?_⟩
        dsimp only
        refine ⟨d.env ro (k + 1) (2 * (k + 1)) (k + 1), ⟨env_agree rfl rfl ⟨rfl, rfl, rfl⟩, fun i x h => ?_, fun f ks q h => ?_⟩, ⟨k + 1, by omega, by omega, rfl⟩, ?_⟩
        · rcases look_two h with ⟨rfl, rfl⟩ | ⟨rfl, rfl⟩
          · show 2 * (k + 1) = 2 * k + 2
            omega
          · rfl
        · obtain ⟨rfl, e⟩ := look_one h
          obtain ⟨rfl, rfl⟩ := Prod.mk.inj e
          refine row_put (by omega) rfl (put_k (v := k) rfl) (put_h (v := k) rfl) ?_
          exact (el_two (d := d) (v := k) (by omega)).symm
        · show (d.n + 2 - 2 * (k + 1)).toNat < (d.n + 2 - 2 * k).toNat
          omega
    · have t1 : (X.lt (.var 100) (.var 60)).tt (d.env ro k (2 * k) k) = false := lt2n rfl rfl c1
      have hk : k = d.m := by unfold RD.m; omega
      refine ⟨_, by simp only [ALL, R.sel, t1, Bool.false_eq_true, if_false]; rfl, ?_⟩
      dsimp only
      refine ⟨⟨env_agree rfl rfl ⟨rfl, rfl, rfl⟩, fun i x h => ?_, fun f ks q h => ?_⟩, AO z, rfl, rfl⟩
      · obtain ⟨rfl, rfl⟩ := look_one h
        exact hk.symm
      · obtain ⟨rfl, e⟩ := look_one h
        obtain ⟨rfl, rfl⟩ := Prod.mk.inj e
        exact row_end 20 (.inl rfl) hk
theorem B_told {z : Bool} : LoopTold Tryz.prog (cxL z) (d.env ro 0 0 0) (BL z) := by
  intro res hres S π0 w a r n hh
  have hn := n_two (show PcOk (d.env ro 0 0 0) BPc from hh.pc)
  refine loop_told (cxB := cxB) (t := BT) (I := BI z) (outs := [BO z]) (ll := BLL) (N := 4000) (ng := 7) BS (fun ρ1 => ∃ k : Int, 1 ≤ k ∧ 2 * k ≤ d.n + 1 ∧ ρ1 = d.env ro k k (2 * k)) (fun ρ1 => (d.n + 2 - ρ1.v 101).toNat)
    (fun _ _ => code_B) rfl rfl (B_chk z) (B_ok z) (B_ent z) ⟨d.env ro 1 1 (2 * 1), ⟨env_agree rfl rfl ⟨rfl, rfl, rfl⟩, fun i x h => ?_, fun f ks q h => ?_⟩, 1, by omega, by omega, rfl⟩ ?_ res hres S π0 w a r n hh
  · rcases look_two h with ⟨rfl, rfl⟩ | ⟨rfl, rfl⟩ <;> rfl
  · obtain ⟨rfl, e⟩ := look_one h
    obtain ⟨rfl, rfl⟩ := Prod.mk.inj e
    refine row_first (d := d) (ro := ro) (k := 0) (a := 0) (b := 0) rfl (put_k (v := 0) rfl) (put_h (v := 0) rfl) ?_
    exact (el_two (d := d) (v := 0) (by omega)).symm
  · rintro ρ1 ⟨k, h1, h2, rfl⟩ _
    by_cases c1 : 2 * k < d.n
    · have t1 : (X.lt (.var 101) (.var 60)).tt (d.env ro k k (2 * k)) = true := lt2 rfl rfl c1
      refine ⟨_, by simp only [BLL, R.sel, t1, if_true]; rfl, ?_⟩
      dsimp only
      refine ⟨d.env ro (k + 1) (k + 1) (2 * (k + 1)), ⟨env_agree rfl rfl ⟨rfl, rfl, rfl⟩, fun i x h => ?_, fun f ks q h => ?_⟩, ⟨k + 1, by omega, by omega, rfl⟩, ?_⟩
      · rcases look_two h with ⟨rfl, rfl⟩ | ⟨rfl, rfl⟩
        · rfl
        · show 2 * (k + 1) = 2 * k + 2
          omega
      · obtain ⟨rfl, e⟩ := look_one h
        obtain ⟨rfl, rfl⟩ := Prod.mk.inj e
        refine row_put (by omega) rfl (put_k rfl) (put_h rfl) ?_
        show (if b2i (decide (2 * k + 1 < d.n)) == 0 then (0 : Int) else IntKind.u8.wrap (d.g (2 * k + 1))) = _
        by_cases c2 : 2 * k + 1 < d.n
        · rw [el_two c2]
          simp [c2, b2i, byteV]
        · rw [el_none c2]
          simp [c2, b2i]
      · show (d.n + 2 - 2 * (k + 1)).toNat < (d.n + 2 - 2 * k).toNat
        omega
    · have t1 : (X.lt (.var 101) (.var 60)).tt (d.env ro k k (2 * k)) = false := lt2n rfl rfl c1
      have hk : k = d.m := by unfold RD.m; omega
      refine ⟨_, by simp only [BLL, R.sel, t1, Bool.false_eq_true, if_false]; rfl, ?_⟩
      dsimp only
      refine ⟨⟨env_agree rfl rfl ⟨rfl, rfl, rfl⟩, fun i x h => ?_, fun f ks q h => ?_⟩, BO z, rfl, rfl⟩
      · obtain ⟨rfl, rfl⟩ := look_one h
        exact hk.symm
      · obtain ⟨rfl, e⟩ := look_one h
        obtain ⟨rfl, rfl⟩ := Prod.mk.inj e
        exact row_end 23 (.inr rfl) hk
theorem env_agree1 {t : Tch} (h1 : memN 100 t.vs = true) {k a b a' : Int} : Agree t (d.env ro k a b) (d.env ro k a' b) where
  v := fun i hi => by
    have n1 : i ≠ 100 := fun e => by rw [e, h1] at hi; cases hi
    simp [RD.env, n1]
  f1 := fun _ _ => rfl
  b := rfl
  f2 := rfl
  s := rfl
  sf := rfl
  ro := rfl
  win := rfl
theorem eq_self {ρ : Env} {x y : X} (h : x.den ρ = y.den ρ) : (X.eq x y).tt ρ = true := (eq_tt h rfl).trans (decide_eq_true rfl)
theorem look_nil {α : Type} {i : Nat} {y : α} (h : look [] i = some y) : False := by cases h
theorem C_told {z : Bool} : LoopTold Tryz.prog (cxL z) (d.env ro 0 0 0) (CL z) := by
  intro res hres S π0 w a r n hh
  have hn := n_two (show PcOk (d.env ro 0 0 0) CPc from hh.pc)
  refine loop_told (cxB := cxB) (t := CT) (I := CI z) (outs := [CO z]) (ll := CLL) (N := 4000) (ng := 7) CS (fun ρ1 => ∃ k : Int, 0 ≤ k ∧ ρ1 = d.env ro 0 k 0) (fun ρ1 => (d.m - ρ1.v 100).toNat)
    (fun _ _ => code_B) rfl rfl (C_chk z) (C_ok z) (C_ent z) ⟨d.env ro 0 0 0, ⟨env_agree1 rfl, fun i x h => ?_, fun f ks q h => (look_nil h).elim⟩, 0, by omega, rfl⟩ ?_ res hres S π0 w a r n hh
  · obtain ⟨rfl, rfl⟩ := look_one h
    rfl
  · rintro ρ1 ⟨k, h1, rfl⟩ _
    by_cases c1 : k < d.m
    · have t1 : (X.lt (.var 100) (.var 62)).tt (d.env ro 0 k 0) = true := lt2 rfl rfl c1
      have t2 : (X.eq (.wrap .i64 (.fn1 20 (.var 100))) (.wrap .i64 (.fn1 23 (.var 100)))).tt (d.env ro 0 k 0) = true := eq_self rfl
      have t3 : (X.eq (.wrap .i64 (.fn1 21 (.var 100))) (.wrap .i64 (.fn1 24 (.var 100)))).tt (d.env ro 0 k 0) = true := eq_self rfl
      have t4 : (X.eq (.wrap .i64 (.fn1 22 (.var 100))) (.wrap .i64 (.fn1 25 (.var 100)))).tt (d.env ro 0 k 0) = true := eq_self rfl
      refine ⟨_, by simp only [CLL, R.sel, t1, t2, t3, t4, if_true]; rfl, ?_⟩
      dsimp only
      refine ⟨d.env ro 0 (k + 1) 0, ⟨env_agree1 rfl, fun i x h => ?_, fun f ks q h => (look_nil h).elim⟩, ⟨k + 1, by omega, rfl⟩, ?_⟩
      · obtain ⟨rfl, rfl⟩ := look_one h
        rfl
      · show (d.m - (k + 1)).toNat < (d.m - k).toNat
        omega
    · have t1 : (X.lt (.var 100) (.var 62)).tt (d.env ro 0 k 0) = false := lt2n rfl rfl c1
      refine ⟨_, by simp only [CLL, R.sel, t1, Bool.false_eq_true, if_false]; rfl, ?_⟩
      dsimp only
      exact ⟨⟨env_agree1 rfl, fun i x h => (look_nil h).elim, fun f ks q h => (look_nil h).elim⟩, CO z, rfl, rfl⟩
end
def wkOk : R (V × St) → Bool
  | .ok (.bool (.lit (.ofNat 1)), st) => roThere LStart st.h
  | _ => false
theorem wkOk_is {r : R (V × St)} (h : wkOk r = true) : ∃ st, r = .ok (.bool (.lit 1), st) ∧ roThere LStart st.h = true := by
  unfold wkOk at h
  split at h
  · exact ⟨_, rfl, h⟩
  · cases h
set_option maxRecDepth 100000 in
theorem wk_run : wkOk (sumTab LStart 7 sum8 [] (stG LStart 7)) = true := by kernel_rfl
theorem wksA_ok {ρ : Env} {c : Cx} (h : RoAll ρ.ro) (hb : (ρ.win 7).block = 0) (h7 : ρ.ro 7 = ρ.ro 0) : SumAt Tryz.prog c ρ 8 wksA := by
  intro args st v st' he S π0 w ac n hh ha
  unfold wksA at he
  split at he
  · split at he
    · rename_i t ks len hg
      simp only [R.sel, Option.some.injEq, Prod.mk.injEq] at he
      obtain ⟨rfl, rfl⟩ := he
      obtain ⟨ob, h1, ⟨_, h2, _⟩, h3⟩ := (hh.at_.rep π0 fun _ _ => rfl).obj 7 _ hg
      have hw0 : w.heap[0]? = some (ρ.ro 0) := by
        rw [← h2, hb] at h1
        rw [h1, h3, h7]
      have hL2 : ∀ x ∈ LStart, w.heap[x.1]? = some (ρ.ro x.1) := fun x hx => by
        simp only [LStart, List.mem_singleton] at hx
        subst hx
        exact hw0
      obtain ⟨st2, e2, hthere⟩ := wkOk_is wk_run
      have hsel : (sumTab LStart 7 sum8 [] (stG LStart 7)).sel ρ = some (.bool (.lit 1), st2) := by rw [e2]; rfl
      have base := at8 h rfl (c := cxB) rfl [] _ _ _ hsel SStart πStart w [] n (here_stG (cx0 := cxB) (π0 := πStart) rfl LStart_lt (h ρ rfl) (fun _ _ => rfl) hL2) (fun _ _ => rfl)
      have hac : ac = [] := (ha π0 fun _ _ => rfl).symm
      subst hac
      refine CallsIn.mono base fun e w' hp => ?_
      obtain ⟨_, π1, g, cv, rfl, hv⟩ := hp
      have hB := below_of LStart_lt (fun _ _ => rfl) hL2 g hthere
      refine ⟨hh.pc, π0, ⟨Nat.le_refl _, fun _ _ => rfl, ⟨fun π hk => ⟨fun i o hi => ?_, fun i j o o' hi hj e => (hh.at_.rep π fun i hi => hk i (.inl hi)).inj i j o o' hi hj e⟩, fun i o hi => .inl (hh.at_.dom i o hi)⟩, fun i o hi => .inr ⟨i, o, hi, rfl⟩, fun j hj _ => hB.block j hj, hB.size, ⟨hB.tape, hB.os, hB.output⟩⟩, cv, rfl, fun π _ => hv π1 fun _ _ => rfl⟩
      obtain ⟨ob, h4, h5⟩ := (hh.at_.rep π fun i hi => hk i (.inl hi)).obj i o hi
      exact ⟨ob, by rw [hB.block _ (Array.getElem?_eq_some_iff.1 h4).1]; exact h4, h5⟩
    · simp [R.sel] at he
  · simp [R.sel] at he
theorem allL {d : RD} {ro : Nat → Obj} (h : RoAll ro) (z : Bool) (hz : z = false → d.ad.block = 0 ∧ ro 7 = ro 0) : SumOk Tryz.prog (cxL z) (d.env ro 0 0 0) := by
  have hsm : ∀ f s, (cxL z).sm f = some s → SumAt Tryz.prog (cxL z) (d.env ro 0 0 0) f s := by
    cases z with
    | true => exact fun f s hs args st v st' he S π0 w ac n hh ha => (all8 h (ρ := d.env ro 0 0 0) rfl).sum f s hs args st v st' he S π0 w ac n ⟨hh.pc, hh.at_, hh.glob, hh.fresh⟩ ha
    | false =>
      intro f s hs
      have hs' : smOf [(8, wksA)] f = some s := hs
      unfold smOf at hs'
      split at hs'
      · rename_i hb
        obtain rfl := Nat.eq_of_beq_eq_true hb
        obtain rfl := Option.some.inj hs'
        exact wksA_ok (ρ := d.env ro 0 0 0) h (hz rfl).1 (hz rfl).2
      · cases hs'
  refine ⟨fun f s hs args st v st' he S π0 w ac n hh ha => hsm f s hs args st v st' he S π0 w ac n hh ha, dm_ok rfl, fun lp hl => ?_⟩
  obtain rfl := Option.some.inj (show some (lpOf [AL z, BL z, CL z]) = some lp from hl)
  refine lpOf_ok fun L hL => ?_
  simp only [List.mem_cons, List.not_mem_nil, or_false] at hL
  rcases hL with rfl | rfl | rfl
  · exact A_told
  · exact B_told
  · exact C_told
end Go.Proofs.YtennjdjcjjjmiaaGreatDoor
