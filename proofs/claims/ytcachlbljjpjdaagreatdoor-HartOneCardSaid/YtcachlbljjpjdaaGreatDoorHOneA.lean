/- A word done twice by a hart, told two answers, and its access: what the three leave, as values. What the three calls leave, as expressions; that the calls are these; what is run. No condition. -/
import Derived.Test.YtcachlbljjpjdaaGreatDoorHEnv
import Derived.Test.YtcachlbljjpjdaaGreatDoorSeCo
import Derived.Test.YtcachlbljjpjdaaGreatDoorHOk
namespace Go.Proofs.YtcachlbljjpjdaaGreatDoor
open Go Go.Proofs Go.RowKit
noncomputable section
def rX (i : Nat) : X := .wrap .u32 (.fn1 0 (.lit (Int.ofNat i)))
def idX : X := .wrap .i64 (.var 0)
def pcX : X := .wrap .u32 (.var 1)
def cellOk (pc : PC) (i : Nat) (x : X) : Bool := match x.beq (rX i) with
  | true => true
  | false => match x with
    | .ite (.cube m v) _ r => match Nat.beq m 3968, Nat.beq v (128 * i), r.beq (rX i) with
      | true, true, true => match i with
        | 0 => match decCube 3968 0 pc with
          | some false => true
          | _ => false
        | _ + 1 => true
      | _, _, _ => false
    | _ => false
def cellsOk (pc : PC) : Nat → List X → Bool
  | _, [] => true
  | i, x :: l => match cellOk pc i x with
    | true => cellsOk pc (i + 1) l
    | false => false
def cellsAre : Nat → List X → Bool
  | _, [] => true
  | i, x :: l => match x.beq (rX i) with
    | true => cellsAre (i + 1) l
    | false => false
def hartOf (v : V) : Option (X × X × List X × X) := match v with
  | .agg (i :: p :: l) => match intX .i64 i, intX .u32 p, regsOf 32 l with
    | some a, some b, some (xs, [c]) => match intX .i64 c with
      | some d => some (a, b, xs, d)
      | none => none
    | _, _, _ => none
  | _ => none
theorem hartOf_ok {ρ : Env} {v : V} {a b d : X} {xs : List X} (h : hartOf v = some (a, b, xs, d)) : HartOk (a.den ρ) (b.den ρ) (xs.map fun x => x.den ρ) (d.den ρ) ∧ ∀ π, v.conc ρ π = hartW (a.den ρ) (b.den ρ) (xs.map fun x => x.den ρ) (d.den ρ) := by
  unfold hartOf at h
  split at h
  · rename_i i p l
    split at h
    · rename_i x y zs c h1 h2 h3
      split at h
      · rename_i z h4
        simp only [Option.some.injEq, Prod.mk.injEq] at h
        obtain ⟨rfl, rfl, rfl, rfl⟩ := h
        obtain ⟨rfl, a1, a2⟩ := intX_ok (ρ := ρ) h1
        obtain ⟨rfl, b1, b2⟩ := intX_ok (ρ := ρ) h2
        obtain ⟨rfl, c1, c2⟩ := intX_ok (ρ := ρ) h4
        obtain ⟨e1, e2, e3⟩ := regsOf_ok (ρ := ρ) h3
        refine ⟨⟨⟨a1, a2⟩, ⟨b1, b2⟩, by simp [e1], fun u hu => ?_, ⟨c1, c2⟩⟩, fun π => ?_⟩
        · obtain ⟨w, hw, rfl⟩ := List.mem_map.1 hu
          exact e2 w hw
        · simp only [V.conc, V.concs, e3, hartW]
      · cases h
    · cases h
  · cases h
def accOf (v : V) : Option X := match v with
  | .agg [k, a, w, n, o, .bool _, .bool _] => match intX .i64 k, intX .u32 a, intX .i64 w, intX .u32 n, intX .i64 o with
    | some x, some _, some _, some _, some _ => some x
    | _, _, _, _, _ => none
  | _ => none
def accW (k a w n o : Int) (q r : Bool) : Value := .agg #[.int .i64 k, .int .u32 a, .int .i64 w, .int .u32 n, .int .i64 o, .bool q, .bool r]
theorem accOf_ok {ρ : Env} {v : V} {x : X} (h : accOf v = some x) : ∃ a w n o q r, InI (x.den ρ) ∧ InU a ∧ InI w ∧ InU n ∧ InI o ∧ ∀ π, v.conc ρ π = accW (x.den ρ) a w n o q r := by
  unfold accOf at h
  split at h
  · rename_i k a w n o q r
    split at h
    · rename_i x1 x2 x3 x4 x5 h1 h2 h3 h4 h5
      obtain rfl := Option.some.inj h
      obtain ⟨rfl, a1, a2⟩ := intX_ok (ρ := ρ) h1
      obtain ⟨rfl, b1, b2⟩ := intX_ok (ρ := ρ) h2
      obtain ⟨rfl, c1, c2⟩ := intX_ok (ρ := ρ) h3
      obtain ⟨rfl, d1, d2⟩ := intX_ok (ρ := ρ) h4
      obtain ⟨rfl, e1, e2⟩ := intX_ok (ρ := ρ) h5
      exact ⟨x2.den ρ, x3.den ρ, x4.den ρ, x5.den ρ, q.tt ρ, r.tt ρ, ⟨a1, a2⟩, ⟨b1, b2⟩, ⟨c1, c2⟩, ⟨d1, d2⟩, ⟨e1, e2⟩, fun π => rfl⟩
    · cases h
  · cases h
def doneW (h : Value) : Value := .tuple #[h, .int .i64 0]
def actW (a : Value) (c : Int) : Value := .tuple #[a, .int .i64 c, .int .i64 0]
inductive OneIs (id pc : Int) (regs : List Int) (o p a : Value) : Prop where
  | halt (c k ad wd n op : Int) (q r : Bool) : c ≠ 0 → InI c → InI k → InU ad → InI wd → InU n → InI op → o = doneW (hartW id pc regs c) → p = o → a = actW (accW k ad wd n op q r) c → OneIs id pc regs o p a
  | norm (j : Nat) (P U k ad wd n op : Int) (q r : Bool) : 1 ≤ j → j ≤ 32 → InU P → InU U → InI k → InU ad → InI wd → InU n → InI op → o = doneW (hartW id P (regs.set j U) 0) → p = o → a = actW (accW k ad wd n op q r) 0 → OneIs id pc regs o p a
  | loud (j : Nat) (P U k ad wd n op : Int) (q r : Bool) (id2 pc2 : Int) (regs2 : List Int) (c2 : Int) : 1 ≤ j → j ≤ 32 → InU P → InU U → InI k → InU ad → InI wd → InU n → InI op → k ≠ 0 → k ≠ 2 → k ≠ 6 → HartOk id2 pc2 regs2 c2 → o = doneW (hartW id P (regs.set j U) 0) → p = doneW (hartW id2 pc2 regs2 c2) → a = actW (accW k ad wd n op q r) 0 → OneIs id pc regs o p a
def oneLoud (k : X) (r2 : V) : Bool := match k, r2 with
  | .lit k, .tuple [h2, .int .i64 (.lit f)] => match intBeq k 0, intBeq k 2, intBeq k 6, intBeq f 0 with
    | false, false, false, true => isHart h2
    | _, _, _, _ => false
  | _, _ => false
def oneParts (pc : PC) (r2 r1 : V) (p : X) (xs : List X) (c : Int) (k : X) : Bool := match intBeq c 0 with
  | false => match p.beq pcX, cellsAre 0 xs with
    | true, true => r2.beq r1
    | _, _ => false
  | true => match cellsOk pc 0 xs with
    | true => match r2.beq r1 with
      | true => true
      | false => oneLoud k r2
    | false => false
def causeOf (x : X) : Option Int := match x with
  | .lit c => some c
  | x => match x.beq (.wrap .i64 (.var 2)) with
    | true => some 0
    | false => none
def oneOk (l : List V) (pc : PC) : Bool := match l with
  | [.tuple [acc, .int .i64 c', .int .i64 (.lit g)], r2, .tuple [h1, .int .i64 (.lit e)]] => match intBeq e 0, intBeq g 0, hartOf h1, accOf acc with
    | true, true, some (i, p, xs, d), some k => match i.beq idX, causeOf d with
      | true, some c => match c'.beq (.lit c) with
        | true => oneParts pc r2 (.tuple [h1, .int .i64 (.lit e)]) p xs c k
        | false => false
      | _, _ => false
    | _, _, _, _ => false
  | _ => false
theorem cube_uniq {ρ : Env} {i k : Nat} (hi : i < 32) (hk : k < 32) (h1 : cubeB ρ 3968 (128 * i) = true) (h2 : cubeB ρ 3968 (128 * k) = true) : i = k := by
  have a := cubeB_iff.1 h1
  have b := cubeB_iff.1 h2
  have key : ∀ i, i < 32 → ∀ k, k < 32 → (∀ t, t < 12 → Nat.testBit 3968 t = true → Nat.testBit (128 * i) t = Nat.testBit (128 * k) t) → i = k := by decide +kernel
  exact key i hi k hk fun t _ ht => (a t ht).symm.trans (b t ht)
section
variable {ρ : Env} {pc : PC} {regs : List Int} (hpc : PcOk ρ pc) (hr : ∀ j (h : j < regs.length), ρ.f1 0 (Int.ofNat j) = regs[j]) (hu : ∀ z ∈ regs, InU z) (hlen : regs.length = 32)
include hr hu hlen
theorem rX_den {i : Nat} (hi : i < 32) : (rX i).den ρ = regs.getD i 0 := by
  have h : i < regs.length := by omega
  show IntKind.u32.wrap (ρ.f1 0 (Int.ofNat i)) = _
  rw [hr i h, wrap_u (hu _ (List.getElem_mem h)), List.getD_eq_getElem?_getD, List.getElem?_eq_getElem h]
  rfl
theorem cellsAre_ok : ∀ (l : List X) (i : Nat), i + l.length = 32 → cellsAre i l = true → ∀ t x, l[t]? = some x → x.den ρ = regs.getD (i + t) 0
  | [], _, _, _, t, x, hx => by simp at hx
  | y :: l, i, hl, h, t, x, hx => by
    simp only [List.length_cons] at hl
    unfold cellsAre at h
    split at h
    · rename_i hb
      cases t with
      | zero =>
        obtain rfl := Option.some.inj hx
        rw [X.beq_eq hb, rX_den hr hu hlen (by omega)]
        rfl
      | succ t => rw [cellsAre_ok l (i + 1) (by omega) h t x hx, show i + 1 + t = i + (t + 1) by omega]
    · cases h
include hpc
theorem cellsOk_ok : ∀ (l : List X) (i : Nat), i + l.length = 32 → (∀ x ∈ l, InU (x.den ρ)) → cellsOk pc i l = true →
    ∃ (j : Nat) (U : Int), 1 ≤ j ∧ j ≤ 32 ∧ InU U ∧ (j = 32 ∨ (i ≤ j ∧ cubeB ρ 3968 (128 * j) = true)) ∧ ∀ t x, l[t]? = some x → x.den ρ = if i + t = j then U else regs.getD (i + t) 0
  | [], i, _, _, _ => ⟨32, 0, by omega, by omega, ⟨by omega, by omega⟩, .inl rfl, fun t x hx => by simp at hx⟩
  | y :: l, i, hl, hin, h => by
    simp only [List.length_cons] at hl
    unfold cellsOk at h
    split at h
    · rename_i hc
      obtain ⟨j, U, hj1, hj2, hU, hj, hall⟩ := cellsOk_ok l (i + 1) (by omega) (fun x hx => hin x (by simp [hx])) h
      have hij : i ≠ j := by rcases hj with rfl | ⟨h1, _⟩ <;> omega
      have keep : y.den ρ = regs.getD i 0 → ∃ (j : Nat) (U : Int), 1 ≤ j ∧ j ≤ 32 ∧ InU U ∧ (j = 32 ∨ (i ≤ j ∧ cubeB ρ 3968 (128 * j) = true)) ∧ ∀ t x, (y :: l)[t]? = some x → x.den ρ = if i + t = j then U else regs.getD (i + t) 0 := by
        intro hy
        refine ⟨j, U, hj1, hj2, hU, hj.imp id fun h => ⟨by omega, h.2⟩, fun t x hx => ?_⟩
        cases t with
        | zero =>
          obtain rfl := Option.some.inj hx
          rw [if_neg (by omega), hy]
          rfl
        | succ t =>
          have := hall t x hx
          rw [show i + 1 + t = i + (t + 1) by omega] at this
          exact this
      unfold cellOk at hc
      split at hc
      · rename_i hb
        exact keep (by rw [X.beq_eq hb, rX_den hr hu hlen (by omega)])
      · split at hc
        · rename_i m a v r
          split at hc
          · rename_i hm hv hrr
            obtain rfl := Nat.eq_of_beq_eq_true hm
            obtain rfl := Nat.eq_of_beq_eq_true hv
            obtain rfl := X.beq_eq hrr
            have hden : (X.ite (.cube 3968 (128 * i)) a (rX i)).den ρ = if cubeB ρ 3968 (128 * i) = true then a.den ρ else regs.getD i 0 := by
              rw [← rX_den (ρ := ρ) hr hu hlen (show i < 32 by omega)]
              by_cases hcb : cubeB ρ 3968 (128 * i) = true
              · simp [X.den, hcb, b2i]
              · simp only [Bool.not_eq_true] at hcb
                simp [X.den, hcb, b2i]
            cases hP : cubeB ρ 3968 (128 * i) with
            | false => exact keep (by rw [hden, hP]; rfl)
            | true =>
              have hi0 : 1 ≤ i := by
                cases i with
                | zero =>
                  dsimp only at hc
                  split at hc
                  · rename_i hd
                    have := decCube_ok hpc hd
                    rw [Nat.mul_zero, this] at hP
                    cases hP
                  · cases hc
                | succ i => omega
              refine ⟨i, (X.ite (.cube 3968 (128 * i)) a (rX i)).den ρ, hi0, by omega, hin _ (by simp), .inr ⟨Nat.le_refl _, hP⟩, fun t x hx => ?_⟩
              cases t with
              | zero =>
                obtain rfl := Option.some.inj hx
                rw [if_pos (by omega)]
              | succ t =>
                have h1 := hall t x hx
                have h2 : i + 1 + t ≠ j := by
                  rcases hj with rfl | ⟨h1, h2⟩
                  · have : t < l.length := by
                      simp only [List.getElem?_cons_succ] at hx
                      exact (List.getElem?_eq_some_iff.1 hx).1
                    omega
                  · intro e
                    have : j < 32 := by
                      have : t < l.length := by
                        simp only [List.getElem?_cons_succ] at hx
                        exact (List.getElem?_eq_some_iff.1 hx).1
                      omega
                    have := cube_uniq (by omega) this hP h2
                    omega
                rw [if_neg h2] at h1
                rw [if_neg (by omega), h1, show i + 1 + t = i + (t + 1) by omega]
          · cases hc
        · cases hc
    · cases h
end
theorem regs_ext {ρ : Env} {xs : List X} {l : List Int} (hx : xs.length = 32) (hl : l.length = 32) (h : ∀ t x, xs[t]? = some x → x.den ρ = l.getD t 0) : (xs.map fun x => x.den ρ) = l := by
  apply List.ext_getElem?
  intro t
  rcases Nat.lt_or_ge t 32 with ht | ht
  · have h1 : t < xs.length := by omega
    have h2 : t < l.length := by omega
    rw [List.getElem?_map, List.getElem?_eq_getElem h1, List.getElem?_eq_getElem h2]
    have := h t _ (List.getElem?_eq_getElem h1)
    rw [List.getD_eq_getElem?_getD, List.getElem?_eq_getElem h2] at this
    simp only [Option.map_some, Option.getD_some] at this ⊢
    rw [this]
  · rw [List.getElem?_eq_none (by simp; omega), List.getElem?_eq_none (by omega)]
theorem oneOk_ok {ρ : Env} {pc : PC} {l : List V} {id0 pc0 : Int} {regs : List Int} (hpc : PcOk ρ pc) (h0 : ρ.v 0 = id0) (h1 : ρ.v 1 = pc0) (h2 : ρ.v 2 = 0) (hid : InI id0) (hp0 : InU pc0) (hr : ∀ j (h : j < regs.length), ρ.f1 0 (Int.ofNat j) = regs[j]) (hu : ∀ z ∈ regs, InU z) (hlen : regs.length = 32) (h : oneOk l pc = true) :
    ∃ r1 r2 r3 o p a, l = [r3, r2, r1] ∧ OneIs id0 pc0 regs o p a ∧ (∀ π, r1.conc ρ π = o) ∧ (∀ π, r2.conc ρ π = p) ∧ ∀ π, r3.conc ρ π = a := by
  unfold oneOk at h
  split at h
  · rename_i acc c' g r2 h1' e
    split at h
    · rename_i i p xs d k he hg hh ha
      obtain rfl := intBeq_eq he
      obtain rfl := intBeq_eq hg
      obtain ⟨hk, hc⟩ := hartOf_ok (ρ := ρ) hh
      obtain ⟨ad, wd, n, op, qq, rr, i1, i2, i3, i4, i5, hacc⟩ := accOf_ok (ρ := ρ) ha
      have hlx : xs.length = 32 := by simpa using hk.len
      split at h
      · rename_i c hi hcau
        split at h
        rotate_left
        · cases h
        rename_i hcc
        obtain rfl := X.beq_eq hi
        obtain rfl := X.beq_eq hcc
        have hlit : d.den ρ = c := by
          unfold causeOf at hcau
          split at hcau
          · exact Option.some.inj hcau
          · split at hcau
            · rename_i hb
              rw [X.beq_eq hb, ← Option.some.inj hcau]
              show IntKind.i64.wrap (ρ.v 2) = 0
              rw [h2]
              rfl
            · cases hcau
        have hidx : idX.den ρ = id0 := by
          show IntKind.i64.wrap (ρ.v 0) = id0
          rw [h0, wrap_i hid]
        have hpcx : pcX.den ρ = pc0 := by
          show IntKind.u32.wrap (ρ.v 1) = pc0
          rw [h1, wrap_u hp0]
        rw [hidx, hlit] at hc
        have hact : ∀ π, (V.tuple [acc, .int .i64 (.lit c), .int .i64 (.lit 0)]).conc ρ π = actW (accW (k.den ρ) ad wd n op qq rr) c := fun π => by
          simp only [V.conc, V.concs, hacc, X.den]
          rfl
        have hdone : ∀ π, (V.tuple [h1', .int .i64 (.lit 0)]).conc ρ π = doneW (hartW id0 (p.den ρ) (xs.map fun x => x.den ρ) c) := fun π => by
          simp only [V.conc, V.concs, hc, X.den]
          rfl
        unfold oneParts at h
        split at h
        · rename_i hc0
          have hcn : c ≠ 0 := fun e => by rw [e, intBeq_iff] at hc0; simp at hc0
          split at h
          · rename_i hp hx
            obtain rfl := X.beq_eq hp
            obtain rfl := V.beq_eq _ _ h
            have hregs : (xs.map fun x => x.den ρ) = regs := regs_ext hlx hlen fun t x hx' => by
              rw [cellsAre_ok hr hu hlen xs 0 (by omega) hx t x hx', Nat.zero_add]
            rw [hpcx, hregs] at hdone
            exact ⟨_, _, _, _, _, _, rfl, .halt c _ ad wd n op qq rr hcn (by rw [← hlit]; exact hk.cause) i1 i2 i3 i4 i5 rfl rfl rfl, hdone, hdone, hact⟩
          · cases h
        · rename_i hc0
          obtain rfl := intBeq_eq hc0
          split at h
          · rename_i hx
            obtain ⟨j, U, hj1, hj2, hU, _, hall⟩ := cellsOk_ok hpc hr hu hlen xs 0 (by omega) (fun x hx' => hk.regs _ (List.mem_map.2 ⟨x, hx', rfl⟩)) hx
            have hregs : (xs.map fun x => x.den ρ) = regs.set j U := regs_ext hlx (by simp [hlen]) fun t x hx' => by
              have ht : t < 32 := by
                have := (List.getElem?_eq_some_iff.1 hx').1
                omega
              rw [hall t x hx', Nat.zero_add, List.getD_eq_getElem?_getD, List.getD_eq_getElem?_getD, List.getElem?_set]
              by_cases e : t = j
              · rw [if_pos e, if_pos e.symm, if_pos (by omega)]
                rfl
              · rw [if_neg e, if_neg (fun e' => e e'.symm)]
            rw [hregs] at hdone
            split at h
            · rename_i hb
              obtain rfl := V.beq_eq _ _ hb
              exact ⟨_, _, _, _, _, _, rfl, .norm j _ U _ ad wd n op qq rr hj1 hj2 hk.pc hU i1 i2 i3 i4 i5 rfl rfl rfl, hdone, hdone, hact⟩
            · unfold oneLoud at h
              split at h
              · rename_i k h2 f _
                split at h
                · rename_i k0 k2 k6 hf
                  obtain rfl := intBeq_eq hf
                  obtain ⟨id2, pc2, regs2, c2, hk2, hc2⟩ := isHart_ok (ρ := ρ) h
                  have ne : ∀ z : Int, intBeq k z = false → k ≠ z := fun z hz e => by rw [e, intBeq_iff] at hz; simp at hz
                  refine ⟨_, _, _, _, doneW (hartW id2 pc2 regs2 c2), _, rfl, .loud j _ U k ad wd n op qq rr id2 pc2 regs2 c2 hj1 hj2 hk.pc hU i1 i2 i3 i4 i5 (ne 0 k0) (ne 2 k2) (ne 6 k6) hk2 rfl rfl rfl, hdone, fun π => ?_, hact⟩
                  simp only [V.conc, V.concs, hc2, X.den]
                  rfl
                · cases h
              · cases h
          · cases h
      · cases h
    · cases h
  · cases h
end
end Go.Proofs.YtcachlbljjpjdaaGreatDoor

namespace Go.Proofs.YtcachlbljjpjdaaGreatDoor
open Go Go.Proofs Go.RowKit
noncomputable section
def regsJ (jj : Nat) : Nat → Nat → List V → List V
  | _, 0, r => r
  | i, n + 1, r => .int .u32 (match Nat.beq i jj with | true => .wrap .u32 (.var 103) | false => rX i) :: regsJ jj (i + 1) n r
def zeroV' : V := .int .i64 (.lit 0)
def outJ (j : Nat) : V := .tuple [.agg (.int .i64 idX :: .int .u32 (.wrap .u32 (.var 102)) :: regsJ j 0 32 [zeroV']), zeroV']
def outH : V := .tuple [.agg (.int .i64 idX :: .int .u32 pcX :: regsX 0 0 32 [.int .i64 (.wrap .i64 (.var 100))]), zeroV']
def outL : V := .tuple [hartX 104 1, zeroV']
def accX : V := .agg [.int .i64 (.wrap .i64 (.var 107)), .int .u32 (.wrap .u32 (.var 108)), .int .i64 (.wrap .i64 (.var 109)), .int .u32 (.wrap .u32 (.var 110)), .int .i64 (.wrap .i64 (.var 111)), .bool (.eq (.var 112) (.lit 1)), .bool (.eq (.var 113) (.lit 1))]
def actX (c : X) : V := .tuple [accX, .int .i64 c, zeroV']
def ansX (o : Nat) : V := .agg [.int .u32 (wordX o 32), .bool (flagX (o + 32))]
def sizeX : V := .int .i64 (.wrap .i64 (.var 3))
def oneA (w : X) : List V := [hartX 0 0, .agg [.int .u32 w, sizeX, .int .u32 (wordX 32 32), .bool (flagX 64)], ansX 65]
def oneA1 (w : X) : List V := [hartX 0 0, .int .u32 w, sizeX, ansX 32]
def oneA2 (w : X) : List V := [hartX 0 0, .int .u32 w, sizeX, ansX 65]
def oneA3 (w : X) : List V := [hartX 0 0, .int .u32 w, sizeX]
def goPc : PC := [(.eq (.wrap .i64 (.var 2)) (.lit 0), true), (.lt (.lit 4) (.wrap .i64 (.var 2)), false), (.lt (.wrap .i64 (.var 2)) (.lit 0), false), (.eq (rX 0) (.lit 0), true), (.lt idX (.lit 4), true), (.lt idX (.lit 0), false)]
def noPc : Nat → PC
  | 0 => [(.lt idX (.lit 0), true)]
  | 1 => [(.lt idX (.lit 4), false), (.lt idX (.lit 0), false)]
  | 2 => [(.eq (rX 0) (.lit 0), false), (.lt idX (.lit 4), true), (.lt idX (.lit 0), false)]
  | 3 => [(.lt (.wrap .i64 (.var 2)) (.lit 0), true), (.eq (rX 0) (.lit 0), true), (.lt idX (.lit 4), true), (.lt idX (.lit 0), false)]
  | 4 => [(.lt (.lit 4) (.wrap .i64 (.var 2)), true), (.lt (.wrap .i64 (.var 2)) (.lit 0), false), (.eq (rX 0) (.lit 0), true), (.lt idX (.lit 4), true), (.lt idX (.lit 0), false)]
  | _ => [(.eq (.wrap .i64 (.var 2)) (.lit 0), false), (.lt (.lit 4) (.wrap .i64 (.var 2)), false), (.lt (.wrap .i64 (.var 2)) (.lit 0), false), (.eq (rX 0) (.lit 0), true), (.lt idX (.lit 4), true), (.lt idX (.lit 0), false)]
def haltPc : PC := (.eq (.wrap .i64 (.var 100)) (.lit 0), false) :: goPc
def loudPc : PC := (.eq (.wrap .i64 (.var 107)) (.lit 0), false) :: (.eq (.wrap .i64 (.var 107)) (.lit 2), false) :: (.eq (.wrap .i64 (.var 107)) (.lit 6), false) :: goPc
def symTwo (r1 r2 : V) (args : List V) (st : St) : R (V × St) := match roThere LStart st.h with
  | true => match V.beqs args (oneA1 (wordX 0 32)) with
    | true => .ok (r1, { st with n := st.n + 100000 })
    | false => match V.beqs args (oneA2 (wordX 0 32)) with
      | true => .ok (r2, { st with n := st.n + 100000 })
      | false => .stuck "done"
  | false => .stuck "done"
def symAct (r3 : V) (args : List V) (st : St) : R (V × St) := match roThere LStart st.h with
  | true => match V.beqs args (oneA3 (wordX 0 32)) with
    | true => .ok (r3, { st with n := st.n + 100000 })
    | false => .stuck "act"
  | false => .stuck "act"
def cxP (r1 r2 r3 : V) : Cx := { cx with dm := dmH, sx := true, sm := smOf [(20, symTwo r1 r2), (17, symAct r3), (13, sumTab LStart 7 sum13)] }
def oneR (r1 r2 r3 : V) (pc : PC) : Bool := allChk LStart ((ev (cxP r1 r2 r3) 4000).call 10 (oneA (wordX 0 32)) (stPc pc))
def noR (i : Nat) : Bool := allChk LStart ((ev cxL 4000).call 10 (oneA (wordX 0 32)) (stPc (noPc i)))
def oneC (m v : Nat) : Bool := comp ((ev cxL 4000).call) LStart 7 100007 [(20, oneA1 (wordC m v)), (20, oneA2 (wordC m v)), (17, oneA3 (wordC m v))] [] goPc oneOk
def OneC (m v : Nat) : Prop := oneC m v = true
theorem OneC.of {m v : Nat} (h : comp ((evT cxL 4000).call) LStart 7 100007 [(20, oneA1 (wordC m v)), (20, oneA2 (wordC m v)), (17, oneA3 (wordC m v))] [] goPc oneOk = true) : OneC m v := by
  unfold OneC oneC
  rw [evT_call]
  exact h
theorem oneQ {r1 r2 r3 : V} {pc : PC} (h : allChk LStart ((evT (cxP r1 r2 r3) 4000).call 10 (oneA (wordX 0 32)) (stPc pc)) = true) : oneR r1 r2 r3 pc = true := by
  unfold oneR
  rw [evT_call]
  exact h
def oneT (r1 r2 r3 : V) (pc : PC) : Bool := allChk LStart ((evT (cxP r1 r2 r3) 4000).call 10 (oneA (wordX 0 32)) (stPc pc))
def rangeAll (f : Nat → Bool) : Nat → Nat → Bool
  | _, 0 => true
  | i, k + 1 => match f i with
    | true => rangeAll f (i + 1) k
    | false => false
theorem rangeAll_ok {f : Nat → Bool} : ∀ {k i : Nat}, rangeAll f i k = true → ∀ j, i ≤ j → j < i + k → f j = true
  | 0, i, _, j, h1, h2 => absurd h2 (by omega)
  | k + 1, i, h, j, h1, h2 => by
    unfold rangeAll at h
    split at h
    · rename_i hf
      by_cases e : i = j
      · rw [← e]; exact hf
      · exact rangeAll_ok h j (by omega) (by omega)
    · cases h
theorem one_range {f : Nat → Bool} (h1 : rangeAll f 1 8 = true) (h2 : rangeAll f 9 8 = true) (h3 : rangeAll f 17 8 = true) (h4 : rangeAll f 25 8 = true) (j : Nat) (hj : 1 ≤ j) (hk : j ≤ 32) : f j = true := by
  rcases (by omega : j < 9 ∨ 9 ≤ j ∧ j < 17 ∨ 17 ≤ j ∧ j < 25 ∨ 25 ≤ j) with h | h | h | h
  · exact rangeAll_ok h1 j hj h
  · exact rangeAll_ok h2 j h.1 h.2
  · exact rangeAll_ok h3 j h.1 h.2
  · exact rangeAll_ok h4 j h (by omega)
def oneN (j : Nat) : Bool := oneT (outJ j) (outJ j) (actX (.lit 0)) goPc
def oneL (j : Nat) : Bool := oneT (outJ j) outL (actX (.lit 0)) loudPc
theorem Cut.All.both {R : Nat → Nat → Bool} (i : Nat) {t f : Cut} {m v : Nat} (h1 : t.All R (m ||| 2 ^ i) (v ||| 2 ^ i)) (h2 : f.All R (m ||| 2 ^ i) v) : (Cut.br i t f).All R m v := ⟨h1, h2⟩
theorem Cut.All.one {m v a b : Nat} (h : OneC a b) (hm : m = a := by rfl) (hv : v = b := by rfl) : Cut.leaf.All oneC m v := Cut.one a b hm hv h
end
end Go.Proofs.YtcachlbljjpjdaaGreatDoor
