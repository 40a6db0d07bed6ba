/- IsaText: numerals and strings.Join: the shelf's contracts as summaries. No condition. -/
import Derived.Test.YtfdgdbphdjijdaaDoorGFUint
import Derived.Test.YtfdgdbphdjijdaaDoorGDoor
import Derived.Lib.ItoaLen
import Derived.Lib.AppendIntMem
namespace Go.Proofs.YtfdgdbphdjijdaaDoor
open Go Go.Proofs Go.RowKit
section
variable {cx : Cx} {ρ : Env} {S : Nat → Prop} {π0 : Pl} {st : St} {w w' : World}
theorem goes_below {h : H} (at0 : At ρ S π0 h w) (hb : Below w.heap.size w w') (n : Nat) : Goes ρ S π0 h w n π0 h w' n where
 le := Nat.le_refl _
 known := fun _ _ => rfl
 at_ := ⟨fun π hk => ⟨fun i o hi => by
   obtain ⟨ob, h1, h2⟩ := (at0.rep π fun j hj => hk j (.inl hj)).obj i o hi
   exact ⟨ob, by rw [hb.block _ (Array.getElem?_eq_some_iff.1 h1).1]; exact h1, h2⟩,
  fun i j o o' hi hj e => (at0.rep π fun j hj => hk j (.inl hj)).inj i j o o' hi hj e⟩, fun i o hi => .inl (at0.dom i o hi)⟩
 sub := fun i o hi => .inr ⟨i, o, hi, rfl, id⟩
 keep := fun j hj _ => hb.block j hj
 size := hb.size
 same := ⟨hb.tape, hb.os, hb.output⟩
theorem post_below {v : V} {c : Value} (hh : Here cx ρ S π0 st w) (hb : Below w.heap.size w w') (hv : ∀ π, v.conc ρ π = c) : EPost ρ S π0 st w (.ret v, st) (.returned c) w' :=
 ⟨hh.pc, π0, goes_below hh.at_ hb st.n, c, rfl, fun π _ => hv π⟩
end
theorem nDigits_pos (u : Nat) : 1 ≤ Lib.nDigits u := by
 unfold Lib.nDigits
 split <;> omega
theorem itoa_ne (n : Int) : Lib.itoa n ≠ [] := by
 unfold Lib.itoa
 split
 ·simp
 ·intro h
  have h1 := congrArg List.length h
  rw [Lib.decDigits_length] at h1
  have := nDigits_pos n.toNat
  simp at h1
  omega
theorem itoa_len {n : Int} (h0 : -9223372036854775808 ≤ n) (h1 : n ≤ 18446744073709551615) : (Lib.itoa n).length ≤ 21 := by
 by_cases h : n ≤ 9223372036854775807
 ·exact Lib.itoa_length_le n h0 h
 ·obtain ⟨u, rfl⟩ : ∃ u : Nat, n = u := ⟨n.toNat, by omega⟩
  rw [Lib.itoa_nonneg, Lib.decDigits_length]
  have := Lib.numDigits_eq u (by omega) (by omega)
  split at this <;> omega
theorem nz_itoa {n : Int} (h0 : -9223372036854775808 ≤ n) (h1 : n ≤ 18446744073709551615) : nzText (Lib.itoa n) = Lib.itoa n := by
 unfold nzText
 have hl := itoa_len h0 h1
 rw [List.take_of_length_le (by omega)]
 cases h : Lib.itoa n with
 | nil => exact (itoa_ne n h).elim
 | cons c l => rfl
theorem tabIs_of {cx : Cx} {ρ : Env} {S : Nat → Prop} {π0 : Pl} {st : St} {w : World} (hng : cx.ng = 7) (hro : RoAt ρ LS) (hh : Here cx ρ S π0 st w) (ht : roThere LS st.h = true) : Lib.TabIs Tryd.prog w "internal/strconv.uint64pow10" .u64 Lib.pow10Tab := by
 obtain ⟨c, hc⟩ := roThere_get ht (1, pow10L) (by simp [LStart])
 obtain ⟨ob, h1, _, h2⟩ := (hh.at_.rep π0 fun _ _ => rfl).obj _ _ hc
 have h5 : (π0 1).1 = 1 := (hh.glob 1 (by rw [hng]; decide)).2
 dsimp only at h1
 rw [h5, h2] at h1
 obtain ⟨t, fr, h3⟩ := hro.is (1, pow10L) (by simp [LStart])
 have h4 : ρ.ro 1 = .cells (V.concs ρ π0 pow10L).toArray t fr := h3 π0
 unfold Lib.TabIs World.var?
 rw [gPow10]
 simp only [Option.bind_some]
 rw [h1, h4, pow10_concs]
def numArgs (k : IntKind) (n : Int) : Bool → Array Value
 | true => #[.int k n, .int .i64 10]
 | false => #[.int k n]
def numRest : Bool → List V
 | true => [.int .i64 (.lit 10)]
 | false => []
noncomputable def numS (b : Bool) (k : IntKind) (args : List V) (st : St) : R (V × St) := match args with
 | .int k' x :: r => match kindBeq k k', inK k x, roThere LS st.h, V.beqs r (numRest b) with
  | true, true, true, true => .ok (.str (.sfn 1 x), st)
  | _, _, _, _ => .stuck "numeral"
 | _ => .stuck "numeral"
theorem num_ok {cx : Cx} {ρ : Env} {b : Bool} {k : IntKind} {f : FuncId} (hk : -9223372036854775808 ≤ kLo k ∧ kHi k ≤ 18446744073709551615) (hng : cx.ng = 7) (hro : RoAt ρ LS) (hsf : ∀ n, ρ.sf 1 n = Lib.itoa n)
  (hcall : ∀ (n : Int) (w : World), kLo k ≤ n → n ≤ kHi k → Lib.TabIs Tryd.prog w "internal/strconv.uint64pow10" .u64 Lib.pow10Tab → Calls Tryd.prog f (numArgs k n b) w fun e w' => e = .returned (.string ⟨(Lib.itoa n).toArray⟩) ∧ ∃ q os, w' = Sort.grow (w.drewN q) os) : SumAt Tryd.prog cx ρ f (numS b k) := by
 intro args st v st' hs S π0 w ac n hh ha
 unfold numS at hs
 split at hs
 ·rename_i k' x r
  split at hs
  ·rename_i h1 h2 h3 h4
   simp only [R.sel, Option.some.injEq, Prod.mk.injEq] at hs
   obtain ⟨rfl, rfl⟩ := hs
   obtain rfl := kindBeq_eq h1
   obtain rfl := V.beqs_eq _ _ h4
   obtain ⟨g1, g2⟩ := inK_ok (ρ := ρ) h2
   have hac : ac.toArray = numArgs k (x.den ρ) b := by
    rw [← ha π0 fun _ _ => rfl]
    cases b <;> rfl
   rw [hac]
   refine (callsIn_wide.2 (hcall (x.den ρ) w g1 g2 (tabIs_of hng hro hh h3))).mono fun e w' ⟨he, q, os, hw⟩ => ?_
   subst he hw
   refine post_below hh (Lib.below_grow _ w (Nat.le_refl _) q os) fun π => ?_
   show Value.string ⟨(nzText (ρ.sf 1 (x.den ρ))).toArray⟩ = _
   rw [hsf, nz_itoa (by omega) (by omega)]
  ·simp [R.sel] at hs
 ·simp [R.sel] at hs
section
variable {cx : Cx} {ρ : Env} (hng : cx.ng = 7) (hro : RoAt ρ LS) (hsf : ∀ n, ρ.sf 1 n = Lib.itoa n)
include hng hro hsf
theorem itoa_at : SumAt Tryd.prog cx ρ 23 (numS false .i64) := num_ok (by decide) hng hro hsf fun n w h0 h1 ht => Tryd.strconv_Itoa n h0 h1 w ht
theorem fmtI_at : SumAt Tryd.prog cx ρ 15 (numS true .i64) := num_ok (by decide) hng hro hsf fun n w h0 h1 ht => Tryd.strconv_FormatInt_10 n h0 h1 w ht
theorem fmtU_at : SumAt Tryd.prog cx ρ 53 (numS true .u64) := num_ok (by decide) hng hro hsf fun n w h0 h1 ht => by
 obtain ⟨u, rfl⟩ := Int.eq_ofNat_of_zero_le (show 0 ≤ n from h0)
 exact Tryd.FormatUint_out u (by have : (u : Int) ≤ 18446744073709551615 := h1; omega) w ht
end
def strsOf : List V → Option (List X)
 | [] => some []
 | v :: l => match v with
  | .str x => match strsOf l with
   | some xs => some (x :: xs)
   | none => none
  | _ => none
theorem strsOf_get : ∀ {l : List V} {xs : List X}, strsOf l = some xs → l = xs.map .str
 | [], xs, h => by
  obtain rfl := Option.some.inj h
  rfl
 | v :: l, xs, h => by
  unfold strsOf at h
  split at h
  ·split at h
   ·rename_i ys hy
    obtain rfl := Option.some.inj h
    rw [strsOf_get hy]
    rfl
   ·cases h
  ·cases h
def joinX (sep : X) : List X → X
 | [] => .slit []
 | x :: l => match l with
  | [] => x
  | y :: r => mkCat x (mkCat sep (joinX sep (y :: r)))
theorem joinX_sden {ρ : Env} (sep : X) : ∀ (l : List X), (joinX sep l).sden ρ = Lib.join (l.map fun x => x.sden ρ) (sep.sden ρ)
 | [] => rfl
 | [x] => (Lib.join_one _ _).symm
 | x :: y :: r => by
  show (mkCat x (mkCat sep (joinX sep (y :: r)))).sden ρ = _
  rw [mkCat_sden, mkCat_sden, joinX_sden sep (y :: r), List.map_cons, List.map_cons, Lib.join_cons, Lib.join_cons]
  simp [Lib.joinTail]
def capLe (n : Nat) : Cp → Bool
 | .known m => Nat.ble n m
 | .room _ _ lo => Nat.ble n lo
def shortT (x : X) : Bool := match lenB x with
 | some m => Nat.ble m 140737488355328
 | none => false
def joinS (args : List V) (st : St) : R (V × St) := match args with
 | [.slice b o n cp, .str sep] => match st.h.get b with
  | some (.cells c _ _) => match strsOf ((c.drop o).take n) with
   | some xs => match Nat.beq xs.length n, Nat.ble n 1000, capLe n cp, shortT (joinX sep xs) with
    | true, true, true, true => .ok (.str (joinX sep xs), st)
    | _, _, _, _ => .stuck "join"
   | none => .stuck "join"
  | _ => .stuck "join"
 | _ => .stuck "join"
theorem join_at {cx : Cx} {ρ : Env} : SumAt Tryd.prog cx ρ 79 joinS := by
 intro args st v st' hs S π0 w ac n hh ha
 unfold joinS at hs
 split at hs
 ·rename_i b o m cp sep
  split at hs
  ·rename_i c e wd hb
   split at hs
   ·rename_i xs hx
    split at hs
    ·rename_i h1 h2 h3 h4
     simp only [R.sel, Option.some.injEq, Prod.mk.injEq] at hs
     obtain ⟨rfl, rfl⟩ := hs
     have e1 := Nat.eq_of_beq_eq_true h1
     have e2 := Nat.le_of_ble_eq_true h2
     have hl := strsOf_get hx
     obtain ⟨ob, h5, spare, h6, _⟩ := (hh.at_.rep π0 fun _ _ => rfl).obj _ _ hb
     rw [h6] at h5
     let bs : List ByteArray := xs.map fun x => ⟨(x.sden ρ).toArray⟩
     have hbl : bs.length = m := by simp [bs, e1]
     have hcells : ∀ (j : Nat) x, bs[j]? = some x → w.cell? ⟨(π0 b).1, o + j, none⟩ = some (.string x) := by
      intro j x hj
      have hjm : j < m := by rw [← hbl]; exact (List.getElem?_eq_some_iff.1 hj).1
      rw [List.getElem?_map, Option.map_eq_some_iff] at hj
      obtain ⟨y, hy, rfl⟩ := hj
      have hc : c[o + j]? = some (.str y) := by
       have : ((c.drop o).take m)[j]? = some (.str y) := by rw [hl, List.getElem?_map, hy]; rfl
       rw [List.getElem?_take, if_pos hjm, List.getElem?_drop] at this
       exact this
      have hlt : o + j < c.length := (List.getElem?_eq_some_iff.1 hc).1
      unfold World.cell?
      dsimp only
      rw [h5]
      simp only [Option.isSome_none, Bool.false_eq_true, if_false, List.getElem?_toArray]
      rw [List.getElem?_append_left (by rw [concs_map, List.length_map]; exact hlt), concs_map, List.getElem?_map, hc]
      rfl
     have hcap : m ≤ cp.conc π0 := by
      cases cp with
      | known q => exact Nat.le_of_ble_eq_true h3
      | room b' off lo => exact Nat.le_trans (Nat.le_of_ble_eq_true h3) (Nat.le_max_right _ _)
     have hj : Lib.join (bs.map (·.data.toList)) (sep.sden ρ) = (joinX sep xs).sden ρ := by
      rw [joinX_sden, List.map_map]
      congr 1
     have hlen : ((joinX sep xs).sden ρ).length ≤ 140737488355328 := by
      unfold shortT at h4
      split at h4
      ·rename_i q hq
       exact Nat.le_trans (lenB_ok ρ hq) (Nat.le_of_ble_eq_true h4)
      ·cases h4
     have key := Tryd.strings_Join (π0 b).1 o (cp.conc π0) bs ⟨(sep.sden ρ).toArray⟩ w hcells (Array.getElem?_eq_some_iff.1 h5).1 (by omega) (by omega) (by rw [show (ByteArray.mk (sep.sden ρ).toArray).data.toList = sep.sden ρ from rfl, hj]; exact hlen)
     have hac : ac.toArray = #[.slice (some ⟨(π0 b).1, o, none⟩) bs.length (cp.conc π0), .string ⟨(sep.sden ρ).toArray⟩] := by
      rw [← ha π0 fun _ _ => rfl, hbl]
      rfl
     rw [hac]
     refine (callsIn_wide.2 key).mono fun e w' ⟨he, hw⟩ => ?_
     subst he
     refine post_below hh hw fun π => ?_
     show Value.string ⟨((joinX sep xs).sden ρ).toArray⟩ = _
     rw [← hj]
    ·simp [R.sel] at hs
   ·simp [R.sel] at hs
  ·simp [R.sel] at hs
 ·simp [R.sel] at hs
end Go.Proofs.YtfdgdbphdjijdaaDoor
