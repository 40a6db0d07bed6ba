/- Symbolic execution: loops of any number of rounds: shapes, and how a state fits one (plain functions). Symbolic execution: loops of any number of rounds: what fits a shape is it. Symbolic execution: a loop of any number of rounds does what is told of it. Symbolic execution: a run over rows that came in. No condition. -/
import Derived.Test.YtennjdjcjjjmiaaGreatDoorFwC
import Derived.Test.YtennjdjcjjjmiaaGreatDoorFwG
import Derived.Test.YtennjdjcjjjmiaaGreatDoorFwF
namespace Go.Proofs.YtennjdjcjjjmiaaGreatDoor
open Go
noncomputable section

def optSub {α : Type} (f : α → α → Bool) : Option α → Option α → Bool
  | none, _ => true
  | some a, some b => f a b
  | some _, none => false
def T.sub {α : Type} (f : α → α → Bool) : T α → T α → Bool
  | .nil, _ => true
  | .node l v r, .nil => and6 (optSub f v none) (T.sub f l .nil) (T.sub f r .nil) true true true
  | .node l v r, .node l' v' r' => and6 (optSub f v v') (T.sub f l l') (T.sub f r r') true true true
def factBeq (a b : X × Bool) : Bool := and6 (a.1.beq b.1) (sameW a.2 b.2) true true true true
structure LoopI where
  rnd : Option Nat
  body : Code
  fr : Fr
  st : St
  res : COut
def sameEntry (L : LoopI) (rnd : Option Nat) (c : Code) (fr : Fr) (st : St) : Bool :=
  and6 (and6 (Nat.beq st.n L.st.n) (optNatBeq rnd L.rnd) (V.beqs fr.tm L.fr.tm) (sdefsBeq fr.df L.fr.df) (listBeq factBeq st.pc L.st.pc) true) (codeBeq c L.body) (T.sub SObj.beq st.h L.st.h) (T.sub SObj.beq L.st.h st.h) true true
def lpOf : List LoopI → Option Nat → Code → Fr → St → Option COut
  | [], _, _, _, _ => none
  | L :: l, rnd, c, fr, st => match sameEntry L rnd c fr st with
    | true => some L.res
    | false => lpOf l rnd c fr st

structure Tch where
  vs : List Nat
  ts : List (Nat × Nat)
def inR : List (Nat × Nat) → Nat → Bool
  | [], _ => false
  | (t, n) :: l, f => match Nat.ble t f with
    | true => match Nat.blt f (t + n) with
      | true => true
      | false => inR l f
    | false => inR l f
def noneIn (l : List (Nat × Nat)) (t : Nat) : Nat → Bool
  | 0 => true
  | n + 1 => match inR l (t + n) with
    | true => false
    | false => noneIn l t n
structure Mt where
  v : List (Nat × X)
  a : List (Nat × (List CK × A))
  u : List (Nat × V)
  r : List (Nat × Nat)
def Mt.name (σ : Mt) (i : Nat) : Nat := match look σ.r i with
  | some j => j
  | none => i
def X.free (t : Tch) : X → Bool
  | .lit _ => true
  | .var i => !memN i t.vs
  | .add a b => a.free t && b.free t
  | .sub a b => a.free t && b.free t
  | .mul a b => a.free t && b.free t
  | .quo a b => a.free t && b.free t
  | .rem a b => a.free t && b.free t
  | .wrap _ a => a.free t
  | .bits _ _ a b => a.free t && b.free t
  | .shl _ a b => a.free t && b.free t
  | .shr _ a b => a.free t && b.free t
  | .eq a b => a.free t && b.free t
  | .lt a b => a.free t && b.free t
  | .le a b => a.free t && b.free t
  | .not a => a.free t
  | .ite c a b => c.free t && (a.free t && b.free t)
  | .fn1 f a => !inR t.ts f && a.free t
  | .fn2 _ a b => a.free t && b.free t
  | .slit _ => true
  | .svar _ => true
  | .scat a b => a.free t && b.free t
  | .sfn _ a => a.free t
  | .slen a => a.free t
  | .seq a b => a.free t && b.free t
  | .bv _ _ => true
  | .cube _ _ => true
  | .btext f a b => !inR t.ts f && (a.free t && b.free t)
def fitX (t : Tch) (σ : Mt) (p x : X) : Bool := match p with
  | .var i => match look σ.v i with
    | some y => y.beq x
    | none => match memN i t.vs with
      | true => false
      | false => (X.var i).beq x
  | p => match p.free t with
    | true => p.beq x
    | false => false
def fitS (t : Tch) (p x : X) : Bool := match p.free t with
  | true => p.beq x
  | false => false
def fitN (σ : Mt) (b c : Nat) : Bool := match look σ.u b with
  | some _ => false
  | none => Nat.beq (σ.name b) c
def fitCp (σ : Mt) : Cp → Cp → Bool
  | .known n, .known m => Nat.beq n m
  | .room b o n, .room c p m => and6 (fitN σ b c) (Nat.beq o p) (Nat.beq n m) true true true
  | _, _ => false
def fitXC (t : Tch) (σ : Mt) : XC → XC → Bool
  | .known a, .known b => fitX t σ a b
  | .room a, .room b => fitX t σ a b
  | _, _ => false
mutual
def fitV (t : Tch) (σ : Mt) : V → V → Bool
  | .any k, v => match look σ.u k with
    | some u => u.beq v
    | none => false
  | .int k p, .int j x => and6 (kindBeq k j) (fitX t σ p x) true true true true
  | .bool p, .bool x => fitX t σ p x
  | .str p, .str x => fitS t p x
  | .ptr b o, .ptr c q => and6 (fitN σ b c) (Nat.beq o q) true true true true
  | .nilptr, .nilptr => true
  | .slice b o n c, .slice b' o' n' c' => and6 (fitN σ b b') (Nat.beq o o') (Nat.beq n n') (fitCp σ c c') true true
  | .nilslice, .nilslice => true
  | .map b, .map c => fitN σ b c
  | .nilmap, .nilmap => true
  | .func f a c, .func g d e => and6 (decBeq f g) (fitVs t σ a d) (fitVs t σ c e) true true true
  | .yield b, .yield c => fitN σ b c
  | .nilfunc, .nilfunc => true
  | .iface u v, .iface u' v' => and6 (Nat.beq u u') (fitV t σ v v') true true true true
  | .niliface, .niliface => true
  | .agg l, .agg m => fitVs t σ l m
  | .tuple l, .tuple m => fitVs t σ l m
  | .wptr b o, .wptr c q => and6 (Nat.beq b c) (Nat.beq o q) true true true true
  | .wslice b o n c, .wslice b' o' n' c' => and6 (Nat.beq b b') (Nat.beq o o') (fitX t σ n n') (fitX t σ c c') true true
  | .sptr b o n i, .sptr c q m j => and6 (fitN σ b c) (Nat.beq o q) (Nat.beq n m) (fitX t σ i j) true true
  | .xslice w b off es n c, .xslice w' b' off' es' n' c' => and6 (sameW w w') (and6 (fitN σ b b') (match w with | true => Nat.beq b b' | false => true) true true true true) (fitX t σ off off') (Nat.beq es es') (fitX t σ n n') (fitXC t σ c c')
  | .xptr w b i es c, .xptr w' b' i' es' c' => and6 (sameW w w') (and6 (fitN σ b b') (match w with | true => Nat.beq b b' | false => true) true true true true) (fitX t σ i i') (Nat.beq es es') (Nat.beq c c') true
  | _, _ => false
def fitVs (t : Tch) (σ : Mt) : List V → List V → Bool
  | [], [] => true
  | p :: l, v :: m => and6 (fitV t σ p v) (fitVs t σ l m) true true true true
  | _, _ => false
end
def A.free (t : Tch) (n : Nat) : A → Bool
  | .base f => noneIn t.ts f n
  | .fill x => x.free t
  | .put a i _ x => a.free t n && (i.free t && x.free t)
def fitA (t : Tch) (σ : Mt) (ks : List CK) (p a : A) : Bool := match p with
  | .base f => match look σ.a f with
    | some (ks', b) => match CK.beqs ks ks' with
      | true => b.beq a
      | false => false
    | none => match noneIn t.ts f ks.length with
      | true => (A.base f).beq a
      | false => false
  | p => match p.free t ks.length with
    | true => p.beq a
    | false => false
def fitDs (σ : Mt) : List SDef → List SDef → Bool
  | [], [] => true
  | .mark b :: l, .mark c :: m => and6 (fitN σ b c) (fitDs σ l m) true true true true
  | _, _ => false
def fitEs (t : Tch) (σ : Mt) : List (V × V) → List (V × V) → Bool
  | [], [] => true
  | (k, v) :: l, (j, u) :: m => and6 (fitV t σ k j) (fitV t σ v u) (fitEs t σ l m) true true true
  | _, _ => false
def fitOb (t : Tch) (σ : Mt) (i : Nat) : SObj → SObj → Bool
  | .cells c e w, .cells c' e' w' => and6 (Nat.beq e e') (optNatBeq w w') (fitVs t σ c c') true true true
  | .map es, .map es' => fitEs t σ es es'
  | .loop s p tm ps as bd d, .loop s' p' tm' ps' as' bd' d' => and6 (decBeq s s') (optCodeBeq p p') (fitVs t σ tm tm') (fitN σ d d') (natsA ps ps') (and6 (codeBeq as as') (codeBeq bd bd') true true true true)
  | .deferred none, .deferred none => true
  | .deferred (some []), .deferred (some []) => true
  | .ro g c, .ro g' c' => and6 (Nat.beq g g') (fitVs t σ c c') true true true true
  | .win g c n es, .win g' c' n' es' => and6 (Nat.beq g g') (fitVs t σ c c') (fitX t σ n n') (Nat.beq es es') (Nat.beq (σ.name i) i) true
  | .iter none, .iter none => true
  | .iter (some b), .iter (some c) => fitN σ b c
  | .arr a ks n e w, .arr a' ks' n' e' w' => and6 (fitA t σ ks a a') (CK.beqs ks ks') (fitX t σ n n') (Nat.beq e e') (sameW w w') true
  | .warr g f ks n, .warr g' f' ks' n' => and6 (Nat.beq g g') (Nat.beq f f') (CK.beqs ks ks') (fitX t σ n n') (noneIn t.ts f ks.length) (Nat.beq (σ.name i) i)
  | _, _ => false
structure Pat where
  fr : Fr
  items : List (Nat × SObj)
  n : Nat
  pc : PC
  kn : List Nat
def itemsH : List (Nat × SObj) → H
  | [] => .nil
  | (i, o) :: l => (itemsH l).set i o
def Pat.st (p : Pat) : St := ⟨itemsH p.items, p.n, p.pc⟩
def fitHs (t : Tch) (σ : Mt) (h : H) : List (Nat × SObj) → Bool
  | [] => true
  | (i, p) :: l => match look σ.u i with
    | some _ => false
    | none => match h.get (σ.name i) with
      | some o => match fitOb t σ i p o with
        | true => fitHs t σ h l
        | false => false
      | none => false
def X.plainV (t : Tch) (σ : Mt) : X → Bool
  | .lit _ => true
  | .var i => match look σ.v i with
    | some _ => true
    | none => !memN i t.vs
  | .add a b => a.plainV t σ && b.plainV t σ
  | .sub a b => a.plainV t σ && b.plainV t σ
  | .mul a b => a.plainV t σ && b.plainV t σ
  | .lt a b => a.plainV t σ && b.plainV t σ
  | .le a b => a.plainV t σ && b.plainV t σ
  | .eq a b => a.plainV t σ && b.plainV t σ
  | _ => false
def X.fillV (σ : Mt) : X → X
  | .var i => match look σ.v i with
    | some x => x
    | none => .var i
  | .add a b => .add (a.fillV σ) (b.fillV σ)
  | .sub a b => .sub (a.fillV σ) (b.fillV σ)
  | .mul a b => .mul (a.fillV σ) (b.fillV σ)
  | .lt a b => .lt (a.fillV σ) (b.fillV σ)
  | .le a b => .le (a.fillV σ) (b.fillV σ)
  | .eq a b => .eq (a.fillV σ) (b.fillV σ)
  | x => x
def decF (pc : PC) (x : X) (b : Bool) : Bool := match decAtom pc x with
  | some c => sameW c b
  | none => match decLin pc x with
    | some c => sameW c b
    | none => false
def fitPc (t : Tch) (σ : Mt) (pc : PC) : PC → Bool
  | [] => true
  | (x, b) :: l => match x.plainV t σ with
    | true => match decF pc (x.fillV σ) b with
      | true => fitPc t σ pc l
      | false => false
    | false => false
def nameList (σ : Mt) : List (Nat × SObj) → List Nat
  | [] => []
  | (i, _) :: l => σ.name i :: nameList σ l
def outerOk (σ : Mt) (n : Nat) : List Nat → Bool
  | [] => true
  | i :: l => match Nat.blt i n with
    | true => match look σ.u i with
      | some _ => false
      | none => match Nat.beq (σ.name i) i with
        | true => outerOk σ n l
        | false => false
    | false => outerOk σ n l
def fit (t : Tch) (σ : Mt) (n : Nat) (p : Pat) (fr : Fr) (st : St) : Bool :=
  and6 (fitVs t σ p.fr.tm fr.tm) (fitDs σ p.fr.df fr.df) (fitHs t σ st.h p.items) (nodupN (nameList σ p.items)) (fitPc t σ st.pc p.pc) (outerOk σ n p.kn)
def Cp.nms : Cp → List Nat
  | .known _ => []
  | .room b _ _ => [b]
mutual
def V.nms : V → List Nat
  | .ptr b _ => [b]
  | .slice b _ _ c => b :: c.nms
  | .map b => [b]
  | .func _ a c => V.nmss a ++ V.nmss c
  | .yield b => [b]
  | .iface _ v => v.nms
  | .agg l => V.nmss l
  | .tuple l => V.nmss l
  | .ite _ a b => a.nms ++ b.nms
  | .sptr b _ _ _ => [b]
  | .rest b _ _ _ => [b]
  | .xslice _ b _ _ _ _ => [b]
  | .xptr _ b _ _ _ => [b]
  | .any k => [k]
  | _ => []
def V.nmss : List V → List Nat
  | [] => []
  | v :: l => v.nms ++ V.nmss l
end
def dNms : List SDef → List Nat
  | [] => []
  | .mark b :: l => b :: dNms l
  | .fn _ a c :: l => V.nmss a ++ (V.nmss c ++ dNms l)
def eNms : List (V × V) → List Nat
  | [] => []
  | (k, v) :: l => k.nms ++ (v.nms ++ eNms l)
def SObj.nms : SObj → List Nat
  | .cells c _ _ => V.nmss c
  | .map es => eNms es
  | .loop _ _ tm _ _ _ d => d :: V.nmss tm
  | .deferred (some l) => dNms l
  | .ro _ c => V.nmss c
  | .win _ c _ _ => V.nmss c
  | .iter (some b) => [b]
  | _ => []
def subL' : List Nat → List Nat → Bool
  | [], _ => true
  | a :: l, m => match memN a m with
    | true => subL' l m
    | false => false
def itemsOk (kn : List Nat) : List (Nat × SObj) → Bool
  | [] => true
  | (i, o) :: l => match memN i kn with
    | true => match subL' o.nms kn with
      | true => itemsOk kn l
      | false => false
    | false => false
def allLt (n : Nat) : List Nat → Bool
  | [] => true
  | i :: l => match Nat.blt i n with
    | true => allLt n l
    | false => false
def globsIn (kn : List Nat) : Nat → Bool
  | 0 => true
  | g + 1 => match memN g kn with
    | true => globsIn kn g
    | false => false
def patOk (ng : Nat) (p : Pat) : Bool := and6 (globsIn p.kn ng) (subL' (V.nmss p.fr.tm) p.kn) (subL' (dNms p.fr.df) p.kn) (itemsOk p.kn p.items) (allLt p.n p.kn) true
inductive LL where
  | next (σ : Mt)
  | out (k : Nat) (σ : Mt)
  | never
structure OutP where
  ex : Ex
  pat : Pat
def chkLeaf (t : Tch) (n : Nat) (I : Pat) (outs : List OutP) (e : Ex) (fr : Fr) (st : St) : LL → Bool
  | .never => true
  | .next σ => match e with
    | .normal => fit t σ n I fr st
    | _ => false
  | .out k σ => match nth outs k with
    | some O => match exSame e O.ex with
      | true => match e with
        | .normal => false
        | _ => fit t σ n O.pat fr st
      | false => false
    | none => false
def chkTree (t : Tch) (n : Nat) (I : Pat) (outs : List OutP) : COut → R LL → Bool
  | .br c a b, r => match r with
    | .br d x y => match c.beq d with
      | true => match chkTree t n I outs a x with
        | true => chkTree t n I outs b y
        | false => false
      | false => false
    | _ => false
  | .ok (e, fr, st), r => match r with
    | .ok l => chkLeaf t n I outs e fr st l
    | _ => false
  | .stuck _, r => match r with
    | .ok .never => true
    | _ => false
def outerIn (ng : Nat) (h : H) (n : Nat) : List Nat → Bool
  | [] => true
  | i :: l => match Nat.blt i n with
    | false => outerIn ng h n l
    | true => match Nat.blt i ng with
      | true => outerIn ng h n l
      | false => match h.get i with
        | some _ => outerIn ng h n l
        | none => false
def outerSub (n : Nat) (m : List Nat) : List Nat → Bool
  | [] => true
  | i :: l => match Nat.blt i n with
    | false => outerSub n m l
    | true => match memN i m with
      | true => outerSub n m l
      | false => false
def outsOk (ng n : Nat) (kn : List Nat) : List OutP → Bool
  | [] => true
  | O :: l => and6 (patOk ng O.pat) (Nat.ble n O.pat.n) (outerSub n kn O.pat.kn) (outsOk ng n kn l) true true
def rndIn (kn : List Nat) : Option Nat → Bool
  | none => true
  | some l => memN l kn
def loopOk (ng : Nat) (L : LoopI) (I : Pat) (outs : List OutP) : Bool :=
  and6 (patOk ng I) (outsOk ng L.st.n I.kn outs) (outerIn ng L.st.h L.st.n I.kn) (Nat.ble ng L.st.n) (rndIn I.kn L.rnd) true
end
end Go.Proofs.YtennjdjcjjjmiaaGreatDoor

namespace Go.Proofs.YtennjdjcjjjmiaaGreatDoor
open Go

theorem T.sub_get {α : Type} {f : α → α → Bool} : ∀ {t u : T α} {bs : List Bool} {a : α}, T.sub f t u = true → t.getB bs = some a → ∃ b, u.getB bs = some b ∧ f a b = true
  | .nil, u, bs, a, _, h => by rw [T.getB_nil] at h; cases h
  | .node l v r, .nil, bs, a, hs, h => by
    obtain ⟨h1, h2, h3, _⟩ := and6_ok hs
    cases bs with
    | nil =>
      have h' : v = some a := h
      subst h'
      cases h1
    | cons b bs =>
      cases b with
      | true =>
        obtain ⟨c, hc, _⟩ := T.sub_get h3 (show r.getB bs = some a from h)
        rw [T.getB_nil] at hc
        cases hc
      | false =>
        obtain ⟨c, hc, _⟩ := T.sub_get h2 (show l.getB bs = some a from h)
        rw [T.getB_nil] at hc
        cases hc
  | .node l v r, .node l' v' r', bs, a, hs, h => by
    obtain ⟨h1, h2, h3, _⟩ := and6_ok hs
    cases bs with
    | nil =>
      have h' : v = some a := h
      subst h'
      cases v' with
      | none => cases h1
      | some b => exact ⟨b, rfl, h1⟩
    | cons b bs =>
      cases b with
      | true => exact T.sub_get (t := r) (u := r') h3 h
      | false => exact T.sub_get (t := l) (u := l') h2 h
theorem factBeq_eq {a b : X × Bool} (h : factBeq a b = true) : a = b := by
  obtain ⟨h1, h2, _⟩ := and6_ok h
  exact Prod.ext (X.beq_eq h1) (sameW_eq h2)
theorem sub_same {h h' : H} (h1 : T.sub SObj.beq h h' = true) {i : Nat} {o : SObj} (hi : h.get i = some o) : h'.get i = some o := by
  obtain ⟨b, hb, he⟩ := T.sub_get h1 hi
  rw [SObj.beq_eq he]
  exact hb
section
variable {P : Program} {cx : Cx} {ρ : Env}
def LoopTold (P : Program) (cx : Cx) (ρ : Env) (L : LoopI) : Prop :=
  ∀ res, L.res.sel ρ = some res → ∀ S π0 w a ro n, Here cx ρ S π0 L.st w → FrIs ρ S π0 L.fr a → RndOk S π0 L.rnd ro → LoopsIn (FN ro) n P L.body (CPost ρ S π0 L.st w res) a w
theorem lpOf_ok : ∀ {l : List LoopI}, (∀ L ∈ l, LoopTold P cx ρ L) → LpAt P cx ρ (lpOf l)
  | [], _, rnd, c, fr, st, r, res, h, _, _, _, _, _, _, _, _, _, _ => by simp [lpOf] at h
  | L :: l, hl, rnd, c, fr, st, r, res, h, hs, S, π0, w, a, ro, n, hh, hf, hr => by
    unfold lpOf at h
    split at h
    · rename_i he
      obtain rfl := Option.some.inj h
      unfold sameEntry at he
      obtain ⟨e1, e2, e3, e4, _⟩ := and6_ok he
      obtain ⟨e5, e6, e7, e8, e9, _⟩ := and6_ok e1
      obtain ⟨h0, n0, pc0⟩ := st
      obtain ⟨tm0, df0⟩ := fr
      obtain rfl := codeBeq_eq e2
      obtain rfl := optNatBeq_eq e6
      obtain e5' : n0 = L.st.n := Nat.eq_of_beq_eq_true e5
      obtain e9' : pc0 = L.st.pc := listBeq_eq factBeq_eq e9
      obtain e7' : tm0 = L.fr.tm := V.beqs_eq _ _ e7
      obtain e8' : df0 = L.fr.df := sdefsBeq_eq e8
      subst e5' e9' e7' e8'
      have to : ∀ i o, h0.get i = some o → L.st.h.get i = some o := fun i o => sub_same e3
      have fro : ∀ i o, L.st.h.get i = some o → h0.get i = some o := fun i o => sub_same e4
      have hh' : Here cx ρ S π0 L.st w := ⟨hh.pc, ⟨fun π hk => ⟨fun i o hi => (hh.at_.rep π hk).obj i o (fro i o hi), fun i j o o' hi hj e => (hh.at_.rep π hk).inj i j o o' (fro i o hi) (fro j o' hj) e⟩, fun i o hi => hh.at_.dom i o (fro i o hi)⟩, hh.glob, hh.fresh⟩
      refine loopsIn_mono ?_ (hl L (by simp) res hs S π0 w a ro n hh' hf hr)
      rintro e a' w' ⟨p1, π1, g, p2, p3⟩
      exact ⟨p1, π1, ⟨g.le, g.known, g.at_, fun i o hi => (g.sub i o hi).imp_right fun ⟨i0, o0, q, e⟩ => ⟨i0, o0, fro _ _ q, e⟩, fun j hj hne => g.keep j hj fun i o hi => hne i o (fro i o hi), g.size, g.same⟩, p2, p3⟩
    · exact lpOf_ok (fun L hL => hl L (List.mem_cons_of_mem _ hL)) rnd c fr st r res h hs S π0 w a ro n hh hf hr
end

structure Agree (t : Tch) (ρ1 ρ2 : Env) : Prop where
  v : ∀ i, memN i t.vs = false → ρ2.v i = ρ1.v i
  f1 : ∀ f, inR t.ts f = false → ρ2.f1 f = ρ1.f1 f
  b : ρ2.b = ρ1.b
  f2 : ρ2.f2 = ρ1.f2
  s : ρ2.s = ρ1.s
  sf : ρ2.sf = ρ1.sf
  ro : ρ2.ro = ρ1.ro
  win : ρ2.win = ρ1.win
structure EnvRel (t : Tch) (ρ1 ρ2 : Env) (σ : Mt) : Prop where
  agree : Agree t ρ1 ρ2
  v : ∀ i x, look σ.v i = some x → ρ2.v i = x.den ρ1
  a : ∀ f ks a, look σ.a f = some (ks, a) → ∀ (c : Nat) (k : CK), ks[c]? = some k → ∀ j : Int, k.val (k.sym ρ2 f c j) = k.val (a.den ρ1 k c j)
section
variable {t : Tch} {ρ1 ρ2 : Env} {σ : Mt} {π1 : Pl}
theorem B.agree (A : Agree t ρ1 ρ2) (b : B) : b.den ρ2 = b.den ρ1 := by cases b <;> simp only [B.den, A.b]
theorem bv_agree (A : Agree t ρ1 ρ2) (b : B) : ∀ l : List B, bvDen ρ2 l b = bvDen ρ1 l b
  | [] => by simp only [bvDen, B.agree A]
  | c :: l => by simp only [bvDen, B.agree A, bv_agree A b l]
theorem rowText_agree (A : Agree t ρ1 ρ2) {f : Nat} (hf : inR t.ts f = false) (lo : Int) (n : Nat) : rowText ρ2 f lo n = rowText ρ1 f lo n := by
  unfold rowText
  rw [A.f1 f hf]
theorem X.free_den (A : Agree t ρ1 ρ2) : ∀ x : X, x.free t = true → x.den ρ2 = x.den ρ1 ∧ x.sden ρ2 = x.sden ρ1 := by
  intro x
  induction x with
  | lit n => exact fun _ => ⟨rfl, rfl⟩
  | var i => exact fun h => ⟨A.v i (by simpa [X.free] using h), rfl⟩
  | slit l => exact fun _ => ⟨rfl, rfl⟩
  | svar i => exact fun _ => ⟨rfl, by simp only [X.sden, A.s]⟩
  | bv l b => exact fun _ => ⟨bv_agree A b l, rfl⟩
  | cube m v => exact fun _ => ⟨by simp only [X.den, cubeB, A.b], rfl⟩
  | wrap k a ia => exact fun h => ⟨by simp only [X.den, (ia (by simpa [X.free] using h)).1], rfl⟩
  | not a ia => exact fun h => ⟨by simp only [X.den, (ia (by simpa [X.free] using h)).1], rfl⟩
  | slen a ia => exact fun h => ⟨by simp only [X.den, (ia (by simpa [X.free] using h)).2], rfl⟩
  | sfn f a ia =>
    intro h
    refine ⟨rfl, ?_⟩
    have e := (ia (by simpa [X.free] using h)).1
    simp only [X.sden, e]
    cases f with
    | zero => rfl
    | succ f => simp only [fnText, A.sf]
  | fn1 f a ia =>
    intro h
    simp only [X.free, Bool.and_eq_true, Bool.not_eq_true'] at h
    exact ⟨by simp only [X.den, (ia h.2).1, A.f1 f h.1], rfl⟩
  | btext f a b ia ib =>
    intro h
    simp only [X.free, Bool.and_eq_true, Bool.not_eq_true'] at h
    exact ⟨rfl, by simp only [X.sden, (ia h.2.1).1, (ib h.2.2).1, rowText_agree A h.1]⟩
  | ite c a b ic ia ib =>
    intro h
    simp only [X.free, Bool.and_eq_true] at h
    exact ⟨by simp only [X.den, (ic h.1).1, (ia h.2.1).1, (ib h.2.2).1], by simp only [X.sden, (ic h.1).1, (ia h.2.1).2, (ib h.2.2).2]⟩
  | fn2 f a b ia ib =>
    intro h
    simp only [X.free, Bool.and_eq_true] at h
    exact ⟨by simp only [X.den, (ia h.1).1, (ib h.2).1, A.f2], rfl⟩
  | scat a b ia ib =>
    intro h
    simp only [X.free, Bool.and_eq_true] at h
    exact ⟨rfl, by simp only [X.sden, (ia h.1).2, (ib h.2).2]⟩
  | seq a b ia ib =>
    intro h
    simp only [X.free, Bool.and_eq_true] at h
    exact ⟨by simp only [X.den, (ia h.1).2, (ib h.2).2], rfl⟩
  | _ =>
    rename_i ia ib
    intro h
    simp only [X.free, Bool.and_eq_true] at h
    exact ⟨by simp only [X.den, (ia h.1).1, (ib h.2).1], rfl⟩
theorem fitX_ok (E : EnvRel t ρ1 ρ2 σ) {p x : X} (h : fitX t σ p x = true) : p.den ρ2 = x.den ρ1 := by
  unfold fitX at h
  split at h
  · rename_i i
    split at h
    · rename_i y hy
      rw [← X.beq_eq h]
      exact E.v i y hy
    · split at h
      · cases h
      · rename_i hm
        rw [← X.beq_eq h]
        exact E.agree.v i hm
  · split at h
    · rename_i hf
      rw [← X.beq_eq h]
      exact (X.free_den E.agree _ hf).1
    · cases h
theorem fitS_ok (E : EnvRel t ρ1 ρ2 σ) {p x : X} (h : fitS t p x = true) : p.sden ρ2 = x.sden ρ1 := by
  unfold fitS at h
  split at h
  · rename_i hf
    rw [← X.beq_eq h]
    exact (X.free_den E.agree _ hf).2
  · cases h
def reN (σ : Mt) (ρ : Env) (π : Pl) : Pl := fun i => match look σ.u i with
  | some v => ⟨0, 0, v.conc ρ π⟩
  | none => π (σ.name i)
theorem reN_name {i : Nat} (h : look σ.u i = none) : reN σ ρ1 π1 i = π1 (σ.name i) := by
  unfold reN
  rw [h]
theorem fitN_ok {b c : Nat} (h : fitN σ b c = true) : reN σ ρ1 π1 b = π1 c := by
  unfold fitN at h
  split at h
  · cases h
  · rename_i hu
    rw [reN_name hu, Nat.eq_of_beq_eq_true h]
theorem fitXC_ok (E : EnvRel t ρ1 ρ2 σ) {p q : XC} {b c : Nat} (h : fitXC t σ p q = true) (hb : reN σ ρ1 π1 b = π1 c) : p.conc ρ2 (reN σ ρ1 π1) b = q.conc ρ1 π1 c := by
  unfold fitXC at h
  split at h
  · simp only [XC.conc, fitX_ok E h]
  · simp only [XC.conc, fitX_ok E h, hb]
  · cases h
theorem xaddr_fit (E : EnvRel t ρ1 ρ2 σ) {w : Bool} {b c : Nat} (hb : reN σ ρ1 π1 b = π1 c) (hw : (match w with | true => Nat.beq b c | false => true) = true) (n : Nat) : xaddr ρ2 (reN σ ρ1 π1) w b n = xaddr ρ1 π1 w c n := by
  unfold xaddr
  cases w with
  | true =>
    have : b = c := Nat.eq_of_beq_eq_true hw
    subst this
    simp only [if_true, E.agree.win]
  | false => simp only [Bool.false_eq_true, if_false, hb]
mutual
theorem fitV_ok (E : EnvRel t ρ1 ρ2 σ) : ∀ (p v : V), fitV t σ p v = true → p.conc ρ2 (reN σ ρ1 π1) = v.conc ρ1 π1
  | .any k, v, h => by
    unfold fitV at h
    split at h
    · rename_i u hu
      obtain rfl := V.beq_eq _ _ h
      simp only [V.conc, reN, hu]
    · cases h
  | .int k p, v, h => by
    cases v <;> simp only [fitV, Bool.false_eq_true] at h
    obtain ⟨h1, h2, _⟩ := and6_ok h
    simp only [V.conc, fitX_ok E h2, kindBeq_eq h1]
  | .bool p, v, h => by
    cases v <;> simp only [fitV, Bool.false_eq_true] at h
    simp only [V.conc, X.tt, fitX_ok E h]
  | .str p, v, h => by
    cases v <;> simp only [fitV, Bool.false_eq_true] at h
    simp only [V.conc, fitS_ok E h]
  | .ptr b o, v, h => by
    cases v <;> simp only [fitV, Bool.false_eq_true] at h
    obtain ⟨h1, h2, _⟩ := and6_ok h
    simp only [V.conc, fitN_ok (ρ1 := ρ1) (π1 := π1) h1, Nat.eq_of_beq_eq_true h2]
  | .nilptr, v, h => by cases v <;> simp only [fitV, Bool.false_eq_true] at h; rfl
  | .slice b o n c, v, h => by
    cases v <;> simp only [fitV, Bool.false_eq_true] at h
    rename_i b' o' n' c'
    obtain ⟨h1, h2, h3, h4, _⟩ := and6_ok h
    have hc : c.conc (reN σ ρ1 π1) = c'.conc π1 := by
      unfold fitCp at h4
      split at h4
      · rw [Nat.eq_of_beq_eq_true h4]
        rfl
      · obtain ⟨g1, g2, g3, _⟩ := and6_ok h4
        simp only [Cp.conc, fitN_ok (ρ1 := ρ1) (π1 := π1) g1, Nat.eq_of_beq_eq_true g2, Nat.eq_of_beq_eq_true g3]
      · cases h4
    simp only [V.conc, fitN_ok (ρ1 := ρ1) (π1 := π1) h1, Nat.eq_of_beq_eq_true h2, Nat.eq_of_beq_eq_true h3, hc]
  | .nilslice, v, h => by cases v <;> simp only [fitV, Bool.false_eq_true] at h; rfl
  | .map b, v, h => by
    cases v <;> simp only [fitV, Bool.false_eq_true] at h
    simp only [V.conc, fitN_ok (ρ1 := ρ1) (π1 := π1) h]
  | .nilmap, v, h => by cases v <;> simp only [fitV, Bool.false_eq_true] at h; rfl
  | .func f a c, v, h => by
    cases v <;> simp only [fitV, Bool.false_eq_true] at h
    obtain ⟨h1, h2, h3, _⟩ := and6_ok h
    simp only [V.conc, decBeq_eq h1, fitVs_ok E _ _ h2, fitVs_ok E _ _ h3]
  | .yield b, v, h => by
    cases v <;> simp only [fitV, Bool.false_eq_true] at h
    simp only [V.conc, fitN_ok (ρ1 := ρ1) (π1 := π1) h]
  | .nilfunc, v, h => by cases v <;> simp only [fitV, Bool.false_eq_true] at h; rfl
  | .iface u x, v, h => by
    cases v <;> simp only [fitV, Bool.false_eq_true] at h
    obtain ⟨h1, h2, _⟩ := and6_ok h
    simp only [V.conc, Nat.eq_of_beq_eq_true h1, fitV_ok E _ _ h2]
  | .niliface, v, h => by cases v <;> simp only [fitV, Bool.false_eq_true] at h; rfl
  | .agg l, v, h => by
    cases v <;> simp only [fitV, Bool.false_eq_true] at h
    simp only [V.conc, fitVs_ok E _ _ h]
  | .tuple l, v, h => by
    cases v <;> simp only [fitV, Bool.false_eq_true] at h
    simp only [V.conc, fitVs_ok E _ _ h]
  | .wptr b o, v, h => by
    cases v <;> simp only [fitV, Bool.false_eq_true] at h
    obtain ⟨h1, h2, _⟩ := and6_ok h
    simp only [V.conc, E.agree.win, Nat.eq_of_beq_eq_true h1, Nat.eq_of_beq_eq_true h2]
  | .wslice b o n c, v, h => by
    cases v <;> simp only [fitV, Bool.false_eq_true] at h
    obtain ⟨h1, h2, h3, h4, _⟩ := and6_ok h
    simp only [V.conc, E.agree.win, Nat.eq_of_beq_eq_true h1, Nat.eq_of_beq_eq_true h2, fitX_ok E h3, fitX_ok E h4]
  | .sptr b o n i, v, h => by
    cases v <;> simp only [fitV, Bool.false_eq_true] at h
    obtain ⟨h1, h2, h3, h4, _⟩ := and6_ok h
    simp only [V.conc, fitN_ok (ρ1 := ρ1) (π1 := π1) h1, Nat.eq_of_beq_eq_true h2, fitX_ok E h4]
  | .xslice w b off es n c, v, h => by
    cases v <;> simp only [fitV, Bool.false_eq_true] at h
    obtain ⟨h1, h2, h3, h4, h5, h6⟩ := and6_ok h
    obtain ⟨h7, h8, _⟩ := and6_ok h2
    obtain rfl := sameW_eq h1
    have hb := fitN_ok (ρ1 := ρ1) (π1 := π1) h7
    simp only [V.conc, fitX_ok E h3, fitX_ok E h5, Nat.eq_of_beq_eq_true h4, fitXC_ok E h6 hb, xaddr_fit E hb h8]
  | .xptr w b i es c, v, h => by
    cases v <;> simp only [fitV, Bool.false_eq_true] at h
    obtain ⟨h1, h2, h3, h4, h5, _⟩ := and6_ok h
    obtain ⟨h7, h8, _⟩ := and6_ok h2
    obtain rfl := sameW_eq h1
    have hb := fitN_ok (ρ1 := ρ1) (π1 := π1) h7
    simp only [V.conc, fitX_ok E h3, Nat.eq_of_beq_eq_true h4, Nat.eq_of_beq_eq_true h5, xaddr_fit E hb h8]
  | .ite _ _ _, v, h => by cases v <;> simp only [fitV, Bool.false_eq_true] at h
  | .rest _ _ _ _, v, h => by cases v <;> simp only [fitV, Bool.false_eq_true] at h
theorem fitVs_ok (E : EnvRel t ρ1 ρ2 σ) : ∀ (l m : List V), fitVs t σ l m = true → V.concs ρ2 (reN σ ρ1 π1) l = V.concs ρ1 π1 m
  | [], [], _ => rfl
  | [], _ :: _, h => by simp [fitVs] at h
  | _ :: _, [], h => by simp [fitVs] at h
  | p :: l, v :: m, h => by
    obtain ⟨h1, h2, _⟩ := and6_ok h
    simp only [V.concs, fitV_ok E p v h1, fitVs_ok E l m h2]
end
theorem noneIn_ok {l : List (Nat × Nat)} {f : Nat} : ∀ {n : Nat}, noneIn l f n = true → ∀ c, c < n → inR l (f + c) = false
  | 0, _, c, hc => by omega
  | n + 1, h, c, hc => by
    unfold noneIn at h
    split at h
    · cases h
    · rename_i hn
      by_cases e : c = n
      · subst e; exact hn
      · exact noneIn_ok h c (by omega)
theorem sym_agree (A : Agree t ρ1 ρ2) {f c : Nat} (h : inR t.ts (f + c) = false) (k : CK) (j : Int) : k.sym ρ2 f c j = k.sym ρ1 f c j := by
  cases k <;> simp only [CK.sym, A.f1 _ h]
theorem A.free_den (G : Agree t ρ1 ρ2) {n : Nat} (k : CK) {c : Nat} (hc : c < n) (j : Int) : ∀ a : A, a.free t n = true → a.den ρ2 k c j = a.den ρ1 k c j
  | .base f, h => sym_agree G (noneIn_ok h c hc) k j
  | .fill x, h => (X.free_den G x h).1
  | .put a i c' x, h => by
    simp only [A.free, Bool.and_eq_true] at h
    simp only [A.den, (X.free_den G i h.2.1).1, (X.free_den G x h.2.2).1, A.free_den G k hc j a h.1]
theorem fitA_ok (E : EnvRel t ρ1 ρ2 σ) {ks : List CK} {p a : A} (h : fitA t σ ks p a = true) {c : Nat} {k : CK} (hk : ks[c]? = some k) (j : Int) : k.val (p.den ρ2 k c j) = k.val (a.den ρ1 k c j) := by
  have hc := (List.getElem?_eq_some_iff.1 hk).1
  unfold fitA at h
  split at h
  · rename_i f
    split at h
    · rename_i ks' b hl
      split at h
      · rename_i hks
        obtain rfl := CK.beqs_eq hks
        rw [← A.beq_eq h]
        exact E.a f ks b hl c k hk j
      · cases h
    · split at h
      · rename_i hn
        rw [← A.beq_eq h]
        simp only [A.den, sym_agree E.agree (noneIn_ok hn c hc)]
      · cases h
  · split at h
    · rename_i hf
      rw [← A.beq_eq h, A.free_den E.agree k hc j _ hf]
    · cases h
theorem rowIs_fit (E : EnvRel t ρ1 ρ2 σ) {ks : List CK} {p a : A} (h : fitA t σ ks p a = true) {n : Nat} {get : Nat → Option Value} (hr : rowIs ρ1 a ks n get) : rowIs ρ2 p ks n get := fun j c k hj hk => by
  rw [fitA_ok E h hk]
  exact hr j c k hj hk
theorem fitEs_ok (E : EnvRel t ρ1 ρ2 σ) : ∀ {l m : List (V × V)}, fitEs t σ l m = true → entriesOf ρ2 (reN σ ρ1 π1) l = entriesOf ρ1 π1 m
  | [], [], _ => rfl
  | [], _ :: _, h => by simp [fitEs] at h
  | _ :: _, [], h => by simp [fitEs] at h
  | (k, v) :: l, (j, u) :: m, h => by
    obtain ⟨h1, h2, h3, _⟩ := and6_ok h
    have := fitEs_ok E h3
    simp only [entriesOf] at this
    simp only [entriesOf, List.map_cons, fitV_ok E _ _ h1, fitV_ok E _ _ h2, this]
theorem fitDs_ok : ∀ {l m : List SDef}, fitDs σ l m = true → l.map (SDef.conc ρ2 (reN σ ρ1 π1)) = m.map (SDef.conc ρ1 π1)
  | [], [], _ => rfl
  | [], _ :: _, h => by simp [fitDs] at h
  | .mark b :: l, [], h => by simp [fitDs] at h
  | .fn _ _ _ :: l, [], h => by simp [fitDs] at h
  | .fn _ _ _ :: l, _ :: _, h => by simp [fitDs] at h
  | .mark b :: l, .fn _ _ _ :: m, h => by simp [fitDs] at h
  | .mark b :: l, .mark c :: m, h => by
    obtain ⟨h1, h2, _⟩ := and6_ok h
    simp only [List.map_cons, SDef.conc, fitN_ok (ρ1 := ρ1) (π1 := π1) h1, fitDs_ok h2]
theorem fitOb_ok (E : EnvRel t ρ1 ρ2 σ) {i : Nat} (hu : look σ.u i = none) {p o : SObj} (h : fitOb t σ i p o = true) {ob : Obj} (ho : o.is ρ1 π1 (σ.name i) ob) : p.is ρ2 (reN σ ρ1 π1) i ob := by
  have hi := reN_name (ρ1 := ρ1) (π1 := π1) hu
  unfold fitOb at h
  split at h
  · obtain ⟨h1, h2, h3, _⟩ := and6_ok h
    obtain rfl := Nat.eq_of_beq_eq_true h1
    obtain rfl := optNatBeq_eq h2
    obtain ⟨spare, e1, e2⟩ := ho
    have e3 := fitVs_ok (π1 := π1) E _ _ h3
    have e4 := congrArg List.length e3
    rw [concs_len, concs_len] at e4
    exact ⟨spare, by rw [e3]; exact e1, by rw [e4, hi]; exact e2⟩
  · obtain ⟨ms, clock, e1, e2, e3⟩ := ho
    have e4 := fitEs_ok (π1 := π1) E h
    exact ⟨ms, clock, e1, by rw [e4]; exact e2, by rw [e4]; exact e3⟩
  · obtain ⟨h1, h2, h3, h4, h5, h6⟩ := and6_ok h
    obtain ⟨h7, h8, _⟩ := and6_ok h6
    obtain rfl := decBeq_eq h1
    obtain rfl := optCodeBeq_eq h2
    obtain rfl := natsA_eq h5
    obtain rfl := codeBeq_eq h7
    obtain rfl := codeBeq_eq h8
    obtain ⟨fn, e1⟩ := ho
    exact ⟨fn, by rw [fitVs_ok E _ _ h3, fitN_ok h4]; exact e1⟩
  · exact ho
  · exact ho
  · obtain ⟨h1, h2, _⟩ := and6_ok h
    obtain rfl := Nat.eq_of_beq_eq_true h1
    obtain ⟨⟨ty, fr, e1⟩, e2⟩ := ho
    exact ⟨⟨ty, fr, by rw [fitVs_ok E _ _ h2]; exact e1⟩, by rw [E.agree.ro]; exact e2⟩
  · obtain ⟨h1, h2, h3, h4, h5, _⟩ := and6_ok h
    obtain rfl := Nat.eq_of_beq_eq_true h1
    obtain rfl := Nat.eq_of_beq_eq_true h4
    have hn := Nat.eq_of_beq_eq_true h5
    obtain ⟨⟨e1, e2, cs, ty, fr, e3, e4⟩, e5⟩ := ho
    rw [hn] at e1 e2 e4
    have e6 := fitVs_ok (π1 := π1) E _ _ h2
    refine ⟨⟨by rw [E.agree.win]; exact e1, by rw [E.agree.win, hi, hn]; exact e2, cs, ty, fr, e3, fun j v hj hlt => ?_⟩, by rw [E.agree.ro]; exact e5⟩
    rw [fitX_ok E h3] at hlt
    have e7 := congrArg (fun l => l[j]?) e6
    simp only [concs_get, hj, Option.map_some] at e7
    rw [E.agree.win]
    cases hq : (‹List V›)[j]? with
    | none => rw [hq] at e7; simp at e7
    | some u =>
      rw [hq] at e7
      simp only [Option.map_some, Option.some.injEq] at e7
      rw [e7]
      exact e4 j u hq hlt
  · exact ho
  · obtain ⟨since, last, e1⟩ := ho
    exact ⟨since, last, by rw [fitN_ok h]; exact e1⟩
  · obtain ⟨h1, h2, h3, h4, h5, _⟩ := and6_ok h
    obtain rfl := CK.beqs_eq h2
    obtain rfl := Nat.eq_of_beq_eq_true h4
    obtain rfl := sameW_eq h5
    obtain ⟨cs, e1, e2, e3, e4⟩ := ho
    refine ⟨cs, e1, by rw [fitX_ok E h3]; exact e2, fun hw => by rw [hi]; exact e3 hw, ?_⟩
    rw [fitX_ok E h3]
    exact rowIs_fit E h1 e4
  · obtain ⟨h1, h2, h3, h4, h5, h6⟩ := and6_ok h
    obtain rfl := Nat.eq_of_beq_eq_true h1
    obtain rfl := Nat.eq_of_beq_eq_true h2
    obtain rfl := CK.beqs_eq h3
    have hn := Nat.eq_of_beq_eq_true h6
    obtain ⟨⟨e1, e2, cs, ty, fr, e3, e4⟩, e5⟩ := ho
    rw [hn] at e1 e2 e4
    refine ⟨⟨by rw [E.agree.win]; exact e1, by rw [E.agree.win, hi, hn]; exact e2, cs, ty, fr, e3, ?_⟩, by rw [E.agree.ro]; exact e5⟩
    rw [fitX_ok E h4, E.agree.win]
    intro j c k hj hk
    have := e4 j c k hj hk
    simp only [A.den] at this ⊢
    rw [sym_agree E.agree (noneIn_ok h5 c (List.getElem?_eq_some_iff.1 hk).1) k j]
    exact this
  · cases h
theorem fitHs_get {h : H} : ∀ {l : List (Nat × SObj)} {i : Nat} {p : SObj}, fitHs t σ h l = true → (i, p) ∈ l → look σ.u i = none ∧ ∃ o, h.get (σ.name i) = some o ∧ fitOb t σ i p o = true
  | [], i, p, _, hm => by simp at hm
  | (j, q) :: l, i, p, hf, hm => by
    unfold fitHs at hf
    split at hf
    · cases hf
    · rename_i hu
      split at hf
      · rename_i o ho
        split at hf
        · rename_i hq
          rcases List.mem_cons.1 hm with e | hm
          · obtain ⟨rfl, rfl⟩ : i = j ∧ p = q := by simpa using e
            exact ⟨hu, o, ho, hq⟩
          · exact fitHs_get hf hm
        · cases hf
      · cases hf
theorem itemsH_get {i : Nat} {o : SObj} : ∀ {l : List (Nat × SObj)}, (itemsH l).get i = some o → (i, o) ∈ l
  | [], h => by simp only [itemsH, T.get_nil] at h; cases h
  | (j, p) :: l, h => by
    unfold itemsH at h
    by_cases e : j = i
    · subst e
      rw [T.get_set_same] at h
      obtain rfl := Option.some.inj h
      exact List.mem_cons_self
    · rw [T.get_set_other _ _ e] at h
      exact List.mem_cons_of_mem _ (itemsH_get h)
theorem fillV_den (E : EnvRel t ρ1 ρ2 σ) : ∀ x : X, x.plainV t σ = true → (x.fillV σ).den ρ1 = x.den ρ2 := by
  intro x
  induction x with
  | lit n => exact fun _ => rfl
  | var i =>
    intro h
    unfold X.fillV
    split
    · rename_i y hy
      exact (E.v i y hy).symm
    · rename_i hn
      simp only [X.plainV, hn, Bool.not_eq_true'] at h
      exact (E.agree.v i h).symm
  | add a b ia ib => intro h; simp only [X.plainV, Bool.and_eq_true] at h; simp only [X.fillV, X.den, ia h.1, ib h.2]
  | sub a b ia ib => intro h; simp only [X.plainV, Bool.and_eq_true] at h; simp only [X.fillV, X.den, ia h.1, ib h.2]
  | mul a b ia ib => intro h; simp only [X.plainV, Bool.and_eq_true] at h; simp only [X.fillV, X.den, ia h.1, ib h.2]
  | lt a b ia ib => intro h; simp only [X.plainV, Bool.and_eq_true] at h; simp only [X.fillV, X.den, ia h.1, ib h.2]
  | le a b ia ib => intro h; simp only [X.plainV, Bool.and_eq_true] at h; simp only [X.fillV, X.den, ia h.1, ib h.2]
  | eq a b ia ib => intro h; simp only [X.plainV, Bool.and_eq_true] at h; simp only [X.fillV, X.den, ia h.1, ib h.2]
  | _ => intro h; simp [X.plainV] at h
theorem decF_ok {ρ : Env} {pc : PC} {x : X} {b : Bool} (hp : PcOk ρ pc) (h : decF pc x b = true) : x.tt ρ = b := by
  unfold decF at h
  split at h
  · rename_i c hc
    rw [decAtom_ok hp hc, sameW_eq h]
  · split at h
    · rename_i c hc
      rw [decLin_ok hp hc, sameW_eq h]
    · cases h
theorem fitPc_ok (E : EnvRel t ρ1 ρ2 σ) {pc : PC} (hp : PcOk ρ1 pc) : ∀ {l : PC}, fitPc t σ pc l = true → PcOk ρ2 l
  | [], _ => fun f hf => by simp at hf
  | (x, b) :: l, h => by
    unfold fitPc at h
    split at h
    · rename_i hx
      split at h
      · rename_i hd
        intro f hf
        rcases List.mem_cons.1 hf with rfl | hf
        · have := decF_ok hp hd
          dsimp only
          rw [X.tt, ← fillV_den E x hx]
          exact this
        · exact fitPc_ok E hp h f hf
      · cases h
    · cases h
end

section
variable {ρ : Env} {π π' : Pl}
mutual
theorem V.conc_nms : ∀ v : V, (∀ b ∈ v.nms, π b = π' b) → v.conc ρ π = v.conc ρ π'
  | .int _ _, _ => rfl
  | .bool _, _ => rfl
  | .str _, _ => rfl
  | .ptr b o, h => by simp only [V.conc, h b (by simp [V.nms])]
  | .nilptr, _ => rfl
  | .slice b o n c, h => by
    have hb := h b (by simp [V.nms])
    cases c with
    | known m => simp only [V.conc, Cp.conc, hb]
    | room b' o' m => simp only [V.conc, Cp.conc, hb, h b' (by simp [V.nms, Cp.nms])]
  | .nilslice, _ => rfl
  | .map b, h => by simp only [V.conc, h b (by simp [V.nms])]
  | .nilmap, _ => rfl
  | .func f a c, h => by simp only [V.conc, V.concs_nms a fun b hb => h b (by simp [V.nms, hb]), V.concs_nms c fun b hb => h b (by simp [V.nms, hb])]
  | .yield b, h => by simp only [V.conc, h b (by simp [V.nms])]
  | .nilfunc, _ => rfl
  | .iface t v, h => by simp only [V.conc, V.conc_nms v fun b hb => h b (by simpa [V.nms] using hb)]
  | .niliface, _ => rfl
  | .agg l, h => by simp only [V.conc, V.concs_nms l fun b hb => h b (by simpa [V.nms] using hb)]
  | .tuple l, h => by simp only [V.conc, V.concs_nms l fun b hb => h b (by simpa [V.nms] using hb)]
  | .wptr b o, _ => rfl
  | .wslice b o n c, _ => rfl
  | .ite c a b, h => by simp only [V.conc, V.conc_nms a fun b hb => h b (by simp [V.nms, hb]), V.conc_nms b fun b hb => h b (by simp [V.nms, hb])]
  | .sptr b o n i, h => by simp only [V.conc, h b (by simp [V.nms])]
  | .rest b o l s, h => by simp only [V.conc, h b (by simp [V.nms])]
  | .xslice w b off es n c, h => by
    have hb := h b (by simp [V.nms])
    cases c <;> simp only [V.conc, XC.conc, xaddr, hb]
  | .xptr w b i es c, h => by simp only [V.conc, xaddr, h b (by simp [V.nms])]
  | .any k, h => by simp only [V.conc, h k (by simp [V.nms])]
theorem V.concs_nms : ∀ l : List V, (∀ b ∈ V.nmss l, π b = π' b) → V.concs ρ π l = V.concs ρ π' l
  | [], _ => rfl
  | v :: l, h => by simp only [V.concs, V.conc_nms v fun b hb => h b (by simp [V.nmss, hb]), V.concs_nms l fun b hb => h b (by simp [V.nmss, hb])]
end
theorem dNms_conc : ∀ l : List SDef, (∀ b ∈ dNms l, π b = π' b) → l.map (SDef.conc ρ π) = l.map (SDef.conc ρ π')
  | [], _ => rfl
  | .mark b :: l, h => by simp only [List.map_cons, SDef.conc, h b (by simp [dNms]), dNms_conc l fun c hc => h c (by simp [dNms, hc])]
  | .fn f a c :: l, h => by
    simp only [List.map_cons, SDef.conc, V.concs_nms a fun b hb => h b (by simp [dNms, hb]), V.concs_nms c fun b hb => h b (by simp [dNms, hb]), dNms_conc l fun c hc => h c (by simp [dNms, hc])]
theorem eNms_conc : ∀ l : List (V × V), (∀ b ∈ eNms l, π b = π' b) → entriesOf ρ π l = entriesOf ρ π' l
  | [], _ => rfl
  | (k, v) :: l, h => by
    have := eNms_conc l fun c hc => h c (by simp [eNms, hc])
    simp only [entriesOf] at this
    simp only [entriesOf, List.map_cons, V.conc_nms k fun b hb => h b (by simp [eNms, hb]), V.conc_nms v fun b hb => h b (by simp [eNms, hb]), this]
theorem SObj.is_nms {i : Nat} {ob : Obj} (hi : π i = π' i) : ∀ {o : SObj}, (∀ b ∈ o.nms, π b = π' b) → o.is ρ π i ob → o.is ρ π' i ob
  | .cells c e w, h, ⟨spare, h1, h2⟩ => ⟨spare, by rw [← V.concs_nms c h]; exact h1, by rw [← hi]; exact h2⟩
  | .map es, h, ⟨ms, clock, h1, h2, h3⟩ => ⟨ms, clock, h1, by rw [← eNms_conc es h]; exact h2, by rw [← eNms_conc es h]; exact h3⟩
  | .loop s p tm ps as bd d, h, ⟨fn, h1⟩ => ⟨fn, by rw [← V.concs_nms tm fun b hb => h b (by simp [SObj.nms, hb]), ← h d (by simp [SObj.nms])]; exact h1⟩
  | .deferred none, _, h1 => h1
  | .deferred (some l), h, h1 => by
    have h1' : ob = .deferred (some (l.map (SDef.conc ρ π))) := h1
    show ob = .deferred (some (l.map (SDef.conc ρ π')))
    rw [← dNms_conc l h]
    exact h1'
  | .ro g c, h, ⟨⟨t, fr, h1⟩, h2⟩ => ⟨⟨t, fr, by rw [← V.concs_nms c h]; exact h1⟩, h2⟩
  | .win g c n es, h, ⟨⟨h1, h2, cs, t, fr, h3, h4⟩, h5⟩ => ⟨⟨h1, by rw [← hi]; exact h2, cs, t, fr, h3, fun j v hj hlt => by
      have e := V.concs_nms (ρ := ρ) c h
      have e2 := congrArg (fun l => l[j]?) e
      simp only [concs_get, hj, Option.map_some, Option.some.injEq] at e2
      rw [← e2]
      exact h4 j v hj hlt⟩, h5⟩
  | .iter none, _, h1 => h1
  | .iter (some b), h, ⟨since, last, h1⟩ => ⟨since, last, by rw [← h b (by simp [SObj.nms])]; exact h1⟩
  | .arr a ks n e w, _, ⟨cs, h1, h2, h3, h4⟩ => ⟨cs, h1, h2, by rw [← hi]; exact h3, h4⟩
  | .warr g f ks n, _, ⟨⟨h1, h2, h3⟩, h4⟩ => ⟨⟨h1, by rw [← hi]; exact h2, h3⟩, h4⟩
end
end Go.Proofs.YtennjdjcjjjmiaaGreatDoor

namespace Go.Proofs.YtennjdjcjjjmiaaGreatDoor
open Go

theorem memN_of {a : Nat} : ∀ {l : List Nat}, memN a l = true → a ∈ l
  | [], h => by simp [memN] at h
  | b :: l, h => by
    simp only [memN, Bool.or_eq_true] at h
    rcases h with h | h
    · rw [Nat.eq_of_beq_eq_true h]
      exact List.mem_cons_self
    · exact List.mem_cons_of_mem _ (memN_of h)
theorem subL_of : ∀ {l m : List Nat}, subL' l m = true → ∀ a ∈ l, a ∈ m
  | [], _, _, a, ha => by simp at ha
  | b :: l, m, h, a, ha => by
    unfold subL' at h
    split at h
    · rename_i hb
      rcases List.mem_cons.1 ha with rfl | ha
      · exact memN_of hb
      · exact subL_of h a ha
    · cases h
theorem itemsOk_of {kn : List Nat} : ∀ {l : List (Nat × SObj)}, itemsOk kn l = true → ∀ i o, (i, o) ∈ l → i ∈ kn ∧ ∀ b ∈ o.nms, b ∈ kn
  | [], _, i, o, h => by simp at h
  | (j, q) :: l, h, i, o, hm => by
    unfold itemsOk at h
    split at h
    · rename_i hj
      split at h
      · rename_i hq
        rcases List.mem_cons.1 hm with e | hm
        · obtain ⟨rfl, rfl⟩ : i = j ∧ o = q := by simpa using e
          exact ⟨memN_of hj, subL_of hq⟩
        · exact itemsOk_of h i o hm
      · cases h
    · cases h
theorem allLt_of {n : Nat} : ∀ {l : List Nat}, allLt n l = true → ∀ i ∈ l, i < n
  | [], _, i, h => by simp at h
  | j :: l, h, i, hm => by
    unfold allLt at h
    split at h
    · rename_i hj
      rcases List.mem_cons.1 hm with rfl | hm
      · exact Nat.le_of_ble_eq_true hj
      · exact allLt_of h i hm
    · cases h
theorem globsIn_of {kn : List Nat} : ∀ {n : Nat}, globsIn kn n = true → ∀ g, g < n → g ∈ kn
  | 0, _, g, h => by omega
  | n + 1, h, g, hg => by
    unfold globsIn at h
    split at h
    · rename_i hn
      by_cases e : g = n
      · subst e; exact memN_of hn
      · exact globsIn_of h g (by omega)
    · cases h
theorem outerOk_of {σ : Mt} {n : Nat} : ∀ {l : List Nat}, outerOk σ n l = true → ∀ i ∈ l, i < n → look σ.u i = none ∧ σ.name i = i
  | [], _, i, h, _ => by simp at h
  | j :: l, h, i, hm, hi => by
    unfold outerOk at h
    split at h
    · split at h
      · cases h
      · rename_i hu
        split at h
        · rename_i hn
          rcases List.mem_cons.1 hm with rfl | hm
          · exact ⟨hu, Nat.eq_of_beq_eq_true hn⟩
          · exact outerOk_of h i hm hi
        · cases h
    · rename_i hj
      rcases List.mem_cons.1 hm with rfl | hm
      · have := Nat.ble_eq_true_of_le (show i + 1 ≤ n from hi)
        exact absurd (show Nat.blt i n = true from this) (by rw [hj]; simp)
      · exact outerOk_of h i hm hi
theorem name_inj {σ : Mt} : ∀ {l : List (Nat × SObj)}, nodupN (nameList σ l) = true → ∀ i j o o', (i, o) ∈ l → (j, o') ∈ l → σ.name i = σ.name j → i = j
  | [], _, i, _, _, _, h, _, _ => by simp at h
  | (k, q) :: l, h, i, j, o, o', hi, hj, e => by
    simp only [nameList, nodupN, Bool.and_eq_true, Bool.not_eq_true'] at h
    have notin : ∀ m p, (m, p) ∈ l → σ.name m ≠ σ.name k := by
      intro m p hm he
      have : ∀ {l' : List (Nat × SObj)}, (m, p) ∈ l' → memN (σ.name m) (nameList σ l') = true := by
        intro l'
        induction l' with
        | nil => intro h; simp at h
        | cons x l' ih =>
          intro h
          obtain ⟨a, b⟩ := x
          rcases List.mem_cons.1 h with e | h
          · obtain ⟨rfl, rfl⟩ : m = a ∧ p = b := by simpa using e
            simp [nameList, memN]
          · simp only [nameList, memN, Bool.or_eq_true]
            exact .inr (ih h)
      have := this hm
      rw [he, h.1] at this
      cases this
    rcases List.mem_cons.1 hi with e1 | hi'
    · have e3 : i = k := congrArg Prod.fst e1
      rcases List.mem_cons.1 hj with e2 | hj'
      · rw [e3, show j = k from congrArg Prod.fst e2]
      · rw [e3] at e
        exact absurd e.symm (notin j o' hj')
    · rcases List.mem_cons.1 hj with e2 | hj'
      · rw [show j = k from congrArg Prod.fst e2] at e
        exact absurd e (notin i o hi')
      · exact name_inj h.2 i j o o' hi' hj' e
theorem outerIn_of {ng : Nat} {h : H} {n : Nat} : ∀ {l : List Nat}, outerIn ng h n l = true → ∀ i ∈ l, i < n → i < ng ∨ ∃ o, h.get i = some o
  | [], _, i, hm, _ => by simp at hm
  | j :: l, he, i, hm, hi => by
    unfold outerIn at he
    have lt : ∀ a b : Nat, a < b → Nat.blt a b = true := fun a b hab => Nat.ble_eq_true_of_le hab
    split at he
    · rename_i hj
      rcases List.mem_cons.1 hm with rfl | hm
      · rw [lt _ _ hi] at hj; cases hj
      · exact outerIn_of he i hm hi
    · split at he
      · rename_i hg
        rcases List.mem_cons.1 hm with rfl | hm
        · exact .inl (Nat.le_of_ble_eq_true hg)
        · exact outerIn_of he i hm hi
      · split at he
        · rename_i o ho
          rcases List.mem_cons.1 hm with rfl | hm
          · exact .inr ⟨o, ho⟩
          · exact outerIn_of he i hm hi
        · cases he
theorem outerSub_of {n : Nat} {m : List Nat} : ∀ {l : List Nat}, outerSub n m l = true → ∀ i ∈ l, i < n → i ∈ m
  | [], _, i, hm, _ => by simp at hm
  | j :: l, he, i, hm, hi => by
    unfold outerSub at he
    split at he
    · rename_i hj
      rcases List.mem_cons.1 hm with rfl | hm
      · rw [show Nat.blt i n = true from Nat.ble_eq_true_of_le hi] at hj; cases hj
      · exact outerSub_of he i hm hi
    · split at he
      · rename_i hj
        rcases List.mem_cons.1 hm with rfl | hm
        · exact memN_of hj
        · exact outerSub_of he i hm hi
      · cases he
theorem outsOk_of {ng n : Nat} {kn : List Nat} : ∀ {l : List OutP} {k : Nat} {O : OutP}, outsOk ng n kn l = true → nth l k = some O → patOk ng O.pat = true ∧ n ≤ O.pat.n ∧ outerSub n kn O.pat.kn = true
  | [], k, O, _, h => by rw [nth_eq] at h; simp at h
  | Q :: l, k, O, he, h => by
    unfold outsOk at he
    obtain ⟨h1, h2, h3, h4, _⟩ := and6_ok he
    rw [nth_eq] at h
    cases k with
    | zero =>
      obtain rfl := Option.some.inj (show some Q = some O from by simpa using h)
      exact ⟨h1, Nat.le_of_ble_eq_true h2, h3⟩
    | succ k => exact outsOk_of h4 (k := k) (by rw [nth_eq]; simpa using h)

section
variable {P : Program} {cx : Cx} {ρ : Env}
theorem fit_here {t : Tch} {σ : Mt} {n ng : Nat} {p : Pat} {fr : Fr} {st : St} {ρ1 ρ2 : Env} {S1 : Nat → Prop} {π1 : Pl} {w : World} {a : Act} (E : EnvRel t ρ1 ρ2 σ) (hf : fit t σ n p fr st = true) (hp : patOk ng p = true) (hng : cx.ng = ng) (hn : ng ≤ n)
    (h : Here cx ρ1 S1 π1 st w) (hfr : FrIs ρ1 S1 π1 fr a) : Here cx ρ2 (· ∈ p.kn) (reN σ ρ1 π1) p.st w ∧ FrIs ρ2 (· ∈ p.kn) (reN σ ρ1 π1) p.fr a := by
  unfold fit at hf
  obtain ⟨f1, f2, f3, f4, f5, f6⟩ := and6_ok hf
  unfold patOk at hp
  obtain ⟨p1, p2, p3, p4, p5, _⟩ := and6_ok hp
  have outer := outerOk_of f6
  constructor
  · refine ⟨fitPc_ok E h.pc f5, ⟨fun π hk => ⟨fun i o hi => ?_, fun i j o o' hi hj e => ?_⟩, fun i o hi => (itemsOk_of p4 i o (itemsH_get hi)).1⟩, fun g hg => ?_, fun i hi hm => ?_⟩
    · have hm := itemsH_get hi
      obtain ⟨k1, k2⟩ := itemsOk_of p4 i o hm
      obtain ⟨hu, q, hq, hfo⟩ := fitHs_get f3 hm
      obtain ⟨ob, g1, g2⟩ := (h.at_.rep π1 fun _ _ => rfl).obj _ q hq
      refine ⟨ob, ?_, ?_⟩
      · rw [hk i k1, reN_name hu]
        exact g1
      · exact SObj.is_nms (hk i k1).symm (fun b hb => (hk b (k2 b hb)).symm) (fitOb_ok E hu hfo g2)
    · have hmi := itemsH_get hi
      have hmj := itemsH_get hj
      obtain ⟨hui, qi, hqi, _⟩ := fitHs_get f3 hmi
      obtain ⟨huj, qj, hqj, _⟩ := fitHs_get f3 hmj
      rw [hk i (itemsOk_of p4 i o hmi).1, hk j (itemsOk_of p4 j o' hmj).1, reN_name hui, reN_name huj] at e
      exact name_inj f4 i j o o' hmi hmj ((h.at_.rep π1 fun _ _ => rfl).inj _ _ _ _ hqi hqj e)
    · rw [hng] at hg
      have hm := globsIn_of p1 g hg
      obtain ⟨hu, hnm⟩ := outer g hm (by omega)
      refine ⟨hm, ?_⟩
      rw [reN_name hu, hnm]
      exact (h.glob g (by rw [hng]; exact hg)).2
    · have := allLt_of p5 i hm
      have hi' : p.n ≤ i := hi
      omega
  · obtain ⟨tc, h1, h2, h3⟩ := hfr
    refine ⟨tc, h1, fun π hk => ?_, fun π hk => ?_⟩
    · rw [V.concs_nms p.fr.tm fun b hb => hk b (subL_of p2 b hb), fitVs_ok E _ _ f1]
      exact h2 π1 fun _ _ => rfl
    · rw [dNms_conc p.fr.df fun b hb => hk b (subL_of p3 b hb), fitDs_ok f2]
      exact h3 π1 fun _ _ => rfl
structure Trk (n : Nat) (kn : List Nat) (h : H) (π0 : Pl) (h0 : H) (w0 : World) (π1 : Pl) (w1 : World) : Prop where
  base : ∀ i ∈ kn, i < n → π1 i = π0 i
  sub : ∀ i o, h.get i = some o → w0.heap.size ≤ (π1 i).1 ∨ ∃ i0 o0, h0.get i0 = some o0 ∧ (π0 i0).1 = (π1 i).1
  keep : ∀ j, j < w0.heap.size → (∀ i o, h0.get i = some o → (π0 i).1 ≠ j) → w1.heap[j]? = w0.heap[j]?
  size : w0.heap.size ≤ w1.heap.size
  same : w1.tape = w0.tape ∧ w1.os = w0.os ∧ w1.output = w0.output
theorem Trk.go {n : Nat} {kn kn' : List Nat} {I p : Pat} {π0 π1 π' : Pl} {h0 : H} {w0 w1 w' : World} {ρ1 : Env} {t : Tch} {σ : Mt} {fr : Fr} {st : St} {m : Nat} (T : Trk n kn I.st.h π0 h0 w0 π1 w1) (g : Goes ρ1 (· ∈ kn) π1 I.st.h w1 m π' st.h w' st.n)
    (hf : fit t σ n p fr st = true) (hkn : ∀ i ∈ kn', i < n → i ∈ kn) (hp : ∀ i ∈ kn', i < n → look σ.u i = none ∧ σ.name i = i) : Trk n kn' p.st.h π0 h0 w0 (reN σ ρ1 π') w' := by
  unfold fit at hf
  obtain ⟨_, _, f3, _⟩ := and6_ok hf
  refine ⟨fun i hi hn => ?_, fun i o hi => ?_, fun j hj hne => ?_, Nat.le_trans T.size g.size, ⟨g.same.1.trans T.same.1, g.same.2.1.trans T.same.2.1, g.same.2.2.trans T.same.2.2⟩⟩
  · obtain ⟨hu, hnm⟩ := hp i hi hn
    rw [reN_name hu, hnm, g.known i (hkn i hi hn)]
    exact T.base i (hkn i hi hn) hn
  · obtain ⟨hu, q, hq, _⟩ := fitHs_get f3 (itemsH_get hi)
    rw [reN_name hu]
    rcases g.sub _ q hq with h1 | ⟨i0, o0, h1, h2⟩
    · exact .inl (Nat.le_trans T.size h1)
    · rw [← h2]
      exact T.sub i0 o0 h1
  · rw [g.keep j (Nat.lt_of_lt_of_le hj T.size) fun i o hi e => ?_, T.keep j hj hne]
    rcases T.sub i o hi with h1 | ⟨i0, o0, h1, h2⟩
    · omega
    · exact hne i0 o0 h1 (h2.trans e)
theorem chkTree_sel {t : Tch} {n : Nat} {I : Pat} {outs : List OutP} {ρ1 : Env} : ∀ {raw : COut} {ll : R LL} {x : LL}, chkTree t n I outs raw ll = true → ll.sel ρ1 = some x → x = .never ∨ ∃ e fr st, raw.sel ρ1 = some (e, fr, st) ∧ chkLeaf t n I outs e fr st x = true
  | .br c a b, ll, x, h, hs => by
    unfold chkTree at h
    split at h
    · rename_i d u v
      split at h
      · rename_i hc
        obtain rfl := X.beq_eq hc
        split at h
        · rename_i h1
          simp only [R.sel] at hs ⊢
          split at hs
          · rename_i hcc
            rw [if_pos hcc]
            exact chkTree_sel h1 hs
          · rename_i hcc
            rw [if_neg hcc]
            exact chkTree_sel h hs
        · cases h
      · cases h
    · cases h
  | .ok (e, fr, st), ll, x, h, hs => by
    unfold chkTree at h
    split at h
    · simp only [R.sel, Option.some.injEq] at hs
      subst hs
      exact .inr ⟨e, fr, st, rfl, h⟩
    · cases h
  | .stuck _, ll, x, h, hs => by
    unfold chkTree at h
    split at h
    · simp only [R.sel, Option.some.injEq] at hs
      exact .inl hs.symm
    · cases h
theorem exSame_is {e f : Ex} (h : exSame e f = true) : e = f ∧ ((e = .normal) ∨ (∃ i, e = .exit i) ∨ e = .ret) := by
  unfold exSame at h
  split at h
  · exact ⟨rfl, .inl rfl⟩
  · rw [Nat.eq_of_beq_eq_true h]
    exact ⟨rfl, .inr (.inl ⟨_, rfl⟩)⟩
  · exact ⟨rfl, .inr (.inr rfl)⟩
  · cases h
theorem loop_told {cxB : Cx} {L : LoopI} {t : Tch} {I : Pat} {outs : List OutP} {ll : R LL} {N ng : Nat} (σ0 : Mt) (Inv : Env → Prop) (μ : Env → Nat)
    (hcode : ∀ ρ1, Inv ρ1 → CodeOk P cxB ρ1 (ev cxB N).code) (hngB : cxB.ng = ng) (hng : cx.ng = ng)
    (hchk : chkTree t L.st.n I outs ((ev cxB N).code L.rnd L.body I.fr I.st) ll = true) (hst : loopOk ng L I outs = true) (hent : fit t σ0 L.st.n I L.fr L.st = true)
    (h0 : ∃ ρ0, EnvRel t ρ ρ0 σ0 ∧ Inv ρ0)
    (hstep : ∀ ρ1, Inv ρ1 → PcOk ρ1 I.pc → ∃ x, ll.sel ρ1 = some x ∧ match x with
      | .next σ => ∃ ρ2, EnvRel t ρ1 ρ2 σ ∧ Inv ρ2 ∧ μ ρ2 < μ ρ1
      | .out k σ => EnvRel t ρ1 ρ σ ∧ ∃ O, nth outs k = some O ∧ L.res.sel ρ = some (O.ex, O.pat.fr, ⟨O.pat.st.h, O.pat.st.n, L.st.pc⟩)
      | .never => False) : LoopTold P cx ρ L := by
  intro res hres S π0 w a ro n hh hf hr
  unfold loopOk at hst
  obtain ⟨s1, s2, s3, s4, s5, _⟩ := and6_ok hst
  have hgn := Nat.le_of_ble_eq_true s4
  have hSn : ∀ i, S i → i < L.st.n := fun i hi => Nat.lt_of_not_le fun hle => hh.fresh i hle hi
  have outS : ∀ i ∈ I.kn, i < L.st.n → S i := by
    intro i hi hlt
    rcases outerIn_of s3 i hi hlt with h1 | ⟨o, h1⟩
    · exact (hh.glob i (by rw [hng]; exact h1)).1
    · exact hh.at_.dom i o h1
  have cB : ∀ {ρ1 K π1 st1 w1}, Here cx ρ1 K π1 st1 w1 → Here cxB ρ1 K π1 st1 w1 := fun h => ⟨h.pc, h.at_, fun g hg => h.glob g (by rw [hng, ← hngB]; exact hg), h.fresh⟩
  have cA : ∀ {ρ1 K π1 st1 w1}, Here cxB ρ1 K π1 st1 w1 → Here cx ρ1 K π1 st1 w1 := fun h => ⟨h.pc, h.at_, fun g hg => h.glob g (by rw [hngB, ← hng]; exact hg), h.fresh⟩
  -- the rounds
  have key : ∀ (m : Nat) (ρ1 : Env) (π1 : Pl) (w1 : World) (a1 : Act), μ ρ1 = m → Inv ρ1 → Here cx ρ1 (· ∈ I.kn) π1 I.st w1 → FrIs ρ1 (· ∈ I.kn) π1 I.fr a1 → Trk L.st.n I.kn I.st.h π0 L.st.h w π1 w1 →
      LoopsIn (FN ro) n P L.body (CPost ρ S π0 L.st w res) a1 w1 := by
    intro m
    induction m using Nat.strongRecOn with
    | _ m ih =>
      intro ρ1 π1 w1 a1 hm hInv hh1 hf1 T1
      obtain ⟨x, hx, hcase⟩ := hstep ρ1 hInv hh1.pc
      have hrnd : RndOk (· ∈ I.kn) π1 L.rnd ro := by
        cases hq : L.rnd with
        | none =>
          rw [hq] at hr
          cases ro with
          | none => trivial
          | some _ => exact hr.elim
        | some l =>
          rw [hq] at hr s5
          cases ro with
          | none => exact hr.elim
          | some r =>
            have hl := memN_of s5
            exact ⟨hl, by rw [T1.base l hl (hSn l hr.1)]; exact hr.2⟩
      rcases chkTree_sel hchk hx with rfl | ⟨e, fr, st, hraw, hleaf⟩
      · exact hcase.elim
      refine loopsIn_step (wpIn_mono (hcode ρ1 hInv L.rnd L.body I.fr I.st _ hraw _ π1 w1 a1 ro n (cB hh1) hf1 hrnd) ?_)
      rintro e' a' w' ⟨pc', π', g, hex, hfr⟩
      dsimp only at pc' g hex hfr
      have hh' := hh1.go g pc'
      cases x with
      | never => exact hcase.elim
      | next σ =>
        unfold chkLeaf at hleaf
        dsimp only at hleaf
        split at hleaf
        · obtain rfl : e' = .normal := hex
          obtain ⟨ρ2, E2, hInv2, hlt⟩ := hcase
          obtain ⟨k1, k2⟩ := fit_here E2 hleaf s1 hng hgn hh' hfr
          have houter := outerOk_of (show outerOk σ L.st.n I.kn = true from (and6_ok (by unfold fit at hleaf; exact hleaf)).2.2.2.2.2)
          exact ih (μ ρ2) (by omega) ρ2 _ w' a' rfl hInv2 k1 k2 (T1.go g hleaf (fun i hi _ => hi) houter)
        · cases hleaf
      | out k σ =>
        obtain ⟨E2, O, hO, hLres⟩ := hcase
        rw [hres] at hLres
        obtain rfl := Option.some.inj hLres
        obtain ⟨o1, o2, o3⟩ := outsOk_of s2 hO
        unfold chkLeaf at hleaf
        dsimp only at hleaf
        rw [hO] at hleaf
        dsimp only at hleaf
        split at hleaf
        rotate_left
        · cases hleaf
        rename_i hexs
        obtain ⟨rfl, hexc⟩ := exSame_is hexs
        have hfit : fit t σ L.st.n O.pat fr st = true := by
          rcases hexc with h1 | ⟨i, h1⟩ | h1 <;> rw [h1] at hleaf <;> first | exact hleaf | (simp at hleaf; done)
        have hne : O.ex ≠ .normal := fun h1 => by rw [h1] at hleaf; simp at hleaf
        have hfr' : FrIs ρ1 (Ext (· ∈ I.kn) I.st.n st.n) π' fr a' := by
          rcases hexc with h1 | ⟨i, h1⟩ | h1 <;> rw [h1] at hfr <;> exact hfr
        obtain ⟨k1, k2⟩ := fit_here E2 hfit o1 hng hgn hh' hfr'
        have houter := outerOk_of (show outerOk σ L.st.n O.pat.kn = true from (and6_ok (by unfold fit at hfit; exact hfit)).2.2.2.2.2)
        have T2 := T1.go g hfit (outerSub_of o3) houter
        have hlt := allLt_of (and6_ok (by unfold patOk at o1; exact o1)).2.2.2.2.1
        let πX : Pl := fun i => if i < L.st.n then π0 i else reN σ ρ1 π' i
        have same : ∀ i ∈ O.pat.kn, πX i = reN σ ρ1 π' i := by
          intro i hi
          by_cases hlti : i < L.st.n
          · simp only [πX, if_pos hlti, T2.base i hi hlti]
          · simp only [πX, if_neg hlti]
        have ext : ∀ i ∈ O.pat.kn, Ext S L.st.n O.pat.n i := by
          intro i hi
          by_cases hlti : i < L.st.n
          · exact .inl (outS i (outerSub_of o3 i hi hlti) hlti)
          · exact .inr ⟨by omega, hlt i hi⟩
        have known : ∀ π, Known (Ext S L.st.n O.pat.n) π πX → Known (· ∈ O.pat.kn) π (reN σ ρ1 π') := fun π hk i hi => (hk i (ext i hi)).trans (same i hi)
        have hdom : ∀ i o, O.pat.st.h.get i = some o → i ∈ O.pat.kn := fun i o hi => k1.at_.dom i o hi
        have post : CPost ρ S π0 L.st w (O.ex, O.pat.fr, ⟨O.pat.st.h, O.pat.st.n, L.st.pc⟩) e' a' w' := by
          refine ⟨hh.pc, πX, ⟨o2, fun i hi => by simp only [πX, if_pos (hSn i hi)], ⟨fun π hk => k1.at_.rep π (known π hk), fun i o hi => ext i (hdom i o hi)⟩, fun i o hi => ?_, T2.keep, T2.size, T2.same⟩, ?_, ?_⟩
          · rw [same i (hdom i o hi)]
            exact T2.sub i o hi
          · dsimp only
            rcases hexc with h1 | ⟨i, h1⟩ | h1 <;> rw [h1] at hex ⊢ <;> exact hex
          · dsimp only
            have : FrIs ρ (Ext S L.st.n O.pat.n) πX O.pat.fr a' := by
              obtain ⟨tc, t1, t2, t3⟩ := k2
              exact ⟨tc, t1, fun π hk => t2 π (known π hk), fun π hk => t3 π (known π hk)⟩
            rcases hexc with h1 | ⟨i, h1⟩ | h1 <;> rw [h1] <;> exact this
        rcases hexc with h1 | ⟨i, h1⟩ | h1
        · exact absurd h1 hne
        · rw [h1] at hex
          obtain rfl : e' = .exit i := hex
          exact post
        · rw [h1] at hex
          obtain rfl : e' = .ret := hex
          exact post
  -- the start
  obtain ⟨ρ0, E0, hInv0⟩ := h0
  obtain ⟨k1, k2⟩ := fit_here E0 hent s1 hng hgn hh hf
  obtain ⟨_, _, f3, _, _, f6⟩ := and6_ok (by unfold fit at hent; exact hent)
  refine key _ ρ0 _ w a rfl hInv0 k1 k2 ⟨fun i hi hlt => ?_, fun i o hi => ?_, fun _ _ _ => rfl, Nat.le_refl _, rfl, rfl, rfl⟩
  · obtain ⟨hu, hnm⟩ := outerOk_of f6 i hi hlt
    rw [reN_name hu, hnm]
  · obtain ⟨hu, q, hq, _⟩ := fitHs_get f3 (itemsH_get hi)
    rw [reN_name hu]
    exact .inr ⟨_, q, hq, rfl⟩
end
end Go.Proofs.YtennjdjcjjjmiaaGreatDoor

namespace Go.Proofs.YtennjdjcjjjmiaaGreatDoor
open Go Go.RowKit

def winHeap : List (Nat × SObj) → H → H
  | [], h => h
  | (i, o) :: l, h => (winHeap l h).set i o
def stRows (L : List (Nat × List V)) (ws : List (Nat × SObj)) (n : Nat) (pc : PC) : St := { h := winHeap ws (roHeap L), n := n, pc := pc }
def rowsThere : List (Nat × SObj) → H → Bool
  | [], _ => true
  | (i, _) :: l, h => match h.get i with
    | some (.win m _ _ _) => match Nat.beq i m with
      | true => rowsThere l h
      | false => false
    | some (.warr m _ _ _) => match Nat.beq i m with
      | true => rowsThere l h
      | false => false
    | _ => false
noncomputable def allChkW (L : List (Nat × List V)) (ws : List (Nat × SObj)) : EOut → Bool
  | .ok (.ret (.bool x), st) => match chk 1000 st.pc x true with
    | true => match roThere L st.h with
      | true => rowsThere ws st.h
      | false => false
    | _ => false
  | .ok _ => false
  | .br _ t f => match allChkW L ws t with
    | true => allChkW L ws f
    | false => false
  | .stuck _ => false
section
variable {P : Program} {cx : Cx} {ρ : Env} {W : World} {L : List (Nat × List V)} {ws : List (Nat × SObj)} {ng nm : Nat} {pc : PC}
theorem allChkW_sel : ∀ {r : EOut}, allChkW L ws r = true → ∃ x st, r.sel ρ = some (.ret (.bool x), st) ∧ (PcOk ρ st.pc → x.tt ρ = true) ∧ roThere L st.h = true ∧ rowsThere ws st.h = true
  | .ok a, h => by
    unfold allChkW at h
    split at h
    · rename_i x st e
      injection e with e
      subst e
      split at h
      · rename_i hx
        split at h
        · rename_i h1
          exact ⟨x, st, rfl, fun hp => chk_ok hp hx, h1, h⟩
        · cases h
      · cases h
    · cases h
    · rename_i e; cases e
    · rename_i e; cases e
  | .br c t f, h => by
    unfold allChkW at h
    split at h
    · rename_i ht
      unfold R.sel
      split
      · exact allChkW_sel ht
      · exact allChkW_sel h
    · cases h
  | .stuck _, h => by simp [allChkW] at h
theorem winHeap_get : ∀ {ws : List (Nat × SObj)} {h : H} {i : Nat} {o : SObj}, (winHeap ws h).get i = some o → (i, o) ∈ ws ∨ ((∀ x ∈ ws, x.1 ≠ i) ∧ h.get i = some o)
  | [], h, i, o, hi => .inr ⟨fun _ hx => (by cases hx), hi⟩
  | (j, q) :: l, h, i, o, hi => by
    simp only [winHeap] at hi
    by_cases e : j = i
    · subst e
      rw [T.get_set_same] at hi
      obtain rfl := Option.some.inj hi
      exact .inl (List.mem_cons_self ..)
    · rw [T.get_set_other _ _ e] at hi
      rcases winHeap_get hi with h1 | ⟨h1, h2⟩
      · exact .inl (List.mem_cons_of_mem _ h1)
      · refine .inr ⟨fun x hx => ?_, h2⟩
        rcases List.mem_cons.1 hx with rfl | hx
        · exact e
        · exact h1 x hx
structure RowsAt (ρ : Env) (W : World) (L : List (Nat × List V)) (ws : List (Nat × SObj)) (ng nm : Nat) : Prop where
  lo : ∀ x ∈ ws, ng ≤ x.1 ∧ x.1 < nm
  le : ng ≤ nm
  obj : ∀ x ∈ ws, W.heap[(ρ.win x.1).block]? = some (ρ.ro x.1)
  other : ∀ x ∈ ws, ∀ y ∈ L, y.1 ≠ (ρ.win x.1).block
  inj : ∀ x ∈ ws, ∀ y ∈ ws, (ρ.win x.1).block = (ρ.win y.1).block → x.1 = y.1
  is : ∀ x ∈ ws, ∀ π : Pl, (π x.1).1 = (ρ.win x.1).block → x.2.is ρ π x.1 (ρ.ro x.1)
def πRows (ρ : Env) (ng : Nat) : Pl := fun i => match Nat.ble ng i with
  | true => ⟨(ρ.win i).block, 0, .nilFunc⟩
  | false => ⟨i, 0, .nilFunc⟩
theorem πRows_win {i : Nat} (h : ng ≤ i) : (πRows ρ ng i).1 = (ρ.win i).block := by
  unfold πRows
  rw [Nat.ble_eq_true_of_le h]
theorem πRows_glob {i : Nat} (h : i < ng) : (πRows ρ ng i).1 = i := by
  unfold πRows
  cases hb : Nat.ble ng i with
  | true => have := Nat.le_of_ble_eq_true hb; omega
  | false => rfl
theorem here_rows (hng : cx.ng = ng) (hL : ∀ x ∈ L, x.1 < ng) (hro : RoAt ρ L) (hW : ∀ x ∈ L, W.heap[x.1]? = some (ρ.ro x.1)) (hw : RowsAt ρ W L ws ng nm) (hpc : PcOk ρ pc) : Here cx ρ (fun i => i < nm) (πRows ρ ng) (stRows L ws nm pc) W := by
  have hget : ∀ i o, (winHeap ws (roHeap L)).get i = some o → (i, o) ∈ ws ∨ ∃ x ∈ L, i = x.1 ∧ o = .ro x.1 x.2 := by
    intro i o hi
    rcases winHeap_get hi with h | ⟨_, h⟩
    · exact .inl h
    · exact .inr (roHeap_get h)
  have hle := hw.le
  refine ⟨hpc, ⟨fun π hk => ⟨fun i o hi => ?_, fun i j o o' hi hj e => ?_⟩, fun i o hi => ?_⟩, fun g hg => ?_, fun i hi hs => ?_⟩
  · rcases hget i o hi with h | ⟨x, hx, rfl, rfl⟩
    · have hlo := hw.lo _ h
      have h1 : (π i).1 = (ρ.win i).block := by rw [hk i hlo.2]; exact πRows_win hlo.1
      exact ⟨_, by rw [h1]; exact hw.obj _ h, hw.is _ h π h1⟩
    · have hlt := hL x hx
      have h1 : (π x.1).1 = x.1 := by rw [hk x.1 (by show x.1 < nm; omega)]; exact πRows_glob hlt
      obtain ⟨t, fr, h2⟩ := hro.is x hx
      exact ⟨_, by rw [h1]; exact hW x hx, ⟨t, fr, h2 π⟩, rfl⟩
  · rcases hget i o hi with h | ⟨x, hx, rfl, rfl⟩ <;> rcases hget j o' hj with h' | ⟨y, hy, rfl, rfl⟩
    · have hlo := hw.lo _ h
      have hlo' := hw.lo _ h'
      rw [hk i hlo.2, hk j hlo'.2, πRows_win hlo.1, πRows_win hlo'.1] at e
      exact hw.inj _ h _ h' e
    · have hlt := hL y hy
      have hlo := hw.lo _ h
      rw [hk i hlo.2, hk y.1 (by show y.1 < nm; omega), πRows_win hlo.1, πRows_glob hlt] at e
      exact absurd e.symm (hw.other _ h y hy)
    · have hlt := hL x hx
      have hlo := hw.lo _ h'
      rw [hk j hlo.2, hk x.1 (by show x.1 < nm; omega), πRows_win hlo.1, πRows_glob hlt] at e
      exact absurd e (hw.other _ h' x hx)
    · have h1 := hL x hx
      have h2 := hL y hy
      rw [hk x.1 (by show x.1 < nm; omega), hk y.1 (by show y.1 < nm; omega), πRows_glob h1, πRows_glob h2] at e
      exact e
  · rcases hget i o hi with h | ⟨x, hx, rfl, rfl⟩
    · exact (hw.lo _ h).2
    · have := hL x hx
      show x.1 < nm; omega
  · rw [hng] at hg
    exact ⟨by show g < nm; omega, πRows_glob hg⟩
  · have h1 : nm ≤ i := hi
    have h2 : i < nm := hs
    omega
theorem rowsThere_get : ∀ {ws : List (Nat × SObj)} {h : H}, rowsThere ws h = true → ∀ x ∈ ws, (∃ c n e, h.get x.1 = some (.win x.1 c n e)) ∨ (∃ t ks n, h.get x.1 = some (.warr x.1 t ks n))
  | [], _, _, _, hx => by cases hx
  | (i, o) :: l, h, ht, x, hx => by
    unfold rowsThere at ht
    split at ht
    · rename_i m c n e hg
      split at ht
      · rename_i hb
        obtain rfl := Nat.eq_of_beq_eq_true hb
        rcases List.mem_cons.1 hx with rfl | hx
        · exact .inl ⟨_, _, _, hg⟩
        · exact rowsThere_get ht x hx
      · cases ht
    · rename_i m t ks n hg
      split at ht
      · rename_i hb
        obtain rfl := Nat.eq_of_beq_eq_true hb
        rcases List.mem_cons.1 hx with rfl | hx
        · exact .inr ⟨_, _, _, hg⟩
        · exact rowsThere_get ht x hx
      · cases ht
    · cases ht
theorem below_rows (hL : ∀ x ∈ L, x.1 < ng) (hW : ∀ x ∈ L, W.heap[x.1]? = some (ρ.ro x.1)) (hw : RowsAt ρ W L ws ng nm) {π1 : Pl} {w' : World} {n' : Nat} {h' : H} (g : Goes ρ (fun i => i < nm) (πRows ρ ng) (winHeap ws (roHeap L)) W nm π1 h' w' n') (ht : roThere L h' = true) (hwt : rowsThere ws h' = true) : Below W.heap.size W w' := by
  have hle := hw.le
  refine ⟨g.same.2.1, g.same.1, g.same.2.2, g.size, fun k hk => ?_⟩
  by_cases h0 : ∃ x ∈ L, x.1 = k
  · obtain ⟨x, hx, rfl⟩ := h0
    obtain ⟨c, hc⟩ := roThere_get ht x hx
    obtain ⟨ob, h1, _, h2⟩ := (g.at_.rep π1 fun _ _ => rfl).obj _ _ hc
    have hlt := hL x hx
    have h3 : (π1 x.1).1 = x.1 := by rw [g.known x.1 (by show x.1 < nm; omega)]; exact πRows_glob hlt
    rw [h3, h2] at h1
    rw [h1, hW x hx]
  · by_cases h1 : ∃ x ∈ ws, k = (ρ.win x.1).block
    · obtain ⟨x, hx, rfl⟩ := h1
      have hlo := hw.lo x hx
      have h3 : (π1 x.1).1 = (ρ.win x.1).block := by rw [g.known x.1 hlo.2]; exact πRows_win hlo.1
      rcases rowsThere_get hwt x hx with ⟨c, n, e, hg⟩ | ⟨t, ks, n, hg⟩
      · obtain ⟨ob, h1, _, h2⟩ := (g.at_.rep π1 fun _ _ => rfl).obj _ _ hg
        rw [h3, h2] at h1
        rw [h1, hw.obj x hx]
      · obtain ⟨ob, h1, _, h2⟩ := (g.at_.rep π1 fun _ _ => rfl).obj _ _ hg
        rw [h3, h2] at h1
        rw [h1, hw.obj x hx]
    · refine g.keep k hk fun i o hi e => ?_
      rcases winHeap_get hi with h | ⟨_, h⟩
      · have hlo := hw.lo _ h
        rw [πRows_win hlo.1] at e
        exact h1 ⟨_, h, e.symm⟩
      · obtain ⟨x, hx, rfl, rfl⟩ := roHeap_get h
        rw [πRows_glob (hL x hx)] at e
        exact h0 ⟨x, hx, e⟩
theorem law_rows {N : Nat} {f : FuncId} {fn : Func} {args : List V} {ac : List Value} (hmix : P.follows .mixedOrders = true) (htt : TOk P cx.tt) (hft : FOk P cx.ft) (hsm : SumOk P cx ρ) (hf : P.funcs[f]? = some fn)
    (hng : cx.ng = ng) (hL : ∀ x ∈ L, x.1 < ng) (hro : RoAt ρ L) (hW : ∀ x ∈ L, W.heap[x.1]? = some (ρ.ro x.1)) (hw : RowsAt ρ W L ws ng nm) (hpc : PcOk ρ pc)
    (ht : allChkW L ws ((ev cx N).call f args (stRows L ws nm pc)) = true) (ha : SaysL ρ (fun i => i < nm) (πRows ρ ng) args ac) :
    Calls P f ac.toArray W fun e W' => e = .returned (.bool true) ∧ Below W.heap.size W W' := by
  obtain ⟨x, st, hsel, hx, h1, h2⟩ := allChkW_sel (ρ := ρ) ht
  refine (ev_calls hmix htt hft hsm hsel (here_rows hng hL hro hW hw hpc) ha hf).mono fun e W' hp => ?_
  obtain ⟨hpc', π1, g, c, rfl, hv⟩ := hp
  refine ⟨?_, below_rows hL hW hw g h1 h2⟩
  rw [← hv π1 fun _ _ => rfl]
  simp [V.conc, hx hpc']
end
end Go.Proofs.YtennjdjcjjjmiaaGreatDoor
