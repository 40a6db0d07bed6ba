/- Symbolic execution, part 34: a run whose variables are filled. No condition. -/
import Derived.Test.YtfmfhnpkganobaaFwG
namespace Go.Proofs.Ytfmfhnpkganobaa
open Go Go.RowKit
noncomputable def Sub.env(σ:Sub)(ρ:Env):Env:={ρ with
 v:=fun i=>match look σ.v i with
  | some x=>x.den ρ
  | none=>ρ.v i
 b:=fun i=>match lookB σ i with
  | some c=>c.den ρ
  | none=>ρ.b i
 f1:=fun f=>ρ.f1 (symR σ.f f)
 s:=fun i=>match look σ.s i with
  | some x=>x.sden ρ
  | none=>ρ.s i}
section
variable {ρ:Env} {σ:Sub}
theorem B.put_den(b:B):(b.put σ).den ρ=b.den (σ.env ρ):=by
 cases b with
 | zero=>rfl
 | one=>rfl
 | pos i=>
  unfold B.put
  show _=(σ.env ρ).b i
  unfold Sub.env
  dsimp only
  split<;>rename_i h<;>rw [h]
  rfl
 | neg i=>
  unfold B.put
  show _=!(σ.env ρ).b i
  unfold Sub.env
  dsimp only
  split<;>rename_i h<;>rw [h]
  ·rw [B.not_den]
  ·rfl
theorem putBs_den(t:B):∀ l:List B,bvDen ρ (putBs σ l) (t.put σ)=bvDen (σ.env ρ) l t
 | []=>by rw [putBs,bvDen_nil,bvDen_nil,B.put_den]
 | b::l=>by rw [putBs,bvDen_cons,bvDen_cons,B.put_den,putBs_den t l]
theorem Q.want_is{q:Q}{c:B}{x:Bool}(hq:q≠.bad)(hw:q.wf):q.want c x≠.bad∧((q.want c x).is ρ↔q.is ρ∧c.den ρ=x)∧(q.want c x).wf:=by
 cases c with
 | zero=>cases x with
  | true=>exact⟨by simp [Q.want],by simp [Q.want,Q.is,B.den],fun m v e=>by cases e⟩
  | false=>exact⟨by simpa [Q.want] using hq,by simp [Q.want,B.den],hw⟩
 | one=>cases x with
  | false=>exact⟨by simp [Q.want],by simp [Q.want,Q.is,B.den],fun m v e=>by cases e⟩
  | true=>exact⟨by simpa [Q.want] using hq,by simp [Q.want,B.den],hw⟩
 | pos j=>exact Q.with_is hq hw
 | neg j=>
  obtain⟨h1,h2,h3⟩:=Q.with_is (ρ:=ρ) (i:=j) (b:=!x) hq hw
  refine⟨h1,h2.trans ?_,h3⟩
  show _↔_∧(!ρ.b j)=x
  cases ρ.b j<;>cases x<;>simp
theorem cubeGo_is{m v:Nat}:∀ {n:Nat} {q:Q},q≠.bad→q.wf→cubeGo σ m v n q≠.bad∧((cubeGo σ m v n q).is ρ↔q.is ρ∧∀ i,i<n→m.testBit i=true→(σ.env ρ).b i=v.testBit i)
 | 0,q,hq,hw=>⟨hq,by simp [cubeGo]⟩
 | n+1,q,hq,hw=>by
  unfold cubeGo
  split
  ·rename_i hm
   obtain⟨h1,h2,h3⟩:=Q.want_is (ρ:=ρ) (c:=(B.pos n).put σ) (x:=v.testBit n) hq hw
   obtain⟨h4,h5⟩:=cubeGo_is (m:=m) (v:=v) (n:=n) h1 h3
   refine⟨h4,h5.trans ?_⟩
   rw [h2,B.put_den]
   constructor
   ·rintro ⟨⟨a,b⟩,c⟩
    refine⟨a,fun i hi hmi=>?_⟩
    rcases Nat.lt_succ_iff_lt_or_eq.1 hi with h | h
    ·exact c i h hmi
    ·subst h;exact b
   ·rintro ⟨a,c⟩
    exact⟨⟨a,c n (by omega) hm⟩,fun i hi hmi=>c i (by omega) hmi⟩
  ·rename_i hm
   obtain⟨h4,h5⟩:=cubeGo_is (m:=m) (v:=v) (n:=n) hq hw
   refine⟨h4,h5.trans ?_⟩
   constructor
   ·rintro ⟨a,c⟩
    refine⟨a,fun i hi hmi=>?_⟩
    rcases Nat.lt_succ_iff_lt_or_eq.1 hi with h | h
    ·exact c i h hmi
    ·subst h;rw [hm] at hmi;cases hmi
   ·rintro ⟨a,c⟩
    exact⟨a,fun i hi hmi=>c i (by omega) hmi⟩
theorem cubePut_den(m v:Nat):(cubePut σ m v).den ρ=(X.cube m v).den (σ.env ρ):=by
 obtain⟨h1,h2⟩:=cubeGo_is (ρ:=ρ) (σ:=σ) (m:=m) (v:=v) (n:=m.log2+1) (q:=.c 0 0) (by simp) wf0
 have key:(cubeGo σ m v (m.log2+1) (.c 0 0)).is ρ↔cubeB (σ.env ρ) m v=true:=by
  rw [h2,cubeB_iff]
  constructor
  ·rintro ⟨_,h⟩ i hi
   refine h i ?_ hi
   rcases Nat.lt_or_ge i (m.log2+1) with h1 | h1
   ·exact h1
   ·have h2:m<2 ^ i:=Nat.lt_of_lt_of_le Nat.lt_log2_self (Nat.pow_le_pow_right (by omega) h1)
    rw [Nat.testBit_lt_two_pow h2] at hi
    cases hi
  ·exact fun h=>⟨is0,fun i _ hi=>h i hi⟩
 unfold cubePut
 simp only [X.den]
 cases hc:cubeGo σ m v (m.log2+1) (.c 0 0) with
 | bad=>exact absurd hc h1
 | ff=>
  rw [hc] at key
  cases hb:cubeB (σ.env ρ) m v with
  | true=>exact (key.2 hb).elim
  | false=>rfl
 | c m' v'=>
  rw [hc] at key
  have e:cubeB ρ m' v'=cubeB (σ.env ρ) m v:=by
   cases hb:cubeB (σ.env ρ) m v with
   | true=>exact key.2 hb
   | false=>
    cases hb':cubeB ρ m' v' with
    | false=>rfl
    | true=>rw [key.1 hb'] at hb;cases hb
  unfold ofQ
  dsimp only
  split
  ·rename_i hm
   have hm0:m'=0:=Nat.eq_of_beq_eq_true hm
   have:cubeB ρ m' v'=true:=cubeB_iff.2 fun i hi=>by rw [hm0] at hi;simp at hi
   rw [←e,this]
   rfl
  ·rw [←e];rfl
theorem mkSeq_den(a b:X):(mkSeq a b).den ρ=b2i (a.sden ρ==b.sden ρ):=by
 have:=mkSeq_tt ρ a b
 unfold mkSeq at this ⊢
 split at this
 ·simp only [X.tt,X.den,b2i_tt] at this
  simp only [X.den,this]
 ·exact seqRest_den ρ _ _
theorem addE_den(a b:X):(addE a b).den ρ=a.den ρ+b.den ρ:=by
 unfold addE
 split
 ·rfl
 ·refine bothB_elim (ρ:=ρ) (Pr:=fun x:X=>x.den ρ=a.den ρ+b.den ρ) rfl fun l t m u ha hb=>?_
  split
  ·rename_i r s h
   rw [mkBv_den,ha,hb,←addB_den h]
   simp [b2i]
  ·rfl
mutual
theorem X.put_den:∀ x:X,(x.put σ).den ρ=x.den (σ.env ρ)
 | .lit n=>by unfold X.put;rfl
 | .var i=>by
  unfold X.put
  show _=(σ.env ρ).v i
  unfold Sub.env
  dsimp only
  split<;>rename_i h<;>rw [h]
  rfl
 | .wrap k a=>by
  have hw:(mkWrap k (a.put σ)).den ρ=(X.wrap k a).den (σ.env ρ):=by rw [mkWrap_den,X.put_den a];rfl
  cases a with
  | add x y=>unfold X.put;rw [mkAdd_den,X.put_den x,X.put_den y];rfl
  | sub x y=>unfold X.put;rw [mkSub_den,X.put_den x,X.put_den y];rfl
  | mul x y=>unfold X.put;rw [mkMul_den,X.put_den x,X.put_den y];rfl
  | quo x y=>unfold X.put;rw [mkQuo_den,X.put_den x,X.put_den y];rfl
  | _=>unfold X.put;exact hw
 | .add a b=>by unfold X.put;rw [addE_den,X.put_den a,X.put_den b];rfl
 | .sub a b=>by unfold X.put;simp only [X.den,X.put_den a,X.put_den b]
 | .mul a b=>by unfold X.put;simp only [X.den,X.put_den a,X.put_den b]
 | .quo a b=>by unfold X.put;simp only [X.den,X.put_den a,X.put_den b]
 | .rem a b=>by unfold X.put;rw [mkRem_den,X.put_den a,X.put_den b];rfl
 | .bits o k a b=>by unfold X.put;rw [mkBits_den,X.put_den a,X.put_den b];rfl
 | .shl k a b=>by unfold X.put;rw [mkShl_den,X.put_den a,X.put_den b];rfl
 | .shr k a b=>by unfold X.put;rw [mkShr_den,X.put_den a,X.put_den b];rfl
 | .eq a b=>by unfold X.put;rw [mkEq_den,X.put_den a,X.put_den b];rfl
 | .lt a b=>by unfold X.put;rw [mkLt_den,X.put_den a,X.put_den b];rfl
 | .le a b=>by unfold X.put;rw [mkLe_den,X.put_den a,X.put_den b];rfl
 | .not a=>by
  unfold X.put
  rw [mkNot_den,X.tt,X.put_den a]
  show _=b2i (a.den (σ.env ρ)==0)
  simp [bne]
 | .ite c a b=>by
  unfold X.put
  rw [mkIte_den,X.tt,X.put_den c,X.put_den a,X.put_den b]
  show _=if c.den (σ.env ρ)==0 then _ else _
  by_cases h:c.den (σ.env ρ)=0<;>simp [h]
 | .fn1 f a=>by unfold X.put;simp only [X.den,X.put_den a];rfl
 | .fn2 f a b=>by unfold X.put;simp only [X.den,X.put_den a,X.put_den b];rfl
 | .slen a=>by unfold X.put;rw [mkLen_den,X.putS_den a];rfl
 | .seq a b=>by unfold X.put;rw [mkSeq_den,X.putS_den a,X.putS_den b];rfl
 | .bv l t=>by unfold X.put;rw [mkBv_den,putBs_den];rfl
 | .cube m v=>by unfold X.put;exact cubePut_den m v
 | .btext _ _ _=>by unfold X.put;rfl
 | .slit l=>by unfold X.put;rfl
 | .svar i=>by unfold X.put;rfl
 | .scat a b=>by unfold X.put;rfl
 | .sfn f a=>by unfold X.put;rfl
theorem X.putS_den:∀ x:X,(x.putS σ).sden ρ=x.sden (σ.env ρ)
 | .svar i=>by
  unfold X.putS
  show _=(σ.env ρ).s i
  unfold Sub.env
  dsimp only
  split<;>rename_i h<;>rw [h]
  rfl
 | .scat a b=>by unfold X.putS;rw [mkCat_sden,X.putS_den a,X.putS_den b];rfl
 | .sfn f a=>by unfold X.putS;simp only [X.sden,X.put_den a];rfl
 | .ite c a b=>by
  unfold X.putS
  rw [mkIteS_sden,X.tt,X.put_den c,X.putS_den a,X.putS_den b]
  show _=if c.den (σ.env ρ)==0 then _ else _
  by_cases h:c.den (σ.env ρ)=0<;>simp [h]
 | .lit n=>by unfold X.putS;rfl
 | .var i=>by unfold X.putS;rfl
 | .wrap k a=>by unfold X.putS;rfl
 | .add a b=>by unfold X.putS;rfl
 | .sub a b=>by unfold X.putS;rfl
 | .mul a b=>by unfold X.putS;rfl
 | .quo a b=>by unfold X.putS;rfl
 | .rem a b=>by unfold X.putS;rfl
 | .bits o k a b=>by unfold X.putS;rfl
 | .shl k a b=>by unfold X.putS;rfl
 | .shr k a b=>by unfold X.putS;rfl
 | .eq a b=>by unfold X.putS;rfl
 | .lt a b=>by unfold X.putS;rfl
 | .le a b=>by unfold X.putS;rfl
 | .not a=>by unfold X.putS;rfl
 | .fn1 f a=>by unfold X.putS;rfl
 | .fn2 f a b=>by unfold X.putS;rfl
 | .slen a=>by unfold X.putS;rfl
 | .seq a b=>by unfold X.putS;rfl
 | .bv l t=>by unfold X.putS;rfl
 | .cube m v=>by unfold X.putS;rfl
 | .btext t a b=>by simp only [X.putS,X.sden,X.put_den a,X.put_den b];rfl
 | .slit l=>by unfold X.putS;rfl
end
theorem X.put_tt(x:X):(x.put σ).tt ρ=x.tt (σ.env ρ):=by rw [X.tt,X.put_den];rfl
theorem XC.put_conc(π:Pl)(b o:Nat)(c:XC):(c.put σ).conc ρ π b o=c.conc (σ.env ρ) π b o:=by cases c<;>simp only [XC.put,XC.conc,X.put_den]
theorem baseOk_nil{t:Nat}:∀ {m:Nat},baseOk [] t m=true
 | 0=>rfl
 | m+1=>by
  unfold baseOk
  rw [show Nat.beq (symR [] (t+m)) (symR [] t+m)=true from Nat.beq_refl _]
  exact baseOk_nil
theorem A.baseOk_nil{m:Nat}:∀ {a:A},a.baseOk [] m=true
 | .base _=>Go.Proofs.Ytfmfhnpkganobaa.baseOk_nil
 | .fill _=>rfl
 | .put a _ _ _=>A.baseOk_nil (a:=a)
mutual
theorem V.conc_put(π:Pl):∀ v:V,(v.put σ).conc ρ π=v.conc (σ.env ρ) π
 | .int k x=>by simp only [V.put,V.conc,X.put_den]
 | .bool x=>by simp only [V.put,V.conc,X.put_tt]
 | .str x=>by simp only [V.put,V.conc,X.putS_den]
 | .ptr b o=>rfl
 | .nilptr=>rfl
 | .slice b o n c=>rfl
 | .nilslice=>rfl
 | .map b=>rfl
 | .nilmap=>rfl
 | .func f a c=>by simp only [V.put,V.conc,V.concs_put π a,V.concs_put π c]
 | .yield b=>rfl
 | .nilfunc=>rfl
 | .iface t v=>by simp only [V.put,V.conc,V.conc_put π v]
 | .niliface=>rfl
 | .agg l=>by simp only [V.put,V.conc,V.concs_put π l]
 | .tuple l=>by simp only [V.put,V.conc,V.concs_put π l]
 | .wptr b o=>rfl
 | .wslice b o n c=>by simp only [V.put,V.conc,X.put_den];rfl
 | .ite c a b=>by simp only [V.put,V.conc,X.put_tt,V.conc_put π a,V.conc_put π b]
 | .sptr b o n i=>by simp only [V.put,V.conc,X.put_den]
 | .rest _ _ _ _=>rfl
 | .xslice w b off es len cap=>by simp only [V.put,V.conc,X.put_den,XC.put_conc];rfl
 | .xptr w b i es c=>by simp only [V.put,V.conc,X.put_den];rfl
 | .any _=>rfl
theorem V.concs_put(π:Pl):∀ l:List V,V.concs ρ π (V.puts σ l)=V.concs (σ.env ρ) π l
 | []=>rfl
 | v::l=>by simp only [V.puts,V.concs,V.conc_put π v,V.concs_put π l]
end
mutual
theorem V.noWin_put:∀ v:V,(v.put σ).noWin=v.noWin
 | .int _ _=>rfl
 | .bool _=>rfl
 | .str _=>rfl
 | .ptr _ _=>rfl
 | .nilptr=>rfl
 | .slice _ _ _ _=>rfl
 | .nilslice=>rfl
 | .map _=>rfl
 | .nilmap=>rfl
 | .func f a c=>by simp only [V.put,V.noWin,V.noWins_put a,V.noWins_put c]
 | .yield _=>rfl
 | .nilfunc=>rfl
 | .iface t v=>by simp only [V.put,V.noWin,V.noWin_put v]
 | .niliface=>rfl
 | .agg l=>by simp only [V.put,V.noWin,V.noWins_put l]
 | .tuple l=>by simp only [V.put,V.noWin,V.noWins_put l]
 | .wptr _ _=>rfl
 | .wslice _ _ _ _=>rfl
 | .ite c a b=>by simp only [V.put,V.noWin,V.noWin_put a,V.noWin_put b]
 | .sptr _ _ _ _=>rfl
 | .rest _ _ _ _=>rfl
 | .xslice w _ _ _ _ cap=>by cases w<;>cases cap<;>rfl
 | .xptr _ _ _ _ _=>rfl
 | .any _=>rfl
theorem V.noWins_put:∀ l:List V,V.noWins (V.puts σ l)=V.noWins l
 | []=>rfl
 | v::l=>by simp only [V.puts,V.noWins,V.noWin_put v,V.noWins_put l]
end
end
theorem addBit_f{σ:Sub}{i:Nat}{c:B}:(addBit σ i c).f=σ.f:=by
 unfold addBit
 split<;>rfl
theorem matchBs_f:∀ (ps l:List B) (t:B) (σ:Sub),(matchBs ps l t σ).f=σ.f
 | [],_,_,_=>rfl
 | p::ps,[],t,σ=>by
  unfold matchBs
  dsimp only
  rw [matchBs_f ps]
  split
  ·exact addBit_f
  ·rfl
 | p::ps,c::l,t,σ=>by
  unfold matchBs
  dsimp only
  rw [matchBs_f ps]
  split
  ·exact addBit_f
  ·rfl
theorem matchX_f(p a:X)(σ:Sub):(matchX p a σ).f=σ.f:=by
 unfold matchX
 split
 ·rfl
 ·rfl
 ·rfl
 ·split
  ·exact matchBs_f ..
  ·rfl
 ·split
  ·exact addBit_f
  ·exact addBit_f
  ·rfl
 ·rfl
mutual
theorem matchV_f:∀ (p a:V) (σ:Sub),(matchV p a σ).f=σ.f
 | .agg l,a,σ=>by cases a<;>first | (unfold matchV;exact matchVs_f l _ σ) | (unfold matchV;rfl)
 | .tuple l,a,σ=>by cases a<;>first | (unfold matchV;exact matchVs_f l _ σ) | (unfold matchV;rfl)
 | .int _ _,a,σ=>by cases a<;>first | (unfold matchV;exact matchX_f ..) | (unfold matchV;rfl)
 | .bool _,a,σ=>by cases a<;>first | (unfold matchV;exact matchX_f ..) | (unfold matchV;rfl)
 | .str _,a,σ=>by cases a<;>first | (unfold matchV;exact matchX_f ..) | (unfold matchV;rfl)
 | .ptr _ _,a,σ=>by unfold matchV;rfl
 | .nilptr,a,σ=>by unfold matchV;rfl
 | .slice _ _ _ _,a,σ=>by unfold matchV;rfl
 | .nilslice,a,σ=>by unfold matchV;rfl
 | .map _,a,σ=>by unfold matchV;rfl
 | .nilmap,a,σ=>by unfold matchV;rfl
 | .func _ _ _,a,σ=>by unfold matchV;rfl
 | .yield _,a,σ=>by unfold matchV;rfl
 | .nilfunc,a,σ=>by unfold matchV;rfl
 | .iface _ _,a,σ=>by unfold matchV;rfl
 | .niliface,a,σ=>by unfold matchV;rfl
 | .wptr _ _,a,σ=>by unfold matchV;rfl
 | .wslice _ _ _ _,a,σ=>by unfold matchV;rfl
 | .ite _ _ _,a,σ=>by unfold matchV;rfl
 | .sptr _ _ _ _,a,σ=>by unfold matchV;rfl
 | .rest _ _ _ _,a,σ=>by unfold matchV;rfl
 | .xslice _ _ _ _ _ _,a,σ=>by unfold matchV;rfl
 | .xptr _ _ _ _ _,a,σ=>by unfold matchV;rfl
 | .any _,a,σ=>by unfold matchV;rfl
theorem matchVs_f:∀ (l m:List V) (σ:Sub),(matchVs l m σ).f=σ.f
 | v::l,w::m,σ=>by
  unfold matchVs
  rw [matchVs_f l m,matchV_f v w]
 | [],_,_=>by unfold matchVs;rfl
 | _::_,[],_=>by unfold matchVs;rfl
end
section
variable {P:Program} {cx cx0:Cx} {ρ:Env} {S:Nat→Prop} {π0:Pl} {st st':St} {w:World} {L:List (Nat×List V)} {ng:Nat}
end
end Go.Proofs.Ytfmfhnpkganobaa
