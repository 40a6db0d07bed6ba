/- Symbolic execution, part 34: a run whose variables are filled. No condition. -/
import Derived.Test.YtmickljjofbmiaaGreatDoorFwG
namespace Go.Proofs.YtmickljjofbmiaaGreatDoor
open Go Go.RowKit
noncomputable def Sub.env(σ:Sub)(ρ:Env):Env:={ρ with
 v:=fun i=>match look σ.v i with
  | some x=>x.den ρ
  | none=>ρ.v i
 b:=fun i=>match lookB σ i with
  | some c=>c.den ρ
  | none=>ρ.b i
 f1:=fun f=>ρ.f1 (symR σ.f f)
 s:=fun i=>match look σ.s i with
  | some x=>x.sden ρ
  | none=>ρ.s i}
section
variable {ρ:Env} {σ:Sub}
theorem B.put_den(b:B):(b.put σ).den ρ=b.den (σ.env ρ):=by
 cases b with
 | zero=>rfl
 | one=>rfl
 | pos i=>
  unfold B.put
  show _=(σ.env ρ).b i
  unfold Sub.env
  dsimp only
  split<;>rename_i h<;>rw [h]
  rfl
 | neg i=>
  unfold B.put
  show _=!(σ.env ρ).b i
  unfold Sub.env
  dsimp only
  split<;>rename_i h<;>rw [h]
  ·rw [B.not_den]
  ·rfl
theorem putBs_den(t:B):∀ l:List B,bvDen ρ (putBs σ l) (t.put σ)=bvDen (σ.env ρ) l t
 | []=>by rw [putBs,bvDen_nil,bvDen_nil,B.put_den]
 | b::l=>by rw [putBs,bvDen_cons,bvDen_cons,B.put_den,putBs_den t l]
theorem Q.want_is{q:Q}{c:B}{x:Bool}(hq:q≠.bad)(hw:q.wf):q.want c x≠.bad∧((q.want c x).is ρ↔q.is ρ∧c.den ρ=x)∧(q.want c x).wf:=by
 cases c with
 | zero=>cases x with
  | true=>exact⟨by simp [Q.want],by simp [Q.want,Q.is,B.den],fun m v e=>by cases e⟩
  | false=>exact⟨by simpa [Q.want] using hq,by simp [Q.want,B.den],hw⟩
 | one=>cases x with
  | false=>exact⟨by simp [Q.want],by simp [Q.want,Q.is,B.den],fun m v e=>by cases e⟩
  | true=>exact⟨by simpa [Q.want] using hq,by simp [Q.want,B.den],hw⟩
 | pos j=>exact Q.with_is hq hw
 | neg j=>
  obtain⟨h1,h2,h3⟩:=Q.with_is (ρ:=ρ) (i:=j) (b:=!x) hq hw
  refine⟨h1,h2.trans ?_,h3⟩
  show _↔_∧(!ρ.b j)=x
  cases ρ.b j<;>cases x<;>simp
theorem cubeGo_is{m v:Nat}:∀ {n:Nat} {q:Q},q≠.bad→q.wf→cubeGo σ m v n q≠.bad∧((cubeGo σ m v n q).is ρ↔q.is ρ∧∀ i,i<n→m.testBit i=true→(σ.env ρ).b i=v.testBit i)
 | 0,q,hq,hw=>⟨hq,by simp [cubeGo]⟩
 | n+1,q,hq,hw=>by
  unfold cubeGo
  split
  ·rename_i hm
   obtain⟨h1,h2,h3⟩:=Q.want_is (ρ:=ρ) (c:=(B.pos n).put σ) (x:=v.testBit n) hq hw
   obtain⟨h4,h5⟩:=cubeGo_is (m:=m) (v:=v) (n:=n) h1 h3
   refine⟨h4,h5.trans ?_⟩
   rw [h2,B.put_den]
   constructor
   ·rintro ⟨⟨a,b⟩,c⟩
    refine⟨a,fun i hi hmi=>?_⟩
    rcases Nat.lt_succ_iff_lt_or_eq.1 hi with h | h
    ·exact c i h hmi
    ·subst h;exact b
   ·rintro ⟨a,c⟩
    exact⟨⟨a,c n (by omega) hm⟩,fun i hi hmi=>c i (by omega) hmi⟩
  ·rename_i hm
   obtain⟨h4,h5⟩:=cubeGo_is (m:=m) (v:=v) (n:=n) hq hw
   refine⟨h4,h5.trans ?_⟩
   constructor
   ·rintro ⟨a,c⟩
    refine⟨a,fun i hi hmi=>?_⟩
    rcases Nat.lt_succ_iff_lt_or_eq.1 hi with h | h
    ·exact c i h hmi
    ·subst h;rw [hm] at hmi;cases hmi
   ·rintro ⟨a,c⟩
    exact⟨a,fun i hi hmi=>c i (by omega) hmi⟩
theorem cubePut_den(m v:Nat):(cubePut σ m v).den ρ=(X.cube m v).den (σ.env ρ):=by
 obtain⟨h1,h2⟩:=cubeGo_is (ρ:=ρ) (σ:=σ) (m:=m) (v:=v) (n:=m.log2+1) (q:=.c 0 0) (by simp) wf0
 have key:(cubeGo σ m v (m.log2+1) (.c 0 0)).is ρ↔cubeB (σ.env ρ) m v=true:=by
  rw [h2,cubeB_iff]
  constructor
  ·rintro ⟨_,h⟩ i hi
   refine h i ?_ hi
   rcases Nat.lt_or_ge i (m.log2+1) with h1 | h1
   ·exact h1
   ·have h2:m<2 ^ i:=Nat.lt_of_lt_of_le Nat.lt_log2_self (Nat.pow_le_pow_right (by omega) h1)
    rw [Nat.testBit_lt_two_pow h2] at hi
    cases hi
  ·exact fun h=>⟨is0,fun i _ hi=>h i hi⟩
 unfold cubePut
 simp only [X.den]
 cases hc:cubeGo σ m v (m.log2+1) (.c 0 0) with
 | bad=>exact absurd hc h1
 | ff=>
  rw [hc] at key
  cases hb:cubeB (σ.env ρ) m v with
  | true=>exact (key.2 hb).elim
  | false=>rfl
 | c m' v'=>
  rw [hc] at key
  have e:cubeB ρ m' v'=cubeB (σ.env ρ) m v:=by
   cases hb:cubeB (σ.env ρ) m v with
   | true=>exact key.2 hb
   | false=>
    cases hb':cubeB ρ m' v' with
    | false=>rfl
    | true=>rw [key.1 hb'] at hb;cases hb
  unfold ofQ
  dsimp only
  split
  ·rename_i hm
   have hm0:m'=0:=Nat.eq_of_beq_eq_true hm
   have:cubeB ρ m' v'=true:=cubeB_iff.2 fun i hi=>by rw [hm0] at hi;simp at hi
   rw [←e,this]
   rfl
  ·rw [←e];rfl
theorem mkSeq_den(a b:X):(mkSeq a b).den ρ=b2i (a.sden ρ==b.sden ρ):=by
 have:=mkSeq_tt ρ a b
 unfold mkSeq at this ⊢
 split at this
 ·simp only [X.tt,X.den,b2i_tt] at this
  simp only [X.den,this]
 ·exact seqRest_den ρ _ _
theorem addE_den(a b:X):(addE a b).den ρ=a.den ρ+b.den ρ:=by
 unfold addE
 split
 ·rfl
 ·refine bothB_elim (ρ:=ρ) (Pr:=fun x:X=>x.den ρ=a.den ρ+b.den ρ) rfl fun l t m u ha hb=>?_
  split
  ·rename_i r s h
   rw [mkBv_den,ha,hb,←addB_den h]
   simp [b2i]
  ·rfl
mutual
theorem X.put_den:∀ x:X,(x.put σ).den ρ=x.den (σ.env ρ)
 | .lit n=>by unfold X.put;rfl
 | .var i=>by
  unfold X.put
  show _=(σ.env ρ).v i
  unfold Sub.env
  dsimp only
  split<;>rename_i h<;>rw [h]
  rfl
 | .wrap k a=>by
  have hw:(mkWrap k (a.put σ)).den ρ=(X.wrap k a).den (σ.env ρ):=by rw [mkWrap_den,X.put_den a];rfl
  cases a with
  | add x y=>unfold X.put;rw [mkAdd_den,X.put_den x,X.put_den y];rfl
  | sub x y=>unfold X.put;rw [mkSub_den,X.put_den x,X.put_den y];rfl
  | mul x y=>unfold X.put;rw [mkMul_den,X.put_den x,X.put_den y];rfl
  | quo x y=>unfold X.put;rw [mkQuo_den,X.put_den x,X.put_den y];rfl
  | _=>unfold X.put;exact hw
 | .add a b=>by unfold X.put;rw [addE_den,X.put_den a,X.put_den b];rfl
 | .sub a b=>by unfold X.put;simp only [X.den,X.put_den a,X.put_den b]
 | .mul a b=>by unfold X.put;simp only [X.den,X.put_den a,X.put_den b]
 | .quo a b=>by unfold X.put;simp only [X.den,X.put_den a,X.put_den b]
 | .rem a b=>by unfold X.put;rw [mkRem_den,X.put_den a,X.put_den b];rfl
 | .bits o k a b=>by unfold X.put;rw [mkBits_den,X.put_den a,X.put_den b];rfl
 | .shl k a b=>by unfold X.put;rw [mkShl_den,X.put_den a,X.put_den b];rfl
 | .shr k a b=>by unfold X.put;rw [mkShr_den,X.put_den a,X.put_den b];rfl
 | .eq a b=>by unfold X.put;rw [mkEq_den,X.put_den a,X.put_den b];rfl
 | .lt a b=>by unfold X.put;rw [mkLt_den,X.put_den a,X.put_den b];rfl
 | .le a b=>by unfold X.put;rw [mkLe_den,X.put_den a,X.put_den b];rfl
 | .not a=>by
  unfold X.put
  rw [mkNot_den,X.tt,X.put_den a]
  show _=b2i (a.den (σ.env ρ)==0)
  simp [bne]
 | .ite c a b=>by
  unfold X.put
  rw [mkIte_den,X.tt,X.put_den c,X.put_den a,X.put_den b]
  show _=if c.den (σ.env ρ)==0 then _ else _
  by_cases h:c.den (σ.env ρ)=0<;>simp [h]
 | .fn1 f a=>by unfold X.put;simp only [X.den,X.put_den a];rfl
 | .fn2 f a b=>by unfold X.put;simp only [X.den,X.put_den a,X.put_den b];rfl
 | .slen a=>by unfold X.put;rw [mkLen_den,X.putS_den a];rfl
 | .seq a b=>by unfold X.put;rw [mkSeq_den,X.putS_den a,X.putS_den b];rfl
 | .bv l t=>by unfold X.put;rw [mkBv_den,putBs_den];rfl
 | .cube m v=>by unfold X.put;exact cubePut_den m v
 | .btext _ _ _=>by unfold X.put;rfl
 | .slit l=>by unfold X.put;rfl
 | .svar i=>by unfold X.put;rfl
 | .scat a b=>by unfold X.put;rfl
 | .sfn f a=>by unfold X.put;rfl
theorem X.putS_den:∀ x:X,(x.putS σ).sden ρ=x.sden (σ.env ρ)
 | .svar i=>by
  unfold X.putS
  show _=(σ.env ρ).s i
  unfold Sub.env
  dsimp only
  split<;>rename_i h<;>rw [h]
  rfl
 | .scat a b=>by unfold X.putS;rw [mkCat_sden,X.putS_den a,X.putS_den b];rfl
 | .sfn f a=>by unfold X.putS;simp only [X.sden,X.put_den a];rfl
 | .ite c a b=>by
  unfold X.putS
  rw [mkIteS_sden,X.tt,X.put_den c,X.putS_den a,X.putS_den b]
  show _=if c.den (σ.env ρ)==0 then _ else _
  by_cases h:c.den (σ.env ρ)=0<;>simp [h]
 | .lit n=>by unfold X.putS;rfl
 | .var i=>by unfold X.putS;rfl
 | .wrap k a=>by unfold X.putS;rfl
 | .add a b=>by unfold X.putS;rfl
 | .sub a b=>by unfold X.putS;rfl
 | .mul a b=>by unfold X.putS;rfl
 | .quo a b=>by unfold X.putS;rfl
 | .rem a b=>by unfold X.putS;rfl
 | .bits o k a b=>by unfold X.putS;rfl
 | .shl k a b=>by unfold X.putS;rfl
 | .shr k a b=>by unfold X.putS;rfl
 | .eq a b=>by unfold X.putS;rfl
 | .lt a b=>by unfold X.putS;rfl
 | .le a b=>by unfold X.putS;rfl
 | .not a=>by unfold X.putS;rfl
 | .fn1 f a=>by unfold X.putS;rfl
 | .fn2 f a b=>by unfold X.putS;rfl
 | .slen a=>by unfold X.putS;rfl
 | .seq a b=>by unfold X.putS;rfl
 | .bv l t=>by unfold X.putS;rfl
 | .cube m v=>by unfold X.putS;rfl
 | .btext t a b=>by simp only [X.putS,X.sden,X.put_den a,X.put_den b];rfl
 | .slit l=>by unfold X.putS;rfl
end
theorem X.put_tt(x:X):(x.put σ).tt ρ=x.tt (σ.env ρ):=by rw [X.tt,X.put_den];rfl
theorem XC.put_conc(π:Pl)(b o:Nat)(c:XC):(c.put σ).conc ρ π b o=c.conc (σ.env ρ) π b o:=by cases c<;>simp only [XC.put,XC.conc,X.put_den]
theorem baseOk_is {l:List (Nat×Nat×Nat)} {t:Nat}:∀ {m:Nat},baseOk l t m=true→∀ c,c<m→symR l (t+c)=symR l t+c
 | 0,_,c,hc=>absurd hc (Nat.not_lt_zero c)
 | m+1,h,c,hc=>by
  unfold baseOk at h
  split at h
  ·rename_i he
   rcases Nat.lt_succ_iff_lt_or_eq.1 hc with h1 | rfl
   ·exact baseOk_is h c h1
   ·exact Nat.eq_of_beq_eq_true he
  ·cases h
theorem baseOk_nil{t:Nat}:∀ {m:Nat},baseOk [] t m=true
 | 0=>rfl
 | m+1=>by
  unfold baseOk
  rw [show Nat.beq (symR [] (t+m)) (symR [] t+m)=true from Nat.beq_refl _]
  exact baseOk_nil
theorem A.baseOk_nil{m:Nat}:∀ {a:A},a.baseOk [] m=true
 | .base _=>Go.Proofs.YtmickljjofbmiaaGreatDoor.baseOk_nil
 | .fill _=>rfl
 | .put a _ _ _=>A.baseOk_nil (a:=a)
theorem SObj.symOk_nil{o:SObj}:o.symOk []=true:=by
 cases o<;>first | rfl | exact A.baseOk_nil | exact baseOk_nil
theorem A.subst_den(k:CK){c m:Nat}(hc:c<m)(j:Int):∀ {a:A},a.baseOk σ.f m=true→(a.subst σ).den ρ k c j=a.den (σ.env ρ) k c j
 | .base t,h=>by
  have h1:=baseOk_is h c hc
  cases k with
  | int k=>show k.wrap (ρ.f1 (symR σ.f t+c) j)=k.wrap (ρ.f1 (symR σ.f (t+c)) j);rw [h1]
  | bool=>show b2i (ρ.f1 (symR σ.f t+c) j==1)=b2i (ρ.f1 (symR σ.f (t+c)) j==1);rw [h1]
 | .fill x,_=>by simp only [A.subst,A.den,X.put_den]
 | .put a i c' x,h=>by simp only [A.subst,A.den,X.put_den,A.subst_den k hc j (a:=a) h]
mutual
theorem V.conc_put(π:Pl):∀ v:V,(v.put σ).conc ρ π=v.conc (σ.env ρ) π
 | .int k x=>by simp only [V.put,V.conc,X.put_den]
 | .bool x=>by simp only [V.put,V.conc,X.put_tt]
 | .str x=>by simp only [V.put,V.conc,X.putS_den]
 | .ptr b o=>rfl
 | .nilptr=>rfl
 | .slice b o n c=>rfl
 | .nilslice=>rfl
 | .map b=>rfl
 | .nilmap=>rfl
 | .func f a c=>by simp only [V.put,V.conc,V.concs_put π a,V.concs_put π c]
 | .yield b=>rfl
 | .nilfunc=>rfl
 | .iface t v=>by simp only [V.put,V.conc,V.conc_put π v]
 | .niliface=>rfl
 | .agg l=>by simp only [V.put,V.conc,V.concs_put π l]
 | .tuple l=>by simp only [V.put,V.conc,V.concs_put π l]
 | .wptr b o=>rfl
 | .wslice b o n c=>by simp only [V.put,V.conc,X.put_den];rfl
 | .ite c a b=>by simp only [V.put,V.conc,X.put_tt,V.conc_put π a,V.conc_put π b]
 | .sptr b o n i=>by simp only [V.put,V.conc,X.put_den]
 | .rest _ _ _ _=>rfl
 | .xslice w b off es len cap=>by simp only [V.put,V.conc,X.put_den,XC.put_conc];rfl
 | .xptr w b i es c=>by simp only [V.put,V.conc,X.put_den];rfl
 | .any _=>rfl
theorem V.concs_put(π:Pl):∀ l:List V,V.concs ρ π (V.puts σ l)=V.concs (σ.env ρ) π l
 | []=>rfl
 | v::l=>by simp only [V.puts,V.concs,V.conc_put π v,V.concs_put π l]
end
theorem V.puts_length:∀ l:List V,(V.puts σ l).length=l.length
 | []=>rfl
 | _::l=>by simp [V.puts,V.puts_length l]
theorem entries_put(π:Pl):∀ es:List (V×V),entriesOf ρ π (putEs σ es)=entriesOf (σ.env ρ) π es
 | []=>rfl
 | (k,v)::l=>by
  have:=entries_put π l
  simp only [entriesOf] at this
  simp only [entriesOf,putEs,List.map_cons,V.conc_put,this]
theorem SObj.is_put{π:Pl}{b:Nat}{ob:Obj}:∀ {o:SObj},o.plain=true→o.symOk σ.f=true→o.is (σ.env ρ) π b ob→(o.put σ).is ρ π b ob
 | .cells c e w,_,_,⟨spare,h1,h2⟩=>⟨spare,by rw [V.concs_put];exact h1,by rw [V.puts_length];exact h2⟩
 | .map es,_,_,⟨ms,clock,h1,h2,h3⟩=>⟨ms,clock,h1,by rw [entries_put];exact h2,by rw [entries_put];exact h3⟩
 | .loop _ _ _ _ _ _ _,h,_,_=>by simp [SObj.plain] at h
 | .deferred _,h,_,_=>by simp [SObj.plain] at h
 | .ro _ _,h,_,_=>by simp [SObj.plain] at h
 | .win _ _ _ _,h,_,_=>by simp [SObj.plain] at h
 | .iter _,h,_,_=>by simp [SObj.plain] at h
 | .arr a ks len e w,_,hs,⟨cs,h1,h2,h3,h4⟩=>⟨cs,h1,by rw [X.put_den];exact h2,h3,fun j c k hj hk=>by rw [X.put_den] at hj;rw [A.subst_den k (List.getElem?_eq_some_iff.1 hk).1 j hs];exact h4 j c k hj hk⟩
 | .warr _ _ _ _,h,_,_=>by simp [SObj.plain] at h
mutual
theorem V.noWin_put:∀ v:V,(v.put σ).noWin=v.noWin
 | .int _ _=>rfl
 | .bool _=>rfl
 | .str _=>rfl
 | .ptr _ _=>rfl
 | .nilptr=>rfl
 | .slice _ _ _ _=>rfl
 | .nilslice=>rfl
 | .map _=>rfl
 | .nilmap=>rfl
 | .func f a c=>by simp only [V.put,V.noWin,V.noWins_put a,V.noWins_put c]
 | .yield _=>rfl
 | .nilfunc=>rfl
 | .iface t v=>by simp only [V.put,V.noWin,V.noWin_put v]
 | .niliface=>rfl
 | .agg l=>by simp only [V.put,V.noWin,V.noWins_put l]
 | .tuple l=>by simp only [V.put,V.noWin,V.noWins_put l]
 | .wptr _ _=>rfl
 | .wslice _ _ _ _=>rfl
 | .ite c a b=>by simp only [V.put,V.noWin,V.noWin_put a,V.noWin_put b]
 | .sptr _ _ _ _=>rfl
 | .rest _ _ _ _=>rfl
 | .xslice w _ _ _ _ cap=>by cases w<;>cases cap<;>rfl
 | .xptr _ _ _ _ _=>rfl
 | .any _=>rfl
theorem V.noWins_put:∀ l:List V,V.noWins (V.puts σ l)=V.noWins l
 | []=>rfl
 | v::l=>by simp only [V.puts,V.noWins,V.noWin_put v,V.noWins_put l]
end
theorem noWinEs_put:∀ es:List (V×V),noWinEs (putEs σ es)=noWinEs es
 | []=>rfl
 | (k,v)::l=>by simp only [putEs,noWinEs,V.noWin_put,noWinEs_put l]
theorem SObj.plain_put{o:SObj}(h:o.plain=true):(o.put σ).plain=true:=by
 cases o with
 | cells c e w=>simp only [SObj.plain,SObj.put,V.noWins_put] at h ⊢;exact h
 | map es=>simp only [SObj.plain,SObj.put,noWinEs_put] at h ⊢;exact h
 | arr _ _ _ _ _=>rfl
 | _=>simp [SObj.plain] at h
theorem putObjs_mem:∀ {l:List (Nat×SObj)} {x:Nat×SObj},x∈putObjs σ l→∃ o,(x.1,o)∈l∧x.2=o.put σ
 | [],x,h=>by simp [putObjs] at h
 | (b,o)::l,x,h=>by
  unfold putObjs at h
  rcases List.mem_cons.1 h with rfl | h
  ·exact⟨o,by simp,rfl⟩
  ·obtain⟨o',h1,h2⟩:=putObjs_mem h
   exact⟨o',by simp [h1],h2⟩
end
theorem addBit_f{σ:Sub}{i:Nat}{c:B}:(addBit σ i c).f=σ.f:=by
 unfold addBit
 split<;>rfl
theorem matchBs_f:∀ (ps l:List B) (t:B) (σ:Sub),(matchBs ps l t σ).f=σ.f
 | [],_,_,_=>rfl
 | p::ps,[],t,σ=>by
  unfold matchBs
  dsimp only
  rw [matchBs_f ps]
  split
  ·exact addBit_f
  ·rfl
 | p::ps,c::l,t,σ=>by
  unfold matchBs
  dsimp only
  rw [matchBs_f ps]
  split
  ·exact addBit_f
  ·rfl
theorem matchX_f(p a:X)(σ:Sub):(matchX p a σ).f=σ.f:=by
 unfold matchX
 split
 ·rfl
 ·rfl
 ·rfl
 ·split
  ·exact matchBs_f ..
  ·rfl
 ·split
  ·exact addBit_f
  ·exact addBit_f
  ·rfl
 ·rfl
mutual
theorem matchV_f:∀ (p a:V) (σ:Sub),(matchV p a σ).f=σ.f
 | .agg l,a,σ=>by cases a<;>first | (unfold matchV;exact matchVs_f l _ σ) | (unfold matchV;rfl)
 | .tuple l,a,σ=>by cases a<;>first | (unfold matchV;exact matchVs_f l _ σ) | (unfold matchV;rfl)
 | .int _ _,a,σ=>by cases a<;>first | (unfold matchV;exact matchX_f ..) | (unfold matchV;rfl)
 | .bool _,a,σ=>by cases a<;>first | (unfold matchV;exact matchX_f ..) | (unfold matchV;rfl)
 | .str _,a,σ=>by cases a<;>first | (unfold matchV;exact matchX_f ..) | (unfold matchV;rfl)
 | .ptr _ _,a,σ=>by unfold matchV;rfl
 | .nilptr,a,σ=>by unfold matchV;rfl
 | .slice _ _ _ _,a,σ=>by unfold matchV;rfl
 | .nilslice,a,σ=>by unfold matchV;rfl
 | .map _,a,σ=>by unfold matchV;rfl
 | .nilmap,a,σ=>by unfold matchV;rfl
 | .func _ _ _,a,σ=>by unfold matchV;rfl
 | .yield _,a,σ=>by unfold matchV;rfl
 | .nilfunc,a,σ=>by unfold matchV;rfl
 | .iface _ _,a,σ=>by unfold matchV;rfl
 | .niliface,a,σ=>by unfold matchV;rfl
 | .wptr _ _,a,σ=>by unfold matchV;rfl
 | .wslice _ _ _ _,a,σ=>by unfold matchV;rfl
 | .ite _ _ _,a,σ=>by unfold matchV;rfl
 | .sptr _ _ _ _,a,σ=>by unfold matchV;rfl
 | .rest _ _ _ _,a,σ=>by unfold matchV;rfl
 | .xslice _ _ _ _ _ _,a,σ=>by unfold matchV;rfl
 | .xptr _ _ _ _ _,a,σ=>by unfold matchV;rfl
 | .any _,a,σ=>by unfold matchV;rfl
theorem matchVs_f:∀ (l m:List V) (σ:Sub),(matchVs l m σ).f=σ.f
 | v::l,w::m,σ=>by
  unfold matchVs
  rw [matchVs_f l m,matchV_f v w]
 | [],_,_=>by unfold matchVs;rfl
 | _::_,[],_=>by unfold matchVs;rfl
end
section
variable {P:Program} {cx cx0:Cx} {ρ:Env} {S:Nat→Prop} {π0:Pl} {st st':St} {w:World} {L:List (Nat×List V)} {ng:Nat}
theorem goPar_sel{σ:Sub}{v:V}:∀ {r:R Leaf} {st:St},PcOk ρ st.pc→(goPar ng σ r st).sel ρ=some (v,st')→
  ∃ lf st1,r.sel (σ.env ρ)=some lf∧Like ρ st st1∧v=(lf.v.put σ).ren (sh st1.n ng)∧st'={h:=putAll (sh st1.n ng) (putObjs σ lf.objs) st1.h,n:=st1.n+(lf.n-ng),pc:=st1.pc}
 | .ok lf,st,hp,h=>by
  simp only [goPar,R.sel,Option.some.injEq,Prod.mk.injEq] at h
  exact⟨lf,st,rfl,.refl hp,h.1.symm,h.2.symm⟩
 | .br c t f,st,hp,h=>by
  unfold goPar at h
  obtain⟨st1,hl,h1⟩:=split_sel hp h
  rw [X.put_tt] at h1
  split at h1
  ·rename_i hc
   obtain⟨lf,st2,h2,h3,h4⟩:=goPar_sel hl.pc h1
   exact⟨lf,st2,by unfold R.sel;rw [if_pos hc];exact h2,hl.trans h3,h4⟩
  ·rename_i hc
   obtain⟨lf,st2,h2,h3,h4⟩:=goPar_sel hl.pc h1
   exact⟨lf,st2,by unfold R.sel;rw [if_neg (by simp [hc])];exact h2,hl.trans h3,h4⟩
 | .stuck _,_,_,h=>by simp [goPar,R.sel] at h
theorem sumPar_ok(hmix:P.follows .mixedOrders=true)(htt:TOk P cx0.tt)(hft:FOk P cx0.ft)(hsm:∀ ρ':Env,ρ'.ro=ρ.ro→SumOk P cx0 ρ')(hng:cx.ng=ng)(hng0:cx0.ng=ng)(hL:∀ x∈L,x.1<ng)(hro:∀ ρ':Env,ρ'.ro=ρ.ro→RoAt ρ' L)
  {N:Nat} {f:FuncId} {fn:Func} (hfn:P.funcs[f]?=some fn):∀ {t:List (List V×R Leaf)},TabOk cx0 L ng N f t→SumAt P cx ρ f (sumPar L ng t)
 | [],_,args,st,v,st',h,_,_,_,_,_,_,_=>by simp [sumPar,R.sel] at h
 | (a0,tr)::l,ht,args,st,v,st',h,S,π0,w,ac,n,hh,ha=>by
  unfold sumPar at h
  generalize hσ:matchVs a0 args {v:=[],n:=0,b:=[],s:=[]}=σ at h
  dsimp only at h
  split at h
  ·exact sumPar_ok hmix htt hft hsm hng hng0 hL hro hfn (fun x hx=>ht x (List.mem_cons_of_mem _ hx)) args st v st' h S π0 w ac n hh ha
  split at h
  ·rename_i hb
   obtain rfl:=V.beqs_eq _ _ hb
   have hσf:σ.f=[]:=by rw [←hσ];exact matchVs_f _ _ _
   split at h
   ·rename_i hthere
    obtain⟨lf,st1,h1,hl,rfl,rfl⟩:=goPar_sel hh.pc h
    obtain⟨h2,h3⟩:=ht _ (List.mem_cons_self ..)
    dsimp only at h2 h3
    rw [←h3] at h1
    obtain⟨st2,h4,h5,hnw,h6,h7⟩:=leafOf_sel h1
    have hh1:=hh.like hl
    have hobjs:∀ x∈putObjs σ lf.objs,ng≤x.1∧∃ o,st2.h.get x.1=some o∧(x.2.plain=true∧o.froz=false)∧∀ π b ob,o.is (σ.env ρ) π b ob→x.2.is ρ π b ob:=by
     intro x hx
     obtain⟨o,h8,h9⟩:=putObjs_mem hx
     rw [h6] at h8
     obtain⟨a1,a2,a3⟩:=keepOf_mem _ h8
     exact⟨a1,o,a2,⟨by rw [h9];exact SObj.plain_put a3,SObj.plain_thaw a3⟩,fun π b ob ho=>by rw [h9];exact SObj.is_put a3 (by rw [hσf];exact SObj.symOk_nil) ho⟩
    have hae:∀ π,V.concs ρ π (V.puts σ a0)=V.concs (σ.env ρ) π a0:=fun π=>V.concs_put π a0
    have:=leaf_post2 (ρ:=ρ) (ρ':=σ.env ρ) hmix htt hft (hsm _ rfl) hng hng0 hL (hro _ rfl) rfl h4 h5 (v':=lf.v.put σ) (fun π=>V.conc_put π lf.v) (by rw [V.noWin_put];exact hnw) hobjs h2 hfn hh1 (by rw [hl.h];exact hthere) (fun π hk=>(hae π).symm.trans (ha π hk)) (n:=n)
    refine this.mono fun e w' hp=>EPost.like hl ?_
    rw [h7]
    exact hp
   ·simp [R.sel] at h
  ·exact sumPar_ok hmix htt hft hsm hng hng0 hL hro hfn (fun x hx=>ht x (List.mem_cons_of_mem _ hx)) args st v st' h S π0 w ac n hh ha
end
end Go.Proofs.YtmickljjofbmiaaGreatDoor
