/- Symbolic execution, part 34: a run whose variables are filled. No condition. -/
import Derived.Test.YtmickljjofbmiaaGreatDoorFwG
namespace Go.Proofs.YtmickljjofbmiaaGreatDoor
open Go Go.RowKit
noncomputable def Sub.env(σ:Sub)(ρ:Env):Env:={ρ with
 v:=fun i=>match look σ.v i with
  | some x=>x.den ρ
  | none=>ρ.v i
 b:=fun i=>match SN σ i with
  | some c=>c.den ρ
  | none=>ρ.b i
 f1:=fun f=>ρ.f1 (pk σ.f f)
 s:=fun i=>match look σ.s i with
  | some x=>x.bx ρ
  | none=>ρ.s i}
section
variable {ρ:Env} {σ:Sub}
theorem B.aD(b:B):(b.put σ).den ρ=b.den (σ.env ρ):=by
 cases b with
 | zero=>rfl
 | one=>rfl
 | pos i=>
  unfold B.put
  show _=(σ.env ρ).b i
  unfold Sub.env
  dsimp only
  split<;>rename_i h<;>rw [h]
  rfl
 | neg i=>
  unfold B.put
  show _=!(σ.env ρ).b i
  unfold Sub.env
  dsimp only
  split<;>rename_i h<;>rw [h]
  ·rw [B.ga]
  ·rfl
theorem Eb(t:B):∀ l:List B,aw ρ (Jp σ l) (t.put σ)=aw (σ.env ρ) l t
 | []=>by rw [Jp,bk,bk,B.aD]
 | b::l=>by rw [Jp,aB,aB,B.aD,Eb t l]
theorem Q.aaO{q:Q}{c:B}{x:Bool}(hq:q≠.bad)(hw:q.wf):q.want c x≠.bad∧((q.want c x).is ρ↔q.is ρ∧c.den ρ=x)∧(q.want c x).wf:=by
 cases c with
 | zero=>cases x with
  | true=>exact⟨by simp [Q.want],by simp [Q.want,Q.is,B.den],fun m v e=>by cases e⟩
  | false=>exact⟨by simpa [Q.want] using hq,by simp [Q.want,B.den],hw⟩
 | one=>cases x with
  | false=>exact⟨by simp [Q.want],by simp [Q.want,Q.is,B.den],fun m v e=>by cases e⟩
  | true=>exact⟨by simpa [Q.want] using hq,by simp [Q.want,B.den],hw⟩
 | pos j=>exact Q.oA hq hw
 | neg j=>
  obtain⟨h1,h2,h3⟩:=Q.oA (ρ:=ρ) (i:=j) (b:=!x) hq hw
  refine⟨h1,h2.trans ?_,h3⟩
  show _↔_∧(!ρ.b j)=x
  cases ρ.b j<;>cases x<;>simp
theorem v5{m v:Nat}:∀ {n:Nat} {q:Q},q≠.bad→q.wf→nX σ m v n q≠.bad∧((nX σ m v n q).is ρ↔q.is ρ∧∀ i,i<n→m.testBit i=true→(σ.env ρ).b i=v.testBit i)
 | 0,q,hq,hw=>⟨hq,by simp [nX]⟩
 | n+1,q,hq,hw=>by
  unfold nX
  split
  ·rename_i hm
   obtain⟨h1,h2,h3⟩:=Q.aaO (ρ:=ρ) (c:=(B.pos n).put σ) (x:=v.testBit n) hq hw
   obtain⟨h4,h5⟩:=v5 (m:=m) (v:=v) (n:=n) h1 h3
   refine⟨h4,h5.trans ?_⟩
   rw [h2,B.aD]
   constructor
   ·rintro ⟨⟨a,b⟩,c⟩
    refine⟨a,fun i hi hmi=>?_⟩
    rcases Nat.lt_succ_iff_lt_or_eq.1 hi with h | h
    ·exact c i h hmi
    ·subst h;exact b
   ·rintro ⟨a,c⟩
    exact⟨⟨a,c n (by omega) hm⟩,fun i hi hmi=>c i (by omega) hmi⟩
  ·rename_i hm
   obtain⟨h4,h5⟩:=v5 (m:=m) (v:=v) (n:=n) hq hw
   refine⟨h4,h5.trans ?_⟩
   constructor
   ·rintro ⟨a,c⟩
    refine⟨a,fun i hi hmi=>?_⟩
    rcases Nat.lt_succ_iff_lt_or_eq.1 hi with h | h
    ·exact c i h hmi
    ·subst h;rw [hm] at hmi;cases hmi
   ·rintro ⟨a,c⟩
    exact⟨a,fun i hi hmi=>c i (by omega) hmi⟩
theorem Ji(m v:Nat):(Gt σ m v).den ρ=(X.cube m v).den (σ.env ρ):=by
 obtain⟨h1,h2⟩:=v5 (ρ:=ρ) (σ:=σ) (m:=m) (v:=v) (n:=m.log2+1) (q:=.c 0 0) (by simp) wf0
 have key:(nX σ m v (m.log2+1) (.c 0 0)).is ρ↔bw (σ.env ρ) m v=true:=by
  rw [h2,bh]
  constructor
  ·rintro ⟨_,h⟩ i hi
   refine h i ?_ hi
   rcases Nat.lt_or_ge i (m.log2+1) with h1 | h1
   ·exact h1
   ·have h2:m<2 ^ i:=Nat.lt_of_lt_of_le Nat.lt_log2_self (Nat.pow_le_pow_right (by omega) h1)
    rw [Nat.testBit_lt_two_pow h2] at hi
    cases hi
  ·exact fun h=>⟨is0,fun i _ hi=>h i hi⟩
 unfold Gt
 simp only [X.den]
 cases hc:nX σ m v (m.log2+1) (.c 0 0) with
 | bad=>exact absurd hc h1
 | ff=>
  rw [hc] at key
  cases hb:bw (σ.env ρ) m v with
  | true=>exact (key.2 hb).elim
  | false=>rfl
 | c m' v'=>
  rw [hc] at key
  have e:bw ρ m' v'=bw (σ.env ρ) m v:=by
   cases hb:bw (σ.env ρ) m v with
   | true=>exact key.2 hb
   | false=>
    cases hb':bw ρ m' v' with
    | false=>rfl
    | true=>rw [key.1 hb'] at hb;cases hb
  unfold NS
  dsimp only
  split
  ·rename_i hm
   have hm0:m'=0:=Nat.eq_of_beq_eq_true hm
   have:bw ρ m' v'=true:=bh.2 fun i hi=>by rw [hm0] at hi;simp at hi
   rw [←e,this]
   rfl
  ·rw [←e];rfl
theorem QC(a b:X):(mkSeq a b).den ρ=bc (a.bx ρ==b.bx ρ):=by
 have:=p9 ρ a b
 unfold mkSeq at this ⊢
 split at this
 ·simp only [X.tt,X.den,dJ] at this
  simp only [X.den,this]
 ·exact xQ ρ _ _
theorem UN(a b:X):(adm a b).den ρ=a.den ρ+b.den ρ:=by
 unfold adm
 split
 ·rfl
 ·refine fB (ρ:=ρ) (Pr:=fun x:X=>x.den ρ=a.den ρ+b.den ρ) rfl fun l t m u ha hb=>?_
  split
  ·rename_i r s h
   rw [gO,ha,hb,←o6 h]
   simp [bc]
  ·rfl
mutual
theorem X.aD:∀ x:X,(x.put σ).den ρ=x.den (σ.env ρ)
 | .lit n=>by unfold X.put;rfl
 | .var i=>by
  unfold X.put
  show _=(σ.env ρ).v i
  unfold Sub.env
  dsimp only
  split<;>rename_i h<;>rw [h]
  rfl
 | .wrap k a=>by
  have hw:(mkWrap k (a.put σ)).den ρ=(X.wrap k a).den (σ.env ρ):=by rw [iT,X.aD a];rfl
  cases a with
  | add x y=>unfold X.put;rw [w5,X.aD x,X.aD y];rfl
  | sub x y=>unfold X.put;rw [wL,X.aD x,X.aD y];rfl
  | mul x y=>unfold X.put;rw [kN,X.aD x,X.aD y];rfl
  | quo x y=>unfold X.put;rw [CZ,X.aD x,X.aD y];rfl
  | _=>unfold X.put;exact hw
 | .add a b=>by unfold X.put;rw [UN,X.aD a,X.aD b];rfl
 | .sub a b=>by unfold X.put;simp only [X.den,X.aD a,X.aD b]
 | .mul a b=>by unfold X.put;simp only [X.den,X.aD a,X.aD b]
 | .quo a b=>by unfold X.put;simp only [X.den,X.aD a,X.aD b]
 | .rem a b=>by unfold X.put;rw [kE,X.aD a,X.aD b];rfl
 | .bits o k a b=>by unfold X.put;rw [n4,X.aD a,X.aD b];rfl
 | .shl k a b=>by unfold X.put;rw [wS,X.aD a,X.aD b];rfl
 | .shr k a b=>by unfold X.put;rw [iE,X.aD a,X.aD b];rfl
 | .eq a b=>by unfold X.put;rw [Jh,X.aD a,X.aD b];rfl
 | .lt a b=>by unfold X.put;rw [JN,X.aD a,X.aD b];rfl
 | .le a b=>by unfold X.put;rw [BJ,X.aD a,X.aD b];rfl
 | .not a=>by
  unfold X.put
  rw [DG,X.tt,X.aD a]
  show _=bc (a.den (σ.env ρ)==0)
  simp [bne]
 | .ite c a b=>by
  unfold X.put
  rw [gE,X.tt,X.aD c,X.aD a,X.aD b]
  show _=if c.den (σ.env ρ)==0 then _ else _
  by_cases h:c.den (σ.env ρ)=0<;>simp [h]
 | .fn1 f a=>by unfold X.put;simp only [X.den,X.aD a];rfl
 | .fn2 f a b=>by unfold X.put;simp only [X.den,X.aD a,X.aD b];rfl
 | .slen a=>by unfold X.put;rw [wM,X.jB a];rfl
 | .seq a b=>by unfold X.put;rw [QC,X.jB a,X.jB b];rfl
 | .bv l t=>by unfold X.put;rw [gO,Eb];rfl
 | .cube m v=>by unfold X.put;exact Ji m v
 | .btext _ _ _=>by unfold X.put;rfl
 | .slit l=>by unfold X.put;rfl
 | .svar i=>by unfold X.put;rfl
 | .scat a b=>by unfold X.put;rfl
 | .sfn f a=>by unfold X.put;rfl
theorem X.jB:∀ x:X,(x.fi σ).bx ρ=x.bx (σ.env ρ)
 | .svar i=>by
  unfold X.fi
  show _=(σ.env ρ).s i
  unfold Sub.env
  dsimp only
  split<;>rename_i h<;>rw [h]
  rfl
 | .scat a b=>by unfold X.fi;rw [sN,X.jB a,X.jB b];rfl
 | .sfn f a=>by unfold X.fi;simp only [X.bx,X.aD a];rfl
 | .ite c a b=>by
  unfold X.fi
  rw [qs,X.tt,X.aD c,X.jB a,X.jB b]
  show _=if c.den (σ.env ρ)==0 then _ else _
  by_cases h:c.den (σ.env ρ)=0<;>simp [h]
 | .lit n=>by unfold X.fi;rfl
 | .var i=>by unfold X.fi;rfl
 | .wrap k a=>by unfold X.fi;rfl
 | .add a b=>by unfold X.fi;rfl
 | .sub a b=>by unfold X.fi;rfl
 | .mul a b=>by unfold X.fi;rfl
 | .quo a b=>by unfold X.fi;rfl
 | .rem a b=>by unfold X.fi;rfl
 | .bits o k a b=>by unfold X.fi;rfl
 | .shl k a b=>by unfold X.fi;rfl
 | .shr k a b=>by unfold X.fi;rfl
 | .eq a b=>by unfold X.fi;rfl
 | .lt a b=>by unfold X.fi;rfl
 | .le a b=>by unfold X.fi;rfl
 | .not a=>by unfold X.fi;rfl
 | .fn1 f a=>by unfold X.fi;rfl
 | .fn2 f a b=>by unfold X.fi;rfl
 | .slen a=>by unfold X.fi;rfl
 | .seq a b=>by unfold X.fi;rfl
 | .bv l t=>by unfold X.fi;rfl
 | .cube m v=>by unfold X.fi;rfl
 | .btext t a b=>by simp only [X.fi,X.bx,X.aD a,X.aD b];rfl
 | .slit l=>by unfold X.fi;rfl
end
theorem X.zp(x:X):(x.put σ).tt ρ=x.tt (σ.env ρ):=by rw [X.tt,X.aD];rfl
theorem XC.Sk(π:Pl)(b o:Nat)(c:XC):(c.put σ).ae ρ π b o=c.ae (σ.env ρ) π b o:=by cases c<;>simp only [XC.put,XC.ae,X.aD]
theorem CS {l:List (Nat×Nat×Nat)} {t:Nat}:∀ {m:Nat},jY l t m=true→∀ c,c<m→pk l (t+c)=pk l t+c
 | 0,_,c,hc=>absurd hc (Nat.not_lt_zero c)
 | m+1,h,c,hc=>by
  unfold jY at h
  split at h
  ·rename_i he
   rcases Nat.lt_succ_iff_lt_or_eq.1 hc with h1 | rfl
   ·exact CS h c h1
   ·exact Nat.eq_of_beq_eq_true he
  ·cases h
theorem iB{t:Nat}:∀ {m:Nat},jY [] t m=true
 | 0=>rfl
 | m+1=>by
  unfold jY
  rw [show Nat.beq (pk [] (t+m)) (pk [] t+m)=true from Nat.beq_refl _]
  exact iB
theorem A.iB{m:Nat}:∀ {a:A},a.jY [] m=true
 | .base _=>Go.Proofs.YtmickljjofbmiaaGreatDoor.iB
 | .fill _=>rfl
 | .put a _ _ _=>A.iB (a:=a)
theorem av.P3{o:av}:o.ym []=true:=by
 cases o<;>first | rfl | exact A.iB | exact iB
theorem A.qL(k:CK){c m:Nat}(hc:c<m)(j:Int):∀ {a:A},a.jY σ.f m=true→(a.subst σ).den ρ k c j=a.den (σ.env ρ) k c j
 | .base t,h=>by
  have h1:=CS h c hc
  cases k with
  | int k=>show k.wrap (ρ.f1 (pk σ.f t+c) j)=k.wrap (ρ.f1 (pk σ.f (t+c)) j);rw [h1]
  | bool=>show bc (ρ.f1 (pk σ.f t+c) j==1)=bc (ρ.f1 (pk σ.f (t+c)) j==1);rw [h1]
 | .fill x,_=>by simp only [A.subst,A.den,X.aD]
 | .put a i c' x,h=>by simp only [A.subst,A.den,X.aD,A.qL k hc j (a:=a) h]
mutual
theorem V.lD(π:Pl):∀ v:V,(v.put σ).ae ρ π=v.ae (σ.env ρ) π
 | .int k x=>by simp only [V.put,V.ae,X.aD]
 | .bool x=>by simp only [V.put,V.ae,X.zp]
 | .str x=>by simp only [V.put,V.ae,X.jB]
 | .ptr b o=>rfl
 | .nilptr=>rfl
 | .slice b o n c=>rfl
 | .nilslice=>rfl
 | .map b=>rfl
 | .nilmap=>rfl
 | .func f a c=>by simp only [V.put,V.ae,V.fJ π a,V.fJ π c]
 | .yield b=>rfl
 | .nilfunc=>rfl
 | .iface t v=>by simp only [V.put,V.ae,V.lD π v]
 | .niliface=>rfl
 | .agg l=>by simp only [V.put,V.ae,V.fJ π l]
 | .tuple l=>by simp only [V.put,V.ae,V.fJ π l]
 | .wptr b o=>rfl
 | .wslice b o n c=>by simp only [V.put,V.ae,X.aD];rfl
 | .ite c a b=>by simp only [V.put,V.ae,X.zp,V.lD π a,V.lD π b]
 | .sptr b o n i=>by simp only [V.put,V.ae,X.aD]
 | .rest _ _ _ _=>rfl
 | .xslice w b off es len cap=>by simp only [V.put,V.ae,X.aD,XC.Sk];rfl
 | .xptr w b i es c=>by simp only [V.put,V.ae,X.aD];rfl
 | .any _=>rfl
theorem V.fJ(π:Pl):∀ l:List V,V.af ρ π (V.sj σ l)=V.af (σ.env ρ) π l
 | []=>rfl
 | v::l=>by simp only [V.sj,V.af,V.lD π v,V.fJ π l]
end
theorem V.pA:∀ l:List V,(V.sj σ l).length=l.length
 | []=>rfl
 | _::l=>by simp [V.sj,V.pA l]
theorem lY(π:Pl):∀ es:List (V×V),entriesOf ρ π (Dy σ es)=entriesOf (σ.env ρ) π es
 | []=>rfl
 | (k,v)::l=>by
  have:=lY π l
  simp only [entriesOf] at this
  simp only [entriesOf,Dy,List.map_cons,V.lD,this]
theorem av.WD{π:Pl}{b:Nat}{ob:Obj}:∀ {o:av},o.plain=true→o.ym σ.f=true→o.is (σ.env ρ) π b ob→(o.put σ).is ρ π b ob
 | .cells c e w,_,_,⟨spare,h1,h2⟩=>⟨spare,by rw [V.fJ];exact h1,by rw [V.pA];exact h2⟩
 | .map es,_,_,⟨ms,clock,h1,h2,h3⟩=>⟨ms,clock,h1,by rw [lY];exact h2,by rw [lY];exact h3⟩
 | .loop _ _ _ _ _ _ _,h,_,_=>by simp [av.plain] at h
 | .deferred _,h,_,_=>by simp [av.plain] at h
 | .ro _ _,h,_,_=>by simp [av.plain] at h
 | .win _ _ _ _,h,_,_=>by simp [av.plain] at h
 | .iter _,h,_,_=>by simp [av.plain] at h
 | .arr a ks len e w,_,hs,⟨cs,h1,h2,h3,h4⟩=>⟨cs,h1,by rw [X.aD];exact h2,h3,fun j c k hj hk=>by rw [X.aD] at hj;rw [A.qL k (List.getElem?_eq_some_iff.1 hk).1 j hs];exact h4 j c k hj hk⟩
 | .warr _ _ _ _,h,_,_=>by simp [av.plain] at h
mutual
theorem V.iO:∀ v:V,(v.put σ).bQ=v.bQ
 | .int _ _=>rfl
 | .bool _=>rfl
 | .str _=>rfl
 | .ptr _ _=>rfl
 | .nilptr=>rfl
 | .slice _ _ _ _=>rfl
 | .nilslice=>rfl
 | .map _=>rfl
 | .nilmap=>rfl
 | .func f a c=>by simp only [V.put,V.bQ,V.fw a,V.fw c]
 | .yield _=>rfl
 | .nilfunc=>rfl
 | .iface t v=>by simp only [V.put,V.bQ,V.iO v]
 | .niliface=>rfl
 | .agg l=>by simp only [V.put,V.bQ,V.fw l]
 | .tuple l=>by simp only [V.put,V.bQ,V.fw l]
 | .wptr _ _=>rfl
 | .wslice _ _ _ _=>rfl
 | .ite c a b=>by simp only [V.put,V.bQ,V.iO a,V.iO b]
 | .sptr _ _ _ _=>rfl
 | .rest _ _ _ _=>rfl
 | .xslice w _ _ _ _ cap=>by cases w<;>cases cap<;>rfl
 | .xptr _ _ _ _ _=>rfl
 | .any _=>rfl
theorem V.fw:∀ l:List V,V.fq (V.sj σ l)=V.fq l
 | []=>rfl
 | v::l=>by simp only [V.sj,V.fq,V.iO v,V.fw l]
end
theorem pq:∀ es:List (V×V),mw (Dy σ es)=mw es
 | []=>rfl
 | (k,v)::l=>by simp only [Dy,mw,V.iO,pq l]
theorem av.Cr{o:av}(h:o.plain=true):(o.put σ).plain=true:=by
 cases o with
 | cells c e w=>simp only [av.plain,av.put,V.fw] at h ⊢;exact h
 | map es=>simp only [av.plain,av.put,pq] at h ⊢;exact h
 | arr _ _ _ _ _=>rfl
 | _=>simp [av.plain] at h
theorem ql:∀ {l:List (Nat×av)} {x:Nat×av},x∈dY σ l→∃ o,(x.1,o)∈l∧x.2=o.put σ
 | [],x,h=>by simp [dY] at h
 | (b,o)::l,x,h=>by
  unfold dY at h
  rcases List.mem_cons.1 h with rfl | h
  ·exact⟨o,by simp,rfl⟩
  ·obtain⟨o',h1,h2⟩:=ql h
   exact⟨o',by simp [h1],h2⟩
end
theorem vj{σ:Sub}{i:Nat}{c:B}:(vO σ i c).f=σ.f:=by
 unfold vO
 split<;>rfl
theorem xq:∀ (ps l:List B) (t:B) (σ:Sub),(qv ps l t σ).f=σ.f
 | [],_,_,_=>rfl
 | p::ps,[],t,σ=>by
  unfold qv
  dsimp only
  rw [xq ps]
  split
  ·exact vj
  ·rfl
 | p::ps,c::l,t,σ=>by
  unfold qv
  dsimp only
  rw [xq ps]
  split
  ·exact vj
  ·rfl
theorem alx(p a:X)(σ:Sub):(BL p a σ).f=σ.f:=by
 unfold BL
 split
 ·rfl
 ·rfl
 ·rfl
 ·split
  ·exact xq ..
  ·rfl
 ·split
  ·exact vj
  ·exact vj
  ·rfl
 ·rfl
mutual
theorem matchV_f:∀ (p a:V) (σ:Sub),(acQ p a σ).f=σ.f
 | .agg l,a,σ=>by cases a<;>first | (unfold acQ;exact DA l _ σ) | (unfold acQ;rfl)
 | .tuple l,a,σ=>by cases a<;>first | (unfold acQ;exact DA l _ σ) | (unfold acQ;rfl)
 | .int _ _,a,σ=>by cases a<;>first | (unfold acQ;exact alx ..) | (unfold acQ;rfl)
 | .bool _,a,σ=>by cases a<;>first | (unfold acQ;exact alx ..) | (unfold acQ;rfl)
 | .str _,a,σ=>by cases a<;>first | (unfold acQ;exact alx ..) | (unfold acQ;rfl)
 | .ptr _ _,a,σ=>by unfold acQ;rfl
 | .nilptr,a,σ=>by unfold acQ;rfl
 | .slice _ _ _ _,a,σ=>by unfold acQ;rfl
 | .nilslice,a,σ=>by unfold acQ;rfl
 | .map _,a,σ=>by unfold acQ;rfl
 | .nilmap,a,σ=>by unfold acQ;rfl
 | .func _ _ _,a,σ=>by unfold acQ;rfl
 | .yield _,a,σ=>by unfold acQ;rfl
 | .nilfunc,a,σ=>by unfold acQ;rfl
 | .iface _ _,a,σ=>by unfold acQ;rfl
 | .niliface,a,σ=>by unfold acQ;rfl
 | .wptr _ _,a,σ=>by unfold acQ;rfl
 | .wslice _ _ _ _,a,σ=>by unfold acQ;rfl
 | .ite _ _ _,a,σ=>by unfold acQ;rfl
 | .sptr _ _ _ _,a,σ=>by unfold acQ;rfl
 | .rest _ _ _ _,a,σ=>by unfold acQ;rfl
 | .xslice _ _ _ _ _ _,a,σ=>by unfold acQ;rfl
 | .xptr _ _ _ _ _,a,σ=>by unfold acQ;rfl
 | .any _,a,σ=>by unfold acQ;rfl
theorem DA:∀ (l m:List V) (σ:Sub),(kf l m σ).f=σ.f
 | v::l,w::m,σ=>by
  unfold kf
  rw [DA l m,matchV_f v w]
 | [],_,_=>by unfold kf;rfl
 | _::_,[],_=>by unfold kf;rfl
end
section
variable {P:Program} {cx cx0:Cx} {ρ:Env} {S:Nat→Prop} {π0:Pl} {st st':St} {w:World} {L:List (Nat×List V)} {ng:Nat}
theorem xm{σ:Sub}{v:V}:∀ {r:R Leaf} {st:St},au ρ st.pc→(AI ng σ r st).ai ρ=some (v,st')→
  ∃ lf st1,r.ai (σ.env ρ)=some lf∧cC ρ st st1∧v=(lf.v.put σ).lR (sh st1.n ng)∧st'={h:=fl (sh st1.n ng) (dY σ lf.objs) st1.h,n:=st1.n+(lf.n-ng),pc:=st1.pc}
 | .ok lf,st,hp,h=>by
  simp only [AI,R.ai,Option.some.injEq,Prod.mk.injEq] at h
  exact⟨lf,st,rfl,.refl hp,h.1.symm,h.2.symm⟩
 | .br c t f,st,hp,h=>by
  unfold AI at h
  obtain⟨st1,hl,h1⟩:=aV hp h
  rw [X.zp] at h1
  split at h1
  ·rename_i hc
   obtain⟨lf,st2,h2,h3,h4⟩:=xm hl.pc h1
   exact⟨lf,st2,by unfold R.ai;rw [if_pos hc];exact h2,hl.trans h3,h4⟩
  ·rename_i hc
   obtain⟨lf,st2,h2,h3,h4⟩:=xm hl.pc h1
   exact⟨lf,st2,by unfold R.ai;rw [if_neg (by simp [hc])];exact h2,hl.trans h3,h4⟩
 | .stuck _,_,_,h=>by simp [AI,R.ai] at h
theorem qM(hmix:P.follows .mixedOrders=true)(htt:oU P cx0.tt)(hft:vo P cx0.ft)(hsm:∀ ρ':Env,ρ'.ro=ρ.ro→SumOk P cx0 ρ')(hng:cx.ng=ng)(hng0:cx0.ng=ng)(hL:∀ x∈L,x.1<ng)(hro:∀ ρ':Env,ρ'.ro=ρ.ro→RoAt ρ' L)
  {N:Nat} {f:FuncId} {fn:Func} (hfn:P.funcs[f]?=some fn):∀ {t:List (List V×R Leaf)},bG cx0 L ng N f t→ct P cx ρ f (bX L ng t)
 | [],_,args,st,v,st',h,_,_,_,_,_,_,_=>by simp [bX,R.ai] at h
 | (a0,tr)::l,ht,args,st,v,st',h,S,π0,w,ac,n,hh,ha=>by
  unfold bX at h
  generalize hσ:kf a0 args {v:=[],n:=0,b:=[],s:=[]}=σ at h
  dsimp only at h
  split at h
  ·exact qM hmix htt hft hsm hng hng0 hL hro hfn (fun x hx=>ht x (List.mem_cons_of_mem _ hx)) args st v st' h S π0 w ac n hh ha
  split at h
  ·rename_i hb
   obtain rfl:=V.bJ _ _ hb
   have hσf:σ.f=[]:=by rw [←hσ];exact DA _ _ _
   split at h
   ·rename_i hthere
    obtain⟨lf,st1,h1,hl,rfl,rfl⟩:=xm hh.pc h
    obtain⟨h2,h3⟩:=ht _ (List.mem_cons_self ..)
    dsimp only at h2 h3
    rw [←h3] at h1
    obtain⟨st2,h4,h5,hnw,h6,h7⟩:=iS h1
    have hh1:=hh.fP hl
    have hobjs:∀ x∈dY σ lf.objs,ng≤x.1∧∃ o,st2.h.get x.1=some o∧(x.2.plain=true∧o.bR=false)∧∀ π b ob,o.is (σ.env ρ) π b ob→x.2.is ρ π b ob:=by
     intro x hx
     obtain⟨o,h8,h9⟩:=ql hx
     rw [h6] at h8
     obtain⟨a1,a2,a3⟩:=fu _ h8
     exact⟨a1,o,a2,⟨by rw [h9];exact av.Cr a3,av.lC a3⟩,fun π b ob ho=>by rw [h9];exact av.WD a3 (by rw [hσf];exact av.P3) ho⟩
    have hae:∀ π,V.af ρ π (V.sj σ a0)=V.af (σ.env ρ) π a0:=fun π=>V.fJ π a0
    have:=si (ρ:=ρ) (ρ':=σ.env ρ) hmix htt hft (hsm _ rfl) hng hng0 hL (hro _ rfl) rfl h4 h5 (v':=lf.v.put σ) (fun π=>V.lD π lf.v) (by rw [V.iO];exact hnw) hobjs h2 hfn hh1 (by rw [hl.h];exact hthere) (fun π hk=>(hae π).symm.trans (ha π hk)) (n:=n)
    refine this.mono fun e w' hp=>EPost.fP hl ?_
    rw [h7]
    exact hp
   ·simp [R.ai] at h
  ·exact qM hmix htt hft hsm hng hng0 hL hro hfn (fun x hx=>ht x (List.mem_cons_of_mem _ hx)) args st v st' h S π0 w ac n hh ha
end
end Go.Proofs.YtmickljjofbmiaaGreatDoor
