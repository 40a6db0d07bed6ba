/- Symbolic execution, part 34: a run whose variables are filled. No condition. -/
import Derived.Test.YtmickljjofbmiaaGreatDoorFwG
namespace Go.Proofs.YtmickljjofbmiaaGreatDoor
open Go Go.RowKit
noncomputable def Sub.env(σ:Sub)(ρ:Env):Env:={ρ with
 v:=fun i=>match look σ.v i with
  | some x=>x.den ρ
  | none=>ρ.v i
 b:=fun i=>match R9 σ i with
  | some c=>c.den ρ
  | none=>ρ.b i
 f1:=fun f=>ρ.f1 (pJ σ.f f)
 s:=fun i=>match look σ.s i with
  | some x=>x.bw ρ
  | none=>ρ.s i}
section
variable {ρ:Env} {σ:Sub}
theorem B.aE(b:B):(b.put σ).den ρ=b.den (σ.env ρ):=by
 cases b with
 | zero=>rfl
 | one=>rfl
 | pos i=>
  unfold B.put
  show _=(σ.env ρ).b i
  unfold Sub.env
  dsimp only
  split<;>rename_i h<;>rw [h]
  rfl
 | neg i=>
  unfold B.put
  show _=!(σ.env ρ).b i
  unfold Sub.env
  dsimp only
  split<;>rename_i h<;>rw [h]
  ·rw [B.fM]
  ·rfl
theorem CS(t:B):∀ l:List B,ar ρ (II σ l) (t.put σ)=ar (σ.env ρ) l t
 | []=>by rw [II,a8,a8,B.aE]
 | b::l=>by rw [II,aB,aB,B.aE,CS t l]
theorem Q.Y8{q:Q}{c:B}{x:Bool}(hq:q≠.bad)(hw:q.wf):q.want c x≠.bad∧((q.want c x).is ρ↔q.is ρ∧c.den ρ=x)∧(q.want c x).wf:=by
 cases c with
 | zero=>cases x with
  | true=>exact⟨by simp [Q.want],by simp [Q.want,Q.is,B.den],fun m v e=>by cases e⟩
  | false=>exact⟨by simpa [Q.want] using hq,by simp [Q.want,B.den],hw⟩
 | one=>cases x with
  | false=>exact⟨by simp [Q.want],by simp [Q.want,Q.is,B.den],fun m v e=>by cases e⟩
  | true=>exact⟨by simpa [Q.want] using hq,by simp [Q.want,B.den],hw⟩
 | pos j=>exact Q.nS hq hw
 | neg j=>
  obtain⟨h1,h2,h3⟩:=Q.nS (ρ:=ρ) (i:=j) (b:=!x) hq hw
  refine⟨h1,h2.trans ?_,h3⟩
  show _↔_∧(!ρ.b j)=x
  cases ρ.b j<;>cases x<;>simp
theorem u0{m v:Nat}:∀ {n:Nat} {q:Q},q≠.bad→q.wf→m4 σ m v n q≠.bad∧((m4 σ m v n q).is ρ↔q.is ρ∧∀ i,i<n→m.testBit i=true→(σ.env ρ).b i=v.testBit i)
 | 0,q,hq,hw=>⟨hq,by simp [m4]⟩
 | n+1,q,hq,hw=>by
  unfold m4
  split
  ·rename_i hm
   obtain⟨h1,h2,h3⟩:=Q.Y8 (ρ:=ρ) (c:=(B.pos n).put σ) (x:=v.testBit n) hq hw
   obtain⟨h4,h5⟩:=u0 (m:=m) (v:=v) (n:=n) h1 h3
   refine⟨h4,h5.trans ?_⟩
   rw [h2,B.aE]
   constructor
   ·rintro ⟨⟨a,b⟩,c⟩
    refine⟨a,fun i hi hmi=>?_⟩
    rcases Nat.lt_succ_iff_lt_or_eq.1 hi with h | h
    ·exact c i h hmi
    ·subst h;exact b
   ·rintro ⟨a,c⟩
    exact⟨⟨a,c n (by omega) hm⟩,fun i hi hmi=>c i (by omega) hmi⟩
  ·rename_i hm
   obtain⟨h4,h5⟩:=u0 (m:=m) (v:=v) (n:=n) hq hw
   refine⟨h4,h5.trans ?_⟩
   constructor
   ·rintro ⟨a,c⟩
    refine⟨a,fun i hi hmi=>?_⟩
    rcases Nat.lt_succ_iff_lt_or_eq.1 hi with h | h
    ·exact c i h hmi
    ·subst h;rw [hm] at hmi;cases hmi
   ·rintro ⟨a,c⟩
    exact⟨a,fun i hi hmi=>c i (by omega) hmi⟩
theorem Gd(m v:Nat):(DQ σ m v).den ρ=(X.cube m v).den (σ.env ρ):=by
 obtain⟨h1,h2⟩:=u0 (ρ:=ρ) (σ:=σ) (m:=m) (v:=v) (n:=m.log2+1) (q:=.c 0 0) (by simp) wf0
 have key:(m4 σ m v (m.log2+1) (.c 0 0)).is ρ↔bg (σ.env ρ) m v=true:=by
  rw [h2,bU]
  constructor
  ·rintro ⟨_,h⟩ i hi
   refine h i ?_ hi
   rcases Nat.lt_or_ge i (m.log2+1) with h1 | h1
   ·exact h1
   ·have h2:m<2 ^ i:=Nat.lt_of_lt_of_le Nat.lt_log2_self (Nat.pow_le_pow_right (by omega) h1)
    rw [Nat.testBit_lt_two_pow h2] at hi
    cases hi
  ·exact fun h=>⟨is0,fun i _ hi=>h i hi⟩
 unfold DQ
 simp only [X.den]
 cases hc:m4 σ m v (m.log2+1) (.c 0 0) with
 | bad=>exact absurd hc h1
 | ff=>
  rw [hc] at key
  cases hb:bg (σ.env ρ) m v with
  | true=>exact (key.2 hb).elim
  | false=>rfl
 | c m' v'=>
  rw [hc] at key
  have e:bg ρ m' v'=bg (σ.env ρ) m v:=by
   cases hb:bg (σ.env ρ) m v with
   | true=>exact key.2 hb
   | false=>
    cases hb':bg ρ m' v' with
    | false=>rfl
    | true=>rw [key.1 hb'] at hb;cases hb
  unfold NT
  dsimp only
  split
  ·rename_i hm
   have hm0:m'=0:=Nat.eq_of_beq_eq_true hm
   have:bg ρ m' v'=true:=bU.2 fun i hi=>by rw [hm0] at hi;simp at hi
   rw [←e,this]
   rfl
  ·rw [←e];rfl
theorem PB(a b:X):(mkSeq a b).den ρ=a7 (a.bw ρ==b.bw ρ):=by
 have:=oh ρ a b
 unfold mkSeq at this ⊢
 split at this
 ·simp only [X.tt,X.den,dd] at this
  simp only [X.den,this]
 ·exact xz ρ _ _
theorem QX(a b:X):(Z5 a b).den ρ=a.den ρ+b.den ρ:=by
 unfold Z5
 split
 ·rfl
 ·refine eW (ρ:=ρ) (Pr:=fun x:X=>x.den ρ=a.den ρ+b.den ρ) rfl fun l t m u ha hb=>?_
  split
  ·rename_i r s h
   rw [gA,ha,hb,←oe h]
   simp [a7]
  ·rfl
mutual
theorem X.aE:∀ x:X,(x.put σ).den ρ=x.den (σ.env ρ)
 | .lit n=>by unfold X.put;rfl
 | .var i=>by
  unfold X.put
  show _=(σ.env ρ).v i
  unfold Sub.env
  dsimp only
  split<;>rename_i h<;>rw [h]
  rfl
 | .wrap k a=>by
  have hw:(mkWrap k (a.put σ)).den ρ=(X.wrap k a).den (σ.env ρ):=by rw [im,X.aE a];rfl
  cases a with
  | add x y=>unfold X.put;rw [vM,X.aE x,X.aE y];rfl
  | sub x y=>unfold X.put;rw [vQ,X.aE x,X.aE y];rfl
  | mul x y=>unfold X.put;rw [jW,X.aE x,X.aE y];rfl
  | quo x y=>unfold X.put;rw [CA,X.aE x,X.aE y];rfl
  | _=>unfold X.put;exact hw
 | .add a b=>by unfold X.put;rw [QX,X.aE a,X.aE b];rfl
 | .sub a b=>by unfold X.put;simp only [X.den,X.aE a,X.aE b]
 | .mul a b=>by unfold X.put;simp only [X.den,X.aE a,X.aE b]
 | .quo a b=>by unfold X.put;simp only [X.den,X.aE a,X.aE b]
 | .rem a b=>by unfold X.put;rw [jY,X.aE a,X.aE b];rfl
 | .bits o k a b=>by unfold X.put;rw [nu,X.aE a,X.aE b];rfl
 | .shl k a b=>by unfold X.put;rw [vP,X.aE a,X.aE b];rfl
 | .shr k a b=>by unfold X.put;rw [ik,X.aE a,X.aE b];rfl
 | .eq a b=>by unfold X.put;rw [Ie,X.aE a,X.aE b];rfl
 | .lt a b=>by unfold X.put;rw [Ii,X.aE a,X.aE b];rfl
 | .le a b=>by unfold X.put;rw [z6,X.aE a,X.aE b];rfl
 | .not a=>by
  unfold X.put
  rw [Cz,X.tt,X.aE a]
  show _=a7 (a.den (σ.env ρ)==0)
  simp [bne]
 | .ite c a b=>by
  unfold X.put
  rw [gd,X.tt,X.aE c,X.aE a,X.aE b]
  show _=if c.den (σ.env ρ)==0 then _ else _
  by_cases h:c.den (σ.env ρ)=0<;>simp [h]
 | .fn1 f a=>by unfold X.put;simp only [X.den,X.aE a];rfl
 | .fn2 f a b=>by unfold X.put;simp only [X.den,X.aE a,X.aE b];rfl
 | .slen a=>by unfold X.put;rw [vO,X.iY a];rfl
 | .seq a b=>by unfold X.put;rw [PB,X.iY a,X.iY b];rfl
 | .bv l t=>by unfold X.put;rw [gA,CS];rfl
 | .cube m v=>by unfold X.put;exact Gd m v
 | .btext _ _ _=>by unfold X.put;rfl
 | .slit l=>by unfold X.put;rfl
 | .svar i=>by unfold X.put;rfl
 | .scat a b=>by unfold X.put;rfl
 | .sfn f a=>by unfold X.put;rfl
theorem X.iY:∀ x:X,(x.eT σ).bw ρ=x.bw (σ.env ρ)
 | .svar i=>by
  unfold X.eT
  show _=(σ.env ρ).s i
  unfold Sub.env
  dsimp only
  split<;>rename_i h<;>rw [h]
  rfl
 | .scat a b=>by unfold X.eT;rw [rZ,X.iY a,X.iY b];rfl
 | .sfn f a=>by unfold X.eT;simp only [X.bw,X.aE a];rfl
 | .ite c a b=>by
  unfold X.eT
  rw [oZ,X.tt,X.aE c,X.iY a,X.iY b]
  show _=if c.den (σ.env ρ)==0 then _ else _
  by_cases h:c.den (σ.env ρ)=0<;>simp [h]
 | .lit n=>by unfold X.eT;rfl
 | .var i=>by unfold X.eT;rfl
 | .wrap k a=>by unfold X.eT;rfl
 | .add a b=>by unfold X.eT;rfl
 | .sub a b=>by unfold X.eT;rfl
 | .mul a b=>by unfold X.eT;rfl
 | .quo a b=>by unfold X.eT;rfl
 | .rem a b=>by unfold X.eT;rfl
 | .bits o k a b=>by unfold X.eT;rfl
 | .shl k a b=>by unfold X.eT;rfl
 | .shr k a b=>by unfold X.eT;rfl
 | .eq a b=>by unfold X.eT;rfl
 | .lt a b=>by unfold X.eT;rfl
 | .le a b=>by unfold X.eT;rfl
 | .not a=>by unfold X.eT;rfl
 | .fn1 f a=>by unfold X.eT;rfl
 | .fn2 f a b=>by unfold X.eT;rfl
 | .slen a=>by unfold X.eT;rfl
 | .seq a b=>by unfold X.eT;rfl
 | .bv l t=>by unfold X.eT;rfl
 | .cube m v=>by unfold X.eT;rfl
 | .btext t a b=>by simp only [X.eT,X.bw,X.aE a,X.aE b];rfl
 | .slit l=>by unfold X.eT;rfl
end
theorem X.AB(x:X):(x.put σ).tt ρ=x.tt (σ.env ρ):=by rw [X.tt,X.aE];rfl
theorem XC.SS(π:Pl)(b o:Nat)(c:XC):(c.put σ).ae ρ π b o=c.ae (σ.env ρ) π b o:=by cases c<;>simp only [XC.put,XC.ae,X.aE]
theorem BO {l:List (Nat×Nat×Nat)} {t:Nat}:∀ {m:Nat},jk l t m=true→∀ c,c<m→pJ l (t+c)=pJ l t+c
 | 0,_,c,hc=>absurd hc (Nat.not_lt_zero c)
 | m+1,h,c,hc=>by
  unfold jk at h
  split at h
  ·rename_i he
   rcases Nat.lt_succ_iff_lt_or_eq.1 hc with h1 | rfl
   ·exact BO h c h1
   ·exact Nat.eq_of_beq_eq_true he
  ·cases h
theorem gZ{t:Nat}:∀ {m:Nat},jk [] t m=true
 | 0=>rfl
 | m+1=>by
  unfold jk
  rw [show Nat.beq (pJ [] (t+m)) (pJ [] t+m)=true from Nat.beq_refl _]
  exact gZ
theorem A.gZ{m:Nat}:∀ {a:A},a.jk [] m=true
 | .base _=>Go.Proofs.YtmickljjofbmiaaGreatDoor.gZ
 | .fill _=>rfl
 | .put a _ _ _=>A.gZ (a:=a)
theorem au.QD{o:au}:o.xE []=true:=by
 cases o<;>first | rfl | exact A.gZ | exact gZ
theorem A.qM(k:CK){c m:Nat}(hc:c<m)(j:Int):∀ {a:A},a.jk σ.f m=true→(a.subst σ).den ρ k c j=a.den (σ.env ρ) k c j
 | .base t,h=>by
  have h1:=BO h c hc
  cases k with
  | int k=>show k.wrap (ρ.f1 (pJ σ.f t+c) j)=k.wrap (ρ.f1 (pJ σ.f (t+c)) j);rw [h1]
  | bool=>show a7 (ρ.f1 (pJ σ.f t+c) j==1)=a7 (ρ.f1 (pJ σ.f (t+c)) j==1);rw [h1]
 | .fill x,_=>by simp only [A.subst,A.den,X.aE]
 | .put a i c' x,h=>by simp only [A.subst,A.den,X.aE,A.qM k hc j (a:=a) h]
mutual
theorem V.kc(π:Pl):∀ v:V,(v.put σ).ae ρ π=v.ae (σ.env ρ) π
 | .int k x=>by simp only [V.put,V.ae,X.aE]
 | .bool x=>by simp only [V.put,V.ae,X.AB]
 | .str x=>by simp only [V.put,V.ae,X.iY]
 | .ptr b o=>rfl
 | .nilptr=>rfl
 | .slice b o n c=>rfl
 | .nilslice=>rfl
 | .map b=>rfl
 | .nilmap=>rfl
 | .func f a c=>by simp only [V.put,V.ae,V.fq π a,V.fq π c]
 | .yield b=>rfl
 | .nilfunc=>rfl
 | .iface t v=>by simp only [V.put,V.ae,V.kc π v]
 | .niliface=>rfl
 | .agg l=>by simp only [V.put,V.ae,V.fq π l]
 | .tuple l=>by simp only [V.put,V.ae,V.fq π l]
 | .wptr b o=>rfl
 | .wslice b o n c=>by simp only [V.put,V.ae,X.aE];rfl
 | .ite c a b=>by simp only [V.put,V.ae,X.AB,V.kc π a,V.kc π b]
 | .sptr b o n i=>by simp only [V.put,V.ae,X.aE]
 | .rest _ _ _ _=>rfl
 | .xslice w b off es len cap=>by simp only [V.put,V.ae,X.aE,XC.SS];rfl
 | .xptr w b i es c=>by simp only [V.put,V.ae,X.aE];rfl
 | .any _=>rfl
theorem V.fq(π:Pl):∀ l:List V,V.af ρ π (V.r7 σ l)=V.af (σ.env ρ) π l
 | []=>rfl
 | v::l=>by simp only [V.r7,V.af,V.kc π v,V.fq π l]
end
theorem V.pk:∀ l:List V,(V.r7 σ l).length=l.length
 | []=>rfl
 | _::l=>by simp [V.r7,V.pk l]
theorem kh(π:Pl):∀ es:List (V×V),entriesOf ρ π (CT σ es)=entriesOf (σ.env ρ) π es
 | []=>rfl
 | (k,v)::l=>by
  have:=kh π l
  simp only [entriesOf] at this
  simp only [entriesOf,CT,List.map_cons,V.kc,this]
theorem au.RZ{π:Pl}{b:Nat}{ob:Obj}:∀ {o:au},o.plain=true→o.xE σ.f=true→o.is (σ.env ρ) π b ob→(o.put σ).is ρ π b ob
 | .cells c e w,_,_,⟨spare,h1,h2⟩=>⟨spare,by rw [V.fq];exact h1,by rw [V.pk];exact h2⟩
 | .map es,_,_,⟨ms,clock,h1,h2,h3⟩=>⟨ms,clock,h1,by rw [kh];exact h2,by rw [kh];exact h3⟩
 | .loop _ _ _ _ _ _ _,h,_,_=>by simp [au.plain] at h
 | .deferred _,h,_,_=>by simp [au.plain] at h
 | .ro _ _,h,_,_=>by simp [au.plain] at h
 | .win _ _ _ _,h,_,_=>by simp [au.plain] at h
 | .iter _,h,_,_=>by simp [au.plain] at h
 | .arr a ks len e w,_,hs,⟨cs,h1,h2,h3,h4⟩=>⟨cs,h1,by rw [X.aE];exact h2,h3,fun j c k hj hk=>by rw [X.aE] at hj;rw [A.qM k (List.getElem?_eq_some_iff.1 hk).1 j hs];exact h4 j c k hj hk⟩
 | .warr _ _ _ _,h,_,_=>by simp [au.plain] at h
mutual
theorem V.iq:∀ v:V,(v.put σ).bQ=v.bQ
 | .int _ _=>rfl
 | .bool _=>rfl
 | .str _=>rfl
 | .ptr _ _=>rfl
 | .nilptr=>rfl
 | .slice _ _ _ _=>rfl
 | .nilslice=>rfl
 | .map _=>rfl
 | .nilmap=>rfl
 | .func f a c=>by simp only [V.put,V.bQ,V.fe a,V.fe c]
 | .yield _=>rfl
 | .nilfunc=>rfl
 | .iface t v=>by simp only [V.put,V.bQ,V.iq v]
 | .niliface=>rfl
 | .agg l=>by simp only [V.put,V.bQ,V.fe l]
 | .tuple l=>by simp only [V.put,V.bQ,V.fe l]
 | .wptr _ _=>rfl
 | .wslice _ _ _ _=>rfl
 | .ite c a b=>by simp only [V.put,V.bQ,V.iq a,V.iq b]
 | .sptr _ _ _ _=>rfl
 | .rest _ _ _ _=>rfl
 | .xslice w _ _ _ _ cap=>by cases w<;>cases cap<;>rfl
 | .xptr _ _ _ _ _=>rfl
 | .any _=>rfl
theorem V.fe:∀ l:List V,V.fb (V.r7 σ l)=V.fb l
 | []=>rfl
 | v::l=>by simp only [V.r7,V.fb,V.iq v,V.fe l]
end
theorem o4:∀ es:List (V×V),lu (CT σ es)=lu es
 | []=>rfl
 | (k,v)::l=>by simp only [CT,lu,V.iq,o4 l]
theorem au.CR{o:au}(h:o.plain=true):(o.put σ).plain=true:=by
 cases o with
 | cells c e w=>simp only [au.plain,au.put,V.fe] at h ⊢;exact h
 | map es=>simp only [au.plain,au.put,o4] at h ⊢;exact h
 | arr _ _ _ _ _=>rfl
 | _=>simp [au.plain] at h
theorem pg:∀ {l:List (Nat×au)} {x:Nat×au},x∈dL σ l→∃ o,(x.1,o)∈l∧x.2=o.put σ
 | [],x,h=>by simp [dL] at h
 | (b,o)::l,x,h=>by
  unfold dL at h
  rcases List.mem_cons.1 h with rfl | h
  ·exact⟨o,by simp,rfl⟩
  ·obtain⟨o',h1,h2⟩:=pg h
   exact⟨o',by simp [h1],h2⟩
end
theorem sG{σ:Sub}{i:Nat}{c:B}:(uR σ i c).f=σ.f:=by
 unfold uR
 split<;>rfl
theorem vL:∀ (ps l:List B) (t:B) (σ:Sub),(qc ps l t σ).f=σ.f
 | [],_,_,_=>rfl
 | p::ps,[],t,σ=>by
  unfold qc
  dsimp only
  rw [vL ps]
  split
  ·exact sG
  ·rfl
 | p::ps,c::l,t,σ=>by
  unfold qc
  dsimp only
  rw [vL ps]
  split
  ·exact sG
  ·rfl
theorem zY(p a:X)(σ:Sub):(zX p a σ).f=σ.f:=by
 unfold zX
 split
 ·rfl
 ·rfl
 ·rfl
 ·split
  ·exact vL ..
  ·rfl
 ·split
  ·exact sG
  ·exact sG
  ·rfl
 ·rfl
mutual
theorem Sc:∀ (p a:V) (σ:Sub),(bR p a σ).f=σ.f
 | .agg l,a,σ=>by cases a<;>first | (unfold bR;exact qd l _ σ) | (unfold bR;rfl)
 | .tuple l,a,σ=>by cases a<;>first | (unfold bR;exact qd l _ σ) | (unfold bR;rfl)
 | .int _ _,a,σ=>by cases a<;>first | (unfold bR;exact zY ..) | (unfold bR;rfl)
 | .bool _,a,σ=>by cases a<;>first | (unfold bR;exact zY ..) | (unfold bR;rfl)
 | .str _,a,σ=>by cases a<;>first | (unfold bR;exact zY ..) | (unfold bR;rfl)
 | .ptr _ _,a,σ=>by unfold bR;rfl
 | .nilptr,a,σ=>by unfold bR;rfl
 | .slice _ _ _ _,a,σ=>by unfold bR;rfl
 | .nilslice,a,σ=>by unfold bR;rfl
 | .map _,a,σ=>by unfold bR;rfl
 | .nilmap,a,σ=>by unfold bR;rfl
 | .func _ _ _,a,σ=>by unfold bR;rfl
 | .yield _,a,σ=>by unfold bR;rfl
 | .nilfunc,a,σ=>by unfold bR;rfl
 | .iface _ _,a,σ=>by unfold bR;rfl
 | .niliface,a,σ=>by unfold bR;rfl
 | .wptr _ _,a,σ=>by unfold bR;rfl
 | .wslice _ _ _ _,a,σ=>by unfold bR;rfl
 | .ite _ _ _,a,σ=>by unfold bR;rfl
 | .sptr _ _ _ _,a,σ=>by unfold bR;rfl
 | .rest _ _ _ _,a,σ=>by unfold bR;rfl
 | .xslice _ _ _ _ _ _,a,σ=>by unfold bR;rfl
 | .xptr _ _ _ _ _,a,σ=>by unfold bR;rfl
 | .any _,a,σ=>by unfold bR;rfl
theorem qd:∀ (l m:List V) (σ:Sub),(iG l m σ).f=σ.f
 | v::l,w::m,σ=>by
  unfold iG
  rw [qd l m,Sc v w]
 | [],_,_=>by unfold iG;rfl
 | _::_,[],_=>by unfold iG;rfl
end
section
variable {P:Program} {cx cx0:Cx} {ρ:Env} {S:Nat→Prop} {π0:Pl} {st st':St} {w:World} {L:List (Nat×List V)} {ng:Nat}
theorem vt{σ:Sub}{v:V}:∀ {r:R Leaf} {st:St},av ρ st.pc→(zy ng σ r st).ai ρ=some (v,st')→
  ∃ lf st1,r.ai (σ.env ρ)=some lf∧cn ρ st st1∧v=(lf.v.put σ).kT (sh st1.n ng)∧st'={h:=fi (sh st1.n ng) (dL σ lf.objs) st1.h,n:=st1.n+(lf.n-ng),pc:=st1.pc}
 | .ok lf,st,hp,h=>by
  simp only [zy,R.ai,Option.some.injEq,Prod.mk.injEq] at h
  exact⟨lf,st,rfl,.refl hp,h.1.symm,h.2.symm⟩
 | .br c t f,st,hp,h=>by
  unfold zy at h
  obtain⟨st1,hl,h1⟩:=aU hp h
  rw [X.AB] at h1
  split at h1
  ·rename_i hc
   obtain⟨lf,st2,h2,h3,h4⟩:=vt hl.pc h1
   exact⟨lf,st2,by unfold R.ai;rw [if_pos hc];exact h2,hl.trans h3,h4⟩
  ·rename_i hc
   obtain⟨lf,st2,h2,h3,h4⟩:=vt hl.pc h1
   exact⟨lf,st2,by unfold R.ai;rw [if_neg (by simp [hc])];exact h2,hl.trans h3,h4⟩
 | .stuck _,_,_,h=>by simp [zy,R.ai] at h
theorem qN(hmix:P.follows .mixedOrders=true)(htt:mQ P cx0.tt)(hft:rz P cx0.ft)(hsm:∀ ρ':Env,ρ'.ro=ρ.ro→SumOk P cx0 ρ')(hng:cx.ng=ng)(hng0:cx0.ng=ng)(hL:∀ x∈L,x.1<ng)(hro:∀ ρ':Env,ρ'.ro=ρ.ro→RoAt ρ' L)
  {N:Nat} {f:FuncId} {fn:Func} (hfn:P.funcs[f]?=some fn):∀ {t:List (List V×R Leaf)},bE cx0 L ng N f t→cV P cx ρ f (bS L ng t)
 | [],_,args,st,v,st',h,_,_,_,_,_,_,_=>by simp [bS,R.ai] at h
 | (a0,tr)::l,ht,args,st,v,st',h,S,π0,w,ac,n,hh,ha=>by
  unfold bS at h
  generalize hσ:iG a0 args {v:=[],n:=0,b:=[],s:=[]}=σ at h
  dsimp only at h
  split at h
  ·exact qN hmix htt hft hsm hng hng0 hL hro hfn (fun x hx=>ht x (List.mem_cons_of_mem _ hx)) args st v st' h S π0 w ac n hh ha
  split at h
  ·rename_i hb
   obtain rfl:=V.bD _ _ hb
   have hσf:σ.f=[]:=by rw [←hσ];exact qd _ _ _
   split at h
   ·rename_i hthere
    obtain⟨lf,st1,h1,hl,rfl,rfl⟩:=vt hh.pc h
    obtain⟨h2,h3⟩:=ht _ (List.mem_cons_self ..)
    dsimp only at h2 h3
    rw [←h3] at h1
    obtain⟨st2,h4,h5,hnw,h6,h7⟩:=ij h1
    have hh1:=hh.fx hl
    have hobjs:∀ x∈dL σ lf.objs,ng≤x.1∧∃ o,st2.h.get x.1=some o∧(x.2.plain=true∧o.bG=false)∧∀ π b ob,o.is (σ.env ρ) π b ob→x.2.is ρ π b ob:=by
     intro x hx
     obtain⟨o,h8,h9⟩:=pg hx
     rw [h6] at h8
     obtain⟨a1,a2,a3⟩:=eZ _ h8
     exact⟨a1,o,a2,⟨by rw [h9];exact au.CR a3,au.kL a3⟩,fun π b ob ho=>by rw [h9];exact au.RZ a3 (by rw [hσf];exact au.QD) ho⟩
    have hae:∀ π,V.af ρ π (V.r7 σ a0)=V.af (σ.env ρ) π a0:=fun π=>V.fq π a0
    have:=rU (ρ:=ρ) (ρ':=σ.env ρ) hmix htt hft (hsm _ rfl) hng hng0 hL (hro _ rfl) rfl h4 h5 (v':=lf.v.put σ) (fun π=>V.kc π lf.v) (by rw [V.iq];exact hnw) hobjs h2 hfn hh1 (by rw [hl.h];exact hthere) (fun π hk=>(hae π).symm.trans (ha π hk)) (n:=n)
    refine this.mono fun e w' hp=>EPost.fx hl ?_
    rw [h7]
    exact hp
   ·simp [R.ai] at h
  ·exact qN hmix htt hft hsm hng hng0 hL hro hfn (fun x hx=>ht x (List.mem_cons_of_mem _ hx)) args st v st' h S π0 w ac n hh ha
end
end Go.Proofs.YtmickljjofbmiaaGreatDoor
