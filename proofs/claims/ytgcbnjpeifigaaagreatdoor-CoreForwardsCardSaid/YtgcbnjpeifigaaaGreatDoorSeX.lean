/- Symbolic execution, part 34: a run whose variables are filled. No condition. -/
import Derived.Test.YtgcbnjpeifigaaaGreatDoorFwG
namespace Go.Proofs.YtgcbnjpeifigaaaGreatDoor
open Go Go.RowKit
noncomputable def Sub.env(σ:Sub)(ρ:Env):Env:={ρ with
 v:=fun i=>match look σ.v i with
  |some x=>x.den ρ
  |none=>ρ.v i
 b:=fun i=>match Vh σ i with
  |some c=>c.den ρ
  |none=>ρ.b i
 f1:=fun f=>ρ.f1 (qM σ.f f)
 s:=fun i=>match look σ.s i with
  |some x=>x.bF ρ
  |none=>ρ.s i}
section
variable {ρ:Env} {σ:Sub}
theorem B.aM(b:B):(b.put σ).den ρ=b.den (σ.env ρ):=by
 cases b with
 |zero=>rfl
 |one=>rfl
 |pos i=>
  unfold B.put;show _=(σ.env ρ).b i;unfold Sub.env;dsimp only;split<;>rename_i h<;>rw[h]
  rfl
 |neg i=>
  unfold B.put;show _=!(σ.env ρ).b i;unfold Sub.env;dsimp only;split<;>rename_i h<;>rw[h]
  ·rw[B.gI]
  ·rfl
theorem Eh(t:B):∀ l:List B,ay ρ (K3 σ l) (t.put σ)=ay (σ.env ρ) l t
 |[]=>by rw[K3,bq,bq,B.aM]
 |b::l=>by rw[K3,aC,aC,B.aM,Eh t l]
theorem Q.acS{q:Q}{c:B}{x:Bool}(hq:q≠.bad)(hw:q.wf):q.want c x≠.bad/\((q.want c x).is ρ↔q.is ρ/\c.den ρ=x)/\(q.want c x).wf:=by
 cases c with
 |zero=>cases x with
  |true=>exact⟨by simp[Q.want],by simp[Q.want,Q.is,B.den],fun m v e=>by cases e⟩
  |false=>exact⟨by simpa[Q.want]using hq,by simp[Q.want,B.den],hw⟩
 |one=>cases x with
  |false=>exact⟨by simp[Q.want],by simp[Q.want,Q.is,B.den],fun m v e=>by cases e⟩
  |true=>exact⟨by simpa[Q.want]using hq,by simp[Q.want,B.den],hw⟩
 |pos j=>exact Q.oZ hq hw
 |neg j=>
  obtain⟨h1,h2,h3⟩:=Q.oZ (ρ:=ρ) (i:=j) (b:=!x) hq hw;refine⟨h1,h2.trans ?_,h3⟩;show _↔_/\(!ρ.b j)=x;cases ρ.b j<;>cases x<;>simp
theorem wV{m v:Nat}:∀ {n:Nat} {q:Q},q≠.bad->q.wf->n9 σ m v n q≠.bad/\((n9 σ m v n q).is ρ↔q.is ρ/\∀ i,i<n->m.testBit i=true->(σ.env ρ).b i=v.testBit i)
 |0,q,hq,hw=>⟨hq,by simp[n9]⟩
 |n+1,q,hq,hw=>by
  unfold n9;split
  ·rename_i hm;obtain⟨h1,h2,h3⟩:=Q.acS (ρ:=ρ) (c:=(B.pos n).put σ) (x:=v.testBit n) hq hw;obtain⟨h4,h5⟩:=wV (m:=m) (v:=v) (n:=n) h1 h3;refine⟨h4,h5.trans ?_⟩;rw[h2,B.aM];constructor
   ·rintro⟨⟨a,b⟩,c⟩;refine⟨a,fun i hi hmi=>?_⟩;rcases Nat.lt_succ_iff_lt_or_eq.1 hi with h|h
    ·exact c i h hmi
    ·subst h;exact b
   ·rintro⟨a,c⟩;exact⟨⟨a,c n (by omega) hm⟩,fun i hi hmi=>c i (by omega) hmi⟩
  ·rename_i hm;obtain⟨h4,h5⟩:=wV (m:=m) (v:=v) (n:=n) hq hw;refine⟨h4,h5.trans ?_⟩;constructor
   ·rintro⟨a,c⟩;refine⟨a,fun i hi hmi=>?_⟩;rcases Nat.lt_succ_iff_lt_or_eq.1 hi with h|h
    ·exact c i h hmi
    ·subst h;rw[hm]at hmi;cases hmi
   ·rintro⟨a,c⟩;exact⟨a,fun i hi hmi=>c i (by omega) hmi⟩
theorem JD(m v:Nat):(F3 σ m v).den ρ=(X.cube m v).den (σ.env ρ):=by
 obtain⟨h1,h2⟩:=wV (ρ:=ρ) (σ:=σ) (m:=m) (v:=v) (n:=m.log2+1) (q:=.c 0 0) (by simp) wf0;have key:(n9 σ m v (m.log2+1) (.c 0 0)).is ρ↔bD (σ.env ρ) m v=true:=by
  rw[h2,cf];constructor
  ·rintro⟨_,h⟩ i hi;refine h i ?_ hi;rcases qkz i (m.log2+1)with h1|h1
   ·exact h1
   ·have h2:m<2 ^ i:=qzw Nat.lt_log2_self (Nat.pow_le_pow_right (by omega) h1);rw[Nat.testBit_lt_two_pow h2]at hi;cases hi
  ·exact fun h=>⟨is0,fun i _ hi=>h i hi⟩
 unfold F3;simp only[X.den];cases hc:n9 σ m v (m.log2+1) (.c 0 0)with
 |bad=>exact absurd hc h1
 |ff=>
  rw[hc]at key;cases hb:bD (σ.env ρ) m v with
  |true=>exact(key.2 hb).elim
  |false=>rfl
 |c m' v'=>
  rw[hc]at key;have e:bD ρ m' v'=bD (σ.env ρ) m v:=by
   cases hb:bD (σ.env ρ) m v with
   |true=>exact key.2 hb
   |false=>
    cases hb':bD ρ m' v' with
    |false=>rfl
    |true=>rw[key.1 hb']at hb;cases hb
  unfold Qp;dsimp only;split
  ·rename_i hm;have hm0:m'=0:=qqq hm;have:bD ρ m' v'=true:=cf.2 fun i hi=>by rw[hm0]at hi;simp at hi
   rw[<-e,this];rfl
  ·rw[<-e];rfl
theorem Sr(a b:X):(mkSeq a b).den ρ=bp (a.bF ρ==b.bF ρ):=by
 have:=qg ρ a b;unfold mkSeq at this ⊢;split at this
 ·simp only[X.tt,X.den,da]at this;simp only[X.den,this]
 ·exact zj ρ _ _
theorem Uo(a b:X):(ajB a b).den ρ=a.den ρ+b.den ρ:=by
 unfold ajB;split
 ·rfl
 ·refine fO (ρ:=ρ) (Pr:=fun x:X=>x.den ρ=a.den ρ+b.den ρ) rfl fun l t m u ha hb=>?_
  split
  ·rename_i r s h;rw[iA,ha,hb,<-py h];simp[bp]
  ·rfl
mutual
theorem X.aM:∀ x:X,(x.put σ).den ρ=x.den (σ.env ρ)
 |.lit n=>by unfold X.put;rfl
 |.var i=>by
  unfold X.put;show _=(σ.env ρ).v i;unfold Sub.env;dsimp only;split<;>rename_i h<;>rw[h]
  rfl
 |.wrap k a=>by
  have hw:(mkWrap k (a.put σ)).den ρ=(X.wrap k a).den (σ.env ρ):=by rw[jd,X.aM a];rfl
  cases a with
  |add x y=>unfold X.put;rw[xK,X.aM x,X.aM y];rfl
  |sub x y=>unfold X.put;rw[xN,X.aM x,X.aM y];rfl
  |mul x y=>unfold X.put;rw[kU,X.aM x,X.aM y];rfl
  |quo x y=>unfold X.put;rw[EK,X.aM x,X.aM y];rfl
  |_=>unfold X.put;exact hw
 |.add a b=>by unfold X.put;rw[Uo,X.aM a,X.aM b];rfl
 |.sub a b=>by unfold X.put;simp only[X.den,X.aM a,X.aM b]
 |.mul a b=>by unfold X.put;simp only[X.den,X.aM a,X.aM b]
 |.quo a b=>by unfold X.put;simp only[X.den,X.aM a,X.aM b]
 |.rem a b=>by unfold X.put;rw[kW,X.aM a,X.aM b];rfl
 |.bits o k a b=>by unfold X.put;rw[oz,X.aM a,X.aM b];rfl
 |.shl k a b=>by unfold X.put;rw[xM,X.aM a,X.aM b];rfl
 |.shr k a b=>by unfold X.put;rw[jc,X.aM a,X.aM b];rfl
 |.eq a b=>by unfold X.put;rw[KB,X.aM a,X.aM b];rfl
 |.lt a b=>by unfold X.put;rw[KD,X.aM a,X.aM b];rfl
 |.le a b=>by unfold X.put;rw[BX,X.aM a,X.aM b];rfl
 |.not a=>by
  unfold X.put;rw[EJ,X.tt,X.aM a];show _=bp (a.den (σ.env ρ)==0);simp[bne]
 |.ite c a b=>by
  unfold X.put;rw[gY,X.tt,X.aM c,X.aM a,X.aM b];show _=if c.den (σ.env ρ)==0 then _ else _
  by_cases h:c.den (σ.env ρ)=0<;>simp[h]
 |.fn1 f a=>by unfold X.put;simp only[X.den,X.aM a];rfl
 |.fn2 f a b=>by unfold X.put;simp only[X.den,X.aM a,X.aM b];rfl
 |.slen a=>by unfold X.put;rw[xL,X.jV a];rfl
 |.seq a b=>by unfold X.put;rw[Sr,X.jV a,X.jV b];rfl
 |.bv l t=>by unfold X.put;rw[iA,Eh];rfl
 |.cube m v=>by unfold X.put;exact JD m v
 |.btext _ _ _=>by unfold X.put;rfl
 |.slit l=>by unfold X.put;rfl
 |.svar i=>by unfold X.put;rfl
 |.scat a b=>by unfold X.put;rfl
 |.sfn f a=>by unfold X.put;rfl
theorem X.jV:∀ x:X,(x.fL σ).bF ρ=x.bF (σ.env ρ)
 |.svar i=>by
  unfold X.fL;show _=(σ.env ρ).s i;unfold Sub.env;dsimp only;split<;>rename_i h<;>rw[h]
  rfl
 |.scat a b=>by unfold X.fL;rw[tI,X.jV a,X.jV b];rfl
 |.sfn f a=>by unfold X.fL;simp only[X.bF,X.aM a];rfl
 |.ite c a b=>by
  unfold X.fL;rw[qf,X.tt,X.aM c,X.jV a,X.jV b];show _=if c.den (σ.env ρ)==0 then _ else _
  by_cases h:c.den (σ.env ρ)=0<;>simp[h]
 |.lit n=>by unfold X.fL;rfl
 |.var i=>by unfold X.fL;rfl
 |.wrap k a=>by unfold X.fL;rfl
 |.add a b=>by unfold X.fL;rfl
 |.sub a b=>by unfold X.fL;rfl
 |.mul a b=>by unfold X.fL;rfl
 |.quo a b=>by unfold X.fL;rfl
 |.rem a b=>by unfold X.fL;rfl
 |.bits o k a b=>by unfold X.fL;rfl
 |.shl k a b=>by unfold X.fL;rfl
 |.shr k a b=>by unfold X.fL;rfl
 |.eq a b=>by unfold X.fL;rfl
 |.lt a b=>by unfold X.fL;rfl
 |.le a b=>by unfold X.fL;rfl
 |.not a=>by unfold X.fL;rfl
 |.fn1 f a=>by unfold X.fL;rfl
 |.fn2 f a b=>by unfold X.fL;rfl
 |.slen a=>by unfold X.fL;rfl
 |.seq a b=>by unfold X.fL;rfl
 |.bv l t=>by unfold X.fL;rfl
 |.cube m v=>by unfold X.fL;rfl
 |.btext t a b=>by simp only[X.fL,X.bF,X.aM a,X.aM b];rfl
 |.slit l=>by unfold X.fL;rfl
end
theorem X.OL(x:X):(x.put σ).tt ρ=x.tt (σ.env ρ):=by rw[X.tt,X.aM];rfl
theorem XC.WO(π:Pl)(b o:Nat)(c:XC):(c.put σ).ab ρ π b o=c.ab (σ.env ρ) π b o:=by cases c<;>simp only[XC.put,XC.ab,X.aM]
theorem DM {l:List (Nat×Nat×Nat)} {t:Nat}:∀ {m:Nat},j6 l t m=true->∀ c,c<m->qM l (t+c)=qM l t+c
 |0,_,c,hc=>absurd hc (Nat.not_lt_zero c)
 |m+1,h,c,hc=>by
  unfold j6 at h;split at h
  ·rename_i he;rcases Nat.lt_succ_iff_lt_or_eq.1 hc with h1|rfl
   ·exact DM h c h1
   ·exact qqq he
  ·cases h
theorem i4{t:Nat}:∀ {m:Nat},j6 [] t m=true
 |0=>rfl
 |m+1=>by
  unfold j6;rw[show Nat.beq (qM [] (t+m)) (qM [] t+m)=true from qz6 _];exact i4
theorem A.i4{m:Nat}:∀ {a:A},a.j6 [] m=true
 |.base _=>Go.Proofs.YtgcbnjpeifigaaaGreatDoor.i4
 |.fill _=>rfl
 |.put a _ _ _=>A.i4 (a:=a)
theorem ak.TZ{o:ak}:o.adu []=true:=by
 cases o<;>first|rfl|exact A.i4|exact i4
theorem A.Fo(k:CK){c m:Nat}(hc:c<m)(j:Int):∀ {a:A},a.j6 σ.f m=true->(a.subst σ).den ρ k c j=a.den (σ.env ρ) k c j
 |.base t,h=>by
  have h1:=DM h c hc;cases k with
  |int k=>show k.wrap (ρ.f1 (qM σ.f t+c) j)=k.wrap (ρ.f1 (qM σ.f (t+c)) j);rw[h1]
  |bool=>show bp (ρ.f1 (qM σ.f t+c) j==1)=bp (ρ.f1 (qM σ.f (t+c)) j==1);rw[h1]
 |.fill x,_=>by simp only[A.subst,A.den,X.aM]
 |.put a i c' x,h=>by simp only[A.subst,A.den,X.aM,A.Fo k hc j (a:=a) h]
mutual
theorem V.nC(π:Pl):∀ v:V,(v.put σ).ab ρ π=v.ab (σ.env ρ) π
 |.int k x=>by simp only[V.put,V.ab,X.aM]
 |.bool x=>by simp only[V.put,V.ab,X.OL]
 |.str x=>by simp only[V.put,V.ab,X.jV]
 |.ptr b o=>rfl
 |.nilptr=>rfl
 |.slice b o n c=>rfl
 |.nilslice=>rfl
 |.map b=>rfl
 |.nilmap=>rfl
 |.func f a c=>by simp only[V.put,V.ab,V.i7 π a,V.i7 π c]
 |.yield b=>rfl
 |.nilfunc=>rfl
 |.iface t v=>by simp only[V.put,V.ab,V.nC π v]
 |.niliface=>rfl
 |.agg l=>by simp only[V.put,V.ab,V.i7 π l]
 |.tuple l=>by simp only[V.put,V.ab,V.i7 π l]
 |.wptr b o=>rfl
 |.wslice b o n c=>by simp only[V.put,V.ab,X.aM];rfl
 |.ite c a b=>by simp only[V.put,V.ab,X.OL,V.nC π a,V.nC π b]
 |.sptr b o n i=>by simp only[V.put,V.ab,X.aM]
 |.rest _ _ _ _=>rfl
 |.xslice w b off es len cap=>by simp only[V.put,V.ab,X.aM,XC.WO];rfl
 |.xptr w b i es c=>by simp only[V.put,V.ab,X.aM];rfl
 |.any _=>rfl
theorem V.i7(π:Pl):∀ l:List V,V.ae ρ π (V.vr σ l)=V.ae (σ.env ρ) π l
 |[]=>rfl
 |v::l=>by simp only[V.vr,V.ae,V.nC π v,V.i7 π l]
end
theorem V.za:∀ l:List V,(V.vr σ l).length=l.length
 |[]=>rfl
 |_::l=>by simp[V.vr,V.za l]
theorem pK(π:Pl):∀ es:List (V×V),entriesOf ρ π (E0 σ es)=entriesOf (σ.env ρ) π es
 |[]=>rfl
 |(k,v)::l=>by
  have:=pK π l;simp only[entriesOf]at this;simp only[entriesOf,E0,List.map_cons,V.nC,this]
theorem ak.am7{π:Pl}{b:Nat}{ob:Obj}:∀ {o:ak},o.plain=true->o.adu σ.f=true->o.is (σ.env ρ) π b ob->(o.put σ).is ρ π b ob
 |.cells c e w,_,_,⟨spare,h1,h2⟩=>⟨spare,by rw[V.i7];exact h1,by rw[V.za];exact h2⟩
 |.map es,_,_,⟨ms,clock,h1,h2,h3⟩=>⟨ms,clock,h1,by rw[pK];exact h2,by rw[pK];exact h3⟩
 |.loop _ _ _ _ _ _ _,h,_,_=>by simp[ak.plain]at h
 |.deferred _,h,_,_=>by simp[ak.plain]at h
 |.ro _ _,h,_,_=>by simp[ak.plain]at h
 |.win _ _ _ _,h,_,_=>by simp[ak.plain]at h
 |.iter _,h,_,_=>by simp[ak.plain]at h
 |.arr a ks len e w,_,hs,⟨cs,h1,h2,h3,h4⟩=>⟨cs,h1,by rw[X.aM];exact h2,h3,fun j c k hj hk=>by rw[X.aM]at hj;rw[A.Fo k (qq5.1 hk).1 j hs];exact h4 j c k hj hk⟩
 |.warr _ _ _ _,h,_,_=>by simp[ak.plain]at h
 |.opt _ _ _,h,_,_=>by simp[ak.plain]at h
mutual
theorem V.kX:∀ v:V,(v.put σ).dA=v.dA
 |.int _ _=>rfl
 |.bool _=>rfl
 |.str _=>rfl
 |.ptr _ _=>rfl
 |.nilptr=>rfl
 |.slice _ _ _ _=>rfl
 |.nilslice=>rfl
 |.map _=>rfl
 |.nilmap=>rfl
 |.func f a c=>by simp only[V.put,V.dA,V.je a,V.je c]
 |.yield _=>rfl
 |.nilfunc=>rfl
 |.iface t v=>by simp only[V.put,V.dA,V.kX v]
 |.niliface=>rfl
 |.agg l=>by simp only[V.put,V.dA,V.je l]
 |.tuple l=>by simp only[V.put,V.dA,V.je l]
 |.wptr _ _=>rfl
 |.wslice _ _ _ _=>rfl
 |.ite c a b=>by simp only[V.put,V.dA,V.kX a,V.kX b]
 |.sptr _ _ _ _=>rfl
 |.rest _ _ _ _=>rfl
 |.xslice w _ _ _ _ cap=>by cases w<;>cases cap<;>rfl
 |.xptr _ _ _ _ _=>rfl
 |.any _=>rfl
theorem V.je:∀ l:List V,V.lQ (V.vr σ l)=V.lQ l
 |[]=>rfl
 |v::l=>by simp only[V.vr,V.lQ,V.kX v,V.je l]
end
theorem y4:∀ es:List (V×V),oC (E0 σ es)=oC es
 |[]=>rfl
 |(k,v)::l=>by simp only[E0,oC,V.kX,y4 l]
theorem ak.SL{o:ak}(h:o.plain=true):(o.put σ).plain=true:=by
 cases o with
 |cells c e w=>simp only[ak.plain,ak.put,V.je]at h ⊢;exact h
 |map es=>simp only[ak.plain,ak.put,y4]at h ⊢;exact h
 |arr _ _ _ _ _=>rfl
 |_=>simp[ak.plain]at h
theorem y9:∀ {l:List (Nat×ak)} {x:Nat×ak},x∈oK σ l->∃ o,(x.1,o)∈l/\x.2=o.put σ
 |[],x,h=>by simp[oK]at h
 |(b,o)::l,x,h=>by
  unfold oK at h;rcases List.mem_cons.1 h with rfl|h
  ·exact⟨o,by simp,rfl⟩
  ·obtain⟨o',h1,h2⟩:=y9 h;exact⟨o',by simp[h1],h2⟩
end
theorem ug{σ:Sub}{i:Nat}{c:B}:(wJ σ i c).f=σ.f:=by
 unfold wJ;split<;>rfl
theorem xJ:∀ (ps l:List B) (t:B) (σ:Sub),(re ps l t σ).f=σ.f
 |[],_,_,_=>rfl
 |p::ps,[],t,σ=>by
  unfold re;dsimp only;rw[xJ ps];split
  ·exact ug
  ·rfl
 |p::ps,c::l,t,σ=>by
  unfold re;dsimp only;rw[xJ ps];split
  ·exact ug
  ·rfl
theorem BP(p a:X)(σ:Sub):(BO p a σ).f=σ.f:=by
 unfold BO;split
 ·rfl
 ·rfl
 ·rfl
 ·split
  ·exact xJ ..
  ·rfl
 ·split
  ·exact ug
  ·exact ug
  ·rfl
 ·rfl
mutual
theorem V2:∀ (p a:V) (σ:Sub),(b9 p a σ).f=σ.f
 |.agg l,a,σ=>by cases a<;>first|(unfold b9;exact ri l _ σ)|(unfold b9;rfl)
 |.tuple l,a,σ=>by cases a<;>first|(unfold b9;exact ri l _ σ)|(unfold b9;rfl)
 |.int _ _,a,σ=>by cases a<;>first|(unfold b9;exact BP ..)|(unfold b9;rfl)
 |.bool _,a,σ=>by cases a<;>first|(unfold b9;exact BP ..)|(unfold b9;rfl)
 |.str _,a,σ=>by cases a<;>first|(unfold b9;exact BP ..)|(unfold b9;rfl)
 |.ptr _ _,a,σ=>by unfold b9;rfl
 |.nilptr,a,σ=>by unfold b9;rfl
 |.slice _ _ _ _,a,σ=>by unfold b9;rfl
 |.nilslice,a,σ=>by unfold b9;rfl
 |.map _,a,σ=>by unfold b9;rfl
 |.nilmap,a,σ=>by unfold b9;rfl
 |.func _ _ _,a,σ=>by unfold b9;rfl
 |.yield _,a,σ=>by unfold b9;rfl
 |.nilfunc,a,σ=>by unfold b9;rfl
 |.iface _ _,a,σ=>by unfold b9;rfl
 |.niliface,a,σ=>by unfold b9;rfl
 |.wptr _ _,a,σ=>by unfold b9;rfl
 |.wslice _ _ _ _,a,σ=>by unfold b9;rfl
 |.ite _ _ _,a,σ=>by unfold b9;rfl
 |.sptr _ _ _ _,a,σ=>by unfold b9;rfl
 |.rest _ _ _ _,a,σ=>by unfold b9;rfl
 |.xslice _ _ _ _ _ _,a,σ=>by unfold b9;rfl
 |.xptr _ _ _ _ _,a,σ=>by unfold b9;rfl
 |.any _,a,σ=>by unfold b9;rfl
theorem ri:∀ (l m:List V) (σ:Sub),(kz l m σ).f=σ.f
 |v::l,w::m,σ=>by
  unfold kz;rw[ri l m,V2 v w]
 |[],_,_=>by unfold kz;rfl
 |_::_,[],_=>by unfold kz;rfl
end
section
variable {P:Program} {cx cx0:Cx} {ρ:Env} {S:Nat→Prop} {π0:Pl} {st st':St} {w:World} {L:List (Nat×List V)} {ng:Nat}
theorem xn{σ:Sub}{v:V}:∀ {r:R Leaf} {st:St},ai ρ st.pc->(Bn ng σ r st).ag ρ=some (v,st')->
  ∃ lf st1,r.ag (σ.env ρ)=some lf/\cG ρ st st1/\v=(lf.v.put σ).we (sh st1.n ng)/\st'={h:=kc (sh st1.n ng) (oK σ lf.objs) st1.h,n:=st1.n+(lf.n-ng),pc:=st1.pc}
 |.ok lf,st,hp,h=>by
  simp only[Bn,R.ag,qqk,qqv]at h;exact⟨lf,st,rfl,.refl hp,h.1.symm,h.2.symm⟩
 |.br c t f,st,hp,h=>by
  unfold Bn at h;obtain⟨st1,hl,h1⟩:=ah hp h;rw[X.OL]at h1;split at h1
  ·rename_i hc;obtain⟨lf,st2,h2,h3,h4⟩:=xn hl.pc h1;exact⟨lf,st2,by unfold R.ag;rw[if_pos hc];exact h2,hl.trans h3,h4⟩
  ·rename_i hc;obtain⟨lf,st2,h2,h3,h4⟩:=xn hl.pc h1;exact⟨lf,st2,by unfold R.ag;rw[if_neg (by simp[hc])];exact h2,hl.trans h3,h4⟩
 |.stuck _,_,_,h=>by simp[Bn,R.ag]at h
theorem r7(hmix:P.follows .mixedOrders=true)(htt:nu P cx0.tt)(hft:sl P cx0.ft)(hsm:∀ ρ':Env,ρ'.ro=ρ.ro->SumOk P cx0 ρ')(hng:cx.ng=ng)(hng0:cx0.ng=ng)(hL:∀ x∈L,x.1<ng)(hro:∀ ρ':Env,ρ'.ro=ρ.ro->RoAt ρ' L)
  {N:Nat} {f:FuncId} {fn:Func} (hfn:P.funcs[f]?=some fn):∀ {t:List (List V×R Leaf)},bM cx0 L ng N f t->fM P cx ρ f (cb L ng t)
 |[],_,args,st,v,st',h,_,_,_,_,_,_,_=>by simp[cb,R.ag]at h
 |(a0,tr)::l,ht,args,st,v,st',h,S,π0,w,ac,n,hh,ha=>by
  unfold cb at h;generalize hσ:kz a0 args {v:=[],n:=0,b:=[],s:=[]}=σ at h;dsimp only at h;split at h
  ·exact r7 hmix htt hft hsm hng hng0 hL hro hfn (fun x hx=>ht x (qq3 _ hx)) args st v st' h S π0 w ac n hh ha
  split at h
  ·rename_i hb;obtain rfl:=V.aR _ _ hb;have hσf:σ.f=[]:=by rw[<-hσ];exact ri _ _ _
   split at h
   ·rename_i hthere;obtain⟨lf,st1,h1,hl,rfl,rfl⟩:=xn hh.pc h;obtain⟨h2,h3⟩:=ht _ (qq1 ..);dsimp only at h2 h3;rw[<-h3]at h1;obtain⟨st2,h4,h5,hnw,h6,h7⟩:=jb h1;have hh1:=hh.iw hl;have hobjs:∀ x∈oK σ lf.objs,ng<=x.1/\∃ o,st2.h.get x.1=some o/\(x.2.plain=true/\o.bg=false)/\∀ π b ob,o.is (σ.env ρ) π b ob->x.2.is ρ π b ob:=by
     intro x hx;obtain⟨o,h8,h9⟩:=y9 hx;rw[h6]at h8;obtain⟨a1,a2,a3⟩:=gP _ h8;exact⟨a1,o,a2,⟨by rw[h9];exact ak.SL a3,ak.lT a3⟩,fun π b ob ho=>by rw[h9];exact ak.am7 a3 (by rw[hσf];exact ak.TZ) ho⟩
    have hae:∀ π,V.ae ρ π (V.vr σ a0)=V.ae (σ.env ρ) π a0:=fun π=>V.i7 π a0
    have:=tA (ρ:=ρ) (ρ':=σ.env ρ) hmix htt hft (hsm _ rfl) hng hng0 hL (hro _ rfl) rfl h4 h5 (v':=lf.v.put σ) (fun π=>V.nC π lf.v) (by rw[V.kX];exact hnw) hobjs h2 hfn hh1 (by rw[hl.h];exact hthere) (fun π hk=>(hae π).symm.trans (ha π hk)) (n:=n);refine this.mono fun e w' hp=>EPost.iw hl ?_
    rw[h7];exact hp
   ·simp[R.ag]at h
  ·exact r7 hmix htt hft hsm hng hng0 hL hro hfn (fun x hx=>ht x (qq3 _ hx)) args st v st' h S π0 w ac n hh ha
end
end Go.Proofs.YtgcbnjpeifigaaaGreatDoor
