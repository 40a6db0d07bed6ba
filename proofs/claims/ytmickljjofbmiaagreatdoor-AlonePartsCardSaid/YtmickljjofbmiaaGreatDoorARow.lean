/- Alone: the rows of commits, what a round's end stands for. No condition. -/
import Derived.Test.YtmickljjofbmiaaGreatDoorATold
namespace Go.Proofs.YtmickljjofbmiaaGreatDoor
open Go Go.Proofs
def aaN:Nat→Nat→List Nat
 | _,0=>[]
 | o,n+1=>o::aaN (o+1) n
def tM:Tch:=⟨100::140::141::60::540::541::(aaN 101 34++aaN 501 34),[(30,1),(31,14),(50,1),(60,14)]⟩
noncomputable def si(p:Par)(s0:jB)(n c:Nat)(j:Int):Int:=if 0≤j∧j<n then DL p (aA p s0 j.toNat) c else 0
noncomputable def ck(ρ:Env)(p:Par)(s0:jB)(n:Nat):Env:={ρ with
 v:=fun i=>if i=100 then (n:Int) else if 101≤i∧i≤134 then (aA p s0 n).h.cell (i-100) else if i=140 then a7 (aA p s0 n).res else if i=141 then (aA p s0 n).at_ else ρ.v i
 f1:=fun i=>if i=30 then (aA p s0 n).m else if 31≤i∧i≤44 then si p s0 n (i-31) else ρ.f1 i}
theorem amW:∀ k:Fin 34,eS (101+k.val) tM.vs=true:=by decide +kernel
theorem amV:∀ k:Fin 14,RU tM.ts (31+k.val)=true:=by decide +kernel
theorem DY{ρ:Env}{p:Par}{s0:jB}{n i:Nat}(h:eS i tM.vs=false):(ck ρ p s0 n).v i=ρ.v i:=by
 have h1:i≠100:=fun e=>by subst e;exact absurd h (by decide)
 have h2:¬(101≤i∧i≤134):=fun e=>by
  have:=amW ⟨i-101,by omega⟩
  rw [show 101+(i-101)=i by omega,h] at this
  cases this
 have h3:i≠140:=fun e=>by subst e;exact absurd h (by decide)
 have h4:i≠141:=fun e=>by subst e;exact absurd h (by decide)
 simp only [ck,if_neg h1,if_neg h2,if_neg h3,if_neg h4]
theorem DX{ρ:Env}{p:Par}{s0:jB}{n i:Nat}(h:RU tM.ts i=false):(ck ρ p s0 n).f1 i=ρ.f1 i:=by
 have h1:i≠30:=fun e=>by subst e;exact absurd h (by decide)
 have h2:¬(31≤i∧i≤44):=fun e=>by
  have:=amV ⟨i-31,by omega⟩
  rw [show 31+(i-31)=i by omega,h] at this
  cases this
 simp only [ck,if_neg h1,if_neg h2]
theorem Z6{ρ:Env}{p:Par}{s0:jB}(n m:Nat):Agree tM (ck ρ p s0 n) (ck ρ p s0 m):=⟨fun i h=>by rw [DY h,DY h],fun i h=>by rw [DX h,DX h],rfl,rfl,rfl,rfl,rfl,rfl⟩
theorem Xt{ρ:Env}{p:Par}{s0:jB}(n:Nat):Agree tM ρ (ck ρ p s0 n):=⟨fun _ h=>DY h,fun _ h=>DX h,rfl,rfl,rfl,rfl,rfl,rfl⟩
theorem Dv{ρ:Env}{p:Par}{s0:jB}(n:Nat):Agree tM (ck ρ p s0 n) ρ:=⟨fun _ h=>(DY h).symm,fun _ h=>(DX h).symm,rfl,rfl,rfl,rfl,rfl,rfl⟩
theorem g8{ρ:Env}{p:Par}{s0:jB}{n i:Nat}(h1:1≤i)(h2:i≤34):(ck ρ p s0 n).v (100+i)=(aA p s0 n).h.cell i:=by
 simp only [ck,if_neg (show 100+i≠100 by omega),if_pos (show 101≤100+i∧100+i≤134 by omega),Nat.add_sub_cancel_left]
theorem sX{ρ:Env}{p:Par}{s0:jB}{n c:Nat}(h:c<14):(ck ρ p s0 n).f1 (31+c)=si p s0 n c:=by
 simp only [ck,if_neg (show 31+c≠30 by omega),if_pos (show 31≤31+c∧31+c≤44 by omega),Nat.add_sub_cancel_left]
theorem Dr.at{p:Par}{s0:jB}{ρ:Env}(T:Dr p s0 ρ)(n:Nat):Dr p s0 (ck ρ p s0 n):=⟨T.ro,T.size,T.id,T.acc,T.why,T.am0,T.am1,T.am2,T.hart,T.com⟩
theorem dN{α:Type}{k i:Nat}{x y:α} {l:List (Nat×α)} (h:look ((k,x)::l) i=some y):(i=k∧x=y)∨look l i=some y:=by
 unfold look at h
 split at h
 ·rename_i hb
  exact .inl ⟨(Nat.eq_of_beq_eq_true hb).symm,Option.some.inj h⟩
 ·exact .inr h
theorem my{α:Type}{i:Nat}{y:α} (h:look [] i=some y):False:=by cases h
theorem zT{o:Nat}{g:Nat→X}:∀ {n j i:Nat} {y:X},look (hvL o g j n) i=some y→∃ q,j≤q∧q<j+n∧i=o+q∧y=g q
 | 0,_,_,_,h=>(my h).elim
 | n+1,j,i,y,h=>by
  rcases dN h with ⟨h1,h2⟩ | h
  ·exact⟨j,by omega,by omega,h1,h2.symm⟩
  ·obtain⟨q,h1,h2,h3,h4⟩:=zT h
   exact⟨q,by omega,by omega,h3,h4⟩
def BC(q:CK)(z:Int):Int:=match q with
 | .int k=>k.wrap z
 | .bool=>a7 (z==1)
def sD(ρ:Env)(a:A)(r:Nat→Int→Int):Prop:=∀ (c:Nat) (q:CK),NA[c]?=some q→∀ j:Int,q.val (A.den ρ q c j a)=q.val (BC q (r c j))
theorem KQ{ρ:Env}{q:CK}{t c:Nat}{j z:Int} (h:ρ.f1 (t+c) j=z):q.sym ρ t c j=BC q z:=by
 cases q<;>simp only [CK.sym,BC,h]
theorem vK{c:Nat}{q:CK} (h:NA[c]?=some q):c<14:=by
 have:=(List.getElem?_eq_some_iff.1 h).1
 exact this
theorem CV{ρ:Env}{i:X}{z:Int}(hi:i.den ρ=z)(q:CK)(c:Nat)(j:Int):∀ (l:List X) (k:Nat) (a:A),A.den ρ q c j (pj i k l a)=if j=z∧k≤c∧c<k+l.length then ((l[c-k]?).getD (.lit 0)).den ρ else A.den ρ q c j a
 | [],k,a=>by
  rw [if_neg (by simp only [List.length_nil];omega)]
  rfl
 | x::l,k,a=>by
  rw [pj,CV hi q c j l (k+1),A.den,hi]
  by_cases hj:j=z
  ·by_cases hc:c=k
   ·subst hc
    rw [if_neg (by omega),if_pos ⟨rfl,hj⟩,if_pos ⟨hj,by omega,by simp only [List.length_cons];omega⟩]
    simp
   ·by_cases h1:k+1≤c∧c<k+1+l.length
    ·rw [if_pos ⟨hj,h1⟩,if_pos ⟨hj,by omega,by simp only [List.length_cons];omega⟩,show c-k=(c-(k+1))+1 by omega,List.getElem?_cons_succ]
    ·rw [if_neg (fun h=>h1 h.2),if_neg (fun h=>hc h.1),if_neg (fun h=>by have:=h.2;simp only [List.length_cons] at this;omega)]
  ·rw [if_neg (fun h=>hj h.1),if_neg (fun h=>hj h.2),if_neg (fun h=>hj h.1)]
theorem Qa{p:Par}{s0:jB}{n c:Nat}{j:Int}:si p s0 (n+1) c j=if j=n then DL p (aA p s0 n) c else si p s0 n c j:=by
 unfold si
 by_cases h:j=n
 ·rw [if_pos (by omega),if_pos h,h]
  rfl
 ·rw [if_neg h]
  by_cases h2:0≤j∧j<n
  ·rw [if_pos h2,if_pos (by omega)]
  ·rw [if_neg h2,if_neg (by omega)]
theorem Ky{ρ:Env}{p:Par}{s0:jB}{n:Nat}{a:A} (ha:sD ρ a (si p s0 n)) {i:X} (hi:i.den ρ=(n:Int)) {l:List X} (hl:l.length=14) (hv:∀ (c:Nat) (q:CK),NA[c]?=some q→q.val (((l[c]?).getD (.lit 0)).den ρ)=q.val (BC q (DL p (aA p s0 n) c))):sD ρ (pj i 0 l a) (si p s0 (n+1)):=by
 intro c q hq j
 have hc:=vK hq
 rw [CV hi,Qa]
 by_cases hj:j=n
 ·rw [if_pos ⟨hj,by omega,by omega⟩,if_pos hj,Nat.sub_zero]
  exact hv c q hq
 ·rw [if_neg (fun h=>hj h.1),if_neg hj]
  exact ha c q hq j
theorem RE{ρ:Env}{p:Par}{s0:jB}:sD ρ (.fill (.lit 0)) (si p s0 0):=fun c q _ j=>by
 have:si p s0 0 c j=0:=by unfold si;rw [if_neg (by omega)]
 rw [this]
 cases q with
 | int k=>show Value.int k 0=Value.int k (k.wrap 0);cases k<;>rfl
 | bool=>rfl
theorem yO{ρ:Env}{t:Nat}{r:Nat→Int→Int} (h:∀ c,c<14→ρ.f1 (t+c)=r c):sD ρ (.base t) r:=fun c q hq j=>by
 show q.val (q.sym ρ t c j)=_
 rw [KQ (by rw [h c (vK hq)])]
theorem sn{z:Int}(h:0≤z∧z≤4294967295):BC (.int .u32) z=z:=(bn (by simp only [jT];omega) (by simp only [kR];omega):IntKind.u32.wrap z=z)
theorem A4{z:Int}(h:0≤z∧z≤4294967295):BC (.int .i64) z=z:=(bn (by simp only [jT];omega) (by simp only [kR];omega):IntKind.i64.wrap z=z)
theorem MN(b:Bool):BC .bool (a7 b)=a7 b:=by cases b<;>rfl
theorem XQ{ρ:Env}{l:List X}{a:Acc}{c:Dp}(ha:∃ size,a.Ok size)(hc:c.Ok) (hl:∀ i,i<14→((l[i]?).getD (.lit 0)).den ρ=DM a c i):∀ (i:Nat) (q:CK),NA[i]?=some q→q.val (((l[i]?).getD (.lit 0)).den ρ)=q.val (BC q (DM a c i)):=by
 obtain⟨size,ha⟩:=ha
 have hw:(0:Int)≤a.w∧(a.w:Int)≤4294967295:=by
  have hk:=ha.k
  have:a.w≤4:=by
   by_cases h1:1≤a.k
   ·by_cases h2:a.k≤2
    ·have:=ha.w h1 h2;omega
    ·by_cases h5:a.k≤5
     ·have:=ha.w4 (by omega) h5;omega
     ·have:=ha.none (.inr (by omega));omega
   ·have:=ha.none (.inl (by omega));omega
  omega
 have hop:(0:Int)≤a.op∧(a.op:Int)≤4294967295:=by
  by_cases h:a.k=5
  ·have:=ha.amo h;omega
  ·have:=ha.op h;omega
 have hk:(0:Int)≤a.k∧(a.k:Int)≤4294967295:=by have:=ha.k;omega
 have hrd:=hc.rd
 have hcs:=hc.cause
 intro i q hq
 rw [hl i (vK hq)]
 have hi:=vK hq
 match i,hq with
 | 0,hq=>obtain rfl:=Option.some.inj hq;exact congrArg _ (sn hc.pc).symm
 | 1,hq=>obtain rfl:=Option.some.inj hq;exact congrArg _ (sn hc.word).symm
 | 2,hq=>obtain rfl:=Option.some.inj hq;exact congrArg _ (A4 hk).symm
 | 3,hq=>obtain rfl:=Option.some.inj hq;exact congrArg _ (sn ha.ad).symm
 | 4,hq=>obtain rfl:=Option.some.inj hq;exact congrArg _ (A4 hw).symm
 | 5,hq=>obtain rfl:=Option.some.inj hq;exact congrArg _ (sn ha.v).symm
 | 6,hq=>obtain rfl:=Option.some.inj hq;exact congrArg _ (A4 hop).symm
 | 7,hq=>obtain rfl:=Option.some.inj hq;exact congrArg _ (MN a.aq).symm
 | 8,hq=>obtain rfl:=Option.some.inj hq;exact congrArg _ (MN a.rl).symm
 | 9,hq=>obtain rfl:=Option.some.inj hq;exact congrArg _ (sn hc.x).symm
 | 10,hq=>obtain rfl:=Option.some.inj hq;exact congrArg _ (MN c.ok).symm
 | 11,hq=>obtain rfl:=Option.some.inj hq;exact congrArg _ (A4 ⟨hrd.1,by omega⟩).symm
 | 12,hq=>obtain rfl:=Option.some.inj hq;exact congrArg _ (sn hc.val).symm
 | 13,hq=>obtain rfl:=Option.some.inj hq;exact congrArg _ (A4 ⟨hcs.1,by omega⟩).symm
theorem DZ{ρ:Env}{x:X}{b:Bool}(h:x.den ρ=a7 b):(X.eq x (.lit 1)).den ρ=a7 b:=by
 rw [X.den,h]
 cases b<;>rfl
section
variable {W:World} {p:Par} (hro:bx p.ro) (hW:∀ x∈aj,W.heap[x.1]?=some (p.ro x.1))
variable {s0:jB} {ρ:Env} (T:Dr p s0 ρ) {k:Nat}
variable (hs:(aA p s0 k).h.Ok) (hc:(aA p s0 k).h.cause=0)
include hro hW T hs hc
theorem OY{n:X} (hn:n.den ρ=(k:Int)) (hfe:fS p (aA p s0 k)=true):∀ (c:Nat) (q:CK),NA[c]?=some q→q.val ((((F9 (xK p (aA p s0 k)) n)[c]?).getD (.lit 0)).den ρ)=q.val (BC q (DL p (aA p s0 k) c)):=by
 have ha:=fQ hro hW hs hc
 have h:=ow hro hW hs hc (xK p (aA p s0 k))
 have hb:10≤xK p (aA p s0 k)∧xK p (aA p s0 k)≤14:=by
  unfold xK
  split<;>(try split)<;>omega
 have ec:∀ i,DL p (aA p s0 k) i=DM (acc p (aA p s0 k)) (O2 p (aA p s0 k)).2 i:=fun i=>by
  unfold DL
  rw [hfe]
 have tc:∀ i:Nat,i<7→(tb (xK p (aA p s0 k)) n (35+i)).den ρ=(O2 p (aA p s0 k)).2.cell i:=fun i hi=>(bp hn _ _).trans (T.com _ k i hb.1 hb.2 hi)
 have ta:∀ i:Nat,i<7→(tb 1 n i).den ρ=(acc p (aA p s0 k)).cell i:=fun i hi=>(bp hn 1 i).trans (T.acc k i hi)
 intro c q hq
 rw [ec c]
 refine XQ ⟨_,ha⟩ h.com (fun i hi=>?_) c q hq
 match i,hi with
 | 0,_=>exact tc 0 (by omega)
 | 1,_=>exact tc 1 (by omega)
 | 2,_=>exact ta 0 (by omega)
 | 3,_=>exact cU (ta 1 (by omega)) ha.ad
 | 4,_=>exact ta 2 (by omega)
 | 5,_=>exact cU (ta 3 (by omega)) ha.v
 | 6,_=>exact ta 4 (by omega)
 | 7,_=>exact DZ (ta 5 (by omega))
 | 8,_=>exact DZ (ta 6 (by omega))
 | 9,_=>exact tc 2 (by omega)
 | 10,_=>exact DZ (tc 3 (by omega))
 | 11,_=>exact tc 4 (by omega)
 | 12,_=>exact tc 5 (by omega)
 | 13,_=>exact tc 6 (by omega)
omit hro hW T hc in
theorem OX{x:X} (hx:x.den ρ=(aA p s0 k).h.pc) (hfe:fS p (aA p s0 k)=false):∀ (c:Nat) (q:CK),NA[c]?=some q→q.val ((((Na x)[c]?).getD (.lit 0)).den ρ)=q.val (BC q (DL p (aA p s0 k) c)):=by
 intro c q hq
 have ec:DL p (aA p s0 k) c=if c=0 then (aA p s0 k).h.pc else if c=13 then 4 else 0:=by
  unfold DL
  rw [hfe]
 rw [ec]
 have hc:=vK hq
 match c,hq with
 | 0,hq=>obtain rfl:=Option.some.inj hq;rw [if_pos rfl,sn hs.pc];exact congrArg _ hx
 | 1,hq | 2,hq | 3,hq | 4,hq | 5,hq | 6,hq | 7,hq | 8,hq | 9,hq | 10,hq | 11,hq | 12,hq | 13,hq=>obtain rfl:=Option.some.inj hq;rfl
end
end Go.Proofs.YtmickljjofbmiaaGreatDoor
