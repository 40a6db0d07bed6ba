/- Alone: the calls of a round answer as the tables tell; what a round ends in. No condition. -/
import Derived.Test.YtmickljjofbmiaaGreatDoorASem
namespace Go.Proofs.YtmickljjofbmiaaGreatDoor
open Go Go.Proofs
noncomputable def LN(p:Par)(s:fg)(b:Nat):gF×Dg:=MV p s (lF p s b).1 (lF p s b).2
structure Ao (p:Par) (s0:fg) (ρ:Env):Prop where
 ro:ρ.ro=p.ro
 size:ρ.v 50=p.size
 id:ρ.v 42=p.id
 acc:∀ n i:Nat,i<7→ρ.f2 1 n i=(acc p (ak p s0 n)).cell i
 why:∀ n:Nat,ρ.f2 1 n (7:Nat)=(yA p (ak p s0 n)).2
 am0:∀ n:Nat,ρ.f2 2 n (0:Nat)=(qc p (ak p s0 n)).1
 am1:∀ n:Nat,ρ.f2 2 n (1:Nat)=(qc p (ak p s0 n)).2.1
 am2:∀ n:Nat,ρ.f2 2 n (2:Nat)=(qc p (ak p s0 n)).2.2
 hart:∀ b n i:Nat,10≤b→b≤14→i≤34→ρ.f2 b n i=(LN p (ak p s0 n) b).1.cell i
 com:∀ b n i:Nat,10≤b→b≤14→i<7→ρ.f2 b n (35+i:Nat)=(LN p (ak p s0 n) b).2.cell i
structure RowOk (p:Par) (s:fg) (ρ:Env) (k:Nat) (r:RowX):Prop where
 n:r.n.den ρ=(k:Int)
 h:∀ π,r.h.ae ρ π=.agg s.h.c.toArray
 w:∀ π,(u32 r.w).ae ρ π=.int .u32 (eI p s)
 t:ρ.f1 r.t=s.m
 at_:r.at_.den ρ=s.at_
def rj(ρ:Env)(f:FuncId)(x:List V×R Leaf):Prop:=∃ a val,bl Tryz.prog aj 7 100000 ρ.ro f a val∧(∀ π,V.af ρ π x.1=a)∧∀ lf,x.2.ai ρ=some lf→lf.objs=[]∧lf.n=7+100000∧(∀ π,lf.v.ae ρ π=val)∧(∀ r,lf.v.lR r=lf.v)∧lf.v.bQ=true
theorem uZ{ρ:Env}{f:FuncId}{a:List Value}{val:Value}(h:bl Tryz.prog aj 7 100000 ρ.ro f a val){x:List V}(hx:∀ π,V.af ρ π x=a){v:V}(hv:∀ π,v.ae ρ π=val)(hr:∀ r,v.lR r=v)(hw:v.bQ=true):rj ρ f (x,lfN v):=
 ⟨a,val,h,hx,fun lf hl=>by
  obtain rfl:=Option.some.inj hl
  exact⟨rfl,rfl,hv,hr,hw⟩⟩
theorem JU(r:Nat→Nat)(g:Nat→X)(l:List V):∀ (n j:Nat),V.sD r (Ak g j n l)=Ak g j n (V.sD r l)
 | 0,_=>rfl
 | n+1,j=>by rw [Ak,V.sD,JU r g l n (j+1)];rfl
theorem AJ(g:Nat→X)(l:List V):∀ (n j:Nat),V.fq (Ak g j n l)=V.fq l
 | 0,_=>rfl
 | n+1,j=>by rw [Ak,V.fq,AJ g l n (j+1)];rfl
theorem Dp(r:Nat→Nat)(f:Nat)(n:X):(j1 f n).lR r=j1 f n:=by
 unfold j1 Ai
 rw [V.lR,V.sD,JU]
 rfl
theorem xO(f:Nat)(n:X):(j1 f n).bQ=true:=by
 unfold j1 Ai
 rw [V.bQ,V.fq,AJ]
 rfl
theorem aao{ρ:Env}{n:X}{a:Acc}{size:Int}(ha:a.Ok size) (w1:(rU (tb 1 n 1)).den ρ=a.ad) (w3:(rU (tb 1 n 3)).den ρ=a.v) (t4:(tb 1 n 4).den ρ=(a.op:Int)) (e5:(X.eq (tb 1 n 5) (.lit 1)).tt ρ=a.aq) (e6:(X.eq (tb 1 n 6) (.lit 1)).tt ρ=a.rl) (π:Pl):(W9 n a.k a.w).ae ρ π=.agg a.c.toArray:=by
 obtain⟨k,ad,w,v,op,aq,rl⟩:=a
 obtain⟨hk,_,_,hn,hz,hw,hw4,_,_,hop⟩:=ha
 simp only at *
 have key:∀ (x1 x3 x4:X),x1.den ρ=ad→x3.den ρ=v→x4.den ρ=(op:Int)→(V.agg [i64 (nl k),u32 x1,i64 (nl w),u32 x3,i64 x4,b1 (tb 1 n 5),b1 (tb 1 n 6)]).ae ρ π=.agg (Acc.c ⟨k,ad,w,v,op,aq,rl⟩).toArray:=fun x1 x3 x4 h1 h3 h4=>by
  simp only [V.ae,V.af,i64,u32,b1,kY,h1,h3,h4,e5,e6]
  rfl
 have z:∀ {m:Int},m=0→(X.lit 0).den ρ=m:=fun h=>h.symm
 have o0:k≠5→(op:Int)=0:=fun h=>by have:=hop h;omega
 obtain h | h | h | h | h | h | h:k=0∨k=1∨k=2∨k=3∨k=4∨k=5∨k=6:=by omega
 ·subst h
  obtain⟨q1,q2,q3⟩:=hn (.inl rfl)
  subst q1
  exact key (.lit 0) (.lit 0) (.lit 0) (z q2) (z (hz rfl)) (z (o0 (by omega)))
 ·subst h
  rcases hw (by omega) (by omega) with q | q | q<;>subst q<;>exact key _ _ (.lit 0) w1 w3 (z (o0 (by omega)))
 ·subst h
  rcases hw (by omega) (by omega) with q | q | q<;>subst q<;>exact key _ _ (.lit 0) w1 w3 (z (o0 (by omega)))
 ·subst h
  have q:=hw4 (by omega) (by omega)
  subst q
  exact key _ _ (.lit 0) w1 w3 (z (o0 (by omega)))
 ·subst h
  have q:=hw4 (by omega) (by omega)
  subst q
  exact key _ _ (.lit 0) w1 w3 (z (o0 (by omega)))
 ·subst h
  have q:=hw4 (by omega) (by omega)
  subst q
  exact key _ _ _ w1 w3 t4
 ·subst h
  obtain⟨q1,q2,q3⟩:=hn (.inr rfl)
  subst q1
  exact key (.lit 0) _ (.lit 0) (z q2) w3 (z (o0 (by omega)))
section
variable {W:World} {p:Par} (hro:aZ p.ro) (hW:∀ x∈aj,W.heap[x.1]?=some (p.ro x.1))
variable {s0:fg} {ρ:Env} (T:Ao p s0 ρ) {k:Nat} {r:RowX} (R:RowOk p (ak p s0 k) ρ k r)
variable (hs:(ak p s0 k).h.Ok) (hi:(ak p s0 k).h.id=p.id) (hc:(ak p s0 k).h.cause=0) (hsz:16≤p.size∧p.size≤4096)
include hro hW T R hs hc
theorem CN(π:Pl):(W9 r.n (acc p (ak p s0 k)).k (acc p (ak p s0 k)).w).ae ρ π=.agg (acc p (ak p s0 k)).c.toArray:=by
 have ha:=fA hro hW hs hc
 have ht:=T.acc k
 exact aao ha (cO ((a9 R.n 1 1).trans (ht 1 (by omega))) ha.ad) (cO ((a9 R.n 1 3).trans (ht 3 (by omega))) ha.v) ((a9 R.n 1 4).trans (ht 4 (by omega))) (Iz ((a9 R.n 1 5).trans (ht 5 (by omega)))) (Iz ((a9 R.n 1 6).trans (ht 6 (by omega)))) π
theorem Dr (hi:(ak p s0 k).h.id=p.id) {b:Nat} (h1:10≤b) (h2:b≤14) (π:Pl):(j1 b r.n).ae ρ π=.agg (LN p (ak p s0 k) b).1.c.toArray:=by
 have h:=jO hro hW hs hc b
 exact ly h.hart (by rw [T.id,h.id,hi]) (fun i _ hi=>by rw [a9 R.n];exact T.hart b k i h1 h2 hi) π
theorem JI{b:Nat}(h1:10≤b)(h2:b≤14)(π:Pl):(vP b r.n).ae ρ π=.agg ((LN p (ak p s0 k) b).2.c (acc p (ak p s0 k))).toArray:=by
 have ha:=fA hro hW hs hc
 exact D7 R.n ha.ad ha.v (fun i hi=>T.acc k i hi) (fun i hi=>T.com b k i h1 h2 hi) π
include hsz in
theorem It{f:X→X→_root_.Go.Proofs.YtmickljjofbmiaaGreatDoor.R Leaf}{g:X→Nat→Nat→V} (hk:∀ (n sz:X),f n sz=rK n sz (fun k w=>lfN (g n k w)) (.stuck "never")) {fn:FuncId} {val:Value}
  (hcall:bl Tryz.prog aj 7 100000 ρ.ro fn [.agg (ak p s0 k).h.c.toArray,.int .u32 (eI p (ak p s0 k)),.int .i64 p.size] val) (hv:∀ π,(g r.n (acc p (ak p s0 k)).k (acc p (ak p s0 k)).w).ae ρ π=val) (hr:∀ k w q,(g r.n k w).lR q=g r.n k w) (hw:∀ k w,(g r.n k w).bQ=true):∀ x∈LJ r f,rj ρ fn x:=by
 intro x hx
 obtain rfl:=List.mem_singleton.1 hx
 have ha:=fA hro hW hs hc
 refine⟨_,_,hcall,fun π=>?_,fun lf hl=>?_⟩
 ·have:=R.w π
  simp only [V.af,R.h π,this,Pu,V.ae]
  rw [show (X.var 50).den ρ=p.size from T.size]
 ·rw [hk,wC (a:=acc p (ak p s0 k)) ha ((a9 R.n 1 0).trans (T.acc k 0 (by omega))) ((a9 R.n 1 1).trans (T.acc k 1 (by omega))) ((a9 R.n 1 2).trans (T.acc k 2 (by omega))) (show (X.var 50).den ρ=p.size from T.size) hsz] at hl
  obtain rfl:=Option.some.inj hl
  exact⟨rfl,rfl,hv,fun q=>hr _ _ q,hw _ _⟩
theorem SA{fn:FuncId}{ld':Nat→X}{f:Nat→X→_root_.Go.Proofs.YtmickljjofbmiaaGreatDoor.R Leaf}{g:Nat→X→V} (hf:∀ b n,f b n=lfN (g b n)) (hld:∀ w,w≤4→(ld' w).den ρ=ld (ak p s0 k).m (acc p (ak p s0 k)).ad w) {val:Nat→Value}
  (hcall:∀ b,10≤b→b≤14→bl Tryz.prog aj 7 100000 ρ.ro fn [.agg (ak p s0 k).h.c.toArray,.int .u32 (eI p (ak p s0 k)),.int .i64 p.size,.agg #[.int .u32 (lF p (ak p s0 k) b).1,.bool (lF p (ak p s0 k) b).2]] (val b))
  (hv:∀ b,10≤b→b≤14→∀ π,(g b r.n).ae ρ π=val b) (hr:∀ b q,(g b r.n).lR q=g b r.n) (hw:∀ b,(g b r.n).bQ=true):∀ x∈MZ r ld' f,rj ρ fn x:=by
 have go:∀ {b:Nat} {x:X} {o:X},10≤b→b≤14→x.den ρ=(lF p (ak p s0 k) b).1→o.tt ρ=(lF p (ak p s0 k) b).2→rj ρ fn ([r.h,u32 r.w,Pu,.agg [u32 x,.bool o]],f b r.n):=by
  intro b x o h1 h2 hx ho
  rw [hf]
  refine uZ (hcall b h1 h2) (fun π=>?_) (hv b h1 h2) (hr b) (hw b)
  have e1:=R.w π
  simp only [V.af,R.h π,e1,Pu,V.ae]
  rw [show (X.var 50).den ρ=p.size from T.size]
  simp only [u32,V.ae,hx,ho]
 intro x hx
 simp only [MZ,List.mem_cons,List.not_mem_nil,or_false] at hx
 rcases hx with rfl | rfl | rfl | rfl | rfl
 ·exact go (b:=10) (by omega) (by omega) rfl rfl
 ·exact go (b:=11) (by omega) (by omega) (hld 1 (by omega)) rfl
 ·exact go (b:=12) (by omega) (by omega) (hld 2 (by omega)) rfl
 ·exact go (b:=13) (by omega) (by omega) (hld 4 (by omega)) rfl
 ·refine go (b:=14) (by omega) (by omega) rfl ?_
  have ha:=fA hro hW hs hc
  rw [cD,R.at_,YK,cO ((a9 R.n 1 1).trans (T.acc k 1 (by omega))) ha.ad]
  show ((ak p s0 k).at_==(acc p (ak p s0 k)).ad)=decide ((ak p s0 k).at_=(acc p (ak p s0 k)).ad)
  by_cases e:(ak p s0 k).at_=(acc p (ak p s0 k)).ad
  ·simp [e]
  ·rw [decide_eq_false e]
   exact beq_eq_false_iff_ne.2 e
theorem X5{fn:FuncId}{x:X}{v:V}{val:Value} (hx:x.den ρ=ld (ak p s0 k).m (acc p (ak p s0 k)).ad 4)
  (hcall:bl Tryz.prog aj 7 100000 ρ.ro fn [.int .i64 (acc p (ak p s0 k)).op,.int .u32 (ld (ak p s0 k).m (acc p (ak p s0 k)).ad 4),.int .u32 (acc p (ak p s0 k)).v] val)
  (hv:∀ π,v.ae ρ π=val) (hr:∀ q,v.lR q=v) (hw:v.bQ=true):∀ y∈VZ r x (lfN v),rj ρ fn y:=by
 intro y hy
 obtain rfl:=List.mem_singleton.1 hy
 have ha:=fA hro hW hs hc
 refine uZ hcall (fun π=>?_) hv hr hw
 have e4:=(a9 R.n 1 4).trans (T.acc k 4 (by omega))
 have e3:=cO ((a9 R.n 1 3).trans (T.acc k 3 (by omega))) ha.v
 simp only [V.af,V.ae,i64,u32,e4,e3,hx]
 rfl
end
noncomputable def jL(l:kP):Cx:={cx with dm:=Y9,sm:=Ce l,sx:=true,js:=true}
noncomputable def PM(r:RowX):kP:=smP 46 47 38 aj r
section
variable {W:World} {p:Par} (hro:aZ p.ro) (hW:∀ x∈aj,W.heap[x.1]?=some (p.ro x.1))
variable {s0:fg} {ρ:Env} (T:Ao p s0 ρ) {k:Nat} {r:RowX} (R:RowOk p (ak p s0 k) ρ k r)
variable (hs:(ak p s0 k).h.Ok) (hi:(ak p s0 k).h.id=p.id) (hc:au ρ r.g→(ak p s0 k).h.cause=0) (hsz:16≤p.size∧p.size≤4096)
include hro hW T R hs hc hi hsz
omit hro hW T R hs hi hsz in
theorem vi{c:Cx}(hng:c.ng=7){f:FuncId}{fn:Func} (hfn:Tryz.prog.funcs[f]?=some fn) {l:List (List V×_root_.Go.Proofs.YtmickljjofbmiaaGreatDoor.R Leaf)} (h:(ak p s0 k).h.cause=0→∀ x∈l,rj ρ f x):ct Tryz.prog c ρ f (xZ r.g (bW aj 7 l)):=
 V8 fun hg=>qg (m:=100000) ba hng dd hfn (h (hc hg))
theorem Ob:SumOk Tryz.prog (jL (PM r)) ρ:=by
 refine nu (l:=PM r) ⟨vi hc rfl Tryz.func46 fun h0=>?_,vi hc rfl Tryz.func47 fun h0=>?_,vi hc rfl Tryz.func38 fun h0=>?_,trivial⟩ rfl
 ·have h:=jO hro hW hs h0 10
  refine It hro hW T R hs h0 hsz (fun n sz=>rfl) (g:=fun n k w=>.tuple [W9 n k w,i64 (tb 1 n 7),i64 (.lit 0)]) (by rw [T.ro];exact h.act) (fun π=>?_) (fun _ _ _=>rfl) (fun _ _=>rfl)
  have e7:=(a9 R.n 1 7).trans (T.why k)
  simp only [V.ae,V.af,CN hro hW T R hs h0,i64,e7]
  rfl
 ·have hl:=fun w (hw:w≤4)=>Gq R.n (T.acc k 1 (by omega)) (fA hro hW hs h0).ad R.t (w:=w) hw
  refine SA hro hW T R hs h0 (fun b n=>rfl) (g:=fun b n=>.tuple [j1 b n,vP b n,i64 (.lit 0)]) (ld':=ldP r.t r.n) hl (fun b h1 h2=>by rw [T.ro];exact (jO hro hW hs h0 b).commit) (fun b h1 h2 π=>?_) (fun b q=>?_) (fun b=>?_)
  ·simp only [V.ae,V.af,Dr hro hW T R hs h0 hi h1 h2,JI hro hW T R hs h0 h1 h2]
   rfl
  ·show V.tuple [(j1 b r.n).lR q,vP b r.n,i64 (.lit 0)]=_
   rw [Dp]
  ·show ((j1 b r.n).bQ&&((vP b r.n).bQ&&true))=true
   rw [xO]
   rfl
 ·have h:=zm hro hW hs h0
  refine X5 hro hW T R hs h0 (Gq R.n (T.acc k 1 (by omega)) (fA hro hW hs h0).ad R.t (by omega)) (by rw [T.ro];exact h.1) (fun π=>?_) (fun _=>rfl) rfl
  have e0:=cO ((a9 R.n 2 0).trans (T.am0 k)) h.2.2.2.1
  have e1:=(a9 R.n 2 1).trans (T.am1 k)
  simp only [V.ae,V.af,u32,i64,e0,e1]
end
def Y1(p:Par)(s:fg):Prop:=(acc p s).k=2∨((acc p s).k=4∧s.res=true∧s.at_=(acc p s).ad)∨(acc p s).k=5
def tk(ρ:Env)(x:A):Prop:=∀ j:Int,0≤A.den ρ (.int .u8) 0 j x∧A.den ρ (.int .u8) 0 j x≤255
theorem ri{ρ:Env}(t:Nat):tk ρ (.base t):=fun j=>u8_in _
theorem Vq{ρ:Env}{f:X→Nat→X}{n v:X} (hf:∀ i,i<4→0≤(f v i).den ρ∧(f v i).den ρ≤255):∀ (w i:Nat) (x:A),i+w≤4→tk ρ x→tk ρ (Yb f n v i w x)
 | 0,_,_,_,hx=>hx
 | w+1,i,x,h,hx=>Vq hf w (i+1) _ (by omega) fun j=>by
  rw [A.den]
  split
  ·exact hf i (by omega)
  ·exact hx j
structure EndOk (p:Par) (s:fg) (ρ:Env) (e:EndX):Prop where
 b:e.b=m9 p s
 mem:rN ρ e.mem (pt p s)
 rg:tk ρ e.mem
 res:e.res.den ρ=bc (tx p s)
 at_:e.at_.den ρ=Iv p s
 put:Y1 p s→∃ a i c x,e.mem=.put a i c x
 no:¬Y1 p s→∃ t,e.mem=.base t
structure RdOk (p:Par) (s:fg) (ρ:Env) (k:Nat) (r:RdX):Prop where
 n:r.n.den ρ=(k:Int)
 n1:r.n1.den ρ=(k:Int)+1
 res:r.res.den ρ=bc s.res
 at_:r.at_.den ρ=s.at_
 mem:rN ρ r.mem s.m
 base:∃ t,r.mem=.base t
theorem yJ(f:X→Nat→X)(n v:X):∀ (w i:Nat) (a:A),1≤w→∃ b j c x,Yb f n v i w a=.put b j c x
 | 0,_,_,h=>by omega
 | 1,i,a,_=>⟨_,_,_,_,rfl⟩
 | w+2,i,a,_=>yJ f n v (w+1) (i+1) _ (by omega)
section
variable {W:World} {p:Par} (hro:aZ p.ro) (hW:∀ x∈aj,W.heap[x.1]?=some (p.ro x.1))
variable {s0:fg} {ρ:Env} (T:Ao p s0 ρ) {k:Nat} {r:RdX} (R:RdOk p (ak p s0 k) ρ k r)
variable (hs:(ak p s0 k).h.Ok) (hc:(ak p s0 k).h.cause=0)
variable {f:X→Nat→X} (hf:∀ (v:X) (z:Int),v.den ρ=z→0≤z∧z≤4294967295→∀ i,i<4→(f v i).den ρ=z / 256 ^ i % 256)
include hro hW T R hs hc hf
theorem Np{v:X}{z:Int}(hv:v.den ρ=z)(hz:0≤z∧z≤4294967295){w:Nat}(hw:w≤4):rN ρ (Yb f r.n v 0 w r.mem) (Rj (ak p s0 k).m (acc p (ak p s0 k)).ad w z):=
 acJ R.n (T.acc k 1 (by omega)) (fA hro hW hs hc).ad (hf v z hv hz) R.mem hw
omit hro hW T hs hc in
theorem Uo{v:X}{z:Int}(hv:v.den ρ=z)(hz:0≤z∧z≤4294967295){w:Nat}(hw:w≤4):tk ρ (Yb f r.n v 0 w r.mem):=by
 obtain⟨t,ht⟩:=R.base
 refine Vq (fun i hi=>?_) w 0 _ (by omega) (by rw [ht];exact ri t)
 rw [hf v z hv hz i hi]
 omega
theorem ab6{α:Type}{g:EndX→_root_.Go.Proofs.YtmickljjofbmiaaGreatDoor.R α} (h4:(acc p (ak p s0 k)).k=4):∃ e,EndOk p (ak p s0 k) ρ e∧(scT f r g).ai ρ=(g e).ai ρ:=by
 have ha:=fA hro hW hs hc
 have sp:=fun w hw=>Np hro hW T R hs hc hf (v:=vX r) (cO ((a9 R.n 1 3).trans (T.acc k 3 (by omega))) ha.v) ha.v (w:=w) hw
 have sr:=fun w hw=>Uo R hf (v:=vX r) (cO ((a9 R.n 1 3).trans (T.acc k 3 (by omega))) ha.v) ha.v (w:=w) hw
 have rr:tk ρ r.mem:=by obtain⟨t,ht⟩:=R.base;rw [ht];exact ri t
 have ead:=cO ((a9 R.n 1 1).trans (T.acc k 1 (by omega))) ha.ad
 obtain⟨rn,rn1,rres,rat,rmem,rb⟩:=R
 obtain⟨t,ht⟩:=rb
 have r4:tx p (ak p s0 k)=false:=by simp only [tx,h4]
 have a4:Iv p (ak p s0 k)=(ak p s0 k).at_:=by simp only [Iv,h4]
 unfold scT
 cases hres:(ak p s0 k).res with
 | false=>
  rw [fR (by rw [X.tt,rres,hres];rfl)]
  refine⟨_,⟨?_,?_,rr,?_,?_,fun hp=>?_,fun _=>⟨t,ht⟩⟩,rfl⟩
  ·simp only [m9,h4,hres]
  ·simp only [pt,h4,hres];exact rmem
  ·rw [r4];rfl
  ·rw [a4];exact rat
  ·rcases hp with h | ⟨_,h,_⟩ | h
   ·omega
   ·rw [hres] at h;cases h
   ·omega
 | true=>
  rw [gi (by rw [X.tt,rres,hres];rfl)]
  by_cases e:(ak p s0 k).at_=(acc p (ak p s0 k)).ad
  ·rw [gi (by rw [cD,rat,YK,ead,e];exact beq_self_eq_true _)]
   refine⟨_,⟨?_,?_,sr 4 (by omega),?_,?_,fun _=>yJ _ _ _ _ _ _ (by omega),fun hp=>absurd (.inr (.inl ⟨h4,hres,e⟩)) hp⟩,rfl⟩
   ·simp only [m9,h4,hres]
   ·have:pt p (ak p s0 k)=Rj (ak p s0 k).m (acc p (ak p s0 k)).ad 4 (acc p (ak p s0 k)).v:=by
     simp [pt,h4,hres,e,e]
    rw [this]
    exact sp 4 (by omega)
   ·rw [r4];rfl
   ·rw [a4];exact rat
  ·rw [fR (by rw [cD,rat,YK,ead];exact beq_eq_false_iff_ne.2 e)]
   refine⟨_,⟨?_,?_,rr,?_,?_,fun hp=>?_,fun _=>⟨t,ht⟩⟩,rfl⟩
   ·simp only [m9,h4,hres]
   ·have:pt p (ak p s0 k)=(ak p s0 k).m:=by
     simp [pt,h4,hres,e]
    rw [this]
    exact rmem
   ·rw [r4];rfl
   ·rw [a4];exact rat
   ·rcases hp with h | ⟨_,_,h⟩ | h
    ·omega
    ·exact absurd h e
    ·omega
omit hro hW T hs hc hf in
theorem acp{α:Type}{g:EndX→_root_.Go.Proofs.YtmickljjofbmiaaGreatDoor.R α} (h4:(acc p (ak p s0 k)).k=4) (hres:(ak p s0 k).res=false):∃ e,EndOk p (ak p s0 k) ρ e∧(sc0 r g).ai ρ=(g e).ai ρ:=by
 have rr:tk ρ r.mem:=by obtain⟨t,ht⟩:=R.base;rw [ht];exact ri t
 obtain⟨rn,rn1,rres,rat,rmem,rb⟩:=R
 obtain⟨t,ht⟩:=rb
 refine⟨_,⟨?_,?_,rr,?_,?_,fun hp=>?_,fun _=>⟨t,ht⟩⟩,rfl⟩
 ·simp only [m9,h4,hres]
 ·simp only [pt,h4,hres];exact rmem
 ·simp only [tx,h4];rfl
 ·simp only [Iv,h4];exact rat
 ·rcases hp with h | ⟨_,h,_⟩ | h
  ·omega
  ·rw [hres] at h;cases h
  ·omega
theorem Jw{α:Type}{v2:Nat} (hv2:(acc p (ak p s0 k)).k=5→ρ.f2 2 k v2=(qc p (ak p s0 k)).1) {g:EndX→_root_.Go.Proofs.YtmickljjofbmiaaGreatDoor.R α} {sc:_root_.Go.Proofs.YtmickljjofbmiaaGreatDoor.R α} (hsc:(acc p (ak p s0 k)).k=4→∃ e,EndOk p (ak p s0 k) ρ e∧sc.ai ρ=(g e).ai ρ):
  ∃ e,EndOk p (ak p s0 k) ρ e∧(Um f v2 r g sc (acc p (ak p s0 k)).k (acc p (ak p s0 k)).w).ai ρ=(g e).ai ρ:=by
 have ha:=fA hro hW hs hc
 have hk:=ha.k
 have sp:=fun w hw=>Np hro hW T R hs hc hf (v:=vX r) (cO ((a9 R.n 1 3).trans (T.acc k 3 (by omega))) ha.v) ha.v (w:=w) hw
 have sb:=fun h5=>Uo R hf (v:=rU (tb 2 r.n v2)) (cO ((a9 R.n 2 v2).trans (hv2 h5)) (zm hro hW hs hc).2.2.2.1) (zm hro hW hs hc).2.2.2.1 (w:=4) (by omega)
 have sa:=fun h5=>Np hro hW T R hs hc hf (v:=rU (tb 2 r.n v2)) (cO ((a9 R.n 2 v2).trans (hv2 h5)) (zm hro hW hs hc).2.2.2.1) (zm hro hW hs hc).2.2.2.1 (w:=4) (by omega)
 have sr:=fun w hw=>Uo R hf (v:=vX r) (cO ((a9 R.n 1 3).trans (T.acc k 3 (by omega))) ha.v) ha.v (w:=w) hw
 have rr:tk ρ r.mem:=by obtain⟨t,ht⟩:=R.base;rw [ht];exact ri t
 have ead:=cO ((a9 R.n 1 1).trans (T.acc k 1 (by omega))) ha.ad
 obtain⟨rn,rn1,rres,rat,rmem,rb⟩:=R
 obtain⟨t,ht⟩:=rb
 have np:∀ {q:Nat},(acc p (ak p s0 k)).k=q→q≠2→q≠4→q≠5→¬Y1 p (ak p s0 k):=fun e h2 h4 h5 hp=>by
  rcases hp with h | ⟨h,_⟩ | h<;>omega
 obtain h | h | h | h | h | h | h:(acc p (ak p s0 k)).k=0∨(acc p (ak p s0 k)).k=1∨(acc p (ak p s0 k)).k=2∨(acc p (ak p s0 k)).k=3∨(acc p (ak p s0 k)).k=4∨(acc p (ak p s0 k)).k=5∨(acc p (ak p s0 k)).k=6:=by omega
 ·rw [h]
  exact⟨_,⟨by simp only [m9,h],by simp only [pt,h];exact rmem,rr,by simp only [tx,h];exact rres,by simp only [Iv,h];exact rat,fun hp=>absurd hp (np h (by omega) (by omega) (by omega)),fun _=>⟨t,ht⟩⟩,rfl⟩
 ·rw [h]
  exact⟨_,⟨by simp only [m9,h];rcases ha.w (by omega) (by omega) with q | q | q<;>simp only [q],by simp only [pt,h];exact rmem,rr,by simp only [tx,h];exact rres,by simp only [Iv,h];exact rat,fun hp=>absurd hp (np h (by omega) (by omega) (by omega)),fun _=>⟨t,ht⟩⟩,rfl⟩
 ·have hw:=ha.w (by omega) (by omega)
  rw [h]
  exact⟨_,⟨by simp only [m9,h],by simp only [pt,h];exact sp _ (by omega),sr _ (by omega),by simp only [tx,h];exact rres,by simp only [Iv,h];exact rat,fun _=>yJ _ _ _ _ _ _ (by omega),fun hp=>absurd (.inl h) hp⟩,rfl⟩
 ·rw [h]
  exact⟨_,⟨by simp only [m9,h],by simp only [pt,h];exact rmem,rr,by simp only [tx,h];rfl,by simp only [Iv,h];exact ead,fun hp=>absurd hp (np h (by omega) (by omega) (by omega)),fun _=>⟨t,ht⟩⟩,rfl⟩
 ·obtain⟨e,he,hsel⟩:=hsc h
  rw [h]
  exact⟨e,he,hsel⟩
 ·rw [h]
  exact⟨_,⟨by simp only [m9,h],by simp only [pt,h];exact sa h,sb h,by simp only [tx,h];exact rres,by simp only [Iv,h];exact rat,fun _=>yJ _ _ _ _ _ _ (by omega),fun hp=>absurd (.inr (.inr h)) hp⟩,rfl⟩
 ·rw [h]
  exact⟨_,⟨by simp only [m9,h],by simp only [pt,h];exact rmem,rr,by simp only [tx,h];exact rres,by simp only [Iv,h];exact rat,fun hp=>absurd hp (np h (by omega) (by omega) (by omega)),fun _=>⟨t,ht⟩⟩,rfl⟩
end
end Go.Proofs.YtmickljjofbmiaaGreatDoor
