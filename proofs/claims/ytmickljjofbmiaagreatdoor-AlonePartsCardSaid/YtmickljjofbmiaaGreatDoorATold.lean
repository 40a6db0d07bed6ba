/- Alone: the calls of a round answer as the tables tell; what a round ends in. No condition. -/
import Derived.Test.YtmickljjofbmiaaGreatDoorASem
namespace Go.Proofs.YtmickljjofbmiaaGreatDoor
open Go Go.Proofs
noncomputable def XR(p:Par)(s:jB)(b:Nat):gN×Dp:=OZ p s (om p s b).1 (om p s b).2
structure Dr (p:Par) (s0:jB) (ρ:Env):Prop where
 ro:ρ.ro=p.ro
 size:ρ.v 50=p.size
 id:ρ.v 42=p.id
 acc:∀ n i:Nat,i<7→ρ.f2 1 n i=(acc p (aA p s0 n)).cell i
 why:∀ n:Nat,ρ.f2 1 n (7:Nat)=(yK p (aA p s0 n)).2
 am0:∀ n:Nat,ρ.f2 2 n (0:Nat)=(sL p (aA p s0 n)).1
 am1:∀ n:Nat,ρ.f2 2 n (1:Nat)=(sL p (aA p s0 n)).2.1
 am2:∀ n:Nat,ρ.f2 2 n (2:Nat)=(sL p (aA p s0 n)).2.2
 hart:∀ b n i:Nat,10≤b→b≤14→i≤34→ρ.f2 b n i=(XR p (aA p s0 n) b).1.cell i
 com:∀ b n i:Nat,10≤b→b≤14→i<7→ρ.f2 b n (35+i:Nat)=(XR p (aA p s0 n) b).2.cell i
structure RowOk (p:Par) (s:jB) (ρ:Env) (k:Nat) (r:RowX):Prop where
 n:r.n.den ρ=(k:Int)
 h:∀ π,r.h.ae ρ π=.agg s.h.c.toArray
 w:∀ π,(u32 r.w).ae ρ π=.int .u32 (fE p s)
 t:ρ.f1 r.t=s.m
 at_:r.at_.den ρ=s.at_
def pO(ρ:Env)(f:FuncId)(x:List V×R Leaf):Prop:=∃ a val,bc Tryz.prog aj 7 100000 ρ.ro f a val∧(∀ π,V.af ρ π x.1=a)∧∀ lf,x.2.ai ρ=some lf→lf.objs=[]∧lf.n=7+100000∧(∀ π,lf.v.ae ρ π=val)∧(∀ r,lf.v.kT r=lf.v)∧lf.v.bQ=true
theorem Gh{ρ:Env}{f:FuncId}{a:List Value}{val:Value}(h:bc Tryz.prog aj 7 100000 ρ.ro f a val){x:List V}(hx:∀ π,V.af ρ π x=a){v:V}(hv:∀ π,v.ae ρ π=val)(hr:∀ r,v.kT r=v)(hw:v.bQ=true):pO ρ f (x,Xb v):=
 ⟨a,val,h,hx,fun lf hl=>by
  obtain rfl:=Option.some.inj hl
  exact⟨rfl,rfl,hv,hr,hw⟩⟩
theorem Kv(r:Nat→Nat)(g:Nat→X)(l:List V):∀ (n j:Nat),V.r9 r (Ff g j n l)=Ff g j n (V.r9 r l)
 | 0,_=>rfl
 | n+1,j=>by rw [Ff,V.r9,Kv r g l n (j+1)];rfl
theorem AV(g:Nat→X)(l:List V):∀ (n j:Nat),V.fb (Ff g j n l)=V.fb l
 | 0,_=>rfl
 | n+1,j=>by rw [Ff,V.fb,AV g l n (j+1)];rfl
theorem Cj(r:Nat→Nat)(f:Nat)(n:X):(lg f n).kT r=lg f n:=by
 unfold lg zE
 rw [V.kT,V.r9,Kv]
 rfl
theorem wh(f:Nat)(n:X):(lg f n).bQ=true:=by
 unfold lg zE
 rw [V.bQ,V.fb,AV]
 rfl
theorem Xo{ρ:Env}{n:X}{a:Acc}{size:Int}(ha:a.Ok size) (w1:(sq (tb 1 n 1)).den ρ=a.ad) (w3:(sq (tb 1 n 3)).den ρ=a.v) (t4:(tb 1 n 4).den ρ=(a.op:Int)) (e5:(X.eq (tb 1 n 5) (.lit 1)).tt ρ=a.aq) (e6:(X.eq (tb 1 n 6) (.lit 1)).tt ρ=a.rl) (π:Pl):(OM n a.k a.w).ae ρ π=.agg a.c.toArray:=by
 obtain⟨k,ad,w,v,op,aq,rl⟩:=a
 obtain⟨hk,_,_,hn,hz,hw,hw4,_,_,hop⟩:=ha
 simp only at *
 have key:∀ (x1 x3 x4:X),x1.den ρ=ad→x3.den ρ=v→x4.den ρ=(op:Int)→(V.agg [i64 (nl k),u32 x1,i64 (nl w),u32 x3,i64 x4,b1 (tb 1 n 5),b1 (tb 1 n 6)]).ae ρ π=.agg (Acc.c ⟨k,ad,w,v,op,aq,rl⟩).toArray:=fun x1 x3 x4 h1 h3 h4=>by
  simp only [V.ae,V.af,i64,u32,b1,kG,h1,h3,h4,e5,e6]
  rfl
 have z:∀ {m:Int},m=0→(X.lit 0).den ρ=m:=fun h=>h.symm
 have o0:k≠5→(op:Int)=0:=fun h=>by have:=hop h;omega
 obtain h | h | h | h | h | h | h:k=0∨k=1∨k=2∨k=3∨k=4∨k=5∨k=6:=by omega
 ·subst h
  obtain⟨q1,q2,q3⟩:=hn (.inl rfl)
  subst q1
  exact key (.lit 0) (.lit 0) (.lit 0) (z q2) (z (hz rfl)) (z (o0 (by omega)))
 ·subst h
  rcases hw (by omega) (by omega) with q | q | q<;>subst q<;>exact key _ _ (.lit 0) w1 w3 (z (o0 (by omega)))
 ·subst h
  rcases hw (by omega) (by omega) with q | q | q<;>subst q<;>exact key _ _ (.lit 0) w1 w3 (z (o0 (by omega)))
 ·subst h
  have q:=hw4 (by omega) (by omega)
  subst q
  exact key _ _ (.lit 0) w1 w3 (z (o0 (by omega)))
 ·subst h
  have q:=hw4 (by omega) (by omega)
  subst q
  exact key _ _ (.lit 0) w1 w3 (z (o0 (by omega)))
 ·subst h
  have q:=hw4 (by omega) (by omega)
  subst q
  exact key _ _ _ w1 w3 t4
 ·subst h
  obtain⟨q1,q2,q3⟩:=hn (.inr rfl)
  subst q1
  exact key (.lit 0) _ (.lit 0) (z q2) w3 (z (o0 (by omega)))
section
variable {W:World} {p:Par} (hro:bx p.ro) (hW:∀ x∈aj,W.heap[x.1]?=some (p.ro x.1))
variable {s0:jB} {ρ:Env} (T:Dr p s0 ρ) {k:Nat} {r:RowX} (R:RowOk p (aA p s0 k) ρ k r)
variable (hs:(aA p s0 k).h.Ok) (hi:(aA p s0 k).h.id=p.id) (hc:(aA p s0 k).h.cause=0) (hsz:16≤p.size∧p.size≤4096)
include hro hW T R hs hc
theorem BF(π:Pl):(OM r.n (acc p (aA p s0 k)).k (acc p (aA p s0 k)).w).ae ρ π=.agg (acc p (aA p s0 k)).c.toArray:=by
 have ha:=fQ hro hW hs hc
 have ht:=T.acc k
 exact Xo ha (cU ((bp R.n 1 1).trans (ht 1 (by omega))) ha.ad) (cU ((bp R.n 1 3).trans (ht 3 (by omega))) ha.v) ((bp R.n 1 4).trans (ht 4 (by omega))) (Gy ((bp R.n 1 5).trans (ht 5 (by omega)))) (Gy ((bp R.n 1 6).trans (ht 6 (by omega)))) π
theorem Ck (hi:(aA p s0 k).h.id=p.id) {b:Nat} (h1:10≤b) (h2:b≤14) (π:Pl):(lg b r.n).ae ρ π=.agg (XR p (aA p s0 k) b).1.c.toArray:=by
 have h:=ow hro hW hs hc b
 exact rQ h.hart (by rw [T.id,h.id,hi]) (fun i _ hi=>by rw [bp R.n];exact T.hart b k i h1 h2 hi) π
theorem Ga{b:Nat}(h1:10≤b)(h2:b≤14)(π:Pl):(yZ b r.n).ae ρ π=.agg ((XR p (aA p s0 k) b).2.c (acc p (aA p s0 k))).toArray:=by
 have ha:=fQ hro hW hs hc
 exact Oh R.n ha.ad ha.v (fun i hi=>T.acc k i hi) (fun i hi=>T.com b k i h1 h2 hi) π
include hsz in
theorem FM{f:X→X→_root_.Go.Proofs.YtmickljjofbmiaaGreatDoor.R Leaf}{g:X→Nat→Nat→V} (hk:∀ (n sz:X),f n sz=ri n sz (fun k w=>Xb (g n k w)) (.stuck "never")) {fn:FuncId} {val:Value}
  (hcall:bc Tryz.prog aj 7 100000 ρ.ro fn [.agg (aA p s0 k).h.c.toArray,.int .u32 (fE p (aA p s0 k)),.int .i64 p.size] val) (hv:∀ π,(g r.n (acc p (aA p s0 k)).k (acc p (aA p s0 k)).w).ae ρ π=val) (hr:∀ k w q,(g r.n k w).kT q=g r.n k w) (hw:∀ k w,(g r.n k w).bQ=true):∀ x∈K5 r f,pO ρ fn x:=by
 intro x hx
 obtain rfl:=List.mem_singleton.1 hx
 have ha:=fQ hro hW hs hc
 refine⟨_,_,hcall,fun π=>?_,fun lf hl=>?_⟩
 ·have:=R.w π
  simp only [V.af,R.h π,this,Y5,V.ae]
  rw [show (X.var 50).den ρ=p.size from T.size]
 ·rw [hk,Cs (a:=acc p (aA p s0 k)) ha ((bp R.n 1 0).trans (T.acc k 0 (by omega))) ((bp R.n 1 1).trans (T.acc k 1 (by omega))) ((bp R.n 1 2).trans (T.acc k 2 (by omega))) (show (X.var 50).den ρ=p.size from T.size) hsz] at hl
  obtain rfl:=Option.some.inj hl
  exact⟨rfl,rfl,hv,fun q=>hr _ _ q,hw _ _⟩
theorem Gb{fn:FuncId}{ld':Nat→X}{f:Nat→X→_root_.Go.Proofs.YtmickljjofbmiaaGreatDoor.R Leaf}{g:Nat→X→V} (hf:∀ b n,f b n=Xb (g b n)) (hld:∀ w,w≤4→(ld' w).den ρ=ld (aA p s0 k).m (acc p (aA p s0 k)).ad w) {val:Nat→Value}
  (hcall:∀ b,10≤b→b≤14→bc Tryz.prog aj 7 100000 ρ.ro fn [.agg (aA p s0 k).h.c.toArray,.int .u32 (fE p (aA p s0 k)),.int .i64 p.size,.agg #[.int .u32 (om p (aA p s0 k) b).1,.bool (om p (aA p s0 k) b).2]] (val b))
  (hv:∀ b,10≤b→b≤14→∀ π,(g b r.n).ae ρ π=val b) (hr:∀ b q,(g b r.n).kT q=g b r.n) (hw:∀ b,(g b r.n).bQ=true):∀ x∈Dx r ld' f,pO ρ fn x:=by
 have go:∀ {b:Nat} {x:X} {o:X},10≤b→b≤14→x.den ρ=(om p (aA p s0 k) b).1→o.tt ρ=(om p (aA p s0 k) b).2→pO ρ fn ([r.h,u32 r.w,Y5,.agg [u32 x,.bool o]],f b r.n):=by
  intro b x o h1 h2 hx ho
  rw [hf]
  refine Gh (hcall b h1 h2) (fun π=>?_) (hv b h1 h2) (hr b) (hw b)
  have e1:=R.w π
  simp only [V.af,R.h π,e1,Y5,V.ae]
  rw [show (X.var 50).den ρ=p.size from T.size]
  simp only [u32,V.ae,hx,ho]
 intro x hx
 simp only [Dx,List.mem_cons,List.not_mem_nil,or_false] at hx
 rcases hx with rfl | rfl | rfl | rfl | rfl
 ·exact go (b:=10) (by omega) (by omega) rfl rfl
 ·exact go (b:=11) (by omega) (by omega) (hld 1 (by omega)) rfl
 ·exact go (b:=12) (by omega) (by omega) (hld 2 (by omega)) rfl
 ·exact go (b:=13) (by omega) (by omega) (hld 4 (by omega)) rfl
 ·refine go (b:=14) (by omega) (by omega) rfl ?_
  have ha:=fQ hro hW hs hc
  rw [dR,R.at_,Xq,cU ((bp R.n 1 1).trans (T.acc k 1 (by omega))) ha.ad]
  show ((aA p s0 k).at_==(acc p (aA p s0 k)).ad)=decide ((aA p s0 k).at_=(acc p (aA p s0 k)).ad)
  by_cases e:(aA p s0 k).at_=(acc p (aA p s0 k)).ad
  ·simp [e]
  ·rw [decide_eq_false e]
   exact beq_eq_false_iff_ne.2 e
theorem FR{fn:FuncId}{x:X}{v:V}{val:Value} (hx:x.den ρ=ld (aA p s0 k).m (acc p (aA p s0 k)).ad 4)
  (hcall:bc Tryz.prog aj 7 100000 ρ.ro fn [.int .i64 (acc p (aA p s0 k)).op,.int .u32 (ld (aA p s0 k).m (acc p (aA p s0 k)).ad 4),.int .u32 (acc p (aA p s0 k)).v] val)
  (hv:∀ π,v.ae ρ π=val) (hr:∀ q,v.kT q=v) (hw:v.bQ=true):∀ y∈K9 r x (Xb v),pO ρ fn y:=by
 intro y hy
 obtain rfl:=List.mem_singleton.1 hy
 have ha:=fQ hro hW hs hc
 refine Gh hcall (fun π=>?_) hv hr hw
 have e4:=(bp R.n 1 4).trans (T.acc k 4 (by omega))
 have e3:=cU ((bp R.n 1 3).trans (T.acc k 3 (by omega))) ha.v
 simp only [V.af,V.ae,i64,u32,e4,e3,hx]
 rfl
end
noncomputable def O4(l:j6):Cx:={cx with dm:=XW,sm:=BA l,sx:=true,js:=true}
noncomputable def Qj(r:RowX):j6:=smP 46 47 38 aj r
noncomputable def agd(r:RowX):j6:=smR 39 41 20 aj r
section
variable {W:World} {p:Par} (hro:bx p.ro) (hW:∀ x∈aj,W.heap[x.1]?=some (p.ro x.1))
variable {s0:jB} {ρ:Env} (T:Dr p s0 ρ) {k:Nat} {r:RowX} (R:RowOk p (aA p s0 k) ρ k r)
variable (hs:(aA p s0 k).h.Ok) (hi:(aA p s0 k).h.id=p.id) (hc:av ρ r.g→(aA p s0 k).h.cause=0) (hsz:16≤p.size∧p.size≤4096)
include hro hW T R hs hc hi hsz
omit hro hW T R hs hi hsz in
theorem qO{c:Cx}(hng:c.ng=7){f:FuncId}{fn:Func} (hfn:Tryz.prog.funcs[f]?=some fn) {l:List (List V×_root_.Go.Proofs.YtmickljjofbmiaaGreatDoor.R Leaf)} (h:(aA p s0 k).h.cause=0→∀ x∈l,pO ρ f x):cV Tryz.prog c ρ f (uK r.g (bT aj 7 l)):=
 Ui fun hg=>pI (m:=100000) cr hng fp hfn (h (hc hg))
theorem OC:SumOk Tryz.prog (O4 (Qj r)) ρ:=by
 refine uI (l:=Qj r) ⟨qO hc rfl Tryz.func46 fun h0=>?_,qO hc rfl Tryz.func47 fun h0=>?_,qO hc rfl Tryz.func38 fun h0=>?_,trivial⟩ rfl
 ·have h:=ow hro hW hs h0 10
  refine FM hro hW T R hs h0 hsz (fun n sz=>rfl) (g:=fun n k w=>.tuple [OM n k w,i64 (tb 1 n 7),i64 (.lit 0)]) (by rw [T.ro];exact h.act) (fun π=>?_) (fun _ _ _=>rfl) (fun _ _=>rfl)
  have e7:=(bp R.n 1 7).trans (T.why k)
  simp only [V.ae,V.af,BF hro hW T R hs h0,i64,e7]
  rfl
 ·have hl:=fun w (hw:w≤4)=>Et R.n (T.acc k 1 (by omega)) (fQ hro hW hs h0).ad R.t (w:=w) hw
  refine Gb hro hW T R hs h0 (fun b n=>rfl) (g:=fun b n=>.tuple [lg b n,yZ b n,i64 (.lit 0)]) (ld':=ldP r.t r.n) hl (fun b h1 h2=>by rw [T.ro];exact (ow hro hW hs h0 b).commit) (fun b h1 h2 π=>?_) (fun b q=>?_) (fun b=>?_)
  ·simp only [V.ae,V.af,Ck hro hW T R hs h0 hi h1 h2,Ga hro hW T R hs h0 h1 h2]
   rfl
  ·show V.tuple [(lg b r.n).kT q,yZ b r.n,i64 (.lit 0)]=_
   rw [Cj]
  ·show ((lg b r.n).bQ&&((yZ b r.n).bQ&&true))=true
   rw [wh]
   rfl
 ·have h:=uU hro hW hs h0
  refine FR hro hW T R hs h0 (Et R.n (T.acc k 1 (by omega)) (fQ hro hW hs h0).ad R.t (by omega)) (by rw [T.ro];exact h.1) (fun π=>?_) (fun _=>rfl) rfl
  have e0:=cU ((bp R.n 2 0).trans (T.am0 k)) h.2.2.2.1
  have e1:=(bp R.n 2 1).trans (T.am1 k)
  simp only [V.ae,V.af,u32,i64,e0,e1]
theorem alX:SumOk Tryz.prog (O4 (agd r)) ρ:=by
 refine uI (l:=agd r) ⟨qO hc rfl Tryz.func39 fun h0=>?_,qO hc rfl Tryz.func41 fun h0=>?_,qO hc rfl Tryz.func20 fun h0=>?_,trivial⟩ rfl
 ·have h:=ow hro hW hs h0 10
  refine FM hro hW T R hs h0 hsz (fun n sz=>rfl) (g:=fun n k w=>.tuple [OM n k w,i64 (tb 1 n 7)]) (by rw [T.ro];exact h.ract) (fun π=>?_) (fun _ _ _=>rfl) (fun _ _=>rfl)
  have e7:=(bp R.n 1 7).trans (T.why k)
  simp only [V.ae,V.af,BF hro hW T R hs h0,i64,e7]
 ·have hl:=fun w (_:w≤4)=>Eu R.n (T.acc k 1 (by omega)) (fQ hro hW hs h0).ad R.t w 0
  refine Gb hro hW T R hs h0 (fun b n=>rfl) (g:=fun b n=>.tuple [lg b n,yZ b n]) (ld':=Zu r.t r.n 0) (fun w hw=>by have:=hl w hw;simpa [Acc.cell] using this) (fun b h1 h2=>by rw [T.ro];exact (ow hro hW hs h0 b).rcommit) (fun b h1 h2 π=>?_) (fun b q=>?_) (fun b=>?_)
  ·simp only [V.ae,V.af,Ck hro hW T R hs h0 hi h1 h2,Ga hro hW T R hs h0 h1 h2]
   rfl
  ·show V.tuple [(lg b r.n).kT q,yZ b r.n]=_
   rw [Cj]
  ·show ((lg b r.n).bQ&&((yZ b r.n).bQ&&true))=true
   rw [wh]
   rfl
 ·have h:=uU hro hW hs h0
  have hl:=Eu R.n (T.acc k 1 (by omega)) (fQ hro hW hs h0).ad R.t 4 0
  refine FR hro hW T R hs h0 (by simpa [Acc.cell] using hl) (by rw [T.ro];exact h.2.1) (fun π=>?_) (fun _=>rfl) rfl
  have e0:=cU ((bp R.n 2 2).trans (T.am2 k)) h.2.2.2.2
  simp only [V.ae,u32,e0]
end
def YG(p:Par)(s:jB):Prop:=(acc p s).k=2∨((acc p s).k=4∧s.res=true∧s.at_=(acc p s).ad)∨(acc p s).k=5
def sy(ρ:Env)(x:A):Prop:=∀ j:Int,0≤A.den ρ (.int .u8) 0 j x∧A.den ρ (.int .u8) 0 j x≤255
theorem pP{ρ:Env}(t:Nat):sy ρ (.base t):=fun j=>u8_in _
theorem TB{ρ:Env}{f:X→Nat→X}{n v:X} (hf:∀ i,i<4→0≤(f v i).den ρ∧(f v i).den ρ≤255):∀ (w i:Nat) (x:A),i+w≤4→sy ρ x→sy ρ (Xe f n v i w x)
 | 0,_,_,_,hx=>hx
 | w+1,i,x,h,hx=>TB hf w (i+1) _ (by omega) fun j=>by
  rw [A.den]
  split
  ·exact hf i (by omega)
  ·exact hx j
structure EndOk (p:Par) (s:jB) (ρ:Env) (e:EndX):Prop where
 b:e.b=xK p s
 mem:qV ρ e.mem (qS p s)
 rg:sy ρ e.mem
 res:e.res.den ρ=a7 (wB p s)
 at_:e.at_.den ρ=K1 p s
 put:YG p s→∃ a i c x,e.mem=.put a i c x
 no:¬YG p s→∃ t,e.mem=.base t
structure RdOk (p:Par) (s:jB) (ρ:Env) (k:Nat) (r:RdX):Prop where
 n:r.n.den ρ=(k:Int)
 n1:r.n1.den ρ=(k:Int)+1
 res:r.res.den ρ=a7 s.res
 at_:r.at_.den ρ=s.at_
 mem:qV ρ r.mem s.m
 base:∃ t,r.mem=.base t
theorem yA(f:X→Nat→X)(n v:X):∀ (w i:Nat) (a:A),1≤w→∃ b j c x,Xe f n v i w a=.put b j c x
 | 0,_,_,h=>by omega
 | 1,i,a,_=>⟨_,_,_,_,rfl⟩
 | w+2,i,a,_=>yA f n v (w+1) (i+1) _ (by omega)
section
variable {W:World} {p:Par} (hro:bx p.ro) (hW:∀ x∈aj,W.heap[x.1]?=some (p.ro x.1))
variable {s0:jB} {ρ:Env} (T:Dr p s0 ρ) {k:Nat} {r:RdX} (R:RdOk p (aA p s0 k) ρ k r)
variable (hs:(aA p s0 k).h.Ok) (hc:(aA p s0 k).h.cause=0)
variable {f:X→Nat→X} (hf:∀ (v:X) (z:Int),v.den ρ=z→0≤z∧z≤4294967295→∀ i,i<4→(f v i).den ρ=z / 256 ^ i % 256)
include hro hW T R hs hc hf
theorem MJ{v:X}{z:Int}(hv:v.den ρ=z)(hz:0≤z∧z≤4294967295){w:Nat}(hw:w≤4):qV ρ (Xe f r.n v 0 w r.mem) (QN (aA p s0 k).m (acc p (aA p s0 k)).ad w z):=
 ack R.n (T.acc k 1 (by omega)) (fQ hro hW hs hc).ad (hf v z hv hz) R.mem hw
omit hro hW T hs hc in
theorem TE{v:X}{z:Int}(hv:v.den ρ=z)(hz:0≤z∧z≤4294967295){w:Nat}(hw:w≤4):sy ρ (Xe f r.n v 0 w r.mem):=by
 obtain⟨t,ht⟩:=R.base
 refine TB (fun i hi=>?_) w 0 _ (by omega) (by rw [ht];exact pP t)
 rw [hf v z hv hz i hi]
 omega
theorem abT{α:Type}{g:EndX→_root_.Go.Proofs.YtmickljjofbmiaaGreatDoor.R α} (h4:(acc p (aA p s0 k)).k=4):∃ e,EndOk p (aA p s0 k) ρ e∧(scT f r g).ai ρ=(g e).ai ρ:=by
 have ha:=fQ hro hW hs hc
 have sp:=fun w hw=>MJ hro hW T R hs hc hf (v:=vX r) (cU ((bp R.n 1 3).trans (T.acc k 3 (by omega))) ha.v) ha.v (w:=w) hw
 have sr:=fun w hw=>TE R hf (v:=vX r) (cU ((bp R.n 1 3).trans (T.acc k 3 (by omega))) ha.v) ha.v (w:=w) hw
 have rr:sy ρ r.mem:=by obtain⟨t,ht⟩:=R.base;rw [ht];exact pP t
 have ead:=cU ((bp R.n 1 1).trans (T.acc k 1 (by omega))) ha.ad
 obtain⟨rn,rn1,rres,rat,rmem,rb⟩:=R
 obtain⟨t,ht⟩:=rb
 have r4:wB p (aA p s0 k)=false:=by simp only [wB,h4]
 have a4:K1 p (aA p s0 k)=(aA p s0 k).at_:=by simp only [K1,h4]
 unfold scT
 cases hres:(aA p s0 k).res with
 | false=>
  rw [Lc (by rw [X.tt,rres,hres];rfl)]
  refine⟨_,⟨?_,?_,rr,?_,?_,fun hp=>?_,fun _=>⟨t,ht⟩⟩,rfl⟩
  ·simp only [xK,h4,hres]
  ·simp only [qS,h4,hres];exact rmem
  ·rw [r4];rfl
  ·rw [a4];exact rat
  ·rcases hp with h | ⟨_,h,_⟩ | h
   ·omega
   ·rw [hres] at h;cases h
   ·omega
 | true=>
  rw [sO (by rw [X.tt,rres,hres];rfl)]
  by_cases e:(aA p s0 k).at_=(acc p (aA p s0 k)).ad
  ·rw [sO (by rw [dR,rat,Xq,ead,e];exact beq_self_eq_true _)]
   refine⟨_,⟨?_,?_,sr 4 (by omega),?_,?_,fun _=>yA _ _ _ _ _ _ (by omega),fun hp=>absurd (.inr (.inl ⟨h4,hres,e⟩)) hp⟩,rfl⟩
   ·simp only [xK,h4,hres]
   ·have:qS p (aA p s0 k)=QN (aA p s0 k).m (acc p (aA p s0 k)).ad 4 (acc p (aA p s0 k)).v:=by
     simp [qS,h4,hres,e,e]
    rw [this]
    exact sp 4 (by omega)
   ·rw [r4];rfl
   ·rw [a4];exact rat
  ·rw [Lc (by rw [dR,rat,Xq,ead];exact beq_eq_false_iff_ne.2 e)]
   refine⟨_,⟨?_,?_,rr,?_,?_,fun hp=>?_,fun _=>⟨t,ht⟩⟩,rfl⟩
   ·simp only [xK,h4,hres]
   ·have:qS p (aA p s0 k)=(aA p s0 k).m:=by
     simp [qS,h4,hres,e]
    rw [this]
    exact rmem
   ·rw [r4];rfl
   ·rw [a4];exact rat
   ·rcases hp with h | ⟨_,_,h⟩ | h
    ·omega
    ·exact absurd h e
    ·omega
omit hro hW T hs hc hf in
theorem abS{α:Type}{g:EndX→_root_.Go.Proofs.YtmickljjofbmiaaGreatDoor.R α} (h4:(acc p (aA p s0 k)).k=4) (hres:(aA p s0 k).res=false):∃ e,EndOk p (aA p s0 k) ρ e∧(sc0 r g).ai ρ=(g e).ai ρ:=by
 have rr:sy ρ r.mem:=by obtain⟨t,ht⟩:=R.base;rw [ht];exact pP t
 obtain⟨rn,rn1,rres,rat,rmem,rb⟩:=R
 obtain⟨t,ht⟩:=rb
 refine⟨_,⟨?_,?_,rr,?_,?_,fun hp=>?_,fun _=>⟨t,ht⟩⟩,rfl⟩
 ·simp only [xK,h4,hres]
 ·simp only [qS,h4,hres];exact rmem
 ·simp only [wB,h4];rfl
 ·simp only [K1,h4];exact rat
 ·rcases hp with h | ⟨_,h,_⟩ | h
  ·omega
  ·rw [hres] at h;cases h
  ·omega
theorem F8{α:Type}{v2:Nat} (hv2:(acc p (aA p s0 k)).k=5→ρ.f2 2 k v2=(sL p (aA p s0 k)).1) {g:EndX→_root_.Go.Proofs.YtmickljjofbmiaaGreatDoor.R α} {sc:_root_.Go.Proofs.YtmickljjofbmiaaGreatDoor.R α} (hsc:(acc p (aA p s0 k)).k=4→∃ e,EndOk p (aA p s0 k) ρ e∧sc.ai ρ=(g e).ai ρ):
  ∃ e,EndOk p (aA p s0 k) ρ e∧(F7 f v2 r g sc (acc p (aA p s0 k)).k (acc p (aA p s0 k)).w).ai ρ=(g e).ai ρ:=by
 have ha:=fQ hro hW hs hc
 have hk:=ha.k
 have sp:=fun w hw=>MJ hro hW T R hs hc hf (v:=vX r) (cU ((bp R.n 1 3).trans (T.acc k 3 (by omega))) ha.v) ha.v (w:=w) hw
 have sb:=fun h5=>TE R hf (v:=sq (tb 2 r.n v2)) (cU ((bp R.n 2 v2).trans (hv2 h5)) (uU hro hW hs hc).2.2.2.1) (uU hro hW hs hc).2.2.2.1 (w:=4) (by omega)
 have sa:=fun h5=>MJ hro hW T R hs hc hf (v:=sq (tb 2 r.n v2)) (cU ((bp R.n 2 v2).trans (hv2 h5)) (uU hro hW hs hc).2.2.2.1) (uU hro hW hs hc).2.2.2.1 (w:=4) (by omega)
 have sr:=fun w hw=>TE R hf (v:=vX r) (cU ((bp R.n 1 3).trans (T.acc k 3 (by omega))) ha.v) ha.v (w:=w) hw
 have rr:sy ρ r.mem:=by obtain⟨t,ht⟩:=R.base;rw [ht];exact pP t
 have ead:=cU ((bp R.n 1 1).trans (T.acc k 1 (by omega))) ha.ad
 obtain⟨rn,rn1,rres,rat,rmem,rb⟩:=R
 obtain⟨t,ht⟩:=rb
 have np:∀ {q:Nat},(acc p (aA p s0 k)).k=q→q≠2→q≠4→q≠5→¬YG p (aA p s0 k):=fun e h2 h4 h5 hp=>by
  rcases hp with h | ⟨h,_⟩ | h<;>omega
 obtain h | h | h | h | h | h | h:(acc p (aA p s0 k)).k=0∨(acc p (aA p s0 k)).k=1∨(acc p (aA p s0 k)).k=2∨(acc p (aA p s0 k)).k=3∨(acc p (aA p s0 k)).k=4∨(acc p (aA p s0 k)).k=5∨(acc p (aA p s0 k)).k=6:=by omega
 ·rw [h]
  exact⟨_,⟨by simp only [xK,h],by simp only [qS,h];exact rmem,rr,by simp only [wB,h];exact rres,by simp only [K1,h];exact rat,fun hp=>absurd hp (np h (by omega) (by omega) (by omega)),fun _=>⟨t,ht⟩⟩,rfl⟩
 ·rw [h]
  exact⟨_,⟨by simp only [xK,h];rcases ha.w (by omega) (by omega) with q | q | q<;>simp only [q],by simp only [qS,h];exact rmem,rr,by simp only [wB,h];exact rres,by simp only [K1,h];exact rat,fun hp=>absurd hp (np h (by omega) (by omega) (by omega)),fun _=>⟨t,ht⟩⟩,rfl⟩
 ·have hw:=ha.w (by omega) (by omega)
  rw [h]
  exact⟨_,⟨by simp only [xK,h],by simp only [qS,h];exact sp _ (by omega),sr _ (by omega),by simp only [wB,h];exact rres,by simp only [K1,h];exact rat,fun _=>yA _ _ _ _ _ _ (by omega),fun hp=>absurd (.inl h) hp⟩,rfl⟩
 ·rw [h]
  exact⟨_,⟨by simp only [xK,h],by simp only [qS,h];exact rmem,rr,by simp only [wB,h];rfl,by simp only [K1,h];exact ead,fun hp=>absurd hp (np h (by omega) (by omega) (by omega)),fun _=>⟨t,ht⟩⟩,rfl⟩
 ·obtain⟨e,he,hsel⟩:=hsc h
  rw [h]
  exact⟨e,he,hsel⟩
 ·rw [h]
  exact⟨_,⟨by simp only [xK,h],by simp only [qS,h];exact sa h,sb h,by simp only [wB,h];exact rres,by simp only [K1,h];exact rat,fun _=>yA _ _ _ _ _ _ (by omega),fun hp=>absurd (.inr (.inr h)) hp⟩,rfl⟩
 ·rw [h]
  exact⟨_,⟨by simp only [xK,h],by simp only [qS,h];exact rmem,rr,by simp only [wB,h];exact rres,by simp only [K1,h];exact rat,fun hp=>absurd hp (np h (by omega) (by omega) (by omega)),fun _=>⟨t,ht⟩⟩,rfl⟩
end
end Go.Proofs.YtmickljjofbmiaaGreatDoor
