/- Alone: the calls of a round answer as the tables tell; what a round ends in. No condition. -/
import Derived.Test.YtmickljjofbmiaaGreatDoorASem
namespace Go.Proofs.YtmickljjofbmiaaGreatDoor
open Go Go.Proofs
noncomputable def comB(p:Par)(s:MSt)(b:Nat):Hart×Com:=comF p s (ansF p s b).1 (ansF p s b).2
structure Tabs (p:Par) (s0:MSt) (ρ:Env):Prop where
 ro:ρ.ro=p.ro
 size:ρ.v 50=p.size
 id:ρ.v 42=p.id
 acc:∀ n i:Nat,i<7→ρ.f2 1 n i=(acc p (seqM p s0 n)).cell i
 why:∀ n:Nat,ρ.f2 1 n (7:Nat)=(actF p (seqM p s0 n)).2
 am0:∀ n:Nat,ρ.f2 2 n (0:Nat)=(amoF p (seqM p s0 n)).1
 am1:∀ n:Nat,ρ.f2 2 n (1:Nat)=(amoF p (seqM p s0 n)).2.1
 am2:∀ n:Nat,ρ.f2 2 n (2:Nat)=(amoF p (seqM p s0 n)).2.2
 hart:∀ b n i:Nat,10≤b→b≤14→i≤34→ρ.f2 b n i=(comB p (seqM p s0 n) b).1.cell i
 com:∀ b n i:Nat,10≤b→b≤14→i<7→ρ.f2 b n (35+i:Nat)=(comB p (seqM p s0 n) b).2.cell i
structure RowOk (p:Par) (s:MSt) (ρ:Env) (k:Nat) (r:RowX):Prop where
 n:r.n.den ρ=(k:Int)
 h:∀ π,r.h.conc ρ π=.agg s.h.c.toArray
 w:∀ π,(u32 r.w).conc ρ π=.int .u32 (wordOf p s)
 t:ρ.f1 r.t=s.m
 at_:r.at_.den ρ=s.at_
def RowTold(ρ:Env)(f:FuncId)(x:List V×R Leaf):Prop:=∃ a val,CallsAt Tryz.prog LStart 7 100000 ρ.ro f a val∧(∀ π,V.concs ρ π x.1=a)∧∀ lf,x.2.sel ρ=some lf→lf.objs=[]∧lf.n=7+100000∧(∀ π,lf.v.conc ρ π=val)∧(∀ r,lf.v.ren r=lf.v)∧lf.v.noWin=true
theorem lfN_told{ρ:Env}{f:FuncId}{a:List Value}{val:Value}(h:CallsAt Tryz.prog LStart 7 100000 ρ.ro f a val){x:List V}(hx:∀ π,V.concs ρ π x=a){v:V}(hv:∀ π,v.conc ρ π=val)(hr:∀ r,v.ren r=v)(hw:v.noWin=true):RowTold ρ f (x,lfN v):=
 ⟨a,val,h,hx,fun lf hl=>by
  obtain rfl:=Option.some.inj hl
  exact⟨rfl,rfl,hv,hr,hw⟩⟩
theorem rowG_ren(r:Nat→Nat)(g:Nat→X)(l:List V):∀ (n j:Nat),V.rens r (rowG g j n l)=rowG g j n (V.rens r l)
 | 0,_=>rfl
 | n+1,j=>by rw [rowG,V.rens,rowG_ren r g l n (j+1)];rfl
theorem rowG_noWin(g:Nat→X)(l:List V):∀ (n j:Nat),V.noWins (rowG g j n l)=V.noWins l
 | 0,_=>rfl
 | n+1,j=>by rw [rowG,V.noWins,rowG_noWin g l n (j+1)];rfl
theorem hartN_ren(r:Nat→Nat)(f:Nat)(n:X):(hartN f n).ren r=hartN f n:=by
 unfold hartN hartG
 rw [V.ren,V.rens,rowG_ren]
 rfl
theorem hartN_noWin(f:Nat)(n:X):(hartN f n).noWin=true:=by
 unfold hartN hartG
 rw [V.noWin,V.noWins,rowG_noWin]
 rfl
theorem accT_go{ρ:Env}{n:X}{a:Acc}{size:Int}(ha:a.Ok size) (w1:(w32 (tb 1 n 1)).den ρ=a.ad) (w3:(w32 (tb 1 n 3)).den ρ=a.v) (t4:(tb 1 n 4).den ρ=(a.op:Int)) (e5:(X.eq (tb 1 n 5) (.lit 1)).tt ρ=a.aq) (e6:(X.eq (tb 1 n 6) (.lit 1)).tt ρ=a.rl) (π:Pl):(accT n a.k a.w).conc ρ π=.agg a.c.toArray:=by
 obtain⟨k,ad,w,v,op,aq,rl⟩:=a
 obtain⟨hk,_,_,hn,hz,hw,hw4,_,_,hop⟩:=ha
 simp only at *
 have key:∀ (x1 x3 x4:X),x1.den ρ=ad→x3.den ρ=v→x4.den ρ=(op:Int)→(V.agg [i64 (nl k),u32 x1,i64 (nl w),u32 x3,i64 x4,b1 (tb 1 n 5),b1 (tb 1 n 6)]).conc ρ π=.agg (Acc.c ⟨k,ad,w,v,op,aq,rl⟩).toArray:=fun x1 x3 x4 h1 h3 h4=>by
  simp only [V.conc,V.concs,i64,u32,b1,nl_den,h1,h3,h4,e5,e6]
  rfl
 have z:∀ {m:Int},m=0→(X.lit 0).den ρ=m:=fun h=>h.symm
 have o0:k≠5→(op:Int)=0:=fun h=>by have:=hop h;omega
 obtain h | h | h | h | h | h | h:k=0∨k=1∨k=2∨k=3∨k=4∨k=5∨k=6:=by omega
 ·subst h
  obtain⟨q1,q2,q3⟩:=hn (.inl rfl)
  subst q1
  exact key (.lit 0) (.lit 0) (.lit 0) (z q2) (z (hz rfl)) (z (o0 (by omega)))
 ·subst h
  rcases hw (by omega) (by omega) with q | q | q<;>subst q<;>exact key _ _ (.lit 0) w1 w3 (z (o0 (by omega)))
 ·subst h
  rcases hw (by omega) (by omega) with q | q | q<;>subst q<;>exact key _ _ (.lit 0) w1 w3 (z (o0 (by omega)))
 ·subst h
  have q:=hw4 (by omega) (by omega)
  subst q
  exact key _ _ (.lit 0) w1 w3 (z (o0 (by omega)))
 ·subst h
  have q:=hw4 (by omega) (by omega)
  subst q
  exact key _ _ (.lit 0) w1 w3 (z (o0 (by omega)))
 ·subst h
  have q:=hw4 (by omega) (by omega)
  subst q
  exact key _ _ _ w1 w3 t4
 ·subst h
  obtain⟨q1,q2,q3⟩:=hn (.inr rfl)
  subst q1
  exact key (.lit 0) _ (.lit 0) (z q2) w3 (z (o0 (by omega)))
section
variable {W:World} {p:Par} (hro:RoAll p.ro) (hW:∀ x∈LStart,W.heap[x.1]?=some (p.ro x.1))
variable {s0:MSt} {ρ:Env} (T:Tabs p s0 ρ) {k:Nat} {r:RowX} (R:RowOk p (seqM p s0 k) ρ k r)
variable (hs:(seqM p s0 k).h.Ok) (hi:(seqM p s0 k).h.id=p.id) (hc:(seqM p s0 k).h.cause=0) (hsz:16≤p.size∧p.size≤4096)
include hro hW T R hs hc
theorem accT_conc(π:Pl):(accT r.n (acc p (seqM p s0 k)).k (acc p (seqM p s0 k)).w).conc ρ π=.agg (acc p (seqM p s0 k)).c.toArray:=by
 have ha:=acc_ok hro hW hs hc
 have ht:=T.acc k
 exact accT_go ha (w32_den ((tb_den R.n 1 1).trans (ht 1 (by omega))) ha.ad) (w32_den ((tb_den R.n 1 3).trans (ht 3 (by omega))) ha.v) ((tb_den R.n 1 4).trans (ht 4 (by omega))) (flag1 ((tb_den R.n 1 5).trans (ht 5 (by omega)))) (flag1 ((tb_den R.n 1 6).trans (ht 6 (by omega)))) π
theorem hart_conc (hi:(seqM p s0 k).h.id=p.id) {b:Nat} (h1:10≤b) (h2:b≤14) (π:Pl):(hartN b r.n).conc ρ π=.agg (comB p (seqM p s0 k) b).1.c.toArray:=by
 have h:=com_is hro hW hs hc b
 exact hartG_conc h.hart (by rw [T.id,h.id,hi]) (fun i _ hi=>by rw [tb_den R.n];exact T.hart b k i h1 h2 hi) π
theorem com_conc{b:Nat}(h1:10≤b)(h2:b≤14)(π:Pl):(comN b r.n).conc ρ π=.agg ((comB p (seqM p s0 k) b).2.c (acc p (seqM p s0 k))).toArray:=by
 have ha:=acc_ok hro hW hs hc
 exact comN_conc R.n ha.ad ha.v (fun i hi=>T.acc k i hi) (fun i hi=>T.com b k i h1 h2 hi) π
include hsz in
theorem act_told{f:X→X→_root_.Go.Proofs.YtmickljjofbmiaaGreatDoor.R Leaf}{g:X→Nat→Nat→V} (hk:∀ (n sz:X),f n sz=kindT n sz (fun k w=>lfN (g n k w)) (.stuck "never")) {fn:FuncId} {val:Value}
  (hcall:CallsAt Tryz.prog LStart 7 100000 ρ.ro fn [.agg (seqM p s0 k).h.c.toArray,.int .u32 (wordOf p (seqM p s0 k)),.int .i64 p.size] val) (hv:∀ π,(g r.n (acc p (seqM p s0 k)).k (acc p (seqM p s0 k)).w).conc ρ π=val) (hr:∀ k w q,(g r.n k w).ren q=g r.n k w) (hw:∀ k w,(g r.n k w).noWin=true):∀ x∈actRow r f,RowTold ρ fn x:=by
 intro x hx
 obtain rfl:=List.mem_singleton.1 hx
 have ha:=acc_ok hro hW hs hc
 refine⟨_,_,hcall,fun π=>?_,fun lf hl=>?_⟩
 ·have:=R.w π
  simp only [V.concs,R.h π,this,szV,V.conc]
  rw [show (X.var 50).den ρ=p.size from T.size]
 ·rw [hk,kindT_sel (a:=acc p (seqM p s0 k)) ha ((tb_den R.n 1 0).trans (T.acc k 0 (by omega))) ((tb_den R.n 1 1).trans (T.acc k 1 (by omega))) ((tb_den R.n 1 2).trans (T.acc k 2 (by omega))) (show (X.var 50).den ρ=p.size from T.size) hsz] at hl
  obtain rfl:=Option.some.inj hl
  exact⟨rfl,rfl,hv,fun q=>hr _ _ q,hw _ _⟩
theorem com_told{fn:FuncId}{ld':Nat→X}{f:Nat→X→_root_.Go.Proofs.YtmickljjofbmiaaGreatDoor.R Leaf}{g:Nat→X→V} (hf:∀ b n,f b n=lfN (g b n)) (hld:∀ w,w≤4→(ld' w).den ρ=ld (seqM p s0 k).m (acc p (seqM p s0 k)).ad w) {val:Nat→Value}
  (hcall:∀ b,10≤b→b≤14→CallsAt Tryz.prog LStart 7 100000 ρ.ro fn [.agg (seqM p s0 k).h.c.toArray,.int .u32 (wordOf p (seqM p s0 k)),.int .i64 p.size,.agg #[.int .u32 (ansF p (seqM p s0 k) b).1,.bool (ansF p (seqM p s0 k) b).2]] (val b))
  (hv:∀ b,10≤b→b≤14→∀ π,(g b r.n).conc ρ π=val b) (hr:∀ b q,(g b r.n).ren q=g b r.n) (hw:∀ b,(g b r.n).noWin=true):∀ x∈ansRow r ld' f,RowTold ρ fn x:=by
 have go:∀ {b:Nat} {x:X} {o:X},10≤b→b≤14→x.den ρ=(ansF p (seqM p s0 k) b).1→o.tt ρ=(ansF p (seqM p s0 k) b).2→RowTold ρ fn ([r.h,u32 r.w,szV,.agg [u32 x,.bool o]],f b r.n):=by
  intro b x o h1 h2 hx ho
  rw [hf]
  refine lfN_told (hcall b h1 h2) (fun π=>?_) (hv b h1 h2) (hr b) (hw b)
  have e1:=R.w π
  simp only [V.concs,R.h π,e1,szV,V.conc]
  rw [show (X.var 50).den ρ=p.size from T.size]
  simp only [u32,V.conc,hx,ho]
 intro x hx
 simp only [ansRow,List.mem_cons,List.not_mem_nil,or_false] at hx
 rcases hx with rfl | rfl | rfl | rfl | rfl
 ·exact go (b:=10) (by omega) (by omega) rfl rfl
 ·exact go (b:=11) (by omega) (by omega) (hld 1 (by omega)) rfl
 ·exact go (b:=12) (by omega) (by omega) (hld 2 (by omega)) rfl
 ·exact go (b:=13) (by omega) (by omega) (hld 4 (by omega)) rfl
 ·refine go (b:=14) (by omega) (by omega) rfl ?_
  have ha:=acc_ok hro hW hs hc
  rw [tt_eq,R.at_,adX,w32_den ((tb_den R.n 1 1).trans (T.acc k 1 (by omega))) ha.ad]
  show ((seqM p s0 k).at_==(acc p (seqM p s0 k)).ad)=decide ((seqM p s0 k).at_=(acc p (seqM p s0 k)).ad)
  by_cases e:(seqM p s0 k).at_=(acc p (seqM p s0 k)).ad
  ·simp [e]
  ·rw [decide_eq_false e]
   exact beq_eq_false_iff_ne.2 e
theorem amo_told{fn:FuncId}{x:X}{v:V}{val:Value} (hx:x.den ρ=ld (seqM p s0 k).m (acc p (seqM p s0 k)).ad 4)
  (hcall:CallsAt Tryz.prog LStart 7 100000 ρ.ro fn [.int .i64 (acc p (seqM p s0 k)).op,.int .u32 (ld (seqM p s0 k).m (acc p (seqM p s0 k)).ad 4),.int .u32 (acc p (seqM p s0 k)).v] val)
  (hv:∀ π,v.conc ρ π=val) (hr:∀ q,v.ren q=v) (hw:v.noWin=true):∀ y∈amoRow r x (lfN v),RowTold ρ fn y:=by
 intro y hy
 obtain rfl:=List.mem_singleton.1 hy
 have ha:=acc_ok hro hW hs hc
 refine lfN_told hcall (fun π=>?_) hv hr hw
 have e4:=(tb_den R.n 1 4).trans (T.acc k 4 (by omega))
 have e3:=w32_den ((tb_den R.n 1 3).trans (T.acc k 3 (by omega))) ha.v
 simp only [V.concs,V.conc,i64,u32,e4,e3,hx]
 rfl
end
noncomputable def cxRd(l:SmL):Cx:={cx with dm:=dmH,sm:=smOf l,sx:=true,js:=true}
noncomputable def smPr(r:RowX):SmL:=smP 46 47 38 LStart r
noncomputable def smRr(r:RowX):SmL:=smR 39 41 20 LStart r
section
variable {W:World} {p:Par} (hro:RoAll p.ro) (hW:∀ x∈LStart,W.heap[x.1]?=some (p.ro x.1))
variable {s0:MSt} {ρ:Env} (T:Tabs p s0 ρ) {k:Nat} {r:RowX} (R:RowOk p (seqM p s0 k) ρ k r)
variable (hs:(seqM p s0 k).h.Ok) (hi:(seqM p s0 k).h.id=p.id) (hc:PcOk ρ r.g→(seqM p s0 k).h.cause=0) (hsz:16≤p.size∧p.size≤4096)
include hro hW T R hs hc hi hsz
omit hro hW T R hs hi hsz in
theorem told_ok{c:Cx}(hng:c.ng=7){f:FuncId}{fn:Func} (hfn:Tryz.prog.funcs[f]?=some fn) {l:List (List V×_root_.Go.Proofs.YtmickljjofbmiaaGreatDoor.R Leaf)} (h:(seqM p s0 k).h.cause=0→∀ x∈l,RowTold ρ f x):SumAt Tryz.prog c ρ f (sumGd r.g (sumTab LStart 7 l)):=
 sumGd_ok fun hg=>sumTab_told (m:=100000) mixed_door hng LStart_lt hfn (h (hc hg))
theorem sumP_ok:SumOk Tryz.prog (cxRd (smPr r)) ρ:=by
 refine smOf_okL (l:=smPr r) ⟨told_ok hc rfl Tryz.func46 fun h0=>?_,told_ok hc rfl Tryz.func47 fun h0=>?_,told_ok hc rfl Tryz.func38 fun h0=>?_,trivial⟩ rfl
 ·have h:=com_is hro hW hs h0 10
  refine act_told hro hW T R hs h0 hsz (fun n sz=>rfl) (g:=fun n k w=>.tuple [accT n k w,i64 (tb 1 n 7),i64 (.lit 0)]) (by rw [T.ro];exact h.act) (fun π=>?_) (fun _ _ _=>rfl) (fun _ _=>rfl)
  have e7:=(tb_den R.n 1 7).trans (T.why k)
  simp only [V.conc,V.concs,accT_conc hro hW T R hs h0,i64,e7]
  rfl
 ·have hl:=fun w (hw:w≤4)=>ldP_den R.n (T.acc k 1 (by omega)) (acc_ok hro hW hs h0).ad R.t (w:=w) hw
  refine com_told hro hW T R hs h0 (fun b n=>rfl) (g:=fun b n=>.tuple [hartN b n,comN b n,i64 (.lit 0)]) (ld':=ldP r.t r.n) hl (fun b h1 h2=>by rw [T.ro];exact (com_is hro hW hs h0 b).commit) (fun b h1 h2 π=>?_) (fun b q=>?_) (fun b=>?_)
  ·simp only [V.conc,V.concs,hart_conc hro hW T R hs h0 hi h1 h2,com_conc hro hW T R hs h0 h1 h2]
   rfl
  ·show V.tuple [(hartN b r.n).ren q,comN b r.n,i64 (.lit 0)]=_
   rw [hartN_ren]
  ·show ((hartN b r.n).noWin&&((comN b r.n).noWin&&true))=true
   rw [hartN_noWin]
   rfl
 ·have h:=amo_is hro hW hs h0
  refine amo_told hro hW T R hs h0 (ldP_den R.n (T.acc k 1 (by omega)) (acc_ok hro hW hs h0).ad R.t (by omega)) (by rw [T.ro];exact h.1) (fun π=>?_) (fun _=>rfl) rfl
  have e0:=w32_den ((tb_den R.n 2 0).trans (T.am0 k)) h.2.2.2.1
  have e1:=(tb_den R.n 2 1).trans (T.am1 k)
  simp only [V.conc,V.concs,u32,i64,e0,e1]
theorem sumR_ok:SumOk Tryz.prog (cxRd (smRr r)) ρ:=by
 refine smOf_okL (l:=smRr r) ⟨told_ok hc rfl Tryz.func39 fun h0=>?_,told_ok hc rfl Tryz.func41 fun h0=>?_,told_ok hc rfl Tryz.func20 fun h0=>?_,trivial⟩ rfl
 ·have h:=com_is hro hW hs h0 10
  refine act_told hro hW T R hs h0 hsz (fun n sz=>rfl) (g:=fun n k w=>.tuple [accT n k w,i64 (tb 1 n 7)]) (by rw [T.ro];exact h.ract) (fun π=>?_) (fun _ _ _=>rfl) (fun _ _=>rfl)
  have e7:=(tb_den R.n 1 7).trans (T.why k)
  simp only [V.conc,V.concs,accT_conc hro hW T R hs h0,i64,e7]
 ·have hl:=fun w (_:w≤4)=>ldR_den R.n (T.acc k 1 (by omega)) (acc_ok hro hW hs h0).ad R.t w 0
  refine com_told hro hW T R hs h0 (fun b n=>rfl) (g:=fun b n=>.tuple [hartN b n,comN b n]) (ld':=ldR r.t r.n 0) (fun w hw=>by have:=hl w hw;simpa [Acc.cell] using this) (fun b h1 h2=>by rw [T.ro];exact (com_is hro hW hs h0 b).rcommit) (fun b h1 h2 π=>?_) (fun b q=>?_) (fun b=>?_)
  ·simp only [V.conc,V.concs,hart_conc hro hW T R hs h0 hi h1 h2,com_conc hro hW T R hs h0 h1 h2]
   rfl
  ·show V.tuple [(hartN b r.n).ren q,comN b r.n]=_
   rw [hartN_ren]
  ·show ((hartN b r.n).noWin&&((comN b r.n).noWin&&true))=true
   rw [hartN_noWin]
   rfl
 ·have h:=amo_is hro hW hs h0
  have hl:=ldR_den R.n (T.acc k 1 (by omega)) (acc_ok hro hW hs h0).ad R.t 4 0
  refine amo_told hro hW T R hs h0 (by simpa [Acc.cell] using hl) (by rw [T.ro];exact h.2.1) (fun π=>?_) (fun _=>rfl) rfl
  have e0:=w32_den ((tb_den R.n 2 2).trans (T.am2 k)) h.2.2.2.2
  simp only [V.conc,u32,e0]
end
def putF(p:Par)(s:MSt):Prop:=(acc p s).k=2∨((acc p s).k=4∧s.res=true∧s.at_=(acc p s).ad)∨(acc p s).k=5
def MemRg(ρ:Env)(x:A):Prop:=∀ j:Int,0≤A.den ρ (.int .u8) 0 j x∧A.den ρ (.int .u8) 0 j x≤255
theorem base_rg{ρ:Env}(t:Nat):MemRg ρ (.base t):=fun j=>u8_in _
theorem stA_rg{ρ:Env}{f:X→Nat→X}{n v:X} (hf:∀ i,i<4→0≤(f v i).den ρ∧(f v i).den ρ≤255):∀ (w i:Nat) (x:A),i+w≤4→MemRg ρ x→MemRg ρ (stA f n v i w x)
 | 0,_,_,_,hx=>hx
 | w+1,i,x,h,hx=>stA_rg hf w (i+1) _ (by omega) fun j=>by
  rw [A.den]
  split
  ·exact hf i (by omega)
  ·exact hx j
structure EndOk (p:Par) (s:MSt) (ρ:Env) (e:EndX):Prop where
 b:e.b=blk p s
 mem:MemIs ρ e.mem (memF p s)
 rg:MemRg ρ e.mem
 res:e.res.den ρ=b2i (resF p s)
 at_:e.at_.den ρ=atF p s
 put:putF p s→∃ a i c x,e.mem=.put a i c x
 no:¬putF p s→∃ t,e.mem=.base t
structure RdOk (p:Par) (s:MSt) (ρ:Env) (k:Nat) (r:RdX):Prop where
 n:r.n.den ρ=(k:Int)
 n1:r.n1.den ρ=(k:Int)+1
 res:r.res.den ρ=b2i s.res
 at_:r.at_.den ρ=s.at_
 mem:MemIs ρ r.mem s.m
 base:∃ t,r.mem=.base t
theorem stA_put(f:X→Nat→X)(n v:X):∀ (w i:Nat) (a:A),1≤w→∃ b j c x,stA f n v i w a=.put b j c x
 | 0,_,_,h=>by omega
 | 1,i,a,_=>⟨_,_,_,_,rfl⟩
 | w+2,i,a,_=>stA_put f n v (w+1) (i+1) _ (by omega)
section
variable {W:World} {p:Par} (hro:RoAll p.ro) (hW:∀ x∈LStart,W.heap[x.1]?=some (p.ro x.1))
variable {s0:MSt} {ρ:Env} (T:Tabs p s0 ρ) {k:Nat} {r:RdX} (R:RdOk p (seqM p s0 k) ρ k r)
variable (hs:(seqM p s0 k).h.Ok) (hc:(seqM p s0 k).h.cause=0)
variable {f:X→Nat→X} (hf:∀ (v:X) (z:Int),v.den ρ=z→0≤z∧z≤4294967295→∀ i,i<4→(f v i).den ρ=z / 256 ^ i % 256)
include hro hW T R hs hc hf
theorem st_put{v:X}{z:Int}(hv:v.den ρ=z)(hz:0≤z∧z≤4294967295){w:Nat}(hw:w≤4):MemIs ρ (stA f r.n v 0 w r.mem) (stv (seqM p s0 k).m (acc p (seqM p s0 k)).ad w z):=
 st_mem R.n (T.acc k 1 (by omega)) (acc_ok hro hW hs hc).ad (hf v z hv hz) R.mem hw
omit hro hW T hs hc in
theorem st_rg{v:X}{z:Int}(hv:v.den ρ=z)(hz:0≤z∧z≤4294967295){w:Nat}(hw:w≤4):MemRg ρ (stA f r.n v 0 w r.mem):=by
 obtain⟨t,ht⟩:=R.base
 refine stA_rg (fun i hi=>?_) w 0 _ (by omega) (by rw [ht];exact base_rg t)
 rw [hf v z hv hz i hi]
 omega
theorem scT_ok{α:Type}{g:EndX→_root_.Go.Proofs.YtmickljjofbmiaaGreatDoor.R α} (h4:(acc p (seqM p s0 k)).k=4):∃ e,EndOk p (seqM p s0 k) ρ e∧(scT f r g).sel ρ=(g e).sel ρ:=by
 have ha:=acc_ok hro hW hs hc
 have sp:=fun w hw=>st_put hro hW T R hs hc hf (v:=vX r) (w32_den ((tb_den R.n 1 3).trans (T.acc k 3 (by omega))) ha.v) ha.v (w:=w) hw
 have sr:=fun w hw=>st_rg R hf (v:=vX r) (w32_den ((tb_den R.n 1 3).trans (T.acc k 3 (by omega))) ha.v) ha.v (w:=w) hw
 have rr:MemRg ρ r.mem:=by obtain⟨t,ht⟩:=R.base;rw [ht];exact base_rg t
 have ead:=w32_den ((tb_den R.n 1 1).trans (T.acc k 1 (by omega))) ha.ad
 obtain⟨rn,rn1,rres,rat,rmem,rb⟩:=R
 obtain⟨t,ht⟩:=rb
 have r4:resF p (seqM p s0 k)=false:=by simp only [resF,h4]
 have a4:atF p (seqM p s0 k)=(seqM p s0 k).at_:=by simp only [atF,h4]
 unfold scT
 cases hres:(seqM p s0 k).res with
 | false=>
  rw [br_f (by rw [X.tt,rres,hres];rfl)]
  refine⟨_,⟨?_,?_,rr,?_,?_,fun hp=>?_,fun _=>⟨t,ht⟩⟩,rfl⟩
  ·simp only [blk,h4,hres]
  ·simp only [memF,h4,hres];exact rmem
  ·rw [r4];rfl
  ·rw [a4];exact rat
  ·rcases hp with h | ⟨_,h,_⟩ | h
   ·omega
   ·rw [hres] at h;cases h
   ·omega
 | true=>
  rw [br_t (by rw [X.tt,rres,hres];rfl)]
  by_cases e:(seqM p s0 k).at_=(acc p (seqM p s0 k)).ad
  ·rw [br_t (by rw [tt_eq,rat,adX,ead,e];exact beq_self_eq_true _)]
   refine⟨_,⟨?_,?_,sr 4 (by omega),?_,?_,fun _=>stA_put _ _ _ _ _ _ (by omega),fun hp=>absurd (.inr (.inl ⟨h4,hres,e⟩)) hp⟩,rfl⟩
   ·simp only [blk,h4,hres]
   ·have:memF p (seqM p s0 k)=stv (seqM p s0 k).m (acc p (seqM p s0 k)).ad 4 (acc p (seqM p s0 k)).v:=by
     simp [memF,h4,hres,e,e]
    rw [this]
    exact sp 4 (by omega)
   ·rw [r4];rfl
   ·rw [a4];exact rat
  ·rw [br_f (by rw [tt_eq,rat,adX,ead];exact beq_eq_false_iff_ne.2 e)]
   refine⟨_,⟨?_,?_,rr,?_,?_,fun hp=>?_,fun _=>⟨t,ht⟩⟩,rfl⟩
   ·simp only [blk,h4,hres]
   ·have:memF p (seqM p s0 k)=(seqM p s0 k).m:=by
     simp [memF,h4,hres,e]
    rw [this]
    exact rmem
   ·rw [r4];rfl
   ·rw [a4];exact rat
   ·rcases hp with h | ⟨_,_,h⟩ | h
    ·omega
    ·exact absurd h e
    ·omega
omit hro hW T hs hc hf in
theorem sc0_ok{α:Type}{g:EndX→_root_.Go.Proofs.YtmickljjofbmiaaGreatDoor.R α} (h4:(acc p (seqM p s0 k)).k=4) (hres:(seqM p s0 k).res=false):∃ e,EndOk p (seqM p s0 k) ρ e∧(sc0 r g).sel ρ=(g e).sel ρ:=by
 have rr:MemRg ρ r.mem:=by obtain⟨t,ht⟩:=R.base;rw [ht];exact base_rg t
 obtain⟨rn,rn1,rres,rat,rmem,rb⟩:=R
 obtain⟨t,ht⟩:=rb
 refine⟨_,⟨?_,?_,rr,?_,?_,fun hp=>?_,fun _=>⟨t,ht⟩⟩,rfl⟩
 ·simp only [blk,h4,hres]
 ·simp only [memF,h4,hres];exact rmem
 ·simp only [resF,h4];rfl
 ·simp only [atF,h4];exact rat
 ·rcases hp with h | ⟨_,h,_⟩ | h
  ·omega
  ·rw [hres] at h;cases h
  ·omega
theorem caseT_ok{α:Type}{v2:Nat} (hv2:(acc p (seqM p s0 k)).k=5→ρ.f2 2 k v2=(amoF p (seqM p s0 k)).1) {g:EndX→_root_.Go.Proofs.YtmickljjofbmiaaGreatDoor.R α} {sc:_root_.Go.Proofs.YtmickljjofbmiaaGreatDoor.R α} (hsc:(acc p (seqM p s0 k)).k=4→∃ e,EndOk p (seqM p s0 k) ρ e∧sc.sel ρ=(g e).sel ρ):
  ∃ e,EndOk p (seqM p s0 k) ρ e∧(caseT f v2 r g sc (acc p (seqM p s0 k)).k (acc p (seqM p s0 k)).w).sel ρ=(g e).sel ρ:=by
 have ha:=acc_ok hro hW hs hc
 have hk:=ha.k
 have sp:=fun w hw=>st_put hro hW T R hs hc hf (v:=vX r) (w32_den ((tb_den R.n 1 3).trans (T.acc k 3 (by omega))) ha.v) ha.v (w:=w) hw
 have sb:=fun h5=>st_rg R hf (v:=w32 (tb 2 r.n v2)) (w32_den ((tb_den R.n 2 v2).trans (hv2 h5)) (amo_is hro hW hs hc).2.2.2.1) (amo_is hro hW hs hc).2.2.2.1 (w:=4) (by omega)
 have sa:=fun h5=>st_put hro hW T R hs hc hf (v:=w32 (tb 2 r.n v2)) (w32_den ((tb_den R.n 2 v2).trans (hv2 h5)) (amo_is hro hW hs hc).2.2.2.1) (amo_is hro hW hs hc).2.2.2.1 (w:=4) (by omega)
 have sr:=fun w hw=>st_rg R hf (v:=vX r) (w32_den ((tb_den R.n 1 3).trans (T.acc k 3 (by omega))) ha.v) ha.v (w:=w) hw
 have rr:MemRg ρ r.mem:=by obtain⟨t,ht⟩:=R.base;rw [ht];exact base_rg t
 have ead:=w32_den ((tb_den R.n 1 1).trans (T.acc k 1 (by omega))) ha.ad
 obtain⟨rn,rn1,rres,rat,rmem,rb⟩:=R
 obtain⟨t,ht⟩:=rb
 have np:∀ {q:Nat},(acc p (seqM p s0 k)).k=q→q≠2→q≠4→q≠5→¬putF p (seqM p s0 k):=fun e h2 h4 h5 hp=>by
  rcases hp with h | ⟨h,_⟩ | h<;>omega
 obtain h | h | h | h | h | h | h:(acc p (seqM p s0 k)).k=0∨(acc p (seqM p s0 k)).k=1∨(acc p (seqM p s0 k)).k=2∨(acc p (seqM p s0 k)).k=3∨(acc p (seqM p s0 k)).k=4∨(acc p (seqM p s0 k)).k=5∨(acc p (seqM p s0 k)).k=6:=by omega
 ·rw [h]
  exact⟨_,⟨by simp only [blk,h],by simp only [memF,h];exact rmem,rr,by simp only [resF,h];exact rres,by simp only [atF,h];exact rat,fun hp=>absurd hp (np h (by omega) (by omega) (by omega)),fun _=>⟨t,ht⟩⟩,rfl⟩
 ·rw [h]
  exact⟨_,⟨by simp only [blk,h];rcases ha.w (by omega) (by omega) with q | q | q<;>simp only [q],by simp only [memF,h];exact rmem,rr,by simp only [resF,h];exact rres,by simp only [atF,h];exact rat,fun hp=>absurd hp (np h (by omega) (by omega) (by omega)),fun _=>⟨t,ht⟩⟩,rfl⟩
 ·have hw:=ha.w (by omega) (by omega)
  rw [h]
  exact⟨_,⟨by simp only [blk,h],by simp only [memF,h];exact sp _ (by omega),sr _ (by omega),by simp only [resF,h];exact rres,by simp only [atF,h];exact rat,fun _=>stA_put _ _ _ _ _ _ (by omega),fun hp=>absurd (.inl h) hp⟩,rfl⟩
 ·rw [h]
  exact⟨_,⟨by simp only [blk,h],by simp only [memF,h];exact rmem,rr,by simp only [resF,h];rfl,by simp only [atF,h];exact ead,fun hp=>absurd hp (np h (by omega) (by omega) (by omega)),fun _=>⟨t,ht⟩⟩,rfl⟩
 ·obtain⟨e,he,hsel⟩:=hsc h
  rw [h]
  exact⟨e,he,hsel⟩
 ·rw [h]
  exact⟨_,⟨by simp only [blk,h],by simp only [memF,h];exact sa h,sb h,by simp only [resF,h];exact rres,by simp only [atF,h];exact rat,fun _=>stA_put _ _ _ _ _ _ (by omega),fun hp=>absurd (.inr (.inr h)) hp⟩,rfl⟩
 ·rw [h]
  exact⟨_,⟨by simp only [blk,h],by simp only [memF,h];exact rmem,rr,by simp only [resF,h];exact rres,by simp only [atF,h];exact rat,fun hp=>absurd hp (np h (by omega) (by omega) (by omega)),fun _=>⟨t,ht⟩⟩,rfl⟩
end
end Go.Proofs.YtmickljjofbmiaaGreatDoor
