/- CoreReserves: of any row, any acts the law answers true, and nothing that was there is turned. No condition. -/
import Derived.Test.YtgcbnjpeifigaaaGreatDoorJRv
import Derived.Test.YtgcbnjpeifigaaaGreatDoorFwH
set_option maxRecDepth 100000
namespace Go.Proofs.YtgcbnjpeifigaaaGreatDoor
open Go Go.Proofs Go.ChangeShapes Go.WideShapes Go.ChangeAt Go.RowKit
theorem Rs{ρ:Env}{π:Pl}:∀ {l:List V},YU l=true->∀ j:Nat,j<l.length->∃ x,l[j]?=some (.int .u32 x)/\(V.ae ρ π l)[j]?=some (.int .u32 (x.den ρ))/\0<=x.den ρ/\x.den ρ<=4294967295
 |v::l,h,j,hj=>by
  unfold YU at h;split at h
  ·rename_i x;split at h
   ·rename_i h1;cases j with
    |zero=>exact⟨x,rfl,rfl,bh h1⟩
    |succ j=>exact Rs h j (by simpa using hj)
   ·cases h
  ·cases h
def wA(ρ:Env)(l:List V)(j:Int):Int:=match l[j.toNat]? with
 |some (.int _ x)=>x.den ρ
 |_=>0
theorem Nn{ρ:Env}{π0:Pl}{w:World}{b n:Nat}{cs:List V}{wd:Option Nat}(h:YU cs=true)(hn:n<=cs.length):FB ρ π0 w b n (.cells cs 38 wd) (wA ρ cs):=by
 refine⟨rfl,fun ob _ ho=>?_⟩;obtain⟨sp,h1,_⟩:=ho;refine⟨V.ae ρ π0 cs++sp,h1,by rw[qq9,au];omega,fun j hj=>?_⟩;obtain⟨x,e1,e2,e3⟩:=Rs (ρ:=ρ) (π:=π0) h j (by omega);rw[qk1 (by rw[au];omega),e2];unfold wA;rw[qkw,e1];dsimp only;rw[fy e3]
theorem UT{π:Pl}{b n:Nat}{c:Cp}(h:US b n c=true):n<=c.ab π:=by
 unfold US at h;split at h
 ·exact qqx h
 ·obtain⟨h1,h2,h3,_⟩:=ar h;obtain rfl:=qqq h2;obtain rfl:=qqq h3;exact Nat.le_max_right _ _
section
variable {c:Cx} {ρ:Env} (hchk:∀ j k r,j<15→k<9→r<2→ao (aN j) k r=true) (hro:aZ ρ.ro)
include hchk hro
theorem anE(hng:c.ng=7):lq c ρ 4 acy:=by
 intro args st v st' hs hthere S π0 w ac nn hh ha;unfold acy at hs;split at hs;rotate_left
 ·simp[R.ag]at hs
 rename_i i b n cap z16 z1 z2 av;split at hs;rotate_left
 ·simp[R.ag]at hs
 rename_i cs e wd hb;split at hs;rotate_left
 ·simp[R.ag]at hs
 rename_i hck;obtain⟨k1,k2,k3,k4,k5,k6⟩:=ar hck;obtain⟨k7,k8,k9,k10,_⟩:=ar k6;have k1:=qqx k1;obtain rfl:=qqq k2;have k4:=qqx k4;have k5:=qqx k5;have k7:=qqx k7;have k10:=V.aR _ _ k10;injection k10 with e1 k10;injection k10 with e2 k10;injection k10 with e3 _;subst e1 e2 e3;simp only[R.ag,qqk,qqv]at hs;obtain⟨rfl,rfl⟩:=hs;have hcv:=UT (π:=π0) k8;have hcode:FB ρ π0 w b n (.cells cs 38 wd) (wA ρ cs):=Nn k3 k4;have hag:∀ {ρ':Env},ρ'.v 40=n->ρ'.v 41=(cap.ab π0:Nat)->∀ b2,(V.agg [.slice b 0 n cap,i64 (.lit 16),i64 (.lit 1),i64 (.lit 1)]).ab ρ π0=(V.agg [Dd,i64 (.lit 16),i64 (.lit 1),i64 (.lit 1)]).ab ρ' (fw [] (eD [(8,b),(9,b2)]) ρ π0):=by
  intro ρ' h1 h2 b2;show Value.agg #[.slice (some ⟨(π0 b).1,0,none⟩) n (cap.ab π0),.int .i64 16,.int .i64 1,.int .i64 1]=Value.agg #[.slice (some ⟨(π0 b).1,0*1,none⟩) (ρ'.v 40).toNat (ρ'.v 41).toNat,.int .i64 16,.int .i64 1,.int .i64 1];rw[h1,h2,qkw,qkw]
 unfold aoD at k9;split at k9
 ·refine vo (n:=n) (cv:=cap.ab π0) (id:=i) (fc:=wA ρ cs) (m:=0) (cv2:=0) (fa:=fun _ _=>0) (ob2:=ρ.ro 9) (ad:=ρ.win 9) (z:=2) (b2:=9) hchk hng hro (by omega) hthere hh ha ⟨k5,k7⟩ hcv ⟨by omega,by omega⟩ hb hcode (fun h=>by omega) (fun h=>by omega) ?_;show[Value.int .i64 (i:Int),(V.agg [.slice b 0 n cap,i64 (.lit 16),i64 (.lit 1),i64 (.lit 1)]).ab ρ π0,.slice none 0 0]=[Value.int .i64 (i:Int),(V.agg [Dd,i64 (.lit 16),i64 (.lit 1),i64 (.lit 1)]).ab _ _,.slice none 0 0];rw[hag (ρ':=JN ρ n (cap.ab π0) i (wA ρ cs) 0 0 (fun _ _=>0) (ρ.ro 9) (ρ.win 9)) rfl rfl 9]
 ·split at k9
  ·refine vo (n:=n) (cv:=cap.ab π0) (id:=i) (fc:=wA ρ cs) (m:=0) (cv2:=(ρ.v 51).toNat) (fa:=fun _ _=>0) (ob2:=ρ.ro 9) (ad:=ρ.win 9) (z:=3) (b2:=9) hchk hng hro (by omega) hthere hh ha ⟨k5,k7⟩ hcv ⟨by omega,by omega⟩ hb hcode (fun h=>by omega) (fun h=>by omega) ?_;show[Value.int .i64 (i:Int),(V.agg [.slice b 0 n cap,i64 (.lit 16),i64 (.lit 1),i64 (.lit 1)]).ab ρ π0,.slice (some ((ρ.win 9).add (0*4))) 0 (ρ.v 51).toNat]=[Value.int .i64 (i:Int),(V.agg [Dd,i64 (.lit 16),i64 (.lit 1),i64 (.lit 1)]).ab _ _,.slice (some ((ρ.win 9).add 0)) 0 (((ρ.v 51).toNat:Nat):Int).toNat];rw[hag (ρ':=JN ρ n (cap.ab π0) i (wA ρ cs) 0 (ρ.v 51).toNat (fun _ _=>0) (ρ.ro 9) (ρ.win 9)) rfl rfl 9,qkw]
  ·split at k9
   ·rename_i h9;have h9:=gi h9;have f1:=bQ hh.pc k9 _ (qq1 ..);have f2:=bQ hh.pc k9 (.le (.var 50) (.lit 60),true) (by simp[acF]);have f3:=bQ hh.pc k9 (.le (.var 50) (.var 51),true) (by simp[acF]);have f1:(X.le (.lit 1) (.var 50)).tt ρ=true:=f1;have f2:(X.le (.var 50) (.lit 60)).tt ρ=true:=f2;have f3:(X.le (.var 50) (.var 51)).tt ρ=true:=f3;rw[cT]at f1 f2 f3;have f1:(1:Int)<=ρ.v 50:=of_decide_eq_true f1;have f2:ρ.v 50<=(60:Int):=of_decide_eq_true f2;have f3:ρ.v 50<=ρ.v 51:=of_decide_eq_true f3;obtain⟨ob,o1,o2⟩:=(hh.at_.rep π0 fun _ _=>rfl).obj 9 _ h9;have o2':=o2;obtain⟨⟨p1,p2,cs9,t9,fr9,p3,p4⟩,p5⟩:=o2';have hne:9≠b:=fun e=>by
     rw[<-e,h9]at hb;cases hb
    refine vo (n:=n) (cv:=cap.ab π0) (id:=i) (fc:=wA ρ cs) (m:=(ρ.v 50).toNat) (cv2:=(ρ.v 51).toNat) (fa:=fun c j=>ρ.f1 (20+c) j) (ob2:=ρ.ro 9) (ad:=ρ.win 9) (z:=0) (b2:=9) hchk hng hro (by omega) hthere hh ha ⟨k5,k7⟩ hcv ⟨by omega,by omega⟩ hb hcode (fun _=>⟨by omega,fun _=>by omega,fun h=>absurd rfl h⟩) (fun _=>⟨hne,oAc,h9,⟨p1,p2,fun ob' q1 q2=>?_⟩,ob,o1,o2,p5⟩) ?_
    ·obtain⟨⟨_,_,cs',t',fr',q3,q4⟩,_⟩:=q2;refine⟨cs',t',fr',q3,fun j c k hj hk=>?_⟩;exact q4 j c (.int k) hj hk
    ·show[Value.int .i64 (i:Int),(V.agg [.slice b 0 n cap,i64 (.lit 16),i64 (.lit 1),i64 (.lit 1)]).ab ρ π0,.slice (some ((ρ.win 9).add (0*4))) (ρ.v 50).toNat (ρ.v 51).toNat]=[Value.int .i64 (i:Int),(V.agg [Dd,i64 (.lit 16),i64 (.lit 1),i64 (.lit 1)]).ab _ _,.slice (some ((ρ.win 9).add (0*4))) (((ρ.v 50).toNat:Nat):Int).toNat (((ρ.v 51).toNat:Nat):Int).toNat];rw[hag (ρ':=JN ρ n (cap.ab π0) i (wA ρ cs) (ρ.v 50).toNat (ρ.v 51).toNat (fun c j=>ρ.f1 (20+c) j) (ρ.ro 9) (ρ.win 9)) rfl rfl 9,qkw,qkw]
   ·cases k9
  ·cases k9
 ·cases k9
theorem aoF:SumOk Tryz.prog cxV ρ:=by
 obtain⟨h10,_⟩:=Zs hro ρ rfl cxV rfl;exact lX (l:=[(4,sG acy),(10,bY aj 7 sQ)]) ⟨(anE hchk hro rfl).at,h10,trivial⟩ rfl
end
structure RvK where
 W:World
 gl:Nat->Int->Int
 nl:Int
 cl:Int
 al:Addr
 ga:Nat->Int->Int
 na:Int
 ca:Int
 aa:Addr
def RvK.ro(d:RvK)(i:Nat):Obj:=if i=8 then Aj d.W d.al.block else if i=9 then Aj d.W d.aa.block else Aj d.W i
def RvK.env(d:RvK):Env:=
 {b:=fun _=>false
  v:=fun i=>if i=40 then d.nl else if i=41 then d.cl else if i=50 then d.na else if i=51 then d.ca else 0
  f1:=fun i=>if i=10 then d.gl 0 else if 20<=i/\i<24 then d.ga (i-20)else fun _=>0
  f2:=fun _ _ _=>0
  s:=fun _=>[],sf:=fun _ _=>[]
  ro:=d.ro
  win:=fun i=>if i=8 then d.al else d.aa}
theorem ane{i:Nat}(h1:2<=i)(h2:i<=21):lV i=(.xslice true 8 (.lit 0) 1 (nl (i-1)) (.known (.var 41)),[le' (nl (i-1)) (.var 41)],[(8,.warr 8 10 [.int .u8] (nl (i-1)))]):=by
 match i,h1,h2 with
 |2,_,_=>rfl
 |3,_,_=>rfl
 |4,_,_=>rfl
 |5,_,_=>rfl
 |6,_,_=>rfl
 |7,_,_=>rfl
 |8,_,_=>rfl
 |9,_,_=>rfl
 |10,_,_=>rfl
 |11,_,_=>rfl
 |12,_,_=>rfl
 |13,_,_=>rfl
 |14,_,_=>rfl
 |15,_,_=>rfl
 |16,_,_=>rfl
 |17,_,_=>rfl
 |18,_,_=>rfl
 |19,_,_=>rfl
 |20,_,_=>rfl
 |21,_,_=>rfl
 |i+22,_,h=>omega
def LIn(W:World)(v:Value)(g:Nat->Int->Int)(n c:Int)(a:Addr)(i:Nat):Prop:=(i=0/\v=.slice none 0 0)\/(i=1/\v=.slice (some a) 0 c.toNat/\0<=c)\/(2<=i/\i<=21/\n=((i-1:Nat):Int)/\v=.slice (some a) n.toNat c.toNat/\n<=c/\iV W [.int .u8] a n.toNat g)\/(i=22/\v=.slice (some a) n.toNat c.toNat/\20<n/\n<=c/\iV W [.int .u8] a n.toNat g)
def AIn(W:World)(v:Value)(g:Nat->Int->Int)(n c:Int)(a:Addr)(j:Nat):Prop:=(j=0/\v=.slice none 0 0)\/(j=1/\v=.slice (some a) 0 c.toNat/\0<=c)\/(j=2/\v=.slice (some a) n.toNat c.toNat/\1<=n/\n<=60/\n<=c/\iV W zz a n.toNat g)\/(j=3/\v=.slice (some a) n.toNat c.toNat/\60<n/\n<=c/\iV W zz a n.toNat g)
section
variable {H:Type} {enc:TypeId×Value→H} {W:World} {v:Value} {d0:DataW H} {p:List MemPlace} {base b0:Nat} {sp:Nat→Bool} {held:Bool} {r:Reach}
theorem anc(hval:Value.okWide Tryz.prog W r b0 90 v)(h0:DataW.Trod enc Tryz.prog W base sp held 90 v d0 p):∃ g n c a i,LIn W v g n c a i:=by
 obtain⟨ad,ln,cp,rfl⟩:=okWide_slice Tryz.underlying90 hval;obtain⟨fuel,hf⟩:=h0;rcases open_row (n:=3) (ks:=[.int .u8]) Tryz.underlying90 (by kernel_rfl) (by kernel_rfl) hf with hcs|⟨a,len,cap,zs,hcs,_,hle,_,hz⟩
 ·simp[Value.cells]at hcs;obtain⟨rfl,rfl,rfl⟩:=hcs;exact⟨fun _ _=>0,0,0,⟨0,0,none⟩,0,.inl ⟨rfl,rfl⟩⟩
 ·simp[Value.cells]at hcs;obtain⟨rfl,rfl,rfl⟩:=hcs;by_cases hl0:ln=0
  ·subst hl0;exact⟨fun _ _=>0,0,cp,a,1,.inr (.inl ⟨rfl,rfl,by omega⟩)⟩
  ·have hc:=wR (by omega) (by decide) hz;by_cases hbig:20<ln
   ·exact⟨_,ln,cp,a,22,.inr (.inr (.inr ⟨rfl,rfl,by omega,by omega,hc⟩))⟩
   ·exact⟨_,ln,cp,a,ln+1,.inr (.inr (.inl ⟨by omega,by omega,by simp,rfl,by omega,hc⟩))⟩
theorem ajy(hval:Value.okWide Tryz.prog W r b0 25 v)(h0:DataW.Trod enc Tryz.prog W base sp held 25 v d0 p):∃ g n c a j,AIn W v g n c a j:=by
 obtain⟨ad,ln,cp,rfl⟩:=okWide_slice Tryz.underlying25 hval;obtain⟨fuel,hf⟩:=h0;rcases open_row (n:=3) (ks:=zz) Tryz.underlying25 (by kernel_rfl) (by kernel_rfl) hf with hcs|⟨a,len,cap,zs,hcs,_,hle,_,hz⟩
 ·simp[Value.cells]at hcs;obtain⟨rfl,rfl,rfl⟩:=hcs;exact⟨fun _ _=>0,0,0,⟨0,0,none⟩,0,.inl ⟨rfl,rfl⟩⟩
 ·simp[Value.cells]at hcs;obtain⟨rfl,rfl,rfl⟩:=hcs;by_cases hl0:ln=0
  ·subst hl0;exact⟨fun _ _=>0,0,cp,a,1,.inr (.inl ⟨rfl,rfl,by omega⟩)⟩
  ·have hc:=wR (by omega) (by decide) hz;by_cases hbig:60<ln
   ·exact⟨_,ln,cp,a,3,.inr (.inr (.inr ⟨rfl,rfl,by omega,by omega,hc⟩))⟩
   ·exact⟨_,ln,cp,a,2,.inr (.inr (.inl ⟨rfl,rfl,by omega,by omega,by omega,hc⟩))⟩
end
theorem S3{W:World}(h:laidMetH Tryz.prog Rows.coreReservesRow.laid W){ρ:Env}(h0:ρ.ro 0=Aj W 0):RoAt ρ aj/\∀ x∈aj,W.heap[x.1]?=some (ρ.ro x.1):=by
 obtain⟨t,fr,h1⟩:=Qq h;have e:ρ.ro 0=.cells ((n3 256).map (.int .u8)).toArray t fr:=by rw[h0];simp only[Aj,h1,Option.getD_some]
 refine⟨⟨fun x hx=>?_⟩,fun x hx=>?_⟩<;>(simp only[aj,qq4]at hx;subst hx)
 ·exact⟨t,fr,fun π=>by rw[e,dp]⟩
 ·rw[e];exact h1
theorem Xd{ρ:Env}(h:RoAt ρ aj):aZ ρ.ro:=fun ρ' hr=>⟨fun x hx=>by
 simp only[aj,qq4]at hx;subst hx;obtain⟨t,fr,h2⟩:=h.is _ (qq4.2 rfl);exact⟨t,fr,fun π=>by rw[hr,h2 π,dp,dp]⟩⟩
theorem wL(a:Addr):a.add 0=a:=by simp[Addr.add]
theorem vf:∀ {k i:Nat},Ow i k=true->∀ i',i<=i'->i'<i+k->∀ j,j<4->okV i' j=true
 |0,i,_,i',h1,h2,_,_=>by omega
 |k+1,i,h,i',h1,h2,j,hj=>by
  unfold Ow at h;split at h
  ·rename_i hc;obtain⟨c0,c1,c2,c3,_⟩:=ar hc;by_cases e:i=i'
   ·subst e
    match j,hj with
    |0,_=>exact c0
    |1,_=>exact c1
    |2,_=>exact c2
    |3,_=>exact c3
   ·exact vf h i' (by omega) (by omega) j hj
  ·cases h
theorem auz{i j:Nat}(hi:i<23)(hj:j<4):okV i j=true:=by
 rcases(show i<8\/(8<=i/\i<14)\/(14<=i/\i<19)\/19<=i by omega)with h|h|h|h
 ·exact vf ara i (by omega) (by omega) j hj
 ·exact vf arb i h.1 (by omega) j hj
 ·exact vf arc i h.1 (by omega) j hj
 ·exact vf ard i h (by omega) j hj
section
variable {ρ:Env}
theorem MY{x y:X}(h:x.den ρ<=y.den ρ):(X.le x y).tt ρ=true:=by rw[cT];exact decide_eq_true h
end
theorem Xi (hchk:∀ j k r,j<15->k<9->r<2->ao (aN j) k r=true) {H:Type} {enc:TypeId×Value->H} {W:World} (h:laidMetH Tryz.prog Rows.coreReservesRow.laid W) {v0 v1:Value} {d0 d1:DataW H} {p0 p1:List MemPlace} {b0 b1:Nat}
  (hv0:Value.okWide Tryz.prog W .any b0 90 v0) (hv1:Value.okWide Tryz.prog W .any b1 25 v1)
  (h0:DataW.Trod enc Tryz.prog W 0 (fun _=>true) true 90 v0 d0 p0) (h1:DataW.Trod enc Tryz.prog W 0 (fun _=>true) true 25 v1 d1 p1):
  Calls Tryz.prog 6 #[v0,v1] W fun e W'=>e=.returned (.bool true)/\Below W.heap.size W W':=by
 obtain⟨gl,nl0,cl,al,i,hL⟩:=anc hv0 h0;obtain⟨ga,na,ca,aa,j,hA⟩:=ajy hv1 h1;let d:RvK:=⟨W,gl,nl0,cl,al,ga,na,ca,aa⟩
 obtain⟨hro,hW⟩:=S3 h (ρ:=d.env) rfl;have hi:i<23:=by rcases hL with h|h|h|h<;>omega
 have hj:j<4:=by rcases hA with h|h|h|h<;>omega
 -- the first row
 have L:(∀ π,(lV i).1.ab d.env π=v0)/\ai d.env (lV i).2.1/\∀ x∈(lV i).2.2,x.1=8/\x.2.bg=true/\W.heap[al.block]?=some (Aj W al.block)/\∀ π:Pl,(π 8).1=al.block->x.2.is d.env π 8 (Aj W al.block):=by
  rcases hL with⟨rfl,rfl⟩|⟨rfl,rfl,hc⟩|⟨i2,i21,hn,rfl,hc,hcame⟩|⟨rfl,rfl,hn,hc,hcame⟩
  ·exact⟨fun _=>rfl,ai.eL,fun x hx=>by cases hx⟩
  ·refine⟨fun π=>?_,ai.gw (MY hc) ai.eL,fun x hx=>by cases hx⟩;show Value.slice (some (al.add 0)) 0 cl.toNat=_;rw[wL]
  ·rw[ane i2 i21];have hnn:(((i-1:Nat):Int))=nl0:=hn.symm;refine⟨fun π=>?_,ai.gw (MY (by show((i-1:Nat):Int)<=cl;omega)) ai.eL,fun x hx=>?_⟩
   ·show Value.slice (some (al.add 0)) (((i-1:Nat):Int)).toNat cl.toNat=_;rw[wL,hnn]
   ·obtain rfl:=qq4.1 hx;refine⟨rfl,rfl,hcame.block,fun π hπ=>hcame.is (t:=10) rfl rfl (fun c hc=>?_) ?_ hπ⟩
    ·match c,hc with
     |0,_=>rfl
    ·show(((i-1:Nat):Int)).toNat<=nl0.toNat;rw[hnn];exact qq2 _
  ·refine⟨fun π=>?_,ai.gw (by show(X.lt (.lit 20) (.var 40)).tt d.env=true;rw[bN];exact decide_eq_true hn) (ai.gw (MY hc) ai.eL),fun x hx=>?_⟩
   ·show Value.slice (some (al.add 0)) nl0.toNat cl.toNat=_;rw[wL]
   ·obtain rfl:=qq4.1 hx;exact⟨rfl,rfl,hcame.block,fun π hπ=>hcame.is (t:=10) rfl rfl (fun c hc=>by
     match c,hc with
     |0,_=>rfl) (qq2 _) hπ⟩
 -- the acts
 have hcam:∀ {n:Nat},iV W zz aa n ga->W.heap[aa.block]?=some (Aj W aa.block)/\((na.toNat<=n)->∀ π:Pl,(π 9).1=aa.block->oAc.is d.env π 9 (Aj W aa.block)):=fun hcame=>⟨hcame.block,fun hle π hπ=>hcame.is (t:=20) rfl rfl (fun c hc=>by
  match c,hc with
  |0,_=>rfl
  |1,_=>rfl
  |2,_=>rfl
  |3,_=>rfl) hle hπ⟩
 have A:(∀ π,(aV j).1.ab d.env π=v1)/\ai d.env (aV j).2.1/\∀ x∈(aV j).2.2,x.1=9/\x.2.bg=true/\W.heap[aa.block]?=some (Aj W aa.block)/\∀ π:Pl,(π 9).1=aa.block->x.2.is d.env π 9 (Aj W aa.block):=by
  rcases hA with⟨rfl,rfl⟩|⟨rfl,rfl,hc⟩|⟨rfl,rfl,hn1,hn,hc,hcame⟩|⟨rfl,rfl,hn,hc,hcame⟩
  ·exact⟨fun _=>rfl,ai.eL,fun x hx=>by cases hx⟩
  ·refine⟨fun π=>?_,ai.gw (MY hc) ai.eL,fun x hx=>by cases hx⟩;show Value.slice (some (aa.add 0)) 0 ca.toNat=_;rw[wL]
  ·refine⟨fun π=>?_,ai.gw (MY hn1) (ai.gw (MY hn) (ai.gw (MY hc) ai.eL)),fun x hx=>?_⟩
   ·show Value.slice (some (aa.add 0)) na.toNat ca.toNat=_;rw[wL]
   ·obtain rfl:=qq4.1 hx;obtain⟨g1,g2⟩:=hcam hcame;exact⟨rfl,rfl,g1,g2 (qq2 _)⟩
  ·refine⟨fun π=>?_,ai.gw (by show(X.lt (.lit 60) (.var 50)).tt d.env=true;rw[bN];exact decide_eq_true hn) (ai.gw (MY hc) ai.eL),fun x hx=>?_⟩
   ·show Value.slice (some (aa.add 0)) na.toNat ca.toNat=_;rw[wL]
   ·obtain rfl:=qq4.1 hx;obtain⟨g1,g2⟩:=hcam hcame;exact⟨rfl,rfl,g1,g2 (qq2 _)⟩
 obtain⟨L1,L2,L3⟩:=L;obtain⟨A1,A2,A3⟩:=A;have hrows:RowsAt d.env W (wsV i j) 7 10:=by
  have hm:∀ x∈wsV i j,x∈(lV i).2.2\/x∈(aV j).2.2:=fun x hx=>qzz.1 hx
  refine⟨fun x hx=>?_,by decide,fun x hx=>?_,fun x hx=>?_,fun x hx π hπ=>?_⟩<;>rcases hm x hx with hx|hx
  ·rw[(L3 x hx).1];decide
  ·rw[(A3 x hx).1];decide
  ·obtain⟨e,_,e2,_⟩:=L3 x hx;rw[e];exact e2
  ·obtain⟨e,_,e2,_⟩:=A3 x hx;rw[e];exact e2
  ·exact(L3 x hx).2.1
  ·exact(A3 x hx).2.1
  ·obtain⟨e,_,_,e2⟩:=L3 x hx;rw[e]at hπ ⊢;exact e2 π hπ
  ·obtain⟨e,_,_,e2⟩:=A3 x hx;rw[e]at hπ ⊢;exact e2 π hπ
 have hpc:ai d.env (pcV i j):=ai.app L2 (ai.app A2 (ai.gw rfl (ai.gw rfl ai.eL)));have ha:bz d.env (fun i=>i<10) (πRows d.env 7) [(lV i).1,(aV j).1] [v0,v1]:=by
  intro π _;show[(lV i).1.ab d.env π,(aV j).1.ab d.env π]=_;rw[L1,A1]
 have hrun:=auz hi hj;unfold okV at hrun;exact Kl (cx:=cxV) (L:=aj) (ng:=7) (nm:=10) (ρ:=d.env) (N:=4000) bG dh dV (aoF hchk (Xd hro)) Tryz.func6 rfl dS hro hW hrows hpc (by rw[cj];exact hrun) ha
end Go.Proofs.YtgcbnjpeifigaaaGreatDoor
