/- CorePlay: the cache's Read and Copy, the document's Read, by themselves at the shapes of a set (plain functions). CorePlay: what is told of the cache's Read and Copy, of the document's Read. No condition. -/
import Derived.Test.YtgcbnjpeifigaaaGreatDoorJBo
import Derived.Test.YtgcbnjpeifigaaaGreatDoorJLp
import Derived.Test.YtgcbnjpeifigaaaGreatDoorJBf
set_option maxRecDepth 100000
namespace Go.Proofs.YtgcbnjpeifigaaaGreatDoor
open Go Go.Proofs
noncomputable section
def Nl(i:Nat):X:=.wrap .u8 (va (161+i))
def UN:Nat->Nat->List V
 |_,0=>[]
 |i,n+1=>u8 (Nl i)::UN (i+1) n
def lnW:List V:=u32 (.lit 0)::i64 (va 160)::UN 0 16
def i25(s:Nat):List (Nat×ak):=match s with
 |0=>[]
 |1=>[(25,.cells ln0 nZ.line (some 18))]
 |_=>[(25,.cells lnW nZ.line (some 18))]
def Sd(s:Nat)(x y:V):List (Nat×ak):=(19,.cells [i64 (va 42),.ptr 18 0,x,y] nZ.cache none)::(18,.cells [.slice 17 0 1 (.known 1),i64 (.lit 1)] T7 none)::(17,.cells [qI s 25] nZ.set none)::i25 s
def pRd(s o w:Nat):gk:=⟨[.ptr 19 0,u32 (nl o),i64 (nl w)],Sd s (.any 20) (.any 21),100,[]⟩
def i27(s:Nat):List (Nat×ak):=match s with
 |2=>[(27,.cells lnW nZ.line (some 18))]
 |_=>[]
def WI(s o w:Nat):gk:=⟨[.agg (.any 30::.any 31::.any 32::zD s 27::Az 33 22 []),u32 (nl o),i64 (nl w)],i27 s,100,[]⟩
def rdP(o:Nat):Nat->X
 |0=>.lit 0
 |k+1=>.bits 1 .u32 (rdP o k) (.mul (Nl (o+k)) (nl (256 ^ k)))
def rdD(o:Nat):Nat->X
 |0=>Nl o
 |k+1=>.add (.mul (.lit 256) (rdD (o+1) k)) (Nl o)
def rdL(s:Nat)(x:X):V:=match s with
 |2=>.tuple [u32 x,i64 (.lit 0)]
 |_=>.tuple [u32 (.lit 0),i64 (.lit 232)]
def Gi(w:Nat)(g:Nat->Bool):Nat->Bool
 |0=>true
 |n+1=>match g (w*n)with
  |true=>Gi w g n
  |false=>false
def ao7(a:Bool):List (Nat×ak):=match a with
 |true=>[(23,.cells [u32 (.lit 0),.bool (fX 0).wx] nZ.asked none)]
 |false=>[]
def ao8(g:Bool):List (Nat×ak):=match g with
 |true=>[(24,.cells (eK (fX 0).gl) nZ.line none)]
 |false=>[]
def ptV(a:Bool)(k:Nat):V:=match a with
 |true=>.ptr k 0
 |false=>.nilptr
def apo(s:Nat):List (Nat×ak):=match s with
 |0=>[]
 |1=>[(25,.cells ln0 nZ.line (some 18))]
 |_=>[(25,.cells (eK (fX 0).lx) nZ.line (some 18))]
def pCp(s:Nat)(a g:Bool):gk:=⟨[.ptr 19 0],(19,.cells [i64 (va 42),.ptr 18 0,ptV a 23,ptV g 24] nZ.cache none)::(18,.cells [.slice 17 0 1 (.known 1),i64 (.lit 1)] T7 none)::(17,.cells [qI s 25] nZ.set none)::(apo s++(ao7 a++ao8 g)),100,[]⟩
def u9 (l:List (Nat×ak)):List (Nat×ak)->Bool
 |[]=>true
 |(i,o)::m=>match look l i with
  |some q=>match q.beq o with
   |true=>u9 l m
   |false=>false
  |none=>false
def GN (os:List (Nat×ak)) (v:V):R Leaf->Bool
 |.ok lf=>bc (lf.v.beq v) (u9 lf.objs os) (Nat.ble lf.n (100+bm)) true true true
 |_=>false
def R3(g:Bool->Bool):Bool:=match g true with
 |true=>g false
 |false=>false
end
theorem atO:eI (fun s=>Gi 1 (fun o=>cw (Sd s (.any 20) (.any 21)) (eA cxB 131 (pRd s o 1)) (.ok (rdL s (rdP o 1)))) 16) [0,1,2]=true:=by kernel_rfl
theorem atP:eI (fun s=>Gi 2 (fun o=>cw (Sd s (.any 20) (.any 21)) (eA cxB 131 (pRd s o 2)) (.ok (rdL s (rdP o 2)))) 8) [0,1,2]=true:=by kernel_rfl
theorem atQ:eI (fun s=>Gi 4 (fun o=>cw (Sd s (.any 20) (.any 21)) (eA cxB 131 (pRd s o 4)) (.ok (rdL s (rdP o 4)))) 4) [0,1,2]=true:=by kernel_rfl
theorem atS:eI (fun s=>Gi 1 (fun o=>cw (i27 s) (eA cxB 103 (WI s o 1)) (.ok (rdL s (rdD o 0)))) 16) [0,1,2]=true:=by kernel_rfl
theorem atT:eI (fun s=>Gi 2 (fun o=>cw (i27 s) (eA cxB 103 (WI s o 2)) (.ok (rdL s (rdD o 1)))) 8) [0,1,2]=true:=by kernel_rfl
theorem atU:eI (fun s=>Gi 4 (fun o=>cw (i27 s) (eA cxB 103 (WI s o 4)) (.ok (rdL s (rdD o 3)))) 4) [0,1,2]=true:=by kernel_rfl
theorem kCp:eI (fun s=>R3 fun a=>R3 fun g=>GN (pCp s a g).items (.ptr (100+(2+s)) 0) (eA cxB 14 (pCp s a g))) [0,1,2]=true:=by kernel_rfl
open Go.RowKit
theorem og{w:Nat}{g:Nat->Bool}:∀ {n i:Nat},Gi w g n=true->i<n->g (w*i)=true
 |n+1,i,h,hi=>by
  unfold Gi at h;split at h
  ·rename_i h1;rcases qkz i n with h2|h2
   ·exact og h h2
   ·rw[show i=n by omega];exact h1
  ·cases h
theorem acb:∀ i:Nat,((256 ^ i:Nat):Int)=256 ^ i
 |0=>rfl
 |i+1=>by rw[Nat.pow_succ,Int.pow_succ,Int.natCast_mul,acb i];rfl
theorem ab6{x y:Int}(i:Nat)(hx:0<=x/\x<256 ^ i)(hy:0<=y/\y<256)(hi:i<4):gU 1 .u32 x (y*256 ^ i)=x+y*256 ^ i:=by
 obtain⟨x,rfl⟩:=qkv hx.1;obtain⟨y,rfl⟩:=qkv hy.1;have p2:2 ^ (8*i)=256 ^ i:=Nat.pow_mul 2 8 i;have h1:x<2 ^ (8*i):=by
  have h:=hx.2;rw[<-acb]at h;rw[p2];exact Int.ofNat_lt.1 h
 have hy':y<256:=by omega
 have e1:(y:Int)*256 ^ i=((y <<< (8*i):Nat):Int):=by
  rw[Nat.shiftLeft_eq,p2,Int.natCast_mul,acb]
 have hlt:x+y <<< (8*i)<2 ^ 32:=by
  rw[Nat.shiftLeft_eq];have hp:2 ^ (8*i)*256<=2 ^ 32:=by
   rw[show(256:Nat)=2 ^ 8 from rfl,<-Nat.pow_add];exact Nat.pow_le_pow_right (by omega) (by omega)
  have:y*2 ^ (8*i)<=255*2 ^ (8*i):=qq7 _ (by omega);omega
 rw[e1];unfold gU;have b:∀ z:Nat,z<2 ^ 32->(BitVec.ofInt 32 (z:Int)).toNat=z:=by
  intro z hz;rw[BitVec.toNat_ofInt];omega
 show IntKind.u32.wrap ((BitVec.ofInt 32 (x:Int) |||BitVec.ofInt 32 ((y <<< (8*i):Nat):Int)).toNat:Int)=_;rw[BitVec.toNat_or,b x (Nat.lt_of_le_of_lt (Nat.le_add_right _ _) hlt),b _ (Nat.lt_of_le_of_lt (Nat.le_add_left _ _) hlt)];have e2:x |||y <<< (8*i)=x+y <<< (8*i):=by
  rw[Nat.or_comm,Nat.add_comm,<-Nat.shiftLeft_add_eq_or_of_lt h1]
 rw[e2];exact bV (by simp only[m5];omega) (by simp only[nF];omega)
theorem Mg{b:Nat->Int}:∀ {k o:Nat},Q2 b o (k+1)=Q2 b o k+b (o+k)*256 ^ k
 |0,o=>by
  show b o+256*0=0+b (o+0)*1;rw[Nat.add_zero];omega
 |k+1,o=>by
  show b o+256*Q2 b (o+1) (k+1)=(b o+256*Q2 b (o+1) k)+b (o+(k+1))*256 ^ (k+1);rw[Mg (k:=k) (o:=o+1),Int.pow_succ,show o+1+k=o+(k+1) by omega,Int.mul_add,<-qz1,Int.mul_comm 256 (b (o+(k+1))),qz1,Int.mul_comm 256 (256 ^ k)];omega
theorem W5{b:Nat->Int}{k o:Nat} (hb:∀ i,i<k->0<=b (o+i)/\b (o+i)<=255):0<=Q2 b o k/\Q2 b o k<256 ^ k:=by
 induction k generalizing o with
 |zero=>exact⟨Int.le_refl _,(by omega:(0:Int)<1)⟩
 |succ k ih=>
  have h0:=hb 0 (by omega);rw[Nat.add_zero]at h0;have:=ih (o:=o+1) fun i hi=>by
   have:=hb (i+1) (by omega)
   rwa [show o+(i+1)=o+1+i by omega]at this
  show 0<=b o+256*Q2 b (o+1) k/\b o+256*Q2 b (o+1) k<256 ^ (k+1);rw[Int.pow_succ];omega
section
variable {ρ:Env} {b:Nat→Int}
theorem Q1{o:Nat}:∀ {k:Nat},k<=4->(∀ i,i<k->(Nl (o+i)).den ρ=b (o+i)/\0<=b (o+i)/\b (o+i)<=255)->(rdP o k).den ρ=Q2 b o k
 |0,_,_=>rfl
 |k+1,hk,h=>by
  have ih:=Q1 (k:=k) (by omega) fun i hi=>h i (by omega)
  obtain⟨h1,h2,h3⟩:=h k (by omega);show gU 1 .u32 ((rdP o k).den ρ) ((Nl (o+k)).den ρ*((256 ^ k:Nat):Int))=_;rw[ih,h1,acb,ab6 k (W5 fun i hi=>(h i (by omega)).2) (by omega) (by omega),Mg]
theorem Q0:∀ {k o:Nat},(∀ i,i<k+1->(Nl (o+i)).den ρ=b (o+i))->(rdD o k).den ρ=Q2 b o (k+1)
 |0,o,h=>by
  show(Nl o).den ρ=b o+256*0;rw[show(Nl o).den ρ=b o from h 0 (by omega)];omega
 |k+1,o,h=>by
  have ih:=Q0 (k:=k) (o:=o+1) fun i hi=>by
   have:=h (i+1) (by omega)
   rwa [show o+(i+1)=o+1+i by omega]at this
  show 256*(rdD (o+1) k).den ρ+(Nl o).den ρ=b o+256*Q2 b (o+1) (k+1);rw[ih,show(Nl o).den ρ=b o from h 0 (by omega)];omega
end
section
variable {ρ0:Env} {S:KS} {q:QS}
theorem FX(hO:S.Ok ρ0 q)(hs:q.s=2){i:Nat}(hi:i<16):(Nl i).den (af ρ0 S)=S.byte i:=by
 have h:=hO.byte hs i hi;refine IZ ?_ h;show(af ρ0 S).v (161+i)=S.lx (1+i);rw[show 161+i=160+(1+i) by omega,abG ρ0 S (by omega)]
theorem DQ(hO:S.Ok ρ0 q)(hs:q.s=2){π:Pl}:∀ {n i:Nat},i+n<=16->V.ae (af ρ0 S) π (UN i n)=((yA (161+i) n).map (X.den (af ρ0 S))).map (Value.int .u8)
 |0,_,_=>rfl
 |n+1,i,h=>by
  have ih:=DQ hO hs (π:=π) (n:=n) (i:=i+1) (by omega);show Value.int .u8 ((Nl i).den (af ρ0 S))::V.ae (af ρ0 S) π (UN (i+1) n)=Value.int .u8 ((af ρ0 S).v (161+i))::_;rw[ih,FX hO hs (by omega)];congr 2;rw[show 161+i=160+(1+i) by omega,abG ρ0 S (by omega)];rfl
theorem Kn(hO:S.Ok ρ0 q)(hs:q.s=2){π π':Pl}:V.ae (af ρ0 S) π (eK (fX 0).lx)=V.ae (af ρ0 S) π' lnW:=by
 rw[tB];show _=Value.int .u32 0::.int .i64 ((af ρ0 S).v 160)::V.ae (af ρ0 S) π' (UN 0 16);rw[DQ hO hs (by omega)];rfl
theorem Mi{st:St}{a wv:V} (hp:ai (af ρ0 S) st.pc) (h:W4 st a wv=true) (hcom:(S.hw ρ0).h.cause=0->(S.acc ρ0).Ok 16):∃ k:Nat,(k=1\/k=2\/k=4)/\[a,wv]=[u32 np,i64 (nl k)]/\(S.hw ρ0).h.cause=0/\(S.acc ρ0).w=k/\1<=(S.acc ρ0).k/\(S.acc ρ0).k<=5:=by
 unfold W4 at h;split at h;rotate_left
 ·cases h
 rename_i k hk;have hk3:=C0 hk;split at h;rotate_left
 ·cases h
 rename_i h1;split at h;rotate_left
 ·cases h
 rename_i h2;have h1:=V.aR _ _ h1;have hc:=nB hp h2;refine⟨k,hk3,h1,hc,?_⟩;have ld:ck st.pc (M7 k)=true->(S.acc ρ0).w=k/\1<=(S.acc ρ0).k/\(S.acc ρ0).k<=5:=fun h=>by
  obtain⟨_,e1,e2⟩:=p8 hp h hk3 hcom;exact⟨e2,by omega,by omega⟩
 unfold rdW at h;split at h
 ·split at h
  ·exact ld (by assumption)
  ·have e:=bQ hp (show ck st.pc [(.eq (tc 1 0) (.lit 3),true)]=true by assumption) _ (qq1 ..);have e:(X.eq (tc 1 0) (nl 3)).tt (af ρ0 S)=true:=e;rw[dk (m:=((S.acc ρ0).k:Int)) rfl]at e;have e:=of_decide_eq_true e;have:=(hcom hc).w4 (by omega) (by omega);omega
  ·have e:=bQ hp h _ (qq1 ..);have e:(X.le (.lit 50) (tc 1 4)).tt (af ρ0 S)=true:=e;rw[cT]at e;have e:(50:Int)<=((S.acc ρ0).op:Nat):=of_decide_eq_true e;have h5:(S.acc ρ0).k=5:=by
    by_cases h5:(S.acc ρ0).k=5
    ·exact h5
    ·have:=(hcom hc).op h5;omega
   have:=(hcom hc).w4 (by omega) (by omega);omega
 ·exact ld h
structure SetIs (st:St) (s:Nat):Prop where
 c19:st.h.get 19=some (.cells (AK (C9 (fX 0).wf 23) (C9 (fX 0).gf 24)) nZ.cache none)
 c18:st.h.get 18=some (.cells [.slice 17 0 1 (.known 1),i64 (.lit 1)] T7 none)
 c17:st.h.get 17=some (.cells [qI s 25] nZ.set none)
 c23:st.h.get 23=some (.opt (fX 0).wf [u32 (.lit 0),.bool (fX 0).wx] nZ.asked)
 c24:st.h.get 24=some (.opt (fX 0).gf (eK (fX 0).gl) nZ.line)
 c25:(s=0)\/(s=1/\st.h.get 25=some (.cells ln0 nZ.line (some 18)))\/(s=2/\st.h.get 25=some (.cells (eK (fX 0).lx) nZ.line (some 18)))
theorem MD{st:St}{s:Nat}(h:setAt nZ T7 st=some s):SetIs st s:=by
 unfold setAt at h;split at h;rotate_left
 ·cases h
 rename_i v e hg;dsimp only at h;split at h;rotate_left
 ·cases h
 rename_i hc;have e:=qqz h;rw[e]at hc;have hs2:s=0\/s=1\/s=2:=by
  rw[<-e];split
  ·exact .inl rfl
  ·exact .inr (.inl rfl)
  ·exact .inr (.inr rfl)
 obtain⟨h1,h2,h3,h4,h5,h6⟩:=ar hc;refine⟨gi h1,gi h2,gi h3,gi h4,gi h5,?_⟩;rcases hs2 with e|e|e
 ·exact .inl e
 ·rw[e]at h6;exact .inr (.inl ⟨e,gi h6⟩)
 ·rw[e]at h6;exact .inr (.inr ⟨e,gi h6⟩)
theorem Vu{k:Nat}(hk:k=1\/k=2\/k=4) (hw:(S.acc ρ0).w=k) (hb:∀ i,i<k->0<=S.byte ((S.acc ρ0).ad.toNat+i)/\S.byte ((S.acc ρ0).ad.toNat+i)<=255):S.has ρ0=Q2 S.byte (S.acc ρ0).ad.toNat k:=by
 have h:=W5 hb;unfold KS.has;rw[hw];have:(256:Int) ^ k<=4294967296:=by
  rcases hk with e|e|e<;>rw[e]<;>decide
 omega
theorem Mf{s:Nat}{x:X} (h:s=2->x.den (af ρ0 S)=S.has ρ0) (π π':Pl):(Ml s).ab (af ρ0 S) π=(rdL s x).ab (af ρ0 S) π':=by
 match s with
 |0=>rfl
 |1=>rfl
 |2=>
  show Value.tuple #[.int .u32 (S.has ρ0),.int .i64 0]=Value.tuple #[.int .u32 (x.den (af ρ0 S)),.int .i64 0];rw[h rfl]
 |_+3=>rfl
section
variable {c:Cx} {W:World} (hro:aZ ρ0.ro) (hW:∀ x∈aj,W.heap[x.1]?=some (ρ0.ro x.1))
include hro hW
theorem acm(hng:c.ng=7)(hO:S.Ok ρ0 q):lq c (af ρ0 S) 131 (Xo nZ T7 q.s):=by
 intro args st v st' hs hthere S1 π0 w ac n hh ha;unfold Xo at hs;split at hs;rotate_left
 ·simp[R.ag]at hs
 rename_i a wv;split at hs;rotate_left
 ·simp[R.ag]at hs
 rename_i s h1 h2;split at hs;rotate_left
 ·simp[R.ag]at hs
 rename_i hsq;obtain rfl:=qqq hsq;obtain⟨k,hk3,hav,hc,hwk,hk1,hk5⟩:=Mi hh.pc h1 fun hc=>cC hro hW hO.hw hc
 have haO:(S.acc ρ0).Ok 16:=cC hro hW hO.hw hc;have hat:=haO.at_ hk1 hk5;rw[hwk]at hat;have hal:=oc hat.1;have had0:=haO.ad.1;have hsO:=hO.s;have T:=MD h2;simp only[sJ,R.ag,qqk,qqv]at hs;obtain⟨rfl,rfl⟩:=hs;generalize ho:(S.acc ρ0).ad.toNat=o at *;have hoz:(S.acc ρ0).ad=(o:Int):=by omega
 have hd0:np.den (af ρ0 S)=(o:Int):=by rw[<-hoz];exact fU rfl haO.ad
 have hsm:q.s∈[0,1,2]:=by simp only[List.mem_cons,qk6,or_false];omega
 have hmul:∃ i,o=k*i/\i<16 / k:=⟨o / k,by
  rcases hk3 with e|e|e<;>subst e<;>omega,by
  rcases hk3 with e|e|e<;>subst e<;>omega⟩
 obtain⟨i,hi1,hi2⟩:=hmul;have hchk:cw (Sd q.s (.any 20) (.any 21)) (eA cxB 131 (pRd q.s o k)) (.ok (rdL q.s (rdP o k)))=true:=by
  rw[hi1];rcases hk3 with e|e|e<;>subst e
  ·exact og (a8 atO _ hsm) (show i<16 from hi2)
  ·exact og (a8 atP _ hsm) (show i<8 from hi2)
  ·exact og (a8 atQ _ hsm) (show i<4 from hi2)
 obtain⟨lf,l1,l2,l3,l4⟩:=g9 (ρ:=af ρ0 S) hchk rfl;let us:List (Nat×V):=[(20,C9 (fX 0).wf 23),(21,C9 (fX 0).gf 24)]
 have hre:∀ (r':Nat->Nat),(∀ j,j<100->r' j=eD [] j)->∀ π j,j<20\/j=25->fw us r' (af ρ0 S) π j=π j:=fun r' hr' π j hj=>by
  have:jt us j=none:=by
   show(if 20=j then _ else if 21=j then _ else none)=none;rw[if_neg (by omega),if_neg (by omega)]
  rw[dC this,hr' j (by omega)];rfl
 have hval:q.s=2->(rdP o k).den (af ρ0 S)=S.has ρ0:=fun h2=>by
  have hb:∀ i,i<k->(Nl (o+i)).den (af ρ0 S)=S.byte (o+i)/\0<=S.byte (o+i)/\S.byte (o+i)<=255:=fun i hi=>⟨FX hO h2 (by omega),hO.byte h2 (o+i) (by omega)⟩
  rw[Q1 (by omega) hb,Vu hk3 hwk (by rw[ho];exact fun i hi=>(hb i hi).2),ho]
 refine u7 (ρ:=af ρ0 S) (ρ':=af ρ0 S) (cx0:=cxB) hng dh dV rfl yu rfl hro Tryz.func131 (us:=us) (r:=[]) (p:=pRd q.s o k) rfl ?_ (fun i j _ _ e=>e) (fun g hg=>⟨rfl,?_⟩) hthere ?_ ?_ ai.eL (fun π=>?_) l1 (fun y hy=>by rw[l3];exact hy) l4 (fun π=>?_) hh ha
 ·have key:∀ s,s=0\/s=1\/s=2->(s=q.s)->Ue (af ρ0 S) (af ρ0 S) us [] st (Sd s (.any 20) (.any 21)):=by
   intro s hs3 hsq i o0 hi;rw[<-hsq]at T;have c19:∀ {ns:List Nat},dU 7 ns (ak.cells [i64 (va 42),.ptr 18 0,.any 20,.any 21] nZ.cache none).iB=true->(i,o0)=(19,ak.cells [i64 (va 42),.ptr 18 0,.any 20,.any 21] nZ.cache none)->jt us i=none/\i<100/\o0.bg=false/\dU 7 ns o0.iB=true/\∃ o,st.h.get (eD [] i)=some o/\o.bg=false/\∀ (r':Nat->Nat),(∀ j,j<100->r' j=eD [] j)->∀ π ob,(o.is (af ρ0 S) π (eD [] i) ob↔o0.is (af ρ0 S) (fw us r' (af ρ0 S) π) i ob):=by
    intro ns hk e;injection e with e1 e2;subst e1 e2;refine⟨rfl,by omega,rfl,hk,_,T.c19,rfl,cD (r:=[]) rfl (by omega) fun r' hr' π=>?_⟩;show[Value.int .i64 ((af ρ0 S).v 42),.pointer (some ⟨(π 18).1,0,none⟩),(C9 (fX 0).wf 23).ab (af ρ0 S) π,(C9 (fX 0).gf 24).ab (af ρ0 S) π]=[Value.int .i64 ((af ρ0 S).v 42),.pointer (some ⟨(fw us r' (af ρ0 S) π 18).1,0,none⟩),(C9 (fX 0).wf 23).ab (af ρ0 S) π,(C9 (fX 0).gf 24).ab (af ρ0 S) π];rw[hre r' hr' π 18 (by omega)]
   have c18:∀ {ns:List Nat},dU 7 ns (ak.cells [.slice 17 0 1 (.known 1),i64 (.lit 1)] T7 none).iB=true->(i,o0)=(18,ak.cells [.slice 17 0 1 (.known 1),i64 (.lit 1)] T7 none)->jt us i=none/\i<100/\o0.bg=false/\dU 7 ns o0.iB=true/\∃ o,st.h.get (eD [] i)=some o/\o.bg=false/\∀ (r':Nat->Nat),(∀ j,j<100->r' j=eD [] j)->∀ π ob,(o.is (af ρ0 S) π (eD [] i) ob↔o0.is (af ρ0 S) (fw us r' (af ρ0 S) π) i ob):=by
    intro ns hk e;injection e with e1 e2;subst e1 e2;refine⟨rfl,by omega,rfl,hk,_,T.c18,rfl,cD (r:=[]) rfl (by omega) fun r' hr' π=>?_⟩;show[Value.slice (some ⟨(π 17).1,0,none⟩) 1 1,.int .i64 1]=[Value.slice (some ⟨(fw us r' (af ρ0 S) π 17).1,0,none⟩) 1 1,.int .i64 1];rw[hre r' hr' π 17 (by omega)]
   have c17:∀ {ns:List Nat},dU 7 ns (ak.cells [qI s 25] nZ.set none).iB=true->(i,o0)=(17,ak.cells [qI s 25] nZ.set none)->jt us i=none/\i<100/\o0.bg=false/\dU 7 ns o0.iB=true/\∃ o,st.h.get (eD [] i)=some o/\o.bg=false/\∀ (r':Nat->Nat),(∀ j,j<100->r' j=eD [] j)->∀ π ob,(o.is (af ρ0 S) π (eD [] i) ob↔o0.is (af ρ0 S) (fw us r' (af ρ0 S) π) i ob):=by
    intro ns hk e;injection e with e1 e2;subst e1 e2;refine⟨rfl,by omega,rfl,hk,_,T.c17,rfl,cD (r:=[]) rfl (by omega) fun r' hr' π=>?_⟩;have h25:=hre r' hr' π 25 (by omega);show[(qI s 25).ab (af ρ0 S) π]=[(qI s 25).ab (af ρ0 S) (fw us r' (af ρ0 S) π)];rcases hs3 with e|e|e<;>subst e<;>simp only[qI,V.ab,Cp.ab,h25]
   have hi:(i,o0)∈(19,ak.cells [i64 (va 42),.ptr 18 0,.any 20,.any 21] nZ.cache none)::(18,ak.cells [.slice 17 0 1 (.known 1),i64 (.lit 1)] T7 none)::(17,ak.cells [qI s 25] nZ.set none)::i25 s:=hi;rcases List.mem_cons.1 hi with hi|hi
   ·exact c19 (by rcases hs3 with e|e|e<;>subst e<;>kernel_rfl) hi
   rcases List.mem_cons.1 hi with hi|hi
   ·exact c18 (by rcases hs3 with e|e|e<;>subst e<;>kernel_rfl) hi
   rcases List.mem_cons.1 hi with hi|hi
   ·exact c17 (by rcases hs3 with e|e|e<;>subst e<;>kernel_rfl) hi
   rcases T.c25 with e|⟨e,hg⟩|⟨e,hg⟩
   ·rw[e]at hi;cases hi
   ·subst e;have hi:=qq4.1 hi;injection hi with e1 e2;subst e1 e2;exact⟨rfl,by omega,rfl,by kernel_rfl,_,hg,rfl,cD (r:=[]) rfl (by omega) fun r' hr' π=>rfl⟩
   ·subst e;have hi:=qq4.1 hi;injection hi with e1 e2;subst e1 e2;exact⟨rfl,by omega,rfl,by kernel_rfl,_,hg,rfl,cD (r:=[]) rfl (by omega) fun r' hr' π=>Kn hO hsq.symm⟩
  exact key q.s (by omega) rfl
 ·rcases(show g=0\/g=1\/g=2\/g=3\/g=4\/g=5\/g=6 by omega)with rfl|rfl|rfl|rfl|rfl|rfl|rfl<;>rfl
 ·intro i v h;have h:(if 20=i then some (C9 (fX 0).wf 23)else if 21=i then some (C9 (fX 0).gf 24)else none)=some v:=h;split at h
  ·obtain rfl:=qqz h;exact⟨by omega,_,by simp[AK],.inl ⟨_,_,_,T.c19⟩⟩
  ·split at h
   ·obtain rfl:=qqz h;exact⟨by omega,_,by simp[AK],.inl ⟨_,_,_,T.c19⟩⟩
   ·cases h
 ·have:∀ s,s=0\/s=1\/s=2->dU 7 (eJ (pRd s o k).items++ma us) (V.gz (pRd s o k).args)=true:=by
   intro s hs;rcases hs with e|e|e<;>subst e<;>rfl
  exact this q.s (by omega)
 ·show Value.pointer (some ⟨(π 19).1,0,none⟩)::V.ae (af ρ0 S) π [a,wv]=[Value.pointer (some ⟨(fw us (eD []) (af ρ0 S) π 19).1,0,none⟩),.int .u32 (o:Int),.int .i64 (k:Int)];rw[hav,hre (eD []) (fun _ _=>rfl) π 19 (by omega)];show _::[Value.int .u32 (np.den (af ρ0 S)),.int .i64 (k:Int)]=_;rw[hd0]
 ·rw[l2];exact Mf hval _ _
end
end
end Go.Proofs.YtgcbnjpeifigaaaGreatDoor
