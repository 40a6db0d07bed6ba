/- CorePlay's loop over acts: what a round leaves holds what the next round wants. CorePlay's loop over acts: what a round leaves holds what the next round wants (the stores, the bytes, the reservation). CorePlay: what is told of an instruction (Act). No condition. -/
import Derived.Test.YtgcbnjpeifigaaaGreatDoorJEn
import Derived.Test.YtgcbnjpeifigaaaGreatDoorJBo
namespace Go.Proofs.YtgcbnjpeifigaaaGreatDoor
open Go Go.Proofs
theorem o5:∀ {l m:List X},tY l m=true->l=m
 |[],[],_=>rfl
 |a::l,b::m,h=>by
  unfold tY at h;split at h
  ·rename_i h1;rw[X.beq_eq h1,o5 h]
  ·cases h
 |[],_::_,h=>by simp[tY]at h
 |_::_,[],h=>by simp[tY]at h
theorem mP:∀ {n o:Nat},(yA o n).length=n
 |0,_=>rfl
 |n+1,o=>by
  show(yA (o+1) n).length+1=n+1;rw[mP]
theorem yB{ρ:Env}:∀ {n o i:Nat},i<n->aS ρ (yA o n) i=ρ.v (o+i)
 |0,_,_,h=>by omega
 |n+1,o,0,_=>rfl
 |n+1,o,i+1,h=>by
  have:=yB (ρ:=ρ) (n:=n) (o:=o+1) (i:=i) (by omega);show aS ρ (yA (o+1) n) i=_;rw[this,show o+1+i=o+(i+1) by omega]
theorem Rj{ρ:Env}{f:Nat}:∀ {n o i:Nat},i<n->aS ρ (Dz f o n) i=ρ.f1 (300+f) ((o+i:Nat):Int)
 |0,_,_,h=>by omega
 |n+1,o,0,_=>rfl
 |n+1,o,i+1,h=>by
  have:=Rj (ρ:=ρ) (f:=f) (n:=n) (o:=o+1) (i:=i) (by omega);show aS ρ (Dz f (o+1) n) i=_;rw[this,show o+1+i=o+(i+1) by omega]
theorem MU{f:Nat}:∀ {n o:Nat},(Dz f o n).length=n
 |0,_=>rfl
 |n+1,o=>by
  show(Dz f (o+1) n).length+1=n+1;rw[MU]
theorem kR{ρ:Env}{l m:List X}{i:Nat}:aS ρ (l++m) i=if i<l.length then aS ρ l i else aS ρ m (i-l.length):=by
 unfold aS;rw[List.map_append];split
 ·rename_i h;rw[qk1 (by simpa using h)]
 ·rename_i h;rw[qz0 (by simpa using h),qz8]
theorem VA{ρ0:Env}{S S':KS}(h:∀ i,i<34->S'.hx i=S.hx i):S'.hw ρ0=S.hw ρ0:=by
 unfold KS.hw;rw[h 0 (by omega),h 33 (by omega)];have:(List.range 32).map (fun i=>S'.hx (i+1))=(List.range 32).map fun i=>S.hx (i+1):=qz5 fun i hi=>h _ (by have:=List.mem_range.1 hi;omega)
 rw[this]
theorem am3{ρ0:Env}{S:KS}:(S.hw ρ0).w<4294967296:=by
 show(IntKind.u32.wrap _).toNat<4294967296;rw[Rr];omega
theorem R8{k:gM}(hk:k.Ok):(⟨k.id,k.cell 1,(List.range 32).map fun i=>k.cell (i+2),k.cell 34⟩:gM)=k:=by
 obtain⟨id,pc,regs,cause⟩:=k;have hl:regs.length=32:=hk.len;have e:(List.range 32).map (fun i=>gM.cell ⟨id,pc,regs,cause⟩ (i+2))=regs:=by
  refine List.ext_getElem (by simp[hl]) fun i h1 h2=>?_
  simp only[qz9,List.getElem_range];show(if i<32 then(regs[i]?).getD 0 else cause)=_;rw[if_pos (by omega),qq0 h2];rfl
 rw[e];rfl
theorem oc{a:Int}{w:Int}(h:a.tmod w=0):a % w=0:=by
 have:=Int.dvd_of_tmod_eq_zero h;exact Int.emod_eq_zero_of_dvd this
section
variable {ρ0:Env} {S:KS} {q:QS}
theorem nB{pc:PC} (hp:ai (af ρ0 S) pc) (h:ck pc VD=true):(S.hw ρ0).h.cause=0:=by
 have:=bQ hp h (.eq (.var 134) (.lit 0),true) (qq1 ..);have:(X.eq (.var 134) (.lit 0)).tt (af ρ0 S)=true:=this;rw[bZ]at this;have:=eq_of_beq this;exact this
variable {W:World} (hro:aZ ρ0.ro) (hW:∀ x∈aj,W.heap[x.1]?=some (ρ0.ro x.1))
include hro hW
theorem NM(hO:S.Ok ρ0 q) (hc:(S.hw ρ0).h.cause=0):0<=(S.fwd ρ0).1/\(S.fwd ρ0).1<=4294967295:=by
 have ha:=cC hro hW hO.hw hc;have hw:(acc (S.hw ρ0)).w<=4:=by
  have h1:=ha.k;rcases qkz (acc (S.hw ρ0)).k 1 with h|h
  ·have:=(ha.none (.inl (by omega))).1;omega
  ·by_cases h6:(acc (S.hw ρ0)).k=6
   ·have:=(ha.none (.inr h6)).1;omega
   ·rcases qkz (acc (S.hw ρ0)).k 3 with h3|h3
    ·have:=ha.w h (by omega);omega
    ·have:=ha.w4 h3 (by omega);omega
 have go:∀ n,0<=(po S.sx (acc (S.hw ρ0)).ad (acc (S.hw ρ0)).w n).1/\(po S.sx (acc (S.hw ρ0)).ad (acc (S.hw ρ0)).w n).1<=4294967295:=by
  intro n;induction n with
  |zero=>
   show(0:Int)<=0/\(0:Int)<=4294967295;omega
  |succ n ih=>
   unfold po;split
   ·split
    ·split
     ·exact⟨by decide,by decide⟩
     ·split
      ·exact⟨by decide,by decide⟩
      ·have hz:((acc (S.hw ρ0)).w:Int).toNat=(acc (S.hw ρ0)).w:=by omega
       rw[hz];dsimp only;have hpos:(0:Int)<256 ^ (acc (S.hw ρ0)).w:=Int.pow_pos (by decide);have h1:=Int.emod_nonneg (S.sx (3*n+2) / 256 ^ ((acc (S.hw ρ0)).ad-S.sx (3*n)).toNat) (Int.ne_of_gt hpos);have h2:=Int.emod_lt_of_pos (S.sx (3*n+2) / 256 ^ ((acc (S.hw ρ0)).ad-S.sx (3*n)).toNat) hpos;have h3:(256:Int) ^ (acc (S.hw ρ0)).w<=4294967296:=by
        generalize (acc (S.hw ρ0)).w=w at hw;obtain rfl|rfl|rfl|rfl|rfl:w=0\/w=1\/w=2\/w=3\/w=4:=by omega
        all_goals decide
       omega
    ·exact ih
   ·exact ih
 exact go S.n
omit hro hW in
theorem Gv:0<=S.has ρ0/\S.has ρ0<=4294967295:=by
 unfold KS.has;omega
theorem amJ(hO:S.Ok ρ0 q) (hc:(S.hw ρ0).h.cause=0) {f:Nat} (hf:f=10\/f=11\/f=12\/f=14):∃ k:gM,k.Ok/\k.id=ρ0.v 42/\∀ i,i<=34->(af ρ0 S).f1 (300+f) (i:Nat)=k.cell i:=by
 have go:∀ {x:Int} {ok:Bool},0<=x/\x<=4294967295->(∀ i,i<=34->(af ρ0 S).f1 (300+f) (i:Nat)=De (se (S.hw ρ0) x ok) i)->∃ k:gM,k.Ok/\k.id=ρ0.v 42/\∀ i,i<=34->(af ρ0 S).f1 (300+f) (i:Nat)=k.cell i:=by
  intro x ok hx h;have hs:=sT hro hW hO.hw hc (x:=x) (ok:=ok) hx;refine⟨_,hs.hart,hs.id,fun i hi=>?_⟩;rw[h i hi];unfold De;rw[if_pos hi]
 rcases hf with rfl|rfl|rfl|rfl
 ·exact go (x:=0) (ok:=false) (by omega) fun i _=>rfl
 ·exact go (x:=(S.fwd ρ0).1) (ok:=false) (NM hro hW hO hc) fun i _=>rfl
 ·exact go (x:=S.has ρ0) (ok:=false) Gv fun i _=>rfl
 ·exact go (x:=0) (ok:=true) (by omega) fun i _=>rfl
theorem NQ(hO:S.Ok ρ0 q){pc:PC} (hp:ai (af ρ0 S) pc) {d:Ds} {n:Nat} {ix:X} {h:Nat} (hh:Ph d.hx=h) (h0:h≠0) (hg:2<h->ck pc VD=true):((d.ks (af ρ0 S) n ix).hw ρ0).Ok/\d.hx.length=34:=by
 have hx1:∀ i,i<34->aS (af ρ0 S) (yA 101 34) i=S.hx i:=fun i hi=>by rw[yB hi,VO ρ0 S hi]
 unfold Ph at hh;split at hh
 ·rename_i h1;have e:=o5 h1;refine⟨?_,by rw[e,mP]⟩;rw[VA (S:=S) fun i hi=>by show aS _ d.hx i=_;rw[e,hx1 i hi]];exact hO.hw
 ·rename_i h1 _;have e:=o5 h1;have h33:∀ i,i<33->aS (af ρ0 S) d.hx i=S.hx i:=fun i hi=>by
   rw[e,kR,mP,if_pos hi,yB hi,VO ρ0 S (by omega)]
  have h34:aS (af ρ0 S) d.hx 33=4:=by
   rw[e,kR,mP,if_neg (by omega)];rfl
  refine⟨?_,by rw[e,qq9,mP];rfl⟩;have hk:=hO.hw.h;refine⟨⟨hk.id,?_,by simp[KS.hw],?_,?_,?_⟩,am3⟩
  ·show 0<=aS _ d.hx 0/\aS _ d.hx 0<=_;rw[h33 0 (by omega)];exact hk.pc
  ·show ∀ z∈(List.range 32).map (fun i=>aS (af ρ0 S) d.hx (i+1)),_;intro z hz;obtain⟨i,hi,rfl⟩:=qzx.1 hz;have hi:=List.mem_range.1 hi;rw[h33 _ (by omega)];exact hk.regs _ (qzx.2 ⟨i,List.mem_range.2 hi,rfl⟩)
  ·have:=hk.zero;simp only[KS.hw,qk5]at this ⊢;show Option.map (fun i=>aS (af ρ0 S) d.hx (i+1)) (List.range 32)[0]?=_;rw[show(List.range 32)[0]?=some 0 from rfl]at this ⊢;simp only[Option.map_some,qqk]at this ⊢;rw[h33 _ (by omega)];exact this
  ·show 0<=aS _ d.hx 33/\aS _ d.hx 33<=4;rw[h34];omega
 ·have Dy:∀ f,(f=10\/f=11\/f=12\/f=14)->2<h->tY d.hx (Dz f 1 34)=true->((d.ks (af ρ0 S) n ix).hw ρ0).Ok/\d.hx.length=34:=by
   intro f hf h2 h1;have e:=o5 h1;have hc:=nB hp (hg h2);obtain⟨k,hk,hid,hcell⟩:=amJ hro hW hO hc hf;have hv:∀ i,i<34->aS (af ρ0 S) d.hx i=k.cell (1+i):=fun i hi=>by
    rw[e,Rj hi,hcell _ (by omega)]
   refine⟨⟨?_,am3⟩,by rw[e,MU]⟩;have:((d.ks (af ρ0 S) n ix).hw ρ0).h=k:=by
    rw[<-R8 hk];show(⟨ρ0.v 42,aS (af ρ0 S) d.hx 0,(List.range 32).map fun i=>aS (af ρ0 S) d.hx (i+1),aS (af ρ0 S) d.hx 33⟩:gM)=_;rw[hid,hv 0 (by omega),hv 33 (by omega)];have:(List.range 32).map (fun i=>aS (af ρ0 S) d.hx (i+1))=(List.range 32).map fun i=>k.cell (i+2):=qz5 fun i hi=>by
     rw[hv _ (by have:=List.mem_range.1 hi;omega),show 1+(i+1)=i+2 by omega]
    rw[this]
   rw[this];exact hk
  split at hh
  ·rename_i h1;exact Dy 10 (by omega) (by omega) h1
  ·rename_i h1 _;exact Dy 11 (by omega) (by omega) h1
  ·rename_i h1 _ _;exact Dy 12 (by omega) (by omega) h1
  ·rename_i h1 _ _ _;exact Dy 14 (by omega) (by omega) h1
  ·exact absurd hh.symm h0
end
theorem fU{ρ:Env}{z:Int}(h:ρ.f1 301 1=z)(hz:0<=z/\z<=4294967295):np.den ρ=z:=Rw (by rw[YP];exact h) hz
theorem oY{ρ:Env}{z:Int}(h:ρ.f1 301 3=z)(hz:0<=z/\z<=4294967295):I0.den ρ=z:=Rw (by rw[YP];exact h) hz
section
variable {ρ0:Env} {S:KS} {q:QS}
variable {W:World} (hro:aZ ρ0.ro) (hW:∀ x∈aj,W.heap[x.1]?=some (ρ0.ro x.1))
include hro hW
theorem Uk(hO:S.Ok ρ0 q) (hc:(S.hw ρ0).h.cause=0) (hk:(S.acc ρ0).k=2):FD (S.acc ρ0).ad (S.acc ρ0).w (S.acc ρ0).v:=by
 have ha:(S.acc ρ0).Ok 16:=cC hro hW hO.hw hc;have hw:=ha.w (by omega) (by omega);have hat:=ha.at_ (by omega) (by omega);have hv:=ha.val hk;refine⟨by omega,ha.ad.1,oc hat.1,hat.2,ha.v.1,?_⟩;rw[show((S.acc ρ0).w:Int).toNat=(S.acc ρ0).w by omega];rcases hw with e|e|e<;>rw[e]at hv ⊢
 ·have:((2 ^ (8*1)-1:Nat):Int)=255:=by decide
  rw[this]at hv;show _<(256:Int) ^ 1;omega
 ·have:((2 ^ (8*2)-1:Nat):Int)=65535:=by decide
  rw[this]at hv;show _<(256:Int) ^ 2;omega
 ·have:((2 ^ (8*4)-1:Nat):Int)=4294967295:=by decide
  rw[this]at hv;show _<(256:Int) ^ 4;omega
omit hro hW in
theorem ry{pc:PC} (hp:ai (af ρ0 S) pc) (h:ck pc (yf (tQ pc))=true) (hcom:(S.hw ρ0).h.cause=0->(S.acc ρ0).Ok 16):(S.hw ρ0).h.cause=0/\(S.acc ρ0).k=2/\(S.acc ρ0).w=tQ pc:=by
 have key:∀ {x:X} {b:Bool},(x,b)∈yf (tQ pc)->x.tt (af ρ0 S)=b:=fun hm=>bQ hp h _ hm
 have htc:∀ {i n:Nat},(X.eq (tc 1 i) (nl n)).tt (af ρ0 S)=decide ((af ρ0 S).f1 301 (i:Nat)=n):=by
  intro i n;rw [bZ];rfl
 have hcz:(X.eq (.var 134) (.lit 0)).tt (af ρ0 S)=true->(S.hw ρ0).h.cause=0:=by
  intro z;rw [bZ] at z;exact eq_of_beq z
 have k0:(af ρ0 S).f1 301 ((0:Nat):Int)=(S.acc ρ0).k:=rfl;have k2:(af ρ0 S).f1 301 ((2:Nat):Int)=(S.acc ρ0).w:=rfl;have hw3:tQ pc=1\/tQ pc=2\/tQ pc=4:=by
  unfold tQ;split
  ·exact .inl rfl
  ·exact .inr (.inl rfl)
  ·exact .inr (.inr rfl)
 have kk:∀ {n:Nat},(X.eq (tc 1 0) (.lit 2)).tt (af ρ0 S)=true->(S.acc ρ0).k=2:=by
  intro _ z;have:=htc (i:=0) (n:=2);rw [show nl 2=X.lit 2 from rfl,z] at this;have:=of_decide_eq_true this.symm;rw [k0] at this;omega
 rcases hw3 with e|e|e<;>rw [e] at key ⊢
 ·refine⟨hcz (key (qq1 ..)),kk (n:=0) (key (by simp [yf])),?_⟩;have z:=key (x:=.eq (tc 1 2) (nl 1)) (b:=true) (by simp [yf]);rw [htc] at z;have:=of_decide_eq_true z;rw [k2] at this;omega
 ·refine⟨hcz (key (qq1 ..)),kk (n:=0) (key (by simp [yf])),?_⟩;have z:=key (x:=.eq (tc 1 2) (nl 2)) (b:=true) (by simp [yf]);rw [htc] at z;have:=of_decide_eq_true z;rw [k2] at this;omega
 ·have hc:=hcz (key (qq1 ..));have h2:=kk (n:=0) (key (by simp [yf]));refine⟨hc,h2,?_⟩;have z1:=key (x:=.eq (tc 1 2) (.lit 1)) (b:=false) (by simp [yf]);have z2:=key (x:=.eq (tc 1 2) (.lit 2)) (b:=false) (by simp [yf]);rw [show X.lit 1=nl 1 from rfl,htc] at z1;rw [show X.lit 2=nl 2 from rfl,htc] at z2;have z1:=of_decide_eq_false z1;have z2:=of_decide_eq_false z2;rw [k2] at z1 z2;have:=(hcom hc).w (by omega) (by omega);omega
omit hro hW in
theorem mN:∀ {n k:Nat},(TY k n).length=3*n
 |0,_=>rfl
 |n+1,k=>by
  show(TY (k+1) n).length+3=3*(n+1);rw[mN];omega
omit hro hW in
theorem O4(hO:S.Ok ρ0 q):∀ {n k i:Nat},k+n<=q.n->i<3*n->aS (af ρ0 S) (TY k n) i=S.sx (3*k+i)
 |0,_,_,_,h=>by omega
 |n+1,k,i,hk,h=>by
  have hle:=hO.le;have hr:=(hO.st k (by omega)).rg
  match i with
  |0=>
   show IntKind.u32.wrap ((af ρ0 S).v (400+3*k))=_;rw[zC ρ0 S (by omega),fy ⟨hr.1.1,hr.1.2⟩];rfl
  |1=>
   show(af ρ0 S).v (401+3*k)=_;rw[show 401+3*k=400+(3*k+1) by omega,zC ρ0 S (by omega)]
  |2=>
   show IntKind.u32.wrap ((af ρ0 S).v (402+3*k))=_;rw[show 402+3*k=400+(3*k+2) by omega,zC ρ0 S (by omega),fy ⟨hr.2.1,hr.2.2⟩]
  |i+3=>
   have:=O4 hO (n:=n) (k:=k+1) (i:=i) (by omega) (by omega);rw[show 3*k+(i+3)=3*(k+1)+i by omega,<-this];rfl
omit hro hW in
theorem nY{pc:PC}:∀ {l m:List X},mT pc l m=true->l.length=m.length
 |[],[],_=>rfl
 |a::l,b::m,h=>by
  unfold mT at h;split at h
  ·rw[List.length_cons,List.length_cons,nY h]
  ·split at h
   ·rw[List.length_cons,List.length_cons,nY h]
   ·cases h
 |[],_::_,h=>by simp[mT]at h
 |_::_,[],h=>by simp[mT]at h
omit hro hW in
theorem wB{ρ:Env}{pc:PC}(hp:ai ρ pc):∀ {l m:List X},mT pc l m=true->∀ i,aS ρ l i=aS ρ m i
 |[],[],_,_=>rfl
 |a::l,b::m,h,i=>by
  have key:a.den ρ=b.den ρ/\mT pc l m=true:=by
   unfold mT at h;split at h
   ·rename_i h1;exact⟨by rw[X.beq_eq h1],h⟩
   ·split at h
    ·rename_i h1;have h1:=mi hp h1;rw[bZ]at h1;exact⟨(eq_of_beq h1).symm,h⟩
    ·cases h
  cases i with
  |zero=>exact key.1
  |succ i=>exact wB hp key.2 i
 |[],_::_,h,_=>by simp[mT]at h
 |_::_,[],h,_=>by simp[mT]at h
omit hro hW in
theorem Ms{f n k:Nat}(hn:n+1<=4)(hk:k<n):(f+k) % 4≠(f+n) % 4:=by omega
theorem OP(hO:S.Ok ρ0 q){pc:PC} (hp:ai (af ρ0 S) pc) {n':Nat} {d:Ds} {ix:X} (hn:n'<=4) (h:W9 pc q.n n' d.rg d.sx≠0):
  d.rg.length=13/\d.sx.length=3*n'/\(0<=(d.ks (af ρ0 S) n' ix).rg 12/\(d.ks (af ρ0 S) n' ix).rg 12<=3) /\
  (∀ k,k<n'->∀ c,c<3->(d.ks (af ρ0 S) n' ix).rg (3*((((d.ks (af ρ0 S) n' ix).rg 12).toNat+k) % 4)+c)=(d.ks (af ρ0 S) n' ix).sx (3*k+c)) /\
  ∀ k,k<n'->FD ((d.ks (af ρ0 S) n' ix).sx (3*k)) ((d.ks (af ρ0 S) n' ix).sx (3*k+1)) ((d.ks (af ρ0 S) n' ix).sx (3*k+2)):=by
 have hfirst:=hO.first
 have hle:=hO.le;show _/\_/\(0<=aS _ d.rg 12/\aS _ d.rg 12<=3)/\(∀ k,k<n'->∀ c,c<3->aS _ d.rg (3*(((aS _ d.rg 12).toNat+k) % 4)+c)=aS _ d.sx (3*k+c))/\∀ k,k<n'->FD (aS _ d.sx (3*k)) (aS _ d.sx (3*k+1)) (aS _ d.sx (3*k+2));have sat:∀ i,i<3*q.n->aS (af ρ0 S) (TY 0 q.n) i=S.sx i:=fun i hi=>by
  have:=O4 hO (n:=q.n) (k:=0) (by omega) hi
  rwa [Nat.mul_zero,qk7]at this
 unfold W9 at h;split at h
 ·rename_i h1;have e:=o5 h1;split at h
  ·rename_i h2;obtain⟨b1,b2,_⟩:=ar h2;obtain rfl:q.n=n':=qqq b1;have e2:=fun i=>wB hp b2 i
   have rat:∀ i,i<13->aS (af ρ0 S) d.rg i=S.rg i:=fun i hi=>by rw[e,yB hi,zA ρ0 S hi]
   refine⟨by rw[e,mP],by rw[nY b2,mN],by rw[rat 12 (by omega)];exact hfirst,fun k hk c hc=>?_,fun k hk=>?_⟩
   ·rw[rat 12 (by omega),rat _ (by omega),e2,sat _ (by omega)];exact hO.ring k hk c hc
   ·rw[e2 (3*k),e2 (3*k+1),e2 (3*k+2),sat _ (by omega),sat _ (by omega),sat _ (by omega)];exact hO.st k hk
  ·exact absurd rfl h
 ·rename_i h1 _;have e:=o5 h1;generalize hw:tQ pc=w at h;dsimp only at h;split at h
  ·rename_i h2;obtain⟨b1,b2,b3,_⟩:=ar h2;have hn':n'=q.n+1:=qqq b1;have e2:=fun i=>wB hp b2 i
   rw[<-hw]at b3;obtain⟨hc,hk2,hkw⟩:=ry hp b3 fun hc=>cC hro hW hO.hw hc
   have hst:=Uk hro hW hO hc hk2;have ha:(S.acc ρ0).Ok 16:=cC hro hW hO.hw hc;have rat:∀ i,i<13->aS (af ρ0 S) d.rg i=nd S.rg S.n (S.acc ρ0).ad (S.acc ρ0).w (S.acc ρ0).v i:=fun i hi=>by rw[e,yB hi,VQ ρ0 S hi]
   have a12:aS (af ρ0 S) d.rg 12=S.rg 12:=by
    rw[rat 12 (by omega)];rfl
   have st1:∀ i,i<3*q.n->aS (af ρ0 S) d.sx i=S.sx i:=fun i hi=>by rw[e2,kR,mN,if_pos hi,sat i hi]
   have hd0:np.den (af ρ0 S)=(S.acc ρ0).ad:=fU rfl ha.ad;have hd2:I0.den (af ρ0 S)=(S.acc ρ0).v:=oY rfl ha.v;have n0:aS (af ρ0 S) d.sx (3*q.n)=(S.acc ρ0).ad:=by
    rw[e2,kR,mN,if_neg (by omega),Nat.sub_self];exact hd0
   have n1:aS (af ρ0 S) d.sx (3*q.n+1)=(S.acc ρ0).w:=by
    rw[e2,kR,mN,if_neg (by omega),qq8,hkw,hw];rfl
   have n2:aS (af ρ0 S) d.sx (3*q.n+2)=(S.acc ρ0).v:=by
    rw[e2,kR,mN,if_neg (by omega),qq8];exact hd2
   refine⟨by rw[e,mP],by rw[nY b2,qq9,mN,hn'];rfl,by rw[a12];exact hfirst,fun k hk c hc=>?_,fun k hk=>?_⟩
   ·rw[a12,rat _ (by omega)];unfold nd;rw[if_neg (by omega),hO.n];by_cases hkn:k=q.n
    ·subst hkn;rw[if_pos (by omega)];obtain rfl|rfl|rfl:c=0\/c=1\/c=2:=by omega
     ·rw[if_pos (by omega),Nat.add_zero,n0]
     ·rw[if_neg (by omega),if_pos (by omega),n1]
     ·rw[if_neg (by omega),if_neg (by omega),n2]
    ·have:=Ms (f:=(S.rg 12).toNat) (n:=q.n) (k:=k) (by omega) (by omega);rw[if_neg (by omega),st1 _ (by omega)];exact hO.ring k (by omega) c hc
   ·by_cases hkn:k=q.n
    ·subst hkn;rw[n0,n1,n2];exact hst
    ·rw[st1 _ (by omega),st1 _ (by omega),st1 _ (by omega)];exact hO.st k (by omega)
  ·exact absurd rfl h
 ·rename_i h1 _ _;have e:=o5 h1;split at h
  ·rename_i h2;obtain⟨b1,b2,_⟩:=ar h2;have hn':q.n=n'+1:=qqq b1;have e2:=fun i=>wB hp b2 i
   have rat:∀ i,i<13->aS (af ρ0 S) d.rg i=qv S.rg i:=fun i hi=>by rw[e,yB hi,VP ρ0 S hi]
   have a12:aS (af ρ0 S) d.rg 12=(S.rg 12+1) % 4:=by
    rw[rat 12 (by omega)];rfl
   have st1:∀ i,i<3*n'->aS (af ρ0 S) d.sx i=S.sx (3+i):=fun i hi=>by
    rw[e2,O4 hO (n:=n') (k:=1) (by omega) hi]
   refine⟨by rw[e,mP],by rw[nY b2,mN],by rw[a12];omega,fun k hk c hc=>?_,fun k hk=>?_⟩
   ·have hm:((((S.rg 12+1) % 4).toNat+k) % 4)=((S.rg 12).toNat+(k+1)) % 4:=by omega
    rw[a12,hm,rat _ (by omega)];unfold qv;rw[if_neg (by omega),if_neg (by omega),st1 _ (by omega),hO.ring (k+1) (by omega) c hc];congr 1;omega
   ·rw[st1 _ (by omega),st1 _ (by omega),st1 _ (by omega)];have:=hO.st (k+1) (by omega);rw[show 3+3*k=3*(k+1) by omega,show 3+(3*k+1)=3*(k+1)+1 by omega,show 3+(3*k+2)=3*(k+1)+2 by omega];exact this
  ·exact absurd rfl h
 ·exact absurd rfl h
omit hro hW in
theorem UP(hO:S.Ok ρ0 q):∀ {x:X},DT (Nat.beq q.s 2) x=true->0<=x.den (af ρ0 S)/\x.den (af ρ0 S)<=255:=by
 intro x;induction x with
 |var i=>
  intro h;unfold DT at h;split at h
  ·cases h
  ·rename_i h2;have h2:=hO.byte (qqq h2);show 0<=(af ρ0 S).v i/\(af ρ0 S).v i<=255;split at h
   ·rename_i k1 k2;have k1:=qqx k1;have k2:=qqx k2;have:=abG ρ0 S (i:=i-160) (by omega);rw[show 160+(i-160)=i by omega]at this;rw[this,show i-160=1+(i-161) by omega];exact h2 (i-161) (by omega)
   ·cases h
 |ite c x y _ ih1 ih2=>
  intro h;unfold DT at h;split at h
  ·rename_i h1;show 0<=(if c.den (af ρ0 S)==0 then y.den (af ρ0 S)else x.den (af ρ0 S))/\(if c.den (af ρ0 S)==0 then y.den (af ρ0 S)else x.den (af ρ0 S))<=255;split
   ·exact ih2 h
   ·exact ih1 h1
  ·cases h
 |_=>exact fun h=>bh h
omit hro hW in
theorem DU(hO:S.Ok ρ0 q):∀ {l:List X},AJ (Nat.beq q.s 2) l=true->∀ i,i<l.length->0<=aS (af ρ0 S) l i/\aS (af ρ0 S) l i<=255
 |[],_,i,hi=>by simp at hi
 |x::l,h,i,hi=>by
  unfold AJ at h;split at h
  ·rename_i h1;cases i with
   |zero=>exact UP hO h1
   |succ i=>exact DU hO h i (by simpa using hi)
  ·cases h
omit hro hW in
theorem Zu(hO:S.Ok ρ0 q){pc:PC} (hp:ai (af ρ0 S) pc) {c x:X} (h:Zt pc c x=true):bp (c.tt (af ρ0 S))≠1->x.den (af ρ0 S)=0:=by
 intro hne;have hct:wX pc c true=true->False:=fun z=>by
  have:=mi hp z;rw[this]at hne;exact hne rfl
 have rf:(fX 0).rf.tt (af ρ0 S)=false->S.ax=0:=fun z=>by
  refine hO.res fun e=>?_
  have:((fX 0).rf).tt (af ρ0 S)=true:=by
   show(X.eq (.var 240) (.lit 1)).tt (af ρ0 S)=true;rw[bZ];show(S.rf==1)=true;rw[e];rfl
  rw[this]at z;cases z
 unfold Zt at h;split at h
 ·rename_i h1;have e:=X.beq_eq h1;have hax:x.den (af ρ0 S)=S.ax:=by rw[e];rfl
  rw[hax];split at h
  ·rename_i h2;have e2:=X.beq_eq h2;refine rf ?_;rw[<-e2];cases hb:c.tt (af ρ0 S)with
   |false=>rfl
   |true=>rw[hb]at hne;exact absurd rfl hne
  ·split at h
   ·rename_i h3;exact rf (mi hp h3)
   ·exact(hct h).elim
 ·split at h
  ·rename_i h2;rw[X.beq_eq h2];rfl
  ·exact(hct h).elim
theorem YR(hO:S.Ok ρ0 q){pc:PC} (hp:ai (af ρ0 S) pc) {q':QS} {d:Ds} (hs:q'.s<=2) (hn:q'.n<=4) (hax:Zt pc d.rf d.ax=true) (h:IY q pc q' d=true):(d.ks (af ρ0 S) q'.n ixN).Ok ρ0 q'/\d.Len q'/\S.ix<ρ0.v 50:=by
 unfold IY at h;split at h
 ·cases h
 ·rename_i hw h0;generalize hh:Ph d.hx=hc at *;obtain⟨a1,a2,a3,a4,a5,a6⟩:=ar h;obtain⟨g1,g2,_⟩:=ar a6;obtain⟨k1,k2⟩:=NQ (ix:=ixN) (n:=q'.n) hro hW hO hp hh (fun e=>h0 e) fun h2=>by
   split at a1
   ·rename_i hb;have:=qqx hb;omega
   ·exact a1
  obtain⟨r1,r2,r3,r4,r5⟩:=OP (ix:=ixN) hro hW hO hp hn (fun e=>by rw[e]at a2;cases a2);have hl17:∀ {l:List X},EA l=true->l.length=17:=fun z=>qqq z
  refine⟨⟨k1,rfl,hn,hs,r3,r4,r5,fun h2 i hi=>?_,Zu hO hp hax⟩,⟨k2,r1,r2,fun h2=>?_,hl17 g1,hl17 g2⟩,?_⟩
  ·rw[h2]at a3 a5;have a3:AJ (Nat.beq q.s 2) (YO d.lx)=true:=a3;have a5:=hl17 a5;show 0<=aS _ d.lx (1+i)/\aS _ d.lx (1+i)<=255;cases hlx:d.lx with
   |nil=>rw[hlx]at a5;cases a5
   |cons x l=>
    rw[hlx]at a3 a5;have:=DU hO a3 i (by simp[YO]at a5 ⊢;omega);rw[Nat.add_comm];exact this
  ·rw[h2]at a5;exact hl17 a5
  ·have:=bQ hp a4 (.lt (.var 100) (.var 50),true) (qq1 ..);have:(X.lt (.var 100) (.var 50)).tt (af ρ0 S)=true:=this;rw[bN]at this;exact of_decide_eq_true this
end
section
variable {ρ:Env} {cx:Cx}
theorem Gt{st':St}{v:V}:∀ {r:R (V×PC)} {st:St},ai ρ st.pc->(sJ r st).ag ρ=some (v,st')->∃ p st1,r.ag ρ=some p/\cG ρ st st1/\v=p.1/\st'={h:=st1.h,n:=st1.n+bm,pc:=p.2++st1.pc}
 |.ok p,st,hp,h=>by
  simp only[sJ,R.ag,qqk,qqv]at h;exact⟨p,st,rfl,.refl hp,h.1.symm,h.2.symm⟩
 |.br c t f,st,hp,h=>by
  unfold sJ at h;obtain⟨st1,hl,h1⟩:=ah hp h;split at h1
  ·rename_i hc;obtain⟨p,st2,h2,h3,h4⟩:=Gt hl.pc h1;exact⟨p,st2,by unfold R.ag;rw[if_pos hc];exact h2,hl.trans h3,h4⟩
  ·rename_i hc;obtain⟨p,st2,h2,h3,h4⟩:=Gt hl.pc h1;exact⟨p,st2,by unfold R.ag;rw[if_neg (by simp[hc])];exact h2,hl.trans h3,h4⟩
 |.stuck _,_,_,h=>by simp[sJ,R.ag]at h
theorem r8{f:FuncId}{fn:Func} (hfn:Tryz.prog.funcs[f]?=some fn) (hng:cx.ng=7) {r:R (V×PC)} {st st':St} {v:V} {args:List V} {a:List Value} {val:Value} (hsel:(sJ r st).ag ρ=some (v,st'))
  (hr:∀ p,r.ag ρ=some p->ai ρ p.2/\(∀ π,p.1.ab ρ π=val)/\(∀ g,p.1.we g=p.1)/\p.1.dA=true) (hc:bI Tryz.prog aj 7 bm ρ.ro f a val) (hargs:∀ π,V.ae ρ π args=a) (hthere:bB aj st.h=true)
  {S:Nat->Prop} {π0:Pl} {w:World} {ac:List Value} {n:Nat} (hh:b8 cx ρ S π0 st w) (ha:bz ρ S π0 args ac):CallsIn Fence.wide n Tryz.prog f ac.toArray w (EPost ρ S π0 st w (.ret v,st')):=by
 obtain⟨p,st1,h1,hl,rfl,rfl⟩:=Gt hh.pc hsel;obtain⟨k1,k2,k3,k4⟩:=hr p h1;have:=hc.post bG hng dS hfn rfl hargs k2 k3 k4 (hh.iw hl) (by rw[hl.h];exact hthere) ha (n:=n);refine this.mono fun e w' hp=>EPost.iw hl ?_
 obtain⟨q1,q2⟩:=hp;exact⟨k1.app q1,q2⟩
theorem dk{x:X}{n:Nat}{m:Int}(h:x.den ρ=m):(X.eq x (nl n)).tt ρ=decide (m=n):=by
 rw [bZ,h];rfl
theorem Rx{α:Type}{g:Nat->R α}{w:Nat} (h2:(tc 1 2).den ρ=w) (hw:w=1\/w=2\/w=4):(wsT g).ag ρ=(g w).ag ρ:=by
 unfold wsT am6;rcases hw with rfl|rfl|rfl
 ·rw[lu (by rw[dk h2];decide)]
 ·rw[eQ (by rw[dk h2];decide),lu (by rw[dk h2];decide)]
 ·rw[eQ (by rw[dk h2];decide),eQ (by rw[dk h2];decide)]
theorem Ez{α:Type}{g:Nat->Nat->R α}{a:Acc}{size:Int}(ha:a.Ok size) (h0:(tc 1 0).den ρ=a.k) (h2:(tc 1 2).den ρ=a.w):(VN g).ag ρ=(g a.k a.w).ag ρ:=by
 have hk:=ha.k;have hw:=ha.w;have hw4:=ha.w4;have hn:=ha.none;unfold VN NT;generalize a.k=k at *;generalize a.w=w at *;obtain rfl|rfl|rfl|rfl|rfl|rfl|rfl:k=0\/k=1\/k=2\/k=3\/k=4\/k=5\/k=6:=by omega
 ·rw[lu (by rw[dk h0];decide),(hn (.inl rfl)).1]
 ·rw[eQ (by rw[dk h0];decide),eQ (by rw[dk h0];decide),lu (by rw[dk h0];decide),Rx h2 (hw (by omega) (by omega))]
 ·rw[eQ (by rw[dk h0];decide),eQ (by rw[dk h0];decide),eQ (by rw[dk h0];decide),lu (by rw[dk h0];decide),Rx h2 (hw (by omega) (by omega))]
 ·rw[eQ (by rw[dk h0];decide),eQ (by rw[dk h0];decide),eQ (by rw[dk h0];decide),eQ (by rw[dk h0];decide),lu (by rw[dk h0];decide),hw4 (by omega) (by omega)]
 ·rw[eQ (by rw[dk h0];decide),eQ (by rw[dk h0];decide),eQ (by rw[dk h0];decide),eQ (by rw[dk h0];decide),eQ (by rw[dk h0];decide),lu (by rw[dk h0];decide),hw4 (by omega) (by omega)]
 ·rw[eQ (by rw[dk h0];decide),eQ (by rw[dk h0];decide),eQ (by rw[dk h0];decide),eQ (by rw[dk h0];decide),eQ (by rw[dk h0];decide),eQ (by rw[dk h0];decide),hw4 (by omega) (by omega)]
 ·rw[eQ (by rw[dk h0];decide),lu (by rw[dk h0];decide),(hn (.inr rfl)).1]
end
section
variable {ρ:Env}
theorem NR{a:X}{z:Int}(hz:a.den ρ=z):∀ {w:Nat} {r:PC},0<=z->z+w<=16->ai ρ r->ai ρ (inF a w r)
 |0,_,_,_,hr=>hr
 |1,_,_,_,hr=>hr
 |w+2,r,h0,h1,hr=>by
  refine ai.gw ?_ (NR hz h0 (by omega) hr);show (bp (decide ((a.den ρ).tmod 16+((w+1:Nat):Int)<16)) != 0)=true;rw [da,hz,qk3 h0];exact decide_eq_true (by omega)
theorem VV{a:X}{z:Int}(hz:a.den ρ=z)(h0:0<=z)(h1:z<16){r:PC}(hr:ai ρ r):ai ρ (lnF a r):=by
 have e:(a.den ρ).tdiv 16=0:=by
  rw[hz,qkk h0];omega
 refine ai.gw ?_ (ai.gw ?_ hr)
 ·show(X.eq (nq (.quo a (.lit 16))) (.lit 0)).tt ρ=true;rw[bZ];show(IntKind.u32.wrap ((a.den ρ).tdiv 16)==0)=true;rw[e];rfl
 ·show(X.eq (.quo a (.lit 16)) (.lit 0)).tt ρ=true;rw[bZ];show((a.den ρ).tdiv 16==0)=true;rw[e];rfl
variable {a:Acc} (ha:a.Ok 16) (ht:∀ i:Nat,i≤6→(tc 1 i).den ρ=a.cell i)
include ha ht
theorem Ps:ai ρ (ajz a.k a.w):=by
 have hk:=ha.k;have had:np.den ρ=a.ad:=fU (ht 1 (by omega)) ha.ad;unfold ajz;split
 ·exact ai.eL
 ·rename_i w hw0;have hk1:1<=a.k/\a.k<=5:=by
   refine⟨?_,?_⟩
   ·rcases qkz a.k 1 with h|h
    ·exact absurd (ha.none (.inl (by omega))).1 hw0
    ·exact h
   ·rcases qkz 5 a.k with h|h
    ·exact absurd (ha.none (.inr (by omega))).1 hw0
    ·exact h
  have hat:=ha.at_ hk1.1 hk1.2;have h0:=ha.ad.1;have hw1:1<=a.w:=by
   rcases qkz a.k 3 with h3|h3
   ·have:=ha.w hk1.1 (by omega);omega
   ·have:=ha.w4 h3 hk1.2;omega
  refine VV had h0 (by omega) (NR had h0 hat.2 (ai.gw ?_ ?_))
  ·show (X.eq (.rem np (nl a.w)) (.lit 0)).tt ρ=true;rw [bZ];show ((np.den ρ).tmod (a.w:Int)==0)=true;rw [had,hat.1];rfl
  ·split
   ·rename_i h5;refine ai.gw ?_ ai.eL;show (bp (decide ((50:Int)<=(tc 1 4).den ρ)) != 0)=true;rw [da,ht 4 (by omega)];have:=(ha.amo h5).1;show decide ((50:Int)<=(a.op:Int))=true;exact decide_eq_true (by omega)
   ·exact ai.eL
theorem DD(π:Pl):(Uj a.k a.w).ab ρ π=.agg a.c.toArray:=by
 have hk:=ha.k;have had:np.den ρ=a.ad:=fU (ht 1 (by omega)) ha.ad;have hvl:I0.den ρ=a.v:=oY (ht 3 (by omega)) ha.v;have e1:(adW a.w).den ρ=a.ad:=by
  unfold adW;split
  ·rename_i hw0;have:a.k=0\/a.k=6:=by
    rcases qkz a.k 1 with h|h
    ·exact .inl (by omega)
    ·rcases qkz a.k 3 with h3|h3
     ·have:=ha.w h (by omega);omega
     ·rcases qkz a.k 6 with h6|h6
      ·have:=ha.w4 h3 (by omega);omega
      ·exact .inr (by omega)
   exact(ha.none this).2.1.symm
  ·exact had
 have e2:(vlK a.k).den ρ=a.v:=by
  unfold vlK;split
  ·rename_i h0;exact(ha.zero h0).symm
  ·exact hvl
 have e3:(opK a.k).den ρ=((a.op:Nat):Int):=by
  unfold opK;split
  ·exact ht 4 (by omega)
  ·rename_i h5;have:=ha.op h5;rw[this];rfl
 have e4:(X.eq (tc 1 5) (.lit 1)).tt ρ=a.aq:=yQ (ht 5 (by omega));have e5:(X.eq (tc 1 6) (.lit 1)).tt ρ=a.rl:=yQ (ht 6 (by omega));unfold Uj Acc.c;simp only[V.ab,V.ae,i64,u32,b1,e1,e2,e3,e4,e5];rfl
end
end Go.Proofs.YtgcbnjpeifigaaaGreatDoor
