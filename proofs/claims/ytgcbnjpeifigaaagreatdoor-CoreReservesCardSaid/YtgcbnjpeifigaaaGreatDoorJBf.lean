/- CorePlay: what is told of Forward, of the program and of the document. CorePlay: what is told of Forward, of the program and of the document: the calls. CorePlay: what is told of teller, of the document's own. CorePlay: what is told of teller. No condition. -/
import Derived.Test.YtgcbnjpeifigaaaGreatDoorJBk1
import Derived.Test.YtgcbnjpeifigaaaGreatDoorJBk2
import Derived.Test.YtgcbnjpeifigaaaGreatDoorJBk
namespace Go.Proofs.YtgcbnjpeifigaaaGreatDoor
open Go Go.Proofs Go.RowKit
section
variable {ρ0:Env} {S:KS} {q:QS}
theorem p8{pc:PC}{w:Nat} (hp:ai (af ρ0 S) pc) (h:ck pc (M7 w)=true) (hw:w=1\/w=2\/w=4) (hcom:(S.hw ρ0).h.cause=0->(S.acc ρ0).Ok 16):(S.hw ρ0).h.cause=0/\(S.acc ρ0).k=1/\(S.acc ρ0).w=w:=by
 have key:∀ {x:X} {b:Bool},(x,b)∈M7 w->x.tt (af ρ0 S)=b:=fun hm=>bQ hp h _ hm
 have htc:∀ {i n:Nat},(X.eq (tc 1 i) (nl n)).tt (af ρ0 S)=decide ((af ρ0 S).f1 301 (i:Nat)=n):=by
  intro i n;rw [bZ];rfl
 have hcz:(X.eq (.var 134) (.lit 0)).tt (af ρ0 S)=true->(S.hw ρ0).h.cause=0:=by
  intro z;rw [bZ] at z;exact eq_of_beq z
 have k0:(af ρ0 S).f1 301 ((0:Nat):Int)=(S.acc ρ0).k:=rfl;have k2:(af ρ0 S).f1 301 ((2:Nat):Int)=(S.acc ρ0).w:=rfl;have kk:(X.eq (tc 1 0) (.lit 1)).tt (af ρ0 S)=true->(S.acc ρ0).k=1:=by
  intro z;have:=htc (i:=0) (n:=1);rw [show nl 1=X.lit 1 from rfl,z] at this;have:=of_decide_eq_true this.symm;rw [k0] at this;omega
 rcases hw with e|e|e<;>rw [e] at key ⊢
 ·refine⟨hcz (key (qq1 ..)),kk (key (by simp [M7])),?_⟩;have z:=key (x:=.eq (tc 1 2) (nl 1)) (b:=true) (by simp [M7]);rw [htc] at z;have:=of_decide_eq_true z;rw [k2] at this;omega
 ·refine⟨hcz (key (qq1 ..)),kk (key (by simp [M7])),?_⟩;have z:=key (x:=.eq (tc 1 2) (nl 2)) (b:=true) (by simp [M7]);rw [htc] at z;have:=of_decide_eq_true z;rw [k2] at this;omega
 ·have hc:=hcz (key (qq1 ..));have h2:=kk (key (by simp [M7]));refine⟨hc,h2,?_⟩;have z1:=key (x:=.eq (tc 1 2) (.lit 1)) (b:=false) (by simp [M7]);have z2:=key (x:=.eq (tc 1 2) (.lit 2)) (b:=false) (by simp [M7]);rw [show X.lit 1=nl 1 from rfl,htc] at z1;rw [show X.lit 2=nl 2 from rfl,htc] at z2;have z1:=of_decide_eq_false z1;have z2:=of_decide_eq_false z2;rw [k2] at z1 z2;have:=(hcom hc).w (by omega) (by omega);omega
theorem C0{v:V}{k:Nat}(h:wOf v=some k):k=1\/k=2\/k=4:=by
 unfold wOf at h;split at h
 ·exact .inl (qqz h).symm
 ·exact .inr (.inl (qqz h).symm)
 ·exact .inr (.inr (qqz h).symm)
 ·cases h
end
section
variable {ρ':Env} {sx rg:Nat→Int} {n:Nat} {a:Int} {w:Nat}
structure Db (sx:Nat->Int) (n:Nat):Prop where
 le:n<=4
 st:∀ k,k<n->FD (sx (3*k)) (sx (3*k+1)) (sx (3*k+2))
theorem Db.ok(h:Db sx n):StsOk sx n:=by
 refine⟨fun k hk=>(h.st k hk).rg.1,fun k hk=>?_,fun k hk=>(h.st k hk).rg.2⟩;have:=(h.st k hk).w;omega
theorem YY(E:EnvB ρ' sx rg)(h:Db sx n):∀ {m:Nat},m<=n->ai ρ' (wdF m)
 |0,_=>ai.eL
 |m+1,hm=>by
  have hw:=sS E h.ok h.le (show m<n by omega);have:=(h.st m (by omega)).w;refine ai.gw ?_ (ai.gw ?_ (YY E h (by omega)))
  ·show(X.le (.lit 1) (WX m)).tt ρ'=true;rw[cT,hw];exact decide_eq_true (show(1:Int)<=_ by omega)
  ·show(X.le (WX m) (.lit 4)).tt ρ'=true;rw[cT,hw];exact decide_eq_true (show _<=(4:Int) by omega)
theorem aa3{V A:X}{v b:Int}{W:Nat}(hV:V.den ρ'=v)(hA:A.den ρ'=b)(ha:aX.den ρ'=a)(hw:w=1\/w=2\/w=4)(hv:0<=v/\v<256 ^ W)(hW:W=1\/W=2\/W=4)(h1:b<=a)(h2:a+w<=b+W):
  (amK w (.shr .u32 V (.wrap .u64 (.mul (.lit 8) (.wrap .u64 (.sub aX A)))))).den ρ'=v / 256 ^ (a-b).toNat % 256 ^ w:=by
 obtain⟨d,hd⟩:=qkv (show 0<=a-b by omega);have hd4:d+w<=W:=by omega
 have e:(X.shr .u32 V (.wrap .u64 (.mul (.lit 8) (.wrap .u64 (.sub aX A))))).den ρ'=yr .u32 v (IntKind.u64.wrap (8*IntKind.u64.wrap (a-b))):=by
  show yr .u32 (V.den ρ') (IntKind.u64.wrap (8*IntKind.u64.wrap (aX.den ρ'-A.den ρ')))=_;rw[hV,hA,ha]
 have hv4:v<=4294967295:=by
  rcases hW with e|e|e<;>rw[e]at hv
  ·have:v<256 ^ 1:=hv.2;omega
  ·have:v<256 ^ 2:=hv.2;omega
  ·have:v<256 ^ 4:=hv.2;omega
 have hd3:d=0\/d=1\/d=2\/d=3:=by omega
 have key:(X.shr .u32 V (.wrap .u64 (.mul (.lit 8) (.wrap .u64 (.sub aX A))))).den ρ'=v / 256 ^ d:=by
  rw[e,hd];rcases hd3 with e|e|e|e<;>rw[e]<;>unfold yr
  ·show v.fdiv 1=v / 1;rw[qk4 _ (by decide)]
  ·show v.fdiv 256=v / 256;rw[qk4 _ (by decide)]
  ·show v.fdiv 65536=v / 65536;rw[qk4 _ (by decide)]
  ·show v.fdiv 16777216=v / 16777216;rw[qk4 _ (by decide)]
 rw[hd,qkw];have h0:=hv.1;rcases hw with e|e|e
 ·subst e;show IntKind.u8.wrap (X.den ρ' _)=_;rw[key,Rt];rfl
 ·subst e;show IntKind.u16.wrap (X.den ρ' _)=_;rw[key];rfl
 ·subst e;have hd0:d=0:=by omega
  rw[show ∀ x:X,amK 4 x=x from fun _=>rfl,key,hd0];show v / 1=v / 1 % 4294967296;omega
theorem PV(E:EnvB ρ' sx rg)(h:Db sx n)(ha:aX.den ρ'=a)(ha0:0<=a)(hw:w=1\/w=2\/w=4):∀ {m:Nat},m<=n->∃ (x:X) (j:Nat),(fwT w m).ag ρ'=some (.tuple [u32 x,i64 (nl j)])/\x.den ρ'=(po sx a w m).1/\(j:Int)=(po sx a w m).2
 |0,_=>⟨.lit 0,0,rfl,rfl,rfl⟩
 |m+1,hm=>by
  obtain⟨x,j,i1,i2,i3⟩:=PV E h ha ha0 hw (m:=m) (by omega);have hst:=h.st m (by omega);have hA:=wF E h.ok h.le (show m<n by omega);have hW:=sS E h.ok h.le (show m<n by omega);have hV:=Nc E h.ok h.le (show m<n by omega);have hend:(amQ m).den ρ'=sx (3*m)+sx (3*m+1):=by
   show(AX m).den ρ'+(WX m).den ρ'=_;rw[hA,hW]
  have haw:(X.add aX (nl w)).den ρ'=a+w:=by
   show aX.den ρ'+(w:Int)=_;rw[ha]
  unfold fwT po;by_cases c1:sx (3*m)<a+w
  ·rw[lu (by rw[bN,hA,haw];exact decide_eq_true c1),if_pos c1];by_cases c2:a<sx (3*m)+sx (3*m+1)
   ·rw[lu (by rw[bN,ha,hend];exact decide_eq_true c2),if_pos c2];by_cases c3:a<sx (3*m)
    ·rw[lu (by rw[bN,ha,hA];exact decide_eq_true c3),if_pos c3];exact⟨.lit 0,2,rfl,rfl,rfl⟩
    ·rw[eQ (by rw[bN,ha,hA];exact decide_eq_false c3),if_neg c3];by_cases c4:sx (3*m)+sx (3*m+1)<a+w
     ·rw[lu (by rw[bN,hend,haw];exact decide_eq_true c4),if_pos c4];exact⟨.lit 0,2,rfl,rfl,rfl⟩
     ·rw[eQ (by rw[bN,hend,haw];exact decide_eq_false c4),if_neg c4];have hWn:∃ W:Nat,sx (3*m+1)=W/\(W=1\/W=2\/W=4):=by
       rcases hst.w with e|e|e
       ·exact⟨1,e,.inl rfl⟩
       ·exact⟨2,e,.inr (.inl rfl)⟩
       ·exact⟨4,e,.inr (.inr rfl)⟩
      obtain⟨W,hWe,hW3⟩:=hWn;have hv:=hst.v;rw[hWe,qkw]at hv;refine⟨_,1,rfl,?_,rfl⟩;rw[qkw];exact aa3 hV hA ha hw hv hW3 (by omega) (by omega)
   ·rw[eQ (by rw[bN,ha,hend];exact decide_eq_false c2),if_neg c2];exact⟨x,j,i1,i2,i3⟩
  ·rw[eQ (by rw[bN,hA,haw];exact decide_eq_false c1),if_neg c1];exact⟨x,j,i1,i2,i3⟩
def uM(sx:Nat->Int)(k:Nat)(t:Int):Int:=if t<sx (3*k)then -1 else if t<sx (3*k)+sx (3*k+1)then sx (3*k+2) / 256 ^ (t-sx (3*k)).toNat % 256 else -1
theorem Vs(k:Nat)(t:Int):uM sx k t<0↔(t<sx (3*k)\/sx (3*k)+sx (3*k+1)<=t):=by
 unfold uM;split
 ·rename_i h;exact⟨fun _=>.inl h,fun _=>by decide⟩
 ·split
  ·rename_i h1 h2;have:=Int.emod_nonneg (sx (3*k+2) / 256 ^ (t-sx (3*k)).toNat) (show(256:Int)≠0 by decide);omega
  ·rename_i h1 h2;exact⟨fun _=>.inr (by omega),fun _=>by decide⟩
theorem abt(k:Nat)(t:Int):-1<=uM sx k t/\uM sx k t<=255:=by
 unfold uM;split
 ·omega
 ·split
  ·omega
  ·omega
theorem Gr{k:Nat}{r:R V}:∀ {m:Nat} {any all:Bool},(frB k w r any all m).ag ρ'=if all=true/\(∀ j,j<m->¬(hX k j).den ρ'<0)then some (.tuple [u32 (ffX k w 0 (w-1)),i64 (nl 1)])else if any=true\/∃ j,j<m/\¬(hX k j).den ρ'<0 then some (.tuple [u32 (.lit 0),i64 (nl 2)])else r.ag ρ'
 |0,any,all=>by
  cases all with
  |true=>
   rw[if_pos ⟨rfl,fun j hj=>by omega⟩];rfl
  |false=>
   rw[if_neg (by simp)];cases any with
   |true=>
    rw[if_pos (.inl rfl)];rfl
   |false=>
    rw[if_neg (by simp)];rfl
 |m+1,any,all=>by
  unfold frB;by_cases c:(hX k m).den ρ'<0
  ·rw[lu (by rw[bN];exact decide_eq_true c),Gr (m:=m),if_neg (show ¬(false=true/\∀ j,j<m->¬(hX k j).den ρ'<0) by simp)];by_cases e:any=true\/∃ j,j<m/\¬(hX k j).den ρ'<0
   ·rw[if_pos e,if_neg (show ¬(all=true/\∀ j,j<m+1->¬(hX k j).den ρ'<0)from fun h=>h.2 m (by omega) c),if_pos (e.imp id fun⟨j,h1,h2⟩=>⟨j,by omega,h2⟩)]
   ·rw[if_neg e,if_neg (show ¬(all=true/\∀ j,j<m+1->¬(hX k j).den ρ'<0)from fun h=>h.2 m (by omega) c),if_neg fun h=>e (h.imp id fun⟨j,h1,h2⟩=>⟨j,by
     rcases qkz j m with h3|h3
     ·exact h3
     ·exact absurd c (by rw[show m=j by omega];exact h2),h2⟩)]
  ·rw[eQ (by rw[bN];exact decide_eq_false c),Gr (m:=m)];by_cases e:all=true/\∀ j,j<m->¬(hX k j).den ρ'<0
   ·rw[if_pos e,if_pos ⟨e.1,fun j hj=>by
     rcases qkz j m with h3|h3
     ·exact e.2 j h3
     ·rw[show j=m by omega];exact c⟩]
   ·rw[if_neg e,if_pos (.inl rfl),if_neg (fun h=>e ⟨h.1,fun j hj=>h.2 j (by omega)⟩),if_pos (.inr ⟨m,by omega,c⟩)]
theorem amT{k:Nat}{v:Int}{d:Nat}(hw:w=1\/w=2\/w=4)(hd:d+w<=4) (hb:∀ j,j<w->(hX k j).den ρ'=v / 256 ^ (d+j) % 256):(ffX k w 0 (w-1)).den ρ'=v / 256 ^ d % 256 ^ w:=by
 have wr:∀ z:Int,0<=z->z<=4294967295->IntKind.u32.wrap z=z:=fun z h1 h2=>fy ⟨h1,h2⟩
 have hd3:d=0\/d=1\/d=2\/d=3:=by omega
 rcases hw with e|e|e
 ·subst e;show IntKind.u32.wrap ((hX k 0).den ρ')=_;rw[hb 0 (by omega)];show IntKind.u32.wrap (v / 256 ^ d % 256)=v / 256 ^ d % 256;exact wr _ (by omega) (by omega)
 ·subst e;show IntKind.u32.wrap (IntKind.u32.wrap (IntKind.u32.wrap ((hX k 1).den ρ')*256)+IntKind.u32.wrap ((hX k 0).den ρ'))=_;rw[hb 0 (by omega),hb 1 (by omega)];show _=v / 256 ^ d % 65536;rw[wr (v / 256 ^ (d+1) % 256) (by omega) (by omega),wr (v / 256 ^ (d+0) % 256) (by omega) (by omega),wr (v / 256 ^ (d+1) % 256*256) (by omega) (by omega),wr _ (by omega) (by omega)];rcases hd3 with e|e|e|e
  ·subst e;show v / 256 % 256*256+v / 1 % 256=v / 1 % 65536;omega
  ·subst e;show v / 65536 % 256*256+v / 256 % 256=v / 256 % 65536;omega
  ·subst e;show v / 16777216 % 256*256+v / 65536 % 256=v / 65536 % 65536;omega
  ·omega
 ·subst e;obtain rfl:d=0:=by omega
  show IntKind.u32.wrap (IntKind.u32.wrap (IntKind.u32.wrap (IntKind.u32.wrap (IntKind.u32.wrap (IntKind.u32.wrap (IntKind.u32.wrap ((hX k 3).den ρ')*256)+IntKind.u32.wrap ((hX k 2).den ρ'))*256)+IntKind.u32.wrap ((hX k 1).den ρ'))*256)+IntKind.u32.wrap ((hX k 0).den ρ'))=v / 1 % 4294967296;have b0:(hX k 0).den ρ'=v % 256:=by rw[hb 0 (by omega)];show v / 1 % 256=_;omega
  have b1:(hX k 1).den ρ'=v / 256 % 256:=hb 1 (by omega);have b2:(hX k 2).den ρ'=v / 65536 % 256:=hb 2 (by omega);have b3:(hX k 3).den ρ'=v / 16777216 % 256:=hb 3 (by omega);rw[b0,b1,b2,b3,wr (v / 16777216 % 256) (by omega) (by omega),wr (v / 65536 % 256) (by omega) (by omega),wr (v / 256 % 256) (by omega) (by omega),wr (v % 256) (by omega) (by omega),wr (v / 16777216 % 256*256) (by omega) (by omega),wr (v / 16777216 % 256*256+v / 65536 % 256) (by omega) (by omega),
   wr ((v / 16777216 % 256*256+v / 65536 % 256)*256) (by omega) (by omega),wr ((v / 16777216 % 256*256+v / 65536 % 256)*256+v / 256 % 256) (by omega) (by omega),wr (((v / 16777216 % 256*256+v / 65536 % 256)*256+v / 256 % 256)*256) (by omega) (by omega),wr _ (by omega) (by omega)]
  omega
theorem PU(h:Db sx n)(hw:w=1\/w=2\/w=4) (hx:∀ k,k<n->∀ j:Nat,j<w->(hX k j).den ρ'=uM sx k (a+j)):∀ {m:Nat},m<=n->∃ (x:X) (j:Nat),(frT w m).ag ρ'=some (.tuple [u32 x,i64 (nl j)])/\x.den ρ'=(po sx a w m).1/\(j:Int)=(po sx a w m).2
 |0,_=>⟨.lit 0,0,rfl,rfl,rfl⟩
 |m+1,hm=>by
  obtain⟨x,j,i1,i2,i3⟩:=PU h hw hx (m:=m) (by omega);have hst:=h.st m (by omega);have hWn:∃ W:Nat,sx (3*m+1)=W/\(W=1\/W=2\/W=4):=by
   rcases hst.w with e|e|e
   ·exact⟨1,e,.inl rfl⟩
   ·exact⟨2,e,.inr (.inl rfl)⟩
   ·exact⟨4,e,.inr (.inr rfl)⟩
  obtain⟨W,hWe,hW3⟩:=hWn;have sg:∀ j,j<w->((hX m j).den ρ'<0↔(a+j<sx (3*m)\/sx (3*m)+sx (3*m+1)<=a+j)):=fun j hj=>by
   rw[hx m (by omega) j hj];exact Vs m (a+j)
  unfold frT po;rw[Gr];by_cases c1:sx (3*m)<a+w/\a<sx (3*m)+sx (3*m+1)
  ·rw[if_pos c1.1,if_pos c1.2];by_cases c2:a<sx (3*m)
   ·rw[if_pos c2,if_neg,if_pos]
    ·exact⟨.lit 0,2,rfl,rfl,rfl⟩
    ·refine .inr ⟨(sx (3*m)-a).toNat,by omega,fun hn=>?_⟩;have:=(sg (sx (3*m)-a).toNat (by omega)).1 hn;omega
    ·intro hh;exact hh.2 0 (by omega) ((sg 0 (by omega)).2 (.inl (by omega)))
   ·rw[if_neg c2];by_cases c3:sx (3*m)+sx (3*m+1)<a+w
    ·rw[if_pos c3,if_neg,if_pos]
     ·exact⟨.lit 0,2,rfl,rfl,rfl⟩
     ·refine .inr ⟨0,by omega,fun hn=>?_⟩;have:=(sg 0 (by omega)).1 hn;omega
     ·intro hh;exact hh.2 (w-1) (by omega) ((sg (w-1) (by omega)).2 (.inr (by omega)))
    ·rw[if_neg c3,if_pos]
     ·refine⟨_,1,rfl,?_,rfl⟩;obtain⟨d,hd⟩:=qkv (show 0<=a-sx (3*m) by omega);rw[hd,qkw,qkw];refine amT hw (by omega) fun j hj=>?_
      rw[hx m (by omega) j hj];unfold uM;rw[if_neg (by omega),if_pos (by omega)];congr 3;omega
     ·refine⟨rfl,fun j hj hn=>?_⟩;have:=(sg j hj).1 hn;omega
  ·have e:(if sx (3*m)<a+w then(if a<sx (3*m)+sx (3*m+1)then(if a<sx (3*m)then((0,2):Int×Int)else if sx (3*m)+sx (3*m+1)<a+w then(0,2)else(sx (3*m+2) / 256 ^ (a-sx (3*m)).toNat % 256 ^ (w:Int).toNat,1))else po sx a w m)else po sx a w m)=po sx a w m:=by
    by_cases c2:sx (3*m)<a+w
    ·rw[if_pos c2,if_neg fun c3=>c1 ⟨c2,c3⟩]
    ·rw[if_neg c2]
   rw[e,if_neg,if_neg]
   ·exact⟨x,j,i1,i2,i3⟩
   ·rintro(hh|⟨j,hj,hn⟩)
    ·cases hh
    ·refine hn ((sg j hj).2 ?_);omega
   ·intro hh;have:=fun z=>hh.2 0 (by omega) ((sg 0 (by omega)).2 z)
    have h2:=fun z=>hh.2 (w-1) (by omega) ((sg (w-1) (by omega)).2 z)
    by_cases z1:sx (3*m)<a+w
    ·exact this (.inr (by omega))
    ·exact this (.inl (by omega))
end
section
variable {c:Cx} {ρ0:Env} {S:KS} {q:QS}
theorem mM(hO:S.Ok ρ0 q):Db S.sx q.n:=⟨hO.le,hO.st⟩
theorem Em(hO:S.Ok ρ0 q){w:Nat} (hw:(S.acc ρ0).w=w) {ρ':Env} {x:X} {j:Nat} (h1:x.den ρ'=(po S.sx (S.acc ρ0).ad w q.n).1) (h2:(j:Int)=(po S.sx (S.acc ρ0).ad w q.n).2) (π π':Pl):(abr q.n).ab (af ρ0 S) π=(V.tuple [u32 x,i64 (nl j)]).ab ρ' π':=by
 have e:S.fwd ρ0=po S.sx (S.acc ρ0).ad w q.n:=by
  unfold KS.fwd;rw[hO.n,hw]
 show _=Value.tuple #[.int .u32 (x.den ρ'),.int .i64 (j:Int)];rw[h1,h2,<-e];unfold abr;split
 ·rename_i hq;rw[e,hq];rfl
 ·rfl
theorem VR{w:Nat} (haO:(S.acc ρ0).Ok 16) (hk:(S.acc ρ0).k=1) (hw:(S.acc ρ0).w=w) {ρ':Env} (h1:aX.den ρ'=(S.acc ρ0).ad):(X.eq (.rem aX (nl w)) (.lit 0)).tt ρ'=true:=by
 have hat:=haO.at_ (by omega) (by omega);rw[hw]at hat;rw[bZ];show((aX.den ρ').tmod (w:Int)==0)=true;rw[h1,hat.1];rfl
variable {W:World} (hro:aZ ρ0.ro) (hW:∀ x∈aj,W.heap[x.1]?=some (ρ0.ro x.1))
include hro hW
theorem amY(hng:c.ng=7)(hO:S.Ok ρ0 q):lq c (af ρ0 S) 125 (an1 q.n):=by
 intro args st v st' hs hthere S1 π0 w ac n hh ha;have hR:=mG hO;unfold an1 at hs;split at hs;rotate_left
 ·simp[R.ag]at hs
 rename_i b a wv;split at hs;rotate_left
 ·simp[R.ag]at hs
 rename_i k hk hb;split at hs;rotate_left
 ·simp[R.ag]at hs
 rename_i h1 h2;have h1:=V.aR _ _ h1;have hk3:=C0 hk;obtain⟨hc,hkd,hwd⟩:=p8 hh.pc h2 hk3 fun hc=>cC hro hW hO.hw hc
 have haO:(S.acc ρ0).Ok 16:=cC hro hW hO.hw hc;simp only[sJ,R.ag,qqk,qqv]at hs;obtain⟨rfl,rfl⟩:=hs;have E:EnvB (gq (af ρ0 S) S.sx S.rg (S.acc ρ0).ad 0 0 fun _=>0) S.sx S.rg:=ky;have haX:aX.den (gq (af ρ0 S) S.sx S.rg (S.acc ρ0).ad 0 0 fun _=>0)=(S.acc ρ0).ad:=gT F7 haO.ad;have hchk:cw [oB (jZ (S.rg 12).toNat q.n)] (eA cxB 125 (acd (S.rg 12).toNat q.n k)) (fwT k q.n)=true:=by
  rcases hk3 with e|e|e<;>subst e
  ·exact a8 (a8 apc _ (fR hR.fl)) q.n (ni hR.le)
  ·exact a8 (a8 apd _ (fR hR.fl)) q.n (ni hR.le)
  ·exact a8 (a8 ape _ (fR hR.fl)) q.n (ni hR.le)
 obtain⟨x,j,e1,e2,e3⟩:=PV E (mM hO) haX haO.ad.1 hk3 (qq2 q.n);have hd0:np.den (af ρ0 S)=(S.acc ρ0).ad:=fU rfl haO.ad;refine nA (ρ:=af ρ0 S) (ρ':=gq (af ρ0 S) S.sx S.rg (S.acc ρ0).ad 0 0 fun _=>0) hng dh dV rfl yu rfl hro Tryz.func125 (n0:=q.n) (rg:=S.rg) (eG hb) (fun π=>du fun i hi=>zA ρ0 S hi) E hR hthere rfl (ai.gw (VR haO hkd hwd haX) (YY E (mM hO) (qq2 _))) (fun π π'=>?_) (ex:=[]) (c':=s7 200 q.n) hchk e1 (fun π=>Em hO hwd e2 e3 _ _) (fun π π'=>?_) (Bl (eG hb)) hh ha
 ·rw[h1];show[Value.int .u32 (np.den (af ρ0 S)),.int .i64 (k:Int)]=[Value.int .u32 (aX.den _),.int .i64 (k:Int)];rw[hd0,haX]
 ·rw[du (rg:=S.rg) fun i hi=>zA ρ0 S hi,jn E hR]
end
theorem E6{st:St}{v:V}{n:Nat}(h:IB st v n=true):(n=0/\v=.nilslice)\/(0<n/\∃ b,v=pr n b/\st.h.get b=some (.cells (qL 0 n []) pe (some 3))):=by
 unfold IB at h;split at h
 ·exact .inl ⟨qqq h,rfl⟩
 ·rename_i b m b' m';split at h
  ·rename_i cc e hg;obtain⟨h1,h2,h3,h4,h5,h6⟩:=ar h;obtain rfl:=qqq h1;obtain rfl:=qqq h2;obtain rfl:=qqq h3;have h4:0<n:=qqx h4;refine .inr ⟨h4,b,?_,by rw[hg,qqq h5,V.aR _ _ h6]⟩;obtain⟨k,rfl⟩:∃ k,n=k+1:=⟨n-1,by omega⟩
   rfl
  ·cases h
 ·cases h
theorem Px:∀ {n k:Nat},V.gz (UA k n [])=[]
 |0,_=>rfl
 |n+1,k=>by
  have:=Px (n:=n) (k:=k+1);show V.gz (u32 (AX k)::i64 (WX k)::u32 (VX k)::UA (k+1) n [])=[];simp only[V.gz,u32,i64,V.iB,this,qk8]
theorem abU{b i:Nat}(h:i<26):eD [(26,b)] i=i:=by
 unfold eD look;rw[show Nat.beq 26 i=false by
  cases hb:Nat.beq 26 i with
  |false=>rfl
  |true=>have:=qqq hb;omega]
 rfl
def Cw(n b:Nat):List (Nat×Nat):=match n with
 |0=>[]
 |_=>[(26,b)]
section
variable {cx cx0:Cx} {ρ ρ':Env} {S:Nat→Prop} {π0:Pl} {st:St} {w:World}
theorem Mz(hng:cx.ng=7)(htt:nu Tryz.prog cx0.tt)(hft:sl Tryz.prog cx0.ft)(hng0:cx0.ng=7)(hsm:SumOk Tryz.prog cx0 ρ')(hr:ρ'.ro=ρ.ro)(hro:aZ ρ'.ro){f:FuncId}{fn:Func} (hfn:Tryz.prog.funcs[f]?=some fn) {sx rg:Nat->Int} {n b:Nat} {us:List (Nat×V)} {args0 args:List V} {pc0:PC} {cs:List V}
  (hb:0<n->st.h.get b=some (.cells cs pe (some 3))) (hcs:∀ π,V.ae ρ π cs=M8 sx 0 n) (E:EnvB ρ' sx rg) (hR:Db sx n) (hthere:bB aj st.h=true) (hun:∀ i v,jt us i=some v->7<=i/\i≠26/\i<100/\∃ l,v∈l/\.agg l∈args) (hkn:dU 7 (eJ (Dk n)++ma us) (V.gz args0)=true) (hpc:ai ρ' pc0)
  (hargs:∀ π,V.ae ρ π args=V.ae ρ' (fw us (eD (Cw n b)) ρ π) args0) {t:R V} (hk:cw (Dk n) (eA cx0 f ⟨args0,Dk n,100,pc0⟩) t=true) {v0 tv:V} (hsel:t.ag ρ'=some v0) (hv:∀ π π',tv.ab ρ π=v0.ab ρ' π')
  (hh:b8 cx ρ S π0 st w) {ac:List Value} (ha:bz ρ S π0 args ac) {m:Nat}:CallsIn Fence.wide m Tryz.prog f ac.toArray w (EPost ρ S π0 st w (.ret tv,{h:=st.h,n:=st.n+bm,pc:=st.pc})):=by
 have h26:jt us 26=none:=by
  cases h:jt us 26 with
  |none=>rfl
  |some v=>exact absurd rfl (hun 26 v h).2.1
 have hg7:∀ g,g<7->jt us g=none:=fun g hg=>by
  cases h:jt us g with
  |none=>rfl
  |some v=>have:=(hun g v h).1;omega
 refine tV (mb:=bm) (us:=us) (r:=Cw n b) (p:=⟨args0,Dk n,100,pc0⟩) hng htt hft hng0 hsm hr hro hfn rfl ?_ hargs hk hsel (fun π=>hv _ _) ?_ hh ha
 ·refine⟨by show 7<=100;omega,fun g hg=>⟨?_,hg7 g hg⟩,hthere,fun i v h=>?_,hkn,?_,?_,hpc⟩
  ·cases n with
   |zero=>rfl
   |succ n=>exact abU (by omega)
  ·obtain⟨_,_,h3,l,h4,h5⟩:=hun i v h;exact⟨h3,l,h4,.inr (.inr h5)⟩
  ·intro i o hi;cases n with
   |zero=>cases hi
   |succ n=>
    obtain⟨rfl,rfl⟩:i=26/\o=.cells (UA 0 (n+1) []) pe (some 3):=by
     have hi:(i,o)∈[apu (n+1)]:=hi;rcases List.mem_cons.1 hi with h|h
     ·injection h with h1 h2;exact⟨h1,h2⟩
     ·cases h
    refine⟨h26,_,hb (by omega),(fun _=>rfl),by show 26<100;omega,?_,fun ob _ ho=>jG ho ?_ ?_⟩
    ·show dU 7 _ (V.gz (UA 0 (n+1) []))=true;rw[Px];rfl
    ·rw[hcs,uq E hR.ok hR.le (by omega)];exact(qk8 _).symm
    ·show _=(fw us (eD [(26,b)]) ρ π0 26).2;rw[dC h26];rfl
  ·intro i o j o' hi hj _;cases n with
   |zero=>cases hi
   |succ n=>
    have h1:=qq4.1 hi;have h2:=qq4.1 hj;injection h1 with h1;injection h2 with h2;exact .inl (by rw[h1,h2])
 ·intro j o' hj;cases n with
  |zero=>exact .inr ⟨hj,fun i hi=>by cases hi⟩
  |succ n=>
   by_cases e:j=b
   ·subst e;rw[hb (by omega)]at hj;obtain rfl:=qqz hj;refine .inl ⟨26,_,qq1 ..,h26,rfl,fun π ob ho=>jG ho ?_ ?_⟩
    ·rw[hcs,uq E hR.ok hR.le (by omega)];exact qk8 _
    ·rw[dC h26];rfl
   ·refine .inr ⟨hj,fun i hi=>?_⟩;have h1:i=26:=qq4.1 hi;rw[h1];exact fun e'=>e e'.symm
end
section
variable {c:Cx} {ρ:Env} {sx rg:Nat→Int} {n:Nat} {a:Int}
theorem J4{s:List V}{t:X}{st:St}{x:V×St}{ρ:Env}:∀ {m:Nat},(Vr s t st m).ag ρ=some x->∃ k j,k<m/\j<4/\s=bS k/\t=tjX j/\x=(i64 (hX k j),{st with pc:=am0 k j++st.pc,n:=st.n+10})
 |0,h=>by simp[Vr,R.ag]at h
 |k+1,h=>by
  unfold Vr at h;split at h
  ·rename_i h1;have go:∀ {j:Nat},j<=4->(Vq k t st j).ag ρ=some x->∃ j,j<4/\t=tjX j/\x=(i64 (hX k j),{st with pc:=am0 k j++st.pc,n:=st.n+10}):=by
    intro j;induction j with
    |zero=>intro _ h;simp[Vq,R.ag]at h
    |succ j ih=>
     intro hj h;unfold Vq at h;split at h
     ·rename_i h2;simp only[R.ag,qqk]at h;exact⟨j,by omega,X.beq_eq h2,h.symm⟩
     ·exact ih (by omega) h
   obtain⟨j,h2,h3,h4⟩:=go (qq2 4) h;exact⟨k,j,by omega,h2,V.aR _ _ h1,h3,h4⟩
  ·obtain⟨k',j,h1,h2⟩:=J4 h;exact⟨k',j,by omega,h2⟩
theorem Vt{ρ2:Env}{sx:Nat->Int}{d:Int} (hWd:(WX 0).den ρ2=sx 1) (hV:(VX 0).den ρ2=sx 2) (hd:ρ2.v 732=d) (hst:FD (sx 0) (sx 1) (sx 2)):∃ x,am1.ag ρ2=some (i64 x)/\x.den ρ2=uM sx 0 (sx 0+d):=by
 have hk:hkX.den ρ2=d:=by
  show((AX 0).den ρ2+ρ2.v 732)-(AX 0).den ρ2=d;rw[hd];omega
 have hw:=hst.w;have h3:sx 2<256 ^ 4:=by
  rcases hw with e|e|e<;>rw[e]at hst
  ·have:sx 2<256 ^ 1:=hst.v.2;omega
  ·have:sx 2<256 ^ 2:=hst.v.2;omega
  ·exact hst.v.2
 have h0:=hst.v.1;have hlit:∀ k:Nat,(X.lit (k:Int)).den ρ2=k:=fun _=>rfl
 have lit0:(X.lit 0).den ρ2=0:=rfl;have lit1:(X.lit 1).den ρ2=1:=rfl;have lit2:(X.lit 2).den ρ2=2:=rfl;have hdiv:∀ k:Nat,(X.quo (VX 0) (.lit k)).den ρ2=(sx 2) / k:=fun k=>by
  show((VX 0).den ρ2).tdiv k=_;rw[hV,qkk h0]
 have e0:sx (3*0)=sx 0:=rfl;have e1:sx (3*0+1)=sx 1:=rfl;have e2:sx (3*0+2)=sx 2:=rfl;have h3':sx 2<4294967296:=h3;unfold am1 uM;rw[e0,e1,e2];by_cases c0:d<0
 ·rw[lu (by rw[bN,hk,lit0];exact decide_eq_true c0),if_pos (by omega)];exact⟨_,rfl,rfl⟩
 ·rw[eQ (by rw[bN,hk,lit0];exact decide_eq_false c0),if_neg (by omega)];by_cases c1:d<sx 1
  ·rw[lu (by rw[bN,hk,hWd];exact decide_eq_true c1),if_pos (by omega),show sx 0+d-sx 0=d by omega];by_cases c2:0<d
   ·rw[lu (by rw[bN,hk,lit0];exact decide_eq_true c2)];by_cases c3:1<d
    ·rw[lu (by rw[bN,hk,lit1];exact decide_eq_true c3)];by_cases c4:2<d
     ·rw[lu (by rw[bN,hk,lit2];exact decide_eq_true c4)];refine⟨_,rfl,?_⟩;obtain rfl:d=3:=by omega
      have:=hdiv 16777216;rw[show((16777216:Nat):Int)=16777216 from rfl]at this;rw[this];show sx 2 / 16777216=sx 2 / 16777216 % 256;omega
     ·rw[eQ (by rw[bN,hk,lit2];exact decide_eq_false c4)];refine⟨_,rfl,?_⟩;obtain rfl:d=2:=by omega
      show IntKind.u8.wrap ((X.quo (VX 0) (.lit 65536)).den ρ2)=_;have:=hdiv 65536;rw[show((65536:Nat):Int)=65536 from rfl]at this;rw[this,Rt];rfl
    ·rw[eQ (by rw[bN,hk,lit1];exact decide_eq_false c3)];refine⟨_,rfl,?_⟩;obtain rfl:d=1:=by omega
     show IntKind.u8.wrap ((X.quo (VX 0) (.lit 256)).den ρ2)=_;have:=hdiv 256;rw[show((256:Nat):Int)=256 from rfl]at this;rw[this,Rt];rfl
   ·rw[eQ (by rw[bN,hk,lit0];exact decide_eq_false c2)];refine⟨_,rfl,?_⟩;obtain rfl:d=0:=by omega
    show IntKind.u8.wrap ((VX 0).den ρ2)=_;rw[hV,Rt];show sx 2 % 256=sx 2 / 1 % 256;rw[Int.ediv_one]
  ·rw[eQ (by rw[bN,hk,hWd];exact decide_eq_false c1),if_neg (by omega)];exact⟨_,rfl,rfl⟩
theorem am2(hng:c.ng=7)(hro:aZ ρ.ro)(E:EnvB ρ sx rg)(hL:Db sx n)(ha:aX.den ρ=a)(ha0:0<=a/\a<=16) (hx:∀ k,k<n->∀ j:Nat,j<4->(hX k j).den ρ=uM sx k (a+j)):lq c ρ 142 (Xl n):=by
 intro args st v st' hs hthere S1 π0 w ac m hh hac;have hle:=hL.le;unfold Xl at hs;split at hs;rotate_left
 ·simp[R.ag]at hs
 rename_i s t;obtain⟨k,j,hk,hj,rfl,rfl,e⟩:=J4 hs;injection e with e1 e2;subst e1 e2;have hst:=hL.st k hk;have htj:(tjX j).den ρ=a+j:=by
  unfold tjX;split
  ·rw[ha];exact(Int.add_zero _).symm
  ·show aX.den ρ+(j:Int)=_;rw[ha]
 have hrg:=abt (sx:=sx) k (a+j);have sts:StsOk (fun i=>sx (3*k+i)) 1:=by
  refine⟨fun i hi=>?_,fun i hi=>?_,fun i hi=>?_⟩<;>obtain rfl:i=0:=by omega
  ·exact hst.rg.1
  ·have:=hst.w;show 0<=sx (3*k+1)/\sx (3*k+1)<=255;omega
  ·exact hst.rg.2
 have hA16:sx (3*k)<=16:=by have:=hst.le;have:=hst.w;omega
 have hAk0:=hst.a;let ρ2:=gq ρ (fun i=>sx (3*k+i)) rg 0 0 (a+j-sx (3*k)) fun _=>0
 have E2:EnvB ρ2 (fun i=>sx (3*k+i)) rg:=ky;have hA:=wF E2 sts (by omega) (show 0<1 by omega);have hWd:=sS E2 sts (by omega) (show 0<1 by omega);have hV:=Nc E2 sts (by omega) (show 0<1 by omega);obtain⟨x,x1,x2⟩:=Vt (sx:=fun i=>sx (3*k+i)) hWd hV (d:=a+j-sx (3*k)) aba hst;have hxv:uM (fun i=>sx (3*k+i)) 0 (sx (3*k+0)+(a+j-sx (3*k)))=uM sx k (a+j):=by
  rw[show sx (3*k+0)+(a+j-sx (3*k))=a+j by rw[Nat.add_zero];omega];rfl
 refine(Ej (ρ:=ρ) (ρ':=ρ2) (mb:=10) hng dh dV rfl yu rfl hro Tryz.func142 (args0:=[.agg (bS 0),i64 (.add (AX 0) (va 732))]) (tv:=i64 (hX k j)) hthere rfl ?_ (fun π π'=>?_) atF x1 (fun π π'=>?_) hh hac).mono fun e w' hp=>hp.less ⟨⟨fun hp1=>?_,qq2 _,fun i o' hi=>⟨o',hi,fun _ _ h=>h,rfl⟩⟩,.inl rfl⟩
 ·have hw:=hst.w;have h732:(va 732).den ρ2=a+j-sx (3*k):=aba;have hW1:(WX 0).den ρ2=sx (3*k+1):=hWd;refine ai.gw ?_ (ai.gw ?_ (ai.gw ?_ (ai.gw ?_ (ai.gw rfl ai.eL))))
  ·show(X.le (.lit (-20)) (va 732)).tt ρ2=true;rw[cT,h732];exact decide_eq_true (show(-20:Int)<=a+j-sx (3*k) by omega)
  ·show(X.le (va 732) (.lit 20)).tt ρ2=true;rw[cT,h732];exact decide_eq_true (show a+j-sx (3*k)<=(20:Int) by omega)
  ·show(X.le (.lit 1) (WX 0)).tt ρ2=true;rw[cT,hW1];exact decide_eq_true (show(1:Int)<=sx (3*k+1) by omega)
  ·show(X.le (WX 0) (.lit 4)).tt ρ2=true;rw[cT,hW1];exact decide_eq_true (show sx (3*k+1)<=(4:Int) by omega)
 ·show[Value.agg (V.ae ρ π (bS k)).toArray,.int .i64 ((tjX j).den ρ)]=[Value.agg (V.ae ρ2 π' (bS 0)).toArray,.int .i64 ((AX 0).den ρ2+ρ2.v 732)];rw[qR E hL.ok hL.le hk,qR E2 sts (by omega) (show 0<1 by omega),htj,hA,show ρ2.v 732=a+j-sx (3*k)from aba];show[Value.agg _,Value.int .i64 (a+j)]=[Value.agg _,.int .i64 (sx (3*k+0)+(a+j-sx (3*k)))];rw[show sx (3*k+0)+(a+j-sx (3*k))=a+j by rw[Nat.add_zero];omega];rfl
 ·show Value.int .i64 ((hX k j).den ρ)=Value.int .i64 (x.den ρ2);rw[x2,hx k hk j hj,<-hxv]
 ·refine ai.app (ai.gw ?_ (ai.gw ?_ ai.eL)) hp1
  ·show(X.le (.lit (-1)) (hX k j)).tt ρ=true;rw[cT,hx k hk j hj];exact decide_eq_true hrg.1
  ·show(X.le (hX k j) (.lit 255)).tt ρ=true;rw[cT,hx k hk j hj];exact decide_eq_true hrg.2
end
section
variable {c:Cx} {ρ0:Env} {S:KS} {q:QS}
variable {W:World} (hro:aZ ρ0.ro) (hW:∀ x∈aj,W.heap[x.1]?=some (ρ0.ro x.1))
include hro hW
theorem abq(hng:c.ng=7)(hO:S.Ok ρ0 q):lq c (af ρ0 S) 100 (Xk q.n):=by
 intro args st v st' hs hthere S1 π0 w ac n hh ha;have hle:=hO.le;unfold Xk at hs;split at hs;rotate_left
 ·simp[R.ag]at hs
 rename_i l a wv;split at hs;rotate_left
 ·simp[R.ag]at hs
 rename_i k hk hrow;split at hs;rotate_left
 ·simp[R.ag]at hs
 rename_i h1 h2;have h1:=V.aR _ _ h1;have hk3:=C0 hk;obtain⟨hc,hkd,hwd⟩:=p8 hh.pc h2 hk3 fun hc=>cC hro hW hO.hw hc
 have haO:(S.acc ρ0).Ok 16:=cC hro hW hO.hw hc;have hat:=haO.at_ (by omega) (by omega);simp only[sJ,R.ag,qqk,qqv]at hs;obtain⟨rfl,rfl⟩:=hs;let ρ':=gq (af ρ0 S) S.sx S.rg (S.acc ρ0).ad 0 0 fun i=>uM S.sx (i / 4) ((S.acc ρ0).ad+((i % 4:Nat):Int))
 have E:EnvB ρ' S.sx S.rg:=ky;have haX:aX.den ρ'=(S.acc ρ0).ad:=gT F7 haO.ad;have hx:∀ k,k<q.n->∀ j:Nat,j<4->(hX k j).den ρ'=uM S.sx k ((S.acc ρ0).ad+j):=fun k hk j hj=>by
  show ρ'.v (740+4*k+j)=_;rw[Nat.add_assoc,show ρ'.v (740+(4*k+j))=_ from atu (by omega)];rw[show(4*k+j) / 4=k by omega,show(4*k+j) % 4=j by omega]
 have hsm:SumOk Tryz.prog (cxF q.n) ρ':=by
  refine MJ (l:=[(142,sG (Xl q.n))]) (fun x hx'=>?_) rfl (fun g s h=>by cases h);have e:x=(142,sG (Xl q.n)):=qq4.1 hx';rw[e];exact(am2 (c:=cxF q.n) (ρ:=ρ') rfl hro E (mM hO) haX ⟨haO.ad.1,by omega⟩ hx).at
 have hchk:cw (Dk q.n) (eA (cxF q.n) 100 (Cm q.n k)) (frT k q.n)=true:=by
  rcases hk3 with e|e|e<;>subst e
  ·exact a8 apf q.n (ni hO.le)
  ·exact a8 apg q.n (ni hO.le)
  ·exact a8 api q.n (ni hO.le)
 obtain⟨x,j,e1,e2,e3⟩:=PU (ρ':=ρ') (a:=(S.acc ρ0).ad) (mM hO) hk3 (fun k' hk' j hj=>hx k' hk' j (by omega)) (qq2 q.n);have hd0:np.den (af ρ0 S)=(S.acc ρ0).ad:=fU rfl haO.ad;obtain⟨b,hb,hlv⟩:∃ b,(0<q.n->st.h.get b=some (.cells (qL 0 q.n []) pe (some 3)))/\l=pr q.n b:=by
  rcases E6 hrow with⟨h0,hl⟩|⟨h0,b,hl,hg⟩
  ·exact⟨0,fun h=>by omega,by rw[hl,h0];rfl⟩
  ·exact⟨b,fun _=>hg,hl⟩
 refine Mz (ρ:=af ρ0 S) (ρ':=ρ') (cx0:=cxF q.n) hng dh dV rfl hsm rfl hro Tryz.func100 (us:=[]) (n:=q.n) (b:=b) (sx:=S.sx) (rg:=S.rg) (cs:=qL 0 q.n []) hb (fun π=>by
  rw[jq hO (by omega)];exact qk8 _) E (mM hO) hthere (fun i v h=>by cases h) ?_ (ai.gw (VR haO hkd hwd haX) ai.eL) (fun π=>?_) hchk e1 (fun π π'=>Em hO hwd e2 e3 _ _) hh ha
 ·have:∀ n,dU 7 (eJ (Dk n)++ma []) (V.gz [pr n 26,u32 aX,i64 (nl k)])=true:=fun n=>by
   cases n with
   |zero=>rfl
   |succ n=>rfl
  exact this _
 ·show l.ab (af ρ0 S) π::V.ae (af ρ0 S) π [a,wv]=(pr q.n 26).ab ρ' _::[Value.int .u32 (aX.den ρ'),.int .i64 (k:Int)];rw[h1,hlv];have e:(pr q.n b).ab (af ρ0 S) π=(pr q.n 26).ab ρ' (fw [] (eD (Cw q.n b)) (af ρ0 S) π):=by
   cases q.n with
   |zero=>rfl
   |succ n=>rfl
  rw[e];show _::[Value.int .u32 (np.den (af ρ0 S)),.int .i64 (k:Int)]=_::[Value.int .u32 (aX.den ρ'),.int .i64 (k:Int)];rw[hd0,haX]
end
section
variable {cx cx0:Cx} {ρ ρ':Env} {S:Nat→Prop} {π0:Pl} {st:St} {w:World}
def Ue(ρ ρ':Env) (us:List (Nat×V)) (r:List (Nat×Nat)) (st:St) (items:List (Nat×ak)):Prop:=
 ∀ i o0,(i,o0)∈items->jt us i=none/\i<100/\o0.bg=false/\dU 7 (eJ items++ma us) o0.iB=true/\∃ o,st.h.get (eD r i)=some o/\o.bg=false/\∀ (r':Nat->Nat),(∀ j,j<100->r' j=eD r j)->∀ π ob,(o.is ρ π (eD r i) ob↔o0.is ρ' (fw us r' ρ π) i ob)
theorem ads {r:List (Nat×Nat)} {m n i:Nat} (h:i<n):rn r m n i=eD r i:=by
 unfold rn;rw[show Nat.blt i n=true from qkq h]
theorem tq{i:Nat}:∀ {l:List (Nat×ak)},i∈dE l->∃ o,(i,o)∈l/\o.bg=false
 |(j,o)::l,h=>by
  unfold dE at h;split at h
  ·obtain⟨o',h1,h2⟩:=tq h;exact⟨o',qq3 _ h1,h2⟩
  ·rename_i hz;rcases List.mem_cons.1 h with rfl|h
   ·exact⟨o,qq1 ..,hz⟩
   ·obtain⟨o',h1,h2⟩:=tq h;exact⟨o',qq3 _ h1,h2⟩
theorem u7(hng:cx.ng=7)(htt:nu Tryz.prog cx0.tt)(hft:sl Tryz.prog cx0.ft)(hng0:cx0.ng=7)(hsm:SumOk Tryz.prog cx0 ρ')(hr:ρ'.ro=ρ.ro)(hro:aZ ρ'.ro){f:FuncId}{fn:Func} (hfn:Tryz.prog.funcs[f]?=some fn) {us:List (Nat×V)} {p:gk} {r:List (Nat×Nat)} {args:List V} (hn:p.n=100)
  (hS:Ue ρ ρ' us r st p.items) (hinj:∀ i j,i∈dE p.items->j∈dE p.items->eD r i=eD r j->i=j) (hgs:∀ g,g<7->eD r g=g/\jt us g=none) (hthere:bB aj st.h=true) (hun:∀ i v,jt us i=some v->i<100/\∃ l,v∈l/\((∃ b e wd,st.h.get b=some (.cells l e wd))\/l=args\/.agg l∈args))
  (hkn:dU 7 (eJ p.items++ma us) (V.gz p.args)=true) (hpc:ai ρ' p.pc) (hargs:∀ π,V.ae ρ π args=V.ae ρ' (fw us (eD r) ρ π) p.args) {lf:Leaf} (hlf:(eA cx0 f p).ag ρ'=some lf) (hobs:∀ x∈p.items,x∈lf.objs) (hm:lf.n<=100+bm) {tv:V} (hv:∀ π,tv.ab ρ π=lf.v.ab ρ' (fw us (rn r st.n 100) ρ π))
  (hh:b8 cx ρ S π0 st w) {ac:List Value} (ha:bz ρ S π0 args ac) {n:Nat}:CallsIn Fence.wide n Tryz.prog f ac.toArray w (EPost ρ S π0 st w (.ret tv,{h:=st.h,n:=st.n+bm,pc:=st.pc})):=by
 unfold eA at hlf;rw[<-cj]at hlf;have:=yx (cx:=cx) (cx0:=cx0) (ρ:=ρ) (ρ':=ρ') (S:=S) (π0:=π0) (st:=st) (w:=w) (L:=aj) (ng:=7) bG htt hft hsm (fun _ _=>by rw[hr]) hng hng0 dS (hro ρ' rfl) hfn (us:=us) (p:=p) (r:=r) (args:=args)
  ⟨by omega,hgs,hthere,fun i v h=>by rw[hn];exact hun i v h,hkn,fun i o0 hi=>by
   obtain⟨h1,h2,h3,h4,o,h5,h6,h7⟩:=hS i o0 hi;exact⟨h1,o,h5,(fun _=>h6),by rw[hn];exact h2,h4,fun ob _ ho=>(h7 (eD r) (fun _ _=>rfl) π0 ob).1 ho⟩,(fun i o j o' hi hj e=>.inl (hinj i j (mq hi (hS i o hi).2.2.1) (mq hj (hS j o' hj).2.2.1) e)),hpc⟩
  (hargs π0) hlf (tv:=tv) (h':=st.h) (m:=100+bm) ⟨fun π=>by rw[hn];exact hv π,fun j o' hj=>?_,hm⟩ hh ha (n:=n)
 ·rw[hn,qq8]at this;exact this
 ·by_cases e:∃ i∈dE p.items,eD r i=j
  ·obtain⟨i,hi,rfl⟩:=e;obtain⟨o0,hm0,hz⟩:=tq hi;obtain⟨h1,h2,_,h4,o,h5,h6,h7⟩:=hS i o0 hm0;rw[hj]at h5;obtain rfl:=qqz h5;refine .inl ⟨i,o0,hobs _ hm0,h1,by rw[hn];exact ads h2,fun π ob ho=>?_⟩;rw[hn]at ho;exact(h7 (rn r st.n 100) (fun j hj=>ads hj) π ob).2 ho
  ·exact .inr ⟨hj,fun i hi he=>e ⟨i,hi,he⟩⟩
theorem cD{c c0:List V}{e:TypeId}{wd:Option Nat} {us:List (Nat×V)} {r:List (Nat×Nat)} {i:Nat} (hu:jt us i=none) (hi:i<100) (hc:∀ (r':Nat->Nat),(∀ j,j<100->r' j=eD r j)->∀ π,V.ae ρ π c=V.ae ρ' (fw us r' ρ π) c0):
  ∀ (r':Nat->Nat),(∀ j,j<100->r' j=eD r j)->∀ π ob,((ak.cells c e wd).is ρ π (eD r i) ob↔(ak.cells c0 e wd).is ρ' (fw us r' ρ π) i ob):=by
 intro r' hr' π ob;have hp:fw us r' ρ π i=π (eD r i):=by rw[dC hu,hr' i hi]
 constructor
 ·exact fun h=>jG h (hc r' hr' π) (by rw[hp])
 ·exact fun h=>jG h (hc r' hr' π).symm (by rw[hp])
end
section
variable {ρ':Env} {sx rg:Nat→Int} {n:Nat} {a:Int} {w:Nat}
theorem GX{fx:Int}(h:ρ'.v 150=fx)(k:Nat):(noX k).den ρ'=IntKind.i64.wrap (fx+k):=by
 unfold noX;split
 ·show IntKind.i64.wrap (ρ'.v 150)=_;rw[h];congr 1;exact(Int.add_zero _).symm
 ·show IntKind.i64.wrap (ρ'.v 150+_)=_;rw[h];rfl
theorem Rk(E:EnvB ρ' sx rg)(h:Db sx n)(ha:aX.den ρ'=a) (hwd:(X.wrap .u8 (va 732)).den ρ'=w) (ha0:0<=a/\a<=16) (hw:w=1\/w=2\/w=4) {fx:Int} (hf:ρ'.v 150=fx):∀ {m:Nat},m<=n->∃ x:X,(teT m).ag ρ'=some (i64 x)/\x.den ρ'=MW fx sx a w m
 |0,_=>⟨_,rfl,rfl⟩
 |m+1,hm=>by
  obtain⟨x,i1,i2⟩:=Rk E h ha hwd ha0 hw hf (m:=m) (by omega);have hst:=h.st m (by omega);have hwr:=hst.w;have hle:=hst.le;have h0:=hst.a;have hA:=wF E h.ok h.le (show m<n by omega);have hW:=sS E h.ok h.le (show m<n by omega);have hend:(X.wrap .u32 (.add (AX m) (WX m))).den ρ'=sx (3*m)+sx (3*m+1):=by
   show IntKind.u32.wrap ((AX m).den ρ'+(WX m).den ρ')=_;rw[hA,hW];exact fy ⟨by omega,by omega⟩
  have htl:tlE.den ρ'=a+w:=by
   show IntKind.u32.wrap (aX.den ρ'+(X.wrap .u8 (va 732)).den ρ')=_;rw[ha,hwd];exact fy ⟨by omega,by omega⟩
  unfold teT MW;by_cases c1:sx (3*m)<a+w
  ·rw[lu (by rw[bN,hA,htl];exact decide_eq_true c1)];by_cases c2:a<sx (3*m)+sx (3*m+1)
   ·rw[lu (by rw[bN,ha,hend];exact decide_eq_true c2),if_pos ⟨c1,c2⟩];exact⟨_,rfl,GX hf m⟩
   ·rw[eQ (by rw[bN,ha,hend];exact decide_eq_false c2),if_neg fun c=>c2 c.2];exact⟨x,i1,i2⟩
  ·rw[eQ (by rw[bN,hA,htl];exact decide_eq_false c1),if_neg fun c=>c1 c.1];exact⟨x,i1,i2⟩
theorem Rl(ha:aX.den ρ'=a)(j:Nat):(tjX j).den ρ'=a+j:=by
 unfold tjX;split
 ·rw[ha];exact(Int.add_zero _).symm
 ·show aX.den ρ'+(_:Int)=_;rw[ha];rfl
theorem Qy{k:Nat}{r:R V}(ha:aX.den ρ'=a){b:Int} (hA:(AX k).den ρ'=b):∀ {m j:Nat},(owC k r j m).ag ρ'=if a+j+m<=b\/m=0 then r.ag ρ' else(abo k).ag ρ'
 |0,j=>by rw[if_pos (.inr rfl)];rfl
 |m+1,j=>by
  unfold owC;by_cases c:a+j<b
  ·rw[lu (by rw[bN,Rl ha,hA];exact decide_eq_true c),Qy ha hA];by_cases e:a+((j+1:Nat):Int)+m<=b\/m=0
   ·rw[if_pos e,if_pos (by left;omega)]
   ·rw[if_neg e,if_neg (by omega)]
  ·rw[eQ (by rw[bN,Rl ha,hA];exact decide_eq_false c),if_neg (by omega)]
theorem Qz(E:EnvB ρ' sx rg)(h:Db sx n)(ha:aX.den ρ'=a)(hw:w=1\/w=2\/w=4){fx:Int}(hf:ρ'.v 150=fx):∀ {m:Nat},m<=n->∃ x:X,(owT w m).ag ρ'=some (i64 x)/\x.den ρ'=MW fx sx a w m
 |0,_=>⟨_,rfl,rfl⟩
 |m+1,hm=>by
  obtain⟨x,i1,i2⟩:=Qz E h ha hw hf (m:=m) (by omega);have hst:=h.st m (by omega);have hwr:=hst.w;have hA:=wF E h.ok h.le (show m<n by omega);have hW:=sS E h.ok h.le (show m<n by omega);have hsub:(X.sub aX (AX m)).den ρ'=a-sx (3*m):=by
   show aX.den ρ'-(AX m).den ρ'=_;rw[ha,hA]
  unfold owT MW;by_cases c1:a<sx (3*m)
  ·rw[lu (by rw[bN,ha,hA];exact decide_eq_true c1),Qy ha hA];by_cases e:a+((1:Nat):Int)+((w-1:Nat):Int)<=sx (3*m)\/w-1=0
   ·rw[if_pos e,if_neg (by omega)];exact⟨x,i1,i2⟩
   ·rw[if_neg e,if_pos (by omega)];exact⟨_,rfl,GX hf m⟩
  ·rw[eQ (by rw[bN,ha,hA];exact decide_eq_false c1)];by_cases c2:a-sx (3*m)<sx (3*m+1)
   ·rw[lu (by rw[bN,hsub,hW];exact decide_eq_true c2),if_pos (by omega)];exact⟨_,rfl,GX hf m⟩
   ·rw[eQ (by rw[bN,hsub,hW];exact decide_eq_false c2),if_neg (by omega)];exact⟨x,i1,i2⟩
end
def wE:Nat->List V->List (Nat×V)->List (Nat×V)
 |_,[],r=>r
 |o,v::l,r=>(o,v)::wE (o+1) l r
theorem r9 {r:List (Nat×V)}:∀ {l:List V} {o i:Nat},(i<o->jt (wE o l r) i=jt r i)/\(o+l.length<=i->jt (wE o l r) i=jt r i)/\∀ j,j<l.length->i=o+j->jt (wE o l r) i=l[j]?
 |[],o,i=>⟨fun _=>rfl,fun _=>rfl,fun j hj=>by simp at hj⟩
 |v::l,o,i=>by
  obtain⟨h1,h2,h3⟩:=r9 (r:=r) (l:=l) (o:=o+1) (i:=i);have hl:(v::l).length=l.length+1:=rfl;refine⟨fun h=>?_,fun h=>?_,fun j hj e=>?_⟩
  ·show(if o=i then some v else jt (wE (o+1) l r) i)=_;rw[if_neg (by omega)];exact h1 (by omega)
  ·show(if o=i then some v else jt (wE (o+1) l r) i)=_;rw[if_neg (by omega)];exact h2 (by omega)
  ·show(if o=i then some v else jt (wE (o+1) l r) i)=_;cases j with
   |zero=>rw[if_pos (by omega)];rfl
   |succ j=>
    rw[if_neg (by omega)];exact h3 j (by omega) (by omega)
theorem Kk {r:List (Nat×V)}:∀ {l l':List V} {o:Nat},l.length=l'.length->ma (wE o l r)=ma (wE o l' r)
 |[],[],_,_=>rfl
 |v::l,v'::l',o,h=>by
  show o::ma (wE (o+1) l r)=o::ma (wE (o+1) l' r);rw[Kk (by simpa using h)]
 |[],_::_,_,h=>by simp at h
 |_::_,[],_,h=>by simp at h
theorem wM{ρ':Env}{π:Pl}{r:List V}:∀ {n o:Nat},V.ae ρ' π (Az o n r)=((List.range' o n).map fun i=>(π i).3)++V.ae ρ' π r
 |0,_=>rfl
 |n+1,o=>by
  show(π o).3::V.ae ρ' π (Az (o+1) n r)=_;rw[wM,List.range'_succ];rfl
section
variable {c:Cx} {ρ0:Env} {S:KS} {q:QS}
variable {W:World} (hro:aZ ρ0.ro) (hW:∀ x∈aj,W.heap[x.1]?=some (ρ0.ro x.1))
include hro hW
theorem anA(hng:c.ng=7)(hO:S.Ok ρ0 q):lq c (af ρ0 S) 102 (an3 q.n):=by
 intro args st v st' hs hthere S1 π0 w ac n hh ha;have hle:=hO.le;unfold an3 at hs;split at hs;rotate_left
 ·simp[R.ag]at hs
 rename_i cc a0 a1 a2 a3 a4 a5 a6;split at hs;rotate_left
 ·simp[R.ag]at hs
 rename_i l f x y k hd hk;split at hs;rotate_left
 ·simp[R.ag]at hs
 rename_i hck;obtain⟨k1,k2,k3,k4,k5,k6⟩:=ar hck;have k1:=V.aR _ _ k1;have k2:=V.beq_eq _ _ k2;have k5:0<q.n:=qqx k5;have k6:cc.length=41:=qqq k6;have hk3:=C0 hk;obtain⟨hc,hkd,hwd⟩:=p8 hh.pc k3 hk3 fun hc=>cC hro hW hO.hw hc
 have haO:(S.acc ρ0).Ok 16:=cC hro hW hO.hw hc;have hat:=haO.at_ (by omega) (by omega);simp only[sJ,R.ag,qqk,qqv]at hs;obtain⟨rfl,rfl⟩:=hs;obtain⟨b,hb,hlv⟩:∃ b,(0<q.n->st.h.get b=some (.cells (qL 0 q.n []) pe (some 3)))/\l=pr q.n b:=by
  rcases E6 k4 with⟨h0,_⟩|⟨h0,b,hl,hg⟩
  ·omega
  ·exact⟨b,fun _=>hg,hl⟩
 have hcc:cc=cc.take 37++[l,f,x,y]:=by
  have:cc.drop 37=[l,f,x,y]:=by rw[<-hd,cO]
  rw[<-this,List.take_append_drop]
 generalize ht:cc.take 37=c37 at hcc;have hl37:c37.length=37:=by rw[<-ht,qz3,k6];rfl
 let ρ':=gq (af ρ0 S) S.sx S.rg (S.acc ρ0).ad 0 0 fun _=>0
 have E:EnvB ρ' S.sx S.rg:=ky;have haX:aX.den ρ'=(S.acc ρ0).ad:=gT F7 haO.ad;have hf:ρ'.v 150=S.fx:=RZ (by omega);obtain⟨z,e1,e2⟩:=Qz E (mM hO) haX hk3 hf (qq2 q.n);have hchk:cw (Dk q.n) (eA cxB 102 (KY q.n k)) (owT k q.n)=true:=by
  obtain⟨m,hm⟩:∃ m,q.n=m+1:=⟨q.n-1,by omega⟩
  rw[hm];have hm4:m<4:=by omega
  rcases hk3 with e|e|e<;>subst e
  ·exact a8 apk m (fR hm4)
  ·exact a8 apl m (fR hm4)
  ·exact a8 apm m (fR hm4)
 let rest:List (Nat×V):=[(17,x),(18,y),(19,a0),(20,a3),(21,a4),(22,a5),(23,a6)]
 have hus:∀ i v,jt (wE 30 c37 rest) i=some v->17<=i/\i<67/\i≠26/\((v∈cc)\/v∈[a0,a1,a2,a3,a4,a5,a6]):=by
  intro i v h;obtain⟨h1,h2,h3⟩:=r9 (r:=rest) (l:=c37) (o:=30) (i:=i);by_cases hr:30<=i/\i<67
  ·have:=h3 (i-30) (by omega) (by omega);rw[this]at h;exact⟨by omega,hr.2,by omega,.inl (by rw[hcc];exact List.mem_append_left _ (qz2 h))⟩
  ·have:jt rest i=some v:=by
    by_cases hlt:i<30
    ·rw[<-h1 hlt];exact h
    ·rw[<-h2 (by omega)];exact h
   simp only[rest,jt]at this;split at this
   ·obtain rfl:=qqz this;exact⟨by omega,by omega,by omega,.inl (by rw[hcc];simp)⟩
   ·split at this
    ·obtain rfl:=qqz this;exact⟨by omega,by omega,by omega,.inl (by rw[hcc];simp)⟩
    ·split at this
     ·obtain rfl:=qqz this;exact⟨by omega,by omega,by omega,.inr (by simp)⟩
     ·split at this
      ·obtain rfl:=qqz this;exact⟨by omega,by omega,by omega,.inr (by simp)⟩
      ·split at this
       ·obtain rfl:=qqz this;exact⟨by omega,by omega,by omega,.inr (by simp)⟩
       ·split at this
        ·obtain rfl:=qqz this;exact⟨by omega,by omega,by omega,.inr (by simp)⟩
        ·split at this
         ·obtain rfl:=qqz this;exact⟨by omega,by omega,by omega,.inr (by simp)⟩
         ·cases this
 have OK:∀ {m:Nat},m<=q.n->ai ρ' (plF m++anf):=by
  intro m;induction m with
  |zero=>exact fun _=>ai.gw rfl ai.eL
  |succ m ih=>
   intro hm;have hst:=hO.st m (by omega);have hwr:=hst.w;have hle2:=hst.le;have hA:=wF E (IV hO) hle (show m<q.n by omega);have hWm:=sS E (IV hO) hle (show m<q.n by omega);refine ai.gw ?_ (ai.gw ?_ (ai.gw ?_ (ih (by omega))))
   ·show(X.le (AX m) (.lit 16)).tt ρ'=true;rw[cT,hA];exact decide_eq_true (show S.sx (3*m)<=(16:Int) by omega)
   ·show(X.le (.lit 1) (WX m)).tt ρ'=true;rw[cT,hWm];exact decide_eq_true (show(1:Int)<=S.sx (3*m+1) by omega)
   ·show(X.le (WX m) (.lit 4)).tt ρ'=true;rw[cT,hWm];exact decide_eq_true (show S.sx (3*m+1)<=(4:Int) by omega)
 have h16:(X.le aX (.lit 16)).tt ρ'=true:=by
  rw[cT,haX];exact decide_eq_true (show(S.acc ρ0).ad<=(16:Int) by omega)
 refine Mz (ρ:=af ρ0 S) (ρ':=ρ') (cx0:=cxB) hng dh dV rfl yu rfl hro Tryz.func102 (us:=wE 30 c37 rest) (n:=q.n) (b:=b) (sx:=S.sx) (rg:=S.rg) (cs:=qL 0 q.n []) hb (fun π=>by
  rw[jq hO (by omega)];exact qk8 _) E (mM hO) hthere (fun i v h=>?_) ?_ (ai.gw (VR haO hkd hwd haX) (ai.gw h16 (OK (qq2 _)))) (fun π=>?_) hchk e1 (fun π π'=>?_) hh ha
 ·obtain⟨h1,h2,h3,h4⟩:=hus i v h;refine⟨by omega,h3,by omega,?_⟩;rcases h4 with h4|h4
  ·exact⟨cc,h4,by simp⟩
  ·exact⟨_,h4,by simp⟩
 ·have hkey:ma (wE 30 c37 rest)=ma (wE 30 (Az 30 37 []) rest):=Kk (by rw[hl37];rfl);rw[hkey];have:∀ n,dU 7 (eJ (Dk n)++ma (wE 30 (Az 30 37 []) rest)) (V.gz (KY n k).args)=true:=fun n=>by
   cases n with
   |zero=>rfl
   |succ n=>rfl
  exact this _
 ·have hu:∀ i v,jt (wE 30 c37 rest) i=some v->(fw (wE 30 c37 rest) (eD (Cw q.n b)) (af ρ0 S) π i).3=v.ab (af ρ0 S) π:=fun i v h=>by rw[wc h]
  have hlow:∀ i,i<30->jt (wE 30 c37 rest) i=jt rest i:=fun i hi=>(r9 (r:=rest) (l:=c37) (o:=30) (i:=i)).1 hi
  have e37:((List.range' 30 37).map fun i=>(fw (wE 30 c37 rest) (eD (Cw q.n b)) (af ρ0 S) π i).3)=V.ae (af ρ0 S) π c37:=by
   rw[aU];refine List.ext_getElem (by simp[hl37]) fun i h1 h2=>?_
   simp only[qz9,List.getElem_range'];simp only[qz8]at h2;refine hu _ _ ?_;rw[(r9 (r:=rest) (l:=c37) (o:=30) (i:=30+1*i)).2.2 i h2 (by omega),qq0 h2]
  have hd0:np.den (af ρ0 S)=(S.acc ρ0).ad:=fU rfl haO.ad;injection k1 with k1a k1b;injection k1b with k1b _;have elv:(pr q.n b).ab (af ρ0 S) π=(pr q.n 26).ab ρ' (fw (wE 30 c37 rest) (eD (Cw q.n b)) (af ρ0 S) π):=by
   have:fw (wE 30 c37 rest) (eD (Cw q.n b)) (af ρ0 S) π 26=π (eD (Cw q.n b) 26):=dC (hlow 26 (by omega));cases hq:q.n with
   |zero=>rfl
   |succ m=>
    rw[hq]at this;have this:fw (wE 30 c37 rest) (eD (Cw (m+1) b)) (af ρ0 S) π 26=π b:=this;simp only[pr,V.ab,Cp.ab,this]
  show[Value.agg (V.ae (af ρ0 S) π cc).toArray,.agg (V.ae (af ρ0 S) π [a0,a1,a2,a3,a4,a5,a6]).toArray]=[Value.agg (V.ae ρ' _ (Az 30 37 [pr q.n 26,i64 (.var 150),.any 17,.any 18])).toArray,.agg (V.ae ρ' _ [.any 19,u32 aX,i64 (nl k),.any 20,.any 21,.any 22,.any 23]).toArray];rw[wM,e37,hcc,aW,hlv,k2,k1a,k1b];have g1:V.ae (af ρ0 S) π [pr q.n b,i64 (.var 150),x,y]=V.ae ρ' (fw (wE 30 c37 rest) (eD (Cw q.n b)) (af ρ0 S) π) [pr q.n 26,i64 (.var 150),.any 17,.any 18]:=by
   show[(pr q.n b).ab _ _,Value.int .i64 S.fx,x.ab _ _,y.ab _ _]=[(pr q.n 26).ab _ _,Value.int .i64 (ρ'.v 150),(fw _ _ _ π 17).3,(fw _ _ _ π 18).3];rw[elv,hf,hu 17 x (hlow 17 (by omega)),hu 18 y (hlow 18 (by omega))]
  have g2:V.ae (af ρ0 S) π [a0,u32 np,i64 (nl k),a3,a4,a5,a6]=V.ae ρ' (fw (wE 30 c37 rest) (eD (Cw q.n b)) (af ρ0 S) π) [.any 19,u32 aX,i64 (nl k),.any 20,.any 21,.any 22,.any 23]:=by
   show[a0.ab _ _,Value.int .u32 (np.den _),.int .i64 (k:Int),a3.ab _ _,a4.ab _ _,a5.ab _ _,a6.ab _ _]=[(fw _ _ _ π 19).3,Value.int .u32 (aX.den ρ'),.int .i64 (k:Int),(fw _ _ _ π 20).3,(fw _ _ _ π 21).3,(fw _ _ _ π 22).3,(fw _ _ _ π 23).3];rw[hd0,haX,hu 19 a0 (hlow 19 (by omega)),hu 20 a3 (hlow 20 (by omega)),hu 21 a4 (hlow 21 (by omega)),hu 22 a5 (hlow 22 (by omega)),hu 23 a6 (hlow 23 (by omega))]
  rw[g1,g2]
 ·show Value.int .i64 (MW S.fx S.sx (S.acc ρ0).ad (S.acc ρ0).w S.n)=Value.int .i64 (z.den ρ');rw[e2,hO.n,hwd]
end
theorem Xa:∀ f n,f<4->n<=4->dU 7 ([14,15,16]++[17,18,19,20,21,22,23,24,25]) (ak.cells (jZ f n) im none).iB=true:=by
 intro f n hf hn;have h1:eI (fun f=>eI (fun n=>dU 7 ([14,15,16]++[17,18,19,20,21,22,23,24,25]) (ak.cells (jZ f n) im none).iB) r5) r4=true:=by kernel_rfl
 exact a8 (a8 h1 f (fR hf)) n (ni hn)
theorem acN{rv k m pk wo a0 a1 a2 a3 a4 a5 a6:V}{i:Nat}{v:V} (h:jt [(17,.xslice false 13 (.lit 0) 1 (.var 40) (.room (.var 40))),(18,rv),(19,m),(20,pk),(21,wo),(22,a3),(23,a4),(24,a5),(25,a6)] i=some v):i<100/\(v∈coreC rv\/v∈[k,m,pk,wo,a0,a1,a2,a3,a4,a5,a6]):=by
 simp only[jt]at h;have L:m∈[k,m,pk,wo,a0,a1,a2,a3,a4,a5,a6]/\pk∈[k,m,pk,wo,a0,a1,a2,a3,a4,a5,a6]/\wo∈[k,m,pk,wo,a0,a1,a2,a3,a4,a5,a6]/\a3∈[k,m,pk,wo,a0,a1,a2,a3,a4,a5,a6]/\a4∈[k,m,pk,wo,a0,a1,a2,a3,a4,a5,a6]/\a5∈[k,m,pk,wo,a0,a1,a2,a3,a4,a5,a6]/\a6∈[k,m,pk,wo,a0,a1,a2,a3,a4,a5,a6]:=by simp
 obtain⟨l1,l2,l3,l4,l5,l6,l7⟩:=L;split at h
 ·exact qqz h▸⟨by omega,.inl (List.mem_append_right _ (qq1 ..))⟩
 split at h
 ·exact qqz h▸⟨by omega,.inl (List.mem_append_right _ (qq3 _ (qq3 _ (qq3 _ (qq3 _ (qq1 ..))))))⟩
 split at h
 ·exact qqz h▸⟨by omega,.inr l1⟩
 split at h
 ·exact qqz h▸⟨by omega,.inr l2⟩
 split at h
 ·exact qqz h▸⟨by omega,.inr l3⟩
 split at h
 ·exact qqz h▸⟨by omega,.inr l4⟩
 split at h
 ·exact qqz h▸⟨by omega,.inr l5⟩
 split at h
 ·exact qqz h▸⟨by omega,.inr l6⟩
 split at h
 ·exact qqz h▸⟨by omega,.inr l7⟩
 ·cases h
theorem lt7{g:Nat}(h:g<7):g=0\/g=1\/g=2\/g=3\/g=4\/g=5\/g=6:=by omega
theorem anl{a b c:Nat} (h:iC [a,b,c]=true):a≠b/\a≠c/\b≠c:=by
 have h1:=h;unfold iC at h1;refine⟨fun e=>?_,fun e=>?_,fun e=>?_⟩<;>subst e<;>simp[iC,dW]at h
section
variable {c:Cx} {ρ0:Env} {S:KS} {q:QS}
variable {W:World} (hro:aZ ρ0.ro) (hW:∀ x∈aj,W.heap[x.1]?=some (ρ0.ro x.1))
include hro hW
theorem acM(hng:c.ng=7)(hO:S.Ok ρ0 q):lq c (af ρ0 S) 126 (Xp q.n):=by
 intro args st v st' hs hthere S1 π0 w ac n hh ha;have hle:=hO.le;have hR:=mG hO;unfold Xp at hs;split at hs;rotate_left
 ·simp[R.ag]at hs
 rename_i x;split at hs;rotate_left
 ·simp[R.ag]at hs
 rename_i k m pk wo a0 a1 a2 a3 a4 a5 a6 e hx;split at hs;rotate_left
 ·simp[R.ag]at hs
 rename_i cc e' hk;split at hs;rotate_left
 ·simp[R.ag]at hs
 rename_i rv wd hrv hwv;split at hs;rotate_left
 ·simp[R.ag]at hs
 rename_i hck;obtain⟨k1,k2,k3,k4,k5,k6⟩:=ar hck;obtain⟨k7,k8,k9,_⟩:=ar k6;obtain rfl:=V.aR _ _ k1;have k2:=V.aR _ _ k2;obtain rfl:=qqq k4;obtain rfl:=qqq k5;have k8:0<q.n:=qqx k8;obtain⟨d1,d2,d3⟩:=anl k9;have hb:=eG k7;have hk3:=C0 hwv;obtain⟨hc,hkd,hwd⟩:=p8 hh.pc k3 hk3 fun hc=>cC hro hW hO.hw hc
 have haO:(S.acc ρ0).Ok 16:=cC hro hW hO.hw hc;have hat:=haO.at_ (by omega) (by omega);simp only[sJ,R.ag,qqk,qqv]at hs;obtain⟨rfl,rfl⟩:=hs;injection k2 with k2a k2b;injection k2b with k2b k2c;injection k2c with k2c _;subst k2a k2b k2c;let ρ':=gq (af ρ0 S) S.sx S.rg (S.acc ρ0).ad 0 wd fun _=>0
 have E:EnvB ρ' S.sx S.rg:=ky;have haX:aX.den ρ'=(S.acc ρ0).ad:=gT F7 haO.ad;have hwX:(X.wrap .u8 (va 732)).den ρ'=wd:=IZ aba (by omega);have hf:ρ'.v 150=S.fx:=RZ (by omega);have hd0:np.den (af ρ0 S)=(S.acc ρ0).ad:=fU rfl haO.ad;obtain⟨z,e1,e2⟩:=Rk E (mM hO) haX hwX ⟨haO.ad.1,by omega⟩ hk3 hf (qq2 q.n);have hchk:cw (WJ (S.rg 12).toNat q.n).items (eA cxB 126 (WJ (S.rg 12).toNat q.n)) (teT q.n)=true:=by
  obtain⟨m,hm⟩:∃ m,q.n=m+1:=⟨q.n-1,by omega⟩
  rw[hm];exact a8 (a8 atV _ (fR hR.fl)) m (fR (by omega))
 obtain⟨lf,l1,l2,l3,l4⟩:=g9 hchk e1;let cod:V:=.xslice false 13 (.lit 0) 1 (.var 40) (.room (.var 40));let us:List (Nat×V):=[(17,cod),(18,rv),(19,m),(20,pk),(21,wo),(22,a3),(23,a4),(24,a5),(25,a6)]
 let r:List (Nat×Nat):=[(15,k),(16,x)]
 have h14:∀ (r':Nat->Nat),(∀ j,j<100->r' j=eD r j)->∀ π,fw us r' (af ρ0 S) π 14=π 14:=fun r' hr' π=>by
  rw[dC (i:=14) rfl,hr' 14 (by omega)];rfl
 have h15:∀ (r':Nat->Nat),(∀ j,j<100->r' j=eD r j)->∀ π,fw us r' (af ρ0 S) π 15=π k:=fun r' hr' π=>by
  rw[dC (i:=15) rfl,hr' 15 (by omega)];rfl
 refine u7 (ρ:=af ρ0 S) (ρ':=ρ') (cx0:=cxB) hng dh dV rfl yu rfl hro Tryz.func126 (us:=us) (r:=r) (p:=WJ (S.rg 12).toNat q.n) rfl ?_ ?_ ?_ hthere ?_ rfl ai.eL (fun π=>rfl) l1 (fun y hy=>by rw[l3];exact hy) l4 (fun π=>?_) hh ha
 ·intro i o0 hi;have hi:(i,o0)∈[oB (jZ (S.rg 12).toNat q.n),(15,.cells tlT Nq none),(16,.cells tlA Ul none)]:=hi;simp only[List.mem_cons,qk6,or_false,oB]at hi;rcases hi with hi|hi|hi<;>injection hi with hi1 hi2<;>subst hi1 hi2
  ·refine⟨rfl,by omega,rfl,Xa _ _ hR.fl hR.le,_,hb,rfl,cD (r:=r) rfl (by omega) fun r' hr' π=>?_⟩;rw[du (rg:=S.rg) fun i hi=>zA ρ0 S hi,jn E hR]
  ·refine⟨rfl,by omega,rfl,by kernel_rfl,_,hk,rfl,cD (r:=r) rfl (by omega) fun r' hr' π=>?_⟩;have e1:V.ae (af ρ0 S) π (Bs fun i=>.var (100+i))=V.ae ρ' (fw us r' (af ρ0 S) π) (Bs fun i=>.var (100+i)):=by
    unfold Bs;show Value.int .i64 ((af ρ0 S).v 42)::V.ae _ _ (S5 _ 1 33 _)=Value.int .i64 (ρ'.v 42)::V.ae _ _ (S5 _ 1 33 _);rw[rX,rX,show ρ'.v 42=(af ρ0 S).v 42 from RZ (by omega)];have p1:(List.range' 1 33).map (fun i=>Value.int .u32 ((X.var (100+i)).den (af ρ0 S)))=(List.range' 1 33).map fun i=>Value.int .u32 ((X.var (100+i)).den ρ'):=by
     refine qz5 fun i hi=>?_
     obtain⟨j,h1,h2⟩:=List.mem_range'.1 hi;show Value.int .u32 ((af ρ0 S).v (100+i))=Value.int .u32 (ρ'.v (100+i));rw[show ρ'.v (100+i)=(af ρ0 S).v (100+i)from RZ (by omega)]
    rw[p1];show _::(_++[Value.int .i64 ((af ρ0 S).v (100+34))])=_::(_++[Value.int .i64 (ρ'.v (100+34))]);rw[show ρ'.v (100+34)=(af ρ0 S).v (100+34)from RZ (by omega)]
   unfold coreC tlT;rw[aW,aW,e1];congr 1;show[cod.ab (af ρ0 S) π,Value.int .i64 16,.pointer (some ⟨(π 14).1,0,none⟩),.int .i64 ((af ρ0 S).v 150),rv.ab (af ρ0 S) π]=[cod.ab (af ρ0 S) π,Value.int .i64 16,.pointer (some ⟨(fw us r' (af ρ0 S) π 14).1,0,none⟩),.int .i64 (ρ'.v 150),rv.ab (af ρ0 S) π];rw[h14 r' hr' π,show ρ'.v 150=(af ρ0 S).v 150 from RZ (by omega)]
  ·refine⟨rfl,by omega,rfl,by kernel_rfl,_,hx,rfl,cD (r:=r) rfl (by omega) fun r' hr' π=>?_⟩;show[Value.pointer (some ⟨(π k).1,0,none⟩),m.ab (af ρ0 S) π,pk.ab (af ρ0 S) π,wo.ab (af ρ0 S) π,.int .i64 1,.int .u32 (np.den (af ρ0 S)),.int .i64 (wd:Int),a3.ab (af ρ0 S) π,a4.ab (af ρ0 S) π,a5.ab (af ρ0 S) π,a6.ab (af ρ0 S) π] =
    [Value.pointer (some ⟨(fw us r' (af ρ0 S) π 15).1,0,none⟩),m.ab (af ρ0 S) π,pk.ab (af ρ0 S) π,wo.ab (af ρ0 S) π,.int .i64 1,.int .u32 (aX.den ρ'),.int .i64 ((X.wrap .u8 (va 732)).den ρ'),a3.ab (af ρ0 S) π,a4.ab (af ρ0 S) π,a5.ab (af ρ0 S) π,a6.ab (af ρ0 S) π]
   rw[h15 r' hr' π,hd0,haX,hwX]
 ·intro i j hi hj he;have hi:i∈[14,15,16]:=hi;have hj:j∈[14,15,16]:=hj;simp only[List.mem_cons,qk6,or_false]at hi hj;have n14:eD r 14=14:=rfl;have n15:eD r 15=k:=rfl;have n16:eD r 16=x:=rfl;rcases hi with rfl|rfl|rfl<;>rcases hj with rfl|rfl|rfl<;>simp only[n14,n15,n16]at he<;>first|rfl|omega
 ·intro g hg;rcases lt7 hg with rfl|rfl|rfl|rfl|rfl|rfl|rfl<;>exact⟨rfl,rfl⟩
 ·intro i v h;obtain⟨h1,h2|h2⟩:=acN h
  ·exact⟨h1,_,h2,.inl ⟨_,_,_,hk⟩⟩
  ·exact⟨h1,_,h2,.inl ⟨_,_,_,hx⟩⟩
 ·show Value.int .i64 (MW S.fx S.sx (S.acc ρ0).ad (S.acc ρ0).w S.n)=lf.v.ab ρ' _;rw[l2];show _=Value.int .i64 (z.den ρ');rw[e2,hO.n,hwd]
end
end Go.Proofs.YtgcbnjpeifigaaaGreatDoor
