/- AloneAgain: the calls of a told hart's round answer as the tables tell. No condition. -/
import Derived.Test.YtmickljjofbmiaaGreatDoorQSeq
namespace Go.Proofs.YtmickljjofbmiaaGreatDoor
open Go Go.Proofs
noncomputable def bV(ρ:Env)(p:Par)(s0:fg)(n:Nat):Env:={cf ρ p s0 n with v:=fun i=>if i=140 then (ie p s0 n:Int) else (cf ρ p s0 n).v i}
section
variable {ρ:Env} {p:Par} {s0:fg} {n:Nat}
theorem afZ{i:Nat}(h:eg i tM.vs=false):i≠140:=fun e=>by
 subst e
 exact absurd h (by decide)
theorem Uv{i:Nat}(h:i≠140):(bV ρ p s0 n).v i=(cf ρ p s0 n).v i:=if_neg h
theorem jg{i:Nat}(h:eg i tM.vs=false):(bV ρ p s0 n).v i=ρ.v i:=(Uv (afZ h)).trans (An h)
theorem iF{i:Nat}(h1:1≤i)(h2:i≤34):(bV ρ p s0 n).v (100+i)=(ak p s0 n).h.cell i:=(Uv (by omega)).trans (gq h1 h2)
theorem sK{i:Nat}(h:Lo tM.ts i=false):(bV ρ p s0 n).f1 i=ρ.f1 i:=zN h
theorem uX{c:Nat}(h:c<14):(bV ρ p s0 n).f1 (31+c)=jN p s0 n c:=pT h
theorem ab3(n m:Nat):Agree tM (bV ρ p s0 n) (bV ρ p s0 m):=⟨fun i h=>by rw [jg h,jg h],fun i h=>by rw [sK h,sK h],rfl,rfl,rfl,rfl,rfl,rfl⟩
theorem Zd(n:Nat):Agree tM ρ (bV ρ p s0 n):=⟨fun _ h=>jg h,fun _ h=>sK h,rfl,rfl,rfl,rfl,rfl,rfl⟩
theorem El(n:Nat):Agree tM (bV ρ p s0 n) ρ:=⟨fun _ h=>(jg h).symm,fun _ h=>(sK h).symm,rfl,rfl,rfl,rfl,rfl,rfl⟩
end
structure CX (p:Par) (s0:fg) (N:Nat) (ρ:Env):Prop where
 T:Ao p s0 ρ
 hart:∀ n i:Nat,i≤34→ρ.f2 15 n i=(KW p s0 N n).1.cell i
 com:∀ n i:Nat,i<7→ρ.f2 15 n (35+i:Nat)=(KW p s0 N n).2.cell i
 a0:ρ.f1 75=cy p s0 N 0
 a1:ρ.f1 76=cy p s0 N 1
 len:ρ.v 62=(ie p s0 N:Int)
theorem CX.at{p:Par}{s0:fg}{N:Nat}{ρ:Env}(T:CX p s0 N ρ)(n:Nat):CX p s0 N (bV ρ p s0 n):=
 ⟨⟨T.T.ro,(jg (by decide)).trans T.T.size,(jg (by decide)).trans T.T.id,T.T.acc,T.T.why,T.T.am0,T.T.am1,T.T.am2,T.T.hart,T.T.com⟩,T.hart,T.com,(sK (by decide)).trans T.a0,(sK (by decide)).trans T.a1,(jg (by decide)).trans T.len⟩
noncomputable def Cm(r:RowX)(at_:X):kP:=smQ 46 47 aj r at_
section
variable {W:World} {p:Par} (hro:aZ p.ro) (hW:∀ x∈aj,W.heap[x.1]?=some (p.ro x.1))
variable {s0:fg} {N:Nat} {ρ:Env} (T:CX p s0 N ρ) {k:Nat} {r:RowX} (R:RowOk p (ak p s0 k) ρ k r) {at_:X} (hat:at_.den ρ=(ie p s0 k:Int))
variable (hs:(ak p s0 k).h.Ok) (hi:(ak p s0 k).h.id=p.id) (hc:au ρ r.g→(ak p s0 k).h.cause=0) (hsz:16≤p.size∧p.size≤4096)
include hro hW T R hs hc hi hsz hat
theorem O8:SumOk Tryz.prog (jL (Cm r at_)) ρ:=by
 refine nu (l:=Cm r at_) ⟨vi hc rfl Tryz.func46 fun h0=>?_,vi hc rfl Tryz.func47 fun h0=>?_,trivial⟩ rfl
 ·have h:=jO hro hW hs h0 10
  refine It hro hW T.T R hs h0 hsz (fun n sz=>rfl) (g:=fun n k w=>.tuple [W9 n k w,i64 (tb 1 n 7),i64 (.lit 0)]) (by rw [T.T.ro];exact h.act) (fun π=>?_) (fun _ _ _=>rfl) (fun _ _=>rfl)
  have e7:=(a9 R.n 1 7).trans (T.T.why k)
  simp only [V.ae,V.af,CN hro hW T.T R hs h0,i64,e7]
  rfl
 ·have ha:=fA hro hW hs h0
  have hren:∀ b q,(V.tuple [j1 b r.n,vP b r.n,i64 (.lit 0)]).lR q=V.tuple [j1 b r.n,vP b r.n,i64 (.lit 0)]:=fun b q=>by
   show V.tuple [(j1 b r.n).lR q,vP b r.n,i64 (.lit 0)]=_
   rw [Dp]
  have hnw:∀ b,(V.tuple [j1 b r.n,vP b r.n,i64 (.lit 0)]).bQ=true:=fun b=>by
   show ((j1 b r.n).bQ&&((vP b r.n).bQ&&true))=true
   rw [xO]
   rfl
  have hargs:∀ {x o:X} {xv:Int} {ov:Bool},x.den ρ=xv→o.tt ρ=ov→∀ π,V.af ρ π [r.h,u32 r.w,Pu,.agg [u32 x,.bool o]]=[.agg (ak p s0 k).h.c.toArray,.int .u32 (eI p (ak p s0 k)),.int .i64 p.size,.agg #[.int .u32 xv,.bool ov]]:=fun {x o xv ov} hx ho π=>by
   have e1:=R.w π
   simp only [V.af,R.h π,e1,Pu,V.ae]
   rw [show (X.var 50).den ρ=p.size from T.T.size]
   simp only [u32,V.ae,hx,ho]
  intro y hy
  simp only [alX,List.mem_cons,List.not_mem_nil,or_false] at hy
  rcases hy with rfl | rfl
  ·refine uZ (by rw [T.T.ro];exact (jO hro hW hs h0 10).commit) (hargs (x:=.lit 0) (o:=.lit 0) rfl rfl) (fun π=>?_) (hren 10) (hnw 10)
   simp only [V.ae,V.af,Dr hro hW T.T R hs h0 hi (b:=10) (by omega) (by omega),JI hro hW T.T R hs h0 (b:=10) (by omega) (by omega)]
   rfl
  ·have h:=Mm hro hW hs h0 (ok:=Kh p s0 N k) (RJ (p:=p) (s0:=s0) (n:=k) (N:=N))
   have hx:(rU (.fn1 75 at_)).den ρ=Br p s0 N k:=by
    show IntKind.u32.wrap (ρ.f1 75 (at_.den ρ))=_
    rw [T.a0,hat]
    rfl
   have ho:(X.eq (.fn1 76 at_) (.lit 1)).tt ρ=Kh p s0 N k:=by
    rw [cD]
    show (ρ.f1 76 (at_.den ρ)==1)=_
    rw [T.a1,hat]
    rfl
   refine uZ (by rw [T.T.ro];exact h.commit) (hargs hx ho) (fun π=>?_) (hren 15) (hnw 15)
   have e1:(j1 15 r.n).ae ρ π=.agg (KW p s0 N k).1.c.toArray:=ly h.hart (by rw [T.T.id,h.id,hi]) (fun i _ hi=>by rw [a9 R.n];exact T.hart k i hi) π
   have e2:(vP 15 r.n).ae ρ π=.agg ((KW p s0 N k).2.c (acc p (ak p s0 k))).toArray:=D7 R.n ha.ad ha.v (fun i hi=>T.T.acc k i hi) (fun i hi=>T.com k i hi) π
   simp only [V.ae,V.af,e1,e2]
   rfl
end
end Go.Proofs.YtmickljjofbmiaaGreatDoor
