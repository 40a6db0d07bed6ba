/- Alone: the loops of alone.Run and of the document's Run are told. No condition. -/
import Derived.Test.YtmickljjofbmiaaGreatDoorARow
namespace Go.Proofs.YtmickljjofbmiaaGreatDoor
open Go Go.Proofs
structure zM (p:Par) (s0:fg) (ρ:Env):Prop where
 T:Ao p s0 ρ
 code:ρ.f1 10=p.code
 len:ρ.v 40=p.len
 bytes:ρ.f1 20=s0.m
 h:s0.h=vw p.id
 res:s0.res=false
 at_:s0.at_=0
 id:0≤p.id∧p.id≤3
 len1:1≤p.len
 size:16≤p.size∧p.size≤4096
structure SpecM (p:Par) (s0:fg) (ρ:Env) (N:Nat):Prop where
 n1:1≤N
 most:(N:Int)≤ρ.v 43
 go:∀ j,j<N→(ak p s0 j).h.cause=0
 stop:(N:Int)=ρ.v 43∨(ak p s0 N).h.cause≠0
 n:ρ.v 60=N
 hart:∀ i,1≤i→i≤34→ρ.v (500+i)=(ak p s0 N).h.cell i
 res:ρ.v 540=bc (ak p s0 N).res
 at_:ρ.v 541=(ak p s0 N).at_
 mem:ρ.f1 50=(ak p s0 N).m
 row:∀ c,c<14→ρ.f1 (60+c)=jN p s0 N c
def ajQ(p:Par)(s:fg):Prop:=dD p s=true∧Y1 p s
section
variable {W:World} {p:Par} (hro:aZ p.ro) (hW:∀ x∈aj,W.heap[x.1]?=some (p.ro x.1))
variable {s0:fg} {ρ:Env} (B:zM p s0 ρ)
omit hro hW in
include B in
theorem m5:s0.h.Ok∧s0.h.id=p.id∧(0≤s0.at_∧s0.at_≤4294967295)∧s0.h.cause=0:=by
 rw [B.h,B.at_]
 exact⟨C5 B.id,rfl,by omega,rfl⟩
include hro hW B
theorem pI(n:Nat):(ak p s0 n).h.Ok∧(ak p s0 n).h.id=p.id∧(0≤(ak p s0 n).at_∧(ak p s0 n).at_≤4294967295):=
 MB hro hW (m5 B).1 (m5 B).2.1 (m5 B).2.2.1 n
omit hro hW in
theorem Vd:dD p s0=true:=by
 have h:=B.len1
 have e:s0.h.pc=0:=by rw [B.h];rfl
 unfold dD
 rw [Bool.and_eq_true,decide_eq_true_iff,decide_eq_true_iff,e]
 exact⟨rfl,by show (0:Int)<p.len;omega⟩
omit hro hW in
theorem OM(t:Nat)(ht:ρ.f1 t=s0.m):RowOk p (ak p s0 0) ρ 0 (Ia t):=by
 have h:=m5 B
 refine⟨rfl,fun π=>?_,fun π=>?_,ht,?_⟩
 ·show abp.ae ρ π=.agg s0.h.c.toArray
  refine ly h.1 (by rw [B.T.id,h.2.1]) (fun i h1 h2=>?_) π
  show (0:Int)=s0.h.cell i
  rw [B.h]
  match i,h1 with
  | 1,_=>rfl
  | i+2,_=>
   show (0:Int)=if i<32 then ((List.replicate 32 (0:Int))[i]?).getD 0 else 0
   split
   ·rename_i hi
    rw [List.getElem?_replicate_of_lt hi]
    rfl
   ·rfl
 ·show Value.int .u32 (IntKind.u32.wrap (ρ.f1 10 0))=Value.int .u32 (eI p s0)
  have:0≤IntKind.u32.wrap (p.code 0):=by simp [IntKind.wrap,IntKind.bits,IntKind.signed];omega
  unfold eI
  rw [B.h,B.code]
  show Value.int .u32 (IntKind.u32.wrap (p.code 0))=Value.int .u32 (((IntKind.u32.wrap (p.code 0)).toNat:Nat):Int)
  rw [Int.toNat_of_nonneg this]
 ·show (0:Int)=s0.at_
  rw [B.at_]
omit hro hW B in
theorem Zy(T:Ao p s0 ρ)(hcode:ρ.f1 10=p.code)(n:Nat) (hs:(ak p s0 n).h.Ok) (hi:(ak p s0 n).h.id=p.id) {t:Nat} (ht:(cf ρ p s0 n).f1 t=(ak p s0 n).m):RowOk p (ak p s0 n) (cf ρ p s0 n) n (GW t):=by
 refine⟨rfl,fun π=>?_,fun π=>?_,ht,rfl⟩
 ·show U9.ae (cf ρ p s0 n) π=_
  refine ly hs (by rw [(T.at n).id,hi]) (fun i h1 h2=>?_) π
  exact gq h1 h2
 ·have e:(cf ρ p s0 n).v 101=(ak p s0 n).h.pc:=gq (i:=1) (by omega) (by omega)
  show Value.int .u32 (IntKind.u32.wrap (ρ.f1 10 (IntKind.u32.wrap (((cf ρ p s0 n).v 101).tdiv 4))))=Value.int .u32 (eI p (ak p s0 n))
  rw [e,hcode]
  unfold eI
  have:0≤IntKind.u32.wrap (p.code (IntKind.u32.wrap ((ak p s0 n).h.pc.tdiv 4))):=by simp [IntKind.wrap,IntKind.bits,IntKind.signed];omega
  rw [Int.toNat_of_nonneg this]
end
end Go.Proofs.YtmickljjofbmiaaGreatDoor
