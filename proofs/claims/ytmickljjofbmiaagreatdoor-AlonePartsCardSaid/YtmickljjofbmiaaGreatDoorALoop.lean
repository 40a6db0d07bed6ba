/- Alone: the loops of alone.Run and of the document's Run are told. No condition. -/
import Derived.Test.YtmickljjofbmiaaGreatDoorARow
namespace Go.Proofs.YtmickljjofbmiaaGreatDoor
open Go Go.Proofs
structure FK (p:Par) (s0:jB) (ρ:Env):Prop where
 T:Dr p s0 ρ
 code:ρ.f1 10=p.code
 len:ρ.v 40=p.len
 bytes:ρ.f1 20=s0.m
 h:s0.h=zD p.id
 res:s0.res=false
 at_:s0.at_=0
 id:0≤p.id∧p.id≤3
 len1:1≤p.len
 size:16≤p.size∧p.size≤4096
structure SpecM (p:Par) (s0:jB) (ρ:Env) (N:Nat):Prop where
 n1:1≤N
 most:(N:Int)≤ρ.v 43
 go:∀ j,j<N→(aA p s0 j).h.cause=0
 stop:(N:Int)=ρ.v 43∨(aA p s0 N).h.cause≠0
 n:ρ.v 60=N
 hart:∀ i,1≤i→i≤34→ρ.v (500+i)=(aA p s0 N).h.cell i
 res:ρ.v 540=a7 (aA p s0 N).res
 at_:ρ.v 541=(aA p s0 N).at_
 mem:ρ.f1 50=(aA p s0 N).m
 row:∀ c,c<14→ρ.f1 (60+c)=si p s0 N c
def aql(p:Par)(s:jB):Prop:=fS p s=true∧YG p s
section
variable {W:World} {p:Par} (hro:bx p.ro) (hW:∀ x∈aj,W.heap[x.1]?=some (p.ro x.1))
variable {s0:jB} {ρ:Env} (B:FK p s0 ρ)
omit hro hW in
include B in
theorem pF:s0.h.Ok∧s0.h.id=p.id∧(0≤s0.at_∧s0.at_≤4294967295)∧s0.h.cause=0:=by
 rw [B.h,B.at_]
 exact⟨Pg B.id,rfl,by omega,rfl⟩
include hro hW B
theorem KI(n:Nat):(aA p s0 n).h.Ok∧(aA p s0 n).h.id=p.id∧(0≤(aA p s0 n).at_∧(aA p s0 n).at_≤4294967295):=
 Tg hro hW (pF B).1 (pF B).2.1 (pF B).2.2.1 n
omit hro hW in
theorem aaz:fS p s0=true:=by
 have h:=B.len1
 have e:s0.h.pc=0:=by rw [B.h];rfl
 unfold fS
 rw [Bool.and_eq_true,decide_eq_true_iff,decide_eq_true_iff,e]
 exact⟨rfl,by show (0:Int)<p.len;omega⟩
omit hro hW in
theorem YT(t:Nat)(ht:ρ.f1 t=s0.m):RowOk p (aA p s0 0) ρ 0 (abL t):=by
 have h:=pF B
 refine⟨rfl,fun π=>?_,fun π=>?_,ht,?_⟩
 ·show Zr.ae ρ π=.agg s0.h.c.toArray
  refine rQ h.1 (by rw [B.T.id,h.2.1]) (fun i h1 h2=>?_) π
  show (0:Int)=s0.h.cell i
  rw [B.h]
  match i,h1 with
  | 1,_=>rfl
  | i+2,_=>
   show (0:Int)=if i<32 then ((List.replicate 32 (0:Int))[i]?).getD 0 else 0
   split
   ·rename_i hi
    rw [List.getElem?_replicate_of_lt hi]
    rfl
   ·rfl
 ·show Value.int .u32 (IntKind.u32.wrap (ρ.f1 10 0))=Value.int .u32 (fE p s0)
  have:0≤IntKind.u32.wrap (p.code 0):=by simp [IntKind.wrap,IntKind.bits,IntKind.signed];omega
  unfold fE
  rw [B.h,B.code]
  show Value.int .u32 (IntKind.u32.wrap (p.code 0))=Value.int .u32 (((IntKind.u32.wrap (p.code 0)).toNat:Nat):Int)
  rw [Int.toNat_of_nonneg this]
 ·show (0:Int)=s0.at_
  rw [B.at_]
omit hro hW B in
theorem YU(T:Dr p s0 ρ)(hcode:ρ.f1 10=p.code)(n:Nat) (hs:(aA p s0 n).h.Ok) (hi:(aA p s0 n).h.id=p.id) {t:Nat} (ht:(ck ρ p s0 n).f1 t=(aA p s0 n).m):RowOk p (aA p s0 n) (ck ρ p s0 n) n (abM t):=by
 refine⟨rfl,fun π=>?_,fun π=>?_,ht,rfl⟩
 ·show Zs.ae (ck ρ p s0 n) π=_
  refine rQ hs (by rw [(T.at n).id,hi]) (fun i h1 h2=>?_) π
  exact g8 h1 h2
 ·have e:(ck ρ p s0 n).v 101=(aA p s0 n).h.pc:=g8 (i:=1) (by omega) (by omega)
  show Value.int .u32 (IntKind.u32.wrap (ρ.f1 10 (IntKind.u32.wrap (((ck ρ p s0 n).v 101).tdiv 4))))=Value.int .u32 (fE p (aA p s0 n))
  rw [e,hcode]
  unfold fE
  have:0≤IntKind.u32.wrap (p.code (IntKind.u32.wrap ((aA p s0 n).h.pc.tdiv 4))):=by simp [IntKind.wrap,IntKind.bits,IntKind.signed];omega
  rw [Int.toNat_of_nonneg this]
end
end Go.Proofs.YtmickljjofbmiaaGreatDoor
