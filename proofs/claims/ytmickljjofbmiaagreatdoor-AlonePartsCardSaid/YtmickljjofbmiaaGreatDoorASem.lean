/- Alone: what a hart by itself does, as a sequence of states. No condition. -/
import Derived.Test.YtmickljjofbmiaaGreatDoorAAmo
import Derived.Test.YtmickljjofbmiaaGreatDoorFwH
namespace Go.Proofs.YtmickljjofbmiaaGreatDoor
open Go Go.Proofs
instance:Nonempty Acc:=⟨⟨0,0,0,0,0,false,false⟩⟩
instance:Nonempty gN:=⟨⟨0,0,[],0⟩⟩
instance:Nonempty Dp:=⟨⟨0,0,0,false,0,0,0⟩⟩
theorem Acc.aet{a b:Acc}(h:a.c=b.c):a=b:=by
 obtain⟨k,ad,w,v,op,aq,rl⟩:=a
 obtain⟨k',ad',w',v',op',aq',rl'⟩:=b
 simp only [Acc.c,List.cons.injEq,Value.int.injEq,Value.bool.injEq,true_and,and_true,Int.natCast_inj] at h
 obtain⟨h1,h2,h3,h4,h5,h6,h7⟩:=h
 subst h1 h2 h3 h4 h5 h6 h7
 rfl
structure Par where
 ro:Nat→Obj
 code:Int→Int
 len:Int
 size:Int
 id:Int
structure jB where
 h:gN
 m:Int→Int
 res:Bool
 at_:Int
section
variable (p:Par) (s:jB)
def fE:Nat:=(IntKind.u32.wrap (p.code (IntKind.u32.wrap (s.h.pc.tdiv 4)))).toNat
noncomputable def yK:Acc×Int:=Classical.epsilon fun q=>bc Tryz.prog aj 7 100000 p.ro 46 [.agg s.h.c.toArray,.int .u32 (fE p s),.int .i64 p.size] (.tuple #[.agg q.1.c.toArray,.int .i64 q.2,.int .i64 0])
noncomputable def OZ(x:Int)(ok:Bool):gN×Dp:=Classical.epsilon fun q=>StepIs p.ro s.h (fE p s) p.size x ok (yK p s).1 (yK p s).2 q.1 q.2
noncomputable def acc:Acc:=(yK p s).1
noncomputable def om(b:Nat):Int×Bool:=match b with
 | 11=>(ld s.m (acc p s).ad 1,false)
 | 12=>(ld s.m (acc p s).ad 2,false)
 | 13=>(ld s.m (acc p s).ad 4,false)
 | 14=>(0,decide (s.at_=(acc p s).ad))
 | _=>(0,false)
noncomputable def xK:Nat:=match (acc p s).k with
 | 1=>match (acc p s).w with
  | 1=>11
  | 2=>12
  | _=>13
 | 3=>13
 | 4=>match s.res with
  | true=>14
  | false=>10
 | 5=>13
 | _=>10
noncomputable def sL:Int×Int×Int:=Classical.epsilon fun q=>bc Tryz.prog aj 7 100000 p.ro 38 [.int .i64 (acc p s).op,.int .u32 (ld s.m (acc p s).ad 4),.int .u32 (acc p s).v] (.tuple #[.int .u32 q.1,.int .i64 q.2.1])∧bc Tryz.prog aj 7 100000 p.ro 20 [.int .i64 (acc p s).op,.int .u32 (ld s.m (acc p s).ad 4),.int .u32 (acc p s).v] (.int .u32 q.2.2)∧((acc p s).k=5→q.2.2=q.1)∧(0≤q.1∧q.1≤4294967295)∧(0≤q.2.2∧q.2.2≤4294967295)
noncomputable def qS:Int→Int:=match (acc p s).k with
 | 2=>QN s.m (acc p s).ad (acc p s).w (acc p s).v
 | 4=>match s.res&&decide (s.at_=(acc p s).ad) with
  | true=>QN s.m (acc p s).ad 4 (acc p s).v
  | false=>s.m
 | 5=>QN s.m (acc p s).ad 4 (sL p s).1
 | _=>s.m
noncomputable def wB:Bool:=match (acc p s).k with
 | 3=>true
 | 4=>false
 | _=>s.res
noncomputable def K1:Int:=match (acc p s).k with
 | 3=>(acc p s).ad
 | _=>s.at_
def fS:Bool:=decide (s.h.pc.tmod 4=0)&&decide (IntKind.u32.wrap (s.h.pc.tdiv 4)<p.len)
noncomputable def O2:gN×Dp:=OZ p s (om p s (xK p s)).1 (om p s (xK p s)).2
noncomputable def Xd:jB:=match decide (s.h.cause=0) with
 | false=>s
 | true=>match fS p s with
  | false=>{s with h:={s.h with cause:=4}}
  | true=>⟨(O2 p s).1,qS p s,wB p s,K1 p s⟩
end
noncomputable def aA(p:Par)(s:jB):Nat→jB
 | 0=>s
 | n+1=>Xd p (aA p s n)
noncomputable def DL(p:Par)(s:jB)(j:Nat):Int:=match fS p s with
 | true=>DM (acc p s) (O2 p s).2 j
 | false=>if j=0 then s.h.pc else if j=13 then 4 else 0
def jB.Ok(p:Par)(s:jB):Prop:=s.h.Ok∧s.h.id=p.id∧0≤s.at_∧s.at_≤4294967295
def zD(id:Int):gN:=⟨id,0,List.replicate 32 0,0⟩
theorem Pg{id:Int}(h:0≤id∧id≤3):(zD id).Ok:=⟨h,by simp [zD],by simp [zD],fun z hz=>by rw [(List.mem_replicate.1 hz).2];omega,rfl,by simp [zD]⟩
theorem Zc{p:Par}{s:jB}:fE p s<4294967296:=by
 unfold fE
 have:0≤IntKind.u32.wrap (p.code (IntKind.u32.wrap (s.h.pc.tdiv 4)))∧IntKind.u32.wrap (p.code (IntKind.u32.wrap (s.h.pc.tdiv 4)))≤4294967295:=by
  simp [IntKind.wrap,IntKind.bits,IntKind.signed]
  omega
 omega
section
variable {W:World} {p:Par} (hro:bx p.ro) (hW:∀ x∈aj,W.heap[x.1]?=some (p.ro x.1))
include hro hW
omit hro in
theorem bc.det{m m':Nat}{f:FuncId}{fn:Func} (hfn:Tryz.prog.funcs[f]?=some fn) (hi:Tryz.prog.inits.idxOf? f=none) {a:List Value} {v1 v2:Value} (h1:bc Tryz.prog aj 7 m p.ro f a v1) (h2:bc Tryz.prog aj 7 m' p.ro f a v2):v1=v2:=by
 have go:∀ {m:Nat} {v:Value},bc Tryz.prog aj 7 m p.ro f a v→Calls Tryz.prog f a.toArray W fun e _=>e=.returned v:=by
  intro m v h
  obtain⟨c,N,ρ,pc0,x,u,st',e1,e2,e3,e4,e5,e6,e7,e8,e9,e10,e11,e12,e13⟩:=h.is
  have h0:=(oS (cx0:=c) (π0:=πStart) (w:=W) e4 fp e6 (fun _ _=>rfl) (by rw [e5];exact hW)).fx (st1:={qK aj 7 with pc:=pc0}) ⟨rfl,rfl,e7⟩
  refine callsIn_wide.1 (((q9 cr e2 e3 e1 N).2.2 f x _ _ e8 _ πStart W _ 0 h0 (fun π _=>e13 π) ⟨fn,hfn⟩).mono fun e w' hp=>?_)
  obtain⟨_,π1,_,c',hc',hv⟩:=hp
  rw [hc',←hv π1 (fun _ _=>rfl),e11]
 exact OV hi (go h1) (go h2)
theorem QU{s:jB}(hs:s.h.Ok)(hc:s.h.cause=0){x:Int}{ok:Bool}(hx:0≤x∧x≤4294967295):StepIs p.ro s.h (fE p s) p.size x ok (acc p s) (yK p s).2 (OZ p s x ok).1 (OZ p s x ok).2:=by
 obtain⟨a,w,k,c,h⟩:=Y3 hro hW hs hc (Zc (p:=p) (s:=s)) (size:=p.size) (ok:=ok) hx
 have h1:bc Tryz.prog aj 7 100000 p.ro 46 [.agg s.h.c.toArray,.int .u32 (fE p s),.int .i64 p.size] (.tuple #[.agg (yK p s).1.c.toArray,.int .i64 (yK p s).2,.int .i64 0]):=
  Classical.epsilon_spec (p:=fun q:Acc×Int=>bc Tryz.prog aj 7 100000 p.ro 46 [.agg s.h.c.toArray,.int .u32 (fE p s),.int .i64 p.size] (.tuple #[.agg q.1.c.toArray,.int .i64 q.2,.int .i64 0])) ⟨(a,w),h.act⟩
 have e:=bc.det hW Tryz.func46 (by kernel_rfl) h1 h.act
 injection e with e
 have e:=congrArg Array.toList e
 simp only [List.cons.injEq,and_true] at e
 obtain⟨e1,e2⟩:=e
 injection e1 with e1
 have e1:=congrArg Array.toList e1
 injection e2 with _ e2
 have ea:(yK p s).1=a:=Acc.aet e1
 have key:∃ q:gN×Dp,StepIs p.ro s.h (fE p s) p.size x ok (yK p s).1 (yK p s).2 q.1 q.2:=⟨(k,c),by rw [ea,e2];exact h⟩
 exact Classical.epsilon_spec key
theorem fQ{s:jB}(hs:s.h.Ok)(hc:s.h.cause=0):(acc p s).Ok p.size:=(QU hro hW hs hc (x:=0) (ok:=false) (by omega)).acc
omit hro hW in
theorem Q3{s:jB}(b:Nat):0≤(om p s b).1∧(om p s b).1≤4294967295:=by
 have l:∀ w:Nat,w≤4→0≤ld s.m (acc p s).ad w∧ld s.m (acc p s).ad w≤4294967295:=fun w hw=>by
  obtain⟨h1,h2⟩:=R4 s.m w (acc p s).ad
  have:(256:Int) ^ w≤256 ^ 4:=by
   rw [←wo,←wo]
   exact Int.ofNat_le.2 (Nat.pow_le_pow_right (by omega) hw)
  have:(256:Int) ^ 4=4294967296:=rfl
  omega
 unfold om
 split
 ·exact l 1 (by omega)
 ·exact l 2 (by omega)
 ·exact l 4 (by omega)
 ·simp
 ·simp
theorem ow{s:jB}(hs:s.h.Ok)(hc:s.h.cause=0)(b:Nat):StepIs p.ro s.h (fE p s) p.size (om p s b).1 (om p s b).2 (acc p s) (yK p s).2 (OZ p s (om p s b).1 (om p s b).2).1 (OZ p s (om p s b).1 (om p s b).2).2:=
 QU hro hW hs hc (Q3 b)
theorem uU{s:jB}(hs:s.h.Ok)(hc:s.h.cause=0):bc Tryz.prog aj 7 100000 p.ro 38 [.int .i64 (acc p s).op,.int .u32 (ld s.m (acc p s).ad 4),.int .u32 (acc p s).v] (.tuple #[.int .u32 (sL p s).1,.int .i64 (sL p s).2.1])∧bc Tryz.prog aj 7 100000 p.ro 20 [.int .i64 (acc p s).op,.int .u32 (ld s.m (acc p s).ad 4),.int .u32 (acc p s).v] (.int .u32 (sL p s).2.2)∧((acc p s).k=5→(sL p s).2.2=(sL p s).1)∧(0≤(sL p s).1∧(sL p s).1≤4294967295)∧(0≤(sL p s).2.2∧(sL p s).2.2≤4294967295):=by
 have ha:=fQ hro hW hs hc
 have hl:=Q3 (p:=p) (s:=s) 13
 obtain⟨n,e,r,h1,h2,h3,h4,h5⟩:=Z7 hro hW (op:=(acc p s).op) (a:=ld s.m (acc p s).ad 4) (b:=(acc p s).v) (by
  by_cases h:(acc p s).k=5
  ·exact .inr (ha.amo h)
  ·exact .inl (ha.op h)) hl ha.v
 exact Classical.epsilon_spec (p:=fun q:Int×Int×Int=>bc Tryz.prog aj 7 100000 p.ro 38 [.int .i64 (acc p s).op,.int .u32 (ld s.m (acc p s).ad 4),.int .u32 (acc p s).v] (.tuple #[.int .u32 q.1,.int .i64 q.2.1])∧bc Tryz.prog aj 7 100000 p.ro 20 [.int .i64 (acc p s).op,.int .u32 (ld s.m (acc p s).ad 4),.int .u32 (acc p s).v] (.int .u32 q.2.2)∧((acc p s).k=5→q.2.2=q.1)∧(0≤q.1∧q.1≤4294967295)∧(0≤q.2.2∧q.2.2≤4294967295)) ⟨(n,e,r),h1,h2,fun hk=>h3 (by have:=ha.amo hk;omega),h4,h5⟩
theorem aaP{s:jB}(hs:s.h.Ok)(hi:s.h.id=p.id)(ha:0≤s.at_∧s.at_≤4294967295):(Xd p s).h.Ok∧(Xd p s).h.id=p.id∧(0≤(Xd p s).at_∧(Xd p s).at_≤4294967295):=by
 unfold Xd
 split
 ·exact⟨hs,hi,ha⟩
 ·rename_i hc
  have hc:=of_decide_eq_true hc
  split
  ·exact⟨⟨hs.id,hs.pc,hs.len,hs.regs,hs.zero,by simp⟩,hi,ha⟩
  ·have h:=ow hro hW hs hc (xK p s)
   refine⟨h.hart,h.id.trans hi,?_⟩
   show 0≤K1 p s∧K1 p s≤4294967295
   unfold K1
   split
   ·exact h.acc.ad
   ·exact ha
theorem Tg{s:jB}(hs:s.h.Ok)(hi:s.h.id=p.id)(ha:0≤s.at_∧s.at_≤4294967295):∀ n,(aA p s n).h.Ok∧(aA p s n).h.id=p.id∧(0≤(aA p s n).at_∧(aA p s n).at_≤4294967295)
 | 0=>⟨hs,hi,ha⟩
 | n+1=>by
  obtain⟨h1,h2,h3⟩:=Tg hs hi ha n
  exact aaP hro hW h1 h2 h3
end
end Go.Proofs.YtmickljjofbmiaaGreatDoor
