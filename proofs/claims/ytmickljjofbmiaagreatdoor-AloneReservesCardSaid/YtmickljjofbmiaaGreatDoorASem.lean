/- Alone: what a hart by itself does, as a sequence of states. No condition. -/
import Derived.Test.YtmickljjofbmiaaGreatDoorAAmo
import Derived.Test.YtmickljjofbmiaaGreatDoorFwH
namespace Go.Proofs.YtmickljjofbmiaaGreatDoor
open Go Go.Proofs
instance:Nonempty Acc:=⟨⟨0,0,0,0,0,false,false⟩⟩
instance:Nonempty Hart:=⟨⟨0,0,[],0⟩⟩
instance:Nonempty Com:=⟨⟨0,0,0,false,0,0,0⟩⟩
theorem Acc.c_inj{a b:Acc}(h:a.c=b.c):a=b:=by
 obtain⟨k,ad,w,v,op,aq,rl⟩:=a
 obtain⟨k',ad',w',v',op',aq',rl'⟩:=b
 simp only [Acc.c,List.cons.injEq,Value.int.injEq,Value.bool.injEq,true_and,and_true,Int.natCast_inj] at h
 obtain⟨h1,h2,h3,h4,h5,h6,h7⟩:=h
 subst h1 h2 h3 h4 h5 h6 h7
 rfl
structure Par where
 ro:Nat→Obj
 code:Int→Int
 len:Int
 size:Int
 id:Int
structure MSt where
 h:Hart
 m:Int→Int
 res:Bool
 at_:Int
section
variable (p:Par) (s:MSt)
def wordOf:Nat:=(IntKind.u32.wrap (p.code (IntKind.u32.wrap (s.h.pc.tdiv 4)))).toNat
noncomputable def actF:Acc×Int:=Classical.epsilon fun q=>CallsAt Tryz.prog LStart 7 100000 p.ro 46 [.agg s.h.c.toArray,.int .u32 (wordOf p s),.int .i64 p.size] (.tuple #[.agg q.1.c.toArray,.int .i64 q.2,.int .i64 0])
noncomputable def comF(x:Int)(ok:Bool):Hart×Com:=Classical.epsilon fun q=>StepIs p.ro s.h (wordOf p s) p.size x ok (actF p s).1 (actF p s).2 q.1 q.2
noncomputable def acc:Acc:=(actF p s).1
noncomputable def ansF(b:Nat):Int×Bool:=match b with
 | 11=>(ld s.m (acc p s).ad 1,false)
 | 12=>(ld s.m (acc p s).ad 2,false)
 | 13=>(ld s.m (acc p s).ad 4,false)
 | 14=>(0,decide (s.at_=(acc p s).ad))
 | _=>(0,false)
noncomputable def blk:Nat:=match (acc p s).k with
 | 1=>match (acc p s).w with
  | 1=>11
  | 2=>12
  | _=>13
 | 3=>13
 | 4=>match s.res with
  | true=>14
  | false=>10
 | 5=>13
 | _=>10
noncomputable def amoF:Int×Int×Int:=Classical.epsilon fun q=>CallsAt Tryz.prog LStart 7 100000 p.ro 38 [.int .i64 (acc p s).op,.int .u32 (ld s.m (acc p s).ad 4),.int .u32 (acc p s).v] (.tuple #[.int .u32 q.1,.int .i64 q.2.1])∧CallsAt Tryz.prog LStart 7 100000 p.ro 20 [.int .i64 (acc p s).op,.int .u32 (ld s.m (acc p s).ad 4),.int .u32 (acc p s).v] (.int .u32 q.2.2)∧((acc p s).k=5→q.2.2=q.1)∧(0≤q.1∧q.1≤4294967295)∧(0≤q.2.2∧q.2.2≤4294967295)
noncomputable def memF:Int→Int:=match (acc p s).k with
 | 2=>stv s.m (acc p s).ad (acc p s).w (acc p s).v
 | 4=>match s.res&&decide (s.at_=(acc p s).ad) with
  | true=>stv s.m (acc p s).ad 4 (acc p s).v
  | false=>s.m
 | 5=>stv s.m (acc p s).ad 4 (amoF p s).1
 | _=>s.m
noncomputable def resF:Bool:=match (acc p s).k with
 | 3=>true
 | 4=>false
 | _=>s.res
noncomputable def atF:Int:=match (acc p s).k with
 | 3=>(acc p s).ad
 | _=>s.at_
def fetchF:Bool:=decide (s.h.pc.tmod 4=0)&&decide (IntKind.u32.wrap (s.h.pc.tdiv 4)<p.len)
noncomputable def comO:Hart×Com:=comF p s (ansF p s (blk p s)).1 (ansF p s (blk p s)).2
noncomputable def nxt:MSt:=match decide (s.h.cause=0) with
 | false=>s
 | true=>match fetchF p s with
  | false=>{s with h:={s.h with cause:=4}}
  | true=>⟨(comO p s).1,memF p s,resF p s,atF p s⟩
end
noncomputable def seqM(p:Par)(s:MSt):Nat→MSt
 | 0=>s
 | n+1=>nxt p (seqM p s n)
noncomputable def colF(p:Par)(s:MSt)(j:Nat):Int:=match fetchF p s with
 | true=>comCol (acc p s) (comO p s).2 j
 | false=>if j=0 then s.h.pc else if j=13 then 4 else 0
def MSt.Ok(p:Par)(s:MSt):Prop:=s.h.Ok∧s.h.id=p.id∧0≤s.at_∧s.at_≤4294967295
def hartAt(id:Int):Hart:=⟨id,0,List.replicate 32 0,0⟩
theorem hartAt_ok{id:Int}(h:0≤id∧id≤3):(hartAt id).Ok:=⟨h,by simp [hartAt],by simp [hartAt],fun z hz=>by rw [(List.mem_replicate.1 hz).2];omega,rfl,by simp [hartAt]⟩
theorem word_lt{p:Par}{s:MSt}:wordOf p s<4294967296:=by
 unfold wordOf
 have:0≤IntKind.u32.wrap (p.code (IntKind.u32.wrap (s.h.pc.tdiv 4)))∧IntKind.u32.wrap (p.code (IntKind.u32.wrap (s.h.pc.tdiv 4)))≤4294967295:=by
  simp [IntKind.wrap,IntKind.bits,IntKind.signed]
  omega
 omega
section
variable {W:World} {p:Par} (hro:RoAll p.ro) (hW:∀ x∈LStart,W.heap[x.1]?=some (p.ro x.1))
include hro hW
omit hro in
theorem CallsAt.det{m m':Nat}{f:FuncId}{fn:Func} (hfn:Tryz.prog.funcs[f]?=some fn) (hi:Tryz.prog.inits.idxOf? f=none) {a:List Value} {v1 v2:Value} (h1:CallsAt Tryz.prog LStart 7 m p.ro f a v1) (h2:CallsAt Tryz.prog LStart 7 m' p.ro f a v2):v1=v2:=by
 have go:∀ {m:Nat} {v:Value},CallsAt Tryz.prog LStart 7 m p.ro f a v→Calls Tryz.prog f a.toArray W fun e _=>e=.returned v:=by
  intro m v h
  obtain⟨c,N,ρ,pc0,x,u,st',e1,e2,e3,e4,e5,e6,e7,e8,e9,e10,e11,e12,e13⟩:=h.is
  have h0:=(here_stG (cx0:=c) (π0:=πStart) (w:=W) e4 LStart_lt e6 (fun _ _=>rfl) (by rw [e5];exact hW)).like (st1:={stG LStart 7 with pc:=pc0}) ⟨rfl,rfl,e7⟩
  refine callsIn_wide.1 (((ev_ok mixed_door e2 e3 e1 N).2.2 f x _ _ e8 _ πStart W _ 0 h0 (fun π _=>e13 π) ⟨fn,hfn⟩).mono fun e w' hp=>?_)
  obtain⟨_,π1,_,c',hc',hv⟩:=hp
  rw [hc',←hv π1 (fun _ _=>rfl),e11]
 exact calls_det hi (go h1) (go h2)
theorem act_is{s:MSt}(hs:s.h.Ok)(hc:s.h.cause=0){x:Int}{ok:Bool}(hx:0≤x∧x≤4294967295):StepIs p.ro s.h (wordOf p s) p.size x ok (acc p s) (actF p s).2 (comF p s x ok).1 (comF p s x ok).2:=by
 obtain⟨a,w,k,c,h⟩:=step_ex hro hW hs hc (word_lt (p:=p) (s:=s)) (size:=p.size) (ok:=ok) hx
 have h1:CallsAt Tryz.prog LStart 7 100000 p.ro 46 [.agg s.h.c.toArray,.int .u32 (wordOf p s),.int .i64 p.size] (.tuple #[.agg (actF p s).1.c.toArray,.int .i64 (actF p s).2,.int .i64 0]):=
  Classical.epsilon_spec (p:=fun q:Acc×Int=>CallsAt Tryz.prog LStart 7 100000 p.ro 46 [.agg s.h.c.toArray,.int .u32 (wordOf p s),.int .i64 p.size] (.tuple #[.agg q.1.c.toArray,.int .i64 q.2,.int .i64 0])) ⟨(a,w),h.act⟩
 have e:=CallsAt.det hW Tryz.func46 (by kernel_rfl) h1 h.act
 injection e with e
 have e:=congrArg Array.toList e
 simp only [List.cons.injEq,and_true] at e
 obtain⟨e1,e2⟩:=e
 injection e1 with e1
 have e1:=congrArg Array.toList e1
 injection e2 with _ e2
 have ea:(actF p s).1=a:=Acc.c_inj e1
 have key:∃ q:Hart×Com,StepIs p.ro s.h (wordOf p s) p.size x ok (actF p s).1 (actF p s).2 q.1 q.2:=⟨(k,c),by rw [ea,e2];exact h⟩
 exact Classical.epsilon_spec key
theorem acc_ok{s:MSt}(hs:s.h.Ok)(hc:s.h.cause=0):(acc p s).Ok p.size:=(act_is hro hW hs hc (x:=0) (ok:=false) (by omega)).acc
omit hro hW in
theorem ans_in{s:MSt}(b:Nat):0≤(ansF p s b).1∧(ansF p s b).1≤4294967295:=by
 have l:∀ w:Nat,w≤4→0≤ld s.m (acc p s).ad w∧ld s.m (acc p s).ad w≤4294967295:=fun w hw=>by
  obtain⟨h1,h2⟩:=ld_in s.m w (acc p s).ad
  have:(256:Int) ^ w≤256 ^ 4:=by
   rw [←pow256,←pow256]
   exact Int.ofNat_le.2 (Nat.pow_le_pow_right (by omega) hw)
  have:(256:Int) ^ 4=4294967296:=rfl
  omega
 unfold ansF
 split
 ·exact l 1 (by omega)
 ·exact l 2 (by omega)
 ·exact l 4 (by omega)
 ·simp
 ·simp
theorem com_is{s:MSt}(hs:s.h.Ok)(hc:s.h.cause=0)(b:Nat):StepIs p.ro s.h (wordOf p s) p.size (ansF p s b).1 (ansF p s b).2 (acc p s) (actF p s).2 (comF p s (ansF p s b).1 (ansF p s b).2).1 (comF p s (ansF p s b).1 (ansF p s b).2).2:=
 act_is hro hW hs hc (ans_in b)
theorem amo_is{s:MSt}(hs:s.h.Ok)(hc:s.h.cause=0):CallsAt Tryz.prog LStart 7 100000 p.ro 38 [.int .i64 (acc p s).op,.int .u32 (ld s.m (acc p s).ad 4),.int .u32 (acc p s).v] (.tuple #[.int .u32 (amoF p s).1,.int .i64 (amoF p s).2.1])∧CallsAt Tryz.prog LStart 7 100000 p.ro 20 [.int .i64 (acc p s).op,.int .u32 (ld s.m (acc p s).ad 4),.int .u32 (acc p s).v] (.int .u32 (amoF p s).2.2)∧((acc p s).k=5→(amoF p s).2.2=(amoF p s).1)∧(0≤(amoF p s).1∧(amoF p s).1≤4294967295)∧(0≤(amoF p s).2.2∧(amoF p s).2.2≤4294967295):=by
 have ha:=acc_ok hro hW hs hc
 have hl:=ans_in (p:=p) (s:=s) 13
 obtain⟨n,e,r,h1,h2,h3,h4,h5⟩:=amo_ex hro hW (op:=(acc p s).op) (a:=ld s.m (acc p s).ad 4) (b:=(acc p s).v) (by
  by_cases h:(acc p s).k=5
  ·exact .inr (ha.amo h)
  ·exact .inl (ha.op h)) hl ha.v
 exact Classical.epsilon_spec (p:=fun q:Int×Int×Int=>CallsAt Tryz.prog LStart 7 100000 p.ro 38 [.int .i64 (acc p s).op,.int .u32 (ld s.m (acc p s).ad 4),.int .u32 (acc p s).v] (.tuple #[.int .u32 q.1,.int .i64 q.2.1])∧CallsAt Tryz.prog LStart 7 100000 p.ro 20 [.int .i64 (acc p s).op,.int .u32 (ld s.m (acc p s).ad 4),.int .u32 (acc p s).v] (.int .u32 q.2.2)∧((acc p s).k=5→q.2.2=q.1)∧(0≤q.1∧q.1≤4294967295)∧(0≤q.2.2∧q.2.2≤4294967295)) ⟨(n,e,r),h1,h2,fun hk=>h3 (by have:=ha.amo hk;omega),h4,h5⟩
theorem nxt_ok{s:MSt}(hs:s.h.Ok)(hi:s.h.id=p.id)(ha:0≤s.at_∧s.at_≤4294967295):(nxt p s).h.Ok∧(nxt p s).h.id=p.id∧(0≤(nxt p s).at_∧(nxt p s).at_≤4294967295):=by
 unfold nxt
 split
 ·exact⟨hs,hi,ha⟩
 ·rename_i hc
  have hc:=of_decide_eq_true hc
  split
  ·exact⟨⟨hs.id,hs.pc,hs.len,hs.regs,hs.zero,by simp⟩,hi,ha⟩
  ·have h:=com_is hro hW hs hc (blk p s)
   refine⟨h.hart,h.id.trans hi,?_⟩
   show 0≤atF p s∧atF p s≤4294967295
   unfold atF
   split
   ·exact h.acc.ad
   ·exact ha
theorem seq_ok{s:MSt}(hs:s.h.Ok)(hi:s.h.id=p.id)(ha:0≤s.at_∧s.at_≤4294967295):∀ n,(seqM p s n).h.Ok∧(seqM p s n).h.id=p.id∧(0≤(seqM p s n).at_∧(seqM p s n).at_≤4294967295)
 | 0=>⟨hs,hi,ha⟩
 | n+1=>by
  obtain⟨h1,h2,h3⟩:=seq_ok hs hi ha n
  exact nxt_ok hro hW h1 h2 h3
end
end Go.Proofs.YtmickljjofbmiaaGreatDoor
