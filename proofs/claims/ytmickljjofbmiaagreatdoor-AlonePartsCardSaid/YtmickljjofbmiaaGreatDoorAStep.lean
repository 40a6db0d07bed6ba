/- Alone: what an instruction does: of any hart that goes on, any word, any answer; the document's the same. No condition. -/
import Derived.Test.YtmickljjofbmiaaGreatDoorAOp0
import Derived.Test.YtmickljjofbmiaaGreatDoorAOp1
import Derived.Test.YtmickljjofbmiaaGreatDoorAOp2
import Derived.Test.YtmickljjofbmiaaGreatDoorAOp3
import Derived.Test.YtmickljjofbmiaaGreatDoorFwH
import Derived.Test.YtmickljjofbmiaaGreatDoorADecS
namespace Go.Proofs.YtmickljjofbmiaaGreatDoor
open Go Go.Proofs
theorem aaX{k:Nat}(h:k≤59):aW k=true:=by
 rcases Nat.lt_or_ge k 15 with h1 | h1
 ·exact amP.mem k (by have:k∈List.range' 0 15:=List.mem_range'.2 ⟨k,by omega,by omega⟩;exact this)
 rcases Nat.lt_or_ge k 30 with h2 | h2
 ·exact amQ.mem k (by have:k∈List.range' 15 15:=List.mem_range'.2 ⟨k-15,by omega,by omega⟩;exact this)
 rcases Nat.lt_or_ge k 45 with h3 | h3
 ·exact amR.mem k (by have:k∈List.range' 30 15:=List.mem_range'.2 ⟨k-30,by omega,by omega⟩;exact this)
 ·exact amS.mem k (by have:k∈List.range' 45 15:=List.mem_range'.2 ⟨k-45,by omega,by omega⟩;exact this)
def jl(ro:Nat→Obj)(h:gN)(n:Nat)(size x:Int)(ok:Bool)(d:sw):Env:=
 {b:=fun i=>x.toNat.testBit (i-32)
  v:=fun i=>if i=0 then h.id else if i=1 then h.pc else if i=21 then d.rd else if i=22 then d.r1 else if i=23 then d.r2 else if i=24 then d.n else if i=25 then a7 d.aq else if i=26 then a7 d.rl else if i=30 then n else if i=31 then size else a7 ok
  f1:=fun _ j=>(h.regs[j.toNat]?).getD 0
  f2:=fun _ _ _=>0,s:=fun _=>[],sf:=fun _ _=>[],ro:=ro,win:=fun _=>⟨0,0,none⟩}
theorem XF(b:Bool):(a7 b==(1:Int))=b:=by cases b<;>rfl
section
variable {ro:Nat→Obj} {h:gN} (hk:h.Ok) {n:Nat} (hn:n<4294967296) {size x:Int} {ok:Bool} {d:sw}
theorem Nr{ρ:Env}{i:Nat}{b:Bool}(hb:ρ.v i=a7 b):(X.eq (.var i) (.lit 1)).tt ρ=b:=by
 rw [dR]
 simp only [X.den,hb]
 exact XF b
include hn in
theorem Bi(π:Pl):V.af (jl ro h n size x ok d) π [n4]=[.int .u32 (n:Int)]:=by
 show [Value.int .u32 (IntKind.u32.wrap (n:Int))]=_
 rw [wL ⟨by omega,by omega⟩]
include hk in
theorem LA(hc:h.cause=0)(π:Pl):tp.ae (jl ro h n size x ok d) π=.agg h.c.toArray:=by
 show Value.agg (Value.int .i64 h.id::Value.int .u32 (IntKind.u32.wrap h.pc)::V.af (jl ro h n size x ok d) π (Ko 0 0 32 [.int .i64 (.lit 0)])).toArray=_
 rw [wL hk.pc,xw (fun z hz=>hk.regs z hz) (fun j hj=>?_) 32 0 (by rw [hk.len])]
 ·unfold gN.c
  rw [hc]
  rfl
 ·show (h.regs[(Int.ofNat j).toNat]?).getD 0=h.regs[j]
  rw [show (Int.ofNat j).toNat=j from rfl,List.getElem?_eq_getElem hj]
  rfl
theorem OP(hx:0≤x∧x≤4294967295)(π:Pl):Q2.ae (jl ro h n size x ok d) π=.agg #[.int .u32 x,.bool ok]:=by
 have e:ar (jl ro h n size x ok d) mY .zero=x:=Fz (o:=32) (k:=32) hx.1 (by have:=hx.2;omega) fun i _=>by
  show x.toNat.testBit (32+i-32)=_
  rw [Nat.add_sub_cancel_left]
 have e2:(X.eq (.var 33) (.lit 1)).tt (jl ro h n size x ok d)=ok:=Nr rfl
 show Value.agg #[.int .u32 (ar (jl ro h n size x ok d) mY .zero),.bool ((X.eq (.var 33) (.lit 1)).tt (jl ro h n size x ok d))]=_
 rw [e,e2]
theorem Q0(hx:0≤x∧x≤4294967295){k w:Nat}(hw:w=1∨w=2∨w=4∨w=0):(Qh k w fun _=>mY).den (jl ro h n size x ok d)=Z9 k w x:=by
 have go:∀ {w},w=1∨w=2∨w=4∨w=0→ar (jl ro h n size x ok d) (mY.take (8*w)) .zero=x % 2 ^ (8*w):=by
  intro w hw
  have e:mY.take (8*w)=tL 32 (8*w)++[]:=by rcases hw with rfl | rfl | rfl | rfl<;>rfl
  obtain⟨m,rfl⟩:=Int.eq_ofNat_of_zero_le hx.1
  rw [e,DC (ρ:=jl ro h n size (m:Int) ok d) (o:=32) (k:=8*w) (n:=m) (fun i _=>by
   show (m:Int).toNat.testBit (32+i-32)=_
   rw [Nat.add_sub_cancel_left]
   rfl)]
  simp only [ar,B.den,a7]
  norm_cast
 unfold Qh Z9
 split
 ·rw [if_pos (.inl rfl)];exact go hw
 ·rw [if_pos (.inr (.inl rfl))];exact go hw
 ·rw [if_pos (.inr (.inr rfl))];exact go hw
 ·rename_i h1 h2 h3
  rw [if_neg fun e=>e.elim h1 fun e=>e.elim h2 h3]
  rfl
theorem Xv{k:Nat}:(Q1 k).tt (jl ro h n size x ok d)=if k=4 then ok else false:=by
 unfold Q1
 split
 ·rw [if_pos rfl];exact Nr rfl
 ·rename_i hne
  rw [if_neg (fun e=>hne e)]
  rfl
theorem LB(hd:d.Ok)(π:Pl):(tu d.op).ae (jl ro h n size x ok d) π=d.v:=by
 have e1:(X.eq (.var 25) (.lit 1)).tt (jl ro h n size x ok d)=d.aq:=Nr rfl
 have e2:(X.eq (.var 26) (.lit 1)).tt (jl ro h n size x ok d)=d.rl:=Nr rfl
 obtain⟨op,rd,r1,r2,m,aq,rl⟩:=d
 have wm:IntKind.u32.wrap m=m:=wL hd.n
 cases op with
 | zero=>
  obtain⟨h1,h2,h3,h4⟩:=hd.zero rfl
  simp only at h1 h2 h3 h4
  subst h1 h2 h3 h4
  simp only [tu,V.ae,V.af,X.den,e1,e2,sw.v]
  rfl
 | succ op=>
  have r0:=hd.no
  have m0:=hd.imm
  simp only at r0 m0
  cases hh:GJ (op+1) with
  | true=>cases hm:CE (op+1) with
   | true=>
    have:=m0 hm
    subst this
    simp only [tu,hh,hm,V.ae,V.af,e1,e2,sw.v]
    rfl
   | false=>
    simp only [tu,hh,hm,V.ae,V.af,e1,e2,sw.v,X.den]
    rw [show (jl ro h n size x ok ⟨op+1,rd,r1,r2,m,aq,rl⟩).v 24=m from rfl,wm]
    rfl
  | false=>
   have:=r0 hh
   subst this
   cases hm:CE (op+1) with
   | true=>
    have:=m0 hm
    subst this
    simp only [tu,hh,hm,V.ae,V.af,e1,e2,sw.v]
    rfl
   | false=>
    simp only [tu,hh,hm,V.ae,V.af,e1,e2,sw.v,X.den]
    rw [show (jl ro h n size x ok ⟨op+1,0,r1,r2,m,aq,rl⟩).v 24=m from rfl,wm]
    rfl
include hk in
theorem aa0(hd:d.Ok):av (jl ro h n size x ok d) pcO:=by
 intro f hf
 have le:∀ {a b:X} {p q:Int},a.den (jl ro h n size x ok d)=p→b.den (jl ro h n size x ok d)=q→p≤q→(X.le a b).tt (jl ro h n size x ok d)=true:=fun h1 h2 h3=>by
  rw [MP,h1,h2];exact decide_eq_true h3
 have h0:=hk.id
 have h1:=hd.rd
 have h2:=hd.r1
 have h3:=hd.r2
 simp only [pcO,List.mem_cons,List.not_mem_nil,or_false] at hf
 rcases hf with rfl | rfl | rfl | rfl | rfl | rfl | rfl | rfl | rfl | rfl
 ·exact le rfl rfl h0.1
 ·exact le rfl rfl h0.2
 ·exact le rfl rfl h1.1
 ·exact le rfl rfl h1.2
 ·exact le rfl rfl h2.1
 ·exact le rfl rfl h2.2
 ·exact le rfl rfl h3.1
 ·exact le rfl rfl h3.2
 ·rw [dR]
  show (IntKind.u32.wrap ((h.regs[(0:Int).toNat]?).getD 0)==(0:Int))=true
  rw [show (0:Int).toNat=0 from rfl,hk.zero]
  rfl
 ·rfl
end
structure StepIs (ro:Nat→Obj) (h:gN) (n:Nat) (size x:Int) (ok:Bool) (a:Acc) (why:Int) (k:gN) (c:Dp):Prop where
 acc:a.Ok size
 hart:k.Ok
 id:k.id=h.id
 com:c.Ok
 cause:c.cause=k.cause
 cx:c.x=Z9 a.k a.w x
 cok:c.ok=if a.k=4 then ok else false
 act:bc Tryz.prog aj 7 100000 ro 46 [.agg h.c.toArray,.int .u32 n,.int .i64 size] (.tuple #[.agg a.c.toArray,.int .i64 why,.int .i64 0])
 ract:bc Tryz.prog aj 7 100000 ro 39 [.agg h.c.toArray,.int .u32 n,.int .i64 size] (.tuple #[.agg a.c.toArray,.int .i64 why])
 commit:bc Tryz.prog aj 7 100000 ro 47 [.agg h.c.toArray,.int .u32 n,.int .i64 size,.agg #[.int .u32 x,.bool ok]] (.tuple #[.agg k.c.toArray,.agg (c.c a).toArray,.int .i64 0])
 rcommit:bc Tryz.prog aj 7 100000 ro 41 [.agg h.c.toArray,.int .u32 n,.int .i64 size,.agg #[.int .u32 x,.bool ok]] (.tuple #[.agg k.c.toArray,.agg (c.c a).toArray])
theorem aL.cons{ro:Nat→Obj}{ρ:Env}(hr:ρ.ro=ro){l:j6}(h:aL ro l){c:Cx}{f:FuncId} {s:List V→St→R (V×St)} (hs:cV Tryz.prog c ρ f s) (hl:yE (fun f s=>cV Tryz.prog c ρ f s) l):yE (fun f s=>cV Tryz.prog c ρ f s) ((f,s)::l):=⟨hs,hl⟩
section
variable {W:World} {ro:Nat→Obj} (hro:bx ro) (hW:∀ x∈aj,W.heap[x.1]?=some (ro x.1))
include hro hW
theorem pR{c:Cx}{ρ:Env}(hs:SumOk Tryz.prog c ρ)(h1:c.tt=cxD.tt)(h2:c.ft=cxD.ft)(h3:c.ng=7)(hr:ρ.ro=ro){x:List V}(hx:V.dt x=true){pc:PC}(hpc:av ρ pc){m:Nat}{f:FuncId}{fn:Func} {l:List (FuncId×List V)} {acc:List V} {k:List V→PC→Bool} (hfn:Tryz.prog.funcs[f]?=some fn)
  (h:comp (ev c 4000).call aj 7 m ((f,x)::l) acc pc k=true):∃ (v:V) (pc':PC),av ρ pc'∧comp (ev c 4000).call aj 7 m l (v::acc) pc' k=true∧∀ a val,(∀ π,V.af ρ π x=a)→(∀ π,v.ae ρ π=val)→bc Tryz.prog aj 7 m ro f a val:=by
 obtain⟨v,st,e1,e2,e3,e4⟩:=O3 (ρ:=ρ) h
 have hp:av ρ st.pc:=SP (w:=W) (π0:=πStart) cr (by rw [h1];exact pL) (by rw [h2];exact oQ) hs h3 fp (hro ρ hr) (fun _ _=>rfl) (by rw [hr];exact hW) hpc e1 hx hfn
 exact⟨v,st.pc,hp,e4,fun a val ha hv=>⟨c,4000,ρ,pc,x,v,st,hs,by rw [h1];exact pL,by rw [h2];exact oQ,h3,hr,hro ρ hr,hpc,e1,e3,e2,hv,hx,ha⟩⟩
theorem Y3{h:gN}(hk:h.Ok)(hc:h.cause=0){n:Nat}(hn:n<4294967296){size x:Int}{ok:Bool}(hx:0≤x∧x≤4294967295):∃ (a:Acc) (why:Int) (k:gN) (c:Dp),StepIs ro h n size x ok a why k c:=by
 obtain⟨d,hd,hd1,hd2⟩:=aaw hro hn
 have hrun:=aaX hd.op
 unfold aW at hrun
 rw [←de] at hrun
 have told:∀ {f:FuncId} {fn:Func},Tryz.prog.funcs[f]?=some fn→bc Tryz.prog aj 7 1000 ro f [.int .u32 (n:Int)] d.v→cV Tryz.prog (cxO d.op) (jl ro h n size x ok d) f (bT aj 7 [([n4],lf 1007 (tu d.op))]):=fun hfn hd=>
  pI (m:=1000) cr rfl fp hfn fun y hy=>by
   obtain rfl:=List.mem_singleton.1 hy
   refine⟨_,_,hd,Bi hn,fun l hl=>?_⟩
   obtain rfl:=Option.some.inj hl
   exact⟨rfl,rfl,LB ‹d.Ok›,fun r=>by dsimp only [lf];cases d.op<;>rfl,by dsimp only [lf];cases d.op<;>rfl⟩
 have hs:SumOk Tryz.prog (cxO d.op) (jl ro h n size x ok d):=uI (l:=slO d.op) ⟨told Tryz.func79 hd1,told Tryz.func53 hd2,ZB hro _ rfl _ rfl⟩ rfl
 have hpc:=aa0 (ro:=ro) (n:=n) (size:=size) (x:=x) (ok:=ok) hk hd
 have hh:∀ π,V.af (jl ro h n size x ok d) π [tp,n4,xD]=[.agg h.c.toArray,.int .u32 n,.int .i64 size]:=fun π=>by
  have:=Bi (ro:=ro) (h:=h) (size:=size) (x:=x) (ok:=ok) (d:=d) hn π
  simp only [V.af,LA hk hc,List.cons.injEq,and_true] at this ⊢
  exact⟨trivial,this,rfl⟩
 have hh4:∀ π,V.af (jl ro h n size x ok d) π [tp,n4,xD,Q2]=[.agg h.c.toArray,.int .u32 n,.int .i64 size,.agg #[.int .u32 x,.bool ok]]:=fun π=>by
  have:=hh π
  simp only [V.af,List.cons.injEq,and_true] at this ⊢
  exact⟨this.1,this.2.1,this.2.2,OP hx π⟩
 have hp3:V.dt [tp,n4,xD]=true:=by decide
 have hp4:V.dt [tp,n4,xD,Q2]=true:=by decide
 obtain⟨v1,pc1,p1,hrun,c1⟩:=pR hro hW hs rfl rfl rfl rfl hp3 hpc Tryz.func46 hrun
 obtain⟨v2,pc2,p2,hrun,c2⟩:=pR hro hW hs rfl rfl rfl rfl hp3 p1 Tryz.func39 hrun
 obtain⟨v3,pc3,p3,hrun,c3⟩:=pR hro hW hs rfl rfl rfl rfl hp4 p2 Tryz.func47 hrun
 obtain⟨v4,pc4,p4,hrun,c4⟩:=pR hro hW hs rfl rfl rfl rfl hp4 p3 Tryz.func41 hrun
 obtain⟨u4,u3,u2,u1,a,k,c,w,e,l1,l2,l3,l4,l5,l6,l7,g1,g2,g3,g4⟩:=R8 p4 hk.id (show NF [v4,v3,v2,v1] pc4=true from hrun)
 injection e with e4 e
 injection e with e3 e
 injection e with e2 e
 injection e with e1 _
 subst e1 e2 e3 e4
 have hw:a.w=1∨a.w=2∨a.w=4∨a.w=0:=by
  have:=l1.k
  rcases Nat.lt_or_ge a.k 1 with q | q
  ·have:=l1.none (.inl (by omega));omega
  rcases Nat.lt_or_ge a.k 3 with q2 | q2
  ·have:=l1.w q (by omega);omega
  rcases Nat.lt_or_ge a.k 6 with q3 | q3
  ·have:=l1.w4 q2 (by omega);omega
  ·have:=l1.none (.inr (by omega));omega
 exact⟨a,w,k,c,l1,l2,l3,l4,l5,l6.trans (Q0 hx hw),l7.trans Xv,c1 _ _ hh g1,c2 _ _ hh g2,c3 _ _ hh4 g3,c4 _ _ hh4 g4⟩
end
end Go.Proofs.YtmickljjofbmiaaGreatDoor
