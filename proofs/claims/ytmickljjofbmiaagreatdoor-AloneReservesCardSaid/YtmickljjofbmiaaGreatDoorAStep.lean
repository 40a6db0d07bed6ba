/- Alone: what an instruction does: of any hart that goes on, any word, any answer; the document's the same. No condition. -/
import Derived.Test.YtmickljjofbmiaaGreatDoorAOp0
import Derived.Test.YtmickljjofbmiaaGreatDoorAOp1
import Derived.Test.YtmickljjofbmiaaGreatDoorAOp2
import Derived.Test.YtmickljjofbmiaaGreatDoorAOp3
import Derived.Test.YtmickljjofbmiaaGreatDoorFwH
import Derived.Test.YtmickljjofbmiaaGreatDoorADecS
namespace Go.Proofs.YtmickljjofbmiaaGreatDoor
open Go Go.Proofs
theorem op_all{k:Nat}(h:k≤59):opRun k=true:=by
 rcases Nat.lt_or_ge k 15 with h1 | h1
 ·exact ops0.mem k (by have:k∈List.range' 0 15:=List.mem_range'.2 ⟨k,by omega,by omega⟩;exact this)
 rcases Nat.lt_or_ge k 30 with h2 | h2
 ·exact ops1.mem k (by have:k∈List.range' 15 15:=List.mem_range'.2 ⟨k-15,by omega,by omega⟩;exact this)
 rcases Nat.lt_or_ge k 45 with h3 | h3
 ·exact ops2.mem k (by have:k∈List.range' 30 15:=List.mem_range'.2 ⟨k-30,by omega,by omega⟩;exact this)
 ·exact ops3.mem k (by have:k∈List.range' 45 15:=List.mem_range'.2 ⟨k-45,by omega,by omega⟩;exact this)
def envO(ro:Nat→Obj)(h:Hart)(n:Nat)(size x:Int)(ok:Bool)(d:DecI):Env:=
 {b:=fun i=>x.toNat.testBit (i-32)
  v:=fun i=>if i=0 then h.id else if i=1 then h.pc else if i=21 then d.rd else if i=22 then d.r1 else if i=23 then d.r2 else if i=24 then d.n else if i=25 then b2i d.aq else if i=26 then b2i d.rl else if i=30 then n else if i=31 then size else b2i ok
  f1:=fun _ j=>(h.regs[j.toNat]?).getD 0
  f2:=fun _ _ _=>0,s:=fun _=>[],sf:=fun _ _=>[],ro:=ro,win:=fun _=>⟨0,0,none⟩}
theorem b2i_eq1(b:Bool):(b2i b==(1:Int))=b:=by cases b<;>rfl
section
variable {ro:Nat→Obj} {h:Hart} (hk:h.Ok) {n:Nat} (hn:n<4294967296) {size x:Int} {ok:Bool} {d:DecI}
theorem flagO{ρ:Env}{i:Nat}{b:Bool}(hb:ρ.v i=b2i b):(X.eq (.var i) (.lit 1)).tt ρ=b:=by
 rw [tt_eq]
 simp only [X.den,hb]
 exact b2i_eq1 b
include hn in
theorem wordO_conc(π:Pl):V.concs (envO ro h n size x ok d) π [wordO]=[.int .u32 (n:Int)]:=by
 show [Value.int .u32 (IntKind.u32.wrap (n:Int))]=_
 rw [wrap_u ⟨by omega,by omega⟩]
include hk in
theorem hartO_conc(hc:h.cause=0)(π:Pl):hartO.conc (envO ro h n size x ok d) π=.agg h.c.toArray:=by
 show Value.agg (Value.int .i64 h.id::Value.int .u32 (IntKind.u32.wrap h.pc)::V.concs (envO ro h n size x ok d) π (regsX 0 0 32 [.int .i64 (.lit 0)])).toArray=_
 rw [wrap_u hk.pc,regsX_concs (fun z hz=>hk.regs z hz) (fun j hj=>?_) 32 0 (by rw [hk.len])]
 ·unfold Hart.c
  rw [hc]
  rfl
 ·show (h.regs[(Int.ofNat j).toNat]?).getD 0=h.regs[j]
  rw [show (Int.ofNat j).toNat=j from rfl,List.getElem?_eq_getElem hj]
  rfl
theorem ansV_conc(hx:0≤x∧x≤4294967295)(π:Pl):ansV.conc (envO ro h n size x ok d) π=.agg #[.int .u32 x,.bool ok]:=by
 have e:bvDen (envO ro h n size x ok d) bits32 .zero=x:=word_of (o:=32) (k:=32) hx.1 (by have:=hx.2;omega) fun i _=>by
  show x.toNat.testBit (32+i-32)=_
  rw [Nat.add_sub_cancel_left]
 have e2:(X.eq (.var 33) (.lit 1)).tt (envO ro h n size x ok d)=ok:=flagO rfl
 show Value.agg #[.int .u32 (bvDen (envO ro h n size x ok d) bits32 .zero),.bool ((X.eq (.var 33) (.lit 1)).tt (envO ro h n size x ok d))]=_
 rw [e,e2]
theorem ansK_den(hx:0≤x∧x≤4294967295){k w:Nat}(hw:w=1∨w=2∨w=4∨w=0):(ansK k w fun _=>bits32).den (envO ro h n size x ok d)=ansX k w x:=by
 have go:∀ {w},w=1∨w=2∨w=4∨w=0→bvDen (envO ro h n size x ok d) (bits32.take (8*w)) .zero=x % 2 ^ (8*w):=by
  intro w hw
  have e:bits32.take (8*w)=posL 32 (8*w)++[]:=by rcases hw with rfl | rfl | rfl | rfl<;>rfl
  obtain⟨m,rfl⟩:=Int.eq_ofNat_of_zero_le hx.1
  rw [e,bits_of (ρ:=envO ro h n size (m:Int) ok d) (o:=32) (k:=8*w) (n:=m) (fun i _=>by
   show (m:Int).toNat.testBit (32+i-32)=_
   rw [Nat.add_sub_cancel_left]
   rfl)]
  simp only [bvDen,B.den,b2i]
  norm_cast
 unfold ansK ansX
 split
 ·rw [if_pos (.inl rfl)];exact go hw
 ·rw [if_pos (.inr (.inl rfl))];exact go hw
 ·rw [if_pos (.inr (.inr rfl))];exact go hw
 ·rename_i h1 h2 h3
  rw [if_neg fun e=>e.elim h1 fun e=>e.elim h2 h3]
  rfl
theorem ansO_tt{k:Nat}:(ansO k).tt (envO ro h n size x ok d)=if k=4 then ok else false:=by
 unfold ansO
 split
 ·rw [if_pos rfl];exact flagO rfl
 ·rename_i hne
  rw [if_neg (fun e=>hne e)]
  rfl
theorem instO_conc(hd:d.Ok)(π:Pl):(instO d.op).conc (envO ro h n size x ok d) π=d.v:=by
 have e1:(X.eq (.var 25) (.lit 1)).tt (envO ro h n size x ok d)=d.aq:=flagO rfl
 have e2:(X.eq (.var 26) (.lit 1)).tt (envO ro h n size x ok d)=d.rl:=flagO rfl
 obtain⟨op,rd,r1,r2,m,aq,rl⟩:=d
 have wm:IntKind.u32.wrap m=m:=wrap_u hd.n
 cases op with
 | zero=>
  obtain⟨h1,h2,h3,h4⟩:=hd.zero rfl
  simp only at h1 h2 h3 h4
  subst h1 h2 h3 h4
  simp only [instO,V.conc,V.concs,X.den,e1,e2,DecI.v]
  rfl
 | succ op=>
  have r0:=hd.no
  have m0:=hd.imm
  simp only at r0 m0
  cases hh:hasRd (op+1) with
  | true=>cases hm:noImm (op+1) with
   | true=>
    have:=m0 hm
    subst this
    simp only [instO,hh,hm,V.conc,V.concs,e1,e2,DecI.v]
    rfl
   | false=>
    simp only [instO,hh,hm,V.conc,V.concs,e1,e2,DecI.v,X.den]
    rw [show (envO ro h n size x ok ⟨op+1,rd,r1,r2,m,aq,rl⟩).v 24=m from rfl,wm]
    rfl
  | false=>
   have:=r0 hh
   subst this
   cases hm:noImm (op+1) with
   | true=>
    have:=m0 hm
    subst this
    simp only [instO,hh,hm,V.conc,V.concs,e1,e2,DecI.v]
    rfl
   | false=>
    simp only [instO,hh,hm,V.conc,V.concs,e1,e2,DecI.v,X.den]
    rw [show (envO ro h n size x ok ⟨op+1,0,r1,r2,m,aq,rl⟩).v 24=m from rfl,wm]
    rfl
include hk in
theorem pcO_ok(hd:d.Ok):PcOk (envO ro h n size x ok d) pcO:=by
 intro f hf
 have le:∀ {a b:X} {p q:Int},a.den (envO ro h n size x ok d)=p→b.den (envO ro h n size x ok d)=q→p≤q→(X.le a b).tt (envO ro h n size x ok d)=true:=fun h1 h2 h3=>by
  rw [tt_le',h1,h2];exact decide_eq_true h3
 have h0:=hk.id
 have h1:=hd.rd
 have h2:=hd.r1
 have h3:=hd.r2
 simp only [pcO,List.mem_cons,List.not_mem_nil,or_false] at hf
 rcases hf with rfl | rfl | rfl | rfl | rfl | rfl | rfl | rfl | rfl | rfl
 ·exact le rfl rfl h0.1
 ·exact le rfl rfl h0.2
 ·exact le rfl rfl h1.1
 ·exact le rfl rfl h1.2
 ·exact le rfl rfl h2.1
 ·exact le rfl rfl h2.2
 ·exact le rfl rfl h3.1
 ·exact le rfl rfl h3.2
 ·rw [tt_eq]
  show (IntKind.u32.wrap ((h.regs[(0:Int).toNat]?).getD 0)==(0:Int))=true
  rw [show (0:Int).toNat=0 from rfl,hk.zero]
  rfl
 ·rfl
end
structure StepIs (ro:Nat→Obj) (h:Hart) (n:Nat) (size x:Int) (ok:Bool) (a:Acc) (why:Int) (k:Hart) (c:Com):Prop where
 acc:a.Ok size
 hart:k.Ok
 id:k.id=h.id
 com:c.Ok
 cause:c.cause=k.cause
 cx:c.x=ansX a.k a.w x
 cok:c.ok=if a.k=4 then ok else false
 act:CallsAt Tryz.prog LStart 7 100000 ro 46 [.agg h.c.toArray,.int .u32 n,.int .i64 size] (.tuple #[.agg a.c.toArray,.int .i64 why,.int .i64 0])
 ract:CallsAt Tryz.prog LStart 7 100000 ro 39 [.agg h.c.toArray,.int .u32 n,.int .i64 size] (.tuple #[.agg a.c.toArray,.int .i64 why])
 commit:CallsAt Tryz.prog LStart 7 100000 ro 47 [.agg h.c.toArray,.int .u32 n,.int .i64 size,.agg #[.int .u32 x,.bool ok]] (.tuple #[.agg k.c.toArray,.agg (c.c a).toArray,.int .i64 0])
 rcommit:CallsAt Tryz.prog LStart 7 100000 ro 41 [.agg h.c.toArray,.int .u32 n,.int .i64 size,.agg #[.int .u32 x,.bool ok]] (.tuple #[.agg k.c.toArray,.agg (c.c a).toArray])
theorem AtAll.cons{ro:Nat→Obj}{ρ:Env}(hr:ρ.ro=ro){l:SmL}(h:AtAll ro l){c:Cx}{f:FuncId} {s:List V→St→R (V×St)} (hs:SumAt Tryz.prog c ρ f s) (hl:AllL (fun f s=>SumAt Tryz.prog c ρ f s) l):AllL (fun f s=>SumAt Tryz.prog c ρ f s) ((f,s)::l):=⟨hs,hl⟩
section
variable {W:World} {ro:Nat→Obj} (hro:RoAll ro) (hW:∀ x∈LStart,W.heap[x.1]?=some (ro x.1))
include hro hW
theorem comp_at{c:Cx}{ρ:Env}(hs:SumOk Tryz.prog c ρ)(h1:c.tt=cxD.tt)(h2:c.ft=cxD.ft)(h3:c.ng=7)(hr:ρ.ro=ro){x:List V}(hx:V.pures x=true){pc:PC}(hpc:PcOk ρ pc){m:Nat}{f:FuncId}{fn:Func} {l:List (FuncId×List V)} {acc:List V} {k:List V→PC→Bool} (hfn:Tryz.prog.funcs[f]?=some fn)
  (h:comp (ev c 4000).call LStart 7 m ((f,x)::l) acc pc k=true):∃ (v:V) (pc':PC),PcOk ρ pc'∧comp (ev c 4000).call LStart 7 m l (v::acc) pc' k=true∧∀ a val,(∀ π,V.concs ρ π x=a)→(∀ π,v.conc ρ π=val)→CallsAt Tryz.prog LStart 7 m ro f a val:=by
 obtain⟨v,st,e1,e2,e3,e4⟩:=comp_step (ρ:=ρ) h
 have hp:PcOk ρ st.pc:=pc_after (w:=W) (π0:=πStart) mixed_door (by rw [h1];exact tt_ok) (by rw [h2];exact ft_ok) hs h3 LStart_lt (hro ρ hr) (fun _ _=>rfl) (by rw [hr];exact hW) hpc e1 hx hfn
 exact⟨v,st.pc,hp,e4,fun a val ha hv=>⟨c,4000,ρ,pc,x,v,st,hs,by rw [h1];exact tt_ok,by rw [h2];exact ft_ok,h3,hr,hro ρ hr,hpc,e1,e3,e2,hv,hx,ha⟩⟩
theorem step_ex{h:Hart}(hk:h.Ok)(hc:h.cause=0){n:Nat}(hn:n<4294967296){size x:Int}{ok:Bool}(hx:0≤x∧x≤4294967295):∃ (a:Acc) (why:Int) (k:Hart) (c:Com),StepIs ro h n size x ok a why k c:=by
 obtain⟨d,hd,hd1,hd2⟩:=dec_ex hro hn
 have hrun:=op_all hd.op
 unfold opRun at hrun
 rw [←evT_call] at hrun
 have told:∀ {f:FuncId} {fn:Func},Tryz.prog.funcs[f]?=some fn→CallsAt Tryz.prog LStart 7 1000 ro f [.int .u32 (n:Int)] d.v→SumAt Tryz.prog (cxO d.op) (envO ro h n size x ok d) f (sumTab LStart 7 [([wordO],lf 1007 (instO d.op))]):=fun hfn hd=>
  sumTab_told (m:=1000) mixed_door rfl LStart_lt hfn fun y hy=>by
   obtain rfl:=List.mem_singleton.1 hy
   refine⟨_,_,hd,wordO_conc hn,fun l hl=>?_⟩
   obtain rfl:=Option.some.inj hl
   exact⟨rfl,rfl,instO_conc ‹d.Ok›,fun r=>by dsimp only [lf];cases d.op<;>rfl,by dsimp only [lf];cases d.op<;>rfl⟩
 have hs:SumOk Tryz.prog (cxO d.op) (envO ro h n size x ok d):=smOf_okL (l:=slO d.op) ⟨told Tryz.func79 hd1,told Tryz.func53 hd2,ok101 hro _ rfl _ rfl⟩ rfl
 have hpc:=pcO_ok (ro:=ro) (n:=n) (size:=size) (x:=x) (ok:=ok) hk hd
 have hh:∀ π,V.concs (envO ro h n size x ok d) π [hartO,wordO,sizeO]=[.agg h.c.toArray,.int .u32 n,.int .i64 size]:=fun π=>by
  have:=wordO_conc (ro:=ro) (h:=h) (size:=size) (x:=x) (ok:=ok) (d:=d) hn π
  simp only [V.concs,hartO_conc hk hc,List.cons.injEq,and_true] at this ⊢
  exact⟨trivial,this,rfl⟩
 have hh4:∀ π,V.concs (envO ro h n size x ok d) π [hartO,wordO,sizeO,ansV]=[.agg h.c.toArray,.int .u32 n,.int .i64 size,.agg #[.int .u32 x,.bool ok]]:=fun π=>by
  have:=hh π
  simp only [V.concs,List.cons.injEq,and_true] at this ⊢
  exact⟨this.1,this.2.1,this.2.2,ansV_conc hx π⟩
 have hp3:V.pures [hartO,wordO,sizeO]=true:=by decide
 have hp4:V.pures [hartO,wordO,sizeO,ansV]=true:=by decide
 obtain⟨v1,pc1,p1,hrun,c1⟩:=comp_at hro hW hs rfl rfl rfl rfl hp3 hpc Tryz.func46 hrun
 obtain⟨v2,pc2,p2,hrun,c2⟩:=comp_at hro hW hs rfl rfl rfl rfl hp3 p1 Tryz.func39 hrun
 obtain⟨v3,pc3,p3,hrun,c3⟩:=comp_at hro hW hs rfl rfl rfl rfl hp4 p2 Tryz.func47 hrun
 obtain⟨v4,pc4,p4,hrun,c4⟩:=comp_at hro hW hs rfl rfl rfl rfl hp4 p3 Tryz.func41 hrun
 obtain⟨u4,u3,u2,u1,a,k,c,w,e,l1,l2,l3,l4,l5,l6,l7,g1,g2,g3,g4⟩:=look4_ok p4 hk.id (show look4 [v4,v3,v2,v1] pc4=true from hrun)
 injection e with e4 e
 injection e with e3 e
 injection e with e2 e
 injection e with e1 _
 subst e1 e2 e3 e4
 have hw:a.w=1∨a.w=2∨a.w=4∨a.w=0:=by
  have:=l1.k
  rcases Nat.lt_or_ge a.k 1 with q | q
  ·have:=l1.none (.inl (by omega));omega
  rcases Nat.lt_or_ge a.k 3 with q2 | q2
  ·have:=l1.w q (by omega);omega
  rcases Nat.lt_or_ge a.k 6 with q3 | q3
  ·have:=l1.w4 q2 (by omega);omega
  ·have:=l1.none (.inr (by omega));omega
 exact⟨a,w,k,c,l1,l2,l3,l4,l5,l6.trans (ansK_den hx hw),l7.trans ansO_tt,c1 _ _ hh g1,c2 _ _ hh g2,c3 _ _ hh4 g3,c4 _ _ hh4 g4⟩
end
end Go.Proofs.YtmickljjofbmiaaGreatDoor
