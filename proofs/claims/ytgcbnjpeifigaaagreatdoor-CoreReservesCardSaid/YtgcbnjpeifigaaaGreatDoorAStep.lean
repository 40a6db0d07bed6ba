/- Alone: what an instruction does: of any hart that goes on, any word, any answer; the document's the same. Alone: what an AMO stores: the program's answer is the document's. No condition. -/
import Derived.Test.YtgcbnjpeifigaaaGreatDoorAOp0
import Derived.Test.YtgcbnjpeifigaaaGreatDoorAOp1
import Derived.Test.YtgcbnjpeifigaaaGreatDoorAOp2
import Derived.Test.YtgcbnjpeifigaaaGreatDoorAOp3
import Derived.Test.YtgcbnjpeifigaaaGreatDoorFwH
import Derived.Test.YtgcbnjpeifigaaaGreatDoorADecS
namespace Go.Proofs.YtgcbnjpeifigaaaGreatDoor
open Go Go.Proofs
theorem anv{k:Nat}(h:k<=59):bf k=true:=by
 rcases qkz k 15 with h1|h1
 ·exact auj.mem k (by have:k∈List.range' 0 15:=List.mem_range'.2 ⟨k,by omega,by omega⟩;exact this)
 rcases qkz k 30 with h2|h2
 ·exact auk.mem k (by have:k∈List.range' 15 15:=List.mem_range'.2 ⟨k-15,by omega,by omega⟩;exact this)
 rcases qkz k 45 with h3|h3
 ·exact aul.mem k (by have:k∈List.range' 30 15:=List.mem_range'.2 ⟨k-30,by omega,by omega⟩;exact this)
 ·exact aum.mem k (by have:k∈List.range' 45 15:=List.mem_range'.2 ⟨k-45,by omega,by omega⟩;exact this)
def j7(ro:Nat->Obj)(h:gM)(n:Nat)(size x:Int)(ok:Bool)(d:ua):Env:=
 {b:=fun i=>x.toNat.testBit (i-32)
  v:=fun i=>if i=0 then h.id else if i=1 then h.pc else if i=21 then d.rd else if i=22 then d.r1 else if i=23 then d.r2 else if i=24 then d.n else if i=25 then bp d.aq else if i=26 then bp d.rl else if i=30 then n else if i=31 then size else bp ok
  f1:=fun _ j=>(h.regs[j.toNat]?).getD 0
  f2:=fun _ _ _=>0,s:=fun _=>[],sf:=fun _ _=>[],ro:=ro,win:=fun _=>⟨0,0,none⟩}
theorem Zv(b:Bool):(bp b==(1:Int))=b:=by cases b<;>rfl
section
variable {ro:Nat→Obj} {h:gM} (hk:h.Ok) {n:Nat} (hn:n<4294967296) {size x:Int} {ok:Bool} {d:ua}
theorem PS{ρ:Env}{i:Nat}{b:Bool}(hb:ρ.v i=bp b):(X.eq (.var i) (.lit 1)).tt ρ=b:=by
 rw[bZ];simp only[X.den,hb];exact Zv b
include hn in
theorem C3(π:Pl):V.ae (j7 ro h n size x ok d) π [pf]=[.int .u32 (n:Int)]:=by
 show[Value.int .u32 (IntKind.u32.wrap (n:Int))]=_;rw[fy ⟨by omega,by omega⟩]
include hk in
theorem NP(hc:h.cause=0)(π:Pl):uL.ab (j7 ro h n size x ok d) π=.agg h.c.toArray:=by
 show Value.agg (Value.int .i64 h.id::Value.int .u32 (IntKind.u32.wrap h.pc)::V.ae (j7 ro h n size x ok d) π (Mm 0 0 32 [.int .i64 (.lit 0)])).toArray=_;rw[fy hk.pc,ze (fun z hz=>hk.regs z hz) (fun j hj=>?_) 32 0 (by rw[hk.len])]
 ·unfold gM.c;rw[hc];rfl
 ·show(h.regs[(Int.ofNat j).toNat]?).getD 0=h.regs[j];rw[show(Int.ofNat j).toNat=j from rfl,qq0 hj];rfl
theorem RK(hx:0<=x/\x<=4294967295)(π:Pl):Ux.ab (j7 ro h n size x ok d) π=.agg #[.int .u32 x,.bool ok]:=by
 have e:ay (j7 ro h n size x ok d) n7 .zero=x:=I3 (o:=32) (k:=32) hx.1 (by have:=hx.2;omega) fun i _=>by
  show x.toNat.testBit (32+i-32)=_;rw[qq8]
 have e2:(X.eq (.var 33) (.lit 1)).tt (j7 ro h n size x ok d)=ok:=PS rfl;show Value.agg #[.int .u32 (ay (j7 ro h n size x ok d) n7 .zero),.bool ((X.eq (.var 33) (.lit 1)).tt (j7 ro h n size x ok d))]=_;rw[e,e2]
theorem Uv(hx:0<=x/\x<=4294967295){k w:Nat}(hw:w=1\/w=2\/w=4\/w=0):(Uu k w fun _=>n7).den (j7 ro h n size x ok d)=ajG k w x:=by
 have go:∀ {w},w=1\/w=2\/w=4\/w=0->ay (j7 ro h n size x ok d) (n7.take (8*w)) .zero=x % 2 ^ (8*w):=by
  intro w hw;have e:n7.take (8*w)=yd 32 (8*w)++[]:=by rcases hw with rfl|rfl|rfl|rfl<;>rfl
  obtain⟨m,rfl⟩:=qkv hx.1;rw[e,FR (ρ:=j7 ro h n size (m:Int) ok d) (o:=32) (k:=8*w) (n:=m) (fun i _=>by
   show(m:Int).toNat.testBit (32+i-32)=_;rw[qq8];rfl)]
  simp only[ay,B.den,bp];norm_cast
 unfold Uu ajG;split
 ·rw[if_pos (.inl rfl)];exact go hw
 ·rw[if_pos (.inr (.inl rfl))];exact go hw
 ·rw[if_pos (.inr (.inr rfl))];exact go hw
 ·rename_i h1 h2 h3;rw[if_neg fun e=>e.elim h1 fun e=>e.elim h2 h3];rfl
theorem Zj{k:Nat}:(Uw k).tt (j7 ro h n size x ok d)=if k=4 then ok else false:=by
 unfold Uw;split
 ·rw[if_pos rfl];exact PS rfl
 ·rename_i hne;rw[if_neg (fun e=>hne e)];rfl
theorem NS(hd:d.Ok)(π:Pl):(uQ d.op).ab (j7 ro h n size x ok d) π=d.v:=by
 have e1:(X.eq (.var 25) (.lit 1)).tt (j7 ro h n size x ok d)=d.aq:=PS rfl;have e2:(X.eq (.var 26) (.lit 1)).tt (j7 ro h n size x ok d)=d.rl:=PS rfl;obtain⟨op,rd,r1,r2,m,aq,rl⟩:=d;have wm:IntKind.u32.wrap m=m:=fy hd.n;cases op with
 |zero=>
  obtain⟨h1,h2,h3,h4⟩:=hd.zero rfl;simp only at h1 h2 h3 h4;subst h1 h2 h3 h4;simp only[uQ,V.ab,V.ae,X.den,e1,e2,ua.v];rfl
 |succ op=>
  have r0:=hd.no;have m0:=hd.imm;simp only at r0 m0;cases hh:J5 (op+1)with
  |true=>cases hm:EO (op+1)with
   |true=>
    have:=m0 hm;subst this;simp only[uQ,hh,hm,V.ab,V.ae,e1,e2,ua.v];rfl
   |false=>
    simp only[uQ,hh,hm,V.ab,V.ae,e1,e2,ua.v,X.den];rw[show(j7 ro h n size x ok ⟨op+1,rd,r1,r2,m,aq,rl⟩).v 24=m from rfl,wm];rfl
  |false=>
   have:=r0 hh;subst this;cases hm:EO (op+1)with
   |true=>
    have:=m0 hm;subst this;simp only[uQ,hh,hm,V.ab,V.ae,e1,e2,ua.v];rfl
   |false=>
    simp only[uQ,hh,hm,V.ab,V.ae,e1,e2,ua.v,X.den];rw[show(j7 ro h n size x ok ⟨op+1,0,r1,r2,m,aq,rl⟩).v 24=m from rfl,wm];rfl
include hk in
theorem anD(hd:d.Ok):ai (j7 ro h n size x ok d) pcO:=by
 intro f hf;have le:∀ {a b:X} {p q:Int},a.den (j7 ro h n size x ok d)=p->b.den (j7 ro h n size x ok d)=q->p<=q->(X.le a b).tt (j7 ro h n size x ok d)=true:=fun h1 h2 h3=>by
  rw[YS,h1,h2];exact decide_eq_true h3
 have h0:=hk.id;have h1:=hd.rd;have h2:=hd.r1;have h3:=hd.r2;simp only[pcO,List.mem_cons,qk6,or_false]at hf;rcases hf with rfl|rfl|rfl|rfl|rfl|rfl|rfl|rfl|rfl|rfl
 ·exact le rfl rfl h0.1
 ·exact le rfl rfl h0.2
 ·exact le rfl rfl h1.1
 ·exact le rfl rfl h1.2
 ·exact le rfl rfl h2.1
 ·exact le rfl rfl h2.2
 ·exact le rfl rfl h3.1
 ·exact le rfl rfl h3.2
 ·rw[bZ];show(IntKind.u32.wrap ((h.regs[(0:Int).toNat]?).getD 0)==(0:Int))=true;rw[show(0:Int).toNat=0 from rfl,hk.zero];rfl
 ·rfl
end
structure StepIs (ro:Nat->Obj) (h:gM) (n:Nat) (size x:Int) (ok:Bool) (a:Acc) (why:Int) (k:gM) (c:M9):Prop where
 acc:a.Ok size
 hart:k.Ok
 id:k.id=h.id
 com:c.Ok
 cause:c.cause=k.cause
 cx:c.x=ajG a.k a.w x
 cok:c.ok=if a.k=4 then ok else false
 act:bI Tryz.prog aj 7 100000 ro 41 [.agg h.c.toArray,.int .u32 n,.int .i64 size] (.tuple #[.agg a.c.toArray,.int .i64 why,.int .i64 0])
 ract:bI Tryz.prog aj 7 100000 ro 98 [.agg h.c.toArray,.int .u32 n,.int .i64 size] (.tuple #[.agg a.c.toArray,.int .i64 why])
 commit:bI Tryz.prog aj 7 100000 ro 152 [.agg h.c.toArray,.int .u32 n,.int .i64 size,.agg #[.int .u32 x,.bool ok]] (.tuple #[.agg k.c.toArray,.agg (c.c a).toArray,.int .i64 0])
 rcommit:bI Tryz.prog aj 7 100000 ro 143 [.agg h.c.toArray,.int .u32 n,.int .i64 size,.agg #[.int .u32 x,.bool ok]] (.tuple #[.agg k.c.toArray,.agg (c.c a).toArray])
theorem aO.cons{ro:Nat->Obj}{ρ:Env}(_:ρ.ro=ro){l:l9}(_:aO ro l){c:Cx}{f:FuncId} {s:List V->St->R (V×St)} (hs:fM Tryz.prog c ρ f s) (hl:Ao (fun f s=>fM Tryz.prog c ρ f s) l):Ao (fun f s=>fM Tryz.prog c ρ f s) ((f,s)::l):=⟨hs,hl⟩
section
variable {W:World} {ro:Nat→Obj} (hro:aZ ro) (hW:∀ x∈aj,W.heap[x.1]?=some (ro x.1))
include hro hW
theorem qT{c:Cx}{ρ:Env}(hs:SumOk Tryz.prog c ρ)(h1:c.tt=cxD.tt)(h2:c.ft=cxD.ft)(h3:c.ng=7)(hr:ρ.ro=ro){x:List V}(hx:V.dN x=true){pc:PC}(hpc:ai ρ pc){m:Nat}{f:FuncId}{fn:Func} {l:List (FuncId×List V)} {acc:List V} {k:List V->PC->Bool} (hfn:Tryz.prog.funcs[f]?=some fn)
  (h:comp (ev c 4000).call aj 7 m ((f,x)::l) acc pc k=true):∃ (v:V) (pc':PC),ai ρ pc'/\comp (ev c 4000).call aj 7 m l (v::acc) pc' k=true/\∀ a val,(∀ π,V.ae ρ π x=a)->(∀ π,v.ab ρ π=val)->bI Tryz.prog aj 7 m ro f a val:=by
 obtain⟨v,st,e1,e2,e3,e4⟩:=RU (ρ:=ρ) h;have hp:ai ρ st.pc:=WL (w:=W) (π0:=πStart) bG (by rw[h1];exact dh) (by rw[h2];exact dV) hs h3 dS (hro ρ hr) (fun _ _=>rfl) (by rw[hr];exact hW) hpc e1 hx hfn;exact⟨v,st.pc,hp,e4,fun a val ha hv=>⟨c,4000,ρ,pc,x,v,st,hs,by rw[h1];exact dh,by rw[h2];exact dV,h3,hr,hro ρ hr,hpc,e1,e3,e2,hv,hx,ha⟩⟩
theorem acK{h:gM}(hk:h.Ok)(hc:h.cause=0){n:Nat}(hn:n<4294967296){size x:Int}{ok:Bool}(hx:0<=x/\x<=4294967295):∃ (a:Acc) (why:Int) (k:gM) (c:M9),StepIs ro h n size x ok a why k c:=by
 obtain⟨d,hd,hd1,hd2⟩:=amO hro hn;have hrun:=anv hd.op;unfold bf at hrun;rw[<-cj]at hrun;have told:∀ {f:FuncId} {fn:Func},Tryz.prog.funcs[f]?=some fn->bI Tryz.prog aj 7 1000 ro f [.int .u32 (n:Int)] d.v->fM Tryz.prog (cxO d.op) (j7 ro h n size x ok d) f (bY aj 7 [([pf],lf 1007 (uQ d.op))]):=fun hfn hd=>
  zm (m:=1000) bG rfl dS hfn fun y hy=>by
   obtain rfl:=qq4.1 hy;refine⟨_,_,hd,C3 hn,fun l hl=>?_⟩;obtain rfl:=qqz hl;exact⟨rfl,rfl,NS ‹d.Ok›,fun r=>by dsimp only[lf];cases d.op<;>rfl,by dsimp only[lf];cases d.op<;>rfl⟩
 have hs:SumOk Tryz.prog (cxO d.op) (j7 ro h n size x ok d):=lX (l:=slO d.op) ⟨told Tryz.func120 hd1,told Tryz.func136 hd2,adl hro _ rfl _ rfl⟩ rfl;have hpc:=anD (ro:=ro) (n:=n) (size:=size) (x:=x) (ok:=ok) hk hd;have hh:∀ π,V.ae (j7 ro h n size x ok d) π [uL,pf,zk]=[.agg h.c.toArray,.int .u32 n,.int .i64 size]:=fun π=>by
  have:=C3 (ro:=ro) (h:=h) (size:=size) (x:=x) (ok:=ok) (d:=d) hn π;simp only[V.ae,NP hk hc,List.cons.injEq,and_true]at this ⊢;exact⟨trivial,this,rfl⟩
 have hh4:∀ π,V.ae (j7 ro h n size x ok d) π [uL,pf,zk,Ux]=[.agg h.c.toArray,.int .u32 n,.int .i64 size,.agg #[.int .u32 x,.bool ok]]:=fun π=>by
  have:=hh π;simp only[V.ae,List.cons.injEq,and_true]at this ⊢;exact⟨this.1,this.2.1,this.2.2,RK hx π⟩
 have hp3:V.dN [uL,pf,zk]=true:=by decide
 have hp4:V.dN [uL,pf,zk,Ux]=true:=by decide
 obtain⟨v1,pc1,p1,hrun,c1⟩:=qT hro hW hs rfl rfl rfl rfl hp3 hpc Tryz.func41 hrun;obtain⟨v2,pc2,p2,hrun,c2⟩:=qT hro hW hs rfl rfl rfl rfl hp3 p1 Tryz.func98 hrun;obtain⟨v3,pc3,p3,hrun,c3⟩:=qT hro hW hs rfl rfl rfl rfl hp4 p2 Tryz.func152 hrun;obtain⟨v4,pc4,p4,hrun,c4⟩:=qT hro hW hs rfl rfl rfl rfl hp4 p3 Tryz.func143 hrun;obtain⟨u4,u3,u2,u1,a,k,c,w,e,l1,l2,l3,l4,l5,l6,l7,g1,g2,g3,g4⟩:=VZ p4 hk.id (show P9 [v4,v3,v2,v1] pc4=true from hrun);injection e with e4 e;injection e with e3 e;injection e with e2 e;injection e with e1 _;subst e1 e2 e3 e4;have hw:a.w=1\/a.w=2\/a.w=4\/a.w=0:=by
  have:=l1.k;rcases qkz a.k 1 with q|q
  ·have:=l1.none (.inl (by omega));omega
  rcases qkz a.k 3 with q2|q2
  ·have:=l1.w q (by omega);omega
  rcases qkz a.k 6 with q3|q3
  ·have:=l1.w4 q2 (by omega);omega
  ·have:=l1.none (.inr (by omega));omega
 exact⟨a,w,k,c,l1,l2,l3,l4,l5,l6.trans (Uv hx hw),l7.trans Zj,c1 _ _ hh g1,c2 _ _ hh g2,c3 _ _ hh4 g3,c4 _ _ hh4 g4⟩
end
noncomputable def aoZ:Cx:={cx with dm:=RX,sm:=tW Xu,sx:=true}
noncomputable def uo(op:Nat):List V:=[.int .i64 (.lit (.ofNat op)),.int .u32 (.wrap .u32 (.var 0)),.int .u32 (.wrap .u32 (.var 1))]
noncomputable def zP(op:Nat):List V->PC->Bool
 |[.int .u32 r,.tuple [.int .u32 n,.int .i64 _]],pc=>bc (T9 r) (T9 n) (match op with|0=>true|_=>qG pc r n) true true true
 |_,_=>false
noncomputable def j5(op:Nat):Bool:=comp (PL aoZ 4000).call aj 7 100000 [(132,uo op),(106,uo op)] [] [(.le (.lit 0) (.lit 7),true)] (zP op)
set_option maxRecDepth 100000 in
theorem Ut:(j5 0&&(j5 50&&(j5 51&&(j5 52&&(j5 53&&(j5 54&&(j5 55&&(j5 56&&(j5 57&&j5 58)))))))))=true:=by kernel_rfl
theorem Zi{op:Nat}(h:op=0\/50<=op/\op<=58):j5 op=true:=by
 have e:=Ut;simp only[qqw]at e;obtain⟨e0,e1,e2,e3,e4,e5,e6,e7,e8,e9⟩:=e;obtain rfl|rfl|rfl|rfl|rfl|rfl|rfl|rfl|rfl|rfl:op=0\/op=50\/op=51\/op=52\/op=53\/op=54\/op=55\/op=56\/op=57\/op=58:=by omega
 ·exact e0
 ·exact e1
 ·exact e2
 ·exact e3
 ·exact e4
 ·exact e5
 ·exact e6
 ·exact e7
 ·exact e8
 ·exact e9
theorem Ni{op:Nat}{l:List V}{pc:PC}(h:zP op l pc=true):∃ r n e,l=[.int .u32 r,.tuple [.int .u32 n,.int .i64 e]]/\T9 r=true/\T9 n=true/\(op≠0->qG pc r n=true):=by
 unfold zP at h;split at h
 ·rename_i r n e;obtain⟨h1,h2,h3,_⟩:=ar h;refine⟨r,n,e,rfl,h1,h2,fun hne=>?_⟩;split at h3
  ·exact absurd rfl hne
  ·exact h3
 ·cases h
section
variable {W:World} {ro:Nat→Obj} (hro:aZ ro) (hW:∀ x∈aj,W.heap[x.1]?=some (ro x.1))
include hro hW
theorem ajD{op:Nat}(hop:op=0\/50<=op/\op<=58){a b:Int}(ha:0<=a/\a<=4294967295)(hb:0<=b/\b<=4294967295):∃ n e r:Int,bI Tryz.prog aj 7 100000 ro 132 [.int .i64 op,.int .u32 a,.int .u32 b] (.tuple #[.int .u32 n,.int .i64 e])/\bI Tryz.prog aj 7 100000 ro 106 [.int .i64 op,.int .u32 a,.int .u32 b] (.int .u32 r)/\(op≠0->r=n)/\(0<=n/\n<=4294967295)/\(0<=r/\r<=4294967295):=by
 have h:=Zi hop;unfold j5 at h;rw[<-cj]at h;let ρ:Env:={b:=fun _=>false,v:=fun i=>if i=0 then a else b,f1:=fun _ _=>0,f2:=fun _ _ _=>0,s:=fun _=>[],sf:=fun _ _=>[],ro:=ro,win:=fun _=>⟨0,0,none⟩}
 have hs:SumOk Tryz.prog aoZ ρ:=(adl hro).ok rfl rfl;have hpc:ai ρ [(.le (.lit 0) (.lit 7),true)]:=fun f hf=>by
  obtain rfl:=qq4.1 hf;rfl
 have hc:∀ π,V.ae ρ π (uo op)=[.int .i64 op,.int .u32 a,.int .u32 b]:=fun π=>by
  show[Value.int .i64 (op:Int),.int .u32 (IntKind.u32.wrap a),.int .u32 (IntKind.u32.wrap b)]=_;rw[fy ha,fy hb]
 obtain⟨v1,pc1,p1,h,c1⟩:=qT hro hW hs rfl rfl rfl rfl (by rfl:V.dN (uo op)=true) hpc Tryz.func132 h;obtain⟨v2,pc2,p2,h,c2⟩:=qT hro hW hs rfl rfl rfl rfl (by rfl:V.dN (uo op)=true) p1 Tryz.func106 h;obtain⟨r,n,e,he,h1,h2,h3⟩:=Ni (show zP op [v2,v1] pc2=true from h);injection he with e2 he;injection he with e1 _;subst e1 e2;exact⟨n.den ρ,e.den ρ,r.den ρ,c1 _ _ hc fun π=>rfl,c2 _ _ hc fun π=>rfl,fun hne=>j1 p2 (h3 hne),bh h2,bh h1⟩
end
end Go.Proofs.YtgcbnjpeifigaaaGreatDoor
