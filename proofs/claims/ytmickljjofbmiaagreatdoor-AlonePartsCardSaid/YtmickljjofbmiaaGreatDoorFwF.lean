/- Symbolic execution, part 35: functions as symbols: two trees that cE; more names. Symbolic execution, part 36: a run over a part of a row that came in. Symbolic execution: functions of words whose value is told by an expression. Values that came in, opened: cells of integers and truths; a part of a row of such. No condition. -/
import Derived.Test.YtmickljjofbmiaaGreatDoorSeX
import Derived.OpenShut
import Derived.ChangeSlices
namespace Go.Proofs.YtmickljjofbmiaaGreatDoor
open Go Go.RowKit
noncomputable section
section
variable {ρ:Env} {S:Nat→Prop} {π0 π1:Pl} {h h1:H} {w w1:World} {n n1 n2:Nat}
theorem Ext.more{i:Nat}(hn:n1≤n2)(hi:Ext S n n1 i):Ext S n n2 i:=hi.elim .inl fun⟨a,b⟩=>.inr ⟨a,Nat.lt_of_lt_of_le b hn⟩
theorem cS.more(g:cS ρ S π0 h w n π1 h1 w1 n1)(hn:n1≤n2):cS ρ S π0 h w n π1 h1 w1 n2 where
 le:=Nat.le_trans g.le hn
 known:=g.known
 at_:=⟨fun π hk=>g.at_.rep π fun i hi=>hk i (Ext.more hn hi),fun i o hi=>Ext.more hn (g.at_.dom i o hi)⟩
 sub:=g.sub
 keep:=g.keep
 size:=g.size
 same:=g.same
theorem EPost.more{st:St}{v:V}{st1:St}{m:Nat}{e:Ending} (hp:EPost ρ S π0 st w (.ret v,st1) e w1) (hn:st1.n≤m):EPost ρ S π0 st w (.ret v,{st1 with n:=m}) e w1:=by
 obtain⟨hpc,π2,g,c,he,hv⟩:=hp
 exact⟨hpc,π2,g.more hn,c,he,fun π hk=>hv π fun i hi=>hk i (Ext.more hn hi)⟩
end
mutual
def dQ(pc:PC):V→V→Bool
 | .int k x,.int j y=>bq k j&&(match holds pc (mkEq x y) with
  | some true=>true
  | _=>false)
 | .bool x,.bool y=>match holds pc (mkIff x y) with
  | some true=>true
  | _=>false
 | .agg l,.agg m=>sj pc l m
 | .tuple l,.tuple m=>sj pc l m
 | _,_=>false
def sj(pc:PC):List V→List V→Bool
 | [],[]=>true
 | v::l,u::m=>dQ pc v u&&sj pc l m
 | _,_=>false
end
def eC(lf:Leaf)(m:Nat):R Leaf→PC→Bool
 | .ok lf',pc=>dQ pc lf.v lf'.v&&(Nat.ble lf.n m&&(Nat.ble lf'.n m&&(lf.objs.isEmpty&&lf'.objs.isEmpty)))
 | .br c t f,pc=>match eI pc c with
  | some true=>eC lf m t pc
  | some false=>eC lf m f pc
  | none=>eC lf m t ((c,true)::pc)&&eC lf m f ((c,false)::pc)
 | .stuck _,_=>false
def cE(m:Nat):R Leaf→R Leaf→PC→Bool
 | .ok lf,u,pc=>eC lf m u pc
 | .br c t f,u,pc=>match eI pc c with
  | some true=>cE m t u pc
  | some false=>cE m f u pc
  | none=>cE m t u ((c,true)::pc)&&cE m f u ((c,false)::pc)
 | .stuck _,_,_=>false
section
variable {ρ:Env}
theorem gy{pc:PC}(hp:av ρ pc):∀ {x:X} {b:Bool},holds pc x=some b→x.tt ρ=b:=by
 intro x
 induction x with
 | lit n=>
  intro b h
  simp only [holds,Option.some.injEq] at h
  subst h
  simp [X.tt,X.den,bI,bne]
 | not a ih=>
  intro b h
  simp only [holds] at h
  split at h
  ·rename_i c hc
   obtain rfl:=Option.some.inj h
   have:=ih hc
   rw [show (X.not a).tt ρ=!a.tt ρ from by simp only [X.tt,X.den,bne,oq,Bool.not_not],this]
  ·cases h
 | ite c x y ic ix iy=>
  intro b h
  have e:(X.ite c x y).tt ρ=if c.tt ρ then x.tt ρ else y.tt ρ:=by
   simp only [X.tt,X.den]
   by_cases hc:c.den ρ=0<;>simp [hc]
  simp only [holds] at h
  split at h
  ·rename_i hc
   rw [e,ic hc]
   exact ix h
  ·rename_i hc
   rw [e,ic hc]
   exact iy h
  ·cases h
 | _=>
  intro b h
  simp only [holds] at h
  exact dF hp h
theorem xX{pc:PC}(hp:av ρ pc):∀ {c:X} {b:Bool},c.tt ρ=b→av ρ (xJ pc c b):=by
 intro c
 induction c with
 | not y ih=>
  intro b h
  unfold xJ
  exact ih (by rw [←h,show (X.not y).tt ρ=!y.tt ρ from by simp only [X.tt,X.den,bne,oq,Bool.not_not],Bool.not_not])
 | _=>
  intro b h f hf
  unfold xJ at hf
  rcases List.mem_cons.1 hf with rfl | hf
  ·exact h
  ·exact hp f hf
theorem Em(c a b:X):(X.ite c a b).den ρ=if c.tt ρ then a.den ρ else b.den ρ:=by
 by_cases h:c.den ρ=0<;>simp [X.den,X.tt,h]
theorem qI{pc:PC}(hp:av ρ pc):∀ {n:Nat} {x:X},(rv pc n x).den ρ=x.den ρ
 | 0,x=>rfl
 | n+1,x=>by
  unfold rv
  split
  ·split
   ·rename_i hc
    rw [qI hp,Em,gy hp hc];rfl
   ·rename_i hc
    rw [qI hp,Em,gy hp hc];rfl
   ·rfl
  ·exact wG hp _
theorem bool_beq{a b:Bool}(h:KA a b=true):a=b:=by cases a<;>cases b<;>simp [KA] at h<;>rfl
theorem fB:∀ {f:Nat} {pc:PC} {x:X} {b:Bool},av ρ pc→yY f pc x b=true→x.tt ρ=b
 | 0,_,_,_,_,h=>by simp [yY] at h
 | f+1,pc,x,b,hp,h=>by
  have two:∀ (c y:X),(match yY f (xJ pc c true) y b with
    | true=>yY f (xJ pc c false) y b
    | false=>false)=true→y.tt ρ=b:=by
   intro c y h
   split at h
   ·rename_i h1
    cases hc:c.tt ρ with
    | true=>exact fB (xX hp hc) h1
    | false=>exact fB (xX hp hc) h
   ·cases h
  unfold yY at h
  split at h
  ·rename_i n
   rw [←bool_beq h]
   simp [X.tt,X.den,bI,bne]
  ·rename_i a
   have:=fB hp h
   rw [show (X.not a).tt ρ=!a.tt ρ from by simp only [X.tt,X.den,bne,oq,Bool.not_not],this,Bool.not_not]
  ·rename_i c p q
   have e:(X.ite c p q).tt ρ=if c.tt ρ then p.tt ρ else q.tt ρ:=by
    rw [X.tt,Em]
    unfold X.tt
    split<;>rfl
   rw [e]
   split at h
   ·rename_i hc;rw [gy hp hc];exact fB hp h
   ·rename_i hc;rw [gy hp hc];exact fB hp h
   ·split at h
    ·rename_i h0
     rw [fB hp h0]
     exact fB hp h
    split at h
    ·rename_i h1
     cases hc:c.tt ρ with
     | true=>exact fB (xX hp hc) h1
     | false=>exact fB (xX hp hc) h
    ·cases h
  ·rename_i u v
   have e:(X.eq u v).tt ρ=(X.eq (rv pc 100 u) (rv pc 100 v)).tt ρ:=by rw [dR,dR,qI hp,qI hp]
   rw [e]
   generalize rv pc 100 u=u' at *
   generalize rv pc 100 v=v' at *
   dsimp only at h
   split at h
   ·rename_i t ht
    have:=gy hp ht
    rw [eM] at this
    rw [dR,this]
    exact bool_beq h
   ·split at h
    ·exact two _ _ h
    ·split at h
     ·exact two _ _ h
     ·cases h
  ·split at h
   ·rename_i t ht
    rw [gy hp ht]
    exact bool_beq h
   ·cases h
theorem rB {L:List (Nat×List V)}:∀ {r:gm},rA L r=true→∃ x st,r.ai ρ=some (.ret (.bool x),st)∧(av ρ st.pc→x.tt ρ=true)∧bF L st.h=true
 | .ok a,h=>by
  unfold rA at h
  split at h
  ·rename_i x st e
   injection e with e
   subst e
   split at h
   ·rename_i hx
    exact⟨x,st,rfl,fun hp=>fB hp hx,h⟩
   ·cases h
  ·cases h
  ·rename_i e;cases e
  ·rename_i e;cases e
 | .br c t f,h=>by
  unfold rA at h
  split at h
  ·rename_i ht
   unfold R.ai
   split
   ·exact rB ht
   ·exact rB h
  ·cases h
 | .stuck _,h=>by simp [rA] at h
mutual
theorem KB{pc:PC}(hp:av ρ pc)(π:Pl):∀ {u v:V},dQ pc u v=true→u.ae ρ π=v.ae ρ π
 | .int k x,v,h=>by
  cases v<;>simp only [dQ,Bool.false_eq_true] at h
  rw [Bool.and_eq_true] at h
  obtain⟨h1,h2⟩:=h
  split at h2
  ·rename_i he
   have:=gy hp he
   rw [eM] at this
   simp only [V.ae,aX h1]
   rw [eq_of_beq this]
  ·cases h2
 | .bool x,v,h=>by
  cases v<;>simp only [dQ,Bool.false_eq_true] at h
  split at h
  ·rename_i he
   have:=gy hp he
   rw [z4] at this
   simp only [V.ae]
   rw [eq_of_beq this]
  ·cases h
 | .agg l,v,h=>by
  cases v<;>simp only [dQ,Bool.false_eq_true] at h
  simp only [V.ae,wF hp π h]
 | .tuple l,v,h=>by
  cases v<;>simp only [dQ,Bool.false_eq_true] at h
  simp only [V.ae,wF hp π h]
 | .str _,v,h=>by simp [dQ] at h
 | .ptr _ _,v,h=>by simp [dQ] at h
 | .nilptr,v,h=>by simp [dQ] at h
 | .slice _ _ _ _,v,h=>by simp [dQ] at h
 | .nilslice,v,h=>by simp [dQ] at h
 | .map _,v,h=>by simp [dQ] at h
 | .nilmap,v,h=>by simp [dQ] at h
 | .func _ _ _,v,h=>by simp [dQ] at h
 | .yield _,v,h=>by simp [dQ] at h
 | .nilfunc,v,h=>by simp [dQ] at h
 | .iface _ _,v,h=>by simp [dQ] at h
 | .niliface,v,h=>by simp [dQ] at h
 | .wptr _ _,v,h=>by simp [dQ] at h
 | .wslice _ _ _ _,v,h=>by simp [dQ] at h
 | .ite _ _ _,v,h=>by simp [dQ] at h
 | .sptr _ _ _ _,v,h=>by simp [dQ] at h
 | .rest _ _ _ _,v,h=>by simp [dQ] at h
 | .xslice _ _ _ _ _ _,v,h=>by simp [dQ] at h
 | .xptr _ _ _ _ _,v,h=>by simp [dQ] at h
 | .any _,v,h=>by simp [dQ] at h
theorem wF{pc:PC}(hp:av ρ pc)(π:Pl):∀ {l m:List V},sj pc l m=true→V.af ρ π l=V.af ρ π m
 | [],m,h=>by
  cases m with
  | nil=>rfl
  | cons _ _=>simp [sj] at h
 | v::l,m,h=>by
  cases m with
  | nil=>simp [sj] at h
  | cons u m=>
   simp only [sj,Bool.and_eq_true] at h
   simp only [V.af,KB hp π h.1,wF hp π h.2]
end
theorem yq{pc:PC}{c:X}(hp:av ρ pc){b:Bool}(hc:c.tt ρ=b):av ρ ((c,b)::pc):=fun f hf=>by
 rcases List.mem_cons.1 hf with rfl | hf
 ·exact hc
 ·exact hp f hf
theorem gp{lf:Leaf}{m:Nat}:∀ {u:R Leaf} {pc:PC},av ρ pc→eC lf m u pc=true→∃ lf',u.ai ρ=some lf'∧(∀ π,lf.v.ae ρ π=lf'.v.ae ρ π)∧lf.n≤m∧lf'.n≤m∧lf.objs=[]∧lf'.objs=[]
 | .ok lf',pc,hp,h=>by
  simp only [eC,Bool.and_eq_true] at h
  obtain⟨h1,h2,h3,h4,h5⟩:=h
  exact⟨lf',rfl,fun π=>KB hp π h1,Nat.le_of_ble_eq_true h2,Nat.le_of_ble_eq_true h3,List.isEmpty_iff.1 h4,List.isEmpty_iff.1 h5⟩
 | .br c t f,pc,hp,h=>by
  unfold eC at h
  unfold R.ai
  split at h
  ·rename_i hd
   rw [if_pos (dF hp hd)]
   exact gp hp h
  ·rename_i hd
   rw [if_neg (by rw [dF hp hd];simp)]
   exact gp hp h
  ·rw [Bool.and_eq_true] at h
   cases hc:c.tt ρ with
   | true=>rw [if_pos rfl];exact gp (yq hp hc) h.1
   | false=>rw [if_neg (by simp)];exact gp (yq hp hc) h.2
 | .stuck _,pc,hp,h=>by simp [eC] at h
theorem mf{m:Nat}:∀ {t u:R Leaf} {pc:PC},av ρ pc→cE m t u pc=true→∃ lf lf',t.ai ρ=some lf∧u.ai ρ=some lf'∧(∀ π,lf.v.ae ρ π=lf'.v.ae ρ π)∧lf.n≤m∧lf'.n≤m∧lf.objs=[]∧lf'.objs=[]
 | .ok lf,u,pc,hp,h=>by
  obtain⟨lf',h1,h2⟩:=gp hp (show eC lf m u pc=true from h)
  exact⟨lf,lf',rfl,h1,h2⟩
 | .br c t f,u,pc,hp,h=>by
  unfold cE at h
  rw [show (R.br c t f).ai ρ=if c.tt ρ then t.ai ρ else f.ai ρ from rfl]
  split at h
  ·rename_i hd
   rw [if_pos (dF hp hd)]
   exact mf hp h
  ·rename_i hd
   rw [if_neg (by rw [dF hp hd];simp)]
   exact mf hp h
  ·rw [Bool.and_eq_true] at h
   cases hc:c.tt ρ with
   | true=>rw [if_pos rfl];exact mf (yq hp hc) h.1
   | false=>rw [if_neg (by simp)];exact mf (yq hp hc) h.2
 | .stuck _,u,pc,hp,h=>by simp [cE] at h
end
end
end Go.Proofs.YtmickljjofbmiaaGreatDoor
namespace Go.Proofs.YtmickljjofbmiaaGreatDoor
open Go Go.RowKit
def ZI (L:List (Nat×List V)) (n:Nat) (c:List V) (len:X) (es:Nat) (pc:PC):St:={h:=(fW L).set n (.win n c len es),n:=n+1,pc:=pc}
def Bg(n:Nat)(h:H):Bool:=match h.get n with
 | some (.win m _ _ _)=>Nat.beq n m
 | _=>false
noncomputable def j8 (L:List (Nat×List V)) (n:Nat):gm→Bool
 | .ok (.ret (.bool x),st)=>match holds st.pc x with
  | some true=>bF L st.h&&Bg n st.h
  | _=>false
 | .ok _=>false
 | .br _ t f=>match j8 L n t with
  | true=>j8 L n f
  | false=>false
 | .stuck _=>false
theorem mU {L:List (Nat×List V)} {n:Nat} {ρ:Env}:∀ {r:gm},j8 L n r=true→∃ x st,r.ai ρ=some (.ret (.bool x),st)∧holds st.pc x=some true∧bF L st.h=true∧Bg n st.h=true
 | .ok a,h=>by
  unfold j8 at h
  split at h
  ·rename_i x st e
   injection e with e
   subst e
   split at h
   ·rename_i hx
    rw [Bool.and_eq_true] at h
    exact⟨x,st,rfl,hx,h.1,h.2⟩
   ·cases h
  ·cases h
  ·rename_i e;cases e
  ·rename_i e;cases e
 | .br c t f,h=>by
  unfold j8 at h
  split at h
  ·rename_i ht
   unfold R.ai
   split
   ·exact mU ht
   ·exact mU h
  ·cases h
 | .stuck _,h=>by simp [j8] at h
section
variable {P:Program} {cx:Cx} {ρ:Env} {W:World} {L:List (Nat×List V)} {ng:Nat} {c:List V} {len:X} {es:Nat} {pc:PC}
structure WinAt (ρ:Env) (W:World) (L:List (Nat×List V)) (n:Nat) (c:List V) (len:X) (es:Nat):Prop where
 spot:(ρ.win n).spot=none
 obj:W.heap[(ρ.win n).block]?=some (ρ.ro n)
 other:∀ x∈L,x.1≠(ρ.win n).block
 cells:∃ (cs:Array Value) (t:TypeId) (fr:Nat×Nat),ρ.ro n=.cells cs t fr∧∀ (j:Nat) (v:V),c[j]?=some v→j<(len.den ρ).toNat*es→∀ π,cs[(ρ.win n).off+j]?=some (v.ae ρ π)
def πWin(ρ:Env)(n:Nat):Pl:=fun i=>match Nat.beq i n with
 | true=>⟨(ρ.win n).block,0,.nilFunc⟩
 | false=>⟨i,0,.nilFunc⟩
theorem πWin_self{n:Nat}:(πWin ρ n n).1=(ρ.win n).block:=by
 unfold πWin
 rw [Nat.beq_refl]
theorem πWin_other{n i:Nat}(h:i≠n):(πWin ρ n i).1=i:=by
 unfold πWin
 cases hb:Nat.beq i n with
 | true=>exact absurd (Nat.eq_of_beq_eq_true hb) h
 | false=>rfl
theorem RN(hng:cx.ng=ng)(hL:∀ x∈L,x.1<ng)(hro:RoAt ρ L) (hW:∀ x∈L,W.heap[x.1]?=some (ρ.ro x.1)) (hw:WinAt ρ W L ng c len es) (hpc:av ρ pc):cg cx ρ (fun i=>i<ng+1) (πWin ρ ng) (ZI L ng c len es pc) W:=by
 have hget:∀ i o,((fW L).set ng (.win ng c len es)).get i=some o→(i=ng∧o=.win ng c len es)∨∃ x∈L,i=x.1∧o=.ro x.1 x.2:=by
  intro i o hi
  by_cases h:ng=i
  ·subst h
   rw [T.aN] at hi
   exact .inl ⟨rfl,(Option.some.inj hi).symm⟩
  ·rw [T.aC _ _ h] at hi
   exact .inr (ct hi)
 refine⟨hpc,⟨fun π hk=>⟨fun i o hi=>?_,fun i j o o' hi hj e=>?_⟩,fun i o hi=>?_⟩,fun g hg=>?_,fun i hi hs=>?_⟩
 ·rcases hget i o hi with ⟨rfl,rfl⟩ | ⟨x,hx,rfl,rfl⟩
  ·have h1:(π i).1=(ρ.win i).block:=by rw [hk i (by show i<i+1;omega)];exact πWin_self
   obtain⟨cs,t,fr,e1,e2⟩:=hw.cells
   exact⟨_,by rw [h1];exact hw.obj,⟨hw.spot,h1.symm,cs,t,fr,e1,fun j v hj hlt=>e2 j v hj hlt π⟩,rfl⟩
  ·have hlt:=hL x hx
   have h1:(π x.1).1=x.1:=by rw [hk x.1 (by show x.1<ng+1;omega)];exact πWin_other (by omega)
   obtain⟨t,fr,h2⟩:=hro.is x hx
   exact⟨_,by rw [h1];exact hW x hx,⟨t,fr,h2 π⟩,rfl⟩
 ·rcases hget i o hi with ⟨rfl,rfl⟩ | ⟨x,hx,rfl,rfl⟩<;>rcases hget j o' hj with ⟨rfl,rfl⟩ | ⟨y,hy,rfl,rfl⟩<;>exact .inr ⟨rfl,rfl⟩
 ·rcases hget i o hi with ⟨rfl,rfl⟩ | ⟨x,hx,rfl,rfl⟩
  ·show i<i+1;omega
  ·have:=hL x hx
   show x.1<ng+1;omega
 ·rw [hng] at hg
  exact⟨by show g<ng+1;omega,πWin_other (by omega)⟩
 ·have h1:ng+1≤i:=hi
  have h2:i<ng+1:=hs
  omega
theorem OS(_:∀ x∈L,x.1<ng) (_:∀ x∈L,W.heap[x.1]?=some (ρ.ro x.1)) (_:WinAt ρ W L ng c len es) {π1:Pl} {w':World} {n':Nat} {h':H} (g:cS ρ (fun i=>i<ng+1) (πWin ρ ng) ((fW L).set ng (.win ng c len es)) W (ng+1) π1 h' w' n') (_:bF L h'=true) (_:Bg ng h'=true):Below W.heap.size W w':=by
 refine⟨g.same.2.1,g.same.1,g.same.2.2,g.size,fun k hk=>?_⟩
 refine g.keep k hk fun i o hi _=>?_
 by_cases h:ng=i
 ·subst h
  rw [T.aN] at hi
  cases hi
  rfl
 ·rw [T.aC _ _ h] at hi
  obtain⟨x,hx,rfl,rfl⟩:=ct hi
  rfl
theorem alP{N:Nat}{f:FuncId}{fn:Func}{args:List V}{ac:List Value}(hmix:P.follows .mixedOrders=true)(htt:mQ P cx.tt)(hft:rz P cx.ft)(hsm:SumOk P cx ρ) (hf:P.funcs[f]?=some fn)
  (hng:cx.ng=ng) (hL:∀ x∈L,x.1<ng) (hro:RoAt ρ L) (hW:∀ x∈L,W.heap[x.1]?=some (ρ.ro x.1)) (hw:WinAt ρ W L ng c len es) (hpc:av ρ pc)
  (ht:j8 L ng ((ev cx N).call f args (ZI L ng c len es pc))=true) (ha:bK ρ (fun i=>i<ng+1) (πWin ρ ng) args ac):
  Calls P f ac.toArray W fun e W'=>e=.returned (.bool true)∧Below W.heap.size W W':=by
 obtain⟨x,st,hsel,hx,h1,h2⟩:=mU (ρ:=ρ) ht
 refine (zm hmix htt hft hsm hsel (RN hng hL hro hW hw hpc) ha hf).mono fun e W' hp=>?_
 obtain⟨hpc',π1,g,c,rfl,hv⟩:=hp
 refine⟨?_,OS hL hW hw g h1 h2⟩
 rw [←hv π1 fun _ _=>rfl]
 simp [V.ae,gy hpc' hx]
end
end Go.Proofs.YtmickljjofbmiaaGreatDoor
namespace Go.Proofs.YtmickljjofbmiaaGreatDoor
open Go Go.RowKit
noncomputable section
def Dd:Nat→List V→Option (List X×List V)
 | 0,l=>some ([],l)
 | _+1,[]=>none
 | n+1,v::l=>match v with
  | .int .u32 x=>match inK .u32 x,Dd n l with
   | true,some (xs,r)=>some (x::xs,r)
   | _,_=>none
  | _=>none
def kO (rows:List (List V×(List X→X))) (n:Nat) (args:List V) (st:St):R (V×St):=match Dd n args with
 | none=>.stuck "words expected"
 | some (xs,r)=>match rows.find? (fun x=>V.eV r x.1) with
  | none=>.stuck "words: no such row"
  | some (_,mk)=>.ok (.int .u32 (mk xs),{st with n:=st.n+1000})
def fL:Nat→Nat→List V
 | _,0=>[]
 | i,n+1=>.int .u32 (.wrap .u32 (.var i))::fL (i+1) n
theorem KR{ρ:Env}:∀ {n:Nat} {args:List V} {xs:List X} {r:List V},Dd n args=some (xs,r)→xs.length=n∧(∀ x∈xs,0≤x.den ρ∧x.den ρ≤4294967295)∧∀ π,V.af ρ π args=xs.map (fun x=>Value.int .u32 (x.den ρ))++V.af ρ π r
 | 0,args,xs,r,h=>by
  simp only [Dd,Option.some.injEq,Prod.mk.injEq] at h
  obtain⟨rfl,rfl⟩:=h
  exact⟨rfl,fun x hx=>by simp at hx,fun π=>rfl⟩
 | n+1,[],xs,r,h=>by simp [Dd] at h
 | n+1,v::l,xs,r,h=>by
  unfold Dd at h
  split at h
  ·split at h
   ·rename_i h1 h2
    simp only [Option.some.injEq,Prod.mk.injEq] at h
    obtain⟨rfl,rfl⟩:=h
    obtain⟨e1,e2,e3⟩:=KR (ρ:=ρ) h2
    refine⟨by simp [e1],fun x hx=>?_,fun π=>by simp [V.af,V.ae,e3]⟩
    rcases List.mem_cons.1 hx with rfl | hx
    ·exact vz h1
    ·exact e2 x hx
   ·cases h
  ·cases h
theorem Bb{ρ:Env}{π:Pl}:∀ {n i:Nat} {zs:List Int},zs.length=n→(∀ z∈zs,0≤z∧z≤4294967295)→(∀ j (h:j<zs.length),ρ.v (i+j)=zs[j])→V.af ρ π (fL i n)=zs.map (Value.int .u32)
 | 0,i,zs,hl,_,_=>by
  obtain rfl:=List.eq_nil_of_length_eq_zero hl
  rfl
 | n+1,i,[],hl,_,_=>by simp at hl
 | n+1,i,z::zs,hl,hz,hv=>by
  have h0:ρ.v i=z:=hv 0 (by simp)
  have:=Bb (ρ:=ρ) (π:=π) (n:=n) (i:=i+1) (zs:=zs) (by simpa using hl) (fun y hy=>hz y (by simp [hy])) fun j hj=>by
   have:=hv (j+1) (by simp;omega)
   rw [show i+1+j=i+(j+1) by omega,this]
   rfl
  have hw:=hz z (by simp)
  simp only [fL,V.af,V.ae,X.den,h0,this,List.map_cons]
  rw [bn (by simp [jT];omega) (by simp [kR];omega)]
theorem Bc:∀ n i,V.dt (fL i n)=true
 | 0,_=>rfl
 | n+1,i=>by simp [fL,V.dt,V.pure,Bc n]
theorem tN:∀ {l m:List V},V.dt l=true→V.dt m=true→V.dt (l++m)=true
 | [],_,_,h=>h
 | v::l,m,h,h'=>by
  simp only [V.dt,Bool.and_eq_true] at h
  simp only [List.cons_append,V.dt,Bool.and_eq_true]
  exact⟨h.1,tN h.2 h'⟩
section
variable {P:Program} {cx cx0:Cx} {ρ:Env} {ng:Nat}
structure RowU (cx0:Cx) (ng N n:Nat) (f:FuncId) (rest:List V) (mk:List X→X) (F:List Int→Int) (t:R Leaf):Prop where
 run:cy [] ng ((ev cx0 N).call f (fL 0 n++rest) (qK [] ng))=t
 pure:V.dt rest=true
 closed:∀ ρ ρ' π π',V.af ρ π rest=V.af ρ' π' rest
 den:∀ (ρ:Env) (xs:List X),xs.length=n→(∀ x∈xs,0≤x.den ρ∧x.den ρ≤4294967295)→(mk xs).den ρ=F (xs.map fun x=>x.den ρ)
 spec:∀ (ρ:Env) (zs:List Int),zs.length=n→(∀ z∈zs,0≤z∧z≤4294967295)→(∀ j (h:j<zs.length),ρ.v j=zs[j])→∃ lf,t.ai ρ=some lf∧lf.objs=[]∧lf.n≤ng+1000∧∀ π,lf.v.ae ρ π=.int .u32 (F zs)
theorem OD(hmix:P.follows .mixedOrders=true)(htt:mQ P cx0.tt)(hft:rz P cx0.ft)(hsm:∀ ρ':Env,ρ'.ro=ρ.ro→SumOk P cx0 ρ')(hng:cx.ng=ng)(hng0:cx0.ng=ng){N n:Nat}{f:FuncId}{fn:Func} (hfn:P.funcs[f]?=some fn)
  {rows:List (List V×(List X→X))} (hr:∀ x∈rows,∃ F t,RowU cx0 ng N n f x.1 x.2 F t):cV P cx ρ f (kO rows n):=by
 intro args st v st' h S π0 w ac m hh ha
 unfold kO at h
 split at h
 ·simp [R.ai] at h
 ·rename_i xs r htk
  split at h
  ·simp [R.ai] at h
  ·rename_i rest mk hfind
   simp only [R.ai,Option.some.injEq,Prod.mk.injEq] at h
   obtain⟨rfl,rfl⟩:=h
   have hmem:=List.mem_of_find?_eq_some hfind
   have hbeq:=List.find?_some hfind
   dsimp only at hbeq
   obtain rfl:=V.bD _ _ hbeq
   obtain⟨F,t,hrow⟩:=hr _ hmem
   dsimp only at hrow
   obtain⟨e1,e2,e3⟩:=KR (ρ:=ρ) htk
   let zs:=xs.map fun x=>x.den ρ
   let ρ':Env:={ρ with v:=fun i=>zs.getD i 0}
   have hzl:zs.length=n:=by simp [zs,e1]
   have hz:∀ z∈zs,0≤z∧z≤4294967295:=fun z hz=>by
    obtain⟨x,hx,rfl⟩:=List.mem_map.1 hz
    exact e2 x hx
   have hv:∀ j (h:j<zs.length),ρ'.v j=zs[j]:=fun j h=>by
    show zs.getD j 0=zs[j]
    rw [List.getD_eq_getElem?_getD,List.getElem?_eq_getElem h]
    rfl
   obtain⟨lf,hl,ho,hn,hc⟩:=hrow.spec ρ' zs hzl hz hv
   obtain⟨st2,h4,h5,hnw,h6,h7⟩:=ij (L:=[]) (ng:=ng) (ρ:=ρ') (r:=(ev cx0 N).call f (fL 0 n++r) (qK [] ng)) (by rw [hrow.run];exact hl)
   have hargs:bK ρ' S π0 (fL 0 n++r) ac:=fun π hk=>by
    rw [←ha π hk,e3,bP,Bb hzl hz (fun j h=>by rw [Nat.zero_add];exact hv j h),hrow.closed ρ' ρ π π]
    simp [zs]
   have key:=rU (P:=P) (cx:=cx) (cx0:=cx0) (ρ:=ρ) (ρ':=ρ') hmix htt hft (hsm ρ' rfl) hng hng0 (fun x hx=>by simp at hx) ⟨fun x hx=>by simp at hx⟩ rfl h4 h5 (v':=.int .u32 (mk xs))
    (fun π=>by rw [hc π];simp only [V.ae];rw [hrow.den ρ xs e1 e2]) rfl (objs:=[]) (fun x hx=>by simp at hx) (tN (Bc n 0) hrow.pure) hfn hh rfl hargs (n:=m)
   refine key.mono fun e w' hp=>?_
   refine EPost.more (st1:={h:=st.h,n:=st.n+(st2.n-ng),pc:=st.pc}) (v:=.int .u32 (mk xs)) hp (m:=st.n+1000) ?_
   show st.n+(st2.n-ng)≤st.n+1000
   rw [h7] at hn
   omega
end
end
end Go.Proofs.YtmickljjofbmiaaGreatDoor
namespace Go.Proofs.YtmickljjofbmiaaGreatDoor
open Go Go.Proofs Go.ChangeShapes Go.WideShapes
def CK.ok:CK→Value→Prop
 | .int k,v=>∃ z,v=.int k z∧(Lit.int k z).wf=true
 | .bool,v=>∃ b,v=.bool b
def kU:List CK→List Value→Prop
 | [],[]=>True
 | k::ks,v::vs=>k.ok v∧kU ks vs
 | _,_=>False
theorem kU.len:∀ {ks:List CK} {vs:List Value},kU ks vs→vs.length=ks.length
 | [],[],_=>rfl
 | _::_,_::_,h=>by simp [kU.len h.2]
 | [],_::_,h=>h.elim
 | _::_,[],h=>h.elim
theorem kU.append:∀ {ks ls:List CK} {vs us:List Value},kU ks vs→kU ls us→kU (ks++ls) (vs++us)
 | [],_,[],_,_,h=>h
 | _::_,_,_::_,_,h,h'=>⟨h.1,kU.append h.2 h'⟩
 | [],_,_::_,_,h,_=>h.elim
 | _::_,_,[],_,h,_=>h.elim
theorem kU.get:∀ {ks:List CK} {vs:List Value} {i:Nat} {k:CK},kU ks vs→ks[i]?=some k→∃ v,vs[i]?=some v∧k.ok v
 | [],_,_,_,_,h=>by simp at h
 | k::ks,v::vs,0,_,h,e=>by
  obtain rfl:=Option.some.inj e
  exact⟨v,rfl,h.1⟩
 | _::ks,_::vs,i+1,_,h,e=>by
  have:=kU.get (ks:=ks) (vs:=vs) h.2 (by simpa using e)
  simpa using this
 | _::_,[],_,_,h,_=>h.elim
def D7 (g:TypeId→Option (List CK)):Nat→List Field→Option (List CK)
 | _,[]=>some []
 | off,f::fs=>match Nat.beq f.offset off,g f.type with
  | true,some ks=>match D7 g (off+ks.length) fs with
   | some r=>some (ks++r)
   | none=>none
  | _,_=>none
def oN(ks:List CK):Nat→List CK
 | 0=>[]
 | n+1=>ks++oN ks n
theorem Lv(ks:List CK):∀ n,(oN ks n).length=n*ks.length
 | 0=>by simp [oN]
 | n+1=>by simp [oN,Lv ks n,Nat.add_mul];omega
def B8(P:Program):Nat→TypeId→Option (List CK)
 | 0,_=>none
 | f+1,t=>match P.underlying t with
  | some (.int k)=>some [.int k]
  | some .bool=>some [.bool]
  | some (.struct fs)=>match D7 (B8 P f) 0 fs.toList with
   | some ks=>match Nat.beq (P.cellsOf t) ks.length with
    | true=>some ks
    | false=>none
   | none=>none
  | some (.array n e)=>match B8 P f e with
   | some ks=>match Nat.beq (P.cellsOf e) ks.length,Nat.beq (P.cellsOf t) (n*ks.length) with
    | true,true=>some (oN ks n)
    | _,_=>none
   | none=>none
  | _=>none
theorem A5{α:Type}{l:List α}{m n:Nat} (h:(l.take m).length=n):l.take m=l.take n:=by
 rw [List.length_take] at h
 rcases Nat.le_total m l.length with h1 | h1
 ·rw [Nat.min_eq_left h1] at h;rw [h]
 ·rw [Nat.min_eq_right h1] at h
  rw [List.take_of_length_le h1,List.take_of_length_le (by omega)]
section
variable {H:Type} {enc:TypeId×Value→H} {P:Program} {w:World} {base:Nat} {spare:Nat→Bool} {held:Bool}
theorem B7 {g:TypeId→Option (List CK)} {cs:List Value}:∀ (fs:List Field) (off:Nat) (ks:List CK),D7 g off fs=some ks→
  (∀ f∈fs,∀ ks,g f.type=some ks→kU ks ((cs.drop f.offset).take (P.cellsOf f.type)))→kU ks ((cs.drop off).take ks.length)
 | [],off,ks,h,_=>by
  obtain rfl:=Option.some.inj h
  trivial
 | f::fs,off,ks,h,hf=>by
  unfold D7 at h
  split at h
  ·rename_i k1 ho hg
   obtain rfl:=Nat.eq_of_beq_eq_true ho
   split at h
   ·rename_i r hr
    obtain rfl:=Option.some.inj h
    have h1:=hf f (by simp) k1 hg
    rw [A5 h1.len] at h1
    have h2:=B7 fs _ r hr fun f' hm=>hf f' (by simp [hm])
    rw [List.length_append,List.take_add,List.drop_drop]
    exact h1.append h2
   ·cases h
  ·cases h
theorem B6{cs:List Value}{ks:List CK}:∀ (n i:Nat),(∀ j,i≤j→j<i+n→kU ks ((cs.drop (j*ks.length)).take ks.length))→kU (oN ks n) ((cs.drop (i*ks.length)).take (n*ks.length))
 | 0,_,_=>by simp [oN,kU]
 | n+1,i,h=>by
  have h1:=h i (Nat.le_refl _) (by omega)
  have h2:=B6 n (i+1) fun j a b=>h j (by omega) (by omega)
  rw [oN,show (n+1)*ks.length=ks.length+n*ks.length by rw [Nat.add_mul];omega,List.take_add,List.drop_drop,show i*ks.length+ks.length=(i+1)*ks.length by rw [Nat.add_mul];omega]
  exact h1.append h2
theorem tj:∀ (n:Nat) (t:TypeId) (ks:List CK),B8 P n t=some ks→∀ {fuel:Nat} {cs:List Value} {x:DataW H×List MemPlace},DataW.trod enc P w base spare held fuel t cs=some x→kU ks cs
 | 0,_,_,h,_,_,_,_=>by cases h
 | n+1,t,ks,h,fuel,cs,x,hx=>by
  unfold B8 at h
  split at h
  ·rename_i k hu
   obtain rfl:=Option.some.inj h
   obtain⟨z,rfl,_,hw⟩:=DataW.trod_int hu hx
   exact⟨⟨z,rfl,hw⟩,trivial⟩
  ·rename_i hu
   obtain rfl:=Option.some.inj h
   obtain⟨b,rfl,_⟩:=DataW.trod_bool hu hx
   exact⟨⟨b,rfl⟩,trivial⟩
  ·rename_i fs hu
   split at h
   ·rename_i ks' hf
    split at h
    ·rename_i hl
     obtain rfl:=Option.some.inj h
     obtain⟨xs,m,_,_,hlen,hxs,hel⟩:=DataW.trod_struct hu hx
     have key:=B7 (P:=P) (cs:=cs) fs.toList 0 ks' hf fun f hm ks1 hg=>by
      obtain⟨i,hi⟩:=List.getElem?_of_mem hm
      have hi':fs[i]?=some f:=by simpa using hi
      have hlt:i<xs.length:=by
       rw [hxs]
       exact (Array.getElem?_eq_some_iff.1 hi').1
      have:=hel i f hi'
      rw [List.getElem?_eq_getElem hlt] at this
      exact tj n _ _ hg this
     rw [List.drop_zero,List.take_of_length_le (by rw [hlen,Nat.eq_of_beq_eq_true hl];exact Nat.le_refl _)] at key
     exact key
    ·cases h
   ·cases h
  ·rename_i m e hu
   split at h
   ·rename_i ke he
    split at h
    ·rename_i h1 h2
     obtain rfl:=Option.some.inj h
     have e1:=Nat.eq_of_beq_eq_true h1
     have e2:=Nat.eq_of_beq_eq_true h2
     obtain⟨xs,q,_,_,hlen,hxs,hel⟩:=DataW.trod_array hu hx
     have key:=B6 (cs:=cs) (ks:=ke) m 0 fun j _ hj=>by
      have hlt:j<xs.length:=by omega
      have:=hel j (by omega)
      rw [List.getElem?_eq_getElem hlt] at this
      rw [←e1]
      exact tj n _ _ he this
     rw [Nat.zero_mul,List.drop_zero,List.take_of_length_le (by rw [hlen,e2];exact Nat.le_refl _)] at key
     exact key
    ·cases h
   ·cases h
  ·cases h
theorem ad6{t:TypeId}{n:Nat}{ks:List CK}{fs:Array Field}{r:Reach}{b0:Nat}{v:Value}{d:DataW H}{ps:List MemPlace} (hu:P.underlying t=some (.struct fs)) (hk:B8 P n t=some ks) (hval:Value.okWide P w r b0 t v)
  (h:DataW.Trod enc P w base spare held t v d ps):∃ cs:List Value,v=.agg cs.toArray∧kU ks cs:=by
 obtain⟨cs,rfl,hs⟩:=okWide_struct hu hval
 obtain⟨fuel,hf⟩:=h
 obtain⟨l⟩:=cs
 exact⟨l,rfl,tj n t ks hk hf⟩
theorem open_row{t e:TypeId}{n:Nat}{ks:List CK}{fuel:Nat}{cs:List Value}{x:DataW H×List MemPlace} (ht:P.underlying t=some (.slice e)) (hk:B8 P n e=some ks) (hc:P.cellsOf e=ks.length)
  (h:DataW.trod enc P w base spare held fuel t cs=some x):
  cs=[.slice none 0 0]∨∃ (a:Addr) (len cap:Nat) (zs:Nat→List Value),cs=[.slice (some a) len cap]∧base≤a.block∧len≤cap∧cap≤maxLen ∧
   ∀ i,i<len→kU ks (zs i)∧∀ j,j<ks.length→w.cell? (a.add (i*ks.length+j))=(zs i)[j]?:=by
 rcases DataW.trod_slice ht h with ⟨h0,_⟩ | ⟨a,len,cap,elems,rest,m,_,rfl,_,hb,hl,hm,hlen,hel,_,_⟩
 ·exact .inl h0
 refine .inr ⟨a,len,cap,fun i=>((w.cells? base (a.add (i*P.cellsOf e)) (P.cellsOf e)).getD []),rfl,hb,hl,hm,fun i hi=>?_⟩
 have hi':=hel i hi
 rw [List.getElem?_eq_getElem (by omega),Option.bind_eq_some_iff] at hi'
 obtain⟨cs',hcs,hy⟩:=hi'
 dsimp only
 rw [hcs,Option.getD_some]
 refine⟨tj n e ks hk hy,fun j hj=>?_⟩
 obtain⟨_,hl2,hg⟩:=World.cells?_some hcs
 rw [hc] at hg
 have:=hg j hj
 rw [←this,add_add]
end
def Y4(i:Nat):CK→V
 | .int k=>.int k (.wrap k (.var i))
 | .bool=>.bool (.eq (.var i) (.lit 1))
def Uu(o:Nat):List CK→List V
 | []=>[]
 | k::ks=>Y4 o k::Uu (o+1) ks
def yW:Value→Int
 | .int _ z=>z
 | .bool b=>a7 b
 | _=>0
theorem wf_wrap{k:IntKind}{z:Int} (h:(Lit.int k z).wf=true):k.wrap z=z:=by
 have:jT k≤z∧z≤kR k:=by
  simp only [Lit.wf,Bool.and_eq_true,decide_eq_true_eq] at h
  cases k<;>simp [jT,kR,IntKind.min,IntKind.max,IntKind.signed,IntKind.bits] at h ⊢<;>omega
 exact bn this.1 this.2
theorem QC{ρ:Env}{π:Pl}{i:Nat}{k:CK}{v:Value}(h:k.ok v)(hi:ρ.v i=yW v):(Y4 i k).ae ρ π=v:=by
 cases k with
 | int k=>
  obtain⟨z,rfl,hz⟩:=h
  simp only [Y4,V.ae,X.den,hi,yW,wf_wrap hz]
 | bool=>
  obtain⟨b,rfl⟩:=h
  simp only [Y4,V.ae,X.tt,X.den,hi,yW]
  cases b<;>rfl
theorem KP{ρ:Env}{π:Pl}:∀ {ks:List CK} {vs:List Value} {o:Nat},kU ks vs→(∀ (j:Nat) (v:Value),vs[j]?=some v→ρ.v (o+j)=yW v)→V.af ρ π (Uu o ks)=vs
 | [],[],_,_,_=>rfl
 | k::ks,v::vs,o,h,hv=>by
  simp only [Uu,V.af]
  have h0:ρ.v o=yW v:=hv 0 v rfl
  rw [QC h.1 h0,KP h.2 fun j u hj=>by
   have:=hv (j+1) u (by simpa using hj)
   rwa [show o+(j+1)=o+1+j by omega] at this]
 | [],_::_,_,h,_=>h.elim
 | _::_,[],_,h,_=>h.elim
end Go.Proofs.YtmickljjofbmiaaGreatDoor
