/- Symbolic execution, part 35: functions as symbols: two trees that dg; more names. Symbolic execution, part 36: a run over a part of a row that came in. Symbolic execution: functions of words whose value is told by an expression. Values that came in, opened: cells of integers and truths; a part of a row of such. No condition. -/
import Derived.Test.YtgcbnjpeifigaaaGreatDoorSeX
import Derived.OpenShut
import Derived.ChangeSlices
namespace Go.Proofs.YtgcbnjpeifigaaaGreatDoor
open Go Go.RowKit
noncomputable section
section
variable {ρ:Env} {S:Nat→Prop} {π0 π1:Pl} {h h1:H} {w w1:World} {n n1 n2:Nat}
theorem Ext.more{i:Nat}(hn:n1<=n2)(hi:Ext S n n1 i):Ext S n n2 i:=hi.elim .inl fun⟨a,b⟩=>.inr ⟨a,qzw b hn⟩
theorem dt.more(g:dt ρ S π0 h w n π1 h1 w1 n1)(hn:n1<=n2):dt ρ S π0 h w n π1 h1 w1 n2 where
 le:=qzq g.le hn
 known:=g.known
 at_:=⟨fun π hk=>g.at_.rep π fun i hi=>hk i (Ext.more hn hi),fun i o hi=>Ext.more hn (g.at_.dom i o hi)⟩
 sub:=g.sub
 keep:=g.keep
 size:=g.size
 same:=g.same
theorem EPost.more{st:St}{v:V}{st1:St}{m:Nat}{e:Ending} (hp:EPost ρ S π0 st w (.ret v,st1) e w1) (hn:st1.n<=m):EPost ρ S π0 st w (.ret v,{st1 with n:=m}) e w1:=by
 obtain⟨hpc,π2,g,c,he,hv⟩:=hp;exact⟨hpc,π2,g.more hn,c,he,fun π hk=>hv π fun i hi=>hk i (Ext.more hn hi)⟩
end
mutual
def eO(pc:PC):V->V->Bool
 |.int k x,.int j y=>bE k j&&(match holds pc (mkEq x y)with
  |some true=>true
  |_=>false)
 |.bool x,.bool y=>match holds pc (mkIff x y)with
  |some true=>true
  |_=>false
 |.agg l,.agg m=>tU pc l m
 |.tuple l,.tuple m=>tU pc l m
 |_,_=>false
def tU(pc:PC):List V->List V->Bool
 |[],[]=>true
 |v::l,u::m=>eO pc v u&&tU pc l m
 |_,_=>false
end
def fp(lf:Leaf)(m:Nat):R Leaf->PC->Bool
 |.ok lf',pc=>eO pc lf.v lf'.v&&(Nat.ble lf.n m&&(Nat.ble lf'.n m&&(lf.objs.isEmpty&&lf'.objs.isEmpty)))
 |.br c t f,pc=>match eU pc c with
  |some true=>fp lf m t pc
  |some false=>fp lf m f pc
  |none=>fp lf m t ((c,true)::pc)&&fp lf m f ((c,false)::pc)
 |.stuck _,_=>false
def dg(m:Nat):R Leaf->R Leaf->PC->Bool
 |.ok lf,u,pc=>fp lf m u pc
 |.br c t f,u,pc=>match eU pc c with
  |some true=>dg m t u pc
  |some false=>dg m f u pc
  |none=>dg m t u ((c,true)::pc)&&dg m f u ((c,false)::pc)
 |.stuck _,_,_=>false
section
variable {ρ:Env}
theorem jL{pc:PC}(hp:ai ρ pc):∀ {x:X} {b:Bool},holds pc x=some b->x.tt ρ=b:=by
 intro x;induction x with
 |lit n=>
  intro b h;simp only[holds,qqk]at h;subst h;simp[X.tt,X.den,bR,bne]
 |not a ih=>
  intro b h;simp only[holds]at h;split at h
  ·rename_i c hc;obtain rfl:=qqz h;have:=ih hc;rw[show(X.not a).tt ρ=!a.tt ρ from by simp only[X.tt,X.den,bne,pD,Bool.not_not],this]
  ·cases h
 |ite c x y ic ix iy=>
  intro b h;have e:(X.ite c x y).tt ρ=if c.tt ρ then x.tt ρ else y.tt ρ:=by
   simp only[X.tt,X.den];by_cases hc:c.den ρ=0<;>simp[hc]
  simp only[holds]at h;split at h
  ·rename_i hc;rw[e,ic hc];exact ix h
  ·rename_i hc;rw[e,ic hc];exact iy h
  ·cases h
 |_=>
  intro b h;simp only[holds]at h;exact dz hp h
theorem zO{pc:PC}(hp:ai ρ pc):∀ {c:X} {b:Bool},c.tt ρ=b->ai ρ (zr pc c b):=by
 intro c;induction c with
 |not y ih=>
  intro b h;unfold zr;exact ih (by rw[<-h,show(X.not y).tt ρ=!y.tt ρ from by simp only[X.tt,X.den,bne,pD,Bool.not_not],Bool.not_not])
 |_=>
  intro b h f hf;unfold zr at hf;rcases List.mem_cons.1 hf with rfl|hf
  ·exact h
  ·exact hp f hf
theorem GD(c a b:X):(X.ite c a b).den ρ=if c.tt ρ then a.den ρ else b.den ρ:=by
 by_cases h:c.den ρ=0<;>simp[X.den,X.tt,h]
theorem rZ{pc:PC}(hp:ai ρ pc):∀ {n:Nat} {x:X},(sP pc n x).den ρ=x.den ρ
 |0,x=>rfl
 |n+1,x=>by
  unfold sP;split
  ·split
   ·rename_i hc;rw[rZ hp,GD,jL hp hc];rfl
   ·rename_i hc;rw[rZ hp,GD,jL hp hc];rfl
   ·rfl
  ·exact yt hp _
theorem bool_beq{a b:Bool}(h:MB a b=true):a=b:=by cases a<;>cases b<;>simp[MB]at h<;>rfl
theorem gN:∀ {f:Nat} {pc:PC} {x:X} {b:Bool},ai ρ pc->C7 f pc x b=true->x.tt ρ=b
 |0,_,_,_,_,h=>by simp[C7]at h
 |f+1,pc,x,b,hp,h=>by
  have two:∀ (c y:X),(match C7 f (zr pc c true) y b with
    |true=>C7 f (zr pc c false) y b
    |false=>false)=true->y.tt ρ=b:=by
   intro c y h;split at h
   ·rename_i h1;cases hc:c.tt ρ with
    |true=>exact gN (zO hp hc) h1
    |false=>exact gN (zO hp hc) h
   ·cases h
  unfold C7 at h;split at h
  ·rename_i n;rw[<-bool_beq h];simp[X.tt,X.den,bR,bne]
  ·rename_i a;have:=gN hp h;rw[show(X.not a).tt ρ=!a.tt ρ from by simp only[X.tt,X.den,bne,pD,Bool.not_not],this,Bool.not_not]
  ·rename_i c p q;have e:(X.ite c p q).tt ρ=if c.tt ρ then p.tt ρ else q.tt ρ:=by
    rw[X.tt,GD];unfold X.tt;split<;>rfl
   rw[e];split at h
   ·rename_i hc;rw[jL hp hc];exact gN hp h
   ·rename_i hc;rw[jL hp hc];exact gN hp h
   ·split at h
    ·rename_i h0;rw[gN hp h0];exact gN hp h
    split at h
    ·rename_i h1;cases hc:c.tt ρ with
     |true=>exact gN (zO hp hc) h1
     |false=>exact gN (zO hp hc) h
    ·cases h
  ·rename_i u v;have e:(X.eq u v).tt ρ=(X.eq (sP pc 100 u) (sP pc 100 v)).tt ρ:=by rw[bZ,bZ,rZ hp,rZ hp]
   rw[e];generalize sP pc 100 u=u' at *;generalize sP pc 100 v=v' at *;dsimp only at h;split at h
   ·rename_i t ht;have:=jL hp ht;rw[fE]at this;rw[bZ,this];exact bool_beq h
   ·split at h
    ·exact two _ _ h
    ·split at h
     ·exact two _ _ h
     ·cases h
  ·split at h
   ·rename_i t ht;rw[jL hp ht];exact bool_beq h
   ·cases h
mutual
theorem MC{pc:PC}(hp:ai ρ pc)(π:Pl):∀ {u v:V},eO pc u v=true->u.ab ρ π=v.ab ρ π
 |.int k x,v,h=>by
  cases v<;>simp only[eO,qqj]at h
  rw[qqw]at h;obtain⟨h1,h2⟩:=h;split at h2
  ·rename_i he;have:=jL hp he;rw[fE]at this;simp only[V.ab,a9 h1];rw[eq_of_beq this]
  ·cases h2
 |.bool x,v,h=>by
  cases v<;>simp only[eO,qqj]at h
  split at h
  ·rename_i he;have:=jL hp he;rw[BU]at this;simp only[V.ab];rw[eq_of_beq this]
  ·cases h
 |.agg l,v,h=>by
  cases v<;>simp only[eO,qqj]at h
  simp only[V.ab,yq hp π h]
 |.tuple l,v,h=>by
  cases v<;>simp only[eO,qqj]at h
  simp only[V.ab,yq hp π h]
 |.str _,v,h=>by simp[eO]at h
 |.ptr _ _,v,h=>by simp[eO]at h
 |.nilptr,v,h=>by simp[eO]at h
 |.slice _ _ _ _,v,h=>by simp[eO]at h
 |.nilslice,v,h=>by simp[eO]at h
 |.map _,v,h=>by simp[eO]at h
 |.nilmap,v,h=>by simp[eO]at h
 |.func _ _ _,v,h=>by simp[eO]at h
 |.yield _,v,h=>by simp[eO]at h
 |.nilfunc,v,h=>by simp[eO]at h
 |.iface _ _,v,h=>by simp[eO]at h
 |.niliface,v,h=>by simp[eO]at h
 |.wptr _ _,v,h=>by simp[eO]at h
 |.wslice _ _ _ _,v,h=>by simp[eO]at h
 |.ite _ _ _,v,h=>by simp[eO]at h
 |.sptr _ _ _ _,v,h=>by simp[eO]at h
 |.rest _ _ _ _,v,h=>by simp[eO]at h
 |.xslice _ _ _ _ _ _,v,h=>by simp[eO]at h
 |.xptr _ _ _ _ _,v,h=>by simp[eO]at h
 |.any _,v,h=>by simp[eO]at h
theorem yq{pc:PC}(hp:ai ρ pc)(π:Pl):∀ {l m:List V},tU pc l m=true->V.ae ρ π l=V.ae ρ π m
 |[],m,h=>by
  cases m with
  |nil=>rfl
  |cons _ _=>simp[tU]at h
 |v::l,m,h=>by
  cases m with
  |nil=>simp[tU]at h
  |cons u m=>
   simp only[tU,qqw]at h;simp only[V.ae,MC hp π h.1,yq hp π h.2]
end
theorem Ab{pc:PC}{c:X}(hp:ai ρ pc){b:Bool}(hc:c.tt ρ=b):ai ρ ((c,b)::pc):=fun f hf=>by
 rcases List.mem_cons.1 hf with rfl|hf
 ·exact hc
 ·exact hp f hf
theorem ik{lf:Leaf}{m:Nat}:∀ {u:R Leaf} {pc:PC},ai ρ pc->fp lf m u pc=true->∃ lf',u.ag ρ=some lf'/\(∀ π,lf.v.ab ρ π=lf'.v.ab ρ π)/\lf.n<=m/\lf'.n<=m/\lf.objs=[]/\lf'.objs=[]
 |.ok lf',pc,hp,h=>by
  simp only[fp,qqw]at h;obtain⟨h1,h2,h3,h4,h5⟩:=h;exact⟨lf',rfl,fun π=>MC hp π h1,qqx h2,qqx h3,List.isEmpty_iff.1 h4,List.isEmpty_iff.1 h5⟩
 |.br c t f,pc,hp,h=>by
  unfold fp at h;unfold R.ag;split at h
  ·rename_i hd;rw[if_pos (dz hp hd)];exact ik hp h
  ·rename_i hd;rw[if_neg (by rw[dz hp hd];simp)];exact ik hp h
  ·rw[qqw]at h;cases hc:c.tt ρ with
   |true=>rw[if_pos rfl];exact ik (Ab hp hc) h.1
   |false=>rw[if_neg (by simp)];exact ik (Ab hp hc) h.2
 |.stuck _,pc,hp,h=>by simp[fp]at h
theorem nv{m:Nat}:∀ {t u:R Leaf} {pc:PC},ai ρ pc->dg m t u pc=true->∃ lf lf',t.ag ρ=some lf/\u.ag ρ=some lf'/\(∀ π,lf.v.ab ρ π=lf'.v.ab ρ π)/\lf.n<=m/\lf'.n<=m/\lf.objs=[]/\lf'.objs=[]
 |.ok lf,u,pc,hp,h=>by
  obtain⟨lf',h1,h2⟩:=ik hp (show fp lf m u pc=true from h);exact⟨lf,lf',rfl,h1,h2⟩
 |.br c t f,u,pc,hp,h=>by
  unfold dg at h;rw[show(R.br c t f).ag ρ=if c.tt ρ then t.ag ρ else f.ag ρ from rfl];split at h
  ·rename_i hd;rw[if_pos (dz hp hd)];exact nv hp h
  ·rename_i hd;rw[if_neg (by rw[dz hp hd];simp)];exact nv hp h
  ·rw[qqw]at h;cases hc:c.tt ρ with
   |true=>rw[if_pos rfl];exact nv (Ab hp hc) h.1
   |false=>rw[if_neg (by simp)];exact nv (Ab hp hc) h.2
 |.stuck _,u,pc,hp,h=>by simp[dg]at h
end
end
section
variable {P:Program} {cx:Cx} {ρ:Env} {W:World} {L:List (Nat×List V)} {ng:Nat} {c:List V} {len:X} {es:Nat} {pc:PC}
structure WinAt (ρ:Env) (W:World) (L:List (Nat×List V)) (n:Nat) (c:List V) (len:X) (es:Nat):Prop where
 spot:(ρ.win n).spot=none
 obj:W.heap[(ρ.win n).block]?=some (ρ.ro n)
 other:∀ x∈L,x.1≠(ρ.win n).block
 cells:∃ (cs:Array Value) (t:TypeId) (fr:Nat×Nat),ρ.ro n=.cells cs t fr/\∀ (j:Nat) (v:V),c[j]?=some v->j<(len.den ρ).toNat*es->∀ π,cs[(ρ.win n).off+j]?=some (v.ab ρ π)
end
noncomputable section
def Fs:Nat->List V->Option (List X×List V)
 |0,l=>some ([],l)
 |_+1,[]=>none
 |n+1,v::l=>match v with
  |.int .u32 x=>match inK .u32 x,Fs n l with
   |true,some (xs,r)=>some (x::xs,r)
   |_,_=>none
  |_=>none
def lZ (rows:List (List V×(List X->X))) (n:Nat) (args:List V) (st:St):R (V×St):=match Fs n args with
 |none=>.stuck "words expected"
 |some (xs,r)=>match rows.find? (fun x=>V.cM r x.1)with
  |none=>.stuck "words: no such row"
  |some (_,mk)=>.ok (.int .u32 (mk xs),{st with n:=st.n+1000})
def gG:Nat->Nat->List V
 |_,0=>[]
 |i,n+1=>.int .u32 (.wrap .u32 (.var i))::gG (i+1) n
theorem MT{ρ:Env}:∀ {n:Nat} {args:List V} {xs:List X} {r:List V},Fs n args=some (xs,r)->xs.length=n/\(∀ x∈xs,0<=x.den ρ/\x.den ρ<=4294967295)/\∀ π,V.ae ρ π args=xs.map (fun x=>Value.int .u32 (x.den ρ))++V.ae ρ π r
 |0,args,xs,r,h=>by
  simp only[Fs,qqk,qqv]at h;obtain⟨rfl,rfl⟩:=h;exact⟨rfl,fun x hx=>by simp at hx,fun π=>rfl⟩
 |n+1,[],xs,r,h=>by simp[Fs]at h
 |n+1,v::l,xs,r,h=>by
  unfold Fs at h;split at h
  ·split at h
   ·rename_i h1 h2;simp only[qqk,qqv]at h;obtain⟨rfl,rfl⟩:=h;obtain⟨e1,e2,e3⟩:=MT (ρ:=ρ) h2;refine⟨by simp[e1],fun x hx=>?_,fun π=>by simp[V.ae,V.ab,e3]⟩;rcases List.mem_cons.1 hx with rfl|hx
    ·exact xq h1
    ·exact e2 x hx
   ·cases h
  ·cases h
theorem CZ{ρ:Env}{π:Pl}:∀ {n i:Nat} {zs:List Int},zs.length=n->(∀ z∈zs,0<=z/\z<=4294967295)->(∀ j (h:j<zs.length),ρ.v (i+j)=zs[j])->V.ae ρ π (gG i n)=zs.map (Value.int .u32)
 |0,i,zs,hl,_,_=>by
  obtain rfl:=qzj hl;rfl
 |n+1,i,[],hl,_,_=>by simp at hl
 |n+1,i,z::zs,hl,hz,hv=>by
  have h0:ρ.v i=z:=hv 0 (by simp);have:=CZ (ρ:=ρ) (π:=π) (n:=n) (i:=i+1) (zs:=zs) (by simpa using hl) (fun y hy=>hz y (by simp[hy])) fun j hj=>by
   have:=hv (j+1) (by simp;omega);rw[show i+1+j=i+(j+1) by omega,this];rfl
  have hw:=hz z (by simp);simp only[gG,V.ae,V.ab,X.den,h0,this,List.map_cons];rw[bV (by simp[m5];omega) (by simp[nF];omega)]
theorem Ch:∀ n i,V.dN (gG i n)=true
 |0,_=>rfl
 |n+1,i=>by simp[gG,V.dN,V.pure,Ch n]
theorem vp:∀ {l m:List V},V.dN l=true->V.dN m=true->V.dN (l++m)=true
 |[],_,_,h=>h
 |v::l,m,h,h'=>by
  simp only[V.dN,qqw]at h;simp only[List.cons_append,V.dN,qqw];exact⟨h.1,vp h.2 h'⟩
section
variable {P:Program} {cx cx0:Cx} {ρ:Env} {ng:Nat}
structure RowU (cx0:Cx) (ng N n:Nat) (f:FuncId) (rest:List V) (mk:List X->X) (F:List Int->Int) (t:R Leaf):Prop where
 run:cP [] ng ((ev cx0 N).call f (gG 0 n++rest) (sk [] ng))=t
 pure:V.dN rest=true
 closed:∀ ρ ρ' π π',V.ae ρ π rest=V.ae ρ' π' rest
 den:∀ (ρ:Env) (xs:List X),xs.length=n->(∀ x∈xs,0<=x.den ρ/\x.den ρ<=4294967295)->(mk xs).den ρ=F (xs.map fun x=>x.den ρ)
 spec:∀ (ρ:Env) (zs:List Int),zs.length=n->(∀ z∈zs,0<=z/\z<=4294967295)->(∀ j (h:j<zs.length),ρ.v j=zs[j])->∃ lf,t.ag ρ=some lf/\lf.objs=[]/\lf.n<=ng+1000/\∀ π,lf.v.ab ρ π=.int .u32 (F zs)
theorem Rc(hmix:P.follows .mixedOrders=true)(htt:nu P cx0.tt)(hft:sl P cx0.ft)(hsm:∀ ρ':Env,ρ'.ro=ρ.ro->SumOk P cx0 ρ')(hng:cx.ng=ng)(hng0:cx0.ng=ng){N n:Nat}{f:FuncId}{fn:Func} (hfn:P.funcs[f]?=some fn)
  {rows:List (List V×(List X->X))} (hr:∀ x∈rows,∃ F t,RowU cx0 ng N n f x.1 x.2 F t):fM P cx ρ f (lZ rows n):=by
 intro args st v st' h S π0 w ac m hh ha;unfold lZ at h;split at h
 ·simp[R.ag]at h
 ·rename_i xs r htk;split at h
  ·simp[R.ag]at h
  ·rename_i rest mk hfind;simp only[R.ag,qqk,qqv]at h;obtain⟨rfl,rfl⟩:=h;have hmem:=List.mem_of_find?_eq_some hfind;have hbeq:=List.find?_some hfind;dsimp only at hbeq;obtain rfl:=V.aR _ _ hbeq;obtain⟨F,t,hrow⟩:=hr _ hmem;dsimp only at hrow;obtain⟨e1,e2,e3⟩:=MT (ρ:=ρ) htk;let zs:=xs.map fun x=>x.den ρ
   let ρ':Env:={ρ with v:=fun i=>zs.getD i 0}
   have hzl:zs.length=n:=by simp[zs,e1]
   have hz:∀ z∈zs,0<=z/\z<=4294967295:=fun z hz=>by
    obtain⟨x,hx,rfl⟩:=qzx.1 hz;exact e2 x hx
   have hv:∀ j (h:j<zs.length),ρ'.v j=zs[j]:=fun j h=>by
    show zs.getD j 0=zs[j];rw[List.getD_eq_getElem?_getD,qq0 h];rfl
   obtain⟨lf,hl,ho,hn,hc⟩:=hrow.spec ρ' zs hzl hz hv;obtain⟨st2,h4,h5,hnw,h6,h7⟩:=jb (L:=[]) (ng:=ng) (ρ:=ρ') (r:=(ev cx0 N).call f (gG 0 n++r) (sk [] ng)) (by rw[hrow.run];exact hl);have hargs:bz ρ' S π0 (gG 0 n++r) ac:=fun π hk=>by
    rw[<-ha π hk,e3,aW,CZ hzl hz (fun j h=>by rw[qk7];exact hv j h),hrow.closed ρ' ρ π π];simp[zs]
   have key:=tA (P:=P) (cx:=cx) (cx0:=cx0) (ρ:=ρ) (ρ':=ρ') hmix htt hft (hsm ρ' rfl) hng hng0 (fun x hx=>by simp at hx) ⟨fun x hx=>by simp at hx⟩ rfl h4 h5 (v':=.int .u32 (mk xs))
    (fun π=>by rw[hc π];simp only[V.ab];rw[hrow.den ρ xs e1 e2]) rfl (objs:=[]) (fun x hx=>by simp at hx) (vp (Ch n 0) hrow.pure) hfn hh rfl hargs (n:=m)
   refine key.mono fun e w' hp=>?_
   refine EPost.more (st1:={h:=st.h,n:=st.n+(st2.n-ng),pc:=st.pc}) (v:=.int .u32 (mk xs)) hp (m:=st.n+1000) ?_;show st.n+(st2.n-ng)<=st.n+1000;rw[h7]at hn;omega
end
end
end Go.Proofs.YtgcbnjpeifigaaaGreatDoor
namespace Go.Proofs.YtgcbnjpeifigaaaGreatDoor
open Go Go.Proofs Go.ChangeShapes Go.WideShapes
def CK.ok:CK->Value->Prop
 |.int k,v=>∃ z,v=.int k z/\(Lit.int k z).wf=true
 |.bool,v=>∃ b,v=.bool b
def nr:List CK->List Value->Prop
 |[],[]=>True
 |k::ks,v::vs=>k.ok v/\nr ks vs
 |_,_=>False
theorem nr.len:∀ {ks:List CK} {vs:List Value},nr ks vs->vs.length=ks.length
 |[],[],_=>rfl
 |_::_,_::_,h=>by simp[nr.len h.2]
 |[],_::_,h=>h.elim
 |_::_,[],h=>h.elim
theorem nr.append:∀ {ks ls:List CK} {vs us:List Value},nr ks vs->nr ls us->nr (ks++ls) (vs++us)
 |[],_,[],_,_,h=>h
 |_::_,_,_::_,_,h,h'=>⟨h.1,nr.append h.2 h'⟩
 |[],_,_::_,_,h,_=>h.elim
 |_::_,_,[],_,h,_=>h.elim
theorem nr.get:∀ {ks:List CK} {vs:List Value} {i:Nat} {k:CK},nr ks vs->ks[i]?=some k->∃ v,vs[i]?=some v/\k.ok v
 |[],_,_,_,_,h=>by simp at h
 |k::ks,v::vs,0,_,h,e=>by
  obtain rfl:=qqz e;exact⟨v,rfl,h.1⟩
 |_::ks,_::vs,i+1,_,h,e=>by
  have:=nr.get (ks:=ks) (vs:=vs) h.2 (by simpa using e);simpa using this
 |_::_,[],_,_,h,_=>h.elim
def Gg (g:TypeId->Option (List CK)):Nat->List Field->Option (List CK)
 |_,[]=>some []
 |off,f::fs=>match Nat.beq f.offset off,g f.type with
  |true,some ks=>match Gg g (off+ks.length) fs with
   |some r=>some (ks++r)
   |none=>none
  |_,_=>none
def Bf(ks:List CK):Nat->List CK
 |0=>[]
 |n+1=>ks++Bf ks n
def JX(P:Program):Nat->TypeId->Option (List CK)
 |0,_=>none
 |f+1,t=>match P.underlying t with
  |some (.int k)=>some [.int k]
  |some .bool=>some [.bool]
  |some (.struct fs)=>match Gg (JX P f) 0 fs.toList with
   |some ks=>match Nat.beq (P.cellsOf t) ks.length with
    |true=>some ks
    |false=>none
   |none=>none
  |some (.array n e)=>match JX P f e with
   |some ks=>match Nat.beq (P.cellsOf e) ks.length,Nat.beq (P.cellsOf t) (n*ks.length)with
    |true,true=>some (Bf ks n)
    |_,_=>none
   |none=>none
  |_=>none
theorem CU{α:Type}{l:List α}{m n:Nat} (h:(l.take m).length=n):l.take m=l.take n:=by
 rw[qz3]at h;rcases Nat.le_total m l.length with h1|h1
 ·rw[Nat.min_eq_left h1]at h;rw[h]
 ·rw[Nat.min_eq_right h1]at h;rw[List.take_of_length_le h1,List.take_of_length_le (by omega)]
section
variable {H:Type} {enc:TypeId×Value→H} {P:Program} {w:World} {base:Nat} {spare:Nat→Bool} {held:Bool}
theorem Eb {g:TypeId->Option (List CK)} {cs:List Value}:∀ (fs:List Field) (off:Nat) (ks:List CK),Gg g off fs=some ks->
  (∀ f∈fs,∀ ks,g f.type=some ks->nr ks ((cs.drop f.offset).take (P.cellsOf f.type)))->nr ks ((cs.drop off).take ks.length)
 |[],off,ks,h,_=>by
  obtain rfl:=qqz h;trivial
 |f::fs,off,ks,h,hf=>by
  unfold Gg at h;split at h
  ·rename_i k1 ho hg;obtain rfl:=qqq ho;split at h
   ·rename_i r hr;obtain rfl:=qqz h;have h1:=hf f (by simp) k1 hg;rw[CU h1.len]at h1;have h2:=Eb fs _ r hr fun f' hm=>hf f' (by simp[hm])
    rw[qq9,List.take_add,List.drop_drop];exact h1.append h2
   ·cases h
  ·cases h
theorem Ea{cs:List Value}{ks:List CK}:∀ (n i:Nat),(∀ j,i<=j->j<i+n->nr ks ((cs.drop (j*ks.length)).take ks.length))->nr (Bf ks n) ((cs.drop (i*ks.length)).take (n*ks.length))
 |0,_,_=>by simp[Bf,nr]
 |n+1,i,h=>by
  have h1:=h i (qq2 _) (by omega);have h2:=Ea n (i+1) fun j a b=>h j (by omega) (by omega)
  rw[Bf,show(n+1)*ks.length=ks.length+n*ks.length by rw[qk0];omega,List.take_add,List.drop_drop,show i*ks.length+ks.length=(i+1)*ks.length by rw[qk0];omega];exact h1.append h2
theorem Bg:∀ (n:Nat) (t:TypeId) (ks:List CK),JX P n t=some ks->∀ {fuel:Nat} {cs:List Value} {x:DataW H×List MemPlace},DataW.trod enc P w base spare held fuel t cs=some x->nr ks cs
 |0,_,_,h,_,_,_,_=>by cases h
 |n+1,t,ks,h,fuel,cs,x,hx=>by
  unfold JX at h;split at h
  ·rename_i k hu;obtain rfl:=qqz h;obtain⟨z,rfl,_,hw⟩:=DataW.trod_int hu hx;exact⟨⟨z,rfl,hw⟩,trivial⟩
  ·rename_i hu;obtain rfl:=qqz h;obtain⟨b,rfl,_⟩:=DataW.trod_bool hu hx;exact⟨⟨b,rfl⟩,trivial⟩
  ·rename_i fs hu;split at h
   ·rename_i ks' hf;split at h
    ·rename_i hl;obtain rfl:=qqz h;obtain⟨xs,m,_,_,hlen,hxs,hel⟩:=DataW.trod_struct hu hx;have key:=Eb (P:=P) (cs:=cs) fs.toList 0 ks' hf fun f hm ks1 hg=>by
      obtain⟨i,hi⟩:=List.getElem?_of_mem hm;have hi':fs[i]?=some f:=by simpa using hi
      have hlt:i<xs.length:=by
       rw[hxs];exact(qq6.1 hi').1
      have:=hel i f hi';rw[qq0 hlt]at this;exact Bg n _ _ hg this
     rw[List.drop_zero,List.take_of_length_le (by rw[hlen,qqq hl];exact qq2 _)]at key;exact key
    ·cases h
   ·cases h
  ·rename_i m e hu;split at h
   ·rename_i ke he;split at h
    ·rename_i h1 h2;obtain rfl:=qqz h;have e1:=qqq h1;have e2:=qqq h2;obtain⟨xs,q,_,_,hlen,hxs,hel⟩:=DataW.trod_array hu hx;have key:=Ea (cs:=cs) (ks:=ke) m 0 fun j _ hj=>by
      have hlt:j<xs.length:=by omega
      have:=hel j (by omega);rw[qq0 hlt]at this;rw[<-e1];exact Bg n _ _ he this
     rw[Nat.zero_mul,List.drop_zero,List.take_of_length_le (by rw[hlen,e2];exact qq2 _)]at key;exact key
    ·cases h
   ·cases h
  ·cases h
theorem open_row{t e:TypeId}{n:Nat}{ks:List CK}{fuel:Nat}{cs:List Value}{x:DataW H×List MemPlace} (ht:P.underlying t=some (.slice e)) (hk:JX P n e=some ks) (hc:P.cellsOf e=ks.length)
  (h:DataW.trod enc P w base spare held fuel t cs=some x):
  cs=[.slice none 0 0]\/∃ (a:Addr) (len cap:Nat) (zs:Nat->List Value),cs=[.slice (some a) len cap]/\base<=a.block/\len<=cap/\cap<=maxLen /\
   ∀ i,i<len->nr ks (zs i)/\∀ j,j<ks.length->w.cell? (a.add (i*ks.length+j))=(zs i)[j]?:=by
 rcases DataW.trod_slice ht h with⟨h0,_⟩|⟨a,len,cap,elems,rest,m,_,rfl,_,hb,hl,hm,hlen,hel,_,_⟩
 ·exact .inl h0
 refine .inr ⟨a,len,cap,fun i=>((w.cells? base (a.add (i*P.cellsOf e)) (P.cellsOf e)).getD []),rfl,hb,hl,hm,fun i hi=>?_⟩;have hi':=hel i hi;rw[qq0 (by omega),Option.bind_eq_some_iff]at hi';obtain⟨cs',hcs,hy⟩:=hi';dsimp only;rw[hcs,Option.getD_some];refine⟨Bg n e ks hk hy,fun j hj=>?_⟩;obtain⟨_,hl2,hg⟩:=World.cells?_some hcs;rw[hc]at hg;have:=hg j hj;rw[<-this,add_add]
end
def ac1:Value->Int
 |.int _ z=>z
 |.bool b=>bp b
 |_=>0
theorem wf_wrap{k:IntKind}{z:Int} (h:(Lit.int k z).wf=true):k.wrap z=z:=by
 have:m5 k<=z/\z<=nF k:=by
  simp only[Lit.wf,qqw,decide_eq_true_eq]at h;cases k<;>simp[m5,nF,IntKind.min,IntKind.max,IntKind.signed,IntKind.bits]at h ⊢<;>omega
 exact bV this.1 this.2
end Go.Proofs.YtgcbnjpeifigaaaGreatDoor
