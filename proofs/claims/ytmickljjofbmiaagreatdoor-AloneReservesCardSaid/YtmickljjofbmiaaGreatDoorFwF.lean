/- Symbolic execution, part 35: functions as symbols: two trees that agree; more names. Symbolic execution, part 36: a run over a part of a row that came in. Symbolic execution: functions of words whose value is told by an expression. Values that came in, opened: cells of integers and truths; a part of a row of such. No condition. -/
import Derived.Test.YtmickljjofbmiaaGreatDoorSeX
import Derived.OpenShut
import Derived.ChangeSlices
namespace Go.Proofs.YtmickljjofbmiaaGreatDoor
open Go Go.RowKit
noncomputable section
section
variable {ρ:Env} {S:Nat→Prop} {π0 π1:Pl} {h h1:H} {w w1:World} {n n1 n2:Nat}
theorem Ext.more{i:Nat}(hn:n1≤n2)(hi:Ext S n n1 i):Ext S n n2 i:=hi.elim .inl fun⟨a,b⟩=>.inr ⟨a,Nat.lt_of_lt_of_le b hn⟩
theorem Goes.more(g:Goes ρ S π0 h w n π1 h1 w1 n1)(hn:n1≤n2):Goes ρ S π0 h w n π1 h1 w1 n2 where
 le:=Nat.le_trans g.le hn
 known:=g.known
 at_:=⟨fun π hk=>g.at_.rep π fun i hi=>hk i (Ext.more hn hi),fun i o hi=>Ext.more hn (g.at_.dom i o hi)⟩
 sub:=g.sub
 keep:=g.keep
 size:=g.size
 same:=g.same
theorem EPost.more{st:St}{v:V}{st1:St}{m:Nat}{e:Ending} (hp:EPost ρ S π0 st w (.ret v,st1) e w1) (hn:st1.n≤m):EPost ρ S π0 st w (.ret v,{st1 with n:=m}) e w1:=by
 obtain⟨hpc,π2,g,c,he,hv⟩:=hp
 exact⟨hpc,π2,g.more hn,c,he,fun π hk=>hv π fun i hi=>hk i (Ext.more hn hi)⟩
end
mutual
def sameV(pc:PC):V→V→Bool
 | .int k x,.int j y=>kindBeq k j&&(match holds pc (mkEq x y) with
  | some true=>true
  | _=>false)
 | .bool x,.bool y=>match holds pc (mkIff x y) with
  | some true=>true
  | _=>false
 | .agg l,.agg m=>sameVs pc l m
 | .tuple l,.tuple m=>sameVs pc l m
 | _,_=>false
def sameVs(pc:PC):List V→List V→Bool
 | [],[]=>true
 | v::l,u::m=>sameV pc v u&&sameVs pc l m
 | _,_=>false
end
def agreeLeaf(lf:Leaf)(m:Nat):R Leaf→PC→Bool
 | .ok lf',pc=>sameV pc lf.v lf'.v&&(Nat.ble lf.n m&&(Nat.ble lf'.n m&&(lf.objs.isEmpty&&lf'.objs.isEmpty)))
 | .br c t f,pc=>match decAtom pc c with
  | some true=>agreeLeaf lf m t pc
  | some false=>agreeLeaf lf m f pc
  | none=>agreeLeaf lf m t ((c,true)::pc)&&agreeLeaf lf m f ((c,false)::pc)
 | .stuck _,_=>false
def agree(m:Nat):R Leaf→R Leaf→PC→Bool
 | .ok lf,u,pc=>agreeLeaf lf m u pc
 | .br c t f,u,pc=>match decAtom pc c with
  | some true=>agree m t u pc
  | some false=>agree m f u pc
  | none=>agree m t u ((c,true)::pc)&&agree m f u ((c,false)::pc)
 | .stuck _,_,_=>false
section
variable {ρ:Env}
theorem holds_tt{pc:PC}(hp:PcOk ρ pc):∀ {x:X} {b:Bool},holds pc x=some b→x.tt ρ=b:=by
 intro x
 induction x with
 | lit n=>
  intro b h
  simp only [holds,Option.some.injEq] at h
  subst h
  simp [X.tt,X.den,intBeq_iff,bne]
 | not a ih=>
  intro b h
  simp only [holds] at h
  split at h
  ·rename_i c hc
   obtain rfl:=Option.some.inj h
   have:=ih hc
   rw [show (X.not a).tt ρ=!a.tt ρ from by simp only [X.tt,X.den,bne,b2i_zero,Bool.not_not],this]
  ·cases h
 | ite c x y ic ix iy=>
  intro b h
  have e:(X.ite c x y).tt ρ=if c.tt ρ then x.tt ρ else y.tt ρ:=by
   simp only [X.tt,X.den]
   by_cases hc:c.den ρ=0<;>simp [hc]
  simp only [holds] at h
  split at h
  ·rename_i hc
   rw [e,ic hc]
   exact ix h
  ·rename_i hc
   rw [e,ic hc]
   exact iy h
  ·cases h
 | _=>
  intro b h
  simp only [holds] at h
  exact decAtom_ok hp h
theorem addF_ok{pc:PC}(hp:PcOk ρ pc):∀ {c:X} {b:Bool},c.tt ρ=b→PcOk ρ (addF pc c b):=by
 intro c
 induction c with
 | not y ih=>
  intro b h
  unfold addF
  exact ih (by rw [←h,show (X.not y).tt ρ=!y.tt ρ from by simp only [X.tt,X.den,bne,b2i_zero,Bool.not_not],Bool.not_not])
 | _=>
  intro b h f hf
  unfold addF at hf
  rcases List.mem_cons.1 hf with rfl | hf
  ·exact h
  ·exact hp f hf
theorem ite_den(c a b:X):(X.ite c a b).den ρ=if c.tt ρ then a.den ρ else b.den ρ:=by
 by_cases h:c.den ρ=0<;>simp [X.den,X.tt,h]
theorem simpD_den{pc:PC}(hp:PcOk ρ pc):∀ {n:Nat} {x:X},(simpD pc n x).den ρ=x.den ρ
 | 0,x=>rfl
 | n+1,x=>by
  unfold simpD
  split
  ·split
   ·rename_i hc
    rw [simpD_den hp,ite_den,holds_tt hp hc];rfl
   ·rename_i hc
    rw [simpD_den hp,ite_den,holds_tt hp hc];rfl
   ·rfl
  ·exact simpX_den hp _
theorem bool_beq{a b:Bool}(h:sameB a b=true):a=b:=by cases a<;>cases b<;>simp [sameB] at h<;>rfl
theorem chk_ok:∀ {f:Nat} {pc:PC} {x:X} {b:Bool},PcOk ρ pc→chk f pc x b=true→x.tt ρ=b
 | 0,_,_,_,_,h=>by simp [chk] at h
 | f+1,pc,x,b,hp,h=>by
  have two:∀ (c y:X),(match chk f (addF pc c true) y b with
    | true=>chk f (addF pc c false) y b
    | false=>false)=true→y.tt ρ=b:=by
   intro c y h
   split at h
   ·rename_i h1
    cases hc:c.tt ρ with
    | true=>exact chk_ok (addF_ok hp hc) h1
    | false=>exact chk_ok (addF_ok hp hc) h
   ·cases h
  unfold chk at h
  split at h
  ·rename_i n
   rw [←bool_beq h]
   simp [X.tt,X.den,intBeq_iff,bne]
  ·rename_i a
   have:=chk_ok hp h
   rw [show (X.not a).tt ρ=!a.tt ρ from by simp only [X.tt,X.den,bne,b2i_zero,Bool.not_not],this,Bool.not_not]
  ·rename_i c p q
   have e:(X.ite c p q).tt ρ=if c.tt ρ then p.tt ρ else q.tt ρ:=by
    rw [X.tt,ite_den]
    unfold X.tt
    split<;>rfl
   rw [e]
   split at h
   ·rename_i hc;rw [holds_tt hp hc];exact chk_ok hp h
   ·rename_i hc;rw [holds_tt hp hc];exact chk_ok hp h
   ·split at h
    ·rename_i h0
     rw [chk_ok hp h0]
     exact chk_ok hp h
    split at h
    ·rename_i h1
     cases hc:c.tt ρ with
     | true=>exact chk_ok (addF_ok hp hc) h1
     | false=>exact chk_ok (addF_ok hp hc) h
    ·cases h
  ·rename_i u v
   have e:(X.eq u v).tt ρ=(X.eq (simpD pc 100 u) (simpD pc 100 v)).tt ρ:=by rw [tt_eq,tt_eq,simpD_den hp,simpD_den hp]
   rw [e]
   generalize simpD pc 100 u=u' at *
   generalize simpD pc 100 v=v' at *
   dsimp only at h
   split at h
   ·rename_i t ht
    have:=holds_tt hp ht
    rw [mkEq_tt] at this
    rw [tt_eq,this]
    exact bool_beq h
   ·split at h
    ·exact two _ _ h
    ·split at h
     ·exact two _ _ h
     ·cases h
  ·split at h
   ·rename_i t ht
    rw [holds_tt hp ht]
    exact bool_beq h
   ·cases h
mutual
theorem sameV_ok{pc:PC}(hp:PcOk ρ pc)(π:Pl):∀ {u v:V},sameV pc u v=true→u.conc ρ π=v.conc ρ π
 | .int k x,v,h=>by
  cases v<;>simp only [sameV,Bool.false_eq_true] at h
  rw [Bool.and_eq_true] at h
  obtain⟨h1,h2⟩:=h
  split at h2
  ·rename_i he
   have:=holds_tt hp he
   rw [mkEq_tt] at this
   simp only [V.conc,kindBeq_eq h1]
   rw [eq_of_beq this]
  ·cases h2
 | .bool x,v,h=>by
  cases v<;>simp only [sameV,Bool.false_eq_true] at h
  split at h
  ·rename_i he
   have:=holds_tt hp he
   rw [mkIff_tt] at this
   simp only [V.conc]
   rw [eq_of_beq this]
  ·cases h
 | .agg l,v,h=>by
  cases v<;>simp only [sameV,Bool.false_eq_true] at h
  simp only [V.conc,sameVs_ok hp π h]
 | .tuple l,v,h=>by
  cases v<;>simp only [sameV,Bool.false_eq_true] at h
  simp only [V.conc,sameVs_ok hp π h]
 | .str _,v,h=>by simp [sameV] at h
 | .ptr _ _,v,h=>by simp [sameV] at h
 | .nilptr,v,h=>by simp [sameV] at h
 | .slice _ _ _ _,v,h=>by simp [sameV] at h
 | .nilslice,v,h=>by simp [sameV] at h
 | .map _,v,h=>by simp [sameV] at h
 | .nilmap,v,h=>by simp [sameV] at h
 | .func _ _ _,v,h=>by simp [sameV] at h
 | .yield _,v,h=>by simp [sameV] at h
 | .nilfunc,v,h=>by simp [sameV] at h
 | .iface _ _,v,h=>by simp [sameV] at h
 | .niliface,v,h=>by simp [sameV] at h
 | .wptr _ _,v,h=>by simp [sameV] at h
 | .wslice _ _ _ _,v,h=>by simp [sameV] at h
 | .ite _ _ _,v,h=>by simp [sameV] at h
 | .sptr _ _ _ _,v,h=>by simp [sameV] at h
 | .rest _ _ _ _,v,h=>by simp [sameV] at h
 | .xslice _ _ _ _ _ _,v,h=>by simp [sameV] at h
 | .xptr _ _ _ _ _,v,h=>by simp [sameV] at h
 | .any _,v,h=>by simp [sameV] at h
theorem sameVs_ok{pc:PC}(hp:PcOk ρ pc)(π:Pl):∀ {l m:List V},sameVs pc l m=true→V.concs ρ π l=V.concs ρ π m
 | [],m,h=>by
  cases m with
  | nil=>rfl
  | cons _ _=>simp [sameVs] at h
 | v::l,m,h=>by
  cases m with
  | nil=>simp [sameVs] at h
  | cons u m=>
   simp only [sameVs,Bool.and_eq_true] at h
   simp only [V.concs,sameV_ok hp π h.1,sameVs_ok hp π h.2]
end
theorem pc_more{pc:PC}{c:X}(hp:PcOk ρ pc){b:Bool}(hc:c.tt ρ=b):PcOk ρ ((c,b)::pc):=fun f hf=>by
 rcases List.mem_cons.1 hf with rfl | hf
 ·exact hc
 ·exact hp f hf
theorem agreeLeaf_ok{lf:Leaf}{m:Nat}:∀ {u:R Leaf} {pc:PC},PcOk ρ pc→agreeLeaf lf m u pc=true→∃ lf',u.sel ρ=some lf'∧(∀ π,lf.v.conc ρ π=lf'.v.conc ρ π)∧lf.n≤m∧lf'.n≤m∧lf.objs=[]∧lf'.objs=[]
 | .ok lf',pc,hp,h=>by
  simp only [agreeLeaf,Bool.and_eq_true] at h
  obtain⟨h1,h2,h3,h4,h5⟩:=h
  exact⟨lf',rfl,fun π=>sameV_ok hp π h1,Nat.le_of_ble_eq_true h2,Nat.le_of_ble_eq_true h3,List.isEmpty_iff.1 h4,List.isEmpty_iff.1 h5⟩
 | .br c t f,pc,hp,h=>by
  unfold agreeLeaf at h
  unfold R.sel
  split at h
  ·rename_i hd
   rw [if_pos (decAtom_ok hp hd)]
   exact agreeLeaf_ok hp h
  ·rename_i hd
   rw [if_neg (by rw [decAtom_ok hp hd];simp)]
   exact agreeLeaf_ok hp h
  ·rw [Bool.and_eq_true] at h
   cases hc:c.tt ρ with
   | true=>rw [if_pos rfl];exact agreeLeaf_ok (pc_more hp hc) h.1
   | false=>rw [if_neg (by simp)];exact agreeLeaf_ok (pc_more hp hc) h.2
 | .stuck _,pc,hp,h=>by simp [agreeLeaf] at h
theorem agree_ok{m:Nat}:∀ {t u:R Leaf} {pc:PC},PcOk ρ pc→agree m t u pc=true→∃ lf lf',t.sel ρ=some lf∧u.sel ρ=some lf'∧(∀ π,lf.v.conc ρ π=lf'.v.conc ρ π)∧lf.n≤m∧lf'.n≤m∧lf.objs=[]∧lf'.objs=[]
 | .ok lf,u,pc,hp,h=>by
  obtain⟨lf',h1,h2⟩:=agreeLeaf_ok hp (show agreeLeaf lf m u pc=true from h)
  exact⟨lf,lf',rfl,h1,h2⟩
 | .br c t f,u,pc,hp,h=>by
  unfold agree at h
  rw [show (R.br c t f).sel ρ=if c.tt ρ then t.sel ρ else f.sel ρ from rfl]
  split at h
  ·rename_i hd
   rw [if_pos (decAtom_ok hp hd)]
   exact agree_ok hp h
  ·rename_i hd
   rw [if_neg (by rw [decAtom_ok hp hd];simp)]
   exact agree_ok hp h
  ·rw [Bool.and_eq_true] at h
   cases hc:c.tt ρ with
   | true=>rw [if_pos rfl];exact agree_ok (pc_more hp hc) h.1
   | false=>rw [if_neg (by simp)];exact agree_ok (pc_more hp hc) h.2
 | .stuck _,u,pc,hp,h=>by simp [agree] at h
end
end
end Go.Proofs.YtmickljjofbmiaaGreatDoor
namespace Go.Proofs.YtmickljjofbmiaaGreatDoor
open Go Go.RowKit
section
variable {P:Program} {cx:Cx} {ρ:Env} {W:World} {L:List (Nat×List V)} {ng:Nat} {c:List V} {len:X} {es:Nat} {pc:PC}
structure WinAt (ρ:Env) (W:World) (L:List (Nat×List V)) (n:Nat) (c:List V) (len:X) (es:Nat):Prop where
 spot:(ρ.win n).spot=none
 obj:W.heap[(ρ.win n).block]?=some (ρ.ro n)
 other:∀ x∈L,x.1≠(ρ.win n).block
 cells:∃ (cs:Array Value) (t:TypeId) (fr:Nat×Nat),ρ.ro n=.cells cs t fr∧∀ (j:Nat) (v:V),c[j]?=some v→j<(len.den ρ).toNat*es→∀ π,cs[(ρ.win n).off+j]?=some (v.conc ρ π)
end
end Go.Proofs.YtmickljjofbmiaaGreatDoor
namespace Go.Proofs.YtmickljjofbmiaaGreatDoor
open Go Go.RowKit
noncomputable section
def takeU:Nat→List V→Option (List X×List V)
 | 0,l=>some ([],l)
 | _+1,[]=>none
 | n+1,v::l=>match v with
  | .int .u32 x=>match inK .u32 x,takeU n l with
   | true,some (xs,r)=>some (x::xs,r)
   | _,_=>none
  | _=>none
def symU (rows:List (List V×(List X→X))) (n:Nat) (args:List V) (st:St):R (V×St):=match takeU n args with
 | none=>.stuck "words expected"
 | some (xs,r)=>match rows.find? (fun x=>V.beqs r x.1) with
  | none=>.stuck "words: no such row"
  | some (_,mk)=>.ok (.int .u32 (mk xs),{st with n:=st.n+1000})
def varsU:Nat→Nat→List V
 | _,0=>[]
 | i,n+1=>.int .u32 (.wrap .u32 (.var i))::varsU (i+1) n
theorem takeU_ok{ρ:Env}:∀ {n:Nat} {args:List V} {xs:List X} {r:List V},takeU n args=some (xs,r)→xs.length=n∧(∀ x∈xs,0≤x.den ρ∧x.den ρ≤4294967295)∧∀ π,V.concs ρ π args=xs.map (fun x=>Value.int .u32 (x.den ρ))++V.concs ρ π r
 | 0,args,xs,r,h=>by
  simp only [takeU,Option.some.injEq,Prod.mk.injEq] at h
  obtain⟨rfl,rfl⟩:=h
  exact⟨rfl,fun x hx=>by simp at hx,fun π=>rfl⟩
 | n+1,[],xs,r,h=>by simp [takeU] at h
 | n+1,v::l,xs,r,h=>by
  unfold takeU at h
  split at h
  ·split at h
   ·rename_i h1 h2
    simp only [Option.some.injEq,Prod.mk.injEq] at h
    obtain⟨rfl,rfl⟩:=h
    obtain⟨e1,e2,e3⟩:=takeU_ok (ρ:=ρ) h2
    refine⟨by simp [e1],fun x hx=>?_,fun π=>by simp [V.concs,V.conc,e3]⟩
    rcases List.mem_cons.1 hx with rfl | hx
    ·exact inK_ok h1
    ·exact e2 x hx
   ·cases h
  ·cases h
theorem varsU_conc{ρ:Env}{π:Pl}:∀ {n i:Nat} {zs:List Int},zs.length=n→(∀ z∈zs,0≤z∧z≤4294967295)→(∀ j (h:j<zs.length),ρ.v (i+j)=zs[j])→V.concs ρ π (varsU i n)=zs.map (Value.int .u32)
 | 0,i,zs,hl,_,_=>by
  obtain rfl:=List.eq_nil_of_length_eq_zero hl
  rfl
 | n+1,i,[],hl,_,_=>by simp at hl
 | n+1,i,z::zs,hl,hz,hv=>by
  have h0:ρ.v i=z:=hv 0 (by simp)
  have:=varsU_conc (ρ:=ρ) (π:=π) (n:=n) (i:=i+1) (zs:=zs) (by simpa using hl) (fun y hy=>hz y (by simp [hy])) fun j hj=>by
   have:=hv (j+1) (by simp;omega)
   rw [show i+1+j=i+(j+1) by omega,this]
   rfl
  have hw:=hz z (by simp)
  simp only [varsU,V.concs,V.conc,X.den,h0,this,List.map_cons]
  rw [wrap_in (by simp [kLo];omega) (by simp [kHi];omega)]
theorem varsU_pure:∀ n i,V.pures (varsU i n)=true
 | 0,_=>rfl
 | n+1,i=>by simp [varsU,V.pures,V.pure,varsU_pure n]
theorem pures_append:∀ {l m:List V},V.pures l=true→V.pures m=true→V.pures (l++m)=true
 | [],_,_,h=>h
 | v::l,m,h,h'=>by
  simp only [V.pures,Bool.and_eq_true] at h
  simp only [List.cons_append,V.pures,Bool.and_eq_true]
  exact⟨h.1,pures_append h.2 h'⟩
section
variable {P:Program} {cx cx0:Cx} {ρ:Env} {ng:Nat}
structure RowU (cx0:Cx) (ng N n:Nat) (f:FuncId) (rest:List V) (mk:List X→X) (F:List Int→Int) (t:R Leaf):Prop where
 run:leafOf [] ng ((ev cx0 N).call f (varsU 0 n++rest) (stG [] ng))=t
 pure:V.pures rest=true
 closed:∀ ρ ρ' π π',V.concs ρ π rest=V.concs ρ' π' rest
 den:∀ (ρ:Env) (xs:List X),xs.length=n→(∀ x∈xs,0≤x.den ρ∧x.den ρ≤4294967295)→(mk xs).den ρ=F (xs.map fun x=>x.den ρ)
 spec:∀ (ρ:Env) (zs:List Int),zs.length=n→(∀ z∈zs,0≤z∧z≤4294967295)→(∀ j (h:j<zs.length),ρ.v j=zs[j])→∃ lf,t.sel ρ=some lf∧lf.objs=[]∧lf.n≤ng+1000∧∀ π,lf.v.conc ρ π=.int .u32 (F zs)
theorem symU_ok(hmix:P.follows .mixedOrders=true)(htt:TOk P cx0.tt)(hft:FOk P cx0.ft)(hsm:∀ ρ':Env,ρ'.ro=ρ.ro→SumOk P cx0 ρ')(hng:cx.ng=ng)(hng0:cx0.ng=ng){N n:Nat}{f:FuncId}{fn:Func} (hfn:P.funcs[f]?=some fn)
  {rows:List (List V×(List X→X))} (hr:∀ x∈rows,∃ F t,RowU cx0 ng N n f x.1 x.2 F t):SumAt P cx ρ f (symU rows n):=by
 intro args st v st' h S π0 w ac m hh ha
 unfold symU at h
 split at h
 ·simp [R.sel] at h
 ·rename_i xs r htk
  split at h
  ·simp [R.sel] at h
  ·rename_i rest mk hfind
   simp only [R.sel,Option.some.injEq,Prod.mk.injEq] at h
   obtain⟨rfl,rfl⟩:=h
   have hmem:=List.mem_of_find?_eq_some hfind
   have hbeq:=List.find?_some hfind
   dsimp only at hbeq
   obtain rfl:=V.beqs_eq _ _ hbeq
   obtain⟨F,t,hrow⟩:=hr _ hmem
   dsimp only at hrow
   obtain⟨e1,e2,e3⟩:=takeU_ok (ρ:=ρ) htk
   let zs:=xs.map fun x=>x.den ρ
   let ρ':Env:={ρ with v:=fun i=>zs.getD i 0}
   have hzl:zs.length=n:=by simp [zs,e1]
   have hz:∀ z∈zs,0≤z∧z≤4294967295:=fun z hz=>by
    obtain⟨x,hx,rfl⟩:=List.mem_map.1 hz
    exact e2 x hx
   have hv:∀ j (h:j<zs.length),ρ'.v j=zs[j]:=fun j h=>by
    show zs.getD j 0=zs[j]
    rw [List.getD_eq_getElem?_getD,List.getElem?_eq_getElem h]
    rfl
   obtain⟨lf,hl,ho,hn,hc⟩:=hrow.spec ρ' zs hzl hz hv
   obtain⟨st2,h4,h5,hnw,h6,h7⟩:=leafOf_sel (L:=[]) (ng:=ng) (ρ:=ρ') (r:=(ev cx0 N).call f (varsU 0 n++r) (stG [] ng)) (by rw [hrow.run];exact hl)
   have hargs:SaysL ρ' S π0 (varsU 0 n++r) ac:=fun π hk=>by
    rw [←ha π hk,e3,concs_append,varsU_conc hzl hz (fun j h=>by rw [Nat.zero_add];exact hv j h),hrow.closed ρ' ρ π π]
    simp [zs]
   have key:=leaf_post2 (P:=P) (cx:=cx) (cx0:=cx0) (ρ:=ρ) (ρ':=ρ') hmix htt hft (hsm ρ' rfl) hng hng0 (fun x hx=>by simp at hx) ⟨fun x hx=>by simp at hx⟩ rfl h4 h5 (v':=.int .u32 (mk xs))
    (fun π=>by rw [hc π];simp only [V.conc];rw [hrow.den ρ xs e1 e2]) rfl (objs:=[]) (fun x hx=>by simp at hx) (pures_append (varsU_pure n 0) hrow.pure) hfn hh rfl hargs (n:=m)
   refine key.mono fun e w' hp=>?_
   refine EPost.more (st1:={h:=st.h,n:=st.n+(st2.n-ng),pc:=st.pc}) (v:=.int .u32 (mk xs)) hp (m:=st.n+1000) ?_
   show st.n+(st2.n-ng)≤st.n+1000
   rw [h7] at hn
   omega
end
end
end Go.Proofs.YtmickljjofbmiaaGreatDoor
namespace Go.Proofs.YtmickljjofbmiaaGreatDoor
open Go Go.Proofs Go.ChangeShapes Go.WideShapes
def CK.ok:CK→Value→Prop
 | .int k,v=>∃ z,v=.int k z∧(Lit.int k z).wf=true
 | .bool,v=>∃ b,v=.bool b
def AllK:List CK→List Value→Prop
 | [],[]=>True
 | k::ks,v::vs=>k.ok v∧AllK ks vs
 | _,_=>False
theorem AllK.len:∀ {ks:List CK} {vs:List Value},AllK ks vs→vs.length=ks.length
 | [],[],_=>rfl
 | _::_,_::_,h=>by simp [AllK.len h.2]
 | [],_::_,h=>h.elim
 | _::_,[],h=>h.elim
theorem AllK.append:∀ {ks ls:List CK} {vs us:List Value},AllK ks vs→AllK ls us→AllK (ks++ls) (vs++us)
 | [],_,[],_,_,h=>h
 | _::_,_,_::_,_,h,h'=>⟨h.1,AllK.append h.2 h'⟩
 | [],_,_::_,_,h,_=>h.elim
 | _::_,_,[],_,h,_=>h.elim
theorem AllK.get:∀ {ks:List CK} {vs:List Value} {i:Nat} {k:CK},AllK ks vs→ks[i]?=some k→∃ v,vs[i]?=some v∧k.ok v
 | [],_,_,_,_,h=>by simp at h
 | k::ks,v::vs,0,_,h,e=>by
  obtain rfl:=Option.some.inj e
  exact⟨v,rfl,h.1⟩
 | _::ks,_::vs,i+1,_,h,e=>by
  have:=AllK.get (ks:=ks) (vs:=vs) h.2 (by simpa using e)
  simpa using this
 | _::_,[],_,_,h,_=>h.elim
def flatFs (g:TypeId→Option (List CK)):Nat→List Field→Option (List CK)
 | _,[]=>some []
 | off,f::fs=>match Nat.beq f.offset off,g f.type with
  | true,some ks=>match flatFs g (off+ks.length) fs with
   | some r=>some (ks++r)
   | none=>none
  | _,_=>none
def flatEs(ks:List CK):Nat→List CK
 | 0=>[]
 | n+1=>ks++flatEs ks n
def flatK(P:Program):Nat→TypeId→Option (List CK)
 | 0,_=>none
 | f+1,t=>match P.underlying t with
  | some (.int k)=>some [.int k]
  | some .bool=>some [.bool]
  | some (.struct fs)=>match flatFs (flatK P f) 0 fs.toList with
   | some ks=>match Nat.beq (P.cellsOf t) ks.length with
    | true=>some ks
    | false=>none
   | none=>none
  | some (.array n e)=>match flatK P f e with
   | some ks=>match Nat.beq (P.cellsOf e) ks.length,Nat.beq (P.cellsOf t) (n*ks.length) with
    | true,true=>some (flatEs ks n)
    | _,_=>none
   | none=>none
  | _=>none
theorem take_eq_of_len{α:Type}{l:List α}{m n:Nat} (h:(l.take m).length=n):l.take m=l.take n:=by
 rw [List.length_take] at h
 rcases Nat.le_total m l.length with h1 | h1
 ·rw [Nat.min_eq_left h1] at h;rw [h]
 ·rw [Nat.min_eq_right h1] at h
  rw [List.take_of_length_le h1,List.take_of_length_le (by omega)]
section
variable {H:Type} {enc:TypeId×Value→H} {P:Program} {w:World} {base:Nat} {spare:Nat→Bool} {held:Bool}
theorem flatFs_ok {g:TypeId→Option (List CK)} {cs:List Value}:∀ (fs:List Field) (off:Nat) (ks:List CK),flatFs g off fs=some ks→
  (∀ f∈fs,∀ ks,g f.type=some ks→AllK ks ((cs.drop f.offset).take (P.cellsOf f.type)))→AllK ks ((cs.drop off).take ks.length)
 | [],off,ks,h,_=>by
  obtain rfl:=Option.some.inj h
  trivial
 | f::fs,off,ks,h,hf=>by
  unfold flatFs at h
  split at h
  ·rename_i k1 ho hg
   obtain rfl:=Nat.eq_of_beq_eq_true ho
   split at h
   ·rename_i r hr
    obtain rfl:=Option.some.inj h
    have h1:=hf f (by simp) k1 hg
    rw [take_eq_of_len h1.len] at h1
    have h2:=flatFs_ok fs _ r hr fun f' hm=>hf f' (by simp [hm])
    rw [List.length_append,List.take_add,List.drop_drop]
    exact h1.append h2
   ·cases h
  ·cases h
theorem flatEs_ok{cs:List Value}{ks:List CK}:∀ (n i:Nat),(∀ j,i≤j→j<i+n→AllK ks ((cs.drop (j*ks.length)).take ks.length))→AllK (flatEs ks n) ((cs.drop (i*ks.length)).take (n*ks.length))
 | 0,_,_=>by simp [flatEs,AllK]
 | n+1,i,h=>by
  have h1:=h i (Nat.le_refl _) (by omega)
  have h2:=flatEs_ok n (i+1) fun j a b=>h j (by omega) (by omega)
  rw [flatEs,show (n+1)*ks.length=ks.length+n*ks.length by rw [Nat.add_mul];omega,List.take_add,List.drop_drop,show i*ks.length+ks.length=(i+1)*ks.length by rw [Nat.add_mul];omega]
  exact h1.append h2
theorem flatK_ok:∀ (n:Nat) (t:TypeId) (ks:List CK),flatK P n t=some ks→∀ {fuel:Nat} {cs:List Value} {x:DataW H×List MemPlace},DataW.trod enc P w base spare held fuel t cs=some x→AllK ks cs
 | 0,_,_,h,_,_,_,_=>by cases h
 | n+1,t,ks,h,fuel,cs,x,hx=>by
  unfold flatK at h
  split at h
  ·rename_i k hu
   obtain rfl:=Option.some.inj h
   obtain⟨z,rfl,_,hw⟩:=DataW.trod_int hu hx
   exact⟨⟨z,rfl,hw⟩,trivial⟩
  ·rename_i hu
   obtain rfl:=Option.some.inj h
   obtain⟨b,rfl,_⟩:=DataW.trod_bool hu hx
   exact⟨⟨b,rfl⟩,trivial⟩
  ·rename_i fs hu
   split at h
   ·rename_i ks' hf
    split at h
    ·rename_i hl
     obtain rfl:=Option.some.inj h
     obtain⟨xs,m,_,_,hlen,hxs,hel⟩:=DataW.trod_struct hu hx
     have key:=flatFs_ok (P:=P) (cs:=cs) fs.toList 0 ks' hf fun f hm ks1 hg=>by
      obtain⟨i,hi⟩:=List.getElem?_of_mem hm
      have hi':fs[i]?=some f:=by simpa using hi
      have hlt:i<xs.length:=by
       rw [hxs]
       exact (Array.getElem?_eq_some_iff.1 hi').1
      have:=hel i f hi'
      rw [List.getElem?_eq_getElem hlt] at this
      exact flatK_ok n _ _ hg this
     rw [List.drop_zero,List.take_of_length_le (by rw [hlen,Nat.eq_of_beq_eq_true hl];exact Nat.le_refl _)] at key
     exact key
    ·cases h
   ·cases h
  ·rename_i m e hu
   split at h
   ·rename_i ke he
    split at h
    ·rename_i h1 h2
     obtain rfl:=Option.some.inj h
     have e1:=Nat.eq_of_beq_eq_true h1
     have e2:=Nat.eq_of_beq_eq_true h2
     obtain⟨xs,q,_,_,hlen,hxs,hel⟩:=DataW.trod_array hu hx
     have key:=flatEs_ok (cs:=cs) (ks:=ke) m 0 fun j _ hj=>by
      have hlt:j<xs.length:=by omega
      have:=hel j (by omega)
      rw [List.getElem?_eq_getElem hlt] at this
      rw [←e1]
      exact flatK_ok n _ _ he this
     rw [Nat.zero_mul,List.drop_zero,List.take_of_length_le (by rw [hlen,e2];exact Nat.le_refl _)] at key
     exact key
    ·cases h
   ·cases h
  ·cases h
theorem open_row{t e:TypeId}{n:Nat}{ks:List CK}{fuel:Nat}{cs:List Value}{x:DataW H×List MemPlace} (ht:P.underlying t=some (.slice e)) (hk:flatK P n e=some ks) (hc:P.cellsOf e=ks.length)
  (h:DataW.trod enc P w base spare held fuel t cs=some x):
  cs=[.slice none 0 0]∨∃ (a:Addr) (len cap:Nat) (zs:Nat→List Value),cs=[.slice (some a) len cap]∧base≤a.block∧len≤cap∧cap≤maxLen ∧
   ∀ i,i<len→AllK ks (zs i)∧∀ j,j<ks.length→w.cell? (a.add (i*ks.length+j))=(zs i)[j]?:=by
 rcases DataW.trod_slice ht h with ⟨h0,_⟩ | ⟨a,len,cap,elems,rest,m,_,rfl,_,hb,hl,hm,hlen,hel,_,_⟩
 ·exact .inl h0
 refine .inr ⟨a,len,cap,fun i=>((w.cells? base (a.add (i*P.cellsOf e)) (P.cellsOf e)).getD []),rfl,hb,hl,hm,fun i hi=>?_⟩
 have hi':=hel i hi
 rw [List.getElem?_eq_getElem (by omega),Option.bind_eq_some_iff] at hi'
 obtain⟨cs',hcs,hy⟩:=hi'
 dsimp only
 rw [hcs,Option.getD_some]
 refine⟨flatK_ok n e ks hk hy,fun j hj=>?_⟩
 obtain⟨_,hl2,hg⟩:=World.cells?_some hcs
 rw [hc] at hg
 have:=hg j hj
 rw [←this,add_add]
end
def cellI:Value→Int
 | .int _ z=>z
 | .bool b=>b2i b
 | _=>0
theorem wf_wrap{k:IntKind}{z:Int} (h:(Lit.int k z).wf=true):k.wrap z=z:=by
 have:kLo k≤z∧z≤kHi k:=by
  simp only [Lit.wf,Bool.and_eq_true,decide_eq_true_eq] at h
  cases k<;>simp [kLo,kHi,IntKind.min,IntKind.max,IntKind.signed,IntKind.bits] at h ⊢<;>omega
 exact wrap_in this.1 this.2
end Go.Proofs.YtmickljjofbmiaaGreatDoor
