/- CoreForwards' loop over stores and loads: where it is come to (printed by hk21). CoreForwards' loop over stores and loads: its shapes, how a round is looked at (plain functions). CoreForwards' loop: how a state goes on to a round's, to what is behind the loop. CoreForwards' loop is told. CoreForwards: the law's cases, as runs, its loop and CorePlay told. CoreForwards: of any row, there or not, the law answers true, and nothing that was there is turned. No condition. -/
import Derived.Test.YtgcbnjpeifigaaaGreatDoorJPk
import Derived.Test.YtgcbnjpeifigaaaGreatDoorFwH
set_option maxRecDepth 100000
namespace Go.Proofs.YtgcbnjpeifigaaaGreatDoor
open Go Go.Proofs
abbrev zF8:V:=.int .u8 (.lit 0)
abbrev zF:V:=.int .i64 (.lit 0)
def lF:V:=.xslice true 8 (.lit 0) 4 (.var 40) (.known (.var 41))
def a1F:V:=.agg [li .i64 1,zF,zw,zF8]
def Ap:PC:=[((.le (.lit 1) (.var 40)),true),((.le (.var 40) (.lit 20)),true),((.le (.var 40) (.var 41)),true),((.le (.lit 1) (.var 62)),true),((.le (.var 62) (.lit 22)),true),((.le (.lit 1) (.var 63)),true),((.le (.var 63) (.lit 84)),true),((.le (.lit 0) (.lit 7)),true),((.le (.lit 0) (.lit 8)),true)]
noncomputable def DA:Code:=(qc (Tryz.f5.body.getD .skip)).getD 0 .skip
noncomputable def Da:List V:=[lF,(.bool (.eq (.var 42) (.lit 1))),U,U,(.bool (.lit 0)),(.slice 13 0 2 (.room 13 0 2)),(.slice 15 0 4 (.room 15 0 4)),zF,U,U,lF,(vi .i64 40),(.bool (.lt (.lit 20) (.var 40))),U,(.slice 10 0 1 (.known 1)),a1F,(.slice 11 0 1 (.known 1)),(.bool (.eq (.var 42) (.lit 1))),(.slice 10 0 1 (.known 1)),(.slice 12 0 1 (.known 1)),(.slice 13 0 2 (.room 13 0 2)),(.slice 11 0 1 (.known 1)),a1F,(.agg [(li .i64 3),(li .i64 1),zw,(li .u8 5)]),a1F,(.slice 14 0 3 (.known 3)),(.slice 15 0 4 (.room 15 0 4))]++List.replicate 87 U
def FN0:Nat:=16
noncomputable def aju:PC:=((.eq (.var 42) (.lit 1)),true)::Ap
noncomputable def atg:List (Nat×ak):=[(0,.ro 0 (roC 0)),
  (8,.warr 8 10 zz (.var 40)),
  (12,.cells [(li .u32 12591491)] 38 none),
  (10,.cells [(li .u32 305135763)] 38 none),
  (14,.cells [(li .i64 1),zF,zw,zF8,(li .i64 3),(li .i64 1),zw,(li .u8 5),(li .i64 1),zF,zw,zF8] 64 none),
  (13,.cells [(li .u32 305135763),(li .u32 12591491)] 38 (some 1)),
  (11,.cells [(li .i64 1),zF,zw,zF8] 64 none),
  (15,.cells [(li .i64 1),zF,zw,zF8,(li .i64 1),zF,zw,zF8,(li .i64 3),(li .i64 1),zw,(li .u8 5),(li .i64 1),zF,zw,zF8] 64 (some 4))]
noncomputable def atl:List V:=[lF,(.bool (.eq (.var 42) (.lit 1))),U,U,(.bool (.lit 0)),(.slice 10 0 1 (.known 1)),(.slice 11 0 1 (.known 1)),zF,U,U,lF,(vi .i64 40),(.bool (.lt (.lit 20) (.var 40))),U,(.slice 10 0 1 (.known 1)),a1F,(.slice 11 0 1 (.known 1)),(.bool (.eq (.var 42) (.lit 1)))]++List.replicate 96 U
def FN1:Nat:=12
noncomputable def ajv:PC:=((.eq (.var 42) (.lit 1)),false)::Ap
noncomputable def ati:List (Nat×ak):=[(0,.ro 0 (roC 0)),
  (8,.warr 8 10 zz (.var 40)),
  (10,.cells [(li .u32 305135763)] 38 none),
  (11,.cells [(li .i64 1),zF,zw,zF8] 64 none)]
noncomputable section
def Nr:Cx:={cx with dm:=RX,sx:=true,js:=true,sm:=tW [(10,bY aj 7 sQ)]}
def ku:List CK:=[.int .u32]
def oCf(t v:Nat):ak:=.arr (.base t) ku (.var v) 38 true
def oAf(t v:Nat):ak:=.arr (.base t) zz (.var v) 64 true
def sCf(b v:Nat):V:=.xslice false b (.lit 0) 1 (.var v) (.room (.var v))
def sAf(b v:Nat):V:=.xslice false b (.lit 0) 4 (.var v) (.room (.var v))
def xTm(z0 cv av z7:V):Nat->List V->List V
 |_,[]=>[]
 |i,_::l=>(match i with
  |0=>z0
  |5=>cv
  |6=>av
  |7=>z7
  |i=>.any (40+i))::xTm z0 cv av z7 (i+1) l
def RB:List (Nat×ak):=[(0,.ro 0 (roC 0)),(8,.warr 8 10 zz (.var 40))]
def FKn:List Nat:=8::30::31::Dl 0 7 (ajI 0 Da [])
def Zc:PC:=(.le (.lit 0) (.var 100),true)::(.le (.lit 1) (.var 60),true)::(.le (.var 60) (.lit 22),true)::(.le (.lit 1) (.var 61),true)::(.le (.var 61) (.lit 84),true)::Ap
def frF(z0 z7:V)(v v2:Nat):Fr:=⟨xTm z0 (sCf 30 v) (sAf 31 v2) z7 0 Da,[]⟩
def m9:DC:=⟨frF lF (vi .i64 100) 60 61,(30,oCf 30 60)::(31,oAf 50 61)::RB,200,Zc,FKn⟩
def Uc:Bool->List V
 |true=>Da
 |false=>atl
def Zb:Bool->List (Nat×ak)
 |true=>atg
 |false=>ati
def Na:Bool->Nat
 |true=>FN0
 |false=>FN1
def Aq:Bool->PC
 |true=>aju
 |false=>ajv
def atk:Bool->List Nat
 |true=>8::10::11::12::13::14::15::Dl 0 7 []
 |false=>8::10::11::Dl 0 7 []
def vn(z:Bool):DC:=⟨⟨Uc z,[]⟩,Zb z,Na z,Aq z,atk z⟩
def OF:OutP:=⟨.exit 0,⟨frF (.any 40) (.any 47) 62 63,(30,oCf 70 62)::(31,oAf 80 63)::RB,400,[],FKn⟩⟩
def RE(z:Bool):LoopI:=⟨none,DA,⟨Uc z,[]⟩,⟨tx (Zb z),Na z,Aq z⟩,.ok (OF.ex,OF.pat.fr,⟨OF.pat.st.h,OF.pat.st.n,Aq z⟩)⟩
def Ov(w:Nat):V->Option (Nat×X)
 |.xslice false b (.lit (.ofNat 0)) w' n (.room n')=>match Nat.beq w w',n.beq n' with
  |true,true=>some (b,n)
  |_,_=>none
 |.slice b 0 n (.room b' 0 n')=>match Nat.beq b b',Nat.beq n n' with
  |true,true=>some (b,nl n)
  |_,_=>none
 |_=>none
def Qt(w:Nat)(v:V):Option (Nat×X):=match v with
 |.slice b 0 n (.known m)=>match Nat.ble n m with
  |true=>some (b,nl n)
  |false=>none
 |v=>Ov w v
def abB(k:IntKind)(x:X):Bool:=pq (m5 k) (nF k) x
def aRg(ks:List CK):A->Bool
 |.base _=>true
 |.put a _ c x=>match ks[c]? with
  |some (.int k)=>match abB k x with
   |true=>aRg ks a
   |false=>false
  |_=>false
 |.fill _=>false
def FZ(ks:List CK):Nat->List V->Bool
 |_,[]=>true
 |i,v::l=>match ks[i % ks.length]?,v with
  |some (.int k),.int k' x=>match bE k' k,abB k x with
   |true,true=>FZ ks (i+1) l
   |_,_=>false
  |_,_=>false
def vc(ks:List CK)(ty:TypeId)(n:X):ak->Bool
 |.arr a ks' n' ty' _=>bc (n'.beq n) (Nat.beq ty' ty) (CK.cM ks' ks) (aRg ks a) true true
 |.cells cs ty' _=>match n with
  |.lit (.ofNat m)=>bc (Nat.beq ty' ty) (Nat.ble (m*ks.length) cs.length) (FZ ks 0 cs) true true true
  |_=>false
 |_=>false
def Bw(w:Nat):ak->Bool
 |.arr _ _ _ _ wd=>wd
 |.cells _ _ (some w')=>Nat.beq w' w
 |_=>false
def gm(ρ:Env)(k:CK)(w c:Nat)(j:Int):ak->Int
 |.arr a _ _ _ _=>a.den ρ k c j
 |.cells cs _ _=>match cs[j.toNat*w+c]? with
  |some (.int _ x)=>x.den ρ
  |_=>0
 |_=>0
structure PR where
 b:Nat
 n:X
 o:ak
 b2:Nat
 n2:X
 o2:ak
def vj(tm:List V)(h:H):Option PR:=match nth tm 5,nth tm 6 with
 |some v,some v2=>match Ov 1 v,Ov 4 v2 with
  |some (b,n),some (b2,n2)=>match h.get b,h.get b2 with
   |some o,some o2=>some ⟨b,n,o,b2,n2,o2⟩
   |_,_=>none
  |_,_=>none
 |_,_=>none
def Wj(p:PR):Bool:=bc (vc ku 38 p.n p.o) (Bw 1 p.o) (vc zz 64 p.n2 p.o2) (Bw 4 p.o2) (match Nat.beq p.b p.b2 with|true=>false|false=>true) (bc (Nat.ble 9 p.b) (Nat.ble 9 p.b2) true true true true)
structure RwS where
 lc:Int
 la:Int
 fc:Int->Int
 fa:Nat->Int->Int
def k4(c:Nat):CK:=zz[c]?.getD (.int .i64)
def PR.rs(ρ:Env)(p:PR):RwS:=⟨p.n.den ρ,p.n2.den ρ,fun j=>gm ρ (.int .u32) 1 0 j p.o,fun c j=>gm ρ (k4 c) 4 c j p.o2⟩
def v60:X:=.var 60
def v61:X:=.var 61
def ix1:X:=.add (.var 100) (.lit 1)
def EB(m:Nat):X->Bool
 |.lit (.ofNat n)=>match Nat.ble 1 n with
  |true=>Nat.ble n m
  |false=>false
 |_=>false
def Wi(s:Bool)(e:Ex)(fr:Fr)(st:St):Bool:=match fr.df,vj fr.tm st.h,nth fr.tm 0,nth fr.tm 7 with
 |[],some p,some t0,some t7=>match bc (Wj p) (pb st RB) (Nat.beq fr.tm.length Da.length) true true true with
  |true=>match e,s with
   |.normal,true=>bc (t0.beq lF) (t7.beq (.int .i64 ix1)) (p.n.beq (.add v60 (.lit 1))) (match p.n2.beq (.add v61 (.lit 1))with|true=>true|false=>p.n2.beq (.add (.add v61 (.lit 1)) (.lit 3))) (ck st.pc [(.lt (.var 100) (.var 40),true)]) true
   |.normal,false=>bc (t0.beq lF) (t7.beq (.int .i64 (.lit 1))) (EB 3 p.n) (EB 8 p.n2) true true
   |.exit 0,true=>bc (p.n.beq v60) (p.n2.beq v61) (p.o.beq (oCf 30 60)) (p.o2.beq (oAf 50 61)) (ck st.pc [(.lt (.var 100) (.var 40),false)]) true
   |_,_=>false
  |false=>false
 |_,_,_,_=>false
def vd(s:Bool):bU->Bool
 |.br _ a b=>match vd s a with
  |true=>vd s b
  |false=>false
 |.ok (e,fr,st)=>Wi s e (ep fr) st
 |.stuck _=>false
def S9(p:DC):bU:=(PL Nr 4001).code none DA ⟨Tm.of p.fr.tm,[]⟩ p.st
def tF:Tch:=⟨[60,61,62,63,100],[(30,1),(50,4),(70,1),(80,4)]⟩
def ui:List (Nat×ak)->Bool
 |[]=>true
 |(i,o)::l=>match sI tF σ0 i o o,Nat.blt i 30,Ax 30 o.iB with
  |true,true,true=>ui l
  |_,_,_=>false
def abz(z:Bool):Bool:=bc (pb (vn z).st (Zb z)) (ui (Zb z)) (mo tF σ0 (Uc z) (Uc z)) true true true
end
theorem aqZ:vd true (S9 m9)=true:=by kernel_rfl
theorem aq1:vd false (S9 (vn false))=true:=by kernel_rfl
theorem aq2:vd false (S9 (vn true))=true:=by kernel_rfl
theorem auD:kL 7 (RE false) m9=true:=by kernel_rfl
theorem auE:kL 7 (RE true) m9=true:=by kernel_rfl
theorem auF:kL 7 (RE false) (vn false)=true:=by kernel_rfl
theorem auG:kL 7 (RE true) (vn true)=true:=by kernel_rfl
theorem aoA:y8 7 OF.pat=true:=by kernel_rfl
theorem atz:abz false=true:=by kernel_rfl
theorem atA:abz true=true:=by kernel_rfl
theorem fxF:ui RB=true:=by kernel_rfl
theorem ab7:(match bX (Na false) m9.kn OF.pat.kn,bX (Na false) m9.kn m9.kn,bX (Na false) (vn false).kn m9.kn with|true,true,true=>true|_,_,_=>false)=true:=by kernel_rfl
theorem anz:(match bX (Na true) m9.kn OF.pat.kn,bX (Na true) m9.kn m9.kn,bX (Na true) (vn true).kn m9.kn with|true,true,true=>true|_,_,_=>false)=true:=by kernel_rfl
section
variable {ρ:Env} {π:Pl}
theorem P4{k:IntKind}{x:X}(h:abB k x=true):k.wrap (x.den ρ)=x.den ρ:=by
 obtain⟨h1,h2⟩:=bh (ρ:=ρ) h;exact bV h1 h2
theorem Uf{ks:List CK}:∀ {a:A},aRg ks a=true->∀ {c:Nat} {k:IntKind},ks[c]?=some (.int k)->∀ j:Int,k.wrap (a.den ρ (.int k) c j)=a.den ρ (.int k) c j
 |.base t,_,c,k,_,j=>wrap_wrap k _
 |.put a i c' x,h,c,k,hc,j=>by
  unfold aRg at h;split at h
  ·rename_i k' hk';split at h
   ·rename_i hx;show k.wrap (if c=c'/\j=i.den ρ then x.den ρ else a.den ρ (.int k) c j)=(if c=c'/\j=i.den ρ then x.den ρ else a.den ρ (.int k) c j);by_cases e:c=c'/\j=i.den ρ
    ·rw[if_pos e];obtain⟨rfl,_⟩:=e;rw[hc]at hk';obtain rfl:=CK.int.inj (qqz hk');exact P4 hx
    ·rw[if_neg e];exact Uf h hc j
   ·cases h
  ·cases h
 |.fill x,h,_,_,_,_=>by cases h
theorem DV{ks:List CK}:∀ {l:List V} {i:Nat},FZ ks i l=true->∀ p,p<l.length->∃ k x,ks[(i+p) % ks.length]?=some (.int k)/\l[p]?=some (.int k x)/\abB k x=true
 |[],_,_,p,hp=>absurd hp (Nat.not_lt_zero p)
 |v::l,i,h,p,hp=>by
  unfold FZ at h;split at h
  ·rename_i k k' x hk;split at h
   ·rename_i h1 h2;obtain rfl:=a9 h1;cases p with
    |zero=>exact⟨_,x,hk,rfl,h2⟩
    |succ p=>
     obtain⟨k,x,e1,e2,e3⟩:=DV h p (by simpa using hp);exact⟨k,x,by rw[<-e1,show i+(p+1)=i+1+p by omega],e2,e3⟩
   ·cases h
  ·cases h
theorem Cf{ks:List CK}{ty:TypeId}{n:X}{o:ak}{b:Nat}{ob:Obj}(h:vc ks ty n o=true)(ho:o.is ρ π b ob):∃ cs:List Value,ob=.cells cs.toArray ty (0,0)/\(n.den ρ).toNat*ks.length<=cs.length/\(Bw ks.length o=true->cs.length=(π b).2*ks.length) /\
  ∀ (j c:Nat) (k:IntKind),j<(n.den ρ).toNat->ks[c]?=some (.int k)->cs[j*ks.length+c]?=some (.int k (gm ρ (.int k) ks.length c j o))/\k.wrap (gm ρ (.int k) ks.length c j o)=gm ρ (.int k) ks.length c j o:=by
 unfold vc at h;split at h
 ·obtain⟨h1,h2,h3,h4,_⟩:=ar h;obtain rfl:=X.beq_eq h1;obtain rfl:=qqq h2;obtain rfl:=CK.aR h3;obtain⟨cs,e1,e2,e3,e4⟩:=ho;exact⟨cs,e1,e2,e3,fun j c k hj hc=>⟨e4 j c (.int k) hj hc,Uf h4 hc j⟩⟩
 ·rename_i cs ty' wd;split at h
  ·rename_i m;obtain⟨h1,h2,h3,_⟩:=ar h;obtain rfl:=qqq h1;have h2:=qqx h2;obtain⟨sp,e1,e2⟩:=ho;refine⟨V.ae ρ π cs++sp,e1,?_,fun hw=>?_,fun j c k hj hc=>?_⟩
   ·rw[qq9,au];show m*_<=_;omega
   ·rw[qq9,au];unfold Bw at hw;split at hw
    ·rename_i e;cases e
    ·rename_i e;injection e with e3 e4 e5;subst e3 e5;rw[<-qqq hw];exact e2
    ·cases hw
   ·have hj:j<m:=hj;have hcl:c<ks.length:=(qq5.1 hc).1;have hlt:j*ks.length+c<cs.length:=by
     have:=qq7 ks.length (show j+1<=m by omega);rw[qk0]at this;omega
    obtain⟨k',x,f1,f2,f3⟩:=DV h3 _ hlt;rw[show(0+(j*ks.length+c)) % ks.length=c by rw[qk7,Nat.mul_comm,Nat.mul_add_mod,Nat.mod_eq_of_lt hcl],hc]at f1;obtain rfl:=CK.int.inj (qqz f1);have hS:gm ρ (.int k) ks.length c j (.cells cs ty' wd)=x.den ρ:=by
     simp only[gm,qkw,f2]
    rw[hS,qk1 (by rw[au];exact hlt),bu,f2];exact⟨rfl,P4 f3⟩
  ·cases h
 ·cases h
theorem x8{w:Nat}{v:V}{b:Nat}{n:X} (h:Ov w v=some (b,n)):v.ab ρ π=.slice (some ⟨(π b).1,0,none⟩) (n.den ρ).toNat (max (π b).2 (n.den ρ).toNat):=by
 unfold Ov at h;split at h
 ·split at h
  ·rename_i h1 h2;obtain⟨rfl,rfl⟩:=qk9 (qqz h);obtain rfl:=X.beq_eq h2;simp[V.ab,cU,XC.ab,X.den]
  ·cases h
 ·split at h
  ·rename_i h1 h2;obtain⟨rfl,rfl⟩:=qk9 (qqz h);obtain rfl:=qqq h1;obtain rfl:=qqq h2;simp[V.ab,Cp.ab,X.den,nl]
  ·cases h
 ·cases h
theorem Rb{w b v:Nat}:(V.xslice false b (.lit 0) w (.var v) (.room (.var v))).ab ρ π=.slice (some ⟨(π b).1,0,none⟩) (ρ.v v).toNat (max (π b).2 (ρ.v v).toNat):=by simp[V.ab,cU,XC.ab,X.den]
theorem Ry{z0 cv av z7:V}:∀ {l:List V} {o i:Nat},i<l.length->(xTm z0 cv av z7 o l)[i]?=some (match o+i with
  |0=>z0
  |5=>cv
  |6=>av
  |7=>z7
  |i=>.any (40+i))
 |[],o,i,h=>by simp at h
 |x::l,o,0,h=>rfl
 |x::l,o,i+1,h=>by
  have:=Ry (z0:=z0) (cv:=cv) (av:=av) (z7:=z7) (l:=l) (o:=o+1) (i:=i) (by simpa using h);rw[show o+1+i=o+(i+1) by omega]at this;rw[<-this];rfl
theorem Rz{z0 cv av z7:V}:∀ {l:List V} {o:Nat},(xTm z0 cv av z7 o l).length=l.length
 |[],_=>rfl
 |x::l,o=>by
  show(xTm z0 cv av z7 (o+1) l).length+1=l.length+1;rw[Rz]
theorem WK{tm:List V}{h:H}{p:PR}(hp:vj tm h=some p):(∃ v,tm[5]?=some v/\Ov 1 v=some (p.b,p.n))/\(∃ v,tm[6]?=some v/\Ov 4 v=some (p.b2,p.n2))/\h.get p.b=some p.o/\h.get p.b2=some p.o2:=by
 unfold vj at hp;split at hp
 ·rename_i v v2 h5 h6;split at hp
  ·rename_i b n b2 n2 s1 s2;split at hp
   ·rename_i o o2 g1 g2;obtain rfl:=qqz hp;rw[cr]at h5 h6;exact⟨⟨v,h5,s1⟩,⟨v2,h6,s2⟩,g1,g2⟩
   ·cases hp
  ·cases hp
 ·cases hp
theorem tO{ks:List CK}{ty:TypeId}{n:X}{o:ak}(h:vc ks ty n o=true):o.bg=false:=by
 unfold vc at h;split at h
 ·rfl
 ·rfl
 ·cases h
end
theorem OS{ρ1 ρ2:Env}(A:eC tF ρ1 ρ2):gL tF ρ1 ρ2 σ0:=⟨A,fun i x h=>by simp[σ0,look]at h,fun f ks a h=>by simp[σ0,look]at h⟩
theorem sW:∀ {l:List (Nat×ak)},ui l=true->∀ i o,(i,o)∈l->sI tF σ0 i o o=true/\i<30/\∀ b∈o.iB,b<30
 |[],_,_,_,hm=>by cases hm
 |(j,p)::l,h,i,o,hm=>by
  unfold ui at h;split at h
  ·rename_i h1 h2 h3;rcases List.mem_cons.1 hm with e|hm
   ·obtain⟨rfl,rfl⟩:=qk9 e;exact⟨h1,qqx h2,fun b hb=>nx h3 b hb⟩
   ·exact sW h i o hm
  ·cases h
def rF(p:PR)(i:Nat):Nat:=if i=30 then p.b else if i=31 then p.b2 else i
theorem abF{c:Nat}{k:CK} (h:zz[c]?=some k):∃ k',k=.int k':=by
 rcases c with _|_|_|_|c<;>simp only[zz,List.getElem?_cons_zero,List.getElem?_cons_succ,qqk]at h
 ·exact⟨_,h.symm⟩
 ·exact⟨_,h.symm⟩
 ·exact⟨_,h.symm⟩
 ·exact⟨_,h.symm⟩
 ·simp at h
theorem anb{c:Nat}{k:CK} (h:ku[c]?=some k):∃ k',k=.int k':=by
 rcases c with _|c<;>simp only[ku,List.getElem?_cons_zero,List.getElem?_cons_succ,qqk]at h
 ·exact⟨_,h.symm⟩
 ·simp at h
theorem Vg{ρ1 ρ2:Env}{π1 π2:Pl}{ks:List CK}{ty:TypeId}{n:X}{o:ak}{b i t v:Nat}{ob:Obj}(h:vc ks ty n o=true)(hw:Bw ks.length o=true)(ho:o.is ρ1 π1 b ob) (hki:∀ {c:Nat} {k:CK},ks[c]?=some k->∃ k',k=.int k') (hpi:(π2 i).2=(π1 b).2) (hv:ρ2.v v=n.den ρ1)
  (hf:∀ (c:Nat) (k:IntKind) (j:Int),ks[c]?=some (.int k)->k.wrap (ρ2.f1 (t+c) j)=k.wrap (gm ρ1 (.int k) ks.length c j o)):(ak.arr (.base t) ks (.var v) ty true).is ρ2 π2 i ob:=by
 obtain⟨cs,e1,e2,e3,e4⟩:=Cf h ho;refine⟨cs,e1,?_,fun _=>by rw[hpi];exact e3 hw,fun j c k hj hk=>?_⟩
 ·show(ρ2.v v).toNat*_<=_;rw[hv];exact e2
 ·obtain⟨k',rfl⟩:=hki hk;have hj:j<(ρ2.v v).toNat:=hj;obtain⟨f1,f2⟩:=e4 j c k' (by rw[<-hv];exact hj) hk;show cs[j*ks.length+c]?=some (.int k' (k'.wrap (ρ2.f1 (t+c) j)));rw[hf c k' j hk,f2];exact f1
theorem ao0{ρ1 ρ2:Env}(A:eC tF ρ1 ρ2){fr:Fr}{st:St}{p:PR}(hp:vj fr.tm st.h=some p)(hok:Wj p=true)(hfx:pb st RB=true)(hlen:fr.tm.length=Da.length) (hdf:fr.df=[]) {z0 z7:V} {v v2 t t2 m n:Nat} {pc:PC} (hn:n<=30)
  (hv:ρ2.v v=p.n.den ρ1) (hv2:ρ2.v v2=p.n2.den ρ1) (hf:∀ j,IntKind.u32.wrap (ρ2.f1 t j)=IntKind.u32.wrap (gm ρ1 (.int .u32) 1 0 j p.o)) (hf2:∀ (c:Nat) (k:IntKind) (j:Int),zz[c]?=some (.int k)->k.wrap (ρ2.f1 (t2+c) j)=k.wrap (gm ρ1 (.int k) 4 c j p.o2))
  (h0:∀ π1 u,fr.tm[0]?=some u->z0.ab ρ2 (Ai (rF p) (uO fr.tm) ρ1 π1)=u.ab ρ1 π1) (h7:∀ π1 u,fr.tm[7]?=some u->z7.ab ρ2 (Ai (rF p) (uO fr.tm) ρ1 π1)=u.ab ρ1 π1) (hpc:ai ρ1 st.pc->ai ρ2 pc):
  FitS n ρ1 ρ2 ⟨frF z0 z7 v v2,(30,oCf t v)::(31,oAf t2 v2)::RB,m,pc,FKn⟩ fr st (rF p) (uO fr.tm):=by
 obtain⟨⟨w5,g5,s5⟩,⟨w6,g6,s6⟩,gb,gb2⟩:=WK hp;obtain⟨k1,k2,k3,k4,k5,k6⟩:=ar hok;obtain⟨k7,k8,_⟩:=ar k6;have k7:=qqx k7;have k8:=qqx k8;have hne:p.b≠p.b2:=by
  intro e;rw[e,qz6]at k5;cases k5
 have hu:∀ i,i<40->uO fr.tm i=none:=fun i hi=>by
  unfold uO;rw[if_neg (by omega)]
 have hr:∀ i,i<30->rF p i=i:=fun i hi=>by
  unfold rF;rw[if_neg (by omega),if_neg (by omega)]
 have r30:rF p 30=p.b:=rfl;have r31:rF p 31=p.b2:=rfl;have main:∀ i o,(i,o)∈RB->i<9/\st.h.get i=some o/\∀ π1 ob,o.is ρ1 π1 i ob->o.is ρ2 (Ai (rF p) (uO fr.tm) ρ1 π1) i ob:=by
  intro i o hm;obtain⟨g1,g2,g3⟩:=sW fxF i o hm;refine⟨?_,pW hfx i o hm,fun π1 ob ho=>?_⟩
  ·rcases List.mem_cons.1 hm with e|hm
   ·obtain⟨rfl,rfl⟩:=qk9 e;omega
   ·obtain⟨rfl,rfl⟩:=qk9 (qq4.1 hm);omega
  ·have:=uG (π1:=π1) (OS A) (i:=i) (by rfl) g1 ho;rw[reN_σ0]at this;have key:∀ b,b<30->π1 b=Ai (rF p) (uO fr.tm) ρ1 π1 b:=fun b hb=>by rw[cQ (hu b (by omega)),hr b hb]
   exact ak.Bx (key i g2) (fun b hb=>key b (g3 b hb)) this
 have ho:∀ i o,(i,o)∈((30,oCf t v)::(31,oAf t2 v2)::RB)->(i=30/\o=oCf t v)\/(i=31/\o=oAf t2 v2)\/(i,o)∈RB:=by
  intro i o hm;rcases List.mem_cons.1 hm with e|hm
  ·exact .inl (qk9 e)
  ·rcases List.mem_cons.1 hm with e|hm
   ·exact .inr (.inl (qk9 e))
   ·exact .inr (.inr hm)
 refine⟨fun i o hm=>?_,fun i j o o' hi hj e=>?_,hpc,fun i _ hi=>⟨hu i (by omega),hr i (by omega)⟩,fun π1=>?_,rfl,hdf⟩
 ·rcases ho i o hm with⟨rfl,rfl⟩|⟨rfl,rfl⟩|hm
  ·refine⟨hu _ (by omega),p.o,gb,tO k1,fun π1 ob h1=>?_⟩;rw[r30]at h1;exact Vg k1 k2 h1 anb (by rw[cQ (hu _ (by omega)),r30]) hv fun c k j hk=>by
    rcases c with _|c
    ·obtain rfl:=CK.int.inj (qqz hk);exact hf j
    ·simp[ku]at hk
  ·refine⟨hu _ (by omega),p.o2,gb2,tO k3,fun π1 ob h1=>?_⟩;rw[r31]at h1;exact Vg k3 k4 h1 abF (by rw[cQ (hu _ (by omega)),r31]) hv2 fun c k j hk=>hf2 c k j hk
  ·obtain⟨m1,m2,m3⟩:=main i o hm;refine⟨hu _ (by omega),o,by rw[hr i (by omega)];exact m2,rfl,fun π1 ob h1=>?_⟩;rw[hr i (by omega)]at h1;exact m3 π1 ob h1
 ·have lt9:∀ {i o},(i,o)∈RB->rF p i=i/\i<9:=fun hm=>⟨hr _ (by have:=(main _ _ hm).1;omega),(main _ _ hm).1⟩
  rcases ho i o hi with⟨rfl,rfl⟩|⟨rfl,rfl⟩|hi<;>rcases ho j o' hj with⟨rfl,rfl⟩|⟨rfl,rfl⟩|hj
  ·rfl
  ·exact absurd e hne
  ·have:=lt9 hj;rw[r30]at e;omega
  ·exact absurd e.symm hne
  ·rfl
  ·have:=lt9 hj;rw[r31]at e;omega
  ·have:=lt9 hi;rw[r30]at e;omega
  ·have:=lt9 hi;rw[r31]at e;omega
  ·have h1:=lt9 hi;have h2:=lt9 hj;omega
 ·show V.ae ρ2 _ (xTm z0 (sCf 30 v) (sAf 31 v2) z7 0 Da)=_;rw[aU,aU];refine List.ext_getElem? fun i=>?_
  rw[qk5,qk5];by_cases hi:i<fr.tm.length
  ·have hget:=Ry (z0:=z0) (cv:=sCf 30 v) (av:=sAf 31 v2) (z7:=z7) (o:=0) (l:=Da) (i:=i) (by omega);rw[qk7]at hget;rw[hget];have hti:=qq0 hi;by_cases e0:i=0
   ·subst e0;rw[hti];exact congrArg some (h0 π1 _ hti)
   by_cases e5:i=5
   ·subst e5;rw[g5];refine congrArg some ?_;show(V.xslice false 30 (.lit 0) 1 (.var v) (.room (.var v))).ab ρ2 _=_;rw[Rb,x8 s5,hv,cQ (hu _ (by omega)),r30]
   by_cases e6:i=6
   ·subst e6;rw[g6];refine congrArg some ?_;show(V.xslice false 31 (.lit 0) 4 (.var v2) (.room (.var v2))).ab ρ2 _=_;rw[Rb,x8 s6,hv2,cQ (hu _ (by omega)),r31]
   by_cases e7:i=7
   ·subst e7;rw[hti];exact congrArg some (h7 π1 _ hti)
   rw[hti];split
   ·exact absurd rfl e0
   ·exact absurd rfl e5
   ·exact absurd rfl e6
   ·exact absurd rfl e7
   ·show some ((Ai (rF p) (uO fr.tm) ρ1 π1 (40+i)).3)=some _;have hu:uO fr.tm (40+i)=some fr.tm[i]:=by
     unfold uO;rw[if_pos (by omega),show 40+i-40=i by omega,hti]
    rw[v9 hu]
  ·rw[qkj (by rw[Rz];omega),qkj (by omega)];rfl
theorem ao1{ρ1 ρ2:Env}(A:eC tF ρ1 ρ2){z:Bool}(h:abz z=true){n:Nat} (hpc:ai ρ1 (Aq z)->ai ρ2 (Aq z)):FitS n ρ1 ρ2 (vn z) ⟨Uc z,[]⟩ (vn z).st id (fun _=>none):=by
 obtain⟨h1,h2,h3,_⟩:=ar h;have hre:∀ π1,Ai id (fun _=>none) ρ1 π1=π1:=fun π1=>by
  funext i;exact cQ rfl
 refine⟨fun i o hm=>⟨rfl,o,pW h1 i o hm,rfl,fun π1 ob ho=>?_⟩,fun i j o o' _ _ e=>e,hpc,fun _ _ _=>⟨rfl,rfl⟩,fun π1=>?_,rfl,rfl⟩
 ·obtain⟨g1,_⟩:=sW h2 i o hm;have:=uG (π1:=π1) (OS A) (i:=i) (by rfl) g1 ho;rw[reN_σ0]at this;rw[hre];exact this
 ·have:=gy (π1:=π1) (OS A) _ _ h3;rw[reN_σ0]at this;rw[hre];exact this
theorem x9{ρ:Env}{s:Bool}:∀ {t:bU},vd s t=true->∃ e fr st,t.ag ρ=some (e,fr,st)/\Wi s e (ep fr) st=true
 |.ok (e,fr,st),h=>⟨e,fr,st,rfl,h⟩
 |.stuck s,h=>by cases h
 |.br c a b,h=>by
  unfold vd at h;split at h
  ·rename_i h1;simp only[R.ag];split
   ·exact x9 h1
   ·exact x9 h
  ·cases h
theorem Iz{s:Bool}{p:DC}{ρ1:Env} (hdf:p.fr.df=[]) (h:vd s (S9 p)=true):∃ e fr st,((ev Nr 4001).code none DA p.fr p.st).ag ρ1=some (e,fr,st)/\Wi s e fr st=true:=by
 unfold S9 at h;obtain⟨e,fr,st,hsel,hlf⟩:=x9 (ρ:=ρ1) h;have hrel:=(qX Nr 4001).code none DA ⟨Tm.of p.fr.tm,[]⟩ p.st;have hfr:ep ⟨Tm.of p.fr.tm,[]⟩=p.fr:=by
  unfold ep;rw[abW,<-hdf]
 rw[hfr]at hrel;refine⟨e,ep fr,st,?_,hlf⟩;rw[<-hrel,Al,hsel];rfl
def cg(ρ:Env)(i:Int)(S:RwS):Env:=
 {ρ with
  v:=fun k=>if k=100 then i else if k=60 then S.lc else if k=61 then S.la else ρ.v k
  f1:=fun t j=>if t=30 then S.fc j else if 50<=t/\t<54 then S.fa (t-50) j else ρ.f1 t j}
def yL(ρ:Env)(S:RwS):Env:=
 {ρ with
  v:=fun k=>if k=62 then S.lc else if k=63 then S.la else ρ.v k
  f1:=fun t j=>if t=70 then S.fc j else if 80<=t/\t<84 then S.fa (t-80) j else ρ.f1 t j}
theorem uP{t n f:Nat} {l:List (Nat×Nat)} (h:P5 ((t,n)::l) f=false):¬(t<=f/\f<t+n)/\P5 l f=false:=by
 unfold P5 at h;have e1:Nat.ble t f=decide (t<=f):=by
  by_cases e:t<=f
  ·rw [decide_eq_true e];exact qkq e
  ·rw [decide_eq_false e];cases hb:Nat.ble t f with
   |false=>rfl
   |true=>exact absurd (qqx hb) e
 have e2:Nat.blt f (t+n)=decide (f<t+n):=by
  by_cases e:f<t+n
  ·rw [decide_eq_true e];exact qkq e
  ·rw [decide_eq_false e];cases hb:Nat.blt f (t+n) with
   |false=>rfl
   |true=>exact absurd (qqx hb) e
 rw [e1,e2] at h;split at h
 ·split at h
  ·cases h
  ·rename_i h1;exact⟨fun h2=>of_decide_eq_false h1 h2.2,h⟩
 ·rename_i h1;exact⟨fun h2=>of_decide_eq_false h1 h2.1,h⟩
theorem ark{i:Nat}(h:dW i tF.vs=false):i≠60/\i≠61/\i≠62/\i≠63/\i≠100:=by
 refine⟨?_,?_,?_,?_,?_⟩<;>(rintro rfl;cases h)
theorem arj{f:Nat}(h:P5 tF.ts f=false):f≠30/\¬(50<=f/\f<54)/\f≠70/\¬(80<=f/\f<84):=by
 obtain⟨h1,h⟩:=uP h;obtain⟨h2,h⟩:=uP h;obtain⟨h3,h⟩:=uP h;obtain⟨h4,_⟩:=uP h;omega
theorem agQ{ρ:Env}{i:Int}{S:RwS}:eC tF ρ (cg ρ i S):=by
 refine⟨fun k h=>?_,fun f h=>?_,rfl,rfl,rfl,rfl,rfl,rfl⟩
 ·obtain⟨h1,h2,_,_,h5⟩:=ark h;show(if k=100 then i else if k=60 then S.lc else if k=61 then S.la else ρ.v k)=_;rw[if_neg h5,if_neg h1,if_neg h2]
 ·obtain⟨h1,h2,_⟩:=arj h;funext j;show(if f=30 then S.fc j else if 50<=f/\f<54 then S.fa (f-50) j else ρ.f1 f j)=_;rw[if_neg h1,if_neg h2]
theorem agE{ρ:Env}{S:RwS}:eC tF ρ (yL ρ S):=by
 refine⟨fun k h=>?_,fun f h=>?_,rfl,rfl,rfl,rfl,rfl,rfl⟩
 ·obtain⟨_,_,h1,h2,_⟩:=ark h;show(if k=62 then S.lc else if k=63 then S.la else ρ.v k)=_;rw[if_neg h1,if_neg h2]
 ·obtain⟨_,_,h1,h2⟩:=arj h;funext j;show(if f=70 then S.fc j else if 80<=f/\f<84 then S.fa (f-80) j else ρ.f1 f j)=_;rw[if_neg h1,if_neg h2]
noncomputable section
def rs0:RwS:=⟨1,1,fun _=>0,fun _ _=>0⟩
def Qm(p:DC)(ρ1:Env):RwS:=match((ev Nr 4001).code none DA p.fr p.st).ag ρ1 with
 |some (_,fr,st)=>match vj fr.tm st.h with
  |some q=>q.rs ρ1
  |none=>rs0
 |none=>rs0
def gD(z:Bool)(ρ:Env):Nat->RwS
 |0=>Qm (vn z) ρ
 |k+1=>Qm m9 (cg ρ ((k:Int)+1) (gD z ρ k))
def Be(z:Bool)(ρ:Env):RwS:=gD z ρ ((ρ.v 40).toNat-1)
def shF(z:Bool):Bool->DC
 |true=>m9
 |false=>vn z
end
structure SOk (S:RwS) (i:Int):Prop where
 lc:1<=S.lc/\S.lc<=2+i
 la:1<=S.la/\S.la<=4+4*i
theorem u5{p:DC}{ρ1:Env}{e:Ex}{fr:Fr}{st:St}{q:PR} (h:((ev Nr 4001).code none DA p.fr p.st).ag ρ1=some (e,fr,st)) (hq:vj fr.tm st.h=some q):Qm p ρ1=q.rs ρ1:=by
 unfold Qm;rw[h];dsimp only;rw[hq]
theorem uW{ρ:Env}{m:Nat}{x:X}(h:EB m x=true):1<=x.den ρ/\x.den ρ<=m:=by
 unfold EB at h;split at h
 ·rename_i n;split at h
  ·rename_i h1;have h1:=qqx h1;have h2:=qqx h;show(1:Int)<=(n:Int)/\(n:Int)<=m;omega
  ·cases h
 ·cases h
theorem atx{ρ:Env}{z:Bool} (h:(ρ.v 42==1)=z) (hb:ai ρ Ap):ai ρ (Aq z):=by
 cases z<;>exact ai.gw (by show(X.eq (.var 42) (.lit 1)).tt ρ=_;rw[bZ];exact h) hb
theorem abp{ρ:Env}{z:Bool} (h:ai ρ (Aq z)):(ρ.v 42==1)=z:=by
 cases z<;>(have:=h _ (qq1 ..);have this:(X.eq (.var 42) (.lit 1)).tt ρ=_:=this;rw[bZ]at this;exact this)
section
variable {ρ:Env} (hb:ai ρ Ap)
include hb
theorem Gq:1<=ρ.v 40/\ρ.v 40<=20:=by
 have h1:=hb (.le (.lit 1) (.var 40),true) (qq1 ..);have h2:=hb (.le (.var 40) (.lit 20),true) (qq3 _ (qq1 ..));have h1:(X.le (.lit 1) (.var 40)).tt ρ=true:=h1;have h2:(X.le (.var 40) (.lit 20)).tt ρ=true:=h2;rw[cT]at h1 h2;exact⟨of_decide_eq_true h1,of_decide_eq_true h2⟩
theorem PT{S:RwS}{i:Int}(hS:SOk S i)(hi:0<=i)(hi2:i<=ρ.v 40):ai (cg ρ i S) Zc:=by
 obtain⟨⟨a1,a2⟩,a3,a4⟩:=hS;obtain⟨_,b2⟩:=Gq hb;have L:∀ {x y:X} {r:PC},x.den (cg ρ i S)<=y.den (cg ρ i S)->ai (cg ρ i S) r->ai (cg ρ i S) ((.le x y,true)::r):=fun h hr=>ai.gw (by rw[cT];exact decide_eq_true h) hr
 have v100:(X.var 100).den (cg ρ i S)=i:=rfl;have v60:(X.var 60).den (cg ρ i S)=S.lc:=rfl;have v61:(X.var 61).den (cg ρ i S)=S.la:=rfl;have k0:((X.lit 0).den (cg ρ i S):Int)=0:=rfl;have k1:((X.lit 1).den (cg ρ i S):Int)=1:=rfl;have k22:((X.lit 22).den (cg ρ i S):Int)=22:=rfl;have k84:((X.lit 84).den (cg ρ i S):Int)=84:=rfl;refine L (by omega) (L (by omega) (L (by omega) (L (by omega) (L (by omega) fun f hf=>?_))));have:=hb f hf;rw[<-this];unfold Ap at hf;simp only[List.mem_cons,qk6,or_false]at hf;rcases hf with rfl|rfl|rfl|rfl|rfl|rfl|rfl|rfl|rfl<;>rfl
end
theorem aq0(z:Bool):vd false (S9 (vn z))=true:=by
 cases z
 ·exact aq1
 ·exact aq2
theorem shZ(z j:Bool):kL 7 (RE z) (shF z j)=true:=by
 cases z<;>cases j
 ·exact auF
 ·exact auD
 ·exact auG
 ·exact auE
theorem idZ(z:Bool):abz z=true:=by
 cases z
 ·exact atz
 ·exact atA
theorem ouZ(z:Bool):bX (Na z) m9.kn OF.pat.kn=true/\∀ j,bX (Na z) (shF z j).kn m9.kn=true:=by
 have h:(match bX (Na z) m9.kn OF.pat.kn,bX (Na z) m9.kn m9.kn,bX (Na z) (vn z).kn m9.kn with|true,true,true=>true|_,_,_=>false)=true:=by
  cases z
  ·exact ab7
  ·exact anz
 split at h
 ·rename_i h1 h2 h3;refine⟨h1,fun j=>?_⟩;cases j
  ·exact h3
  ·exact h2
 ·cases h
theorem fnZ(z:Bool):Na z<=30:=by cases z<;>decide
theorem z9{s:Bool}{e:Ex}{fr:Fr}{st:St}(h:Wi s e fr st=true):fr.df=[]/\∃ p t0 t7,vj fr.tm st.h=some p/\fr.tm[0]?=some t0/\fr.tm[7]?=some t7/\Wj p=true/\pb st RB=true/\fr.tm.length=Da.length /\
  ((e=.normal/\s=true/\t0=lF/\t7=.int .i64 ix1/\p.n=.add v60 (.lit 1)/\(p.n2=.add v61 (.lit 1)\/p.n2=.add (.add v61 (.lit 1)) (.lit 3))/\ck st.pc [(.lt (.var 100) (.var 40),true)]=true) \/
   (e=.normal/\s=false/\t0=lF/\t7=.int .i64 (.lit 1)/\EB 3 p.n=true/\EB 8 p.n2=true) \/
   (e=.exit 0/\s=true/\p.n=v60/\p.n2=v61/\p.o=oCf 30 60/\p.o2=oAf 50 61/\ck st.pc [(.lt (.var 100) (.var 40),false)]=true)):=by
 unfold Wi at h;split at h
 ·rename_i p t0 t7 hdf hp h0 h7;split at h
  ·rename_i hc;obtain⟨c1,c2,c3,_⟩:=ar hc;rw[cr]at h0 h7;refine⟨hdf,p,t0,t7,hp,h0,h7,c1,c2,qqq c3,?_⟩;split at h
   ·obtain⟨d1,d2,d3,d4,d5,_⟩:=ar h;refine .inl ⟨rfl,rfl,V.beq_eq _ _ d1,V.beq_eq _ _ d2,X.beq_eq d3,?_,d5⟩;split at d4
    ·rename_i hd;exact .inl (X.beq_eq hd)
    ·exact .inr (X.beq_eq d4)
   ·obtain⟨d1,d2,d3,d4,_⟩:=ar h;exact .inr (.inl ⟨rfl,rfl,V.beq_eq _ _ d1,V.beq_eq _ _ d2,d3,d4⟩)
   ·obtain⟨d1,d2,d3,d4,d5,_⟩:=ar h;exact .inr (.inr ⟨rfl,rfl,X.beq_eq d1,X.beq_eq d2,ak.beq_eq d3,ak.beq_eq d4,d5⟩)
   ·cases h
  ·cases h
 ·cases h
theorem VM{c:Nat}{k:IntKind} (h:zz[c]?=some (.int k)):c<4/\k4 c=.int k:=by
 refine⟨?_,by unfold k4;rw[h];rfl⟩;rcases qkz c 4 with h1|h1
 ·exact h1
 ·rw[qkj (by show 4<=c;exact h1)]at h;cases h
theorem JW{ρb ρ1:Env}(A:eC tF ρ1 ρb){fr:Fr}{st:St}{p:PR}{t0 t7:V}{i:Int}{n:Nat}(hn:n<=30)(hp:vj fr.tm st.h=some p) (h0:fr.tm[0]?=some t0) (h7:fr.tm[7]?=some t7) (hok:Wj p=true) (hfx:pb st RB=true) (hlen:fr.tm.length=Da.length) (hdf:fr.df=[]) (e0:t0=lF) (x:X) (e7:t7=.int .i64 x) (hx:x.den ρ1=i)
  (hpc:ai (cg ρb i (p.rs ρ1)) Zc):FitS n ρ1 (cg ρb i (p.rs ρ1)) m9 fr st (rF p) (uO fr.tm):=by
 have A2:=A.trans (agQ (ρ:=ρb) (i:=i) (S:=p.rs ρ1));refine ao0 A2 hp hok hfx hlen hdf (z0:=lF) (z7:=vi .i64 100) (v:=60) (v2:=61) (t:=30) (t2:=50) (m:=200) (pc:=Zc) hn rfl rfl (fun j=>rfl) (fun c k j hk=>?_) (fun π1 u hu=>?_) (fun π1 u hu=>?_) fun _=>hpc
 ·obtain⟨k1,k2⟩:=VM hk;show k.wrap (if 50+c=30 then _ else if 50<=50+c/\50+c<54 then gm ρ1 (k4 (50+c-50)) 4 (50+c-50) j p.o2 else _)=_;rw[if_neg (by omega),if_pos (by omega),show 50+c-50=c by omega,k2]
 ·rw[h0]at hu;obtain rfl:=qqz hu;subst e0;show Value.slice (some ((((cg ρb i (p.rs ρ1)).win 8)).add (0*4))) ((cg ρb i (p.rs ρ1)).v 40).toNat ((cg ρb i (p.rs ρ1)).v 41).toNat=Value.slice (some ((ρ1.win 8).add (0*4))) (ρ1.v 40).toNat (ρ1.v 41).toNat;rw[A2.win,A2.v 40 rfl,A2.v 41 rfl]
 ·rw[h7]at hu;obtain rfl:=qqz hu;subst e7;show Value.int .i64 i=Value.int .i64 (x.den ρ1);rw[hx]
theorem abl{ρb ρ1:Env}{S:RwS}{i:Int}(h1:ρ1=cg ρb i S){fr:Fr}{st:St}{p:PR}{n:Nat}(hn:n<=30)(hp:vj fr.tm st.h=some p)(hok:Wj p=true)(hfx:pb st RB=true)(hlen:fr.tm.length=Da.length) (hdf:fr.df=[]) (e1:p.n=v60) (e2:p.n2=v61) (e3:p.o=oCf 30 60) (e4:p.o2=oAf 50 61):
  FitS n ρ1 (yL ρb S) OF.pat fr st (rF p) (uO fr.tm):=by
 subst h1;have A2:eC tF (cg ρb i S) (yL ρb S):=agQ.symm.trans agE;have ha:∀ π1 j u,fr.tm[j]?=some u->(V.any (40+j)).ab (yL ρb S) (Ai (rF p) (uO fr.tm) (cg ρb i S) π1)=u.ab (cg ρb i S) π1:=fun π1 j u hu=>by
  show(Ai (rF p) (uO fr.tm) (cg ρb i S) π1 (40+j)).3=_;have:uO fr.tm (40+j)=some u:=by
   unfold uO;rw[if_pos (by omega),show 40+j-40=j by omega,hu]
  rw[v9 this]
 refine ao0 A2 hp hok hfx hlen hdf (z0:=.any 40) (z7:=.any 47) (v:=62) (v2:=63) (t:=70) (t2:=80) (m:=400) (pc:=[]) hn ?_ ?_ (fun j=>?_) (fun c k j hk=>?_) (fun π1 u hu=>ha π1 0 u hu) (fun π1 u hu=>ha π1 7 u hu) fun _ f hf=>by cases hf
 ·rw[e1];rfl
 ·rw[e2];rfl
 ·rw[e3];exact(wrap_wrap _ _).symm
 ·rw[e4];obtain⟨k1,k2⟩:=VM hk;show k.wrap (if 80+c=70 then _ else if 80<=80+c/\80+c<84 then S.fa (80+c-80) j else _)=k.wrap (k.wrap (if 50+c=30 then _ else if 50<=50+c/\50+c<54 then S.fa (50+c-50) j else _));rw[wrap_wrap,if_neg (by omega),if_pos (by omega),if_neg (by omega),if_pos (by omega),show 80+c-80=c by omega,show 50+c-50=c by omega]
theorem adf{ρ:Env}{pc:PC}{b:Bool}(hp:ai ρ pc) (h:ck pc [(.lt (.var 100) (.var 40),b)]=true):decide (ρ.v 100<ρ.v 40)=b:=by
 have:=bQ hp h _ (qq1 ..);have this:(X.lt (.var 100) (.var 40)).tt ρ=b:=this;rw [bN] at this;exact this
theorem apq{ρb:Env}(hb:ai ρb Ap)(h100:ρb.v 100=0)(hro:aZ ρb.ro){jK:Cx}(hng:jK.ng=7)(z:Bool):ij Tryz.prog jK (yL ρb (Be (ρb.v 42==1) ρb)) (RE z):=by
 by_cases hJ:ai (yL ρb (Be (ρb.v 42==1) ρb)) (Aq z)
 ·have hz:=abp hJ;have hz:(ρb.v 42==1)=z:=hz;rw[hz];obtain⟨n1,n2⟩:=Gq hb;refine Qa (ι:=Bool) (cxB:=fun _=>Nr) (N:=4001) (ng:=7) (x:=0) (O:=OF) (Is:=shF z) (fun j ρ1=>match j with
   |false=>ρ1=ρb
   |true=>∃ k:Nat,(k:Int)+1<=ρb.v 40/\ρ1=cg ρb ((k:Int)+1) (gD z ρb k)/\SOk (gD z ρb k) ((k:Int)+1)) (fun ρ1=>(ρb.v 40-ρ1.v 100).toNat)
   ?_ (fun _=>rfl) hng rfl (fun j=>shZ z j) aoA ?_ rfl rfl (fun _=>⟨false,ρb,rfl,id,fun _=>none,ao1 agE.symm (idZ z) fun _=>atx hz hb⟩) ?_
  ·intro j ρ1 hI;have hr:ρ1.ro=ρb.ro:=by
    cases j with
    |false=>rw[show ρ1=ρb from hI]
    |true=>
     obtain⟨k,_,rfl,_⟩:=hI;rfl
   have hro1:aZ ρ1.ro:=by rw[hr];exact hro
   obtain⟨h10,_⟩:=Zs hro1 ρ1 rfl Nr rfl;exact(sD bG dh dV (lX (l:=[(10,bY aj 7 sQ)]) ⟨h10,trivial⟩ rfl) 4001).1
  ·have:=fnZ z;show Na z<=400;omega
  ·intro j ρ1 hI hpc;cases j with
   |false=>
    obtain rfl:ρ1=ρb:=hI;obtain⟨e,fr,st,hsel,hlf⟩:=Iz (ρ1:=ρ1) rfl (aq0 z);refine⟨(vn z).pc,e,fr,st,hpc,hsel,fun _=>?_⟩;obtain⟨hdf,p,t0,t7,hp,h0,h7,c1,c2,c3,hcase⟩:=z9 hlf;rcases hcase with⟨_,h,_⟩|⟨rfl,_,d1,d2,d3,d4⟩|⟨_,h,_⟩
    ·cases h
    ·have hS:gD z ρ1 0=p.rs ρ1:=u5 hsel hp;have b1:=uW (ρ:=ρ1) d3;have b2:=uW (ρ:=ρ1) d4;have hO:SOk (p.rs ρ1) 1:=⟨⟨b1.1,by have:=b1.2;show p.n.den ρ1<=_;omega⟩,⟨b2.1,by have:=b2.2;show p.n2.den ρ1<=_;omega⟩⟩
     refine .inl ⟨rfl,true,cg ρ1 1 (p.rs ρ1),⟨0,by show(0:Int)+1<=_;omega,by rw[hS];rfl,by rw[hS];exact hO⟩,?_,(ouZ z).2 false,rF p,uO fr.tm,?_⟩
     ·show(ρ1.v 40-1).toNat<(ρ1.v 40-ρ1.v 100).toNat;omega
     ·exact JW ⟨fun _ _=>rfl,fun _ _=>rfl,rfl,rfl,rfl,rfl,rfl,rfl⟩ (fnZ z) hp h0 h7 c1 c2 c3 hdf d1 _ d2 rfl (PT hb hO (by omega) (by omega))
    ·cases h
   |true=>
    obtain⟨k,hk,rfl,hO⟩:=hI;obtain⟨e,fr,st,hsel,hlf⟩:=Iz (ρ1:=cg ρb ((k:Int)+1) (gD z ρb k)) rfl aqZ;refine⟨m9.pc,e,fr,st,hpc,hsel,fun hp2=>?_⟩;obtain⟨hdf,p,t0,t7,hp,h0,h7,c1,c2,c3,hcase⟩:=z9 hlf;rcases hcase with⟨rfl,_,d1,d2,d3,d4,d5⟩|⟨_,h,_⟩|⟨rfl,_,d1,d2,d3,d4,d5⟩
    ·have hlt:(k:Int)+1<ρb.v 40:=of_decide_eq_true (adf hp2 d5);have hS:gD z ρb (k+1)=p.rs (cg ρb ((k:Int)+1) (gD z ρb k)):=u5 hsel hp;have b1:p.n.den (cg ρb ((k:Int)+1) (gD z ρb k))=(gD z ρb k).lc+1:=by rw[d3];rfl
     have b2:p.n2.den (cg ρb ((k:Int)+1) (gD z ρb k))=(gD z ρb k).la+1\/p.n2.den (cg ρb ((k:Int)+1) (gD z ρb k))=(gD z ρb k).la+1+3:=by
      rcases d4 with d4|d4
      ·exact .inl (by rw[d4];rfl)
      ·exact .inr (by rw[d4];rfl)
     obtain⟨⟨o1,o2⟩,o3,o4⟩:=hO;have hO2:SOk (p.rs (cg ρb ((k:Int)+1) (gD z ρb k))) ((k:Int)+2):=⟨by show 1<=p.n.den _/\p.n.den _<=_;omega,by show 1<=p.n2.den _/\p.n2.den _<=_;omega⟩
     have ek:(((k+1:Nat):Int))+1=(k:Int)+2:=by omega
     refine .inl ⟨rfl,true,cg ρb ((k:Int)+2) (p.rs (cg ρb ((k:Int)+1) (gD z ρb k))),⟨k+1,by omega,by rw[hS,ek],by rw[hS,ek];exact hO2⟩,?_,(ouZ z).2 true,rF p,uO fr.tm,?_⟩
     ·show(ρb.v 40-((k:Int)+2)).toNat<(ρb.v 40-((k:Int)+1)).toNat;omega
     ·exact JW agQ.symm (fnZ z) hp h0 h7 c1 c2 c3 hdf d1 _ d2 (by show(k:Int)+1+1=_;omega) (PT hb hO2 (by omega) (by omega))
    ·cases h
    ·have hlt:¬(k:Int)+1<ρb.v 40:=of_decide_eq_false (adf hp2 d5);refine .inr ⟨rfl,(ouZ z).1,rF p,uO fr.tm,?_⟩;have e:Be z ρb=gD z ρb k:=by
      unfold Be;rw[show(ρb.v 40).toNat-1=k by omega]
     rw[e];exact abl rfl (fnZ z) hp c1 c2 c3 hdf d1 d2 d3 d4
 ·intro res hres S π0 w a ro n hh;exact absurd hh.pc hJ
theorem abf{ρb:Env}(hb:ai ρb Ap)(z:Bool):SOk (Be z ρb) (ρb.v 40):=by
 obtain⟨n1,n2⟩:=Gq hb;have key:∀ k:Nat,(k:Int)+1<=ρb.v 40->SOk (gD z ρb k) ((k:Int)+1):=by
  intro k;induction k with
  |zero=>
   intro _;obtain⟨e,fr,st,hsel,hlf⟩:=Iz (ρ1:=ρb) rfl (aq0 z);obtain⟨hdf,p,t0,t7,hp,h0,h7,c1,c2,c3,hcase⟩:=z9 hlf;rcases hcase with⟨_,h,_⟩|⟨rfl,_,d1,d2,d3,d4⟩|⟨_,h,_⟩
   ·cases h
   ·have hS:gD z ρb 0=p.rs ρb:=u5 hsel hp;have b1:=uW (ρ:=ρb) d3;have b2:=uW (ρ:=ρb) d4;rw[hS];exact⟨⟨b1.1,by have:=b1.2;show p.n.den ρb<=_;omega⟩,⟨b2.1,by have:=b2.2;show p.n2.den ρb<=_;omega⟩⟩
   ·cases h
  |succ k ih=>
   intro hk;have hO:=ih (by omega);obtain⟨e,fr,st,hsel,hlf⟩:=Iz (ρ1:=cg ρb ((k:Int)+1) (gD z ρb k)) rfl aqZ;obtain⟨hdf,p,t0,t7,hp,h0,h7,c1,c2,c3,hcase⟩:=z9 hlf;have hS:gD z ρb (k+1)=p.rs (cg ρb ((k:Int)+1) (gD z ρb k)):=u5 hsel hp;rw[hS];obtain⟨⟨o1,o2⟩,o3,o4⟩:=hO;have fin:(p.n.den (cg ρb ((k:Int)+1) (gD z ρb k))=(gD z ρb k).lc+1\/p.n.den (cg ρb ((k:Int)+1) (gD z ρb k))=(gD z ρb k).lc)/\(p.n2.den (cg ρb ((k:Int)+1) (gD z ρb k))=(gD z ρb k).la\/p.n2.den (cg ρb ((k:Int)+1) (gD z ρb k))=(gD z ρb k).la+1\/p.n2.den (cg ρb ((k:Int)+1) (gD z ρb k))=(gD z ρb k).la+1+3):=by
    rcases hcase with⟨_,_,_,_,d3,d4,_⟩|⟨_,h,_⟩|⟨_,_,d1,d2,_⟩
    ·rw[d3];refine⟨.inl rfl,?_⟩;rcases d4 with d4|d4
     ·exact .inr (.inl (by rw[d4];rfl))
     ·exact .inr (.inr (by rw[d4];rfl))
    ·cases h
    ·rw[d1,d2];exact⟨.inr rfl,.inl rfl⟩
   exact⟨by show 1<=p.n.den _/\p.n.den _<=_;omega,by show 1<=p.n2.den _/\p.n2.den _<=_;omega⟩
 have:=key ((ρb.v 40).toNat-1) (by omega);rw[show(((ρb.v 40).toNat-1:Nat):Int)+1=ρb.v 40 by omega]at this;exact this
noncomputable section
def acx(args:List V)(st:St):R (V×St):=match args with
 |[.int .i64 (.lit (.ofNat 0)),.agg [cv,z16,z1,z2],av]=>match Qt 1 cv,Qt 4 av with
  |some (b,n),some (b2,n2)=>match st.h.get b,st.h.get b2 with
   |some o,some o2=>match bc (vc ku 38 n o) (vc zz 64 n2 o2) (match Nat.beq b b2 with|true=>false|false=>true) (ck st.pc [(.le (.lit 1) n,true),(.le n (.lit 60),true),(.le (.lit 0) n2,true)]) (V.cM [z16,z1,z2] [i64 (.lit 16),i64 (.lit 1),i64 (.lit 1)]) true with
    |true=>.ok (.bool (.lit 1),{st with h:=st.h.set b (.opt (.lit 0) [] 38),n:=st.n+bm})
    |false=>.stuck "play"
   |_,_=>.stuck "play: rows"
  |_,_=>.stuck "play: parts"
 |_=>.stuck "play"
def cxW:Cx:={cx with dm:=RX,sx:=true,js:=true,lp:=some (Kt [RE true,RE false]),sm:=tW [(4,sG acx),(10,bY aj 7 sQ)]}
def fV(j:Nat):V×PC×List (Nat×ak):=match j with
 |0=>(.nilslice,[],[])
 |1=>(.xslice true 8 (.lit 0) 4 (.lit 0) (.known (.var 41)),[(.le (.lit 0) (.var 41),true)],[])
 |2=>(lF,[(.le (.lit 1) (.var 40),true),(.le (.var 40) (.lit 20),true),(.le (.var 40) (.var 41),true),(.le (.lit 1) (.var 62),true),(.le (.var 62) (.lit 22),true),(.le (.lit 1) (.var 63),true),(.le (.var 63) (.lit 84),true)],[(8,.warr 8 10 zz (.var 40))])
 |_=>(lF,[(.lt (.lit 20) (.var 40),true),(.le (.var 40) (.var 41),true)],[(8,.warr 8 10 zz (.var 40))])
def mrF:PC:=[(.le (.lit 0) (.lit 7),true),(.le (.lit 0) (.lit 8),true)]
def okF(j:Nat):Bool:=kq ((PL cxW 4000).call 5 [(fV j).1,.bool (.eq (.var 42) (.lit 1))] (IQ aj (fV j).2.2 10 ((fV j).2.1++mrF)))
end
theorem aq5:okF 0=true:=by kernel_rfl
theorem aq6:okF 1=true:=by kernel_rfl
theorem aq7:okF 2=true:=by kernel_rfl
theorem aq8:okF 3=true:=by kernel_rfl
open Go.ChangeShapes Go.WideShapes Go.ChangeAt Go.RowKit
theorem Cg{ρ:Env}{π:Pl}{w:Nat}{v:V}{b:Nat}{n:X} (h:Qt w v=some (b,n)):∃ cap,v.ab ρ π=.slice (some ⟨(π b).1,0,none⟩) (n.den ρ).toNat cap/\(n.den ρ).toNat<=cap:=by
 unfold Qt at h;split at h
 ·rename_i m;split at h
  ·rename_i h1;obtain⟨rfl,rfl⟩:=qk9 (qqz h);exact⟨m,rfl,qqx h1⟩
  ·cases h
 ·exact⟨_,x8 h,Nat.le_max_right _ _⟩
section
variable {c:Cx} {ρ:Env} (hchk:∀ j k r,j<15→k<9→r<2→ao (aN j) k r=true) (hro:aZ ρ.ro)
include hchk hro
theorem OK(hng:c.ng=7):lq c ρ 4 acx:=by
 intro args st v st' hs hthere S π0 w ac nn hh ha;unfold acx at hs;split at hs;rotate_left
 ·simp[R.ag]at hs
 rename_i cv z16 z1 z2 av;split at hs;rotate_left
 ·simp[R.ag]at hs
 rename_i b n b2 n2 hc1 hc2;split at hs;rotate_left
 ·simp[R.ag]at hs
 rename_i o o2 hb hb2;split at hs;rotate_left
 ·simp[R.ag]at hs
 rename_i hck;obtain⟨k1,k2,k3,k4',k5,_⟩:=ar hck;have k5:=V.aR _ _ k5;injection k5 with e1 k5;injection k5 with e2 k5;injection k5 with e3 _;subst e1 e2 e3;simp only[R.ag,qqk,qqv]at hs;obtain⟨rfl,rfl⟩:=hs;have hne:b2≠b:=by
  intro e;rw[e,qz6]at k3;cases k3
 have f1:=bQ hh.pc k4' (.le (.lit 1) n,true) (qq1 ..);have f2:=bQ hh.pc k4' (.le n (.lit 60),true) (by simp);have f3:=bQ hh.pc k4' (.le (.lit 0) n2,true) (by simp);have f1:(X.le (.lit 1) n).tt ρ=true:=f1;have f2:(X.le n (.lit 60)).tt ρ=true:=f2;have f3:(X.le (.lit 0) n2).tt ρ=true:=f3;rw[cT]at f1 f2 f3;have f1:(1:Int)<=n.den ρ:=of_decide_eq_true f1;have f2:n.den ρ<=(60:Int):=of_decide_eq_true f2;have f3:(0:Int)<=n2.den ρ:=of_decide_eq_true f3;obtain⟨cv1,hv1,le1⟩:=Cg (ρ:=ρ) (π:=π0) hc1;obtain⟨cv2,hv2,le2⟩:=Cg (ρ:=ρ) (π:=π0) hc2;have hcode:FB ρ π0 w b (n.den ρ).toNat o (fun j=>gm ρ (.int .u32) 1 0 j o):=by
  refine⟨tO k1,fun ob _ ho=>?_⟩;obtain⟨cs,g1,g2,_,g3⟩:=Cf k1 ho;refine⟨cs,g1,by have g2:_*1<=_:=g2;omega,fun j hj=>?_⟩;obtain⟨g4,g5⟩:=g3 j 0 .u32 hj rfl;have g4:cs[j*1+0]?=some (.int .u32 (gm ρ (.int .u32) 1 0 j o)):=g4;have g5:IntKind.u32.wrap (gm ρ (.int .u32) 1 0 j o)=gm ρ (.int .u32) 1 0 j o:=g5;rw[g5,<-g4,show j*1+0=j by omega]
 obtain⟨ob,o1,o3⟩:=(hh.at_.rep π0 fun _ _=>rfl).obj b2 _ hb2;have hrow:ach ρ π0 w b2 o2 ⟨(π0 b2).1,0,none⟩ (n2.den ρ).toNat (fun c j=>gm ρ (k4 c) 4 c j o2):=by
  refine⟨rfl,rfl,fun ob _ ho=>?_⟩;obtain⟨cs,g1,_,_,g3⟩:=Cf k2 ho;refine⟨cs.toArray,64,(0,0),g1,fun j c k hj hk=>?_⟩;obtain⟨g4,g5⟩:=g3 j c k hj hk;have g4:cs[j*4+c]?=some (.int k (gm ρ (.int k) 4 c j o2)):=g4;have g5:k.wrap (gm ρ (.int k) 4 c j o2)=gm ρ (.int k) 4 c j o2:=g5;show cs.toArray[0+(j*4+c)]?=some (.int k (k.wrap (gm ρ (k4 c) 4 c j o2)));rw[(VM hk).2,g5,List.getElem?_toArray,qk7];exact g4
 have key:∀ z:Nat,z<2->(z=0->(n2.den ρ).toNat<=80)->(z≠0->80<(n2.den ρ).toNat)->CallsIn Fence.wide nn Tryz.prog 4 ac.toArray w (EPost ρ S π0 st w (.ret (.bool (.lit 1)),{h:=st.h.set b (.opt (.lit 0) [] 38),n:=st.n+bm,pc:=st.pc})):=by
  intro z hz z1 z2;refine vo (n:=(n.den ρ).toNat) (cv:=cv1) (id:=0) (fc:=fun j=>gm ρ (.int .u32) 1 0 j o) (m:=(n2.den ρ).toNat) (cv2:=cv2) (fa:=fun c j=>gm ρ (k4 c) 4 c j o2) (ob2:=ob) (ad:=⟨(π0 b2).1,0,none⟩) (z:=z) (b2:=b2) hchk hng hro (by omega) hthere hh ha ⟨by omega,by omega⟩ le1 ⟨by omega,by omega⟩ hb hcode (fun _=>⟨le2,z1,z2⟩) (fun _=>⟨hne,o2,hb2,hrow,ob,o1,o3,rfl⟩) ?_;have ez:(OE z).args=[i64 (.var 42),.agg [Dd,i64 (.lit 16),i64 (.lit 1),i64 (.lit 1)],.xslice true 9 (.lit 0) 4 (.var 50) (.known (.var 51))]:=by
   match z,hz with
   |0,_=>rfl
   |1,_=>rfl
  rw[ez];show[Value.int .i64 0,.agg #[cv.ab ρ π0,.int .i64 16,.int .i64 1,.int .i64 1],av.ab ρ π0]=[Value.int .i64 0,.agg #[.slice (some ⟨(π0 b).1,0*1,none⟩) (((n.den ρ).toNat:Nat):Int).toNat ((cv1:Nat):Int).toNat,.int .i64 16,.int .i64 1,.int .i64 1],.slice (some ((⟨(π0 b2).1,0,none⟩:Addr).add (0*4))) (((n2.den ρ).toNat:Nat):Int).toNat ((cv2:Nat):Int).toNat];rw[hv1,hv2,qkw,qkw,qkw,qkw];rfl
 by_cases hM:(n2.den ρ).toNat<=80
 ·exact key 0 (by omega) (fun _=>hM) (fun h=>absurd rfl h)
 ·exact key 1 (by omega) (fun h=>by omega) (fun _=>by omega)
theorem atr (hlp:∀ z,ij Tryz.prog cxW ρ (RE z)):SumOk Tryz.prog cxW ρ:=by
 obtain⟨h10,_⟩:=Zs hro ρ rfl {cxW with lp:=none} rfl;have h:SumOk Tryz.prog {cxW with lp:=none} ρ:=lX (l:=[(4,sG acx),(10,bY aj 7 sQ)]) ⟨(OK hchk hro rfl).at,h10,trivial⟩ rfl;refine⟨fun f s hs args st v st' he S π0 w ac n hh ha=>h.sum f s hs args st v st' he S π0 w ac n ⟨hh.pc,hh.at_,hh.glob,hh.fresh⟩ ha,fun g s hg=>PD rfl g s hg,fun lp hlp'=>?_⟩;obtain rfl:=qqz (show some (Kt [RE true,RE false])=some lp from hlp');exact GP fun L' hL=>by
  rcases List.mem_cons.1 hL with rfl|hL
  ·exact hlp true
  ·obtain rfl:=qq4.1 hL;exact hlp false
end
theorem FG(a:Addr):a.add 0=a:=by simp[Addr.add]
structure FwK where
 W:World
 ga:Nat->Int->Int
 na:Int
 ca:Int
 aa:Addr
 th:Int
def FwK.ro(d:FwK)(i:Nat):Obj:=if i=8 then Aj d.W d.aa.block else Aj d.W i
def FwK.env(d:FwK):Env:=
 {b:=fun _=>false
  v:=fun i=>if i=40 then d.na else if i=41 then d.ca else if i=42 then d.th else if i=62 then 1 else if i=63 then 1 else 0
  f1:=fun i=>if 10<=i/\i<14 then d.ga (i-10)else fun _=>0
  f2:=fun _ _ _=>0
  s:=fun _=>[],sf:=fun _ _=>[]
  ro:=d.ro
  win:=fun _=>d.aa}
def FIn(W:World)(v:Value)(g:Nat->Int->Int)(n c:Int)(a:Addr)(j:Nat):Prop:=(j=0/\v=.slice none 0 0/\n=0)\/(j=1/\v=.slice (some a) 0 c.toNat/\0<=c/\n=0)\/(j=2/\v=.slice (some a) n.toNat c.toNat/\1<=n/\n<=20/\n<=c/\iV W zz a n.toNat g)\/(j=3/\v=.slice (some a) n.toNat c.toNat/\20<n/\n<=c/\iV W zz a n.toNat g)
section
variable {H:Type} {enc:TypeId×Value→H} {W:World} {v:Value} {d0:DataW H} {p:List MemPlace} {base b0:Nat} {sp:Nat→Bool} {held:Bool} {r:Reach}
theorem amS(hval:Value.okWide Tryz.prog W r b0 25 v)(h0:DataW.Trod enc Tryz.prog W base sp held 25 v d0 p):∃ g n c a j,FIn W v g n c a j:=by
 obtain⟨ad,ln,cp,rfl⟩:=okWide_slice Tryz.underlying25 hval;obtain⟨fuel,hf⟩:=h0;rcases open_row (n:=3) (ks:=zz) Tryz.underlying25 (by kernel_rfl) (by kernel_rfl) hf with hcs|⟨a,len,cap,zs,hcs,_,hle,_,hz⟩
 ·simp[Value.cells]at hcs;obtain⟨rfl,rfl,rfl⟩:=hcs;exact⟨fun _ _=>0,0,0,⟨0,0,none⟩,0,.inl ⟨rfl,rfl,rfl⟩⟩
 ·simp[Value.cells]at hcs;obtain⟨rfl,rfl,rfl⟩:=hcs;by_cases hl0:ln=0
  ·subst hl0;exact⟨fun _ _=>0,0,cp,a,1,.inr (.inl ⟨rfl,rfl,by omega,rfl⟩)⟩
  ·have hc:=wR (by omega) (by decide) hz;by_cases hbig:20<ln
   ·exact⟨_,ln,cp,a,3,.inr (.inr (.inr ⟨rfl,rfl,by omega,by omega,hc⟩))⟩
   ·exact⟨_,ln,cp,a,2,.inr (.inr (.inl ⟨rfl,rfl,by omega,by omega,by omega,hc⟩))⟩
end
theorem acv{W:World}(h:laidMetH Tryz.prog Rows.coreForwardsRow.laid W){ρ:Env}(h0:ρ.ro 0=Aj W 0):RoAt ρ aj/\∀ x∈aj,W.heap[x.1]?=some (ρ.ro x.1):=by
 obtain⟨t,fr,h1⟩:=Qq h;have e:ρ.ro 0=.cells ((n3 256).map (.int .u8)).toArray t fr:=by rw[h0];simp only[Aj,h1,Option.getD_some]
 refine⟨⟨fun x hx=>?_⟩,fun x hx=>?_⟩<;>(simp only[aj,qq4]at hx;subst hx)
 ·exact⟨t,fr,fun π=>by rw[e,dp]⟩
 ·rw[e];exact h1
theorem Xc{ρ:Env}(h:RoAt ρ aj):aZ ρ.ro:=fun ρ' hr=>⟨fun x hx=>by
 simp only[aj,qq4]at hx;subst hx;obtain⟨t,fr,h2⟩:=h.is _ (qq4.2 rfl);exact⟨t,fr,fun π=>by rw[hr,h2 π,dp,dp]⟩⟩
theorem aq9{j:Nat}(h:j<4):okF j=true:=by
 match j,h with
 |0,_=>exact aq5
 |1,_=>exact aq6
 |2,_=>exact aq7
 |3,_=>exact aq8
theorem zM{ρ:Env}{x y:X}(h:x.den ρ<=y.den ρ):(X.le x y).tt ρ=true:=by rw[cT];exact decide_eq_true h
theorem Vn (hchk:∀ j k r,j<15->k<9->r<2->ao (aN j) k r=true) {H:Type} {enc:TypeId×Value->H} {W:World} (h:laidMetH Tryz.prog Rows.coreForwardsRow.laid W) {v0 v1:Value} {d0 d1:DataW H} {p0 p1:List MemPlace} {b0 b1:Nat}
  (hv0:Value.okWide Tryz.prog W .any b0 25 v0) (hv1:Value.okWide Tryz.prog W .any b1 4 v1)
  (h0:DataW.Trod enc Tryz.prog W 0 (fun _=>true) true 25 v0 d0 p0) (_:DataW.Trod enc Tryz.prog W 0 (fun _=>true) true 4 v1 d1 p1):
  Calls Tryz.prog 5 #[v0,v1] W fun e W'=>e=.returned (.bool true)/\Below W.heap.size W W':=by
 obtain⟨ga,na,ca,aa,j,hA⟩:=amS hv0 h0;obtain⟨th,rfl⟩:=okWide_bool (by kernel_rfl) hv1;let d:FwK:=⟨W,ga,na,ca,aa,if th then 1 else 0⟩
 have hj:j<4:=by rcases hA with h|h|h|h<;>omega
 -- the rows behind the loop; where there is no loop, any
 let S:RwS:=if j=2 then Be (d.env.v 42==1) d.env else rs0
 let ρ:Env:=yL d.env S;obtain⟨hro,hW⟩:=acv h (ρ:=ρ) rfl;have hroA:aZ ρ.ro:=Xc hro;have hP:j=2->ai d.env Ap:=by
  intro e;rcases hA with h|h|⟨_,_,h1,h2,h3,_⟩|h
  ·omega
  ·omega
  ·exact ai.gw (zM h1) (ai.gw (zM h2) (ai.gw (zM h3) (ai.gw rfl (ai.gw rfl (ai.gw rfl (ai.gw rfl (ai.gw rfl (ai.gw rfl ai.eL))))))))
  ·omega
 have hlp:∀ z,ij Tryz.prog cxW ρ (RE z):=by
  intro z;by_cases e:j=2
  ·have:S=Be (d.env.v 42==1) d.env:=if_pos e;show ij Tryz.prog cxW (yL d.env S) (RE z);rw[this];exact apq (hP e) rfl hroA rfl z
  ·intro res hres S' π0 w a ro n hh;exfalso;have hpc:=hh.pc;have hpc:ai ρ (Aq z):=hpc;have g1:(X.le (.lit 1) (.var 40)).tt ρ=true:=hpc (.le (.lit 1) (.var 40),true) (by cases z<;>simp[Aq,aju,ajv,Ap]);have g2:(X.le (.var 40) (.lit 20)).tt ρ=true:=hpc (.le (.var 40) (.lit 20),true) (by cases z<;>simp[Aq,aju,ajv,Ap]);rw[cT]at g1 g2;have g1:(1:Int)<=na:=of_decide_eq_true g1;have g2:na<=(20:Int):=of_decide_eq_true g2;rcases hA with⟨_,_,h⟩|⟨_,_,_,h⟩|⟨h,_⟩|⟨_,_,h,_⟩<;>omega
 have hcam:∀ {n:Nat},iV W zz aa n ga->W.heap[aa.block]?=some (Aj W aa.block)/\((na.toNat<=n)->∀ π:Pl,(π 8).1=aa.block->(ak.warr 8 10 zz (.var 40)).is ρ π 8 (Aj W aa.block)):=fun hcame=>⟨hcame.block,fun hle π hπ=>hcame.is (t:=10) rfl rfl (fun c hc=>by
  match c,hc with
  |0,_=>rfl
  |1,_=>rfl
  |2,_=>rfl
  |3,_=>rfl) hle hπ⟩
 have A:(∀ π,(fV j).1.ab ρ π=v0)/\ai ρ (fV j).2.1/\∀ x∈(fV j).2.2,x.1=8/\x.2.bg=true/\W.heap[aa.block]?=some (Aj W aa.block)/\∀ π:Pl,(π 8).1=aa.block->x.2.is ρ π 8 (Aj W aa.block):=by
  rcases hA with⟨rfl,rfl,_⟩|⟨rfl,rfl,hc,_⟩|⟨rfl,rfl,hn1,hn,hc,hcame⟩|⟨rfl,rfl,hn,hc,hcame⟩
  ·exact⟨fun _=>rfl,ai.eL,fun x hx=>by cases hx⟩
  ·refine⟨fun π=>?_,ai.gw (zM hc) ai.eL,fun x hx=>by cases hx⟩;show Value.slice (some (aa.add 0)) 0 ca.toNat=_;rw[FG]
  ·obtain⟨⟨o1,o2⟩,o3,o4⟩:=abf (hP rfl) (d.env.v 42==1);have o2:(Be (d.env.v 42==1) d.env).lc<=2+na:=o2;have o4:(Be (d.env.v 42==1) d.env).la<=4+4*na:=o4;refine⟨fun π=>?_,ai.gw (zM hn1) (ai.gw (zM hn) (ai.gw (zM hc) (ai.gw (zM o1) (ai.gw (zM (by show(Be (d.env.v 42==1) d.env).lc<=(22:Int);omega)) (ai.gw (zM o3) (ai.gw (zM (by show(Be (d.env.v 42==1) d.env).la<=(84:Int);omega)) ai.eL)))))),fun x hx=>?_⟩
   ·show Value.slice (some (aa.add 0)) na.toNat ca.toNat=_;rw[FG]
   ·obtain rfl:=qq4.1 hx;obtain⟨g1,g2⟩:=hcam hcame;exact⟨rfl,rfl,g1,g2 (qq2 _)⟩
  ·refine⟨fun π=>?_,ai.gw (by show(X.lt (.lit 20) (.var 40)).tt ρ=true;rw[bN];exact decide_eq_true hn) (ai.gw (zM hc) ai.eL),fun x hx=>?_⟩
   ·show Value.slice (some (aa.add 0)) na.toNat ca.toNat=_;rw[FG]
   ·obtain rfl:=qq4.1 hx;obtain⟨g1,g2⟩:=hcam hcame;exact⟨rfl,rfl,g1,g2 (qq2 _)⟩
 obtain⟨A1,A2,A3⟩:=A;have hrows:RowsAt ρ W (fV j).2.2 7 10:=by
  refine⟨fun x hx=>?_,by decide,fun x hx=>?_,fun x hx=>(A3 x hx).2.1,fun x hx π hπ=>?_⟩
  ·rw[(A3 x hx).1];decide
  ·obtain⟨e,_,e2,_⟩:=A3 x hx;rw[e];exact e2
  ·obtain⟨e,_,_,e2⟩:=A3 x hx;rw[e]at hπ ⊢;exact e2 π hπ
 have hpc:ai ρ ((fV j).2.1++mrF):=ai.app A2 (ai.gw rfl (ai.gw rfl ai.eL));have ha:bz ρ (fun i=>i<10) (πRows ρ 7) [(fV j).1,.bool (.eq (.var 42) (.lit 1))] [v0,.bool th]:=by
  intro π _;show[(fV j).1.ab ρ π,.bool ((X.eq (.var 42) (.lit 1)).tt ρ)]=_;rw[A1,bZ];cases th<;>rfl
 have hrun:=aq9 hj;unfold okF at hrun;exact Kl (cx:=cxW) (L:=aj) (ng:=7) (nm:=10) (ρ:=ρ) (N:=4000) bG dh dV (atr hchk hroA hlp) Tryz.func5 rfl dS hro hW hrows hpc (by rw[cj];exact hrun) ha
end Go.Proofs.YtgcbnjpeifigaaaGreatDoor
