/- CorePlay's loop over acts: a round's state; what is told in a round, by it. CorePlay's loop over acts: a state whose parts are looked at is what a shape says, with the variables of the next round. CorePlay's loop over acts: a state whose parts are looked at is what a shape says (the whole). No condition. -/
import Derived.Test.YtgcbnjpeifigaaaGreatDoorJBo
import Derived.Test.YtgcbnjpeifigaaaGreatDoorJLp
import Derived.Test.YtgcbnjpeifigaaaGreatDoorJSi
namespace Go.Proofs.YtgcbnjpeifigaaaGreatDoor
open Go Go.Proofs
structure KS where
 n:Nat
 ix:Int
 hx:Nat->Int
 fx:Int
 rf:Int
 ax:Int
 wf:Int
 wx:Int
 gf:Int
 gl:Nat->Int
 rg:Nat->Int
 sx:Nat->Int
 lx:Nat->Int
 bk:Nat->Int
def po(sx:Nat->Int)(a w:Int):Nat->Int×Int
 |0=>(0,0)
 |k+1=>if sx (3*k)<a+w then(if a<sx (3*k)+sx (3*k+1)then(if a<sx (3*k)then(0,2)else if sx (3*k)+sx (3*k+1)<a+w then(0,2)else(sx (3*k+2) / 256 ^ (a-sx (3*k)).toNat % 256 ^ w.toNat,1))else po sx a w k)else po sx a w k
def MW(fx:Int)(sx:Nat->Int)(a w:Int):Nat->Int
 |0=>-1
 |k+1=>if sx (3*k)<a+w/\a<sx (3*k)+sx (3*k+1)then IntKind.i64.wrap (fx+k)else MW fx sx a w k
def Q2(b:Nat->Int)(o:Nat):Nat->Int
 |0=>0
 |w+1=>b o+256*Q2 b (o+1) w
def nd(rg:Nat->Int)(n:Nat)(a w v:Int)(i:Nat):Int:=if i=12 then rg 12 else if i / 3=((rg 12).toNat+n) % 4 then(if i % 3=0 then a else if i % 3=1 then w else v)else rg i
def qv(rg:Nat->Int)(i:Nat):Int:=if i=12 then(rg 12+1) % 4 else if i / 3=(rg 12).toNat then 0 else rg i
noncomputable section
variable (ρ0:Env) (S:KS)
def KS.hw:HW:=⟨ρ0.ro,⟨ρ0.v 42,S.hx 0,(List.range 32).map fun i=>S.hx (i+1),S.hx 33⟩,(IntKind.u32.wrap (ρ0.f1 10 (IntKind.u32.wrap ((S.hx 0).tdiv 4)))).toNat⟩
def KS.acc:Acc:=YtgcbnjpeifigaaaGreatDoor.acc (S.hw ρ0)
def KS.byte(i:Nat):Int:=S.lx (1+i)
def KS.has:Int:=Q2 S.byte (S.acc ρ0).ad.toNat (S.acc ρ0).w % 4294967296
def KS.fwd:Int×Int:=po S.sx (S.acc ρ0).ad (S.acc ρ0).w S.n
def KS.var(i:Nat):Int:=
 if i<100 then ρ0.v i else if i=100 then S.ix else if i<=134 then S.hx (i-101)else if i=140 then S.ax else if i=150 then S.fx else if i<=176 then S.lx (i-160)else if i=180 then S.wx
 else if i<=197 then S.gl (i-181)else if i<=212 then S.rg (i-200)else if i=230 then(S.fwd ρ0).1 else if i=231 then(S.fwd ρ0).2 else if i=232 then MW S.fx S.sx (S.acc ρ0).ad (S.acc ρ0).w S.n else if i=233 then S.has ρ0
 else if i=240 then S.rf else if i=241 then S.wf else if i=242 then S.gf else if i<=411 then S.sx (i-400)else if i<=512 then nd S.rg S.n (S.acc ρ0).ad (S.acc ρ0).w (S.acc ρ0).v (i-500)else if i<=542 then qv S.rg (i-530)
 else if i<=637 then S.bk (i-621)else if i<700 then 0 else ρ0.v i
def De(q:gM×M9)(i:Nat):Int:=if i<=34 then q.1.cell i else q.2.cell (i-35)
def KS.Dy(f i:Nat):Int:=
 if f=301 then(if i<=6 then(S.acc ρ0).cell i else(wI (S.hw ρ0)).2)else if f=302 then(if i=0 then(zt (S.hw ρ0) (S.has ρ0)).1 else(zt (S.hw ρ0) (S.has ρ0)).2)
 else if f=310 then De (se (S.hw ρ0) 0 false) i else if f=311 then De (se (S.hw ρ0) (S.fwd ρ0).1 false) i else if f=312 then De (se (S.hw ρ0) (S.has ρ0) false) i else De (se (S.hw ρ0) 0 true) i
def af:Env:={ρ0 with v:=S.var ρ0,f1:=fun f j=>if 300<=f/\f<316 then S.Dy ρ0 f j.toNat else ρ0.f1 f j}
end
def tK:Tch:=⟨Dl 100 600 [],[(300,16)]⟩
theorem EE{i:Nat}:∀ {n o:Nat},dW i (Dl o n [])=false->i<o\/o+n<=i
 |0,o,_=>by omega
 |n+1,o,h=>by
  unfold Dl dW at h;simp only[Bool.or_eq_false_iff]at h;have h1:i≠o:=fun e=>by
   subst e;rw[qz6]at h;cases h.1
  rcases EE h.2 with h2|h2<;>omega
theorem qe(ρ0:Env)(S:KS):eC tK ρ0 (af ρ0 S):=by
 refine⟨fun i h=>?_,fun f h=>?_,rfl,rfl,rfl,rfl,rfl,rfl⟩
 ·show S.var ρ0 i=ρ0.v i;unfold KS.var;rcases EE h with h|h
  ·rw[if_pos h]
  ·repeat rw[if_neg (by omega)]
 ·funext j;show(if 300<=f/\f<316 then _ else _)=_;rw[if_neg];intro⟨h1,h2⟩;simp only[tK,P5,show Nat.ble 300 f=true from qkq h1,show Nat.blt f (300+16)=true from qkq h2]at h;cases h
section
variable (ρ0:Env) (S:KS)
theorem VO{i:Nat}(h:i<34):(af ρ0 S).v (101+i)=S.hx i:=by
 show S.var ρ0 (101+i)=_;unfold KS.var;rw[if_neg (by omega),if_neg (by omega),if_pos (by omega),qq8]
theorem abG{i:Nat}(h:i<17):(af ρ0 S).v (160+i)=S.lx i:=by
 show S.var ρ0 (160+i)=_;unfold KS.var
 iterate 5 rw[if_neg (by omega)]
 rw[if_pos (by omega),qq8]
theorem atX{i:Nat}(h:i<17):(af ρ0 S).v (181+i)=S.gl i:=by
 show S.var ρ0 (181+i)=_;unfold KS.var
 iterate 7 rw[if_neg (by omega)]
 rw[if_pos (by omega),qq8]
theorem zA{i:Nat}(h:i<13):(af ρ0 S).v (200+i)=S.rg i:=by
 show S.var ρ0 (200+i)=_;unfold KS.var
 iterate 8 rw[if_neg (by omega)]
 rw[if_pos (by omega),qq8]
theorem zC{i:Nat}(h:i<12):(af ρ0 S).v (400+i)=S.sx i:=by
 show S.var ρ0 (400+i)=_;unfold KS.var
 iterate 16 rw[if_neg (by omega)]
 rw[if_pos (by omega),qq8]
theorem VQ{i:Nat}(h:i<13):(af ρ0 S).v (500+i)=nd S.rg S.n (S.acc ρ0).ad (S.acc ρ0).w (S.acc ρ0).v i:=by
 show S.var ρ0 (500+i)=_;unfold KS.var
 iterate 17 rw[if_neg (by omega)]
 rw[if_pos (by omega),qq8]
theorem VP{i:Nat}(h:i<13):(af ρ0 S).v (530+i)=qv S.rg i:=by
 show S.var ρ0 (530+i)=_;unfold KS.var
 iterate 18 rw[if_neg (by omega)]
 rw[if_pos (by omega),qq8]
theorem atW{i:Nat}(h:i<17):(af ρ0 S).v (621+i)=S.bk i:=by
 show S.var ρ0 (621+i)=_;unfold KS.var
 iterate 19 rw[if_neg (by omega)]
 rw[if_pos (by omega),qq8]
end
structure FD (A W B:Int):Prop where
 w:W=1\/W=2\/W=4
 a:0<=A
 al:A % W=0
 le:A+W<=16
 v:0<=B/\B<256 ^ W.toNat
theorem FD.rg{A W B:Int}(h:FD A W B):(0<=A/\A<=4294967295)/\0<=B/\B<=4294967295:=by
 obtain⟨hw,ha,_,hle,hv⟩:=h;refine⟨by omega,hv.1,?_⟩;rcases hw with e|e|e<;>rw[e]at hv
 ·have:B<256 ^ 1:=hv.2;omega
 ·have:B<256 ^ 2:=hv.2;omega
 ·have:B<256 ^ 4:=hv.2;omega
structure KS.Ok (ρ0:Env) (q:QS) (S:KS):Prop where
 hw:(S.hw ρ0).Ok
 n:S.n=q.n
 le:q.n<=4
 s:q.s<=2
 first:0<=S.rg 12/\S.rg 12<=3
 ring:∀ k,k<q.n->∀ c,c<3->S.rg (3*(((S.rg 12).toNat+k) % 4)+c)=S.sx (3*k+c)
 st:∀ k,k<q.n->FD (S.sx (3*k)) (S.sx (3*k+1)) (S.sx (3*k+2))
 byte:q.s=2->∀ i,i<16->0<=S.byte i/\S.byte i<=255
 res:S.rf≠1->S.ax=0
theorem bQ{ρ:Env}{pc:PC}(hp:ai ρ pc):∀ {g:PC},ck pc g=true->ai ρ g
 |[],_=>fun f hf=>by cases hf
 |(x,b)::l,h=>by
  unfold ck at h;split at h
  ·rename_i h1;intro f hf;rcases List.mem_cons.1 hf with rfl|hf
   ·exact mi hp h1
   ·exact bQ hp h f hf
  ·cases h
theorem gi{st:St}{b:Nat}{o:ak}(h:iP st b o=true):st.h.get b=some o:=by
 unfold iP at h;split at h
 ·rename_i q hq;rw[hq,ak.beq_eq h]
 ·cases h
def ac9:List Int->List Value
 |[]=>[]
 |x::l=>match l with
  |[]=>[.int .i64 x]
  |_=>.int .u32 x::ac9 l
def aq3:List Int->List Value
 |[]=>[]
 |x::l=>match l with
  |[]=>[.int .i64 x]
  |y::m=>match m with
   |[]=>[]
   |z::r=>.int .u32 x::.int .i64 y::.int .u32 z::aq3 r
section
variable {ρ:Env} {π:Pl}
theorem tp:∀ l:List X,V.ae ρ π (ph l)=ac9 (l.map (X.den ρ))
 |[]=>rfl
 |[x]=>rfl
 |x::y::l=>by
  have:=tp (y::l);show Value.int .u32 (x.den ρ)::V.ae ρ π (ph (y::l))=_;rw[this];rfl
theorem yn:∀ l:List X,V.ae ρ π (Du l)=aq3 (l.map (X.den ρ))
 |[]=>rfl
 |[x]=>rfl
 |[x,y]=>rfl
 |x::y::z::l=>by
  have:=yn l;show Value.int .u32 (x.den ρ)::Value.int .i64 (y.den ρ)::Value.int .u32 (z.den ρ)::V.ae ρ π (Du l)=_;rw[this];rfl
theorem DR:∀ l:List X,V.ae ρ π (UO l)=(l.map (X.den ρ)).map (Value.int .u8)
 |[]=>rfl
 |x::l=>by
  show Value.int .u8 (x.den ρ)::V.ae ρ π (UO l)=_;rw[DR l];rfl
theorem tB:∀ l:List X,V.ae ρ π (eK l)=(match l.map (X.den ρ)with|[]=>[]|x::m=>.int .u32 0::.int .i64 x::m.map (Value.int .u8))
 |[]=>rfl
 |x::l=>by
  show Value.int .u32 0::Value.int .i64 (x.den ρ)::V.ae ρ π (UO l)=_;rw[DR l];rfl
end
theorem J2{ρ1 ρ2:Env}{π1 π2:Pl}{l m:List X} (h:l.map (X.den ρ2)=m.map (X.den ρ1)):V.ae ρ2 π2 (ph l)=V.ae ρ1 π1 (ph m):=by rw[tp,tp,h]
theorem Q6{ρ1 ρ2:Env}{π1 π2:Pl}{l m:List X} (h:l.map (X.den ρ2)=m.map (X.den ρ1)):V.ae ρ2 π2 (Du l)=V.ae ρ1 π1 (Du m):=by rw[yn,yn,h]
theorem nI{ρ1 ρ2:Env}{π1 π2:Pl}{l m:List X} (h:l.map (X.den ρ2)=m.map (X.den ρ1)):V.ae ρ2 π2 (eK l)=V.ae ρ1 π1 (eK m):=by rw[tB,tB,h]
def aS(ρ:Env)(l:List X)(i:Nat):Int:=((l.map (X.den ρ))[i]?).getD 0
theorem yC{ρ1 ρ2:Env}:∀ {n o:Nat} {m:List X},m.length=n->(∀ i,i<n->ρ2.v (o+i)=aS ρ1 m i)->(yA o n).map (X.den ρ2)=m.map (X.den ρ1)
 |0,o,m,hl,_=>by
  rw[List.length_eq_zero_iff.1 hl];rfl
 |n+1,o,[],hl,_=>by simp at hl
 |n+1,o,x::m,hl,h=>by
  have h0:=h 0 (by omega);have ih:(yA (o+1) n).map (X.den ρ2)=m.map (X.den ρ1):=yC (by simpa using hl) fun i hi=>by
   have:=h (i+1) (by omega);rw[show o+1+i=o+(i+1) by omega,this];simp[aS]
  show(ρ2.v o)::(yA (o+1) n).map (X.den ρ2)=x.den ρ1::m.map (X.den ρ1);rw[ih,show o=o+0 from rfl,h0];simp[aS]
noncomputable section
def Ds.ks(ρ:Env)(d:Ds)(n:Nat)(ix:X):KS:=⟨n,ix.den ρ,aS ρ d.hx,d.fx.den ρ,bp (d.rf.tt ρ),d.ax.den ρ,bp (d.wf.tt ρ),d.wx.den ρ,bp (d.gf.tt ρ),aS ρ d.gl,aS ρ d.rg,aS ρ d.sx,aS ρ d.lx,aS ρ d.bk⟩
def uJ(tm:List V)(i:Nat):Option V:=if 40<=i then(if i-40=13\/i-40∈Y7 then none else tm[i-40]?)else none
end
structure Ds.Len (d:Ds) (q:QS):Prop where
 hx:d.hx.length=34
 rg:d.rg.length=13
 sx:d.sx.length=3*q.n
 lx:q.s=2->d.lx.length=17
 gl:d.gl.length=17
 bk:d.bk.length=17
theorem W0(m:NmS){i:Nat}(h:i<22\/27<i):rJ m i=i:=by
 unfold rJ
 repeat rw[if_neg (by omega)]
theorem RT{ρ1 ρ2:Env}{st:St}{k:Nat}{c1 c2:List V}{e:TypeId}{w:Option Nat} (h:iP st k (.cells c1 e w)=true) {f:Pl->Pl} {i:Nat} (hc:∀ π1,V.ae ρ2 (f π1) c2=V.ae ρ1 π1 c1) (hi:∀ π1,f π1 i=π1 k):
  ∃ q,st.h.get k=some q/\q.bg=false/\∀ π1 ob,q.is ρ1 π1 k ob->(ak.cells c2 e w).is ρ2 (f π1) i ob:=by
 refine⟨_,gi h,rfl,fun π1 ob ho=>?_⟩;obtain⟨sp,h1,h2⟩:=ho;refine⟨sp,by rw[hc];exact h1,?_⟩;have:c2.length=c1.length:=by rw[<-au ρ2 (f π1) c2,hc,au]
 rw[this,hi];exact h2
theorem Ii{ρ1 ρ2:Env}{st:St}{v:V}{c c0 c2:X}{b b0 i:Nat}{cs cs0 cs2:List V}{e:TypeId}(hp:ai ρ1 st.pc)(h:WB st v c b b0 c0 cs cs0 e=true)(hc2:c2.tt ρ2=c.tt ρ1){f:Pl->Pl} (hcs:∀ π1,V.ae ρ2 (f π1) cs2=V.ae ρ1 π1 cs) (hi:∀ π1,f π1 i=π1 b):
  (∀ π1,(C9 c2 i).ab ρ2 (f π1)=v.ab ρ1 π1)/\∃ q,st.h.get b=some q/\q.bg=false/\∀ π1 ob,q.is ρ1 π1 b ob->(ak.opt c2 cs2 e).is ρ2 (f π1) i ob:=by
 have hopv:∀ π1,(C9 c2 i).ab ρ2 (f π1)=if c.tt ρ1 then .pointer (some ⟨(π1 b).1,0,none⟩)else .pointer none:=by
  intro π1;show(if c2.tt ρ2 then Value.pointer (some ⟨(f π1 i).1,0,none⟩)else .pointer none)=_;rw[hc2,hi]
 unfold WB at h;split at h
 ·obtain⟨h1,h2,h3,_⟩:=ar h;have h1:=qqq h1;have h2:=mi hp h2;subst h1;refine⟨fun π1=>by rw[hopv,h2];rfl,?_⟩;split at h3
  ·rename_i q hq;refine⟨q,hq,by simpa using h3,fun π1 ob _ hz=>?_⟩;rw[hc2,h2]at hz;cases hz
  ·cases h3
 ·rename_i k;obtain⟨h1,h2,h3,_⟩:=ar h;have h1:=qqq h1;have h2:=mi hp h2;subst h1;refine⟨fun π1=>by rw[hopv,h2];rfl,_,gi h3,rfl,fun π1 ob ho _=>?_⟩;obtain⟨sp,h4,h5⟩:=ho;have h5:sp=[]:=h5;rw[hcs,h4,h5,qk8]
 ·obtain⟨h1,h2,h3,h4,_⟩:=ar h;have h1:=V.beq_eq _ _ h1;have h2:=qqq h2;subst h2;have hv:∀ π1,v.ab ρ1 π1=if c0.tt ρ1 then .pointer (some ⟨(π1 b).1,0,none⟩)else .pointer none:=fun π1=>by rw[h1];rfl
  have key:c.tt ρ1=c0.tt ρ1/\(c.tt ρ1=true->cs=cs0):=by
   split at h4
   ·rename_i h5;have h5:=mi hp h5;have h4:=mi hp h4;exact⟨by rw[h4,h5],fun z=>by rw[h5]at z;cases z⟩
   ·split at h4
    ·rename_i h5;rw[X.beq_eq h5];exact⟨rfl,fun _=>V.aR _ _ h4⟩
    ·cases h4
  refine⟨fun π1=>by rw[hopv,hv,key.1],_,gi h3,rfl,fun π1 ob ho hz=>?_⟩;rw[hc2]at hz;have ho:c0.tt ρ1=true->ob=.cells (V.ae ρ1 π1 cs0).toArray e (0,0):=ho;rw[hcs,key.2 hz];exact ho (by rw[<-key.1];exact hz)
theorem KM{i:Nat}:∀ {n o:Nat},i<o\/o+n<=i->dW i (Dl o n [])=false
 |0,_,_=>rfl
 |n+1,o,h=>by
  unfold Dl dW;have h1:Nat.beq i o=false:=by
   cases hb:Nat.beq i o with
   |false=>rfl
   |true=>have:=qqq hb;omega
  rw[h1,KM (by omega)];rfl
theorem eC.symm{t:Tch}{ρ1 ρ2:Env}(A:eC t ρ1 ρ2):eC t ρ2 ρ1:=⟨fun i h=>(A.v i h).symm,fun f h=>(A.f1 f h).symm,A.b.symm,A.f2.symm,A.s.symm,A.sf.symm,A.ro.symm,A.win.symm⟩
theorem eC.trans{t:Tch}{ρ1 ρ2 ρ3:Env}(A:eC t ρ1 ρ2)(B:eC t ρ2 ρ3):eC t ρ1 ρ3:=⟨fun i h=>(B.v i h).trans (A.v i h),fun f h=>(B.f1 f h).trans (A.f1 f h),B.b.trans A.b,B.f2.trans A.f2,B.s.trans A.s,B.sf.trans A.sf,B.ro.trans A.ro,B.win.trans A.win⟩
noncomputable def σ0:Mt:=⟨[],[],[],[]⟩
theorem σ0_rel{ρ1 ρ2:Env}(A:eC tK ρ1 ρ2):gL tK ρ1 ρ2 σ0:=⟨A,fun i x h=>by simp[σ0,look]at h,fun f ks a h=>by simp[σ0,look]at h⟩
theorem reN_σ0{ρ:Env}{π:Pl}:OO σ0 ρ π=π:=by
 funext i;rw[qy (by rfl)];rfl
noncomputable def uj:List (Nat×ak)->Bool
 |[]=>true
 |(i,o)::l=>match sI tK σ0 i o o,Nat.blt i 22,Ax 22 o.iB with
  |true,true,true=>uj l
  |_,_,_=>false
theorem sX:∀ {l:List (Nat×ak)},uj l=true->∀ i o,(i,o)∈l->sI tK σ0 i o o=true/\i<22/\∀ b∈o.iB,b<22
 |[],_,_,_,hm=>by cases hm
 |(j,p)::l,h,i,o,hm=>by
  unfold uj at h;split at h
  ·rename_i h1 h2 h3;rcases List.mem_cons.1 hm with e|hm
   ·obtain⟨rfl,rfl⟩:=qk9 e;exact⟨h1,qqx h2,fun b hb=>nx h3 b hb⟩
   ·exact sX h i o hm
  ·cases h
set_option maxRecDepth 20000 in
theorem abn:uj RC=true:=by kernel_rfl
noncomputable def z3:List Nat->Bool
 |[]=>true
 |i::l=>match nth Ud.tm i,nth Nb i with
  |some v,some u=>match fZ tK σ0 v u,Ax 22 v.iB,v.beq u with
   |true,true,true=>z3 l
   |_,_,_=>false
  |_,_=>false
theorem pW{st:St}:∀ {l:List (Nat×ak)},pb st l=true->∀ i o,(i,o)∈l->st.h.get i=some o
 |[],_,_,_,hm=>by cases hm
 |(j,p)::l,h,i,o,hm=>by
  unfold pb at h;split at h
  ·rename_i h1;rcases List.mem_cons.1 hm with e|hm
   ·obtain⟨rfl,rfl⟩:=qk9 e;exact gi h1
   ·exact pW h i o hm
  ·cases h
theorem N7{m:NmS}:∀ {l:List (Nat×ak)},iC (xO m l)=true->∀ i j o o',(i,o)∈l->(j,o')∈l->rJ m i=rJ m j->i=j:=by
 have mem:∀ {l:List (Nat×ak)} {i:Nat} {o:ak},(i,o)∈l->dW (rJ m i) (xO m l)=true:=by
  intro l;induction l with
  |nil=>intro i o h;cases h
  |cons x l ih=>
   intro i o h;obtain⟨j,p⟩:=x;unfold xO dW;rcases List.mem_cons.1 h with e|h
   ·obtain⟨rfl,rfl⟩:=qk9 e;rw[qz6];rfl
   ·rw[ih h,Bool.or_true]
 intro l;induction l with
 |nil=>intro _ i j o o' h;cases h
 |cons x l ih=>
  obtain⟨a,p⟩:=x;intro h i j o o' hi hj e;unfold xO iC at h;simp only[qqw,qzk]at h;obtain⟨h1,h2⟩:=h;rcases List.mem_cons.1 hi with ei|hi2<;>rcases List.mem_cons.1 hj with ej|hj2
  ·rw[(qk9 ei).1,(qk9 ej).1]
  ·obtain⟨rfl,rfl⟩:=qk9 ei;rw[e,mem hj2]at h1;cases h1
  ·obtain⟨rfl,rfl⟩:=qk9 ej;rw[<-e,mem hi2]at h1;cases h1
  ·exact ih h2 i j o o' hi2 hj2 e
theorem GG{c:Bool}{x y:Nat×ak} {l:List (Nat×ak)} (h:x∈itm c y l):(c=true/\x=y)\/x∈l:=by
 unfold itm at h;split at h
 ·rcases List.mem_cons.1 h with h|h
  ·exact .inl ⟨rfl,h⟩
  ·exact .inr h
 ·exact .inr h
theorem Jm{v:V}:∀ {l:List V} {o i:Nat},l[i]?=some v->(RM o l)[i]?=some (match o+i with|13=>vi .i64 100|j=>match dW j Y7 with|true=>v|false=>.any (40+j))
 |[],o,i,h=>by simp at h
 |x::l,o,0,h=>by
  simp only[List.getElem?_cons_zero,qqk]at h;subst h;simp only[RM,List.getElem?_cons_zero,Nat.add_zero];rfl
 |x::l,o,i+1,h=>by
  simp only[List.getElem?_cons_succ]at h;have:=Jm (o:=o+1) h;rw[show o+(i+1)=o+1+i by omega,<-this];rfl
theorem Jn:∀ {l:List V} {o:Nat},(RM o l).length=l.length
 |[],_=>rfl
 |x::l,o=>by
  show(RM (o+1) l).length+1=l.length+1;rw[Jn]
theorem VU:z3 Y7=true:=by kernel_rfl
theorem BL:∀ {l:List Nat},z3 l=true->∀ i∈l,∃ v,Ud.tm[i]?=some v/\Nb[i]?=some v/\fZ tK σ0 v v=true/\∀ b∈v.iB,b<22
 |[],_,_,hm=>by cases hm
 |j::l,h,i,hm=>by
  unfold z3 at h;split at h
  ·rename_i v u h1 h2;split at h
   ·rename_i h3 h4 h5;have h5:=V.beq_eq _ _ h5;subst h5;rcases List.mem_cons.1 hm with rfl|hm
    ·exact⟨v,by rw[<-cr];exact h1,by rw[<-cr];exact h2,h3,fun b hb=>nx h4 b hb⟩
    ·exact BL h i hm
   ·cases h
  ·cases h
theorem Rn{p t:List V}:∀ {l:List Nat},acR l p t=true->∀ i∈l,∃ v,p[i]?=some v/\t[i]?=some v
 |[],_,_,hm=>by cases hm
 |j::l,h,i,hm=>by
  unfold acR at h;split at h
  ·rename_i a b h1 h2;split at h
   ·rename_i h3;have h3:=V.beq_eq _ _ h3;subst h3;rcases List.mem_cons.1 hm with rfl|hm
    ·exact⟨a,by rw[<-cr];exact h1,by rw[<-cr];exact h2⟩
    ·exact Rn h i hm
   ·cases h
  ·cases h
def Io:PC->Bool
 |[]=>true
 |(x,_)::l=>match x.free tK with
  |true=>Io l
  |false=>false
theorem EY{ρ1 ρ2:Env}(A:eC tK ρ1 ρ2):∀ {l:PC},Io l=true->ai ρ1 l->ai ρ2 l
 |[],_,_=>fun f hf=>by cases hf
 |(x,b)::l,h,hp=>by
  unfold Io at h;split at h
  ·rename_i h1;intro f hf;rcases List.mem_cons.1 hf with rfl|hf
   ·have:=hp (x,b) (qq1 ..);rw[<-this];show(x.den ρ2 != 0)=(x.den ρ1 != 0);rw[(X.iu A x h1).1]
   ·exact EY A h (fun g hg=>hp g (qq3 _ hg)) f hf
  ·cases h
theorem VL:Io RD=true:=by kernel_rfl
theorem PA:fZ tK σ0 aaZ aaZ=true/\fZ tK σ0 Dd Dd=true:=⟨by kernel_rfl,by kernel_rfl⟩
theorem ai.FL{ρ:Env}{a b:PC}(h1:ai ρ a)(h2:ai ρ b):ai ρ (a++b):=fun f hf=>(qzz.1 hf).elim (h1 f) (h2 f)
theorem ai.aoY{ρ:Env}{f:X×Bool}{b:PC}(h1:f.1.tt ρ=f.2)(h2:ai ρ b):ai ρ (f::b):=fun g hg=>(List.mem_cons.1 hg).elim (fun e=>e▸h1) (h2 g)
theorem YN{ρ1 ρ2:Env}:∀ {n k:Nat} {m:List X},m.length=3*n->(∀ i,i<3*n->ρ2.v (400+(3*k+i))=aS ρ1 m i)->(∀ i,i<3*n->i % 3≠1->0<=aS ρ1 m i/\aS ρ1 m i<=4294967295)->(TY k n).map (X.den ρ2)=m.map (X.den ρ1)
 |0,k,m,hl,_,_=>by
  rw[List.length_eq_zero_iff.1 hl];rfl
 |n+1,k,[],hl,_,_=>by simp only[List.length_nil]at hl;omega
 |n+1,k,[_],hl,_,_=>by simp only[List.length_cons,List.length_nil]at hl;omega
 |n+1,k,[_,_],hl,_,_=>by simp only[List.length_cons,List.length_nil]at hl;omega
 |n+1,k,x::y::z::m,hl,h,hr=>by
  have hd:∀ i,aS ρ1 (x::y::z::m) (i+3)=aS ρ1 m i:=fun i=>rfl
  have ih:(TY (k+1) n).map (X.den ρ2)=m.map (X.den ρ1):=YN (by simp only[List.length_cons]at hl;omega) (fun i hi=>by
   have:=h (i+3) (by omega);rw[show 3*(k+1)+i=3*k+(i+3) by omega,this,hd]) fun i hi h1=>by
   have:=hr (i+3) (by omega) (by omega)
   rwa [hd]at this
  have e0:=h 0 (by omega);have e1:=h 1 (by omega);have e2:=h 2 (by omega);have r0:0<=x.den ρ1/\x.den ρ1<=4294967295:=hr 0 (by omega) (by omega);have r2:0<=z.den ρ1/\z.den ρ1<=4294967295:=hr 2 (by omega) (by omega);have e0:ρ2.v (400+3*k)=x.den ρ1:=e0;have e1:ρ2.v (401+3*k)=y.den ρ1:=by
   rw[show 401+3*k=400+(3*k+1) by omega];exact e1
  have e2:ρ2.v (402+3*k)=z.den ρ1:=by
   rw[show 402+3*k=400+(3*k+2) by omega];exact e2
  show IntKind.u32.wrap (ρ2.v (400+3*k))::ρ2.v (401+3*k)::IntKind.u32.wrap (ρ2.v (402+3*k))::(TY (k+1) n).map (X.den ρ2)=x.den ρ1::y.den ρ1::z.den ρ1::m.map (X.den ρ1);rw[ih,e0,e1,e2,fy ⟨r0.1,r0.2⟩,fy ⟨r2.1,r2.2⟩]
theorem auo{i:Nat}(hi:i<22)(m:NmS)(tm:List V):uJ tm i=none/\rJ m i=i:=⟨by unfold uJ;rw[if_neg (by omega)],W0 m (.inl hi)⟩
set_option maxHeartbeats 1000000 in
theorem Vk{ρ0 ρ1:Env}(A:eC tK ρ0 ρ1)(hJ:ai ρ0 RD){fr:Fr}{st:St}{q:QS}{d:Ds}{m m0:NmS}{ix:X}(hp:ai ρ1 st.pc)(hf:Vf nZ RC Y7 ix m0 Ud fr st q d m=true)(L:d.Len q) (R:∀ k,k<q.n->FD (aS ρ1 d.sx (3*k)) (aS ρ1 d.sx (3*k+1)) (aS ρ1 d.sx (3*k+2))):
  FitS Y8 ρ1 (af ρ0 (d.ks ρ1 q.n ix)) (nc q) fr st (rJ m) (uJ fr.tm):=by
 unfold Vf at hf;generalize hrv:(nth (cellsOf st 15) 39).getD .undef=rv at hf;generalize hav:(nth (cellsOf st 19) 2).getD .undef=av at hf;generalize hgv:(nth (cellsOf st 19) 3).getD .undef=gv at hf;unfold amU at hf;obtain⟨a1,a2,a3,a4,a5,a6⟩:=ar hf;obtain⟨b15,b14,b19,b17,b20,b21⟩:=ar a1;obtain⟨c1,c2,c3,c4,c5,c6⟩:=ar a2;obtain⟨e1,e2,e3,e4,e5,e6⟩:=ar a6;generalize hS:d.ks ρ1 q.n ix=S;generalize hρ2:af ρ0 S=ρ2;have A2:eC tK ρ1 ρ2:=by
  rw [<-hρ2];exact A.symm.trans (qe ρ0 S)
 have E:=σ0_rel A2;have hdf:fr.df=[]:=by
  split at e6
  ·assumption
  ·cases e6
 have hlen:fr.tm.length=Ud.tm.length:=qqq e5;have v42:ρ2.v 42=ρ1.v 42:=A2.v 42 (KM (by omega))
 -- its variables
 have hx:(yA 101 34).map (X.den ρ2)=d.hx.map (X.den ρ1):=yC L.hx fun i hi=>by rw [<-hρ2,VO ρ0 S hi,<-hS];rfl
 have hrg:(yA 200 13).map (X.den ρ2)=d.rg.map (X.den ρ1):=yC L.rg fun i hi=>by rw [<-hρ2,zA ρ0 S hi,<-hS];rfl
 have hsx:(TY 0 q.n).map (X.den ρ2)=d.sx.map (X.den ρ1):=YN L.sx (fun i hi=>by
  have:=qqx e2;rw [Nat.mul_zero,qk7,<-hρ2,zC ρ0 S (by omega),<-hS];rfl) fun i hi h1=>by
  have h:=(R (i / 3) (by omega)).rg;by_cases h0:i % 3=0
  ·rw [show 3*(i / 3)=i by omega] at h;exact h.1
  ·rw [show 3*(i / 3)+2=i by omega] at h;exact h.2
 have hgl:(yA 181 17).map (X.den ρ2)=d.gl.map (X.den ρ1):=yC L.gl fun i hi=>by rw [<-hρ2,atX ρ0 S hi,<-hS];rfl
 have hbk:(yA 621 17).map (X.den ρ2)=d.bk.map (X.den ρ1):=yC L.bk fun i hi=>by rw [<-hρ2,atW ρ0 S hi,<-hS];rfl
 have hlx:q.s=2->(yA 160 17).map (X.den ρ2)=d.lx.map (X.den ρ1):=fun h2=>yC (L.lx h2) fun i hi=>by rw [<-hρ2,abG ρ0 S hi,<-hS];rfl
 have v100:ρ2.v 100=ix.den ρ1:=by rw [<-hρ2,<-hS];rfl
 have v150:ρ2.v 150=d.fx.den ρ1:=by rw [<-hρ2,<-hS];rfl
 have v140:ρ2.v 140=d.ax.den ρ1:=by rw [<-hρ2,<-hS];rfl
 have v180:ρ2.v 180=d.wx.den ρ1:=by rw [<-hρ2,<-hS];rfl
 have t240:(fX q.n).rf.tt ρ2=d.rf.tt ρ1:=yQ (by rw [<-hρ2,<-hS];rfl);have t241:(fX q.n).wf.tt ρ2=d.wf.tt ρ1:=yQ (by rw [<-hρ2,<-hS];rfl);have t242:(fX q.n).gf.tt ρ2=d.gf.tt ρ1:=yQ (by rw [<-hρ2,<-hS];rfl);have t180:(X.var 180).tt ρ2=d.wx.tt ρ1:=by
  show (ρ2.v 180 != 0)=(d.wx.den ρ1 != 0);rw [v180]
 -- its names
 let f:Pl->Pl:=Ai (rJ m) (uJ fr.tm) ρ1;have hf40:∀ {i:Nat},i<40->∀ π1,f π1 i=π1 (rJ m i):=fun hi π1=>cQ (by unfold uJ;rw [if_neg (by omega)])
 have hf22:∀ {i:Nat},i<22->∀ π1,f π1 i=π1 i:=fun hi π1=>by rw [hf40 (by omega),W0 m (.inl hi)]
 have keep:∀ {v:V},fZ tK σ0 v v=true->(∀ b∈v.iB,b<22)->∀ π1,v.ab ρ2 (f π1)=v.ab ρ1 π1:=by
  intro v h1 h2 π1;rw [V.ly v fun b hb=>hf22 (h2 b hb) π1];have:=uI (π1:=π1) E v v h1
  rwa [reN_σ0] at this
 have kP:=keep PA.1 (by intro b hb;simp [aaZ,V.iB] at hb;omega);have kD:=keep PA.2 (by intro b hb;simp [Dd,V.iB] at hb;omega)
 -- what may not be there
 obtain⟨o22,p22⟩:=Ii (f:=f) (i:=22) (cs2:=[u32 (va 140)]) hp c1 t240 (fun π1=>by show [Value.int .u32 (ρ2.v 140)]=[Value.int .u32 (d.ax.den ρ1)];rw [v140]) (fun π1=>hf40 (by omega) π1);obtain⟨o23,p23⟩:=Ii (f:=f) (i:=23) (cs2:=[u32 (.lit 0),.bool (va 180)]) hp c2 t241 (fun π1=>by show [Value.int .u32 0,Value.bool ((X.var 180).tt ρ2)]=[Value.int .u32 0,Value.bool (d.wx.tt ρ1)];rw [t180]) (fun π1=>hf40 (by omega) π1);obtain⟨o24,p24⟩:=Ii (f:=f) (i:=24) (cs2:=eK (yA 181 17)) hp c3 t242 (fun π1=>nI hgl) (fun π1=>hf40 (by omega) π1)
 -- each object
 have main:∀ i o,(i,o)∈(nc q).items->i<40/\∃ x,st.h.get (rJ m i)=some x/\x.bg=o.bg/\∀ π1 ob,x.is ρ1 π1 (rJ m i) ob->o.is ρ2 (f π1) i ob:=by
  have cell:∀ {k i:Nat} {c1 c2:List V} {e:TypeId} {w:Option Nat},iP st k (.cells c1 e w)=true->rJ m i=k->i<40->(∀ π1,V.ae ρ2 (f π1) c2=V.ae ρ1 π1 c1)->i<40/\∃ x,st.h.get (rJ m i)=some x/\x.bg=(ak.cells c2 e w).bg/\∀ π1 ob,x.is ρ1 π1 (rJ m i) ob->(ak.cells c2 e w).is ρ2 (f π1) i ob:=by
   intro k i c1 c2 e w h hk hi hc;subst hk;exact⟨hi,RT h hc fun π1=>hf40 hi π1⟩
  intro i o hm;have hitems:(nc q).items=GF nZ RC q:=rfl;rw [hitems] at hm;unfold GF at hm;simp only [List.mem_cons] at hm;rcases hm with hm|hm|hm|hm|hm|hm|hm|hm|hm|hm
  ·obtain⟨rfl,rfl⟩:=qk9 hm;refine cell b15 rfl (by omega) fun π1=>?_
   have hh:V.ae ρ2 (f π1) (ph (fX q.n).hx)=V.ae ρ1 π1 (ph d.hx):=J2 hx;simp only [UX,V.ae,aW,hh,kP,o22];show Value.int .i64 (ρ2.v 42)::(_++[_,_,Value.pointer (some ⟨(f π1 14).1,0,none⟩),Value.int .i64 (ρ2.v 150),_])=_;rw [v42,v150,hf22 (by omega)];rfl
  ·obtain⟨rfl,rfl⟩:=qk9 hm;refine cell b14 rfl (by omega) fun π1=>?_
   have hh:V.ae ρ2 (f π1) (Du (fX q.n).rg)=V.ae ρ1 π1 (Du d.rg):=Q6 hrg;simp only [aj1,aW,hh];rfl
  ·obtain⟨rfl,rfl⟩:=qk9 hm;refine cell b19 rfl (by omega) fun π1=>?_
   simp only [AK,V.ae,o23,o24];show [Value.int .i64 (ρ2.v 42),Value.pointer (some ⟨(f π1 18).1,0,none⟩),_,_]=_;rw [v42,hf22 (by omega)];rfl
  ·obtain⟨rfl,rfl⟩:=qk9 hm;refine cell b17 rfl (by omega) fun π1=>?_
   have h25:f π1 25=π1 m.s:=hf40 (by omega) π1;unfold qI;split
   ·rfl
   ·simp only [V.ae,V.ab,Cp.ab,h25]
   ·simp only [V.ae,V.ab,Cp.ab,h25]
  ·obtain⟨rfl,rfl⟩:=qk9 hm;refine cell b20 rfl (by omega) fun π1=>?_
   have h26:f π1 26=π1 m.d:=hf40 (by omega) π1;have hst:(acL q.n 26).ab ρ2 (f π1)=(acL q.n m.d).ab ρ1 π1:=by
    unfold acL;split
    ·rfl
    ·simp only [V.ab,Cp.ab,h26]
   have hh:V.ae ρ2 (f π1) (ph (fX q.n).hx)=V.ae ρ1 π1 (ph d.hx):=J2 hx;simp only [W3,V.ae,aW,hh,kD,hst];show Value.int .i64 (ρ2.v 42)::(_++[_,_,_,Value.int .i64 (ρ2.v 150),Value.bool ((fX q.n).rf.tt ρ2),Value.int .u32 (ρ2.v 140)])=_;rw [v42,v150,v140,t240];rfl
  ·obtain⟨rfl,rfl⟩:=qk9 hm;refine cell b21 rfl (by omega) fun π1=>?_
   have h27:f π1 27=π1 m.l:=hf40 (by omega) π1;have hst:(zD q.s 27).ab ρ2 (f π1)=(zD q.s m.l).ab ρ1 π1:=by
    unfold zD;split
    ·simp only [V.ab,Cp.ab,h27]
    ·rfl
   have hb:V.ae ρ2 (f π1) (eK (fX q.n).bk)=V.ae ρ1 π1 (eK d.bk):=nI hbk;simp only [v8,V.ae,hst,hb];show Value.int .i64 (ρ2.v 42)::_::_::_::Value.bool ((fX q.n).wf.tt ρ2)::_::Value.bool ((X.var 180).tt ρ2)::Value.bool ((fX q.n).gf.tt ρ2)::_=_;rw [v42,t241,t180,t242];rfl
  ·obtain⟨rfl,rfl⟩:=qk9 hm;exact⟨by omega,p22⟩
  ·obtain⟨rfl,rfl⟩:=qk9 hm;exact⟨by omega,p23⟩
  ·obtain⟨rfl,rfl⟩:=qk9 hm;exact⟨by omega,p24⟩
  ·rcases GG hm with ⟨hs,hm⟩|hm
   ·obtain⟨rfl,rfl⟩:=qk9 hm;split at c4
    ·rename_i hz;rw [hz] at hs;cases hs
    ·rename_i hz;refine cell (c2:=_) (c1:=ln0) c4 rfl (by omega) fun π1=>?_
     rw [hz];rfl
    ·rename_i hz0 hz1;have h2:q.s=2:=by
      have:=qqx e1;have:q.s≠0:=fun e=>hz0 e
      have:q.s≠1:=fun e=>hz1 e
      omega
     split at c4
     ·rename_i c4';refine cell (c2:=_) (c1:=eK d.lx) c4' rfl (by omega) fun π1=>?_
      rw [h2];exact nI (hlx h2)
     ·cases c4
   rcases GG hm with ⟨hs,hm⟩|hm
   ·obtain⟨rfl,rfl⟩:=qk9 hm;split at c5
    ·rename_i hz;rw [hz] at hs;cases hs
    ·exact cell c5 rfl (by omega) fun π1=>Q6 hsx
   rcases GG hm with ⟨hs,hm⟩|hm
   ·obtain⟨rfl,rfl⟩:=qk9 hm;have h2:q.s=2:=qqq hs;have c4:(match iP st m.s (.cells (eK d.lx) nZ.line (some 18)) with|true=>iP st m.l (.cells (eK d.lx) nZ.line (some 18))|false=>false)=true:=by
     rw [h2] at c4;exact c4
    split at c4
    ·exact cell c4 rfl (by omega) fun π1=>nI (hlx h2)
    ·cases c4
   ·obtain⟨g1,g2,g3⟩:=sX abn i o hm;have hget:=pW c6 i o hm;have hid:=W0 m (i:=i) (.inl g2);refine⟨by omega,o,by rw [hid];exact hget,rfl,fun π1 ob ho=>?_⟩;rw [hid] at ho;have:=uG (π1:=π1) E (i:=i) (by rfl) g1 ho;rw [reN_σ0] at this;exact ak.Bx (hf22 g2 π1).symm (fun b hb=>(hf22 (g3 b hb) π1).symm) this
 refine⟨fun i o hm=>⟨by unfold uJ;rw [if_neg (by have:=(main i o hm).1;omega)],(main i o hm).2⟩,fun i j o o' hi hj e=>N7 e4 i j o o' hi hj e,fun _=>?_,fun i _ hi=>auo hi m fr.tm,fun π1=>?_,rfl,hdf⟩
 ·show ai ρ2 (pcQ RD q);have g:=bQ hp a5;unfold pcQ;refine ai.aoY ?_ (ai.FL ?_ (EY (A.trans A2) VL hJ))
  ·have:=g (.le (.lit 0) ix,true) (qq1 ..);rw [<-this];show (bp (decide ((0:Int)<=ρ2.v 100)) != 0)=(bp (decide ((0:Int)<=ix.den ρ1)) != 0);rw [v100]
  ·split
   ·rename_i hz;have g2:ai ρ1 ((.le (.lit 0) ix,true)::(match d.lx with|x::_=>[(.le (.lit 1) x,true),(.le x (.lit 3),true)]|[]=>[(.lit 0,true)])):=by
     rw [hz] at g;exact g
    have hl:=hlx hz;cases hlx':d.lx with
    |cons x l=>
     rw [hlx'] at g2;have g:=g2;have vx:ρ2.v 160=x.den ρ1:=by
      rw [hlx'] at hl;exact (List.cons.inj hl).1
     intro y hy;rcases List.mem_cons.1 hy with rfl|hy
     ·have:=g (.le (.lit 1) x,true) (qq3 _ (qq1 ..));rw [<-this];show (bp (decide ((1:Int)<=ρ2.v 160)) != 0)=(bp (decide ((1:Int)<=x.den ρ1)) != 0);rw [vx]
     ·have hy:=qq4.1 hy;subst hy;have:=g (.le x (.lit 3),true) (qq3 _ (qq3 _ (qq1 ..)));rw [<-this];show (bp (decide (ρ2.v 160<=(3:Int))) != 0)=(bp (decide (x.den ρ1<=(3:Int))) != 0);rw [vx]
    |nil=>
     have:=L.lx hz;rw [hlx'] at this;cases this
   ·exact fun f hf=>by cases hf
 ·show V.ae ρ2 (f π1) Ud.tm=V.ae ρ1 π1 fr.tm;rw [aU,aU];refine List.ext_getElem? fun i=>?_
  rw [qk5,qk5];by_cases hi:i<fr.tm.length
  ·have hi2:i<Nb.length:=by rw [hlen] at hi;simpa [Ud,Jn] using hi
   have hget:=Jm (o:=0) (qq0 hi2);rw [qk7] at hget;have hget:Ud.tm[i]?=_:=hget;by_cases h13:i=13
   ·subst h13;rw [hget];split at a4
    ·rename_i v hv;rw [cr] at hv;rw [hv,V.beq_eq _ _ a4];show some (Value.int .i64 (ρ2.v 100))=some (Value.int .i64 (ix.den ρ1));rw [v100]
    ·cases a4
   by_cases hlv:i∈Y7
   ·obtain⟨v,h1,h2,h3,h4⟩:=BL VU i hlv;obtain⟨v',k1,k2⟩:=Rn a3 i hlv;rw [h1] at k1;obtain rfl:=qqz k1;rw [h1,k2];show some _=some _;rw [keep h3 h4]
   ·have hmem:dW i Y7=false:=by
     cases hb:dW i Y7 with
     |false=>rfl
     |true=>exact absurd (kA hb) hlv
    have hget2:Ud.tm[i]?=some (.any (40+i)):=by
     rw [hget];congr 1;split
     ·omega
     ·rw [hmem]
    rw [hget2,qq0 hi];show some ((f π1 (40+i)).3)=some _;have hu:uJ fr.tm (40+i)=some fr.tm[i]:=by
     unfold uJ;rw [if_pos (by omega),show 40+i-40=i by omega,if_neg (fun z=>z.elim h13 hlv),qq0 hi]
    have:f π1 (40+i)=_:=v9 hu;rw [this]
  ·rw [qkj (by omega),qkj (by omega)];rfl
end Go.Proofs.YtgcbnjpeifigaaaGreatDoor
