/- Words as bits, numbers within their kinds. Bitwise operations by sums of powers: the plain law, and the summary. Shifts and products of the reference: the plain laws, and the summaries. Products of the reference, and of the program: the plain laws, and the summaries. The symbols of the Ops' meanings as a list of summaries. No condition. -/
import Derived.Test.YtmickljjofbmiaaGreatDoorADoor
import Derived.Test.YtmickljjofbmiaaGreatDoorFwH
set_option maxRecDepth 100000
namespace Go.Proofs.YtmickljjofbmiaaGreatDoor
open Go Go.Proofs
def InU(z:Int):Prop:=0≤z∧z≤4294967295
theorem wq{z:Int}(h:InU z):IntKind.u32.wrap z=z:=bp (by simp [j6];exact h.1) (by simp [lQ];exact h.2)
theorem yf{ρ:Env}{π:Pl}{f:Nat}{regs:List Int}(hw:∀ z∈regs,InU z) (h:∀ j (h:j<regs.length),ρ.f1 f (Int.ofNat j)=regs[j]) {r:List V}:∀ (n j:Nat),j+n=regs.length→V.af ρ π (GR f j n r)=(regs.drop j).map (Value.int .u32)++V.af ρ π r
 | 0,j,e=>by
  rw [List.drop_of_length_le (by omega)]
  rfl
 | n+1,j,e=>by
  have hj:j<regs.length:=by omega
  rw [List.drop_eq_getElem_cons hj]
  simp only [GR,V.af,V.ae,X.den,h j hj,List.map_cons,List.cons_append]
  rw [wq (hw _ (List.getElem_mem hj)),yf hw h n (j+1) (by omega)]
def vQ(o:Nat):Nat→List B
 | 0=>[]
 | k+1=>.pos o::vQ (o+1) k
theorem KF{ρ:Env}(l:List B)(t:B):∀ (k o:Nat),aw ρ (vQ o k++l) t=eJ (fun i=>ρ.b (o+i)) k+2 ^ k*aw ρ l t
 | 0,o=>by simp [vQ,eJ]
 | k+1,o=>by
  rw [vQ,List.cons_append,aB,KF l t k (o+1),eJ,Int.mul_add,show (2:Int) ^ (k+1)=2*2 ^ k from by rw [Int.pow_succ];omega,Int.mul_assoc]
  have:(fun i=>ρ.b (o+1+i))=fun i=>ρ.b (o+(i+1)):=funext fun i=>by rw [show o+1+i=o+(i+1) by omega]
  rw [this]
  show bc (ρ.b o)+_=bc (ρ.b (o+0))+_+_
  rw [Nat.add_zero]
  omega
theorem Kw(n k:Nat):eJ (fun i=>n.testBit i) k=((n % 2 ^ k:Nat):Int):=by
 rw [←jw]
 congr 1
 apply Nat.eq_of_testBit_eq
 intro i
 rw [sk,Nat.testBit_mod_two_pow]
theorem E4{ρ:Env}{o k:Nat}{n:Nat} (hb:∀ i,i<k→ρ.b (o+i)=n.testBit i) (l:List B) (t:B):aw ρ (vQ o k++l) t=((n % 2 ^ k:Nat):Int)+2 ^ k*aw ρ l t:=by
 rw [KF,r6 hb,Kw]
theorem FY{ρ:Env}{o k:Nat}{n:Int}(h0:0≤n)(h1:n<2 ^ k) (hb:∀ i,i<k→ρ.b (o+i)=n.toNat.testBit i):aw ρ (vQ o k) .zero=n:=by
 have e:=E4 (ρ:=ρ) (o:=o) (k:=k) hb [] .zero
 rw [List.append_nil] at e
 rw [e]
 obtain⟨m,rfl⟩:=Int.eq_ofNat_of_zero_le h0
 have hm:m<2 ^ k:=by exact_mod_cast h1
 rw [show (m:Int).toNat=m from rfl,Nat.mod_eq_of_lt hm]
 simp [aw,B.den,bc]
end Go.Proofs.YtmickljjofbmiaaGreatDoor
namespace Go.Proofs.YtmickljjofbmiaaGreatDoor
open Go Go.Proofs
noncomputable section
def pw(i:Nat):X:=.lit (Int.ofNat (2 ^ i))
def Ib(v i:Nat):X:=match Nat.beq i 31 with
 | true=>.quo (.wrap .u32 (.var v)) (pw i)
 | false=>.rem (.quo (.wrap .u32 (.var v)) (pw i)) (.lit 2)
def ZK(how i:Nat):X:=match how with
 | 0=>.ite (.eq (Ib 0 i) (Ib 1 i)) (.lit 0) (pw i)
 | 1=>.ite (.lt (.lit 0) (.add (Ib 0 i) (Ib 1 i))) (pw i) (.lit 0)
 | _=>.ite (.eq (.add (Ib 0 i) (Ib 1 i)) (.lit 2)) (pw i) (.lit 0)
def UU(how:Nat):Nat→X
 | 0=>ZK how 0
 | n+1=>.add (UU how n) (ZK how (n+1))
def PR(how:Nat)(a b:Bool):Bool:=match how with
 | 0=>a ^^ b
 | 1=>a || b
 | _=>a&&b
def Qv(how:Nat)(m k:Nat):Nat:=match how with
 | 0=>m ^^^ k
 | 1=>m ||| k
 | _=>m &&& k
def YP:Nat→Nat
 | 0=>2
 | 1=>1
 | _=>0
theorem Jf{ρ:Env}{v i m:Nat} (h:IntKind.u32.wrap (ρ.v v)=(m:Int)) (hm:m<2 ^ 32):(Ib v i).den ρ=bc (m.testBit i):=by
 have e2:bc (m.testBit i)=((m / 2 ^ i % 2:Nat):Int):=by
  rw [Nat.testBit_eq_decide_div_mod_eq]
  unfold bc
  rcases Nat.mod_two_eq_zero_or_one (m / 2 ^ i) with h2 | h2<;>simp [h2]
 rw [e2]
 unfold Ib
 split
 ·rename_i hb
  obtain rfl:=Nat.eq_of_beq_eq_true hb
  simp only [X.den,h,pw]
  show (m:Int).tdiv ((2 ^ 31:Nat):Int)=_
  rw [←Int.ofNat_tdiv,Nat.mod_eq_of_lt (Nat.div_lt_of_lt_mul (by omega))]
 ·simp only [X.den,h,pw]
  show ((m:Int).tdiv ((2 ^ i:Nat):Int)).tmod ((2:Nat):Int)=_
  rw [←Int.ofNat_tdiv,←Int.ofNat_tmod]
theorem KM{ρ:Env}{how i m k:Nat} (h0:IntKind.u32.wrap (ρ.v 0)=(m:Int)) (h1:IntKind.u32.wrap (ρ.v 1)=(k:Int)) (hm:m<2 ^ 32) (hk:k<2 ^ 32):(ZK how i).den ρ=2 ^ i*bc (PR how (m.testBit i) (k.testBit i)):=by
 have e:(pw i).den ρ=2 ^ i:=by simp only [pw,X.den];norm_cast
 unfold ZK
 split<;>simp only [X.den,Jf h0 hm,Jf h1 hk,e,PR]<;>cases m.testBit i<;>cases k.testBit i<;>simp [bc]
theorem Jm{ρ:Env}{how m k:Nat} (h0:IntKind.u32.wrap (ρ.v 0)=(m:Int)) (h1:IntKind.u32.wrap (ρ.v 1)=(k:Int)) (hm:m<2 ^ 32) (hk:k<2 ^ 32):∀ n,(UU how n).den ρ=eJ (fun i=>PR how (m.testBit i) (k.testBit i)) (n+1)
 | 0=>by
  rw [oD]
  simp only [UU,KM h0 h1 hm hk,eJ,Int.zero_add]
 | n+1=>by
  rw [oD,←Jm h0 h1 hm hk n]
  simp only [UU,X.den,KM h0 h1 hm hk]
theorem U8(how m k i:Nat):(Qv how m k).testBit i=PR how (m.testBit i) (k.testBit i):=by
 unfold Qv PR
 split<;>simp
theorem O9{how m k:Nat}(h0:m<2 ^ 32)(h1:k<2 ^ 32):Qv how m k<2 ^ 32:=by
 unfold Qv
 split
 ·exact Nat.xor_lt_two_pow h0 h1
 ·exact Nat.or_lt_two_pow h0 h1
 ·exact Nat.and_lt_two_pow _ h1
theorem Pz{how m k:Nat}(h0:m<2 ^ 32)(h1:k<2 ^ 32):gR (YP how) .u32 (m:Int) (k:Int)=((Qv how m k:Nat):Int):=by
 have e0:(BitVec.ofInt 32 (m:Int)).toNat=m:=by
  rw [BitVec.toNat_ofInt]
  have:((m:Int) % ((2 ^ 32:Nat):Int))=m:=Int.emod_eq_of_lt (by omega) (by exact_mod_cast h0)
  rw [this]
  rfl
 have e1:(BitVec.ofInt 32 (k:Int)).toNat=k:=by
  rw [BitVec.toNat_ofInt]
  have:((k:Int) % ((2 ^ 32:Nat):Int))=k:=Int.emod_eq_of_lt (by omega) (by exact_mod_cast h1)
  rw [this]
  rfl
 have hw:∀ x:Nat,x<2 ^ 32→IntKind.u32.wrap (x:Int)=(x:Int):=fun x hx=>bp (by simp [j6]) (by simp only [lQ];omega)
 rw [←hw _ (O9 (how:=how) h0 h1)]
 rcases how with _ | _ | n
 ·show IntKind.u32.wrap (((BitVec.ofInt 32 (m:Int) ^^^ BitVec.ofInt 32 (k:Int)).toNat:Nat):Int)=_
  rw [BitVec.toNat_xor,e0,e1];rfl
 ·show IntKind.u32.wrap (((BitVec.ofInt 32 (m:Int) ||| BitVec.ofInt 32 (k:Int)).toNat:Nat):Int)=_
  rw [BitVec.toNat_or,e0,e1];rfl
 ·show IntKind.u32.wrap (((BitVec.ofInt 32 (m:Int) &&& BitVec.ofInt 32 (k:Int)).toNat:Nat):Int)=_
  rw [BitVec.toNat_and,e0,e1];rfl
def nU(how:Nat):R Leaf:=.ok {v:=.int .u32 (UU how 31),objs:=[],n:=7}
def K7(how:Nat)(xs:List X):X:=oM (YP how) .u32 (xs.getD 0 (.lit 0)) (xs.getD 1 (.lit 0))
def PS(how:Nat)(zs:List Int):Int:=gR (YP how) .u32 (zs.getD 0 0) (zs.getD 1 0)
theorem Ap(how:Nat)(ρ:Env)(zs:List Int)(hl:zs.length=2)(hz:∀ z∈zs,0≤z∧z≤4294967295) (hv:∀ j (h:j<zs.length),ρ.v j=zs[j]):∃ lf,(nU how).ai ρ=some lf∧lf.objs=[]∧lf.n≤7+1000∧∀ π,lf.v.ae ρ π=.int .u32 (PS how zs):=by
 match zs,hl with
 | [a,b],_=>
  have ha:=hz a (by simp)
  have hb:=hz b (by simp)
  obtain⟨m,rfl⟩:=Int.eq_ofNat_of_zero_le ha.1
  obtain⟨k,rfl⟩:=Int.eq_ofNat_of_zero_le hb.1
  have v0:ρ.v 0=(m:Int):=hv 0 (by simp)
  have v1:ρ.v 1=(k:Int):=hv 1 (by simp)
  have w:∀ x:Nat,(x:Int)≤4294967295→IntKind.u32.wrap (x:Int)=(x:Int):=fun x hx=>bp (by simp [j6]) (by simp only [lQ];omega)
  have hm:m<2 ^ 32:=by omega
  have hk:k<2 ^ 32:=by omega
  refine⟨_,rfl,rfl,by show 7≤7+1000;omega,fun π=>?_⟩
  simp only [V.ae]
  rw [Jm (m:=m) (k:=k) (by rw [v0,w m ha.2]) (by rw [v1,w k hb.2]) hm hk]
  have:(fun i=>PR how (m.testBit i) (k.testBit i))=fun i=>(Qv how m k).testBit i:=funext fun i=>(U8 how m k i).symm
  rw [this,Kw,Nat.mod_eq_of_lt (O9 hm hk)]
  show _=Value.int .u32 (gR (YP how) .u32 (m:Int) (k:Int))
  rw [Pz hm hk]
def Ks:Cx:={cxD with mg:=true}
theorem T5:cJ [] 7 ((ev Ks 4000).call 32 (fU 0 2++[.int .i64 (.lit 0)]) (rI [] 7))=nU 0:=by rw [bP];kernel_rfl
theorem XV:cJ [] 7 ((ev Ks 4000).call 32 (fU 0 2++[.int .i64 (.lit 1)]) (rI [] 7))=nU 1:=by rw [bP];kernel_rfl
theorem Ti:cJ [] 7 ((ev Ks 4000).call 32 (fU 0 2++[.int .i64 (.lit 2)]) (rI [] 7))=nU 2:=by rw [bP];kernel_rfl
def Fo:List (List V×(List X→X)):=[([.int .i64 (.lit 0)],K7 0),([.int .i64 (.lit 1)],K7 1),([.int .i64 (.lit 2)],K7 2)]
theorem Fe(how:Nat)(ρ:Env)(xs:List X)(hl:xs.length=2):(K7 how xs).den ρ=PS how (xs.map fun x=>x.den ρ):=by
 match xs,hl with
 | [a,b],_=>simp only [K7,PS,n4];rfl
theorem aq8{ρ:Env}{c:Cx}(hc:c.ng=7):ct Tryz.prog c ρ 32 (lq Fo 2):=by
 refine O2 (cx0:=Ks) (N:=4000) ba fZ fS (fun ρ' _=>wx aiB) hc rfl Tryz.func32 fun x hx=>?_
 simp only [Fo,List.mem_cons,List.not_mem_nil,or_false] at hx
 rcases hx with rfl | rfl | rfl
 ·exact⟨PS 0,nU 0,T5,rfl,fun _ _ _ _=>rfl,fun ρ xs hl _=>Fe 0 ρ xs hl,Ap 0⟩
 ·exact⟨PS 1,nU 1,XV,rfl,fun _ _ _ _=>rfl,fun ρ xs hl _=>Fe 1 ρ xs hl,Ap 1⟩
 ·exact⟨PS 2,nU 2,Ti,rfl,fun _ _ _ _=>rfl,fun ρ xs hl _=>Fe 2 ρ xs hl,Ap 2⟩
end
end Go.Proofs.YtmickljjofbmiaaGreatDoor
namespace Go.Proofs.YtmickljjofbmiaaGreatDoor
open Go Go.Proofs
noncomputable section
def xA:X:=.wrap .u32 (.var 0)
def xB:X:=.wrap .u32 (.var 1)
def mX:X:=.rem xB (.lit 32)
def KG(g:Nat→X):Nat→Nat→X
 | i,0=>g i
 | i,k+1=>.ite (.lt (.lit (Int.ofNat i)) mX) (KG g (i+1) k) (g i)
theorem wv{ρ:Env}{g:Nat→X}{n:Nat} (h:mX.den ρ=(n:Int)):∀ (k i:Nat),i≤n→n≤i+k→(KG g i k).den ρ=(g n).den ρ
 | 0,i,h1,h2=>by
  obtain rfl:n=i:=by omega
  rfl
 | k+1,i,h1,h2=>by
  unfold KG
  simp only [X.den,h]
  by_cases hi:i<n
  ·have e:=wv (g:=g) h k (i+1) hi (by omega)
   simp [bc,e]
   omega
  ·obtain rfl:n=i:=by omega
   simp [bc]
def Kp:X:=KG (fun i=>.lit (Int.ofNat (2 ^ i))) 0 31
def ae3:X:=KG (fun i=>match i with | 0=>xA | i=>.wrap .u32 (.mul xA (.lit (Int.ofNat (2 ^ i))))) 0 31
def acq:X:=.wrap .u32 (.quo xA Kp)
def sA:X:=.wrap .i32 xA
def adz:X:=.ite (.lt sA (.lit 0)) (.wrap .u32 (.ite (.eq (.mul (.quo sA Kp) Kp) sA) (.quo sA Kp) (.sub (.quo sA Kp) (.lit 1)))) (.wrap .u32 (.quo sA Kp))
def iD(x:X)(n:Nat:=7):R Leaf:=.ok {v:=.int .u32 x,objs:=[],n:=n}
theorem agM{ρ:Env}{zs:List Int}(hl:zs.length=2)(hz:∀ z∈zs,0≤z∧z≤4294967295) (hv:∀ j (h:j<zs.length),ρ.v j=zs[j]):
  ∃ m k:Nat,zs=[(m:Int),(k:Int)]∧m<2 ^ 32∧k<2 ^ 32∧xA.den ρ=(m:Int)∧xB.den ρ=(k:Int):=by
 match zs,hl with
 | [a,b],_=>
  have ha:=hz a (by simp)
  have hb:=hz b (by simp)
  obtain⟨m,rfl⟩:=Int.eq_ofNat_of_zero_le ha.1
  obtain⟨k,rfl⟩:=Int.eq_ofNat_of_zero_le hb.1
  have v0:ρ.v 0=(m:Int):=hv 0 (by simp)
  have v1:ρ.v 1=(k:Int):=hv 1 (by simp)
  have w:∀ x:Nat,(x:Int)≤4294967295→IntKind.u32.wrap (x:Int)=(x:Int):=fun x hx=>bp (by simp [j6]) (by simp only [lQ];omega)
  exact⟨m,k,rfl,by omega,by omega,by simp only [xA,X.den,v0,w m ha.2],by simp only [xB,X.den,v1,w k hb.2]⟩
theorem U2{ρ:Env}{k:Nat} (h:xB.den ρ=(k:Int)):mX.den ρ=((k % 32:Nat):Int):=by
 unfold mX
 simp only [X.den]
 rw [h,show (32:Int)=((32:Nat):Int) from rfl,←Int.ofNat_tmod]
theorem K4{ρ:Env}{k:Nat} (h:xB.den ρ=(k:Int)):Kp.den ρ=((2 ^ (k % 32):Nat):Int):=by
 unfold Kp
 rw [wv (U2 h) 31 0 (by omega) (by omega)]
 rfl
theorem aiC{x:X}{n:Nat}(hn:n≤7+1000){F:List Int→Int} (h:∀ (ρ:Env) (m k:Nat),m<2 ^ 32→k<2 ^ 32→xA.den ρ=(m:Int)→xB.den ρ=(k:Int)→x.den ρ=F [(m:Int),(k:Int)])
  (ρ:Env) (zs:List Int) (hl:zs.length=2) (hz:∀ z∈zs,0≤z∧z≤4294967295) (hv:∀ j (h:j<zs.length),ρ.v j=zs[j]):∃ lf,(iD x n).ai ρ=some lf∧lf.objs=[]∧lf.n≤7+1000∧∀ π,lf.v.ae ρ π=.int .u32 (F zs):=by
 obtain⟨m,k,rfl,hm,hk,ha,hb⟩:=agM hl hz hv
 exact⟨_,rfl,rfl,hn,fun π=>by simp only [V.ae];rw [h ρ m k hm hk ha hb]⟩
theorem Mu(k:Nat):(k:Int).tmod 32=((k % 32:Nat):Int):=by
 rw [show (32:Int)=((32:Nat):Int) from rfl,←Int.ofNat_tmod]
def acw(zs:List Int):Int:=L3 .u32 (zs.getD 0 0) ((zs.getD 1 0).tmod 32)
def aeT(zs:List Int):Int:=B6 .u32 (zs.getD 0 0) ((zs.getD 1 0).tmod 32)
def adN(zs:List Int):Int:=IntKind.u32.wrap (B6 .i32 (IntKind.i32.wrap (zs.getD 0 0)) ((zs.getD 1 0).tmod 32))
theorem Z3(ρ:Env)(m k:Nat)(hm:m<2 ^ 32)(hk:k<2 ^ 32) (ha:xA.den ρ=(m:Int)) (hb:xB.den ρ=(k:Int)):ae3.den ρ=acw [(m:Int),(k:Int)]:=by
 have hlt:k % 32<32:=Nat.mod_lt _ (by omega)
 unfold ae3
 rw [wv (U2 hb) 31 0 (by omega) (by omega)]
 have e:acw [(m:Int),(k:Int)]=IntKind.u32.wrap ((m:Int)*2 ^ (k % 32)):=by
  show IntKind.u32.wrap ((m:Int)*2 ^ (min ((k:Int).tmod 32).toNat 32))=_
  rw [Mu]
  rw [show ((k % 32:Nat):Int).toNat=k % 32 from rfl,Nat.min_eq_left (by omega)]
 rw [e]
 split
 ·rename_i h0
  rw [h0,ha]
  simp only [Int.pow_zero,Int.mul_one]
  exact (bp (by simp [j6]) (by simp only [lQ];omega)).symm
 ·simp only [X.den,ha]
  show IntKind.u32.wrap ((m:Int)*((2 ^ (k % 32):Nat):Int))=_
  norm_cast
theorem Zr(ρ:Env)(m k:Nat)(hm:m<2 ^ 32)(hk:k<2 ^ 32) (ha:xA.den ρ=(m:Int)) (hb:xB.den ρ=(k:Int)):acq.den ρ=aeT [(m:Int),(k:Int)]:=by
 have hlt:k % 32<32:=Nat.mod_lt _ (by omega)
 unfold acq
 simp only [X.den,ha,K4 hb]
 have e:aeT [(m:Int),(k:Int)]=(m:Int).fdiv ((2 ^ (k % 32):Nat):Int):=by
  show (m:Int).fdiv (2 ^ (min ((k:Int).tmod 32).toNat 32))=_
  rw [Mu]
  rw [show ((k % 32:Nat):Int).toNat=k % 32 from rfl,Nat.min_eq_left (by omega)]
  norm_cast
 have hp:=Nat.two_pow_pos (k % 32)
 generalize 2 ^ (k % 32)=q at *
 have:m / q≤m:=Nat.div_le_self _ _
 have e2:(m:Int).tdiv (q:Int)=((m / q:Nat):Int):=(Int.ofNat_tdiv _ _).symm
 have e3:(m:Int) / (q:Int)=((m / q:Nat):Int):=by norm_cast
 rw [e,e2,Int.fdiv_eq_ediv_of_nonneg _ (by omega),e3]
 generalize m / q=d at *
 exact bp (by simp only [j6];omega) (by simp only [lQ];omega)
theorem JC{a p:Int}(hp:0<p):(if a<0 then (if a.tdiv p*p=a then a.tdiv p else a.tdiv p-1) else a.tdiv p)=a.fdiv p:=by
 rw [Int.fdiv_eq_ediv_of_nonneg _ (by omega)]
 have h2:=Int.mul_ediv_add_emod a p
 have h3:=Int.emod_nonneg a (Int.ne_of_gt hp)
 have h4:=Int.emod_lt_of_pos a hp
 split
 ·rename_i ha
  have h5:a.tdiv p=-((-a) / p):=by
   rw [show a=-(-a) by omega,Int.neg_tdiv,Int.neg_neg,Int.tdiv_eq_ediv_of_nonneg (by omega)]
  have h6:=Int.mul_ediv_add_emod (-a) p
  have h7:=Int.emod_nonneg (-a) (Int.ne_of_gt hp)
  have h8:=Int.emod_lt_of_pos (-a) hp
  generalize hq:(-a) / p=q at *
  generalize hd:a / p=d at *
  rw [h5]
  have key:p*(d+q)=- (a % p)-((-a) % p):=by rw [Int.mul_add];omega
  split
  ·rename_i he
   have e1:(-a) % p=0:=by
    have:-q*p=-(p*q):=by rw [Int.neg_mul,Int.mul_comm]
    omega
   rw [e1] at key
   have:p*(d+q)≤0:=by omega
   have:-p<p*(d+q):=by omega
   have h9:d+q≤0:=Int.not_lt.1 fun hlt=>by
    have:p*1≤p*(d+q):=Int.mul_le_mul_of_nonneg_left (by omega) (by omega)
    omega
   have h10:-1<d+q:=Int.lt_of_not_ge fun hle=>by
    have:p*(d+q)≤p*(-1):=Int.mul_le_mul_of_nonneg_left hle (by omega)
    omega
   omega
  ·rename_i he
   have e1:(-a) % p≠0:=fun h0=>he (by
    have:-q*p=-(p*q):=by rw [Int.neg_mul,Int.mul_comm]
    omega)
   have h9:d+q<0:=Int.lt_of_not_ge fun hge=>by
    have:p*0≤p*(d+q):=Int.mul_le_mul_of_nonneg_left hge (by omega)
    omega
   have h10:-2<d+q:=Int.lt_of_not_ge fun hle=>by
    have:p*(d+q)≤p*(-2):=Int.mul_le_mul_of_nonneg_left hle (by omega)
    omega
   omega
 ·rw [Int.tdiv_eq_ediv_of_nonneg (by omega)]
theorem aaP(ρ:Env)(m k:Nat)(hm:m<2 ^ 32)(hk:k<2 ^ 32) (ha:xA.den ρ=(m:Int)) (hb:xB.den ρ=(k:Int)):adz.den ρ=adN [(m:Int),(k:Int)]:=by
 have hlt:k % 32<32:=Nat.mod_lt _ (by omega)
 have hp:(0:Int)<((2 ^ (k % 32):Nat):Int):=by have:=Nat.two_pow_pos (k % 32);omega
 have hs:sA.den ρ=IntKind.i32.wrap (m:Int):=by unfold sA;simp only [X.den,ha]
 have e:adN [(m:Int),(k:Int)]=IntKind.u32.wrap ((IntKind.i32.wrap (m:Int)).fdiv ((2 ^ (k % 32):Nat):Int)):=by
  show IntKind.u32.wrap ((IntKind.i32.wrap (m:Int)).fdiv (2 ^ (min ((k:Int).tmod 32).toNat 32)))=_
  rw [Mu]
  rw [show ((k % 32:Nat):Int).toNat=k % 32 from rfl,Nat.min_eq_left (by omega)]
  norm_cast
 rw [e,←JC hp]
 unfold adz
 simp only [X.den,hs,K4 hb]
 generalize IntKind.i32.wrap (m:Int)=a
 generalize ((2 ^ (k % 32):Nat):Int)=p
 by_cases h1:a<0
 ·by_cases h2:a.tdiv p*p=a<;>simp [h1,h2,bc]
 ·simp [h1,bc]
def InW(z:Int):Prop:=0≤z∧z≤4294967295
theorem FZ{n:Nat}{f:FuncId}{x:X}{mk:List X→X}{F:List Int→Int} (run:cJ [] 7 ((ev Ks 4000).call f (fU 0 2++[]) (rI [] 7))=iD x n) (den:∀ (ρ:Env) (a b:X),InW (a.den ρ)→InW (b.den ρ)→(mk [a,b]).den ρ=F [a.den ρ,b.den ρ])
  (h:∀ (ρ:Env) (m k:Nat),m<2 ^ 32→k<2 ^ 32→xA.den ρ=(m:Int)→xB.den ρ=(k:Int)→x.den ρ=F [(m:Int),(k:Int)]) (hn:n≤7+1000:=by omega):RowU Ks 7 4000 2 f [] mk F (iD x n) where
 run:=run
 pure:=rfl
 closed:=fun _ _ _ _=>rfl
 den:=fun ρ xs hl hx=>by
  match xs,hl with
  | [a,b],_=>exact den ρ a b (hx a (by simp)) (hx b (by simp))
 spec:=fun ρ zs=>aiC hn h ρ zs
theorem tC{n:Nat}{f:FuncId}{fn:Func} (hfn:Tryz.prog.funcs[f]?=some fn) {x:X} {mk:List X→X} {F:List Int→Int} (h:RowU Ks 7 4000 2 f [] mk F (iD x n)) {ρ:Env} {c:Cx} (hc:c.ng=7):ct Tryz.prog c ρ f (lq [([],mk)] 2):=by
 refine O2 (cx0:=Ks) (N:=4000) ba fZ fS (fun ρ' _=>wx aiB) hc rfl hfn fun x hx=>?_
 simp only [List.mem_cons,List.not_mem_nil,or_false] at hx
 subst hx
 exact⟨F,_,h⟩
def arg(xs:List X)(i:Nat):X:=xs.getD i (.lit 0)
def MF(xs:List X):X:=IU .u32 (arg xs 0) (xM (arg xs 1) (.lit 32))
def Ly(xs:List X):X:=ur .u32 (arg xs 0) (xM (arg xs 1) (.lit 32))
def Nf(xs:List X):X:=mkWrap .u32 (ur .i32 (mkWrap .i32 (arg xs 0)) (xM (arg xs 1) (.lit 32)))
theorem alE:cJ [] 7 ((ev Ks 4000).call 88 (fU 0 2++[]) (rI [] 7))=iD ae3:=by rw [bP];kernel_rfl
theorem agz:cJ [] 7 ((ev Ks 4000).call 89 (fU 0 2++[]) (rI [] 7))=iD acq:=by rw [bP];kernel_rfl
theorem akj:cJ [] 7 ((ev Ks 4000).call 90 (fU 0 2++[]) (rI [] 7))=iD adz:=by rw [bP];kernel_rfl
theorem aow{ρ:Env}{c:Cx}(hc:c.ng=7):ct Tryz.prog c ρ 88 (lq [([],MF)] 2):=
 tC Tryz.func88 (FZ alE (fun ρ a b _ _=>by simp only [MF,arg,acw,wS,kE,X.den,List.getD_cons_zero,List.getD_cons_succ]) Z3) hc
theorem anR{ρ:Env}{c:Cx}(hc:c.ng=7):ct Tryz.prog c ρ 89 (lq [([],Ly)] 2):=
 tC Tryz.func89 (FZ agz (fun ρ a b _ _=>by simp only [Ly,arg,aeT,iE,kE,X.den,List.getD_cons_zero,List.getD_cons_succ]) Zr) hc
theorem arc{ρ:Env}{c:Cx}(hc:c.ng=7):ct Tryz.prog c ρ 90 (lq [([],Nf)] 2):=
 tC Tryz.func90 (FZ akj (fun ρ a b _ _=>by simp only [Nf,arg,adN,iE,iT,kE,X.den,List.getD_cons_zero,List.getD_cons_succ]) aaP) hc
end
end Go.Proofs.YtmickljjofbmiaaGreatDoor
namespace Go.Proofs.YtmickljjofbmiaaGreatDoor
open Go Go.Proofs
noncomputable section
def hB:X:=.quo xB (.lit 65536)
def lB:X:=.wrap .u16 xB
def hA:X:=.quo xA (.lit 65536)
def lA:X:=.wrap .u16 xA
def acz:X:=.wrap .u32 (.add (.mul xA lB) (.mul (.wrap .u16 (.wrap .u32 (.mul xA hB))) (.lit 65536)))
def sB:X:=.wrap .i32 xB
def Dk(p:X):X:=.wrap .u32 (.ite (.lt p (.lit 0)) (.ite (.eq (.wrap .i64 (.mul (.quo p (.lit 4294967296)) (.lit 4294967296))) p) (.quo p (.lit 4294967296)) (.sub (.quo p (.lit 4294967296)) (.lit 1))) (.quo p (.lit 4294967296)))
def Qn(p:X):X:=.quo (.wrap .u64 p) (.lit 4294967296)
def Mn:X:=.add (.mul hA hB) (.quo (.add (.add (.mul hA lB) (.mul lA hB)) (.quo (.mul lA lB) (.lit 65536))) (.lit 65536))
theorem ab7(z:Int):IntKind.u32.wrap z=z % 4294967296:=rfl
theorem XE(z:Int):IntKind.u16.wrap z=z % 65536:=rfl
theorem R7(z:Int):IntKind.u64.wrap z=z % 18446744073709551616:=rfl
theorem nk{a:Int}(h:0≤a)(b:Int):a.tdiv b=a / b:=Int.tdiv_eq_ediv_of_nonneg h
def ago(zs:List Int):Int:=IntKind.u32.wrap (zs.getD 0 0*zs.getD 1 0)
def XD(zs:List Int):Int:=IntKind.u32.wrap ((IntKind.i32.wrap (zs.getD 0 0)*IntKind.i32.wrap (zs.getD 1 0)).fdiv 4294967296)
def Gf(zs:List Int):Int:=IntKind.u32.wrap ((IntKind.i32.wrap (zs.getD 0 0)*zs.getD 1 0).fdiv 4294967296)
def X2(zs:List Int):Int:=IntKind.u32.wrap ((zs.getD 0 0*zs.getD 1 0).fdiv 4294967296)
theorem Yh(ρ:Env)(m k:Nat)(hm:m<2 ^ 32)(hk:k<2 ^ 32) (ha:xA.den ρ=(m:Int)) (hb:xB.den ρ=(k:Int)):acz.den ρ=ago [(m:Int),(k:Int)]:=by
 unfold acz lB hB
 simp only [X.den,ha,hb,ab7,XE]
 rw [nk (by omega)]
 show _=((m:Int)*(k:Int)) % 4294967296
 have hd:(k:Int)=65536*((k:Int) / 65536)+(k:Int) % 65536:=by omega
 have e:(m:Int)*(k:Int)=65536*((m:Int)*((k:Int) / 65536))+(m:Int)*((k:Int) % 65536):=by
  conv=>lhs;rw [hd]
  rw [Int.mul_add,Int.mul_left_comm]
 rw [e]
 generalize (m:Int)*((k:Int) / 65536)=p
 generalize (m:Int)*((k:Int) % 65536)=q
 omega
theorem N8(p:Int):(p % 18446744073709551616).tdiv 4294967296=(p.fdiv 4294967296) % 4294967296:=by
 rw [nk (by omega),Int.fdiv_eq_ediv_of_nonneg _ (by omega)]
 omega
theorem DM{ρ:Env}{x:X}{p:Int}(h:x.den ρ=p)(h1:-9223372036854775808≤p)(h2:p≤9223372036854775807):(Dk x).den ρ=IntKind.u32.wrap (p.fdiv 4294967296):=by
 unfold Dk
 simp only [X.den,h]
 have hw:IntKind.i64.wrap (p.tdiv 4294967296*4294967296)=p.tdiv 4294967296*4294967296:=by
  have h3:=Int.tmod_add_mul_tdiv p 4294967296
  have h4:-4294967296<p.tmod 4294967296:=Int.lt_tmod_of_pos _ (by omega)
  have h5:p.tmod 4294967296<4294967296:=Int.tmod_lt_of_pos _ (by omega)
  have h6:0≤p→0≤p.tmod 4294967296:=fun h=>Int.tmod_nonneg _ h
  have h7:p≤0→p.tmod 4294967296≤0:=fun h=>by
   have:=Int.tmod_nonneg (a:=-p) 4294967296 (by omega)
   rw [Int.neg_tmod] at this
   omega
  refine bp ?_ ?_<;>simp only [j6,lQ]<;>rcases Int.le_total 0 p with h8 | h8
  ·have:=h6 h8;omega
  ·have:=h7 h8;omega
  ·have:=h6 h8;omega
  ·have:=h7 h8;omega
 rw [hw,←JC (a:=p) (p:=4294967296) (by omega)]
 congr 1
 by_cases h3:p<0
 ·by_cases h4:p.tdiv 4294967296*4294967296=p<;>simp [h3,h4,bc]
 ·simp [h3,bc]
theorem vV(z:Int):-2147483648≤IntKind.i32.wrap z∧IntKind.i32.wrap z≤2147483647:=yK .i32 z
theorem ky{a b:Int}{m n:Int}(h1:-m≤a)(h2:a≤m)(h3:-n≤b)(h4:b≤n):-(m*n)≤a*b∧a*b≤m*n:=by
 have ha:(a.natAbs:Int)≤m:=by omega
 have hb:(b.natAbs:Int)≤n:=by omega
 have h5:((a*b).natAbs:Int)≤m*n:=by
  rw [Int.natAbs_mul,Int.natCast_mul]
  exact Int.mul_le_mul ha hb (by omega) (by omega)
 constructor<;>omega
theorem R8(ρ:Env)(m k:Nat)(hm:m<2 ^ 32)(hk:k<2 ^ 32) (ha:xA.den ρ=(m:Int)) (hb:xB.den ρ=(k:Int)):(Dk (.mul sA sB)).den ρ=XD [(m:Int),(k:Int)]:=by
 have e:(X.mul sA sB).den ρ=IntKind.i32.wrap (m:Int)*IntKind.i32.wrap (k:Int):=by simp only [sA,sB,X.den,ha,hb]
 have h1:=vV (m:Int)
 have h2:=vV (k:Int)
 have h3:=ky (m:=2147483648) (n:=2147483648) (by omega) (by omega:IntKind.i32.wrap (m:Int)≤2147483648) (by omega) (by omega:IntKind.i32.wrap (k:Int)≤2147483648)
 have:=DM e (by omega) (by omega)
 exact this
theorem MM(ρ:Env)(m k:Nat)(hm:m<2 ^ 32)(hk:k<2 ^ 32) (ha:xA.den ρ=(m:Int)) (hb:xB.den ρ=(k:Int)):(Dk (.mul sA xB)).den ρ=Gf [(m:Int),(k:Int)]:=by
 have e:(X.mul sA xB).den ρ=IntKind.i32.wrap (m:Int)*(k:Int):=by simp only [sA,X.den,ha,hb]
 have h1:=vV (m:Int)
 have h3:=ky (m:=2147483648) (n:=4294967295) (by omega) (by omega:IntKind.i32.wrap (m:Int)≤2147483648) (by omega) (by omega:(k:Int)≤4294967295)
 have:=DM e (by omega) (by omega)
 exact this
theorem Ut(ρ:Env)(m k:Nat)(_:m<2 ^ 32)(_:k<2 ^ 32) (ha:xA.den ρ=(m:Int)) (hb:xB.den ρ=(k:Int)):(Qn (.mul sA sB)).den ρ=XD [(m:Int),(k:Int)]:=by
 simp only [Qn,sA,sB,X.den,ha,hb,R7]
 rw [N8]
 rfl
theorem Nt(ρ:Env)(m k:Nat)(_:m<2 ^ 32)(_:k<2 ^ 32) (ha:xA.den ρ=(m:Int)) (hb:xB.den ρ=(k:Int)):(Qn (.mul sA xB)).den ρ=Gf [(m:Int),(k:Int)]:=by
 simp only [Qn,sA,X.den,ha,hb,R7]
 rw [N8]
 rfl
theorem PU(ρ:Env)(m k:Nat)(hm:m<2 ^ 32)(hk:k<2 ^ 32) (ha:xA.den ρ=(m:Int)) (hb:xB.den ρ=(k:Int)):Mn.den ρ=X2 [(m:Int),(k:Int)]:=by
 simp only [Mn,hA,hB,lA,lB,X.den,ha,hb,XE]
 show _=(((m:Int)*(k:Int)).fdiv 4294967296) % 4294967296
 have p0:(0:Int)≤(m:Int) / 65536:=by omega
 have p1:(0:Int)≤(k:Int) / 65536:=by omega
 have p2:(0:Int)≤(m:Int) % 65536:=by omega
 have p3:(0:Int)≤(k:Int) % 65536:=by omega
 have q0:=Int.mul_nonneg p0 p1
 have q1:=Int.mul_nonneg p0 p3
 have q2:=Int.mul_nonneg p2 p1
 have q3:=Int.mul_nonneg p2 p3
 rw [nk (show (0:Int)≤(m:Int) by omega),nk (show (0:Int)≤(k:Int) by omega),nk q3,nk (by omega),Int.fdiv_eq_ediv_of_nonneg _ (by omega)]
 have em:(m:Int)=65536*((m:Int) / 65536)+(m:Int) % 65536:=by omega
 have ek:(k:Int)=65536*((k:Int) / 65536)+(k:Int) % 65536:=by omega
 have l0:=ky (a:=(m:Int) / 65536) (b:=(k:Int) / 65536) (m:=65535) (n:=65535) (by omega) (by omega) (by omega) (by omega)
 have l1:=ky (a:=(m:Int) / 65536) (b:=(k:Int) % 65536) (m:=65535) (n:=65535) (by omega) (by omega) (by omega) (by omega)
 have l2:=ky (a:=(m:Int) % 65536) (b:=(k:Int) / 65536) (m:=65535) (n:=65535) (by omega) (by omega) (by omega) (by omega)
 have l3:=ky (a:=(m:Int) % 65536) (b:=(k:Int) % 65536) (m:=65535) (n:=65535) (by omega) (by omega) (by omega) (by omega)
 have e:(m:Int)*(k:Int)=4294967296*((m:Int) / 65536*((k:Int) / 65536))+65536*((m:Int) / 65536*((k:Int) % 65536))+65536*((m:Int) % 65536*((k:Int) / 65536))+(m:Int) % 65536*((k:Int) % 65536):=by
  generalize (m:Int) / 65536=a at *
  generalize (k:Int) / 65536=b at *
  generalize (m:Int) % 65536=c at *
  generalize (k:Int) % 65536=d at *
  rw [em,ek,Int.add_mul,Int.mul_add,Int.mul_add]
  rw [show (65536*a)*(65536*b)=4294967296*(a*b) by rw [Int.mul_assoc,Int.mul_left_comm a,←Int.mul_assoc];rfl,show (65536*a)*d=65536*(a*d) by rw [Int.mul_assoc],show c*(65536*b)=65536*(c*b) by rw [Int.mul_left_comm]]
  omega
 rw [e]
 generalize (m:Int) / 65536*((k:Int) / 65536)=P at *
 generalize (m:Int) / 65536*((k:Int) % 65536)=Q at *
 generalize (m:Int) % 65536*((k:Int) / 65536)=R at *
 generalize (m:Int) % 65536*((k:Int) % 65536)=S at *
 omega
def Nv(xs:List X):X:=mkMul .u32 (arg xs 0) (arg xs 1)
def qT(xs:List X):X:=mkWrap .u32 (ur .i64 (mkMul .i64 (mkWrap .i32 (arg xs 0)) (mkWrap .i32 (arg xs 1))) (.lit 32))
def kK(xs:List X):X:=mkWrap .u32 (ur .i64 (mkMul .i64 (mkWrap .i32 (arg xs 0)) (arg xs 1)) (.lit 32))
def tZ(xs:List X):X:=mkWrap .u32 (ur .u64 (mkMul .u64 (arg xs 0) (arg xs 1)) (.lit 32))
theorem JD(ρ:Env)(a b:X) (ha:InW (a.den ρ)) (hb:InW (b.den ρ)):(qT [a,b]).den ρ=XD [a.den ρ,b.den ρ]:=by
 have h1:=vV (a.den ρ)
 have h2:=vV (b.den ρ)
 have h3:=ky (m:=2147483648) (n:=2147483648) (by omega) (by omega:IntKind.i32.wrap (a.den ρ)≤2147483648) (by omega) (by omega:IntKind.i32.wrap (b.den ρ)≤2147483648)
 simp only [qT,arg,List.getD_cons_zero,List.getD_cons_succ,iE,kN,iT,X.den]
 rw [bp (k:=.i64) (by simp only [j6];omega) (by simp only [lQ];omega)]
 rfl
theorem zr(ρ:Env)(a b:X) (_:InW (a.den ρ)) (hb:InW (b.den ρ)):(kK [a,b]).den ρ=Gf [a.den ρ,b.den ρ]:=by
 have h1:=vV (a.den ρ)
 have h3:=ky (m:=2147483648) (n:=4294967295) (by omega) (by omega:IntKind.i32.wrap (a.den ρ)≤2147483648) (by have:=hb.1;omega) (hb.2)
 simp only [kK,arg,List.getD_cons_zero,List.getD_cons_succ,iE,kN,iT,X.den]
 rw [bp (k:=.i64) (by simp only [j6];omega) (by simp only [lQ];omega)]
 rfl
theorem QX(ρ:Env)(a b:X) (ha:InW (a.den ρ)) (hb:InW (b.den ρ)):(tZ [a,b]).den ρ=X2 [a.den ρ,b.den ρ]:=by
 have h3:=ky (a:=a.den ρ) (b:=b.den ρ) (m:=4294967295) (n:=4294967295) (by have:=ha.1;omega) ha.2 (by have:=hb.1;omega) hb.2
 have h4:=Int.mul_nonneg ha.1 hb.1
 simp only [tZ,arg,List.getD_cons_zero,List.getD_cons_succ,iE,kN,iT,X.den]
 rw [bp (k:=.u64) (by simp only [j6];omega) (by simp only [lQ];omega)]
 rfl
theorem ajN:cJ [] 7 ((ev Ks 4000).call 91 (fU 0 2++[]) (rI [] 7))=iD acz:=by rw [bP];kernel_rfl
theorem aiL:cJ [] 7 ((ev Ks 4000).call 92 (fU 0 2++[]) (rI [] 7))=iD (Dk (.mul sA sB)):=by rw [bP];kernel_rfl
theorem amQ:cJ [] 7 ((ev Ks 4000).call 93 (fU 0 2++[]) (rI [] 7))=iD (Dk (.mul sA xB)):=by rw [bP];kernel_rfl
theorem akU:cJ [] 7 ((ev Ks 4000).call 94 (fU 0 2++[]) (rI [] 7))=iD Mn:=by rw [bP];kernel_rfl
theorem ae8:cJ [] 7 ((ev Ks 4000).call 133 (fU 0 2++[]) (rI [] 7))=iD (Qn (.mul sA sB)) 8:=by rw [bP];kernel_rfl
theorem adt:cJ [] 7 ((ev Ks 4000).call 134 (fU 0 2++[]) (rI [] 7))=iD (Qn (.mul sA xB)) 8:=by rw [bP];kernel_rfl
theorem apK{ρ:Env}{c:Cx}(hc:c.ng=7):ct Tryz.prog c ρ 91 (lq [([],Nv)] 2):=
 tC Tryz.func91 (FZ ajN (fun ρ a b _ _=>by simp only [Nv,arg,ago,kN,List.getD_cons_zero,List.getD_cons_succ]) Yh) hc
theorem ar9{ρ:Env}{c:Cx}(hc:c.ng=7):ct Tryz.prog c ρ 92 (lq [([],qT)] 2):=tC Tryz.func92 (FZ aiL JD R8) hc
theorem apO{ρ:Env}{c:Cx}(hc:c.ng=7):ct Tryz.prog c ρ 93 (lq [([],kK)] 2):=tC Tryz.func93 (FZ amQ zr MM) hc
theorem apk{ρ:Env}{c:Cx}(hc:c.ng=7):ct Tryz.prog c ρ 94 (lq [([],tZ)] 2):=tC Tryz.func94 (FZ akU QX PU) hc
theorem al6{ρ:Env}{c:Cx}(hc:c.ng=7):ct Tryz.prog c ρ 133 (lq [([],qT)] 2):=tC Tryz.func133 (FZ (n:=8) ae8 JD Ut) hc
theorem akI{ρ:Env}{c:Cx}(hc:c.ng=7):ct Tryz.prog c ρ 134 (lq [([],kK)] 2):=tC Tryz.func134 (FZ (n:=8) adt zr Nt) hc
end
end Go.Proofs.YtmickljjofbmiaaGreatDoor
namespace Go.Proofs.YtmickljjofbmiaaGreatDoor
open Go Go.Proofs
noncomputable def aey:kP:=[(32,lq Fo 2),(91,lq [([],Nv)] 2),(92,lq [([],qT)] 2),(133,lq [([],qT)] 2),(93,lq [([],kK)] 2),(134,lq [([],kK)] 2),(94,lq [([],tZ)] 2),(88,lq [([],MF)] 2),(89,lq [([],Ly)] 2),(90,lq [([],Nf)] 2)]
theorem aqw{ro:Nat→Obj}:aM ro aey:=fun _ _ _ hc=>⟨aq8 hc,apK hc,ar9 hc,al6 hc,apO hc,akI hc,apk hc,aow hc,anR hc,arc hc,trivial⟩
end Go.Proofs.YtmickljjofbmiaaGreatDoor
