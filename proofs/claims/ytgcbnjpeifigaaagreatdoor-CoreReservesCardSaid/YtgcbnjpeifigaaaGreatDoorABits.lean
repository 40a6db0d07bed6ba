/- Words as bits, numbers within their kinds. Bitwise operations by sums of powers: the plain law, and the summary. Shifts and products of the reference: the plain laws, and the summaries. Products of the reference, and of the program: the plain laws, and the summaries. The symbols of the Ops' meanings as a list of summaries. No condition. -/
import Derived.Test.YtgcbnjpeifigaaaGreatDoorJDoor
import Derived.Test.YtgcbnjpeifigaaaGreatDoorFwH
set_option maxRecDepth 100000
namespace Go.Proofs.YtgcbnjpeifigaaaGreatDoor
open Go Go.Proofs
def InU(z:Int):Prop:=0<=z/\z<=4294967295
theorem fy{z:Int}(h:InU z):IntKind.u32.wrap z=z:=bV (by simp[m5];exact h.1) (by simp[nF];exact h.2)
theorem ze{ρ:Env}{π:Pl}{f:Nat}{regs:List Int}(hw:∀ z∈regs,InU z) (h:∀ j (h:j<regs.length),ρ.f1 f (Int.ofNat j)=regs[j]) {r:List V}:∀ (n j:Nat),j+n=regs.length->V.ae ρ π (Mm f j n r)=(regs.drop j).map (Value.int .u32)++V.ae ρ π r
 |0,j,e=>by
  rw[List.drop_of_length_le (by omega)];rfl
 |n+1,j,e=>by
  have hj:j<regs.length:=by omega
  rw[List.drop_eq_getElem_cons hj];simp only[Mm,V.ae,V.ab,X.den,h j hj,List.map_cons,List.cons_append];rw[fy (hw _ (List.getElem_mem hj)),ze hw h n (j+1) (by omega)]
def yd(o:Nat):Nat->List B
 |0=>[]
 |k+1=>.pos o::yd (o+1) k
theorem K0{ρ:Env}(l:List B)(t:B):∀ (k o:Nat),ay ρ (yd o k++l) t=eX (fun i=>ρ.b (o+i)) k+2 ^ k*ay ρ l t
 |0,o=>by simp[yd,eX]
 |k+1,o=>by
  rw[yd,List.cons_append,aC,K0 l t k (o+1),eX,Int.mul_add,show(2:Int) ^ (k+1)=2*2 ^ k from by rw[Int.pow_succ];omega,qz1];have:(fun i=>ρ.b (o+1+i))=fun i=>ρ.b (o+(i+1)):=funext fun i=>by rw[show o+1+i=o+(i+1) by omega]
  rw[this];show bp (ρ.b o)+_=bp (ρ.b (o+0))+_+_;rw[Nat.add_zero];omega
theorem Ks(n k:Nat):eX (fun i=>n.testBit i) k=((n % 2 ^ k:Nat):Int):=by
 rw[<-jO];congr 1;apply Nat.eq_of_testBit_eq;intro i;rw[tD,Nat.testBit_mod_two_pow]
theorem FR{ρ:Env}{o k:Nat}{n:Nat} (hb:∀ i,i<k->ρ.b (o+i)=n.testBit i) (l:List B) (t:B):ay ρ (yd o k++l) t=((n % 2 ^ k:Nat):Int)+2 ^ k*ay ρ l t:=by
 rw[K0,tC hb,Ks]
theorem I3{ρ:Env}{o k:Nat}{n:Int}(h0:0<=n)(h1:n<2 ^ k) (hb:∀ i,i<k->ρ.b (o+i)=n.toNat.testBit i):ay ρ (yd o k) .zero=n:=by
 have e:=FR (ρ:=ρ) (o:=o) (k:=k) hb [] .zero;rw[qk8]at e;rw[e];obtain⟨m,rfl⟩:=qkv h0;have hm:m<2 ^ k:=by exact_mod_cast h1
 rw[show(m:Int).toNat=m from rfl,Nat.mod_eq_of_lt hm];simp[ay,B.den,bp]
noncomputable section
def pw(i:Nat):X:=.lit (Int.ofNat (2 ^ i))
def Jt(v i:Nat):X:=match Nat.beq i 31 with
 |true=>.quo (.wrap .u32 (.var v)) (pw i)
 |false=>.rem (.quo (.wrap .u32 (.var v)) (pw i)) (.lit 2)
def ZB(how i:Nat):X:=match how with
 |0=>.ite (.eq (Jt 0 i) (Jt 1 i)) (.lit 0) (pw i)
 |1=>.ite (.lt (.lit 0) (.add (Jt 0 i) (Jt 1 i))) (pw i) (.lit 0)
 |_=>.ite (.eq (.add (Jt 0 i) (Jt 1 i)) (.lit 2)) (pw i) (.lit 0)
def UI(how:Nat):Nat->X
 |0=>ZB how 0
 |n+1=>.add (UI how n) (ZB how (n+1))
def Sa(how:Nat)(a b:Bool):Bool:=match how with
 |0=>a ^^ b
 |1=>a ||b
 |_=>a&&b
def Sc(how:Nat)(m k:Nat):Nat:=match how with
 |0=>m ^^^ k
 |1=>m |||k
 |_=>m &&& k
def abx:Nat->Nat
 |0=>2
 |1=>1
 |_=>0
theorem Ju{ρ:Env}{v i m:Nat} (h:IntKind.u32.wrap (ρ.v v)=(m:Int)) (hm:m<2 ^ 32):(Jt v i).den ρ=bp (m.testBit i):=by
 have e2:bp (m.testBit i)=((m / 2 ^ i % 2:Nat):Int):=by
  rw[Nat.testBit_eq_decide_div_mod_eq];unfold bp;rcases Nat.mod_two_eq_zero_or_one (m / 2 ^ i)with h2|h2<;>simp[h2]
 rw[e2];unfold Jt;split
 ·rename_i hb;obtain rfl:=qqq hb;simp only[X.den,h,pw];show(m:Int).tdiv ((2 ^ 31:Nat):Int)=_;rw[<-Int.ofNat_tdiv,Nat.mod_eq_of_lt (Nat.div_lt_of_lt_mul (by omega))]
 ·simp only[X.den,h,pw];show((m:Int).tdiv ((2 ^ i:Nat):Int)).tmod ((2:Nat):Int)=_;rw[<-Int.ofNat_tdiv,<-Int.ofNat_tmod]
theorem Jw{ρ:Env}{how i m k:Nat} (h0:IntKind.u32.wrap (ρ.v 0)=(m:Int)) (h1:IntKind.u32.wrap (ρ.v 1)=(k:Int)) (hm:m<2 ^ 32) (hk:k<2 ^ 32):(ZB how i).den ρ=2 ^ i*bp (Sa how (m.testBit i) (k.testBit i)):=by
 have e:(pw i).den ρ=2 ^ i:=by simp only[pw,X.den];norm_cast
 unfold ZB;split<;>simp only[X.den,Ju h0 hm,Ju h1 hk,e,Sa]<;>cases m.testBit i<;>cases k.testBit i<;>simp[bp]
theorem Jv{ρ:Env}{how m k:Nat} (h0:IntKind.u32.wrap (ρ.v 0)=(m:Int)) (h1:IntKind.u32.wrap (ρ.v 1)=(k:Int)) (hm:m<2 ^ 32) (hk:k<2 ^ 32):∀ n,(UI how n).den ρ=eX (fun i=>Sa how (m.testBit i) (k.testBit i)) (n+1)
 |0=>by
  rw[ow];simp only[UI,Jw h0 h1 hm hk,eX,Int.zero_add]
 |n+1=>by
  rw[ow,<-Jv h0 h1 hm hk n];simp only[UI,X.den,Jw h0 h1 hm hk]
theorem Vw(how m k i:Nat):(Sc how m k).testBit i=Sa how (m.testBit i) (k.testBit i):=by
 unfold Sc Sa;split<;>simp
theorem P1{how m k:Nat}(h0:m<2 ^ 32)(h1:k<2 ^ 32):Sc how m k<2 ^ 32:=by
 unfold Sc;split
 ·exact Nat.xor_lt_two_pow h0 h1
 ·exact Nat.or_lt_two_pow h0 h1
 ·exact Nat.and_lt_two_pow _ h1
theorem RP{how m k:Nat}(h0:m<2 ^ 32)(h1:k<2 ^ 32):gU (abx how) .u32 (m:Int) (k:Int)=((Sc how m k:Nat):Int):=by
 have e0:(BitVec.ofInt 32 (m:Int)).toNat=m:=by
  rw[BitVec.toNat_ofInt];have:((m:Int) % ((2 ^ 32:Nat):Int))=m:=Int.emod_eq_of_lt (by omega) (by exact_mod_cast h0);rw[this];rfl
 have e1:(BitVec.ofInt 32 (k:Int)).toNat=k:=by
  rw[BitVec.toNat_ofInt];have:((k:Int) % ((2 ^ 32:Nat):Int))=k:=Int.emod_eq_of_lt (by omega) (by exact_mod_cast h1);rw[this];rfl
 have hw:∀ x:Nat,x<2 ^ 32->IntKind.u32.wrap (x:Int)=(x:Int):=fun x hx=>bV (by simp[m5]) (by simp only[nF];omega)
 rw[<-hw _ (P1 (how:=how) h0 h1)];rcases how with _|_|n
 ·show IntKind.u32.wrap (((BitVec.ofInt 32 (m:Int) ^^^ BitVec.ofInt 32 (k:Int)).toNat:Nat):Int)=_;rw[BitVec.toNat_xor,e0,e1];rfl
 ·show IntKind.u32.wrap (((BitVec.ofInt 32 (m:Int) |||BitVec.ofInt 32 (k:Int)).toNat:Nat):Int)=_;rw[BitVec.toNat_or,e0,e1];rfl
 ·show IntKind.u32.wrap (((BitVec.ofInt 32 (m:Int) &&& BitVec.ofInt 32 (k:Int)).toNat:Nat):Int)=_;rw[BitVec.toNat_and,e0,e1];rfl
def n6(how:Nat):R Leaf:=.ok {v:=.int .u32 (UI how 31),objs:=[],n:=7}
def KC(how:Nat)(xs:List X):X:=oy (abx how) .u32 (xs.getD 0 (.lit 0)) (xs.getD 1 (.lit 0))
def Sb(how:Nat)(zs:List Int):Int:=gU (abx how) .u32 (zs.getD 0 0) (zs.getD 1 0)
theorem Bu(how:Nat)(ρ:Env)(zs:List Int)(hl:zs.length=2)(hz:∀ z∈zs,0<=z/\z<=4294967295) (hv:∀ j (h:j<zs.length),ρ.v j=zs[j]):∃ lf,(n6 how).ag ρ=some lf/\lf.objs=[]/\lf.n<=7+1000/\∀ π,lf.v.ab ρ π=.int .u32 (Sb how zs):=by
 match zs,hl with
 |[a,b],_=>
  have ha:=hz a (by simp);have hb:=hz b (by simp);obtain⟨m,rfl⟩:=qkv ha.1;obtain⟨k,rfl⟩:=qkv hb.1;have v0:ρ.v 0=(m:Int):=hv 0 (by simp);have v1:ρ.v 1=(k:Int):=hv 1 (by simp);have w:∀ x:Nat,(x:Int)<=4294967295->IntKind.u32.wrap (x:Int)=(x:Int):=fun x hx=>bV (by simp[m5]) (by simp only[nF];omega)
  have hm:m<2 ^ 32:=by omega
  have hk:k<2 ^ 32:=by omega
  refine⟨_,rfl,rfl,by show 7<=7+1000;omega,fun π=>?_⟩;simp only[V.ab];rw[Jv (m:=m) (k:=k) (by rw[v0,w m ha.2]) (by rw[v1,w k hb.2]) hm hk];have:(fun i=>Sa how (m.testBit i) (k.testBit i))=fun i=>(Sc how m k).testBit i:=funext fun i=>(Vw how m k i).symm
  rw[this,Ks,Nat.mod_eq_of_lt (P1 hm hk)];show _=Value.int .u32 (gU (abx how) .u32 (m:Int) (k:Int));rw[RP hm hk]
def JE:Cx:={cxD with mg:=true}
theorem Vx:cP [] 7 ((ev JE 4000).call 148 (gG 0 2++[.int .i64 (.lit 0)]) (sk [] 7))=n6 0:=by rw[cj];kernel_rfl
theorem Vy:cP [] 7 ((ev JE 4000).call 148 (gG 0 2++[.int .i64 (.lit 1)]) (sk [] 7))=n6 1:=by rw[cj];kernel_rfl
theorem Vz:cP [] 7 ((ev JE 4000).call 148 (gG 0 2++[.int .i64 (.lit 2)]) (sk [] 7))=n6 2:=by rw[cj];kernel_rfl
def IF:List (List V×(List X->X)):=[([.int .i64 (.lit 0)],KC 0),([.int .i64 (.lit 1)],KC 1),([.int .i64 (.lit 2)],KC 2)]
theorem Gw(how:Nat)(ρ:Env)(xs:List X)(hl:xs.length=2):(KC how xs).den ρ=Sb how (xs.map fun x=>x.den ρ):=by
 match xs,hl with
 |[a,b],_=>simp only[KC,Sb,oz];rfl
theorem aoM{ρ:Env}{c:Cx}(hc:c.ng=7):fM Tryz.prog c ρ 148 (lZ IF 2):=by
 refine Rc (cx0:=JE) (N:=4000) bG dh dV (fun ρ' _=>yv aoE) hc rfl Tryz.func148 fun x hx=>?_
 simp only[IF,List.mem_cons,qk6,or_false]at hx;rcases hx with rfl|rfl|rfl
 ·exact⟨Sb 0,n6 0,Vx,rfl,fun _ _ _ _=>rfl,fun ρ xs hl _=>Gw 0 ρ xs hl,Bu 0⟩
 ·exact⟨Sb 1,n6 1,Vy,rfl,fun _ _ _ _=>rfl,fun ρ xs hl _=>Gw 1 ρ xs hl,Bu 1⟩
 ·exact⟨Sb 2,n6 2,Vz,rfl,fun _ _ _ _=>rfl,fun ρ xs hl _=>Gw 2 ρ xs hl,Bu 2⟩
end
noncomputable section
def xA:X:=.wrap .u32 (.var 0)
def xB:X:=.wrap .u32 (.var 1)
def mX:X:=.rem xB (.lit 32)
def tower(g:Nat->X):Nat->Nat->X
 |i,0=>g i
 |i,k+1=>.ite (.lt (.lit (Int.ofNat i)) mX) (tower g (i+1) k) (g i)
theorem yy{ρ:Env}{g:Nat->X}{n:Nat} (h:mX.den ρ=(n:Int)):∀ (k i:Nat),i<=n->n<=i+k->(tower g i k).den ρ=(g n).den ρ
 |0,i,h1,h2=>by
  obtain rfl:n=i:=by omega
  rfl
 |k+1,i,h1,h2=>by
  unfold tower;simp only[X.den,h];by_cases hi:i<n
  ·have e:=yy (g:=g) h k (i+1) hi (by omega);simp[bp,e];omega
  ·obtain rfl:n=i:=by omega
   simp[bp]
def K1:X:=tower (fun i=>.lit (Int.ofNat (2 ^ i))) 0 31
def an8:X:=tower (fun i=>match i with|0=>xA|i=>.wrap .u32 (.mul xA (.lit (Int.ofNat (2 ^ i))))) 0 31
def aoa:X:=.wrap .u32 (.quo xA K1)
def sA:X:=.wrap .i32 xA
def an6:X:=.ite (.lt sA (.lit 0)) (.wrap .u32 (.ite (.eq (.mul (.quo sA K1) K1) sA) (.quo sA K1) (.sub (.quo sA K1) (.lit 1)))) (.wrap .u32 (.quo sA K1))
def jr(x:X)(n:Nat:=7):R Leaf:=.ok {v:=.int .u32 x,objs:=[],n:=n}
theorem asW{ρ:Env}{zs:List Int}(hl:zs.length=2)(hz:∀ z∈zs,0<=z/\z<=4294967295) (hv:∀ j (h:j<zs.length),ρ.v j=zs[j]):
  ∃ m k:Nat,zs=[(m:Int),(k:Int)]/\m<2 ^ 32/\k<2 ^ 32/\xA.den ρ=(m:Int)/\xB.den ρ=(k:Int):=by
 match zs,hl with
 |[a,b],_=>
  have ha:=hz a (by simp);have hb:=hz b (by simp);obtain⟨m,rfl⟩:=qkv ha.1;obtain⟨k,rfl⟩:=qkv hb.1;have v0:ρ.v 0=(m:Int):=hv 0 (by simp);have v1:ρ.v 1=(k:Int):=hv 1 (by simp);have w:∀ x:Nat,(x:Int)<=4294967295->IntKind.u32.wrap (x:Int)=(x:Int):=fun x hx=>bV (by simp[m5]) (by simp only[nF];omega)
  exact⟨m,k,rfl,by omega,by omega,by simp only[xA,X.den,v0,w m ha.2],by simp only[xB,X.den,v1,w k hb.2]⟩
theorem V0{ρ:Env}{k:Nat} (h:xB.den ρ=(k:Int)):mX.den ρ=((k % 32:Nat):Int):=by
 unfold mX;simp only[X.den];rw[h,show(32:Int)=((32:Nat):Int)from rfl,<-Int.ofNat_tmod]
theorem K2{ρ:Env}{k:Nat} (h:xB.den ρ=(k:Int)):K1.den ρ=((2 ^ (k % 32):Nat):Int):=by
 unfold K1;rw[yy (V0 h) 31 0 (by omega) (by omega)];rfl
theorem ari{x:X}{n:Nat}(hn:n<=7+1000){F:List Int->Int} (h:∀ (ρ:Env) (m k:Nat),m<2 ^ 32->k<2 ^ 32->xA.den ρ=(m:Int)->xB.den ρ=(k:Int)->x.den ρ=F [(m:Int),(k:Int)])
  (ρ:Env) (zs:List Int) (hl:zs.length=2) (hz:∀ z∈zs,0<=z/\z<=4294967295) (hv:∀ j (h:j<zs.length),ρ.v j=zs[j]):∃ lf,(jr x n).ag ρ=some lf/\lf.objs=[]/\lf.n<=7+1000/\∀ π,lf.v.ab ρ π=.int .u32 (F zs):=by
 obtain⟨m,k,rfl,hm,hk,ha,hb⟩:=asW hl hz hv;exact⟨_,rfl,rfl,hn,fun π=>by simp only[V.ab];rw[h ρ m k hm hk ha hb]⟩
theorem O5(k:Nat):(k:Int).tmod 32=((k % 32:Nat):Int):=by
 rw[show(32:Int)=((32:Nat):Int)from rfl,<-Int.ofNat_tmod]
def an7(zs:List Int):Int:=OX .u32 (zs.getD 0 0) ((zs.getD 1 0).tmod 32)
def an9(zs:List Int):Int:=yr .u32 (zs.getD 0 0) ((zs.getD 1 0).tmod 32)
def an5(zs:List Int):Int:=IntKind.u32.wrap (yr .i32 (IntKind.i32.wrap (zs.getD 0 0)) ((zs.getD 1 0).tmod 32))
theorem acC(ρ:Env)(m k:Nat)(hm:m<2 ^ 32)(_:k<2 ^ 32) (ha:xA.den ρ=(m:Int)) (hb:xB.den ρ=(k:Int)):an8.den ρ=an7 [(m:Int),(k:Int)]:=by
 have hlt:k % 32<32:=Nat.mod_lt _ (by omega);unfold an8;rw[yy (V0 hb) 31 0 (by omega) (by omega)];have e:an7 [(m:Int),(k:Int)]=IntKind.u32.wrap ((m:Int)*2 ^ (k % 32)):=by
  show IntKind.u32.wrap ((m:Int)*2 ^ (min ((k:Int).tmod 32).toNat 32))=_;rw[O5];rw[show((k % 32:Nat):Int).toNat=k % 32 from rfl,Nat.min_eq_left (by omega)]
 rw[e];split
 ·rename_i h0;rw[h0,ha];simp only[Int.pow_zero,Int.mul_one];exact(bV (by simp[m5]) (by simp only[nF];omega)).symm
 ·simp only[X.den,ha];show IntKind.u32.wrap ((m:Int)*((2 ^ (k % 32):Nat):Int))=_;norm_cast
theorem acE(ρ:Env)(m k:Nat)(hm:m<2 ^ 32)(_:k<2 ^ 32) (ha:xA.den ρ=(m:Int)) (hb:xB.den ρ=(k:Int)):aoa.den ρ=an9 [(m:Int),(k:Int)]:=by
 have hlt:k % 32<32:=Nat.mod_lt _ (by omega);unfold aoa;simp only[X.den,ha,K2 hb];have e:an9 [(m:Int),(k:Int)]=(m:Int).fdiv ((2 ^ (k % 32):Nat):Int):=by
  show(m:Int).fdiv (2 ^ (min ((k:Int).tmod 32).toNat 32))=_;rw[O5];rw[show((k % 32:Nat):Int).toNat=k % 32 from rfl,Nat.min_eq_left (by omega)];norm_cast
 have hp:=Nat.two_pow_pos (k % 32);generalize 2 ^ (k % 32)=q at *;have:m / q<=m:=Nat.div_le_self _ _;have e2:(m:Int).tdiv (q:Int)=((m / q:Nat):Int):=(Int.ofNat_tdiv _ _).symm;have e3:(m:Int) / (q:Int)=((m / q:Nat):Int):=by norm_cast
 rw[e,e2,qk4 _ (by omega),e3];generalize m / q=d at *;exact bV (by simp only[m5];omega) (by simp only[nF];omega)
theorem JK{a p:Int}(hp:0<p):(if a<0 then(if a.tdiv p*p=a then a.tdiv p else a.tdiv p-1)else a.tdiv p)=a.fdiv p:=by
 rw[qk4 _ (by omega)];have h2:=Int.mul_ediv_add_emod a p;have h3:=Int.emod_nonneg a (Int.ne_of_gt hp);have h4:=Int.emod_lt_of_pos a hp;split
 ·rename_i ha;have h5:a.tdiv p=-((-a) / p):=by
   rw[show a=-(-a) by omega,Int.neg_tdiv,Int.neg_neg,qkk (by omega)]
  have h6:=Int.mul_ediv_add_emod (-a) p;have h7:=Int.emod_nonneg (-a) (Int.ne_of_gt hp);have h8:=Int.emod_lt_of_pos (-a) hp;generalize hq:(-a) / p=q at *;generalize hd:a / p=d at *;rw[h5];have key:p*(d+q)=- (a % p)-((-a) % p):=by rw[Int.mul_add];omega
  split
  ·rename_i he;have e1:(-a) % p=0:=by
    have:-q*p=-(p*q):=by rw[Int.neg_mul,Int.mul_comm]
    omega
   rw[e1]at key;have:p*(d+q)<=0:=by omega
   have:-p<p*(d+q):=by omega
   have h9:d+q<=0:=Int.not_lt.1 fun hlt=>by
    have:p*1<=p*(d+q):=Int.mul_le_mul_of_nonneg_left (by omega) (by omega);omega
   have h10:-1<d+q:=Int.lt_of_not_ge fun hle=>by
    have:p*(d+q)<=p*(-1):=Int.mul_le_mul_of_nonneg_left hle (by omega);omega
   omega
  ·rename_i he;have e1:(-a) % p≠0:=fun h0=>he (by
    have:-q*p=-(p*q):=by rw[Int.neg_mul,Int.mul_comm]
    omega)
   have h9:d+q<0:=Int.lt_of_not_ge fun hge=>by
    have:p*0<=p*(d+q):=Int.mul_le_mul_of_nonneg_left hge (by omega);omega
   have h10:-2<d+q:=Int.lt_of_not_ge fun hle=>by
    have:p*(d+q)<=p*(-2):=Int.mul_le_mul_of_nonneg_left hle (by omega);omega
   omega
 ·rw[qkk (by omega)]
theorem acz(ρ:Env)(m k:Nat)(_:m<2 ^ 32)(_:k<2 ^ 32) (ha:xA.den ρ=(m:Int)) (hb:xB.den ρ=(k:Int)):an6.den ρ=an5 [(m:Int),(k:Int)]:=by
 have hlt:k % 32<32:=Nat.mod_lt _ (by omega);have hp:(0:Int)<((2 ^ (k % 32):Nat):Int):=by have:=Nat.two_pow_pos (k % 32);omega
 have hs:sA.den ρ=IntKind.i32.wrap (m:Int):=by unfold sA;simp only[X.den,ha]
 have e:an5 [(m:Int),(k:Int)]=IntKind.u32.wrap ((IntKind.i32.wrap (m:Int)).fdiv ((2 ^ (k % 32):Nat):Int)):=by
  show IntKind.u32.wrap ((IntKind.i32.wrap (m:Int)).fdiv (2 ^ (min ((k:Int).tmod 32).toNat 32)))=_;rw[O5];rw[show((k % 32:Nat):Int).toNat=k % 32 from rfl,Nat.min_eq_left (by omega)];norm_cast
 rw[e,<-JK hp];unfold an6;simp only[X.den,hs,K2 hb];generalize IntKind.i32.wrap (m:Int)=a;generalize ((2 ^ (k % 32):Nat):Int)=p;by_cases h1:a<0
 ·by_cases h2:a.tdiv p*p=a<;>simp[h1,h2,bp]
 ·simp[h1,bp]
def InW(z:Int):Prop:=0<=z/\z<=4294967295
theorem IC{n:Nat}{f:FuncId}{x:X}{mk:List X->X}{F:List Int->Int} (run:cP [] 7 ((ev JE 4000).call f (gG 0 2++[]) (sk [] 7))=jr x n) (den:∀ (ρ:Env) (a b:X),InW (a.den ρ)->InW (b.den ρ)->(mk [a,b]).den ρ=F [a.den ρ,b.den ρ])
  (h:∀ (ρ:Env) (m k:Nat),m<2 ^ 32->k<2 ^ 32->xA.den ρ=(m:Int)->xB.den ρ=(k:Int)->x.den ρ=F [(m:Int),(k:Int)]) (hn:n<=7+1000:=by omega):RowU JE 7 4000 2 f [] mk F (jr x n) where
 run:=run
 pure:=rfl
 closed:=fun _ _ _ _=>rfl
 den:=fun ρ xs hl hx=>by
  match xs,hl with
  |[a,b],_=>exact den ρ a b (hx a (by simp)) (hx b (by simp))
 spec:=fun ρ zs=>ari hn h ρ zs
theorem wz{n:Nat}{f:FuncId}{fn:Func} (hfn:Tryz.prog.funcs[f]?=some fn) {x:X} {mk:List X->X} {F:List Int->Int} (h:RowU JE 7 4000 2 f [] mk F (jr x n)) {ρ:Env} {c:Cx} (hc:c.ng=7):fM Tryz.prog c ρ f (lZ [([],mk)] 2):=by
 refine Rc (cx0:=JE) (N:=4000) bG dh dV (fun ρ' _=>yv aoE) hc rfl hfn fun x hx=>?_
 simp only[List.mem_cons,qk6,or_false]at hx;subst hx;exact⟨F,_,h⟩
def arg(xs:List X)(i:Nat):X:=xs.getD i (.lit 0)
def N2(xs:List X):X:=KE .u32 (arg xs 0) (yZ (arg xs 1) (.lit 32))
def N3(xs:List X):X:=uh .u32 (arg xs 0) (yZ (arg xs 1) (.lit 32))
def N1(xs:List X):X:=mkWrap .u32 (uh .i32 (mkWrap .i32 (arg xs 0)) (yZ (arg xs 1) (.lit 32)))
theorem anR:cP [] 7 ((ev JE 4000).call 242 (gG 0 2++[]) (sk [] 7))=jr an8:=by rw[cj];kernel_rfl
theorem anS:cP [] 7 ((ev JE 4000).call 243 (gG 0 2++[]) (sk [] 7))=jr aoa:=by rw[cj];kernel_rfl
theorem anT:cP [] 7 ((ev JE 4000).call 244 (gG 0 2++[]) (sk [] 7))=jr an6:=by rw[cj];kernel_rfl
theorem aoN{ρ:Env}{c:Cx}(hc:c.ng=7):fM Tryz.prog c ρ 242 (lZ [([],N2)] 2):=
 wz Tryz.func242 (IC anR (fun ρ a b _ _=>by simp only[N2,arg,an7,xM,kW,X.den,List.getD_cons_zero,List.getD_cons_succ]) acC) hc
theorem aoO{ρ:Env}{c:Cx}(hc:c.ng=7):fM Tryz.prog c ρ 243 (lZ [([],N3)] 2):=
 wz Tryz.func243 (IC anS (fun ρ a b _ _=>by simp only[N3,arg,an9,jc,kW,X.den,List.getD_cons_zero,List.getD_cons_succ]) acE) hc
theorem aoP{ρ:Env}{c:Cx}(hc:c.ng=7):fM Tryz.prog c ρ 244 (lZ [([],N1)] 2):=
 wz Tryz.func244 (IC anT (fun ρ a b _ _=>by simp only[N1,arg,an5,jc,jd,kW,X.den,List.getD_cons_zero,List.getD_cons_succ]) acz) hc
end
noncomputable section
def hB:X:=.quo xB (.lit 65536)
def lB:X:=.wrap .u16 xB
def hA:X:=.quo xA (.lit 65536)
def lA:X:=.wrap .u16 xA
def anj:X:=.wrap .u32 (.add (.mul xA lB) (.mul (.wrap .u16 (.wrap .u32 (.mul xA hB))) (.lit 65536)))
def sB:X:=.wrap .i32 xB
def D0(p:X):X:=.wrap .u32 (.ite (.lt p (.lit 0)) (.ite (.eq (.wrap .i64 (.mul (.quo p (.lit 4294967296)) (.lit 4294967296))) p) (.quo p (.lit 4294967296)) (.sub (.quo p (.lit 4294967296)) (.lit 1))) (.quo p (.lit 4294967296)))
def Th(p:X):X:=.quo (.wrap .u64 p) (.lit 4294967296)
def N6:X:=.add (.mul hA hB) (.quo (.add (.add (.mul hA lB) (.mul lA hB)) (.quo (.mul lA lB) (.lit 65536))) (.lit 65536))
theorem aoi(z:Int):IntKind.u32.wrap z=z % 4294967296:=rfl
theorem YT(z:Int):IntKind.u16.wrap z=z % 65536:=rfl
theorem YV(z:Int):IntKind.u64.wrap z=z % 18446744073709551616:=rfl
theorem nV{a:Int}(h:0<=a)(b:Int):a.tdiv b=a / b:=qkk h
def aps(zs:List Int):Int:=IntKind.u32.wrap (zs.getD 0 0*zs.getD 1 0)
def V4(zs:List Int):Int:=IntKind.u32.wrap ((IntKind.i32.wrap (zs.getD 0 0)*IntKind.i32.wrap (zs.getD 1 0)).fdiv 4294967296)
def GU(zs:List Int):Int:=IntKind.u32.wrap ((IntKind.i32.wrap (zs.getD 0 0)*zs.getD 1 0).fdiv 4294967296)
def V7(zs:List Int):Int:=IntKind.u32.wrap ((zs.getD 0 0*zs.getD 1 0).fdiv 4294967296)
theorem abT(ρ:Env)(m k:Nat)(_:m<2 ^ 32)(hk:k<2 ^ 32) (ha:xA.den ρ=(m:Int)) (hb:xB.den ρ=(k:Int)):anj.den ρ=aps [(m:Int),(k:Int)]:=by
 unfold anj lB hB;simp only[X.den,ha,hb,aoi,YT];rw[nV (by omega)];show _=((m:Int)*(k:Int)) % 4294967296;have hd:(k:Int)=65536*((k:Int) / 65536)+(k:Int) % 65536:=by omega
 have e:(m:Int)*(k:Int)=65536*((m:Int)*((k:Int) / 65536))+(m:Int)*((k:Int) % 65536):=by
  conv=>lhs;rw[hd]
  rw[Int.mul_add,Int.mul_left_comm]
 rw[e];generalize (m:Int)*((k:Int) / 65536)=p;generalize (m:Int)*((k:Int) % 65536)=q;omega
theorem Rp(p:Int):(p % 18446744073709551616).tdiv 4294967296=(p.fdiv 4294967296) % 4294967296:=by
 rw[nV (by omega),qk4 _ (by omega)];omega
theorem D1{ρ:Env}{x:X}{p:Int}(h:x.den ρ=p)(h1:-9223372036854775808<=p)(h2:p<=9223372036854775807):(D0 x).den ρ=IntKind.u32.wrap (p.fdiv 4294967296):=by
 unfold D0;simp only[X.den,h];have hw:IntKind.i64.wrap (p.tdiv 4294967296*4294967296)=p.tdiv 4294967296*4294967296:=by
  have h3:=Int.tmod_add_mul_tdiv p 4294967296;have h4:-4294967296<p.tmod 4294967296:=Int.lt_tmod_of_pos _ (by omega);have h5:p.tmod 4294967296<4294967296:=Int.tmod_lt_of_pos _ (by omega);have h6:0<=p->0<=p.tmod 4294967296:=fun h=>Int.tmod_nonneg _ h
  have h7:p<=0->p.tmod 4294967296<=0:=fun h=>by
   have:=Int.tmod_nonneg (a:=-p) 4294967296 (by omega);rw[Int.neg_tmod]at this;omega
  refine bV ?_ ?_<;>simp only[m5,nF]<;>rcases Int.le_total 0 p with h8|h8
  ·have:=h6 h8;omega
  ·have:=h7 h8;omega
  ·have:=h6 h8;omega
  ·have:=h7 h8;omega
 rw[hw,<-JK (a:=p) (p:=4294967296) (by omega)];congr 1;by_cases h3:p<0
 ·by_cases h4:p.tdiv 4294967296*4294967296=p<;>simp[h3,h4,bp]
 ·simp[h3,bp]
theorem xp(z:Int):-2147483648<=IntKind.i32.wrap z/\IntKind.i32.wrap z<=2147483647:=sa .i32 z
theorem kF{a b:Int}{m n:Int}(h1:-m<=a)(h2:a<=m)(h3:-n<=b)(h4:b<=n):-(m*n)<=a*b/\a*b<=m*n:=by
 have ha:(a.natAbs:Int)<=m:=by omega
 have hb:(b.natAbs:Int)<=n:=by omega
 have h5:((a*b).natAbs:Int)<=m*n:=by
  rw[Int.natAbs_mul,Int.natCast_mul];exact Int.mul_le_mul ha hb (by omega) (by omega)
 constructor<;>omega
theorem V6(ρ:Env)(m k:Nat)(_:m<2 ^ 32)(_:k<2 ^ 32) (ha:xA.den ρ=(m:Int)) (hb:xB.den ρ=(k:Int)):(D0 (.mul sA sB)).den ρ=V4 [(m:Int),(k:Int)]:=by
 have e:(X.mul sA sB).den ρ=IntKind.i32.wrap (m:Int)*IntKind.i32.wrap (k:Int):=by simp only[sA,sB,X.den,ha,hb]
 have h1:=xp (m:Int);have h2:=xp (k:Int);have h3:=kF (m:=2147483648) (n:=2147483648) (by omega) (by omega:IntKind.i32.wrap (m:Int)<=2147483648) (by omega) (by omega:IntKind.i32.wrap (k:Int)<=2147483648);have:=D1 e (by omega) (by omega);exact this
theorem N5(ρ:Env)(m k:Nat)(_:m<2 ^ 32)(hk:k<2 ^ 32) (ha:xA.den ρ=(m:Int)) (hb:xB.den ρ=(k:Int)):(D0 (.mul sA xB)).den ρ=GU [(m:Int),(k:Int)]:=by
 have e:(X.mul sA xB).den ρ=IntKind.i32.wrap (m:Int)*(k:Int):=by simp only[sA,X.den,ha,hb]
 have h1:=xp (m:Int);have h3:=kF (m:=2147483648) (n:=4294967295) (by omega) (by omega:IntKind.i32.wrap (m:Int)<=2147483648) (by omega) (by omega:(k:Int)<=4294967295);have:=D1 e (by omega) (by omega);exact this
theorem V5(ρ:Env)(m k:Nat)(_:m<2 ^ 32)(_:k<2 ^ 32) (ha:xA.den ρ=(m:Int)) (hb:xB.den ρ=(k:Int)):(Th (.mul sA sB)).den ρ=V4 [(m:Int),(k:Int)]:=by
 simp only[Th,sA,sB,X.den,ha,hb,YV];rw[Rp];rfl
theorem N4(ρ:Env)(m k:Nat)(_:m<2 ^ 32)(_:k<2 ^ 32) (ha:xA.den ρ=(m:Int)) (hb:xB.den ρ=(k:Int)):(Th (.mul sA xB)).den ρ=GU [(m:Int),(k:Int)]:=by
 simp only[Th,sA,X.den,ha,hb,YV];rw[Rp];rfl
theorem Su(ρ:Env)(m k:Nat)(hm:m<2 ^ 32)(hk:k<2 ^ 32) (ha:xA.den ρ=(m:Int)) (hb:xB.den ρ=(k:Int)):N6.den ρ=V7 [(m:Int),(k:Int)]:=by
 simp only[N6,hA,hB,lA,lB,X.den,ha,hb,YT];show _=(((m:Int)*(k:Int)).fdiv 4294967296) % 4294967296;have p0:(0:Int)<=(m:Int) / 65536:=by omega
 have p1:(0:Int)<=(k:Int) / 65536:=by omega
 have p2:(0:Int)<=(m:Int) % 65536:=by omega
 have p3:(0:Int)<=(k:Int) % 65536:=by omega
 have q0:=Int.mul_nonneg p0 p1;have q1:=Int.mul_nonneg p0 p3;have q2:=Int.mul_nonneg p2 p1;have q3:=Int.mul_nonneg p2 p3;rw[nV (show(0:Int)<=(m:Int) by omega),nV (show(0:Int)<=(k:Int) by omega),nV q3,nV (by omega),qk4 _ (by omega)];have em:(m:Int)=65536*((m:Int) / 65536)+(m:Int) % 65536:=by omega
 have ek:(k:Int)=65536*((k:Int) / 65536)+(k:Int) % 65536:=by omega
 have l0:=kF (a:=(m:Int) / 65536) (b:=(k:Int) / 65536) (m:=65535) (n:=65535) (by omega) (by omega) (by omega) (by omega);have l1:=kF (a:=(m:Int) / 65536) (b:=(k:Int) % 65536) (m:=65535) (n:=65535) (by omega) (by omega) (by omega) (by omega);have l2:=kF (a:=(m:Int) % 65536) (b:=(k:Int) / 65536) (m:=65535) (n:=65535) (by omega) (by omega) (by omega) (by omega);have l3:=kF (a:=(m:Int) % 65536) (b:=(k:Int) % 65536) (m:=65535) (n:=65535) (by omega) (by omega) (by omega) (by omega);have e:(m:Int)*(k:Int)=4294967296*((m:Int) / 65536*((k:Int) / 65536))+65536*((m:Int) / 65536*((k:Int) % 65536))+65536*((m:Int) % 65536*((k:Int) / 65536))+(m:Int) % 65536*((k:Int) % 65536):=by
  generalize (m:Int) / 65536=a at *;generalize (k:Int) / 65536=b at *;generalize (m:Int) % 65536=c at *;generalize (k:Int) % 65536=d at *;rw[em,ek,Int.add_mul,Int.mul_add,Int.mul_add];rw[show(65536*a)*(65536*b)=4294967296*(a*b) by rw[qz1,Int.mul_left_comm a,<-qz1];rfl,show(65536*a)*d=65536*(a*d) by rw[qz1],show c*(65536*b)=65536*(c*b) by rw[Int.mul_left_comm]];omega
 rw[e];generalize (m:Int) / 65536*((k:Int) / 65536)=P at *;generalize (m:Int) / 65536*((k:Int) % 65536)=Q at *;generalize (m:Int) % 65536*((k:Int) / 65536)=R at *;generalize (m:Int) % 65536*((k:Int) % 65536)=S at *;omega
def N0(xs:List X):X:=mkMul .u32 (arg xs 0) (arg xs 1)
def rj(xs:List X):X:=mkWrap .u32 (uh .i64 (mkMul .i64 (mkWrap .i32 (arg xs 0)) (mkWrap .i32 (arg xs 1))) (.lit 32))
def kV(xs:List X):X:=mkWrap .u32 (uh .i64 (mkMul .i64 (mkWrap .i32 (arg xs 0)) (arg xs 1)) (.lit 32))
def uZ(xs:List X):X:=mkWrap .u32 (uh .u64 (mkMul .u64 (arg xs 0) (arg xs 1)) (.lit 32))
theorem KF(ρ:Env)(a b:X) (_:InW (a.den ρ)) (_:InW (b.den ρ)):(rj [a,b]).den ρ=V4 [a.den ρ,b.den ρ]:=by
 have h1:=xp (a.den ρ);have h2:=xp (b.den ρ);have h3:=kF (m:=2147483648) (n:=2147483648) (by omega) (by omega:IntKind.i32.wrap (a.den ρ)<=2147483648) (by omega) (by omega:IntKind.i32.wrap (b.den ρ)<=2147483648);simp only[rj,arg,List.getD_cons_zero,List.getD_cons_succ,jc,kU,jd,X.den];rw[bV (k:=.i64) (by simp only[m5];omega) (by simp only[nF];omega)];rfl
theorem B1(ρ:Env)(a b:X) (_:InW (a.den ρ)) (hb:InW (b.den ρ)):(kV [a,b]).den ρ=GU [a.den ρ,b.den ρ]:=by
 have h1:=xp (a.den ρ);have h3:=kF (m:=2147483648) (n:=4294967295) (by omega) (by omega:IntKind.i32.wrap (a.den ρ)<=2147483648) (by have:=hb.1;omega) (hb.2);simp only[kV,arg,List.getD_cons_zero,List.getD_cons_succ,jc,kU,jd,X.den];rw[bV (k:=.i64) (by simp only[m5];omega) (by simp only[nF];omega)];rfl
theorem Ss(ρ:Env)(a b:X) (ha:InW (a.den ρ)) (hb:InW (b.den ρ)):(uZ [a,b]).den ρ=V7 [a.den ρ,b.den ρ]:=by
 have h3:=kF (a:=a.den ρ) (b:=b.den ρ) (m:=4294967295) (n:=4294967295) (by have:=ha.1;omega) ha.2 (by have:=hb.1;omega) hb.2;have h4:=Int.mul_nonneg ha.1 hb.1;simp only[uZ,arg,List.getD_cons_zero,List.getD_cons_succ,jc,kU,jd,X.den];rw[bV (k:=.u64) (by simp only[m5];omega) (by simp only[nF];omega)];rfl
theorem anU:cP [] 7 ((ev JE 4000).call 245 (gG 0 2++[]) (sk [] 7))=jr anj:=by rw[cj];kernel_rfl
theorem anV:cP [] 7 ((ev JE 4000).call 246 (gG 0 2++[]) (sk [] 7))=jr (D0 (.mul sA sB)):=by rw[cj];kernel_rfl
theorem anW:cP [] 7 ((ev JE 4000).call 247 (gG 0 2++[]) (sk [] 7))=jr (D0 (.mul sA xB)):=by rw[cj];kernel_rfl
theorem anX:cP [] 7 ((ev JE 4000).call 248 (gG 0 2++[]) (sk [] 7))=jr N6:=by rw[cj];kernel_rfl
theorem anY:cP [] 7 ((ev JE 4000).call 280 (gG 0 2++[]) (sk [] 7))=jr (Th (.mul sA sB)) 8:=by rw[cj];kernel_rfl
theorem anZ:cP [] 7 ((ev JE 4000).call 281 (gG 0 2++[]) (sk [] 7))=jr (Th (.mul sA xB)) 8:=by rw[cj];kernel_rfl
theorem aoQ{ρ:Env}{c:Cx}(hc:c.ng=7):fM Tryz.prog c ρ 245 (lZ [([],N0)] 2):=
 wz Tryz.func245 (IC anU (fun ρ a b _ _=>by simp only[N0,arg,aps,kU,List.getD_cons_zero,List.getD_cons_succ]) abT) hc
theorem aoR{ρ:Env}{c:Cx}(hc:c.ng=7):fM Tryz.prog c ρ 246 (lZ [([],rj)] 2):=wz Tryz.func246 (IC anV KF V6) hc
theorem aoS{ρ:Env}{c:Cx}(hc:c.ng=7):fM Tryz.prog c ρ 247 (lZ [([],kV)] 2):=wz Tryz.func247 (IC anW B1 N5) hc
theorem aoT{ρ:Env}{c:Cx}(hc:c.ng=7):fM Tryz.prog c ρ 248 (lZ [([],uZ)] 2):=wz Tryz.func248 (IC anX Ss Su) hc
theorem aoU{ρ:Env}{c:Cx}(hc:c.ng=7):fM Tryz.prog c ρ 280 (lZ [([],rj)] 2):=wz Tryz.func280 (IC (n:=8) anY KF V5) hc
theorem aoV{ρ:Env}{c:Cx}(hc:c.ng=7):fM Tryz.prog c ρ 281 (lZ [([],kV)] 2):=wz Tryz.func281 (IC (n:=8) anZ B1 N4) hc
end
noncomputable def aob:l9:=[(148,lZ IF 2),(245,lZ [([],N0)] 2),(246,lZ [([],rj)] 2),(280,lZ [([],rj)] 2),(247,lZ [([],kV)] 2),(281,lZ [([],kV)] 2),(248,lZ [([],uZ)] 2),(242,lZ [([],N2)] 2),(243,lZ [([],N3)] 2),(244,lZ [([],N1)] 2)]
theorem at4{ro:Nat->Obj}:aO ro aob:=fun _ _ _ hc=>⟨aoM hc,aoQ hc,aoR hc,aoU hc,aoS hc,aoV hc,aoT hc,aoN hc,aoO hc,aoP hc,trivial⟩
end Go.Proofs.YtgcbnjpeifigaaaGreatDoor
