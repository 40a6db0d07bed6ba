/- Words as bits, numbers within their kinds. Bitwise operations by sums of powers: the plain law, and the summary. Shifts and products of the reference: the plain laws, and the summaries. Products of the reference, and of the program: the plain laws, and the summaries. The symbols of the Ops' meanings as a list of summaries. No condition. -/
import Derived.Test.YtmickljjofbmiaaGreatDoorADoor
import Derived.Test.YtmickljjofbmiaaGreatDoorFwH
set_option maxRecDepth 100000
namespace Go.Proofs.YtmickljjofbmiaaGreatDoor
open Go Go.Proofs
def InU(z:Int):Prop:=0≤z∧z≤4294967295
def InI(z:Int):Prop:=-9223372036854775808≤z∧z≤9223372036854775807
theorem wL{z:Int}(h:InU z):IntKind.u32.wrap z=z:=bn (by simp [jT];exact h.1) (by simp [kR];exact h.2)
theorem am9{z:Int}(h:InI z):IntKind.i64.wrap z=z:=bn (by simp [jT];exact h.1) (by simp [kR];exact h.2)
theorem xw{ρ:Env}{π:Pl}{f:Nat}{regs:List Int}(hw:∀ z∈regs,InU z) (h:∀ j (h:j<regs.length),ρ.f1 f (Int.ofNat j)=regs[j]) {r:List V}:∀ (n j:Nat),j+n=regs.length→V.af ρ π (Ko f j n r)=(regs.drop j).map (Value.int .u32)++V.af ρ π r
 | 0,j,e=>by
  rw [List.drop_of_length_le (by omega)]
  rfl
 | n+1,j,e=>by
  have hj:j<regs.length:=by omega
  rw [List.drop_eq_getElem_cons hj]
  simp only [Ko,V.af,V.ae,X.den,h j hj,List.map_cons,List.cons_append]
  rw [wL (hw _ (List.getElem_mem hj)),xw hw h n (j+1) (by omega)]
def tL(o:Nat):Nat→List B
 | 0=>[]
 | k+1=>.pos o::tL (o+1) k
theorem IE{ρ:Env}(l:List B)(t:B):∀ (k o:Nat),ar ρ (tL o k++l) t=dY (fun i=>ρ.b (o+i)) k+2 ^ k*ar ρ l t
 | 0,o=>by simp [tL,dY]
 | k+1,o=>by
  rw [tL,List.cons_append,aB,IE l t k (o+1),dY,Int.mul_add,show (2:Int) ^ (k+1)=2*2 ^ k from by rw [Int.pow_succ];omega,Int.mul_assoc]
  have:(fun i=>ρ.b (o+1+i))=fun i=>ρ.b (o+(i+1)):=funext fun i=>by rw [show o+1+i=o+(i+1) by omega]
  rw [this]
  show a7 (ρ.b o)+_=a7 (ρ.b (o+0))+_+_
  rw [Nat.add_zero]
  omega
theorem G4(n k:Nat):dY (fun i=>n.testBit i) k=((n % 2 ^ k:Nat):Int):=by
 rw [←iS]
 congr 1
 apply Nat.eq_of_testBit_eq
 intro i
 rw [rW,Nat.testBit_mod_two_pow]
theorem DC{ρ:Env}{o k:Nat}{n:Nat} (hb:∀ i,i<k→ρ.b (o+i)=n.testBit i) (l:List B) (t:B):ar ρ (tL o k++l) t=((n % 2 ^ k:Nat):Int)+2 ^ k*ar ρ l t:=by
 rw [IE,rV hb,G4]
theorem Fz{ρ:Env}{o k:Nat}{n:Int}(h0:0≤n)(h1:n<2 ^ k) (hb:∀ i,i<k→ρ.b (o+i)=n.toNat.testBit i):ar ρ (tL o k) .zero=n:=by
 have e:=DC (ρ:=ρ) (o:=o) (k:=k) hb [] .zero
 rw [List.append_nil] at e
 rw [e]
 obtain⟨m,rfl⟩:=Int.eq_ofNat_of_zero_le h0
 have hm:m<2 ^ k:=by exact_mod_cast h1
 rw [show (m:Int).toNat=m from rfl,Nat.mod_eq_of_lt hm]
 simp [ar,B.den,a7]
def agm(o n:Nat):X:=.bv (tL o n) .zero
def Ns(i:Nat):X:=.cube (2 ^ i) (2 ^ i)
def aqk(op rd r1 r2:X):V:=.agg [.int .i64 op,.int .i64 rd,.int .i64 r1,.int .i64 r2,.int .u32 (agm 15 32),.bool (Ns 47),.bool (Ns 48)]
theorem alL{ρ:Env}(i:Nat):(Ns i).tt ρ=ρ.b i:=by
 have h:=Gc (ρ:=ρ) (i:=i) (b:=true)
 rw [X.tt]
 unfold Ns
 rw [X.den,dd]
 cases hb:ρ.b i with
 | true=>exact h.2 hb
 | false=>
  cases hc:bg ρ (2 ^ i) (2 ^ i) with
  | false=>rfl
  | true=>
   rw [h.1 hc] at hb
   cases hb
end Go.Proofs.YtmickljjofbmiaaGreatDoor
namespace Go.Proofs.YtmickljjofbmiaaGreatDoor
open Go Go.Proofs
noncomputable section
def pw(i:Nat):X:=.lit (Int.ofNat (2 ^ i))
def FY(v i:Nat):X:=match Nat.beq i 31 with
 | true=>.quo (.wrap .u32 (.var v)) (pw i)
 | false=>.rem (.quo (.wrap .u32 (.var v)) (pw i)) (.lit 2)
def XL(how i:Nat):X:=match how with
 | 0=>.ite (.eq (FY 0 i) (FY 1 i)) (.lit 0) (pw i)
 | 1=>.ite (.lt (.lit 0) (.add (FY 0 i) (FY 1 i))) (pw i) (.lit 0)
 | _=>.ite (.eq (.add (FY 0 i) (FY 1 i)) (.lit 2)) (pw i) (.lit 0)
def Rc(how:Nat):Nat→X
 | 0=>XL how 0
 | n+1=>.add (Rc how n) (XL how (n+1))
def Pk(how:Nat)(a b:Bool):Bool:=match how with
 | 0=>a ^^ b
 | 1=>a || b
 | _=>a&&b
def Pn(how:Nat)(m k:Nat):Nat:=match how with
 | 0=>m ^^^ k
 | 1=>m ||| k
 | _=>m &&& k
def X7:Nat→Nat
 | 0=>2
 | 1=>1
 | _=>0
theorem FZ{ρ:Env}{v i m:Nat} (h:IntKind.u32.wrap (ρ.v v)=(m:Int)) (hm:m<2 ^ 32):(FY v i).den ρ=a7 (m.testBit i):=by
 have e2:a7 (m.testBit i)=((m / 2 ^ i % 2:Nat):Int):=by
  rw [Nat.testBit_eq_decide_div_mod_eq]
  unfold a7
  rcases Nat.mod_two_eq_zero_or_one (m / 2 ^ i) with h2 | h2<;>simp [h2]
 rw [e2]
 unfold FY
 split
 ·rename_i hb
  obtain rfl:=Nat.eq_of_beq_eq_true hb
  simp only [X.den,h,pw]
  show (m:Int).tdiv ((2 ^ 31:Nat):Int)=_
  rw [←Int.ofNat_tdiv,Nat.mod_eq_of_lt (Nat.div_lt_of_lt_mul (by omega))]
 ·simp only [X.den,h,pw]
  show ((m:Int).tdiv ((2 ^ i:Nat):Int)).tmod ((2:Nat):Int)=_
  rw [←Int.ofNat_tdiv,←Int.ofNat_tmod]
theorem F0{ρ:Env}{how i m k:Nat} (h0:IntKind.u32.wrap (ρ.v 0)=(m:Int)) (h1:IntKind.u32.wrap (ρ.v 1)=(k:Int)) (hm:m<2 ^ 32) (hk:k<2 ^ 32):(XL how i).den ρ=2 ^ i*a7 (Pk how (m.testBit i) (k.testBit i)):=by
 have e:(pw i).den ρ=2 ^ i:=by simp only [pw,X.den];norm_cast
 unfold XL
 split<;>simp only [X.den,FZ h0 hm,FZ h1 hk,e,Pk]<;>cases m.testBit i<;>cases k.testBit i<;>simp [a7]
theorem Fh{ρ:Env}{how m k:Nat} (h0:IntKind.u32.wrap (ρ.v 0)=(m:Int)) (h1:IntKind.u32.wrap (ρ.v 1)=(k:Int)) (hm:m<2 ^ 32) (hk:k<2 ^ 32):∀ n,(Rc how n).den ρ=dY (fun i=>Pk how (m.testBit i) (k.testBit i)) (n+1)
 | 0=>by
  rw [nq]
  simp only [Rc,F0 h0 h1 hm hk,dY,Int.zero_add]
 | n+1=>by
  rw [nq,←Fh h0 h1 hm hk n]
  simp only [Rc,X.den,F0 h0 h1 hm hk]
theorem RP(how m k i:Nat):(Pn how m k).testBit i=Pk how (m.testBit i) (k.testBit i):=by
 unfold Pn Pk
 split<;>simp
theorem Nw{how m k:Nat}(h0:m<2 ^ 32)(h1:k<2 ^ 32):Pn how m k<2 ^ 32:=by
 unfold Pn
 split
 ·exact Nat.xor_lt_two_pow h0 h1
 ·exact Nat.or_lt_two_pow h0 h1
 ·exact Nat.and_lt_two_pow _ h1
theorem OU{how m k:Nat}(h0:m<2 ^ 32)(h1:k<2 ^ 32):gq (X7 how) .u32 (m:Int) (k:Int)=((Pn how m k:Nat):Int):=by
 have e0:(BitVec.ofInt 32 (m:Int)).toNat=m:=by
  rw [BitVec.toNat_ofInt]
  have:((m:Int) % ((2 ^ 32:Nat):Int))=m:=Int.emod_eq_of_lt (by omega) (by exact_mod_cast h0)
  rw [this]
  rfl
 have e1:(BitVec.ofInt 32 (k:Int)).toNat=k:=by
  rw [BitVec.toNat_ofInt]
  have:((k:Int) % ((2 ^ 32:Nat):Int))=k:=Int.emod_eq_of_lt (by omega) (by exact_mod_cast h1)
  rw [this]
  rfl
 have hw:∀ x:Nat,x<2 ^ 32→IntKind.u32.wrap (x:Int)=(x:Int):=fun x hx=>bn (by simp [jT]) (by simp only [kR];omega)
 rw [←hw _ (Nw (how:=how) h0 h1)]
 rcases how with _ | _ | n
 ·show IntKind.u32.wrap (((BitVec.ofInt 32 (m:Int) ^^^ BitVec.ofInt 32 (k:Int)).toNat:Nat):Int)=_
  rw [BitVec.toNat_xor,e0,e1];rfl
 ·show IntKind.u32.wrap (((BitVec.ofInt 32 (m:Int) ||| BitVec.ofInt 32 (k:Int)).toNat:Nat):Int)=_
  rw [BitVec.toNat_or,e0,e1];rfl
 ·show IntKind.u32.wrap (((BitVec.ofInt 32 (m:Int) &&& BitVec.ofInt 32 (k:Int)).toNat:Nat):Int)=_
  rw [BitVec.toNat_and,e0,e1];rfl
def mW(how:Nat):R Leaf:=.ok {v:=.int .u32 (Rc how 31),objs:=[],n:=7}
def Ig(how:Nat)(xs:List X):X:=nt (X7 how) .u32 (xs.getD 0 (.lit 0)) (xs.getD 1 (.lit 0))
def Pm(how:Nat)(zs:List Int):Int:=gq (X7 how) .u32 (zs.getD 0 0) (zs.getD 1 0)
theorem zG(how:Nat)(ρ:Env)(zs:List Int)(hl:zs.length=2)(hz:∀ z∈zs,0≤z∧z≤4294967295) (hv:∀ j (h:j<zs.length),ρ.v j=zs[j]):∃ lf,(mW how).ai ρ=some lf∧lf.objs=[]∧lf.n≤7+1000∧∀ π,lf.v.ae ρ π=.int .u32 (Pm how zs):=by
 match zs,hl with
 | [a,b],_=>
  have ha:=hz a (by simp)
  have hb:=hz b (by simp)
  obtain⟨m,rfl⟩:=Int.eq_ofNat_of_zero_le ha.1
  obtain⟨k,rfl⟩:=Int.eq_ofNat_of_zero_le hb.1
  have v0:ρ.v 0=(m:Int):=hv 0 (by simp)
  have v1:ρ.v 1=(k:Int):=hv 1 (by simp)
  have w:∀ x:Nat,(x:Int)≤4294967295→IntKind.u32.wrap (x:Int)=(x:Int):=fun x hx=>bn (by simp [jT]) (by simp only [kR];omega)
  have hm:m<2 ^ 32:=by omega
  have hk:k<2 ^ 32:=by omega
  refine⟨_,rfl,rfl,by show 7≤7+1000;omega,fun π=>?_⟩
  simp only [V.ae]
  rw [Fh (m:=m) (k:=k) (by rw [v0,w m ha.2]) (by rw [v1,w k hb.2]) hm hk]
  have:(fun i=>Pk how (m.testBit i) (k.testBit i))=fun i=>(Pn how m k).testBit i:=funext fun i=>(RP how m k i).symm
  rw [this,G4,Nat.mod_eq_of_lt (Nw hm hk)]
  show _=Value.int .u32 (gq (X7 how) .u32 (m:Int) (k:Int))
  rw [OU hm hk]
def Ge:Cx:={cxD with mg:=true}
theorem RQ:cy [] 7 ((ev Ge 4000).call 32 (fL 0 2++[.int .i64 (.lit 0)]) (qK [] 7))=mW 0:=by rw [de];kernel_rfl
theorem RR:cy [] 7 ((ev Ge 4000).call 32 (fL 0 2++[.int .i64 (.lit 1)]) (qK [] 7))=mW 1:=by rw [de];kernel_rfl
theorem RT:cy [] 7 ((ev Ge 4000).call 32 (fL 0 2++[.int .i64 (.lit 2)]) (qK [] 7))=mW 2:=by rw [de];kernel_rfl
def Fk:List (List V×(List X→X)):=[([.int .i64 (.lit 0)],Ig 0),([.int .i64 (.lit 1)],Ig 1),([.int .i64 (.lit 2)],Ig 2)]
theorem Ef(how:Nat)(ρ:Env)(xs:List X)(hl:xs.length=2):(Ig how xs).den ρ=Pm how (xs.map fun x=>x.den ρ):=by
 match xs,hl with
 | [a,b],_=>simp only [Ig,Pm,nu];rfl
theorem al4{ρ:Env}{c:Cx}(hc:c.ng=7):cV Tryz.prog c ρ 32 (kO Fk 2):=by
 refine OD (cx0:=Ge) (N:=4000) cr pL oQ (fun ρ' _=>Db aek) hc rfl Tryz.func32 fun x hx=>?_
 simp only [Fk,List.mem_cons,List.not_mem_nil,or_false] at hx
 rcases hx with rfl | rfl | rfl
 ·exact⟨Pm 0,mW 0,RQ,rfl,fun _ _ _ _=>rfl,fun ρ xs hl _=>Ef 0 ρ xs hl,zG 0⟩
 ·exact⟨Pm 1,mW 1,RR,rfl,fun _ _ _ _=>rfl,fun ρ xs hl _=>Ef 1 ρ xs hl,zG 1⟩
 ·exact⟨Pm 2,mW 2,RT,rfl,fun _ _ _ _=>rfl,fun ρ xs hl _=>Ef 2 ρ xs hl,zG 2⟩
end
end Go.Proofs.YtmickljjofbmiaaGreatDoor
namespace Go.Proofs.YtmickljjofbmiaaGreatDoor
open Go Go.Proofs
noncomputable section
def xA:X:=.wrap .u32 (.var 0)
def xB:X:=.wrap .u32 (.var 1)
def mX:X:=.rem xB (.lit 32)
def KU(g:Nat→X):Nat→Nat→X
 | i,0=>g i
 | i,k+1=>.ite (.lt (.lit (Int.ofNat i)) mX) (KU g (i+1) k) (g i)
theorem wJ{ρ:Env}{g:Nat→X}{n:Nat} (h:mX.den ρ=(n:Int)):∀ (k i:Nat),i≤n→n≤i+k→(KU g i k).den ρ=(g n).den ρ
 | 0,i,h1,h2=>by
  obtain rfl:n=i:=by omega
  rfl
 | k+1,i,h1,h2=>by
  unfold KU
  simp only [X.den,h]
  by_cases hi:i<n
  ·have e:=wJ (g:=g) h k (i+1) hi (by omega)
   simp [a7,e]
   omega
  ·obtain rfl:n=i:=by omega
   simp [a7]
def IF:X:=KU (fun i=>.lit (Int.ofNat (2 ^ i))) 0 31
def abV:X:=KU (fun i=>match i with | 0=>xA | i=>.wrap .u32 (.mul xA (.lit (Int.ofNat (2 ^ i))))) 0 31
def abX:X:=.wrap .u32 (.quo xA IF)
def sA:X:=.wrap .i32 xA
def abR:X:=.ite (.lt sA (.lit 0)) (.wrap .u32 (.ite (.eq (.mul (.quo sA IF) IF) sA) (.quo sA IF) (.sub (.quo sA IF) (.lit 1)))) (.wrap .u32 (.quo sA IF))
def iC(x:X)(n:Nat:=7):R Leaf:=.ok {v:=.int .u32 x,objs:=[],n:=n}
theorem agl{ρ:Env}{zs:List Int}(hl:zs.length=2)(hz:∀ z∈zs,0≤z∧z≤4294967295) (hv:∀ j (h:j<zs.length),ρ.v j=zs[j]):
  ∃ m k:Nat,zs=[(m:Int),(k:Int)]∧m<2 ^ 32∧k<2 ^ 32∧xA.den ρ=(m:Int)∧xB.den ρ=(k:Int):=by
 match zs,hl with
 | [a,b],_=>
  have ha:=hz a (by simp)
  have hb:=hz b (by simp)
  obtain⟨m,rfl⟩:=Int.eq_ofNat_of_zero_le ha.1
  obtain⟨k,rfl⟩:=Int.eq_ofNat_of_zero_le hb.1
  have v0:ρ.v 0=(m:Int):=hv 0 (by simp)
  have v1:ρ.v 1=(k:Int):=hv 1 (by simp)
  have w:∀ x:Nat,(x:Int)≤4294967295→IntKind.u32.wrap (x:Int)=(x:Int):=fun x hx=>bn (by simp [jT]) (by simp only [kR];omega)
  exact⟨m,k,rfl,by omega,by omega,by simp only [xA,X.den,v0,w m ha.2],by simp only [xB,X.den,v1,w k hb.2]⟩
theorem Sa{ρ:Env}{k:Nat} (h:xB.den ρ=(k:Int)):mX.den ρ=((k % 32:Nat):Int):=by
 unfold mX
 simp only [X.den]
 rw [h,show (32:Int)=((32:Nat):Int) from rfl,←Int.ofNat_tmod]
theorem IG{ρ:Env}{k:Nat} (h:xB.den ρ=(k:Int)):IF.den ρ=((2 ^ (k % 32):Nat):Int):=by
 unfold IF
 rw [wJ (Sa h) 31 0 (by omega) (by omega)]
 rfl
theorem age{x:X}{n:Nat}(hn:n≤7+1000){F:List Int→Int} (h:∀ (ρ:Env) (m k:Nat),m<2 ^ 32→k<2 ^ 32→xA.den ρ=(m:Int)→xB.den ρ=(k:Int)→x.den ρ=F [(m:Int),(k:Int)])
  (ρ:Env) (zs:List Int) (hl:zs.length=2) (hz:∀ z∈zs,0≤z∧z≤4294967295) (hv:∀ j (h:j<zs.length),ρ.v j=zs[j]):∃ lf,(iC x n).ai ρ=some lf∧lf.objs=[]∧lf.n≤7+1000∧∀ π,lf.v.ae ρ π=.int .u32 (F zs):=by
 obtain⟨m,k,rfl,hm,hk,ha,hb⟩:=agl hl hz hv
 exact⟨_,rfl,rfl,hn,fun π=>by simp only [V.ae];rw [h ρ m k hm hk ha hb]⟩
theorem MO(k:Nat):(k:Int).tmod 32=((k % 32:Nat):Int):=by
 rw [show (32:Int)=((32:Nat):Int) from rfl,←Int.ofNat_tmod]
def abU(zs:List Int):Int:=MD .u32 (zs.getD 0 0) ((zs.getD 1 0).tmod 32)
def abW(zs:List Int):Int:=Bz .u32 (zs.getD 0 0) ((zs.getD 1 0).tmod 32)
def abQ(zs:List Int):Int:=IntKind.u32.wrap (Bz .i32 (IntKind.i32.wrap (zs.getD 0 0)) ((zs.getD 1 0).tmod 32))
theorem YY(ρ:Env)(m k:Nat)(hm:m<2 ^ 32)(hk:k<2 ^ 32) (ha:xA.den ρ=(m:Int)) (hb:xB.den ρ=(k:Int)):abV.den ρ=abU [(m:Int),(k:Int)]:=by
 have hlt:k % 32<32:=Nat.mod_lt _ (by omega)
 unfold abV
 rw [wJ (Sa hb) 31 0 (by omega) (by omega)]
 have e:abU [(m:Int),(k:Int)]=IntKind.u32.wrap ((m:Int)*2 ^ (k % 32)):=by
  show IntKind.u32.wrap ((m:Int)*2 ^ (min ((k:Int).tmod 32).toNat 32))=_
  rw [MO]
  rw [show ((k % 32:Nat):Int).toNat=k % 32 from rfl,Nat.min_eq_left (by omega)]
 rw [e]
 split
 ·rename_i h0
  rw [h0,ha]
  simp only [Int.pow_zero,Int.mul_one]
  exact (bn (by simp [jT]) (by simp only [kR];omega)).symm
 ·simp only [X.den,ha]
  show IntKind.u32.wrap ((m:Int)*((2 ^ (k % 32):Nat):Int))=_
  norm_cast
theorem Yh(ρ:Env)(m k:Nat)(hm:m<2 ^ 32)(hk:k<2 ^ 32) (ha:xA.den ρ=(m:Int)) (hb:xB.den ρ=(k:Int)):abX.den ρ=abW [(m:Int),(k:Int)]:=by
 have hlt:k % 32<32:=Nat.mod_lt _ (by omega)
 unfold abX
 simp only [X.den,ha,IG hb]
 have e:abW [(m:Int),(k:Int)]=(m:Int).fdiv ((2 ^ (k % 32):Nat):Int):=by
  show (m:Int).fdiv (2 ^ (min ((k:Int).tmod 32).toNat 32))=_
  rw [MO]
  rw [show ((k % 32:Nat):Int).toNat=k % 32 from rfl,Nat.min_eq_left (by omega)]
  norm_cast
 have hp:=Nat.two_pow_pos (k % 32)
 generalize 2 ^ (k % 32)=q at *
 have:m / q≤m:=Nat.div_le_self _ _
 have e2:(m:Int).tdiv (q:Int)=((m / q:Nat):Int):=(Int.ofNat_tdiv _ _).symm
 have e3:(m:Int) / (q:Int)=((m / q:Nat):Int):=by norm_cast
 rw [e,e2,Int.fdiv_eq_ediv_of_nonneg _ (by omega),e3]
 generalize m / q=d at *
 exact bn (by simp only [jT];omega) (by simp only [kR];omega)
theorem Gj{a p:Int}(hp:0<p):(if a<0 then (if a.tdiv p*p=a then a.tdiv p else a.tdiv p-1) else a.tdiv p)=a.fdiv p:=by
 rw [Int.fdiv_eq_ediv_of_nonneg _ (by omega)]
 have h2:=Int.mul_ediv_add_emod a p
 have h3:=Int.emod_nonneg a (Int.ne_of_gt hp)
 have h4:=Int.emod_lt_of_pos a hp
 split
 ·rename_i ha
  have h5:a.tdiv p=-((-a) / p):=by
   rw [show a=-(-a) by omega,Int.neg_tdiv,Int.neg_neg,Int.tdiv_eq_ediv_of_nonneg (by omega)]
  have h6:=Int.mul_ediv_add_emod (-a) p
  have h7:=Int.emod_nonneg (-a) (Int.ne_of_gt hp)
  have h8:=Int.emod_lt_of_pos (-a) hp
  generalize hq:(-a) / p=q at *
  generalize hd:a / p=d at *
  rw [h5]
  have key:p*(d+q)=- (a % p)-((-a) % p):=by rw [Int.mul_add];omega
  split
  ·rename_i he
   have e1:(-a) % p=0:=by
    have:-q*p=-(p*q):=by rw [Int.neg_mul,Int.mul_comm]
    omega
   rw [e1] at key
   have:p*(d+q)≤0:=by omega
   have:-p<p*(d+q):=by omega
   have h9:d+q≤0:=Int.not_lt.1 fun hlt=>by
    have:p*1≤p*(d+q):=Int.mul_le_mul_of_nonneg_left (by omega) (by omega)
    omega
   have h10:-1<d+q:=Int.lt_of_not_ge fun hle=>by
    have:p*(d+q)≤p*(-1):=Int.mul_le_mul_of_nonneg_left hle (by omega)
    omega
   omega
  ·rename_i he
   have e1:(-a) % p≠0:=fun h0=>he (by
    have:-q*p=-(p*q):=by rw [Int.neg_mul,Int.mul_comm]
    omega)
   have h9:d+q<0:=Int.lt_of_not_ge fun hge=>by
    have:p*0≤p*(d+q):=Int.mul_le_mul_of_nonneg_left hge (by omega)
    omega
   have h10:-2<d+q:=Int.lt_of_not_ge fun hle=>by
    have:p*(d+q)≤p*(-2):=Int.mul_le_mul_of_nonneg_left hle (by omega)
    omega
   omega
 ·rw [Int.tdiv_eq_ediv_of_nonneg (by omega)]
theorem YV(ρ:Env)(m k:Nat)(hm:m<2 ^ 32)(hk:k<2 ^ 32) (ha:xA.den ρ=(m:Int)) (hb:xB.den ρ=(k:Int)):abR.den ρ=abQ [(m:Int),(k:Int)]:=by
 have hlt:k % 32<32:=Nat.mod_lt _ (by omega)
 have hp:(0:Int)<((2 ^ (k % 32):Nat):Int):=by have:=Nat.two_pow_pos (k % 32);omega
 have hs:sA.den ρ=IntKind.i32.wrap (m:Int):=by unfold sA;simp only [X.den,ha]
 have e:abQ [(m:Int),(k:Int)]=IntKind.u32.wrap ((IntKind.i32.wrap (m:Int)).fdiv ((2 ^ (k % 32):Nat):Int)):=by
  show IntKind.u32.wrap ((IntKind.i32.wrap (m:Int)).fdiv (2 ^ (min ((k:Int).tmod 32).toNat 32)))=_
  rw [MO]
  rw [show ((k % 32:Nat):Int).toNat=k % 32 from rfl,Nat.min_eq_left (by omega)]
  norm_cast
 rw [e,←Gj hp]
 unfold abR
 simp only [X.den,hs,IG hb]
 generalize IntKind.i32.wrap (m:Int)=a
 generalize ((2 ^ (k % 32):Nat):Int)=p
 by_cases h1:a<0
 ·by_cases h2:a.tdiv p*p=a<;>simp [h1,h2,a7]
 ·simp [h1,a7]
def Zg(z:Int):Prop:=0≤z∧z≤4294967295
theorem Fg{n:Nat}{f:FuncId}{x:X}{mk:List X→X}{F:List Int→Int} (run:cy [] 7 ((ev Ge 4000).call f (fL 0 2++[]) (qK [] 7))=iC x n) (den:∀ (ρ:Env) (a b:X),Zg (a.den ρ)→Zg (b.den ρ)→(mk [a,b]).den ρ=F [a.den ρ,b.den ρ])
  (h:∀ (ρ:Env) (m k:Nat),m<2 ^ 32→k<2 ^ 32→xA.den ρ=(m:Int)→xB.den ρ=(k:Int)→x.den ρ=F [(m:Int),(k:Int)]) (hn:n≤7+1000:=by omega):RowU Ge 7 4000 2 f [] mk F (iC x n) where
 run:=run
 pure:=rfl
 closed:=fun _ _ _ _=>rfl
 den:=fun ρ xs hl hx=>by
  match xs,hl with
  | [a,b],_=>exact den ρ a b (hx a (by simp)) (hx b (by simp))
 spec:=fun ρ zs=>age hn h ρ zs
theorem uM{n:Nat}{f:FuncId}{fn:Func} (hfn:Tryz.prog.funcs[f]?=some fn) {x:X} {mk:List X→X} {F:List Int→Int} (h:RowU Ge 7 4000 2 f [] mk F (iC x n)) {ρ:Env} {c:Cx} (hc:c.ng=7):cV Tryz.prog c ρ f (kO [([],mk)] 2):=by
 refine OD (cx0:=Ge) (N:=4000) cr pL oQ (fun ρ' _=>Db aek) hc rfl hfn fun x hx=>?_
 simp only [List.mem_cons,List.not_mem_nil,or_false] at hx
 subst hx
 exact⟨F,_,h⟩
def arg(xs:List X)(i:Nat):X:=xs.getD i (.lit 0)
def LR(xs:List X):X:=Ij .u32 (arg xs 0) (xg (arg xs 1) (.lit 32))
def LS(xs:List X):X:=tF .u32 (arg xs 0) (xg (arg xs 1) (.lit 32))
def LQ(xs:List X):X:=mkWrap .u32 (tF .i32 (mkWrap .i32 (arg xs 0)) (xg (arg xs 1) (.lit 32)))
theorem af2:cy [] 7 ((ev Ge 4000).call 88 (fL 0 2++[]) (qK [] 7))=iC abV:=by rw [de];kernel_rfl
theorem af3:cy [] 7 ((ev Ge 4000).call 89 (fL 0 2++[]) (qK [] 7))=iC abX:=by rw [de];kernel_rfl
theorem af4:cy [] 7 ((ev Ge 4000).call 90 (fL 0 2++[]) (qK [] 7))=iC abR:=by rw [de];kernel_rfl
theorem al5{ρ:Env}{c:Cx}(hc:c.ng=7):cV Tryz.prog c ρ 88 (kO [([],LR)] 2):=
 uM Tryz.func88 (Fg af2 (fun ρ a b _ _=>by simp only [LR,arg,abU,vP,jY,X.den,List.getD_cons_zero,List.getD_cons_succ]) YY) hc
theorem al6{ρ:Env}{c:Cx}(hc:c.ng=7):cV Tryz.prog c ρ 89 (kO [([],LS)] 2):=
 uM Tryz.func89 (Fg af3 (fun ρ a b _ _=>by simp only [LS,arg,abW,ik,jY,X.den,List.getD_cons_zero,List.getD_cons_succ]) Yh) hc
theorem al7{ρ:Env}{c:Cx}(hc:c.ng=7):cV Tryz.prog c ρ 90 (kO [([],LQ)] 2):=
 uM Tryz.func90 (Fg af4 (fun ρ a b _ _=>by simp only [LQ,arg,abQ,ik,im,jY,X.den,List.getD_cons_zero,List.getD_cons_succ]) YV) hc
end
end Go.Proofs.YtmickljjofbmiaaGreatDoor
namespace Go.Proofs.YtmickljjofbmiaaGreatDoor
open Go Go.Proofs
noncomputable section
def hB:X:=.quo xB (.lit 65536)
def lB:X:=.wrap .u16 xB
def hA:X:=.quo xA (.lit 65536)
def lA:X:=.wrap .u16 xA
def aaL:X:=.wrap .u32 (.add (.mul xA lB) (.mul (.wrap .u16 (.wrap .u32 (.mul xA hB))) (.lit 65536)))
def sB:X:=.wrap .i32 xB
def BX(p:X):X:=.wrap .u32 (.ite (.lt p (.lit 0)) (.ite (.eq (.wrap .i64 (.mul (.quo p (.lit 4294967296)) (.lit 4294967296))) p) (.quo p (.lit 4294967296)) (.sub (.quo p (.lit 4294967296)) (.lit 1))) (.quo p (.lit 4294967296)))
def QE(p:X):X:=.quo (.wrap .u64 p) (.lit 4294967296)
def LW:X:=.add (.mul hA hB) (.quo (.add (.add (.mul hA lB) (.mul lA hB)) (.quo (.mul lA lB) (.lit 65536))) (.lit 65536))
theorem acp(z:Int):IntKind.u32.wrap z=z % 4294967296:=rfl
theorem Uw(z:Int):IntKind.u16.wrap z=z % 65536:=rfl
theorem Ux(z:Int):IntKind.u64.wrap z=z % 18446744073709551616:=rfl
theorem mN{a:Int}(h:0≤a)(b:Int):a.tdiv b=a / b:=Int.tdiv_eq_ediv_of_nonneg h
def aeI(zs:List Int):Int:=IntKind.u32.wrap (zs.getD 0 0*zs.getD 1 0)
def Se(zs:List Int):Int:=IntKind.u32.wrap ((IntKind.i32.wrap (zs.getD 0 0)*IntKind.i32.wrap (zs.getD 1 0)).fdiv 4294967296)
def EA(zs:List Int):Int:=IntKind.u32.wrap ((IntKind.i32.wrap (zs.getD 0 0)*zs.getD 1 0).fdiv 4294967296)
def Si(zs:List Int):Int:=IntKind.u32.wrap ((zs.getD 0 0*zs.getD 1 0).fdiv 4294967296)
theorem Yr(ρ:Env)(m k:Nat)(hm:m<2 ^ 32)(hk:k<2 ^ 32) (ha:xA.den ρ=(m:Int)) (hb:xB.den ρ=(k:Int)):aaL.den ρ=aeI [(m:Int),(k:Int)]:=by
 unfold aaL lB hB
 simp only [X.den,ha,hb,acp,Uw]
 rw [mN (by omega)]
 show _=((m:Int)*(k:Int)) % 4294967296
 have hd:(k:Int)=65536*((k:Int) / 65536)+(k:Int) % 65536:=by omega
 have e:(m:Int)*(k:Int)=65536*((m:Int)*((k:Int) / 65536))+(m:Int)*((k:Int) % 65536):=by
  conv=>lhs;rw [hd]
  rw [Int.mul_add,Int.mul_left_comm]
 rw [e]
 generalize (m:Int)*((k:Int) / 65536)=p
 generalize (m:Int)*((k:Int) % 65536)=q
 omega
theorem OJ(p:Int):(p % 18446744073709551616).tdiv 4294967296=(p.fdiv 4294967296) % 4294967296:=by
 rw [mN (by omega),Int.fdiv_eq_ediv_of_nonneg _ (by omega)]
 omega
theorem BY{ρ:Env}{x:X}{p:Int}(h:x.den ρ=p)(h1:-9223372036854775808≤p)(h2:p≤9223372036854775807):(BX x).den ρ=IntKind.u32.wrap (p.fdiv 4294967296):=by
 unfold BX
 simp only [X.den,h]
 have hw:IntKind.i64.wrap (p.tdiv 4294967296*4294967296)=p.tdiv 4294967296*4294967296:=by
  have h3:=Int.tmod_add_mul_tdiv p 4294967296
  have h4:-4294967296<p.tmod 4294967296:=Int.lt_tmod_of_pos _ (by omega)
  have h5:p.tmod 4294967296<4294967296:=Int.tmod_lt_of_pos _ (by omega)
  have h6:0≤p→0≤p.tmod 4294967296:=fun h=>Int.tmod_nonneg _ h
  have h7:p≤0→p.tmod 4294967296≤0:=fun h=>by
   have:=Int.tmod_nonneg (a:=-p) 4294967296 (by omega)
   rw [Int.neg_tmod] at this
   omega
  refine bn ?_ ?_<;>simp only [jT,kR]<;>rcases Int.le_total 0 p with h8 | h8
  ·have:=h6 h8;omega
  ·have:=h7 h8;omega
  ·have:=h6 h8;omega
  ·have:=h7 h8;omega
 rw [hw,←Gj (a:=p) (p:=4294967296) (by omega)]
 congr 1
 by_cases h3:p<0
 ·by_cases h4:p.tdiv 4294967296*4294967296=p<;>simp [h3,h4,a7]
 ·simp [h3,a7]
theorem vw(z:Int):-2147483648≤IntKind.i32.wrap z∧IntKind.i32.wrap z≤2147483647:=qP .i32 z
theorem jL{a b:Int}{m n:Int}(h1:-m≤a)(h2:a≤m)(h3:-n≤b)(h4:b≤n):-(m*n)≤a*b∧a*b≤m*n:=by
 have ha:(a.natAbs:Int)≤m:=by omega
 have hb:(b.natAbs:Int)≤n:=by omega
 have h5:((a*b).natAbs:Int)≤m*n:=by
  rw [Int.natAbs_mul,Int.natCast_mul]
  exact Int.mul_le_mul ha hb (by omega) (by omega)
 constructor<;>omega
theorem Sg(ρ:Env)(m k:Nat)(hm:m<2 ^ 32)(hk:k<2 ^ 32) (ha:xA.den ρ=(m:Int)) (hb:xB.den ρ=(k:Int)):(BX (.mul sA sB)).den ρ=Se [(m:Int),(k:Int)]:=by
 have e:(X.mul sA sB).den ρ=IntKind.i32.wrap (m:Int)*IntKind.i32.wrap (k:Int):=by simp only [sA,sB,X.den,ha,hb]
 have h1:=vw (m:Int)
 have h2:=vw (k:Int)
 have h3:=jL (m:=2147483648) (n:=2147483648) (by omega) (by omega:IntKind.i32.wrap (m:Int)≤2147483648) (by omega) (by omega:IntKind.i32.wrap (k:Int)≤2147483648)
 have:=BY e (by omega) (by omega)
 exact this
theorem LV(ρ:Env)(m k:Nat)(hm:m<2 ^ 32)(hk:k<2 ^ 32) (ha:xA.den ρ=(m:Int)) (hb:xB.den ρ=(k:Int)):(BX (.mul sA xB)).den ρ=EA [(m:Int),(k:Int)]:=by
 have e:(X.mul sA xB).den ρ=IntKind.i32.wrap (m:Int)*(k:Int):=by simp only [sA,X.den,ha,hb]
 have h1:=vw (m:Int)
 have h3:=jL (m:=2147483648) (n:=4294967295) (by omega) (by omega:IntKind.i32.wrap (m:Int)≤2147483648) (by omega) (by omega:(k:Int)≤4294967295)
 have:=BY e (by omega) (by omega)
 exact this
theorem Sf(ρ:Env)(m k:Nat)(_:m<2 ^ 32)(_:k<2 ^ 32) (ha:xA.den ρ=(m:Int)) (hb:xB.den ρ=(k:Int)):(QE (.mul sA sB)).den ρ=Se [(m:Int),(k:Int)]:=by
 simp only [QE,sA,sB,X.den,ha,hb,Ux]
 rw [OJ]
 rfl
theorem LU(ρ:Env)(m k:Nat)(_:m<2 ^ 32)(_:k<2 ^ 32) (ha:xA.den ρ=(m:Int)) (hb:xB.den ρ=(k:Int)):(QE (.mul sA xB)).den ρ=EA [(m:Int),(k:Int)]:=by
 simp only [QE,sA,X.den,ha,hb,Ux]
 rw [OJ]
 rfl
theorem PE(ρ:Env)(m k:Nat)(hm:m<2 ^ 32)(hk:k<2 ^ 32) (ha:xA.den ρ=(m:Int)) (hb:xB.den ρ=(k:Int)):LW.den ρ=Si [(m:Int),(k:Int)]:=by
 simp only [LW,hA,hB,lA,lB,X.den,ha,hb,Uw]
 show _=(((m:Int)*(k:Int)).fdiv 4294967296) % 4294967296
 have p0:(0:Int)≤(m:Int) / 65536:=by omega
 have p1:(0:Int)≤(k:Int) / 65536:=by omega
 have p2:(0:Int)≤(m:Int) % 65536:=by omega
 have p3:(0:Int)≤(k:Int) % 65536:=by omega
 have q0:=Int.mul_nonneg p0 p1
 have q1:=Int.mul_nonneg p0 p3
 have q2:=Int.mul_nonneg p2 p1
 have q3:=Int.mul_nonneg p2 p3
 rw [mN (show (0:Int)≤(m:Int) by omega),mN (show (0:Int)≤(k:Int) by omega),mN q3,mN (by omega),Int.fdiv_eq_ediv_of_nonneg _ (by omega)]
 have em:(m:Int)=65536*((m:Int) / 65536)+(m:Int) % 65536:=by omega
 have ek:(k:Int)=65536*((k:Int) / 65536)+(k:Int) % 65536:=by omega
 have l0:=jL (a:=(m:Int) / 65536) (b:=(k:Int) / 65536) (m:=65535) (n:=65535) (by omega) (by omega) (by omega) (by omega)
 have l1:=jL (a:=(m:Int) / 65536) (b:=(k:Int) % 65536) (m:=65535) (n:=65535) (by omega) (by omega) (by omega) (by omega)
 have l2:=jL (a:=(m:Int) % 65536) (b:=(k:Int) / 65536) (m:=65535) (n:=65535) (by omega) (by omega) (by omega) (by omega)
 have l3:=jL (a:=(m:Int) % 65536) (b:=(k:Int) % 65536) (m:=65535) (n:=65535) (by omega) (by omega) (by omega) (by omega)
 have e:(m:Int)*(k:Int)=4294967296*((m:Int) / 65536*((k:Int) / 65536))+65536*((m:Int) / 65536*((k:Int) % 65536))+65536*((m:Int) % 65536*((k:Int) / 65536))+(m:Int) % 65536*((k:Int) % 65536):=by
  generalize (m:Int) / 65536=a at *
  generalize (k:Int) / 65536=b at *
  generalize (m:Int) % 65536=c at *
  generalize (k:Int) % 65536=d at *
  rw [em,ek,Int.add_mul,Int.mul_add,Int.mul_add]
  rw [show (65536*a)*(65536*b)=4294967296*(a*b) by rw [Int.mul_assoc,Int.mul_left_comm a,←Int.mul_assoc];rfl,show (65536*a)*d=65536*(a*d) by rw [Int.mul_assoc],show c*(65536*b)=65536*(c*b) by rw [Int.mul_left_comm]]
  omega
 rw [e]
 generalize (m:Int) / 65536*((k:Int) / 65536)=P at *
 generalize (m:Int) / 65536*((k:Int) % 65536)=Q at *
 generalize (m:Int) % 65536*((k:Int) / 65536)=R at *
 generalize (m:Int) % 65536*((k:Int) % 65536)=S at *
 omega
def LP(xs:List X):X:=mkMul .u32 (arg xs 0) (arg xs 1)
def qe(xs:List X):X:=mkWrap .u32 (tF .i64 (mkMul .i64 (mkWrap .i32 (arg xs 0)) (mkWrap .i32 (arg xs 1))) (.lit 32))
def jX(xs:List X):X:=mkWrap .u32 (tF .i64 (mkMul .i64 (mkWrap .i32 (arg xs 0)) (arg xs 1)) (.lit 32))
def tE(xs:List X):X:=mkWrap .u32 (tF .u64 (mkMul .u64 (arg xs 0) (arg xs 1)) (.lit 32))
theorem Ik(ρ:Env)(a b:X) (ha:Zg (a.den ρ)) (hb:Zg (b.den ρ)):(qe [a,b]).den ρ=Se [a.den ρ,b.den ρ]:=by
 have h1:=vw (a.den ρ)
 have h2:=vw (b.den ρ)
 have h3:=jL (m:=2147483648) (n:=2147483648) (by omega) (by omega:IntKind.i32.wrap (a.den ρ)≤2147483648) (by omega) (by omega:IntKind.i32.wrap (b.den ρ)≤2147483648)
 simp only [qe,arg,List.getD_cons_zero,List.getD_cons_succ,ik,jW,im,X.den]
 rw [bn (k:=.i64) (by simp only [jT];omega) (by simp only [kR];omega)]
 rfl
theorem Ab(ρ:Env)(a b:X) (_:Zg (a.den ρ)) (hb:Zg (b.den ρ)):(jX [a,b]).den ρ=EA [a.den ρ,b.den ρ]:=by
 have h1:=vw (a.den ρ)
 have h3:=jL (m:=2147483648) (n:=4294967295) (by omega) (by omega:IntKind.i32.wrap (a.den ρ)≤2147483648) (by have:=hb.1;omega) (hb.2)
 simp only [jX,arg,List.getD_cons_zero,List.getD_cons_succ,ik,jW,im,X.den]
 rw [bn (k:=.i64) (by simp only [jT];omega) (by simp only [kR];omega)]
 rfl
theorem PD(ρ:Env)(a b:X) (ha:Zg (a.den ρ)) (hb:Zg (b.den ρ)):(tE [a,b]).den ρ=Si [a.den ρ,b.den ρ]:=by
 have h3:=jL (a:=a.den ρ) (b:=b.den ρ) (m:=4294967295) (n:=4294967295) (by have:=ha.1;omega) ha.2 (by have:=hb.1;omega) hb.2
 have h4:=Int.mul_nonneg ha.1 hb.1
 simp only [tE,arg,List.getD_cons_zero,List.getD_cons_succ,ik,jW,im,X.den]
 rw [bn (k:=.u64) (by simp only [jT];omega) (by simp only [kR];omega)]
 rfl
theorem af5:cy [] 7 ((ev Ge 4000).call 91 (fL 0 2++[]) (qK [] 7))=iC aaL:=by rw [de];kernel_rfl
theorem af6:cy [] 7 ((ev Ge 4000).call 92 (fL 0 2++[]) (qK [] 7))=iC (BX (.mul sA sB)):=by rw [de];kernel_rfl
theorem af7:cy [] 7 ((ev Ge 4000).call 93 (fL 0 2++[]) (qK [] 7))=iC (BX (.mul sA xB)):=by rw [de];kernel_rfl
theorem af8:cy [] 7 ((ev Ge 4000).call 94 (fL 0 2++[]) (qK [] 7))=iC LW:=by rw [de];kernel_rfl
theorem abO:cy [] 7 ((ev Ge 4000).call 133 (fL 0 2++[]) (qK [] 7))=iC (QE (.mul sA sB)) 8:=by rw [de];kernel_rfl
theorem abP:cy [] 7 ((ev Ge 4000).call 134 (fL 0 2++[]) (qK [] 7))=iC (QE (.mul sA xB)) 8:=by rw [de];kernel_rfl
theorem al8{ρ:Env}{c:Cx}(hc:c.ng=7):cV Tryz.prog c ρ 91 (kO [([],LP)] 2):=
 uM Tryz.func91 (Fg af5 (fun ρ a b _ _=>by simp only [LP,arg,aeI,jW,List.getD_cons_zero,List.getD_cons_succ]) Yr) hc
theorem al9{ρ:Env}{c:Cx}(hc:c.ng=7):cV Tryz.prog c ρ 92 (kO [([],qe)] 2):=uM Tryz.func92 (Fg af6 Ik Sg) hc
theorem ama{ρ:Env}{c:Cx}(hc:c.ng=7):cV Tryz.prog c ρ 93 (kO [([],jX)] 2):=uM Tryz.func93 (Fg af7 Ab LV) hc
theorem amb{ρ:Env}{c:Cx}(hc:c.ng=7):cV Tryz.prog c ρ 94 (kO [([],tE)] 2):=uM Tryz.func94 (Fg af8 PD PE) hc
theorem aeq{ρ:Env}{c:Cx}(hc:c.ng=7):cV Tryz.prog c ρ 133 (kO [([],qe)] 2):=uM Tryz.func133 (Fg (n:=8) abO Ik Sf) hc
theorem aer{ρ:Env}{c:Cx}(hc:c.ng=7):cV Tryz.prog c ρ 134 (kO [([],jX)] 2):=uM Tryz.func134 (Fg (n:=8) abP Ab LU) hc
end
end Go.Proofs.YtmickljjofbmiaaGreatDoor
namespace Go.Proofs.YtmickljjofbmiaaGreatDoor
open Go Go.Proofs
noncomputable def acf:j6:=[(32,kO Fk 2),(91,kO [([],LP)] 2),(92,kO [([],qe)] 2),(133,kO [([],qe)] 2),(93,kO [([],jX)] 2),(134,kO [([],jX)] 2),(94,kO [([],tE)] 2),(88,kO [([],LR)] 2),(89,kO [([],LS)] 2),(90,kO [([],LQ)] 2)]
theorem amD{ro:Nat→Obj}:aL ro acf:=fun _ _ _ hc=>⟨al4 hc,al8 hc,al9 hc,aeq hc,ama hc,aer hc,amb hc,al5 hc,al6 hc,al7 hc,trivial⟩
end Go.Proofs.YtmickljjofbmiaaGreatDoor
