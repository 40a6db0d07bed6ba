/- Words as bits, numbers within their kinds. Bitwise operations by sums of powers: the plain law, and the summary. Shifts and products of the reference: the plain laws, and the summaries. Products of the reference, and of the program: the plain laws, and the summaries. The symbols of the Ops' meanings as a list of summaries. No condition. -/
import Derived.Test.YtmickljjofbmiaaGreatDoorADoor
import Derived.Test.YtmickljjofbmiaaGreatDoorFwH
set_option maxRecDepth 100000
namespace Go.Proofs.YtmickljjofbmiaaGreatDoor
open Go Go.Proofs
def InU(z:Int):Prop:=0≤z∧z≤4294967295
theorem wrap_u{z:Int}(h:InU z):IntKind.u32.wrap z=z:=wrap_in (by simp [kLo];exact h.1) (by simp [kHi];exact h.2)
theorem regsX_concs{ρ:Env}{π:Pl}{f:Nat}{regs:List Int}(hw:∀ z∈regs,InU z) (h:∀ j (h:j<regs.length),ρ.f1 f (Int.ofNat j)=regs[j]) {r:List V}:∀ (n j:Nat),j+n=regs.length→V.concs ρ π (regsX f j n r)=(regs.drop j).map (Value.int .u32)++V.concs ρ π r
 | 0,j,e=>by
  rw [List.drop_of_length_le (by omega)]
  rfl
 | n+1,j,e=>by
  have hj:j<regs.length:=by omega
  rw [List.drop_eq_getElem_cons hj]
  simp only [regsX,V.concs,V.conc,X.den,h j hj,List.map_cons,List.cons_append]
  rw [wrap_u (hw _ (List.getElem_mem hj)),regsX_concs hw h n (j+1) (by omega)]
def posL(o:Nat):Nat→List B
 | 0=>[]
 | k+1=>.pos o::posL (o+1) k
theorem posL_den{ρ:Env}(l:List B)(t:B):∀ (k o:Nat),bvDen ρ (posL o k++l) t=lowN (fun i=>ρ.b (o+i)) k+2 ^ k*bvDen ρ l t
 | 0,o=>by simp [posL,lowN]
 | k+1,o=>by
  rw [posL,List.cons_append,bvDen_cons,posL_den l t k (o+1),lowN,Int.mul_add,show (2:Int) ^ (k+1)=2*2 ^ k from by rw [Int.pow_succ];omega,Int.mul_assoc]
  have:(fun i=>ρ.b (o+1+i))=fun i=>ρ.b (o+(i+1)):=funext fun i=>by rw [show o+1+i=o+(i+1) by omega]
  rw [this]
  show b2i (ρ.b o)+_=b2i (ρ.b (o+0))+_+_
  rw [Nat.add_zero]
  omega
theorem low_test(n k:Nat):lowN (fun i=>n.testBit i) k=((n % 2 ^ k:Nat):Int):=by
 rw [←lowNat_cast]
 congr 1
 apply Nat.eq_of_testBit_eq
 intro i
 rw [lowNat_bit,Nat.testBit_mod_two_pow]
theorem bits_of{ρ:Env}{o k:Nat}{n:Nat} (hb:∀ i,i<k→ρ.b (o+i)=n.testBit i) (l:List B) (t:B):bvDen ρ (posL o k++l) t=((n % 2 ^ k:Nat):Int)+2 ^ k*bvDen ρ l t:=by
 rw [posL_den,lowN_congr hb,low_test]
theorem word_of{ρ:Env}{o k:Nat}{n:Int}(h0:0≤n)(h1:n<2 ^ k) (hb:∀ i,i<k→ρ.b (o+i)=n.toNat.testBit i):bvDen ρ (posL o k) .zero=n:=by
 have e:=bits_of (ρ:=ρ) (o:=o) (k:=k) hb [] .zero
 rw [List.append_nil] at e
 rw [e]
 obtain⟨m,rfl⟩:=Int.eq_ofNat_of_zero_le h0
 have hm:m<2 ^ k:=by exact_mod_cast h1
 rw [show (m:Int).toNat=m from rfl,Nat.mod_eq_of_lt hm]
 simp [bvDen,B.den,b2i]
end Go.Proofs.YtmickljjofbmiaaGreatDoor
namespace Go.Proofs.YtmickljjofbmiaaGreatDoor
open Go Go.Proofs
noncomputable section
def pw(i:Nat):X:=.lit (Int.ofNat (2 ^ i))
def bitQ(v i:Nat):X:=match Nat.beq i 31 with
 | true=>.quo (.wrap .u32 (.var v)) (pw i)
 | false=>.rem (.quo (.wrap .u32 (.var v)) (pw i)) (.lit 2)
def bitX(how i:Nat):X:=match how with
 | 0=>.ite (.eq (bitQ 0 i) (bitQ 1 i)) (.lit 0) (pw i)
 | 1=>.ite (.lt (.lit 0) (.add (bitQ 0 i) (bitQ 1 i))) (pw i) (.lit 0)
 | _=>.ite (.eq (.add (bitQ 0 i) (bitQ 1 i)) (.lit 2)) (pw i) (.lit 0)
def bitS(how:Nat):Nat→X
 | 0=>bitX how 0
 | n+1=>.add (bitS how n) (bitX how (n+1))
def howB(how:Nat)(a b:Bool):Bool:=match how with
 | 0=>a ^^ b
 | 1=>a || b
 | _=>a&&b
def howN(how:Nat)(m k:Nat):Nat:=match how with
 | 0=>m ^^^ k
 | 1=>m ||| k
 | _=>m &&& k
def howO:Nat→Nat
 | 0=>2
 | 1=>1
 | _=>0
theorem bitQ_den{ρ:Env}{v i m:Nat} (h:IntKind.u32.wrap (ρ.v v)=(m:Int)) (hm:m<2 ^ 32):(bitQ v i).den ρ=b2i (m.testBit i):=by
 have e2:b2i (m.testBit i)=((m / 2 ^ i % 2:Nat):Int):=by
  rw [Nat.testBit_eq_decide_div_mod_eq]
  unfold b2i
  rcases Nat.mod_two_eq_zero_or_one (m / 2 ^ i) with h2 | h2<;>simp [h2]
 rw [e2]
 unfold bitQ
 split
 ·rename_i hb
  obtain rfl:=Nat.eq_of_beq_eq_true hb
  simp only [X.den,h,pw]
  show (m:Int).tdiv ((2 ^ 31:Nat):Int)=_
  rw [←Int.ofNat_tdiv,Nat.mod_eq_of_lt (Nat.div_lt_of_lt_mul (by omega))]
 ·simp only [X.den,h,pw]
  show ((m:Int).tdiv ((2 ^ i:Nat):Int)).tmod ((2:Nat):Int)=_
  rw [←Int.ofNat_tdiv,←Int.ofNat_tmod]
theorem bitX_den{ρ:Env}{how i m k:Nat} (h0:IntKind.u32.wrap (ρ.v 0)=(m:Int)) (h1:IntKind.u32.wrap (ρ.v 1)=(k:Int)) (hm:m<2 ^ 32) (hk:k<2 ^ 32):(bitX how i).den ρ=2 ^ i*b2i (howB how (m.testBit i) (k.testBit i)):=by
 have e:(pw i).den ρ=2 ^ i:=by simp only [pw,X.den];norm_cast
 unfold bitX
 split<;>simp only [X.den,bitQ_den h0 hm,bitQ_den h1 hk,e,howB]<;>cases m.testBit i<;>cases k.testBit i<;>simp [b2i]
theorem bitS_den{ρ:Env}{how m k:Nat} (h0:IntKind.u32.wrap (ρ.v 0)=(m:Int)) (h1:IntKind.u32.wrap (ρ.v 1)=(k:Int)) (hm:m<2 ^ 32) (hk:k<2 ^ 32):∀ n,(bitS how n).den ρ=lowN (fun i=>howB how (m.testBit i) (k.testBit i)) (n+1)
 | 0=>by
  rw [lowN_split]
  simp only [bitS,bitX_den h0 h1 hm hk,lowN,Int.zero_add]
 | n+1=>by
  rw [lowN_split,←bitS_den h0 h1 hm hk n]
  simp only [bitS,X.den,bitX_den h0 h1 hm hk]
theorem howN_bit(how m k i:Nat):(howN how m k).testBit i=howB how (m.testBit i) (k.testBit i):=by
 unfold howN howB
 split<;>simp
theorem howN_lt{how m k:Nat}(h0:m<2 ^ 32)(h1:k<2 ^ 32):howN how m k<2 ^ 32:=by
 unfold howN
 split
 ·exact Nat.xor_lt_two_pow h0 h1
 ·exact Nat.or_lt_two_pow h0 h1
 ·exact Nat.and_lt_two_pow _ h1
theorem bitsI_how{how m k:Nat}(h0:m<2 ^ 32)(h1:k<2 ^ 32):bitsI (howO how) .u32 (m:Int) (k:Int)=((howN how m k:Nat):Int):=by
 have e0:(BitVec.ofInt 32 (m:Int)).toNat=m:=by
  rw [BitVec.toNat_ofInt]
  have:((m:Int) % ((2 ^ 32:Nat):Int))=m:=Int.emod_eq_of_lt (by omega) (by exact_mod_cast h0)
  rw [this]
  rfl
 have e1:(BitVec.ofInt 32 (k:Int)).toNat=k:=by
  rw [BitVec.toNat_ofInt]
  have:((k:Int) % ((2 ^ 32:Nat):Int))=k:=Int.emod_eq_of_lt (by omega) (by exact_mod_cast h1)
  rw [this]
  rfl
 have hw:∀ x:Nat,x<2 ^ 32→IntKind.u32.wrap (x:Int)=(x:Int):=fun x hx=>wrap_in (by simp [kLo]) (by simp only [kHi];omega)
 rw [←hw _ (howN_lt (how:=how) h0 h1)]
 rcases how with _ | _ | n
 ·show IntKind.u32.wrap (((BitVec.ofInt 32 (m:Int) ^^^ BitVec.ofInt 32 (k:Int)).toNat:Nat):Int)=_
  rw [BitVec.toNat_xor,e0,e1];rfl
 ·show IntKind.u32.wrap (((BitVec.ofInt 32 (m:Int) ||| BitVec.ofInt 32 (k:Int)).toNat:Nat):Int)=_
  rw [BitVec.toNat_or,e0,e1];rfl
 ·show IntKind.u32.wrap (((BitVec.ofInt 32 (m:Int) &&& BitVec.ofInt 32 (k:Int)).toNat:Nat):Int)=_
  rw [BitVec.toNat_and,e0,e1];rfl
def bitTree(how:Nat):R Leaf:=.ok {v:=.int .u32 (bitS how 31),objs:=[],n:=7}
def mkHow(how:Nat)(xs:List X):X:=mkBits (howO how) .u32 (xs.getD 0 (.lit 0)) (xs.getD 1 (.lit 0))
def howF(how:Nat)(zs:List Int):Int:=bitsI (howO how) .u32 (zs.getD 0 0) (zs.getD 1 0)
theorem how_spec(how:Nat)(ρ:Env)(zs:List Int)(hl:zs.length=2)(hz:∀ z∈zs,0≤z∧z≤4294967295) (hv:∀ j (h:j<zs.length),ρ.v j=zs[j]):∃ lf,(bitTree how).sel ρ=some lf∧lf.objs=[]∧lf.n≤7+1000∧∀ π,lf.v.conc ρ π=.int .u32 (howF how zs):=by
 match zs,hl with
 | [a,b],_=>
  have ha:=hz a (by simp)
  have hb:=hz b (by simp)
  obtain⟨m,rfl⟩:=Int.eq_ofNat_of_zero_le ha.1
  obtain⟨k,rfl⟩:=Int.eq_ofNat_of_zero_le hb.1
  have v0:ρ.v 0=(m:Int):=hv 0 (by simp)
  have v1:ρ.v 1=(k:Int):=hv 1 (by simp)
  have w:∀ x:Nat,(x:Int)≤4294967295→IntKind.u32.wrap (x:Int)=(x:Int):=fun x hx=>wrap_in (by simp [kLo]) (by simp only [kHi];omega)
  have hm:m<2 ^ 32:=by omega
  have hk:k<2 ^ 32:=by omega
  refine⟨_,rfl,rfl,by show 7≤7+1000;omega,fun π=>?_⟩
  simp only [V.conc]
  rw [bitS_den (m:=m) (k:=k) (by rw [v0,w m ha.2]) (by rw [v1,w k hb.2]) hm hk]
  have:(fun i=>howB how (m.testBit i) (k.testBit i))=fun i=>(howN how m k).testBit i:=funext fun i=>(howN_bit how m k i).symm
  rw [this,low_test,Nat.mod_eq_of_lt (howN_lt hm hk)]
  show _=Value.int .u32 (bitsI (howO how) .u32 (m:Int) (k:Int))
  rw [bitsI_how hm hk]
def cxM:Cx:={cxD with mg:=true}
theorem how_run0:leafOf [] 7 ((ev cxM 4000).call 32 (varsU 0 2++[.int .i64 (.lit 0)]) (stG [] 7))=bitTree 0:=by rw [evT_call];kernel_rfl
theorem how_run1:leafOf [] 7 ((ev cxM 4000).call 32 (varsU 0 2++[.int .i64 (.lit 1)]) (stG [] 7))=bitTree 1:=by rw [evT_call];kernel_rfl
theorem how_run2:leafOf [] 7 ((ev cxM 4000).call 32 (varsU 0 2++[.int .i64 (.lit 2)]) (stG [] 7))=bitTree 2:=by rw [evT_call];kernel_rfl
def rowsHow:List (List V×(List X→X)):=[([.int .i64 (.lit 0)],mkHow 0),([.int .i64 (.lit 1)],mkHow 1),([.int .i64 (.lit 2)],mkHow 2)]
theorem how_den(how:Nat)(ρ:Env)(xs:List X)(hl:xs.length=2):(mkHow how xs).den ρ=howF how (xs.map fun x=>x.den ρ):=by
 match xs,hl with
 | [a,b],_=>simp only [mkHow,howF,mkBits_den];rfl
theorem at32{ρ:Env}{c:Cx}(hc:c.ng=7):SumAt Tryz.prog c ρ 32 (symU rowsHow 2):=by
 refine symU_ok (cx0:=cxM) (N:=4000) mixed_door tt_ok ft_ok (fun ρ' _=>sum_flags allD) hc rfl Tryz.func32 fun x hx=>?_
 simp only [rowsHow,List.mem_cons,List.not_mem_nil,or_false] at hx
 rcases hx with rfl | rfl | rfl
 ·exact⟨howF 0,bitTree 0,how_run0,rfl,fun _ _ _ _=>rfl,fun ρ xs hl _=>how_den 0 ρ xs hl,how_spec 0⟩
 ·exact⟨howF 1,bitTree 1,how_run1,rfl,fun _ _ _ _=>rfl,fun ρ xs hl _=>how_den 1 ρ xs hl,how_spec 1⟩
 ·exact⟨howF 2,bitTree 2,how_run2,rfl,fun _ _ _ _=>rfl,fun ρ xs hl _=>how_den 2 ρ xs hl,how_spec 2⟩
end
end Go.Proofs.YtmickljjofbmiaaGreatDoor
namespace Go.Proofs.YtmickljjofbmiaaGreatDoor
open Go Go.Proofs
noncomputable section
def xA:X:=.wrap .u32 (.var 0)
def xB:X:=.wrap .u32 (.var 1)
def mX:X:=.rem xB (.lit 32)
def tower(g:Nat→X):Nat→Nat→X
 | i,0=>g i
 | i,k+1=>.ite (.lt (.lit (Int.ofNat i)) mX) (tower g (i+1) k) (g i)
theorem tower_den{ρ:Env}{g:Nat→X}{n:Nat} (h:mX.den ρ=(n:Int)):∀ (k i:Nat),i≤n→n≤i+k→(tower g i k).den ρ=(g n).den ρ
 | 0,i,h1,h2=>by
  obtain rfl:n=i:=by omega
  rfl
 | k+1,i,h1,h2=>by
  unfold tower
  simp only [X.den,h]
  by_cases hi:i<n
  ·have e:=tower_den (g:=g) h k (i+1) hi (by omega)
   simp [b2i,e]
   omega
  ·obtain rfl:n=i:=by omega
   simp [b2i]
def powX:X:=tower (fun i=>.lit (Int.ofNat (2 ^ i))) 0 31
def shlX:X:=tower (fun i=>match i with | 0=>xA | i=>.wrap .u32 (.mul xA (.lit (Int.ofNat (2 ^ i))))) 0 31
def shrX:X:=.wrap .u32 (.quo xA powX)
def sA:X:=.wrap .i32 xA
def sarX:X:=.ite (.lt sA (.lit 0)) (.wrap .u32 (.ite (.eq (.mul (.quo sA powX) powX) sA) (.quo sA powX) (.sub (.quo sA powX) (.lit 1)))) (.wrap .u32 (.quo sA powX))
def treeOf(x:X)(n:Nat:=7):R Leaf:=.ok {v:=.int .u32 x,objs:=[],n:=n}
theorem word2{ρ:Env}{zs:List Int}(hl:zs.length=2)(hz:∀ z∈zs,0≤z∧z≤4294967295) (hv:∀ j (h:j<zs.length),ρ.v j=zs[j]):
  ∃ m k:Nat,zs=[(m:Int),(k:Int)]∧m<2 ^ 32∧k<2 ^ 32∧xA.den ρ=(m:Int)∧xB.den ρ=(k:Int):=by
 match zs,hl with
 | [a,b],_=>
  have ha:=hz a (by simp)
  have hb:=hz b (by simp)
  obtain⟨m,rfl⟩:=Int.eq_ofNat_of_zero_le ha.1
  obtain⟨k,rfl⟩:=Int.eq_ofNat_of_zero_le hb.1
  have v0:ρ.v 0=(m:Int):=hv 0 (by simp)
  have v1:ρ.v 1=(k:Int):=hv 1 (by simp)
  have w:∀ x:Nat,(x:Int)≤4294967295→IntKind.u32.wrap (x:Int)=(x:Int):=fun x hx=>wrap_in (by simp [kLo]) (by simp only [kHi];omega)
  exact⟨m,k,rfl,by omega,by omega,by simp only [xA,X.den,v0,w m ha.2],by simp only [xB,X.den,v1,w k hb.2]⟩
theorem mX_den{ρ:Env}{k:Nat} (h:xB.den ρ=(k:Int)):mX.den ρ=((k % 32:Nat):Int):=by
 unfold mX
 simp only [X.den]
 rw [h,show (32:Int)=((32:Nat):Int) from rfl,←Int.ofNat_tmod]
theorem powX_den{ρ:Env}{k:Nat} (h:xB.den ρ=(k:Int)):powX.den ρ=((2 ^ (k % 32):Nat):Int):=by
 unfold powX
 rw [tower_den (mX_den h) 31 0 (by omega) (by omega)]
 rfl
theorem spec2{x:X}{n:Nat}(hn:n≤7+1000){F:List Int→Int} (h:∀ (ρ:Env) (m k:Nat),m<2 ^ 32→k<2 ^ 32→xA.den ρ=(m:Int)→xB.den ρ=(k:Int)→x.den ρ=F [(m:Int),(k:Int)])
  (ρ:Env) (zs:List Int) (hl:zs.length=2) (hz:∀ z∈zs,0≤z∧z≤4294967295) (hv:∀ j (h:j<zs.length),ρ.v j=zs[j]):∃ lf,(treeOf x n).sel ρ=some lf∧lf.objs=[]∧lf.n≤7+1000∧∀ π,lf.v.conc ρ π=.int .u32 (F zs):=by
 obtain⟨m,k,rfl,hm,hk,ha,hb⟩:=word2 hl hz hv
 exact⟨_,rfl,rfl,hn,fun π=>by simp only [V.conc];rw [h ρ m k hm hk ha hb]⟩
theorem tmod32(k:Nat):(k:Int).tmod 32=((k % 32:Nat):Int):=by
 rw [show (32:Int)=((32:Nat):Int) from rfl,←Int.ofNat_tmod]
def shlF(zs:List Int):Int:=shlI .u32 (zs.getD 0 0) ((zs.getD 1 0).tmod 32)
def shrF(zs:List Int):Int:=shrI .u32 (zs.getD 0 0) ((zs.getD 1 0).tmod 32)
def sarF(zs:List Int):Int:=IntKind.u32.wrap (shrI .i32 (IntKind.i32.wrap (zs.getD 0 0)) ((zs.getD 1 0).tmod 32))
theorem shl_law(ρ:Env)(m k:Nat)(hm:m<2 ^ 32)(hk:k<2 ^ 32) (ha:xA.den ρ=(m:Int)) (hb:xB.den ρ=(k:Int)):shlX.den ρ=shlF [(m:Int),(k:Int)]:=by
 have hlt:k % 32<32:=Nat.mod_lt _ (by omega)
 unfold shlX
 rw [tower_den (mX_den hb) 31 0 (by omega) (by omega)]
 have e:shlF [(m:Int),(k:Int)]=IntKind.u32.wrap ((m:Int)*2 ^ (k % 32)):=by
  show IntKind.u32.wrap ((m:Int)*2 ^ (min ((k:Int).tmod 32).toNat 32))=_
  rw [tmod32]
  rw [show ((k % 32:Nat):Int).toNat=k % 32 from rfl,Nat.min_eq_left (by omega)]
 rw [e]
 split
 ·rename_i h0
  rw [h0,ha]
  simp only [Int.pow_zero,Int.mul_one]
  exact (wrap_in (by simp [kLo]) (by simp only [kHi];omega)).symm
 ·simp only [X.den,ha]
  show IntKind.u32.wrap ((m:Int)*((2 ^ (k % 32):Nat):Int))=_
  norm_cast
theorem shr_law(ρ:Env)(m k:Nat)(hm:m<2 ^ 32)(hk:k<2 ^ 32) (ha:xA.den ρ=(m:Int)) (hb:xB.den ρ=(k:Int)):shrX.den ρ=shrF [(m:Int),(k:Int)]:=by
 have hlt:k % 32<32:=Nat.mod_lt _ (by omega)
 unfold shrX
 simp only [X.den,ha,powX_den hb]
 have e:shrF [(m:Int),(k:Int)]=(m:Int).fdiv ((2 ^ (k % 32):Nat):Int):=by
  show (m:Int).fdiv (2 ^ (min ((k:Int).tmod 32).toNat 32))=_
  rw [tmod32]
  rw [show ((k % 32:Nat):Int).toNat=k % 32 from rfl,Nat.min_eq_left (by omega)]
  norm_cast
 have hp:=Nat.two_pow_pos (k % 32)
 generalize 2 ^ (k % 32)=q at *
 have:m / q≤m:=Nat.div_le_self _ _
 have e2:(m:Int).tdiv (q:Int)=((m / q:Nat):Int):=(Int.ofNat_tdiv _ _).symm
 have e3:(m:Int) / (q:Int)=((m / q:Nat):Int):=by norm_cast
 rw [e,e2,Int.fdiv_eq_ediv_of_nonneg _ (by omega),e3]
 generalize m / q=d at *
 exact wrap_in (by simp only [kLo];omega) (by simp only [kHi];omega)
theorem down_law{a p:Int}(hp:0<p):(if a<0 then (if a.tdiv p*p=a then a.tdiv p else a.tdiv p-1) else a.tdiv p)=a.fdiv p:=by
 rw [Int.fdiv_eq_ediv_of_nonneg _ (by omega)]
 have h2:=Int.mul_ediv_add_emod a p
 have h3:=Int.emod_nonneg a (Int.ne_of_gt hp)
 have h4:=Int.emod_lt_of_pos a hp
 split
 ·rename_i ha
  have h5:a.tdiv p=-((-a) / p):=by
   rw [show a=-(-a) by omega,Int.neg_tdiv,Int.neg_neg,Int.tdiv_eq_ediv_of_nonneg (by omega)]
  have h6:=Int.mul_ediv_add_emod (-a) p
  have h7:=Int.emod_nonneg (-a) (Int.ne_of_gt hp)
  have h8:=Int.emod_lt_of_pos (-a) hp
  generalize hq:(-a) / p=q at *
  generalize hd:a / p=d at *
  rw [h5]
  have key:p*(d+q)=- (a % p)-((-a) % p):=by rw [Int.mul_add];omega
  split
  ·rename_i he
   have e1:(-a) % p=0:=by
    have:-q*p=-(p*q):=by rw [Int.neg_mul,Int.mul_comm]
    omega
   rw [e1] at key
   have:p*(d+q)≤0:=by omega
   have:-p<p*(d+q):=by omega
   have h9:d+q≤0:=Int.not_lt.1 fun hlt=>by
    have:p*1≤p*(d+q):=Int.mul_le_mul_of_nonneg_left (by omega) (by omega)
    omega
   have h10:-1<d+q:=Int.lt_of_not_ge fun hle=>by
    have:p*(d+q)≤p*(-1):=Int.mul_le_mul_of_nonneg_left hle (by omega)
    omega
   omega
  ·rename_i he
   have e1:(-a) % p≠0:=fun h0=>he (by
    have:-q*p=-(p*q):=by rw [Int.neg_mul,Int.mul_comm]
    omega)
   have h9:d+q<0:=Int.lt_of_not_ge fun hge=>by
    have:p*0≤p*(d+q):=Int.mul_le_mul_of_nonneg_left hge (by omega)
    omega
   have h10:-2<d+q:=Int.lt_of_not_ge fun hle=>by
    have:p*(d+q)≤p*(-2):=Int.mul_le_mul_of_nonneg_left hle (by omega)
    omega
   omega
 ·rw [Int.tdiv_eq_ediv_of_nonneg (by omega)]
theorem sar_law(ρ:Env)(m k:Nat)(hm:m<2 ^ 32)(hk:k<2 ^ 32) (ha:xA.den ρ=(m:Int)) (hb:xB.den ρ=(k:Int)):sarX.den ρ=sarF [(m:Int),(k:Int)]:=by
 have hlt:k % 32<32:=Nat.mod_lt _ (by omega)
 have hp:(0:Int)<((2 ^ (k % 32):Nat):Int):=by have:=Nat.two_pow_pos (k % 32);omega
 have hs:sA.den ρ=IntKind.i32.wrap (m:Int):=by unfold sA;simp only [X.den,ha]
 have e:sarF [(m:Int),(k:Int)]=IntKind.u32.wrap ((IntKind.i32.wrap (m:Int)).fdiv ((2 ^ (k % 32):Nat):Int)):=by
  show IntKind.u32.wrap ((IntKind.i32.wrap (m:Int)).fdiv (2 ^ (min ((k:Int).tmod 32).toNat 32)))=_
  rw [tmod32]
  rw [show ((k % 32:Nat):Int).toNat=k % 32 from rfl,Nat.min_eq_left (by omega)]
  norm_cast
 rw [e,←down_law hp]
 unfold sarX
 simp only [X.den,hs,powX_den hb]
 generalize IntKind.i32.wrap (m:Int)=a
 generalize ((2 ^ (k % 32):Nat):Int)=p
 by_cases h1:a<0
 ·by_cases h2:a.tdiv p*p=a<;>simp [h1,h2,b2i]
 ·simp [h1,b2i]
def InW(z:Int):Prop:=0≤z∧z≤4294967295
theorem rowU{n:Nat}{f:FuncId}{x:X}{mk:List X→X}{F:List Int→Int} (run:leafOf [] 7 ((ev cxM 4000).call f (varsU 0 2++[]) (stG [] 7))=treeOf x n) (den:∀ (ρ:Env) (a b:X),InW (a.den ρ)→InW (b.den ρ)→(mk [a,b]).den ρ=F [a.den ρ,b.den ρ])
  (h:∀ (ρ:Env) (m k:Nat),m<2 ^ 32→k<2 ^ 32→xA.den ρ=(m:Int)→xB.den ρ=(k:Int)→x.den ρ=F [(m:Int),(k:Int)]) (hn:n≤7+1000:=by omega):RowU cxM 7 4000 2 f [] mk F (treeOf x n) where
 run:=run
 pure:=rfl
 closed:=fun _ _ _ _=>rfl
 den:=fun ρ xs hl hx=>by
  match xs,hl with
  | [a,b],_=>exact den ρ a b (hx a (by simp)) (hx b (by simp))
 spec:=fun ρ zs=>spec2 hn h ρ zs
theorem symU2{n:Nat}{f:FuncId}{fn:Func} (hfn:Tryz.prog.funcs[f]?=some fn) {x:X} {mk:List X→X} {F:List Int→Int} (h:RowU cxM 7 4000 2 f [] mk F (treeOf x n)) {ρ:Env} {c:Cx} (hc:c.ng=7):SumAt Tryz.prog c ρ f (symU [([],mk)] 2):=by
 refine symU_ok (cx0:=cxM) (N:=4000) mixed_door tt_ok ft_ok (fun ρ' _=>sum_flags allD) hc rfl hfn fun x hx=>?_
 simp only [List.mem_cons,List.not_mem_nil,or_false] at hx
 subst hx
 exact⟨F,_,h⟩
def arg(xs:List X)(i:Nat):X:=xs.getD i (.lit 0)
def mkShlS(xs:List X):X:=mkShl .u32 (arg xs 0) (mkRem (arg xs 1) (.lit 32))
def mkShrS(xs:List X):X:=mkShr .u32 (arg xs 0) (mkRem (arg xs 1) (.lit 32))
def mkSarS(xs:List X):X:=mkWrap .u32 (mkShr .i32 (mkWrap .i32 (arg xs 0)) (mkRem (arg xs 1) (.lit 32)))
theorem run88:leafOf [] 7 ((ev cxM 4000).call 88 (varsU 0 2++[]) (stG [] 7))=treeOf shlX:=by rw [evT_call];kernel_rfl
theorem run89:leafOf [] 7 ((ev cxM 4000).call 89 (varsU 0 2++[]) (stG [] 7))=treeOf shrX:=by rw [evT_call];kernel_rfl
theorem run90:leafOf [] 7 ((ev cxM 4000).call 90 (varsU 0 2++[]) (stG [] 7))=treeOf sarX:=by rw [evT_call];kernel_rfl
theorem at88{ρ:Env}{c:Cx}(hc:c.ng=7):SumAt Tryz.prog c ρ 88 (symU [([],mkShlS)] 2):=
 symU2 Tryz.func88 (rowU run88 (fun ρ a b _ _=>by simp only [mkShlS,arg,shlF,mkShl_den,mkRem_den,X.den,List.getD_cons_zero,List.getD_cons_succ]) shl_law) hc
theorem at89{ρ:Env}{c:Cx}(hc:c.ng=7):SumAt Tryz.prog c ρ 89 (symU [([],mkShrS)] 2):=
 symU2 Tryz.func89 (rowU run89 (fun ρ a b _ _=>by simp only [mkShrS,arg,shrF,mkShr_den,mkRem_den,X.den,List.getD_cons_zero,List.getD_cons_succ]) shr_law) hc
theorem at90{ρ:Env}{c:Cx}(hc:c.ng=7):SumAt Tryz.prog c ρ 90 (symU [([],mkSarS)] 2):=
 symU2 Tryz.func90 (rowU run90 (fun ρ a b _ _=>by simp only [mkSarS,arg,sarF,mkShr_den,mkWrap_den,mkRem_den,X.den,List.getD_cons_zero,List.getD_cons_succ]) sar_law) hc
end
end Go.Proofs.YtmickljjofbmiaaGreatDoor
namespace Go.Proofs.YtmickljjofbmiaaGreatDoor
open Go Go.Proofs
noncomputable section
def hB:X:=.quo xB (.lit 65536)
def lB:X:=.wrap .u16 xB
def hA:X:=.quo xA (.lit 65536)
def lA:X:=.wrap .u16 xA
def mulX:X:=.wrap .u32 (.add (.mul xA lB) (.mul (.wrap .u16 (.wrap .u32 (.mul xA hB))) (.lit 65536)))
def sB:X:=.wrap .i32 xB
def downX(p:X):X:=.wrap .u32 (.ite (.lt p (.lit 0)) (.ite (.eq (.wrap .i64 (.mul (.quo p (.lit 4294967296)) (.lit 4294967296))) p) (.quo p (.lit 4294967296)) (.sub (.quo p (.lit 4294967296)) (.lit 1))) (.quo p (.lit 4294967296)))
def topX(p:X):X:=.quo (.wrap .u64 p) (.lit 4294967296)
def mulhuX:X:=.add (.mul hA hB) (.quo (.add (.add (.mul hA lB) (.mul lA hB)) (.quo (.mul lA lB) (.lit 65536))) (.lit 65536))
theorem u32_of(z:Int):IntKind.u32.wrap z=z % 4294967296:=rfl
theorem u16_of(z:Int):IntKind.u16.wrap z=z % 65536:=rfl
theorem u64_of(z:Int):IntKind.u64.wrap z=z % 18446744073709551616:=rfl
theorem tdiv_lit{a:Int}(h:0≤a)(b:Int):a.tdiv b=a / b:=Int.tdiv_eq_ediv_of_nonneg h
def mulF(zs:List Int):Int:=IntKind.u32.wrap (zs.getD 0 0*zs.getD 1 0)
def mulhF(zs:List Int):Int:=IntKind.u32.wrap ((IntKind.i32.wrap (zs.getD 0 0)*IntKind.i32.wrap (zs.getD 1 0)).fdiv 4294967296)
def mulhsuF(zs:List Int):Int:=IntKind.u32.wrap ((IntKind.i32.wrap (zs.getD 0 0)*zs.getD 1 0).fdiv 4294967296)
def mulhuF(zs:List Int):Int:=IntKind.u32.wrap ((zs.getD 0 0*zs.getD 1 0).fdiv 4294967296)
theorem mul_law(ρ:Env)(m k:Nat)(hm:m<2 ^ 32)(hk:k<2 ^ 32) (ha:xA.den ρ=(m:Int)) (hb:xB.den ρ=(k:Int)):mulX.den ρ=mulF [(m:Int),(k:Int)]:=by
 unfold mulX lB hB
 simp only [X.den,ha,hb,u32_of,u16_of]
 rw [tdiv_lit (by omega)]
 show _=((m:Int)*(k:Int)) % 4294967296
 have hd:(k:Int)=65536*((k:Int) / 65536)+(k:Int) % 65536:=by omega
 have e:(m:Int)*(k:Int)=65536*((m:Int)*((k:Int) / 65536))+(m:Int)*((k:Int) % 65536):=by
  conv=>lhs;rw [hd]
  rw [Int.mul_add,Int.mul_left_comm]
 rw [e]
 generalize (m:Int)*((k:Int) / 65536)=p
 generalize (m:Int)*((k:Int) % 65536)=q
 omega
theorem top_law(p:Int):(p % 18446744073709551616).tdiv 4294967296=(p.fdiv 4294967296) % 4294967296:=by
 rw [tdiv_lit (by omega),Int.fdiv_eq_ediv_of_nonneg _ (by omega)]
 omega
theorem downX_den{ρ:Env}{x:X}{p:Int}(h:x.den ρ=p)(h1:-9223372036854775808≤p)(h2:p≤9223372036854775807):(downX x).den ρ=IntKind.u32.wrap (p.fdiv 4294967296):=by
 unfold downX
 simp only [X.den,h]
 have hw:IntKind.i64.wrap (p.tdiv 4294967296*4294967296)=p.tdiv 4294967296*4294967296:=by
  have h3:=Int.tmod_add_mul_tdiv p 4294967296
  have h4:-4294967296<p.tmod 4294967296:=Int.lt_tmod_of_pos _ (by omega)
  have h5:p.tmod 4294967296<4294967296:=Int.tmod_lt_of_pos _ (by omega)
  have h6:0≤p→0≤p.tmod 4294967296:=fun h=>Int.tmod_nonneg _ h
  have h7:p≤0→p.tmod 4294967296≤0:=fun h=>by
   have:=Int.tmod_nonneg (a:=-p) 4294967296 (by omega)
   rw [Int.neg_tmod] at this
   omega
  refine wrap_in ?_ ?_<;>simp only [kLo,kHi]<;>rcases Int.le_total 0 p with h8 | h8
  ·have:=h6 h8;omega
  ·have:=h7 h8;omega
  ·have:=h6 h8;omega
  ·have:=h7 h8;omega
 rw [hw,←down_law (a:=p) (p:=4294967296) (by omega)]
 congr 1
 by_cases h3:p<0
 ·by_cases h4:p.tdiv 4294967296*4294967296=p<;>simp [h3,h4,b2i]
 ·simp [h3,b2i]
theorem i32_rg(z:Int):-2147483648≤IntKind.i32.wrap z∧IntKind.i32.wrap z≤2147483647:=wrap_rg .i32 z
theorem prod_rg{a b:Int}{m n:Int}(h1:-m≤a)(h2:a≤m)(h3:-n≤b)(h4:b≤n):-(m*n)≤a*b∧a*b≤m*n:=by
 have ha:(a.natAbs:Int)≤m:=by omega
 have hb:(b.natAbs:Int)≤n:=by omega
 have h5:((a*b).natAbs:Int)≤m*n:=by
  rw [Int.natAbs_mul,Int.natCast_mul]
  exact Int.mul_le_mul ha hb (by omega) (by omega)
 constructor<;>omega
theorem mulh_ref(ρ:Env)(m k:Nat)(hm:m<2 ^ 32)(hk:k<2 ^ 32) (ha:xA.den ρ=(m:Int)) (hb:xB.den ρ=(k:Int)):(downX (.mul sA sB)).den ρ=mulhF [(m:Int),(k:Int)]:=by
 have e:(X.mul sA sB).den ρ=IntKind.i32.wrap (m:Int)*IntKind.i32.wrap (k:Int):=by simp only [sA,sB,X.den,ha,hb]
 have h1:=i32_rg (m:Int)
 have h2:=i32_rg (k:Int)
 have h3:=prod_rg (m:=2147483648) (n:=2147483648) (by omega) (by omega:IntKind.i32.wrap (m:Int)≤2147483648) (by omega) (by omega:IntKind.i32.wrap (k:Int)≤2147483648)
 have:=downX_den e (by omega) (by omega)
 exact this
theorem mulhsu_ref(ρ:Env)(m k:Nat)(hm:m<2 ^ 32)(hk:k<2 ^ 32) (ha:xA.den ρ=(m:Int)) (hb:xB.den ρ=(k:Int)):(downX (.mul sA xB)).den ρ=mulhsuF [(m:Int),(k:Int)]:=by
 have e:(X.mul sA xB).den ρ=IntKind.i32.wrap (m:Int)*(k:Int):=by simp only [sA,X.den,ha,hb]
 have h1:=i32_rg (m:Int)
 have h3:=prod_rg (m:=2147483648) (n:=4294967295) (by omega) (by omega:IntKind.i32.wrap (m:Int)≤2147483648) (by omega) (by omega:(k:Int)≤4294967295)
 have:=downX_den e (by omega) (by omega)
 exact this
theorem mulh_own(ρ:Env)(m k:Nat)(_:m<2 ^ 32)(_:k<2 ^ 32) (ha:xA.den ρ=(m:Int)) (hb:xB.den ρ=(k:Int)):(topX (.mul sA sB)).den ρ=mulhF [(m:Int),(k:Int)]:=by
 simp only [topX,sA,sB,X.den,ha,hb,u64_of]
 rw [top_law]
 rfl
theorem mulhsu_own(ρ:Env)(m k:Nat)(_:m<2 ^ 32)(_:k<2 ^ 32) (ha:xA.den ρ=(m:Int)) (hb:xB.den ρ=(k:Int)):(topX (.mul sA xB)).den ρ=mulhsuF [(m:Int),(k:Int)]:=by
 simp only [topX,sA,X.den,ha,hb,u64_of]
 rw [top_law]
 rfl
theorem mulhu_ref(ρ:Env)(m k:Nat)(hm:m<2 ^ 32)(hk:k<2 ^ 32) (ha:xA.den ρ=(m:Int)) (hb:xB.den ρ=(k:Int)):mulhuX.den ρ=mulhuF [(m:Int),(k:Int)]:=by
 simp only [mulhuX,hA,hB,lA,lB,X.den,ha,hb,u16_of]
 show _=(((m:Int)*(k:Int)).fdiv 4294967296) % 4294967296
 have p0:(0:Int)≤(m:Int) / 65536:=by omega
 have p1:(0:Int)≤(k:Int) / 65536:=by omega
 have p2:(0:Int)≤(m:Int) % 65536:=by omega
 have p3:(0:Int)≤(k:Int) % 65536:=by omega
 have q0:=Int.mul_nonneg p0 p1
 have q1:=Int.mul_nonneg p0 p3
 have q2:=Int.mul_nonneg p2 p1
 have q3:=Int.mul_nonneg p2 p3
 rw [tdiv_lit (show (0:Int)≤(m:Int) by omega),tdiv_lit (show (0:Int)≤(k:Int) by omega),tdiv_lit q3,tdiv_lit (by omega),Int.fdiv_eq_ediv_of_nonneg _ (by omega)]
 have em:(m:Int)=65536*((m:Int) / 65536)+(m:Int) % 65536:=by omega
 have ek:(k:Int)=65536*((k:Int) / 65536)+(k:Int) % 65536:=by omega
 have l0:=prod_rg (a:=(m:Int) / 65536) (b:=(k:Int) / 65536) (m:=65535) (n:=65535) (by omega) (by omega) (by omega) (by omega)
 have l1:=prod_rg (a:=(m:Int) / 65536) (b:=(k:Int) % 65536) (m:=65535) (n:=65535) (by omega) (by omega) (by omega) (by omega)
 have l2:=prod_rg (a:=(m:Int) % 65536) (b:=(k:Int) / 65536) (m:=65535) (n:=65535) (by omega) (by omega) (by omega) (by omega)
 have l3:=prod_rg (a:=(m:Int) % 65536) (b:=(k:Int) % 65536) (m:=65535) (n:=65535) (by omega) (by omega) (by omega) (by omega)
 have e:(m:Int)*(k:Int)=4294967296*((m:Int) / 65536*((k:Int) / 65536))+65536*((m:Int) / 65536*((k:Int) % 65536))+65536*((m:Int) % 65536*((k:Int) / 65536))+(m:Int) % 65536*((k:Int) % 65536):=by
  generalize (m:Int) / 65536=a at *
  generalize (k:Int) / 65536=b at *
  generalize (m:Int) % 65536=c at *
  generalize (k:Int) % 65536=d at *
  rw [em,ek,Int.add_mul,Int.mul_add,Int.mul_add]
  rw [show (65536*a)*(65536*b)=4294967296*(a*b) by rw [Int.mul_assoc,Int.mul_left_comm a,←Int.mul_assoc];rfl,show (65536*a)*d=65536*(a*d) by rw [Int.mul_assoc],show c*(65536*b)=65536*(c*b) by rw [Int.mul_left_comm]]
  omega
 rw [e]
 generalize (m:Int) / 65536*((k:Int) / 65536)=P at *
 generalize (m:Int) / 65536*((k:Int) % 65536)=Q at *
 generalize (m:Int) % 65536*((k:Int) / 65536)=R at *
 generalize (m:Int) % 65536*((k:Int) % 65536)=S at *
 omega
def mkMulS(xs:List X):X:=mkMul .u32 (arg xs 0) (arg xs 1)
def mkMulhS(xs:List X):X:=mkWrap .u32 (mkShr .i64 (mkMul .i64 (mkWrap .i32 (arg xs 0)) (mkWrap .i32 (arg xs 1))) (.lit 32))
def mkMulhsuS(xs:List X):X:=mkWrap .u32 (mkShr .i64 (mkMul .i64 (mkWrap .i32 (arg xs 0)) (arg xs 1)) (.lit 32))
def mkMulhuS(xs:List X):X:=mkWrap .u32 (mkShr .u64 (mkMul .u64 (arg xs 0) (arg xs 1)) (.lit 32))
theorem mulh_den(ρ:Env)(a b:X) (ha:InW (a.den ρ)) (hb:InW (b.den ρ)):(mkMulhS [a,b]).den ρ=mulhF [a.den ρ,b.den ρ]:=by
 have h1:=i32_rg (a.den ρ)
 have h2:=i32_rg (b.den ρ)
 have h3:=prod_rg (m:=2147483648) (n:=2147483648) (by omega) (by omega:IntKind.i32.wrap (a.den ρ)≤2147483648) (by omega) (by omega:IntKind.i32.wrap (b.den ρ)≤2147483648)
 simp only [mkMulhS,arg,List.getD_cons_zero,List.getD_cons_succ,mkShr_den,mkMul_den,mkWrap_den,X.den]
 rw [wrap_in (k:=.i64) (by simp only [kLo];omega) (by simp only [kHi];omega)]
 rfl
theorem mulhsu_den(ρ:Env)(a b:X) (_:InW (a.den ρ)) (hb:InW (b.den ρ)):(mkMulhsuS [a,b]).den ρ=mulhsuF [a.den ρ,b.den ρ]:=by
 have h1:=i32_rg (a.den ρ)
 have h3:=prod_rg (m:=2147483648) (n:=4294967295) (by omega) (by omega:IntKind.i32.wrap (a.den ρ)≤2147483648) (by have:=hb.1;omega) (hb.2)
 simp only [mkMulhsuS,arg,List.getD_cons_zero,List.getD_cons_succ,mkShr_den,mkMul_den,mkWrap_den,X.den]
 rw [wrap_in (k:=.i64) (by simp only [kLo];omega) (by simp only [kHi];omega)]
 rfl
theorem mulhu_den(ρ:Env)(a b:X) (ha:InW (a.den ρ)) (hb:InW (b.den ρ)):(mkMulhuS [a,b]).den ρ=mulhuF [a.den ρ,b.den ρ]:=by
 have h3:=prod_rg (a:=a.den ρ) (b:=b.den ρ) (m:=4294967295) (n:=4294967295) (by have:=ha.1;omega) ha.2 (by have:=hb.1;omega) hb.2
 have h4:=Int.mul_nonneg ha.1 hb.1
 simp only [mkMulhuS,arg,List.getD_cons_zero,List.getD_cons_succ,mkShr_den,mkMul_den,mkWrap_den,X.den]
 rw [wrap_in (k:=.u64) (by simp only [kLo];omega) (by simp only [kHi];omega)]
 rfl
theorem run91:leafOf [] 7 ((ev cxM 4000).call 91 (varsU 0 2++[]) (stG [] 7))=treeOf mulX:=by rw [evT_call];kernel_rfl
theorem run92:leafOf [] 7 ((ev cxM 4000).call 92 (varsU 0 2++[]) (stG [] 7))=treeOf (downX (.mul sA sB)):=by rw [evT_call];kernel_rfl
theorem run93:leafOf [] 7 ((ev cxM 4000).call 93 (varsU 0 2++[]) (stG [] 7))=treeOf (downX (.mul sA xB)):=by rw [evT_call];kernel_rfl
theorem run94:leafOf [] 7 ((ev cxM 4000).call 94 (varsU 0 2++[]) (stG [] 7))=treeOf mulhuX:=by rw [evT_call];kernel_rfl
theorem run133:leafOf [] 7 ((ev cxM 4000).call 133 (varsU 0 2++[]) (stG [] 7))=treeOf (topX (.mul sA sB)) 8:=by rw [evT_call];kernel_rfl
theorem run134:leafOf [] 7 ((ev cxM 4000).call 134 (varsU 0 2++[]) (stG [] 7))=treeOf (topX (.mul sA xB)) 8:=by rw [evT_call];kernel_rfl
theorem at91{ρ:Env}{c:Cx}(hc:c.ng=7):SumAt Tryz.prog c ρ 91 (symU [([],mkMulS)] 2):=
 symU2 Tryz.func91 (rowU run91 (fun ρ a b _ _=>by simp only [mkMulS,arg,mulF,mkMul_den,List.getD_cons_zero,List.getD_cons_succ]) mul_law) hc
theorem at92{ρ:Env}{c:Cx}(hc:c.ng=7):SumAt Tryz.prog c ρ 92 (symU [([],mkMulhS)] 2):=symU2 Tryz.func92 (rowU run92 mulh_den mulh_ref) hc
theorem at93{ρ:Env}{c:Cx}(hc:c.ng=7):SumAt Tryz.prog c ρ 93 (symU [([],mkMulhsuS)] 2):=symU2 Tryz.func93 (rowU run93 mulhsu_den mulhsu_ref) hc
theorem at94{ρ:Env}{c:Cx}(hc:c.ng=7):SumAt Tryz.prog c ρ 94 (symU [([],mkMulhuS)] 2):=symU2 Tryz.func94 (rowU run94 mulhu_den mulhu_ref) hc
theorem at133{ρ:Env}{c:Cx}(hc:c.ng=7):SumAt Tryz.prog c ρ 133 (symU [([],mkMulhS)] 2):=symU2 Tryz.func133 (rowU (n:=8) run133 mulh_den mulh_own) hc
theorem at134{ρ:Env}{c:Cx}(hc:c.ng=7):SumAt Tryz.prog c ρ 134 (symU [([],mkMulhsuS)] 2):=symU2 Tryz.func134 (rowU (n:=8) run134 mulhsu_den mulhsu_own) hc
end
end Go.Proofs.YtmickljjofbmiaaGreatDoor
namespace Go.Proofs.YtmickljjofbmiaaGreatDoor
open Go Go.Proofs
noncomputable def slSy:SmL:=[(32,symU rowsHow 2),(91,symU [([],mkMulS)] 2),(92,symU [([],mkMulhS)] 2),(133,symU [([],mkMulhS)] 2),(93,symU [([],mkMulhsuS)] 2),(134,symU [([],mkMulhsuS)] 2),(94,symU [([],mkMulhuS)] 2),(88,symU [([],mkShlS)] 2),(89,symU [([],mkShrS)] 2),(90,symU [([],mkSarS)] 2)]
theorem okSy{ro:Nat→Obj}:AtAll ro slSy:=fun _ _ _ hc=>⟨at32 hc,at91 hc,at92 hc,at133 hc,at93 hc,at134 hc,at94 hc,at88 hc,at89 hc,at90 hc,trivial⟩
end Go.Proofs.YtmickljjofbmiaaGreatDoor
