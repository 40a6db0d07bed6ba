/- What isa.Decode and the document's Decode answer of any word: the same instruction. No condition. -/
import Derived.Test.YtmickljjofbmiaaGreatDoorADcI
import Derived.Test.YtmickljjofbmiaaGreatDoorADc0
import Derived.Test.YtmickljjofbmiaaGreatDoorADc1
import Derived.Test.YtmickljjofbmiaaGreatDoorABits
import Derived.Test.YtmickljjofbmiaaGreatDoorFwH
set_option maxRecDepth 100000
namespace Go.Proofs.YtmickljjofbmiaaGreatDoor
open Go Go.Proofs
theorem XS:cE 1000 dIR d0R [(.cube (2 ^ 31) (mV 31 true),false)]=true:=by kernel_rfl
theorem XT:cE 1000 dIR d1R [(.cube (2 ^ 31) (mV 31 true),true)]=true:=by kernel_rfl
noncomputable def Rt:V→Bool
 | .tuple [.agg [.int .i64 (.lit (.ofNat op)),.int .i64 a,.int .i64 b,.int .i64 c,.int .u32 n,.bool _,.bool _],.bool (.lit (.ofNat k))]=>match k with
  | 0=>Nat.beq op 0&&(tq 0 0 a&&(tq 0 0 b&&(tq 0 0 c&&tq 0 0 n)))
  | _=>Nat.ble 1 op&&(Nat.ble op 59&&(tq 0 (match GJ op with | true=>31 | false=>0) a&&(tq 0 31 b&&(tq 0 31 c&&tq 0 (match CE op with | true=>0 | false=>4294967295) n))))
 | _=>false
def mi(p:V→Bool):R Leaf→Bool
 | .ok lf=>p lf.v
 | .br _ t f=>mi p t&&mi p f
 | .stuck _=>true
theorem iD{p:V→Bool}{ρ:Env}{lf:Leaf}:∀ {r:R Leaf},mi p r=true→r.ai ρ=some lf→p lf.v=true
 | .ok a,h,e=>by
  obtain rfl:=Option.some.inj (show some a=some lf from e)
  exact h
 | .br c t f,h,e=>by
  simp only [mi,Bool.and_eq_true] at h
  unfold R.ai at e
  split at e
  ·exact iD h.1 e
  ·exact iD h.2 e
 | .stuck _,_,e=>by simp [R.ai] at e
theorem Rq:mi Rt dIR=true:=by kernel_rfl
structure sw where
 op:Nat
 rd:Int
 r1:Int
 r2:Int
 n:Int
 aq:Bool
 rl:Bool
def sw.v(d:sw):Value:=.tuple #[.agg #[.int .i64 d.op,.int .i64 d.rd,.int .i64 d.r1,.int .i64 d.r2,.int .u32 d.n,.bool d.aq,.bool d.rl],.bool (!(Nat.beq d.op 0))]
structure sw.Ok (d:sw):Prop where
 op:d.op≤59
 rd:0≤d.rd∧d.rd≤31
 r1:0≤d.r1∧d.r1≤31
 r2:0≤d.r2∧d.r2≤31
 n:0≤d.n∧d.n≤4294967295
 no:GJ d.op=false→d.rd=0
 imm:CE d.op=true→d.n=0
 zero:d.op=0→d.rd=0∧d.r1=0∧d.r2=0∧d.n=0
theorem Gi{ρ:Env}{v:V}(h:Rt v=true):∃ d:sw,d.Ok∧∀ π,v.ae ρ π=d.v:=by
 unfold Rt at h
 split at h
 ·rename_i op a b c n x y k
  cases k with
  | zero=>
   simp only [Bool.and_eq_true] at h
   obtain⟨h1,h2,h3,h4,h5⟩:=h
   obtain rfl:=Nat.eq_of_beq_eq_true h1
   have h2:=cw (ρ:=ρ) h2
   have h3:=cw (ρ:=ρ) h3
   have h4:=cw (ρ:=ρ) h4
   have h5:=cw (ρ:=ρ) h5
   exact⟨⟨0,a.den ρ,b.den ρ,c.den ρ,n.den ρ,x.tt ρ,y.tt ρ⟩,⟨by simp,by simp only;omega,by simp only;omega,by simp only;omega,by simp only;omega,fun _=>by simp only;omega,fun _=>by simp only;omega,fun _=>by simp only;omega⟩,fun π=>rfl⟩
  | succ k=>
   simp only [Bool.and_eq_true] at h
   obtain⟨h0,h1,h2,h3,h4,h5⟩:=h
   have h0:=Nat.le_of_ble_eq_true h0
   have h1:=Nat.le_of_ble_eq_true h1
   have h2:=cw (ρ:=ρ) h2
   have h3:=cw (ρ:=ρ) h3
   have h4:=cw (ρ:=ρ) h4
   have h5:=cw (ρ:=ρ) h5
   refine⟨⟨op,a.den ρ,b.den ρ,c.den ρ,n.den ρ,x.tt ρ,y.tt ρ⟩,⟨h1,?_,h3,h4,?_,fun e=>?_,fun e=>?_,fun e=>?_⟩,fun π=>?_⟩
   ·split at h2<;>(simp only;omega)
   ·split at h5<;>(simp only;omega)
   ·rw [show GJ op=false from e] at h2
    simp only at h2 ⊢
    omega
   ·rw [show CE op=true from e] at h5
    simp only at h5 ⊢
    omega
   ·have:op=0:=e
    omega
   ·have e1:(X.lit (Int.ofNat (k+1))).tt ρ=true:=rfl
    have e2:Nat.beq op 0=false:=by
     cases op with
     | zero=>omega
     | succ n=>rfl
    simp only [V.ae,V.af,sw.v,e1,e2]
    rfl
 ·cases h
def n7(ro:Nat→Obj)(n:Nat):Env:={b:=n.testBit,v:=fun _=>0,f1:=fun _ _=>0,f2:=fun _ _ _=>0,s:=fun _=>[],sf:=fun _ _=>[],ro:=ro,win:=fun _=>⟨0,0,none⟩}
theorem FX{ρ:Env}{b:Bool}(h:ρ.b 31=b):av ρ [(.cube (2 ^ 31) (mV 31 true),b)]:=fun f hf=>by
 obtain rfl:=List.mem_singleton.1 hf
 have:=Gc (ρ:=ρ) (i:=31) (b:=true)
 rw [X.tt,X.den,dd]
 cases b with
 | true=>exact this.2 h
 | false=>
  cases hc:bg ρ (2 ^ 31) (mV 31 true) with
  | false=>rfl
  | true=>rw [this.1 hc] at h;cases h
theorem Zb{ro:Nat→Obj}{n:Nat}(hn:n<4294967296):ar (n7 ro n) (tL 0 32) .zero=n:=
 Fz (by omega) (by simpa using (by omega:(n:Int)<4294967296)) fun i _=>by rw [Nat.zero_add];rfl
theorem aaK{ro:Nat→Obj}{n:Nat}(hn:n<2147483648):ar (n7 ro n) (tL 0 31) .zero=n:=
 Fz (by omega) (by simpa using (by omega:(n:Int)<2147483648)) fun i _=>by rw [Nat.zero_add];rfl
theorem X6{ro:Nat→Obj}{n:Nat}(h1:2147483648≤n)(h2:n<4294967296):ar (n7 ro n) (tL 0 31++[.one]) .zero=n:=by
 have e:=DC (ρ:=n7 ro n) (o:=0) (k:=31) (n:=n) (fun i _=>by rw [Nat.zero_add];rfl) [.one] .zero
 rw [e]
 have hm:n % 2 ^ 31=n-2147483648:=by omega
 rw [hm]
 simp [ar,B.den,a7]
 omega
theorem Gf{ro:Nat→Obj}{n:Nat}(hn:n<4294967296)(π:Pl):V.af (n7 ro n) π dIA=[.int .u32 (n:Int)]:=by
 show [Value.int .u32 (ar (n7 ro n) (tL 0 32) .zero)]=_
 rw [Zb hn]
theorem Ro{ro:Nat→Obj}{n:Nat}(hn:n<2147483648)(π:Pl):V.af (n7 ro n) π d0A=[.int .u32 (n:Int)]:=by
 show [Value.int .u32 (ar (n7 ro n) (tL 0 31) .zero)]=_
 rw [aaK hn]
theorem Rp{ro:Nat→Obj}{n:Nat}(h1:2147483648≤n)(hn:n<4294967296)(π:Pl):V.af (n7 ro n) π d1A=[.int .u32 (n:Int)]:=by
 show [Value.int .u32 (ar (n7 ro n) (tL 0 31++[.one]) .zero)]=_
 rw [X6 h1 hn]
section
variable {ro:Nat→Obj} (hro:bx ro)
include hro
theorem qG{l:j6}{f:FuncId}{a:List V}{r:R Leaf} (hrow:Row (kf l) f a r) (hl:aL ro l) {n:Nat} {lf:Leaf} (hs:r.ai (n7 ro n)=some lf) (hn:lf.n≤1000) {c:List Value} (ha:∀ π,V.af (n7 ro n) π a=c) (hp:V.dt a=true) {val:Value} (hv:∀ π,lf.v.ae (n7 ro n) π=val):bc Tryz.prog aj 7 1000 ro f c val:=by
 unfold Row at hrow
 rw [←hrow] at hs
 obtain⟨st2,h1,h2,_,_,h3⟩:=ij hs
 exact⟨kf l,4000,n7 ro n,[],a,lf.v,st2,hl.ok rfl rfl,pL,oQ,rfl,rfl,hro _ rfl,(fun f hf=>(by cases hf)),h1,h2,by omega,hv,hp,ha⟩
theorem aaw{n:Nat}(hn:n<4294967296):∃ d:sw,d.Ok∧bc Tryz.prog aj 7 1000 ro 79 [.int .u32 (n:Int)] d.v∧bc Tryz.prog aj 7 1000 ro 53 [.int .u32 (n:Int)] d.v:=by
 rcases Nat.lt_or_ge n 2147483648 with hlt | hge
 ·have hb:n.testBit 31=false:=Nat.testBit_lt_two_pow (by omega)
  obtain⟨lf,lf',h1,h2,h3,h4,h5,_,_⟩:=mf (ρ:=n7 ro n) (FX hb) XS
  obtain⟨d,hd,hv⟩:=Gi (ρ:=n7 ro n) (iD Rq h1)
  exact⟨d,hd,qG hro Rr (Yu hro) h1 h4 (Gf hn) rfl hv,qG hro aau (Yu hro) h2 h5 (Ro hlt) rfl fun π=>(h3 π).symm.trans (hv π)⟩
 ·have hb:n.testBit 31=true:=by
   rw [Nat.testBit_eq_decide_div_mod_eq]
   exact decide_eq_true (by omega)
  obtain⟨lf,lf',h1,h2,h3,h4,h5,_,_⟩:=mf (ρ:=n7 ro n) (FX hb) XT
  obtain⟨d,hd,hv⟩:=Gi (ρ:=n7 ro n) (iD Rq h1)
  exact⟨d,hd,qG hro Rr (Yu hro) h1 h4 (Gf hn) rfl hv,qG hro aav (Yu hro) h2 h5 (Rp hge hn) rfl fun π=>(h3 π).symm.trans (hv π)⟩
end
end Go.Proofs.YtmickljjofbmiaaGreatDoor
