/- What isa.Decode and the document's Decode answer of any word: the same instruction. No condition. -/
import Derived.Test.YtgcbnjpeifigaaaGreatDoorADcI
import Derived.Test.YtgcbnjpeifigaaaGreatDoorADc0
import Derived.Test.YtgcbnjpeifigaaaGreatDoorADc1
import Derived.Test.YtgcbnjpeifigaaaGreatDoorABits
import Derived.Test.YtgcbnjpeifigaaaGreatDoorFwH
set_option maxRecDepth 100000
namespace Go.Proofs.YtgcbnjpeifigaaaGreatDoor
open Go Go.Proofs
theorem aa4:dg 1000 dIR d0R [(.cube (2 ^ 31) (n5 31 true),false)]=true:=by kernel_rfl
theorem aa5:dg 1000 dIR d1R [(.cube (2 ^ 31) (n5 31 true),true)]=true:=by kernel_rfl
noncomputable def U1:V->Bool
 |.tuple [.agg [.int .i64 (.lit (.ofNat op)),.int .i64 a,.int .i64 b,.int .i64 c,.int .u32 n,.bool _,.bool _],.bool (.lit (.ofNat k))]=>match k with
  |0=>Nat.beq op 0&&(pq 0 0 a&&(pq 0 0 b&&(pq 0 0 c&&pq 0 0 n)))
  |_=>Nat.ble 1 op&&(Nat.ble op 59&&(pq 0 (match J5 op with|true=>31|false=>0) a&&(pq 0 31 b&&(pq 0 31 c&&pq 0 (match EO op with|true=>0|false=>4294967295) n))))
 |_=>false
def nw(p:V->Bool):R Leaf->Bool
 |.ok lf=>p lf.v
 |.br _ t f=>nw p t&&nw p f
 |.stuck _=>true
theorem jw{p:V->Bool}{ρ:Env}{lf:Leaf}:∀ {r:R Leaf},nw p r=true->r.ag ρ=some lf->p lf.v=true
 |.ok a,h,e=>by
  obtain rfl:=qqz (show some a=some lf from e);exact h
 |.br c t f,h,e=>by
  simp only[nw,qqw]at h;unfold R.ag at e;split at e
  ·exact jw h.1 e
  ·exact jw h.2 e
 |.stuck _,_,e=>by simp[R.ag]at e
theorem Uh:nw U1 dIR=true:=by kernel_rfl
structure ua where
 op:Nat
 rd:Int
 r1:Int
 r2:Int
 n:Int
 aq:Bool
 rl:Bool
def ua.v(d:ua):Value:=.tuple #[.agg #[.int .i64 d.op,.int .i64 d.rd,.int .i64 d.r1,.int .i64 d.r2,.int .u32 d.n,.bool d.aq,.bool d.rl],.bool (!(Nat.beq d.op 0))]
structure ua.Ok (d:ua):Prop where
 op:d.op<=59
 rd:0<=d.rd/\d.rd<=31
 r1:0<=d.r1/\d.r1<=31
 r2:0<=d.r2/\d.r2<=31
 n:0<=d.n/\d.n<=4294967295
 no:J5 d.op=false->d.rd=0
 imm:EO d.op=true->d.n=0
 zero:d.op=0->d.rd=0/\d.r1=0/\d.r2=0/\d.n=0
theorem JI{ρ:Env}{v:V}(h:U1 v=true):∃ d:ua,d.Ok/\∀ π,v.ab ρ π=d.v:=by
 unfold U1 at h;split at h
 ·rename_i op a b c n x y k;cases k with
  |zero=>
   simp only[qqw]at h;obtain⟨h1,h2,h3,h4,h5⟩:=h;obtain rfl:=qqq h1;have h2:=bh (ρ:=ρ) h2;have h3:=bh (ρ:=ρ) h3;have h4:=bh (ρ:=ρ) h4;have h5:=bh (ρ:=ρ) h5;exact⟨⟨0,a.den ρ,b.den ρ,c.den ρ,n.den ρ,x.tt ρ,y.tt ρ⟩,⟨by simp,by simp only;omega,by simp only;omega,by simp only;omega,by simp only;omega,fun _=>by simp only;omega,fun _=>by simp only;omega,fun _=>by simp only;omega⟩,fun π=>rfl⟩
  |succ k=>
   simp only[qqw]at h;obtain⟨h0,h1,h2,h3,h4,h5⟩:=h;have h0:=qqx h0;have h1:=qqx h1;have h2:=bh (ρ:=ρ) h2;have h3:=bh (ρ:=ρ) h3;have h4:=bh (ρ:=ρ) h4;have h5:=bh (ρ:=ρ) h5;refine⟨⟨op,a.den ρ,b.den ρ,c.den ρ,n.den ρ,x.tt ρ,y.tt ρ⟩,⟨h1,?_,h3,h4,?_,fun e=>?_,fun e=>?_,fun e=>?_⟩,fun π=>?_⟩
   ·split at h2<;>(simp only;omega)
   ·split at h5<;>(simp only;omega)
   ·rw[show J5 op=false from e]at h2;simp only at h2 ⊢;omega
   ·rw[show EO op=true from e]at h5;simp only at h5 ⊢;omega
   ·have:op=0:=e;omega
   ·have e1:(X.lit (Int.ofNat (k+1))).tt ρ=true:=rfl;have e2:Nat.beq op 0=false:=by
     cases op with
     |zero=>omega
     |succ n=>rfl
    simp only[V.ab,V.ae,ua.v,e1,e2];rfl
 ·cases h
def pj(ro:Nat->Obj)(n:Nat):Env:={b:=n.testBit,v:=fun _=>0,f1:=fun _ _=>0,f2:=fun _ _ _=>0,s:=fun _=>[],sf:=fun _ _=>[],ro:=ro,win:=fun _=>⟨0,0,none⟩}
theorem Js{ρ:Env}{b:Bool}(h:ρ.b 31=b):ai ρ [(.cube (2 ^ 31) (n5 31 true),b)]:=fun f hf=>by
 obtain rfl:=qq4.1 hf;have:=PB (ρ:=ρ) (i:=31) (b:=true);rw[X.tt,X.den,da];cases b with
 |true=>exact this.2 h
 |false=>
  cases hc:bD ρ (2 ^ 31) (n5 31 true)with
  |false=>rfl
  |true=>rw[this.1 hc]at h;cases h
theorem acV{ro:Nat->Obj}{n:Nat}(hn:n<4294967296):ay (pj ro n) (yd 0 32) .zero=n:=
 I3 (by omega) (by simpa using(by omega:(n:Int)<4294967296)) fun i _=>by rw[qk7];rfl
theorem ani{ro:Nat->Obj}{n:Nat}(hn:n<2147483648):ay (pj ro n) (yd 0 31) .zero=n:=
 I3 (by omega) (by simpa using(by omega:(n:Int)<2147483648)) fun i _=>by rw[qk7];rfl
theorem abw{ro:Nat->Obj}{n:Nat}(h1:2147483648<=n)(h2:n<4294967296):ay (pj ro n) (yd 0 31++[.one]) .zero=n:=by
 have e:=FR (ρ:=pj ro n) (o:=0) (k:=31) (n:=n) (fun i _=>by rw[qk7];rfl) [.one] .zero;rw[e];have hm:n % 2 ^ 31=n-2147483648:=by omega
 rw[hm];simp[ay,B.den,bp];omega
theorem JF{ro:Nat->Obj}{n:Nat}(hn:n<4294967296)(π:Pl):V.ae (pj ro n) π dIA=[.int .u32 (n:Int)]:=by
 show[Value.int .u32 (ay (pj ro n) (yd 0 32) .zero)]=_;rw[acV hn]
theorem UY{ro:Nat->Obj}{n:Nat}(hn:n<2147483648)(π:Pl):V.ae (pj ro n) π d0A=[.int .u32 (n:Int)]:=by
 show[Value.int .u32 (ay (pj ro n) (yd 0 31) .zero)]=_;rw[ani hn]
theorem UZ{ro:Nat->Obj}{n:Nat}(h1:2147483648<=n)(hn:n<4294967296)(π:Pl):V.ae (pj ro n) π d1A=[.int .u32 (n:Int)]:=by
 show[Value.int .u32 (ay (pj ro n) (yd 0 31++[.one]) .zero)]=_;rw[abw h1 hn]
section
variable {ro:Nat→Obj} (hro:aZ ro)
include hro
theorem rY{l:l9}{f:FuncId}{a:List V}{r:R Leaf} (hrow:Row (jK l) f a r) (hl:aO ro l) {n:Nat} {lf:Leaf} (hs:r.ag (pj ro n)=some lf) (hn:lf.n<=1000) {c:List Value} (ha:∀ π,V.ae (pj ro n) π a=c) (hp:V.dN a=true) {val:Value} (hv:∀ π,lf.v.ab (pj ro n) π=val):bI Tryz.prog aj 7 1000 ro f c val:=by
 unfold Row at hrow;rw[<-hrow]at hs;obtain⟨st2,h1,h2,_,_,h3⟩:=jb hs;exact⟨jK l,4000,pj ro n,[],a,lf.v,st2,hl.ok rfl rfl,dh,dV,rfl,rfl,hro _ rfl,(fun f hf=>(by cases hf)),h1,h2,by omega,hv,hp,ha⟩
theorem amO{n:Nat}(hn:n<4294967296):∃ d:ua,d.Ok/\bI Tryz.prog aj 7 1000 ro 120 [.int .u32 (n:Int)] d.v/\bI Tryz.prog aj 7 1000 ro 136 [.int .u32 (n:Int)] d.v:=by
 rcases qkz n 2147483648 with hlt|hge
 ·have hb:n.testBit 31=false:=Nat.testBit_lt_two_pow (by omega);obtain⟨lf,lf',h1,h2,h3,h4,h5,_,_⟩:=nv (ρ:=pj ro n) (Js hb) aa4;obtain⟨d,hd,hv⟩:=JI (ρ:=pj ro n) (jw Uh h1);exact⟨d,hd,rY hro U0 (Qr hro) h1 h4 (JF hn) rfl hv,rY hro amM (Qr hro) h2 h5 (UY hlt) rfl fun π=>(h3 π).symm.trans (hv π)⟩
 ·have hb:n.testBit 31=true:=by
   rw[Nat.testBit_eq_decide_div_mod_eq];exact decide_eq_true (by omega)
  obtain⟨lf,lf',h1,h2,h3,h4,h5,_,_⟩:=nv (ρ:=pj ro n) (Js hb) aa5;obtain⟨d,hd,hv⟩:=JI (ρ:=pj ro n) (jw Uh h1);exact⟨d,hd,rY hro U0 (Qr hro) h1 h4 (JF hn) rfl hv,rY hro amN (Qr hro) h2 h5 (UZ hge hn) rfl fun π=>(h3 π).symm.trans (hv π)⟩
end
end Go.Proofs.YtgcbnjpeifigaaaGreatDoor
