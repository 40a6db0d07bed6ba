/- AloneAgain: of any code, any bytes, any number of steps the law answers true, and nothing that was there is turned. No condition. -/
import Derived.Test.YtmickljjofbmiaaGreatDoorQLaw
set_option maxRecDepth 100000
namespace Go.Proofs.YtmickljjofbmiaaGreatDoor
open Go Go.Proofs Go.ChangeShapes Go.WideShapes Go.ChangeAt Go.RowKit
def CIn(W:World)(v:Value)(g:Nat→Int→Int)(n c:Int)(a:Addr):Nat→Prop
 | 0=>v=.slice none 0 0
 | 1=>v=.slice (some a) 0 c.toNat∧0≤c
 | 2=>v=.slice (some a) n.toNat c.toNat∧1≤n∧n≤200∧n≤c∧jJ W [.int .u32] a n.toNat g
 | _=>v=.slice (some a) n.toNat c.toNat∧200<n∧n≤c∧jJ W [.int .u32] a n.toNat g
def BIn(W:World)(v:Value)(g:Nat→Int→Int)(n c:Int)(a:Addr):Nat→Prop
 | 0=>v=.slice none 0 0
 | 1=>v=.slice (some a) 0 c.toNat∧0≤c
 | 2=>v=.slice (some a) n.toNat c.toNat∧1≤n∧n<16∧n≤c∧jJ W [.int .u8] a n.toNat g
 | 3=>v=.slice (some a) n.toNat c.toNat∧16≤n∧n≤4096∧n≤c∧jJ W [.int .u8] a n.toNat g
 | _=>v=.slice (some a) n.toNat c.toNat∧4096<n∧n≤c∧jJ W [.int .u8] a n.toNat g
def XIn(most:Int):Nat→Prop
 | 0=>most<0
 | 1=>most≤0∧0≤most
 | 2=>1≤most∧most≤300
 | _=>300<most
theorem adM(most:Int):∃ k,k<4∧XIn most k:=by
 by_cases h:300<most
 ·exact⟨3,by decide,h⟩
 by_cases h2:most<0
 ·exact⟨0,by decide,h2⟩
 by_cases h3:most≤0
 ·exact⟨1,by decide,h3,by omega⟩
 ·exact⟨2,by decide,by omega,by omega⟩
section
variable {H:Type} {enc:TypeId×Value→H} {W:World} {v:Value} {d0:DataW H} {p:List MemPlace} {base b0:Nat} {sp:Nat→Bool} {held:Bool} {r:Reach}
theorem aeY(hval:Value.okWide Tryz.prog W r b0 25 v)(h0:DataW.Trod enc Tryz.prog W base sp held 25 v d0 p):∃ g n c a i,i<4∧CIn W v g n c a i:=by
 obtain⟨ad,ln,cp,rfl⟩:=okWide_slice Tryz.underlying25 hval
 obtain⟨fuel,hf⟩:=h0
 rcases open_row (n:=3) (ks:=[.int .u32]) Tryz.underlying25 (by kernel_rfl) (by kernel_rfl) hf with hcs | ⟨a,len,cap,zs,hcs,_,hle,_,hz⟩
 ·simp [Value.cells] at hcs
  obtain⟨rfl,rfl,rfl⟩:=hcs
  exact⟨fun _ _=>0,0,0,⟨0,0,none⟩,0,by decide,rfl⟩
 ·simp [Value.cells] at hcs
  obtain⟨rfl,rfl,rfl⟩:=hcs
  by_cases hl0:ln=0
  ·subst hl0
   exact⟨fun _ _=>0,0,cp,a,1,by decide,rfl,by omega⟩
  ·have hc:=CB (by omega) (by decide) hz
   by_cases hbig:200<(ln:Int)
   ·exact⟨_,ln,cp,a,3,by decide,rfl,hbig,by omega,hc⟩
   ·exact⟨_,ln,cp,a,2,by decide,rfl,by omega,by omega,by omega,hc⟩
theorem acS(hval:Value.okWide Tryz.prog W r b0 22 v)(h0:DataW.Trod enc Tryz.prog W base sp held 22 v d0 p):∃ g n c a i,i<5∧BIn W v g n c a i:=by
 obtain⟨ad,ln,cp,rfl⟩:=okWide_slice Tryz.underlying22 hval
 obtain⟨fuel,hf⟩:=h0
 rcases open_row (n:=3) (ks:=[.int .u8]) Tryz.underlying22 (by kernel_rfl) (by kernel_rfl) hf with hcs | ⟨a,len,cap,zs,hcs,_,hle,_,hz⟩
 ·simp [Value.cells] at hcs
  obtain⟨rfl,rfl,rfl⟩:=hcs
  exact⟨fun _ _=>0,0,0,⟨0,0,none⟩,0,by decide,rfl⟩
 ·simp [Value.cells] at hcs
  obtain⟨rfl,rfl,rfl⟩:=hcs
  by_cases hl0:ln=0
  ·subst hl0
   exact⟨fun _ _=>0,0,cp,a,1,by decide,rfl,by omega⟩
  ·have hc:=CB (by omega) (by decide) hz
   by_cases hbig:4096<(ln:Int)
   ·exact⟨_,ln,cp,a,4,by decide,rfl,hbig,by omega,hc⟩
   ·by_cases hs:(ln:Int)<16
    ·exact⟨_,ln,cp,a,2,by decide,rfl,by omega,hs,by omega,hc⟩
    ·exact⟨_,ln,cp,a,3,by decide,rfl,by omega,by omega,by omega,hc⟩
end
section
variable {d:LK} {v:Value}
theorem cPc{g:Nat→Int→Int}:∀ {i:Nat},CIn d.W v g d.nc d.cc d.ac i→au d.env (cA i).2
 | 0,_=>jZ
 | 1,h=>cn (s7 h.2) jZ
 | 2,h=>cn (s7 h.2.1) (cn (s7 h.2.2.1) (cn (s7 h.2.2.2.1) jZ))
 | _+3,h=>cn (tlt h.2.1) (cn (s7 h.2.2.1) jZ)
theorem bPc{g:Nat→Int→Int}:∀ {i:Nat},BIn d.W v g d.nb d.cb d.ab i→au d.env (bA i).2
 | 0,_=>jZ
 | 1,h=>cn (s7 h.2) jZ
 | 2,h=>cn (s7 h.2.1) (cn (tlt h.2.2.1) (cn (s7 h.2.2.2.1) jZ))
 | 3,h=>cn (s7 h.2.1) (cn (s7 h.2.2.1) (cn (s7 h.2.2.2.1) jZ))
 | _+4,h=>cn (tlt h.2.1) (cn (s7 h.2.2.1) jZ)
theorem xPc:∀ {k:Nat},XIn d.most k→au d.env (kA k)
 | 0,h=>cn (tlt h) jZ
 | 1,h=>cn (s7 h.1) (cn (s7 h.2) jZ)
 | 2,h=>cn (s7 h.1) (cn (s7 h.2) jZ)
 | _+3,h=>cn (tlt h) jZ
theorem zPc(he:1≤d.most→Ends d.par d.s0 d.most d.N){i j k:Nat}(hx:XIn d.most k):∃ z,zOk i j k z∧au d.env (zA z)∧(z=1→ie d.par d.s0 d.N=0):=by
 unfold zOk
 cases hc:Nat.beq i 2&&Nat.beq j 3&&Nat.beq k 2 with
 | false=>exact⟨0,rfl,jZ,fun h=>by cases h⟩
 | true=>
  simp only [Bool.and_eq_true] at hc
  obtain rfl:=Nat.eq_of_beq_eq_true hc.2
  have e:=he hx.1
  have h1:(1:Int)≤(d.N:Int):=by have:=e.n1;omega
  have h2:(d.N:Int)≤300:=by have:=e.most;have:=hx.2;omega
  have fin:au d.env [le (.lit 1) (.var 60),le (.var 60) (.lit 300)]:=cn (s7 h1) (cn (s7 h2) jZ)
  have hle:=adr (p:=d.par) (s0:=d.s0) d.N
  by_cases hz:ie d.par d.s0 d.N=0
  ·refine⟨1,.inl rfl,cn (by rw [cD];exact beq_iff_eq.2 (by show (ie d.par d.s0 d.N:Int)=0;omega)) fin,fun _=>hz⟩
  ·exact⟨2,.inr rfl,cn (s7 (show (1:Int)≤(ie d.par d.s0 d.N:Int) by omega)) (cn (s7 (show (ie d.par d.s0 d.N:Int)≤300 by omega)) fin),fun h=>by cases h⟩
end
theorem P0{W:World}(h:laidMetH Tryz.prog Rows.aloneAgainRow.laid W){ρ:Env}(h0:ρ.ro 0=X7 W 0):RoAt ρ aj∧∀ x∈aj,W.heap[x.1]?=some (ρ.ro x.1):=by
 obtain⟨t,fr,h1⟩:=YV h
 have e:ρ.ro 0=.cells ((pK 256).map (.int .u8)).toArray t fr:=by rw [h0];simp only [X7,h1,Option.getD_some]
 refine⟨⟨fun x hx=>?_⟩,fun x hx=>?_⟩<;>(simp only [aj,List.mem_singleton] at hx;subst hx)
 ·exact⟨t,fr,fun π=>by rw [e,km]⟩
 ·rw [e];exact h1
theorem kh(a:Addr):a.add 0=a:=by simp [Addr.add]
theorem Ml{H:Type}{enc:TypeId×Value→H}{W:World}(h:laidMetH Tryz.prog Rows.aloneAgainRow.laid W){v0 v1 v2:Value}{d0 d1 d2:DataW H}{p0 p1 p2:List MemPlace}{b0 b1 b2:Nat}
  (hv0:Value.okWide Tryz.prog W .any b0 25 v0) (hv1:Value.okWide Tryz.prog W .any b1 22 v1) (hv2:Value.okWide Tryz.prog W .any b2 3 v2)
  (h0:DataW.Trod enc Tryz.prog W 0 (fun _=>true) true 25 v0 d0 p0) (h1:DataW.Trod enc Tryz.prog W 0 (fun _=>true) true 22 v1 d1 p1) (h2:DataW.Trod enc Tryz.prog W 0 (fun _=>true) true 3 v2 d2 p2):
  Calls Tryz.prog 6 #[v0,v1,v2] W fun e W'=>e=.returned (.bool true)∧Below W.heap.size W W':=by
 obtain⟨gc,nc,cc,ac,i,hi,hC⟩:=aeY hv0 h0
 obtain⟨gb,nb,cb,ab,j,hj,hB⟩:=acS hv1 h1
 obtain⟨most,rfl,_⟩:=open_int Tryz.underlying3 hv2 h2
 obtain⟨k,hk,hX⟩:=adM most
 let d0:LK:=⟨W,gc 0,nc,cc,ac,gb 0,nb,cb,ab,1,most,0⟩
 obtain⟨N,hN⟩:=Zh (p:=d0.par) (s0:=d0.s0) rfl most
 let d:LK:=⟨W,gc 0,nc,cc,ac,gb 0,nb,cb,ab,1,most,if 1≤most then N else 0⟩
 have hC':CIn d.W v0 gc d.nc d.cc d.ac i:=hC
 have hB':BIn d.W v1 gb d.nb d.cb d.ab j:=hB
 have hX':XIn d.most k:=hX
 have he:1≤d.most→Ends d.par d.s0 d.most d.N:=fun h=>by
  have e:d.N=N:=if_pos h
  rw [e]
  exact hN h
 have hNm:1≤(d.N:Int)→1≤d.most:=fun h=>by
  by_cases hm:1≤most
  ·exact hm
  ·have e:d.N=0:=if_neg hm
   omega
 obtain⟨hro,hW⟩:=P0 h (ρ:=d.env) rfl
 obtain⟨z,hz,hzp,hz0⟩:=zPc (i:=i) (j:=j) he hX'
 have hc:2≤i→jJ W [.int .u32] ac nc.toNat gc:=by
  intro h2
  match i,hi,h2,hC with
  | 2,_,_,hC=>exact hC.2.2.2.2
  | 3,_,_,hC=>exact hC.2.2.2
 have hb:2≤j→jJ W [.int .u8] ab nb.toNat gb:=by
  intro h2
  match j,hj,h2,hB with
  | 2,_,_,hB=>exact hB.2.2.2.2
  | 3,_,_,hB=>exact hB.2.2.2.2
  | 4,_,_,hB=>exact hB.2.2.2
 have hmem:∀ x∈ZV i j,(x=(8,.warr 8 10 [.int .u32] (.var 40))∧2≤i)∨(x=(9,.warr 9 20 [.int .u8] (.var 50))∧2≤j):=by
  intro x hx
  unfold ZV at hx
  rcases List.mem_append.1 hx with hx | hx
  ·split at hx
   ·rename_i hc
    exact .inl ⟨List.mem_singleton.1 hx,Nat.le_of_ble_eq_true hc⟩
   ·cases hx
  ·split at hx
   ·rename_i hc
    exact .inr ⟨List.mem_singleton.1 hx,Nat.le_of_ble_eq_true hc⟩
   ·cases hx
 have hrows:RowsAt d.env W (ZV i j) 7 10:=by
  refine⟨fun x hx=>?_,by decide,fun x hx=>?_,fun x hx=>?_,fun x hx π hπ=>?_⟩<;>rcases hmem x hx with ⟨rfl,h2⟩ | ⟨rfl,h2⟩
  ·decide
  ·decide
  ·exact (hc h2).block
  ·exact (hb h2).block
  ·rfl
  ·rfl
  ·exact (hc h2).is (t:=10) rfl rfl (fun c hc=>by
    match c,hc with
    | 0,_=>rfl) (Nat.le_refl _) hπ
  ·exact (hb h2).is (t:=20) rfl rfl (fun c hc=>by
    match c,hc with
    | 0,_=>rfl) (Nat.le_refl _) hπ
 have hpc:au d.env (alQ i j k z):=Od (cPc hC') (Od (bPc hB') (Od (xPc hX') (Od hzp (cn (s7 (show (0:Int)≤1 by decide)) (cn (s7 (show (1:Int)≤3 by decide)) (cn rfl jZ))))))
 have ha:bT d.env (fun i=>i<10) (πRows d.env 7) [(cA i).1,(bA j).1,i64 (.var 43)] [v0,v1,.int .i64 most]:=by
  have e0:∀ π,(cA i).1.ae d.env π=v0:=by
   intro π
   match i,hi,hC with
   | 0,_,hC=>exact hC.symm
   | 1,_,hC=>exact (congrArg (fun a=>Value.slice (some a) 0 cc.toNat) (kh ac)).trans hC.1.symm
   | 2,_,hC=>exact (congrArg (fun a=>Value.slice (some a) nc.toNat cc.toNat) (kh ac)).trans hC.1.symm
   | 3,_,hC=>exact (congrArg (fun a=>Value.slice (some a) nc.toNat cc.toNat) (kh ac)).trans hC.1.symm
  have e1:∀ π,(bA j).1.ae d.env π=v1:=by
   intro π
   match j,hj,hB with
   | 0,_,hB=>exact hB.symm
   | 1,_,hB=>exact (congrArg (fun a=>Value.slice (some a) 0 cb.toNat) (kh ab)).trans hB.1.symm
   | 2,_,hB=>exact (congrArg (fun a=>Value.slice (some a) nb.toNat cb.toNat) (kh ab)).trans hB.1.symm
   | 3,_,hB=>exact (congrArg (fun a=>Value.slice (some a) nb.toNat cb.toNat) (kh ab)).trans hB.1.symm
   | 4,_,hB=>exact (congrArg (fun a=>Value.slice (some a) nb.toNat cb.toNat) (kh ab)).trans hB.1.symm
  intro π _
  show [(cA i).1.ae d.env π,(bA j).1.ae d.env π,.int .i64 most]=_
  rw [e0,e1]
 have hid:0≤d.id∧d.id≤3:=⟨show (0:Int)≤1 by decide,show (1:Int)≤3 by decide⟩
 have hT:ct Tryz.prog (aaB z) d.env 16 (Vg z):=by
  match z,hz0 with
  | 0,_=>exact fun args st v st' h=>by simp [Vg,R.ai] at h
  | 1,hz0=>
    refine ang rfl hro fun σ hσ=>?_
    obtain rfl:=List.mem_singleton.1 hσ
    exact LK.YU hro hW he hNm rfl fun _=>hz0 rfl
  | z+2,_=>
    refine alp rfl hro fun σ hσ=>?_
    obtain rfl:=List.mem_singleton.1 hσ
    exact LK.ZZ hro hW he hNm rfl
 have hall:SumOk Tryz.prog (aaB z) d.env:=nu (l:=ajy z) ⟨(anY (aZ.of hro) _ rfl _ rfl).1,ajc rfl hro,N4 rfl (ai6 rfl hro fun σ hσ=>by
   obtain rfl:=List.mem_singleton.1 hσ
   rw [Oy]
   exact LK.aau hro hW he rfl),amU rfl hro fun σ hσ=>by
   obtain rfl:=List.mem_singleton.1 hσ
   rw [Oy]
   exact LK.Z5 hro hW he hNm rfl hid,N4 rfl hT,trivial⟩ rfl
 exact W7 (cx:=aaB z) (L:=aj) (ng:=7) (nm:=10) (ρ:=d.env) (N:=4000) ba fZ fS hall Tryz.func6 rfl dd hro hW hrows hpc (by rw [bP];exact aas hi hj hk hz) ha
end Go.Proofs.YtmickljjofbmiaaGreatDoor
