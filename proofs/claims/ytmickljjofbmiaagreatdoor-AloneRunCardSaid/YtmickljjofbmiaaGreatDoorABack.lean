/- AloneRun: of any code, any bytes, any steps the law answers true, and nothing that was there is turned. No condition. -/
import Derived.Test.YtmickljjofbmiaaGreatDoorALaw
set_option maxRecDepth 100000
namespace Go.Proofs.YtmickljjofbmiaaGreatDoor
open Go Go.Proofs Go.ChangeShapes Go.WideShapes Go.ChangeAt Go.RowKit
def CIn(W:World)(v:Value)(g:Nat→Int→Int)(n c:Int)(a:Addr):Nat→Prop
 | 0=>v=.slice none 0 0
 | 1=>v=.slice (some a) 0 c.toNat∧0≤c
 | 2=>v=.slice (some a) n.toNat c.toNat∧1≤n∧n≤200∧n≤c∧CameIn W [.int .u32] a n.toNat g
 | _=>v=.slice (some a) n.toNat c.toNat∧200<n∧n≤c∧CameIn W [.int .u32] a n.toNat g
def BIn(W:World)(v:Value)(g:Nat→Int→Int)(n c:Int)(a:Addr):Nat→Prop
 | 0=>v=.slice none 0 0
 | 1=>v=.slice (some a) 0 c.toNat∧0≤c
 | 2=>v=.slice (some a) n.toNat c.toNat∧1≤n∧n<16∧n≤c∧CameIn W [.int .u8] a n.toNat g
 | 3=>v=.slice (some a) n.toNat c.toNat∧16≤n∧n≤4096∧n≤c∧CameIn W [.int .u8] a n.toNat g
 | _=>v=.slice (some a) n.toNat c.toNat∧4096<n∧n≤c∧CameIn W [.int .u8] a n.toNat g
def XIn(id most:Int):Nat→Prop
 | 0=>id<0∧most≤300
 | 1=>3<id∧most≤300
 | 2=>0≤id∧id≤3∧most<0
 | 3=>0≤id∧id≤3∧most≤0∧0≤most
 | 4=>0≤id∧id≤3∧1≤most∧most≤300
 | _=>300<most
theorem xIn_of(id most:Int):∃ k,k<6∧XIn id most k:=by
 by_cases h:300<most
 ·exact⟨5,by decide,h⟩
 by_cases h0:id<0
 ·exact⟨0,by decide,h0,by omega⟩
 by_cases h1:3<id
 ·exact⟨1,by decide,h1,by omega⟩
 by_cases h2:most<0
 ·exact⟨2,by decide,by omega,by omega,h2⟩
 by_cases h3:most≤0
 ·exact⟨3,by decide,by omega,by omega,h3,by omega⟩
 ·exact⟨4,by decide,by omega,by omega,by omega,by omega⟩
section
variable {H:Type} {enc:TypeId×Value→H} {W:World} {v:Value} {d0:DataW H} {p:List MemPlace} {base b0:Nat} {sp:Nat→Bool} {held:Bool} {r:Reach}
theorem cIn_of(hval:Value.okWide Tryz.prog W r b0 25 v)(h0:DataW.Trod enc Tryz.prog W base sp held 25 v d0 p):∃ g n c a i,i<4∧CIn W v g n c a i:=by
 obtain⟨ad,ln,cp,rfl⟩:=okWide_slice Tryz.underlying25 hval
 obtain⟨fuel,hf⟩:=h0
 rcases open_row (n:=3) (ks:=[.int .u32]) Tryz.underlying25 (by kernel_rfl) (by kernel_rfl) hf with hcs | ⟨a,len,cap,zs,hcs,_,hle,_,hz⟩
 ·simp [Value.cells] at hcs
  obtain⟨rfl,rfl,rfl⟩:=hcs
  exact⟨fun _ _=>0,0,0,⟨0,0,none⟩,0,by decide,rfl⟩
 ·simp [Value.cells] at hcs
  obtain⟨rfl,rfl,rfl⟩:=hcs
  by_cases hl0:ln=0
  ·subst hl0
   exact⟨fun _ _=>0,0,cp,a,1,by decide,rfl,by omega⟩
  ·have hc:=cameIn_of (by omega) (by decide) hz
   by_cases hbig:200<(ln:Int)
   ·exact⟨_,ln,cp,a,3,by decide,rfl,hbig,by omega,hc⟩
   ·exact⟨_,ln,cp,a,2,by decide,rfl,by omega,by omega,by omega,hc⟩
theorem bIn_of(hval:Value.okWide Tryz.prog W r b0 22 v)(h0:DataW.Trod enc Tryz.prog W base sp held 22 v d0 p):∃ g n c a i,i<5∧BIn W v g n c a i:=by
 obtain⟨ad,ln,cp,rfl⟩:=okWide_slice Tryz.underlying22 hval
 obtain⟨fuel,hf⟩:=h0
 rcases open_row (n:=3) (ks:=[.int .u8]) Tryz.underlying22 (by kernel_rfl) (by kernel_rfl) hf with hcs | ⟨a,len,cap,zs,hcs,_,hle,_,hz⟩
 ·simp [Value.cells] at hcs
  obtain⟨rfl,rfl,rfl⟩:=hcs
  exact⟨fun _ _=>0,0,0,⟨0,0,none⟩,0,by decide,rfl⟩
 ·simp [Value.cells] at hcs
  obtain⟨rfl,rfl,rfl⟩:=hcs
  by_cases hl0:ln=0
  ·subst hl0
   exact⟨fun _ _=>0,0,cp,a,1,by decide,rfl,by omega⟩
  ·have hc:=cameIn_of (by omega) (by decide) hz
   by_cases hbig:4096<(ln:Int)
   ·exact⟨_,ln,cp,a,4,by decide,rfl,hbig,by omega,hc⟩
   ·by_cases hs:(ln:Int)<16
    ·exact⟨_,ln,cp,a,2,by decide,rfl,by omega,hs,by omega,hc⟩
    ·exact⟨_,ln,cp,a,3,by decide,rfl,by omega,by omega,by omega,hc⟩
theorem steps_of(hval:Value.okWide Tryz.prog W r b0 46 v)(h0:DataW.Trod enc Tryz.prog W base sp held 46 v d0 p):∃ a b,v=.agg #[.int .i64 a,.int .i64 b]:=by
 obtain⟨cs,rfl,hk⟩:=open_flat (n:=3) (ks:=[.int .i64,.int .i64]) Tryz.underlying46 (by kernel_rfl) hval h0
 rcases cs with _ | ⟨x,_ | ⟨y,_ | ⟨z,l⟩⟩⟩
 ·exact False.elim hk
 ·exact False.elim hk.2
 ·obtain⟨hx,hy,_⟩:=hk
  obtain⟨a,rfl,_⟩:=hx
  obtain⟨b,rfl,_⟩:=hy
  exact⟨a,b,rfl⟩
 ·exact False.elim hk.2.2
end
section
variable {d:LK} {v:Value}
theorem cPc{g:Nat→Int→Int}:∀ {i:Nat},CIn d.W v g d.nc d.cc d.ac i→PcOk d.env (cA i).2
 | 0,_=>pcNil
 | 1,h=>pcCons (tle h.2) pcNil
 | 2,h=>pcCons (tle h.2.1) (pcCons (tle h.2.2.1) (pcCons (tle h.2.2.2.1) pcNil))
 | _+3,h=>pcCons (tlt h.2.1) (pcCons (tle h.2.2.1) pcNil)
theorem bPc{g:Nat→Int→Int}:∀ {i:Nat},BIn d.W v g d.nb d.cb d.ab i→PcOk d.env (bA i).2
 | 0,_=>pcNil
 | 1,h=>pcCons (tle h.2) pcNil
 | 2,h=>pcCons (tle h.2.1) (pcCons (tlt h.2.2.1) (pcCons (tle h.2.2.2.1) pcNil))
 | 3,h=>pcCons (tle h.2.1) (pcCons (tle h.2.2.1) (pcCons (tle h.2.2.2.1) pcNil))
 | _+4,h=>pcCons (tlt h.2.1) (pcCons (tle h.2.2.1) pcNil)
theorem xPc:∀ {k:Nat},XIn d.id d.most k→PcOk d.env (xsA k)
 | 0,h=>pcCons (tlt h.1) (pcCons (tle h.2) pcNil)
 | 1,h=>pcCons (tlt h.1) (pcCons (tle h.2) pcNil)
 | 2,h=>pcCons (tle h.1) (pcCons (tle h.2.1) (pcCons (tlt h.2.2) pcNil))
 | 3,h=>pcCons (tle h.1) (pcCons (tle h.2.1) (pcCons (tle h.2.2.1) (pcCons (tle h.2.2.2) pcNil)))
 | 4,h=>pcCons (tle h.1) (pcCons (tle h.2.1) (pcCons (tle h.2.2.1) (pcCons (tle h.2.2.2) pcNil)))
 | _+5,h=>pcCons (tlt h) pcNil
theorem zPc(he:1≤d.most→Ends d.par d.s0 d.most d.N){i j k:Nat}(hx:XIn d.id d.most k):∃ z,zOk i j k z∧PcOk d.env (zA z):=by
 unfold zOk
 cases hc:Nat.beq i 2&&Nat.beq j 3&&Nat.beq k 4 with
 | false=>exact⟨0,rfl,pcNil⟩
 | true=>
  simp only [Bool.and_eq_true] at hc
  obtain rfl:=Nat.eq_of_beq_eq_true hc.2
  have e:=he hx.2.2.1
  have h1:(1:Int)≤(d.N:Int):=by have:=e.n1;omega
  have h2:(d.N:Int)≤300:=by have:=e.most;have:=hx.2.2.2;omega
  have fin:PcOk d.env [le (.lit 1) (.var 60),le (.var 60) (.lit 300)]:=pcCons (tle h1) (pcCons (tle h2) pcNil)
  have R:=LK.specR e
  by_cases hz:d.env.v 67=0
  ·refine⟨1,.inl rfl,pcCons (by rw [tt_eq];exact beq_iff_eq.2 hz) (pcCons ?_ fin)⟩
   have e2:d.env.f1 50=d.env.f1 20:=seq_no d.N (R.no hz)
   rw [X.tt,X.den,b2i_tt]
   refine beq_iff_eq.2 ?_
   show rowText d.env 50 _ _=rowText d.env 20 _ _
   unfold rowText
   rw [e2]
  ·exact⟨2,.inr rfl,pcCons (by rw [tt_eq];exact beq_eq_false_iff_ne.2 hz) fin⟩
end
theorem roAll_run{W:World}(h:laidMetH Tryz.prog Rows.aloneRunRow.laid W){ρ:Env}(h0:ρ.ro 0=roW W 0):RoAt ρ LStart∧∀ x∈LStart,W.heap[x.1]?=some (ρ.ro x.1):=by
 obtain⟨t,fr,h1⟩:=of_laid h
 have e:ρ.ro 0=.cells ((asciiZ 256).map (.int .u8)).toArray t fr:=by rw [h0];simp only [roW,h1,Option.getD_some]
 refine⟨⟨fun x hx=>?_⟩,fun x hx=>?_⟩<;>(simp only [LStart,List.mem_singleton] at hx;subst hx)
 ·exact⟨t,fr,fun π=>by rw [e,asciiL_concs]⟩
 ·rw [e];exact h1
theorem add_none(a:Addr):a.add 0=a:=by simp [Addr.add]
theorem run_walk{H:Type}{enc:TypeId×Value→H}{W:World}(h:laidMetH Tryz.prog Rows.aloneRunRow.laid W){v0 v1 v2:Value}{d0 d1 d2:DataW H}{p0 p1 p2:List MemPlace}{b0 b1 b2:Nat}
  (hv0:Value.okWide Tryz.prog W .any b0 25 v0) (hv1:Value.okWide Tryz.prog W .any b1 22 v1) (hv2:Value.okWide Tryz.prog W .any b2 46 v2)
  (h0:DataW.Trod enc Tryz.prog W 0 (fun _=>true) true 25 v0 d0 p0) (h1:DataW.Trod enc Tryz.prog W 0 (fun _=>true) true 22 v1 d1 p1) (h2:DataW.Trod enc Tryz.prog W 0 (fun _=>true) true 46 v2 d2 p2):
  Calls Tryz.prog 4 #[v0,v1,v2] W fun e W'=>e=.returned (.bool true)∧Below W.heap.size W W':=by
 obtain⟨gc,nc,cc,ac,i,hi,hC⟩:=cIn_of hv0 h0
 obtain⟨gb,nb,cb,ab,j,hj,hB⟩:=bIn_of hv1 h1
 obtain⟨id,most,rfl⟩:=steps_of hv2 h2
 obtain⟨k,hk,hX⟩:=xIn_of id most
 let d0:LK:=⟨W,gc 0,nc,cc,ac,gb 0,nb,cb,ab,id,most,0⟩
 obtain⟨N,hN⟩:=ends_of (p:=d0.par) (s0:=d0.s0) rfl most
 let d:LK:=⟨W,gc 0,nc,cc,ac,gb 0,nb,cb,ab,id,most,N⟩
 have hC':CIn d.W v0 gc d.nc d.cc d.ac i:=hC
 have hB':BIn d.W v1 gb d.nb d.cb d.ab j:=hB
 have hX':XIn d.id d.most k:=hX
 have he:1≤d.most→Ends d.par d.s0 d.most d.N:=hN
 obtain⟨hro,hW⟩:=roAll_run h (ρ:=d.env) rfl
 obtain⟨z,hz,hzp⟩:=zPc (i:=i) (j:=j) he hX'
 have hc:2≤i→CameIn W [.int .u32] ac nc.toNat gc:=by
  intro h2
  match i,hi,h2,hC with
  | 2,_,_,hC=>exact hC.2.2.2.2
  | 3,_,_,hC=>exact hC.2.2.2
 have hb:2≤j→CameIn W [.int .u8] ab nb.toNat gb:=by
  intro h2
  match j,hj,h2,hB with
  | 2,_,_,hB=>exact hB.2.2.2.2
  | 3,_,_,hB=>exact hB.2.2.2.2
  | 4,_,_,hB=>exact hB.2.2.2
 have hmem:∀ x∈wsOf i j,(x=(8,.warr 8 10 [.int .u32] (.var 40))∧2≤i)∨(x=(9,.warr 9 20 [.int .u8] (.var 50))∧2≤j):=by
  intro x hx
  unfold wsOf at hx
  rcases List.mem_append.1 hx with hx | hx
  ·split at hx
   ·rename_i hc
    exact .inl ⟨List.mem_singleton.1 hx,Nat.le_of_ble_eq_true hc⟩
   ·cases hx
  ·split at hx
   ·rename_i hc
    exact .inr ⟨List.mem_singleton.1 hx,Nat.le_of_ble_eq_true hc⟩
   ·cases hx
 have hrows:RowsAt d.env W (wsOf i j) 7 10:=by
  refine⟨fun x hx=>?_,by decide,fun x hx=>?_,fun x hx=>?_,fun x hx π hπ=>?_⟩<;>rcases hmem x hx with ⟨rfl,h2⟩ | ⟨rfl,h2⟩
  ·decide
  ·decide
  ·exact (hc h2).block
  ·exact (hb h2).block
  ·rfl
  ·rfl
  ·exact (hc h2).is (t:=10) rfl rfl (fun c hc=>by
    match c,hc with
    | 0,_=>rfl) (Nat.le_refl _) hπ
  ·exact (hb h2).is (t:=20) rfl rfl (fun c hc=>by
    match c,hc with
    | 0,_=>rfl) (Nat.le_refl _) hπ
 have hpc:PcOk d.env (pcOf i j k z):=pcApp (cPc hC') (pcApp (bPc hB') (pcApp (xPc hX') (pcApp hzp (pcCons rfl pcNil))))
 have ha:SaysL d.env (fun i=>i<10) (πRows d.env 7) [(cA i).1,(bA j).1,.agg [.int .i64 (.var 42),.int .i64 (.var 43)]] [v0,v1,.agg #[.int .i64 id,.int .i64 most]]:=by
  have e0:∀ π,(cA i).1.conc d.env π=v0:=by
   intro π
   match i,hi,hC with
   | 0,_,hC=>exact hC.symm
   | 1,_,hC=>exact (congrArg (fun a=>Value.slice (some a) 0 cc.toNat) (add_none ac)).trans hC.1.symm
   | 2,_,hC=>exact (congrArg (fun a=>Value.slice (some a) nc.toNat cc.toNat) (add_none ac)).trans hC.1.symm
   | 3,_,hC=>exact (congrArg (fun a=>Value.slice (some a) nc.toNat cc.toNat) (add_none ac)).trans hC.1.symm
  have e1:∀ π,(bA j).1.conc d.env π=v1:=by
   intro π
   match j,hj,hB with
   | 0,_,hB=>exact hB.symm
   | 1,_,hB=>exact (congrArg (fun a=>Value.slice (some a) 0 cb.toNat) (add_none ab)).trans hB.1.symm
   | 2,_,hB=>exact (congrArg (fun a=>Value.slice (some a) nb.toNat cb.toNat) (add_none ab)).trans hB.1.symm
   | 3,_,hB=>exact (congrArg (fun a=>Value.slice (some a) nb.toNat cb.toNat) (add_none ab)).trans hB.1.symm
   | 4,_,hB=>exact (congrArg (fun a=>Value.slice (some a) nb.toNat cb.toNat) (add_none ab)).trans hB.1.symm
  intro π _
  show [(cA i).1.conc d.env π,(bA j).1.conc d.env π,.agg #[.int .i64 id,.int .i64 most]]=_
  rw [e0,e1]
 exact law_rows (cx:=cxK) (L:=LStart) (ng:=7) (nm:=10) (ρ:=d.env) (N:=4000) mixed_door tt_ok ft_ok (allK hro hW he) Tryz.func4 rfl LStart_lt hro hW hrows hpc (by rw [evT_call];exact run_all hi hj hk hz) ha
end Go.Proofs.YtmickljjofbmiaaGreatDoor
