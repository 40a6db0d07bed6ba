/- AloneOne: of any word, any bytes, any number the law answers true, and nothing that was there is turned. No condition. -/
import Derived.Test.YtmickljjofbmiaaGreatDoorOLaw
set_option maxRecDepth 100000
namespace Go.Proofs.YtmickljjofbmiaaGreatDoor
open Go Go.Proofs Go.ChangeShapes Go.WideShapes Go.ChangeAt Go.RowKit
def BIn(W:World)(v:Value)(g:Nat→Int→Int)(n c:Int)(a:Addr):Nat→Prop
 | 0=>v=.slice none 0 0
 | 1=>v=.slice (some a) 0 c.toNat∧0≤c
 | 2=>v=.slice (some a) n.toNat c.toNat∧1≤n∧n<16∧n≤c∧CameIn W [.int .u8] a n.toNat g
 | 3=>v=.slice (some a) n.toNat c.toNat∧16≤n∧n≤4096∧n≤c∧CameIn W [.int .u8] a n.toNat g
 | _=>v=.slice (some a) n.toNat c.toNat∧4096<n∧n≤c∧CameIn W [.int .u8] a n.toNat g
section
variable {H:Type} {enc:TypeId×Value→H} {W:World} {v:Value} {d0:DataW H} {p:List MemPlace} {base b0:Nat} {sp:Nat→Bool} {held:Bool} {r:Reach}
theorem bIn_of(hval:Value.okWide Tryz.prog W r b0 22 v)(h0:DataW.Trod enc Tryz.prog W base sp held 22 v d0 p):∃ g n c a i,i<5∧BIn W v g n c a i:=by
 obtain⟨ad,ln,cp,rfl⟩:=okWide_slice Tryz.underlying22 hval
 obtain⟨fuel,hf⟩:=h0
 rcases open_row (n:=3) (ks:=[.int .u8]) Tryz.underlying22 (by kernel_rfl) (by kernel_rfl) hf with hcs | ⟨a,len,cap,zs,hcs,_,hle,_,hz⟩
 ·simp [Value.cells] at hcs
  obtain⟨rfl,rfl,rfl⟩:=hcs
  exact⟨fun _ _=>0,0,0,⟨0,0,none⟩,0,by decide,rfl⟩
 ·simp [Value.cells] at hcs
  obtain⟨rfl,rfl,rfl⟩:=hcs
  by_cases hl0:ln=0
  ·subst hl0
   exact⟨fun _ _=>0,0,cp,a,1,by decide,rfl,by omega⟩
  ·have hc:=cameIn_of (by omega) (by decide) hz
   by_cases hbig:4096<(ln:Int)
   ·exact⟨_,ln,cp,a,4,by decide,rfl,hbig,by omega,hc⟩
   ·by_cases hs:(ln:Int)<16
    ·exact⟨_,ln,cp,a,2,by decide,rfl,by omega,hs,by omega,hc⟩
    ·exact⟨_,ln,cp,a,3,by decide,rfl,by omega,by omega,by omega,hc⟩
end
section
variable {d:LK} {v:Value}
theorem bPc{g:Nat→Int→Int}:∀ {i:Nat},BIn d.W v g d.nb d.cb d.ab i→PcOk d.env (bA i).2
 | 0,_=>pcNil
 | 1,h=>pcCons (tle h.2) pcNil
 | 2,h=>pcCons (tle h.2.1) (pcCons (tlt h.2.2.1) (pcCons (tle h.2.2.2.1) pcNil))
 | 3,h=>pcCons (tle h.2.1) (pcCons (tle h.2.2.1) (pcCons (tle h.2.2.2.1) pcNil))
 | _+4,h=>pcCons (tlt h.2.1) (pcCons (tle h.2.2.1) pcNil)
theorem zPc(e:Ends d.par d.s0 d.most d.N)(hm:d.most≤300)(j:Nat):∃ z,zOk j z∧PcOk d.env (zA z):=by
 unfold zOk
 cases hc:Nat.beq j 3 with
 | false=>exact⟨0,rfl,pcNil⟩
 | true=>
  have h1:(1:Int)≤(d.N:Int):=by have:=e.n1;omega
  have h2:(d.N:Int)≤300:=by have:=e.most;omega
  have fin:PcOk d.env [le (.lit 1) (.var 60),le (.var 60) (.lit 300)]:=pcCons (tle h1) (pcCons (tle h2) pcNil)
  have R:=LK.specR e
  by_cases hz:d.env.v 67=0
  ·refine⟨1,.inl rfl,pcCons (by rw [tt_eq];exact beq_iff_eq.2 hz) (pcCons ?_ fin)⟩
   have e2:d.env.f1 50=d.env.f1 20:=seq_no d.N (R.no hz)
   rw [X.tt,X.den,b2i_tt]
   refine beq_iff_eq.2 ?_
   show rowText d.env 50 _ _=rowText d.env 20 _ _
   unfold rowText
   rw [e2]
  ·exact⟨2,.inr rfl,pcCons (by rw [tt_eq];exact beq_eq_false_iff_ne.2 hz) fin⟩
end
theorem roAll_run{W:World}(h:laidMetH Tryz.prog Rows.aloneOneRow.laid W){ρ:Env}(h0:ρ.ro 0=roW W 0):RoAt ρ LStart∧∀ x∈LStart,W.heap[x.1]?=some (ρ.ro x.1):=by
 obtain⟨t,fr,h1⟩:=of_laid h
 have e:ρ.ro 0=.cells ((asciiZ 256).map (.int .u8)).toArray t fr:=by rw [h0];simp only [roW,h1,Option.getD_some]
 refine⟨⟨fun x hx=>?_⟩,fun x hx=>?_⟩<;>(simp only [LStart,List.mem_singleton] at hx;subst hx)
 ·exact⟨t,fr,fun π=>by rw [e,asciiL_concs]⟩
 ·rw [e];exact h1
theorem add_none(a:Addr):a.add 0=a:=by simp [Addr.add]
theorem one_walk{H:Type}{enc:TypeId×Value→H}{W:World}(h:laidMetH Tryz.prog Rows.aloneOneRow.laid W){v0 v1 v2:Value}{d0 d1 d2:DataW H}{p0 p1 p2:List MemPlace}{b0 b1 b2:Nat}
  (hv0:Value.okWide Tryz.prog W .any b0 24 v0) (hv1:Value.okWide Tryz.prog W .any b1 22 v1) (hv2:Value.okWide Tryz.prog W .any b2 24 v2)
  (h0:DataW.Trod enc Tryz.prog W 0 (fun _=>true) true 24 v0 d0 p0) (h1:DataW.Trod enc Tryz.prog W 0 (fun _=>true) true 22 v1 d1 p1) (h2:DataW.Trod enc Tryz.prog W 0 (fun _=>true) true 24 v2 d2 p2):
  Calls Tryz.prog 5 #[v0,v1,v2] W fun e W'=>e=.returned (.bool true)∧Below W.heap.size W W':=by
 obtain⟨y,rfl,_,_,wy⟩:=open_int Tryz.underlying24 hv0 h0
 obtain⟨gb,nb,cb,ab,j,hj,hB⟩:=bIn_of hv1 h1
 obtain⟨x,rfl,_,_,wx⟩:=open_int Tryz.underlying24 hv2 h2
 have hy:0≤y∧y<4294967296:=by
  simp [Lit.wf,IntKind.min,IntKind.max,IntKind.signed,IntKind.bits] at wy
  omega
 let d0:LK:=⟨W,gcO x y,4,4,⟨0,0,none⟩,gb 0,nb,cb,ab,2,4,0,x,y⟩
 obtain⟨N,hN⟩:=ends_of (p:=d0.par) (s0:=d0.s0) rfl 4
 let d:LK:=⟨W,gcO x y,4,4,⟨0,0,none⟩,gb 0,nb,cb,ab,2,4,N,x,y⟩
 have hB':BIn d.W v1 gb d.nb d.cb d.ab j:=hB
 have he:Ends d.par d.s0 d.most d.N:=hN (by decide)
 obtain⟨hro,hW⟩:=roAll_run h (ρ:=d.env) rfl
 obtain⟨z,hz,hzp⟩:=zPc he (show (4:Int)≤300 by decide) j
 have hone:OneOk d.env:=⟨rfl,rfl,rfl,rfl,hy⟩
 have hb:2≤j→CameIn W [.int .u8] ab nb.toNat gb:=by
  intro h2
  match j,hj,h2,hB with
  | 2,_,_,hB=>exact hB.2.2.2.2
  | 3,_,_,hB=>exact hB.2.2.2.2
  | 4,_,_,hB=>exact hB.2.2.2
 have hrows:RowsAt d.env W (wsO j) 7 10:=by
  have hmem:∀ y∈wsO j,y=(9,.warr 9 20 [.int .u8] (.var 50))∧2≤j:=by
   intro y hy
   unfold wsO at hy
   split at hy
   ·rename_i hc
    exact⟨List.mem_singleton.1 hy,Nat.le_of_ble_eq_true hc⟩
   ·cases hy
  refine⟨fun x hx=>?_,by decide,fun x hx=>?_,fun x hx=>?_,fun x hx π hπ=>?_⟩<;>obtain⟨rfl,h2⟩:=hmem x hx
  ·decide
  ·exact (hb h2).block
  ·rfl
  ·exact (hb h2).is (t:=20) rfl rfl (fun c hc=>by
    match c,hc with
    | 0,_=>rfl) (Nat.le_refl _) hπ
 have hpc:PcOk d.env (pcOne j z):=pcApp (bPc hB') (pcApp (pcCons (tle (show (1:Int)≤4 by decide)) (pcCons (tle (show (4:Int)≤200 by decide)) (pcCons (tle (show (4:Int)≤4 by decide)) (pcCons (tle (show (0:Int)≤2 by decide)) (pcCons (tle (show (2:Int)≤3 by decide)) (pcCons (tle (show (1:Int)≤4 by decide)) (pcCons (tle (show (4:Int)≤300 by decide)) pcNil))))))) (pcApp hzp (pcCons rfl pcNil)))
 have ha:SaysL d.env (fun i=>i<10) (πRows d.env 7) [.int .u32 (.var 45),(bA j).1,.int .u32 (.var 44)] [.int .u32 y,v1,.int .u32 x]:=by
  have e1:∀ π,(bA j).1.conc d.env π=v1:=by
   intro π
   match j,hj,hB with
   | 0,_,hB=>exact hB.symm
   | 1,_,hB=>exact (congrArg (fun a=>Value.slice (some a) 0 cb.toNat) (add_none ab)).trans hB.1.symm
   | 2,_,hB=>exact (congrArg (fun a=>Value.slice (some a) nb.toNat cb.toNat) (add_none ab)).trans hB.1.symm
   | 3,_,hB=>exact (congrArg (fun a=>Value.slice (some a) nb.toNat cb.toNat) (add_none ab)).trans hB.1.symm
   | 4,_,hB=>exact (congrArg (fun a=>Value.slice (some a) nb.toNat cb.toNat) (add_none ab)).trans hB.1.symm
  intro π _
  show [.int .u32 y,(bA j).1.conc d.env π,.int .u32 x]=_
  rw [e1]
 have hall:SumOk Tryz.prog cxOne d.env:=smOf_okL (l:=smOne) ⟨(atKn (RoAll.of hro) _ rfl _ rfl).1,CM_at rfl hro,recSm_ok hone (AR_at rfl hro fun σ hσ=>by
   obtain rfl:=List.mem_singleton.1 hσ
   rw [sb0_env]
   exact LK.ar_told hro hW (fun _=>he) rfl),recSm_ok hone (RR_at rfl hro fun σ hσ=>by
   obtain rfl:=List.mem_singleton.1 hσ
   rw [sb0_env]
   exact LK.rr_told hro hW (fun _=>he) rfl),trivial⟩ rfl
 exact law_rows (cx:=cxOne) (L:=LStart) (ng:=7) (nm:=10) (ρ:=d.env) (N:=4000) mixed_door tt_ok ft_ok hall Tryz.func5 rfl LStart_lt hro hW hrows hpc (by rw [evT_call];exact run_all hj hz) ha
end Go.Proofs.YtmickljjofbmiaaGreatDoor
