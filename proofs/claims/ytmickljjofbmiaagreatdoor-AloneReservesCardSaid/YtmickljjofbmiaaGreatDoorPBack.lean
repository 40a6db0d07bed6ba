/- AloneReserves: of any bytes the law answers true, and nothing that was there is turned. No condition. -/
import Derived.Test.YtmickljjofbmiaaGreatDoorPRn0
import Derived.Test.YtmickljjofbmiaaGreatDoorPRn1
import Derived.Test.YtmickljjofbmiaaGreatDoorPRn2
import Derived.Test.YtmickljjofbmiaaGreatDoorPRn3
namespace Go.Proofs.YtmickljjofbmiaaGreatDoor
open Go Go.Proofs Go.ChangeShapes Go.WideShapes Go.ChangeAt Go.RowKit
theorem runP_all{n z:Nat}(h1:1≤n)(hn:n≤40)(hz:z=1∨z=2):okP n z=true:=by
 rcases hz with rfl | rfl
 ·match n,h1,hn with
  | 1,_,_=>exact runP1_1
  | 2,_,_=>exact runP2_1
  | 3,_,_=>exact runP3_1
  | 4,_,_=>exact runP4_1
  | 5,_,_=>exact runP5_1
  | 6,_,_=>exact runP6_1
  | 7,_,_=>exact runP7_1
  | 8,_,_=>exact runP8_1
  | 9,_,_=>exact runP9_1
  | 10,_,_=>exact runP10_1
  | 11,_,_=>exact runP11_1
  | 12,_,_=>exact runP12_1
  | 13,_,_=>exact runP13_1
  | 14,_,_=>exact runP14_1
  | 15,_,_=>exact runP15_1
  | 16,_,_=>exact runP16_1
  | 17,_,_=>exact runP17_1
  | 18,_,_=>exact runP18_1
  | 19,_,_=>exact runP19_1
  | 20,_,_=>exact runP20_1
  | 21,_,_=>exact runP21_1
  | 22,_,_=>exact runP22_1
  | 23,_,_=>exact runP23_1
  | 24,_,_=>exact runP24_1
  | 25,_,_=>exact runP25_1
  | 26,_,_=>exact runP26_1
  | 27,_,_=>exact runP27_1
  | 28,_,_=>exact runP28_1
  | 29,_,_=>exact runP29_1
  | 30,_,_=>exact runP30_1
  | 31,_,_=>exact runP31_1
  | 32,_,_=>exact runP32_1
  | 33,_,_=>exact runP33_1
  | 34,_,_=>exact runP34_1
  | 35,_,_=>exact runP35_1
  | 36,_,_=>exact runP36_1
  | 37,_,_=>exact runP37_1
  | 38,_,_=>exact runP38_1
  | 39,_,_=>exact runP39_1
  | 40,_,_=>exact runP40_1
  | k+41,_,hn=>omega
 ·match n,h1,hn with
  | 1,_,_=>exact runP1_2
  | 2,_,_=>exact runP2_2
  | 3,_,_=>exact runP3_2
  | 4,_,_=>exact runP4_2
  | 5,_,_=>exact runP5_2
  | 6,_,_=>exact runP6_2
  | 7,_,_=>exact runP7_2
  | 8,_,_=>exact runP8_2
  | 9,_,_=>exact runP9_2
  | 10,_,_=>exact runP10_2
  | 11,_,_=>exact runP11_2
  | 12,_,_=>exact runP12_2
  | 13,_,_=>exact runP13_2
  | 14,_,_=>exact runP14_2
  | 15,_,_=>exact runP15_2
  | 16,_,_=>exact runP16_2
  | 17,_,_=>exact runP17_2
  | 18,_,_=>exact runP18_2
  | 19,_,_=>exact runP19_2
  | 20,_,_=>exact runP20_2
  | 21,_,_=>exact runP21_2
  | 22,_,_=>exact runP22_2
  | 23,_,_=>exact runP23_2
  | 24,_,_=>exact runP24_2
  | 25,_,_=>exact runP25_2
  | 26,_,_=>exact runP26_2
  | 27,_,_=>exact runP27_2
  | 28,_,_=>exact runP28_2
  | 29,_,_=>exact runP29_2
  | 30,_,_=>exact runP30_2
  | 31,_,_=>exact runP31_2
  | 32,_,_=>exact runP32_2
  | 33,_,_=>exact runP33_2
  | 34,_,_=>exact runP34_2
  | 35,_,_=>exact runP35_2
  | 36,_,_=>exact runP36_2
  | 37,_,_=>exact runP37_2
  | 38,_,_=>exact runP38_2
  | 39,_,_=>exact runP39_2
  | 40,_,_=>exact runP40_2
  | k+41,_,hn=>omega
theorem zPc{d:LK}(e:Ends d.par d.s0 d.most d.N)(hm:d.most≤300):∃ z,(z=1∨z=2)∧PcOk d.env (zA z):=by
 have h1:(1:Int)≤(d.N:Int):=by have:=e.n1;omega
 have h2:(d.N:Int)≤300:=by have:=e.most;omega
 have fin:PcOk d.env [le (.lit 1) (.var 60),le (.var 60) (.lit 300)]:=pcCons (tle h1) (pcCons (tle h2) pcNil)
 have R:=LK.specR e
 by_cases hz:d.env.v 67=0
 ·refine⟨1,.inl rfl,pcCons (by rw [tt_eq];exact beq_iff_eq.2 hz) (pcCons ?_ fin)⟩
  have e2:d.env.f1 50=d.env.f1 20:=seq_no d.N (R.no hz)
  rw [X.tt,X.den,b2i_tt]
  refine beq_iff_eq.2 ?_
  show rowText d.env 50 _ _=rowText d.env 20 _ _
  unfold rowText
  rw [e2]
 ·exact⟨2,.inr rfl,pcCons (by rw [tt_eq];exact beq_eq_false_iff_ne.2 hz) fin⟩
theorem roAll_run{W:World}(h:laidMetH Tryz.prog Rows.aloneReservesRow.laid W){ρ:Env}(h0:ρ.ro 0=roW W 0):RoAt ρ LStart∧∀ x∈LStart,W.heap[x.1]?=some (ρ.ro x.1):=by
 obtain⟨t,fr,h1⟩:=of_laid h
 have e:ρ.ro 0=.cells ((asciiZ 256).map (.int .u8)).toArray t fr:=by rw [h0];simp only [roW,h1,Option.getD_some]
 refine⟨⟨fun x hx=>?_⟩,fun x hx=>?_⟩<;>(simp only [LStart,List.mem_singleton] at hx;subst hx)
 ·exact⟨t,fr,fun π=>by rw [e,asciiL_concs]⟩
 ·rw [e];exact h1
theorem add_none(a:Addr):a.add 0=a:=by simp [Addr.add]
theorem noRows{d:LK}:RowsAt d.env d.W [] 7 10:=⟨(fun x hx=>by cases hx),by decide,(fun x hx=>by cases hx),(fun x hx=>by cases hx),fun x hx=>by cases hx⟩
set_option maxRecDepth 100000 in
theorem rsv_walk{H:Type}{enc:TypeId×Value→H}{W:World}(h:laidMetH Tryz.prog Rows.aloneReservesRow.laid W){v0:Value}{d0:DataW H}{p0:List MemPlace}{b0:Nat}
  (hv0:Value.okWide Tryz.prog W .any b0 22 v0) (h0:DataW.Trod enc Tryz.prog W 0 (fun _=>true) true 22 v0 d0 p0):
  Calls Tryz.prog 3 #[v0] W fun e W'=>e=.returned (.bool true)∧Below W.heap.size W W':=by
 obtain⟨ad,ln,cp,rfl⟩:=okWide_slice Tryz.underlying22 hv0
 obtain⟨fuel,hf⟩:=h0
 have one:∀ {d:LK},PcOk d.env [le (.lit 0) (.lit 7)]:=fun {d}=>pcCons rfl pcNil
 have one':∀ {d:LK},d.nb=16→PcOk d.env [le (.lit 16) (.var 50),le (.var 50) (.lit 4096),le (.lit 0) (.lit 7)]:=fun {d} h=>pcCons (tle (show (16:Int)≤d.nb by omega)) (pcCons (tle (show d.nb≤4096 by omega)) one)
 rcases open_row (n:=3) (ks:=[.int .u8]) Tryz.underlying22 (by kernel_rfl) (by kernel_rfl) hf with hcs | ⟨a,len,cap,zs,hcs,_,hle,_,hz⟩
 ·simp [Value.cells] at hcs
  obtain⟨rfl,rfl,rfl⟩:=hcs
  let d:LK:=⟨W,gcP fun _=>0,1,1,⟨0,0,none⟩,fun _=>0,16,16,⟨0,0,none⟩,0,60,0,0,0,fun _=>0⟩
  obtain⟨hro,hW⟩:=roAll_run h (ρ:=d.env) rfl
  exact law_rows (cx:=cxN) (L:=LStart) (ng:=7) (nm:=10) (ws:=[]) (ρ:=d.env) (N:=4000) mixed_door tt_ok ft_ok (allW hro hW (n:=0) ⟨rfl,rfl,rfl,rfl,rfl,rfl⟩) Tryz.func3 rfl LStart_lt hro hW noRows (one' rfl) (by rw [evT_call];exact run_nil) fun π _=>rfl
 ·simp [Value.cells] at hcs
  obtain⟨rfl,rfl,rfl⟩:=hcs
  by_cases hl0:ln=0
  ·subst hl0
   let d:LK:=⟨W,gcP fun _=>0,1,1,⟨0,0,none⟩,fun _=>0,16,16,a,0,60,0,0,cp,fun _=>0⟩
   obtain⟨hro,hW⟩:=roAll_run h (ρ:=d.env) rfl
   exact law_rows (cx:=cxN) (L:=LStart) (ng:=7) (nm:=10) (ws:=[]) (ρ:=d.env) (N:=4000) mixed_door tt_ok ft_ok (allW hro hW (n:=0) ⟨rfl,rfl,rfl,rfl,rfl,rfl⟩) Tryz.func3 rfl LStart_lt hro hW noRows (pcApp (pcCons (tle (x:=.lit 0) (y:=.var 45) (show (0:Int)≤(cp:Int) by omega)) pcNil) (one' rfl)) (by rw [evT_call];exact run_empty) fun π _=>by
    show [Value.slice (some (a.add (0*1))) 0 ((cp:Int)).toNat]=_
    rw [Int.toNat_natCast,Nat.zero_mul,add_none]
  ·have hc:=cameIn_of (by omega) (by decide) hz
   by_cases hbig:40<ln
   ·let d:LK:=⟨W,gcP fun _=>0,1,1,⟨0,0,none⟩,fun _=>0,16,16,a,0,60,0,ln,cp,fun _=>0⟩
    obtain⟨hro,hW⟩:=roAll_run h (ρ:=d.env) rfl
    exact law_rows (cx:=cxN) (L:=LStart) (ng:=7) (nm:=10) (ws:=[]) (ρ:=d.env) (N:=4000) mixed_door tt_ok ft_ok (allW hro hW (n:=0) ⟨rfl,rfl,rfl,rfl,rfl,rfl⟩) Tryz.func3 rfl LStart_lt hro hW noRows (pcApp (pcCons (tlt (x:=.lit 40) (y:=.var 44) (show (40:Int)<(ln:Int) by omega)) (pcCons (tle (x:=.var 44) (y:=.var 45) (show (ln:Int)≤(cp:Int) by omega)) pcNil)) (one' rfl)) (by rw [evT_call];exact run_many) fun π _=>by
     show [Value.slice (some (a.add (0*1))) ((ln:Int)).toNat ((cp:Int)).toNat]=_
     rw [Int.toNat_natCast,Int.toNat_natCast,Nat.zero_mul,add_none]
   ·let gl:Int→Int:=(fun c j=>cellI ((zs j.toNat).getD c default)) 0
    let d0:LK:=⟨W,gcP gl,((ln+1:Nat):Int),((ln+1:Nat):Int),⟨0,0,none⟩,fun _=>0,16,16,a,0,60,0,0,cp,gl⟩
    obtain⟨N,hN⟩:=ends_of (p:=d0.par) (s0:=d0.s0) rfl 60
    let d:LK:=⟨W,gcP gl,((ln+1:Nat):Int),((ln+1:Nat):Int),⟨0,0,none⟩,fun _=>0,16,16,a,0,60,N,0,cp,gl⟩
    have he:Ends d.par d.s0 d.most d.N:=hN (by decide)
    obtain⟨hro,hW⟩:=roAll_run h (ρ:=d.env) rfl
    obtain⟨z,hz',hzp⟩:=zPc he (show (60:Int)≤300 by decide)
    have hone:RsvOk ln d.env:=⟨rfl,rfl,rfl,rfl,rfl,rfl⟩
    have hrows:RowsAt d.env W [(9,.warr 9 21 [.int .u8] (nX ln))] 7 10:=by
     refine⟨fun x hx=>?_,by decide,fun x hx=>?_,fun x hx=>?_,fun x hx π hπ=>?_⟩<;>obtain rfl:=List.mem_singleton.1 hx
     ·exact⟨show 7≤9 by decide,show 9<10 by decide⟩
     ·exact hc.block
     ·rfl
     ·exact hc.is (t:=21) rfl rfl (fun c hc=>by
       match c,hc with
       | 0,_=>rfl) (by show (Int.ofNat ln).toNat≤ln;exact Nat.le_refl _) hπ
    have hpc:PcOk d.env (le (nX ln) (.var 45)::(rsvPc++(zA z++[le (.lit 0) (.lit 7)]))):=pcCons (tle (show (ln:Int)≤(cp:Int) by omega)) (pcApp (pcCons (tle (show (1:Int)≤((ln+1:Nat):Int) by omega)) (pcCons (tle (show ((ln+1:Nat):Int)≤200 by omega)) (pcCons (tle (show ((ln+1:Nat):Int)≤((ln+1:Nat):Int) by omega)) (pcCons (tle (show (16:Int)≤16 by decide)) (pcCons (tle (show (16:Int)≤4096 by decide)) (pcCons (tle (show (16:Int)≤16 by decide)) (pcCons (tle (show (0:Int)≤0 by decide)) (pcCons (tle (show (0:Int)≤3 by decide)) (pcCons (tle (show (1:Int)≤60 by decide)) (pcCons (tle (show (60:Int)≤300 by decide)) pcNil)))))))))) (pcApp hzp one))
    have hall:SumOk Tryz.prog (cxP ln) d.env:=smOf_okL (l:=smP_ ln) ⟨(atKn (RoAll.of hro) _ rfl _ rfl).1,CM_at rfl hro,runP_ok hone (AR_at rfl hro fun σ hσ=>by
      obtain rfl:=List.mem_singleton.1 hσ
      rw [sb0_env]
      exact LK.ar_told hro hW (fun _=>he) rfl),refP_ok hone (RR_at rfl hro fun σ hσ=>by
      obtain rfl:=List.mem_singleton.1 hσ
      rw [sb0_env]
      exact LK.rr_told hro hW (fun _=>he) rfl),trivial⟩ rfl
    exact law_rows (cx:=cxP ln) (L:=LStart) (ng:=7) (nm:=10) (ρ:=d.env) (N:=4000) mixed_door tt_ok ft_ok hall Tryz.func3 rfl LStart_lt hro hW hrows hpc (by rw [evT_call];exact runP_all (by omega) (by omega) hz') fun π _=>by
     show [Value.slice (some (a.add (0*1))) (Int.ofNat ln).toNat ((cp:Int)).toNat]=_
     rw [Int.toNat_natCast,Nat.zero_mul,add_none]
     rfl
end Go.Proofs.YtmickljjofbmiaaGreatDoor
