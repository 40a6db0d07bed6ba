/- Alone: what alone.Run, the document's Run, the laws' commits leave, as summaries. No condition. -/
import Derived.Test.YtmickljjofbmiaaGreatDoorPTr
import Derived.Test.YtmickljjofbmiaaGreatDoorPKp
namespace Go.Proofs.YtmickljjofbmiaaGreatDoor
open Go Go.Proofs
theorem RoAll.of{ρ:Env}(h:RoAt ρ LStart):∀ ρ':Env,ρ'.ro=ρ.ro→RoAt ρ' LStart:=fun ρ' hr=>⟨fun x hx=>by
 simp only [LStart,List.mem_singleton] at hx
 subst hx
 obtain⟨t,fr,h2⟩:=h.is _ (List.mem_singleton.2 rfl)
 exact⟨t,fr,fun π=>by rw [hr,h2 π,asciiL_concs,asciiL_concs]⟩⟩
theorem allN{ρ:Env}:SumOk Tryz.prog (cxRd []) ρ:=smOf_okL (l:=[]) trivial rfl
theorem lpOk{ρ:Env}{L:LoopI} (hl:LoopTold Tryz.prog (cxLp L) ρ L):SumOk Tryz.prog (cxLp L) ρ:=by
 have h:=sum_flags (c':={cxLp L with lp:=none}) (allN (ρ:=ρ)) rfl rfl rfl rfl
 refine⟨fun f s hs args st v st' he S π0 w ac n hh ha=>h.sum f s hs args st v st' he S π0 w ac n ⟨hh.pc,hh.at_,hh.glob,hh.fresh⟩ ha,fun g s hg=>dm_ok rfl g s hg,fun lp hlp=>?_⟩
 obtain rfl:=Option.some.inj (show some (lpOf [L])=some lp from hlp)
 exact lpOf_ok fun L' hL=>by obtain rfl:=List.mem_singleton.1 hL;exact hl
section
variable {ρ:Env}
theorem look_nil{α:Type}{i:Nat}{y:α} (h:look [] i=some y):False:=by cases h
theorem look_one{α:Type}{k i:Nat}{x y:α} (h:look [(k,x)] i=some y):i=k∧x=y:=by
 rcases look_cons h with ⟨rfl,rfl⟩ | h
 ·exact⟨rfl,rfl⟩
 ·cases h
def envD(ρ:Env)(k:Int):Env:={ρ with v:=fun i=>if i=100 then k else ρ.v i}
theorem Self_told{cx:Cx}(hng:cx.ng=7):LoopTold Tryz.prog cx ρ C1L:=by
 intro res hr S π0 w a r nn hh
 have hn1:1≤ρ.v 60:=by
  have h:=hh.pc _ (.head _)
  rw [show (X.le (.lit 1) (.var 60)).tt ρ=decide (1≤ρ.v 60) from tt_le'] at h
  exact of_decide_eq_true h
 have h100:∀ i,memN i C1T.vs=false→i≠100:=fun i h=>by rintro rfl;cases h
 have ag:∀ k,Agree C1T ρ (envD ρ k):=fun k=>⟨fun i h=>if_neg (h100 i h),fun _ _=>rfl,rfl,rfl,rfl,rfl,rfl,rfl⟩
 have ag':∀ k,Agree C1T (envD ρ k) ρ:=fun k=>⟨fun i h=>(if_neg (h100 i h)).symm,fun _ _=>rfl,rfl,rfl,rfl,rfl,rfl,rfl⟩
 have ag2:∀ k l,Agree C1T (envD ρ k) (envD ρ l):=fun k l=>⟨fun i h=>(if_neg (h100 i h)).trans (if_neg (h100 i h)).symm,fun _ _=>rfl,rfl,rfl,rfl,rfl,rfl,rfl⟩
 have hlt:∀ k,(X.lt (.var 100) (.var 60)).tt (envD ρ k)=decide (k<ρ.v 60):=fun k=>tt_lt'
 refine loop_told2 (cxB:=cxRd []) (t:=C1T) (I:=C1I) (outs:=[C1O]) (ll:=C1LL) (N:=4000) (ng:=7) C1S (fun ρ1=>∃ k:Int,0≤k∧k≤ρ.v 60∧ρ1=envD ρ k) (fun ρ1=>(ρ.v 60+2-ρ1.v 100).toNat)
  (fun _ _=>(ev_ok mixed_door tt_ok ft_ok allN 4000).1) rfl hng C1_chk C1_ok C1_ent ⟨envD ρ 0,⟨ag 0,fun i x h=>?_,fun f ks q h=>(look_nil h).elim⟩,0,by omega,by omega,rfl⟩ ?_ res hr S π0 w a r nn hh
 ·obtain⟨rfl,rfl⟩:=look_one h
  rfl
 ·rintro ρ1 ⟨k,h1,h2,rfl⟩ _
  by_cases c1:k<ρ.v 60
  ·have t1:=(hlt k).trans (decide_eq_true c1)
   refine⟨.next (mtV [(100,.add (.var 100) (.lit 1))] []),br_t t1,?_⟩
   dsimp only
   refine⟨envD ρ (k+1),⟨ag2 k (k+1),fun i x h=>?_,fun f ks q h=>(look_nil h).elim⟩,⟨k+1,by omega,by omega,rfl⟩,?_⟩
   ·obtain⟨rfl,rfl⟩:=look_one h
    rfl
   ·show (ρ.v 60+2-(k+1)).toNat<(ρ.v 60+2-k).toNat
    omega
  ·have t1:=(hlt k).trans (decide_eq_false c1)
   exact⟨.out 0 (mtV [] []),br_f t1,⟨ag' k,fun i x h=>(look_nil h).elim,fun f ks q h=>(look_nil h).elim⟩,C1O,rfl,rfl⟩
end
section
variable {cx:Cx} {ρ:Env} (hng:cx.ng=7) (hro:RoAt ρ LStart)
include hng hro
theorem CM_at{l:List Sub}:SumAt Tryz.prog cx ρ 12 (sumSites LStart 7 CMP CMR l):=
 sumSites_ok (cx0:=cxLp C1L) (N:=4000) mixed_door tt_ok ft_ok hng rfl LStart_lt (RoAll.of hro) Tryz.func12 (by rw [evT_call];exact CM_run) fun _ _=>lpOk (Self_told rfl)
theorem AR_at{l:List Sub} (hl:∀ σ∈l,LoopTold Tryz.prog (cxLp ARL) (σ.env ρ) ARL):SumAt Tryz.prog cx ρ 10 (sumSites LStart 7 ARP ARR l):=
 sumSites_ok (cx0:=cxLp ARL) (N:=4000) mixed_door tt_ok ft_ok hng rfl LStart_lt (RoAll.of hro) Tryz.func10 (by rw [evT_call];exact AR_run) fun σ hσ=>lpOk (hl σ hσ)
theorem RR_at{l:List Sub} (hl:∀ σ∈l,LoopTold Tryz.prog (cxLp RRL) (σ.env ρ) RRL):SumAt Tryz.prog cx ρ 11 (sumSites LStart 7 RRP RRR l):=
 sumSites_ok (cx0:=cxLp RRL) (N:=4000) mixed_door tt_ok ft_ok hng rfl LStart_lt (RoAll.of hro) Tryz.func11 (by rw [evT_call];exact RR_run) fun σ hσ=>lpOk (hl σ hσ)
end
def sb0:Sub:={v:=[],n:=0,b:=[],s:=[]}
theorem sb0_env(ρ:Env):sb0.env ρ=ρ:=rfl
end Go.Proofs.YtmickljjofbmiaaGreatDoor
