/- Alone: what alone.Run, alone.Told, the answers, the laws' commits leave, as summaries. No condition. -/
import Derived.Test.YtmickljjofbmiaaGreatDoorQTl
import Derived.Test.YtmickljjofbmiaaGreatDoorQAns
import Derived.Test.YtmickljjofbmiaaGreatDoorQKp
namespace Go.Proofs.YtmickljjofbmiaaGreatDoor
open Go Go.Proofs
theorem aZ.of{ρ:Env}(h:RoAt ρ aj):∀ ρ':Env,ρ'.ro=ρ.ro→RoAt ρ' aj:=fun ρ' hr=>⟨fun x hx=>by
 simp only [aj,List.mem_singleton] at hx
 subst hx
 obtain⟨t,fr,h2⟩:=h.is _ (List.mem_singleton.2 rfl)
 exact⟨t,fr,fun π=>by rw [hr,h2 π,km,km]⟩⟩
theorem ZG{ρ:Env}:SumOk Tryz.prog (jL []) ρ:=nu (l:=[]) trivial rfl
theorem Xc{ρ:Env}{L:LoopI} (hl:cK Tryz.prog (pU L) ρ L):SumOk Tryz.prog (pU L) ρ:=by
 have h:=wx (c':={pU L with lp:=none}) (ZG (ρ:=ρ)) rfl rfl rfl rfl
 refine⟨fun f s hs args st v st' he S π0 w ac n hh ha=>h.sum f s hs args st v st' he S π0 w ac n ⟨hh.pc,hh.at_,hh.glob,hh.fresh⟩ ha,fun g s hg=>X1 rfl g s hg,fun lp hlp=>?_⟩
 obtain rfl:=Option.some.inj (show some (PG [L])=some lp from hlp)
 exact Pf fun L' hL=>by obtain rfl:=List.mem_singleton.1 hL;exact hl
section
variable {ρ:Env}
theorem look_nil{α:Type}{i:Nat}{y:α} (h:look [] i=some y):False:=by cases h
theorem GF{α:Type}{k i:Nat}{x y:α} (h:look [(k,x)] i=some y):i=k∧x=y:=by
 rcases bm h with ⟨rfl,rfl⟩ | h
 ·exact⟨rfl,rfl⟩
 ·cases h
def KS(ρ:Env)(k:Int):Env:={ρ with v:=fun i=>if i=100 then k else ρ.v i}
theorem Q4{cx:Cx}(hng:cx.ng=7):cK Tryz.prog cx ρ Rl:=by
 intro res hr S π0 w a r nn hh
 have hn1:1≤ρ.v 60:=by
  have h:=hh.pc _ (.head _)
  rw [show (X.le (.lit 1) (.var 60)).tt ρ=decide (1≤ρ.v 60) from vI] at h
  exact of_decide_eq_true h
 have h100:∀ i,eg i C1T.vs=false→i≠100:=fun i h=>by rintro rfl;cases h
 have ag:∀ k,Agree C1T ρ (KS ρ k):=fun k=>⟨fun i h=>if_neg (h100 i h),fun _ _=>rfl,rfl,rfl,rfl,rfl,rfl,rfl⟩
 have ag':∀ k,Agree C1T (KS ρ k) ρ:=fun k=>⟨fun i h=>(if_neg (h100 i h)).symm,fun _ _=>rfl,rfl,rfl,rfl,rfl,rfl,rfl⟩
 have ag2:∀ k l,Agree C1T (KS ρ k) (KS ρ l):=fun k l=>⟨fun i h=>(if_neg (h100 i h)).trans (if_neg (h100 i h)).symm,fun _ _=>rfl,rfl,rfl,rfl,rfl,rfl,rfl⟩
 have hlt:∀ k,(X.lt (.var 100) (.var 60)).tt (KS ρ k)=decide (k<ρ.v 60):=fun k=>lj
 refine Nr (cxB:=jL []) (t:=C1T) (I:=C1I) (outs:=[YY]) (ll:=ajF) (N:=4000) (ng:=7) C1S (fun ρ1=>∃ k:Int,0≤k∧k≤ρ.v 60∧ρ1=KS ρ k) (fun ρ1=>(ρ.v 60+2-ρ1.v 100).toNat)
  (fun _ _=>(lW ba fZ fS ZG 4000).1) rfl hng abT agk acF ⟨KS ρ 0,⟨ag 0,fun i x h=>?_,fun f ks q h=>(look_nil h).elim⟩,0,by omega,by omega,rfl⟩ ?_ res hr S π0 w a r nn hh
 ·obtain⟨rfl,rfl⟩:=GF h
  rfl
 ·rintro ρ1 ⟨k,h1,h2,rfl⟩ _
  by_cases c1:k<ρ.v 60
  ·have t1:=(hlt k).trans (decide_eq_true c1)
   refine⟨.next (B4 [(100,.add (.var 100) (.lit 1))] []),gi t1,?_⟩
   dsimp only
   refine⟨KS ρ (k+1),⟨ag2 k (k+1),fun i x h=>?_,fun f ks q h=>(look_nil h).elim⟩,⟨k+1,by omega,by omega,rfl⟩,?_⟩
   ·obtain⟨rfl,rfl⟩:=GF h
    rfl
   ·show (ρ.v 60+2-(k+1)).toNat<(ρ.v 60+2-k).toNat
    omega
  ·have t1:=(hlt k).trans (decide_eq_false c1)
   exact⟨.out 0 (B4 [] []),fR t1,⟨ag' k,fun i x h=>(look_nil h).elim,fun f ks q h=>(look_nil h).elim⟩,YY,rfl,rfl⟩
end
section
variable {cx:Cx} {ρ:Env} (hng:cx.ng=7) (hro:RoAt ρ aj)
include hng hro
theorem ajc{l:List Sub}:ct Tryz.prog cx ρ 12 (dQ aj 7 CMP CMR l):=
 gD (cx0:=pU Rl) (N:=4000) ba fZ fS hng rfl dd (aZ.of hro) Tryz.func12 (by rw [bP];exact aeA) fun _ _=>Xc (Q4 rfl)
theorem ai6{l:List Sub} (hl:∀ σ∈l,cK Tryz.prog (pU yr) (σ.env ρ) yr):ct Tryz.prog cx ρ 10 (dQ aj 7 ARP ARR l):=
 gD (cx0:=pU yr) (N:=4000) ba fZ fS hng rfl dd (aZ.of hro) Tryz.func10 (by rw [bP];exact acy) fun σ hσ=>Xc (hl σ hσ)
theorem alp{l:List Sub} (hl:∀ σ∈l,cK Tryz.prog (pU Ei) (σ.env ρ) Ei):ct Tryz.prog cx ρ 16 (dQ aj 7 TQP TQR l):=
 gD (cx0:=pU Ei) (N:=4000) ba fZ fS hng rfl dd (aZ.of hro) Tryz.func16 (by rw [bP];exact aef) fun σ hσ=>Xc (hl σ hσ)
theorem ang{l:List Sub} (hl:∀ σ∈l,cK Tryz.prog (pU F9) (σ.env ρ) F9):ct Tryz.prog cx ρ 16 (dQ aj 7 TNP TNR l):=
 gD (cx0:=pU F9) (N:=4000) ba fZ fS hng rfl dd (aZ.of hro) Tryz.func16 (by rw [bP];exact aeb) fun σ hσ=>Xc (hl σ hσ)
theorem amU{l:List Sub} (hl:∀ σ∈l,cK Tryz.prog (pU yI) (σ.env ρ) yI):ct Tryz.prog cx ρ 17 (dQ aj 7 ANP ANR l):=
 gD (cx0:=pU yI) (N:=4000) ba fZ fS hng rfl dd (aZ.of hro) Tryz.func17 (by rw [bP];exact aeO) fun σ hσ=>Xc (hl σ hσ)
end
def sb0:Sub:={v:=[],n:=0,b:=[],s:=[]}
theorem Oy(ρ:Env):sb0.env ρ=ρ:=rfl
end Go.Proofs.YtmickljjofbmiaaGreatDoor
