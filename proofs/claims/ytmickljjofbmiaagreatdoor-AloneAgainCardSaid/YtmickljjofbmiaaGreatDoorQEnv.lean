/- Alone: the variables of a law over one run. No condition. -/
import Derived.Test.YtmickljjofbmiaaGreatDoorQCon
import Derived.Test.YtmickljjofbmiaaGreatDoorAKn
namespace Go.Proofs.YtmickljjofbmiaaGreatDoor
open Go Go.Proofs Go.ChangeShapes Go.WideShapes Go.ChangeAt Go.RowKit
theorem gP{ρ:Env}{pc:PC}{x y:X}(i:Nat)(hp:au ρ pc) (h:pc[i]?=some (.le x y,true)):x.den ρ≤y.den ρ:=by
 have h1:=hp _ (List.mem_of_getElem? h)
 rw [vI] at h1
 exact of_decide_eq_true h1
theorem jZ{ρ:Env}:au ρ []:=fun f hf=>by cases hf
theorem cn{ρ:Env}{x:X}{b:Bool}{pc:PC}(h:x.tt ρ=b)(hp:au ρ pc):au ρ ((x,b)::pc):=fun f hf=>by
 rcases List.mem_cons.1 hf with rfl | hf
 ·exact h
 ·exact hp f hf
theorem Od{ρ:Env}{p q:PC}(hp:au ρ p)(hq:au ρ q):au ρ (p++q):=fun f hf=>(List.mem_append.1 hf).elim (hp f) (hq f)
theorem s7{ρ:Env}{x y:X}(h:x.den ρ≤y.den ρ):(X.le x y).tt ρ=true:=by rw [vI];exact decide_eq_true h
theorem tlt{ρ:Env}{x y:X}(h:x.den ρ<y.den ρ):(X.lt x y).tt ρ=true:=by rw [lj];exact decide_eq_true h
noncomputable def tv(P:Prop):Int:=by classical exact if P then 1 else 0
structure LK where
 W:World
 gc:Int→Int
 nc:Int
 cc:Int
 ac:Addr
 gb:Int→Int
 nb:Int
 cb:Int
 ab:Addr
 id:Int
 most:Int
 N:Nat
def LK.ro(d:LK)(i:Nat):Obj:=if i=8 then X7 d.W d.ac.block else if i=9 then X7 d.W d.ab.block else X7 d.W i
def LK.par(d:LK):Par:=⟨d.ro,d.gc,d.nc,d.nb,d.id⟩
def LK.s0(d:LK):fg:=⟨vw d.id,d.gb,false,0⟩
noncomputable def VO(p:Par)(s0:fg)(f:Nat)(n i:Nat):Int:=if f=1 then (if i<7 then (acc p (ak p s0 n)).cell i else (yA p (ak p s0 n)).2) else if f=2 then (if i=0 then (qc p (ak p s0 n)).1 else if i=1 then (qc p (ak p s0 n)).2.1 else (qc p (ak p s0 n)).2.2)
 else if i≤34 then (LN p (ak p s0 n) f).1.cell i else (LN p (ak p s0 n) f).2.cell (i-35)
noncomputable def Gj(p:Par)(s0:fg)(N f n i:Nat):Int:=if f=15 then (if i≤34 then (KW p s0 N n).1.cell i else (KW p s0 N n).2.cell (i-35)) else VO p s0 f n i
theorem Fj{p:Par}{s0:fg}{N f n i:Nat}(h:f≠15):Gj p s0 N f n i=VO p s0 f n i:=if_neg h
noncomputable def LK.env(d:LK):Env:=
 {b:=fun _=>false
  v:=fun i=>if i=62 then (ie d.par d.s0 d.N:Int) else if i=40 then d.nc else if i=41 then d.cc else if i=42 then d.id else if i=43 then d.most else if i=50 then d.nb else if i=51 then d.cb else if i=60 then d.N
   else if i=67 then tv (∃ j,j<d.N∧ajQ d.par (ak d.par d.s0 j)) else if i=540 then bc (ak d.par d.s0 d.N).res else if i=541 then (ak d.par d.s0 d.N).at_
   else if 501≤i∧i≤534 then (ak d.par d.s0 d.N).h.cell (i-500) else 0
  f1:=fun i=>if i=75 then cy d.par d.s0 d.N 0 else if i=76 then cy d.par d.s0 d.N 1 else if i=10 then d.gc else if i=20 then d.gb else if i=50 then (ak d.par d.s0 d.N).m else if 60≤i∧i≤73 then jN d.par d.s0 d.N (i-60) else fun _=>0
  f2:=fun f n i=>Gj d.par d.s0 d.N f n.toNat i.toNat
  s:=fun _=>[],sf:=fun _ _=>[]
  ro:=d.ro
  win:=fun i=>if i=8 then d.ac else d.ab}
theorem LK.z9(d:LK):Ao d.par d.s0 d.env where
 ro:=rfl
 size:=rfl
 id:=rfl
 acc n i h:=by
  show Gj _ _ d.N 1 (n:Int).toNat (i:Int).toNat=_
  rw [Int.toNat_natCast,Int.toNat_natCast,Fj (by omega)]
  unfold VO
  rw [if_pos rfl,if_pos h]
 why n:=rfl
 am0 n:=rfl
 am1 n:=rfl
 am2 n:=rfl
 hart b n i h1 h2 h3:=by
  show Gj _ _ d.N b (n:Int).toNat (i:Int).toNat=_
  rw [Int.toNat_natCast,Int.toNat_natCast,Fj (by omega)]
  unfold VO
  rw [if_neg (by omega),if_neg (by omega),if_pos h3]
 com b n i h1 h2 h3:=by
  show Gj _ _ d.N b (n:Int).toNat (((35+i:Nat):Int)).toNat=_
  rw [Int.toNat_natCast,Int.toNat_natCast,Fj (by omega)]
  unfold VO
  rw [if_neg (by omega),if_neg (by omega),if_neg (by omega),show 35+i-35=i by omega]
structure LK.Good (d:LK):Prop where
 len1:1≤d.nc
 size:16≤d.nb∧d.nb≤4096
 id:0≤d.id∧d.id≤3
 most:1≤d.most
structure Ends (p:Par) (s0:fg) (M:Int) (N:Nat):Prop where
 n1:1≤N
 most:(N:Int)≤M
 go:∀ j,j<N→(ak p s0 j).h.cause=0
 stop:(N:Int)=M∨(ak p s0 N).h.cause≠0
theorem YT{p:Par}{s0:fg} (h0:(ak p s0 0).h.cause=0) (m:Nat):∃ N,Ends p s0 ((m:Int)+1) N:=by
 induction m with
 | zero=>
  refine⟨1,Nat.le_refl _,by omega,fun j hj=>?_,.inl (by omega)⟩
  obtain rfl:j=0:=by omega
  exact h0
 | succ m ih=>
  obtain⟨N,h1,h2,h3,h4⟩:=ih
  by_cases hc:(ak p s0 N).h.cause=0
  ·have e:N=m+1:=by
    rcases h4 with h4 | h4
    ·omega
    ·exact absurd hc h4
   refine⟨N+1,by omega,by omega,fun j hj=>?_,.inl (by omega)⟩
   rcases Nat.lt_or_ge j N with h | h
   ·exact h3 j h
   ·obtain rfl:j=N:=by omega
    exact hc
  ·exact⟨N,h1,by omega,h3,.inr hc⟩
theorem Zh{p:Par}{s0:fg} (h0:(ak p s0 0).h.cause=0) (most:Int):∃ N:Nat,1≤most→Ends p s0 most N:=by
 by_cases h:1≤most
 ·obtain⟨N,hN⟩:=YT h0 (most.toNat-1)
  refine⟨N,fun _=>?_⟩
  have e:((most.toNat-1:Nat):Int)+1=most:=by omega
  rwa [e] at hN
 ·exact⟨0,fun h'=>absurd h' h⟩
section
variable {d:LK}
theorem LK.amE(g:d.Good):zM d.par d.s0 d.env:=⟨d.z9,rfl,rfl,rfl,rfl,rfl,rfl,g.id,g.len1,g.size⟩
theorem LK.cell(i:Nat)(h1:1≤i)(h2:i≤34):d.env.v (500+i)=(ak d.par d.s0 d.N).h.cell i:=by
 show (if 500+i=62 then _ else _)=_
 rw [if_neg (by omega),if_neg (by omega),if_neg (by omega),if_neg (by omega),if_neg (by omega),if_neg (by omega),if_neg (by omega),if_neg (by omega),if_neg (by omega),if_neg (by omega),if_neg (by omega),if_pos (by omega),show 500+i-500=i by omega]
theorem LK.Xu(h:Ends d.par d.s0 d.most d.N):SpecM d.par d.s0 d.env d.N where
 n1:=h.n1
 most:=h.most
 go:=h.go
 stop:=h.stop
 n:=rfl
 hart:=d.cell
 res:=rfl
 at_:=rfl
 mem:=rfl
 row c hc:=by
  show (if 60+c=75 then _ else _)=_
  rw [if_neg (by omega),if_neg (by omega),if_neg (by omega),if_neg (by omega),if_neg (by omega),if_pos (by omega),show 60+c-60=c by omega]
def sT:Sub:={v:=[(43,.var 60),(540,.var 62)],n:=0,b:=[],s:=[]}
theorem asj{ρ:Env}{i:Nat}(h1:i≠43)(h2:i≠540):(sT.env ρ).v i=ρ.v i:=by
 show (match look [(43,X.var 60),(540,X.var 62)] i with
  | some x=>x.den ρ
  | none=>ρ.v i)=_
 have e:look [(43,X.var 60),(540,X.var 62)] i=none:=by
  cases h:look [(43,X.var 60),(540,X.var 62)] i with
  | none=>rfl
  | some y=>
   rcases bm h with ⟨e,_⟩ | h
   ·exact absurd e h1
   rcases bm h with ⟨e,_⟩ | h
   ·exact absurd e h2
   ·exact (cq h).elim
 rw [e]
theorem LK.abz(d:LK):CX d.par d.s0 d.N (sT.env d.env) where
 T:=⟨d.z9.ro,d.z9.size,d.z9.id,d.z9.acc,d.z9.why,d.z9.am0,d.z9.am1,d.z9.am2,d.z9.hart,d.z9.com⟩
 hart n i h:=by
  show Gj _ _ d.N 15 (n:Int).toNat (i:Int).toNat=_
  rw [Int.toNat_natCast,Int.toNat_natCast]
  unfold Gj
  rw [if_pos rfl,if_pos h]
 com n i h:=by
  show Gj _ _ d.N 15 (n:Int).toNat (((35+i:Nat):Int)).toNat=_
  rw [Int.toNat_natCast,Int.toNat_natCast]
  unfold Gj
  rw [if_pos rfl,if_neg (by omega),show 35+i-35=i by omega]
 a0:=rfl
 a1:=rfl
 len:=rfl
theorem LK.aly(g:d.Good):RunQ d.par d.s0 d.N (sT.env d.env):=⟨⟨d.abz.T,rfl,rfl,rfl,rfl,rfl,rfl,g.id,g.len1,g.size⟩,d.abz⟩
theorem LK.abu(h:Ends d.par d.s0 d.most d.N):SpecQ d.par d.s0 (sT.env d.env) d.N where
 n1:=h.n1
 most:=Int.le_refl _
 go:=h.go
 stop:=.inl rfl
 n:=rfl
 hart i h1 h2:=(asj (by omega) (by omega)).trans (d.cell i h1 h2)
 at_:=rfl
 row:=(LK.Xu h).row
variable (hro:RoAt d.env aj) (hW:∀ x∈aj,d.W.heap[x.1]?=some (d.env.ro x.1)) (he:1≤d.most→Ends d.par d.s0 d.most d.N) (hN:1≤(d.N:Int)→1≤d.most)
include hro hW he hN
omit hN in
theorem LK.aau{cx:Cx}(hng:cx.ng=7):cK Tryz.prog cx d.env yr:=by
 by_cases hp:au d.env Rh
 ·have g:d.Good:=⟨gP (x:=.lit 1) (y:=.var 40) 0 hp rfl,⟨gP (x:=.lit 16) (y:=.var 50) 3 hp rfl,gP (x:=.var 50) (y:=.lit 4096) 4 hp rfl⟩,⟨gP (x:=.lit 0) (y:=.var 42) 5 hp rfl,gP (x:=.var 42) (y:=.lit 3) 6 hp rfl⟩,gP (x:=.lit 1) (y:=.var 43) 7 hp rfl⟩
  exact Yf (p:=d.par) (aZ.of hro) hW (LK.amE g) hng (LK.Xu (he g.most))
 ·intro res hr S π0 w a r nn hh
  exact absurd hh.pc hp
theorem LK.ZZ{cx:Cx}(hng:cx.ng=7):cK Tryz.prog cx (sT.env d.env) Ei:=by
 by_cases hp:au (sT.env d.env) V9
 ·by_cases hm:1≤d.most
  ·have g:d.Good:=⟨gP (x:=.lit 1) (y:=.var 40) 2 hp rfl,⟨gP (x:=.lit 16) (y:=.var 50) 5 hp rfl,gP (x:=.var 50) (y:=.lit 4096) 6 hp rfl⟩,⟨gP (x:=.lit 0) (y:=.var 42) 7 hp rfl,gP (x:=.var 42) (y:=.lit 3) 8 hp rfl⟩,hm⟩
   exact Df (p:=d.par) (aZ.of hro) hW (LK.aly g) (LK.abu (he hm)) hng (Q:=⟨Ei,Fx,LG,Iy,IG⟩) (nil:=false) ⟨rfl,YA,Zt,ann⟩ (fun h=>by cases h)
  ·intro res hr S π0 w a r nn hh
   exact absurd (gP (x:=.lit 1) (y:=.var 43) 9 hp rfl) fun h=>by
    have h:(1:Int)≤(d.N:Int):=h
    exact hm (hN h)
 ·intro res hr S π0 w a r nn hh
  exact absurd hh.pc hp
theorem LK.YU{cx:Cx}(hng:cx.ng=7)(hz:1≤d.most→ie d.par d.s0 d.N=0):cK Tryz.prog cx (sT.env d.env) F9:=by
 by_cases hp:au (sT.env d.env) Tg
 ·by_cases hm:1≤d.most
  ·have g:d.Good:=⟨gP (x:=.lit 1) (y:=.var 40) 0 hp rfl,⟨gP (x:=.lit 16) (y:=.var 50) 3 hp rfl,gP (x:=.var 50) (y:=.lit 4096) 4 hp rfl⟩,⟨gP (x:=.lit 0) (y:=.var 42) 5 hp rfl,gP (x:=.var 42) (y:=.lit 3) 6 hp rfl⟩,hm⟩
   exact Df (p:=d.par) (aZ.of hro) hW (LK.aly g) (LK.abu (he hm)) hng (Q:=⟨F9,EU,MQ,JG,GM⟩) (nil:=true) ⟨rfl,YI,YJ,akA⟩ (fun _=>hz hm)
  ·intro res hr S π0 w a r nn hh
   exact absurd (gP (x:=.lit 1) (y:=.var 43) 7 hp rfl) fun h=>by
    have h:(1:Int)≤(d.N:Int):=h
    exact hm (hN h)
 ·intro res hr S π0 w a r nn hh
  exact absurd hh.pc hp
theorem LK.Z5{cx:Cx}(hng:cx.ng=7)(hid:0≤d.id∧d.id≤3):cK Tryz.prog cx d.env yI:=by
 by_cases hp:au d.env Tf
 ·have e:=he (hN (gP (x:=.lit 1) (y:=.var 60) 0 hp rfl))
  have hs:=fun n=>(MB (p:=d.par) (s:=d.s0) (aZ.of hro) hW (C5 hid) rfl ⟨Int.le_refl _,show (0:Int)≤4294967295 by decide⟩ n).1
  exact aaM hng ZG (fun _ _=>ZG) ⟨e.n1,rfl,(LK.Xu e).row,rfl,rfl,rfl,fun n hn=>(fA (p:=d.par) (aZ.of hro) hW (hs n) (e.go n hn)).k⟩
 ·intro res hr S π0 w a r nn hh
  exact absurd hh.pc hp
end
end Go.Proofs.YtmickljjofbmiaaGreatDoor
