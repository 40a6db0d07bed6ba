/- Alone: the variables of a law over one run. No condition. -/
import Derived.Test.YtmickljjofbmiaaGreatDoorPCon
import Derived.Test.YtmickljjofbmiaaGreatDoorAKn
namespace Go.Proofs.YtmickljjofbmiaaGreatDoor
open Go Go.Proofs Go.ChangeShapes Go.WideShapes Go.ChangeAt Go.RowKit
theorem le_at{ρ:Env}{pc:PC}{x y:X}(i:Nat)(hp:PcOk ρ pc) (h:pc[i]?=some (.le x y,true)):x.den ρ≤y.den ρ:=by
 have h1:=hp _ (List.mem_of_getElem? h)
 rw [tt_le'] at h1
 exact of_decide_eq_true h1
theorem pcNil{ρ:Env}:PcOk ρ []:=fun f hf=>by cases hf
theorem pcCons{ρ:Env}{x:X}{b:Bool}{pc:PC}(h:x.tt ρ=b)(hp:PcOk ρ pc):PcOk ρ ((x,b)::pc):=fun f hf=>by
 rcases List.mem_cons.1 hf with rfl | hf
 ·exact h
 ·exact hp f hf
theorem pcApp{ρ:Env}{p q:PC}(hp:PcOk ρ p)(hq:PcOk ρ q):PcOk ρ (p++q):=fun f hf=>(List.mem_append.1 hf).elim (hp f) (hq f)
theorem tle{ρ:Env}{x y:X}(h:x.den ρ≤y.den ρ):(X.le x y).tt ρ=true:=by rw [tt_le'];exact decide_eq_true h
theorem tlt{ρ:Env}{x y:X}(h:x.den ρ<y.den ρ):(X.lt x y).tt ρ=true:=by rw [tt_lt'];exact decide_eq_true h
noncomputable def tv(P:Prop):Int:=by classical exact if P then 1 else 0
theorem tv_yes{P:Prop}(h:P):tv P≠0:=by
 unfold tv
 rw [if_pos h]
 decide
theorem tv_no{P:Prop}(h:¬P):tv P=0:=by
 unfold tv
 rw [if_neg h]
structure LK where
 W:World
 gc:Int→Int
 nc:Int
 cc:Int
 ac:Addr
 gb:Int→Int
 nb:Int
 cb:Int
 ab:Addr
 id:Int
 most:Int
 N:Nat
 x:Int
 y:Int
 gl:Int→Int
def LK.ro(d:LK)(i:Nat):Obj:=if i=8 then roW d.W d.ac.block else if i=9 then roW d.W d.ab.block else roW d.W i
def LK.par(d:LK):Par:=⟨d.ro,d.gc,d.nc,d.nb,d.id⟩
def LK.s0(d:LK):MSt:=⟨hartAt d.id,d.gb,false,0⟩
noncomputable def tabF(p:Par)(s0:MSt)(f:Nat)(n i:Nat):Int:=if f=1 then (if i<7 then (acc p (seqM p s0 n)).cell i else (actF p (seqM p s0 n)).2) else if f=2 then (if i=0 then (amoF p (seqM p s0 n)).1 else if i=1 then (amoF p (seqM p s0 n)).2.1 else (amoF p (seqM p s0 n)).2.2)
 else if i≤34 then (comB p (seqM p s0 n) f).1.cell i else (comB p (seqM p s0 n) f).2.cell (i-35)
noncomputable def LK.env(d:LK):Env:=
 {b:=fun _=>false
  v:=fun i=>if i=44 then d.x else if i=45 then d.y else if i=40 then d.nc else if i=41 then d.cc else if i=42 then d.id else if i=43 then d.most else if i=50 then d.nb else if i=51 then d.cb else if i=60 then d.N
   else if i=67 then tv (∃ j,j<d.N∧putRd d.par (seqM d.par d.s0 j)) else if i=540 then b2i (seqM d.par d.s0 d.N).res else if i=541 then (seqM d.par d.s0 d.N).at_
   else if 501≤i∧i≤534 then (seqM d.par d.s0 d.N).h.cell (i-500) else 0
  f1:=fun i=>if i=21 then d.gl else if i=10 then d.gc else if i=20 then d.gb else if i=50 then (seqM d.par d.s0 d.N).m else if 60≤i∧i≤73 then rowC d.par d.s0 d.N (i-60) else fun _=>0
  f2:=fun f n i=>tabF d.par d.s0 f n.toNat i.toNat
  s:=fun _=>[],sf:=fun _ _=>[]
  ro:=d.ro
  win:=fun i=>if i=8 then d.ac else d.ab}
theorem LK.tabs(d:LK):Tabs d.par d.s0 d.env where
 ro:=rfl
 size:=rfl
 id:=rfl
 acc n i h:=by
  show tabF _ _ 1 (n:Int).toNat (i:Int).toNat=_
  rw [Int.toNat_natCast,Int.toNat_natCast]
  unfold tabF
  rw [if_pos rfl,if_pos h]
 why n:=rfl
 am0 n:=rfl
 am1 n:=rfl
 am2 n:=rfl
 hart b n i h1 h2 h3:=by
  show tabF _ _ b (n:Int).toNat (i:Int).toNat=_
  rw [Int.toNat_natCast,Int.toNat_natCast]
  unfold tabF
  rw [if_neg (by omega),if_neg (by omega),if_pos h3]
 com b n i h1 h2 h3:=by
  show tabF _ _ b (n:Int).toNat (((35+i:Nat):Int)).toNat=_
  rw [Int.toNat_natCast,Int.toNat_natCast]
  unfold tabF
  rw [if_neg (by omega),if_neg (by omega),if_neg (by omega),show 35+i-35=i by omega]
structure LK.Good (d:LK):Prop where
 len1:1≤d.nc
 size:16≤d.nb∧d.nb≤4096
 id:0≤d.id∧d.id≤3
 most:1≤d.most
structure Ends (p:Par) (s0:MSt) (M:Int) (N:Nat):Prop where
 n1:1≤N
 most:(N:Int)≤M
 go:∀ j,j<N→(seqM p s0 j).h.cause=0
 stop:(N:Int)=M∨(seqM p s0 N).h.cause≠0
theorem ends_ex{p:Par}{s0:MSt} (h0:(seqM p s0 0).h.cause=0) (m:Nat):∃ N,Ends p s0 ((m:Int)+1) N:=by
 induction m with
 | zero=>
  refine⟨1,Nat.le_refl _,by omega,fun j hj=>?_,.inl (by omega)⟩
  obtain rfl:j=0:=by omega
  exact h0
 | succ m ih=>
  obtain⟨N,h1,h2,h3,h4⟩:=ih
  by_cases hc:(seqM p s0 N).h.cause=0
  ·have e:N=m+1:=by
    rcases h4 with h4 | h4
    ·omega
    ·exact absurd hc h4
   refine⟨N+1,by omega,by omega,fun j hj=>?_,.inl (by omega)⟩
   rcases Nat.lt_or_ge j N with h | h
   ·exact h3 j h
   ·obtain rfl:j=N:=by omega
    exact hc
  ·exact⟨N,h1,by omega,h3,.inr hc⟩
theorem ends_of{p:Par}{s0:MSt} (h0:(seqM p s0 0).h.cause=0) (most:Int):∃ N:Nat,1≤most→Ends p s0 most N:=by
 by_cases h:1≤most
 ·obtain⟨N,hN⟩:=ends_ex h0 (most.toNat-1)
  refine⟨N,fun _=>?_⟩
  have e:((most.toNat-1:Nat):Int)+1=most:=by omega
  rwa [e] at hN
 ·exact⟨0,fun h'=>absurd h' h⟩
section
variable {d:LK}
theorem LK.runOk(g:d.Good):RunOk d.par d.s0 d.env:=⟨d.tabs,rfl,rfl,rfl,rfl,rfl,rfl,g.id,g.len1,g.size⟩
theorem LK.cell(i:Nat)(h1:1≤i)(h2:i≤34):d.env.v (500+i)=(seqM d.par d.s0 d.N).h.cell i:=by
 show (if 500+i=44 then _ else _)=_
 rw [if_neg (by omega),if_neg (by omega),if_neg (by omega),if_neg (by omega),if_neg (by omega),if_neg (by omega),if_neg (by omega),if_neg (by omega),if_neg (by omega),if_neg (by omega),if_neg (by omega),if_neg (by omega),if_pos (by omega),show 500+i-500=i by omega]
theorem LK.specM(h:Ends d.par d.s0 d.most d.N):SpecM d.par d.s0 d.env d.N where
 n1:=h.n1
 most:=h.most
 go:=h.go
 stop:=h.stop
 n:=rfl
 hart:=d.cell
 res:=rfl
 at_:=rfl
 mem:=rfl
 row c hc:=by
  show (if 60+c=21 then _ else _)=_
  rw [if_neg (by omega),if_neg (by omega),if_neg (by omega),if_neg (by omega),if_pos (by omega),show 60+c-60=c by omega]
theorem LK.specR(h:Ends d.par d.s0 d.most d.N):SpecR d.par d.s0 d.env d.N where
 S:=LK.specM h
 no h0 i hi hp:=tv_yes (P:=∃ j,j<d.N∧putRd d.par (seqM d.par d.s0 j)) ⟨i,hi,hp⟩ h0
 yes h0:=tv_no fun⟨i,hi,hp⟩=>h0 i hi hp
variable (hro:RoAt d.env LStart) (hW:∀ x∈LStart,d.W.heap[x.1]?=some (d.env.ro x.1)) (he:1≤d.most→Ends d.par d.s0 d.most d.N)
include hro hW he
theorem LK.ar_told{cx:Cx}(hng:cx.ng=7):LoopTold Tryz.prog cx d.env ARL:=by
 by_cases hp:PcOk d.env ARPc
 ·have g:d.Good:=⟨le_at (x:=.lit 1) (y:=.var 40) 0 hp rfl,⟨le_at (x:=.lit 16) (y:=.var 50) 3 hp rfl,le_at (x:=.var 50) (y:=.lit 4096) 4 hp rfl⟩,⟨le_at (x:=.lit 0) (y:=.var 42) 5 hp rfl,le_at (x:=.var 42) (y:=.lit 3) 6 hp rfl⟩,le_at (x:=.lit 1) (y:=.var 43) 7 hp rfl⟩
  exact AR_told (p:=d.par) (RoAll.of hro) hW (LK.runOk g) hng (LK.specM (he g.most))
 ·intro res hr S π0 w a r nn hh
  exact absurd hh.pc hp
theorem LK.rr_told{cx:Cx}(hng:cx.ng=7):LoopTold Tryz.prog cx d.env RRL:=by
 by_cases hp:PcOk d.env RRPc
 ·have g:d.Good:=⟨le_at (x:=.lit 1) (y:=.var 40) 1 hp rfl,⟨le_at (x:=.lit 16) (y:=.var 50) 4 hp rfl,le_at (x:=.var 50) (y:=.lit 4096) 5 hp rfl⟩,⟨le_at (x:=.lit 0) (y:=.var 42) 6 hp rfl,le_at (x:=.var 42) (y:=.lit 3) 7 hp rfl⟩,le_at (x:=.lit 1) (y:=.var 43) 8 hp rfl⟩
  exact RR_told (p:=d.par) (RoAll.of hro) hW (LK.runOk g) hng (LK.specR (he g.most))
 ·intro res hr S π0 w a r nn hh
  exact absurd hh.pc hp
end
end Go.Proofs.YtmickljjofbmiaaGreatDoor
