/- Symbolic execution, part 5: memory: cells that are read, written, laid anew; the tables of types. Symbolic execution, part 6: operations that only reckon do in the model what the evaluator says. Symbolic execution: code held against code. Symbolic execution: objects held against objects. Symbolic execution, part 7: more operations: equality, strings, building, loading, storing. Symbolic execution: rows of open length: what is read of them, written to them. Symbolic execution, part 8: the other operations that make a value. Symbolic execution, part 9: indexes, builds, slices, maps, calls. Symbolic execution, part 10: slices, addresses, maps, type tests, calls. Symbolic execution, part 11: slice expressions, maps, calls, builtins. Symbolic execution, part 12: maps. Symbolic execution, part 13: map operations and builtins. Symbolic execution, part 14: builtins. Symbolic execution: rows of open length: builtins. No condition. -/
import Derived.Test.YtmickljjofbmiaaGreatDoorFwB
import Derived.Laws.CopyRow
import Derived.Laws.Rows
import Derived.Laws.Entries
import Derived.Laws.StructEq
import Derived.Lib.Strings
import Derived.Laws.BytesArg
namespace Go.Proofs.YtmickljjofbmiaaGreatDoor
open Go
structure gP (P:Program) (t:TypeId) (td:TD):Prop where
 info:∃ i,P.info? t=some i∧i.size=td.size∧i.bytes=td.bytes∧∃ z,i.zero=some z∧(∀ ρ π,z.cells.toList=V.af ρ π td.zero)∧(td.agg=true→∃ l,z=.agg l)∧(td.agg=false→∀ l,z≠.agg l)
 under:P.underlying t=some td.d
 len:td.zero.length=td.size
 agg:td.agg=(match td.d with | .struct _ | .array _ _=>true | _=>false)
 flat:td.flat=true→td.agg=true→P.eqGuardType P.depth t=false∧P.stoodInHeld t=false∧(match td.d with | .struct fs=>fs.toList.all fun f=>f.name != "_" | _=>true)=true
def mQ(P:Program)(tt:T TD):Prop:=∀ t td,tt.get t=some td→gP P t td
section types
variable {P:Program} {t:TypeId} {td:TD} (h:gP P t td) (w:World)
include h
theorem gP.cP:(underlying t).run P w=.ok td.d w:=run_underlying h.under w
theorem gP.aO:(sizeOf t).run P w=.ok td.size w:=by
 obtain⟨i,hi,hs,_⟩:=h.info
 simp [sizeOf,typeInfo,hi,hs]
theorem gP.pz:(isAgg t).run P w=.ok td.agg w:=by
 unfold isAgg
 rw [Sem.run_bind,h.cP w,h.agg]
 cases td.d<;>rfl
end types
theorem tJ(ρ:Env)(π:Pl)(v:V)(h:v.one=true):(v.ae ρ π).oneCell'=true:=by
 induction v using V.rec (motive_2:=fun _=>True) with
 | ite c a b ia ib=>
  simp only [V.one,Bool.and_eq_true] at h
  rw [yh]
  split
  ·exact ia h.1
  ·exact ib h.2
 | nil=>trivial
 | cons=>trivial
 | _=>simp_all [V.one,V.ae,Value.oneCell']
theorem rE:∀ {l:List V},rD l=true→∀ v∈l,v.one=true
 | [],_,_,hm=>by simp at hm
 | v::l,h,u,hm=>by
  unfold rD at h
  cases hv:v.one with
  | true=>
   rw [hv] at h
   rcases List.mem_cons.1 hm with rfl | hm
   ·exact hv
   ·exact rE h u hm
  | false=>rw [hv] at h;simp at h
theorem ay(ρ:Env)(π:Pl)(l:List V):(V.af ρ π l).length=l.length:=by rw [bC];simp
theorem bP(ρ:Env)(π:Pl)(l m:List V):V.af ρ π (l++m)=V.af ρ π l++V.af ρ π m:=by simp [bC]
theorem dV(ρ:Env)(π:Pl)(l:List V)(n:Nat):V.af ρ π (l.take n)=(V.af ρ π l).take n:=by simp [bC]
theorem dU(ρ:Env)(π:Pl)(l:List V)(n:Nat):V.af ρ π (l.drop n)=(V.af ρ π l).drop n:=by simp [bC]
theorem bk(ρ:Env)(π:Pl)(l:List V)(n:Nat):(V.af ρ π l)[n]?=(l[n]?).map (V.ae ρ π):=by simp [bC]
theorem dT(ρ:Env)(π:Pl)(v:V)(h:v.isIte=false):(v.ae ρ π).cells.toList=V.af ρ π v.cells:=by
 cases v<;>first | (simp [V.isIte] at h;done) | simp [V.ae,V.cells,Value.cells,V.af]
theorem b9(b o i:Nat):(⟨b,o,none⟩:Addr).add i=⟨b,o+i,none⟩:=by unfold Addr.add;split<;>simp_all
section mem
variable {P:Program} {ρ:Env} {π:Pl} {h:H} {w:World}
theorem dD.yX(hr:dD ρ π h w){b:Nat}{c:List V}{e:TypeId}{wd:Option Nat} (hb:h.get b=some (.cells c e wd)):
  ∃ spare:List Value,w.heap[(π b).1]?=some (.cells (V.af ρ π c++spare).toArray e (0,0))∧Bf wd c.length spare (π b).2:=by
 obtain⟨ob,h1,spare,rfl,h3⟩:=hr.obj b _ hb
 exact⟨spare,h1,h3⟩
theorem dD.row(hr:dD ρ π h w){b:Nat}{c:List V}(hb:rowAt h b=some c):∃ (spare:List Value) (e:TypeId) (fr:Nat×Nat),w.heap[(π b).1]?=some (.cells (V.af ρ π c++spare).toArray e fr):=by
 unfold rowAt at hb
 split at hb
 ·rename_i e wd hg
  injection hb with hb
  subst hb
  obtain⟨spare,h1,_⟩:=hr.yX hg
  exact⟨spare,_,_,h1⟩
 ·rename_i hg
  injection hb with hb
  subst hb
  obtain⟨ob,h1,⟨e,fr,hob⟩,_⟩:=hr.obj b _ hg
  rw [hob] at h1
  exact⟨[],e,fr,by simpa using h1⟩
 ·simp at hb
theorem kE(hr:dD ρ π h w){b off n:Nat}{cs:List V}(hc:cv h b off n=some cs):
  (loadCells ⟨(π b).1,off,none⟩ n).run P w=.ok (V.af ρ π cs).toArray w∧cs.length=n:=by
 unfold cv at hc
 split at hc
 ·rename_i c hb
  obtain⟨spare,e,fr,h1⟩:=hr.row hb
  obtain⟨h2,h3,h4⟩:=cz _ _ _ hc
  rw [cN] at h2 h4
  refine⟨?_,h3⟩
  have:=run_loadCells_list (P:=P) w ⟨(π b).1,off,none⟩ (V.af ρ π cs) (fun j v hv=>by
   rw [b9,cell_of_row w _ _ _ _ _ h1]
   have hj:j<cs.length:=by
    have:=List.getElem?_eq_some_iff.1 hv
    obtain⟨hj,_⟩:=this
    rwa [ay] at hj
   rw [←h2,dV,dU] at hv
   rw [List.getElem?_take,if_pos (by omega),List.getElem?_drop] at hv
   simp only [List.getElem?_toArray]
   rw [List.getElem?_append_left]
   ·exact hv
   ·rw [ay];simp at h4;omega)
  rw [ay,h3] at this
  exact this
 ·simp at hc
theorem add_add(a:Addr)(x y:Nat):(a.add x).add y=a.add (x+y):=by
 unfold Addr.add
 by_cases hx:x=0
 ·simp [hx]
 ·by_cases hy:y=0
  ·simp [hx,hy]
  ·simp [hx,hy,Nat.add_assoc]
theorem add_plain{a:Addr}(h:a.spot=none)(x:Nat):a.add x=⟨a.block,a.off+x,none⟩:=by
 unfold Addr.add
 obtain⟨b,o,s⟩:=a
 simp only at h
 subst h
 by_cases hx:x=0<;>simp [hx]
theorem W2{off n es:Nat}{m:Int}(h1:off % es+n≤es) (h2:((off / es:Nat):Int)<m):off+n≤m.toNat*es:=by
 have h3:off / es+1≤m.toNat:=by omega
 have h4:(off / es+1)*es≤m.toNat*es:=Nat.mul_le_mul_right _ h3
 have h5:=Nat.div_add_mod off es
 rw [Nat.add_mul,Nat.one_mul,Nat.mul_comm (off / es)] at h4
 omega
theorem QG(hr:dD ρ π h w){pc:PC}(hpc:av ρ pc){b off n:Nat}{cs:List V}(hc:Dj h pc b off n=some cs):
  (loadCells ((ρ.win b).add off) n).run P w=.ok (V.af ρ π cs).toArray w∧cs.length=n:=by
 unfold Dj at hc
 split at hc
 ·rename_i tag c len es hb
  split at hc
  rotate_left
  ·cases hc
  rename_i hble hdec
  have hin:=W2 (Nat.le_of_ble_eq_true hble) (by have:=dF hpc hdec;rw [mP] at this;have:=of_decide_eq_true this;simpa [X.den] using this)
  obtain⟨ob,h1,⟨hs,hbl,arr,t,fr,rfl,hcells⟩,_⟩:=hr.obj b _ hb
  obtain⟨h2,h3,h4⟩:=cz _ _ _ hc
  rw [cN] at h2 h4
  refine⟨?_,h3⟩
  have:=run_loadCells_list (P:=P) w ((ρ.win b).add off) (V.af ρ π cs) (fun j v hv=>by
   rw [add_add,add_plain hs,hbl,cell_of_row w _ _ _ _ _ h1]
   have hj:j<cs.length:=by
    have:=List.getElem?_eq_some_iff.1 hv
    obtain⟨hj,_⟩:=this
    rwa [ay] at hj
   rw [←h2,dV,dU] at hv
   rw [List.getElem?_take,if_pos (by omega),List.getElem?_drop,bk] at hv
   cases hcj:c[off+j]? with
   | none=>rw [hcj] at hv;cases hv
   | some u=>
    rw [hcj] at hv
    rw [hcells _ _ hcj (by omega)]
    exact hv)
  rw [ay,h3] at this
  exact this
 ·simp at hc
theorem Za(hr:dD ρ π h w){b off n:Nat}{cs:List V}(hc:MZ h b off n=some cs):
  (loadCells ((ρ.win b).add off) n).run P w=.ok (V.af ρ π cs).toArray w∧cs.length=n:=by
 unfold MZ at hc
 split at hc
 ·rename_i hk
  obtain rfl:=Nat.eq_of_beq_eq_true hk
  obtain rfl:=Option.some.inj hc
  exact⟨by simp [loadCells,loadCellsFrom,V.af],rfl⟩
 split at hc
 ·rename_i tag c m es hb
  split at hc
  rotate_left
  ·cases hc
  rename_i hble
  have hin:=Nat.le_of_ble_eq_true hble
  obtain⟨ob,h1,⟨hs,hbl,arr,t,fr,rfl,hcells⟩,_⟩:=hr.obj b _ hb
  obtain⟨h2,h3,h4⟩:=cz _ _ _ hc
  rw [cN] at h2 h4
  refine⟨?_,h3⟩
  have:=run_loadCells_list (P:=P) w ((ρ.win b).add off) (V.af ρ π cs) (fun j v hv=>by
   rw [add_add,add_plain hs,hbl,cell_of_row w _ _ _ _ _ h1]
   have hj:j<cs.length:=by
    have:=List.getElem?_eq_some_iff.1 hv
    obtain⟨hj,_⟩:=this
    rwa [ay] at hj
   rw [←h2,dV,dU] at hv
   rw [List.getElem?_take,if_pos (by omega),List.getElem?_drop,bk] at hv
   cases hcj:c[off+j]? with
   | none=>rw [hcj] at hv;cases hv
   | some u=>
    rw [hcj] at hv
    rw [hcells _ _ hcj (by show off+j<((Int.ofNat m:Int)).toNat*es;simp only [Int.ofNat_eq_natCast,Int.toNat_natCast];omega)]
    exact hv)
  rw [ay,h3] at this
  exact this
 ·simp at hc
theorem G2(hr:dD ρ π h w){t:TypeId}{td:TD}(ht:gP P t td){b off:Nat}{cs:List V}(hc:cv h b off td.size=some cs):
  (td.agg=true→(loadVar t ⟨(π b).1,off,none⟩).run P w=.ok ((V.agg cs).ae ρ π) w) ∧
  (td.agg=false→∀ v,cs=[v]→(loadVar t ⟨(π b).1,off,none⟩).run P w=.ok (v.ae ρ π) w):=by
 obtain⟨hl,hn⟩:=kE (P:=P) hr hc
 constructor
 ·intro ha
  simp [loadVar,ht.pz,ha,ht.aO,hl,V.ae]
 ·intro ha v hv
  subst hv
  unfold cv at hc
  split at hc
  ·rename_i c hb
   obtain⟨spare,e,fr,h1⟩:=hr.row hb
   obtain⟨h2,h3,h4⟩:=cz _ _ _ hc
   rw [cN] at h2 h4
   simp only [loadVar,Sem.run_bind,ht.pz,ha,Result.andThen_ok,Bool.false_eq_true,if_false,run_load,cell_of_row w _ _ _ _ _ h1]
   have hs:td.size=1:=by simpa using h3.symm
   rw [hs] at h2 h4
   have hv:c[off]?=some v:=by
    have:=congrArg (fun l=>l[0]?) h2
    simpa [List.getElem?_take,List.getElem?_drop] using this
   have:(V.af ρ π c++spare).toArray[off]?=some (v.ae ρ π):=by
    simp only [List.getElem?_toArray]
    rw [List.getElem?_append_left (by rw [ay];simp at h4;omega),bk,hv]
    rfl
   rw [this]
  ·simp at hc
theorem R7(hr:dD ρ π h w){pc:PC}(hpc:av ρ pc){t:TypeId}{td:TD}(ht:gP P t td){b off:Nat}{cs:List V}(hc:Dj h pc b off td.size=some cs):
  (td.agg=true→(loadVar t ((ρ.win b).add off)).run P w=.ok ((V.agg cs).ae ρ π) w) ∧
  (td.agg=false→∀ v,cs=[v]→(loadVar t ((ρ.win b).add off)).run P w=.ok (v.ae ρ π) w):=by
 obtain⟨hl,hn⟩:=QG (P:=P) hr hpc hc
 constructor
 ·intro ha
  simp [loadVar,ht.pz,ha,ht.aO,hl,V.ae]
 ·intro ha v hv
  subst hv
  unfold Dj at hc
  split at hc
  ·rename_i tag c len es hb
   split at hc
   rotate_left
   ·cases hc
   rename_i hble hdec
   have hin:=W2 (Nat.le_of_ble_eq_true hble) (by have:=dF hpc hdec;rw [mP] at this;have:=of_decide_eq_true this;simpa [X.den] using this)
   obtain⟨ob,h1,⟨hsp,hbl,arr,ty,fr,rfl,hcells⟩,_⟩:=hr.obj b _ hb
   rw [add_plain hsp,hbl]
   obtain⟨h2,h3,h4⟩:=cz _ _ _ hc
   rw [cN] at h2 h4
   simp only [loadVar,Sem.run_bind,ht.pz,ha,Result.andThen_ok,Bool.false_eq_true,if_false,run_load,cell_of_row w _ _ _ _ _ h1]
   have hs:td.size=1:=by simpa using h3.symm
   rw [hs] at h2 h4
   have hv:c[off]?=some v:=by
    have:=congrArg (fun l=>l[0]?) h2
    simpa [List.getElem?_take,List.getElem?_drop] using this
   rw [hcells _ _ hv (by omega)]
  ·simp at hc
structure Mv (ρ:Env) (π:Pl) (h:H) (n:Nat) (w:World) (h':H) (n':Nat) (w':World):Prop where
 rep:dD ρ π h' w'
 dom:∀ i o,h'.get i=some o→(∃ o0,h.get i=some o0)∨(n≤i∧i<n')
 sub:∀ i o,h'.get i=some o→w.heap.size≤(π i).1∨∃ i0 o0,h.get i0=some o0∧(π i0).1=(π i).1∧(o0.bG=true→o.bG=true)
 keep:∀ j,j<w.heap.size→(∀ i o,h.get i=some o→(π i).1=j→o.bG=true)→w'.heap[j]?=w.heap[j]?
 size:w.heap.size≤w'.heap.size
 same:w'.tape=w.tape∧w'.os=w.os∧w'.output=w.output
theorem Mv.refl(hr:dD ρ π h w)(n:Nat):Mv ρ π h n w h n w where
 rep:=hr
 dom:=fun _ o hi=>.inl ⟨o,hi⟩
 sub:=fun i o hi=>.inr ⟨i,o,hi,rfl,id⟩
 keep:=fun _ _ _=>rfl
 size:=Nat.le_refl _
 same:=⟨rfl,rfl,rfl⟩
theorem Mv.MQ(hr:dD ρ π h w)(n:Nat){b:Nat}{o o':au}{ob:Obj}(hb:h.get b=some o)(ho:o'.is ρ π b ob)(hz:o.bG=false):
  Mv ρ π h n w (h.set b o') n {w with heap:=w.heap.setIfInBounds (π b).1 ob}:=by
 obtain⟨ob0,h1,_⟩:=hr.obj b o hb
 have hlt:(π b).1<w.heap.size:=(Array.getElem?_eq_some_iff.1 h1).1
 have hget:∀ i x,(h.set b o').get i=some x→∃ x0,h.get i=some x0∧(x0.bG=true→x.bG=true):=by
  intro i x hi
  by_cases e:b=i
  ·subst e;exact⟨o,hb,fun e=>by rw [hz] at e;cases e⟩
  ·rw [T.aC _ _ e] at hi;exact⟨x,hi,id⟩
 refine⟨⟨?_,?_⟩,?_,?_,?_,?_,⟨rfl,rfl,rfl⟩⟩
 ·intro i x hi
  by_cases e:b=i
  ·subst e
   rw [T.aN] at hi
   cases hi
   exact⟨ob,by simp [hlt],ho⟩
  ·rw [T.aC _ _ e] at hi
   obtain⟨x',h2,h3⟩:=hr.obj i x hi
   refine⟨x',?_,h3⟩
   have:(π b).1≠(π i).1:=fun e'=>(hr.inj b i _ _ hb hi e').elim e fun h=>by rw [hz] at h;cases h.1
   rw [←h2]
   simp only [Array.getElem?_setIfInBounds]
   rw [if_neg this]
 ·intro i j x y hi hj he
  obtain⟨x0,h2,h2'⟩:=hget i x hi
  obtain⟨y0,h3,h3'⟩:=hget j y hj
  exact (hr.inj i j _ _ h2 h3 he).imp id fun h=>⟨h2' h.1,h3' h.2⟩
 ·intro i x hi
  obtain⟨x0,h2,_⟩:=hget i x hi
  exact .inl ⟨x0,h2⟩
 ·intro i x hi;obtain⟨x0,h2,h2'⟩:=hget i x hi;exact .inr ⟨i,x0,h2,rfl,h2'⟩
 ·intro j hj hne
  simp only [Array.getElem?_setIfInBounds]
  rw [if_neg fun e=>by have:=hne b o hb e;rw [hz] at this;cases this]
 ·simp
theorem Mv.other{h:H}{n n':Nat}{w':World}{b:Nat}{o1 o2:au} (m:Mv ρ π h n w (h.set b o1) n' w') (ho:∀ ob,o1.is ρ π b ob→o2.is ρ π b ob) (hz:o1.bG=o2.bG):Mv ρ π h n w (h.set b o2) n' w':=by
 have get:∀ i x,(h.set b o2).get i=some x→∃ x1,(h.set b o1).get i=some x1∧(∀ ob,x1.is ρ π i ob→x.is ρ π i ob)∧x1.bG=x.bG:=by
  intro i x hi
  by_cases e:b=i
  ·subst e
   rw [T.aN] at hi
   cases hi
   exact⟨o1,T.aN _ _ _,ho,hz⟩
  ·rw [T.aC _ _ e] at hi
   exact⟨x,by rw [T.aC _ _ e];exact hi,fun _ h=>h,rfl⟩
 refine⟨⟨fun i x hi=>?_,fun i j x y hi hj he=>?_⟩,fun i x hi=>?_,fun i x hi=>?_,m.keep,m.size,m.same⟩
 ·obtain⟨x1,h1,h2,_⟩:=get i x hi
  obtain⟨ob,h3,h4⟩:=m.rep.obj i x1 h1
  exact⟨ob,h3,h2 ob h4⟩
 ·obtain⟨x1,h1,_,h1'⟩:=get i x hi
  obtain⟨y1,h2,_,h2'⟩:=get j y hj
  exact (m.rep.inj i j _ _ h1 h2 he).imp id fun h=>⟨h1'▸h.1,h2'▸h.2⟩
 ·obtain⟨x1,h1,_⟩:=get i x hi
  exact m.dom i x1 h1
 ·obtain⟨x1,h1,_,h1'⟩:=get i x hi
  exact (m.sub i x1 h1).imp id fun⟨i0,o0,a,b,c⟩=>⟨i0,o0,a,b,fun e=>h1'▸c e⟩
theorem Mv.new(hr:dD ρ π h w){n:Nat}{o:au}{ob:Obj} (hn:(π n).1=w.heap.size) (ho:o.is ρ π n ob):
  Mv ρ π h n w (h.set n o) (n+1) {w with heap:=w.heap.push ob}:=by
 have hlt:∀ i x,h.get i=some x→(π i).1<w.heap.size:=fun i x hi=>by
  obtain⟨ob0,h1,_⟩:=hr.obj i x hi
  exact (Array.getElem?_eq_some_iff.1 h1).1
 refine⟨⟨?_,?_⟩,?_,?_,?_,?_,⟨rfl,rfl,rfl⟩⟩
 ·intro i x hi
  by_cases e:n=i
  ·subst e
   rw [T.aN] at hi
   cases hi
   exact⟨ob,by simp [hn],ho⟩
  ·rw [T.aC _ _ e] at hi
   obtain⟨x',h2,h3⟩:=hr.obj i x hi
   exact⟨x',by rw [←h2];have:=hlt i x hi;simp [Array.getElem?_push,Nat.ne_of_lt this],h3⟩
 ·intro i j x y hi hj he
  by_cases e:n=i
  ·by_cases e':n=j
   ·exact .inl (by rw [←e,←e'])
   ·rw [T.aC _ _ e'] at hj
    have:=hlt j y hj
    subst e;omega
  ·rw [T.aC _ _ e] at hi
   by_cases e':n=j
   ·have:=hlt i x hi
    subst e';omega
   ·rw [T.aC _ _ e'] at hj
    exact hr.inj i j _ _ hi hj he
 ·intro i x hi
  by_cases e:n=i
  ·exact .inr (by omega)
  ·rw [T.aC _ _ e] at hi;exact .inl ⟨x,hi⟩
 ·intro i x hi
  by_cases e:n=i
  ·subst e;exact .inl (by omega)
  ·rw [T.aC _ _ e] at hi;exact .inr ⟨i,x,hi,rfl,id⟩
 ·intro j hj _
  simp [Array.getElem?_push,Nat.ne_of_lt hj]
 ·simp
theorem CU{α:Type}:∀ (l:List α) (n:Nat) (a:α),n<l.length→∃ r,AA l n [a]=some r
 | [],n,a,h=>by simp at h
 | x::l,0,a,_=>⟨[a]++l,by unfold AA;simp [takeN,cN]⟩
 | x::l,n+1,a,h=>by
  obtain⟨r,hr⟩:=CU l n a (by simpa using h)
  exact⟨x::r,by unfold AA;simp only [hr]⟩
theorem lL(hr:dD ρ π h w){b off:Nat}{vs:List V}{h':H}(hp:putAt h b off vs=some h')(n:Nat):
  ∃ w',(storeCells ⟨(π b).1,off,none⟩ (V.af ρ π vs)).run P w=.ok () w'∧Mv ρ π h n w h' n w':=by
 unfold putAt at hp
 split at hp
 ·rename_i c e wd hb
  split at hp
  ·rename_i c' ha hc
   simp only [Option.some.injEq] at hp
   subst hp
   obtain⟨spare,h1,hs⟩:=hr.yX hb
   obtain⟨h2,h3⟩:=tO _ _ _ _ hc
   have hst:=run_storeCells_at (P:=P) (π b).1 off e (V.af ρ π vs) 0 _ w h1 (by simp only [List.size_toArray,List.length_append,ay];omega) (fun v hv=>by
    rw [bC] at hv
    obtain⟨u,hu,rfl⟩:=List.mem_map.1 hv
    exact tJ ρ π u (rE ha u hu))
   have hlt:(π b).1<w.heap.size:=(Array.getElem?_eq_some_iff.1 h1).1
   have e1:w.setRow (π b).1 (List.take (off+0) (V.af ρ π c++spare).toArray.toList++V.af ρ π vs++List.drop (off+0+(V.af ρ π vs).length) (V.af ρ π c++spare).toArray.toList).toArray =
     {w with heap:=w.heap.setIfInBounds (π b).1 (.cells (V.af ρ π c'++spare).toArray e (0,0))}:=by
    unfold World.setRow
    congr 1
    apply Array.ext_getElem?
    intro j
    simp only [Array.getElem?_modify,Array.getElem?_setIfInBounds]
    by_cases ej:(π b).1=j
    ·subst ej
     simp only [if_true,h1,hlt,Option.map_some]
     congr 2
     rw [h2,bP,bP,dV,dU]
     simp only [Nat.add_zero,ay]
     rw [List.take_append_of_le_length (by rw [ay];omega),List.drop_append_of_le_length (by rw [ay];omega)]
     simp
    ·simp [ej]
   exact⟨_,hst,e1▸Mv.MQ hr n (o':=.cells c' e wd) hb ⟨spare,rfl,by rw [show c'.length=c.length by rw [h2];simp;omega];exact hs⟩ rfl⟩
  ·simp at hp
 ·simp at hp
theorem YW{α:Type}(l:List α):∀ (off n m:Nat) (u:α),m<n→off+n≤l.length→l.take off++((l.drop off).take n).set m u++l.drop (off+n)=l.take (off+m)++[u]++l.drop (off+m+1):=by
 induction l with
 | nil=>intro off n m u h1 h2;simp at h2;omega
 | cons x l ih=>
  intro off n m u h1 h2
  cases off with
  | zero=>
   cases n with
   | zero=>omega
   | succ n=>
    cases m with
    | zero=>simp
    | succ m=>
     have:=ih 0 n m u (by omega) (by simp at h2;omega)
     simpa using this
  | succ off=>
   have:=ih off n m u h1 (by simp at h2;omega)
   rw [show off+1+n=(off+n)+1 by omega,show off+1+m=(off+m)+1 by omega]
   simpa using this
theorem ML(hr:dD ρ π h w){b off n m:Nat}{i:X}{u:V}{cs:List V}{h':H}(hc:cv h b off n=some cs) (hp:putAt h b off (jx i u 0 cs)=some h') (hu:u.one=true) (hi:i.den ρ=(m:Int)) (hm:m<n) (n0:Nat):
  ∃ w',(storeCells ⟨(π b).1,off+m,none⟩ [u.ae ρ π]).run P w=.ok () w'∧Mv ρ π h n0 w h' n0 w':=by
 unfold putAt at hp
 split at hp
 ·rename_i c e wd hb
  split at hp
  ·rename_i c' ha hc'
   simp only [Option.some.injEq] at hp
   subst hp
   unfold cv rowAt at hc
   rw [hb] at hc
   dsimp only at hc
   obtain⟨h1,h2,h3⟩:=cz _ _ _ hc
   rw [cN] at h1 h3
   have hlen:off+n≤c.length∨n=0:=by simp at h3;omega
   have hoff:off+m<c.length:=by omega
   obtain⟨c2,hc2⟩:=CU c (off+m) u hoff
   have hput:putAt h b (off+m) [u]=some (h.set b (.cells c2 e wd)):=by
    unfold putAt
    rw [hb]
    dsimp only
    rw [show rD [u]=true from by simp [rD,hu],hc2]
   obtain⟨w',h4,h5⟩:=lL (P:=P) hr hput n0
   refine⟨w',by simpa [V.af] using h4,h5.other ?_ rfl⟩
   obtain⟨p1,p2⟩:=tO _ _ _ _ hc2
   obtain⟨q1,q2⟩:=tO _ _ _ _ hc'
   rw [A3] at q1 q2
   have hcs:V.af ρ π c'=V.af ρ π c2:=by
    rw [p1,q1]
    simp only [bP,dV,dU,V.af]
    rw [xF cs 0 m (by rw [hi];simp),←h1]
    simp only [dV,dU]
    rw [show (List.take n (List.drop off c)).length=n by rw [h1];exact h2]
    have hlc:(V.af ρ π c).length=c.length:=ay ρ π c
    generalize V.af ρ π c=l at *
    exact YW l off n m _ hm (by omega)
   have hl2:c'.length=c2.length:=by rw [←ay ρ π,hcs,ay]
   rintro ob ⟨spare,e1,e2⟩
   exact⟨spare,by rw [hcs];exact e1,by rw [hl2];exact e2⟩
  ·simp at hp
 ·simp at hp
theorem Pw(hr:dD ρ π h w){b off n m:Nat}{cs:List V}(hc:cv h b off n=some cs)(hm:m<n):∃ v,cs[m]?=some v∧w.cell? ⟨(π b).1,off+m,none⟩=some (v.ae ρ π):=by
 unfold cv at hc
 split at hc
 ·rename_i c hb
  obtain⟨spare,e,fr,h1⟩:=hr.row hb
  obtain⟨h2,h3,h4⟩:=cz _ _ _ hc
  rw [cN] at h2 h4
  have hj:m<cs.length:=by omega
  have hv:c[off+m]?=some cs[m]:=by
   have:=congrArg (fun l=>l[m]?) h2
   simp only [List.getElem?_take,List.getElem?_drop] at this
   rw [if_pos hm] at this
   rw [this,List.getElem?_eq_getElem hj]
  refine⟨cs[m],List.getElem?_eq_getElem hj,?_⟩
  rw [cell_of_row w _ _ _ _ _ h1]
  simp only [List.getElem?_toArray]
  rw [List.getElem?_append_left (by rw [ay];exact (List.getElem?_eq_some_iff.1 hv).1),bk,hv]
  rfl
 ·simp at hc
end mem
end Go.Proofs.YtmickljjofbmiaaGreatDoor
namespace Go.Proofs.YtmickljjofbmiaaGreatDoor
open Go
def rz(P:Program)(ft:T Func):Prop:=∀ f fn,ft.get f=some fn→P.funcs[f]?=some fn∧(fn.name == "runtime.NumGoroutine")=false∧fn.body.isSome=true
structure Ctx (P:Program) (cx:Cx) (ρ:Env) (π:Pl) (h:H) (w:World) (tm:List V) (a:Act):Prop where
 tt:mQ P cx.tt
 ft:rz P cx.ft
 rep:dD ρ π h w
 tmps:a.tmps=(V.af ρ π tm).toArray
 glob:∀ g,g<cx.ng→(π g).1=g
theorem MS(l:List UInt8):(l.map UInt8.toNat).map UInt8.ofNat=l:=by
 rw [List.map_map]
 conv=>rhs;rw [←List.map_id l]
 apply List.map_congr_left
 intro b _
 simp
mutual
theorem iz(ρ:Env)(π:Pl):∀ (v:Value) (u:V),ofValue v=some u→u.ae ρ π=v
 | .bool b,u,h=>by simp [ofValue] at h;subst h;simp [V.ae,X.tt,X.den,dd]
 | .int k n,u,h=>by simp [ofValue] at h;subst h;simp [V.ae,X.den]
 | .string s,u,h=>by
  simp only [ofValue,Option.some.injEq] at h;subst h
  simp only [V.ae,X.bw,MS]
 | .pointer none,u,h=>by simp [ofValue] at h;subst h;simp [V.ae]
 | .pointer (some _),u,h=>by simp [ofValue] at h
 | .slice none 0 0,u,h=>by simp [ofValue] at h;subst h;simp [V.ae]
 | .slice none 0 (_+1),u,h=>by simp [ofValue] at h
 | .slice none (_+1) _,u,h=>by simp [ofValue] at h
 | .slice (some _) _ _,u,h=>by simp [ofValue] at h
 | .map none,u,h=>by simp [ofValue] at h;subst h;simp [V.ae]
 | .map (some _),u,h=>by simp [ofValue] at h
 | .func f ⟨[]⟩ ⟨[]⟩,u,h=>by
  cases f<;>simp [ofValue] at h<;>(subst h;simp [V.ae,V.af])
 | .func f ⟨[]⟩ ⟨_::_⟩,u,h=>by simp [ofValue] at h
 | .func f ⟨_::_⟩ _,u,h=>by simp [ofValue] at h
 | .nilFunc,u,h=>by simp [ofValue] at h;subst h;simp [V.ae]
 | .iface t v,u,h=>by
  simp only [ofValue,Option.map_eq_some_iff] at h
  obtain⟨x,hx,rfl⟩:=h
  simp [V.ae,iz ρ π v x hx]
 | .nilIface,u,h=>by simp [ofValue] at h;subst h;simp [V.ae]
 | .agg ⟨l⟩,u,h=>by
  simp only [ofValue,Option.map_eq_some_iff] at h
  obtain⟨x,hx,rfl⟩:=h
  simp [V.ae,pa ρ π l x hx]
 | .tuple ⟨l⟩,u,h=>by
  simp only [ofValue,Option.map_eq_some_iff] at h
  obtain⟨x,hx,rfl⟩:=h
  simp [V.ae,pa ρ π l x hx]
 | .float _ _,u,h=>by simp [ofValue] at h
 | .complex _ _ _,u,h=>by simp [ofValue] at h
 | .chan _,u,h=>by simp [ofValue] at h
theorem pa(ρ:Env)(π:Pl):∀ (l:List Value) (u:List V),ofValues l=some u→V.af ρ π u=l
 | [],u,h=>by simp [ofValues] at h;subst h;rfl
 | v::l,u,h=>by
  simp only [ofValues] at h
  split at h
  ·rename_i x y hx hy
   simp only [Option.some.injEq] at h
   subst h
   rw [V.af,iz ρ π v x hx,pa ρ π l y hy]
  ·simp at h
end
section
variable {P:Program} {cx:Cx} {ρ:Env} {π:Pl} {h:H} {w:World} {tm:List V} {a:Act}
theorem aT(c:Ctx P cx ρ π h w tm a){o:Operand}{v:V}(hv:dq cx tm o=some v):a.eval o=v.ae ρ π:=by
 cases o with
 | tmp t=>
  simp only [dq,bO] at hv
  simp only [Act.eval,c.tmps]
  split at hv
  ·rename_i u hu
   split at hv
   ·simp at hv
   simp only [Option.some.injEq] at hv
   subst hv
   simp [Array.getD_eq_getD_getElem?,bk,hu]
  ·rename_i hu
   simp only [Option.some.injEq] at hv
   subst hv
   simp [Array.getD_eq_getD_getElem?,bk,hu,V.ae,V.af,undef]
 | const u=>exact (iz ρ π u v hv).symm
 | global g=>
  simp only [dq] at hv
  split at hv
  ·rename_i hg
   simp only [Option.some.injEq] at hv
   subst hv
   have hg':g<cx.ng:=by simpa [Nat.blt_eq] using hg
   simp [Act.eval,V.ae,c.glob g hg']
  ·simp at hv
 | func f=>
  simp only [dq,Option.some.injEq] at hv
  subst hv
  simp [Act.eval,V.ae,V.af]
theorem Nk(c:Ctx P cx ρ π h w tm a){o:Operand}{v:V}(hv:oE cx tm o=some v):a.eval o=v.ae ρ π:=by
 unfold oE at hv
 split at hv
 ·rename_i u hu
  obtain rfl:=Option.some.inj hv
  exact aT c hu
 ·split at hv
  ·rename_i t
   split at hv
   ·rename_i u hu
    split at hv
    ·rename_i k
     obtain rfl:=Option.some.inj hv
     rw [bO] at hu
     simp only [Act.eval,c.tmps]
     simp [Array.getD_eq_getD_getElem?,bk,hu]
    ·cases hv
   ·cases hv
  ·cases hv
theorem kJ:∀ {v:Value} {u:V},ofValue v=some u→u.isIte=false:=by
 intro v u h
 unfold ofValue at h
 split at h
 all_goals first
  | (obtain rfl:=Option.some.inj h;rfl)
  | (split at h<;>first | (cases h;done) | (obtain rfl:=Option.some.inj h;rfl))
  | (rw [Option.map_eq_some_iff] at h;obtain⟨_,_,rfl⟩:=h;rfl)
  | cases h
theorem ko{cx:Cx}{tm:List V}{o:Operand}{v:V}(hv:dq cx tm o=some v):v.isIte=false:=by
 cases o with
 | tmp t=>
  simp only [dq] at hv
  split at hv
  ·split at hv
   ·cases hv
   ·rename_i hn
    obtain rfl:=Option.some.inj hv
    exact hn
  ·obtain rfl:=Option.some.inj hv
   rfl
 | const u=>exact kJ hv
 | global g=>
  simp only [dq] at hv
  split at hv
  ·obtain rfl:=Option.some.inj hv;rfl
  ·cases hv
 | func f=>
  simp only [dq] at hv
  obtain rfl:=Option.some.inj hv;rfl
theorem gu{cx:Cx}{tm:List V}:∀ {l:List (Nat×Operand)} {vs:List (Nat×V)},eJ cx tm l=some vs→∀ x∈vs,x.2.isIte=false
 | [],vs,hv=>by simp [eJ] at hv;subst hv;simp
 | (i,o)::l,vs,hv=>by
  simp only [eJ] at hv
  split at hv
  ·rename_i x y hx hy
   simp only [Option.some.injEq] at hv
   subst hv
   intro z hz
   rcases List.mem_cons.1 hz with rfl | hz
   ·exact ko hx
   ·exact gu hy z hz
  ·simp at hv
theorem y9(c:Ctx P cx ρ π h w tm a):∀ {l:List Operand} {vs:List V},iE cx tm l=some vs→l.map a.eval=V.af ρ π vs
 | [],vs,hv=>by simp [iE] at hv;subst hv;rfl
 | o::l,vs,hv=>by
  simp only [iE] at hv
  split at hv
  ·rename_i x y hx hy
   simp only [Option.some.injEq] at hv
   subst hv
   rw [List.map_cons,V.af,Nk c hx,y9 c hy]
  ·simp at hv
theorem fY(c:Ctx P cx ρ π h w tm a):∀ {l:List Operand} {vs:List V},fR cx tm l=some vs→l.map a.eval=V.af ρ π vs
 | [],vs,hv=>by simp [fR] at hv;subst hv;rfl
 | o::l,vs,hv=>by
  simp only [fR] at hv
  split at hv
  ·rename_i x y hx hy
   simp only [Option.some.injEq] at hv
   subst hv
   rw [List.map_cons,V.af,aT c hx,fY c hy]
  ·simp at hv
theorem rL(c:Ctx P cx ρ π h w tm a):∀ {l:List (Nat×Operand)} {vs:List (Nat×V)},eJ cx tm l=some vs→
  l.map (fun x=>(x.1,a.eval x.2))=vs.map fun x=>(x.1,x.2.ae ρ π)
 | [],vs,hv=>by simp [eJ] at hv;subst hv;rfl
 | (i,o)::l,vs,hv=>by
  simp only [eJ] at hv
  split at hv
  ·rename_i x y hx hy
   simp only [Option.some.injEq] at hv
   subst hv
   simp only [List.map_cons,aT c hx,rL c hy]
  ·simp at hv
end
def mK:Result Next→Pc
 | .ok (.value (.pointer (some a))) _=>⟨a.block,0,.nilFunc⟩
 | .ok (.value (.slice (some a) _ cap)) _=>⟨a.block,cap,.nilFunc⟩
 | .ok (.value (.map (some r))) _=>⟨r,0,.nilFunc⟩
 | _=>⟨0,0,.nilFunc⟩
def Ran(P:Program)(cx:Cx)(tm:List V)(ρ:Env)(π:Pl)(st st':St)(w:World)(res:Result Next):OR→Prop
 | .val v=>∃ w',res=.ok (.value (v.ae ρ π)) w'∧Mv ρ π st.h st.n w st'.h st'.n w'
 | .skip=>∃ w',res=.ok .skip w'∧Mv ρ π st.h st.n w st'.h st'.n w'
 | .enter f args=>res=.ok (.enter f (V.af ρ π args).toArray) w∧st'.h=st.h∧st'.n=st.n∧∃ fn,P.funcs[f]?=some fn
 | .round l args=>res=(Instr.yield (π l).1 (V.af ρ π args).toArray).run P w∧st'.h=st.h∧st'.n=st.n∧∃ fo os,dq cx tm fo=some (.yield l)∧fR cx tm os=some args
 | .panic v=>res=.halt (.panic (v.ae ρ π)) w∧st'.h=st.h∧st'.n=st.n
 | .defer d=>res=.ok (.defer (d.ae ρ π)) w∧st'.h=st.h∧st'.n=st.n
structure aD (P:Program) (cx:Cx) (tm:List V) (ρ:Env) (π:Pl) (st st':St) (w:World) (res:Result Next) (r:OR):Prop where
 pc:av ρ st'.pc
 n:st.n≤st'.n
 ran:(st.n<st'.n→π st.n=mK res)→Ran P cx tm ρ π st st' w res r
section
variable {P:Program} {cx:Cx} {tm:List V} {ρ:Env} {π:Pl} {st st':St} {w:World} {r:OR}
theorem aD.value{res:Result Next}{v:V}{st1:St}(hp:dD ρ π st.h w)(hl:cn ρ st st1) (h:(bm st1 v).ai ρ=some (r,st')) (hr:res=.ok (.value (v.ae ρ π)) w):aD P cx tm ρ π st st' w res r:=by
 simp only [bm,R.ai,Option.some.injEq,Prod.mk.injEq] at h
 obtain⟨rfl,rfl⟩:=h
 refine⟨hl.pc,by rw [hl.n];exact Nat.le_refl _,fun _=>⟨w,hr,?_⟩⟩
 rw [hl.h,hl.n]
 exact Mv.refl hp _
theorem aD.fG{res:Result Next}{v:Option V}{s:String}{st1:St}(hp:dD ρ π st.h w)(hl:cn ρ st st1) (h:(fG st1 v s).ai ρ=some (r,st')) (hr:∀ u,v=some u→res=.ok (.value (u.ae ρ π)) w):
  aD P cx tm ρ π st st' w res r:=by
 unfold Go.Proofs.YtmickljjofbmiaaGreatDoor.fG at h
 split at h
 ·exact aD.value hp hl h (hr _ rfl)
 ·simp [R.ai] at h
theorem aD.new{res:Result Next}{o:au}{ob:Obj}{v:V}(hp:dD ρ π st.h w)(hpc:av ρ st.pc) (h:R.ai ρ (.ok (.val v,newObj st o))=some (r,st'))
  (hr:(π st.n).1=w.heap.size→res=.ok (.value (v.ae ρ π)) {w with heap:=w.heap.push ob}) (hpl:(mK res).1=w.heap.size) (ho:(π st.n).1=w.heap.size→o.is ρ π st.n ob):
  aD P cx tm ρ π st st' w res r:=by
 simp only [R.ai,Option.some.injEq,Prod.mk.injEq] at h
 obtain⟨rfl,rfl⟩:=h
 refine⟨hpc,by simp [newObj],fun hn=>?_⟩
 have hn':(π st.n).1=w.heap.size:=by rw [hn (by simp [newObj]),hpl]
 exact⟨_,hr hn',Mv.new hp hn' (ho hn')⟩
end
section ops
variable {P:Program} {cx:Cx} {ρ:Env} {π:Pl} {w:World} {tm:List V} {a:Act} {st st':St} {r:OR}
theorem YX(k:IntKind)(x y:Int)(yk:IntKind)(h:¬y<0):(Op.shift .shl k x yk y).run P w=.ok (.int k (MD k x y)) w:=by
 simp [Op.shift,h,MD]
theorem YZ(k:IntKind)(x y:Int)(yk:IntKind)(h:¬y<0):(Op.shift .shr k x yk y).run P w=.ok (.int k (Bz k x y)) w:=by
 simp [Op.shift,h,Bz]
theorem SC{op:BinOp}{k j:IntKind}{x y:X}{t:TypeId}{p q:Operand}{ty:TypeId}{o:Oper}(c:Ctx P cx ρ π st.h w tm a)(hpc:av ρ st.pc)(ho:o.op=.binOp op t p q ty)
  (hx:a.eval p=.int k (x.den ρ)) (hy:a.eval q=.int j (y.den ρ)) (h:(AZ st op k x y).ai ρ=some (r,st')):aD P cx tm ρ π st st' w ((execOp a.eval o).run P w) r:=by
 unfold AZ at h
 obtain⟨st1,hl,h1⟩:=aU hpc h
 rw [lq] at h1
 split at h1
 ·simp [R.ai] at h1
 ·rename_i hd
  have hn:¬y.den ρ<0:=by
   have:=of_decide_eq_false hd
   simpa [X.den] using this
  cases op<;>first
   | (simp [R.ai] at h1;done)
   |(refine aD.value c.rep hl h1 ?_
     simp only [execOp,ho,hx,hy]
     simp [eqGuard,binOp,V.ae,vP,ik,YX,YZ,hn])
theorem DU{pc:PC}(hp:av ρ pc)(x:X):(oA pc x).den ρ=x.den ρ:=by
 unfold oA
 split
 ·split
  ·split
   ·rename_i h1 h2
    exact (bn (dJ hp h1) (dJ hp h2)).symm
   ·rfl
  ·rfl
 ·rfl
theorem Yy{op:BinOp}{k:IntKind}{x y:X}{t:TypeId}{p q:Operand}{ty:TypeId}{o:Oper}(c:Ctx P cx ρ π st.h w tm a)(hpc:av ρ st.pc)(ho:o.op=.binOp op t p q ty)
  (hx:a.eval p=.int k (x.den ρ)) (hy:a.eval q=.int k (y.den ρ)) (h:(DB st op k x y).ai ρ=some (r,st')):aD P cx tm ρ π st st' w ((execOp a.eval o).run P w) r:=by
 have hl:=cn.refl hpc
 unfold DB at h
 cases op<;>simp only at h
 case quo=>
  obtain⟨st1,hl1,h1⟩:=aU hpc h
  rw [eM] at h1
  split at h1
  ·simp [R.ai] at h1
  ·rename_i hd
   have hn:¬y.den ρ=0:=by simpa [X.den] using hd
   refine aD.value c.rep hl1 h1 ?_
   simp [execOp,ho,hx,hy,eqGuard,binOp,V.ae,CA,Op.intDiv,hn]
 case rem=>
  obtain⟨st1,hl1,h1⟩:=aU hpc h
  rw [eM] at h1
  split at h1
  ·simp [R.ai] at h1
  ·rename_i hd
   have hn:¬y.den ρ=0:=by simpa [X.den] using hd
   refine aD.value c.rep hl1 h1 ?_
   simp [execOp,ho,hx,hy,eqGuard,binOp,V.ae,jY,Op.intDiv,hn]
 case shl=>simp [R.ai] at h
 case shr=>simp [R.ai] at h
 all_goals
  refine aD.value c.rep hl h ?_
  simp only [execOp,ho,hx,hy]
  simp [eqGuard,binOp,V.ae,Op.intArith,Op.intBits,Op.intCmp,vM,vQ,jW,nu,gq,eM,mz,lq,di,bne,DU hpc]
theorem ok_int{op:BinOp}{k:IntKind}{x y:X}{t:TypeId}{p q:Operand}{ty:TypeId}{o:Oper}(c:Ctx P cx ρ π st.h w tm a)(hpc:av ρ st.pc)(ho:o.op=.binOp op t p q ty)
  (hx:a.eval p=.int k (x.den ρ)) (hy:a.eval q=.int k (y.den ρ)) (h:(Ra st op k x y).ai ρ=some (r,st')):aD P cx tm ρ π st st' w ((execOp a.eval o).run P w) r:=
 Yy c hpc ho (by rw [hx,wG hpc]) (by rw [hy,wG hpc]) h
end ops
end Go.Proofs.YtmickljjofbmiaaGreatDoor
namespace Go.Proofs.YtmickljjofbmiaaGreatDoor
open Go
theorem eE{α:Type} [DecidableEq α] {a b:α} (h:ki a b=true):a=b:=of_decide_eq_true h
theorem QF{a b:Value}(h:MW a b=true):a=b:=by
 unfold MW at h
 split at h
 ·rename_i u v hu hv
  obtain rfl:=V.beq_eq _ _ h
  let ρ:Env:=⟨fun _=>false,fun _=>0,fun _ _=>0,fun _ _ _=>0,fun _=>[],fun _ _=>[],fun _=>.deferred none,fun _=>⟨0,0,none⟩⟩
  rw [←iz ρ (fun _=>⟨0,0,.nilFunc⟩) a u hu,←iz ρ (fun _=>⟨0,0,.nilFunc⟩) b u hv]
 ·cases h
theorem tG{a b:Array Nat}(h:Im a b=true):a=b:=Array.ext' (nw h)
theorem ax{a b:Operand}(h:aP a b=true):a=b:=by
 unfold aP at h
 split at h
 ·rw [Nat.eq_of_beq_eq_true h]
 ·rw [QF h]
 ·rw [Nat.eq_of_beq_eq_true h]
 ·rw [Nat.eq_of_beq_eq_true h]
 ·cases h
theorem fT{α:Type}{f:α→α→Bool} (hf:∀ {a b},f a b=true→a=b):∀ {l m:List α},gz f l m=true→l=m
 | [],[],_=>rfl
 | a::l,b::m,h=>by
  unfold gz at h
  split at h
  ·rename_i hb
   rw [hf hb,fT hf h]
  ·cases h
 | [],_::_,h=>by simp [gz] at h
 | _::_,[],h=>by simp [gz] at h
theorem r6{a b:Array Operand}(h:yp a b=true):a=b:=Array.ext' (fT ax h)
theorem jJ{a b:Option Operand}(h:j1 a b=true):a=b:=by
 unfold j1 at h
 split at h
 ·rfl
 ·rw [ax h]
 ·cases h
theorem Mq{a b:Nat×Operand}(h:E3 a b=true):a=b:=by
 unfold E3 at h
 split at h
 ·rename_i h1
  exact Prod.ext (Nat.eq_of_beq_eq_true h1) (ax h)
 ·cases h
theorem xp {a b:Array (Nat×Operand)} (h:Ax a b=true):a=b:=Array.ext' (fT Mq h)
theorem DJ{a b:Callee}(h:uZ a b=true):a=b:=by
 unfold uZ at h
 split at h
 ·rw [ax h]
 ·rw [eE h]
 ·cases h
theorem rI{a b:Call}(h:sR a b=true):a=b:=by
 obtain⟨a1,a2,a3⟩:=a
 obtain⟨b1,b2,b3⟩:=b
 unfold sR at h
 simp only [andM,Bool.and_eq_true] at h
 rw [DJ h.1,r6 h.2.1,tG h.2.2]
theorem SJ{a b:Op}(h:SI a b=true):a=b:=by
 unfold SI at h
 split at h
 ·skip
  rw [ax h]
 ·skip
  rw [ax h]
 ·simp only [andM,Bool.and_eq_true] at h
  rw [ax h.1,ax h.2.1,ax h.2.2]
 ·skip
  rw [Nat.eq_of_beq_eq_true h]
 ·simp only [andM,Bool.and_eq_true] at h
  rw [Nat.eq_of_beq_eq_true h.1,ax h.2]
 ·simp only [andM,Bool.and_eq_true] at h
  rw [Nat.eq_of_beq_eq_true h.1,xp h.2]
 ·simp only [andM,Bool.and_eq_true] at h
  rw [Nat.eq_of_beq_eq_true h.1,Nat.eq_of_beq_eq_true h.2.1,xp h.2.2]
 ·simp only [andM,Bool.and_eq_true] at h
  rw [Nat.eq_of_beq_eq_true h.1,ax h.2.1,ax h.2.2.1,ax h.2.2.2]
 ·simp only [andM,Bool.and_eq_true] at h
  rw [Nat.eq_of_beq_eq_true h.1,ax h.2]
 ·simp only [andM,Bool.and_eq_true] at h
  rw [Nat.eq_of_beq_eq_true h.1,ax h.2.1,ax h.2.2]
 ·skip
  rw [Nat.eq_of_beq_eq_true h]
 ·skip
  rw [Nat.eq_of_beq_eq_true h]
 ·skip
  rw [ax h]
 ·simp only [andM,Bool.and_eq_true] at h
  rw [eE h.1,Nat.eq_of_beq_eq_true h.2.1,ax h.2.2.1,ax h.2.2.2.1,Nat.eq_of_beq_eq_true h.2.2.2.2]
 ·simp only [andM,Bool.and_eq_true] at h
  rw [eE h.1,Nat.eq_of_beq_eq_true h.2.1,ax h.2.2]
 ·simp only [andM,Bool.and_eq_true] at h
  rw [Nat.eq_of_beq_eq_true h.1,Nat.eq_of_beq_eq_true h.2.1,ax h.2.2]
 ·simp only [andM,Bool.and_eq_true] at h
  rw [Nat.eq_of_beq_eq_true h.1,ax h.2]
 ·simp only [andM,Bool.and_eq_true] at h
  rw [Nat.eq_of_beq_eq_true h.1,ax h.2]
 ·simp only [andM,Bool.and_eq_true] at h
  rw [eE h.1,r6 h.2.1,r6 h.2.2]
 ·simp only [andM,Bool.and_eq_true] at h
  rw [Nat.eq_of_beq_eq_true h.1,jJ h.2]
 ·simp only [andM,Bool.and_eq_true] at h
  rw [Nat.eq_of_beq_eq_true h.1,ax h.2]
 ·simp only [andM,Bool.and_eq_true] at h
  rw [Nat.eq_of_beq_eq_true h.1,ax h.2.1,ax h.2.2]
 ·simp only [andM,Bool.and_eq_true] at h
  rw [Nat.eq_of_beq_eq_true h.1,ax h.2.1,jJ h.2.2.1,jJ h.2.2.2.1,jJ h.2.2.2.2]
 ·simp only [andM,Bool.and_eq_true] at h
  rw [Nat.eq_of_beq_eq_true h.1,ax h.2.1,Nat.eq_of_beq_eq_true h.2.2]
 ·simp only [andM,Bool.and_eq_true] at h
  rw [Nat.eq_of_beq_eq_true h.1,ax h.2.1,Nat.eq_of_beq_eq_true h.2.2]
 ·simp only [andM,Bool.and_eq_true] at h
  rw [Nat.eq_of_beq_eq_true h.1,ax h.2.1,ax h.2.2]
 ·simp only [andM,Bool.and_eq_true] at h
  rw [Nat.eq_of_beq_eq_true h.1,ax h.2.1,ax h.2.2]
 ·simp only [andM,Bool.and_eq_true] at h
  rw [Nat.eq_of_beq_eq_true h.1,ax h.2.1,ax h.2.2.1,cQ h.2.2.2]
 ·simp only [andM,Bool.and_eq_true] at h
  rw [Nat.eq_of_beq_eq_true h.1,ax h.2.1,ax h.2.2.1,ax h.2.2.2]
 ·simp only [andM,Bool.and_eq_true] at h
  rw [Nat.eq_of_beq_eq_true h.1,ax h.2.1,ax h.2.2]
 ·simp only [andM,Bool.and_eq_true] at h
  rw [Nat.eq_of_beq_eq_true h.1,ax h.2.1,ax h.2.2.1,ax h.2.2.2]
 ·simp only [andM,Bool.and_eq_true] at h
  rw [Nat.eq_of_beq_eq_true h.1,ax h.2]
 ·simp only [andM,Bool.and_eq_true] at h
  rw [ax h.1,cQ h.2]
 ·skip
  rw [ax h]
 ·simp only [andM,Bool.and_eq_true] at h
  rw [ax h.1,Nat.eq_of_beq_eq_true h.2.1,Nat.eq_of_beq_eq_true h.2.2.1,cQ h.2.2.2]
 ·simp only [andM,Bool.and_eq_true] at h
  rw [ax h.1,Nat.eq_of_beq_eq_true h.2]
 ·skip
  rw [rI h]
 ·skip
  rw [rI h]
 ·skip
  rw [rI h]
 ·skip
  rw [ax h]
 ·simp only [andM,Bool.and_eq_true] at h
  rw [ax h.1,ax h.2]
 ·simp only [andM,Bool.and_eq_true] at h
  rw [Nat.eq_of_beq_eq_true h.1,ax h.2.1,cQ h.2.2]
 ·cases h
theorem Li{a b:Edge}(h:DV a b=true):a=b:=by
 obtain⟨a1,a2⟩:=a
 obtain⟨b1,b2⟩:=b
 unfold DV at h
 simp only [andM,Bool.and_eq_true] at h
 rw [Nat.eq_of_beq_eq_true h.1,eE h.2]
theorem gD{a b:Option Nat}(h:iA a b=true):a=b:=by
 unfold iA at h
 split at h
 ·rfl
 ·rw [Nat.eq_of_beq_eq_true h]
 ·cases h
theorem GG {a b:Option (Nat×Bool)} (h:zC a b=true):a=b:=by
 unfold zC at h
 split at h
 ·rfl
 ·simp only [andM,Bool.and_eq_true] at h
  rw [Nat.eq_of_beq_eq_true h.1,cQ h.2]
 ·cases h
theorem Mm{a b:Oper}(h:EX a b=true):a=b:=by
 obtain⟨a1,a2,a3,a4,a5,a6⟩:=a
 obtain⟨b1,b2,b3,b4,b5,b6⟩:=b
 unfold EX at h
 simp only [andM,Bool.and_eq_true] at h
 rw [gD h.1,SJ h.2.1,Nat.eq_of_beq_eq_true h.2.2.1,eE h.2.2.2.1,Array.ext' (fT Li h.2.2.2.2.1),GG h.2.2.2.2.2]
theorem IB{a b:Array Oper}(h:IA a b=true):a=b:=Array.ext' (fT Mm h)
theorem g7:∀ {a b:Code},bz a b=true→a=b:=by
 intro a
 induction a with
 | skip  =>
  intro b h
  cases b<;>simp only [bz,Bool.false_eq_true] at h
  rfl
 | region x0 x1 x2=>
  intro b h
  cases b<;>simp only [bz,Bool.false_eq_true] at h
  simp only [andM,Bool.and_eq_true] at h
  rw [Nat.eq_of_beq_eq_true h.1,IB h.2.1,cQ h.2.2]
 | seq x0 x1 ih0 ih1=>
  intro b h
  cases b<;>simp only [bz,Bool.false_eq_true] at h
  simp only [andM,Bool.and_eq_true] at h
  rw [ih0 h.1,ih1 h.2]
 | cond x0 x1 x2 ih1 ih2=>
  intro b h
  cases b<;>simp only [bz,Bool.false_eq_true] at h
  simp only [andM,Bool.and_eq_true] at h
  rw [ax h.1,ih1 h.2.1,ih2 h.2.2]
 | block x0 x1 ih1=>
  intro b h
  cases b<;>simp only [bz,Bool.false_eq_true] at h
  simp only [andM,Bool.and_eq_true] at h
  rw [Nat.eq_of_beq_eq_true h.1,ih1 h.2]
 | loop x0 ih0=>
  intro b h
  cases b<;>simp only [bz,Bool.false_eq_true] at h
  rw [ih0 h]
 | rangeFunc x0 x1 x2 x3 ih2 ih3=>
  intro b h
  cases b<;>simp only [bz,Bool.false_eq_true] at h
  simp only [andM,Bool.and_eq_true] at h
  rw [ax h.1,tG h.2.1,ih2 h.2.2.1,ih3 h.2.2.2]
 | exit x0=>
  intro b h
  cases b<;>simp only [bz,Bool.false_eq_true] at h
  rw [Nat.eq_of_beq_eq_true h]
 | scope x0 ih0=>
  intro b h
  cases b<;>simp only [bz,Bool.false_eq_true] at h
  rw [ih0 h]
 | label x0=>
  intro b h
  cases b<;>simp only [bz,Bool.false_eq_true] at h
  rw [Nat.eq_of_beq_eq_true h]
 | goto x0=>
  intro b h
  cases b<;>simp only [bz,Bool.false_eq_true] at h
  rw [Nat.eq_of_beq_eq_true h]
 | ret  =>
  intro b h
  cases b<;>simp only [bz,Bool.false_eq_true] at h
  rfl
 | refuse x0=>
  intro b h
  cases b<;>simp only [bz,Bool.false_eq_true] at h
  rw [eE h]
end Go.Proofs.YtmickljjofbmiaaGreatDoor
namespace Go.Proofs.YtmickljjofbmiaaGreatDoor
open Go
theorem az{a b c d e f:Bool}(h:bM a b c d e f=true):a=true∧b=true∧c=true∧d=true∧e=true∧f=true:=by
 unfold bM at h
 revert h
 cases a<;>cases b<;>cases c<;>cases d<;>cases e<;>cases f<;>simp
theorem MC{a b:bL}(h:Fo a b=true):a=b:=by
 unfold Fo at h
 split at h
 ·simp only [Bool.and_eq_true] at h
  rw [Nat.eq_of_beq_eq_true h.1.1,V.bD _ _ h.1.2,V.bD _ _ h.2]
 ·rw [Nat.eq_of_beq_eq_true h]
 ·cases h
theorem lG:∀ {l m:List bL},eB l m=true→l=m
 | [],[],_=>rfl
 | a::l,b::m,h=>by
  simp only [eB,Bool.and_eq_true] at h
  rw [MC h.1,lG h.2]
 | [],_::_,h=>by simp [eB] at h
 | _::_,[],h=>by simp [eB] at h
theorem A.beq_eq:∀ {a b:A},a.beq b=true→a=b
 | .base t,b,h=>by
  cases b<;>simp only [A.beq,Bool.false_eq_true] at h
  rw [Nat.eq_of_beq_eq_true h]
 | .fill x,b,h=>by
  cases b<;>simp only [A.beq,Bool.false_eq_true] at h
  rw [X.beq_eq h]
 | .put a i c x,b,h=>by
  cases b<;>simp only [A.beq,Bool.false_eq_true] at h
  obtain⟨h1,h2,h3,h4,_⟩:=az h
  rw [A.beq_eq h1,X.beq_eq h2,Nat.eq_of_beq_eq_true h3,X.beq_eq h4]
theorem Mp{a b:V×V}(h:NY a b=true):a=b:=by
 obtain⟨h1,h2,_⟩:=az h
 exact Prod.ext (V.beq_eq _ _ h1) (V.beq_eq _ _ h2)
theorem rm{a b:Option Code}(h:nB a b=true):a=b:=by
 unfold nB at h
 split at h
 ·rfl
 ·rw [g7 h]
 ·cases h
theorem EY {a b:Option (List bL)} (h:wj a b=true):a=b:=by
 unfold wj at h
 split at h
 ·rfl
 ·rw [lG h]
 ·cases h
theorem au.beq_eq{a b:au}(h:a.beq b=true):a=b:=by
 unfold au.beq at h
 split at h
 ·obtain⟨h1,h2,h3,_⟩:=az h
  rw [Nat.eq_of_beq_eq_true h1,gD h2,V.bD _ _ h3]
 ·rw [fT Mp h]
 ·obtain⟨h1,h2,h3,h4,h5,h6⟩:=az h
  obtain⟨h7,h8,_⟩:=az h6
  rw [eE h1,rm h2,V.bD _ _ h3,Nat.eq_of_beq_eq_true h4,tG h5,g7 h7,g7 h8]
 ·rw [EY h]
 ·obtain⟨h1,h2,_⟩:=az h
  rw [Nat.eq_of_beq_eq_true h1,V.bD _ _ h2]
 ·obtain⟨h1,h2,h3,h4,_⟩:=az h
  rw [Nat.eq_of_beq_eq_true h1,V.bD _ _ h2,X.beq_eq h3,Nat.eq_of_beq_eq_true h4]
 ·rw [gD h]
 ·obtain⟨h1,h2,h3,h4,h5,_⟩:=az h
  rw [A.beq_eq h1,CK.bD h2,X.beq_eq h3,Nat.eq_of_beq_eq_true h4,cQ h5]
 ·obtain⟨h1,h2,h3,h4,_⟩:=az h
  rw [Nat.eq_of_beq_eq_true h1,Nat.eq_of_beq_eq_true h2,CK.bD h3,X.beq_eq h4]
 ·cases h
end Go.Proofs.YtmickljjofbmiaaGreatDoor
namespace Go.Proofs.YtmickljjofbmiaaGreatDoor
open Go
section
variable {P:Program} {ρ:Env} {π:Pl} {w:World}
theorem Te(ρ:Env)(π:Pl)(cs l:List V)(off n:Nat) (h:takeN n (iO cs off)=some l):((V.af ρ π cs).drop off).take n=V.af ρ π l:=by
 obtain⟨h1,_,h3⟩:=cz _ _ _ h
 rw [cN] at h1
 rw [←h1,dV,dU]
theorem nD{tt:T TD}(ht:mQ P tt){t:TypeId}{cs:List V}{off:Nat}{v:V}(h:nZ tt t cs off=some v):
  (part t (V.af ρ π cs).toArray off).run P w=.ok (v.ae ρ π) w:=by
 unfold nZ at h
 split at h
 ·rename_i d hd
  have hk:=ht t d hd
  unfold part
  rw [Sem.run_bind,hk.pz]
  cases ha:d.agg with
  | true=>
   rw [ha] at h
   simp only [if_true] at h
   split at h
   ·rename_i l hl
    simp only [Option.some.injEq] at h
    subst h
    simp [hk.aO,V.ae,Te ρ π cs l off d.size hl]
   ·simp at h
  | false=>
   rw [ha] at h
   simp only [Bool.false_eq_true,if_false,bO] at h
   simp [bk,h]
 ·simp at h
end
theorem aas(a b:List UInt8):((⟨a.toArray⟩:ByteArray)==⟨b.toArray⟩)=(a==b):=by
 rw [show ((⟨a.toArray⟩:ByteArray)==⟨b.toArray⟩)=(a.toArray==b.toArray) from rfl]
 simp
theorem Df(a:List UInt8):(⟨a.toArray⟩:ByteArray).toList=a:=by
 rw [ByteArray.toList_eq]
section eq
variable {P:Program} {tt:T TD} {ρ:Env} {π:Pl}
theorem Cc{β:Type}(fs:Array Field)(b:β) (f:Field→β→Sem (ForInStep β)):(forIn fs b f:Sem β)=forIn fs.toList b f:=by
 rw [Array.forIn_toList]
theorem wU(w:World)(ht:mQ P tt)(eq:TypeId→V→V→Option X)(d:Nat)(xs ys:List V)
  (heq:∀ t x y e,eq t x y=some e→(Op.equalIn d t (x.ae ρ π) (y.ae ρ π)).run P w=.ok (e.tt ρ) w):
  ∀ (fs:List Field) (e:X),eqFields eq tt xs ys fs=some e→(fs.all fun f=>f.name != "_")=true→
   (forIn fs ((none:Option Bool),()) (fun f (_:Option Bool×Unit)=>
    (if f.name = "_" then pure (ForInStep.yield (none,()))
    else do
     let x ←part f.type (V.af ρ π xs).toArray f.offset
     let y ←part f.type (V.af ρ π ys).toArray f.offset
     let r ←Op.equalIn d f.type x y
     if r=false then pure (ForInStep.done (some false,())) else pure (ForInStep.yield (none,())):Sem (ForInStep (Option Bool×Unit))))).run P w =
    .ok (if e.tt ρ then none else some false,()) w
 | [],e,h,_=>by
  simp only [eqFields,Option.some.injEq] at h
  subst h
  simp [X.tt,X.den]
 | f::fs,e,h,hn=>by
  simp only [eqFields] at h
  split at h
  ·rename_i x y hx hy
   split at h
   ·rename_i e1 e2 h1 h2
    simp only [Option.some.injEq] at h
    subst h
    simp only [List.all_cons,Bool.and_eq_true,bne_iff_ne,ne_eq] at hn
    have ih:=wU w ht eq d xs ys heq fs e2 h2 hn.2
    simp only [List.forIn_cons,Sem.run_bind,hn.1,if_false,nD ht hx,nD ht hy,Result.andThen_ok,heq _ _ _ _ h1,Ic]
    cases he:e1.tt ρ with
    | true=>
     simp only [Bool.true_eq_false,if_false,Sem.run_pure,Result.andThen_ok,Bool.true_and]
     exact ih
    | false=>simp
   ·simp at h
  ·simp at h
theorem y6(w:World)(ht:mQ P tt)(eq:V→V→Option X)(d:Nat)(elem:TypeId)(n:Nat)(xs ys:List V)
  (heq:∀ x y e,eq x y=some e→(Op.equalIn d elem (x.ae ρ π) (y.ae ρ π)).run P w=.ok (e.tt ρ) w):
  ∀ (m i:Nat) (e:X),sY eq tt elem n xs ys i m=some e→
   (forIn (List.range' i m) ((none:Option Bool),()) (fun j (_:Option Bool×Unit)=>
    (do
     let x ←part elem (V.af ρ π xs).toArray (j*n)
     let y ←part elem (V.af ρ π ys).toArray (j*n)
     let r ←Op.equalIn d elem x y
     if r=false then pure (ForInStep.done (some false,())) else pure (ForInStep.yield (none,())):Sem (ForInStep (Option Bool×Unit))))).run P w =
    .ok (if e.tt ρ then none else some false,()) w
 | 0,i,e,h=>by
  simp only [sY,Option.some.injEq] at h
  subst h
  simp [X.tt,X.den]
 | m+1,i,e,h=>by
  simp only [sY] at h
  split at h
  ·rename_i x y hx hy
   split at h
   ·rename_i e1 e2 h1 h2
    simp only [Option.some.injEq] at h
    subst h
    have ih:=y6 w ht eq d elem n xs ys heq m (i+1) e2 h2
    simp only [List.range'_succ,List.forIn_cons,Sem.run_bind,nD ht hx,nD ht hy,Result.andThen_ok,heq _ _ _ h1,Ic]
    cases he:e1.tt ρ with
    | true=>
     simp only [Bool.true_eq_false,if_false,Sem.run_pure,Result.andThen_ok,Bool.true_and]
     exact ih
    | false=>simp
   ·simp at h
  ·simp at h
set_option maxHeartbeats 2000000 in
theorem Ll(ht:mQ P tt)(w:World):∀ (n:Nat) (m:Nat) (t:TypeId) (x y:V) (e:X),n≤m→Dh tt n t x y=some e→
  (Op.equalIn m t (x.ae ρ π) (y.ae ρ π)).run P w=.ok (e.tt ρ) w
 | 0,_,_,_,_,_,_,h=>by simp [Dh] at h
 | n+1,0,_,_,_,_,hm,_=>by omega
 | n+1,m+1,t,x,y,e,hm,h=>by
  unfold Dh at h
  split at h
  ·simp at h
  ·rename_i td hd
   have hk:=ht t td hd
   have hu:=hk.under
   simp only at h
   split at h
   ·rename_i hdd
    simp only [Option.some.injEq] at h
    subst h
    rw [hdd] at hu
    simp [Op.equalIn,run_underlying hu,V.ae,z4]
   ·rename_i hdd
    rw [hdd] at hu
    split at h
    ·rename_i hk2
     simp only [Option.some.injEq] at h
     subst h
     simp [Op.equalIn,run_underlying hu,V.ae,eM,aX hk2]
    ·simp at h
   ·rename_i hdd
    simp only [Option.some.injEq] at h
    subst h
    rw [hdd] at hu
    simp [Op.equalIn,run_underlying hu,V.ae,oh]
    exact aas _ _
   ·rename_i hdd
    simp only [Option.some.injEq] at h
    subst h
    rw [hdd] at hu
    simp [Op.equalIn,run_underlying hu,V.ae,X.tt,X.den]
   ·rename_i hdd
    simp only [Option.some.injEq] at h
    subst h
    rw [hdd] at hu
    simp [Op.equalIn,run_underlying hu,V.ae,X.tt,X.den]
   ·rename_i hdd
    simp only [Option.some.injEq] at h
    subst h
    rw [hdd] at hu
    simp [Op.equalIn,run_underlying hu,V.ae,X.tt,X.den]
   ·rename_i hdd
    simp only [Option.some.injEq] at h
    subst h
    rw [hdd] at hu
    simp [Op.equalIn,run_underlying hu,V.ae,X.tt,X.den]
   ·rename_i hdd
    simp only [Option.some.injEq] at h
    subst h
    rw [hdd] at hu
    simp [Op.equalIn,run_underlying hu,V.ae,X.tt,X.den]
   ·rename_i fields xs ys hdd
    split at h
    ·rename_i hf
     rw [hdd] at hu
     have ha:td.agg=true:=by rw [hk.agg,hdd]
     obtain⟨_,hs,hn⟩:=hk.flat hf ha
     rw [hdd] at hn
     have:=wU (ρ:=ρ) (π:=π) w ht (Dh tt n) m xs ys (fun t x y e he=>Ll ht w n m t x y e (by omega) he) fields.toList e h hn
     unfold Op.equalIn
     simp only [V.ae,Sem.run_bind,run_underlying hu,Result.andThen_ok,program,Sem.run,hs,ne_eq,ite_not,Bool.not_eq_true',Bool.false_eq_true,if_false,Cc]
     rw [this]
     cases e.tt ρ<;>rfl
    ·simp at h
   ·rename_i len elem xs ys hdd
    split at h
    ·rename_i hf
     split at h
     ·rename_i ed he
      have hke:=ht elem ed he
      rw [hdd] at hu
      have:=y6 (ρ:=ρ) (π:=π) w ht (Dh tt n elem) m elem ed.size xs ys (fun x y e he=>Ll ht w n m elem x y e (by omega) he) len 0 e h
      unfold Op.equalIn
      simp only [V.ae,Sem.run_bind,run_underlying hu,Result.andThen_ok,hke.aO,ne_eq,ite_not,Bool.not_eq_true',Cc]
      simp only [Std.Legacy.Range.forIn_eq_forIn_range',Std.Legacy.Range.size,Nat.sub_zero,Nat.add_sub_cancel,Nat.div_one]
      rw [this]
      cases e.tt ρ<;>rfl
     ·simp at h
    ·simp at h
   all_goals first
    | (simp at h;done)
    |(rename_i hdd
      simp only [Option.some.injEq] at h
      subst h
      rw [hdd] at hu
      simp [Op.equalIn,run_underlying hu,V.ae,X.tt,X.den])
end eq
section ops
variable {P:Program} {cx:Cx} {ρ:Env} {π:Pl} {w:World} {tm:List V} {a:Act} {st st':St} {r:OR}
theorem aaW{op:BinOp}{x y:X}{t:TypeId}{p q:Operand}{ty:TypeId}{o:Oper}(c:Ctx P cx ρ π st.h w tm a)(hpc:av ρ st.pc)(ho:o.op=.binOp op t p q ty)
  (hx:a.eval p=(V.str x).ae ρ π) (hy:a.eval q=(V.str y).ae ρ π) (h:(Lb st op x y).ai ρ=some (r,st')):aD P cx tm ρ π st st' w ((execOp a.eval o).run P w) r:=by
 have hl:=cn.refl hpc
 unfold Lb at h
 split at h
 ·obtain⟨st1,hl1,h1⟩:=aU hpc h
  split at h1
  ·simp [R.ai] at h1
  ·rename_i hd
   obtain⟨st2,hl2,h2⟩:=aU hl1.pc h1
   split at h2
   ·simp [R.ai] at h2
   ·rename_i hd2
    have e1:=C4 ρ hd
    have e2:=C4 ρ hd2
    refine aD.value c.rep (hl1.trans hl2) h2 ?_
    have hs:¬((((⟨(x.bw ρ).toArray⟩:ByteArray).size+(⟨(y.bw ρ).toArray⟩:ByteArray).size:Nat):Int) > IntKind.i64.max):=by
     simp only [ByteArray.size,List.size_toArray,IntKind.max_i64]
     omega
    simp only [execOp,ho,hx,hy,V.ae,eqGuard_at_string,binOp,Op.stringOp,hs,if_false,rZ]
    simp only [Sem.run_pure,pure_bind]
    congr 3
 ·refine aD.value c.rep hl h ?_
  simp only [execOp,ho,hx,hy,V.ae,eqGuard_at_string,binOp,Op.stringOp,Df,oh]
  rfl
 ·refine aD.value c.rep hl h ?_
  simp only [execOp,ho,hx,hy,V.ae,eqGuard_at_string,binOp,Op.stringOp,Df,oh,mz]
  rfl
 ·simp [R.ai] at h
theorem Bq(t:TypeId)(p q:Operand)(x y:Value)(hg:P.eqGuardType P.depth t=false)(op:BinOp)(hx:∃ l,x=.agg l)(hy:∃ l,y=.agg l):
  (eqGuard op t p q x y).run P w=.ok () w:=by
 obtain⟨l,rfl⟩:=hx
 obtain⟨m,rfl⟩:=hy
 unfold eqGuard
 cases op<;>simp [program,Sem.run,hg]
theorem Xh{tt:T TD}{n:Nat}{t:TypeId}{xs:List V}{y:V}{e:X}(ht:mQ P tt) (h:Dh tt (n+1) t (.agg xs) y=some e):P.eqGuardType P.depth t=false∧∃ ys,y=.agg ys:=by
 unfold Dh at h
 split at h
 ·simp at h
 ·rename_i td hd
  have hk:=ht t td hd
  simp only at h
  cases y with
  | agg ys=>
   refine⟨?_,ys,rfl⟩
   split at h<;>first
    | contradiction
    |(rename_i hdd _ _
      split at h
      ·rename_i hf
       exact (hk.flat hf (by rw [hk.agg,hdd])).1
      ·simp at h)
    | (simp at h;done)
  | _=>cases htd:td.d<;>rw [htd] at h<;>simp at h
theorem O7{tt:T TD}{n:Nat}{t:TypeId}{y:V}{e:X} (h:Dh tt (n+1) t .niliface y=some e):∃ u v,y=.iface u v:=by
 unfold Dh at h
 split at h
 ·simp at h
 ·rename_i td hd
  simp only at h
  cases y with
  | iface u v=>exact⟨u,v,rfl⟩
  | _=>cases htd:td.d<;>rw [htd] at h<;>simp at h
theorem vd{tt:T TD}{n:Nat}{t:TypeId}{c:X}{a b y:V}{e:X} (h:Dh tt (n+1) t (.ite c a b) y=some e):False:=by
 unfold Dh at h
 split at h
 ·simp at h
 ·rename_i td hd
  simp only at h
  cases y<;>cases htd:td.d<;>rw [htd] at h<;>simp at h
theorem vc{tt:T TD}{n:Nat}{t:TypeId}{k:Nat}{y:V}{e:X} (h:Dh tt (n+1) t (.any k) y=some e):False:=by
 unfold Dh at h
 split at h
 ·simp at h
 ·rename_i td hd
  simp only at h
  cases y<;>cases htd:td.d<;>rw [htd] at h<;>simp at h
theorem eX{tt:T TD}{n:Nat}{t:TypeId}{x y:V}{e:X} (h:Dh tt (n+1) t x y=some e):y.isIte=false:=by
 unfold Dh at h
 split at h
 ·simp at h
 ·simp only at h
  split at h<;>first | rfl | (simp at h;done)
theorem ok_eq{op:BinOp}{x y:V}{t:TypeId}{p q:Operand}{ty:TypeId}{o:Oper}(c:Ctx P cx ρ π st.h w tm a)(hpc:av ρ st.pc)(ho:o.op=.binOp op t p q ty)
  (hx:a.eval p=x.ae ρ π) (hy:a.eval q=y.ae ρ π) (hni:∀ k u,x≠.int k u∨∀ j v,y≠.int j v) (hns:∀ u,x≠.str u∨∀ v,y≠.str v) (h:(Q9 cx st op t x y).ai ρ=some (r,st')):
  aD P cx tm ρ π st st' w ((execOp a.eval o).run P w) r:=by
 have hl:=cn.refl hpc
 unfold Q9 at h
 have key:∀ e,Dh cx.tt 100 t x y=some e→(op=.eql∨op=.neq)→(execOp a.eval o).run P w=.ok (.value (.bool (if op=.eql then e.tt ρ else !e.tt ρ))) w:=by
  intro e he hop
  have h1:=Ll (ρ:=ρ) (π:=π) c.tt w 100 Op.maxDepth t x y e (by decide) he
  have hg:(eqGuard op t p q (x.ae ρ π) (y.ae ρ π)).run P w=.ok () w:=by
   cases x
   case agg xs=>
    obtain⟨hg,ys,rfl⟩:=Xh c.tt he
    exact Bq t p q _ _ hg op ⟨_,rfl⟩ ⟨_,rfl⟩
   case niliface=>
    obtain⟨u,v,rfl⟩:=O7 he
    simp only [V.ae,eqGuard_nil_iface]
    rfl
   case ite=>exact (vd he).elim
   case any=>exact (vc he).elim
   all_goals (cases op<;>simp [eqGuard,V.ae])
  have hb:(binOp op t (x.ae ρ π) (y.ae ρ π)).run P w=.ok (.bool (if op=.eql then e.tt ρ else !e.tt ρ)) w:=by
   rcases hop with rfl | rfl
   ·cases x
    case int k u=>
     cases y
     case int j v=>exact absurd rfl ((hni k u).resolve_left (fun h=>h rfl) j v)
     case ite=>exact absurd (eX he) (by simp [V.isIte])
     case any=>exact absurd (eX he) (by simp [V.isIte])
     all_goals (simp only [V.ae] at h1;simp [binOp,V.ae,Op.equal,h1])
    case str u=>
     cases y
     case str v=>exact absurd rfl ((hns u).resolve_left (fun h=>h rfl) v)
     case ite=>exact absurd (eX he) (by simp [V.isIte])
     case any=>exact absurd (eX he) (by simp [V.isIte])
     all_goals (simp only [V.ae] at h1;simp [binOp,V.ae,Op.equal,h1])
    case ite=>exact (vd he).elim
    case any=>exact (vc he).elim
    all_goals (simp only [V.ae] at h1;simp [binOp,V.ae,Op.equal,h1])
   ·cases x
    case int k u=>
     cases y
     case int j v=>exact absurd rfl ((hni k u).resolve_left (fun h=>h rfl) j v)
     case ite=>exact absurd (eX he) (by simp [V.isIte])
     case any=>exact absurd (eX he) (by simp [V.isIte])
     all_goals (simp only [V.ae] at h1;simp [binOp,V.ae,Op.equal,h1])
    case str u=>
     cases y
     case str v=>exact absurd rfl ((hns u).resolve_left (fun h=>h rfl) v)
     case ite=>exact absurd (eX he) (by simp [V.isIte])
     case any=>exact absurd (eX he) (by simp [V.isIte])
     all_goals (simp only [V.ae] at h1;simp [binOp,V.ae,Op.equal,h1])
    case ite=>exact (vd he).elim
    case any=>exact (vc he).elim
    all_goals (simp only [V.ae] at h1;simp [binOp,V.ae,Op.equal,h1])
  simp only [execOp,ho,hx,hy,Sem.run_bind,hg,hb,Result.andThen_ok,Sem.run_pure]
 split at h
 ·rename_i e he
  exact aD.value c.rep hl h (by rw [key e he (.inl rfl)];simp [V.ae])
 ·rename_i e he
  exact aD.value c.rep hl h (by rw [key e he (.inr rfl)];simp [V.ae,mz])
 ·simp [R.ai] at h
end ops
end Go.Proofs.YtmickljjofbmiaaGreatDoor
namespace Go.Proofs.YtmickljjofbmiaaGreatDoor
open Go
section
variable {P:Program} {ρ:Env} {π:Pl} {h:H} {w:World}
theorem Ch{pc:PC}{i j:X}{b:Bool}(hp:av ρ pc)(h:MB pc i j=some b):(i.den ρ==j.den ρ)=b:=by
 unfold MB at h
 split at h
 ·rename_i he
  rw [←Option.some.inj h,X.beq_eq he]
  simp
 ·have:=u5 hp h
  rwa [dR] at this
theorem A.yc{pc:PC}(hp:av ρ pc)(k:CK)(c:Nat)(i:X):∀ a:A,(a.get pc k c i).den ρ=a.den ρ k c (i.den ρ)
 | .base t=>by cases k<;>rfl
 | .fill x=>rfl
 | .put a j c' x=>by
  unfold A.get A.den
  split
  ·rename_i hc
   have hc':=Nat.eq_of_beq_eq_true hc
   split
   ·rename_i hs
    have:=beq_iff_eq.1 (Ch hp hs)
    rw [if_pos ⟨hc',this⟩]
   ·rename_i hs
    have:=beq_eq_false_iff_ne.1 (Ch hp hs)
    rw [if_neg fun e=>this e.2]
    exact A.yc hp k c i a
   ·rw [gd,dR,A.yc hp k c i a]
    by_cases e:i.den ρ=j.den ρ
    ·rw [if_pos (beq_iff_eq.2 e),if_pos ⟨hc',e⟩]
    ·rw [if_neg (fun q=>e (beq_iff_eq.1 q)),if_neg fun q=>e q.2]
  ·rename_i hc
   rw [if_neg fun e=>by rw [e.1,Nat.beq_refl] at hc;cases hc]
   exact A.yc hp k c i a
theorem CK.OW(k:CK)(x:X):(k.cell x).ae ρ π=k.val (x.den ρ):=by cases k<;>rfl
theorem A.BS{pc:PC}(hp:av ρ pc)(a:A)(i:X):∀ (ks:List CK) (c j:Nat),(V.af ρ π (a.cells pc i c ks))[j]?=(ks[j]?).map fun k=>k.val (a.den ρ k (c+j) (i.den ρ))
 | [],c,j=>by simp [A.cells,V.af]
 | k::ks,c,0=>by simp [A.cells,V.af,CK.OW,A.yc hp]
 | k::ks,c,j+1=>by
  have:=A.BS hp a i ks (c+1) j
  simp only [A.cells,V.af,List.getElem?_cons_succ,this]
  rw [show c+1+j=c+(j+1) by omega]
theorem A.uh{pc:PC}(a:A)(i:X):∀ (ks:List CK) (c:Nat),(a.cells pc i c ks).length=ks.length
 | [],_=>rfl
 | _::ks,c=>by simp [A.cells,A.uh a i ks (c+1)]
theorem Fi(hr:dD ρ π h w){wd:Bool}{b:Nat}{a:A}{ks:List CK}{L:X} (hb:AW h wd b=some (a,ks,L)):
  ∃ (cs:Array Value) (t:TypeId) (fr:Nat×Nat) (o:Nat),w.heap[(π b).1]?=some (.cells cs t fr)∧(∀ n,cR ρ π wd b n=⟨(π b).1,o+n,none⟩)∧jA ρ a ks (L.den ρ).toNat fun j=>cs[o+j]?:=by
 unfold AW at hb
 split at hb
 ·rename_i hg
  split at hb
  ·obtain⟨rfl,rfl,rfl⟩:_∧_∧_:=by simpa only [Option.some.injEq,Prod.mk.injEq] using hb
   obtain⟨ob,h1,cs,rfl,h2,h3,h4⟩:=hr.obj b _ hg
   exact⟨_,_,_,0,h1,fun n=>by simp [cR],fun j c k hj hk=>by simpa using h4 j c k hj hk⟩
  ·cases hb
 ·rename_i hg
  split at hb
  ·obtain⟨rfl,rfl,rfl⟩:_∧_∧_:=by simpa only [Option.some.injEq,Prod.mk.injEq] using hb
   obtain⟨ob,h1,⟨h2,h3,cs,t,fr,rfl,h4⟩,_⟩:=hr.obj b _ hg
   exact⟨_,_,_,(ρ.win b).off,h1,fun n=>by simp only [cR,if_true];rw [add_plain h2,h3],h4⟩
  ·cases hb
 ·cases hb
theorem Kx(hr:dD ρ π h w){pc:PC}(hp:av ρ pc){wd:Bool}{b:Nat}{a:A}{ks ks':List CK}{L i:X}{c n:Nat} (hb:AW h wd b=some (a,ks,L)) (h0:0≤i.den ρ) (hi:i.den ρ<L.den ρ)
  (ht:takeN n (iO ks c)=some ks') (j:Nat) (hj:j<n):w.cell? (cR ρ π wd b ((i.den ρ).toNat*ks.length+c+j))=(V.af ρ π (a.cells pc i c ks'))[j]?:=by
 obtain⟨cs,t,fr,o,h1,h2,h3⟩:=Fi hr hb
 obtain⟨e1,e2,e3⟩:=cz _ _ _ ht
 rw [cN] at e1 e3
 simp only [List.length_drop] at e3
 have hk:ks[c+j]?=ks'[j]?:=by
  rw [←e1,List.getElem?_take,if_pos hj,List.getElem?_drop]
 have hlt:c+j<ks.length:=by omega
 rw [A.BS hp,←hk,List.getElem?_eq_getElem hlt,h2,cell_of_row w _ _ _ _ _ h1]
 have:=h3 (i.den ρ).toNat (c+j) ks[c+j] (by omega) (List.getElem?_eq_getElem hlt)
 dsimp only at this
 rw [Nat.add_assoc ((i.den ρ).toNat*ks.length)]
 rw [this,Int.toNat_of_nonneg h0]
 rfl
theorem gl(wd:Bool)(b m n:Nat):(cR ρ π wd b m).add n=cR ρ π wd b (m+n):=by
 unfold cR
 cases wd
 ·simp only [Bool.false_eq_true,if_false,b9]
 ·simp only [if_true,add_add]
theorem Tc(hr:dD ρ π h w){pc:PC}(hp:av ρ pc){wd:Bool}{b:Nat}{a:A}{ks ks':List CK}{L i:X}{c n:Nat} (hb:AW h wd b=some (a,ks,L)) (h0:0≤i.den ρ) (hi:i.den ρ<L.den ρ)
  (ht:takeN n (iO ks c)=some ks'):(loadCells (cR ρ π wd b ((i.den ρ).toNat*ks.length+c)) n).run P w=.ok (V.af ρ π (a.cells pc i c ks')).toArray w:=by
 have hl:(V.af ρ π (a.cells pc i c ks')).length=n:=by rw [ay,A.uh];exact (cz _ _ _ ht).2.1
 have:=run_loadCells_list (P:=P) w (cR ρ π wd b ((i.den ρ).toNat*ks.length+c)) (V.af ρ π (a.cells pc i c ks')) fun j v hv=>by
  rw [gl,Kx hr hp hb h0 hi ht j (by rw [←hl];exact (List.getElem?_eq_some_iff.1 hv).1)]
  exact hv
 rwa [hl] at this
theorem eU(a b:X):(mR a b).den ρ=a.den ρ+b.den ρ:=by
 unfold mR
 split
 ·rename_i hz
  rw [fC ρ hz,Int.zero_add]
 ·split
  ·rename_i m hm
   split
   ·rename_i n hn
    simp only [X.den,eL (ρ:=ρ) m hm,eL (ρ:=ρ) n hn]
   ·rfl
  ·split
   ·rename_i hz
    rw [fC ρ hz,Int.add_zero]
   ·rfl
theorem A1(a b:X):(MM a b).den ρ=a.den ρ-b.den ρ:=by
 unfold MM
 split
 ·rename_i hz
  rw [fC ρ hz,Int.sub_zero]
 ·split
  ·rename_i m hm
   split
   ·rename_i n hn
    simp only [X.den,eL (ρ:=ρ) m hm,eL (ρ:=ρ) n hn]
   ·rfl
  ·rfl
theorem bW{st st':St}{x:X}{k:St→cq}{r:OR}(hp:av ρ st.pc) (h:(gS st x k).ai ρ=some (r,st')):∃ st1,cn ρ st st1∧x.tt ρ=true∧(k st1).ai ρ=some (r,st'):=by
 obtain⟨st1,hl,h1⟩:=aU hp h
 cases hx:x.tt ρ with
 | true=>
  rw [hx] at h1
  exact⟨st1,hl,rfl,h1⟩
 | false=>
  rw [hx] at h1
  simp [R.ai] at h1
theorem lx{i:X}:∀ {ks:List CK} {vs:List V} {c:Nat} {a a':A},dB i c ks vs a=some a'→vs.length=ks.length ∧
  (∀ (c':Nat) (k:CK) (j:Int),(j≠i.den ρ∨c'<c∨c+ks.length≤c')→a'.den ρ k c' j=a.den ρ k c' j) ∧
  ∀ (m:Nat) (k:CK),ks[m]?=some k→(V.af ρ π vs)[m]?=some (k.val (a'.den ρ k (c+m) (i.den ρ)))
 | [],[],c,a,a',h=>by
  obtain rfl:=Option.some.inj (show some a=some a' from h)
  exact⟨rfl,fun _ _ _ _=>rfl,fun m k hk=>by simp at hk⟩
 | [],_::_,c,a,a',h=>by simp [dB] at h
 | _::_,[],c,a,a',h=>by simp [dB] at h
 | k::ks,v::vs,c,a,a',h=>by
  have key:∀ x:X,v.ae ρ π=k.val (x.den ρ)→dB i (c+1) ks vs (.put a i c x)=some a'→(v::vs).length=(k::ks).length ∧
    (∀ (c':Nat) (k':CK) (j:Int),(j≠i.den ρ∨c'<c∨c+(k::ks).length≤c')→a'.den ρ k' c' j=a.den ρ k' c' j) ∧
    ∀ (m:Nat) (k':CK),(k::ks)[m]?=some k'→(V.af ρ π (v::vs))[m]?=some (k'.val (a'.den ρ k' (c+m) (i.den ρ))):=by
   intro x hx hput
   obtain⟨h1,h2,h3⟩:=lx hput
   refine⟨by simp [h1],fun c' k' j hc=>?_,fun m k' hk=>?_⟩
   ·rw [h2 c' k' j (by simp only [List.length_cons] at hc;omega),A.den,if_neg]
    rintro ⟨e1,e2⟩
    simp only [List.length_cons] at hc
    omega
   ·cases m with
    | zero=>
     obtain rfl:=Option.some.inj (show some k=some k' from by simpa using hk)
     rw [Nat.add_zero,h2 c k (i.den ρ) (by omega),A.den,if_pos ⟨rfl,rfl⟩]
     simp [V.af,hx]
    | succ m=>
     rw [show c+(m+1)=c+1+m by omega]
     simpa [V.af] using h3 m k' (by simpa using hk)
  unfold dB at h
  split at h
  ·split at h
   ·rename_i hk
    obtain rfl:=aX hk
    exact key _ rfl h
   ·cases h
  ·exact key _ rfl h
  ·cases h
theorem jM{i:X}:∀ {ks:List CK} {vs:List V} {c:Nat} {a a':A},dB i c ks vs a=some a'→∀ v∈vs,v.one=true
 | [],[],c,a,a',h,v,hv=>by simp at hv
 | [],_::_,c,a,a',h,_,_=>by simp [dB] at h
 | _::_,[],c,a,a',h,_,hv=>by simp at hv
 | k::ks,u::vs,c,a,a',h,v,hv=>by
  unfold dB at h
  split at h
  ·split at h
   ·rcases List.mem_cons.1 hv with rfl | hv
    ·rfl
    ·exact jM h v hv
   ·cases h
  ·rcases List.mem_cons.1 hv with rfl | hv
   ·rfl
   ·exact jM h v hv
  ·cases h
theorem lJ(w:World){B off:Nat}{cs:List Value}{e:TypeId}{vs:List Value} (h1:w.heap[B]?=some (.cells cs.toArray e (0,0))) (hl:off+vs.length≤cs.length) (hone:∀ v∈vs,v.oneCell'=true):
  (storeCells ⟨B,off,none⟩ vs).run P w=.ok () {w with heap:=w.heap.setIfInBounds B (.cells (cs.take off++vs++cs.drop (off+vs.length)).toArray e (0,0))}:=by
 have hst:=run_storeCells_at (P:=P) B off e vs 0 _ w h1 (by simpa using hl) hone
 have hlt:B<w.heap.size:=(Array.getElem?_eq_some_iff.1 h1).1
 rw [show w.setRow B (List.take (off+0) cs.toArray.toList++vs++List.drop (off+0+vs.length) cs.toArray.toList).toArray={w with heap:=w.heap.setIfInBounds B (.cells (cs.take off++vs++cs.drop (off+vs.length)).toArray e (0,0))} from ?_] at hst
 ·simpa using hst
 ·unfold World.setRow
  congr 1
  apply Array.ext_getElem?
  intro j
  simp only [Array.getElem?_modify,Array.getElem?_setIfInBounds]
  by_cases ej:B=j
  ·subst ej
   simp only [if_true,h1,hlt,Option.map_some,Nat.add_zero]
  ·simp [ej]
theorem oR{α:Type}(cs vs:List α)(off j:Nat)(hl:off+vs.length≤cs.length):(cs.take off++vs++cs.drop (off+vs.length))[j]?=if off≤j∧j<off+vs.length then vs[j-off]? else cs[j]?:=by
 rw [List.append_assoc]
 by_cases h1:j<off
 ·rw [if_neg (by omega),List.getElem?_append_left (by simp;omega),List.getElem?_take,if_pos h1]
 ·rw [List.getElem?_append_right (by simp;omega)]
  simp only [List.length_take,Nat.min_eq_left (show off≤cs.length by omega)]
  by_cases h2:j<off+vs.length
  ·rw [if_pos ⟨by omega,h2⟩,List.getElem?_append_left (by omega)]
  ·rw [if_neg (by omega),List.getElem?_append_right (by omega),List.getElem?_drop]
   congr 1
   omega
theorem Qc{a a':A}{ks ks':List CK}{i:X}{c n N:Nat}{cs:List Value}{vs:List V} (hr:jA ρ a ks N fun j=>cs[j]?) (ht:takeN n (iO ks c)=some ks') (hp:dB i c ks' vs a=some a') (h0:0≤i.den ρ)
  (hl:(i.den ρ).toNat*ks.length+c+vs.length≤cs.length):
  jA ρ a' ks N fun j=>(cs.take ((i.den ρ).toNat*ks.length+c)++V.af ρ π vs++cs.drop ((i.den ρ).toNat*ks.length+c+(V.af ρ π vs).length))[j]?:=by
 obtain⟨h1,h2,h3⟩:=lx (ρ:=ρ) (π:=π) hp
 obtain⟨e1,e2,e3⟩:=cz _ _ _ ht
 rw [cN] at e1 e3
 simp only [List.length_drop] at e3
 intro j q k hj hk
 have hq:q<ks.length:=(List.getElem?_eq_some_iff.1 hk).1
 dsimp only
 rw [oR _ _ _ _ (by rw [ay];exact hl),ay]
 have hvl:vs.length=n:=by omega
 by_cases hin:(i.den ρ).toNat*ks.length+c≤j*ks.length+q∧j*ks.length+q<(i.den ρ).toNat*ks.length+c+vs.length
 ·rw [if_pos hin]
  have hji:j=(i.den ρ).toNat:=by
   rcases Nat.lt_trichotomy j (i.den ρ).toNat with hlt | he | hgt
   ·have:(j+1)*ks.length≤(i.den ρ).toNat*ks.length:=Nat.mul_le_mul_right _ hlt
    rw [Nat.add_mul] at this
    omega
   ·exact he
   ·have:((i.den ρ).toNat+1)*ks.length≤j*ks.length:=Nat.mul_le_mul_right _ hgt
    rw [Nat.add_mul] at this
    omega
  subst hji
  rw [show (i.den ρ).toNat*ks.length+q-((i.den ρ).toNat*ks.length+c)=q-c by omega]
  have hk':ks'[q-c]?=some k:=by
   rw [←e1,List.getElem?_take,if_pos (by omega),List.getElem?_drop,show c+(q-c)=q by omega]
   exact hk
  have:=h3 (q-c) k hk'
  rw [show c+(q-c)=q by omega] at this
  rw [this,Int.toNat_of_nonneg h0]
 ·rw [if_neg hin,h2 q k j ?_]
  ·exact hr j q k hj hk
  ·by_cases e:(j:Int)=i.den ρ
   ·right
    have:j=(i.den ρ).toNat:=by omega
    subst this
    omega
   ·exact .inl e
theorem Dz(hr:dD ρ π h w){b:Nat}{a:A}{ks:List CK}{L:X}{e:TypeId}{wd:Bool} (hb:h.get b=some (.arr a ks L e wd)):
  ∃ cs:List Value,w.heap[(π b).1]?=some (.cells cs.toArray e (0,0))∧(L.den ρ).toNat*ks.length≤cs.length∧(wd=true→cs.length=(π b).2*ks.length)∧jA ρ a ks (L.den ρ).toNat fun j=>cs[j]?:=by
 obtain⟨ob,h1,cs,rfl,h2,h3,h4⟩:=hr.obj b _ hb
 exact⟨cs,h1,h2,h3,h4⟩
theorem Qd(hr:dD ρ π h w){b:Nat}{a a':A}{ks ks':List CK}{L i:X}{e:TypeId}{wd:Bool}{c n:Nat}{vs:List V} (hb:h.get b=some (.arr a ks L e wd)) (h0:0≤i.den ρ) (hi:i.den ρ<L.den ρ)
  (hck:c≤ks.length) (ht:takeN n (iO ks c)=some ks') (hp:dB i c ks' vs a=some a') (m:Nat):
  ∃ w',(storeCells (cR ρ π false b ((i.den ρ).toNat*ks.length+c)) (V.af ρ π vs)).run P w=.ok () w'∧Mv ρ π h m w (h.set b (.arr a' ks L e wd)) m w':=by
 obtain⟨cs,h1,h2,h3,h4⟩:=Dz hr hb
 obtain⟨e1,e2,e3⟩:=cz _ _ _ ht
 rw [cN] at e3
 simp only [List.length_drop] at e3
 have hvl:=(lx (ρ:=ρ) (π:=π) hp).1
 have hle:(i.den ρ).toNat*ks.length+ks.length≤(L.den ρ).toNat*ks.length:=by
  have:((i.den ρ).toNat+1)*ks.length≤(L.den ρ).toNat*ks.length:=Nat.mul_le_mul_right _ (by omega)
  rw [Nat.add_mul] at this
  omega
 have hlen:(i.den ρ).toNat*ks.length+c+vs.length≤cs.length:=by omega
 refine⟨_,lJ w h1 (by rw [ay];exact hlen) fun v hv=>?_,?_⟩
 ·rw [bC] at hv
  obtain⟨u,hu,rfl⟩:=List.mem_map.1 hv
  exact tJ ρ π u (jM hp u hu)
 ·refine Mv.MQ hr m (o':=.arr a' ks L e wd) hb ⟨_,rfl,?_,fun hw=>?_,Qc h4 ht hp h0 hlen⟩ rfl
  ·simp only [List.length_append,List.length_take,List.length_drop,ay]
   omega
  ·have:=h3 hw
   simp only [List.length_append,List.length_take,List.length_drop,ay]
   omega
end
section ops
variable {P:Program} {cx:Cx} {ρ:Env} {π:Pl} {w:World} {tm:List V} {a:Act} {st st':St} {r:OR} {o:Oper}
theorem SF{t:TypeId}{td:TD}{p:Operand}{wd:Bool}{b:Nat}{i:X}{es cc:Nat}(c:Ctx P cx ρ π st.h w tm a)(hpc:av ρ st.pc)(ho:o.op=.load t p)(hk:gP P t td) (hx:a.eval p=(V.xptr wd b i es cc).ae ρ π)
  (h:(Dl st td wd b i es cc).ai ρ=some (r,st')):aD P cx tm ρ π st st' w ((execOp a.eval o).run P w) r:=by
 unfold Dl at h
 split at h
 ·rename_i a0 ks L hrow
  split at h
  ·rename_i he h0 hi
   obtain rfl:=Nat.eq_of_beq_eq_true he
   have h0':0≤i.den ρ:=dJ hpc h0
   have hi':=rX hpc hi
   split at h
   ·rename_i ks' htk
    dsimp only at h
    have hload:=Tc (P:=P) c.rep hpc hrow h0' hi' htk
    split at h
    ·rename_i ha
     refine aD.value c.rep (cn.refl hpc) h ?_
     simp [execOp,ho,hx,Instr.loadAt,Instr.sureAddr,V.ae,loadVar,hk.pz,ha,hk.aO,hload]
    ·rename_i ha
     split at h
     ·rename_i v hv
      refine aD.value c.rep (cn.refl hpc) h ?_
      have hs:td.size=1:=by
       have:=congrArg List.length hv
       rw [A.uh,(cz _ _ _ htk).2.1] at this
       exact this
      have hcell:=Kx c.rep hpc hrow h0' hi' htk 0 (by omega)
      rw [hv] at hcell
      simp only [Nat.add_zero,V.af,List.getElem?_cons_zero] at hcell
      simp [execOp,ho,hx,Instr.loadAt,Instr.sureAddr,V.ae,loadVar,hk.pz,ha,run_load,hcell]
     ·simp [R.ai] at h
   ·simp [R.ai] at h
  ·simp [R.ai] at h
 ·simp [R.ai] at h
theorem PU{t:TypeId}{td:TD}{p q:Operand}{wd:Bool}{b:Nat}{i:X}{es cc:Nat}{v:V}(c:Ctx P cx ρ π st.h w tm a)(hpc:av ρ st.pc)(ho:o.op=.store t p q)(hk:gP P t td) (hx:a.eval p=(V.xptr wd b i es cc).ae ρ π)
  (hy:a.eval q=v.ae ρ π) (hi0:v.isIte=false) (h:(FC st td wd b i es cc v).ai ρ=some (r,st')):aD P cx tm ρ π st st' w ((execOp a.eval o).run P w) r:=by
 unfold FC at h
 split at h
 ·rename_i a0 ks L e wd' hrow
  split at h
  ·rename_i he h0 hi hs
   rw [Bool.and_eq_true] at he
   obtain rfl:=Nat.eq_of_beq_eq_true he.1
   have hck:=Nat.le_of_ble_eq_true he.2
   have hs':=Nat.eq_of_beq_eq_true hs
   split at h
   ·rename_i ks' htk
    split at h
    ·rename_i a' hp
     simp only [R.ai,Option.some.injEq,Prod.mk.injEq] at h
     obtain⟨rfl,rfl⟩:=h
     obtain⟨w',h1,h2⟩:=Qd (P:=P) c.rep hrow (dJ hpc h0) (rX hpc hi) hck htk hp st.n
     refine⟨hpc,Nat.le_refl _,fun _=>⟨w',?_,h2⟩⟩
     have e:(v.ae ρ π).cells.size=td.size:=by rw [←hs',←ay ρ π,←dT _ _ _ hi0,Array.length_toList]
     simp [execOp,ho,hx,hy,Instr.storeAt,Instr.sureAddr,V.ae,storeVar,hk.aO,e,dT _ _ _ hi0,h1]
    ·simp [R.ai] at h
   ·simp [R.ai] at h
  ·simp [R.ai] at h
 ·simp [R.ai] at h
theorem Bv{t elem:TypeId}{ed:TD}{p q:Operand}{k:IntKind}{wd:Bool}{b:Nat}{off len i:X}{es:Nat}{cap:XC}(c:Ctx P cx ρ π st.h w tm a)(hpc:av ρ st.pc)(ho:o.op=.indexAddr t p q)
  (hu:P.underlying t=some (.slice elem)) (hke:gP P elem ed) (hx:a.eval p=(V.xslice wd b off es len cap).ae ρ π) (hy:a.eval q=(V.int k i).ae ρ π)
  (h:(nT st wd b off es len i ed.size).ai ρ=some (r,st')):aD P cx tm ρ π st st' w ((execOp a.eval o).run P w) r:=by
 unfold nT at h
 split at h
 ·rename_i he hoff
  obtain rfl:=Nat.eq_of_beq_eq_true he
  have hoff':0≤off.den ρ:=dJ hpc hoff
  obtain⟨st1,hl1,hx1,h1⟩:=bW hpc h
  obtain⟨st2,hl2,hx2,h2⟩:=bW hl1.pc h1
  rw [di] at hx1
  rw [lq] at hx2
  have h0:0≤i.den ρ:=of_decide_eq_true hx1
  have h3:=of_decide_eq_true hx2
  refine aD.value c.rep (hl1.trans hl2) h2 ?_
  obtain⟨n,hn⟩:=Int.eq_ofNat_of_zero_le h0
  have hn2:n<(len.den ρ).toNat:=by omega
  have e:(off.den ρ+i.den ρ).toNat*ed.size=(off.den ρ).toNat*ed.size+n*ed.size:=by rw [←Nat.add_mul];congr 1;omega
  simp only [execOp,ho,hx,hy,V.ae,hn,Instr.indexAt,Sem.run_bind,asIntOf,Sem.run_pure,Result.andThen_ok,run_underlying hu,eU]
  rw [hn] at e
  simp [hke.aO,gl,e]
  intro hm
  exfalso
  rw [Int.max_def] at hm
  split at hm<;>omega
 ·simp [R.ai] at h
theorem fk{k:IntKind}{i:Int}{y:Nat}{code:BoundsCode}(h0:0≤i) (h1:i≤(y:Int)) (w:World):(Instr.sliceBound (.int k i) y code).run P w=.ok i.toNat w:=by
 simp [Instr.sliceBound,asIntOf,h0,h1]
theorem ml{v:Option V}{d x:X}(h:lS v d=some x):(v=none∧x=d)∨∃ k,v=some (.int k x):=by
 unfold lS at h
 split at h
 ·exact .inl ⟨rfl,(Option.some.inj h).symm⟩
 ·split at h
  ·rename_i k y
   obtain rfl:=Option.some.inj h
   exact .inr ⟨k,rfl⟩
  ·cases h
theorem FD{len l h:X}{cap:Nat}{lo hi:Option V} (el:lS lo (.lit 0)=some l) (eh:lS hi len=some h) (h0:0≤l.den ρ) (h1:l.den ρ≤h.den ρ) (h2:(h.den ρ).toNat≤cap) (w:World):
  (Instr.sliceBounds true (len.den ρ).toNat cap (lo.map (V.ae ρ π)) (hi.map (V.ae ρ π)) none).run P w=.ok ((l.den ρ).toNat,(h.den ρ).toNat,cap) w:=by
 have e1:∀ {k code},(Instr.sliceBound (.int k (l.den ρ)) (h.den ρ).toNat code).run P w=.ok (l.den ρ).toNat w:=fk h0 (by omega) w
 have e2:∀ {k code},(Instr.sliceBound (.int k (h.den ρ)) cap code).run P w=.ok (h.den ρ).toNat w:=fk (by omega) (by omega) w
 rcases ml el with ⟨rfl,rfl⟩ | ⟨k1,rfl⟩<;>rcases ml eh with ⟨rfl,rfl⟩ | ⟨k2,rfl⟩<;>simp [Instr.sliceBounds,V.ae,e1,e2,X.den]
theorem KY{len l h m:X}{cap:Nat}{lo:Option V}{vh vm:V} (el:lS lo (.lit 0)=some l) (eh:lS (some vh) len=some h) (em:lS (some vm) len=some m) (h0:0≤l.den ρ) (h1:l.den ρ≤h.den ρ) (h2:h.den ρ≤m.den ρ) (h3:(m.den ρ).toNat≤cap) (w:World):
  (Instr.sliceBounds true (len.den ρ).toNat cap (lo.map (V.ae ρ π)) ((some vh).map (V.ae ρ π)) ((some vm).map (V.ae ρ π))).run P w=.ok ((l.den ρ).toNat,(h.den ρ).toNat,(m.den ρ).toNat) w:=by
 have e1:∀ {k code},(Instr.sliceBound (.int k (l.den ρ)) (h.den ρ).toNat code).run P w=.ok (l.den ρ).toNat w:=fk h0 (by omega) w
 have e2:∀ {k code},(Instr.sliceBound (.int k (h.den ρ)) (m.den ρ).toNat code).run P w=.ok (h.den ρ).toNat w:=fk (by omega) (by omega) w
 have e3:∀ {k code},(Instr.sliceBound (.int k (m.den ρ)) cap code).run P w=.ok (m.den ρ).toNat w:=fk (by omega) (by omega) w
 rcases ml eh with ⟨hn,_⟩ | ⟨k2,hk2⟩
 ·cases hn
 rcases ml em with ⟨hn,_⟩ | ⟨k3,hk3⟩
 ·cases hn
 obtain rfl:=Option.some.inj hk2
 obtain rfl:=Option.some.inj hk3
 rcases ml el with ⟨rfl,rfl⟩ | ⟨k1,rfl⟩<;>simp [Instr.sliceBounds,V.ae,e1,e2,e3,X.den]
theorem PT{t:TypeId}{p:Operand}{lo hi mx:Option Operand}{vlo vhi vmx:Option V}{wd:Bool}{b:Nat}{off len:X}{es:Nat}{cap:XC}(c:Ctx P cx ρ π st.h w tm a)(hpc:av ρ st.pc)(ho:o.op=.slice t p lo hi mx)
  (hx:a.eval p=(V.xslice wd b off es len cap).ae ρ π) (hlo:lo.map a.eval=vlo.map (V.ae ρ π)) (hhi:hi.map a.eval=vhi.map (V.ae ρ π)) (hmx:mx.map a.eval=vmx.map (V.ae ρ π))
  (h:(FB cx st t wd b off es len cap vlo vhi vmx).ai ρ=some (r,st')):aD P cx tm ρ π st st' w ((execOp a.eval o).run P w) r:=by
 have key:∀ u:Value,(Instr.sliceAt t ((V.xslice wd b off es len cap).ae ρ π) (vlo.map (V.ae ρ π)) (vhi.map (V.ae ρ π)) (vmx.map (V.ae ρ π))).run P w=.ok u w→(execOp a.eval o).run P w=.ok (.value u) w:=by
  intro u hu
  simp only [execOp,ho,hx,hlo,hhi,hmx,Sem.run_bind,hu,Result.andThen_ok,Sem.run_pure]
 unfold FB at h
 split at h
 ·rename_i td hd
  have hk:=c.tt t td hd
  have hu:=hk.under
  split at h
  ·rename_i elem hdd
   rw [hdd] at hu
   split at h
   ·rename_i ed hed
    have hke:=c.tt elem ed hed
    split at h
    ·rename_i l hh he hoff el eh
     obtain rfl:=Nat.eq_of_beq_eq_true he
     have hoff':0≤off.den ρ:=dJ hpc hoff
     obtain⟨st1,hl1,hx1,h1⟩:=bW hpc h
     obtain⟨st2,hl2,hx2,h2⟩:=bW hl1.pc h1
     obtain⟨st3,hl3,hx3,h3⟩:=bW hl2.pc h2
     rw [di] at hx1 hx2 hx3
     have b1:0≤len.den ρ:=of_decide_eq_true hx1
     have b2:0≤l.den ρ:=of_decide_eq_true hx2
     have b3:=of_decide_eq_true hx3
     have hl:=(hl1.trans hl2).trans hl3
     -- a part, its room told
     have part:∀ (st4:St) (m:X) (M:Nat),cn ρ st3 st4→M=(m.den ρ).toNat→hh.den ρ≤m.den ρ→(∀ w,(Instr.sliceBounds true (len.den ρ).toNat (cap.ae ρ π b (off.den ρ).toNat) (vlo.map (V.ae ρ π)) (vhi.map (V.ae ρ π)) (vmx.map (V.ae ρ π))).run P w=.ok ((l.den ρ).toNat,(hh.den ρ).toNat,M) w)→
       (IC st4 wd b off ed.size l hh m).ai ρ=some (r,st')→aD P cx tm ρ π st st' w ((execOp a.eval o).run P w) r:=by
      intro st4 m M hl4 hM hle hb h4
      subst hM
      unfold IC at h4
      obtain⟨st5,hl5,h5⟩:=aU hl4.pc h4
      rw [eM] at h5
      have hrun:(Instr.sliceAt t ((V.xslice wd b off ed.size len cap).ae ρ π) (vlo.map (V.ae ρ π)) (vhi.map (V.ae ρ π)) (vmx.map (V.ae ρ π))).run P w =
        .ok (.slice (if (m.den ρ).toNat=(l.den ρ).toNat then some (cR ρ π wd b ((off.den ρ).toNat*ed.size)) else some ((cR ρ π wd b ((off.den ρ).toNat*ed.size)).add ((l.den ρ).toNat*ed.size))) ((hh.den ρ).toNat-(l.den ρ).toNat) ((m.den ρ).toNat-(l.den ρ).toNat)) w:=by
       simp only [Instr.sliceAt,Instr.slice,Sem.run_bind,run_underlying hu,Result.andThen_ok,V.ae,hb,hke.aO,Sem.run_pure]
       split<;>rfl
      have e1:((hh.den ρ)-(l.den ρ)).toNat=(hh.den ρ).toNat-(l.den ρ).toNat:=by omega
      have e2:((m.den ρ)-(l.den ρ)).toNat=(m.den ρ).toNat-(l.den ρ).toNat:=by omega
      split at h5
      ·rename_i hq
       have hq':=beq_iff_eq.1 hq
       refine aD.value c.rep ((hl.trans hl4).trans hl5) h5 (key _ ?_)
       rw [hrun,if_pos (by omega)]
       simp only [V.ae,A1,XC.ae,e1,e2]
      ·rename_i hq
       have hq':=beq_eq_false_iff_ne.1 hq
       refine aD.value c.rep ((hl.trans hl4).trans hl5) h5 (key _ ?_)
       rw [hrun,if_neg (by omega),gl,←Nat.add_mul]
       simp only [V.ae,A1,eU,XC.ae,e1,e2]
       rw [show (off.den ρ+l.den ρ).toNat=(off.den ρ).toNat+(l.den ρ).toNat by omega]
     split at h3
     ·split at h3
      ·rename_i cc
       obtain⟨st4,hl4,hx4,h4⟩:=bW hl3.pc h3
       rw [di] at hx4
       have b4:=of_decide_eq_true hx4
       exact part st4 cc _ hl4 rfl b4 (fun w=>FD el eh b2 b3 (by simp only [XC.ae];omega) w) h4
      ·rename_i lo2
       split at h3
       ·rename_i hz
        have hz':=fC ρ hz
        obtain⟨st4,hl4,hx4,h4⟩:=bW hl3.pc h3
        rw [di,eU] at hx4
        have b4:=of_decide_eq_true hx4
        refine aD.value c.rep (hl.trans hl4) h4 (key _ ?_)
        have hb:=fun w=>FD (P:=P) (π:=π) (cap:=(XC.room lo2).ae ρ π b (off.den ρ).toNat) el eh b2 b3 (by simp only [XC.ae];omega) w
        simp only [Instr.sliceAt,Instr.slice,Sem.run_bind,run_underlying hu,Result.andThen_ok,V.ae,Option.map_none,hb,hke.aO,Sem.run_pure]
        rw [hz']
        simp [gl]
       ·obtain⟨st4,hl4,hx4,h4⟩:=bW hl3.pc h3
        obtain⟨st5,hl5,hx5,h5⟩:=bW hl4.pc h4
        rw [di,eU] at hx4
        rw [lq,eU] at hx5
        have b4:=of_decide_eq_true hx4
        have b5:=of_decide_eq_true hx5
        refine aD.value c.rep ((hl.trans hl4).trans hl5) h5 (key _ ?_)
        have hb:=fun w=>FD (P:=P) (π:=π) (cap:=(XC.room lo2).ae ρ π b (off.den ρ).toNat) el eh b2 b3 (by simp only [XC.ae];omega) w
        have hne:¬(XC.room lo2).ae ρ π b (off.den ρ).toNat=(l.den ρ).toNat:=by simp only [XC.ae];omega
        have e3:(XC.room lo2).ae ρ π b (off.den ρ).toNat-(l.den ρ).toNat=(XC.room lo2).ae ρ π b (off.den ρ+l.den ρ).toNat:=by simp only [XC.ae];omega
        have e1:((hh.den ρ)-(l.den ρ)).toNat=(hh.den ρ).toNat-(l.den ρ).toNat:=by omega
        have e4:(off.den ρ+l.den ρ).toNat=(off.den ρ).toNat+(l.den ρ).toNat:=by omega
        simp only [Instr.sliceAt,Instr.slice,Sem.run_bind,run_underlying hu,Result.andThen_ok,V.ae,Option.map_none,hb,hke.aO,Sem.run_pure,if_neg hne,A1,eU,e1,e3]
        rw [e4,Option.map_some,gl,Nat.add_mul]
     ·rename_i vm
      split at h3
      ·rename_i vh m em
       obtain⟨st4,hl4,hx4,h4⟩:=bW hl3.pc h3
       rw [di] at hx4
       have b4:=of_decide_eq_true hx4
       split at h4
       ·rename_i cc
        obtain⟨st5,hl5,hx5,h5⟩:=bW hl4.pc h4
        rw [di] at hx5
        have b5:=of_decide_eq_true hx5
        exact part st5 m _ (hl4.trans hl5) rfl b4 (fun w=>KY el eh em b2 b3 b4 (by simp only [XC.ae];omega) w) h5
       ·rename_i lo2
        obtain⟨st5,hl5,hx5,h5⟩:=bW hl4.pc h4
        rw [di,eU] at hx5
        have b5:=of_decide_eq_true hx5
        exact part st5 m _ (hl4.trans hl5) rfl b4 (fun w=>KY el eh em b2 b3 b4 (by simp only [XC.ae];omega) w) h5
      ·simp [R.ai] at h3
    ·simp [R.ai] at h
   ·simp [R.ai] at h
  ·simp [R.ai] at h
 ·simp [R.ai] at h
end ops
end Go.Proofs.YtmickljjofbmiaaGreatDoor
namespace Go.Proofs.YtmickljjofbmiaaGreatDoor
open Go
theorem qb{β γ:Type}(f:β→γ)(x:Array β):Array.map f x=(List.map f x.toList).toArray:=by
 apply Array.ext';simp
section ops
variable {P:Program} {cx:Cx} {ρ:Env} {π:Pl} {w:World} {tm:List V} {a:Act} {st st':St} {r:OR} {o:Oper}
theorem CD{P:Program}{w:World}{t:TypeId} {ms:Array (String×TypeId)} (hu:P.underlying t=some (.interface ms)):∀ m,0<m→(Op.equalIn m t .nilIface .nilIface).run P w=.ok true w
 | 0,h=>by omega
 | m+1,_=>by
  unfold Op.equalIn
  simp only [Sem.run_bind,run_underlying hu,Result.andThen_ok,Sem.run_pure]
theorem aaS{op:BinOp}{t:TypeId}{p q:Operand}{ty:TypeId}(c:Ctx P cx ρ π st.h w tm a)(hpc:av ρ st.pc)(ho:o.op=.binOp op t p q ty)
  (h:(PG cx tm st op t p q).ai ρ=some (r,st')):aD P cx tm ρ π st st' w ((execOp a.eval o).run P w) r:=by
 unfold PG at h
 split at h
 ·rename_i x y ex ey
  have hx:=aT c ex
  have hy:=aT c ey
  split at h
  ·rename_i h1 h2
   unfold MR at h1
   split at h1
   rotate_left
   ·cases h1
   unfold LX at h
   unfold isConst at h2
   split at h2
   rotate_left
   ·cases h2
   split at h
   ·rename_i td htd
    have hu:=(c.tt t td htd).under
    split at h
    ·rename_i hdd
     rw [hdd] at hu
     refine aD.value c.rep (cn.refl hpc) h ?_
     have he:=CD (P:=P) (w:=w) hu Op.maxDepth (by decide)
     simp only [execOp,ho,hx,hy,V.ae,eqGuard,Sem.run_bind]
     simp [binOp,Op.equal,he,X.tt,X.den]
    ·rename_i hdd
     rw [hdd] at hu
     refine aD.value c.rep (cn.refl hpc) h ?_
     have he:=CD (P:=P) (w:=w) hu Op.maxDepth (by decide)
     simp only [execOp,ho,hx,hy,V.ae,eqGuard,Sem.run_bind]
     simp [binOp,Op.equal,he,X.tt,X.den]
    ·simp [R.ai] at h
   ·simp [R.ai] at h
  unfold Ry at h
  split at h
  ·split at h
   ·exact SC c hpc ho hx hy h
   ·rename_i hk
    rw [aX hk] at hx h
    exact ok_int c hpc ho hx hy h
   ·simp [R.ai] at h
  ·exact aaW c hpc ho hx hy h
  ·rename_i h1 h2
   refine ok_eq c hpc ho hx hy ?_ ?_ h
   ·intro k u
    by_cases e:∃ j v,y=.int j v
    ·obtain⟨j,v,rfl⟩:=e
     exact .inl fun e'=>h1 _ _ _ _ e' rfl
    ·exact .inr fun j v e'=>e ⟨j,v,e'⟩
   ·intro u
    by_cases e:∃ v,y=.str v
    ·obtain⟨v,rfl⟩:=e
     exact .inl fun e'=>h2 _ _ e' rfl
    ·exact .inr fun v e'=>e ⟨v,e'⟩
 ·simp [R.ai] at h
theorem ae0{op:UnOp}{t:TypeId}{p:Operand}(c:Ctx P cx ρ π st.h w tm a)(hpc:av ρ st.pc)(ho:o.op=.unOp op t p)
  (h:(oUn cx tm st op p).ai ρ=some (r,st')):aD P cx tm ρ π st st' w ((execOp a.eval o).run P w) r:=by
 have hl:=cn.refl hpc
 unfold oUn at h
 split at h
 ·rename_i x ex
  have hx:=aT c ex
  unfold aay at h
  split at h
  ·refine aD.value c.rep hl h ?_
   simp [execOp,ho,hx,V.ae,Op.unary,Op.intArith,vQ,X.den]
  ·refine aD.value c.rep hl h ?_
   simp [execOp,ho,hx,V.ae,Op.unary,Op.intBits,nu,gq,X.den]
  ·refine aD.value c.rep hl h ?_
   simp [execOp,ho,hx,V.ae,Op.unary,mz]
  ·simp [R.ai] at h
 ·simp [R.ai] at h
theorem NU{p:Operand}(c:Ctx P cx ρ π st.h w tm a)(hpc:av ρ st.pc)(ho:o.op=.move p∨o.op=.assign p){s:String}
  (h:(fG st (oE cx tm p) s).ai ρ=some (r,st')):aD P cx tm ρ π st st' w ((execOp a.eval o).run P w) r:=by
 refine aD.fG c.rep (.refl hpc) h fun u hu=>?_
 have hx:=Nk c hu
 rcases ho with ho | ho<;>simp [execOp,ho,hx]
theorem YB{p q s:Operand}(c:Ctx P cx ρ π st.h w tm a)(hpc:av ρ st.pc)(ho:o.op=.pick p q s)
  (h:(CJ cx tm st p q s).ai ρ=some (r,st')):aD P cx tm ρ π st st' w ((execOp a.eval o).run P w) r:=by
 unfold CJ at h
 split at h
 ·rename_i x y z ex ey ez
  have hx:=aT c ex
  have hy:=aT c ey
  have hz:=aT c ez
  split at h
  ·rename_i x
   have pick:∀ t:Bool,x.tt ρ=t→(execOp a.eval o).run P w=.ok (.value ((match t with | true=>y | false=>z:V).ae ρ π)) w:=by
    intro t ht
    simp only [execOp,ho,hx,hy,hz,V.ae,ht]
    cases t<;>simp [asBool]
   split at h
   ·rename_i t ht
    exact aD.value c.rep (.refl hpc) h (pick t (dF hpc ht))
   ·split at h
    ·rename_i u hu
     refine aD.value c.rep (.refl hpc) h ?_
     unfold Ls at hu
     dsimp only at hu
     split at hu
     ·rename_i n _
      simp only [Option.some.injEq] at hu
      subst hu
      simp only [execOp,ho,hx,hy,hz,V.ae,X.tt,X.den,bI]
      by_cases hn:n=0<;>simp [asBool,hn]
     ·split at hu
      ·split at hu
       ·rename_i hk
        simp only [Option.some.injEq] at hu
        subst hu
        simp only [execOp,ho,hx,hy,hz,V.ae,aX hk,gd]
        simp only [asBool,Sem.run_pure,pure_bind]
        exact congrArg (fun v=>Result.ok (Next.value v) w) (by split<;>rfl)
       ·simp at hu
      ·simp only [Option.some.injEq] at hu
       subst hu
       simp only [execOp,ho,hx,hy,hz,V.ae,z5]
       simp only [asBool,Sem.run_pure,pure_bind]
       exact congrArg (fun v=>Result.ok (Next.value v) w) (by split<;>rfl)
      ·simp only [Option.some.injEq] at hu
       subst hu
       simp only [execOp,ho,hx,hy,hz,V.ae,oZ]
       simp only [asBool,Sem.run_pure,pure_bind]
       exact congrArg (fun v=>Result.ok (Next.value v) w) (by split<;>rfl)
      ·simp at hu
    ·obtain⟨st1,hl,h1⟩:=aU hpc h
     exact aD.value c.rep hl h1 (pick _ rfl)
  ·simp [R.ai] at h
 ·simp [R.ai] at h
theorem kM{α:Type}{ρ:Env}{i:X}{n:Nat}{k:St→R α}{a:α}{st:St}(hp:av ρ st.pc) (h:(gI st i n k).ai ρ=some a):∃ (st':St) (m:Nat),cn ρ st st'∧i.den ρ=(m:Int)∧m<n∧(k st').ai ρ=some a:=by
 unfold gI at h
 obtain⟨st1,hl,h1⟩:=aU hp h
 rw [di] at h1
 split at h1
 ·simp [R.ai] at h1
 ·rename_i h2
  obtain⟨st2,hl2,h3⟩:=aU hl.pc h1
  rw [lq] at h3
  split at h3
  ·simp [R.ai] at h3
  ·rename_i h4
   have h2:=of_decide_eq_true h2
   have h4:=of_decide_eq_true h4
   simp only [X.den] at h2 h4
   obtain⟨m,hm⟩:=Int.eq_ofNat_of_zero_le h2
   refine⟨st2,m,hl.trans hl2,hm,?_,h3⟩
   have:i.den ρ<((n:Nat):Int):=h4
   omega
theorem Yz{t:TypeId}{p:Operand}(c:Ctx P cx ρ π st.h w tm a)(hpc:av ρ st.pc)(ho:o.op=.load t p)
  (h:(Al cx tm st t p).ai ρ=some (r,st')):aD P cx tm ρ π st st' w ((execOp a.eval o).run P w) r:=by
 have hl:=cn.refl hpc
 unfold Al at h
 split at h
 ·rename_i td b off n i hd ex
  have hx:=aT c ex
  have hk:=c.tt t td hd
  split at h
  ·rename_i ha h1
   split at h
   ·rename_i cs hcs
    obtain⟨st1,m,hl1,hi,hm,h2⟩:=kM hpc h
    refine aD.fG c.rep hl1 h2 fun u hu=>?_
    obtain⟨v,hv,hcell⟩:=Pw c.rep hcs hm
    simp only [execOp,ho,hx,Instr.loadAt,Instr.sureAddr,V.ae,hi,Int.toNat_natCast]
    simp [loadVar,hk.pz,ha,run_load,hcell,C1 hu hi hv]
   ·simp [R.ai] at h
  ·simp [R.ai] at h
 ·rename_i td wd b i es cc hd ex
  exact SF c hpc ho (c.tt t td hd) (aT c ex) h
 ·rename_i td b off hd ex
  have hx:=aT c ex
  have hk:=c.tt t td hd
  split at h
  ·rename_i cs hcs
   obtain⟨h1,h2⟩:=R7 (P:=P) c.rep hpc hk hcs
   split at h
   ·rename_i ha
    refine aD.value c.rep hl h ?_
    simp [execOp,ho,hx,Instr.loadAt,Instr.sureAddr,V.ae]
    have:=h1 ha
    simp only [V.ae] at this
    simp [this]
   ·rename_i ha
    split at h
    ·refine aD.value c.rep hl h ?_
     simp [execOp,ho,hx,Instr.loadAt,Instr.sureAddr,V.ae,h2 ha _ rfl]
    ·simp [R.ai] at h
  ·simp [R.ai] at h
 ·rename_i td b off hd ex
  have hx:=aT c ex
  have hk:=c.tt t td hd
  split at h
  ·rename_i cs hcs
   obtain⟨h1,h2⟩:=G2 c.rep hk hcs
   split at h
   ·rename_i ha
    refine aD.value c.rep hl h ?_
    simp [execOp,ho,hx,Instr.loadAt,Instr.sureAddr,V.ae]
    have:=h1 ha
    simp only [V.ae] at this
    simp [this]
   ·rename_i ha
    split at h
    ·refine aD.value c.rep hl h ?_
     simp [execOp,ho,hx,Instr.loadAt,Instr.sureAddr,V.ae,h2 ha _ rfl]
    ·simp [R.ai] at h
  ·simp [R.ai] at h
 ·simp [R.ai] at h
theorem BB{P:Program}{h h':H}(hr:dD ρ π h w){t:TypeId}{td:TD}(ht:gP P t td){b off n m:Nat}{i:X}{v u:V}{cs:List V}(hs:td.size=1)(hi0:v.isIte=false) (hv:v.cells=[u]) (hc:cv h b off n=some cs)
  (hp:putAt h b off (jx i u 0 cs)=some h') (hu:u.one=true) (hi:i.den ρ=(m:Int)) (hm:m<n) (n0:Nat):
  ∃ w',(storeVar t ⟨(π b).1,off+m,none⟩ (v.ae ρ π)).run P w=.ok () w'∧Mv ρ π h n0 w h' n0 w':=by
 obtain⟨w',h1,h2⟩:=ML (P:=P) hr hc hp hu hi hm n0
 refine⟨w',?_,h2⟩
 have e0:=dT ρ π v hi0
 rw [hv] at e0
 have e:(v.ae ρ π).cells.size=td.size:=by rw [←Array.length_toList,e0,hs];rfl
 simp only [storeVar,Sem.run_bind,ht.aO,Result.andThen_ok,e,e0]
 simpa [V.af] using h1
theorem KL{P:Program}{h h':H}(hr:dD ρ π h w){t:TypeId}{td:TD}(ht:gP P t td){b off:Nat}{v:V}(hi0:v.isIte=false)(hs:v.cells.length=td.size)(hp:putAt h b off v.cells=some h')(n:Nat):
  ∃ w',(storeVar t ⟨(π b).1,off,none⟩ (v.ae ρ π)).run P w=.ok () w'∧Mv ρ π h n w h' n w':=by
 obtain⟨w',h1,h2⟩:=lL (P:=P) hr hp n
 refine⟨w',?_,h2⟩
 have e:(v.ae ρ π).cells.size=td.size:=by rw [←hs,←ay ρ π,←dT _ _ _ hi0,Array.length_toList]
 simp only [storeVar,Sem.run_bind,ht.aO,Result.andThen_ok,e,dT _ _ _ hi0]
 simpa using h1
theorem SD{t:TypeId}{p q:Operand}(c:Ctx P cx ρ π st.h w tm a)(hpc:av ρ st.pc)(ho:o.op=.store t p q)
  (h:(wg cx tm st t p q).ai ρ=some (r,st')):aD P cx tm ρ π st st' w ((execOp a.eval o).run P w) r:=by
 unfold wg at h
 split at h
 ·rename_i td b off n i v hd ex ey
  have hx:=aT c ex
  have hy:=aT c ey
  have hk:=c.tt t td hd
  split at h
  ·rename_i hs1 hs
   split at h
   ·rename_i u hv
    split at h
    ·rename_i cs hcs
     obtain⟨st1,m,hl1,hi,hm,h2⟩:=kM hpc h
     split at h2
     ·rename_i h' hp
      split at h2
      ·rename_i hu
       simp only [R.ai,Option.some.injEq,Prod.mk.injEq] at h2
       obtain⟨rfl,rfl⟩:=h2
       rw [hl1.h] at hp
       obtain⟨w',h3,h4⟩:=BB c.rep hk (Nat.eq_of_beq_eq_true hs) (ko ey) hv hcs hp hu hi hm st.n
       refine⟨hl1.pc,by rw [hl1.n];exact Nat.le_refl _,fun _=>⟨w',?_,by rw [hl1.n];exact h4⟩⟩
       simp only [execOp,ho,hx,hy,Instr.storeAt,Instr.sureAddr,V.ae,hi,Int.toNat_natCast]
       simp [h3]
      ·simp [R.ai] at h2
     ·simp [R.ai] at h2
    ·simp [R.ai] at h
   ·simp [R.ai] at h
  ·simp [R.ai] at h
 ·rename_i td wd b i es cc v hd ex ey
  exact PU c hpc ho (c.tt t td hd) (aT c ex) (aT c ey) (ko ey) h
 ·rename_i td b off v hd ex ey
  have hx:=aT c ex
  have hy:=aT c ey
  have hk:=c.tt t td hd
  split at h
  ·rename_i hs
   split at h
   ·rename_i h' hp
    simp only [R.ai,Option.some.injEq,Prod.mk.injEq] at h
    obtain⟨rfl,rfl⟩:=h
    obtain⟨w',h1,h2⟩:=KL c.rep hk (ko ey) (Nat.eq_of_beq_eq_true hs) hp st.n
    refine⟨hpc,Nat.le_refl _,fun _=>⟨w',?_,h2⟩⟩
    simp [execOp,ho,hx,hy,Instr.storeAt,Instr.sureAddr,V.ae,h1]
   ·simp [R.ai] at h
  ·simp [R.ai] at h
 ·simp [R.ai] at h
theorem EC(ρ:Env)(π:Pl)(i:Nat)(cells:List V)(t:TypeId):(au.cells cells t none).is ρ π i (.cells (V.af ρ π cells).toArray t (0,0)):=⟨[],by simp,rfl⟩
theorem aaT{t:TypeId}{p:Operand}(c:Ctx P cx ρ π st.h w tm a)(hpc:av ρ st.pc)(ho:o.op=.box t p)
  (h:(PI cx tm st t p).ai ρ=some (r,st')):aD P cx tm ρ π st st' w ((execOp a.eval o).run P w) r:=by
 unfold PI at h
 split at h
 ·rename_i v ex
  have hx:=aT c ex
  have e:(v.ae ρ π).cells=(V.af ρ π v.cells).toArray:=by rw [←dT _ _ _ (ko ex)]
  have hrun:(execOp a.eval o).run P w=.ok (.value (.pointer (some ⟨w.heap.size,0,none⟩))) {w with heap:=w.heap.push (.cells (V.af ρ π v.cells).toArray t (0,0))}:=by
   simp [execOp,ho,hx,Instr.box,newVar,newRow,e]
  refine aD.new c.rep hpc h (fun hn=>by rw [hrun];simp [V.ae,hn]) (by rw [hrun];rfl) (fun _=>EC ρ π _ _ t)
 ·simp [R.ai] at h
theorem fl{P:Program}{t:TypeId}{td:TD}(ht:gP P t td)(w:World)(ρ:Env)(π:Pl):∃ z,(zeroValue t).run P w=.ok z w∧z.cells=(V.af ρ π td.zero).toArray ∧
  (td.agg=true→∃ l,z=.agg l)∧(td.agg=false→∀ l,z≠.agg l):=by
 obtain⟨i,hi,_,_,z,hz,hc,h1,h2⟩:=ht.info
 refine⟨z,by simp [zeroValue,typeInfo,hi,hz],?_,h1,h2⟩
 rw [←hc ρ π]
theorem Ss{t:TypeId}(c:Ctx P cx ρ π st.h w tm a)(hpc:av ρ st.pc)(ho:o.op=.alloc t)
  (h:(EE cx st t).ai ρ=some (r,st')):aD P cx tm ρ π st st' w ((execOp a.eval o).run P w) r:=by
 unfold EE at h
 split at h
 ·rename_i td hd
  have hk:=c.tt t td hd
  obtain⟨z,hz,hc,_⟩:=fl hk w ρ π
  have hrun:(execOp a.eval o).run P w=.ok (.value (.pointer (some ⟨w.heap.size,0,none⟩))) {w with heap:=w.heap.push (.cells (V.af ρ π td.zero).toArray t (0,0))}:=by
   simp [execOp,ho,Instr.alloc,hz,newVar,newRow,hc]
  exact aD.new c.rep hpc h (fun hn=>by rw [hrun];simp [V.ae,hn]) (by rw [hrun];rfl) (fun _=>EC ρ π _ _ t)
 ·simp [R.ai] at h
theorem Iz{p:Operand}(c:Ctx P cx ρ π st.h w tm a)(hpc:av ρ st.pc)(ho:o.op=.nilCheck p)
  (h:(jZ cx tm st p).ai ρ=some (r,st')):aD P cx tm ρ π st st' w ((execOp a.eval o).run P w) r:=by
 have hl:=cn.refl hpc
 unfold jZ at h
 split at h<;>first
  | (simp [R.ai] at h;done)
  |(rename_i ex
    have hx:=aT c ex
    refine aD.value c.rep hl h ?_
    simp [execOp,ho,hx,V.ae])
theorem Sx{t:TypeId}{p:Operand}(c:Ctx P cx ρ π st.h w tm a)(hpc:av ρ st.pc)(ho:o.op=.makeInterface t p)
  (h:(v7 cx tm st t p).ai ρ=some (r,st')):aD P cx tm ρ π st st' w ((execOp a.eval o).run P w) r:=by
 have hl:=cn.refl hpc
 unfold v7 at h
 split at h
 ·rename_i td v hd ex
  have hx:=aT c ex
  have hk:=c.tt t td hd
  split at h
  ·simp [R.ai] at h
  ·rename_i hni
   refine aD.value c.rep hl h ?_
   simp only [execOp,ho,hx,Instr.makeInterface,Sem.run_bind,hk.cP,Result.andThen_ok]
   cases hdd:td.d<;>first
    | exact absurd hdd (hni _)
    | rfl
 ·simp [R.ai] at h
theorem Yx{fn:Fn}{f1 cap:Array Operand}(c:Ctx P cx ρ π st.h w tm a)(hpc:av ρ st.pc)(ho:o.op=.makeFunc fn f1 cap)
  (h:(CG cx tm st fn f1 cap).ai ρ=some (r,st')):aD P cx tm ρ π st st' w ((execOp a.eval o).run P w) r:=by
 have hl:=cn.refl hpc
 unfold CG at h
 split at h
 ·rename_i f x y ex ey
  have hx:=fY c ex
  have hy:=fY c ey
  refine aD.value c.rep hl h ?_
  simp only [execOp,ho,Instr.makeFunc,V.ae,←hx,←hy,qb]
  rfl
 ·simp [R.ai] at h
theorem Sw{t:TypeId}{p:Operand}{f:Nat}(c:Ctx P cx ρ π st.h w tm a)(hpc:av ρ st.pc)(ho:o.op=.field t p f)
  (h:(v5 cx tm st t p f).ai ρ=some (r,st')):aD P cx tm ρ π st st' w ((execOp a.eval o).run P w) r:=by
 unfold v5 at h
 split at h
 ·rename_i td cs hd ex
  have hx:=aT c ex
  have hk:=c.tt t td hd
  split at h
  ·rename_i fields hdd
   have hu:=hk.under
   rw [hdd] at hu
   rw [bO] at h
   split at h
   ·rename_i fd hf
    refine aD.fG c.rep (.refl hpc) h fun u hu2=>?_
    have hf':fields[f]?=some fd:=by simpa using hf
    simp [execOp,ho,hx,V.ae,Instr.field,run_underlying hu,hf',asAgg,nD c.tt hu2]
   ·simp [R.ai] at h
  ·simp [R.ai] at h
 ·simp [R.ai] at h
theorem Mi{p:Operand}{i:Nat}(c:Ctx P cx ρ π st.h w tm a)(hpc:av ρ st.pc)(ho:o.op=.extract p i)
  (h:(mC cx tm st p i).ai ρ=some (r,st')):aD P cx tm ρ π st st' w ((execOp a.eval o).run P w) r:=by
 unfold mC at h
 split at h
 ·rename_i l ex
  have hx:=aT c ex
  refine aD.fG c.rep (.refl hpc) h fun u hu=>?_
  rw [bO] at hu
  simp [execOp,ho,hx,V.ae,Instr.extract,bk,hu]
 ·simp [R.ai] at h
end ops
end Go.Proofs.YtmickljjofbmiaaGreatDoor
namespace Go.Proofs.YtmickljjofbmiaaGreatDoor
open Go
section idx
variable {ρ:Env} {α:Type}
theorem rq{i:X}{k:St→Nat→R α}{a:α}:∀ (m lo:Nat) (st:St),av ρ st.pc→(mD st i lo m k).ai ρ=some a→
  ∃ (st':St) (n:Nat),cn ρ st st'∧i.den ρ=(n:Int)∧lo≤n∧n<lo+m∧(k st' n).ai ρ=some a
 | 0,lo,st,_,h=>by simp [mD,R.ai] at h
 | m+1,lo,st,hp,h=>by
  unfold mD at h
  obtain⟨st1,hl,h1⟩:=aU hp h
  rw [eM] at h1
  split at h1
  ·rename_i he
   simp only [X.den,beq_iff_eq] at he
   exact⟨st1,lo,hl,he,Nat.le_refl _,by omega,h1⟩
  ·obtain⟨st2,n,hl2,e,h3,h4,h5⟩:=rq m (lo+1) st1 hl.pc h1
   exact⟨st2,n,hl.trans hl2,e,by omega,by omega,h5⟩
theorem p6{i:X}{len:Nat}{k:St→Nat→R α}{a:α}{st:St}(hp:av ρ st.pc) (h:(index st i len k).ai ρ=some a):
  ∃ (st':St) (n:Nat),cn ρ st st'∧i.den ρ=(n:Int)∧n<len∧(k st' n).ai ρ=some a:=by
 unfold index at h
 split at h
 ·rename_i n
  split at h
  ·rename_i hn
   exact⟨st,n,.refl hp,rfl,by simpa [Nat.blt_eq] using hn,h⟩
  ·simp [R.ai] at h
 ·simp [R.ai] at h
 ·obtain⟨st1,hl,h1⟩:=aU hp h
  obtain⟨st2,hl2,h2⟩:=aU hl.pc h1
  split at h2
  ·obtain⟨st3,n,hl3,e,_,h4,h5⟩:=rq len 0 st2 hl2.pc h2
   exact⟨st3,n,(hl.trans hl2).trans hl3,e,by omega,h5⟩
  ·simp [R.ai] at h2
end idx
section fill
variable {ρ:Env} {π:Pl}
theorem Cb(off:Nat):∀ (vs:List Value) (j:Nat) (cells:Array Value),off+j+vs.length≤cells.size→
  (vs.zipIdx j).foldl (fun cs (x:Value×Nat)=>cs.setIfInBounds (off+x.2) x.1) cells=(cells.toList.take (off+j)++vs++cells.toList.drop (off+j+vs.length)).toArray
 | [],j,cells,h=>by simp
 | v::vs,j,cells,h=>by
  simp only [List.length_cons] at h
  rw [List.zipIdx_cons,List.foldl_cons,Cb off vs (j+1) _ (by simp;omega)]
  congr 1
  apply List.ext_getElem?
  intro k
  have hk:=h
  simp only [Array.toList_setIfInBounds,List.getElem?_append,List.getElem?_take,List.getElem?_drop,List.length_take,List.length_append,List.length_set,Array.length_toList,List.length_cons,List.getElem?_set]
  by_cases h1:k<off+j
  ·have:off+j≠k:=by omega
   simp [h1,show k<off+(j+1) by omega,show k<min (off+j) cells.size by omega,show k<min (off+(j+1)) cells.size by omega,show k<cells.size by omega,show k<min (off+j) cells.size+(vs.length+1) by omega,show k<min (off+(j+1)) cells.size+vs.length by omega,this]
  ·by_cases h2:k=off+j
   ·subst h2
    simp [show off+j<off+(j+1) by omega,show off+j<min (off+(j+1)) cells.size by omega,show off+j<cells.size by omega,show min (off+j) cells.size=off+j by omega,show off+j<min (off+(j+1)) cells.size+vs.length by omega]
   ·by_cases h3:k<off+j+(vs.length+1)
    ·rw [show min (off+j) cells.size=off+j by omega,show min (off+(j+1)) cells.size=off+j+1 by omega]
     simp [show ¬k<off+j+1 by omega,show ¬k<off+j by omega,show k<off+j+1+vs.length by omega,h3,show k-(off+j)=(k-(off+j+1))+1 by omega]
    ·rw [show min (off+j) cells.size=off+j by omega,show min (off+(j+1)) cells.size=off+j+1 by omega]
     simp [show ¬k<off+j+1+vs.length by omega,h3,show off+(j+1)+vs.length+(k-(off+j+1+vs.length))=off+j+(vs.length+1)+(k-(off+j+(vs.length+1))) by omega]
     intro e;omega
theorem ya {place placeV:Nat→Option (Nat×Nat)} (hp:∀ i x,placeV i=some x→place i=some x):∀ (ps:List (Nat×V)) (cells out:List V),(∀ x∈ps,x.2.isIte=false)→dr placeV cells ps=some out→
  Instr.fill place (V.af ρ π cells).toArray (ps.map fun x=>(x.1,x.2.ae ρ π))=some (V.af ρ π out).toArray
 | [],cells,out,_,h=>by
  simp only [dr,Option.some.injEq] at h
  subst h;rfl
 | (i,v)::ps,cells,out,hni,h=>by
  have hi0:v.isIte=false:=hni (i,v) (by simp)
  simp only [dr] at h
  split at h
  ·simp at h
  ·rename_i off size hpl
   split at h
   ·rename_i hs
    split at h
    ·rename_i c2 hc
     obtain⟨h1,h2⟩:=tO _ _ _ _ hc
     have hs':=Nat.eq_of_beq_eq_true hs
     have hsz:(v.ae ρ π).cells.size=v.cells.length:=by rw [←ay ρ π,←dT _ _ _ hi0,Array.length_toList]
     simp only [List.map_cons,Instr.fill,hp i _ hpl,hsz,hs',ne_eq,not_true_eq_false,decide_false,Bool.false_or]
     rw [if_neg (by simp only [List.size_toArray,ay,decide_eq_true_eq];omega)]
     have:=ya hp ps c2 out (fun x hx=>hni x (by simp [hx])) h
     rw [←this]
     congr 1
     have e:=Cb off (V.af ρ π v.cells) 0 (V.af ρ π cells).toArray (by simp only [ay,List.size_toArray];omega)
     rw [h1,bP,bP,dV,dU]
     simp only [Nat.add_zero,ay] at e
     rw [←e,←Array.foldl_toList]
     congr 1
     rw [←dT _ _ _ hi0]
     simp
    ·simp at h
   ·simp at h
end fill
section ops
variable {P:Program} {cx:Cx} {ρ:Env} {π:Pl} {w:World} {tm:List V} {a:Act} {st st':St} {r:OR} {o:Oper}
theorem G6{β γ:Type}(f:β→Sem γ)(g:β→γ)(w:World):∀ (l:List β),(∀ b∈l,(f b).run P w=.ok (g b) w)→(l.mapM f).run P w=.ok (l.map g) w
 | [],_=>by simp
 | b::l,h=>by
  simp only [List.mapM_cons,Sem.run_bind,h b (by simp),Result.andThen_ok,G6 f g w l (fun x hx=>h x (by simp [hx])),Sem.run_pure,List.map_cons]
theorem Pz{β γ:Type}(f:β→Sem γ)(g:β→γ)(w:World)(l:Array β) (h:∀ b∈l.toList,(f b).run P w=.ok (g b) w):(l.mapM f).run P w=.ok (l.map g) w:=by
 rw [Array.mapM_eq_mapM_toList,Sem.run_map,G6 f g w l.toList h]
 simp only [Result.andThen_ok]
 rw [qb g l]
def Ft(tt:T TD)(t:TypeId):Nat:=match tt.get t with
 | some td=>td.size
 | none=>0
theorem oU{tt:T TD}:∀ {fs:List Field},iR tt fs=true→∀ f∈fs,∃ td,tt.get f.type=some td
 | [],_,f,hf=>by simp at hf
 | g::fs,h,f,hf=>by
  unfold iR at h
  split at h
  ·rename_i td htd
   rcases List.mem_cons.1 hf with rfl | hf
   ·exact⟨td,htd⟩
   ·exact oU h f hf
  ·simp at h
theorem Su{t:TypeId} {parts:Array (Nat×Operand)} (c:Ctx P cx ρ π st.h w tm a) (hpc:av ρ st.pc) (ho:o.op=.build t parts)
  (h:(vW cx tm st t parts).ai ρ=some (r,st')):aD P cx tm ρ π st st' w ((execOp a.eval o).run P w) r:=by
 have hl:=cn.refl hpc
 unfold vW at h
 split at h
 ·rename_i td ps hd eps
  have hps:=rL c eps
  have hk:=c.tt t td hd
  split at h
  ·rename_i cells hf
   split at h
   ·rename_i hkn
    refine aD.value c.rep hl h ?_
    obtain⟨z,hz,hzc,_⟩:=fl hk w ρ π
    have hparts:(parts.map fun (x:Nat×Operand)=>(x.1,a.eval x.2)).toList=ps.map fun x=>(x.1,x.2.ae ρ π):=by
     rw [Array.toList_map];exact hps
    have hu:=hk.under
    cases hdd:td.d with
    | struct fields=>
     rw [hdd] at hkn hu hf
     have hfk:=oU (show iR cx.tt fields.toList=true from hkn)
     have hm:=Pz (P:=P) (fun f:Field=>(do pure (f.offset,←sizeOf f.type):Sem (Nat×Nat))) (fun f=>(f.offset,Ft cx.tt f.type)) w fields (fun f hf=>by
      obtain⟨fd,hfd⟩:=hfk f hf
      simp [(c.tt f.type fd hfd).aO,Ft,hfd])
     have hfill:=ya (ρ:=ρ) (π:=π) (place:=fun i=>(fields.map fun f=>(f.offset,Ft cx.tt f.type))[i]?) (placeV:=placeOf cx.tt (.struct fields)) (fun i x hx=>by
      simp only [placeOf,bO] at hx
      split at hx
      ·rename_i f hfi
       split at hx
       ·rename_i fd hfd
        simp only [Option.some.injEq] at hx
        subst hx
        have:fields[i]?=some f:=by simpa using hfi
        simp [this,Ft,hfd]
       ·simp at hx
      ·simp at hx) ps td.zero cells (gu eps) hf
     simp only [execOp,ho,Instr.build,Sem.run_bind,hz,Result.andThen_ok,run_underlying hu,hm,hzc,hparts,hfill,Sem.run_pure,V.ae]
    | array len elem=>
     rw [hdd] at hkn hu hf
     simp only [na] at hkn
     split at hkn
     ·rename_i ed hed
      have hfill:=ya (ρ:=ρ) (π:=π) (place:=fun i=>some (i*ed.size,ed.size)) (placeV:=placeOf cx.tt (.array len elem)) (fun i x hx=>by
       simp only [placeOf,hed] at hx
       exact hx) ps td.zero cells (gu eps) hf
      simp only [execOp,ho,Instr.build,Sem.run_bind,hz,Result.andThen_ok,run_underlying hu,(c.tt elem ed hed).aO,hzc,hparts,hfill,Sem.run_pure,V.ae]
     ·simp at hkn
    | _=>rw [hdd] at hkn;simp [na] at hkn
   ·simp [R.ai] at h
  ·simp [R.ai] at h
 ·simp [R.ai] at h
end ops
end Go.Proofs.YtmickljjofbmiaaGreatDoor
namespace Go.Proofs.YtmickljjofbmiaaGreatDoor
open Go
section ops
variable {P:Program} {cx:Cx} {ρ:Env} {π:Pl} {w:World} {tm:List V} {a:Act} {st st':St} {r:OR} {o:Oper}
theorem fj(z:List V):∀ n,(bX z n).length=n*z.length
 | 0=>by simp [bX]
 | n+1=>by simp only [bX,List.length_append,fj z n,Nat.succ_mul];omega
theorem pv(z:List V):∀ (n i:Nat),i<n*z.length→(bX z n)[i]?=z[i % z.length]?
 | 0,i,h=>by omega
 | n+1,i,h=>by
  simp only [bX]
  by_cases hi:i<z.length
  ·rw [List.getElem?_append_left hi,Nat.mod_eq_of_lt hi]
  ·rw [List.getElem?_append_right (by omega),pv z n (i-z.length) (by have:=Nat.succ_mul n z.length;simp only [Nat.succ_eq_add_one] at this;omega)]
   rw [←Nat.mod_eq_sub_mod (by omega)]
theorem Bl(ρ:Env)(π:Pl)(z:List V)(n:Nat):((Array.range (n*z.length)).map fun i=>(V.af ρ π z).toArray[i % (V.af ρ π z).toArray.size]!)=(V.af ρ π (bX z n)).toArray:=by
 apply Array.ext_getElem?
 intro i
 by_cases hi:i<n*z.length
 ·have hz:0<z.length:=by
   rcases Nat.eq_zero_or_pos z.length with h | h
   ·rw [h] at hi;omega
   ·exact h
  have hm:i % z.length<z.length:=Nat.mod_lt _ hz
  have e:=pv z n i hi
  simp only [Array.getElem?_map,List.getElem?_toArray,bk,e]
  rw [Array.getElem?_eq_getElem (by simpa using hi)]
  simp only [Array.getElem_range,Option.map_some,List.size_toArray,ay,List.getElem!_toArray]
  rw [getElem!_pos (V.af ρ π z) (i % z.length) (by rw [ay];exact hm)]
  have:=bk ρ π z (i % z.length)
  rw [List.getElem?_eq_getElem (by rw [ay];exact hm)] at this
  rw [←this]
 ·rw [Array.getElem?_eq_none (by simpa using hi),Array.getElem?_eq_none (by simp only [List.size_toArray,ay,fj];omega)]
theorem Bt{t:TypeId}{len:Nat} {parts:Array (Nat×Operand)} (c:Ctx P cx ρ π st.h w tm a) (hpc:av ρ st.pc) (ho:o.op=.buildSlice t len parts)
  (h:(gf cx tm st t len parts).ai ρ=some (r,st')):aD P cx tm ρ π st st' w ((execOp a.eval o).run P w) r:=by
 unfold gf at h
 split at h
 ·rename_i td ps hd eps
  have hps:=rL c eps
  have hk:=c.tt t td hd
  split at h
  ·rename_i elem hdd
   have hu:=hk.under
   rw [hdd] at hu
   split at h
   ·rename_i ed hed
    have hke:=c.tt elem ed hed
    split at h
    ·rename_i hlen
     split at h
     ·rename_i cells hf
      obtain⟨z,hz,hzc,_⟩:=fl hke w ρ π
      have hparts:(parts.map fun (x:Nat×Operand)=>(x.1,a.eval x.2)).toList=ps.map fun x=>(x.1,x.2.ae ρ π):=by
       rw [Array.toList_map];exact hps
      have hfill:=ya (ρ:=ρ) (π:=π) (place:=fun i=>some (i*ed.size,ed.size)) (placeV:=fun i=>some (i*ed.size,ed.size)) (fun i x hx=>hx) ps _ cells (gu eps) hf
      have hl24:¬(len*ed.size > 2 ^ 24):=by
       have:=Nat.le_of_ble_eq_true hlen
       omega
      have hrun:(execOp a.eval o).run P w=.ok (.value (.slice (some ⟨w.heap.size,0,none⟩) len len)) {w with heap:=w.heap.push (.cells (V.af ρ π cells).toArray elem (0,0))}:=by
       simp only [execOp,ho,Instr.buildSlice,Sem.run_bind,run_underlying hu,Result.andThen_ok,hke.aO,hl24,if_false]
       by_cases h0:len*ed.size=0
       ·have e0:bX ed.zero len=[]:=List.eq_nil_of_length_eq_zero (by rw [fj,hke.len];exact h0)
        rw [e0] at hfill
        simp only [h0,if_true,hparts,pure_bind,Array.range_zero',Array.map_empty]
        rw [show (#[]:Array Value)=(V.af ρ π []).toArray from rfl,hfill]
        simp [newRow]
       ·simp only [h0,if_false,hparts,pure_bind,Sem.run_bind,hz,Result.andThen_ok,hzc]
        rw [←hke.len,Bl ρ π ed.zero len]
        rw [←hke.len] at hfill
        rw [hfill]
        simp [newRow]
      exact aD.new c.rep hpc h (fun hn=>by rw [hrun];simp [V.ae,hn,Cp.ae]) (by rw [hrun];rfl) (fun _=>EC ρ π _ _ _)
     ·simp [R.ai] at h
    ·simp [R.ai] at h
   ·simp [R.ai] at h
  ·simp [R.ai] at h
 ·simp [R.ai] at h
theorem ga{v:V}{n:Nat}(h:kD v=some n):∃ k,v.ae ρ π=.int k (n:Int):=by
 unfold kD at h
 split at h
 ·simp only [Option.some.injEq] at h
  subst h
  exact⟨_,by simp [V.ae,X.den];rfl⟩
 ·simp at h
theorem Bj(n:Nat)(h:n≤1000000000):IntKind.i64.wrap (n:Int)=n:=by
 simp only [IntKind.wrap,IntKind.bits,IntKind.signed,Bool.true_and,decide_eq_true_eq,Int.reducePow,Nat.reduceSub,ge_iff_le]
 split<;>omega
theorem G5{t elem:TypeId}{ed:TD}{p q:Operand}{l k:Nat}{kl kk:IntKind}(ho:o.op=.makeSlice t p q) (hu:P.underlying t=some (.slice elem)) (hke:gP P elem ed) (hx:a.eval p=.int kl (l:Int)) (hy:a.eval q=.int kk (k:Int)) (h1:l≤k) (h2:k*(ed.bytes+1)≤1000000000):
  (execOp a.eval o).run P w=.ok (.value (.slice (some ⟨w.heap.size,0,none⟩) l k)) {w with heap:=w.heap.push (.cells (V.af ρ π (bX ed.zero k)).toArray elem (0,0))}:=by
 obtain⟨i,hi,hsz,hby,_⟩:=hke.info
 obtain⟨z,hz,hzc,_⟩:=fl hke w ρ π
 have h3:k≤1000000000:=by
  have:k*1≤k*(ed.bytes+1):=Nat.mul_le_mul_left _ (by omega)
  omega
 have h4:k*ed.bytes≤1000000000:=by
  have:k*ed.bytes≤k*(ed.bytes+1):=Nat.mul_le_mul_left _ (by omega)
  omega
 have h4':(ed.bytes:Int)*(k:Int)≤1000000000:=by
  have:=Int.ofNat_le.2 h4
  rw [Nat.mul_comm,Int.natCast_mul] at this
  exact this
 have hti:(typeInfo elem).run P w=.ok i w:=by simp [typeInfo,hi]
 simp only [execOp,ho,hx,hy,Instr.makeSlice,Sem.run_bind,run_underlying hu,Result.andThen_ok,asInt,asIntOf,Sem.run_pure,hti,hby,Bj l (by omega),Bj k h3]
 rw [if_neg (by simp;omega)]
 have hroom:¬k*ed.bytes > roomBytes:=by unfold roomBytes;omega
 simp only [Int.toNat_natCast,askRoom,hroom,if_false,Sem.run_bind,Sem.run_pure,Result.andThen_ok,hke.aO]
 by_cases h0:k*ed.size=0
 ·have e0:bX ed.zero k=[]:=List.eq_nil_of_length_eq_zero (by rw [fj,hke.len];exact h0)
  simp only [h0,if_true,pure_bind,Array.range_zero',Array.map_empty,e0]
  simp [newRow,V.af]
 ·simp only [h0,if_false,pure_bind,Sem.run_bind,hz,Result.andThen_ok,hzc]
  rw [←hke.len,Bl ρ π ed.zero k]
  simp [newRow]
theorem p9:∀ {z:List V} {ks:List CK},vJ z=some ks→ks.length=z.length∧∀ (c:Nat) (k:CK),ks[c]?=some k→(V.af ρ π z)[c]?=some (k.val 0)
 | [],ks,h=>by
  obtain rfl:=Option.some.inj h
  exact⟨rfl,fun c k hk=>by simp at hk⟩
 | v::l,ks,h=>by
  unfold vJ at h
  split at h
  ·rename_i ks' hk'
   obtain⟨h1,h2⟩:=p9 hk'
   have key:∀ k:CK,v.ae ρ π=k.val 0→some (k::ks')=some ks→ks.length=(v::l).length∧∀ (c:Nat) (k:CK),ks[c]?=some k→(V.af ρ π (v::l))[c]?=some (k.val 0):=by
    intro k hv he
    obtain rfl:=Option.some.inj he
    refine⟨by simp [h1],fun c k' hc=>?_⟩
    cases c with
    | zero=>
     obtain rfl:=Option.some.inj (show some k=some k' from by simpa using hc)
     simp [V.af,hv]
    | succ c=>simpa [V.af] using h2 c k' (by simpa using hc)
   split at h
   ·split at h
    ·rename_i hz
     exact key _ (by simp only [V.ae,CK.val,fC ρ hz]) h
    ·cases h
   ·split at h
    ·rename_i hz
     exact key _ (by simp only [V.ae,CK.val,X.tt,fC ρ hz]) h
    ·cases h
   ·cases h
  ·cases h
theorem Kw{z:List V}{ks:List CK}{n:Nat}(hk:vJ z=some ks):jA ρ (.fill (.lit 0)) ks n fun j=>(V.af ρ π (bX z n))[j]?:=by
 obtain⟨h1,h2⟩:=p9 (ρ:=ρ) (π:=π) hk
 intro j c k hj hc
 have hlt:c<ks.length:=(List.getElem?_eq_some_iff.1 hc).1
 have hidx:j*ks.length+c<n*z.length:=by
  have:(j+1)*ks.length≤n*ks.length:=Nat.mul_le_mul_right _ hj
  rw [Nat.add_mul] at this
  rw [←h1]
  omega
 dsimp only
 rw [bk,pv z n _ hidx,←h1,Nat.mul_add_mod_self_right,Nat.mod_eq_of_lt hlt,←bk]
 exact h2 c k hc
theorem Aa{x:X}{n bytes:Nat} (h:x.den ρ≤(NN n bytes).den ρ) (h0:0≤x.den ρ):((x.den ρ).toNat+n+1)*(bytes+1)≤1000000000:=by
 have h1:(x.den ρ).toNat+n+1≤1000000000 / (bytes+1):=by
  have h':x.den ρ≤((1000000000 / (bytes+1):Nat):Int)-((n+1:Nat):Int):=h
  generalize 1000000000 / (bytes+1)=m at *
  omega
 exact Nat.le_trans (Nat.mul_le_mul_right _ h1) (Nat.div_mul_le_self _ _)
theorem Bu{t:TypeId}{p q:Operand}(c:Ctx P cx ρ π st.h w tm a)(hpc:av ρ st.pc)(ho:o.op=.makeSlice t p q)
  (h:(gi cx tm st t p q).ai ρ=some (r,st')):aD P cx tm ρ π st st' w ((execOp a.eval o).run P w) r:=by
 unfold gi at h
 split at h
 ·rename_i td l k hd el ek
  obtain⟨vl,el1,el2⟩:=Option.bind_eq_some_iff.1 el
  obtain⟨vk,ek1,ek2⟩:=Option.bind_eq_some_iff.1 ek
  obtain⟨kl,hl⟩:=ga (ρ:=ρ) (π:=π) el2
  obtain⟨kk,hk1⟩:=ga (ρ:=ρ) (π:=π) ek2
  have hx:=aT c el1
  have hy:=aT c ek1
  rw [hl] at hx
  rw [hk1] at hy
  have hk:=c.tt t td hd
  split at h
  ·rename_i elem hdd
   have hu:=hk.under
   rw [hdd] at hu
   split at h
   ·rename_i ed hed
    have hke:=c.tt elem ed hed
    split at h
    ·rename_i hb
     rw [Bool.and_eq_true] at hb
     have h1:=Nat.le_of_ble_eq_true hb.1
     have h2:=Nat.le_of_ble_eq_true hb.2
     have hrun:=G5 (P:=P) (w:=w) (ρ:=ρ) (π:=π) ho hu hke hx hy h1 h2
     exact aD.new c.rep hpc h (fun hn=>by rw [hrun];simp only [V.ae,hn,Cp.ae]) (by rw [hrun];rfl) (fun _=>EC ρ π _ _ _)
    ·simp [R.ai] at h
   ·simp [R.ai] at h
  ·simp [R.ai] at h
 ·simp [R.ai] at h
theorem EW{t:TypeId}{p q:Operand}(c:Ctx P cx ρ π st.h w tm a)(hpc:av ρ st.pc)(ho:o.op=.makeSlice t p q)
  (h:(iw cx tm st t p q).ai ρ=some (r,st')):aD P cx tm ρ π st st' w ((execOp a.eval o).run P w) r:=by
 unfold iw at h
 split at h
 ·rename_i x y ex ey
  obtain⟨vx,ex1,ex2⟩:=Option.bind_eq_some_iff.1 ex
  obtain⟨vy,ey1,ey2⟩:=Option.bind_eq_some_iff.1 ey
  have hx:=aT c ex1
  have hy:=aT c ey1
  have hvx:vx=.int .i64 x:=by
   unfold aaE at ex2
   split at ex2
   ·split at ex2
    ·rename_i hk
     rw [aX hk,Option.some.inj ex2]
    ·cases ex2
   ·cases ex2
  have hvy:vy=.int .i64 y:=by
   unfold SK at ey2
   split at ey2
   ·split at ey2
    ·rename_i hk _
     rw [aX hk,Option.some.inj ey2]
    ·cases ey2
   ·cases ey2
  subst hvx hvy
  split at h
  ·rename_i td hd
   have hk:=c.tt t td hd
   have hu:=hk.under
   split at h
   ·rename_i elem hdd
    rw [hdd] at hu
    split at h
    ·rename_i ed hed
     have hke:=c.tt elem ed hed
     unfold Xa at h
     split at h
     ·rename_i ks hks hz
      obtain⟨st1,hl1,hx1,h1⟩:=bW hpc h
      obtain⟨st2,hl2,hx2,h2⟩:=bW hl1.pc h1
      rw [di] at hx1 hx2
      have b1:0≤x.den ρ:=of_decide_eq_true hx1
      have b2:=of_decide_eq_true hx2
      split at h2
      ·rename_i hm
       have hm':=Aa (dJ hl2.pc hm) (by omega)
       have hl:=hl1.trans hl2
       have hrun:=G5 (P:=P) (w:=w) (ρ:=ρ) (π:=π) (l:=(x.den ρ).toNat) (k:=(y.den ρ).toNat) ho hu hke (by rw [hx,Int.toNat_of_nonneg b1];rfl) (by rw [hy,Int.toNat_of_nonneg (by omega)];rfl) (by omega) (by
        have:(y.den ρ).toNat*(ed.bytes+1)≤((y.den ρ).toNat+0+1)*(ed.bytes+1):=Nat.mul_le_mul_right _ (by omega)
        omega)
       have h3:R.ai ρ (.ok (.val (.xslice false st.n (.lit 0) ed.size x (.known y)),newObj {st with pc:=st2.pc} (.arr (.fill (.lit 0)) ks y elem false)))=some (r,st'):=by
        rw [←h2,hl.n]
        unfold newObj
        rw [hl.h,hl.n]
       have hks':=p9 (ρ:=ρ) (π:=π) hks
       have key:=aD.new (P:=P) (cx:=cx) (tm:=tm) (st:={st with pc:=st2.pc}) (w:=w) (res:=(execOp a.eval o).run P w) c.rep hl.pc h3 (ob:=.cells (V.af ρ π (bX ed.zero (y.den ρ).toNat)).toArray elem (0,0)) (fun hn=>by
         rw [hrun]
         have hn':(π st.n).1=w.heap.size:=hn
         simp [V.ae,XC.ae,cR,X.den,hn']) (by rw [hrun];rfl)
        (fun _=>⟨_,rfl,by rw [ay,fj,hks'.1];exact Nat.le_refl _,fun hw=>(by cases hw),Kw hks⟩)
       exact⟨key.pc,key.n,key.ran⟩
      ·simp [R.ai] at h2
     ·simp [R.ai] at h
    ·simp [R.ai] at h
   ·simp [R.ai] at h
  ·simp [R.ai] at h
 ·exact Bu c hpc ho h
theorem aaV{t:TypeId}{q:Option Operand}(c:Ctx P cx ρ π st.h w tm a)(hpc:av ρ st.pc)(ho:o.op=.makeMap t q)
  (h:(PM cx tm st t q).ai ρ=some (r,st')):aD P cx tm ρ π st st' w ((execOp a.eval o).run P w) r:=by
 have hnew:∀ (hrun:(execOp a.eval o).run P w=.ok (.value (.map (some w.heap.size))) {w with heap:=w.heap.push (.map #[] 0)}) (h:R.ai ρ (.ok (.val (.map st.n),newObj st (.map [])))=some (r,st')),aD P cx tm ρ π st st' w ((execOp a.eval o).run P w) r:=
  fun hrun h=>aD.new c.rep hpc h (fun hn=>by rw [hrun];simp [V.ae,hn]) (by rw [hrun];rfl) (fun _=>⟨[],0,rfl,by simp [entriesOf],by simp [entriesOf]⟩)
 unfold PM at h
 split at h
 ·rename_i td hd
  have hk:=c.tt t td hd
  split at h
  ·rename_i k e hdd
   have hu:=hk.under
   rw [hdd] at hu
   split at h
   ·exact hnew (by simp [execOp,ho,Instr.makeMap,Go.newObj,Sem.run]) h
   ·rename_i x
    split at h
    ·rename_i kk xx ex
     have hx:=aT c ex
     exact hnew (by simp [execOp,ho,hx,V.ae,Instr.makeMap,Go.newObj,Sem.run,run_underlying hu,asInt,asIntOf]) h
    ·simp [R.ai] at h
  ·simp [R.ai] at h
 ·simp [R.ai] at h
theorem EU{t:TypeId}{p:Operand}{f:Nat}(c:Ctx P cx ρ π st.h w tm a)(hpc:av ρ st.pc)(ho:o.op=.fieldAddr t p f)
  (h:(iu cx tm st t p f).ai ρ=some (r,st')):aD P cx tm ρ π st st' w ((execOp a.eval o).run P w) r:=by
 have hl:=cn.refl hpc
 unfold iu at h
 split at h
 ·rename_i td b off hd ex
  have hx:=aT c ex
  have hk:=c.tt t td hd
  split at h
  ·rename_i fields hdd
   have hu:=hk.under
   rw [hdd] at hu
   rw [bO] at h
   split at h
   ·rename_i fd hf
    have hf':fields[f]?=some fd:=by simpa using hf
    split at h
    ·rename_i d hfd
     have hkf:=c.tt fd.type d hfd
     split at h
     ·simp [R.ai] at h
     ·rename_i hz
      have hz':¬d.size=0:=by
       intro e;rw [e] at hz;simp at hz
      refine aD.value c.rep hl h ?_
      simp [execOp,ho,hx,V.ae,Instr.fieldAt,run_underlying hu,hf',Instr.sureAddr,fieldPlace,hkf.aO,hz',b9]
    ·simp [R.ai] at h
   ·simp [R.ai] at h
  ·simp [R.ai] at h
 ·rename_i td wd b i es cc hd ex
  have hx:=aT c ex
  have hk:=c.tt t td hd
  split at h
  ·rename_i fields hdd
   have hu:=hk.under
   rw [hdd] at hu
   rw [bO] at h
   split at h
   ·rename_i fd hf
    have hf':fields[f]?=some fd:=by simpa using hf
    split at h
    ·rename_i d hfd
     have hkf:=c.tt fd.type d hfd
     split at h
     ·simp [R.ai] at h
     ·rename_i hz
      have hz':¬d.size=0:=by
       intro e;rw [e] at hz;simp at hz
      refine aD.value c.rep hl h ?_
      simp [execOp,ho,hx,V.ae,Instr.fieldAt,run_underlying hu,hf',Instr.sureAddr,fieldPlace,hkf.aO,hz',gl,Nat.add_assoc]
    ·simp [R.ai] at h
   ·simp [R.ai] at h
  ·simp [R.ai] at h
 ·simp [R.ai] at h
theorem Aq{cx:Cx}{i:X}{ed:TD}(h:lZ cx i ed=true):ed.agg=false∧ed.size=1:=by
 unfold lZ at h
 split at h
 ·cases h
 ·split at h
  ·cases h
  ·split at h
   ·cases h
   ·rename_i ha
    exact⟨ha,Nat.eq_of_beq_eq_true h⟩
theorem pb{cx:Cx}{i:X}{ed:TD}(h:lZ cx i ed=true):ed.size=1:=(Aq h).2
theorem Ml{cx:Cx}{i:X}{ed:TD}(h:lZ cx i ed=true):ed.agg=false:=(Aq h).1
theorem EV{t:TypeId}{p q:Operand}(c:Ctx P cx ρ π st.h w tm a)(hpc:av ρ st.pc)(ho:o.op=.indexAddr t p q)
  (h:(iv cx tm st t p q).ai ρ=some (r,st')):aD P cx tm ρ π st st' w ((execOp a.eval o).run P w) r:=by
 unfold iv at h
 split at h
 ·rename_i td v k i hd ex ey
  have hx:=aT c ex
  have hy:=aT c ey
  have hk:=c.tt t td hd
  have hu:=hk.under
  split at h
  ·rename_i len elem b off hdd
   rw [hdd] at hu
   split at h
   ·rename_i ed hed
    have hke:=c.tt elem ed hed
    split at h
    ·rename_i hox
     have hs1:=pb hox
     obtain⟨st1,n,hl,e,hn,h1⟩:=kM hpc h
     refine aD.value c.rep hl h1 ?_
     simp only [execOp,ho,hx,hy,V.ae,e,Instr.indexAt,Sem.run_bind,asIntOf,Sem.run_pure,Result.andThen_ok,run_underlying hu,Instr.sureAddr]
     simp [hn,hke.aO,b9,hs1]
    obtain⟨st1,n,hl,e,hn,h1⟩:=p6 hpc h
    refine aD.value c.rep hl h1 ?_
    simp only [execOp,ho,hx,hy,V.ae,e,Instr.indexAt,Sem.run_bind,asIntOf,Sem.run_pure,Result.andThen_ok,run_underlying hu,Instr.sureAddr]
    simp [hn,hke.aO,b9]
   ·simp [R.ai] at h
  ·rename_i elem b off len cp hdd
   rw [hdd] at hu
   split at h
   ·rename_i ed hed
    have hke:=c.tt elem ed hed
    split at h
    ·rename_i hox
     have hs1:=pb hox
     obtain⟨st1,n,hl,e,hn,h1⟩:=kM hpc h
     refine aD.value c.rep hl h1 ?_
     simp only [execOp,ho,hx,hy,V.ae,e,Instr.indexAt,Sem.run_bind,asIntOf,Sem.run_pure,Result.andThen_ok,run_underlying hu]
     simp [hn,hke.aO,b9,hs1]
    obtain⟨st1,n,hl,e,hn,h1⟩:=p6 hpc h
    refine aD.value c.rep hl h1 ?_
    simp only [execOp,ho,hx,hy,V.ae,e,Instr.indexAt,Sem.run_bind,asIntOf,Sem.run_pure,Result.andThen_ok,run_underlying hu]
    simp [hn,hke.aO,b9]
   ·simp [R.ai] at h
  ·rename_i elem wd b off es len cp hdd
   rw [hdd] at hu
   split at h
   ·rename_i ed hed
    exact Bv c hpc ho hu (c.tt elem ed hed) hx hy h
   ·simp [R.ai] at h
  ·rename_i elem b off len cp hdd
   rw [hdd] at hu
   split at h
   ·rename_i _ ed n hed
    have hke:=c.tt elem ed hed
    obtain⟨st1,hl,h1⟩:=aU hpc h
    rw [lq] at h1
    split at h1
    ·rename_i hlt
     have hlt':=of_decide_eq_true hlt
     simp only [X.den] at hlt'
     have hn:n<(len.den ρ).toNat:=by
      have:(n:Int)<len.den ρ:=hlt'
      omega
     refine aD.value c.rep hl h1 ?_
     simp only [execOp,ho,hx,hy,V.ae,X.den,Instr.indexAt,Sem.run_bind,asIntOf,Sem.run_pure,Result.andThen_ok,run_underlying hu]
     simp [hke.aO,add_add]
     intro hm
     exfalso
     have:(n:Int)<len.den ρ:=hlt'
     rw [Int.max_def] at hm
     split at hm<;>omega
    ·simp [R.ai] at h1
   ·simp [R.ai] at h
  ·simp [R.ai] at h
 ·simp [R.ai] at h
theorem Sy{t:TypeId}{p q:Operand}(c:Ctx P cx ρ π st.h w tm a)(hpc:av ρ st.pc)(ho:o.op=.index t p q)
  (h:(v8 cx tm st t p q).ai ρ=some (r,st')):aD P cx tm ρ π st st' w ((execOp a.eval o).run P w) r:=by
 unfold v8 at h
 split at h
 ·rename_i td v k i hd ex ey
  have hx:=aT c ex
  have hy:=aT c ey
  have hk:=c.tt t td hd
  have hu:=hk.under
  split at h
  ·rename_i len elem cs hdd
   rw [hdd] at hu
   split at h
   ·rename_i ed hed
    have hke:=c.tt elem ed hed
    split at h
    ·rename_i hox
     have hs1:=pb hox
     have hag:=Ml hox
     split at h
     ·rename_i l htk
      obtain⟨st1,n,hl,e,hn,h1⟩:=kM hpc h
      refine aD.fG c.rep hl h1 fun u hu2=>?_
      obtain⟨t1,t2,t3⟩:=cz _ _ _ htk
      have hnl:n<l.length:=by omega
      have hcs:cs[n]?=some l[n]:=by
       have:=congrArg (fun l=>l[n]?) t1
       simp only [List.getElem?_take] at this
       rw [if_pos hn,List.getElem?_eq_getElem hnl] at this
       exact this
      have hp:nZ cx.tt elem cs (n*ed.size)=some l[n]:=by
       unfold nZ
       rw [hed]
       simp only [hag,hs1,Nat.mul_one,Bool.false_eq_true,if_false,bO,hcs]
      simp only [execOp,ho,hx,hy,V.ae,e,Instr.index,Sem.run_bind,asIntOf,Sem.run_pure,Result.andThen_ok,run_underlying hu]
      rw [C1 hu2 e (List.getElem?_eq_getElem hnl)]
      simp [hn,hke.aO,nD c.tt hp]
     ·simp [R.ai] at h
    obtain⟨st1,n,hl,e,hn,h1⟩:=p6 hpc h
    refine aD.fG c.rep hl h1 fun u hu2=>?_
    simp only [execOp,ho,hx,hy,V.ae,e,Instr.index,Sem.run_bind,asIntOf,Sem.run_pure,Result.andThen_ok,run_underlying hu]
    simp [hn,hke.aO,nD c.tt hu2]
   ·simp [R.ai] at h
  ·rename_i l hdd
   rw [hdd] at hu
   obtain⟨st1,n,hl,e,hn,h1⟩:=p6 hpc h
   refine aD.value c.rep hl h1 ?_
   simp only [execOp,ho,hx,hy,V.ae,e,Instr.index,Sem.run_bind,asIntOf,Sem.run_pure,Result.andThen_ok,run_underlying hu,X.bw]
   have hg:(⟨(l.map UInt8.ofNat).toArray⟩:ByteArray)[n]?=some (UInt8.ofNat ((nth l n).getD 0)):=by
    rw [bO,getElem?_pos _ n (by show n<((l.map UInt8.ofNat).toArray).size;simpa using hn)]
    show some (((l.map UInt8.ofNat).toArray)[n]'(by simpa using hn))=_
    simp [List.getElem?_eq_getElem hn]
   simp [hg,X.den,UInt8.toNat_ofNat']
  ·simp [R.ai] at h
 ·simp [R.ai] at h
theorem PR{p:Operand}{xt t:TypeId}{okk:Bool}(c:Ctx P cx ρ π st.h w tm a)(hpc:av ρ st.pc)(ho:o.op=.typeAssert p xt t okk)
  (h:(qg cx tm st p t okk).ai ρ=some (r,st')):aD P cx tm ρ π st st' w ((execOp a.eval o).run P w) r:=by
 have hl:=cn.refl hpc
 unfold qg at h
 split at h
 ·rename_i td v hd ex
  have hx:=aT c ex
  have hk:=c.tt t td hd
  have zero_ok:∀ z,zeroV td=some z→(zeroValue t).run P w=.ok (z.ae ρ π) w:=by
   intro z hz
   obtain⟨zv,h1,h2,h3,h4⟩:=fl hk w ρ π
   unfold zeroV at hz
   cases ha:td.agg with
   | true=>
    rw [ha] at hz
    simp only [if_true,Option.some.injEq] at hz
    subst hz
    obtain⟨l,rfl⟩:=h3 ha
    simp only [Value.cells] at h2
    simp [h1,V.ae,h2]
   | false=>
    rw [ha] at hz
    simp only [Bool.false_eq_true,if_false] at hz
    have h4':=h4 ha
    rw [h1]
    have hcell:zv.cells=#[zv]:=by
     cases zv<;>first | rfl | exact absurd rfl (h4' _)
    rw [hcell] at h2
    have:=congrArg (fun x:Array Value=>x[0]?) h2
    simp only [List.getElem?_toArray,bk] at this
    rw [List.head?_eq_getElem?] at hz
    rw [hz] at this
    simpa using this
  split at h
  ·simp [R.ai] at h
  ·rename_i tt2 v2 hni
   split at h
   ·rename_i _ hb
    have he:=Nat.eq_of_beq_eq_true hb
    refine aD.value c.rep hl h ?_
    simp only [execOp,ho,hx,V.ae,Instr.typeAssert,Sem.run_bind,hk.cP,Result.andThen_ok]
    cases hdd:td.d<;>first
     | exact absurd hdd (hni _)
     | (simp [he,V.af,V.ae,X.tt,X.den];done)
   ·rename_i _ hb
    have he:=Nat.eq_of_beq_eq_true hb
    refine aD.value c.rep hl h ?_
    simp only [execOp,ho,hx,V.ae,Instr.typeAssert,Sem.run_bind,hk.cP,Result.andThen_ok]
    cases hdd:td.d<;>first
     | exact absurd hdd (hni _)
     | (simp [he];done)
   ·rename_i _ hb
    have he:¬tt2=t:=fun e=>by rw [e] at hb;simp at hb
    split at h
    ·rename_i z hz
     have hz':=zero_ok z hz
     refine aD.value c.rep hl h ?_
     simp only [execOp,ho,hx,V.ae,Instr.typeAssert,Sem.run_bind,hk.cP,Result.andThen_ok]
     cases hdd:td.d<;>first
      | exact absurd hdd (hni _)
      | (simp [he,hz',V.af,V.ae,X.tt,X.den];done)
    ·simp [R.ai] at h
   ·simp [R.ai] at h
  ·rename_i hni
   split at h
   ·split at h
    ·rename_i z hz
     have hz':=zero_ok z hz
     refine aD.value c.rep hl h ?_
     simp only [execOp,ho,hx,V.ae,Instr.typeAssert,Sem.run_bind,hk.cP,Result.andThen_ok]
     cases hdd:td.d<;>first
      | exact absurd hdd (hni _)
      | (simp [hz',V.af,V.ae,X.tt,X.den];done)
    ·simp [R.ai] at h
   ·simp [R.ai] at h
  ·simp [R.ai] at h
 ·simp [R.ai] at h
end ops
end Go.Proofs.YtmickljjofbmiaaGreatDoor
namespace Go.Proofs.YtmickljjofbmiaaGreatDoor
open Go
section ops
variable {P:Program} {cx:Cx} {ρ:Env} {π:Pl} {w:World} {tm:List V} {a:Act} {st st':St} {r:OR} {o:Oper}
theorem zj(c:Ctx P cx ρ π st.h w tm a){p:Option Operand}{v:Option V}(h:q8 cx tm p=some v):p.map a.eval=v.map (V.ae ρ π):=by
 unfold q8 at h
 split at h
 ·simp only [Option.some.injEq] at h
  subst h;rfl
 ·split at h
  ·rename_i x ex
   simp only [Option.some.injEq] at h
   subst h
   simp [aT c ex]
  ·simp at h
theorem jR{isS:Bool}{len cap l h:Nat}{lo hi:Option V} (e:b7 len cap lo hi=some (l,h)) (w:World):
  (Instr.sliceBounds isS len cap (lo.map (V.ae ρ π)) (hi.map (V.ae ρ π)) none).run P w=.ok (l,h,cap) w∧l≤h∧h≤cap:=by
 unfold b7 at e
 split at e
 ·simp at e
 ·rename_i hh ehh
  split at e
  ·simp at e
  ·rename_i ll ell
   split at e
   ·rename_i hb
    simp only [Option.some.injEq,Prod.mk.injEq] at e
    obtain⟨rfl,rfl⟩:=e
    rw [Bool.and_eq_true] at hb
    have h1:=Nat.le_of_ble_eq_true hb.1
    have h2:=Nat.le_of_ble_eq_true hb.2
    refine⟨?_,h1,h2⟩
    cases hi with
    | none=>
     simp only [Option.some.injEq] at ehh
     subst ehh
     cases lo with
     | none=>
      simp only [Option.some.injEq] at ell
      subst ell
      simp [Instr.sliceBounds]
     | some vl=>
      obtain⟨k,hk⟩:=ga (ρ:=ρ) (π:=π) ell
      simp [Instr.sliceBounds,hk,Instr.sliceBound,asIntOf,h1]
    | some vh=>
     obtain⟨k2,hk2⟩:=ga (ρ:=ρ) (π:=π) ehh
     cases lo with
     | none=>
      simp only [Option.some.injEq] at ell
      subst ell
      simp [Instr.sliceBounds,hk2,Instr.sliceBound,asIntOf,h2]
     | some vl=>
      obtain⟨k,hk⟩:=ga (ρ:=ρ) (π:=π) ell
      simp [Instr.sliceBounds,hk,hk2,Instr.sliceBound,asIntOf,h1,h2]
   ·simp at e
theorem gh{isS:Bool}{len cap l h m:Nat}{lo hi:Option V}{mx:V} (e:bf cap lo hi mx=some (l,h,m)) (w:World):
  (Instr.sliceBounds isS len cap (lo.map (V.ae ρ π)) (hi.map (V.ae ρ π)) (some (mx.ae ρ π))).run P w=.ok (l,h,m) w∧l≤h∧h≤m∧m≤cap:=by
 unfold bf at e
 split at e
 ·simp at e
 ·rename_i mm em
  split at e
  ·simp at e
  ·rename_i vh
   split at e
   ·simp at e
   ·rename_i hh eh
    split at e
    ·simp at e
    ·rename_i ll ell
     split at e
     ·rename_i hb
      simp only [Option.some.injEq,Prod.mk.injEq] at e
      obtain⟨rfl,rfl,rfl⟩:=e
      rw [Bool.and_eq_true,Bool.and_eq_true] at hb
      have h1:=Nat.le_of_ble_eq_true hb.1
      have h2:=Nat.le_of_ble_eq_true hb.2.1
      have h3:=Nat.le_of_ble_eq_true hb.2.2
      refine⟨?_,h1,h2,h3⟩
      obtain⟨k3,hk3⟩:=ga (ρ:=ρ) (π:=π) em
      obtain⟨k2,hk2⟩:=ga (ρ:=ρ) (π:=π) eh
      cases lo with
      | none=>
       simp only [Option.some.injEq] at ell
       subst ell
       simp [Instr.sliceBounds,hk2,hk3,Instr.sliceBound,asIntOf,h2,h3]
      | some vl=>
       obtain⟨k,hk⟩:=ga (ρ:=ρ) (π:=π) ell
       simp [Instr.sliceBounds,hk,hk2,hk3,Instr.sliceBound,asIntOf,h1,h2,h3]
     ·simp at e
theorem F1{len n C:Nat}{lo hi:Option V}{p:Nat×Nat}(hC:n≤C)(e:b7 len n lo hi=some p):b7 len C lo hi=some p:=by
 unfold b7 at e ⊢
 split at e
 ·cases e
 ·split at e
  ·cases e
  ·split at e
   ·rename_i hb
    rw [if_pos]
    ·exact e
    ·simp only [Bool.and_eq_true] at hb ⊢
     have h2:=Nat.le_of_ble_eq_true hb.2
     exact⟨hb.1,Nat.ble_eq_true_of_le (by omega)⟩
   ·cases e
theorem DE{n C:Nat}{lo hi:Option V}{mx:V}{p:Nat×Nat×Nat}(hC:n≤C)(e:bf n lo hi mx=some p):bf C lo hi mx=some p:=by
 unfold bf at e ⊢
 split at e
 ·cases e
 ·split at e
  ·cases e
  ·split at e
   ·cases e
   ·split at e
    ·cases e
    ·split at e
     ·rename_i hb
      rw [if_pos]
      ·exact e
      ·simp only [Bool.and_eq_true] at hb ⊢
       have h2:=Nat.le_of_ble_eq_true hb.2.2
       exact⟨hb.1,hb.2.1,Nat.ble_eq_true_of_le (by omega)⟩
     ·cases e
theorem DF{isS:Bool}{len cap:Nat}{lo hi:Option V}{mx:V}{p:Nat×Nat×Nat}(e:bf 0 lo hi mx=some p)(w:World):
  (Instr.sliceBounds isS len cap (lo.map (V.ae ρ π)) (hi.map (V.ae ρ π)) (some (mx.ae ρ π))).run P w=.ok (0,0,0) w:=by
 obtain⟨l,h,m⟩:=p
 have e':bf cap lo hi mx=some (l,h,m)∧l=0∧h=0∧m=0:=by
  have h0:=(gh (P:=P) (ρ:=ρ) (π:=π) (isS:=isS) (len:=len) e w).2
  refine⟨?_,by omega,by omega,by omega⟩
  unfold bf at e ⊢
  split at e
  ·cases e
  ·split at e
   ·cases e
   ·split at e
    ·cases e
    ·split at e
     ·cases e
     ·split at e
      ·rename_i hb
       obtain⟨rfl,rfl,rfl⟩:_∧_∧_:=by simpa only [Option.some.injEq,Prod.mk.injEq] using e
       rw [if_pos]
       simp only [Bool.and_eq_true] at hb ⊢
       exact⟨hb.1,hb.2.1,Nat.ble_eq_true_of_le (by omega)⟩
      ·cases e
 obtain⟨e1,rfl,rfl,rfl⟩:=e'
 exact (gh (P:=P) (ρ:=ρ) (π:=π) e1 w).1
theorem ok_slice{t:TypeId}{p:Operand}{lo hi mx:Option Operand}(c:Ctx P cx ρ π st.h w tm a)(hpc:av ρ st.pc)(ho:o.op=.slice t p lo hi mx)
  (h:(we cx tm st t p lo hi mx).ai ρ=some (r,st')):aD P cx tm ρ π st st' w ((execOp a.eval o).run P w) r:=by
 have hl:=cn.refl hpc
 unfold we at h
 split at h
 ·rename_i v vlo vhi vmx ex elo ehi emx
  have hx:=aT c ex
  have hlo:=zj c elo
  have hhi:=zj c ehi
  have hmx:=zj c emx
  have key:∀ u:V,(Instr.sliceAt t (v.ae ρ π) (vlo.map (V.ae ρ π)) (vhi.map (V.ae ρ π)) (vmx.map (V.ae ρ π))).run P w=.ok (u.ae ρ π) w→(execOp a.eval o).run P w=.ok (.value (u.ae ρ π)) w:=by
   intro u hu
   simp only [execOp,ho,hx,hlo,hhi,hmx,Sem.run_bind,hu,Result.andThen_ok,Sem.run_pure]
  split at h
  ·exact PT c hpc ho hx hlo hhi hmx h
  rename_i hnx
  clear hnx
  unfold D6 at h
  split at h
  ·rename_i mx
   unfold Gr at h
   split at h
   ·simp [R.ai] at h
   ·rename_i td hd
    have hk:=c.tt t td hd
    have hu:=hk.under
    split at h
    ·rename_i elem b off len cc hdd
     rw [hdd] at hu
     split at h
     ·simp [R.ai] at h
     ·rename_i ed hed
      have hke:=c.tt elem ed hed
      split at h
      ·rename_i x y z hb
       refine aD.value c.rep hl h (key _ ?_)
       obtain⟨hb2,h1,h2,h3⟩:=gh (P:=P) (ρ:=ρ) (π:=π) (isS:=true) (len:=len) hb w
       simp only [Instr.sliceAt,Instr.slice,Sem.run_bind,run_underlying hu,Result.andThen_ok,V.ae,Cp.ae,hb2,Option.map_some,hke.aO,Sem.run_pure]
       by_cases e:z=x
       ·subst e;simp
       ·have:Nat.beq z x=false:=by
         cases hq:Nat.beq z x
         ·rfl
         ·exact absurd (Nat.eq_of_beq_eq_true hq) e
        simp [e,this,b9]
      ·simp [R.ai] at h
    ·rename_i elem b off len b' o' n hdd
     rw [hdd] at hu
     split at h
     ·simp [R.ai] at h
     ·rename_i ed hed
      have hke:=c.tt elem ed hed
      split at h
      ·rename_i x y z hb
       refine aD.value c.rep hl h (key _ ?_)
       obtain⟨hb2,h1,h2,h3⟩:=gh (P:=P) (ρ:=ρ) (π:=π) (isS:=true) (len:=len) (DE (Nat.le_max_right ((π b').2-o') n) hb) w
       simp only [Instr.sliceAt,Instr.slice,Sem.run_bind,run_underlying hu,Result.andThen_ok,V.ae,Cp.ae,hb2,Option.map_some,hke.aO,Sem.run_pure]
       by_cases e:z=x
       ·subst e;simp
       ·have:Nat.beq z x=false:=by
         cases hq:Nat.beq z x
         ·rfl
         ·exact absurd (Nat.eq_of_beq_eq_true hq) e
        simp [e,this,b9]
      ·simp [R.ai] at h
    ·rename_i elem hdd
     rw [hdd] at hu
     split at h
     ·simp [R.ai] at h
     ·rename_i ed hed
      have hke:=c.tt elem ed hed
      split at h
      ·rename_i p2 hb
       obtain⟨x,y,z⟩:=p2
       refine aD.value c.rep hl h (key _ ?_)
       obtain⟨hb2,h1,h2,h3⟩:=gh (P:=P) (ρ:=ρ) (π:=π) (isS:=true) (len:=0) hb w
       have hx0:x=0:=by omega
       have hy0:y=0:=by omega
       have hz0:z=0:=by omega
       subst hx0 hy0 hz0
       simp only [Instr.sliceAt,Instr.slice,Sem.run_bind,run_underlying hu,Result.andThen_ok,V.ae,hb2,Option.map_some,Sem.run_pure,hke.aO]
       simp
      ·simp [R.ai] at h
    ·rename_i elem b off ln cp hdd
     rw [hdd] at hu
     split at h
     ·simp [R.ai] at h
     ·rename_i ed hed
      have hke:=c.tt elem ed hed
      split at h
      ·rename_i p2 hb
       refine aD.value c.rep hl h (key _ ?_)
       have hb2:=DF (P:=P) (ρ:=ρ) (π:=π) (isS:=true) (len:=(ln.den ρ).toNat) (cap:=(cp.den ρ).toNat) hb w
       simp only [Instr.sliceAt,Instr.slice,Sem.run_bind,run_underlying hu,Result.andThen_ok,V.ae,hb2,Option.map_some,Sem.run_pure,hke.aO]
       simp [X.den]
      ·simp [R.ai] at h
    ·rename_i n elem b off hdd
     rw [hdd] at hu
     split at h
     ·simp [R.ai] at h
     ·rename_i ed hed
      have hke:=c.tt elem ed hed
      split at h
      ·rename_i x y z hb
       refine aD.value c.rep hl h (key _ ?_)
       obtain⟨hb2,h1,h2,h3⟩:=gh (P:=P) (ρ:=ρ) (π:=π) (isS:=false) (len:=n) hb w
       simp only [Instr.sliceAt,Sem.run_bind,run_underlying hu,Result.andThen_ok,V.ae,Cp.ae,hb2,Option.map_some,hke.aO,Sem.run_pure,Instr.sureAddr]
       by_cases e:z=x
       ·subst e;simp
       ·have:Nat.beq z x=false:=by
         cases hq:Nat.beq z x
         ·rfl
         ·exact absurd (Nat.eq_of_beq_eq_true hq) e
        simp [e,this,b9]
      ·simp [R.ai] at h
    ·simp [R.ai] at h
  ·split at h
   ·simp [R.ai] at h
   ·rename_i td hd
    have hk:=c.tt t td hd
    have hu:=hk.under
    split at h
    ·rename_i l hdd
     rw [hdd] at hu
     split at h
     ·rename_i x y hb
      refine aD.value c.rep hl h (key _ ?_)
      have hb2:=(jR (P:=P) (ρ:=ρ) (π:=π) (isS:=false) hb w).1
      have hsz:(⟨(l.map UInt8.ofNat).toArray⟩:ByteArray).size=l.length:=by simp [ByteArray.size]
      simp only [Instr.sliceAt,Instr.slice,Sem.run_bind,run_underlying hu,Result.andThen_ok,V.ae,X.bw,hsz,hb2,Option.map_none,Option.isSome_none,Bool.false_eq_true,if_false,Sem.run_pure]
      have e:(⟨(l.map UInt8.ofNat).toArray⟩:ByteArray).extract x y=⟨(List.map UInt8.ofNat (List.take (y-x) (List.drop x l))).toArray⟩:=by
       apply ByteArray.ext
       apply Array.ext'
       rw [Lib.extract_data]
       simp [List.map_take,List.map_drop]
      rw [e]
     ·simp [R.ai] at h
    ·rename_i elem b off len cp hdd
     rw [hdd] at hu
     split at h
     ·simp [R.ai] at h
     ·rename_i ed hed
      have hke:=c.tt elem ed hed
      split at h
      ·rename_i cc
       split at h
       ·rename_i x y hb
        refine aD.value c.rep hl h (key _ ?_)
        obtain⟨hb2,h1,h2⟩:=jR (P:=P) (ρ:=ρ) (π:=π) (isS:=true) hb w
        simp only [Instr.sliceAt,Instr.slice,Sem.run_bind,run_underlying hu,Result.andThen_ok,V.ae,Cp.ae,hb2,Option.map_none,hke.aO,Sem.run_pure,Option.map_some]
        by_cases e:cc=x
        ·subst e;simp
        ·have:Nat.beq cc x=false:=by
          cases hq:Nat.beq cc x
          ·rfl
          ·exact absurd (Nat.eq_of_beq_eq_true hq) e
         simp [e,this,b9]
       ·simp [R.ai] at h
      ·rename_i b' o' n
       split at h
       ·rename_i x y hb
        have hb3:=F1 (Nat.le_max_right ((π b').2-o') n) hb
        obtain⟨hb2,h1,h2⟩:=jR (P:=P) (ρ:=ρ) (π:=π) (isS:=true) hb3 w
        obtain⟨_,h4,h5⟩:=jR (P:=P) (ρ:=ρ) (π:=π) (isS:=true) hb w
        split at h
        ·rename_i hx0
         obtain rfl:=Nat.eq_of_beq_eq_true hx0
         refine aD.value c.rep hl h (key _ ?_)
         simp only [Instr.sliceAt,Instr.slice,Sem.run_bind,run_underlying hu,Result.andThen_ok,V.ae,Cp.ae,hb2,Option.map_none,hke.aO,Sem.run_pure,Option.map_some]
         simp
         intro _
         exact b9 _ _ _
        ·rename_i hx0 hxn
         have hxn':x<n:=Nat.le_of_ble_eq_true hxn
         refine aD.value c.rep hl h (key _ ?_)
         simp only [Instr.sliceAt,Instr.slice,Sem.run_bind,run_underlying hu,Result.andThen_ok,V.ae,Cp.ae,hb2,Option.map_none,hke.aO,Sem.run_pure,Option.map_some]
         have hm:¬max ((π b').2-o') n=x:=by omega
         have hc:max ((π b').2-o') n-x=max ((π b').2-(o'+x)) (n-x):=by omega
         rw [if_neg hm,hc]
         simp [b9]
        ·rename_i hx0 hxn
         have hxn':¬x<n:=fun e=>by
          have:=Nat.ble_eq_true_of_le (show x+1≤n from e)
          exact absurd (show Nat.blt x n=true from this) (by rw [hxn];simp)
         split at h
         ·rename_i ho0 hbb
          obtain rfl:=Nat.eq_of_beq_eq_true ho0
          obtain rfl:=Nat.eq_of_beq_eq_true hbb
          refine aD.value c.rep hl h (key _ ?_)
          obtain rfl:x=n:=by omega
          obtain rfl:y=x:=by omega
          simp only [Instr.sliceAt,Instr.slice,Sem.run_bind,run_underlying hu,Result.andThen_ok,V.ae,Cp.ae,hb2,Option.map_none,hke.aO,Sem.run_pure,Option.map_some]
          have hc:max ((π b).2-0) y-y=(π b).2-y:=by omega
          rw [hc]
          by_cases hle:(π b).2≤y
          ·have hm:max ((π b).2-0) y=y:=by omega
           rw [if_pos hm,if_pos hle,Nat.sub_self]
          ·have hm:¬max ((π b).2-0) y=y:=by omega
           simp only [hm,hle,if_false,b9,Nat.sub_self]
         ·simp [R.ai] at h
       ·simp [R.ai] at h
    ·rename_i elem hdd
     rw [hdd] at hu
     split at h
     ·simp [R.ai] at h
     ·rename_i ed hed
      have hke:=c.tt elem ed hed
      split at h
      ·rename_i p2 hb
       obtain⟨x,y⟩:=p2
       refine aD.value c.rep hl h (key _ ?_)
       obtain⟨hb2,h1,h2⟩:=jR (P:=P) (ρ:=ρ) (π:=π) (isS:=true) hb w
       have hx0:x=0:=by omega
       have hy0:y=0:=by omega
       subst hx0 hy0
       simp only [Instr.sliceAt,Instr.slice,Sem.run_bind,run_underlying hu,Result.andThen_ok,V.ae,hb2,Option.map_none,Sem.run_pure,hke.aO]
       simp
      ·simp [R.ai] at h
    ·rename_i n elem b off hdd
     rw [hdd] at hu
     split at h
     ·simp [R.ai] at h
     ·rename_i ed hed
      have hke:=c.tt elem ed hed
      split at h
      ·rename_i x y hb
       refine aD.value c.rep hl h (key _ ?_)
       obtain⟨hb2,h1,h2⟩:=jR (P:=P) (ρ:=ρ) (π:=π) (isS:=false) hb w
       simp only [Instr.sliceAt,Sem.run_bind,run_underlying hu,Result.andThen_ok,V.ae,Cp.ae,hb2,Option.map_none,hke.aO,Sem.run_pure,Instr.sureAddr]
       by_cases e:n=x
       ·subst e;simp
       ·have:Nat.beq n x=false:=by
         cases hq:Nat.beq n x
         ·rfl
         ·exact absurd (Nat.eq_of_beq_eq_true hq) e
        simp [e,this,b9]
      ·simp [R.ai] at h
    ·simp [R.ai] at h
 ·simp [R.ai] at h
theorem Yv{cl:Call}(c:Ctx P cx ρ π st.h w tm a)(hpc:av ρ st.pc)(ho:o.op=.call cl)(hv:∀ b,cl.callee≠.builtin b)
  (h:(xm cx tm st cl).ai ρ=some (r,st')):aD P cx tm ρ π st st' w ((execOp a.eval o).run P w) r:=by
 unfold xm at h
 split at h
 ·rename_i f hcl
  split at h
  ·rename_i g first cap ef
   have hf:=aT c ef
   split at h
   ·rename_i args eargs
    have ha:=y9 c eargs
    split at h
    ·rename_i fn hfn
     obtain⟨h1,h2,h3⟩:=c.ft g fn hfn
     simp only [R.ai,Option.some.injEq,Prod.mk.injEq] at h
     obtain⟨rfl,rfl⟩:=h
     refine⟨hpc,Nat.le_refl _,fun _=>⟨?_,rfl,rfl,fn,h1⟩⟩
     have hb:¬fn.body=none:=by intro e;rw [e] at h3;simp at h3
     simp only [execOp,ho,resolve,hcl,hf,V.ae,Deferred.ofValue,qb,ha,Sem.run_bind,Sem.run_pure,Result.andThen_ok,invoke,callFunc,program,Sem.run,h1,h2]
     have hb2:fn.body.isNone=false:=by
      cases hq:fn.body with
      | none=>exact absurd hq hb
      | some _=>rfl
     simp [hb2,bP]
    ·simp [R.ai] at h
   ·simp [R.ai] at h
  ·rename_i l ef
   have hf:=aT c ef
   split at h
   ·rename_i args eargs
    have ha:=fY c eargs
    simp only [R.ai,Option.some.injEq,Prod.mk.injEq] at h
    obtain⟨rfl,rfl⟩:=h
    refine⟨hpc,Nat.le_refl _,fun _=>⟨?_,rfl,rfl,f,_,ef,eargs⟩⟩
    simp only [execOp,ho,resolve,hcl,hf,V.ae,Deferred.ofValue,qb,ha,Sem.run_bind,Sem.run_pure,Result.andThen_ok,invoke]
    simp
   ·simp [R.ai] at h
  ·simp [R.ai] at h
 ·rename_i b hcl
  exact absurd hcl (hv b)
 ·simp [R.ai] at h
theorem Sv{cl:Call}(c:Ctx P cx ρ π st.h w tm a)(hpc:av ρ st.pc)(ho:o.op=.defer cl)
  (h:(o5 cx tm st cl).ai ρ=some (r,st')):aD P cx tm ρ π st st' w ((execOp a.eval o).run P w) r:=by
 unfold o5 at h
 split at h
 ·rename_i f hcl
  split at h
  ·rename_i g first cap args ef eargs
   have hf:=aT c ef
   have ha:=fY c eargs
   simp only [R.ai,Option.some.injEq,Prod.mk.injEq] at h
   obtain⟨rfl,rfl⟩:=h
   refine⟨hpc,Nat.le_refl _,fun _=>⟨?_,rfl,rfl⟩⟩
   simp only [execOp,ho,resolve,hcl,hf,V.ae,Deferred.ofValue,qb,ha,Sem.run_bind,Sem.run_pure,Result.andThen_ok,bL.ae]
   simp [bP]
  ·simp [R.ai] at h
 ·simp [R.ai] at h
theorem SA{p:Operand}(c:Ctx P cx ρ π st.h w tm a)(hpc:av ρ st.pc)(ho:o.op=.panic p)
  (h:(v9 cx tm st p).ai ρ=some (r,st')):aD P cx tm ρ π st st' w ((execOp a.eval o).run P w) r:=by
 unfold v9 at h
 split at h
 ·rename_i t v ex
  have hx:=aT c ex
  simp only [R.ai,Option.some.injEq,Prod.mk.injEq] at h
  obtain⟨rfl,rfl⟩:=h
  refine⟨hpc,Nat.le_refl _,fun _=>⟨?_,rfl,rfl⟩⟩
  simp [execOp,ho,hx,V.ae,Instr.panic,goPanic]
 ·simp [R.ai] at h
end ops
end Go.Proofs.YtmickljjofbmiaaGreatDoor
namespace Go.Proofs.YtmickljjofbmiaaGreatDoor
open Go
theorem lM{x y:Value}(h:cu x y):cu y x:=by
 cases x<;>cases y<;>simp_all [cu]
 ·exact fun e=>h e.symm
 ·exact fun e=>h.2 e.symm
 ·exact fun e=>h e.symm
theorem fK{x:Value}(h:cu x x):False:=by
 cases x<;>simp_all [cu]
def fits:TypeDesc→Value→Prop
 | .int _,.int _ _=>True
 | .string,.string _=>True
 | .bool,.bool _=>True
 | _,_=>False
theorem Qf{d:TypeDesc}{x:Value}(h:fits d x):Instr.sameNow d x x=some true:=by
 cases d<;>cases x<;>simp_all [fits,Instr.sameNow]
 rename_i s
 rw [beq_toListBytes];simp
theorem xy{d:TypeDesc}{x y:Value}(h:fits d x)(hu:cu x y):Instr.sameNow d x y=some false:=by
 cases d<;>cases x<;>cases y<;>simp_all [fits,cu,Instr.sameNow]
 rename_i s t
 rw [beq_toListBytes]
 simp only [beq_eq_false_iff_ne,ne_eq]
 intro e
 apply hu
 apply ByteArray.ext
 apply Array.ext'
 rw [←ByteArray.toList_eq,←ByteArray.toList_eq,e]
abbrev PX (ms:List MapEntry):List (Value×Value):=ms.map fun e=>(e.key,e.val)
theorem oM{d:TypeDesc}{K v:Value}(hf:fits d K):∀ (ms:List MapEntry) (i:Nat),((PX ms).map (·.1)).Pairwise cu→(K,v)∈PX ms→
  ∃ j e,Instr.findNow d K ms i=some (some (i+j,v))∧ms[j]?=some e∧e.key=K
 | [],i,_,hm=>by simp at hm
 | e::ms,i,hp,hm=>by
  simp only [List.map_cons,List.pairwise_cons] at hp
  simp only [List.map_cons,List.mem_cons] at hm
  by_cases he:e.key=K
  ·have hv:e.val=v:=by
    rcases hm with hm | hm
    ·exact (Prod.ext_iff.1 hm).2.symm
    ·have:=hp.1 K (by simp only [List.map_map,List.mem_map] at hm ⊢;obtain⟨x,hx,e'⟩:=hm;exact⟨x,hx,(Prod.ext_iff.1 e').1⟩)
     rw [he] at this
     exact (fK this).elim
   exact⟨0,e,by simp [Instr.findNow,he,Qf hf,hv],rfl,he⟩
  ·have hm':(K,v)∈PX ms:=by
    rcases hm with hm | hm
    ·exact absurd (Prod.ext_iff.1 hm).1.symm he
    ·exact hm
   have hu:=hp.1 K (by simp only [List.map_map,List.mem_map] at hm' ⊢;obtain⟨x,hx,e'⟩:=hm';exact⟨x,hx,(Prod.ext_iff.1 e').1⟩)
   obtain⟨j,e2,h1,h2,h3⟩:=oM hf ms (i+1) hp.2 hm'
   exact⟨j+1,e2,by simp only [Instr.findNow,xy hf (lM hu),h1];congr 3;omega,h2,h3⟩
theorem m7{d:TypeDesc}{K:Value}(hf:fits d K):∀ (ms:List MapEntry) (i:Nat),(∀ x∈(PX ms).map (·.1),cu K x)→Instr.findNow d K ms i=some none
 | [],i,_=>rfl
 | e::ms,i,h=>by
  simp only [Instr.findNow,xy hf (h e.key (by simp)),m7 hf ms (i+1) (fun x hx=>h x (by simp only [List.map_cons,List.mem_cons];exact .inr hx))]
theorem iN{P:Program}{t:TypeId}{d:TypeDesc}{x:Value}(hu:P.underlying t=some d)(hf:fits d x)(b:Bool)(n:Nat)(w:World):(Instr.checkKey b (n+1) t x).run P w=.ok () w:=by
 unfold Instr.checkKey
 rw [Sem.run_bind,run_underlying hu,Result.andThen_ok]
 cases d<;>cases x<;>simp_all [fits]
section
variable {ρ:Env} {π:Pl} {α:Type}
theorem zP{d:TypeDesc}{k:V}(h:tx d k=true):fits d (k.ae ρ π):=by
 cases d<;>cases k<;>simp_all [tx,fits,V.ae]
theorem lV{key:V} {k:St→Option (Nat×V)→R α} {a:α}:∀ (es:List (V×V)) (i:Nat) (st:St),av ρ st.pc→(cF st key es i k).ai ρ=some a→
  ∃ st' res,cn ρ st st'∧(k st' res).ai ρ=some a ∧
   (∀ j v,res=some (j,v)→∃ m key',j=i+m∧es[m]?=some (key',v)∧key'.ae ρ π=key.ae ρ π) ∧
   (res=none→∀ x∈(entriesOf ρ π es).map (·.1),cu (key.ae ρ π) x)
 | [],i,st,hp,h=>⟨st,none,.refl hp,h,by simp,by simp [entriesOf]⟩
 | (key',v)::es,i,st,hp,h=>by
  simp only [cF] at h
  have hit:∀ st1,cn ρ st st1→key'.ae ρ π=key.ae ρ π→(k st1 (some (i,v))).ai ρ=some a→∃ st' res,cn ρ st st'∧(k st' res).ai ρ=some a ∧
   (∀ j v',res=some (j,v')→∃ m key'',j=i+m∧((key',v)::es)[m]?=some (key'',v')∧key''.ae ρ π=key.ae ρ π) ∧
   (res=none→∀ x∈(entriesOf ρ π ((key',v)::es)).map (·.1),cu (key.ae ρ π) x):=by
   intro st1 hl he hk
   refine⟨st1,some (i,v),hl,hk,?_,by simp⟩
   intro j v' e
   simp only [Option.some.injEq,Prod.mk.injEq] at e
   obtain⟨rfl,rfl⟩:=e
   exact⟨0,key',rfl,rfl,he⟩
  have miss:∀ st1,cn ρ st st1→cu (key.ae ρ π) (key'.ae ρ π)→(cF st1 key es (i+1) k).ai ρ=some a→∃ st' res,cn ρ st st'∧(k st' res).ai ρ=some a ∧
   (∀ j v',res=some (j,v')→∃ m key'',j=i+m∧((key',v)::es)[m]?=some (key'',v')∧key''.ae ρ π=key.ae ρ π) ∧
   (res=none→∀ x∈(entriesOf ρ π ((key',v)::es)).map (·.1),cu (key.ae ρ π) x):=by
   intro st1 hl hu hk
   obtain⟨st2,res,hl2,h2,h3,h4⟩:=lV es (i+1) st1 hl.pc hk
   refine⟨st2,res,hl.trans hl2,h2,?_,?_⟩
   ·intro j v' e
    obtain⟨m,key'',e1,e2,e3⟩:=h3 j v' e
    exact⟨m+1,key'',by omega,e2,e3⟩
   ·intro e x hx
    simp only [entriesOf,List.map_cons,List.mem_cons] at hx
    rcases hx with rfl | hx
    ·exact hu
    ·exact h4 e x hx
  split at h
  ·rename_i ka x kb y
   split at h
   ·rename_i hk
    obtain⟨st1,hl,h1⟩:=aU hp h
    rw [eM] at h1
    split at h1
    ·rename_i he
     simp only [beq_iff_eq] at he
     exact hit st1 hl (by simp [V.ae,aX hk,he]) h1
    ·rename_i he
     simp only [beq_iff_eq] at he
     exact miss st1 hl (by simp [V.ae,cu,aX hk,he]) h1
   ·simp [R.ai] at h
  ·rename_i x y
   obtain⟨st1,hl,h1⟩:=aU hp h
   rw [oh] at h1
   split at h1
   ·rename_i he
    simp only [beq_iff_eq] at he
    exact hit st1 hl (by simp [V.ae,he]) h1
   ·rename_i he
    simp only [beq_iff_eq] at he
    exact miss st1 hl (by
     simp only [V.ae,cu,ne_eq,ByteArray.mk.injEq]
     intro e
     exact he (by simpa using congrArg Array.toList e)) h1
  ·rename_i x y
   obtain⟨st1,hl,h1⟩:=aU hp h
   rw [z4] at h1
   split at h1
   ·rename_i he
    simp only [beq_iff_eq] at he
    exact hit st1 hl (by simp [V.ae,he]) h1
   ·rename_i he
    simp only [beq_iff_eq] at he
    exact miss st1 hl (by simp [V.ae,cu,he]) h1
  ·simp [R.ai] at h
end
end Go.Proofs.YtmickljjofbmiaaGreatDoor
namespace Go.Proofs.YtmickljjofbmiaaGreatDoor
open Go
section ops
variable {P:Program} {cx:Cx} {ρ:Env} {π:Pl} {w:World} {tm:List V} {a:Act} {st st':St} {r:OR} {o:Oper}
theorem KZ{t:TypeId}{td:TD}(hk:gP P t td){z:V}(hz:zeroV td=some z):(zeroValue t).run P w=.ok (z.ae ρ π) w:=by
 obtain⟨zv,h1,h2,h3,h4⟩:=fl hk w ρ π
 unfold zeroV at hz
 cases ha:td.agg with
 | true=>
  rw [ha] at hz
  simp only [if_true,Option.some.injEq] at hz
  subst hz
  obtain⟨l,rfl⟩:=h3 ha
  simp only [Value.cells] at h2
  simp [h1,V.ae,h2]
 | false=>
  rw [ha] at hz
  simp only [Bool.false_eq_true,if_false] at hz
  have h4':=h4 ha
  rw [h1]
  have hcell:zv.cells=#[zv]:=by
   cases zv<;>first | rfl | exact absurd rfl (h4' _)
  rw [hcell] at h2
  have:=congrArg (fun x:Array Value=>x[0]?) h2
  simp only [List.getElem?_toArray,bk] at this
  rw [List.head?_eq_getElem?] at hz
  rw [hz] at this
  simpa using this
theorem dD.LN{h:H}(hr:dD ρ π h w){b:Nat} {es:List (V×V)} (hb:h.get b=some (.map es)):
  ∃ (ms:List MapEntry) (clock:Nat),w.heap[(π b).1]?=some (.map ms.toArray clock)∧(PX ms).Perm (entriesOf ρ π es)∧((entriesOf ρ π es).map (·.1)).Pairwise cu:=by
 obtain⟨ob,h1,ms,clock,rfl,h2,h3⟩:=hr.obj b _ hb
 exact⟨ms,clock,h1,h2,h3⟩
theorem Cr{ms:List MapEntry} {es:List (V×V)} (h1:(PX ms).Perm (entriesOf ρ π es)) (h2:((entriesOf ρ π es).map (·.1)).Pairwise cu):((PX ms).map (·.1)).Pairwise cu:=
 (h1.map (·.1)).symm.pairwise h2 fun h=>lM h
theorem run_getObj_map{b:Nat}{ms:List MapEntry}{clock:Nat} (h:w.heap[b]?=some (.map ms.toArray clock)):(getObj b).run P w=.ok (.map ms.toArray clock) w:=by
 simp [getObj,Sem.run,h]
theorem zU{ed:TD}{okk:Bool}{t:TypeId}{p q:Operand}{K:Value}{M:Option Nat}(ho:o.op=.lookup t p q okk)(hp:a.eval p=.map M)(hq:a.eval q=K)
  (hr:dD ρ π st.h w) {st1:St} (hl:cn ρ st st1) {res:Option (Nat×V)} (h:(jU ed okk st1 res).ai ρ=some (r,st'))
  (hlook:∀ z:V,(∀ x,res=some x→z=x.2)→(res=none→zeroV ed=some z)→(Instr.lookup t (.map M) K okk).run P w=.ok (if okk then .tuple #[z.ae ρ π,.bool res.isSome] else z.ae ρ π) w):
  aD P cx tm ρ π st st' w ((execOp a.eval o).run P w) r:=by
 have key:∀ u:V,(Instr.lookup t (.map M) K okk).run P w=.ok (u.ae ρ π) w→(execOp a.eval o).run P w=.ok (.value (u.ae ρ π)) w:=by
  intro u hu
  simp only [execOp,ho,hp,hq,Sem.run_bind,hu,Result.andThen_ok,Sem.run_pure]
 unfold jU at h
 split at h
 ·refine aD.value hr hl h (key _ ?_)
  rw [hlook _ (fun x e=>by cases e;rfl) (by simp)]
  simp [V.ae,V.af,X.tt,X.den]
 ·refine aD.value hr hl h (key _ ?_)
  rw [hlook _ (fun x e=>by cases e;rfl) (by simp)]
  simp
 ·split at h
  ·rename_i z hz
   refine aD.value hr hl h (key _ ?_)
   rw [hlook z (by simp) (fun _=>hz)]
   simp [V.ae,V.af,X.tt,X.den]
  ·simp [R.ai] at h
 ·split at h
  ·rename_i z hz
   refine aD.value hr hl h (key _ ?_)
   rw [hlook z (by simp) (fun _=>hz)]
   simp
  ·simp [R.ai] at h
theorem PS{t:TypeId}{p q:Operand}{okk:Bool}(c:Ctx P cx ρ π st.h w tm a)(hpc:av ρ st.pc)(ho:o.op=.lookup t p q okk)
  (h:(ny cx tm st t p q okk).ai ρ=some (r,st')):aD P cx tm ρ π st st' w ((execOp a.eval o).run P w) r:=by
 unfold ny at h
 split at h
 ·rename_i x ix ex ey
  have hx:=aT c ex
  have hy:=aT c ey
  unfold s8 at h
  split at h
  ·rename_i td hd
   have hk:=c.tt t td hd
   split at h
   ·rename_i keyT elem hdd
    have hu:=hk.under
    rw [hdd] at hu
    split at h
    ·rename_i kd ed hkd hed
     have hkk:=c.tt keyT kd hkd
     have hke:=c.tt elem ed hed
     split at h
     ·rename_i hfit
      have hfits:=zP (ρ:=ρ) (π:=π) hfit
      split at h
      ·refine zU ho (by rw [hx];rfl) hy c.rep (.refl hpc) h ?_
       intro z _ hz
       have hz2:=KZ (ρ:=ρ) (π:=π) (w:=w) hke (hz rfl)
       simp only [Instr.lookup,Sem.run_bind,run_underlying hu,Result.andThen_ok,Sem.run_pure,iN hkk.under hfits,Instr.findKey,run_underlying hkk.under,Instr.findNow,hz2,pure_bind]
       cases okk<;>simp
      ·rename_i b
       split at h
       ·rename_i es hb
        obtain⟨ms,clock,h1,h2,h3⟩:=c.rep.LN hb
        obtain⟨st1,res,hl,hk2,hit,hmiss⟩:=lV (ρ:=ρ) (π:=π) es 0 st hpc h
        refine zU ho (by rw [hx];rfl) hy c.rep hl hk2 ?_
        intro z hz1 hz2
        have hkp:=Cr h2 h3
        cases res with
        | none=>
         have hz3:=KZ (ρ:=ρ) (π:=π) (w:=w) hke (hz2 rfl)
         have hm:=m7 hfits ms 0 (fun y hy=>hmiss rfl y ((h2.map (·.1)).mem_iff.1 hy))
         simp only [Instr.lookup,Sem.run_bind,run_underlying hu,Result.andThen_ok,run_getObj_map h1,Sem.run_pure,iN hkk.under hfits,Instr.findKey,run_underlying hkk.under,hm,hz3,pure_bind]
         cases okk<;>simp
        | some jv=>
         obtain⟨j,v⟩:=jv
         obtain⟨m,key',_,e2,e3⟩:=hit j v rfl
         have hmem:(ix.ae ρ π,v.ae ρ π)∈PX ms:=by
          refine h2.mem_iff.2 ?_
          rw [←e3]
          simp only [entriesOf,List.mem_map]
          exact⟨(key',v),List.mem_of_getElem? e2,rfl⟩
         obtain⟨j2,e,f1,_,_⟩:=oM hfits ms 0 hkp hmem
         have hzv:z=v:=hz1 (j,v) rfl
         subst hzv
         simp only [Instr.lookup,Sem.run_bind,run_underlying hu,Result.andThen_ok,run_getObj_map h1,Sem.run_pure,iN hkk.under hfits,Instr.findKey,run_underlying hkk.under,f1,pure_bind]
         cases okk<;>simp
       ·simp [R.ai] at h
      ·simp [R.ai] at h
     ·simp [R.ai] at h
    ·simp [R.ai] at h
   ·simp [R.ai] at h
  ·simp [R.ai] at h
 ·simp [R.ai] at h
theorem AO(v:V):∀ (es:List (V×V)) (n:Nat) (k u:V),es[n]?=some (k,u)→((entriesOf ρ π es).map (·.1)).Pairwise cu→
  ∀ f:Value×Value→Value×Value,(∀ x,x.1=k.ae ρ π→f x=(x.1,v.ae ρ π))→(∀ x,x.1≠k.ae ρ π→f x=x)→entriesOf ρ π (wA v es n)=(entriesOf ρ π es).map f
 | [],n,k,u,h,_,f,_,_=>by simp at h
 | (k',u')::es,0,k,u,h,hp,f,hf1,hf2=>by
  simp only [List.getElem?_cons_zero,Option.some.injEq,Prod.mk.injEq] at h
  obtain⟨rfl,rfl⟩:=h
  simp only [entriesOf,List.map_cons,List.pairwise_cons] at hp
  simp only [wA,entriesOf,List.map_cons]
  rw [hf1 _ rfl]
  congr 1
  rw [List.map_map]
  apply List.map_congr_left
  intro y hy
  refine (hf2 _ ?_).symm
  intro e
  have:=hp.1 _ (by rw [List.map_map];exact List.mem_map.2 ⟨y,hy,rfl⟩)
  simp only [Function.comp] at this
  rw [show (y.1.ae ρ π)=k'.ae ρ π from e] at this
  exact fK this
 | (k',u')::es,n+1,k,u,h,hp,f,hf1,hf2=>by
  simp only [List.getElem?_cons_succ] at h
  simp only [entriesOf,List.map_cons,List.pairwise_cons] at hp
  have ih:=AO v es n k u h hp.2 f hf1 hf2
  simp only [entriesOf] at ih
  simp only [wA,entriesOf,List.map_cons,ih]
  congr 1
  refine (hf2 _ ?_).symm
  intro e
  have:=hp.1 (k.ae ρ π) (by rw [List.map_map];exact List.mem_map.2 ⟨(k,u),List.mem_of_getElem? h,rfl⟩)
  rw [show (k'.ae ρ π)=k.ae ρ π from e] at this
  exact fK this
theorem z9(K v:Value)(b:MapEntry→MapEntry) (hb:∀ e,e.key=K→(b e).key=K∧(b e).val=v):∀ (ms:List MapEntry) (j:Nat) (e:MapEntry),ms[j]?=some e→e.key=K→((PX ms).map (·.1)).Pairwise cu→
  ∀ f:Value×Value→Value×Value,(∀ x,x.1=K→f x=(x.1,v))→(∀ x,x.1≠K→f x=x)→PX (ms.modify j b)=(PX ms).map f
 | [],j,e,h,_,_,f,_,_=>by simp at h
 | m::ms,0,e,h,he,hp,f,hf1,hf2=>by
  simp only [List.getElem?_cons_zero,Option.some.injEq] at h
  subst h
  simp only [List.map_cons,List.pairwise_cons] at hp
  simp only [List.modify_zero_cons,List.map_cons]
  rw [hf1 _ he]
  obtain⟨h1,h2⟩:=hb m he
  rw [h1,h2,he]
  congr 1
  rw [List.map_map]
  apply List.map_congr_left
  intro y hy
  refine (hf2 _ ?_).symm
  intro e
  have:=hp.1 _ (by rw [List.map_map];exact List.mem_map.2 ⟨y,hy,rfl⟩)
  simp only [Function.comp] at this
  rw [show y.key=K from e,he] at this
  exact fK this
 | m::ms,j+1,e,h,he,hp,f,hf1,hf2=>by
  simp only [List.getElem?_cons_succ] at h
  simp only [List.map_cons,List.pairwise_cons] at hp
  have ih:=z9 K v b hb ms j e h he hp.2 f hf1 hf2
  simp only [List.modify_succ_cons,List.map_cons]
  rw [show List.map (fun e=>(e.key,e.val)) (ms.modify j b)=_ from ih]
  congr 1
  refine (hf2 _ ?_).symm
  intro e'
  have:=hp.1 e.key (by rw [List.map_map];exact List.mem_map.2 ⟨e,List.mem_of_getElem? h,rfl⟩)
  rw [show m.key=K from e',he] at this
  exact fK this
theorem Fl{d:TypeDesc}{x:Value}(h:fits d x):Instr.sameBits 10000 x x=true:=by
 cases d<;>cases x<;>simp_all [fits,Instr.sameBits]
 rename_i s
 rw [beq_toListBytes];simp
theorem MV{t keyT elem:TypeId}{kd:TD}{b:Nat}{key v:V}(hr:dD ρ π st.h w) (hu:P.underlying t=some (.map keyT elem)) (hkk:gP P keyT kd) (hfits:fits kd.d (key.ae ρ π)) {es:List (V×V)} (hb:st.h.get b=some (.map es))
  {st1:St} (hl:cn ρ st st1) {res:Option (Nat×V)} (h:(wK b es key v st1 res).ai ρ=some (r,st'))
  (hit:∀ j u,res=some (j,u)→∃ m key',j=0+m∧es[m]?=some (key',u)∧key'.ae ρ π=key.ae ρ π)
  (hmiss:res=none→∀ x∈(entriesOf ρ π es).map (·.1),cu (key.ae ρ π) x):
  r=.skip∧av ρ st'.pc∧st'.n=st.n∧∃ w',(Instr.mapUpdate t (.map (some (π b).1)) (key.ae ρ π) (v.ae ρ π)).run P w=.ok () w'∧Mv ρ π st.h st.n w st'.h st'.n w':=by
 obtain⟨ms,clock,h1,h2,h3⟩:=hr.LN hb
 have hkp:=Cr h2 h3
 have hlt:(π b).1<w.heap.size:=(Array.getElem?_eq_some_iff.1 h1).1
 have hset:∀ ob:Obj,(setObj (π b).1 ob).run P w=.ok () {w with heap:=w.heap.setIfInBounds (π b).1 ob}:=by
  intro ob;simp [setObj,Sem.run,h1]
 unfold wK at h
 split at h
 ·rename_i j u
  simp only [R.ai,Option.some.injEq,Prod.mk.injEq] at h
  obtain⟨rfl,rfl⟩:=h
  obtain⟨m,key',e1,e2,e3⟩:=hit j u rfl
  have hmem:(key.ae ρ π,u.ae ρ π)∈PX ms:=by
   refine h2.mem_iff.2 ?_
   rw [←e3]
   simp only [entriesOf,List.mem_map]
   exact⟨(key',u),List.mem_of_getElem? e2,rfl⟩
  obtain⟨j2,e,f1,f2,f3⟩:=oM hfits ms 0 hkp hmem
  refine⟨rfl,hl.pc,hl.n,{w with heap:=w.heap.setIfInBounds (π b).1 (.map (ms.modify j2 fun e=>{e with key:=key.ae ρ π,val:=v.ae ρ π}).toArray clock)},?_,?_⟩
  ·have hk:(Instr.keyThatStays (((ms.toArray[0+j2]?).map (·.key)).getD (key.ae ρ π)) (key.ae ρ π)).run P w=.ok (key.ae ρ π) w:=by
    have:((ms.toArray[0+j2]?).map (·.key)).getD (key.ae ρ π)=key.ae ρ π:=by
     simp [f2,f3]
    rw [this]
    simp [Instr.keyThatStays,Fl hfits]
   simp only [Instr.mapUpdate,Sem.run_bind,run_underlying hu,Result.andThen_ok,run_getObj_map h1,iN hkk.under hfits,Instr.findKey,run_underlying hkk.under,f1,Sem.run_pure,hk,hset]
   simp
  ·have:=Mv.MQ hr st.n (o':=.map (wA v es j)) (ob:=.map (ms.modify j2 fun e=>{e with key:=key.ae ρ π,val:=v.ae ρ π}).toArray clock) hb ?_ rfl
   ·rw [hl.n,hl.h];exact this
   ·classical
    let f:Value×Value→Value×Value:=fun x=>if x.1=key.ae ρ π then (x.1,v.ae ρ π) else x
    have g1:∀ x:Value×Value,x.1=key.ae ρ π→f x=(x.1,v.ae ρ π):=fun x hx=>by simp [f,hx]
    have g2:∀ x:Value×Value,x.1≠key.ae ρ π→f x=x:=fun x hx=>by simp [f,hx]
    have q1:=AO (ρ:=ρ) (π:=π) v es m key' u e2 h3 f (fun x hx=>g1 x (hx.trans e3)) (fun x hx=>g2 x (fun e'=>hx (e'.trans e3.symm)))
    have q2:=z9 (key.ae ρ π) (v.ae ρ π) (fun e=>{e with key:=key.ae ρ π,val:=v.ae ρ π}) (fun _ _=>⟨rfl,rfl⟩) ms j2 e f2 f3 hkp f g1 g2
    have hj:j=m:=by omega
    subst hj
    refine⟨_,clock,rfl,?_,?_⟩
    ·show (PX _).Perm _
     rw [q1,q2];exact h2.map f
    ·rw [q1,List.map_map]
     have:((fun x:Value×Value=>x.1) ∘ f)=fun x=>x.1:=by
      funext x;simp only [Function.comp,f];split<;>rfl
     rw [this];exact h3
 ·simp only [R.ai,Option.some.injEq,Prod.mk.injEq] at h
  obtain⟨rfl,rfl⟩:=h
  have hm:=m7 hfits ms 0 (fun y hy=>hmiss rfl y ((h2.map (·.1)).mem_iff.1 hy))
  refine⟨rfl,hl.pc,hl.n,{w with heap:=w.heap.setIfInBounds (π b).1 (.map (ms++[({key:=key.ae ρ π,val:=v.ae ρ π,born:=clock}:MapEntry)]).toArray (clock+1))},?_,?_⟩
  ·simp only [Instr.mapUpdate,Sem.run_bind,run_underlying hu,Result.andThen_ok,run_getObj_map h1,iN hkk.under hfits,Instr.findKey,run_underlying hkk.under,hm,Sem.run_pure,hset]
   simp
  ·have:=Mv.MQ hr st.n (o':=.map (es++[(key,v)])) (ob:=.map (ms++[({key:=key.ae ρ π,val:=v.ae ρ π,born:=clock}:MapEntry)]).toArray (clock+1)) hb ?_ rfl
   ·rw [hl.n,hl.h];exact this
   ·refine⟨_,_,rfl,?_,?_⟩
    ·simp only [entriesOf,List.map_append,List.map_cons,List.map_nil]
     exact h2.append_right _
    ·simp only [entriesOf,List.map_append,List.map_cons,List.map_nil]
     rw [List.pairwise_append]
     refine⟨h3,by simp,?_⟩
     intro x hx y hy
     simp only [List.mem_singleton] at hy
     subst hy
     exact lM (hmiss rfl x hx)
theorem CL{t:TypeId}{p q s:Operand}(c:Ctx P cx ρ π st.h w tm a)(hpc:av ρ st.pc)(ho:o.op=.mapUpdate t p q s∨o.op=.insert t p q s)
  (h:(jG cx tm st t p q s).ai ρ=some (r,st')):aD P cx tm ρ π st st' w ((execOp a.eval o).run P w) r:=by
 unfold jG at h
 split at h
 ·rename_i x key v ex ey ez
  have hx:=aT c ex
  have hy:=aT c ey
  have hz:=aT c ez
  unfold k9 at h
  split at h
  ·rename_i td hd
   have hk:=c.tt t td hd
   split at h
   ·rename_i keyT elem hdd
    have hu:=hk.under
    rw [hdd] at hu
    split at h
    ·rename_i kd hkd
     have hkk:=c.tt keyT kd hkd
     split at h
     ·rename_i hfit
      have hfits:=zP (ρ:=ρ) (π:=π) hfit
      split at h
      ·rename_i b
       split at h
       ·rename_i es hb
        obtain⟨st1,res,hl,hk2,hit,hmiss⟩:=lV (ρ:=ρ) (π:=π) es 0 st hpc h
        obtain⟨rfl,g1,g2,w',g3,g4⟩:=MV c.rep hu hkk hfits hb hl hk2 hit hmiss
        refine⟨g1,by rw [g2];exact Nat.le_refl _,fun _=>⟨w',?_,g4⟩⟩
        rcases ho with ho | ho<;>simp only [execOp,ho,hx,hy,hz,V.ae,Sem.run_bind,g3,Result.andThen_ok,Sem.run_pure]
       ·simp [R.ai] at h
      ·simp [R.ai] at h
     ·simp [R.ai] at h
    ·simp [R.ai] at h
   ·simp [R.ai] at h
  ·simp [R.ai] at h
 ·simp [R.ai] at h
end ops
end Go.Proofs.YtmickljjofbmiaaGreatDoor
namespace Go.Proofs.YtmickljjofbmiaaGreatDoor
open Go
theorem Ci(m:Nat):∀ (r c:Nat),Builtin.growBy m r c+200≤2 ^ r*(c+200)
 | 0,c=>by simp [Builtin.growBy]
 | r+1,c=>by
  unfold Builtin.growBy
  split
  ·have:1*(c+200)≤2 ^ (r+1)*(c+200):=Nat.mul_le_mul_right _ Nat.one_le_two_pow
   omega
  ·have h1:=Ci m r (c+(c+768) / 4)
   have h2:c+(c+768) / 4+200≤2*(c+200):=by omega
   have h3:2 ^ r*(c+(c+768) / 4+200)≤2 ^ r*(2*(c+200)):=Nat.mul_le_mul_left _ h2
   have h4:2 ^ r*(2*(c+200))=2 ^ (r+1)*(c+200):=by rw [Nat.pow_succ,Nat.mul_assoc]
   omega
theorem Ac(need c bytes:Nat) (h:(need+c+1)*(bytes+1)≤2000000000):¬(Builtin.nextslicecap need c*bytes > 2 ^ 48):=by
 have h1:Builtin.nextslicecap need c≤need+16*c+3200:=by
  unfold Builtin.nextslicecap
  split
  ·omega
  ·split
   ·omega
   ·have:=Ci need 4 c
    omega
 have h2:Builtin.nextslicecap need c*bytes≤(need+16*c+3200)*bytes:=Nat.mul_le_mul_right _ h1
 have h3:(need+16*c+3200)*bytes≤3200*((need+c+1)*(bytes+1)):=by
  have e1:(need+16*c+3200)≤3200*(need+c+1):=by omega
  have e2:(need+16*c+3200)*bytes≤(3200*(need+c+1))*(bytes+1):=Nat.mul_le_mul e1 (by omega)
  rw [Nat.mul_assoc] at e2
  exact e2
 omega
theorem Oy(l:List UInt8):(⟨l.toArray⟩:ByteArray).size=l.length:=by simp [ByteArray.size]
section ops
variable {P:Program} {cx:Cx} {ρ:Env} {π:Pl} {w:World} {tm:List V} {a:Act} {st st':St} {r:OR} {o:Oper}
theorem dD.heap{h:H}{w':World}(hr:dD ρ π h w)(he:w'.heap=w.heap):dD ρ π h w':=⟨fun i o hi=>by rw [he];exact hr.obj i o hi,hr.inj⟩
theorem Mv.Cf{h h':H}{n n':Nat}{w1 w':World}(m:Mv ρ π h n w1 h' n' w')(he:w1.heap=w.heap)(hs:w1.tape=w.tape∧w1.os=w.os∧w1.output=w.output):Mv ρ π h n w h' n' w' where
 rep:=m.rep
 dom:=m.dom
 sub:=by rw [←he];exact m.sub
 keep:=by rw [←he];exact m.keep
 size:=by rw [←he];exact m.size
 same:=⟨m.same.1.trans hs.1,m.same.2.1.trans hs.2.1,m.same.2.2.trans hs.2.2⟩
theorem tB{v:V}{n:Nat}(h:Ew v=some n):(Builtin.lenOf (v.ae ρ π)).run P w=.ok n w:=by
 unfold Ew at h
 split at h
 ·simp only [Option.some.injEq] at h;subst h;simp [V.ae,Builtin.lenOf]
 ·simp only [Option.some.injEq] at h;subst h;simp [V.ae,X.den,Builtin.lenOf]
 ·simp only [Option.some.injEq] at h;subst h;simp [V.ae,Builtin.lenOf]
 ·simp only [Option.some.injEq] at h;subst h;simp [V.ae,Builtin.lenOf]
 ·simp only [Option.some.injEq] at h;subst h;simp [V.ae,Builtin.lenOf,X.bw,Oy]
 ·simp at h
theorem kj{h:H}(hr:dD ρ π h w){size n:Nat}{v:V}{cs:List V}(e:jE h size n v=some cs):
  (Builtin.firstCells size n (v.ae ρ π)).run P w=.ok (V.af ρ π cs).toArray w:=by
 unfold jE at e
 split at e
 ·simp only [V.ae,Builtin.firstCells]
  exact (kE hr e).1
 ·simp only [Option.some.injEq] at e;subst e;simp [V.ae,Builtin.firstCells,V.af]
 ·split at e
  ·simp only [Option.some.injEq] at e
   subst e
   simp [V.ae,Builtin.firstCells,V.af,loadCells,loadCellsFrom]
  ·cases e
 ·simp only [V.ae,Builtin.firstCells]
  exact (Za hr e).1
 ·rename_i l
  simp only [Option.some.injEq] at e;subst e
  simp only [V.ae,Builtin.firstCells,Sem.run_pure,X.bw]
  congr 1
  apply Array.ext'
  rw [Array.toList_map,Lib.extract_data]
  show List.map _ (((l.map UInt8.ofNat).toArray.toList.drop 0).take (n-0))=_
  simp only [List.drop_zero,Nat.sub_zero,bC,List.map_map,←List.map_take]
  apply List.map_congr_left
  intro x _
  simp [V.ae,X.den,UInt8.toNat_ofNat']
 ·simp at e
theorem Dc{α:Type}:∀ (l:List α),takeN l.length l=some l
 | []=>rfl
 | a::l=>by simp [takeN,Dc l]
theorem Mv.move{h:H}(hr:dD ρ π h w){n b:Nat}{o o':au}{ob:Obj}(hb:h.get b=some o) (hn:(π n).1=(π b).1) (ho:o'.is ρ π n ob) (hz:o.bG=false):
  Mv ρ π h n w ((h.drop b).set n o') (n+1) {w with heap:=w.heap.setIfInBounds (π b).1 ob}:=by
 obtain⟨ob0,h1,_⟩:=hr.obj b o hb
 have hlt:(π b).1<w.heap.size:=(Array.getElem?_eq_some_iff.1 h1).1
 have hget:∀ i x,n≠i→((h.drop b).set n o').get i=some x→h.get i=some x∧b≠i:=by
  intro i x e hi
  rw [T.aC _ _ e] at hi
  by_cases eb:b=i
  ·subst eb;rw [T.lW] at hi;simp at hi
  ·rw [T.ky _ eb] at hi;exact⟨hi,eb⟩
 refine⟨⟨?_,?_⟩,?_,?_,?_,?_,⟨rfl,rfl,rfl⟩⟩
 ·intro i x hi
  by_cases e:n=i
  ·subst e
   rw [T.aN] at hi
   cases hi
   exact⟨ob,by rw [hn];simp [hlt],ho⟩
  ·obtain⟨hi2,eb⟩:=hget i x e hi
   obtain⟨x',h2,h3⟩:=hr.obj i x hi2
   refine⟨x',?_,h3⟩
   have:(π b).1≠(π i).1:=fun e'=>(hr.inj b i _ _ hb hi2 e').elim eb fun h=>by rw [hz] at h;cases h.1
   rw [←h2]
   simp only [Array.getElem?_setIfInBounds]
   rw [if_neg this]
 ·intro i j x y hi hj he
  by_cases e:n=i
  ·by_cases e':n=j
   ·exact .inl (by rw [←e,←e'])
   ·obtain⟨hj2,eb⟩:=hget j y e' hj
    subst e
    exact ((hr.inj b j _ _ hb hj2 (by rw [←hn,he])).elim eb fun h=>by rw [hz] at h;cases h.1).elim
  ·obtain⟨hi2,eb⟩:=hget i x e hi
   by_cases e':n=j
   ·subst e'
    exact ((hr.inj b i _ _ hb hi2 (by rw [←hn,he])).elim eb fun h=>by rw [hz] at h;cases h.1).elim
   ·obtain⟨hj2,_⟩:=hget j y e' hj
    exact hr.inj i j _ _ hi2 hj2 he
 ·intro i x hi
  by_cases e:n=i
  ·exact .inr (by omega)
  ·exact .inl ⟨x,(hget i x e hi).1⟩
 ·intro i x hi
  by_cases e:n=i
  ·subst e;exact .inr ⟨b,o,hb,hn.symm,fun q=>by rw [hz] at q;cases q⟩
  ·exact .inr ⟨i,x,(hget i x e hi).1,rfl,id⟩
 ·intro j hj hne
  simp only [Array.getElem?_setIfInBounds]
  rw [if_neg fun e=>by have:=hne b o hb e;rw [hz] at this;cases this]
 ·simp
theorem dS{cl:Call}{b:Builtin}{args:List V}(ho:o.op=.call cl)(hb:cl.callee=.builtin b)(ha:cl.args.toList.map a.eval=V.af ρ π args):
  ∃ consts,(execOp a.eval o).run P w=(builtin b cl.argTypes o.type consts (V.af ρ π args).toArray).run P w:=by
 refine⟨cl.args.map fun | .const _=>true | _=>false,?_⟩
 simp only [execOp,ho,resolve,hb,qb,ha,Sem.run_bind,Sem.run_pure,Result.andThen_ok,invoke]
 rfl
theorem aaU{cl:Call}{args:List V}(c:Ctx P cx ρ π st.h w tm a)(hpc:av ρ st.pc)(ho:o.op=.call cl)(hb:cl.callee=.builtin .len)(ha:cl.args.toList.map a.eval=V.af ρ π args)
  (h:(Ni cx st cl.argTypes.toList args).ai ρ=some (r,st')):aD P cx tm ρ π st st' w ((execOp a.eval o).run P w) r:=by
 have hl:=cn.refl hpc
 obtain⟨consts,hrun⟩:=dS (P:=P) (w:=w) ho hb ha
 unfold Ni at h
 split at h
 ·rename_i t ts x xs hts
  have ht0:cl.argTypes[0]?=some t:=by rw [←Array.getElem?_toList,hts];rfl
  have key:∀ u:V,(Builtin.len_ cl.argTypes o.type (V.af ρ π (x::xs)).toArray).run P w=.ok (u.ae ρ π) w→(execOp a.eval o).run P w=.ok (.value (u.ae ρ π)) w:=by
   intro u hu
   rw [hrun]
   simp [builtin,hu]
  split at h
  ·rename_i td hd
   have hk:=c.tt t td hd
   have hu:=hk.under
   split at h
   ·rename_i y hdd
    rw [hdd] at hu
    refine aD.value c.rep hl h (key _ ?_)
    simp [Builtin.len_,ht0,V.af,run_underlying hu,V.ae,vO,Oy,goInt]
   ·rename_i n e y hdd
    rw [hdd] at hu
    refine aD.value c.rep hl h (key _ ?_)
    simp [Builtin.len_,ht0,V.af,run_underlying hu,V.ae,X.den,goInt]
   ·rename_i y arr hdd
    rw [hdd] at hu
    split at h
    ·rename_i ad had
     have hka:=c.tt arr ad had
     have hua:=hka.under
     split at h
     ·rename_i n e hdd2
      rw [hdd2] at hua
      refine aD.value c.rep hl h (key _ ?_)
      simp [Builtin.len_,ht0,V.af,run_underlying hu,run_underlying hua,V.ae,X.den,goInt]
     ·simp [R.ai] at h
    ·simp [R.ai] at h
   ·rename_i e b off n cp hdd
    rw [hdd] at hu
    refine aD.value c.rep hl h (key _ ?_)
    simp [Builtin.len_,ht0,V.af,run_underlying hu,V.ae,X.den,goInt]
   ·rename_i e hdd
    rw [hdd] at hu
    refine aD.value c.rep hl h (key _ ?_)
    simp [Builtin.len_,ht0,V.af,run_underlying hu,V.ae,X.den,goInt]
   ·rename_i e b off l z hdd
    rw [hdd] at hu
    refine aD.value c.rep hl h (key _ ?_)
    simp [Builtin.len_,ht0,V.af,run_underlying hu,V.ae,X.den,goInt]
   ·rename_i e b off n cp hdd
    rw [hdd] at hu
    obtain⟨st1,hl1,h1⟩:=aU hpc h
    rw [di] at h1
    split at h1
    ·rename_i hle
     have hle':=of_decide_eq_true hle
     simp only [X.den] at hle'
     refine aD.value c.rep hl1 h1 (key _ ?_)
     simp [Builtin.len_,ht0,V.af,run_underlying hu,V.ae,goInt]
     omega
    ·simp [R.ai] at h1
   ·rename_i k e hdd
    rw [hdd] at hu
    refine aD.value c.rep hl h (key _ ?_)
    simp [Builtin.len_,ht0,V.af,run_underlying hu,V.ae,X.den,goInt]
   ·rename_i k e b hdd
    rw [hdd] at hu
    split at h
    ·rename_i es hb
     obtain⟨ms,clock,h1,h2,_⟩:=c.rep.LN hb
     have hlen:ms.length=es.length:=by
      have:=h2.length_eq
      simpa [entriesOf] using this
     refine aD.value c.rep hl h (key _ ?_)
     simp [Builtin.len_,ht0,V.af,run_underlying hu,V.ae,X.den,goInt,run_getObj_map h1,hlen]
    ·simp [R.ai] at h
   ·simp [R.ai] at h
  ·simp [R.ai] at h
 ·simp [R.ai] at h
theorem NG{gt:Bool}{x y z:V}(h:G9 gt x y=some z):(if gt then Builtin.max2 (x.ae ρ π) (y.ae ρ π) else Builtin.min2 (x.ae ρ π) (y.ae ρ π)).run P w=.ok (z.ae ρ π) w:=by
 unfold G9 at h
 split at h
 ·split at h
  ·rename_i hk
   simp only [Option.some.injEq] at h
   subst h
   cases gt
   ·simp only [V.ae,Bool.false_eq_true,if_false,Builtin.min2,Sem.run_pure,gd,lq,decide_eq_true_eq]
   ·simp only [V.ae,if_true,Builtin.max2,Sem.run_pure,gd,lq,decide_eq_true_eq,gt_iff_lt]
  ·simp at h
 ·simp at h
theorem NI{gt:Bool}:∀ {l:List V} {x z:V},LO gt x l=some z→((V.af ρ π l).foldlM (if gt then Builtin.max2 else Builtin.min2) (x.ae ρ π)).run P w=.ok (z.ae ρ π) w
 | [],x,z,h=>by simp only [LO,Option.some.injEq] at h;subst h;simp [V.af]
 | y::l,x,z,h=>by
  simp only [LO] at h
  split at h
  ·rename_i c hc
   have:=NG (P:=P) (ρ:=ρ) (π:=π) (w:=w) hc
   have e:((if gt then Builtin.max2 else Builtin.min2) (x.ae ρ π) (y.ae ρ π)).run P w=.ok (c.ae ρ π) w:=by
    rw [←this];cases gt<;>rfl
   rw [V.af,List.foldlM_cons,Sem.run_bind,e,Result.andThen_ok]
   exact NI h
  ·simp at h
theorem Sz{gt:Bool}{cl:Call}{x:V}{l:List V}{s:String}(c:Ctx P cx ρ π st.h w tm a)(hpc:av ρ st.pc)(ho:o.op=.call cl) (hb:cl.callee=.builtin (if gt then .max else .min)) (ha:cl.args.toList.map a.eval=V.af ρ π (x::l))
  (h:(fG st (LO gt x l) s).ai ρ=some (r,st')):aD P cx tm ρ π st st' w ((execOp a.eval o).run P w) r:=by
 obtain⟨consts,hrun⟩:=dS (P:=P) (w:=w) ho hb ha
 refine aD.fG c.rep (.refl hpc) h fun u hu=>?_
 rw [hrun]
 have:=NI (P:=P) (ρ:=ρ) (π:=π) (w:=w) hu
 cases gt
 ·simp only [Bool.false_eq_true,if_false] at this ⊢
  simp [builtin,Builtin.min_,V.af,this]
 ·simp only [if_true] at this ⊢
  simp [builtin,Builtin.max_,V.af,this]
theorem CQ{k:IntKind}{b x y:X}:(V.int k (mkIte b x y)).ae ρ π=(V.int k (match b.tt ρ with
  | true=>x
  | false=>y)).ae ρ π:=by
 simp only [V.ae,gd]
 generalize b.tt ρ=t
 cases t<;>simp
theorem Iy{gt:Bool}{cl:Call}{x:V}{l:List V}{s:String}(c:Ctx P cx ρ π st.h w tm a)(hpc:av ρ st.pc)(ho:o.op=.call cl) (hb:cl.callee=.builtin (if gt then .max else .min)) (ha:cl.args.toList.map a.eval=V.af ρ π (x::l))
  (h:(Nj st gt x l s).ai ρ=some (r,st')):aD P cx tm ρ π st st' w ((execOp a.eval o).run P w) r:=by
 unfold Nj at h
 split at h
 ·rename_i k x j y _
  split at h
  ·rename_i hk
   obtain rfl:=aX hk
   obtain⟨consts,hrun⟩:=dS (P:=P) (w:=w) ho hb ha
   obtain⟨st1,hl1,h1⟩:=aU hpc h
   refine aD.value c.rep hl1 h1 ?_
   rw [hrun]
   have hz:G9 gt (.int k x) (.int k y)=some (.int k (if gt then mkIte (mkLt x y) y x else mkIte (mkLt y x) y x)):=by simp [G9,hk]
   have:=NG (P:=P) (ρ:=ρ) (π:=π) (w:=w) hz
   cases gt
   ·simp only [Bool.false_eq_true,if_false] at this ⊢
    rw [CQ] at this
    simp [builtin,Builtin.min_,V.af,this]
    cases (mkLt y x).tt ρ<;>rfl
   ·simp only [if_true] at this ⊢
    rw [CQ] at this
    simp [builtin,Builtin.max_,V.af,this]
    cases (mkLt x y).tt ρ<;>rfl
  ·exact Sz c hpc ho hb ha h
 ·exact Sz c hpc ho hb ha h
theorem Yw{cl:Call}{args:List V}(c:Ctx P cx ρ π st.h w tm a)(hpc:av ρ st.pc)(ho:o.op=.call cl)(hb:cl.callee=.builtin .copy)(ha:cl.args.toList.map a.eval=V.af ρ π args)
  (h:(Lo cx st cl.argTypes.toList args).ai ρ=some (r,st')):aD P cx tm ρ π st st' w ((execOp a.eval o).run P w) r:=by
 have hl:=cn.refl hpc
 obtain⟨consts,hrun⟩:=dS (P:=P) (w:=w) ho hb ha
 unfold Lo at h
 split at h
 ·rename_i t ts d x xs hts
  have ht0:cl.argTypes[0]?=some t:=by rw [←Array.getElem?_toList,hts];rfl
  split at h
  ·rename_i td hd
   have hk:=c.tt t td hd
   have hu:=hk.under
   split at h
   ·rename_i elem hdd
    rw [hdd] at hu
    split at h
    ·rename_i ed dl xl hed hdl hxl
     have hke:=c.tt elem ed hed
     simp only at h
     split at h
     ·simp [R.ai] at h
     ·rename_i cs hcs
      have h1:=tB (P:=P) (ρ:=ρ) (π:=π) (w:=w) hxl
      have h2:=kj (P:=P) (ρ:=ρ) (π:=π) c.rep hcs
      split at h
      ·refine aD.value c.rep hl h ?_
       rw [hrun]
       simp only [Ew,Option.some.injEq] at hdl
       subst hdl
       rw [Nat.min_zero] at h2
       simp [builtin,Builtin.copy_,ht0,V.af,run_underlying hu,V.ae,h1,hke.aO,h2,X.den,goInt]
      ·rename_i b off n2 cp
       simp only [Ew,Option.some.injEq] at hdl
       subst hdl
       split at h
       ·rename_i h' hp
        simp only [bm,R.ai,Option.some.injEq,Prod.mk.injEq] at h
        obtain⟨rfl,rfl⟩:=h
        obtain⟨w',g1,g2⟩:=lL (P:=P) c.rep hp st.n
        refine⟨hpc,Nat.le_refl _,fun _=>⟨w',?_,g2⟩⟩
        rw [hrun]
        simp [builtin,Builtin.copy_,ht0,V.af,run_underlying hu,V.ae,h1,hke.aO,h2,X.den,goInt,g1]
       ·simp [R.ai] at h
      ·simp [R.ai] at h
    ·simp [R.ai] at h
   ·simp [R.ai] at h
  ·simp [R.ai] at h
 ·simp [R.ai] at h
theorem uO{ρ:Env}{π:Pl}(z:List V)(n:Nat):Builtin.zeroCells (V.af ρ π z).toArray n=(V.af ρ π (bX z n)).toArray:=by
 unfold Builtin.zeroCells
 rw [show (V.af ρ π z).toArray.size=z.length by simp [ay]]
 have:=Bl ρ π z n
 rw [show (V.af ρ π z).toArray.size=z.length by simp [ay]] at this
 exact this
theorem Dy{cl:Call}{T:TypeId}{t u:TypeId}{elem:TypeId}{td ud ed:TD} (ht0:cl.argTypes[0]?=some t) (ht1:cl.argTypes[1]?=some u) (hk:gP P t td) (hku:gP P u ud) (hke:gP P elem ed)
  (hdd:td.d=.slice elem) (hud:∀ k,ud.d≠.int k) {h:H} (hr:dD ρ π h w) {x:V} {xs:List V} {base:Option Addr} {sLen sCap n:Nat} {old new:List V} (hx:Ew x=some n) (hnew:jE h ed.size n x=some new)
  (hold:∀ w':World,w'.heap=w.heap→(Builtin.firstCells ed.size sLen (.slice base sLen sCap)).run P w'=.ok (V.af ρ π old).toArray w')
  (hgt:¬sLen+n≤sCap) (hsmall:(sLen+n+sCap+1)*(ed.bytes+1)≤2000000000):
  ∃ (cap:Nat) (w1:World),sLen+n≤cap∧w1.heap=w.heap∧(w1.tape=w.tape∧w1.os=w.os∧w1.output=w.output) ∧
   (Builtin.append_ cl.argTypes T (Value.slice base sLen sCap::V.af ρ π (x::xs)).toArray).run P w =
    .ok (.slice (some ⟨w.heap.size,0,none⟩) (sLen+n) cap) {w1 with heap:=w1.heap.push (.cells (V.af ρ π (old++new)++V.af ρ π (bX ed.zero (cap-(sLen+n)))).toArray elem (0,0))}:=by
 have hu:=hk.under
 rw [hdd] at hu
 obtain⟨i,hi,hsz,hby,_⟩:=hke.info
 have hti:∀ w:World,(typeInfo elem).run P w=.ok i w:=fun w=>by simp [typeInfo,hi]
 have hneed:sLen+n≤2000000000:=by
  have:(sLen+n+sCap+1)*1≤(sLen+n+sCap+1)*(ed.bytes+1):=Nat.mul_le_mul_left _ (by omega)
  omega
 have hcap:=Ac (sLen+n) sCap ed.bytes hsmall
 let q:Question:=.appendCap (sLen+n) sCap elem
 let w1:World:={w with drawn:=w.drawn+1}
 have hch:(choose q).run P w=.ok (q.cut (w.tape w.drawn q)) w1:=by
  simp [choose,Sem.run,q,Question.forced,w1]
 have hle:sLen+n≤q.cut (w.tape w.drawn q):=by simp [q,Question.cut]
 have hroom:∀ (m:Nat) (w:World),(askRoom m).run P w=.ok () w:=by
  intro m w
  unfold askRoom
  split<;>simp [mark,Sem.run]
 refine⟨q.cut (w.tape w.drawn q),w1,hle,rfl,⟨rfl,rfl,rfl⟩,?_⟩
 have hr1:dD ρ π h w1:=hr.heap rfl
 obtain⟨z,hz,hzc,_⟩:=fl hke w1 ρ π
 have hzeros:(underlying u).run P w=.ok ud.d w:=hku.cP w
 have hnz:(match ud.d with | .int _=>true | _=>false)=false:=by
  cases hq:ud.d<;>first | rfl | exact absurd hq (hud _)
 have hmx:¬(((sLen+n:Nat):Int) > IntKind.i64.max):=by rw [IntKind.max_i64];omega
 have hh1:=tB (P:=P) (ρ:=ρ) (π:=π) (w:=w) hx
 have hh2:=kj (P:=P) (ρ:=ρ) (π:=π) hr1 hnew
 have hm:∀ (al be:Bool),(match ud.d with | .int _=>al | _=>be)=be:=by
  intro al be
  cases hq:ud.d<;>first | rfl | exact absurd hq (hud _)
 simp only [Builtin.append_,ht0,ht1,V.af,List.getElem?_toArray,List.getElem?_cons_zero,List.getElem?_cons_succ,Sem.run_bind,run_underlying hu,Result.andThen_ok,hke.aO,hzeros,Sem.run_pure]
 have hold1:=hold w1 rfl
 have hch':(choose (Question.appendCap (sLen+n) sCap elem)).run P w=.ok (q.cut (w.tape w.drawn q)) w1:=hch
 simp only [Bool.false_eq_true,if_false,Bool.not_false,if_true,Sem.run_bind,hh1,Result.andThen_ok,if_neg hgt,hti,hmx,false_and,hby,hcap,hch',hroom,hold1,hh2,hz,hzc,uO]
 simp only [newRow,Go.newObj,Sem.run_bind,Sem.run,Result.andThen_ok,Sem.run_pure]
 simp only [bP,List.append_toArray]
 rfl
theorem PQ{cl:Call}{args:List V}(c:Ctx P cx ρ π st.h w tm a)(hpc:av ρ st.pc)(ho:o.op=.call cl)(hb:cl.callee=.builtin .append)(ha:cl.args.toList.map a.eval=V.af ρ π args)
  (h:(y8 cx st cl.argTypes.toList args).ai ρ=some (r,st')):aD P cx tm ρ π st st' w ((execOp a.eval o).run P w) r:=by
 have hl:=cn.refl hpc
 obtain⟨consts,hrun⟩:=dS (P:=P) (w:=w) ho hb ha
 unfold y8 at h
 split at h
 ·rename_i t u ts s x xs hts
  have ht0:cl.argTypes[0]?=some t:=by rw [←Array.getElem?_toList,hts];rfl
  have ht1:cl.argTypes[1]?=some u:=by rw [←Array.getElem?_toList,hts];rfl
  split at h
  ·rename_i td ud hd hud
   have hk:=c.tt t td hd
   have hku:=c.tt u ud hud
   split at h
   ·simp [R.ai] at h
   ·rename_i elem hdd hni
    split at h
    ·simp [R.ai] at h
    ·rename_i ed hed
     have hke:=c.tt elem ed hed
     split at h
     ·simp [R.ai] at h
     ·rename_i n hn
      split at h
      ·simp [R.ai] at h
      ·rename_i new hnew
       split at h
       ·simp [R.ai] at h
       ·rename_i hsz
        have hsz':=Nat.eq_of_beq_eq_true hsz
        have hlx:=tB (P:=P) (ρ:=ρ) (π:=π) (w:=w) hn
        have hex:=kj (P:=P) (ρ:=ρ) (π:=π) c.rep hnew
        have hu:=hk.under
        rw [hdd] at hu
        have hniz:∀ k,ud.d≠.int k:=fun k e=>hni k e
        -- a new, wide block
        have wide:∀ (base:Option Addr) (sLen sCap:Nat) (old:List V) (hs:s.ae ρ π=.slice base sLen sCap) (hold:∀ w':World,w'.heap=w.heap→(Builtin.firstCells ed.size sLen (.slice base sLen sCap)).run P w'=.ok (V.af ρ π old).toArray w')
          (hol:old.length=sLen*ed.size) (hgt:¬sLen+n≤sCap) (hsmall:(sLen+n+sCap+1)*(ed.bytes+1)≤2000000000) (hd:H) (hsub:∀ i o,hd.get i=some o→st.h.get i=some o)
          (h:R.ai ρ (bm (newObj {st with h:=hd} (.cells (old++new) elem (some ed.size))) (.slice st.n 0 (sLen+n) (.room st.n 0 (sLen+n))))=some (r,st')),aD P cx tm ρ π st st' w ((execOp a.eval o).run P w) r:=by
         intro base sLen sCap old hs hold hol hgt hsmall hd hsub h
         simp only [bm,R.ai,Option.some.injEq,Prod.mk.injEq] at h
         obtain⟨rfl,rfl⟩:=h
         obtain⟨cap,w1,hle,hw1,hw2,hap⟩:=Dy (T:=o.type) (xs:=xs) ht0 ht1 hk hku hke hdd hniz c.rep hn hnew hold hgt hsmall
         rw [←hs] at hap
         have hfull:(execOp a.eval o).run P w=.ok (.value (.slice (some ⟨w.heap.size,0,none⟩) (sLen+n) cap)) {w1 with heap:=w1.heap.push (.cells (V.af ρ π (old++new)++V.af ρ π (bX ed.zero (cap-(sLen+n)))).toArray elem (0,0))}:=by
          rw [hrun]
          simp only [builtin,V.af,Sem.run_bind] at hap ⊢
          rw [hap]
          rfl
         refine⟨hpc,by simp [newObj],fun hpl=>?_⟩
         have hpl':=hpl (by simp [newObj])
         rw [hfull] at hpl'
         simp only [mK] at hpl'
         refine⟨_,by rw [hfull];simp only [V.ae,Cp.ae,hpl',Nat.sub_zero,Nat.max_eq_left hle];rfl,?_⟩
         have hr1:dD ρ π hd w1:=⟨fun i o hi=>by rw [hw1];exact c.rep.obj i o (hsub i o hi),fun i j o o' hi hj=>c.rep.inj i j o o' (hsub i o hi) (hsub j o' hj)⟩
         have m:=Mv.new (n:=st.n) (o:=.cells (old++new) elem (some ed.size)) (ob:=.cells (V.af ρ π (old++new)++V.af ρ π (bX ed.zero (cap-(sLen+n)))).toArray elem (0,0)) hr1 (by rw [hpl',hw1]) ⟨_,rfl,by
          simp only [Bf,ay,fj,hke.len,List.length_append,hsz',hol,hpl']
          rw [←Nat.add_mul,←Nat.add_mul]
          congr 1;omega⟩
         have m2:=m.Cf (w:=w) hw1 hw2
         exact⟨m2.rep,fun i o hi=>(m2.dom i o hi).imp_left fun⟨o0,h0⟩=>⟨o0,hsub i o0 h0⟩,fun i o hi=>(m2.sub i o hi).imp_right fun⟨i0,o0,h0,e,z⟩=>⟨i0,o0,hsub i0 o0 h0,e,z⟩,
          fun j hj hne=>m2.keep j hj fun i o hi=>hne i o (hsub i o hi),m2.size,m2.same⟩
        split at h
        ·-- nil
         split at h
         ·rename_i hn0
          have hn0':=Nat.eq_of_beq_eq_true hn0
          subst hn0'
          refine aD.value c.rep hl h ?_
          rw [hrun]
          simp [builtin,Builtin.append_,ht0,ht1,V.af,V.ae,run_underlying hu,hke.aO,hku.cP,hlx,hex]
         ·rename_i hn0
          split at h
          ·rename_i hsm
           have hsm':=Nat.le_of_ble_eq_true hsm
           have hne:n≠0:=fun e=>hn0 (by rw [e];rfl)
           have h':R.ai ρ (bm (newObj {st with h:=st.h} (.cells ([]++new) elem (some ed.size))) (.slice st.n 0 (0+n) (.room st.n 0 (0+n))))=some (r,st'):=by simpa using h
           exact wide none 0 0 [] rfl (fun w' _=>by simp [Builtin.firstCells,V.af]) (by simp) (by omega) (by simp only [Nat.zero_add,Nat.add_zero];omega) st.h (fun _ _ h=>h) h'
          ·simp [R.ai] at h
        ·rename_i b off len cc
         split at h
         ·rename_i hfit
          have hfit':=Nat.le_of_ble_eq_true hfit
          split at h
          ·rename_i h' hp
           simp only [bm,R.ai,Option.some.injEq,Prod.mk.injEq] at h
           obtain⟨rfl,rfl⟩:=h
           obtain⟨w',g1,g2⟩:=lL (P:=P) c.rep hp st.n
           refine⟨hpc,Nat.le_refl _,fun _=>⟨w',?_,g2⟩⟩
           rw [hrun]
           simp [builtin,Builtin.append_,ht0,ht1,V.af,V.ae,Cp.ae,run_underlying hu,hke.aO,hku.cP,hlx,hex,hfit',b9,g1]
          ·simp [R.ai] at h
         ·rename_i hfit
          split at h
          ·rename_i hsm
           have hsm':=Nat.le_of_ble_eq_true hsm
           split at h
           ·rename_i old hold
            have hgt:¬len+n≤cc:=fun e=>hfit (Nat.ble_eq_true_of_le e)
            exact wide _ len cc old rfl (fun w' hw'=>(kE (c.rep.heap hw') hold).1) (kE (P:=P) c.rep hold).2 hgt (by omega) st.h (fun _ _ h=>h) h
           ·simp [R.ai] at h
          ·simp [R.ai] at h
        ·rename_i b len b' lo
         split at h
         ·rename_i cs e sz hbk
          split at h
          ·rename_i hall
           simp only [Bool.and_eq_true] at hall
           obtain⟨⟨⟨⟨⟨⟨⟨hb1,hb2⟩,hb3⟩,hb4⟩,hb5⟩,hb6⟩,hb7⟩,hb8⟩:=hall
           have e1:=Nat.eq_of_beq_eq_true hb1
           have e2:=Nat.eq_of_beq_eq_true hb2
           have e3:=Nat.eq_of_beq_eq_true hb3
           have e4:=Nat.eq_of_beq_eq_true hb4
           have e5:=Nat.le_of_ble_eq_true hb5
           subst e1 e2 e4
           obtain⟨spare,hsp1,hsp2⟩:=c.rep.yX hbk
           simp only [Bf] at hsp2
           have hlo:=Nat.le_of_ble_eq_true hb7
           have hsz0:0<ed.size:=Nat.le_of_ble_eq_true hb8
           have hlen:len≤(π b).2:=by
            have:len*ed.size≤(π b).2*ed.size:=by omega
            exact Nat.le_of_mul_le_mul_right this hsz0
           have hcap:max (π b).2 lo=(π b).2:=Nat.max_eq_left (by omega)
           by_cases hfit:len+n≤(π b).2
           ·simp only [bm,R.ai,Option.some.injEq,Prod.mk.injEq] at h
            obtain⟨rfl,rfl⟩:=h
            have hfits:len*ed.size+n*ed.size≤(π b).2*ed.size:=by
             rw [←Nat.add_mul];exact Nat.mul_le_mul_right _ hfit
            have hst:=run_storeCells_at (P:=P) (π b).1 (len*ed.size) e (V.af ρ π new) 0 _ w hsp1 (by simp only [List.size_toArray,List.length_append,ay];omega) (fun v hv=>by
             rw [bC] at hv
             obtain⟨u,hu,rfl⟩:=List.mem_map.1 hv
             exact tJ ρ π u (rE hb6 u hu))
            have hlt:(π b).1<w.heap.size:=(Array.getElem?_eq_some_iff.1 hsp1).1
            have ew:w.setRow (π b).1 (List.take (len*ed.size+0) (V.af ρ π cs++spare).toArray.toList++V.af ρ π new++List.drop (len*ed.size+0+(V.af ρ π new).length) (V.af ρ π cs++spare).toArray.toList).toArray =
              {w with heap:=w.heap.setIfInBounds (π b).1 (.cells (V.af ρ π (cs++new)++spare.drop new.length).toArray e (0,0))}:=by
             unfold World.setRow
             congr 1
             apply Array.ext_getElem?
             intro j
             simp only [Array.getElem?_modify,Array.getElem?_setIfInBounds]
             by_cases ej:(π b).1=j
             ·subst ej
              simp only [if_true,hsp1,hlt,Option.map_some]
              congr 2
              simp only [Nat.add_zero,ay,bP]
              rw [List.take_append_of_le_length (by rw [ay];omega),List.take_of_length_le (by rw [ay];omega),List.drop_append,List.drop_of_length_le (by rw [ay];omega)]
              simp only [List.nil_append,ay]
              rw [show len*ed.size+new.length-cs.length=new.length by omega]
             ·simp [ej]
            rw [ew] at hst
            have hfull:(execOp a.eval o).run P w=.ok (.value (.slice (some ⟨(π b).1,0,none⟩) (len+n) (π b).2)) {w with heap:=w.heap.setIfInBounds (π b).1 (.cells (V.af ρ π (cs++new)++spare.drop new.length).toArray e (0,0))}:=by
             rw [hrun]
             simp [builtin,Builtin.append_,ht0,ht1,V.af,V.ae,Cp.ae,hcap,run_underlying hu,hke.aO,hku.cP,hlx,hex,hfit,b9,hst]
            refine⟨hpc,by simp [newObj],fun hpl=>?_⟩
            have hpl':=hpl (by simp [newObj])
            rw [hfull] at hpl'
            simp only [mK] at hpl'
            refine⟨_,by rw [hfull];simp only [V.ae,Cp.ae,hpl',Nat.sub_zero,Nat.max_eq_left hfit];rfl,?_⟩
            exact Mv.move (o':=.cells (cs++new) e (some ed.size)) c.rep hbk (by rw [hpl']) ⟨_,rfl,by
             simp only [Bf,List.length_append,List.length_drop,hpl']
             omega⟩ rfl
           ·have hold:cv st.h b 0 (len*ed.size)=some cs:=by
             simp only [cv,rowAt,hbk,cN,List.drop_zero]
             rw [←e3];exact Dc cs
            refine wide _ len (π b).2 cs (by simp only [V.ae,Cp.ae,Nat.sub_zero,hcap];rfl) (fun w' hw'=>?_) e3 (by omega) ?_ (st.h.drop b) (fun i o hi=>?_) h
            ·exact (kE (c.rep.heap hw') hold).1
            ·have:(len+n+(π b).2+1)*(ed.bytes+1)≤(2*(len+n+1))*(ed.bytes+1):=Nat.mul_le_mul_right _ (by omega)
             rw [Nat.mul_assoc] at this
             omega
            ·by_cases eb:b=i
             ·subst eb;rw [T.lW] at hi;simp at hi
             ·rw [T.ky _ eb] at hi;exact hi
          ·simp [R.ai] at h
         ·simp [R.ai] at h
        ·rename_i b off
         split at h
         ·rename_i hn0
          have hn0':=Nat.eq_of_beq_eq_true hn0
          subst hn0'
          obtain rfl:new=[]:=List.eq_nil_of_length_eq_zero (by omega)
          refine aD.value c.rep hl h ?_
          rw [hrun]
          simp [builtin,Builtin.append_,ht0,ht1,V.af,V.ae,X.den,run_underlying hu,hke.aO,hku.cP,hlx,hex,storeCells]
         ·rename_i hn0
          split at h
          ·rename_i hsm
           have hsm':=Nat.le_of_ble_eq_true hsm
           have hne:n≠0:=fun e=>hn0 (by rw [e];rfl)
           have h':R.ai ρ (bm (newObj {st with h:=st.h} (.cells ([]++new) elem (some ed.size))) (.slice st.n 0 (0+n) (.room st.n 0 (0+n))))=some (r,st'):=by simpa using h
           exact wide (some ((ρ.win b).add off)) 0 0 [] rfl (fun w' _=>by simp [Builtin.firstCells,V.af,loadCells,loadCellsFrom]) (by simp) (by omega) (by simp only [Nat.zero_add,Nat.add_zero];omega) st.h (fun _ _ h=>h) h'
          ·simp [R.ai] at h
        ·simp [R.ai] at h
   ·simp [R.ai] at h
  ·simp [R.ai] at h
 ·simp [R.ai] at h
theorem Ld(x:X):(Rk x).bw ρ=[UInt8.ofNat (x.den ρ).toNat]:=by
 cases x<;>first
  | rfl
  | (simp only [Rk,X.bw,X.den,List.map_cons,List.map_nil];congr 1;apply UInt8.toNat_inj.1;simp)
theorem KT:∀ {cs:List V} {r:X},De cs=some r→∃ ns:List Int,V.af ρ π cs=ns.map (Value.int .u8)∧r.bw ρ=ns.map fun n=>UInt8.ofNat n.toNat
 | [],r,h=>by
  obtain rfl:=Option.some.inj h
  exact⟨[],rfl,rfl⟩
 | v::l,r,h=>by
  unfold De at h
  split at h
  ·rename_i x
   split at h
   ·rename_i q hq
    obtain rfl:=Option.some.inj h
    obtain⟨ns,h1,h2⟩:=KT hq
    exact⟨x.den ρ::ns,by simp [V.af,V.ae,h1],by rw [rZ,Ld,h2];rfl⟩
   ·cases h
  ·cases h
theorem Y6{src dst e:TypeId} (hs:P.underlying src=some (.slice e)) (he:P.underlying e=some (.int .u8)) (hd:P.underlying dst=some .string) {h:H} (hr:dD ρ π h w) {x:V} {n:Nat} {cs:List V} {r:X}
  (hn:Mz x=some n) (hc:jE h 1 n x=some cs) (ht:De cs=some r):(convert src dst (x.ae ρ π)).run P w=.ok ((V.str r).ae ρ π) w:=by
 obtain⟨ns,h1,h2⟩:=KT (ρ:=ρ) (π:=π) ht
 have h3:=kj (P:=P) hr hc
 rw [h1] at h3
 have fin:∀ (a:Addr) (cap:Nat),(loadCells a n).run P w=.ok (ns.map (Value.int .u8)).toArray w→(convert src dst (.slice (some a) n cap)).run P w=.ok ((V.str r).ae ρ π) w:=fun a cap hl=>by
  rw [run_convert_bytes_string w src dst e _ n cap hs he hd,run_bytesToString w _ n cap ns hl,foldl_push_bytes]
  simp only [V.ae,h2,ByteArray.empty,ByteArray.emptyWithCapacity]
  simp
  rfl
 unfold Mz at hn
 split at hn
 ·obtain rfl:=Option.some.inj hn
  simp only [V.ae,Builtin.firstCells,Nat.mul_one] at h3 ⊢
  exact fin _ _ h3
 ·obtain rfl:=Option.some.inj hn
  simp only [V.ae,Builtin.firstCells,Nat.mul_one] at h3
  exact fin _ _ h3
 ·obtain rfl:=Option.some.inj hn
  simp only [jE,Option.some.injEq] at hc
  subst hc
  simp only [De,Option.some.injEq] at ht
  subst ht
  simp only [V.ae]
  rw [run_convert_bytes_string w src dst e _ 0 0 hs he hd]
  rfl
 ·cases hn
theorem F3{ks:List CK}{t:Nat}{lo:X}{n:Nat} (hk:ks=[.int .u8]) {get:Nat→Option Value} {N:Nat} {a:A} (hr:jA ρ a ks N get) (h0:0≤lo.den ρ) (hle:(lo.den ρ).toNat+n≤N) (hu:∀ i:Int,lo.den ρ≤i→i<lo.den ρ+n→a.den ρ (.int .u8) 0 i=(CK.int .u8).sym ρ t 0 i) (j:Nat) (hj:j<n):
  get ((lo.den ρ).toNat+j)=some (.int .u8 (IntKind.u8.wrap (ρ.f1 t (lo.den ρ+(j:Int))))):=by
 subst hk
 have:=hr ((lo.den ρ).toNat+j) 0 (.int .u8) (by omega) rfl
 simp only [List.length_cons,List.length_nil,Nat.zero_add,Nat.mul_one,Nat.add_zero] at this
 have e:(((lo.den ρ).toNat+j:Nat):Int)=lo.den ρ+(j:Int):=by omega
 rw [this,e,hu _ (by omega) (by omega)]
 rfl
theorem A9{pc:PC}(hp:av ρ pc){lo hi:X}{t:Nat}:∀ {a:A},a.under pc lo hi=some t→∀ (k:CK) (c:Nat) (i:Int),lo.den ρ≤i→i<hi.den ρ→a.den ρ k c i=k.sym ρ t c i
 | .base t',h,k,c,i,_,_=>by
  obtain rfl:=Option.some.inj h
  rfl
 | .fill _,h,_,_,_,_,_=>by cases h
 | .put a j c' x,h,k,c,i,h1,h2=>by
  unfold A.under at h
  split at h
  ·rename_i hlt
   have:=rX hp hlt
   rw [A.den,if_neg (by rintro ⟨_,e⟩;omega)]
   exact A9 hp h k c i h1 h2
  ·split at h
   ·rename_i hle
    have:=dJ hp hle
    rw [A.den,if_neg (by rintro ⟨_,e⟩;omega)]
    exact A9 hp h k c i h1 h2
   ·cases h
theorem SG{src dst:TypeId}{p:Operand}{wd:Bool}{b:Nat}{off len:X}{es:Nat}{cap:XC}(c:Ctx P cx ρ π st.h w tm a)(hpc:av ρ st.pc)(ho:o.op=.convert src dst p) (hx:a.eval p=(V.xslice wd b off es len cap).ae ρ π)
  (h:(Dm cx st src dst wd b off es len).ai ρ=some (r,st')):aD P cx tm ρ π st st' w ((execOp a.eval o).run P w) r:=by
 unfold Dm at h
 split at h
 ·rename_i hz
  have hz':=fC ρ hz
  split at h
  rotate_left
  ·simp [R.ai] at h
  rename_i sd td hsd htd
  have hs:=(c.tt src sd hsd).under
  have hd:=(c.tt dst td htd).under
  split at h
  rotate_left
  ·simp [R.ai] at h
  rename_i elem hdd1 hdd2
  rw [hdd1] at hs
  rw [hdd2] at hd
  split at h
  rotate_left
  ·simp [R.ai] at h
  rename_i ed hed
  have he:=(c.tt elem ed hed).under
  split at h
  rotate_left
  ·simp [R.ai] at h
  rename_i hde
  rw [hde] at he
  refine aD.value c.rep (.refl hpc) h ?_
  have hn0:(len.den ρ).toNat=0:=by omega
  have hload:(loadCells (cR ρ π wd b ((off.den ρ).toNat*es)) 0).run P w=.ok (([]:List Int).map (Value.int .u8)).toArray w:=by simp [loadCells,loadCellsFrom]
  simp only [execOp,ho,hx,V.ae,Sem.run_bind,hn0]
  rw [run_convert_bytes_string w src dst elem _ 0 _ hs he hd,run_bytesToString w _ 0 _ [] hload,foldl_push_bytes]
  simp only [ByteArray.empty,ByteArray.emptyWithCapacity,Result.andThen_ok,Sem.run_pure,X.bw]
  rfl
 split at h
 ·rename_i sd td a0 ks L hsd htd hrow
  have hs:=(c.tt src sd hsd).under
  have hd:=(c.tt dst td htd).under
  split at h
  ·rename_i elem hdd1 hdd2
   rw [hdd1] at hs
   rw [hdd2] at hd
   split at h
   ·rename_i ed hed
    have he:=(c.tt elem ed hed).under
    split at h
    ·rename_i t hde h1 h2 hun
     rw [hde] at he
     rw [Bool.and_eq_true] at h1
     obtain rfl:=Nat.eq_of_beq_eq_true h1.1
     have b1:0≤off.den ρ:=dJ hpc h1.2
     have b2:=dJ hpc h2
     rw [eU] at b2
     obtain⟨st1,hl1,hx1,h3⟩:=bW hpc h
     rw [di] at hx1
     have b3:0≤len.den ρ:=of_decide_eq_true hx1
     refine aD.value c.rep hl1 h3 ?_
     obtain⟨cs,ty,fr,o',g1,g2,g3⟩:=Fi c.rep hrow
     have hun':=A9 hpc hun
     let ns:List Int:=(List.range (len.den ρ).toNat).map fun j:Nat=>IntKind.u8.wrap (ρ.f1 t (off.den ρ+(j:Int)))
     have hload:(loadCells (cR ρ π wd b ((off.den ρ).toNat*1)) (len.den ρ).toNat).run P w=.ok (ns.map (Value.int .u8)).toArray w:=by
      have:=run_loadCells_list (P:=P) w (cR ρ π wd b ((off.den ρ).toNat*1)) (ns.map (Value.int .u8)) fun j v hv=>by
       have hj:j<(len.den ρ).toNat:=by simpa [ns] using (List.getElem?_eq_some_iff.1 hv).1
       rw [gl,g2,cell_of_row w _ _ _ _ _ g1]
       have:=F3 (n:=(len.den ρ).toNat) (t:=t) rfl g3 b1 (by omega) (fun i i1 i2=>hun' _ 0 i i1 (by rw [eU];omega)) j hj
       rw [Nat.mul_one,this]
       simp only [ns,List.map_map,List.getElem?_map,List.getElem?_range hj,Option.map_some,Function.comp] at hv
       exact hv
      simpa [ns] using this
     simp only [execOp,ho,hx,V.ae,Sem.run_bind]
     rw [run_convert_bytes_string w src dst elem _ (len.den ρ).toNat _ hs he hd,run_bytesToString w _ (len.den ρ).toNat _ ns hload,foldl_push_bytes]
     simp only [ByteArray.empty,ByteArray.emptyWithCapacity,Result.andThen_ok,Sem.run_pure,X.bw,uF]
     simp [ns]
     rfl
    ·simp [R.ai] at h
   ·simp [R.ai] at h
  ·simp [R.ai] at h
 ·simp [R.ai] at h
theorem Mg{src dst:TypeId}{p:Operand}(c:Ctx P cx ρ π st.h w tm a)(hpc:av ρ st.pc)(ho:o.op=.convert src dst p)
  (h:(kI cx tm st src dst p).ai ρ=some (r,st')):aD P cx tm ρ π st st' w ((execOp a.eval o).run P w) r:=by
 have hl:=cn.refl hpc
 unfold kI at h
 split at h
 ·rename_i x ex
  have hx:=aT c ex
  split at h
  ·exact SG c hpc ho hx h
  rename_i hnx
  clear hnx
  unfold ve at h
  split at h
  ·rename_i sd td j y hs hd
   have hks:=c.tt src sd hs
   have hk:=c.tt dst td hd
   split at h
   ·rename_i k hdd
    have hu:=hk.under
    rw [hdd] at hu
    refine aD.value c.rep hl h ?_
    simp [execOp,ho,hx,V.ae,convert,run_underlying hks.under,run_underlying hu,Conv.intToInt,im]
   ·simp [R.ai] at h
  ·rename_i sd td y hs hd
   have hks:=c.tt src sd hs
   have hk:=c.tt dst td hd
   split at h
   ·rename_i hdd
    have hu:=hk.under
    rw [hdd] at hu
    refine aD.value c.rep hl h ?_
    simp [execOp,ho,hx,V.ae,convert,run_underlying hks.under,run_underlying hu]
   ·simp [R.ai] at h
  ·unfold RB at h
   split at h
   ·rename_i sd td hs hd
    have hks:=(c.tt src sd hs).under
    have hkd:=(c.tt dst td hd).under
    split at h
    ·rename_i elem hsd htd
     rw [hsd] at hks
     rw [htd] at hkd
     split at h
     ·rename_i ed n hed hn
      have hke:=(c.tt elem ed hed).under
      split at h
      ·rename_i cs hee hcs
       rw [hee] at hke
       split at h
       ·rename_i q hq
        refine aD.value c.rep hl h ?_
        simp only [execOp,ho,hx,Sem.run_bind,Y6 hks hke hkd c.rep hn hcs hq,Result.andThen_ok,Sem.run_pure]
       ·simp [R.ai] at h
      ·simp [R.ai] at h
     ·simp [R.ai] at h
    ·simp [R.ai] at h
   ·simp [R.ai] at h
 ·simp [R.ai] at h
theorem SB{t:TypeId}{p:Operand}(c:Ctx P cx ρ π st.h w tm a)(hpc:av ρ st.pc)(ho:o.op=.range t p)
  (h:(wc cx tm st t p).ai ρ=some (r,st')):aD P cx tm ρ π st st' w ((execOp a.eval o).run P w) r:=by
 unfold wc at h
 split at h
 ·rename_i td v hd ex
  have hx:=aT c ex
  have hu:=(c.tt t td hd).under
  split at h
  ·rename_i k e hdd
   rw [hdd] at hu
   have hrun:(execOp a.eval o).run P w=.ok (.value (.pointer (some ⟨w.heap.size,0,none⟩))) {w with heap:=w.heap.push (.mapIter none 0 #[] 0)}:=by
    simp [execOp,ho,hx,V.ae,Instr.range,Go.newObj,Sem.run,run_underlying hu]
   exact aD.new c.rep hpc h (fun hn=>by rw [hrun];simp [V.ae,hn]) (by rw [hrun];rfl) (fun _=>rfl)
  ·rename_i k e b hdd
   rw [hdd] at hu
   split at h
   ·rename_i es hes
    obtain⟨ob,h1,ms,clock,rfl,_,_⟩:=c.rep.obj b _ hes
    have hg:(getObj (π b).1).run P w=.ok (.map ms.toArray clock) w:=by simp [getObj,Sem.run,h1]
    have hrun:(execOp a.eval o).run P w=.ok (.value (.pointer (some ⟨w.heap.size,0,none⟩))) {w with heap:=w.heap.push (.mapIter (some (π b).1) clock #[] clock)}:=by
     simp only [execOp,ho,hx,V.ae,Instr.range,Sem.run_bind,run_underlying hu,Result.andThen_ok,hg,Sem.run_pure]
     simp [Go.newObj,Sem.run]
    exact aD.new c.rep hpc h (fun hn=>by rw [hrun];simp [V.ae,hn]) (by rw [hrun];rfl) (fun _=>⟨clock,clock,rfl⟩)
   ·simp [R.ai] at h
  ·simp [R.ai] at h
 ·simp [R.ai] at h
theorem YA{p:Operand}{s:Bool}(c:Ctx P cx ρ π st.h w tm a)(hpc:av ρ st.pc)(ho:o.op=.next p s)
  (h:(CI cx tm st p s).ai ρ=some (r,st')):aD P cx tm ρ π st st' w ((execOp a.eval o).run P w) r:=by
 have hl:=cn.refl hpc
 unfold CI at h
 split at h
 ·rename_i rb ex
  have hx:=aT c ex
  split at h
  ·rename_i hr
   obtain⟨ob,h1,rfl⟩:=c.rep.obj rb _ hr
   refine aD.value c.rep hl h ?_
   have hg:(getObj (π rb).1).run P w=.ok (.mapIter none 0 #[] 0) w:=by simp [getObj,Sem.run,h1]
   simp only [execOp,ho,hx,V.ae,Instr.next,Sem.run_bind,hg,Result.andThen_ok,Sem.run_pure]
   rfl
  ·rename_i b hr
   split at h
   ·rename_i hb
    obtain⟨ob,h1,since,last,rfl⟩:=c.rep.obj rb _ hr
    obtain⟨ob2,h2,ms,clock,rfl,hperm,_⟩:=c.rep.obj b _ hb
    have hms:ms=[]:=by
     have:=hperm.length_eq
     simpa [entriesOf] using this
    subst hms
    refine aD.value c.rep hl h ?_
    have hg:(getObj (π rb).1).run P w=.ok (.mapIter (some (π b).1) since #[] last) w:=by simp [getObj,Sem.run,h1]
    have hg2:(getObj (π b).1).run P w=.ok (.map #[] clock) w:=by simp [getObj,Sem.run,h2]
    simp only [execOp,ho,hx,V.ae,Instr.next,Sem.run_bind,hg,hg2,Result.andThen_ok,Sem.run_pure]
    have hf:∀ q:MapEntry→Bool,Array.filter q #[] 0 0=#[]:=fun _=>rfl
    simp [hf,choose,Sem.run,Question.forced,V.af,V.ae,X.tt,X.den]
   ·simp [R.ai] at h
  ·simp [R.ai] at h
 ·simp [R.ai] at h
end ops
end Go.Proofs.YtmickljjofbmiaaGreatDoor
namespace Go.Proofs.YtmickljjofbmiaaGreatDoor
open Go
theorem val_one(k:CK)(z:Int):(k.val z).oneCell'=true:=by cases k<;>rfl
section ops
variable {P:Program} {cx:Cx} {ρ:Env} {π:Pl} {w:World} {tm:List V} {a:Act} {st st':St} {r:OR} {o:Oper}
theorem wD{h:H}(hr:dD ρ π h w){wd:Bool}{b:Nat}{a:A}{ks:List CK}{L:X}{n:Nat} (hb:AW h wd b=some (a,ks,L)) (hn:n≤(L.den ρ).toNat):
  ∃ vs:List Value,vs.length=n*ks.length∧(∀ w':World,w'.heap=w.heap→(loadCells (cR ρ π wd b 0) (n*ks.length)).run P w'=.ok vs.toArray w')∧jA ρ a ks n (fun j=>vs[j]?)∧∀ v∈vs,v.oneCell'=true:=by
 obtain⟨cs,t,fr,o,h1,h2,h3⟩:=Fi hr hb
 have each:∀ i,i<n*ks.length→∃ (k:CK) (z:Int),cs[o+i]?=some (k.val z):=by
  intro i hi
  have hk0:0<ks.length:=by
   rcases Nat.eq_zero_or_pos ks.length with e | e
   ·rw [e,Nat.mul_zero] at hi;omega
   ·exact e
  have hm:=Nat.mod_lt i hk0
  have hj:i / ks.length<n:=Nat.div_lt_of_lt_mul (by rw [Nat.mul_comm];exact hi)
  have:=h3 (i / ks.length) (i % ks.length) ks[i % ks.length] (by omega) (List.getElem?_eq_getElem hm)
  dsimp only at this
  rw [Nat.div_add_mod'] at this
  exact⟨_,_,this⟩
 have hsz:n*ks.length=0∨o+n*ks.length≤cs.size:=by
  rcases Nat.eq_zero_or_pos (n*ks.length) with e | e
  ·exact .inl e
  ·obtain⟨k,z,hz⟩:=each (n*ks.length-1) (by omega)
   have:=(Array.getElem?_eq_some_iff.1 hz).1
   exact .inr (by omega)
 have hget:∀ i,i<n*ks.length→((cs.toList.drop o).take (n*ks.length))[i]?=cs[o+i]?:=fun i hi=>by
  rw [List.getElem?_take,if_pos hi,List.getElem?_drop]
  simp
 have hlen:((cs.toList.drop o).take (n*ks.length)).length=n*ks.length:=by
  rcases hsz with e | e
  ·rw [e];simp
  ·simp;omega
 refine⟨(cs.toList.drop o).take (n*ks.length),hlen,fun w' hw'=>?_,fun j c k hj hk=>?_,fun v hv=>?_⟩
 ·have:=run_loadCells_list (P:=P) w' (cR ρ π wd b 0) ((cs.toList.drop o).take (n*ks.length)) fun j v hv=>by
   have hj:j<n*ks.length:=by rw [←hlen];exact (List.getElem?_eq_some_iff.1 hv).1
   rw [gl,h2,cell_of_row w' _ _ _ _ _ (by rw [hw'];exact h1),Nat.zero_add,←hget j hj]
   exact hv
  rwa [hlen] at this
 ·have hc:c<ks.length:=(List.getElem?_eq_some_iff.1 hk).1
  have hlt:j*ks.length+c<n*ks.length:=by
   have:(j+1)*ks.length≤n*ks.length:=Nat.mul_le_mul_right _ hj
   rw [Nat.add_mul] at this
   omega
  dsimp only
  rw [hget _ hlt]
  exact h3 j c k (by omega) hk
 ·obtain⟨i,hi⟩:=List.getElem?_of_mem hv
  have hlt:i<n*ks.length:=by rw [←hlen];exact (List.getElem?_eq_some_iff.1 hi).1
  rw [hget i hlt] at hi
  obtain⟨k,z,hz⟩:=each i hlt
  rw [hz] at hi
  rw [←Option.some.inj hi]
  exact val_one k z
theorem YC{cl:Call}{args:List V}{res:cq}(c:Ctx P cx ρ π st.h w tm a)(hpc:av ρ st.pc)(ho:o.op=.call cl)(hb:cl.callee=.builtin .len)(ha:cl.args.toList.map a.eval=V.af ρ π args)
  (hx:W8 cx st cl.argTypes.toList args=some res) (h:res.ai ρ=some (r,st')):aD P cx tm ρ π st st' w ((execOp a.eval o).run P w) r:=by
 obtain⟨consts,hrun⟩:=dS (P:=P) (w:=w) ho hb ha
 unfold W8 at hx
 split at hx
 ·rename_i t ts x xs hts
  have ht0:cl.argTypes[0]?=some t:=by rw [←Array.getElem?_toList,hts];rfl
  split at hx
  ·split at hx
   ·rename_i td hd
    have hu:=(c.tt t td hd).under
    split at hx
    ·rename_i e hdd
     rw [hdd] at hu
     obtain rfl:=Option.some.inj hx
     obtain⟨st1,hl1,hx1,h1⟩:=bW hpc h
     rw [di] at hx1
     have b1:=of_decide_eq_true hx1
     simp only [X.den] at b1
     refine aD.value c.rep hl1 h1 ?_
     rw [hrun]
     simp [builtin,Builtin.len_,ht0,V.af,run_underlying hu,V.ae,goInt]
     omega
    ·cases hx
   ·cases hx
  ·cases hx
 ·cases hx
theorem SE{cl:Call}{args:List V}{res:cq}(c:Ctx P cx ρ π st.h w tm a)(hpc:av ρ st.pc)(ho:o.op=.call cl)(hb:cl.callee=.builtin .copy)(ha:cl.args.toList.map a.eval=V.af ρ π args)
  (hx:W6 cx st cl.argTypes.toList args=some res) (h:res.ai ρ=some (r,st')):aD P cx tm ρ π st st' w ((execOp a.eval o).run P w) r:=by
 obtain⟨consts,hrun⟩:=dS (P:=P) (w:=w) ho hb ha
 unfold W6 at hx
 split at hx
 ·rename_i t ts d x xs hts
  have ht0:cl.argTypes[0]?=some t:=by rw [←Array.getElem?_toList,hts];rfl
  split at hx
  ·split at hx
   ·rename_i td hd
    have hu:=(c.tt t td hd).under
    split at hx
    ·rename_i elem hdd
     rw [hdd] at hu
     split at hx
     ·rename_i ed hed
      have hke:=c.tt elem ed hed
      obtain rfl:=Option.some.inj hx
      unfold W7 at h
      split at h
      ·rename_i b off es len cap w2 b2 off2 es2 len2 cap2 hdeq
       obtain⟨rfl,rfl,rfl,rfl,rfl,rfl⟩:_∧_∧_∧_∧_∧_:=by simpa only [V.xslice.injEq] using hdeq
       split at h
       ·rename_i a0 ks L e wd a2 ks2 L2 hob hrow hz1 hz2
        split at h
        ·rename_i hes hks1 hks2 hlen
         rw [Bool.and_eq_true] at hes hlen
         obtain rfl:=Nat.eq_of_beq_eq_true hes.1
         obtain rfl:=Nat.eq_of_beq_eq_true hes.2
         have hks1':=Nat.eq_of_beq_eq_true hks1
         obtain rfl:=CK.bD hks2
         obtain rfl:=X.beq_eq hlen.1
         obtain rfl:=X.beq_eq hlen.2
         split at h
         ·rename_i hle h0
          have hle':=dJ hpc hle
          have h0':0≤L.den ρ:=dJ hpc h0
          simp only [bm,R.ai,Option.some.injEq,Prod.mk.injEq] at h
          obtain⟨rfl,rfl⟩:=h
          obtain⟨vs,g1,g2,g3,g4⟩:=wD (P:=P) (n:=(L.den ρ).toNat) c.rep hrow (by omega)
          obtain⟨cs,k1,k2,k3,k4⟩:=Dz c.rep hob
          have hst:=lJ (P:=P) (off:=0) w k1 (by rw [g1];omega) g4
          have hz1':=fC ρ hz1
          have hz2':=fC ρ hz2
          refine⟨hpc,Nat.le_refl _,fun _=>⟨_,?_,Mv.MQ c.rep st.n hob (ob:=.cells (cs.take 0++vs++cs.drop (0+vs.length)).toArray e (0,0)) ⟨_,rfl,?_,fun hw=>?_,fun j q k hj hk=>?_⟩ rfl⟩⟩
          ·rw [hrun]
           have hl0:=g2 w rfl
           rw [hks1'] at hl0
           have e0:∀ b,(cR ρ π false b 0:Addr)=⟨(π b).1,0,none⟩:=fun b=>by simp [cR]
           simp [builtin,Builtin.copy_,ht0,V.af,run_underlying hu,V.ae,Builtin.lenOf,Builtin.firstCells,hke.aO,hz1',hz2',hl0,e0,hst,goInt]
           omega
          ·simp only [List.length_append,List.length_take,List.length_drop,g1]
           omega
          ·have:=k3 hw
           simp only [List.length_append,List.length_take,List.length_drop,g1]
           omega
          ·have hq:q<ks.length:=(List.getElem?_eq_some_iff.1 hk).1
           have hlt:j*ks.length+q<vs.length:=by
            have:(j+1)*ks.length≤(L.den ρ).toNat*ks.length:=Nat.mul_le_mul_right _ hj
            rw [Nat.add_mul] at this
            omega
           dsimp only
           rw [oR _ _ _ _ (by rw [g1];omega),if_pos ⟨by omega,by omega⟩,Nat.sub_zero]
           exact g3 j q k hj hk
         ·simp [R.ai] at h
        ·simp [R.ai] at h
       ·simp [R.ai] at h
      ·simp [R.ai] at h
     ·cases hx
    ·cases hx
   ·cases hx
  ·cases hx
 ·cases hx
theorem ly{ks:List CK}{len:X}:∀ {n j:Nat} {vs:List V} {a a':A},iW ks len j n vs a=some a'→vs.length=n*ks.length ∧
  (∀ (c:Nat) (k:CK) (i:Int),(i<len.den ρ+(j:Int)∨len.den ρ+(j:Int)+(n:Int)≤i)→a'.den ρ k c i=a.den ρ k c i) ∧
  (∀ (m c:Nat) (k:CK),m<n→ks[c]?=some k→(V.af ρ π vs)[m*ks.length+c]?=some (k.val (a'.den ρ k c (len.den ρ+(j:Int)+(m:Int)))))∧∀ v∈vs,v.one=true
 | 0,j,vs,a,a',h=>by
  unfold iW at h
  split at h
  ·obtain rfl:=Option.some.inj h
   exact⟨by simp,fun _ _ _ _=>rfl,fun m _ _ hm=>by omega,fun v hv=>by simp at hv⟩
  ·cases h
 | n+1,j,vs,a,a',h=>by
  unfold iW at h
  split at h
  ·rename_i cs hcs
   split at h
   ·rename_i a1 hp
    obtain⟨e1,e2,e3⟩:=cz _ _ _ hcs
    obtain⟨p1,p2,p3⟩:=lx (ρ:=ρ) (π:=π) hp
    obtain⟨q1,q2,q3,q4⟩:=ly h
    rw [cN] at q1 q3 q4
    simp only [List.length_drop] at q1
    have hden:(mR len (.lit (Int.ofNat j))).den ρ=len.den ρ+(j:Int):=by rw [eU];rfl
    rw [hden] at p2 p3
    refine⟨by rw [Nat.add_mul];omega,fun c k i hi=>?_,fun m c k hm hk=>?_,fun v hv=>?_⟩
    ·rw [q2 c k i (by omega),p2 c k i (.inl (by omega))]
    ·have hc:c<ks.length:=(List.getElem?_eq_some_iff.1 hk).1
     cases m with
     | zero=>
      have:=p3 c k hk
      rw [Nat.zero_add] at this
      rw [Nat.zero_mul,Nat.zero_add,q2 c k _ (.inl (by omega)),show len.den ρ+(j:Int)+((0:Nat):Int)=len.den ρ+(j:Int) by omega,←this,←e1,dV,List.getElem?_take,if_pos hc]
     | succ m=>
      have:=q3 m c k (by omega) hk
      rw [show len.den ρ+((j+1:Nat):Int)+(m:Int)=len.den ρ+(j:Int)+((m+1:Nat):Int) by omega] at this
      rw [←this,dU,List.getElem?_drop]
      congr 1
      rw [Nat.add_mul]
      omega
    ·rcases List.mem_append.1 (by rw [List.take_append_drop ks.length vs];exact hv:v∈vs.take ks.length++vs.drop ks.length) with hv | hv
     ·rw [e1] at hv
      exact jM hp v hv
     ·exact q4 v hv
   ·cases h
  ·cases h
theorem vu{cl:Call}{T:TypeId}{t u:TypeId}{elem:TypeId}{td ud ed:TD} (ht0:cl.argTypes[0]?=some t) (ht1:cl.argTypes[1]?=some u) (hk:gP P t td) (hku:gP P u ud) (hke:gP P elem ed)
  (hdd:td.d=.slice elem) (hud:∀ k,ud.d≠.int k) {xv:Value} {xs:List Value} {base:Option Addr} {sLen sCap n:Nat} {old new:List Value} (hx:(Builtin.lenOf xv).run P w=.ok n w)
  (hnew:∀ w':World,w'.heap=w.heap→(Builtin.firstCells ed.size n xv).run P w'=.ok new.toArray w')
  (hold:∀ w':World,w'.heap=w.heap→(Builtin.firstCells ed.size sLen (.slice base sLen sCap)).run P w'=.ok old.toArray w')
  (hgt:¬sLen+n≤sCap) (hsmall:(sLen+n+sCap+1)*(ed.bytes+1)≤2000000000):
  ∃ (cap:Nat) (w1:World),sLen+n≤cap∧w1.heap=w.heap∧(w1.tape=w.tape∧w1.os=w.os∧w1.output=w.output) ∧
   (Builtin.append_ cl.argTypes T (Value.slice base sLen sCap::xv::xs).toArray).run P w =
    .ok (.slice (some ⟨w.heap.size,0,none⟩) (sLen+n) cap) {w1 with heap:=w1.heap.push (.cells (old++new++V.af ρ π (bX ed.zero (cap-(sLen+n)))).toArray elem (0,0))}:=by
 have hu:=hk.under
 rw [hdd] at hu
 obtain⟨i,hi,hsz,hby,_⟩:=hke.info
 have hti:∀ w:World,(typeInfo elem).run P w=.ok i w:=fun w=>by simp [typeInfo,hi]
 have hneed:sLen+n≤2000000000:=by
  have:(sLen+n+sCap+1)*1≤(sLen+n+sCap+1)*(ed.bytes+1):=Nat.mul_le_mul_left _ (by omega)
  omega
 have hcap:=Ac (sLen+n) sCap ed.bytes hsmall
 let q:Question:=.appendCap (sLen+n) sCap elem
 let w1:World:={w with drawn:=w.drawn+1}
 have hle:sLen+n≤q.cut (w.tape w.drawn q):=by simp [q,Question.cut]
 have hroom:∀ (m:Nat) (w:World),(askRoom m).run P w=.ok () w:=by
  intro m w
  unfold askRoom
  split<;>simp [mark,Sem.run]
 refine⟨q.cut (w.tape w.drawn q),w1,hle,rfl,⟨rfl,rfl,rfl⟩,?_⟩
 obtain⟨z,hz,hzc,_⟩:=fl hke w1 ρ π
 have hzeros:(underlying u).run P w=.ok ud.d w:=hku.cP w
 have hmx:¬(((sLen+n:Nat):Int) > IntKind.i64.max):=by rw [IntKind.max_i64];omega
 have hh2:=hnew w1 rfl
 have hm:∀ (al be:Bool),(match ud.d with | .int _=>al | _=>be)=be:=by
  intro al be
  cases hq:ud.d<;>first | rfl | exact absurd hq (hud _)
 simp only [Builtin.append_,ht0,ht1,List.getElem?_toArray,List.getElem?_cons_zero,List.getElem?_cons_succ,Sem.run_bind,run_underlying hu,Result.andThen_ok,hke.aO,hzeros,Sem.run_pure]
 have hold1:=hold w1 rfl
 have hch':(choose (Question.appendCap (sLen+n) sCap elem)).run P w=.ok (q.cut (w.tape w.drawn q)) w1:=by
  simp [choose,Sem.run,q,Question.forced,w1]
 simp only [Bool.false_eq_true,if_false,Bool.not_false,if_true,Sem.run_bind,hx,Result.andThen_ok,if_neg hgt,hti,hmx,false_and,hby,hcap,hch',hroom,hold1,hh2,hz,hzc,uO]
 simp only [newRow,Go.newObj,Sem.run_bind,Sem.run,Result.andThen_ok,Sem.run_pure]
 simp only [List.append_toArray]
 rfl
theorem CY{a a':A}{ks:List CK}{len:X}{n N N':Nat}{cs:List Value}{new:List V}(hput:iW ks len 0 n new a=some a')(h0:0≤len.den ρ) (hr:jA ρ a ks N fun j=>cs[j]?) (h1:(len.den ρ).toNat≤N) (h2:N'≤N∨N'≤(len.den ρ).toNat+n)
  (hle:((len.den ρ).toNat+n)*ks.length≤cs.length):jA ρ a' ks N' fun j=>(cs.take ((len.den ρ).toNat*ks.length)++V.af ρ π new++cs.drop ((len.den ρ).toNat*ks.length+(V.af ρ π new).length))[j]?:=by
 obtain⟨p1,p2,p3,_⟩:=ly (ρ:=ρ) (π:=π) hput
 intro j c k hj hk
 have hc:c<ks.length:=(List.getElem?_eq_some_iff.1 hk).1
 rw [Nat.add_mul] at hle
 dsimp only
 rw [oR _ _ _ _ (by rw [ay,p1];exact hle),ay,p1]
 have up:∀ m:Nat,j<m→j*ks.length+c<m*ks.length:=fun m hm=>by
  have:(j+1)*ks.length≤m*ks.length:=Nat.mul_le_mul_right _ hm
  rw [Nat.add_mul] at this
  omega
 have dn:∀ m:Nat,m≤j→m*ks.length≤j*ks.length:=fun m hm=>Nat.mul_le_mul_right _ hm
 by_cases hin:(len.den ρ).toNat≤j∧j<(len.den ρ).toNat+n
 ·have u1:=up _ hin.2
  have d1:=dn _ hin.1
  rw [Nat.add_mul] at u1
  rw [if_pos ⟨by omega,by omega⟩]
  have:=p3 (j-(len.den ρ).toNat) c k (by omega) hk
  rw [show j*ks.length+c-(len.den ρ).toNat*ks.length=(j-(len.den ρ).toNat)*ks.length+c by rw [Nat.sub_mul];omega,this]
  congr 3
  omega
 ·have hjN:j<N:=by omega
  rw [if_neg,p2 c k j (by omega)]
  ·exact hr j c k hjN hk
  ·rintro ⟨e1,e2⟩
   rcases Nat.lt_or_ge j (len.den ρ).toNat with hlt | hge
   ·have:=up _ hlt
    omega
   ·have:=dn ((len.den ρ).toNat+n) (by omega)
    rw [Nat.add_mul] at this
    omega
theorem uE{a a':A}{ks:List CK}{len:X}{n:Nat}{old:List Value}{new:List V}(hput:iW ks len 0 n new a=some a')(h0:0≤len.den ρ) (hold:old.length=(len.den ρ).toNat*ks.length) (hr:jA ρ a ks (len.den ρ).toNat fun j=>old[j]?):
  jA ρ a' ks ((len.den ρ).toNat+n) fun j=>(old++V.af ρ π new)[j]?:=by
 obtain⟨p1,p2,p3,_⟩:=ly (ρ:=ρ) (π:=π) hput
 intro j c k hj hk
 have hc:c<ks.length:=(List.getElem?_eq_some_iff.1 hk).1
 dsimp only
 by_cases hlt:j<(len.den ρ).toNat
 ·have:(j+1)*ks.length≤(len.den ρ).toNat*ks.length:=Nat.mul_le_mul_right _ hlt
  rw [Nat.add_mul] at this
  rw [List.getElem?_append_left (by rw [hold];omega),p2 c k j (by omega)]
  exact hr j c k hlt hk
 ·have hge:(len.den ρ).toNat*ks.length≤j*ks.length:=Nat.mul_le_mul_right _ (by omega)
  rw [List.getElem?_append_right (by rw [hold];omega),hold]
  have:=p3 (j-(len.den ρ).toNat) c k (by omega) hk
  rw [show j*ks.length+c-(len.den ρ).toNat*ks.length=(j-(len.den ρ).toNat)*ks.length+c by rw [Nat.sub_mul];omega,this]
  congr 3
  omega
theorem zB(c:Ctx P cx ρ π st.h w tm a){st1:St}(hl:cn ρ st st1){h':H}(hsub:∀ i o,h'.get i=some o→st.h.get i=some o){a':A}{ks:List CK}{L':X}{elem:TypeId}{ed:TD}(hke:gP P elem ed)(hes:ks.length=ed.size)
  (h:(vS st1 h' a' ks L' elem).ai ρ=some (r,st')) {N cap:Nat} {w1:World} {vals:List Value} (hN:(L'.den ρ).toNat=N) (hcap:N≤cap) (hw1:w1.heap=w.heap) (hw2:w1.tape=w.tape∧w1.os=w.os∧w1.output=w.output)
  (hv:vals.length=N*ks.length) (hrow:jA ρ a' ks N fun j=>vals[j]?)
  (hrun:(execOp a.eval o).run P w=.ok (.value (.slice (some ⟨w.heap.size,0,none⟩) N cap)) {w1 with heap:=w1.heap.push (.cells (vals++V.af ρ π (bX ed.zero (cap-N))).toArray elem (0,0))}):
  aD P cx tm ρ π st st' w ((execOp a.eval o).run P w) r:=by
 simp only [vS,bm,R.ai,Option.some.injEq,Prod.mk.injEq] at h
 obtain⟨rfl,rfl⟩:=h
 refine⟨hl.pc,by dsimp only;rw [hl.n];omega,fun hpl=>?_⟩
 have hpl':π st.n=⟨w.heap.size,cap,.nilFunc⟩:=by
  have:=hpl (by dsimp only;rw [hl.n];omega)
  rw [hrun] at this
  exact this
 refine⟨{w1 with heap:=w1.heap.push (.cells (vals++V.af ρ π (bX ed.zero (cap-N))).toArray elem (0,0))},?_,?_⟩
 ·rw [hrun]
  simp only [V.ae,XC.ae,cR,X.den,hl.n,hpl',hN,Nat.max_eq_left hcap]
  simp
 ·dsimp only
  rw [hl.n]
  have hr1:dD ρ π h' w1:=⟨fun i o hi=>by rw [hw1];exact c.rep.obj i o (hsub i o hi),fun i j o o' hi hj=>c.rep.inj i j o o' (hsub i o hi) (hsub j o' hj)⟩
  have m:=Mv.new (n:=st.n) (o:=.arr a' ks L' elem true) (ob:=.cells (vals++V.af ρ π (bX ed.zero (cap-N))).toArray elem (0,0)) hr1 (by rw [hpl',hw1]) ⟨_,rfl,by
    simp only [List.length_append,hv,hN]
    omega,fun _=>by
    simp only [List.length_append,hv,ay,fj,hke.len,hpl',hes]
    rw [←Nat.add_mul]
    congr 1
    omega,fun j q k hj hk=>by
    have hq:q<ks.length:=(List.getElem?_eq_some_iff.1 hk).1
    rw [hN] at hj
    have:(j+1)*ks.length≤N*ks.length:=Nat.mul_le_mul_right _ hj
    rw [Nat.add_mul] at this
    dsimp only
    rw [List.getElem?_append_left (by rw [hv];omega)]
    exact hrow j q k hj hk⟩
  have m2:=m.Cf (w:=w) hw1 hw2
  exact⟨m2.rep,fun i o hi=>(m2.dom i o hi).imp_left fun⟨o0,h0⟩=>⟨o0,hsub i o0 h0⟩,fun i o hi=>(m2.sub i o hi).imp_right fun⟨i0,o0,h0,e,z⟩=>⟨i0,o0,hsub i0 o0 h0,e,z⟩,
   fun j hj hne=>m2.keep j hj fun i o hi=>hne i o (hsub i o hi),m2.size,m2.same⟩
theorem xk{s:V}(h:noRoom s=true):∃ base,s.ae ρ π=.slice base 0 0:=by
 unfold noRoom at h
 split at h
 ·exact⟨none,rfl⟩
 ·split at h
  ·split at h
   ·rename_i c
    obtain rfl:=Nat.eq_of_beq_eq_true h
    exact⟨_,rfl⟩
   ·cases h
  ·cases h
 ·split at h
  ·rename_i hz
   split at h
   ·exact⟨_,by simp only [V.ae,XC.ae,fC ρ hz,fC ρ h];rfl⟩
   ·cases h
  ·cases h
 ·cases h
theorem RM{h:H}{b i:Nat}{o:au} (hi:(h.drop b).get i=some o):h.get i=some o:=by
 by_cases eb:b=i
 ·subst eb
  rw [T.lW] at hi
  cases hi
 ·rw [T.ky _ eb] at hi
  exact hi
theorem Mj{cl:Call}{args:List V}{res:cq}(c:Ctx P cx ρ π st.h w tm a)(hpc:av ρ st.pc)(ho:o.op=.call cl)(hb:cl.callee=.builtin .append)(ha:cl.args.toList.map a.eval=V.af ρ π args)
  (hx:FA cx st cl.argTypes.toList args=some res) (h:res.ai ρ=some (r,st')):aD P cx tm ρ π st st' w ((execOp a.eval o).run P w) r:=by
 obtain⟨consts,hrun⟩:=dS (P:=P) (w:=w) ho hb ha
 have hl:=cn.refl hpc
 unfold FA at hx
 split at hx
 rotate_left
 ·cases hx
 rename_i t u ts s x xs hts
 have ht0:cl.argTypes[0]?=some t:=by rw [←Array.getElem?_toList,hts];rfl
 have ht1:cl.argTypes[1]?=some u:=by rw [←Array.getElem?_toList,hts];rfl
 split at hx
 rotate_left
 ·cases hx
 rename_i td ud hd hud
 have hk:=c.tt t td hd
 have hku:=c.tt u ud hud
 have hu:=hk.under
 split at hx
 rotate_left
 ·cases hx
 rename_i elem ue hdd hdu
 have hniz:∀ k,ud.d≠.int k:=fun k e=>by rw [hdu] at e;cases e
 rw [hdd] at hu
 split at hx
 rotate_left
 ·cases hx
 rename_i ed hed
 have hke:=c.tt elem ed hed
 have full:∀ {v:Value} {w':World},(Builtin.append_ cl.argTypes o.type (s.ae ρ π::x.ae ρ π::V.af ρ π xs).toArray).run P w=.ok v w'→(execOp a.eval o).run P w=.ok (.value v) w':=by
  intro v w' hv
  rw [hrun]
  simp only [builtin,V.af,Sem.run_bind] at hv ⊢
  rw [hv]
  rfl
 split at hx
 ·-- a row, laid anew
  rename_i wd b off es len cap
  obtain rfl:=Option.some.inj hx
  unfold W5 at h
  split at h
  ·rename_i hzn
   rw [Bool.and_eq_true] at hzn
   have hlz:=fC ρ hzn.1
   obtain⟨base,hs⟩:=xk (ρ:=ρ) (π:=π) hzn.2
   have hn0:(len.den ρ).toNat=0:=by omega
   refine aD.value c.rep (.refl hpc) h (full ?_)
   have hxl:(Builtin.lenOf ((V.xslice wd b off es len cap).ae ρ π)).run P w=.ok 0 w:=by simp [V.ae,Builtin.lenOf,hn0]
   have hxc0:(Builtin.firstCells ed.size 0 ((V.xslice wd b off es len cap).ae ρ π)).run P w=.ok #[] w:=by simp [V.ae,Builtin.firstCells,loadCells,loadCellsFrom]
   rw [hs]
   simp [Builtin.append_,ht0,ht1,run_underlying hu,hke.aO,hku.cP,hxl,hxc0,hdu]
   cases base<;>simp [storeCells]
  split at h
  rotate_left
  ·simp [R.ai] at h
  rename_i a0 ks L hrow hz hnr
  split at h
  rotate_left
  ·simp [R.ai] at h
  rename_i hes hks hes0 hle
  obtain rfl:=Nat.eq_of_beq_eq_true hes
  have hks':=Nat.eq_of_beq_eq_true hks
  have hle':=dJ hpc hle
  obtain⟨st1,hl1,hx1,h1⟩:=bW hpc h
  rw [di] at hx1
  have b1:0≤len.den ρ:=of_decide_eq_true hx1
  split at h1
  rotate_left
  ·simp [R.ai] at h1
  rename_i hm
  have hm':=Aa (dJ hl1.pc hm) b1
  obtain⟨st2,hl2,h2⟩:=aU hl1.pc h1
  rw [di] at h2
  obtain⟨base,hs⟩:=xk (ρ:=ρ) (π:=π) hnr
  have hz':=fC ρ hz
  obtain⟨vs,g1,g2,g3,g4⟩:=wD (P:=P) (n:=(len.den ρ).toNat) c.rep hrow (by omega)
  have hxl:(Builtin.lenOf ((V.xslice wd b off ed.size len cap).ae ρ π)).run P w=.ok (len.den ρ).toNat w:=by simp [V.ae,Builtin.lenOf]
  have hxc:∀ w':World,w'.heap=w.heap→(Builtin.firstCells ed.size (len.den ρ).toNat ((V.xslice wd b off ed.size len cap).ae ρ π)).run P w'=.ok vs.toArray w':=fun w' hw'=>by
   have:=g2 w' hw'
   rw [hks'] at this
   simp only [V.ae,Builtin.firstCells,hz']
   simpa using this
  split at h2
  ·rename_i hle0
   have hle0':len.den ρ≤0:=of_decide_eq_true hle0
   have hn0:(len.den ρ).toNat=0:=by omega
   refine aD.value c.rep (hl1.trans hl2) h2 (full ?_)
   have hvs:vs=[]:=List.eq_nil_of_length_eq_zero (by rw [g1,hn0,Nat.zero_mul])
   subst hvs
   rw [hn0] at hxl hxc
   have hxc0:=hxc w rfl
   rw [hs]
   simp [Builtin.append_,ht0,ht1,run_underlying hu,hke.aO,hku.cP,hxl,hxc0,hdu]
   cases base<;>simp [storeCells]
  ·rename_i hle0
   have hle0':¬len.den ρ≤0:=of_decide_eq_false hle0
   obtain⟨cap',w1,e1,e2,e3,e4⟩:=vu (P:=P) (ρ:=ρ) (π:=π) (T:=o.type) (xs:=V.af ρ π xs) (base:=base) (sLen:=0) (sCap:=0) (old:=[]) (new:=vs) ht0 ht1 hk hku hke hdd hniz hxl hxc (fun w' _=>by cases base<;>simp [Builtin.firstCells,loadCells,loadCellsFrom]) (by omega) (by
     have:(0+(len.den ρ).toNat+0+1)*(ed.bytes+1)≤((len.den ρ).toNat+0+1)*(ed.bytes+1):=Nat.mul_le_mul_right _ (by omega)
     omega)
   rw [←hs] at e4
   refine zB (c:=c) (hl1.trans hl2) (h':=st2.h) (fun i o hi=>by rw [(hl1.trans hl2).h] at hi;exact hi) hke hks' h2 (N:=(len.den ρ).toNat) (cap:=cap') (vals:=vs) rfl (by omega) e2 e3 g1 g3 (full ?_)
   rw [e4]
   simp
 ·-- elements that are written out
  split at hx
  rotate_left
  ·cases hx
  rename_i n hn
  split at hx
  rotate_left
  ·cases hx
  rename_i new hnew
  split at hx
  rotate_left
  ·cases hx
  rename_i hsz
  have hsz':=Nat.eq_of_beq_eq_true hsz
  have hlx:∀ w:World,(Builtin.lenOf (x.ae ρ π)).run P w=.ok n w:=fun w=>tB hn
  have hex:∀ w':World,w'.heap=w.heap→(Builtin.firstCells ed.size n (x.ae ρ π)).run P w'=.ok (V.af ρ π new).toArray w':=fun w' hw'=>kj (c.rep.heap hw') hnew
  unfold KX at hx
  split at hx
  ·-- behind nothing
   split at hx
   rotate_left
   ·cases hx
   rename_i ks hn0 _ hkz
   split at hx
   rotate_left
   ·cases hx
   rename_i a' hput hes0 hsm
   obtain rfl:=Option.some.inj hx
   have hks:=(p9 (ρ:=ρ) (π:=π) hkz).1
   have hsm':=Nat.le_of_ble_eq_true hsm
   have hne:n≠0:=fun e=>by rw [e] at hn0;cases hn0
   obtain⟨cap',w1,e1,e2,e3,e4⟩:=vu (P:=P) (ρ:=ρ) (π:=π) (T:=o.type) (xs:=V.af ρ π xs) (base:=none) (sLen:=0) (sCap:=0) (old:=[]) (new:=V.af ρ π new) ht0 ht1 hk hku hke hdd hniz (hlx w) hex (fun w' _=>by simp [Builtin.firstCells]) (by omega) (by simp only [Nat.zero_add,Nat.add_zero];omega)
   refine zB (c:=c) hl (h':=st.h) (fun i o hi=>hi) hke (by rw [hks,hke.len]) h (N:=n) (cap:=cap') (vals:=V.af ρ π new) (by simp [X.den]) (by omega) e2 e3 (by rw [ay,hsz',hks,hke.len]) ?_ (full ?_)
   ·have:=uE (ρ:=ρ) (π:=π) (old:=[]) hput (by simp [X.den]) (by simp [X.den]) (fun j q k hj hk=>by simp [X.den] at hj)
    simpa [X.den] using this
   ·rw [show (V.nilslice).ae ρ π=.slice none 0 0 from rfl,e4]
    simp
  ·-- behind a row
   rename_i b off es len cap
   split at hx
   rotate_left
   ·obtain rfl:=Option.some.inj hx
    simp [R.ai] at h
   rename_i a0 ks L e wd hz hob
   split at hx
   rotate_left
   ·obtain rfl:=Option.some.inj hx
    simp [R.ai] at h
   rename_i hes hks he hes0
   obtain rfl:=Nat.eq_of_beq_eq_true hes
   obtain rfl:=Nat.eq_of_beq_eq_true he
   have hks':=Nat.eq_of_beq_eq_true hks
   have hes0':0<ed.size:=by
    rcases Nat.eq_zero_or_pos ed.size with q | q
    ·rw [q] at hes0;cases hes0
    ·exact q
   split at hx
   rotate_left
   ·obtain rfl:=Option.some.inj hx
    simp [R.ai] at h
   rename_i a' h0 hm hput
   have b0:0≤len.den ρ:=dJ hpc h0
   have hm':=Aa (dJ hpc hm) b0
   have hz':=fC ρ hz
   obtain⟨cs,k1,k2,k3,k4⟩:=Dz c.rep hob
   have hnewl:(V.af ρ π new).length=n*ks.length:=by rw [ay,hsz',hks']
   have hone:∀ v∈V.af ρ π new,v.oneCell'=true:=fun v hv=>by
    rw [bC] at hv
    obtain⟨u,hu,rfl⟩:=List.mem_map.1 hv
    exact tJ ρ π u ((ly (ρ:=ρ) (π:=π) hput).2.2.2 u hu)
   have hlen':(mR len (.lit (Int.ofNat n))).den ρ=len.den ρ+(n:Int):=by rw [eU];rfl
   have hlenN:((mR len (.lit (Int.ofNat n))).den ρ).toNat=(len.den ρ).toNat+n:=by rw [hlen'];omega
   have hlenN2:((mR len (.lit ((n:Nat):Int))).den ρ).toNat=(len.den ρ).toNat+n:=hlenN
   split at hx
   ·-- room of its own
    rename_i lo
    split at hx
    rotate_left
    ·obtain rfl:=Option.some.inj hx
     simp [R.ai] at h
    rename_i hL hlo
    obtain rfl:=Option.some.inj hx
    obtain rfl:=X.beq_eq hL
    have hlo':=dJ hpc hlo
    have hcl:=k3 rfl
    have hcap:(L.den ρ).toNat≤(π b).2:=by
     rw [hcl] at k2
     exact Nat.le_of_mul_le_mul_right k2 (by omega)
    have hs:(V.xslice false b off ed.size L (.room lo)).ae ρ π=.slice (some ⟨(π b).1,0,none⟩) (L.den ρ).toNat (π b).2:=by
     simp only [V.ae,XC.ae,cR,hz',Nat.max_eq_left (show (lo.den ρ).toNat≤(π b).2 by omega)]
     simp
    by_cases hfit:(L.den ρ).toNat+n≤(π b).2
    ·have hfits:((L.den ρ).toNat+n)*ks.length≤cs.length:=by rw [hcl];exact Nat.mul_le_mul_right _ hfit
     have hst:=lJ (P:=P) (off:=(L.den ρ).toNat*ks.length) w k1 (by rw [hnewl,←Nat.add_mul];exact hfits) hone
     simp only [vS,bm,R.ai,Option.some.injEq,Prod.mk.injEq] at h
     obtain⟨rfl,rfl⟩:=h
     have hfull:(execOp a.eval o).run P w=.ok (.value (.slice (some ⟨(π b).1,0,none⟩) ((L.den ρ).toNat+n) (π b).2)) {w with heap:=w.heap.setIfInBounds (π b).1 (.cells (cs.take ((L.den ρ).toNat*ks.length)++V.af ρ π new++cs.drop ((L.den ρ).toNat*ks.length+(V.af ρ π new).length)).toArray e (0,0))}:=by
      refine full ?_
      rw [hs]
      rw [hks'] at hst
      simp [Builtin.append_,ht0,ht1,run_underlying hu,hke.aO,hku.cP,hlx,hex w rfl,hdu,hfit,b9,hst,hks']
     refine⟨hpc,by simp,fun hpl=>?_⟩
     have hpl':=hpl (by simp)
     rw [hfull] at hpl'
     simp only [mK] at hpl'
     refine⟨{w with heap:=w.heap.setIfInBounds (π b).1 (.cells (cs.take ((L.den ρ).toNat*ks.length)++V.af ρ π new++cs.drop ((L.den ρ).toNat*ks.length+(V.af ρ π new).length)).toArray e (0,0))},by rw [hfull];simp [V.ae,XC.ae,cR,X.den,hlenN2,hpl',Nat.max_eq_left hfit],?_⟩
     refine Mv.move c.rep hob (by rw [hpl']) ⟨_,rfl,?_,fun _=>?_,?_⟩ rfl
     ·rw [hlenN]
      simp only [List.length_append,List.length_take,List.length_drop,hnewl]
      rw [Nat.add_mul] at hfits ⊢
      omega
     ·simp only [List.length_append,List.length_take,List.length_drop,hnewl,hpl']
      rw [Nat.add_mul] at hfits
      omega
     ·rw [hlenN]
      exact CY hput b0 k4 (Nat.le_refl _) (.inr (Nat.le_refl _)) hfits
    ·have hrow:AW st.h false b=some (a0,ks,L):=by simp only [AW,hob]
     obtain⟨vs,g1,g2,g3,g4⟩:=wD (P:=P) (n:=(L.den ρ).toNat) c.rep hrow (Nat.le_refl _)
     obtain⟨cap',w1,e1,e2,e3,e4⟩:=vu (P:=P) (ρ:=ρ) (π:=π) (T:=o.type) (xs:=V.af ρ π xs) (base:=some ⟨(π b).1,0,none⟩) (sLen:=(L.den ρ).toNat) (sCap:=(π b).2) (old:=vs) (new:=V.af ρ π new) ht0 ht1 hk hku hke hdd hniz (hlx w) hex (fun w' hw'=>by
       have:=g2 w' hw'
       rw [hks'] at this
       simp only [Builtin.firstCells]
       simpa [cR] using this) hfit (by
       have:((L.den ρ).toNat+n+(π b).2+1)*(ed.bytes+1)≤(2*((L.den ρ).toNat+n+1))*(ed.bytes+1):=Nat.mul_le_mul_right _ (by omega)
       rw [Nat.mul_assoc] at this
       omega)
     rw [←hs] at e4
     exact zB (c:=c) hl (h':=st.h.drop b) (fun i o hi=>RM hi) hke hks' h (N:=(L.den ρ).toNat+n) (vals:=vs++V.af ρ π new) hlenN e1 e2 e3 (by rw [List.length_append,g1,hnewl,Nat.add_mul]) (uE hput b0 g1 g3) (full e4)
   ·-- room that is told
    rename_i cc
    split at hx
    rotate_left
    ·obtain rfl:=Option.some.inj hx
     simp [R.ai] at h
    rename_i hL
    obtain rfl:=Option.some.inj hx
    obtain rfl:=X.beq_eq hL
    obtain⟨st1,hl1,h1⟩:=aU hpc h
    rw [di,hlen'] at h1
    split at h1
    rotate_left
    ·simp [R.ai] at h1
    rename_i hfit
    have hfit':len.den ρ+(n:Int)≤L.den ρ:=of_decide_eq_true hfit
    have hfits:((len.den ρ).toNat+n)*ks.length≤cs.length:=Nat.le_trans (Nat.mul_le_mul_right _ (by omega)) k2
    have hst:=lJ (P:=P) (off:=(len.den ρ).toNat*ks.length) w k1 (by rw [hnewl,←Nat.add_mul];exact hfits) hone
    simp only [bm,R.ai,Option.some.injEq,Prod.mk.injEq] at h1
    obtain⟨rfl,rfl⟩:=h1
    refine⟨hl1.pc,by dsimp only;rw [hl1.n];exact Nat.le_refl _,fun _=>⟨{w with heap:=w.heap.setIfInBounds (π b).1 (.cells (cs.take ((len.den ρ).toNat*ks.length)++V.af ρ π new++cs.drop ((len.den ρ).toNat*ks.length+(V.af ρ π new).length)).toArray e (0,0))},full ?_,?_⟩⟩
    ·rw [show (V.xslice false b off ed.size len (.known L)).ae ρ π=.slice (some ⟨(π b).1,0,none⟩) (len.den ρ).toNat (L.den ρ).toNat by simp [V.ae,XC.ae,cR,hz']]
     rw [hks'] at hst
     have hf2:(len.den ρ).toNat+n≤(L.den ρ).toNat:=by omega
     simp [Builtin.append_,ht0,ht1,run_underlying hu,hke.aO,hku.cP,hlx,hex w rfl,hdu,hf2,b9,hst,hks',V.ae,XC.ae,cR,hz',hlenN2]
    ·dsimp only
     rw [hl1.n,hl1.h]
     refine Mv.MQ c.rep st.n hob ⟨_,rfl,?_,fun hw=>(by cases hw),?_⟩ rfl
     ·simp only [List.length_append,List.length_take,List.length_drop,hnewl]
      rw [Nat.add_mul] at hfits
      omega
     ·exact CY hput b0 k4 (by omega) (.inl (Nat.le_refl _)) hfits
   ·obtain rfl:=Option.some.inj hx
    simp [R.ai] at h
  ·cases hx
end ops
end Go.Proofs.YtmickljjofbmiaaGreatDoor
