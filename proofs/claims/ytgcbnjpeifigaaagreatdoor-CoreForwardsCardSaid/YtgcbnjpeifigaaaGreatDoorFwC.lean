/- Symbolic execution, part 5: memory: cells that are read, written, laid anew; the tables of types. Symbolic execution, part 6: operations that only reckon do in the model what the evaluator says. Symbolic execution: code held against code. Symbolic execution: objects held against objects. Symbolic execution, part 7: more operations: equality, strings, building, loading, storing. Symbolic execution: rows of open length: what is read of them, written to them. Symbolic execution, part 8: the other operations that make a value. Symbolic execution, part 9: indexes, builds, slices, maps, calls. Symbolic execution, part 10: slices, addresses, maps, type tests, calls. Symbolic execution, part 11: slice expressions, maps, calls, builtins. Symbolic execution, part 12: maps. Symbolic execution, part 13: map operations and builtins. Symbolic execution, part 14: builtins. Symbolic execution: rows of open length: builtins. No condition. -/
import Derived.Test.YtgcbnjpeifigaaaGreatDoorFwB
import Derived.Laws.CopyRow
import Derived.Laws.Rows
import Derived.Laws.Entries
import Derived.Laws.StructEq
import Derived.Lib.Strings
import Derived.Laws.BytesArg
namespace Go.Proofs.YtgcbnjpeifigaaaGreatDoor
open Go
structure iO (P:Program) (t:TypeId) (td:TD):Prop where
 info:∃ i,P.info? t=some i/\i.size=td.size/\i.bytes=td.bytes/\∃ z,i.zero=some z/\(∀ ρ π,z.cells.toList=V.ae ρ π td.zero)/\(td.agg=true->∃ l,z=.agg l)/\(td.agg=false->∀ l,z≠.agg l)
 under:P.underlying t=some td.d
 len:td.zero.length=td.size
 agg:td.agg=(match td.d with|.struct _|.array _ _=>true|_=>false)
 flat:td.flat=true->td.agg=true->P.eqGuardType P.depth t=false/\P.stoodInHeld t=false/\(match td.d with|.struct fs=>fs.toList.all fun f=>f.name != "_" |_=>true)=true
def nu(P:Program)(tt:T TD):Prop:=∀ t td,tt.get t=some td->iO P t td
section types
variable {P:Program} {t:TypeId} {td:TD} (h:iO P t td) (w:World)
include h
theorem iO.cR:(underlying t).run P w=.ok td.d w:=run_underlying h.under w
theorem iO.aQ:(sizeOf t).run P w=.ok td.size w:=by
 obtain⟨i,hi,hs,_⟩:=h.info;simp[sizeOf,typeInfo,hi,hs]
theorem iO.qD:(isAgg t).run P w=.ok td.agg w:=by
 unfold isAgg;rw[Sem.run_bind,h.cR w,h.agg];cases td.d<;>rfl
end types
theorem vg(ρ:Env)(π:Pl)(v:V)(h:v.one=true):(v.ab ρ π).oneCell'=true:=by
 induction v using V.rec (motive_2:=fun _=>True)with
 |ite c a b ia ib=>
  simp only[V.one,qqw]at h;rw[AM];split
  ·exact ia h.1
  ·exact ib h.2
 |nil=>trivial
 |cons=>trivial
 |_=>simp_all [V.one,V.ab,Value.oneCell']
theorem sZ:∀ {l:List V},sY l=true->∀ v∈l,v.one=true
 |[],_,_,hm=>by simp at hm
 |v::l,h,u,hm=>by
  unfold sY at h;cases hv:v.one with
  |true=>
   rw[hv]at h;rcases List.mem_cons.1 hm with rfl|hm
   ·exact hv
   ·exact sZ h u hm
  |false=>rw[hv]at h;simp at h
theorem au(ρ:Env)(π:Pl)(l:List V):(V.ae ρ π l).length=l.length:=by rw[aU];simp
theorem aW(ρ:Env)(π:Pl)(l m:List V):V.ae ρ π (l++m)=V.ae ρ π l++V.ae ρ π m:=by simp[aU]
theorem eT(ρ:Env)(π:Pl)(l:List V)(n:Nat):V.ae ρ π (l.take n)=(V.ae ρ π l).take n:=by simp[aU]
theorem eS(ρ:Env)(π:Pl)(l:List V)(n:Nat):V.ae ρ π (l.drop n)=(V.ae ρ π l).drop n:=by simp[aU]
theorem bu(ρ:Env)(π:Pl)(l:List V)(n:Nat):(V.ae ρ π l)[n]?=(l[n]?).map (V.ab ρ π):=by simp[aU]
theorem eR(ρ:Env)(π:Pl)(v:V)(h:v.isIte=false):(v.ab ρ π).cells.toList=V.ae ρ π v.cells:=by
 cases v<;>first|(simp[V.isIte]at h;done)|simp[V.ab,V.cells,Value.cells,V.ae]
theorem cd(b o i:Nat):(⟨b,o,none⟩:Addr).add i=⟨b,o+i,none⟩:=by unfold Addr.add;split<;>simp_all
section mem
variable {P:Program} {ρ:Env} {π:Pl} {h:H} {w:World}
theorem dK.AL(hr:dK ρ π h w){b:Nat}{c:List V}{e:TypeId}{wd:Option Nat} (hb:h.get b=some (.cells c e wd)):
  ∃ spare:List Value,w.heap[(π b).1]?=some (.cells (V.ae ρ π c++spare).toArray e (0,0))/\C2 wd c.length spare (π b).2:=by
 obtain⟨ob,h1,spare,rfl,h3⟩:=hr.obj b _ hb;exact⟨spare,h1,h3⟩
theorem dK.row(hr:dK ρ π h w){b:Nat}{c:List V}(hb:rowAt h b=some c):∃ (spare:List Value) (e:TypeId) (fr:Nat×Nat),w.heap[(π b).1]?=some (.cells (V.ae ρ π c++spare).toArray e fr):=by
 unfold rowAt at hb;split at hb
 ·rename_i e wd hg;injection hb with hb;subst hb;obtain⟨spare,h1,_⟩:=hr.AL hg;exact⟨spare,_,_,h1⟩
 ·rename_i hg;injection hb with hb;subst hb;obtain⟨ob,h1,⟨e,fr,hob⟩,_⟩:=hr.obj b _ hg;rw[hob]at h1;exact⟨[],e,fr,by simpa using h1⟩
 ·simp at hb
theorem lP(hr:dK ρ π h w){b off n:Nat}{cs:List V}(hc:cN h b off n=some cs):
  (loadCells ⟨(π b).1,off,none⟩ n).run P w=.ok (V.ae ρ π cs).toArray w/\cs.length=n:=by
 unfold cN at hc;split at hc
 ·rename_i c hb;obtain⟨spare,e,fr,h1⟩:=hr.row hb;obtain⟨h2,h3,h4⟩:=cS _ _ _ hc;rw[cO]at h2 h4;refine⟨?_,h3⟩;have:=run_loadCells_list (P:=P) w ⟨(π b).1,off,none⟩ (V.ae ρ π cs) (fun j v hv=>by
   rw[cd,cell_of_row w _ _ _ _ _ h1];have hj:j<cs.length:=by
    have:=qq5.1 hv;obtain⟨hj,_⟩:=this
    rwa [au]at hj
   rw[<-h2,eT,eS]at hv;rw[List.getElem?_take,if_pos (by omega),List.getElem?_drop]at hv;simp only[List.getElem?_toArray];rw[qk1]
   ·exact hv
   ·rw[au];simp at h4;omega)
  rw[au,h3]at this;exact this
 ·simp at hc
theorem add_add(a:Addr)(x y:Nat):(a.add x).add y=a.add (x+y):=by
 unfold Addr.add;by_cases hx:x=0
 ·simp[hx]
 ·by_cases hy:y=0
  ·simp[hx,hy]
  ·simp[hx,hy,Nat.add_assoc]
theorem add_plain{a:Addr}(h:a.spot=none)(x:Nat):a.add x=⟨a.block,a.off+x,none⟩:=by
 unfold Addr.add;obtain⟨b,o,s⟩:=a;simp only at h;subst h;by_cases hx:x=0<;>simp[hx]
theorem YZ{off n es:Nat}{m:Int}(h1:off % es+n<=es) (h2:((off / es:Nat):Int)<m):off+n<=m.toNat*es:=by
 have h3:off / es+1<=m.toNat:=by omega
 have h4:(off / es+1)*es<=m.toNat*es:=qq7 _ h3;have h5:=Nat.div_add_mod off es;rw[qk0,Nat.one_mul,Nat.mul_comm (off / es)]at h4;omega
theorem T3(hr:dK ρ π h w){pc:PC}(hpc:ai ρ pc){b off n:Nat}{cs:List V}(hc:Fw h pc b off n=some cs):
  (loadCells ((ρ.win b).add off) n).run P w=.ok (V.ae ρ π cs).toArray w/\cs.length=n:=by
 unfold Fw at hc;split at hc
 ·rename_i tag c len es hb;split at hc;rotate_left
  ·cases hc
  rename_i hble hdec;have hin:=YZ (qqx hble) (by have:=dz hpc hdec;rw[nX]at this;have:=of_decide_eq_true this;simpa[X.den]using this);obtain⟨ob,h1,⟨hs,hbl,arr,t,fr,rfl,hcells⟩,_⟩:=hr.obj b _ hb;obtain⟨h2,h3,h4⟩:=cS _ _ _ hc;rw[cO]at h2 h4;refine⟨?_,h3⟩;have:=run_loadCells_list (P:=P) w ((ρ.win b).add off) (V.ae ρ π cs) (fun j v hv=>by
   rw[add_add,add_plain hs,hbl,cell_of_row w _ _ _ _ _ h1];have hj:j<cs.length:=by
    have:=qq5.1 hv;obtain⟨hj,_⟩:=this
    rwa [au]at hj
   rw[<-h2,eT,eS]at hv;rw[List.getElem?_take,if_pos (by omega),List.getElem?_drop,bu]at hv;cases hcj:c[off+j]? with
   |none=>rw[hcj]at hv;cases hv
   |some u=>
    rw[hcj]at hv;rw[hcells _ _ hcj (by omega)];exact hv)
  rw[au,h3]at this;exact this
 ·simp at hc
theorem acU(hr:dK ρ π h w){b off n:Nat}{cs:List V}(hc:Pk h b off n=some cs):
  (loadCells ((ρ.win b).add off) n).run P w=.ok (V.ae ρ π cs).toArray w/\cs.length=n:=by
 unfold Pk at hc;split at hc
 ·rename_i hk;obtain rfl:=qqq hk;obtain rfl:=qqz hc;exact⟨by simp[loadCells,loadCellsFrom,V.ae],rfl⟩
 split at hc
 ·rename_i tag c m es hb;split at hc;rotate_left
  ·cases hc
  rename_i hble;have hin:=qqx hble;obtain⟨ob,h1,⟨hs,hbl,arr,t,fr,rfl,hcells⟩,_⟩:=hr.obj b _ hb;obtain⟨h2,h3,h4⟩:=cS _ _ _ hc;rw[cO]at h2 h4;refine⟨?_,h3⟩;have:=run_loadCells_list (P:=P) w ((ρ.win b).add off) (V.ae ρ π cs) (fun j v hv=>by
   rw[add_add,add_plain hs,hbl,cell_of_row w _ _ _ _ _ h1];have hj:j<cs.length:=by
    have:=qq5.1 hv;obtain⟨hj,_⟩:=this
    rwa [au]at hj
   rw[<-h2,eT,eS]at hv;rw[List.getElem?_take,if_pos (by omega),List.getElem?_drop,bu]at hv;cases hcj:c[off+j]? with
   |none=>rw[hcj]at hv;cases hv
   |some u=>
    rw[hcj]at hv;rw[hcells _ _ hcj (by show off+j<((Int.ofNat m:Int)).toNat*es;simp only[Int.ofNat_eq_natCast,qkw];omega)];exact hv)
  rw[au,h3]at this;exact this
 ·simp at hc
theorem Kp(hr:dK ρ π h w){t:TypeId}{td:TD}(ht:iO P t td){b off:Nat}{cs:List V}(hc:cN h b off td.size=some cs):
  (td.agg=true->(loadVar t ⟨(π b).1,off,none⟩).run P w=.ok ((V.agg cs).ab ρ π) w) /\
  (td.agg=false->∀ v,cs=[v]->(loadVar t ⟨(π b).1,off,none⟩).run P w=.ok (v.ab ρ π) w):=by
 obtain⟨hl,hn⟩:=lP (P:=P) hr hc;constructor
 ·intro ha;simp[loadVar,ht.qD,ha,ht.aQ,hl,V.ab]
 ·intro ha v hv;subst hv;unfold cN at hc;split at hc
  ·rename_i c hb;obtain⟨spare,e,fr,h1⟩:=hr.row hb;obtain⟨h2,h3,h4⟩:=cS _ _ _ hc;rw[cO]at h2 h4;simp only[loadVar,Sem.run_bind,ht.qD,ha,Result.andThen_ok,qqj,if_false,run_load,cell_of_row w _ _ _ _ _ h1];have hs:td.size=1:=by simpa using h3.symm
   rw[hs]at h2 h4;have hv:c[off]?=some v:=by
    have:=congrArg (fun l=>l[0]?) h2;simpa[List.getElem?_take,List.getElem?_drop]using this
   have:(V.ae ρ π c++spare).toArray[off]?=some (v.ab ρ π):=by
    simp only[List.getElem?_toArray];rw[qk1 (by rw[au];simp at h4;omega),bu,hv];rfl
   rw[this]
  ·simp at hc
theorem VY(hr:dK ρ π h w){pc:PC}(hpc:ai ρ pc){t:TypeId}{td:TD}(ht:iO P t td){b off:Nat}{cs:List V}(hc:Fw h pc b off td.size=some cs):
  (td.agg=true->(loadVar t ((ρ.win b).add off)).run P w=.ok ((V.agg cs).ab ρ π) w) /\
  (td.agg=false->∀ v,cs=[v]->(loadVar t ((ρ.win b).add off)).run P w=.ok (v.ab ρ π) w):=by
 obtain⟨hl,hn⟩:=T3 (P:=P) hr hpc hc;constructor
 ·intro ha;simp[loadVar,ht.qD,ha,ht.aQ,hl,V.ab]
 ·intro ha v hv;subst hv;unfold Fw at hc;split at hc
  ·rename_i tag c len es hb;split at hc;rotate_left
   ·cases hc
   rename_i hble hdec;have hin:=YZ (qqx hble) (by have:=dz hpc hdec;rw[nX]at this;have:=of_decide_eq_true this;simpa[X.den]using this);obtain⟨ob,h1,⟨hsp,hbl,arr,ty,fr,rfl,hcells⟩,_⟩:=hr.obj b _ hb;rw[add_plain hsp,hbl];obtain⟨h2,h3,h4⟩:=cS _ _ _ hc;rw[cO]at h2 h4;simp only[loadVar,Sem.run_bind,ht.qD,ha,Result.andThen_ok,qqj,if_false,run_load,cell_of_row w _ _ _ _ _ h1];have hs:td.size=1:=by simpa using h3.symm
   rw[hs]at h2 h4;have hv:c[off]?=some v:=by
    have:=congrArg (fun l=>l[0]?) h2;simpa[List.getElem?_take,List.getElem?_drop]using this
   rw[hcells _ _ hv (by omega)]
  ·simp at hc
structure Mv (ρ:Env) (π:Pl) (h:H) (n:Nat) (w:World) (h':H) (n':Nat) (w':World):Prop where
 rep:dK ρ π h' w'
 dom:∀ i o,h'.get i=some o->(∃ o0,h.get i=some o0)\/(n<=i/\i<n')
 sub:∀ i o,h'.get i=some o->w.heap.size<=(π i).1\/∃ i0 o0,h.get i0=some o0/\(π i0).1=(π i).1/\(o0.bg=true->o.bg=true)
 keep:∀ j,j<w.heap.size->(∀ i o,h.get i=some o->(π i).1=j->o.bg=true)->w'.heap[j]?=w.heap[j]?
 size:w.heap.size<=w'.heap.size
 same:w'.tape=w.tape/\w'.os=w.os/\w'.output=w.output
theorem Mv.refl(hr:dK ρ π h w)(n:Nat):Mv ρ π h n w h n w where
 rep:=hr
 dom:=fun _ o hi=>.inl ⟨o,hi⟩
 sub:=fun i o hi=>.inr ⟨i,o,hi,rfl,id⟩
 keep:=fun _ _ _=>rfl
 size:=qq2 _
 same:=⟨rfl,rfl,rfl⟩
theorem Mv.turn(hr:dK ρ π h w)(n:Nat){b:Nat}{o o':ak}{ob:Obj}(hb:h.get b=some o)(ho:o'.is ρ π b ob)(hz:o.bg=false):
  Mv ρ π h n w (h.set b o') n {w with heap:=w.heap.setIfInBounds (π b).1 ob}:=by
 obtain⟨ob0,h1,_⟩:=hr.obj b o hb;have hlt:(π b).1<w.heap.size:=(qq6.1 h1).1;have hget:∀ i x,(h.set b o').get i=some x->∃ x0,h.get i=some x0/\(x0.bg=true->x.bg=true):=by
  intro i x hi;by_cases e:b=i
  ·subst e;exact⟨o,hb,fun e=>by rw[hz]at e;cases e⟩
  ·rw[T.aB _ _ e]at hi;exact⟨x,hi,id⟩
 refine⟨⟨?_,?_⟩,?_,?_,?_,?_,⟨rfl,rfl,rfl⟩⟩
 ·intro i x hi;by_cases e:b=i
  ·subst e;rw[T.aP]at hi;cases hi;exact⟨ob,by simp[hlt],ho⟩
  ·rw[T.aB _ _ e]at hi;obtain⟨x',h2,h3⟩:=hr.obj i x hi;refine⟨x',?_,h3⟩;have:(π b).1≠(π i).1:=fun e'=>(hr.inj b i _ _ hb hi e').elim e fun h=>by rw[hz]at h;cases h.1
   rw[<-h2];simp only[Array.getElem?_setIfInBounds];rw[if_neg this]
 ·intro i j x y hi hj he;obtain⟨x0,h2,h2'⟩:=hget i x hi;obtain⟨y0,h3,h3'⟩:=hget j y hj;exact(hr.inj i j _ _ h2 h3 he).imp id fun h=>⟨h2' h.1,h3' h.2⟩
 ·intro i x hi;obtain⟨x0,h2,_⟩:=hget i x hi;exact .inl ⟨x0,h2⟩
 ·intro i x hi;obtain⟨x0,h2,h2'⟩:=hget i x hi;exact .inr ⟨i,x0,h2,rfl,h2'⟩
 ·intro j hj hne;simp only[Array.getElem?_setIfInBounds];rw[if_neg fun e=>by have:=hne b o hb e;rw[hz]at this;cases this]
 ·simp
theorem Mv.other{h:H}{n n':Nat}{w':World}{b:Nat}{o1 o2:ak} (m:Mv ρ π h n w (h.set b o1) n' w') (ho:∀ ob,o1.is ρ π b ob->o2.is ρ π b ob) (hz:o1.bg=o2.bg):Mv ρ π h n w (h.set b o2) n' w':=by
 have get:∀ i x,(h.set b o2).get i=some x->∃ x1,(h.set b o1).get i=some x1/\(∀ ob,x1.is ρ π i ob->x.is ρ π i ob)/\x1.bg=x.bg:=by
  intro i x hi;by_cases e:b=i
  ·subst e;rw[T.aP]at hi;cases hi;exact⟨o1,T.aP _ _ _,ho,hz⟩
  ·rw[T.aB _ _ e]at hi;exact⟨x,by rw[T.aB _ _ e];exact hi,fun _ h=>h,rfl⟩
 refine⟨⟨fun i x hi=>?_,fun i j x y hi hj he=>?_⟩,fun i x hi=>?_,fun i x hi=>?_,m.keep,m.size,m.same⟩
 ·obtain⟨x1,h1,h2,_⟩:=get i x hi;obtain⟨ob,h3,h4⟩:=m.rep.obj i x1 h1;exact⟨ob,h3,h2 ob h4⟩
 ·obtain⟨x1,h1,_,h1'⟩:=get i x hi;obtain⟨y1,h2,_,h2'⟩:=get j y hj;exact(m.rep.inj i j _ _ h1 h2 he).imp id fun h=>⟨h1'▸h.1,h2'▸h.2⟩
 ·obtain⟨x1,h1,_⟩:=get i x hi;exact m.dom i x1 h1
 ·obtain⟨x1,h1,_,h1'⟩:=get i x hi;exact(m.sub i x1 h1).imp id fun⟨i0,o0,a,b,c⟩=>⟨i0,o0,a,b,fun e=>h1'▸c e⟩
theorem Mv.new(hr:dK ρ π h w){n:Nat}{o:ak}{ob:Obj} (hn:(π n).1=w.heap.size) (ho:o.is ρ π n ob):
  Mv ρ π h n w (h.set n o) (n+1) {w with heap:=w.heap.push ob}:=by
 have hlt:∀ i x,h.get i=some x->(π i).1<w.heap.size:=fun i x hi=>by
  obtain⟨ob0,h1,_⟩:=hr.obj i x hi;exact(qq6.1 h1).1
 refine⟨⟨?_,?_⟩,?_,?_,?_,?_,⟨rfl,rfl,rfl⟩⟩
 ·intro i x hi;by_cases e:n=i
  ·subst e;rw[T.aP]at hi;cases hi;exact⟨ob,by simp[hn],ho⟩
  ·rw[T.aB _ _ e]at hi;obtain⟨x',h2,h3⟩:=hr.obj i x hi;exact⟨x',by rw[<-h2];have:=hlt i x hi;simp[Array.getElem?_push,Nat.ne_of_lt this],h3⟩
 ·intro i j x y hi hj he;by_cases e:n=i
  ·by_cases e':n=j
   ·exact .inl (by rw[<-e,<-e'])
   ·rw[T.aB _ _ e']at hj;have:=hlt j y hj;subst e;omega
  ·rw[T.aB _ _ e]at hi;by_cases e':n=j
   ·have:=hlt i x hi;subst e';omega
   ·rw[T.aB _ _ e']at hj;exact hr.inj i j _ _ hi hj he
 ·intro i x hi;by_cases e:n=i
  ·exact .inr (by omega)
  ·rw[T.aB _ _ e]at hi;exact .inl ⟨x,hi⟩
 ·intro i x hi;by_cases e:n=i
  ·subst e;exact .inl (by omega)
  ·rw[T.aB _ _ e]at hi;exact .inr ⟨i,x,hi,rfl,id⟩
 ·intro j hj _;simp[Array.getElem?_push,Nat.ne_of_lt hj]
 ·simp
theorem E1{α:Type}:∀ (l:List α) (n:Nat) (a:α),n<l.length->∃ r,Cr l n [a]=some r
 |[],n,a,h=>by simp at h
 |x::l,0,a,_=>⟨[a]++l,by unfold Cr;simp[takeN,cO]⟩
 |x::l,n+1,a,h=>by
  obtain⟨r,hr⟩:=E1 l n a (by simpa using h);exact⟨x::r,by unfold Cr;simp only[hr]⟩
theorem g8(hr:dK ρ π h w){b off:Nat}{vs:List V}{h':H}(hp:putAt h b off vs=some h')(n:Nat):
  ∃ w',(storeCells ⟨(π b).1,off,none⟩ (V.ae ρ π vs)).run P w=.ok () w'/\Mv ρ π h n w h' n w':=by
 unfold putAt at hp;split at hp
 ·rename_i c e wd hb;split at hp
  ·rename_i c' ha hc;simp only[qqk]at hp;subst hp;obtain⟨spare,h1,hs⟩:=hr.AL hb;obtain⟨h2,h3⟩:=vq _ _ _ _ hc;have hst:=run_storeCells_at (P:=P) (π b).1 off e (V.ae ρ π vs) 0 _ w h1 (by simp only[List.size_toArray,qq9,au];omega) (fun v hv=>by
    rw[aU]at hv;obtain⟨u,hu,rfl⟩:=qzx.1 hv;exact vg ρ π u (sZ ha u hu))
   have hlt:(π b).1<w.heap.size:=(qq6.1 h1).1;have e1:w.setRow (π b).1 (List.take (off+0) (V.ae ρ π c++spare).toArray.toList++V.ae ρ π vs++List.drop (off+0+(V.ae ρ π vs).length) (V.ae ρ π c++spare).toArray.toList).toArray =
     {w with heap:=w.heap.setIfInBounds (π b).1 (.cells (V.ae ρ π c'++spare).toArray e (0,0))}:=by
    unfold World.setRow;congr 1;apply Array.ext_getElem?;intro j;simp only[Array.getElem?_modify,Array.getElem?_setIfInBounds];by_cases ej:(π b).1=j
    ·subst ej;simp only[if_true,h1,hlt,Option.map_some];congr 2;rw[h2,aW,aW,eT,eS];simp only[Nat.add_zero,au];rw[List.take_append_of_le_length (by rw[au];omega),List.drop_append_of_le_length (by rw[au];omega)];simp
    ·simp[ej]
   exact⟨_,hst,e1▸Mv.turn hr n (o':=.cells c' e wd) hb ⟨spare,rfl,by rw[show c'.length=c.length by rw[h2];simp;omega];exact hs⟩ rfl⟩
  ·simp at hp
 ·simp at hp
theorem acA{α:Type}(l:List α):∀ (off n m:Nat) (u:α),m<n->off+n<=l.length->l.take off++((l.drop off).take n).set m u++l.drop (off+n)=l.take (off+m)++[u]++l.drop (off+m+1):=by
 induction l with
 |nil=>intro off n m u h1 h2;simp at h2;omega
 |cons x l ih=>
  intro off n m u h1 h2;cases off with
  |zero=>
   cases n with
   |zero=>omega
   |succ n=>
    cases m with
    |zero=>simp
    |succ m=>
     have:=ih 0 n m u (by omega) (by simp at h2;omega);simpa using this
  |succ off=>
   have:=ih off n m u h1 (by simp at h2;omega);rw[show off+1+n=(off+n)+1 by omega,show off+1+m=(off+m)+1 by omega];simpa using this
theorem O2(hr:dK ρ π h w){b off n m:Nat}{i:X}{u:V}{cs:List V}{h':H}(hc:cN h b off n=some cs) (hp:putAt h b off (kj i u 0 cs)=some h') (hu:u.one=true) (hi:i.den ρ=(m:Int)) (hm:m<n) (n0:Nat):
  ∃ w',(storeCells ⟨(π b).1,off+m,none⟩ [u.ab ρ π]).run P w=.ok () w'/\Mv ρ π h n0 w h' n0 w':=by
 unfold putAt at hp;split at hp
 ·rename_i c e wd hb;split at hp
  ·rename_i c' ha hc';simp only[qqk]at hp;subst hp;unfold cN rowAt at hc;rw[hb]at hc;dsimp only at hc;obtain⟨h1,h2,h3⟩:=cS _ _ _ hc;rw[cO]at h1 h3;have hlen:off+n<=c.length\/n=0:=by simp at h3;omega
   have hoff:off+m<c.length:=by omega
   obtain⟨c2,hc2⟩:=E1 c (off+m) u hoff;have hput:putAt h b (off+m) [u]=some (h.set b (.cells c2 e wd)):=by
    unfold putAt;rw[hb];dsimp only;rw[show sY [u]=true from by simp[sY,hu],hc2]
   obtain⟨w',h4,h5⟩:=g8 (P:=P) hr hput n0;refine⟨w',by simpa[V.ae]using h4,h5.other ?_ rfl⟩;obtain⟨p1,p2⟩:=vq _ _ _ _ hc2;obtain⟨q1,q2⟩:=vq _ _ _ _ hc';rw[CT]at q1 q2;have hcs:V.ae ρ π c'=V.ae ρ π c2:=by
    rw[p1,q1];simp only[aW,eT,eS,V.ae];rw[zn cs 0 m (by rw[hi];simp),<-h1];simp only[eT,eS];rw[show(List.take n (List.drop off c)).length=n by rw[h1];exact h2];have hlc:(V.ae ρ π c).length=c.length:=au ρ π c;generalize V.ae ρ π c=l at *;exact acA l off n m _ hm (by omega)
   have hl2:c'.length=c2.length:=by rw[<-au ρ π,hcs,au]
   rintro ob ⟨spare,e1,e2⟩;exact⟨spare,by rw[hcs];exact e1,by rw[hl2];exact e2⟩
  ·simp at hp
 ·simp at hp
theorem So(hr:dK ρ π h w){b off n m:Nat}{cs:List V}(hc:cN h b off n=some cs)(hm:m<n):∃ v,cs[m]?=some v/\w.cell? ⟨(π b).1,off+m,none⟩=some (v.ab ρ π):=by
 unfold cN at hc;split at hc
 ·rename_i c hb;obtain⟨spare,e,fr,h1⟩:=hr.row hb;obtain⟨h2,h3,h4⟩:=cS _ _ _ hc;rw[cO]at h2 h4;have hj:m<cs.length:=by omega
  have hv:c[off+m]?=some cs[m]:=by
   have:=congrArg (fun l=>l[m]?) h2;simp only[List.getElem?_take,List.getElem?_drop]at this;rw[if_pos hm]at this;rw[this,qq0 hj]
  refine⟨cs[m],qq0 hj,?_⟩;rw[cell_of_row w _ _ _ _ _ h1];simp only[List.getElem?_toArray];rw[qk1 (by rw[au];exact(qq5.1 hv).1),bu,hv];rfl
 ·simp at hc
end mem
def sl(P:Program)(ft:T Func):Prop:=∀ f fn,ft.get f=some fn->P.funcs[f]?=some fn/\(fn.name == "runtime.NumGoroutine")=false/\fn.body.isSome=true
structure Ctx (P:Program) (cx:Cx) (ρ:Env) (π:Pl) (h:H) (w:World) (tm:List V) (a:Act):Prop where
 tt:nu P cx.tt
 ft:sl P cx.ft
 rep:dK ρ π h w
 tmps:a.tmps=(V.ae ρ π tm).toArray
 glob:∀ g,g<cx.ng->(π g).1=g
theorem O7(l:List UInt8):(l.map UInt8.toNat).map UInt8.ofNat=l:=by
 rw[List.map_map];conv=>rhs;rw[<-List.map_id l]
 apply qz5;intro b _;simp
mutual
theorem jk(ρ:Env)(π:Pl):∀ (v:Value) (u:V),ofValue v=some u->u.ab ρ π=v
 |.bool b,u,h=>by simp[ofValue]at h;subst h;simp[V.ab,X.tt,X.den,da]
 |.int k n,u,h=>by simp[ofValue]at h;subst h;simp[V.ab,X.den]
 |.string s,u,h=>by
  simp only[ofValue,qqk]at h;subst h;simp only[V.ab,X.bF,O7]
 |.pointer none,u,h=>by simp[ofValue]at h;subst h;simp[V.ab]
 |.pointer (some _),u,h=>by simp[ofValue]at h
 |.slice none 0 0,u,h=>by simp[ofValue]at h;subst h;simp[V.ab]
 |.slice none 0 (_+1),u,h=>by simp[ofValue]at h
 |.slice none (_+1) _,u,h=>by simp[ofValue]at h
 |.slice (some _) _ _,u,h=>by simp[ofValue]at h
 |.map none,u,h=>by simp[ofValue]at h;subst h;simp[V.ab]
 |.map (some _),u,h=>by simp[ofValue]at h
 |.func f ⟨[]⟩ ⟨[]⟩,u,h=>by
  cases f<;>simp[ofValue]at h<;>(subst h;simp[V.ab,V.ae])
 |.func f ⟨[]⟩ ⟨_::_⟩,u,h=>by simp[ofValue]at h
 |.func f ⟨_::_⟩ _,u,h=>by simp[ofValue]at h
 |.nilFunc,u,h=>by simp[ofValue]at h;subst h;simp[V.ab]
 |.iface t v,u,h=>by
  simp only[ofValue,Option.map_eq_some_iff]at h;obtain⟨x,hx,rfl⟩:=h;simp[V.ab,jk ρ π v x hx]
 |.nilIface,u,h=>by simp[ofValue]at h;subst h;simp[V.ab]
 |.agg ⟨l⟩,u,h=>by
  simp only[ofValue,Option.map_eq_some_iff]at h;obtain⟨x,hx,rfl⟩:=h;simp[V.ab,qp ρ π l x hx]
 |.tuple ⟨l⟩,u,h=>by
  simp only[ofValue,Option.map_eq_some_iff]at h;obtain⟨x,hx,rfl⟩:=h;simp[V.ab,qp ρ π l x hx]
 |.float _ _,u,h=>by simp[ofValue]at h
 |.complex _ _ _,u,h=>by simp[ofValue]at h
 |.chan _,u,h=>by simp[ofValue]at h
theorem qp(ρ:Env)(π:Pl):∀ (l:List Value) (u:List V),ofValues l=some u->V.ae ρ π u=l
 |[],u,h=>by simp[ofValues]at h;subst h;rfl
 |v::l,u,h=>by
  simp only[ofValues]at h;split at h
  ·rename_i x y hx hy;simp only[qqk]at h;subst h;rw[V.ae,jk ρ π v x hx,qp ρ π l y hy]
  ·simp at h
end
section
variable {P:Program} {cx:Cx} {ρ:Env} {π:Pl} {h:H} {w:World} {tm:List V} {a:Act}
theorem a7(c:Ctx P cx ρ π h w tm a){o:Operand}{v:V}(hv:dM cx tm o=some v):a.eval o=v.ab ρ π:=by
 cases o with
 |tmp t=>
  simp only[dM,cr]at hv;simp only[Act.eval,c.tmps];split at hv
  ·rename_i u hu;split at hv
   ·simp at hv
   simp only[qqk]at hv;subst hv;simp[bu,hu]
  ·rename_i hu;simp only[qqk]at hv;subst hv;simp[bu,hu,V.ab,V.ae,undef]
 |const u=>exact(jk ρ π u v hv).symm
 |global g=>
  simp only[dM]at hv;split at hv
  ·rename_i hg;simp only[qqk]at hv;subst hv;have hg':g<cx.ng:=by simpa[Nat.blt_eq]using hg
   simp[Act.eval,V.ab,c.glob g hg']
  ·simp at hv
 |func f=>
  simp only[dM,qqk]at hv;subst hv;simp[Act.eval,V.ab,V.ae]
theorem PK(c:Ctx P cx ρ π h w tm a){o:Operand}{v:V}(hv:pP cx tm o=some v):a.eval o=v.ab ρ π:=by
 unfold pP at hv;split at hv
 ·rename_i u hu;obtain rfl:=qqz hv;exact a7 c hu
 ·split at hv
  ·rename_i t;split at hv
   ·rename_i u hu;split at hv
    ·rename_i k;obtain rfl:=qqz hv;rw[cr]at hu;simp only[Act.eval,c.tmps];simp[bu,hu]
    ·cases hv
   ·cases hv
  ·cases hv
theorem lS:∀ {v:Value} {u:V},ofValue v=some u->u.isIte=false:=by
 intro v u h;unfold ofValue at h;split at h
 all_goals first
  |(obtain rfl:=qqz h;rfl)
  |(split at h<;>first|(cases h;done)|(obtain rfl:=qqz h;rfl))
  |(rw[Option.map_eq_some_iff]at h;obtain⟨_,_,rfl⟩:=h;rfl)
  |cases h
theorem lG{cx:Cx}{tm:List V}{o:Operand}{v:V}(hv:dM cx tm o=some v):v.isIte=false:=by
 cases o with
 |tmp t=>
  simp only[dM]at hv;split at hv
  ·split at hv
   ·cases hv
   ·rename_i hn;obtain rfl:=qqz hv;exact hn
  ·obtain rfl:=qqz hv;rfl
 |const u=>exact lS hv
 |global g=>
  simp only[dM]at hv;split at hv
  ·obtain rfl:=qqz hv;rfl
  ·cases hv
 |func f=>
  simp only[dM]at hv;obtain rfl:=qqz hv;rfl
theorem iq{cx:Cx}{tm:List V}:∀ {l:List (Nat×Operand)} {vs:List (Nat×V)},fB cx tm l=some vs->∀ x∈vs,x.2.isIte=false
 |[],vs,hv=>by simp[fB]at hv;subst hv;simp
 |(i,o)::l,vs,hv=>by
  simp only[fB]at hv;split at hv
  ·rename_i x y hx hy;simp only[qqk]at hv;subst hv;intro z hz;rcases List.mem_cons.1 hz with rfl|hz
   ·exact lG hx
   ·exact iq hy z hz
  ·simp at hv
theorem AY(c:Ctx P cx ρ π h w tm a):∀ {l:List Operand} {vs:List V},jx cx tm l=some vs->l.map a.eval=V.ae ρ π vs
 |[],vs,hv=>by simp[jx]at hv;subst hv;rfl
 |o::l,vs,hv=>by
  simp only[jx]at hv;split at hv
  ·rename_i x y hx hy;simp only[qqk]at hv;subst hv;rw[List.map_cons,V.ae,PK c hx,AY c hy]
  ·simp at hv
theorem gV(c:Ctx P cx ρ π h w tm a):∀ {l:List Operand} {vs:List V},gO cx tm l=some vs->l.map a.eval=V.ae ρ π vs
 |[],vs,hv=>by simp[gO]at hv;subst hv;rfl
 |o::l,vs,hv=>by
  simp only[gO]at hv;split at hv
  ·rename_i x y hx hy;simp only[qqk]at hv;subst hv;rw[List.map_cons,V.ae,a7 c hx,gV c hy]
  ·simp at hv
theorem ti(c:Ctx P cx ρ π h w tm a):∀ {l:List (Nat×Operand)} {vs:List (Nat×V)},fB cx tm l=some vs->
  l.map (fun x=>(x.1,a.eval x.2))=vs.map fun x=>(x.1,x.2.ab ρ π)
 |[],vs,hv=>by simp[fB]at hv;subst hv;rfl
 |(i,o)::l,vs,hv=>by
  simp only[fB]at hv;split at hv
  ·rename_i x y hx hy;simp only[qqk]at hv;subst hv;simp only[List.map_cons,a7 c hx,ti c hy]
  ·simp at hv
end
def nS:Result Next->Pc
 |.ok (.value (.pointer (some a))) _=>⟨a.block,0,.nilFunc⟩
 |.ok (.value (.slice (some a) _ cap)) _=>⟨a.block,cap,.nilFunc⟩
 |.ok (.value (.map (some r))) _=>⟨r,0,.nilFunc⟩
 |_=>⟨0,0,.nilFunc⟩
def Ran(P:Program)(cx:Cx)(tm:List V)(ρ:Env)(π:Pl)(st st':St)(w:World)(res:Result Next):OR->Prop
 |.val v=>∃ w',res=.ok (.value (v.ab ρ π)) w'/\Mv ρ π st.h st.n w st'.h st'.n w'
 |.skip=>∃ w',res=.ok .skip w'/\Mv ρ π st.h st.n w st'.h st'.n w'
 |.enter f args=>res=.ok (.enter f (V.ae ρ π args).toArray) w/\st'.h=st.h/\st'.n=st.n/\∃ fn,P.funcs[f]?=some fn
 |.round l args=>res=(Instr.yield (π l).1 (V.ae ρ π args).toArray).run P w/\st'.h=st.h/\st'.n=st.n/\∃ fo os,dM cx tm fo=some (.yield l)/\gO cx tm os=some args
 |.panic v=>res=.halt (.panic (v.ab ρ π)) w/\st'.h=st.h/\st'.n=st.n
 |.defer d=>res=.ok (.defer (d.ab ρ π)) w/\st'.h=st.h/\st'.n=st.n
structure aD (P:Program) (cx:Cx) (tm:List V) (ρ:Env) (π:Pl) (st st':St) (w:World) (res:Result Next) (r:OR):Prop where
 pc:ai ρ st'.pc
 n:st.n<=st'.n
 ran:(st.n<st'.n->π st.n=nS res)->Ran P cx tm ρ π st st' w res r
section
variable {P:Program} {cx:Cx} {tm:List V} {ρ:Env} {π:Pl} {st st':St} {w:World} {r:OR}
theorem aD.value{res:Result Next}{v:V}{st1:St}(hp:dK ρ π st.h w)(hl:cG ρ st st1) (h:(bA st1 v).ag ρ=some (r,st')) (hr:res=.ok (.value (v.ab ρ π)) w):aD P cx tm ρ π st st' w res r:=by
 simp only[bA,R.ag,qqk,qqv]at h;obtain⟨rfl,rfl⟩:=h;refine⟨hl.pc,by rw[hl.n];exact qq2 _,fun _=>⟨w,hr,?_⟩⟩;rw[hl.h,hl.n];exact Mv.refl hp _
theorem aD.gA{res:Result Next}{v:Option V}{s:String}{st1:St}(hp:dK ρ π st.h w)(hl:cG ρ st st1) (h:(gA st1 v s).ag ρ=some (r,st')) (hr:∀ u,v=some u->res=.ok (.value (u.ab ρ π)) w):
  aD P cx tm ρ π st st' w res r:=by
 unfold Go.Proofs.YtgcbnjpeifigaaaGreatDoor.gA at h;split at h
 ·exact aD.value hp hl h (hr _ rfl)
 ·simp[R.ag]at h
theorem aD.new{res:Result Next}{o:ak}{ob:Obj}{v:V}(hp:dK ρ π st.h w)(hpc:ai ρ st.pc) (h:R.ag ρ (.ok (.val v,newObj st o))=some (r,st'))
  (hr:(π st.n).1=w.heap.size->res=.ok (.value (v.ab ρ π)) {w with heap:=w.heap.push ob}) (hpl:(nS res).1=w.heap.size) (ho:(π st.n).1=w.heap.size->o.is ρ π st.n ob):
  aD P cx tm ρ π st st' w res r:=by
 simp only[R.ag,qqk,qqv]at h;obtain⟨rfl,rfl⟩:=h;refine⟨hpc,by simp[newObj],fun hn=>?_⟩;have hn':(π st.n).1=w.heap.size:=by rw[hn (by simp[newObj]),hpl]
 exact⟨_,hr hn',Mv.new hp hn' (ho hn')⟩
end
section ops
variable {P:Program} {cx:Cx} {ρ:Env} {π:Pl} {w:World} {tm:List V} {a:Act} {st st':St} {r:OR}
theorem acB(k:IntKind)(x y:Int)(yk:IntKind)(h:¬y<0):(Op.shift .shl k x yk y).run P w=.ok (.int k (OX k x y)) w:=by
 simp[Op.shift,h,OX]
theorem acD(k:IntKind)(x y:Int)(yk:IntKind)(h:¬y<0):(Op.shift .shr k x yk y).run P w=.ok (.int k (yr k x y)) w:=by
 simp[Op.shift,h,yr]
theorem Wu{op:BinOp}{k j:IntKind}{x y:X}{t:TypeId}{p q:Operand}{ty:TypeId}{o:Oper}(c:Ctx P cx ρ π st.h w tm a)(hpc:ai ρ st.pc)(ho:o.op=.binOp op t p q ty)
  (hx:a.eval p=.int k (x.den ρ)) (hy:a.eval q=.int j (y.den ρ)) (h:(CO st op k x y).ag ρ=some (r,st')):aD P cx tm ρ π st st' w ((execOp a.eval o).run P w) r:=by
 unfold CO at h;obtain⟨st1,hl,h1⟩:=ah hpc h;rw[mu]at h1;split at h1
 ·simp[R.ag]at h1
 ·rename_i hd;have hn:¬y.den ρ<0:=by
   have:=of_decide_eq_false hd;simpa[X.den]using this
  cases op<;>first
   |(simp[R.ag]at h1;done)
   |(refine aD.value c.rep hl h1 ?_
     simp only[execOp,ho,hx,hy];simp[eqGuard,binOp,V.ab,xM,jc,acB,acD,hn])
theorem F6{pc:PC}(hp:ai ρ pc)(x:X):(pJ pc x).den ρ=x.den ρ:=by
 unfold pJ;split
 ·split
  ·split
   ·rename_i h1 h2;exact(bV (eu hp h1) (eu hp h2)).symm
   ·rfl
  ·rfl
 ·rfl
theorem BJ:∀ {pc:PC},ai ρ pc->∀ x:X,(BI pc x).den ρ=x.den ρ
 |[],_,_=>rfl
 |(y,b)::l,hp,x=>by
  have hl:=BJ (pc:=l) (fun f hf=>hp f (qq3 _ hf)) x;have key:∀ z n,y=.eq z (.lit n)->b=true->z.beq x=true->(X.lit n).den ρ=x.den ρ:=fun z n e1 e2 hz=>by
   subst e1 e2;obtain rfl:=X.beq_eq hz;have:=hp _ (qq1 ..);simp only[X.tt,X.den,bp]at this;by_cases e:z.den ρ=n
   ·simp[X.den,e]
   ·simp[e]at this
  unfold BI;split
  ·split
   ·exact key _ _ rfl rfl ‹_›
   ·exact hl
  ·exact hl
theorem abh{op:BinOp}{k:IntKind}{x y:X}{t:TypeId}{p q:Operand}{ty:TypeId}{o:Oper}(c:Ctx P cx ρ π st.h w tm a)(hpc:ai ρ st.pc)(ho:o.op=.binOp op t p q ty)
  (hx:a.eval p=.int k (x.den ρ)) (hy:a.eval q=.int k (y.den ρ)) (h:(FQ st op k x y).ag ρ=some (r,st')):aD P cx tm ρ π st st' w ((execOp a.eval o).run P w) r:=by
 have hl:=cG.refl hpc;unfold FQ at h;cases op<;>simp only at h
 case quo=>
  obtain⟨st1,hl1,h1⟩:=ah hpc h;rw[fE]at h1;split at h1
  ·simp[R.ag]at h1
  ·rename_i hd;have hn:¬y.den ρ=0:=by simpa[X.den]using hd
   refine aD.value c.rep hl1 h1 ?_;simp[execOp,ho,hx,hy,eqGuard,binOp,V.ab,BJ hl1.pc,EK,Op.intDiv,hn]
 case rem=>
  obtain⟨st1,hl1,h1⟩:=ah hpc h;rw[fE]at h1;split at h1
  ·simp[R.ag]at h1
  ·rename_i hd;have hn:¬y.den ρ=0:=by simpa[X.den]using hd
   refine aD.value c.rep hl1 h1 ?_;simp[execOp,ho,hx,hy,eqGuard,binOp,V.ab,kW,Op.intDiv,hn]
 case shl=>simp[R.ag]at h
 case shr=>simp[R.ag]at h
 all_goals
  refine aD.value c.rep hl h ?_;simp only[execOp,ho,hx,hy];simp[eqGuard,binOp,V.ab,Op.intArith,Op.intBits,Op.intCmp,xK,xN,kU,oz,gU,fE,nJ,mu,dF,bne,F6 hpc]
theorem ok_int{op:BinOp}{k:IntKind}{x y:X}{t:TypeId}{p q:Operand}{ty:TypeId}{o:Oper}(c:Ctx P cx ρ π st.h w tm a)(hpc:ai ρ st.pc)(ho:o.op=.binOp op t p q ty)
  (hx:a.eval p=.int k (x.den ρ)) (hy:a.eval q=.int k (y.den ρ)) (h:(UF st op k x y).ag ρ=some (r,st')):aD P cx tm ρ π st st' w ((execOp a.eval o).run P w) r:=
 abh c hpc ho (by rw[hx,yt hpc]) (by rw[hy,yt hpc]) h
end ops
theorem fq{α:Type} [DecidableEq α] {a b:α} (h:lC a b=true):a=b:=of_decide_eq_true h
theorem T0{a b:Value}(h:Pb a b=true):a=b:=by
 unfold Pb at h;split at h
 ·rename_i u v hu hv;obtain rfl:=V.beq_eq _ _ h;let ρ:Env:=⟨fun _=>false,fun _=>0,fun _ _=>0,fun _ _ _=>0,fun _=>[],fun _ _=>[],fun _=>.deferred none,fun _=>⟨0,0,none⟩⟩
  rw[<-jk ρ (fun _=>⟨0,0,.nilFunc⟩) a u hu,<-jk ρ (fun _=>⟨0,0,.nilFunc⟩) b u hv]
 ·cases h
theorem u0{a b:Array Nat}(h:KI a b=true):a=b:=Array.ext' (oA h)
theorem aA{a b:Operand}(h:aY a b=true):a=b:=by
 unfold aY at h;split at h
 ·rw[qqq h]
 ·rw[T0 h]
 ·rw[qqq h]
 ·rw[qqq h]
 ·cases h
theorem gQ{α:Type}{f:α->α->Bool} (hf:∀ {a b},f a b=true->a=b):∀ {l m:List α},iz f l m=true->l=m
 |[],[],_=>rfl
 |a::l,b::m,h=>by
  unfold iz at h;split at h
  ·rename_i hb;rw[hf hb,gQ hf h]
  ·cases h
 |[],_::_,h=>by simp[iz]at h
 |_::_,[],h=>by simp[iz]at h
theorem tP{a b:Array Operand}(h:Aa a b=true):a=b:=Array.ext' (gQ aA h)
theorem kE{a b:Option Operand}(h:kh a b=true):a=b:=by
 unfold kh at h;split at h
 ·rfl
 ·rw[aA h]
 ·cases h
theorem OI{a b:Nat×Operand}(h:Im a b=true):a=b:=by
 unfold Im at h;split at h
 ·rename_i h1;exact Prod.ext (qqq h1) (aA h)
 ·cases h
theorem y7 {a b:Array (Nat×Operand)} (h:Cn a b=true):a=b:=Array.ext' (gQ OI h)
theorem FY{a b:Callee}(h:wQ a b=true):a=b:=by
 unfold wQ at h;split at h
 ·rw[aA h]
 ·rw[fq h]
 ·cases h
theorem s9{a b:Call}(h:uv a b=true):a=b:=by
 obtain⟨a1,a2,a3⟩:=a;obtain⟨b1,b2,b3⟩:=b;unfold uv at h;simp only[andM,qqw]at h;rw[FY h.1,tP h.2.1,u0 h.2.2]
theorem WA{a b:Op}(h:Wz a b=true):a=b:=by
 unfold Wz at h;split at h
 ·skip;rw[aA h]
 ·skip;rw[aA h]
 ·simp only[andM,qqw]at h;rw[aA h.1,aA h.2.1,aA h.2.2]
 ·skip;rw[qqq h]
 ·simp only[andM,qqw]at h;rw[qqq h.1,aA h.2]
 ·simp only[andM,qqw]at h;rw[qqq h.1,y7 h.2]
 ·simp only[andM,qqw]at h;rw[qqq h.1,qqq h.2.1,y7 h.2.2]
 ·simp only[andM,qqw]at h;rw[qqq h.1,aA h.2.1,aA h.2.2.1,aA h.2.2.2]
 ·simp only[andM,qqw]at h;rw[qqq h.1,aA h.2]
 ·simp only[andM,qqw]at h;rw[qqq h.1,aA h.2.1,aA h.2.2]
 ·skip;rw[qqq h]
 ·skip;rw[qqq h]
 ·skip;rw[aA h]
 ·simp only[andM,qqw]at h;rw[fq h.1,qqq h.2.1,aA h.2.2.1,aA h.2.2.2.1,qqq h.2.2.2.2]
 ·simp only[andM,qqw]at h;rw[fq h.1,qqq h.2.1,aA h.2.2]
 ·simp only[andM,qqw]at h;rw[qqq h.1,qqq h.2.1,aA h.2.2]
 ·simp only[andM,qqw]at h;rw[qqq h.1,aA h.2]
 ·simp only[andM,qqw]at h;rw[qqq h.1,aA h.2]
 ·simp only[andM,qqw]at h;rw[fq h.1,tP h.2.1,tP h.2.2]
 ·simp only[andM,qqw]at h;rw[qqq h.1,kE h.2]
 ·simp only[andM,qqw]at h;rw[qqq h.1,aA h.2]
 ·simp only[andM,qqw]at h;rw[qqq h.1,aA h.2.1,aA h.2.2]
 ·simp only[andM,qqw]at h;rw[qqq h.1,aA h.2.1,kE h.2.2.1,kE h.2.2.2.1,kE h.2.2.2.2]
 ·simp only[andM,qqw]at h;rw[qqq h.1,aA h.2.1,qqq h.2.2]
 ·simp only[andM,qqw]at h;rw[qqq h.1,aA h.2.1,qqq h.2.2]
 ·simp only[andM,qqw]at h;rw[qqq h.1,aA h.2.1,aA h.2.2]
 ·simp only[andM,qqw]at h;rw[qqq h.1,aA h.2.1,aA h.2.2]
 ·simp only[andM,qqw]at h;rw[qqq h.1,aA h.2.1,aA h.2.2.1,dj h.2.2.2]
 ·simp only[andM,qqw]at h;rw[qqq h.1,aA h.2.1,aA h.2.2.1,aA h.2.2.2]
 ·simp only[andM,qqw]at h;rw[qqq h.1,aA h.2.1,aA h.2.2]
 ·simp only[andM,qqw]at h;rw[qqq h.1,aA h.2.1,aA h.2.2.1,aA h.2.2.2]
 ·simp only[andM,qqw]at h;rw[qqq h.1,aA h.2]
 ·simp only[andM,qqw]at h;rw[aA h.1,dj h.2]
 ·skip;rw[aA h]
 ·simp only[andM,qqw]at h;rw[aA h.1,qqq h.2.1,qqq h.2.2.1,dj h.2.2.2]
 ·simp only[andM,qqw]at h;rw[aA h.1,qqq h.2]
 ·skip;rw[s9 h]
 ·skip;rw[s9 h]
 ·skip;rw[s9 h]
 ·skip;rw[aA h]
 ·simp only[andM,qqw]at h;rw[aA h.1,aA h.2]
 ·simp only[andM,qqw]at h;rw[qqq h.1,aA h.2.1,dj h.2.2]
 ·cases h
theorem Nu{a b:Edge}(h:F8 a b=true):a=b:=by
 obtain⟨a1,a2⟩:=a;obtain⟨b1,b2⟩:=b;unfold F8 at h;simp only[andM,qqw]at h;rw[qqq h.1,fq h.2]
theorem iF{a b:Option Nat}(h:jl a b=true):a=b:=by
 unfold jl at h;split at h
 ·rfl
 ·rw[qqq h]
 ·cases h
theorem J1 {a b:Option (Nat×Bool)} (h:Bq a b=true):a=b:=by
 unfold Bq at h;split at h
 ·rfl
 ·simp only[andM,qqw]at h;rw[qqq h.1,dj h.2]
 ·cases h
theorem OB{a b:Oper}(h:Ie a b=true):a=b:=by
 obtain⟨a1,a2,a3,a4,a5,a6⟩:=a;obtain⟨b1,b2,b3,b4,b5,b6⟩:=b;unfold Ie at h;simp only[andM,qqw]at h;rw[iF h.1,WA h.2.1,qqq h.2.2.1,fq h.2.2.2.1,Array.ext' (gQ Nu h.2.2.2.2.1),J1 h.2.2.2.2.2]
theorem KV{a b:Array Oper}(h:KU a b=true):a=b:=Array.ext' (gQ OB h)
theorem i6:∀ {a b:Code},bJ a b=true->a=b:=by
 intro a;induction a with
 |skip  =>
  intro b h;cases b<;>simp only[bJ,qqj]at h
  rfl
 |region x0 x1 x2=>
  intro b h;cases b<;>simp only[bJ,qqj]at h
  simp only[andM,qqw]at h;rw[qqq h.1,KV h.2.1,dj h.2.2]
 |seq x0 x1 ih0 ih1=>
  intro b h;cases b<;>simp only[bJ,qqj]at h
  simp only[andM,qqw]at h;rw[ih0 h.1,ih1 h.2]
 |cond x0 x1 x2 ih1 ih2=>
  intro b h;cases b<;>simp only[bJ,qqj]at h
  simp only[andM,qqw]at h;rw[aA h.1,ih1 h.2.1,ih2 h.2.2]
 |block x0 x1 ih1=>
  intro b h;cases b<;>simp only[bJ,qqj]at h
  simp only[andM,qqw]at h;rw[qqq h.1,ih1 h.2]
 |loop x0 ih0=>
  intro b h;cases b<;>simp only[bJ,qqj]at h
  rw[ih0 h]
 |rangeFunc x0 x1 x2 x3 ih2 ih3=>
  intro b h;cases b<;>simp only[bJ,qqj]at h
  simp only[andM,qqw]at h;rw[aA h.1,u0 h.2.1,ih2 h.2.2.1,ih3 h.2.2.2]
 |exit x0=>
  intro b h;cases b<;>simp only[bJ,qqj]at h
  rw[qqq h]
 |scope x0 ih0=>
  intro b h;cases b<;>simp only[bJ,qqj]at h
  rw[ih0 h]
 |label x0=>
  intro b h;cases b<;>simp only[bJ,qqj]at h
  rw[qqq h]
 |goto x0=>
  intro b h;cases b<;>simp only[bJ,qqj]at h
  rw[qqq h]
 |ret  =>
  intro b h;cases b<;>simp only[bJ,qqj]at h
  rfl
 |refuse x0=>
  intro b h;cases b<;>simp only[bJ,qqj]at h
  rw[fq h]
theorem ar{a b c d e f:Bool}(h:bc a b c d e f=true):a=true/\b=true/\c=true/\d=true/\e=true/\f=true:=by
 unfold bc at h;revert h;cases a<;>cases b<;>cases c<;>cases d<;>cases e<;>cases f<;>simp
theorem OW{a b:cz}(h:IJ a b=true):a=b:=by
 unfold IJ at h;split at h
 ·simp only[qqw]at h;rw[qqq h.1.1,V.aR _ _ h.1.2,V.aR _ _ h.2]
 ·rw[qqq h]
 ·cases h
theorem mI:∀ {l m:List cz},fm l m=true->l=m
 |[],[],_=>rfl
 |a::l,b::m,h=>by
  simp only[fm,qqw]at h;rw[OW h.1,mI h.2]
 |[],_::_,h=>by simp[fm]at h
 |_::_,[],h=>by simp[fm]at h
theorem A.beq_eq:∀ {a b:A},a.beq b=true->a=b
 |.base t,b,h=>by
  cases b<;>simp only[A.beq,qqj]at h
  rw[qqq h]
 |.fill x,b,h=>by
  cases b<;>simp only[A.beq,qqj]at h
  rw[X.beq_eq h]
 |.put a i c x,b,h=>by
  cases b<;>simp only[A.beq,qqj]at h
  obtain⟨h1,h2,h3,h4,_⟩:=ar h;rw[A.beq_eq h1,X.beq_eq h2,qqq h3,X.beq_eq h4]
theorem OG{a b:V×V}(h:QA a b=true):a=b:=by
 obtain⟨h1,h2,_⟩:=ar h;exact Prod.ext (V.beq_eq _ _ h1) (V.beq_eq _ _ h2)
theorem sM{a b:Option Code}(h:oG a b=true):a=b:=by
 unfold oG at h;split at h
 ·rfl
 ·rw[i6 h]
 ·cases h
theorem Ig {a b:Option (List cz)} (h:yb a b=true):a=b:=by
 unfold yb at h;split at h
 ·rfl
 ·rw[mI h]
 ·cases h
theorem ak.beq_eq{a b:ak}(h:a.beq b=true):a=b:=by
 unfold ak.beq at h;split at h
 ·obtain⟨h1,h2,h3,_⟩:=ar h;rw[qqq h1,iF h2,V.aR _ _ h3]
 ·rw[gQ OG h]
 ·obtain⟨h1,h2,h3,h4,h5,h6⟩:=ar h;obtain⟨h7,h8,_⟩:=ar h6;rw[fq h1,sM h2,V.aR _ _ h3,qqq h4,u0 h5,i6 h7,i6 h8]
 ·rw[Ig h]
 ·obtain⟨h1,h2,_⟩:=ar h;rw[qqq h1,V.aR _ _ h2]
 ·obtain⟨h1,h2,h3,h4,_⟩:=ar h;rw[qqq h1,V.aR _ _ h2,X.beq_eq h3,qqq h4]
 ·rw[iF h]
 ·obtain⟨h1,h2,h3,h4,h5,_⟩:=ar h;rw[A.beq_eq h1,CK.aR h2,X.beq_eq h3,qqq h4,dj h5]
 ·obtain⟨h1,h2,h3,h4,_⟩:=ar h;rw[qqq h1,qqq h2,CK.aR h3,X.beq_eq h4]
 ·obtain⟨h1,h2,h3,_⟩:=ar h;rw[qqq h1,X.beq_eq h2,V.aR _ _ h3]
 ·cases h
section
variable {P:Program} {ρ:Env} {π:Pl} {w:World}
theorem Xr(ρ:Env)(π:Pl)(cs l:List V)(off n:Nat) (h:takeN n (gx cs off)=some l):((V.ae ρ π cs).drop off).take n=V.ae ρ π l:=by
 obtain⟨h1,_,h3⟩:=cS _ _ _ h;rw[cO]at h1;rw[<-h1,eT,eS]
theorem oJ{tt:T TD}(ht:nu P tt){t:TypeId}{cs:List V}{off:Nat}{v:V}(h:pd tt t cs off=some v):
  (part t (V.ae ρ π cs).toArray off).run P w=.ok (v.ab ρ π) w:=by
 unfold pd at h;split at h
 ·rename_i d hd;have hk:=ht t d hd;unfold part;rw[Sem.run_bind,hk.qD];cases ha:d.agg with
  |true=>
   rw[ha]at h;simp only[if_true]at h;split at h
   ·rename_i l hl;simp only[qqk]at h;subst h;simp[hk.aQ,V.ab,Xr ρ π cs l off d.size hl]
   ·simp at h
  |false=>
   rw[ha]at h;simp only[qqj,if_false,cr]at h;simp[bu,h]
 ·simp at h
end
theorem ajZ(a b:List UInt8):((⟨a.toArray⟩:ByteArray)==⟨b.toArray⟩)=(a==b):=by
 rw[show((⟨a.toArray⟩:ByteArray)==⟨b.toArray⟩)=(a.toArray==b.toArray)from rfl];simp
theorem Fu(a:List UInt8):(⟨a.toArray⟩:ByteArray).toList=a:=by
 rw[ByteArray.toList_eq]
section eq
variable {P:Program} {tt:T TD} {ρ:Env} {π:Pl}
theorem Ef{β:Type}(fs:Array Field)(b:β) (f:Field->β->Sem (ForInStep β)):(forIn fs b f:Sem β)=forIn fs.toList b f:=by
 rw[Array.forIn_toList]
theorem yM(w:World)(ht:nu P tt)(eq:TypeId->V->V->Option X)(d:Nat)(xs ys:List V)
  (heq:∀ t x y e,eq t x y=some e->(Op.equalIn d t (x.ab ρ π) (y.ab ρ π)).run P w=.ok (e.tt ρ) w):
  ∀ (fs:List Field) (e:X),eqFields eq tt xs ys fs=some e->(fs.all fun f=>f.name != "_")=true->
   (forIn fs ((none:Option Bool),()) (fun f (_:Option Bool×Unit)=>
    (if f.name = "_" then pure (ForInStep.yield (none,()))
    else do
     let x <-part f.type (V.ae ρ π xs).toArray f.offset;let y <-part f.type (V.ae ρ π ys).toArray f.offset;let r <-Op.equalIn d f.type x y
     if r=false then pure (ForInStep.done (some false,()))else pure (ForInStep.yield (none,())):Sem (ForInStep (Option Bool×Unit))))).run P w =
    .ok (if e.tt ρ then none else some false,()) w
 |[],e,h,_=>by
  simp only[eqFields,qqk]at h;subst h;simp[X.tt,X.den]
 |f::fs,e,h,hn=>by
  simp only[eqFields]at h;split at h
  ·rename_i x y hx hy;split at h
   ·rename_i e1 e2 h1 h2;simp only[qqk]at h;subst h;simp only[List.all_cons,qqw,bne_iff_ne,ne_eq]at hn;have ih:=yM w ht eq d xs ys heq fs e2 h2 hn.2;simp only[List.forIn_cons,Sem.run_bind,hn.1,if_false,oJ ht hx,oJ ht hy,Result.andThen_ok,heq _ _ _ _ h1,KA];cases he:e1.tt ρ with
    |true=>
     simp only[Bool.true_eq_false,if_false,Sem.run_pure,Result.andThen_ok,Bool.true_and];exact ih
    |false=>simp
   ·simp at h
  ·simp at h
theorem AU(w:World)(ht:nu P tt)(eq:V->V->Option X)(d:Nat)(elem:TypeId)(n:Nat)(xs ys:List V)
  (heq:∀ x y e,eq x y=some e->(Op.equalIn d elem (x.ab ρ π) (y.ab ρ π)).run P w=.ok (e.tt ρ) w):
  ∀ (m i:Nat) (e:X),ux eq tt elem n xs ys i m=some e->
   (forIn (List.range' i m) ((none:Option Bool),()) (fun j (_:Option Bool×Unit)=>
    (do
     let x <-part elem (V.ae ρ π xs).toArray (j*n);let y <-part elem (V.ae ρ π ys).toArray (j*n);let r <-Op.equalIn d elem x y
     if r=false then pure (ForInStep.done (some false,()))else pure (ForInStep.yield (none,())):Sem (ForInStep (Option Bool×Unit))))).run P w =
    .ok (if e.tt ρ then none else some false,()) w
 |0,i,e,h=>by
  simp only[ux,qqk]at h;subst h;simp[X.tt,X.den]
 |m+1,i,e,h=>by
  simp only[ux]at h;split at h
  ·rename_i x y hx hy;split at h
   ·rename_i e1 e2 h1 h2;simp only[qqk]at h;subst h;have ih:=AU w ht eq d elem n xs ys heq m (i+1) e2 h2;simp only[List.range'_succ,List.forIn_cons,Sem.run_bind,oJ ht hx,oJ ht hy,Result.andThen_ok,heq _ _ _ h1,KA];cases he:e1.tt ρ with
    |true=>
     simp only[Bool.true_eq_false,if_false,Sem.run_pure,Result.andThen_ok,Bool.true_and];exact ih
    |false=>simp
   ·simp at h
  ·simp at h
set_option maxHeartbeats 2000000 in
theorem Nx(ht:nu P tt)(w:World):∀ (n:Nat) (m:Nat) (t:TypeId) (x y:V) (e:X),n<=m->F9 tt n t x y=some e->
  (Op.equalIn m t (x.ab ρ π) (y.ab ρ π)).run P w=.ok (e.tt ρ) w
 |0,_,_,_,_,_,_,h=>by simp[F9]at h
 |n+1,0,_,_,_,_,hm,_=>by omega
 |n+1,m+1,t,x,y,e,hm,h=>by
  unfold F9 at h;split at h
  ·simp at h
  ·rename_i td hd;have hk:=ht t td hd;have hu:=hk.under;simp only at h;split at h
   ·rename_i hdd;simp only[qqk]at h;subst h;rw[hdd]at hu;simp[Op.equalIn,run_underlying hu,V.ab,BU]
   ·rename_i hdd;rw[hdd]at hu;split at h
    ·rename_i hk2;simp only[qqk]at h;subst h;simp[Op.equalIn,run_underlying hu,V.ab,fE,a9 hk2]
    ·simp at h
   ·rename_i hdd;simp only[qqk]at h;subst h;rw[hdd]at hu;simp[Op.equalIn,run_underlying hu,V.ab,qg];exact ajZ _ _
   ·rename_i hdd;simp only[qqk]at h;subst h;rw[hdd]at hu;simp[Op.equalIn,run_underlying hu,V.ab,X.tt,X.den]
   ·rename_i hdd;simp only[qqk]at h;subst h;rw[hdd]at hu;simp[Op.equalIn,run_underlying hu,V.ab,X.tt,X.den]
   ·rename_i hdd;simp only[qqk]at h;subst h;rw[hdd]at hu;simp[Op.equalIn,run_underlying hu,V.ab,X.tt,X.den]
   ·rename_i hdd;simp only[qqk]at h;subst h;rw[hdd]at hu;simp[Op.equalIn,run_underlying hu,V.ab,X.tt,X.den]
   ·rename_i hdd;simp only[qqk]at h;subst h;rw[hdd]at hu;simp[Op.equalIn,run_underlying hu,V.ab,X.tt,X.den]
   ·rename_i fields xs ys hdd;split at h
    ·rename_i hf;rw[hdd]at hu;have ha:td.agg=true:=by rw[hk.agg,hdd]
     obtain⟨_,hs,hn⟩:=hk.flat hf ha;rw[hdd]at hn;have:=yM (ρ:=ρ) (π:=π) w ht (F9 tt n) m xs ys (fun t x y e he=>Nx ht w n m t x y e (by omega) he) fields.toList e h hn;unfold Op.equalIn;simp only[V.ab,Sem.run_bind,run_underlying hu,Result.andThen_ok,program,Sem.run,hs,ne_eq,ite_not,qzk,qqj,if_false,Ef];rw[this];cases e.tt ρ<;>rfl
    ·simp at h
   ·rename_i len elem xs ys hdd;split at h
    ·rename_i hf;split at h
     ·rename_i ed he;have hke:=ht elem ed he;rw[hdd]at hu;have:=AU (ρ:=ρ) (π:=π) w ht (F9 tt n elem) m elem ed.size xs ys (fun x y e he=>Nx ht w n m elem x y e (by omega) he) len 0 e h;unfold Op.equalIn;simp only[V.ab,Sem.run_bind,run_underlying hu,Result.andThen_ok,hke.aQ,ne_eq,ite_not,qzk,Ef];simp only[Std.Legacy.Range.forIn_eq_forIn_range',Std.Legacy.Range.size,Nat.sub_zero,Nat.add_sub_cancel,Nat.div_one];rw[this];cases e.tt ρ<;>rfl
     ·simp at h
    ·simp at h
   all_goals first
    |(simp at h;done)
    |(rename_i hdd
      simp only[qqk]at h;subst h;rw[hdd]at hu;simp[Op.equalIn,run_underlying hu,V.ab,X.tt,X.den])
end eq
section ops
variable {P:Program} {cx:Cx} {ρ:Env} {π:Pl} {w:World} {tm:List V} {a:Act} {st st':St} {r:OR}
theorem anu{op:BinOp}{x y:X}{t:TypeId}{p q:Operand}{ty:TypeId}{o:Oper}(c:Ctx P cx ρ π st.h w tm a)(hpc:ai ρ st.pc)(ho:o.op=.binOp op t p q ty)
  (hx:a.eval p=(V.str x).ab ρ π) (hy:a.eval q=(V.str y).ab ρ π) (h:(Nk st op x y).ag ρ=some (r,st')):aD P cx tm ρ π st st' w ((execOp a.eval o).run P w) r:=by
 have hl:=cG.refl hpc;unfold Nk at h;split at h
 ·obtain⟨st1,hl1,h1⟩:=ah hpc h;split at h1
  ·simp[R.ag]at h1
  ·rename_i hd;obtain⟨st2,hl2,h2⟩:=ah hl1.pc h1;split at h2
   ·simp[R.ag]at h2
   ·rename_i hd2;have e1:=Ff ρ hd;have e2:=Ff ρ hd2;refine aD.value c.rep (hl1.trans hl2) h2 ?_;have hs:¬((((⟨(x.bF ρ).toArray⟩:ByteArray).size+(⟨(y.bF ρ).toArray⟩:ByteArray).size:Nat):Int) > IntKind.i64.max):=by
     simp only[ByteArray.size,List.size_toArray,IntKind.max_i64];omega
    simp only[execOp,ho,hx,hy,V.ab,eqGuard_at_string,binOp,Op.stringOp,hs,if_false,tI];simp only[Sem.run_pure,pure_bind];congr 3
 ·refine aD.value c.rep hl h ?_;simp only[execOp,ho,hx,hy,V.ab,eqGuard_at_string,binOp,Op.stringOp,Fu,qg];rfl
 ·refine aD.value c.rep hl h ?_;simp only[execOp,ho,hx,hy,V.ab,eqGuard_at_string,binOp,Op.stringOp,Fu,qg,nJ];rfl
 ·simp[R.ag]at h
theorem Di(t:TypeId)(p q:Operand)(x y:Value)(hg:P.eqGuardType P.depth t=false)(op:BinOp)(hx:∃ l,x=.agg l)(hy:∃ l,y=.agg l):
  (eqGuard op t p q x y).run P w=.ok () w:=by
 obtain⟨l,rfl⟩:=hx;obtain⟨m,rfl⟩:=hy;unfold eqGuard;cases op<;>simp[program,Sem.run,hg]
theorem abc{tt:T TD}{n:Nat}{t:TypeId}{xs:List V}{y:V}{e:X}(ht:nu P tt) (h:F9 tt (n+1) t (.agg xs) y=some e):P.eqGuardType P.depth t=false/\∃ ys,y=.agg ys:=by
 unfold F9 at h;split at h
 ·simp at h
 ·rename_i td hd;have hk:=ht t td hd;simp only at h;cases y with
  |agg ys=>
   refine⟨?_,ys,rfl⟩;split at h<;>first
    |contradiction
    |(rename_i hdd _ _
      split at h
      ·rename_i hf;exact(hk.flat hf (by rw[hk.agg,hdd])).1
      ·simp at h)
    |(simp at h;done)
  |_=>cases htd:td.d<;>rw[htd]at h<;>simp at h
theorem Rh{tt:T TD}{n:Nat}{t:TypeId}{y:V}{e:X} (h:F9 tt (n+1) t .niliface y=some e):∃ u v,y=.iface u v:=by
 unfold F9 at h;split at h
 ·simp at h
 ·rename_i td hd;simp only at h;cases y with
  |iface u v=>exact⟨u,v,rfl⟩
  |_=>cases htd:td.d<;>rw[htd]at h<;>simp at h
theorem xa{tt:T TD}{n:Nat}{t:TypeId}{c:X}{a b y:V}{e:X} (h:F9 tt (n+1) t (.ite c a b) y=some e):False:=by
 unfold F9 at h;split at h
 ·simp at h
 ·rename_i td hd;simp only at h;cases y<;>cases htd:td.d<;>rw[htd]at h<;>simp at h
theorem w9{tt:T TD}{n:Nat}{t:TypeId}{k:Nat}{y:V}{e:X} (h:F9 tt (n+1) t (.any k) y=some e):False:=by
 unfold F9 at h;split at h
 ·simp at h
 ·rename_i td hd;simp only at h;cases y<;>cases htd:td.d<;>rw[htd]at h<;>simp at h
theorem fP{tt:T TD}{n:Nat}{t:TypeId}{x y:V}{e:X} (h:F9 tt (n+1) t x y=some e):y.isIte=false:=by
 unfold F9 at h;split at h
 ·simp at h
 ·simp only at h;split at h<;>first|rfl|(simp at h;done)
theorem ap1{op:BinOp}{x y:V}{t:TypeId}{p q:Operand}{ty:TypeId}{o:Oper}(c:Ctx P cx ρ π st.h w tm a)(hpc:ai ρ st.pc)(ho:o.op=.binOp op t p q ty)
  (hx:a.eval p=x.ab ρ π) (hy:a.eval q=y.ab ρ π) (hni:∀ k u,x≠.int k u\/∀ j v,y≠.int j v) (hns:∀ u,x≠.str u\/∀ v,y≠.str v) (h:(UE cx st op t x y).ag ρ=some (r,st')):
  aD P cx tm ρ π st st' w ((execOp a.eval o).run P w) r:=by
 have hl:=cG.refl hpc;unfold UE at h;have key:∀ e,F9 cx.tt 100 t x y=some e->(op=.eql\/op=.neq)->(execOp a.eval o).run P w=.ok (.value (.bool (if op=.eql then e.tt ρ else !e.tt ρ))) w:=by
  intro e he hop;have h1:=Nx (ρ:=ρ) (π:=π) c.tt w 100 Op.maxDepth t x y e (by decide) he;have hg:(eqGuard op t p q (x.ab ρ π) (y.ab ρ π)).run P w=.ok () w:=by
   cases x
   case agg xs=>
    obtain⟨hg,ys,rfl⟩:=abc c.tt he;exact Di t p q _ _ hg op ⟨_,rfl⟩ ⟨_,rfl⟩
   case niliface=>
    obtain⟨u,v,rfl⟩:=Rh he;simp only[V.ab,eqGuard_nil_iface];rfl
   case ite=>exact(xa he).elim
   case any=>exact(w9 he).elim
   all_goals (cases op<;>simp[eqGuard,V.ab])
  have hb:(binOp op t (x.ab ρ π) (y.ab ρ π)).run P w=.ok (.bool (if op=.eql then e.tt ρ else !e.tt ρ)) w:=by
   rcases hop with rfl|rfl
   ·cases x
    case int k u=>
     cases y
     case int j v=>exact absurd rfl ((hni k u).resolve_left (fun h=>h rfl) j v)
     case ite=>exact absurd (fP he) (by simp[V.isIte])
     case any=>exact absurd (fP he) (by simp[V.isIte])
     all_goals (simp only[V.ab]at h1;simp[binOp,V.ab,Op.equal,h1])
    case str u=>
     cases y
     case str v=>exact absurd rfl ((hns u).resolve_left (fun h=>h rfl) v)
     case ite=>exact absurd (fP he) (by simp[V.isIte])
     case any=>exact absurd (fP he) (by simp[V.isIte])
     all_goals (simp only[V.ab]at h1;simp[binOp,V.ab,Op.equal,h1])
    case ite=>exact(xa he).elim
    case any=>exact(w9 he).elim
    all_goals (simp only[V.ab]at h1;simp[binOp,V.ab,Op.equal,h1])
   ·cases x
    case int k u=>
     cases y
     case int j v=>exact absurd rfl ((hni k u).resolve_left (fun h=>h rfl) j v)
     case ite=>exact absurd (fP he) (by simp[V.isIte])
     case any=>exact absurd (fP he) (by simp[V.isIte])
     all_goals (simp only[V.ab]at h1;simp[binOp,V.ab,Op.equal,h1])
    case str u=>
     cases y
     case str v=>exact absurd rfl ((hns u).resolve_left (fun h=>h rfl) v)
     case ite=>exact absurd (fP he) (by simp[V.isIte])
     case any=>exact absurd (fP he) (by simp[V.isIte])
     all_goals (simp only[V.ab]at h1;simp[binOp,V.ab,Op.equal,h1])
    case ite=>exact(xa he).elim
    case any=>exact(w9 he).elim
    all_goals (simp only[V.ab]at h1;simp[binOp,V.ab,Op.equal,h1])
  simp only[execOp,ho,hx,hy,Sem.run_bind,hg,hb,Result.andThen_ok,Sem.run_pure]
 split at h
 ·rename_i e he;exact aD.value c.rep hl h (by rw[key e he (.inl rfl)];simp[V.ab])
 ·rename_i e he;exact aD.value c.rep hl h (by rw[key e he (.inr rfl)];simp[V.ab,nJ])
 ·simp[R.ag]at h
end ops
section
variable {P:Program} {ρ:Env} {π:Pl} {h:H} {w:World}
theorem E9{pc:PC}{i j:X}{b:Bool}(hp:ai ρ pc)(h:OV pc i j=some b):(i.den ρ==j.den ρ)=b:=by
 unfold OV at h;split at h
 ·rename_i he;rw[<-qqz h,X.beq_eq he];simp
 ·have:=wY hp h
  rwa [bZ]at this
theorem A.zX{pc:PC}(hp:ai ρ pc)(k:CK)(c:Nat)(i:X):∀ a:A,(a.get pc k c i).den ρ=a.den ρ k c (i.den ρ)
 |.base t=>by cases k<;>rfl
 |.fill x=>rfl
 |.put a j c' x=>by
  unfold A.get A.den;split
  ·rename_i hc;have hc':=qqq hc;split
   ·rename_i hs;have:=beq_iff_eq.1 (E9 hp hs);rw[if_pos ⟨hc',this⟩]
   ·rename_i hs;have:=beq_eq_false_iff_ne.1 (E9 hp hs);rw[if_neg fun e=>this e.2];exact A.zX hp k c i a
   ·rw[gY,bZ,A.zX hp k c i a];by_cases e:i.den ρ=j.den ρ
    ·rw[if_pos (beq_iff_eq.2 e),if_pos ⟨hc',e⟩]
    ·rw[if_neg (fun q=>e (beq_iff_eq.1 q)),if_neg fun q=>e q.2]
  ·rename_i hc;rw[if_neg fun e=>by rw[e.1,qz6]at hc;cases hc];exact A.zX hp k c i a
theorem CK.RR(k:CK)(x:X):(k.cell x).ab ρ π=k.val (x.den ρ):=by cases k<;>rfl
theorem A.DW{pc:PC}(hp:ai ρ pc)(a:A)(i:X):∀ (ks:List CK) (c j:Nat),(V.ae ρ π (a.cells pc i c ks))[j]?=(ks[j]?).map fun k=>k.val (a.den ρ k (c+j) (i.den ρ))
 |[],c,j=>by simp[A.cells,V.ae]
 |k::ks,c,0=>by simp[A.cells,V.ae,CK.RR,A.zX hp]
 |k::ks,c,j+1=>by
  have:=A.DW hp a i ks (c+1) j;simp only[A.cells,V.ae,List.getElem?_cons_succ,this];rw[show c+1+j=c+(j+1) by omega]
theorem A.wS{pc:PC}(a:A)(i:X):∀ (ks:List CK) (c:Nat),(a.cells pc i c ks).length=ks.length
 |[],_=>rfl
 |_::ks,c=>by simp[A.cells,A.wS a i ks (c+1)]
theorem ID(hr:dK ρ π h w){wd:Bool}{b:Nat}{a:A}{ks:List CK}{L:X} (hb:CL h wd b=some (a,ks,L)):
  ∃ (cs:Array Value) (t:TypeId) (fr:Nat×Nat) (o:Nat),w.heap[(π b).1]?=some (.cells cs t fr)/\(∀ n,cU ρ π wd b n=⟨(π b).1,o+n,none⟩)/\ko ρ a ks (L.den ρ).toNat fun j=>cs[o+j]?:=by
 unfold CL at hb;split at hb
 ·rename_i hg;split at hb
  ·obtain⟨rfl,rfl,rfl⟩:_/\_/\_:=by simpa only[qqk,qqv]using hb
   obtain⟨ob,h1,cs,rfl,h2,h3,h4⟩:=hr.obj b _ hg;exact⟨_,_,_,0,h1,fun n=>by simp[cU],fun j c k hj hk=>by simpa using h4 j c k hj hk⟩
  ·cases hb
 ·rename_i hg;split at hb
  ·obtain⟨rfl,rfl,rfl⟩:_/\_/\_:=by simpa only[qqk,qqv]using hb
   obtain⟨ob,h1,⟨h2,h3,cs,t,fr,rfl,h4⟩,_⟩:=hr.obj b _ hg;exact⟨_,_,_,(ρ.win b).off,h1,fun n=>by simp only[cU,if_true];rw[add_plain h2,h3],h4⟩
  ·cases hb
 ·cases hb
theorem My(hr:dK ρ π h w){pc:PC}(hp:ai ρ pc){wd:Bool}{b:Nat}{a:A}{ks ks':List CK}{L i:X}{c n:Nat} (hb:CL h wd b=some (a,ks,L)) (h0:0<=i.den ρ) (hi:i.den ρ<L.den ρ)
  (ht:takeN n (gx ks c)=some ks') (j:Nat) (hj:j<n):w.cell? (cU ρ π wd b ((i.den ρ).toNat*ks.length+c+j))=(V.ae ρ π (a.cells pc i c ks'))[j]?:=by
 obtain⟨cs,t,fr,o,h1,h2,h3⟩:=ID hr hb;obtain⟨e1,e2,e3⟩:=cS _ _ _ ht;rw[cO]at e1 e3;simp only[qzv]at e3;have hk:ks[c+j]?=ks'[j]?:=by
  rw[<-e1,List.getElem?_take,if_pos hj,List.getElem?_drop]
 have hlt:c+j<ks.length:=by omega
 rw[A.DW hp,<-hk,qq0 hlt,h2,cell_of_row w _ _ _ _ _ h1];have:=h3 (i.den ρ).toNat (c+j) ks[c+j] (by omega) (qq0 hlt);dsimp only at this;rw[Nat.add_assoc ((i.den ρ).toNat*ks.length)];rw[this,Int.toNat_of_nonneg h0];rfl
theorem ig(wd:Bool)(b m n:Nat):(cU ρ π wd b m).add n=cU ρ π wd b (m+n):=by
 unfold cU;cases wd
 ·simp only[qqj,if_false,cd]
 ·simp only[if_true,add_add]
theorem Xg(hr:dK ρ π h w){pc:PC}(hp:ai ρ pc){wd:Bool}{b:Nat}{a:A}{ks ks':List CK}{L i:X}{c n:Nat} (hb:CL h wd b=some (a,ks,L)) (h0:0<=i.den ρ) (hi:i.den ρ<L.den ρ)
  (ht:takeN n (gx ks c)=some ks'):(loadCells (cU ρ π wd b ((i.den ρ).toNat*ks.length+c)) n).run P w=.ok (V.ae ρ π (a.cells pc i c ks')).toArray w:=by
 have hl:(V.ae ρ π (a.cells pc i c ks')).length=n:=by rw[au,A.wS];exact(cS _ _ _ ht).2.1
 have:=run_loadCells_list (P:=P) w (cU ρ π wd b ((i.den ρ).toNat*ks.length+c)) (V.ae ρ π (a.cells pc i c ks')) fun j v hv=>by
  rw[ig,My hr hp hb h0 hi ht j (by rw[<-hl];exact(qq5.1 hv).1)];exact hv
 rwa [hl]at this
theorem fN(a b:X):(nh a b).den ρ=a.den ρ+b.den ρ:=by
 unfold nh;split
 ·rename_i hz;rw[gr ρ hz,Int.zero_add]
 ·split
  ·rename_i m hm;split
   ·rename_i n hn;simp only[X.den,fD (ρ:=ρ) m hm,fD (ρ:=ρ) n hn]
   ·rfl
  ·split
   ·rename_i hz;rw[gr ρ hz,Int.add_zero]
   ·rfl
theorem CR(a b:X):(O3 a b).den ρ=a.den ρ-b.den ρ:=by
 unfold O3;split
 ·rename_i hz;rw[gr ρ hz,Int.sub_zero]
 ·split
  ·rename_i m hm;split
   ·rename_i n hn;simp only[X.den,fD (ρ:=ρ) m hm,fD (ρ:=ρ) n hn]
   ·rfl
  ·rfl
theorem cn{st st':St}{x:X}{k:St->cJ}{r:OR}(hp:ai ρ st.pc) (h:(iR st x k).ag ρ=some (r,st')):∃ st1,cG ρ st st1/\x.tt ρ=true/\(k st1).ag ρ=some (r,st'):=by
 obtain⟨st1,hl,h1⟩:=ah hp h;cases hx:x.tt ρ with
 |true=>
  rw[hx]at h1;exact⟨st1,hl,rfl,h1⟩
 |false=>
  rw[hx]at h1;simp[R.ag]at h1
theorem my{i:X}:∀ {ks:List CK} {vs:List V} {c:Nat} {a a':A},dX i c ks vs a=some a'->vs.length=ks.length /\
  (∀ (c':Nat) (k:CK) (j:Int),(j≠i.den ρ\/c'<c\/c+ks.length<=c')->a'.den ρ k c' j=a.den ρ k c' j) /\
  ∀ (m:Nat) (k:CK),ks[m]?=some k->(V.ae ρ π vs)[m]?=some (k.val (a'.den ρ k (c+m) (i.den ρ)))
 |[],[],c,a,a',h=>by
  obtain rfl:=qqz (show some a=some a' from h);exact⟨rfl,fun _ _ _ _=>rfl,fun m k hk=>by simp at hk⟩
 |[],_::_,c,a,a',h=>by simp[dX]at h
 |_::_,[],c,a,a',h=>by simp[dX]at h
 |k::ks,v::vs,c,a,a',h=>by
  have key:∀ x:X,v.ab ρ π=k.val (x.den ρ)->dX i (c+1) ks vs (.put a i c x)=some a'->(v::vs).length=(k::ks).length /\
    (∀ (c':Nat) (k':CK) (j:Int),(j≠i.den ρ\/c'<c\/c+(k::ks).length<=c')->a'.den ρ k' c' j=a.den ρ k' c' j) /\
    ∀ (m:Nat) (k':CK),(k::ks)[m]?=some k'->(V.ae ρ π (v::vs))[m]?=some (k'.val (a'.den ρ k' (c+m) (i.den ρ))):=by
   intro x hx hput;obtain⟨h1,h2,h3⟩:=my hput;refine⟨by simp[h1],fun c' k' j hc=>?_,fun m k' hk=>?_⟩
   ·rw[h2 c' k' j (by simp only[List.length_cons]at hc;omega),A.den,if_neg];rintro⟨e1,e2⟩;simp only[List.length_cons]at hc;omega
   ·cases m with
    |zero=>
     obtain rfl:=qqz (show some k=some k' from by simpa using hk);rw[Nat.add_zero,h2 c k (i.den ρ) (by omega),A.den,if_pos ⟨rfl,rfl⟩];simp[V.ae,hx]
    |succ m=>
     rw[show c+(m+1)=c+1+m by omega];simpa[V.ae]using h3 m k' (by simpa using hk)
  unfold dX at h;split at h
  ·split at h
   ·rename_i hk;obtain rfl:=a9 hk;exact key _ rfl h
   ·cases h
  ·exact key _ rfl h
  ·cases h
theorem kG{i:X}:∀ {ks:List CK} {vs:List V} {c:Nat} {a a':A},dX i c ks vs a=some a'->∀ v∈vs,v.one=true
 |[],[],c,a,a',h,v,hv=>by simp at hv
 |[],_::_,c,a,a',h,_,_=>by simp[dX]at h
 |_::_,[],c,a,a',h,_,hv=>by simp at hv
 |k::ks,u::vs,c,a,a',h,v,hv=>by
  unfold dX at h;split at h
  ·split at h
   ·rcases List.mem_cons.1 hv with rfl|hv
    ·rfl
    ·exact kG h v hv
   ·cases h
  ·rcases List.mem_cons.1 hv with rfl|hv
   ·rfl
   ·exact kG h v hv
  ·cases h
theorem mK(w:World){B off:Nat}{cs:List Value}{e:TypeId}{vs:List Value} (h1:w.heap[B]?=some (.cells cs.toArray e (0,0))) (hl:off+vs.length<=cs.length) (hone:∀ v∈vs,v.oneCell'=true):
  (storeCells ⟨B,off,none⟩ vs).run P w=.ok () {w with heap:=w.heap.setIfInBounds B (.cells (cs.take off++vs++cs.drop (off+vs.length)).toArray e (0,0))}:=by
 have hst:=run_storeCells_at (P:=P) B off e vs 0 _ w h1 (by simpa using hl) hone;have hlt:B<w.heap.size:=(qq6.1 h1).1;rw[show w.setRow B (List.take (off+0) cs.toArray.toList++vs++List.drop (off+0+vs.length) cs.toArray.toList).toArray={w with heap:=w.heap.setIfInBounds B (.cells (cs.take off++vs++cs.drop (off+vs.length)).toArray e (0,0))}from ?_]at hst
 ·simpa using hst
 ·unfold World.setRow;congr 1;apply Array.ext_getElem?;intro j;simp only[Array.getElem?_modify,Array.getElem?_setIfInBounds];by_cases ej:B=j
  ·subst ej;simp only[if_true,h1,hlt,Option.map_some,Nat.add_zero]
  ·simp[ej]
theorem pZ{α:Type}(cs vs:List α)(off j:Nat)(hl:off+vs.length<=cs.length):(cs.take off++vs++cs.drop (off+vs.length))[j]?=if off<=j/\j<off+vs.length then vs[j-off]? else cs[j]?:=by
 rw[qwq];by_cases h1:j<off
 ·rw[if_neg (by omega),qk1 (by simp;omega),List.getElem?_take,if_pos h1]
 ·rw[qz0 (by simp;omega)];simp only[qz3,Nat.min_eq_left (show off<=cs.length by omega)];by_cases h2:j<off+vs.length
  ·rw[if_pos ⟨by omega,h2⟩,qk1 (by omega)]
  ·rw[if_neg (by omega),qz0 (by omega),List.getElem?_drop];congr 1;omega
theorem S7{a a':A}{ks ks':List CK}{i:X}{c n N:Nat}{cs:List Value}{vs:List V} (hr:ko ρ a ks N fun j=>cs[j]?) (ht:takeN n (gx ks c)=some ks') (hp:dX i c ks' vs a=some a') (h0:0<=i.den ρ)
  (hl:(i.den ρ).toNat*ks.length+c+vs.length<=cs.length):
  ko ρ a' ks N fun j=>(cs.take ((i.den ρ).toNat*ks.length+c)++V.ae ρ π vs++cs.drop ((i.den ρ).toNat*ks.length+c+(V.ae ρ π vs).length))[j]?:=by
 obtain⟨h1,h2,h3⟩:=my (ρ:=ρ) (π:=π) hp;obtain⟨e1,e2,e3⟩:=cS _ _ _ ht;rw[cO]at e1 e3;simp only[qzv]at e3;intro j q k hj hk;have hq:q<ks.length:=(qq5.1 hk).1;dsimp only;rw[pZ _ _ _ _ (by rw[au];exact hl),au];have hvl:vs.length=n:=by omega
 by_cases hin:(i.den ρ).toNat*ks.length+c<=j*ks.length+q/\j*ks.length+q<(i.den ρ).toNat*ks.length+c+vs.length
 ·rw[if_pos hin];have hji:j=(i.den ρ).toNat:=by
   rcases Nat.lt_trichotomy j (i.den ρ).toNat with hlt|he|hgt
   ·have:(j+1)*ks.length<=(i.den ρ).toNat*ks.length:=qq7 _ hlt;rw[qk0]at this;omega
   ·exact he
   ·have:((i.den ρ).toNat+1)*ks.length<=j*ks.length:=qq7 _ hgt;rw[qk0]at this;omega
  subst hji;rw[show(i.den ρ).toNat*ks.length+q-((i.den ρ).toNat*ks.length+c)=q-c by omega];have hk':ks'[q-c]?=some k:=by
   rw[<-e1,List.getElem?_take,if_pos (by omega),List.getElem?_drop,show c+(q-c)=q by omega];exact hk
  have:=h3 (q-c) k hk';rw[show c+(q-c)=q by omega]at this;rw[this,Int.toNat_of_nonneg h0]
 ·rw[if_neg hin,h2 q k j ?_]
  ·exact hr j q k hj hk
  ·by_cases e:(j:Int)=i.den ρ
   ·right;have:j=(i.den ρ).toNat:=by omega
    subst this;omega
   ·exact .inl e
theorem FO(hr:dK ρ π h w){b:Nat}{a:A}{ks:List CK}{L:X}{e:TypeId}{wd:Bool} (hb:h.get b=some (.arr a ks L e wd)):
  ∃ cs:List Value,w.heap[(π b).1]?=some (.cells cs.toArray e (0,0))/\(L.den ρ).toNat*ks.length<=cs.length/\(wd=true->cs.length=(π b).2*ks.length)/\ko ρ a ks (L.den ρ).toNat fun j=>cs[j]?:=by
 obtain⟨ob,h1,cs,rfl,h2,h3,h4⟩:=hr.obj b _ hb;exact⟨cs,h1,h2,h3,h4⟩
theorem S8(hr:dK ρ π h w){b:Nat}{a a':A}{ks ks':List CK}{L i:X}{e:TypeId}{wd:Bool}{c n:Nat}{vs:List V} (hb:h.get b=some (.arr a ks L e wd)) (h0:0<=i.den ρ) (hi:i.den ρ<L.den ρ)
  (hck:c<=ks.length) (ht:takeN n (gx ks c)=some ks') (hp:dX i c ks' vs a=some a') (m:Nat):
  ∃ w',(storeCells (cU ρ π false b ((i.den ρ).toNat*ks.length+c)) (V.ae ρ π vs)).run P w=.ok () w'/\Mv ρ π h m w (h.set b (.arr a' ks L e wd)) m w':=by
 obtain⟨cs,h1,h2,h3,h4⟩:=FO hr hb;obtain⟨e1,e2,e3⟩:=cS _ _ _ ht;rw[cO]at e3;simp only[qzv]at e3;have hvl:=(my (ρ:=ρ) (π:=π) hp).1;have hle:(i.den ρ).toNat*ks.length+ks.length<=(L.den ρ).toNat*ks.length:=by
  have:((i.den ρ).toNat+1)*ks.length<=(L.den ρ).toNat*ks.length:=qq7 _ (by omega);rw[qk0]at this;omega
 have hlen:(i.den ρ).toNat*ks.length+c+vs.length<=cs.length:=by omega
 refine⟨_,mK w h1 (by rw[au];exact hlen) fun v hv=>?_,?_⟩
 ·rw[aU]at hv;obtain⟨u,hu,rfl⟩:=qzx.1 hv;exact vg ρ π u (kG hp u hu)
 ·refine Mv.turn hr m (o':=.arr a' ks L e wd) hb ⟨_,rfl,?_,fun hw=>?_,S7 h4 ht hp h0 hlen⟩ rfl
  ·simp only[qq9,qz3,qzv,au];omega
  ·have:=h3 hw;simp only[qq9,qz3,qzv,au];omega
end
section ops
variable {P:Program} {cx:Cx} {ρ:Env} {π:Pl} {w:World} {tm:List V} {a:Act} {st st':St} {r:OR} {o:Oper}
theorem Wx{t:TypeId}{td:TD}{p:Operand}{wd:Bool}{b:Nat}{i:X}{es cc:Nat}(c:Ctx P cx ρ π st.h w tm a)(hpc:ai ρ st.pc)(ho:o.op=.load t p)(hk:iO P t td) (hx:a.eval p=(V.xptr wd b i es cc).ab ρ π)
  (h:(Fy st td wd b i es cc).ag ρ=some (r,st')):aD P cx tm ρ π st st' w ((execOp a.eval o).run P w) r:=by
 unfold Fy at h;split at h
 ·rename_i a0 ks L hrow;split at h
  ·rename_i he h0 hi;obtain rfl:=qqq he;have h0':0<=i.den ρ:=eu hpc h0;have hi':=tE hpc hi;split at h
   ·rename_i ks' htk;dsimp only at h;have hload:=Xg (P:=P) c.rep hpc hrow h0' hi' htk;split at h
    ·rename_i ha;refine aD.value c.rep (cG.refl hpc) h ?_;simp[execOp,ho,hx,Instr.loadAt,Instr.sureAddr,V.ab,loadVar,hk.qD,ha,hk.aQ,hload]
    ·rename_i ha;split at h
     ·rename_i v hv;refine aD.value c.rep (cG.refl hpc) h ?_;have hs:td.size=1:=by
       have:=congrArg List.length hv;rw[A.wS,(cS _ _ _ htk).2.1]at this;exact this
      have hcell:=My c.rep hpc hrow h0' hi' htk 0 (by omega);rw[hv]at hcell;simp only[Nat.add_zero,V.ae,List.getElem?_cons_zero]at hcell;simp[execOp,ho,hx,Instr.loadAt,Instr.sureAddr,V.ab,loadVar,hk.qD,ha,run_load,hcell]
     ·simp[R.ag]at h
   ·simp[R.ag]at h
  ·simp[R.ag]at h
 ·simp[R.ag]at h
theorem SJ{t:TypeId}{td:TD}{p q:Operand}{wd:Bool}{b:Nat}{i:X}{es cc:Nat}{v:V}(c:Ctx P cx ρ π st.h w tm a)(hpc:ai ρ st.pc)(ho:o.op=.store t p q)(hk:iO P t td) (hx:a.eval p=(V.xptr wd b i es cc).ab ρ π)
  (hy:a.eval q=v.ab ρ π) (hi0:v.isIte=false) (h:(I6 st td wd b i es cc v).ag ρ=some (r,st')):aD P cx tm ρ π st st' w ((execOp a.eval o).run P w) r:=by
 unfold I6 at h;split at h
 ·rename_i a0 ks L e wd' hrow;split at h
  ·rename_i he h0 hi hs;rw[qqw]at he;obtain rfl:=qqq he.1;have hck:=qqx he.2;have hs':=qqq hs;split at h
   ·rename_i ks' htk;split at h
    ·rename_i a' hp;simp only[R.ag,qqk,qqv]at h;obtain⟨rfl,rfl⟩:=h;obtain⟨w',h1,h2⟩:=S8 (P:=P) c.rep hrow (eu hpc h0) (tE hpc hi) hck htk hp st.n;refine⟨hpc,qq2 _,fun _=>⟨w',?_,h2⟩⟩;have e:(v.ab ρ π).cells.size=td.size:=by rw[<-hs',<-au ρ π,<-eR _ _ _ hi0,Array.length_toList]
     simp[execOp,ho,hx,hy,Instr.storeAt,Instr.sureAddr,V.ab,storeVar,hk.aQ,e,eR _ _ _ hi0,h1]
    ·simp[R.ag]at h
   ·simp[R.ag]at h
  ·simp[R.ag]at h
 ·simp[R.ag]at h
theorem Dq{t elem:TypeId}{ed:TD}{p q:Operand}{k:IntKind}{wd:Bool}{b:Nat}{off len i:X}{es:Nat}{cap:XC}(c:Ctx P cx ρ π st.h w tm a)(hpc:ai ρ st.pc)(ho:o.op=.indexAddr t p q)
  (hu:P.underlying t=some (.slice elem)) (hke:iO P elem ed) (hx:a.eval p=(V.xslice wd b off es len cap).ab ρ π) (hy:a.eval q=(V.int k i).ab ρ π)
  (h:(oh st wd b off es len i ed.size).ag ρ=some (r,st')):aD P cx tm ρ π st st' w ((execOp a.eval o).run P w) r:=by
 unfold oh at h;split at h
 ·rename_i he hoff;obtain rfl:=qqq he;have hoff':0<=off.den ρ:=eu hpc hoff;obtain⟨st1,hl1,hx1,h1⟩:=cn hpc h;obtain⟨st2,hl2,hx2,h2⟩:=cn hl1.pc h1;rw[dF]at hx1;rw[mu]at hx2;have h0:0<=i.den ρ:=of_decide_eq_true hx1;have h3:=of_decide_eq_true hx2;refine aD.value c.rep (hl1.trans hl2) h2 ?_;obtain⟨n,hn⟩:=qkv h0;have hn2:n<(len.den ρ).toNat:=by omega
  have e:(off.den ρ+i.den ρ).toNat*ed.size=(off.den ρ).toNat*ed.size+n*ed.size:=by rw[<-qk0];congr 1;omega
  simp only[execOp,ho,hx,hy,V.ab,hn,Instr.indexAt,Sem.run_bind,asIntOf,Sem.run_pure,Result.andThen_ok,run_underlying hu,fN];rw[hn]at e;simp[hke.aQ,ig,e];intro hm;exfalso;rw[Int.max_def]at hm;split at hm<;>omega
 ·simp[R.ag]at h
theorem fT{k:IntKind}{i:Int}{y:Nat}{code:BoundsCode}(h0:0<=i) (h1:i<=(y:Int)) (w:World):(Instr.sliceBound (.int k i) y code).run P w=.ok i.toNat w:=by
 simp[Instr.sliceBound,asIntOf,h0,h1]
theorem nz{v:Option V}{d x:X}(h:mW v d=some x):(v=none/\x=d)\/∃ k,v=some (.int k x):=by
 unfold mW at h;split at h
 ·exact .inl ⟨rfl,(qqz h).symm⟩
 ·split at h
  ·rename_i k y;obtain rfl:=qqz h;exact .inr ⟨k,rfl⟩
  ·cases h
theorem I7{len l h:X}{cap:Nat}{lo hi:Option V} (el:mW lo (.lit 0)=some l) (eh:mW hi len=some h) (h0:0<=l.den ρ) (h1:l.den ρ<=h.den ρ) (h2:(h.den ρ).toNat<=cap) (w:World):
  (Instr.sliceBounds true (len.den ρ).toNat cap (lo.map (V.ab ρ π)) (hi.map (V.ab ρ π)) none).run P w=.ok ((l.den ρ).toNat,(h.den ρ).toNat,cap) w:=by
 have e1:∀ {k code},(Instr.sliceBound (.int k (l.den ρ)) (h.den ρ).toNat code).run P w=.ok (l.den ρ).toNat w:=fT h0 (by omega) w;have e2:∀ {k code},(Instr.sliceBound (.int k (h.den ρ)) cap code).run P w=.ok (h.den ρ).toNat w:=fT (by omega) (by omega) w;rcases nz el with⟨rfl,rfl⟩|⟨k1,rfl⟩<;>rcases nz eh with⟨rfl,rfl⟩|⟨k2,rfl⟩<;>simp[Instr.sliceBounds,V.ab,e1,e2,X.den]
theorem M3{len l h m:X}{cap:Nat}{lo:Option V}{vh vm:V} (el:mW lo (.lit 0)=some l) (eh:mW (some vh) len=some h) (em:mW (some vm) len=some m) (h0:0<=l.den ρ) (h1:l.den ρ<=h.den ρ) (h2:h.den ρ<=m.den ρ) (h3:(m.den ρ).toNat<=cap) (w:World):
  (Instr.sliceBounds true (len.den ρ).toNat cap (lo.map (V.ab ρ π)) ((some vh).map (V.ab ρ π)) ((some vm).map (V.ab ρ π))).run P w=.ok ((l.den ρ).toNat,(h.den ρ).toNat,(m.den ρ).toNat) w:=by
 have e1:∀ {k code},(Instr.sliceBound (.int k (l.den ρ)) (h.den ρ).toNat code).run P w=.ok (l.den ρ).toNat w:=fT h0 (by omega) w;have e2:∀ {k code},(Instr.sliceBound (.int k (h.den ρ)) (m.den ρ).toNat code).run P w=.ok (h.den ρ).toNat w:=fT (by omega) (by omega) w;have e3:∀ {k code},(Instr.sliceBound (.int k (m.den ρ)) cap code).run P w=.ok (m.den ρ).toNat w:=fT (by omega) (by omega) w;rcases nz eh with⟨hn,_⟩|⟨k2,hk2⟩
 ·cases hn
 rcases nz em with⟨hn,_⟩|⟨k3,hk3⟩
 ·cases hn
 obtain rfl:=qqz hk2;obtain rfl:=qqz hk3;rcases nz el with⟨rfl,rfl⟩|⟨k1,rfl⟩<;>simp[Instr.sliceBounds,V.ab,e1,e2,e3,X.den]
theorem SI{t:TypeId}{p:Operand}{lo hi mx:Option Operand}{vlo vhi vmx:Option V}{wd:Bool}{b:Nat}{off len:X}{es:Nat}{cap:XC}(c:Ctx P cx ρ π st.h w tm a)(hpc:ai ρ st.pc)(ho:o.op=.slice t p lo hi mx)
  (hx:a.eval p=(V.xslice wd b off es len cap).ab ρ π) (hlo:lo.map a.eval=vlo.map (V.ab ρ π)) (hhi:hi.map a.eval=vhi.map (V.ab ρ π)) (hmx:mx.map a.eval=vmx.map (V.ab ρ π))
  (h:(I5 cx st t wd b off es len cap vlo vhi vmx).ag ρ=some (r,st')):aD P cx tm ρ π st st' w ((execOp a.eval o).run P w) r:=by
 have key:∀ u:Value,(Instr.sliceAt t ((V.xslice wd b off es len cap).ab ρ π) (vlo.map (V.ab ρ π)) (vhi.map (V.ab ρ π)) (vmx.map (V.ab ρ π))).run P w=.ok u w->(execOp a.eval o).run P w=.ok (.value u) w:=by
  intro u hu;simp only[execOp,ho,hx,hlo,hhi,hmx,Sem.run_bind,hu,Result.andThen_ok,Sem.run_pure]
 unfold I5 at h;split at h
 ·rename_i td hd;have hk:=c.tt t td hd;have hu:=hk.under;split at h
  ·rename_i elem hdd;rw[hdd]at hu;split at h
   ·rename_i ed hed;have hke:=c.tt elem ed hed;split at h
    ·rename_i l hh he hoff el eh;obtain rfl:=qqq he;have hoff':0<=off.den ρ:=eu hpc hoff;obtain⟨st1,hl1,hx1,h1⟩:=cn hpc h;obtain⟨st2,hl2,hx2,h2⟩:=cn hl1.pc h1;obtain⟨st3,hl3,hx3,h3⟩:=cn hl2.pc h2;rw[dF]at hx1 hx2 hx3;have b1:0<=len.den ρ:=of_decide_eq_true hx1;have b2:0<=l.den ρ:=of_decide_eq_true hx2;have b3:=of_decide_eq_true hx3;have hl:=(hl1.trans hl2).trans hl3
     -- a part, its room told
     have part:∀ (st4:St) (m:X) (M:Nat),cG ρ st3 st4->M=(m.den ρ).toNat->hh.den ρ<=m.den ρ->(∀ w,(Instr.sliceBounds true (len.den ρ).toNat (cap.ab ρ π b (off.den ρ).toNat) (vlo.map (V.ab ρ π)) (vhi.map (V.ab ρ π)) (vmx.map (V.ab ρ π))).run P w=.ok ((l.den ρ).toNat,(hh.den ρ).toNat,M) w)->
       (KZ st4 wd b off ed.size l hh m).ag ρ=some (r,st')->aD P cx tm ρ π st st' w ((execOp a.eval o).run P w) r:=by
      intro st4 m M hl4 hM hle hb h4;subst hM;unfold KZ at h4;obtain⟨st5,hl5,h5⟩:=ah hl4.pc h4;rw[fE]at h5;have hrun:(Instr.sliceAt t ((V.xslice wd b off ed.size len cap).ab ρ π) (vlo.map (V.ab ρ π)) (vhi.map (V.ab ρ π)) (vmx.map (V.ab ρ π))).run P w =
        .ok (.slice (if(m.den ρ).toNat=(l.den ρ).toNat then some (cU ρ π wd b ((off.den ρ).toNat*ed.size))else some ((cU ρ π wd b ((off.den ρ).toNat*ed.size)).add ((l.den ρ).toNat*ed.size))) ((hh.den ρ).toNat-(l.den ρ).toNat) ((m.den ρ).toNat-(l.den ρ).toNat)) w:=by
       simp only[Instr.sliceAt,Instr.slice,Sem.run_bind,run_underlying hu,Result.andThen_ok,V.ab,hb,hke.aQ,Sem.run_pure];split<;>rfl
      have e1:((hh.den ρ)-(l.den ρ)).toNat=(hh.den ρ).toNat-(l.den ρ).toNat:=by omega
      have e2:((m.den ρ)-(l.den ρ)).toNat=(m.den ρ).toNat-(l.den ρ).toNat:=by omega
      split at h5
      ·rename_i hq;have hq':=beq_iff_eq.1 hq;refine aD.value c.rep ((hl.trans hl4).trans hl5) h5 (key _ ?_);rw[hrun,if_pos (by omega)];simp only[V.ab,CR,XC.ab,e1,e2]
      ·rename_i hq;have hq':=beq_eq_false_iff_ne.1 hq;refine aD.value c.rep ((hl.trans hl4).trans hl5) h5 (key _ ?_);rw[hrun,if_neg (by omega),ig,<-qk0];simp only[V.ab,CR,fN,XC.ab,e1,e2];rw[show(off.den ρ+l.den ρ).toNat=(off.den ρ).toNat+(l.den ρ).toNat by omega]
     split at h3
     ·split at h3
      ·rename_i cc;obtain⟨st4,hl4,hx4,h4⟩:=cn hl3.pc h3;rw[dF]at hx4;have b4:=of_decide_eq_true hx4;exact part st4 cc _ hl4 rfl b4 (fun w=>I7 el eh b2 b3 (by simp only[XC.ab];omega) w) h4
      ·rename_i lo2;split at h3
       ·rename_i hz;have hz':=gr ρ hz;obtain⟨st4,hl4,hx4,h4⟩:=cn hl3.pc h3;rw[dF,fN]at hx4;have b4:=of_decide_eq_true hx4;refine aD.value c.rep (hl.trans hl4) h4 (key _ ?_);have hb:=fun w=>I7 (P:=P) (π:=π) (cap:=(XC.room lo2).ab ρ π b (off.den ρ).toNat) el eh b2 b3 (by simp only[XC.ab];omega) w
        simp only[Instr.sliceAt,Instr.slice,Sem.run_bind,run_underlying hu,Result.andThen_ok,V.ab,Option.map_none,hb,hke.aQ,Sem.run_pure];rw[hz'];simp[ig]
       ·obtain⟨st4,hl4,hx4,h4⟩:=cn hl3.pc h3;obtain⟨st5,hl5,hx5,h5⟩:=cn hl4.pc h4;rw[dF,fN]at hx4;rw[mu,fN]at hx5;have b4:=of_decide_eq_true hx4;have b5:=of_decide_eq_true hx5;refine aD.value c.rep ((hl.trans hl4).trans hl5) h5 (key _ ?_);have hb:=fun w=>I7 (P:=P) (π:=π) (cap:=(XC.room lo2).ab ρ π b (off.den ρ).toNat) el eh b2 b3 (by simp only[XC.ab];omega) w
        have hne:¬(XC.room lo2).ab ρ π b (off.den ρ).toNat=(l.den ρ).toNat:=by simp only[XC.ab];omega
        have e3:(XC.room lo2).ab ρ π b (off.den ρ).toNat-(l.den ρ).toNat=(XC.room lo2).ab ρ π b (off.den ρ+l.den ρ).toNat:=by simp only[XC.ab];omega
        have e1:((hh.den ρ)-(l.den ρ)).toNat=(hh.den ρ).toNat-(l.den ρ).toNat:=by omega
        have e4:(off.den ρ+l.den ρ).toNat=(off.den ρ).toNat+(l.den ρ).toNat:=by omega
        simp only[Instr.sliceAt,Instr.slice,Sem.run_bind,run_underlying hu,Result.andThen_ok,V.ab,Option.map_none,hb,hke.aQ,Sem.run_pure,if_neg hne,CR,fN,e1,e3];rw[e4,Option.map_some,ig,qk0]
     ·rename_i vm;split at h3
      ·rename_i vh m em;obtain⟨st4,hl4,hx4,h4⟩:=cn hl3.pc h3;rw[dF]at hx4;have b4:=of_decide_eq_true hx4;split at h4
       ·rename_i cc;obtain⟨st5,hl5,hx5,h5⟩:=cn hl4.pc h4;rw[dF]at hx5;have b5:=of_decide_eq_true hx5;exact part st5 m _ (hl4.trans hl5) rfl b4 (fun w=>M3 el eh em b2 b3 b4 (by simp only[XC.ab];omega) w) h5
       ·rename_i lo2;obtain⟨st5,hl5,hx5,h5⟩:=cn hl4.pc h4;rw[dF,fN]at hx5;have b5:=of_decide_eq_true hx5;exact part st5 m _ (hl4.trans hl5) rfl b4 (fun w=>M3 el eh em b2 b3 b4 (by simp only[XC.ab];omega) w) h5
      ·simp[R.ag]at h3
    ·simp[R.ag]at h
   ·simp[R.ag]at h
  ·simp[R.ag]at h
 ·simp[R.ag]at h
end ops
theorem ra{β γ:Type}(f:β->γ)(x:Array β):Array.map f x=(List.map f x.toList).toArray:=by
 apply Array.ext';simp
section ops
variable {P:Program} {cx:Cx} {ρ:Env} {π:Pl} {w:World} {tm:List V} {a:Act} {st st':St} {r:OR} {o:Oper}
theorem EN{P:Program}{w:World}{t:TypeId} {ms:Array (String×TypeId)} (hu:P.underlying t=some (.interface ms)):∀ m,0<m->(Op.equalIn m t .nilIface .nilIface).run P w=.ok true w
 |0,h=>by omega
 |m+1,_=>by
  unfold Op.equalIn;simp only[Sem.run_bind,run_underlying hu,Result.andThen_ok,Sem.run_pure]
theorem anq{op:BinOp}{t:TypeId}{p q:Operand}{ty:TypeId}(c:Ctx P cx ρ π st.h w tm a)(hpc:ai ρ st.pc)(ho:o.op=.binOp op t p q ty)
  (h:(Sw cx tm st op t p q).ag ρ=some (r,st')):aD P cx tm ρ π st st' w ((execOp a.eval o).run P w) r:=by
 unfold Sw at h;split at h
 ·rename_i x y ex ey;have hx:=a7 c ex;have hy:=a7 c ey;split at h
  ·rename_i h1 h2;unfold O6 at h1;split at h1;rotate_left
   ·cases h1
   unfold N8 at h;unfold isConst at h2;split at h2;rotate_left
   ·cases h2
   split at h
   ·rename_i td htd;have hu:=(c.tt t td htd).under;split at h
    ·rename_i hdd;rw[hdd]at hu;refine aD.value c.rep (cG.refl hpc) h ?_;have he:=EN (P:=P) (w:=w) hu Op.maxDepth (by decide);simp only[execOp,ho,hx,hy,V.ab,eqGuard,Sem.run_bind];simp[binOp,Op.equal,he,X.tt,X.den]
    ·rename_i hdd;rw[hdd]at hu;refine aD.value c.rep (cG.refl hpc) h ?_;have he:=EN (P:=P) (w:=w) hu Op.maxDepth (by decide);simp only[execOp,ho,hx,hy,V.ab,eqGuard,Sem.run_bind];simp[binOp,Op.equal,he,X.tt,X.den]
    ·simp[R.ag]at h
   ·simp[R.ag]at h
  unfold U9 at h;split at h
  ·split at h
   ·exact Wu c hpc ho hx hy h
   ·rename_i hk;rw[a9 hk]at hx h;exact ok_int c hpc ho hx hy h
   ·simp[R.ag]at h
  ·exact anu c hpc ho hx hy h
  ·rename_i h1 h2;refine ap1 c hpc ho hx hy ?_ ?_ h
   ·intro k u;by_cases e:∃ j v,y=.int j v
    ·obtain⟨j,v,rfl⟩:=e;exact .inl fun e'=>h1 _ _ _ _ e' rfl
    ·exact .inr fun j v e'=>e ⟨j,v,e'⟩
   ·intro u;by_cases e:∃ v,y=.str v
    ·obtain⟨v,rfl⟩:=e;exact .inl fun e'=>h2 _ _ e' rfl
    ·exact .inr fun v e'=>e ⟨v,e'⟩
 ·simp[R.ag]at h
theorem ap2{op:UnOp}{t:TypeId}{p:Operand}(c:Ctx P cx ρ π st.h w tm a)(hpc:ai ρ st.pc)(ho:o.op=.unOp op t p)
  (h:(oUn cx tm st op p).ag ρ=some (r,st')):aD P cx tm ρ π st st' w ((execOp a.eval o).run P w) r:=by
 have hl:=cG.refl hpc;unfold oUn at h;split at h
 ·rename_i x ex;have hx:=a7 c ex;unfold amR at h;split at h
  ·refine aD.value c.rep hl h ?_;simp[execOp,ho,hx,V.ab,Op.unary,Op.intArith,xN,X.den]
  ·refine aD.value c.rep hl h ?_;simp[execOp,ho,hx,V.ab,Op.unary,Op.intBits,oz,gU,X.den]
  ·refine aD.value c.rep hl h ?_;simp[execOp,ho,hx,V.ab,Op.unary,nJ]
  ·simp[R.ag]at h
 ·simp[R.ag]at h
theorem Qu{p:Operand}(c:Ctx P cx ρ π st.h w tm a)(hpc:ai ρ st.pc)(ho:o.op=.move p\/o.op=.assign p){s:String}
  (h:(gA st (pP cx tm p) s).ag ρ=some (r,st')):aD P cx tm ρ π st st' w ((execOp a.eval o).run P w) r:=by
 refine aD.gA c.rep (.refl hpc) h fun u hu=>?_
 have hx:=PK c hu;rcases ho with ho|ho<;>simp[execOp,ho,hx]
theorem ab2{p q s:Operand}(c:Ctx P cx ρ π st.h w tm a)(hpc:ai ρ st.pc)(ho:o.op=.pick p q s)
  (h:(ET cx tm st p q s).ag ρ=some (r,st')):aD P cx tm ρ π st st' w ((execOp a.eval o).run P w) r:=by
 unfold ET at h;split at h
 ·rename_i x y z ex ey ez;have hx:=a7 c ex;have hy:=a7 c ey;have hz:=a7 c ez;split at h
  ·rename_i x;have pick:∀ t:Bool,x.tt ρ=t->(execOp a.eval o).run P w=.ok (.value ((match t with|true=>y|false=>z:V).ab ρ π)) w:=by
    intro t ht;simp only[execOp,ho,hx,hy,hz,V.ab,ht];cases t<;>simp[asBool]
   split at h
   ·rename_i t ht;exact aD.value c.rep (.refl hpc) h (pick t (dz hpc ht))
   ·split at h
    ·rename_i u hu;refine aD.value c.rep (.refl hpc) h ?_;unfold NF at hu;dsimp only at hu;split at hu
     ·rename_i n _;simp only[qqk]at hu;subst hu;simp only[execOp,ho,hx,hy,hz,V.ab,X.tt,X.den,bR];by_cases hn:n=0<;>simp[asBool,hn]
     ·split at hu
      ·split at hu
       ·rename_i hk;simp only[qqk]at hu;subst hu;simp only[execOp,ho,hx,hy,hz,V.ab,a9 hk,gY];simp only[asBool,Sem.run_pure,pure_bind];exact congrArg (fun v=>Result.ok (Next.value v) w) (by split<;>rfl)
       ·simp at hu
      ·simp only[qqk]at hu;subst hu;simp only[execOp,ho,hx,hy,hz,V.ab,BW];simp only[asBool,Sem.run_pure,pure_bind];exact congrArg (fun v=>Result.ok (Next.value v) w) (by split<;>rfl)
      ·simp only[qqk]at hu;subst hu;simp only[execOp,ho,hx,hy,hz,V.ab,qf];simp only[asBool,Sem.run_pure,pure_bind];exact congrArg (fun v=>Result.ok (Next.value v) w) (by split<;>rfl)
      ·simp at hu
    ·obtain⟨st1,hl,h1⟩:=ah hpc h;exact aD.value c.rep hl h1 (pick _ rfl)
  ·simp[R.ag]at h
 ·simp[R.ag]at h
theorem lU{α:Type}{ρ:Env}{i:X}{n:Nat}{k:St->R α}{a:α}{st:St}(hp:ai ρ st.pc) (h:(iJ st i n k).ag ρ=some a):∃ (st':St) (m:Nat),cG ρ st st'/\i.den ρ=(m:Int)/\m<n/\(k st').ag ρ=some a:=by
 unfold iJ at h;obtain⟨st1,hl,h1⟩:=ah hp h;rw[dF]at h1;split at h1
 ·simp[R.ag]at h1
 ·rename_i h2;obtain⟨st2,hl2,h3⟩:=ah hl.pc h1;rw[mu]at h3;split at h3
  ·simp[R.ag]at h3
  ·rename_i h4;have h2:=of_decide_eq_true h2;have h4:=of_decide_eq_true h4;simp only[X.den]at h2 h4;obtain⟨m,hm⟩:=qkv h2;refine⟨st2,m,hl.trans hl2,hm,?_,h3⟩;have:i.den ρ<((n:Nat):Int):=h4;omega
theorem dK.opt{h:H}(hr:dK ρ π h w){pc:PC}(hpc:ai ρ pc)(b:Nat):dK ρ π (ab5 h pc b) w:=by
 unfold ab5;split
 ·rename_i c cs e hb;split
  ·rename_i hd;have ht:=dz hpc hd;have key:∀ i o,(h.set b (.cells cs e none)).get i=some o->∃ o0,h.get i=some o0/\(∀ ob,o0.is ρ π i ob->o.is ρ π i ob)/\o0.bg=o.bg:=by
    intro i o hi;by_cases eb:b=i
    ·subst eb;rw[T.aP]at hi;obtain rfl:=qqz hi;exact⟨_,hb,fun ob h1=>⟨[],by rw[qk8];exact h1 ht,rfl⟩,rfl⟩
    ·rw[T.aB _ _ eb]at hi;exact⟨o,hi,fun _ h=>h,rfl⟩
   refine⟨fun i o hi=>?_,fun i j o o' hi hj he=>?_⟩
   ·obtain⟨o0,h1,h2,_⟩:=key i o hi;obtain⟨ob,h3,h4⟩:=hr.obj i o0 h1;exact⟨ob,h3,h2 ob h4⟩
   ·obtain⟨o0,h1,_,z1⟩:=key i o hi;obtain⟨o1,h2,_,z2⟩:=key j o' hj;rw[<-z1,<-z2];exact hr.inj i j o0 o1 h1 h2 he
  ·exact hr
 ·exact hr
theorem ab0{t:TypeId}{p:Operand}(c:Ctx P cx ρ π st.h w tm a)(hpc:ai ρ st.pc)(ho:o.op=.load t p)
  (h:(Cb cx tm st t p).ag ρ=some (r,st')):aD P cx tm ρ π st st' w ((execOp a.eval o).run P w) r:=by
 have hl:=cG.refl hpc;unfold Cb at h;split at h
 ·rename_i td b off n i hd ex;have hx:=a7 c ex;have hk:=c.tt t td hd;split at h
  ·rename_i ha h1;split at h
   ·rename_i cs hcs;obtain⟨st1,m,hl1,hi,hm,h2⟩:=lU hpc h;refine aD.gA c.rep hl1 h2 fun u hu=>?_
    obtain⟨v,hv,hcell⟩:=So c.rep hcs hm;simp only[execOp,ho,hx,Instr.loadAt,Instr.sureAddr,V.ab,hi,qkw];simp[loadVar,hk.qD,ha,run_load,hcell,Fb hu hi hv]
   ·simp[R.ag]at h
  ·simp[R.ag]at h
 ·rename_i td wd b i es cc hd ex;exact Wx c hpc ho (c.tt t td hd) (a7 c ex) h
 ·rename_i td b off hd ex;have hx:=a7 c ex;have hk:=c.tt t td hd;split at h
  ·rename_i cs hcs;obtain⟨h1,h2⟩:=VY (P:=P) c.rep hpc hk hcs;split at h
   ·rename_i ha;refine aD.value c.rep hl h ?_;simp[execOp,ho,hx,Instr.loadAt,Instr.sureAddr,V.ab];have:=h1 ha;simp only[V.ab]at this;simp[this]
   ·rename_i ha;split at h
    ·refine aD.value c.rep hl h ?_;simp[execOp,ho,hx,Instr.loadAt,Instr.sureAddr,V.ab,h2 ha _ rfl]
    ·simp[R.ag]at h
  ·simp[R.ag]at h
 ·rename_i td b off hd ex;have hx:=a7 c ex;have hk:=c.tt t td hd;split at h
  ·rename_i cs hcs;obtain⟨h1,h2⟩:=Kp (c.rep.opt hpc b) hk hcs;split at h
   ·rename_i ha;refine aD.value c.rep hl h ?_;simp[execOp,ho,hx,Instr.loadAt,Instr.sureAddr,V.ab];have:=h1 ha;simp only[V.ab]at this;simp[this]
   ·rename_i ha;split at h
    ·refine aD.value c.rep hl h ?_;simp[execOp,ho,hx,Instr.loadAt,Instr.sureAddr,V.ab,h2 ha _ rfl]
    ·simp[R.ag]at h
  ·simp[R.ag]at h
 ·simp[R.ag]at h
theorem Dx{P:Program}{h h':H}(hr:dK ρ π h w){t:TypeId}{td:TD}(ht:iO P t td){b off n m:Nat}{i:X}{v u:V}{cs:List V}(hs:td.size=1)(hi0:v.isIte=false) (hv:v.cells=[u]) (hc:cN h b off n=some cs)
  (hp:putAt h b off (kj i u 0 cs)=some h') (hu:u.one=true) (hi:i.den ρ=(m:Int)) (hm:m<n) (n0:Nat):
  ∃ w',(storeVar t ⟨(π b).1,off+m,none⟩ (v.ab ρ π)).run P w=.ok () w'/\Mv ρ π h n0 w h' n0 w':=by
 obtain⟨w',h1,h2⟩:=O2 (P:=P) hr hc hp hu hi hm n0;refine⟨w',?_,h2⟩;have e0:=eR ρ π v hi0;rw[hv]at e0;have e:(v.ab ρ π).cells.size=td.size:=by rw[<-Array.length_toList,e0,hs];rfl
 simp only[storeVar,Sem.run_bind,ht.aQ,Result.andThen_ok,e,e0];simpa[V.ae]using h1
theorem MQ{P:Program}{h h':H}(hr:dK ρ π h w){t:TypeId}{td:TD}(ht:iO P t td){b off:Nat}{v:V}(hi0:v.isIte=false)(hs:v.cells.length=td.size)(hp:putAt h b off v.cells=some h')(n:Nat):
  ∃ w',(storeVar t ⟨(π b).1,off,none⟩ (v.ab ρ π)).run P w=.ok () w'/\Mv ρ π h n w h' n w':=by
 obtain⟨w',h1,h2⟩:=g8 (P:=P) hr hp n;refine⟨w',?_,h2⟩;have e:(v.ab ρ π).cells.size=td.size:=by rw[<-hs,<-au ρ π,<-eR _ _ _ hi0,Array.length_toList]
 simp only[storeVar,Sem.run_bind,ht.aQ,Result.andThen_ok,e,eR _ _ _ hi0];simpa using h1
theorem Wv{t:TypeId}{p q:Operand}(c:Ctx P cx ρ π st.h w tm a)(hpc:ai ρ st.pc)(ho:o.op=.store t p q)
  (h:(x6 cx tm st t p q).ag ρ=some (r,st')):aD P cx tm ρ π st st' w ((execOp a.eval o).run P w) r:=by
 unfold x6 at h;split at h
 ·rename_i td b off n i v hd ex ey;have hx:=a7 c ex;have hy:=a7 c ey;have hk:=c.tt t td hd;split at h
  ·rename_i hs1 hs;split at h
   ·rename_i u hv;split at h
    ·rename_i cs hcs;obtain⟨st1,m,hl1,hi,hm,h2⟩:=lU hpc h;split at h2
     ·rename_i h' hp;split at h2
      ·rename_i hu;simp only[R.ag,qqk,qqv]at h2;obtain⟨rfl,rfl⟩:=h2;rw[hl1.h]at hp;obtain⟨w',h3,h4⟩:=Dx c.rep hk (qqq hs) (lG ey) hv hcs hp hu hi hm st.n;refine⟨hl1.pc,by rw[hl1.n];exact qq2 _,fun _=>⟨w',?_,by rw[hl1.n];exact h4⟩⟩;simp only[execOp,ho,hx,hy,Instr.storeAt,Instr.sureAddr,V.ab,hi,qkw];simp[h3]
      ·simp[R.ag]at h2
     ·simp[R.ag]at h2
    ·simp[R.ag]at h
   ·simp[R.ag]at h
  ·simp[R.ag]at h
 ·rename_i td wd b i es cc v hd ex ey;exact SJ c hpc ho (c.tt t td hd) (a7 c ex) (a7 c ey) (lG ey) h
 ·rename_i td b off v hd ex ey;have hx:=a7 c ex;have hy:=a7 c ey;have hk:=c.tt t td hd;split at h
  ·rename_i hs;split at h
   ·rename_i h' hp;simp only[R.ag,qqk,qqv]at h;obtain⟨rfl,rfl⟩:=h;obtain⟨w',h1,h2⟩:=MQ c.rep hk (lG ey) (qqq hs) hp st.n;refine⟨hpc,qq2 _,fun _=>⟨w',?_,h2⟩⟩;simp[execOp,ho,hx,hy,Instr.storeAt,Instr.sureAddr,V.ab,h1]
   ·simp[R.ag]at h
  ·simp[R.ag]at h
 ·simp[R.ag]at h
theorem GW(ρ:Env)(π:Pl)(i:Nat)(cells:List V)(t:TypeId):(ak.cells cells t none).is ρ π i (.cells (V.ae ρ π cells).toArray t (0,0)):=⟨[],by simp,rfl⟩
theorem anr{t:TypeId}{p:Operand}(c:Ctx P cx ρ π st.h w tm a)(hpc:ai ρ st.pc)(ho:o.op=.box t p)
  (h:(Sx cx tm st t p).ag ρ=some (r,st')):aD P cx tm ρ π st st' w ((execOp a.eval o).run P w) r:=by
 unfold Sx at h;split at h
 ·rename_i v ex;have hx:=a7 c ex;have e:(v.ab ρ π).cells=(V.ae ρ π v.cells).toArray:=by rw[<-eR _ _ _ (lG ex)]
  have hrun:(execOp a.eval o).run P w=.ok (.value (.pointer (some ⟨w.heap.size,0,none⟩))) {w with heap:=w.heap.push (.cells (V.ae ρ π v.cells).toArray t (0,0))}:=by
   simp[execOp,ho,hx,Instr.box,newVar,newRow,e]
  refine aD.new c.rep hpc h (fun hn=>by rw[hrun];simp[V.ab,hn]) (by rw[hrun];rfl) (fun _=>GW ρ π _ _ t)
 ·simp[R.ag]at h
theorem fe{P:Program}{t:TypeId}{td:TD}(ht:iO P t td)(w:World)(ρ:Env)(π:Pl):∃ z,(zeroValue t).run P w=.ok z w/\z.cells=(V.ae ρ π td.zero).toArray /\
  (td.agg=true->∃ l,z=.agg l)/\(td.agg=false->∀ l,z≠.agg l):=by
 obtain⟨i,hi,_,_,z,hz,hc,h1,h2⟩:=ht.info;refine⟨z,by simp[zeroValue,typeInfo,hi,hz],?_,h1,h2⟩;rw[<-hc ρ π]
theorem Wk{t:TypeId}(c:Ctx P cx ρ π st.h w tm a)(hpc:ai ρ st.pc)(ho:o.op=.alloc t)
  (h:(GY cx st t).ag ρ=some (r,st')):aD P cx tm ρ π st st' w ((execOp a.eval o).run P w) r:=by
 unfold GY at h;split at h
 ·rename_i td hd;have hk:=c.tt t td hd;obtain⟨z,hz,hc,_⟩:=fe hk w ρ π;have hrun:(execOp a.eval o).run P w=.ok (.value (.pointer (some ⟨w.heap.size,0,none⟩))) {w with heap:=w.heap.push (.cells (V.ae ρ π td.zero).toArray t (0,0))}:=by
   simp[execOp,ho,Instr.alloc,hz,newVar,newRow,hc]
  exact aD.new c.rep hpc h (fun hn=>by rw[hrun];simp[V.ab,hn]) (by rw[hrun];rfl) (fun _=>GW ρ π _ _ t)
 ·simp[R.ag]at h
theorem KT{p:Operand}(c:Ctx P cx ρ π st.h w tm a)(hpc:ai ρ st.pc)(ho:o.op=.nilCheck p)
  (h:(kY cx tm st p).ag ρ=some (r,st')):aD P cx tm ρ π st st' w ((execOp a.eval o).run P w) r:=by
 have hl:=cG.refl hpc;unfold kY at h;split at h<;>first
  |(simp[R.ag]at h;done)
  |(rename_i ex
    have hx:=a7 c ex;refine aD.value c.rep hl h ?_;simp[execOp,ho,hx,V.ab])
theorem Wp{t:TypeId}{p:Operand}(c:Ctx P cx ρ π st.h w tm a)(hpc:ai ρ st.pc)(ho:o.op=.makeInterface t p)
  (h:(xW cx tm st t p).ag ρ=some (r,st')):aD P cx tm ρ π st st' w ((execOp a.eval o).run P w) r:=by
 have hl:=cG.refl hpc;unfold xW at h;split at h
 ·rename_i td v hd ex;have hx:=a7 c ex;have hk:=c.tt t td hd;split at h
  ·simp[R.ag]at h
  ·rename_i hni;refine aD.value c.rep hl h ?_;simp only[execOp,ho,hx,Instr.makeInterface,Sem.run_bind,hk.cR,Result.andThen_ok];cases hdd:td.d<;>first
    |exact absurd hdd (hni _)
    |rfl
 ·simp[R.ag]at h
theorem abZ{fn:Fn}{f1 cap:Array Operand}(c:Ctx P cx ρ π st.h w tm a)(hpc:ai ρ st.pc)(ho:o.op=.makeFunc fn f1 cap)
  (h:(ER cx tm st fn f1 cap).ag ρ=some (r,st')):aD P cx tm ρ π st st' w ((execOp a.eval o).run P w) r:=by
 have hl:=cG.refl hpc;unfold ER at h;split at h
 ·rename_i f x y ex ey;have hx:=gV c ex;have hy:=gV c ey;refine aD.value c.rep hl h ?_;simp only[execOp,ho,Instr.makeFunc,V.ab,<-hx,<-hy,ra];rfl
 ·simp[R.ag]at h
theorem Wo{t:TypeId}{p:Operand}{f:Nat}(c:Ctx P cx ρ π st.h w tm a)(hpc:ai ρ st.pc)(ho:o.op=.field t p f)
  (h:(xV cx tm st t p f).ag ρ=some (r,st')):aD P cx tm ρ π st st' w ((execOp a.eval o).run P w) r:=by
 unfold xV at h;split at h
 ·rename_i td cs hd ex;have hx:=a7 c ex;have hk:=c.tt t td hd;split at h
  ·rename_i fields hdd;have hu:=hk.under;rw[hdd]at hu;rw[cr]at h;split at h
   ·rename_i fd hf;refine aD.gA c.rep (.refl hpc) h fun u hu2=>?_
    have hf':fields[f]?=some fd:=by simpa using hf
    simp[execOp,ho,hx,V.ab,Instr.field,run_underlying hu,hf',asAgg,oJ c.tt hu2]
   ·simp[R.ag]at h
  ·simp[R.ag]at h
 ·simp[R.ag]at h
theorem Oy{p:Operand}{i:Nat}(c:Ctx P cx ρ π st.h w tm a)(hpc:ai ρ st.pc)(ho:o.op=.extract p i)
  (h:(nL cx tm st p i).ag ρ=some (r,st')):aD P cx tm ρ π st st' w ((execOp a.eval o).run P w) r:=by
 unfold nL at h;split at h
 ·rename_i l ex;have hx:=a7 c ex;refine aD.gA c.rep (.refl hpc) h fun u hu=>?_
  rw[cr]at hu;simp[execOp,ho,hx,V.ab,Instr.extract,bu,hu]
 ·simp[R.ag]at h
end ops
section idx
variable {ρ:Env} {α:Type}
theorem sN{i:X}{k:St->Nat->R α}{a:α}:∀ (m lo:Nat) (st:St),ai ρ st.pc->(nM st i lo m k).ag ρ=some a->
  ∃ (st':St) (n:Nat),cG ρ st st'/\i.den ρ=(n:Int)/\lo<=n/\n<lo+m/\(k st' n).ag ρ=some a
 |0,lo,st,_,h=>by simp[nM,R.ag]at h
 |m+1,lo,st,hp,h=>by
  unfold nM at h;obtain⟨st1,hl,h1⟩:=ah hp h;rw[fE]at h1;split at h1
  ·rename_i he;simp only[X.den,beq_iff_eq]at he;exact⟨st1,lo,hl,he,qq2 _,by omega,h1⟩
  ·obtain⟨st2,n,hl2,e,h3,h4,h5⟩:=sN m (lo+1) st1 hl.pc h1;exact⟨st2,n,hl.trans hl2,e,by omega,by omega,h5⟩
theorem q7{i:X}{len:Nat}{k:St->Nat->R α}{a:α}{st:St}(hp:ai ρ st.pc) (h:(index st i len k).ag ρ=some a):
  ∃ (st':St) (n:Nat),cG ρ st st'/\i.den ρ=(n:Int)/\n<len/\(k st' n).ag ρ=some a:=by
 unfold index at h;split at h
 ·rename_i n;split at h
  ·rename_i hn;exact⟨st,n,.refl hp,rfl,by simpa[Nat.blt_eq]using hn,h⟩
  ·simp[R.ag]at h
 ·simp[R.ag]at h
 ·obtain⟨st1,hl,h1⟩:=ah hp h;obtain⟨st2,hl2,h2⟩:=ah hl.pc h1;split at h2
  ·obtain⟨st3,n,hl3,e,_,h4,h5⟩:=sN len 0 st2 hl2.pc h2;exact⟨st3,n,(hl.trans hl2).trans hl3,e,by omega,h5⟩
  ·simp[R.ag]at h2
end idx
section fill
variable {ρ:Env} {π:Pl}
theorem Ee(off:Nat):∀ (vs:List Value) (j:Nat) (cells:Array Value),off+j+vs.length<=cells.size->
  (vs.zipIdx j).foldl (fun cs (x:Value×Nat)=>cs.setIfInBounds (off+x.2) x.1) cells=(cells.toList.take (off+j)++vs++cells.toList.drop (off+j+vs.length)).toArray
 |[],j,cells,h=>by simp
 |v::vs,j,cells,h=>by
  simp only[List.length_cons]at h;rw[List.zipIdx_cons,List.foldl_cons,Ee off vs (j+1) _ (by simp;omega)];congr 1;apply List.ext_getElem?;intro k;have hk:=h;simp only[Array.toList_setIfInBounds,List.getElem?_append,List.getElem?_take,List.getElem?_drop,qz3,qq9,List.length_set,Array.length_toList,List.length_cons,List.getElem?_set];by_cases h1:k<off+j
  ·have:off+j≠k:=by omega
   simp[h1,show k<off+(j+1) by omega,show k<min (off+j) cells.size by omega,show k<min (off+(j+1)) cells.size by omega,show k<cells.size by omega,show k<min (off+j) cells.size+(vs.length+1) by omega,show k<min (off+(j+1)) cells.size+vs.length by omega,this]
  ·by_cases h2:k=off+j
   ·subst h2;simp[show off+j<off+(j+1) by omega,show off+j<min (off+(j+1)) cells.size by omega,show off+j<cells.size by omega,show min (off+j) cells.size=off+j by omega,show off+j<min (off+(j+1)) cells.size+vs.length by omega]
   ·by_cases h3:k<off+j+(vs.length+1)
    ·rw[show min (off+j) cells.size=off+j by omega,show min (off+(j+1)) cells.size=off+j+1 by omega];simp[show ¬k<off+j+1 by omega,show ¬k<off+j by omega,show k<off+j+1+vs.length by omega,h3,show k-(off+j)=(k-(off+j+1))+1 by omega]
    ·rw[show min (off+j) cells.size=off+j by omega,show min (off+(j+1)) cells.size=off+j+1 by omega];simp[show ¬k<off+j+1+vs.length by omega,h3,show off+(j+1)+vs.length+(k-(off+j+1+vs.length))=off+j+(vs.length+1)+(k-(off+j+(vs.length+1))) by omega];intro e;omega
theorem zV {place placeV:Nat->Option (Nat×Nat)} (hp:∀ i x,placeV i=some x->place i=some x):∀ (ps:List (Nat×V)) (cells out:List V),(∀ x∈ps,x.2.isIte=false)->gp placeV cells ps=some out->
  Instr.fill place (V.ae ρ π cells).toArray (ps.map fun x=>(x.1,x.2.ab ρ π))=some (V.ae ρ π out).toArray
 |[],cells,out,_,h=>by
  simp only[gp,qqk]at h;subst h;rfl
 |(i,v)::ps,cells,out,hni,h=>by
  have hi0:v.isIte=false:=hni (i,v) (by simp);simp only[gp]at h;split at h
  ·simp at h
  ·rename_i off size hpl;split at h
   ·rename_i hs;split at h
    ·rename_i c2 hc;obtain⟨h1,h2⟩:=vq _ _ _ _ hc;have hs':=qqq hs;have hsz:(v.ab ρ π).cells.size=v.cells.length:=by rw[<-au ρ π,<-eR _ _ _ hi0,Array.length_toList]
     simp only[List.map_cons,Instr.fill,hp i _ hpl,hsz,hs',ne_eq,not_true_eq_false,decide_false,Bool.false_or];rw[if_neg (by simp only[List.size_toArray,au,decide_eq_true_eq];omega)];have:=zV hp ps c2 out (fun x hx=>hni x (by simp[hx])) h;rw[<-this];congr 1;have e:=Ee off (V.ae ρ π v.cells) 0 (V.ae ρ π cells).toArray (by simp only[au,List.size_toArray];omega);rw[h1,aW,aW,eT,eS];simp only[Nat.add_zero,au]at e;rw[<-e,<-Array.foldl_toList];congr 1;rw[<-eR _ _ _ hi0];simp
    ·simp at h
   ·simp at h
end fill
section ops
variable {P:Program} {cx:Cx} {ρ:Env} {π:Pl} {w:World} {tm:List V} {a:Act} {st st':St} {r:OR} {o:Oper}
theorem Kv{β γ:Type}(f:β->Sem γ)(g:β->γ)(w:World):∀ (l:List β),(∀ b∈l,(f b).run P w=.ok (g b) w)->(l.mapM f).run P w=.ok (l.map g) w
 |[],_=>by simp
 |b::l,h=>by
  simp only[List.mapM_cons,Sem.run_bind,h b (by simp),Result.andThen_ok,Kv f g w l (fun x hx=>h x (by simp[hx])),Sem.run_pure,List.map_cons]
theorem Sq{β γ:Type}(f:β->Sem γ)(g:β->γ)(w:World)(l:Array β) (h:∀ b∈l.toList,(f b).run P w=.ok (g b) w):(l.mapM f).run P w=.ok (l.map g) w:=by
 rw[Array.mapM_eq_mapM_toList,Sem.run_map,Kv f g w l.toList h];simp only[Result.andThen_ok];rw[ra g l]
def IM(tt:T TD)(t:TypeId):Nat:=match tt.get t with
 |some td=>td.size
 |none=>0
theorem p7{tt:T TD}:∀ {fs:List Field},jN tt fs=true->∀ f∈fs,∃ td,tt.get f.type=some td
 |[],_,f,hf=>by simp at hf
 |g::fs,h,f,hf=>by
  unfold jN at h;split at h
  ·rename_i td htd;rcases List.mem_cons.1 hf with rfl|hf
   ·exact⟨td,htd⟩
   ·exact p7 h f hf
  ·simp at h
theorem Wl{t:TypeId} {parts:Array (Nat×Operand)} (c:Ctx P cx ρ π st.h w tm a) (hpc:ai ρ st.pc) (ho:o.op=.build t parts)
  (h:(xS cx tm st t parts).ag ρ=some (r,st')):aD P cx tm ρ π st st' w ((execOp a.eval o).run P w) r:=by
 have hl:=cG.refl hpc;unfold xS at h;split at h
 ·rename_i td ps hd eps;have hps:=ti c eps;have hk:=c.tt t td hd;split at h
  ·rename_i cells hf;split at h
   ·rename_i hkn;refine aD.value c.rep hl h ?_;obtain⟨z,hz,hzc,_⟩:=fe hk w ρ π;have hparts:(parts.map fun(x:Nat×Operand)=>(x.1,a.eval x.2)).toList=ps.map fun x=>(x.1,x.2.ab ρ π):=by
     rw[Array.toList_map];exact hps
    have hu:=hk.under;cases hdd:td.d with
    |struct fields=>
     rw[hdd]at hkn hu hf;have hfk:=p7 (show jN cx.tt fields.toList=true from hkn);have hm:=Sq (P:=P) (fun f:Field=>(do pure (f.offset,<-sizeOf f.type):Sem (Nat×Nat))) (fun f=>(f.offset,IM cx.tt f.type)) w fields (fun f hf=>by
      obtain⟨fd,hfd⟩:=hfk f hf;simp[(c.tt f.type fd hfd).aQ,IM,hfd])
     have hfill:=zV (ρ:=ρ) (π:=π) (place:=fun i=>(fields.map fun f=>(f.offset,IM cx.tt f.type))[i]?) (placeV:=placeOf cx.tt (.struct fields)) (fun i x hx=>by
      simp only[placeOf,cr]at hx;split at hx
      ·rename_i f hfi;split at hx
       ·rename_i fd hfd;simp only[qqk]at hx;subst hx;have:fields[i]?=some f:=by simpa using hfi
        simp[this,IM,hfd]
       ·simp at hx
      ·simp at hx) ps td.zero cells (iq eps) hf
     simp only[execOp,ho,Instr.build,Sem.run_bind,hz,Result.andThen_ok,run_underlying hu,hm,hzc,hparts,hfill,Sem.run_pure,V.ab]
    |array len elem=>
     rw[hdd]at hkn hu hf;simp only[oo]at hkn;split at hkn
     ·rename_i ed hed;have hfill:=zV (ρ:=ρ) (π:=π) (place:=fun i=>some (i*ed.size,ed.size)) (placeV:=placeOf cx.tt (.array len elem)) (fun i x hx=>by
       simp only[placeOf,hed]at hx;exact hx) ps td.zero cells (iq eps) hf
      simp only[execOp,ho,Instr.build,Sem.run_bind,hz,Result.andThen_ok,run_underlying hu,(c.tt elem ed hed).aQ,hzc,hparts,hfill,Sem.run_pure,V.ab]
     ·simp at hkn
    |_=>rw[hdd]at hkn;simp[oo]at hkn
   ·simp[R.ag]at h
  ·simp[R.ag]at h
 ·simp[R.ag]at h
end ops
section ops
variable {P:Program} {cx:Cx} {ρ:Env} {π:Pl} {w:World} {tm:List V} {a:Act} {st st':St} {r:OR} {o:Oper}
theorem fS(z:List V):∀ n,(b7 z n).length=n*z.length
 |0=>by simp[b7]
 |n+1=>by simp only[b7,qq9,fS z n,Nat.succ_mul];omega
theorem qA(z:List V):∀ (n i:Nat),i<n*z.length->(b7 z n)[i]?=z[i % z.length]?
 |0,i,h=>by omega
 |n+1,i,h=>by
  simp only[b7];by_cases hi:i<z.length
  ·rw[qk1 hi,Nat.mod_eq_of_lt hi]
  ·rw[qz0 (by omega),qA z n (i-z.length) (by have:=Nat.succ_mul n z.length;simp only[Nat.succ_eq_add_one]at this;omega)];rw[<-Nat.mod_eq_sub_mod (by omega)]
theorem C6(ρ:Env)(π:Pl)(z:List V)(n:Nat):((Array.range (n*z.length)).map fun i=>(V.ae ρ π z).toArray[i % (V.ae ρ π z).toArray.size]!)=(V.ae ρ π (b7 z n)).toArray:=by
 apply Array.ext_getElem?;intro i;by_cases hi:i<n*z.length
 ·have hz:0<z.length:=by
   rcases Nat.eq_zero_or_pos z.length with h|h
   ·rw[h]at hi;omega
   ·exact h
  have hm:i % z.length<z.length:=Nat.mod_lt _ hz;have e:=qA z n i hi;simp only[Array.getElem?_map,List.getElem?_toArray,bu,e];rw[Array.getElem?_eq_getElem (by simpa using hi)];simp only[Array.getElem_range,Option.map_some,List.size_toArray,au,List.getElem!_toArray];rw[getElem!_pos (V.ae ρ π z) (i % z.length) (by rw[au];exact hm)];have:=bu ρ π z (i % z.length);rw[qq0 (by rw[au];exact hm)]at this;rw[<-this]
 ·rw[Array.getElem?_eq_none (by simpa using hi),Array.getElem?_eq_none (by simp only[List.size_toArray,au,fS];omega)]
theorem Dn{t:TypeId}{len:Nat} {parts:Array (Nat×Operand)} (c:Ctx P cx ρ π st.h w tm a) (hpc:ai ρ st.pc) (ho:o.op=.buildSlice t len parts)
  (h:(gZ cx tm st t len parts).ag ρ=some (r,st')):aD P cx tm ρ π st st' w ((execOp a.eval o).run P w) r:=by
 unfold gZ at h;split at h
 ·rename_i td ps hd eps;have hps:=ti c eps;have hk:=c.tt t td hd;split at h
  ·rename_i elem hdd;have hu:=hk.under;rw[hdd]at hu;split at h
   ·rename_i ed hed;have hke:=c.tt elem ed hed;split at h
    ·rename_i hlen;split at h
     ·rename_i cells hf;obtain⟨z,hz,hzc,_⟩:=fe hke w ρ π;have hparts:(parts.map fun(x:Nat×Operand)=>(x.1,a.eval x.2)).toList=ps.map fun x=>(x.1,x.2.ab ρ π):=by
       rw[Array.toList_map];exact hps
      have hfill:=zV (ρ:=ρ) (π:=π) (place:=fun i=>some (i*ed.size,ed.size)) (placeV:=fun i=>some (i*ed.size,ed.size)) (fun i x hx=>hx) ps _ cells (iq eps) hf;have hl24:¬(len*ed.size > 2 ^ 24):=by
       have:=qqx hlen;omega
      have hrun:(execOp a.eval o).run P w=.ok (.value (.slice (some ⟨w.heap.size,0,none⟩) len len)) {w with heap:=w.heap.push (.cells (V.ae ρ π cells).toArray elem (0,0))}:=by
       simp only[execOp,ho,Instr.buildSlice,Sem.run_bind,run_underlying hu,Result.andThen_ok,hke.aQ,hl24,if_false];by_cases h0:len*ed.size=0
       ·have e0:b7 ed.zero len=[]:=qzj (by rw[fS,hke.len];exact h0);rw[e0]at hfill;simp only[h0,if_true,hparts,pure_bind,Array.range_zero',Array.map_empty];rw[show(#[]:Array Value)=(V.ae ρ π []).toArray from rfl,hfill];simp[newRow]
       ·simp only[h0,if_false,hparts,pure_bind,Sem.run_bind,hz,Result.andThen_ok,hzc];rw[<-hke.len,C6 ρ π ed.zero len];rw[<-hke.len]at hfill;rw[hfill];simp[newRow]
      exact aD.new c.rep hpc h (fun hn=>by rw[hrun];simp[V.ab,hn,Cp.ab]) (by rw[hrun];rfl) (fun _=>GW ρ π _ _ _)
     ·simp[R.ag]at h
    ·simp[R.ag]at h
   ·simp[R.ag]at h
  ·simp[R.ag]at h
 ·simp[R.ag]at h
theorem gX{v:V}{n:Nat}(h:lO v=some n):∃ k,v.ab ρ π=.int k (n:Int):=by
 unfold lO at h;split at h
 ·simp only[qqk]at h;subst h;exact⟨_,by simp[V.ab,X.den];rfl⟩
 ·simp at h
theorem C4(n:Nat)(h:n<=1000000000):IntKind.i64.wrap (n:Int)=n:=by
 simp only[IntKind.wrap,IntKind.bits,IntKind.signed,Bool.true_and,decide_eq_true_eq,Int.reducePow,Nat.reduceSub,ge_iff_le];split<;>omega
theorem Ku{t elem:TypeId}{ed:TD}{p q:Operand}{l k:Nat}{kl kk:IntKind}(ho:o.op=.makeSlice t p q) (hu:P.underlying t=some (.slice elem)) (hke:iO P elem ed) (hx:a.eval p=.int kl (l:Int)) (hy:a.eval q=.int kk (k:Int)) (h1:l<=k) (h2:k*(ed.bytes+1)<=1000000000):
  (execOp a.eval o).run P w=.ok (.value (.slice (some ⟨w.heap.size,0,none⟩) l k)) {w with heap:=w.heap.push (.cells (V.ae ρ π (b7 ed.zero k)).toArray elem (0,0))}:=by
 obtain⟨i,hi,hsz,hby,_⟩:=hke.info;obtain⟨z,hz,hzc,_⟩:=fe hke w ρ π;have h3:k<=1000000000:=by
  have:k*1<=k*(ed.bytes+1):=Nat.mul_le_mul_left _ (by omega);omega
 have h4:k*ed.bytes<=1000000000:=by
  have:k*ed.bytes<=k*(ed.bytes+1):=Nat.mul_le_mul_left _ (by omega);omega
 have h4':(ed.bytes:Int)*(k:Int)<=1000000000:=by
  have:=Int.ofNat_le.2 h4;rw[Nat.mul_comm,Int.natCast_mul]at this;exact this
 have hti:(typeInfo elem).run P w=.ok i w:=by simp[typeInfo,hi]
 simp only[execOp,ho,hx,hy,Instr.makeSlice,Sem.run_bind,run_underlying hu,Result.andThen_ok,asInt,asIntOf,Sem.run_pure,hti,hby,C4 l (by omega),C4 k h3];rw[if_neg (by simp;omega)];have hroom:¬k*ed.bytes > roomBytes:=by unfold roomBytes;omega
 simp only[qkw,askRoom,hroom,if_false,Sem.run_bind,Sem.run_pure,Result.andThen_ok,hke.aQ];by_cases h0:k*ed.size=0
 ·have e0:b7 ed.zero k=[]:=qzj (by rw[fS,hke.len];exact h0);simp only[h0,if_true,pure_bind,Array.range_zero',Array.map_empty,e0];simp[newRow,V.ae]
 ·simp only[h0,if_false,pure_bind,Sem.run_bind,hz,Result.andThen_ok,hzc];rw[<-hke.len,C6 ρ π ed.zero k];simp[newRow]
theorem q9:∀ {z:List V} {ks:List CK},xF z=some ks->ks.length=z.length/\∀ (c:Nat) (k:CK),ks[c]?=some k->(V.ae ρ π z)[c]?=some (k.val 0)
 |[],ks,h=>by
  obtain rfl:=qqz h;exact⟨rfl,fun c k hk=>by simp at hk⟩
 |v::l,ks,h=>by
  unfold xF at h;split at h
  ·rename_i ks' hk';obtain⟨h1,h2⟩:=q9 hk';have key:∀ k:CK,v.ab ρ π=k.val 0->some (k::ks')=some ks->ks.length=(v::l).length/\∀ (c:Nat) (k:CK),ks[c]?=some k->(V.ae ρ π (v::l))[c]?=some (k.val 0):=by
    intro k hv he;obtain rfl:=qqz he;refine⟨by simp[h1],fun c k' hc=>?_⟩;cases c with
    |zero=>
     obtain rfl:=qqz (show some k=some k' from by simpa using hc);simp[V.ae,hv]
    |succ c=>simpa[V.ae]using h2 c k' (by simpa using hc)
   split at h
   ·split at h
    ·rename_i hz;exact key _ (by simp only[V.ab,CK.val,gr ρ hz]) h
    ·cases h
   ·split at h
    ·rename_i hz;exact key _ (by simp only[V.ab,CK.val,X.tt,gr ρ hz]) h
    ·cases h
   ·cases h
  ·cases h
theorem Mx{z:List V}{ks:List CK}{n:Nat}(hk:xF z=some ks):ko ρ (.fill (.lit 0)) ks n fun j=>(V.ae ρ π (b7 z n))[j]?:=by
 obtain⟨h1,h2⟩:=q9 (ρ:=ρ) (π:=π) hk;intro j c k hj hc;have hlt:c<ks.length:=(qq5.1 hc).1;have hidx:j*ks.length+c<n*z.length:=by
  have:(j+1)*ks.length<=n*ks.length:=qq7 _ hj;rw[qk0]at this;rw[<-h1];omega
 dsimp only;rw[bu,qA z n _ hidx,<-h1,Nat.mul_add_mod_self_right,Nat.mod_eq_of_lt hlt,<-bu];exact h2 c k hc
theorem B0{x:X}{n bytes:Nat} (h:x.den ρ<=(Qi n bytes).den ρ) (h0:0<=x.den ρ):((x.den ρ).toNat+n+1)*(bytes+1)<=1000000000:=by
 have h1:(x.den ρ).toNat+n+1<=1000000000 / (bytes+1):=by
  have h':x.den ρ<=((1000000000 / (bytes+1):Nat):Int)-((n+1:Nat):Int):=h;generalize 1000000000 / (bytes+1)=m at *;omega
 exact qzq (qq7 _ h1) (Nat.div_mul_le_self _ _)
theorem Dp{t:TypeId}{p q:Operand}(c:Ctx P cx ρ π st.h w tm a)(hpc:ai ρ st.pc)(ho:o.op=.makeSlice t p q)
  (h:(gh cx tm st t p q).ag ρ=some (r,st')):aD P cx tm ρ π st st' w ((execOp a.eval o).run P w) r:=by
 unfold gh at h;split at h
 ·rename_i td l k hd el ek;obtain⟨vl,el1,el2⟩:=Option.bind_eq_some_iff.1 el;obtain⟨vk,ek1,ek2⟩:=Option.bind_eq_some_iff.1 ek;obtain⟨kl,hl⟩:=gX (ρ:=ρ) (π:=π) el2;obtain⟨kk,hk1⟩:=gX (ρ:=ρ) (π:=π) ek2;have hx:=a7 c el1;have hy:=a7 c ek1;rw[hl]at hx;rw[hk1]at hy;have hk:=c.tt t td hd;split at h
  ·rename_i elem hdd;have hu:=hk.under;rw[hdd]at hu;split at h
   ·rename_i ed hed;have hke:=c.tt elem ed hed;split at h
    ·rename_i hb;rw[qqw]at hb;have h1:=qqx hb.1;have h2:=qqx hb.2;have hrun:=Ku (P:=P) (w:=w) (ρ:=ρ) (π:=π) ho hu hke hx hy h1 h2;exact aD.new c.rep hpc h (fun hn=>by rw[hrun];simp only[V.ab,hn,Cp.ab]) (by rw[hrun];rfl) (fun _=>GW ρ π _ _ _)
    ·simp[R.ag]at h
   ·simp[R.ag]at h
  ·simp[R.ag]at h
 ·simp[R.ag]at h
theorem Ic{t:TypeId}{p q:Operand}(c:Ctx P cx ρ π st.h w tm a)(hpc:ai ρ st.pc)(ho:o.op=.makeSlice t p q)
  (h:(jj cx tm st t p q).ag ρ=some (r,st')):aD P cx tm ρ π st st' w ((execOp a.eval o).run P w) r:=by
 unfold jj at h;split at h
 ·rename_i x y ex ey;obtain⟨vx,ex1,ex2⟩:=Option.bind_eq_some_iff.1 ex;obtain⟨vy,ey1,ey2⟩:=Option.bind_eq_some_iff.1 ey;have hx:=a7 c ex1;have hy:=a7 c ey1;have hvx:vx=.int .i64 x:=by
   unfold am5 at ex2;split at ex2
   ·split at ex2
    ·rename_i hk;rw[a9 hk,qqz ex2]
    ·cases ex2
   ·cases ex2
  have hvy:vy=.int .i64 y:=by
   unfold WC at ey2;split at ey2
   ·split at ey2
    ·rename_i hk _;rw[a9 hk,qqz ey2]
    ·cases ey2
   ·cases ey2
  subst hvx hvy;split at h
  ·rename_i td hd;have hk:=c.tt t td hd;have hu:=hk.under;split at h
   ·rename_i elem hdd;rw[hdd]at hu;split at h
    ·rename_i ed hed;have hke:=c.tt elem ed hed;unfold Y6 at h;split at h
     ·rename_i ks hks hz;obtain⟨st1,hl1,hx1,h1⟩:=cn hpc h;obtain⟨st2,hl2,hx2,h2⟩:=cn hl1.pc h1;rw[dF]at hx1 hx2;have b1:0<=x.den ρ:=of_decide_eq_true hx1;have b2:=of_decide_eq_true hx2;split at h2
      ·rename_i hm;have hm':=B0 (eu hl2.pc hm) (by omega);have hl:=hl1.trans hl2;have hrun:=Ku (P:=P) (w:=w) (ρ:=ρ) (π:=π) (l:=(x.den ρ).toNat) (k:=(y.den ρ).toNat) ho hu hke (by rw[hx,Int.toNat_of_nonneg b1];rfl) (by rw[hy,Int.toNat_of_nonneg (by omega)];rfl) (by omega) (by
        have:(y.den ρ).toNat*(ed.bytes+1)<=((y.den ρ).toNat+0+1)*(ed.bytes+1):=qq7 _ (by omega);omega)
       have h3:R.ag ρ (.ok (.val (.xslice false st.n (.lit 0) ed.size x (.known y)),newObj {st with pc:=st2.pc} (.arr (.fill (.lit 0)) ks y elem false)))=some (r,st'):=by
        rw[<-h2,hl.n];unfold newObj;rw[hl.h,hl.n]
       have hks':=q9 (ρ:=ρ) (π:=π) hks;have key:=aD.new (P:=P) (cx:=cx) (tm:=tm) (st:={st with pc:=st2.pc}) (w:=w) (res:=(execOp a.eval o).run P w) c.rep hl.pc h3 (ob:=.cells (V.ae ρ π (b7 ed.zero (y.den ρ).toNat)).toArray elem (0,0)) (fun hn=>by
         rw[hrun];have hn':(π st.n).1=w.heap.size:=hn;simp[V.ab,XC.ab,cU,X.den,hn']) (by rw[hrun];rfl)
        (fun _=>⟨_,rfl,by rw[au,fS,hks'.1];exact qq2 _,fun hw=>(by cases hw),Mx hks⟩)
       exact⟨key.pc,key.n,key.ran⟩
      ·simp[R.ag]at h2
     ·simp[R.ag]at h
    ·simp[R.ag]at h
   ·simp[R.ag]at h
  ·simp[R.ag]at h
 ·exact Dp c hpc ho h
theorem ant{t:TypeId}{q:Option Operand}(c:Ctx P cx ρ π st.h w tm a)(hpc:ai ρ st.pc)(ho:o.op=.makeMap t q)
  (h:(SB cx tm st t q).ag ρ=some (r,st')):aD P cx tm ρ π st st' w ((execOp a.eval o).run P w) r:=by
 have hnew:∀ (hrun:(execOp a.eval o).run P w=.ok (.value (.map (some w.heap.size))) {w with heap:=w.heap.push (.map #[] 0)}) (h:R.ag ρ (.ok (.val (.map st.n),newObj st (.map [])))=some (r,st')),aD P cx tm ρ π st st' w ((execOp a.eval o).run P w) r:=
  fun hrun h=>aD.new c.rep hpc h (fun hn=>by rw[hrun];simp[V.ab,hn]) (by rw[hrun];rfl) (fun _=>⟨[],0,rfl,by simp[entriesOf],by simp[entriesOf]⟩)
 unfold SB at h;split at h
 ·rename_i td hd;have hk:=c.tt t td hd;split at h
  ·rename_i k e hdd;have hu:=hk.under;rw[hdd]at hu;split at h
   ·exact hnew (by simp[execOp,ho,Instr.makeMap,Go.newObj,Sem.run]) h
   ·rename_i x;split at h
    ·rename_i kk xx ex;have hx:=a7 c ex;exact hnew (by simp[execOp,ho,hx,V.ab,Instr.makeMap,Go.newObj,Sem.run,run_underlying hu,asInt,asIntOf]) h
    ·simp[R.ag]at h
  ·simp[R.ag]at h
 ·simp[R.ag]at h
theorem Ia{t:TypeId}{p:Operand}{f:Nat}(c:Ctx P cx ρ π st.h w tm a)(hpc:ai ρ st.pc)(ho:o.op=.fieldAddr t p f)
  (h:(jg cx tm st t p f).ag ρ=some (r,st')):aD P cx tm ρ π st st' w ((execOp a.eval o).run P w) r:=by
 have hl:=cG.refl hpc;unfold jg at h;split at h
 ·rename_i td b off hd ex;have hx:=a7 c ex;have hk:=c.tt t td hd;split at h
  ·rename_i fields hdd;have hu:=hk.under;rw[hdd]at hu;rw[cr]at h;split at h
   ·rename_i fd hf;have hf':fields[f]?=some fd:=by simpa using hf
    split at h
    ·rename_i d hfd;have hkf:=c.tt fd.type d hfd;split at h
     ·simp[R.ag]at h
     ·rename_i hz;have hz':¬d.size=0:=by
       intro e;rw[e]at hz;simp at hz
      refine aD.value c.rep hl h ?_;simp[execOp,ho,hx,V.ab,Instr.fieldAt,run_underlying hu,hf',Instr.sureAddr,fieldPlace,hkf.aQ,hz',cd]
    ·simp[R.ag]at h
   ·simp[R.ag]at h
  ·simp[R.ag]at h
 ·rename_i td wd b i es cc hd ex;have hx:=a7 c ex;have hk:=c.tt t td hd;split at h
  ·rename_i fields hdd;have hu:=hk.under;rw[hdd]at hu;rw[cr]at h;split at h
   ·rename_i fd hf;have hf':fields[f]?=some fd:=by simpa using hf
    split at h
    ·rename_i d hfd;have hkf:=c.tt fd.type d hfd;split at h
     ·simp[R.ag]at h
     ·rename_i hz;have hz':¬d.size=0:=by
       intro e;rw[e]at hz;simp at hz
      refine aD.value c.rep hl h ?_;simp[execOp,ho,hx,V.ab,Instr.fieldAt,run_underlying hu,hf',Instr.sureAddr,fieldPlace,hkf.aQ,hz',ig,Nat.add_assoc]
    ·simp[R.ag]at h
   ·simp[R.ag]at h
  ·simp[R.ag]at h
 ·simp[R.ag]at h
theorem Ci{cx:Cx}{i:X}{ed:TD}(h:m7 cx i ed=true):ed.agg=false/\ed.size=1:=by
 unfold m7 at h;split at h
 ·cases h
 ·split at h
  ·cases h
  ·split at h
   ·cases h
   ·rename_i ha;exact⟨ha,qqq h⟩
theorem qs{cx:Cx}{i:X}{ed:TD}(h:m7 cx i ed=true):ed.size=1:=(Ci h).2
theorem OA{cx:Cx}{i:X}{ed:TD}(h:m7 cx i ed=true):ed.agg=false:=(Ci h).1
theorem Ib{t:TypeId}{p q:Operand}(c:Ctx P cx ρ π st.h w tm a)(hpc:ai ρ st.pc)(ho:o.op=.indexAddr t p q)
  (h:(ji cx tm st t p q).ag ρ=some (r,st')):aD P cx tm ρ π st st' w ((execOp a.eval o).run P w) r:=by
 unfold ji at h;split at h
 ·rename_i td v k i hd ex ey;have hx:=a7 c ex;have hy:=a7 c ey;have hk:=c.tt t td hd;have hu:=hk.under;split at h
  ·rename_i len elem b off hdd;rw[hdd]at hu;split at h
   ·rename_i ed hed;have hke:=c.tt elem ed hed;split at h
    ·rename_i hox;have hs1:=qs hox;obtain⟨st1,n,hl,e,hn,h1⟩:=lU hpc h;refine aD.value c.rep hl h1 ?_;simp only[execOp,ho,hx,hy,V.ab,e,Instr.indexAt,Sem.run_bind,asIntOf,Sem.run_pure,Result.andThen_ok,run_underlying hu,Instr.sureAddr];simp[hn,hke.aQ,cd,hs1]
    obtain⟨st1,n,hl,e,hn,h1⟩:=q7 hpc h;refine aD.value c.rep hl h1 ?_;simp only[execOp,ho,hx,hy,V.ab,e,Instr.indexAt,Sem.run_bind,asIntOf,Sem.run_pure,Result.andThen_ok,run_underlying hu,Instr.sureAddr];simp[hn,hke.aQ,cd]
   ·simp[R.ag]at h
  ·rename_i elem b off len cp hdd;rw[hdd]at hu;split at h
   ·rename_i ed hed;have hke:=c.tt elem ed hed;split at h
    ·rename_i hox;have hs1:=qs hox;obtain⟨st1,n,hl,e,hn,h1⟩:=lU hpc h;refine aD.value c.rep hl h1 ?_;simp only[execOp,ho,hx,hy,V.ab,e,Instr.indexAt,Sem.run_bind,asIntOf,Sem.run_pure,Result.andThen_ok,run_underlying hu];simp[hn,hke.aQ,cd,hs1]
    obtain⟨st1,n,hl,e,hn,h1⟩:=q7 hpc h;refine aD.value c.rep hl h1 ?_;simp only[execOp,ho,hx,hy,V.ab,e,Instr.indexAt,Sem.run_bind,asIntOf,Sem.run_pure,Result.andThen_ok,run_underlying hu];simp[hn,hke.aQ,cd]
   ·simp[R.ag]at h
  ·rename_i elem wd b off es len cp hdd;rw[hdd]at hu;split at h
   ·rename_i ed hed;exact Dq c hpc ho hu (c.tt elem ed hed) hx hy h
   ·simp[R.ag]at h
  ·rename_i elem b off len cp hdd;rw[hdd]at hu;split at h
   ·rename_i _ ed n hed;have hke:=c.tt elem ed hed;obtain⟨st1,hl,h1⟩:=ah hpc h;rw[mu]at h1;split at h1
    ·rename_i hlt;have hlt':=of_decide_eq_true hlt;simp only[X.den]at hlt';have hn:n<(len.den ρ).toNat:=by
      have:(n:Int)<len.den ρ:=hlt';omega
     refine aD.value c.rep hl h1 ?_;simp only[execOp,ho,hx,hy,V.ab,X.den,Instr.indexAt,Sem.run_bind,asIntOf,Sem.run_pure,Result.andThen_ok,run_underlying hu];simp[hke.aQ,add_add];intro hm;exfalso;have:(n:Int)<len.den ρ:=hlt';rw[Int.max_def]at hm;split at hm<;>omega
    ·simp[R.ag]at h1
   ·simp[R.ag]at h
  ·simp[R.ag]at h
 ·simp[R.ag]at h
theorem Wq{t:TypeId}{p q:Operand}(c:Ctx P cx ρ π st.h w tm a)(hpc:ai ρ st.pc)(ho:o.op=.index t p q)
  (h:(xX cx tm st t p q).ag ρ=some (r,st')):aD P cx tm ρ π st st' w ((execOp a.eval o).run P w) r:=by
 unfold xX at h;split at h
 ·rename_i td v k i hd ex ey;have hx:=a7 c ex;have hy:=a7 c ey;have hk:=c.tt t td hd;have hu:=hk.under;split at h
  ·rename_i len elem cs hdd;rw[hdd]at hu;split at h
   ·rename_i ed hed;have hke:=c.tt elem ed hed;split at h
    ·rename_i hox;have hs1:=qs hox;have hag:=OA hox;split at h
     ·rename_i l htk;obtain⟨st1,n,hl,e,hn,h1⟩:=lU hpc h;refine aD.gA c.rep hl h1 fun u hu2=>?_
      obtain⟨t1,t2,t3⟩:=cS _ _ _ htk;have hnl:n<l.length:=by omega
      have hcs:cs[n]?=some l[n]:=by
       have:=congrArg (fun l=>l[n]?) t1;simp only[List.getElem?_take]at this;rw[if_pos hn,qq0 hnl]at this;exact this
      have hp:pd cx.tt elem cs (n*ed.size)=some l[n]:=by
       unfold pd;rw[hed];simp only[hag,hs1,Nat.mul_one,qqj,if_false,cr,hcs]
      simp only[execOp,ho,hx,hy,V.ab,e,Instr.index,Sem.run_bind,asIntOf,Sem.run_pure,Result.andThen_ok,run_underlying hu];rw[Fb hu2 e (qq0 hnl)];simp[hn,hke.aQ,oJ c.tt hp]
     ·simp[R.ag]at h
    obtain⟨st1,n,hl,e,hn,h1⟩:=q7 hpc h;refine aD.gA c.rep hl h1 fun u hu2=>?_
    simp only[execOp,ho,hx,hy,V.ab,e,Instr.index,Sem.run_bind,asIntOf,Sem.run_pure,Result.andThen_ok,run_underlying hu];simp[hn,hke.aQ,oJ c.tt hu2]
   ·simp[R.ag]at h
  ·rename_i l hdd;rw[hdd]at hu;obtain⟨st1,n,hl,e,hn,h1⟩:=q7 hpc h;refine aD.value c.rep hl h1 ?_;simp only[execOp,ho,hx,hy,V.ab,e,Instr.index,Sem.run_bind,asIntOf,Sem.run_pure,Result.andThen_ok,run_underlying hu,X.bF];have hg:(⟨(l.map UInt8.ofNat).toArray⟩:ByteArray)[n]?=some (UInt8.ofNat ((nth l n).getD 0)):=by
    rw[cr,getElem?_pos _ n (by show n<((l.map UInt8.ofNat).toArray).size;simpa using hn)];show some (((l.map UInt8.ofNat).toArray)[n]'(by simpa using hn))=_;simp[qq0 hn]
   simp[hg,X.den,UInt8.toNat_ofNat']
  ·simp[R.ag]at h
 ·simp[R.ag]at h
theorem SF{p:Operand}{xt t:TypeId}{okk:Bool}(c:Ctx P cx ρ π st.h w tm a)(hpc:ai ρ st.pc)(ho:o.op=.typeAssert p xt t okk)
  (h:(rp cx tm st p t okk).ag ρ=some (r,st')):aD P cx tm ρ π st st' w ((execOp a.eval o).run P w) r:=by
 have hl:=cG.refl hpc;unfold rp at h;split at h
 ·rename_i td v hd ex;have hx:=a7 c ex;have hk:=c.tt t td hd;have zero_ok:∀ z,zeroV td=some z->(zeroValue t).run P w=.ok (z.ab ρ π) w:=by
   intro z hz;obtain⟨zv,h1,h2,h3,h4⟩:=fe hk w ρ π;unfold zeroV at hz;cases ha:td.agg with
   |true=>
    rw[ha]at hz;simp only[if_true,qqk]at hz;subst hz;obtain⟨l,rfl⟩:=h3 ha;simp only[Value.cells]at h2;simp[h1,V.ab,h2]
   |false=>
    rw[ha]at hz;simp only[qqj,if_false]at hz;have h4':=h4 ha;rw[h1];have hcell:zv.cells=#[zv]:=by
     cases zv<;>first|rfl|exact absurd rfl (h4' _)
    rw[hcell]at h2;have:=congrArg (fun x:Array Value=>x[0]?) h2;simp only[List.getElem?_toArray,bu]at this;rw[List.head?_eq_getElem?]at hz;rw[hz]at this;simpa using this
  split at h
  ·simp[R.ag]at h
  ·rename_i tt2 v2 hni;split at h
   ·rename_i _ hb;have he:=qqq hb;refine aD.value c.rep hl h ?_;simp only[execOp,ho,hx,V.ab,Instr.typeAssert,Sem.run_bind,hk.cR,Result.andThen_ok];cases hdd:td.d<;>first
     |exact absurd hdd (hni _)
     |(simp[he,V.ae,V.ab,X.tt,X.den];done)
   ·rename_i _ hb;have he:=qqq hb;refine aD.value c.rep hl h ?_;simp only[execOp,ho,hx,V.ab,Instr.typeAssert,Sem.run_bind,hk.cR,Result.andThen_ok];cases hdd:td.d<;>first
     |exact absurd hdd (hni _)
     |(simp[he];done)
   ·rename_i _ hb;have he:¬tt2=t:=fun e=>by rw[e]at hb;simp at hb
    split at h
    ·rename_i z hz;have hz':=zero_ok z hz;refine aD.value c.rep hl h ?_;simp only[execOp,ho,hx,V.ab,Instr.typeAssert,Sem.run_bind,hk.cR,Result.andThen_ok];cases hdd:td.d<;>first
      |exact absurd hdd (hni _)
      |(simp[he,hz',V.ae,V.ab,X.tt,X.den];done)
    ·simp[R.ag]at h
   ·simp[R.ag]at h
  ·rename_i hni;split at h
   ·split at h
    ·rename_i z hz;have hz':=zero_ok z hz;refine aD.value c.rep hl h ?_;simp only[execOp,ho,hx,V.ab,Instr.typeAssert,Sem.run_bind,hk.cR,Result.andThen_ok];cases hdd:td.d<;>first
      |exact absurd hdd (hni _)
      |(simp[hz',V.ae,V.ab,X.tt,X.den];done)
    ·simp[R.ag]at h
   ·simp[R.ag]at h
  ·simp[R.ag]at h
 ·simp[R.ag]at h
end ops
section ops
variable {P:Program} {cx:Cx} {ρ:Env} {π:Pl} {w:World} {tm:List V} {a:Act} {st st':St} {r:OR} {o:Oper}
theorem A8(c:Ctx P cx ρ π st.h w tm a){p:Option Operand}{v:Option V}(h:sC cx tm p=some v):p.map a.eval=v.map (V.ab ρ π):=by
 unfold sC at h;split at h
 ·simp only[qqk]at h;subst h;rfl
 ·split at h
  ·rename_i x ex;simp only[qqk]at h;subst h;simp[a7 c ex]
  ·simp at h
theorem kN{isS:Bool}{len cap l h:Nat}{lo hi:Option V} (e:cA len cap lo hi=some (l,h)) (w:World):
  (Instr.sliceBounds isS len cap (lo.map (V.ab ρ π)) (hi.map (V.ab ρ π)) none).run P w=.ok (l,h,cap) w/\l<=h/\h<=cap:=by
 unfold cA at e;split at e
 ·simp at e
 ·rename_i hh ehh;split at e
  ·simp at e
  ·rename_i ll ell;split at e
   ·rename_i hb;simp only[qqk,qqv]at e;obtain⟨rfl,rfl⟩:=e;rw[qqw]at hb;have h1:=qqx hb.1;have h2:=qqx hb.2;refine⟨?_,h1,h2⟩;cases hi with
    |none=>
     simp only[qqk]at ehh;subst ehh;cases lo with
     |none=>
      simp only[qqk]at ell;subst ell;simp[Instr.sliceBounds]
     |some vl=>
      obtain⟨k,hk⟩:=gX (ρ:=ρ) (π:=π) ell;simp[Instr.sliceBounds,hk,Instr.sliceBound,asIntOf,h1]
    |some vh=>
     obtain⟨k2,hk2⟩:=gX (ρ:=ρ) (π:=π) ehh;cases lo with
     |none=>
      simp only[qqk]at ell;subst ell;simp[Instr.sliceBounds,hk2,Instr.sliceBound,asIntOf,h2]
     |some vl=>
      obtain⟨k,hk⟩:=gX (ρ:=ρ) (π:=π) ell;simp[Instr.sliceBounds,hk,hk2,Instr.sliceBound,asIntOf,h1,h2]
   ·simp at e
theorem i5{isS:Bool}{len cap l h m:Nat}{lo hi:Option V}{mx:V} (e:bw cap lo hi mx=some (l,h,m)) (w:World):
  (Instr.sliceBounds isS len cap (lo.map (V.ab ρ π)) (hi.map (V.ab ρ π)) (some (mx.ab ρ π))).run P w=.ok (l,h,m) w/\l<=h/\h<=m/\m<=cap:=by
 unfold bw at e;split at e
 ·simp at e
 ·rename_i mm em;split at e
  ·simp at e
  ·rename_i vh;split at e
   ·simp at e
   ·rename_i hh eh;split at e
    ·simp at e
    ·rename_i ll ell;split at e
     ·rename_i hb;simp only[qqk,qqv]at e;obtain⟨rfl,rfl,rfl⟩:=e;rw[qqw,qqw]at hb;have h1:=qqx hb.1;have h2:=qqx hb.2.1;have h3:=qqx hb.2.2;refine⟨?_,h1,h2,h3⟩;obtain⟨k3,hk3⟩:=gX (ρ:=ρ) (π:=π) em;obtain⟨k2,hk2⟩:=gX (ρ:=ρ) (π:=π) eh;cases lo with
      |none=>
       simp only[qqk]at ell;subst ell;simp[Instr.sliceBounds,hk2,hk3,Instr.sliceBound,asIntOf,h2,h3]
      |some vl=>
       obtain⟨k,hk⟩:=gX (ρ:=ρ) (π:=π) ell;simp[Instr.sliceBounds,hk,hk2,hk3,Instr.sliceBound,asIntOf,h1,h2,h3]
     ·simp at e
theorem Jx{len n C:Nat}{lo hi:Option V}{p:Nat×Nat}(hC:n<=C)(e:cA len n lo hi=some p):cA len C lo hi=some p:=by
 unfold cA at e ⊢;split at e
 ·cases e
 ·split at e
  ·cases e
  ·split at e
   ·rename_i hb;rw[if_pos]
    ·exact e
    ·simp only[qqw]at hb ⊢;have h2:=qqx hb.2;exact⟨hb.1,qkq (by omega)⟩
   ·cases e
theorem FT{n C:Nat}{lo hi:Option V}{mx:V}{p:Nat×Nat×Nat}(hC:n<=C)(e:bw n lo hi mx=some p):bw C lo hi mx=some p:=by
 unfold bw at e ⊢;split at e
 ·cases e
 ·split at e
  ·cases e
  ·split at e
   ·cases e
   ·split at e
    ·cases e
    ·split at e
     ·rename_i hb;rw[if_pos]
      ·exact e
      ·simp only[qqw]at hb ⊢;have h2:=qqx hb.2.2;exact⟨hb.1,hb.2.1,qkq (by omega)⟩
     ·cases e
theorem FU{isS:Bool}{len cap:Nat}{lo hi:Option V}{mx:V}{p:Nat×Nat×Nat}(e:bw 0 lo hi mx=some p)(w:World):
  (Instr.sliceBounds isS len cap (lo.map (V.ab ρ π)) (hi.map (V.ab ρ π)) (some (mx.ab ρ π))).run P w=.ok (0,0,0) w:=by
 obtain⟨l,h,m⟩:=p;have e':bw cap lo hi mx=some (l,h,m)/\l=0/\h=0/\m=0:=by
  have h0:=(i5 (P:=P) (ρ:=ρ) (π:=π) (isS:=isS) (len:=len) e w).2;refine⟨?_,by omega,by omega,by omega⟩;unfold bw at e ⊢;split at e
  ·cases e
  ·split at e
   ·cases e
   ·split at e
    ·cases e
    ·split at e
     ·cases e
     ·split at e
      ·rename_i hb;obtain⟨rfl,rfl,rfl⟩:_/\_/\_:=by simpa only[qqk,qqv]using e
       rw[if_pos];simp only[qqw]at hb ⊢;exact⟨hb.1,hb.2.1,qkq (by omega)⟩
      ·cases e
 obtain⟨e1,rfl,rfl,rfl⟩:=e';exact(i5 (P:=P) (ρ:=ρ) (π:=π) e1 w).1
theorem ok_slice{t:TypeId}{p:Operand}{lo hi mx:Option Operand}(c:Ctx P cx ρ π st.h w tm a)(hpc:ai ρ st.pc)(ho:o.op=.slice t p lo hi mx)
  (h:(xh cx tm st t p lo hi mx).ag ρ=some (r,st')):aD P cx tm ρ π st st' w ((execOp a.eval o).run P w) r:=by
 have hl:=cG.refl hpc;unfold xh at h;split at h
 ·rename_i v vlo vhi vmx ex elo ehi emx;have hx:=a7 c ex;have hlo:=A8 c elo;have hhi:=A8 c ehi;have hmx:=A8 c emx;have key:∀ u:V,(Instr.sliceAt t (v.ab ρ π) (vlo.map (V.ab ρ π)) (vhi.map (V.ab ρ π)) (vmx.map (V.ab ρ π))).run P w=.ok (u.ab ρ π) w->(execOp a.eval o).run P w=.ok (.value (u.ab ρ π)) w:=by
   intro u hu;simp only[execOp,ho,hx,hlo,hhi,hmx,Sem.run_bind,hu,Result.andThen_ok,Sem.run_pure]
  split at h
  ·exact SI c hpc ho hx hlo hhi hmx h
  rename_i hnx;clear hnx;unfold Gf at h;split at h
  ·rename_i mx;unfold JS at h;split at h
   ·simp[R.ag]at h
   ·rename_i td hd;have hk:=c.tt t td hd;have hu:=hk.under;split at h
    ·rename_i elem b off len cc hdd;rw[hdd]at hu;split at h
     ·simp[R.ag]at h
     ·rename_i ed hed;have hke:=c.tt elem ed hed;split at h
      ·rename_i x y z hb;refine aD.value c.rep hl h (key _ ?_);obtain⟨hb2,h1,h2,h3⟩:=i5 (P:=P) (ρ:=ρ) (π:=π) (isS:=true) (len:=len) hb w;simp only[Instr.sliceAt,Instr.slice,Sem.run_bind,run_underlying hu,Result.andThen_ok,V.ab,Cp.ab,hb2,Option.map_some,hke.aQ,Sem.run_pure];by_cases e:z=x
       ·subst e;simp
       ·have:Nat.beq z x=false:=by
         cases hq:Nat.beq z x
         ·rfl
         ·exact absurd (qqq hq) e
        simp[e,this,cd]
      ·simp[R.ag]at h
    ·rename_i elem b off len b' o' n hdd;rw[hdd]at hu;split at h
     ·simp[R.ag]at h
     ·rename_i ed hed;have hke:=c.tt elem ed hed;split at h
      ·rename_i x y z hb;refine aD.value c.rep hl h (key _ ?_);obtain⟨hb2,h1,h2,h3⟩:=i5 (P:=P) (ρ:=ρ) (π:=π) (isS:=true) (len:=len) (FT (Nat.le_max_right ((π b').2-o') n) hb) w;simp only[Instr.sliceAt,Instr.slice,Sem.run_bind,run_underlying hu,Result.andThen_ok,V.ab,Cp.ab,hb2,Option.map_some,hke.aQ,Sem.run_pure];by_cases e:z=x
       ·subst e;simp
       ·have:Nat.beq z x=false:=by
         cases hq:Nat.beq z x
         ·rfl
         ·exact absurd (qqq hq) e
        simp[e,this,cd]
      ·simp[R.ag]at h
    ·rename_i elem hdd;rw[hdd]at hu;split at h
     ·simp[R.ag]at h
     ·rename_i ed hed;have hke:=c.tt elem ed hed;split at h
      ·rename_i p2 hb;obtain⟨x,y,z⟩:=p2;refine aD.value c.rep hl h (key _ ?_);obtain⟨hb2,h1,h2,h3⟩:=i5 (P:=P) (ρ:=ρ) (π:=π) (isS:=true) (len:=0) hb w;have hx0:x=0:=by omega
       have hy0:y=0:=by omega
       have hz0:z=0:=by omega
       subst hx0 hy0 hz0;simp only[Instr.sliceAt,Instr.slice,Sem.run_bind,run_underlying hu,Result.andThen_ok,V.ab,hb2,Option.map_some,Sem.run_pure,hke.aQ];simp
      ·simp[R.ag]at h
    ·rename_i elem b off ln cp hdd;rw[hdd]at hu;split at h
     ·simp[R.ag]at h
     ·rename_i ed hed;have hke:=c.tt elem ed hed;split at h
      ·rename_i p2 hb;refine aD.value c.rep hl h (key _ ?_);have hb2:=FU (P:=P) (ρ:=ρ) (π:=π) (isS:=true) (len:=(ln.den ρ).toNat) (cap:=(cp.den ρ).toNat) hb w;simp only[Instr.sliceAt,Instr.slice,Sem.run_bind,run_underlying hu,Result.andThen_ok,V.ab,hb2,Option.map_some,Sem.run_pure,hke.aQ];simp[X.den]
      ·simp[R.ag]at h
    ·rename_i n elem b off hdd;rw[hdd]at hu;split at h
     ·simp[R.ag]at h
     ·rename_i ed hed;have hke:=c.tt elem ed hed;split at h
      ·rename_i x y z hb;refine aD.value c.rep hl h (key _ ?_);obtain⟨hb2,h1,h2,h3⟩:=i5 (P:=P) (ρ:=ρ) (π:=π) (isS:=false) (len:=n) hb w;simp only[Instr.sliceAt,Sem.run_bind,run_underlying hu,Result.andThen_ok,V.ab,Cp.ab,hb2,Option.map_some,hke.aQ,Sem.run_pure,Instr.sureAddr];by_cases e:z=x
       ·subst e;simp
       ·have:Nat.beq z x=false:=by
         cases hq:Nat.beq z x
         ·rfl
         ·exact absurd (qqq hq) e
        simp[e,this,cd]
      ·simp[R.ag]at h
    ·simp[R.ag]at h
  ·split at h
   ·simp[R.ag]at h
   ·rename_i td hd;have hk:=c.tt t td hd;have hu:=hk.under;split at h
    ·rename_i l hdd;rw[hdd]at hu;split at h
     ·rename_i x y hb;refine aD.value c.rep hl h (key _ ?_);have hb2:=(kN (P:=P) (ρ:=ρ) (π:=π) (isS:=false) hb w).1;have hsz:(⟨(l.map UInt8.ofNat).toArray⟩:ByteArray).size=l.length:=by simp[ByteArray.size]
      simp only[Instr.sliceAt,Instr.slice,Sem.run_bind,run_underlying hu,Result.andThen_ok,V.ab,X.bF,hsz,hb2,Option.map_none,Option.isSome_none,qqj,if_false,Sem.run_pure];have e:(⟨(l.map UInt8.ofNat).toArray⟩:ByteArray).extract x y=⟨(List.map UInt8.ofNat (List.take (y-x) (List.drop x l))).toArray⟩:=by
       apply ByteArray.ext;apply Array.ext';rw[Lib.extract_data];simp[List.map_take,List.map_drop]
      rw[e]
     ·simp[R.ag]at h
    ·rename_i elem b off len cp hdd;rw[hdd]at hu;split at h
     ·simp[R.ag]at h
     ·rename_i ed hed;have hke:=c.tt elem ed hed;split at h
      ·rename_i cc;split at h
       ·rename_i x y hb;refine aD.value c.rep hl h (key _ ?_);obtain⟨hb2,h1,h2⟩:=kN (P:=P) (ρ:=ρ) (π:=π) (isS:=true) hb w;simp only[Instr.sliceAt,Instr.slice,Sem.run_bind,run_underlying hu,Result.andThen_ok,V.ab,Cp.ab,hb2,Option.map_none,hke.aQ,Sem.run_pure,Option.map_some];by_cases e:cc=x
        ·subst e;simp
        ·have:Nat.beq cc x=false:=by
          cases hq:Nat.beq cc x
          ·rfl
          ·exact absurd (qqq hq) e
         simp[e,this,cd]
       ·simp[R.ag]at h
      ·rename_i b' o' n;split at h
       ·rename_i x y hb;have hb3:=Jx (Nat.le_max_right ((π b').2-o') n) hb;obtain⟨hb2,h1,h2⟩:=kN (P:=P) (ρ:=ρ) (π:=π) (isS:=true) hb3 w;obtain⟨_,h4,h5⟩:=kN (P:=P) (ρ:=ρ) (π:=π) (isS:=true) hb w;split at h
        ·rename_i hx0;obtain rfl:=qqq hx0;refine aD.value c.rep hl h (key _ ?_);simp only[Instr.sliceAt,Instr.slice,Sem.run_bind,run_underlying hu,Result.andThen_ok,V.ab,Cp.ab,hb2,Option.map_none,hke.aQ,Sem.run_pure,Option.map_some];simp;intro _;exact cd _ _ _
        ·rename_i hx0 hxn;have hxn':x<n:=qqx hxn;refine aD.value c.rep hl h (key _ ?_);simp only[Instr.sliceAt,Instr.slice,Sem.run_bind,run_underlying hu,Result.andThen_ok,V.ab,Cp.ab,hb2,Option.map_none,hke.aQ,Sem.run_pure,Option.map_some];have hm:¬max ((π b').2-o') n=x:=by omega
         have hc:max ((π b').2-o') n-x=max ((π b').2-(o'+x)) (n-x):=by omega
         rw[if_neg hm,hc];simp[cd]
        ·rename_i hx0 hxn;have hxn':¬x<n:=fun e=>by
          have:=qkq (show x+1<=n from e);exact absurd (show Nat.blt x n=true from this) (by rw[hxn];simp)
         split at h
         ·rename_i ho0 hbb;obtain rfl:=qqq ho0;obtain rfl:=qqq hbb;refine aD.value c.rep hl h (key _ ?_);obtain rfl:x=n:=by omega
          obtain rfl:y=x:=by omega
          simp only[Instr.sliceAt,Instr.slice,Sem.run_bind,run_underlying hu,Result.andThen_ok,V.ab,Cp.ab,hb2,Option.map_none,hke.aQ,Sem.run_pure,Option.map_some];have hc:max ((π b).2-0) y-y=(π b).2-y:=by omega
          rw[hc];by_cases hle:(π b).2<=y
          ·have hm:max ((π b).2-0) y=y:=by omega
           rw[if_pos hm,if_pos hle,Nat.sub_self]
          ·have hm:¬max ((π b).2-0) y=y:=by omega
           simp only[hm,hle,if_false,cd,Nat.sub_self]
         ·simp[R.ag]at h
       ·simp[R.ag]at h
    ·rename_i elem hdd;rw[hdd]at hu;split at h
     ·simp[R.ag]at h
     ·rename_i ed hed;have hke:=c.tt elem ed hed;split at h
      ·rename_i p2 hb;obtain⟨x,y⟩:=p2;refine aD.value c.rep hl h (key _ ?_);obtain⟨hb2,h1,h2⟩:=kN (P:=P) (ρ:=ρ) (π:=π) (isS:=true) hb w;have hx0:x=0:=by omega
       have hy0:y=0:=by omega
       subst hx0 hy0;simp only[Instr.sliceAt,Instr.slice,Sem.run_bind,run_underlying hu,Result.andThen_ok,V.ab,hb2,Option.map_none,Sem.run_pure,hke.aQ];simp
      ·simp[R.ag]at h
    ·rename_i n elem b off hdd;rw[hdd]at hu;split at h
     ·simp[R.ag]at h
     ·rename_i ed hed;have hke:=c.tt elem ed hed;split at h
      ·rename_i x y hb;refine aD.value c.rep hl h (key _ ?_);obtain⟨hb2,h1,h2⟩:=kN (P:=P) (ρ:=ρ) (π:=π) (isS:=false) hb w;simp only[Instr.sliceAt,Sem.run_bind,run_underlying hu,Result.andThen_ok,V.ab,Cp.ab,hb2,Option.map_none,hke.aQ,Sem.run_pure,Instr.sureAddr];by_cases e:n=x
       ·subst e;simp
       ·have:Nat.beq n x=false:=by
         cases hq:Nat.beq n x
         ·rfl
         ·exact absurd (qqq hq) e
        simp[e,this,cd]
      ·simp[R.ag]at h
    ·simp[R.ag]at h
 ·simp[R.ag]at h
theorem abX{cl:Call}(c:Ctx P cx ρ π st.h w tm a)(hpc:ai ρ st.pc)(ho:o.op=.call cl)(hv:∀ b,cl.callee≠.builtin b)
  (h:(y5 cx tm st cl).ag ρ=some (r,st')):aD P cx tm ρ π st st' w ((execOp a.eval o).run P w) r:=by
 unfold y5 at h;split at h
 ·rename_i f hcl;split at h
  ·rename_i g first cap ef
   have hf:=a7 c ef;split at h
   ·rename_i args eargs;have ha:=AY c eargs;split at h
    ·rename_i fn hfn;obtain⟨h1,h2,h3⟩:=c.ft g fn hfn;simp only[R.ag,qqk,qqv]at h;obtain⟨rfl,rfl⟩:=h;refine⟨hpc,qq2 _,fun _=>⟨?_,rfl,rfl,fn,h1⟩⟩;have hb:¬fn.body=none:=by intro e;rw[e]at h3;simp at h3
     simp only[execOp,ho,resolve,hcl,hf,V.ab,Deferred.ofValue,ra,ha,Sem.run_bind,Sem.run_pure,Result.andThen_ok,invoke,callFunc,program,Sem.run,h1,h2];have hb2:fn.body.isNone=false:=by
      cases hq:fn.body with
      |none=>exact absurd hq hb
      |some _=>rfl
     simp[hb2,aW]
    ·simp[R.ag]at h
   ·simp[R.ag]at h
  ·rename_i l ef;have hf:=a7 c ef;split at h
   ·rename_i args eargs;have ha:=gV c eargs;simp only[R.ag,qqk,qqv]at h;obtain⟨rfl,rfl⟩:=h;refine⟨hpc,qq2 _,fun _=>⟨?_,rfl,rfl,f,_,ef,eargs⟩⟩;simp only[execOp,ho,resolve,hcl,hf,V.ab,Deferred.ofValue,ra,ha,Sem.run_bind,Sem.run_pure,Result.andThen_ok,invoke];simp
   ·simp[R.ag]at h
  ·simp[R.ag]at h
 ·rename_i b hcl;exact absurd hcl (hv b)
 ·simp[R.ag]at h
theorem Wn{cl:Call}(c:Ctx P cx ρ π st.h w tm a)(hpc:ai ρ st.pc)(ho:o.op=.defer cl)
  (h:(qk cx tm st cl).ag ρ=some (r,st')):aD P cx tm ρ π st st' w ((execOp a.eval o).run P w) r:=by
 unfold qk at h;split at h
 ·rename_i f hcl;split at h
  ·rename_i g first cap args ef eargs
   have hf:=a7 c ef;have ha:=gV c eargs;simp only[R.ag,qqk,qqv]at h;obtain⟨rfl,rfl⟩:=h;refine⟨hpc,qq2 _,fun _=>⟨?_,rfl,rfl⟩⟩;simp only[execOp,ho,resolve,hcl,hf,V.ab,Deferred.ofValue,ra,ha,Sem.run_bind,Sem.run_pure,Result.andThen_ok,cz.ab];simp[aW]
  ·simp[R.ag]at h
 ·simp[R.ag]at h
theorem Ws{p:Operand}(c:Ctx P cx ρ π st.h w tm a)(hpc:ai ρ st.pc)(ho:o.op=.panic p)
  (h:(xY cx tm st p).ag ρ=some (r,st')):aD P cx tm ρ π st st' w ((execOp a.eval o).run P w) r:=by
 unfold xY at h;split at h
 ·rename_i t v ex;have hx:=a7 c ex;simp only[R.ag,qqk,qqv]at h;obtain⟨rfl,rfl⟩:=h;refine⟨hpc,qq2 _,fun _=>⟨?_,rfl,rfl⟩⟩;simp[execOp,ho,hx,V.ab,Instr.panic,goPanic]
 ·simp[R.ag]at h
end ops
theorem mO{x y:Value}(h:cL x y):cL y x:=by
 cases x<;>cases y<;>simp_all [cL]
 ·exact fun e=>h e.symm
 ·exact fun e=>h.2 e.symm
 ·exact fun e=>h e.symm
theorem gF{x:Value}(h:cL x x):False:=by
 cases x<;>simp_all [cL]
def fits:TypeDesc->Value->Prop
 |.int _,.int _ _=>True
 |.string,.string _=>True
 |.bool,.bool _=>True
 |_,_=>False
theorem Te{d:TypeDesc}{x:Value}(h:fits d x):Instr.sameNow d x x=some true:=by
 cases d<;>cases x<;>simp_all [fits,Instr.sameNow]
 rename_i s;rw[beq_toListBytes];simp
theorem zg{d:TypeDesc}{x y:Value}(h:fits d x)(hu:cL x y):Instr.sameNow d x y=some false:=by
 cases d<;>cases x<;>cases y<;>simp_all [fits,cL,Instr.sameNow]
 rename_i s t;rw[beq_toListBytes];simp only[beq_eq_false_iff_ne,ne_eq];intro e;apply hu;apply ByteArray.ext;apply Array.ext';rw[<-ByteArray.toList_eq,<-ByteArray.toList_eq,e]
abbrev SN (ms:List MapEntry):List (Value×Value):=ms.map fun e=>(e.key,e.val)
theorem pV{d:TypeDesc}{K v:Value}(hf:fits d K):∀ (ms:List MapEntry) (i:Nat),((SN ms).map (·.1)).Pairwise cL->(K,v)∈SN ms->
  ∃ j e,Instr.findNow d K ms i=some (some (i+j,v))/\ms[j]?=some e/\e.key=K
 |[],i,_,hm=>by simp at hm
 |e::ms,i,hp,hm=>by
  simp only[List.map_cons,List.pairwise_cons]at hp;simp only[List.map_cons,List.mem_cons]at hm;by_cases he:e.key=K
  ·have hv:e.val=v:=by
    rcases hm with hm|hm
    ·exact(Prod.ext_iff.1 hm).2.symm
    ·have:=hp.1 K (by simp only[List.map_map,qzx]at hm ⊢;obtain⟨x,hx,e'⟩:=hm;exact⟨x,hx,(Prod.ext_iff.1 e').1⟩);rw[he]at this;exact(gF this).elim
   exact⟨0,e,by simp[Instr.findNow,he,Te hf,hv],rfl,he⟩
  ·have hm':(K,v)∈SN ms:=by
    rcases hm with hm|hm
    ·exact absurd (Prod.ext_iff.1 hm).1.symm he
    ·exact hm
   have hu:=hp.1 K (by simp only[List.map_map,qzx]at hm' ⊢;obtain⟨x,hx,e'⟩:=hm';exact⟨x,hx,(Prod.ext_iff.1 e').1⟩);obtain⟨j,e2,h1,h2,h3⟩:=pV hf ms (i+1) hp.2 hm';exact⟨j+1,e2,by simp only[Instr.findNow,zg hf (mO hu),h1];congr 3;omega,h2,h3⟩
theorem oe{d:TypeDesc}{K:Value}(hf:fits d K):∀ (ms:List MapEntry) (i:Nat),(∀ x∈(SN ms).map (·.1),cL K x)->Instr.findNow d K ms i=some none
 |[],i,_=>rfl
 |e::ms,i,h=>by
  simp only[Instr.findNow,zg hf (h e.key (by simp)),oe hf ms (i+1) (fun x hx=>h x (by simp only[List.map_cons,List.mem_cons];exact .inr hx))]
theorem jI{P:Program}{t:TypeId}{d:TypeDesc}{x:Value}(hu:P.underlying t=some d)(hf:fits d x)(b:Bool)(n:Nat)(w:World):(Instr.checkKey b (n+1) t x).run P w=.ok () w:=by
 unfold Instr.checkKey;rw[Sem.run_bind,run_underlying hu,Result.andThen_ok];cases d<;>cases x<;>simp_all [fits]
section
variable {ρ:Env} {π:Pl} {α:Type}
theorem BF{d:TypeDesc}{k:V}(h:uS d k=true):fits d (k.ab ρ π):=by
 cases d<;>cases k<;>simp_all [uS,fits,V.ab]
theorem mZ{key:V} {k:St->Option (Nat×V)->R α} {a:α}:∀ (es:List (V×V)) (i:Nat) (st:St),ai ρ st.pc->(cX st key es i k).ag ρ=some a->
  ∃ st' res,cG ρ st st'/\(k st' res).ag ρ=some a /\
   (∀ j v,res=some (j,v)->∃ m key',j=i+m/\es[m]?=some (key',v)/\key'.ab ρ π=key.ab ρ π) /\
   (res=none->∀ x∈(entriesOf ρ π es).map (·.1),cL (key.ab ρ π) x)
 |[],i,st,hp,h=>⟨st,none,.refl hp,h,by simp,by simp[entriesOf]⟩
 |(key',v)::es,i,st,hp,h=>by
  simp only[cX]at h;have hit:∀ st1,cG ρ st st1->key'.ab ρ π=key.ab ρ π->(k st1 (some (i,v))).ag ρ=some a->∃ st' res,cG ρ st st'/\(k st' res).ag ρ=some a /\
   (∀ j v',res=some (j,v')->∃ m key'',j=i+m/\((key',v)::es)[m]?=some (key'',v')/\key''.ab ρ π=key.ab ρ π) /\
   (res=none->∀ x∈(entriesOf ρ π ((key',v)::es)).map (·.1),cL (key.ab ρ π) x):=by
   intro st1 hl he hk;refine⟨st1,some (i,v),hl,hk,?_,by simp⟩;intro j v' e;simp only[qqk,qqv]at e;obtain⟨rfl,rfl⟩:=e;exact⟨0,key',rfl,rfl,he⟩
  have miss:∀ st1,cG ρ st st1->cL (key.ab ρ π) (key'.ab ρ π)->(cX st1 key es (i+1) k).ag ρ=some a->∃ st' res,cG ρ st st'/\(k st' res).ag ρ=some a /\
   (∀ j v',res=some (j,v')->∃ m key'',j=i+m/\((key',v)::es)[m]?=some (key'',v')/\key''.ab ρ π=key.ab ρ π) /\
   (res=none->∀ x∈(entriesOf ρ π ((key',v)::es)).map (·.1),cL (key.ab ρ π) x):=by
   intro st1 hl hu hk;obtain⟨st2,res,hl2,h2,h3,h4⟩:=mZ es (i+1) st1 hl.pc hk;refine⟨st2,res,hl.trans hl2,h2,?_,?_⟩
   ·intro j v' e;obtain⟨m,key'',e1,e2,e3⟩:=h3 j v' e;exact⟨m+1,key'',by omega,e2,e3⟩
   ·intro e x hx;simp only[entriesOf,List.map_cons,List.mem_cons]at hx;rcases hx with rfl|hx
    ·exact hu
    ·exact h4 e x hx
  split at h
  ·rename_i ka x kb y;split at h
   ·rename_i hk;obtain⟨st1,hl,h1⟩:=ah hp h;rw[fE]at h1;split at h1
    ·rename_i he;simp only[beq_iff_eq]at he;exact hit st1 hl (by simp[V.ab,a9 hk,he]) h1
    ·rename_i he;simp only[beq_iff_eq]at he;exact miss st1 hl (by simp[V.ab,cL,a9 hk,he]) h1
   ·simp[R.ag]at h
  ·rename_i x y;obtain⟨st1,hl,h1⟩:=ah hp h;rw[qg]at h1;split at h1
   ·rename_i he;simp only[beq_iff_eq]at he;exact hit st1 hl (by simp[V.ab,he]) h1
   ·rename_i he;simp only[beq_iff_eq]at he;exact miss st1 hl (by
     simp only[V.ab,cL,ne_eq,ByteArray.mk.injEq];intro e;exact he (by simpa using congrArg Array.toList e)) h1
  ·rename_i x y;obtain⟨st1,hl,h1⟩:=ah hp h;rw[BU]at h1;split at h1
   ·rename_i he;simp only[beq_iff_eq]at he;exact hit st1 hl (by simp[V.ab,he]) h1
   ·rename_i he;simp only[beq_iff_eq]at he;exact miss st1 hl (by simp[V.ab,cL,he]) h1
  ·simp[R.ag]at h
end
section ops
variable {P:Program} {cx:Cx} {ρ:Env} {π:Pl} {w:World} {tm:List V} {a:Act} {st st':St} {r:OR} {o:Oper}
theorem M4{t:TypeId}{td:TD}(hk:iO P t td){z:V}(hz:zeroV td=some z):(zeroValue t).run P w=.ok (z.ab ρ π) w:=by
 obtain⟨zv,h1,h2,h3,h4⟩:=fe hk w ρ π;unfold zeroV at hz;cases ha:td.agg with
 |true=>
  rw[ha]at hz;simp only[if_true,qqk]at hz;subst hz;obtain⟨l,rfl⟩:=h3 ha;simp only[Value.cells]at h2;simp[h1,V.ab,h2]
 |false=>
  rw[ha]at hz;simp only[qqj,if_false]at hz;have h4':=h4 ha;rw[h1];have hcell:zv.cells=#[zv]:=by
   cases zv<;>first|rfl|exact absurd rfl (h4' _)
  rw[hcell]at h2;have:=congrArg (fun x:Array Value=>x[0]?) h2;simp only[List.getElem?_toArray,bu]at this;rw[List.head?_eq_getElem?]at hz;rw[hz]at this;simpa using this
theorem dK.NZ{h:H}(hr:dK ρ π h w){b:Nat} {es:List (V×V)} (hb:h.get b=some (.map es)):
  ∃ (ms:List MapEntry) (clock:Nat),w.heap[(π b).1]?=some (.map ms.toArray clock)/\(SN ms).Perm (entriesOf ρ π es)/\((entriesOf ρ π es).map (·.1)).Pairwise cL:=by
 obtain⟨ob,h1,ms,clock,rfl,h2,h3⟩:=hr.obj b _ hb;exact⟨ms,clock,h1,h2,h3⟩
theorem Ey{ms:List MapEntry} {es:List (V×V)} (h1:(SN ms).Perm (entriesOf ρ π es)) (h2:((entriesOf ρ π es).map (·.1)).Pairwise cL):((SN ms).map (·.1)).Pairwise cL:=
 (h1.map (·.1)).symm.pairwise h2 fun h=>mO h
theorem run_getObj_map{b:Nat}{ms:List MapEntry}{clock:Nat} (h:w.heap[b]?=some (.map ms.toArray clock)):(getObj b).run P w=.ok (.map ms.toArray clock) w:=by
 simp[getObj,Sem.run,h]
theorem BM{ed:TD}{okk:Bool}{t:TypeId}{p q:Operand}{K:Value}{M:Option Nat}(ho:o.op=.lookup t p q okk)(hp:a.eval p=.map M)(hq:a.eval q=K)
  (hr:dK ρ π st.h w) {st1:St} (hl:cG ρ st st1) {res:Option (Nat×V)} (h:(kS ed okk st1 res).ag ρ=some (r,st'))
  (hlook:∀ z:V,(∀ x,res=some x->z=x.2)->(res=none->zeroV ed=some z)->(Instr.lookup t (.map M) K okk).run P w=.ok (if okk then .tuple #[z.ab ρ π,.bool res.isSome]else z.ab ρ π) w):
  aD P cx tm ρ π st st' w ((execOp a.eval o).run P w) r:=by
 have key:∀ u:V,(Instr.lookup t (.map M) K okk).run P w=.ok (u.ab ρ π) w->(execOp a.eval o).run P w=.ok (.value (u.ab ρ π)) w:=by
  intro u hu;simp only[execOp,ho,hp,hq,Sem.run_bind,hu,Result.andThen_ok,Sem.run_pure]
 unfold kS at h;split at h
 ·refine aD.value hr hl h (key _ ?_);rw[hlook _ (fun x e=>by cases e;rfl) (by simp)];simp[V.ab,V.ae,X.tt,X.den]
 ·refine aD.value hr hl h (key _ ?_);rw[hlook _ (fun x e=>by cases e;rfl) (by simp)];simp
 ·split at h
  ·rename_i z hz;refine aD.value hr hl h (key _ ?_);rw[hlook z (by simp) (fun _=>hz)];simp[V.ab,V.ae,X.tt,X.den]
  ·simp[R.ag]at h
 ·split at h
  ·rename_i z hz;refine aD.value hr hl h (key _ ?_);rw[hlook z (by simp) (fun _=>hz)];simp
  ·simp[R.ag]at h
theorem SG{t:TypeId}{p q:Operand}{okk:Bool}(c:Ctx P cx ρ π st.h w tm a)(hpc:ai ρ st.pc)(ho:o.op=.lookup t p q okk)
  (h:(oE cx tm st t p q okk).ag ρ=some (r,st')):aD P cx tm ρ π st st' w ((execOp a.eval o).run P w) r:=by
 unfold oE at h;split at h
 ·rename_i x ix ex ey;have hx:=a7 c ex;have hy:=a7 c ey;unfold uB at h;split at h
  ·rename_i td hd;have hk:=c.tt t td hd;split at h
   ·rename_i keyT elem hdd;have hu:=hk.under;rw[hdd]at hu;split at h
    ·rename_i kd ed hkd hed;have hkk:=c.tt keyT kd hkd;have hke:=c.tt elem ed hed;split at h
     ·rename_i hfit;have hfits:=BF (ρ:=ρ) (π:=π) hfit;split at h
      ·refine BM ho (by rw[hx];rfl) hy c.rep (.refl hpc) h ?_;intro z _ hz;have hz2:=M4 (ρ:=ρ) (π:=π) (w:=w) hke (hz rfl);simp only[Instr.lookup,Sem.run_bind,run_underlying hu,Result.andThen_ok,Sem.run_pure,jI hkk.under hfits,Instr.findKey,run_underlying hkk.under,Instr.findNow,hz2,pure_bind];cases okk<;>simp
      ·rename_i b;split at h
       ·rename_i es hb;obtain⟨ms,clock,h1,h2,h3⟩:=c.rep.NZ hb;obtain⟨st1,res,hl,hk2,hit,hmiss⟩:=mZ (ρ:=ρ) (π:=π) es 0 st hpc h;refine BM ho (by rw[hx];rfl) hy c.rep hl hk2 ?_;intro z hz1 hz2;have hkp:=Ey h2 h3;cases res with
        |none=>
         have hz3:=M4 (ρ:=ρ) (π:=π) (w:=w) hke (hz2 rfl);have hm:=oe hfits ms 0 (fun y hy=>hmiss rfl y ((h2.map (·.1)).mem_iff.1 hy));simp only[Instr.lookup,Sem.run_bind,run_underlying hu,Result.andThen_ok,run_getObj_map h1,Sem.run_pure,jI hkk.under hfits,Instr.findKey,run_underlying hkk.under,hm,hz3,pure_bind];cases okk<;>simp
        |some jv=>
         obtain⟨j,v⟩:=jv;obtain⟨m,key',_,e2,e3⟩:=hit j v rfl;have hmem:(ix.ab ρ π,v.ab ρ π)∈SN ms:=by
          refine h2.mem_iff.2 ?_;rw[<-e3];simp only[entriesOf,qzx];exact⟨(key',v),qz2 e2,rfl⟩
         obtain⟨j2,e,f1,_,_⟩:=pV hfits ms 0 hkp hmem;have hzv:z=v:=hz1 (j,v) rfl;subst hzv;simp only[Instr.lookup,Sem.run_bind,run_underlying hu,Result.andThen_ok,run_getObj_map h1,Sem.run_pure,jI hkk.under hfits,Instr.findKey,run_underlying hkk.under,f1,pure_bind];cases okk<;>simp
       ·simp[R.ag]at h
      ·simp[R.ag]at h
     ·simp[R.ag]at h
    ·simp[R.ag]at h
   ·simp[R.ag]at h
  ·simp[R.ag]at h
 ·simp[R.ag]at h
theorem CD(v:V):∀ (es:List (V×V)) (n:Nat) (k u:V),es[n]?=some (k,u)->((entriesOf ρ π es).map (·.1)).Pairwise cL->
  ∀ f:Value×Value->Value×Value,(∀ x,x.1=k.ab ρ π->f x=(x.1,v.ab ρ π))->(∀ x,x.1≠k.ab ρ π->f x=x)->entriesOf ρ π (yl v es n)=(entriesOf ρ π es).map f
 |[],n,k,u,h,_,f,_,_=>by simp at h
 |(k',u')::es,0,k,u,h,hp,f,hf1,hf2=>by
  simp only[List.getElem?_cons_zero,qqk,qqv]at h;obtain⟨rfl,rfl⟩:=h;simp only[entriesOf,List.map_cons,List.pairwise_cons]at hp;simp only[yl,entriesOf,List.map_cons];rw[hf1 _ rfl];congr 1;rw[List.map_map];apply qz5;intro y hy;refine(hf2 _ ?_).symm;intro e;have:=hp.1 _ (by rw[List.map_map];exact qzx.2 ⟨y,hy,rfl⟩);simp only[Function.comp]at this;rw[show(y.1.ab ρ π)=k'.ab ρ π from e]at this;exact gF this
 |(k',u')::es,n+1,k,u,h,hp,f,hf1,hf2=>by
  simp only[List.getElem?_cons_succ]at h;simp only[entriesOf,List.map_cons,List.pairwise_cons]at hp;have ih:=CD v es n k u h hp.2 f hf1 hf2;simp only[entriesOf]at ih;simp only[yl,entriesOf,List.map_cons,ih];congr 1;refine(hf2 _ ?_).symm;intro e;have:=hp.1 (k.ab ρ π) (by rw[List.map_map];exact qzx.2 ⟨(k,u),qz2 h,rfl⟩);rw[show(k'.ab ρ π)=k.ab ρ π from e]at this;exact gF this
theorem Bh(K v:Value)(b:MapEntry->MapEntry) (hb:∀ e,e.key=K->(b e).key=K/\(b e).val=v):∀ (ms:List MapEntry) (j:Nat) (e:MapEntry),ms[j]?=some e->e.key=K->((SN ms).map (·.1)).Pairwise cL->
  ∀ f:Value×Value->Value×Value,(∀ x,x.1=K->f x=(x.1,v))->(∀ x,x.1≠K->f x=x)->SN (ms.modify j b)=(SN ms).map f
 |[],j,e,h,_,_,f,_,_=>by simp at h
 |m::ms,0,e,h,he,hp,f,hf1,hf2=>by
  simp only[List.getElem?_cons_zero,qqk]at h;subst h;simp only[List.map_cons,List.pairwise_cons]at hp;simp only[List.modify_zero_cons,List.map_cons];rw[hf1 _ he];obtain⟨h1,h2⟩:=hb m he;rw[h1,h2,he];congr 1;rw[List.map_map];apply qz5;intro y hy;refine(hf2 _ ?_).symm;intro e;have:=hp.1 _ (by rw[List.map_map];exact qzx.2 ⟨y,hy,rfl⟩);simp only[Function.comp]at this;rw[show y.key=K from e,he]at this;exact gF this
 |m::ms,j+1,e,h,he,hp,f,hf1,hf2=>by
  simp only[List.getElem?_cons_succ]at h;simp only[List.map_cons,List.pairwise_cons]at hp;have ih:=Bh K v b hb ms j e h he hp.2 f hf1 hf2;simp only[List.modify_succ_cons,List.map_cons];rw[show List.map (fun e=>(e.key,e.val)) (ms.modify j b)=_ from ih];congr 1;refine(hf2 _ ?_).symm;intro e';have:=hp.1 e.key (by rw[List.map_map];exact qzx.2 ⟨e,qz2 h,rfl⟩);rw[show m.key=K from e',he]at this;exact gF this
theorem IG{d:TypeDesc}{x:Value}(h:fits d x):Instr.sameBits 10000 x x=true:=by
 cases d<;>cases x<;>simp_all [fits,Instr.sameBits]
 rename_i s;rw[beq_toListBytes];simp
theorem Pa{t keyT elem:TypeId}{kd:TD}{b:Nat}{key v:V}(hr:dK ρ π st.h w) (hu:P.underlying t=some (.map keyT elem)) (hkk:iO P keyT kd) (hfits:fits kd.d (key.ab ρ π)) {es:List (V×V)} (hb:st.h.get b=some (.map es))
  {st1:St} (hl:cG ρ st st1) {res:Option (Nat×V)} (h:(yz b es key v st1 res).ag ρ=some (r,st'))
  (hit:∀ j u,res=some (j,u)->∃ m key',j=0+m/\es[m]?=some (key',u)/\key'.ab ρ π=key.ab ρ π)
  (hmiss:res=none->∀ x∈(entriesOf ρ π es).map (·.1),cL (key.ab ρ π) x):
  r=.skip/\ai ρ st'.pc/\st'.n=st.n/\∃ w',(Instr.mapUpdate t (.map (some (π b).1)) (key.ab ρ π) (v.ab ρ π)).run P w=.ok () w'/\Mv ρ π st.h st.n w st'.h st'.n w':=by
 obtain⟨ms,clock,h1,h2,h3⟩:=hr.NZ hb;have hkp:=Ey h2 h3;have hlt:(π b).1<w.heap.size:=(qq6.1 h1).1;have hset:∀ ob:Obj,(setObj (π b).1 ob).run P w=.ok () {w with heap:=w.heap.setIfInBounds (π b).1 ob}:=by
  intro ob;simp[setObj,Sem.run,h1]
 unfold yz at h;split at h
 ·rename_i j u;simp only[R.ag,qqk,qqv]at h;obtain⟨rfl,rfl⟩:=h;obtain⟨m,key',e1,e2,e3⟩:=hit j u rfl;have hmem:(key.ab ρ π,u.ab ρ π)∈SN ms:=by
   refine h2.mem_iff.2 ?_;rw[<-e3];simp only[entriesOf,qzx];exact⟨(key',u),qz2 e2,rfl⟩
  obtain⟨j2,e,f1,f2,f3⟩:=pV hfits ms 0 hkp hmem;refine⟨rfl,hl.pc,hl.n,{w with heap:=w.heap.setIfInBounds (π b).1 (.map (ms.modify j2 fun e=>{e with key:=key.ab ρ π,val:=v.ab ρ π}).toArray clock)},?_,?_⟩
  ·have hk:(Instr.keyThatStays (((ms.toArray[0+j2]?).map (·.key)).getD (key.ab ρ π)) (key.ab ρ π)).run P w=.ok (key.ab ρ π) w:=by
    have:((ms.toArray[0+j2]?).map (·.key)).getD (key.ab ρ π)=key.ab ρ π:=by
     simp[f2,f3]
    rw[this];simp[Instr.keyThatStays,IG hfits]
   simp only[Instr.mapUpdate,Sem.run_bind,run_underlying hu,Result.andThen_ok,run_getObj_map h1,jI hkk.under hfits,Instr.findKey,run_underlying hkk.under,f1,Sem.run_pure,hk,hset];simp
  ·have:=Mv.turn hr st.n (o':=.map (yl v es j)) (ob:=.map (ms.modify j2 fun e=>{e with key:=key.ab ρ π,val:=v.ab ρ π}).toArray clock) hb ?_ rfl
   ·rw[hl.n,hl.h];exact this
   ·classical
    let f:Value×Value->Value×Value:=fun x=>if x.1=key.ab ρ π then(x.1,v.ab ρ π)else x
    have g1:∀ x:Value×Value,x.1=key.ab ρ π->f x=(x.1,v.ab ρ π):=fun x hx=>by simp[f,hx]
    have g2:∀ x:Value×Value,x.1≠key.ab ρ π->f x=x:=fun x hx=>by simp[f,hx]
    have q1:=CD (ρ:=ρ) (π:=π) v es m key' u e2 h3 f (fun x hx=>g1 x (hx.trans e3)) (fun x hx=>g2 x (fun e'=>hx (e'.trans e3.symm)));have q2:=Bh (key.ab ρ π) (v.ab ρ π) (fun e=>{e with key:=key.ab ρ π,val:=v.ab ρ π}) (fun _ _=>⟨rfl,rfl⟩) ms j2 e f2 f3 hkp f g1 g2;have hj:j=m:=by omega
    subst hj;refine⟨_,clock,rfl,?_,?_⟩
    ·show(SN _).Perm _;rw[q1,q2];exact h2.map f
    ·rw[q1,List.map_map];have:((fun x:Value×Value=>x.1) ∘ f)=fun x=>x.1:=by
      funext x;simp only[Function.comp,f];split<;>rfl
     rw[this];exact h3
 ·simp only[R.ag,qqk,qqv]at h;obtain⟨rfl,rfl⟩:=h;have hm:=oe hfits ms 0 (fun y hy=>hmiss rfl y ((h2.map (·.1)).mem_iff.1 hy));refine⟨rfl,hl.pc,hl.n,{w with heap:=w.heap.setIfInBounds (π b).1 (.map (ms++[({key:=key.ab ρ π,val:=v.ab ρ π,born:=clock}:MapEntry)]).toArray (clock+1))},?_,?_⟩
  ·simp only[Instr.mapUpdate,Sem.run_bind,run_underlying hu,Result.andThen_ok,run_getObj_map h1,jI hkk.under hfits,Instr.findKey,run_underlying hkk.under,hm,Sem.run_pure,hset];simp
  ·have:=Mv.turn hr st.n (o':=.map (es++[(key,v)])) (ob:=.map (ms++[({key:=key.ab ρ π,val:=v.ab ρ π,born:=clock}:MapEntry)]).toArray (clock+1)) hb ?_ rfl
   ·rw[hl.n,hl.h];exact this
   ·refine⟨_,_,rfl,?_,?_⟩
    ·simp only[entriesOf,List.map_append,List.map_cons,List.map_nil];exact h2.append_right _
    ·simp only[entriesOf,List.map_append,List.map_cons,List.map_nil];rw[List.pairwise_append];refine⟨h3,by simp,?_⟩;intro x hx y hy;simp only[qq4]at hy;subst hy;exact mO (hmiss rfl x hx)
theorem EV{t:TypeId}{p q s:Operand}(c:Ctx P cx ρ π st.h w tm a)(hpc:ai ρ st.pc)(ho:o.op=.mapUpdate t p q s\/o.op=.insert t p q s)
  (h:(kB cx tm st t p q s).ag ρ=some (r,st')):aD P cx tm ρ π st st' w ((execOp a.eval o).run P w) r:=by
 unfold kB at h;split at h
 ·rename_i x key v ex ey ez;have hx:=a7 c ex;have hy:=a7 c ey;have hz:=a7 c ez;unfold ml at h;split at h
  ·rename_i td hd;have hk:=c.tt t td hd;split at h
   ·rename_i keyT elem hdd;have hu:=hk.under;rw[hdd]at hu;split at h
    ·rename_i kd hkd;have hkk:=c.tt keyT kd hkd;split at h
     ·rename_i hfit;have hfits:=BF (ρ:=ρ) (π:=π) hfit;split at h
      ·rename_i b;split at h
       ·rename_i es hb;obtain⟨st1,res,hl,hk2,hit,hmiss⟩:=mZ (ρ:=ρ) (π:=π) es 0 st hpc h;obtain⟨rfl,g1,g2,w',g3,g4⟩:=Pa c.rep hu hkk hfits hb hl hk2 hit hmiss;refine⟨g1,by rw[g2];exact qq2 _,fun _=>⟨w',?_,g4⟩⟩;rcases ho with ho|ho<;>simp only[execOp,ho,hx,hy,hz,V.ab,Sem.run_bind,g3,Result.andThen_ok,Sem.run_pure]
       ·simp[R.ag]at h
      ·simp[R.ag]at h
     ·simp[R.ag]at h
    ·simp[R.ag]at h
   ·simp[R.ag]at h
  ·simp[R.ag]at h
 ·simp[R.ag]at h
end ops
theorem Eo(m:Nat):∀ (r c:Nat),Builtin.growBy m r c+200<=2 ^ r*(c+200)
 |0,c=>by simp[Builtin.growBy]
 |r+1,c=>by
  unfold Builtin.growBy;split
  ·have:1*(c+200)<=2 ^ (r+1)*(c+200):=qq7 _ Nat.one_le_two_pow;omega
  ·have h1:=Eo m r (c+(c+768) / 4);have h2:c+(c+768) / 4+200<=2*(c+200):=by omega
   have h3:2 ^ r*(c+(c+768) / 4+200)<=2 ^ r*(2*(c+200)):=Nat.mul_le_mul_left _ h2;have h4:2 ^ r*(2*(c+200))=2 ^ (r+1)*(c+200):=by rw[Nat.pow_succ,Nat.mul_assoc]
   omega
theorem B2(need c bytes:Nat) (h:(need+c+1)*(bytes+1)<=2000000000):¬(Builtin.nextslicecap need c*bytes > 2 ^ 48):=by
 have h1:Builtin.nextslicecap need c<=need+16*c+3200:=by
  unfold Builtin.nextslicecap;split
  ·omega
  ·split
   ·omega
   ·have:=Eo need 4 c;omega
 have h2:Builtin.nextslicecap need c*bytes<=(need+16*c+3200)*bytes:=qq7 _ h1;have h3:(need+16*c+3200)*bytes<=3200*((need+c+1)*(bytes+1)):=by
  have e1:(need+16*c+3200)<=3200*(need+c+1):=by omega
  have e2:(need+16*c+3200)*bytes<=(3200*(need+c+1))*(bytes+1):=Nat.mul_le_mul e1 (by omega);rw[Nat.mul_assoc]at e2;exact e2
 omega
theorem Q9(l:List UInt8):(⟨l.toArray⟩:ByteArray).size=l.length:=by simp[ByteArray.size]
section ops
variable {P:Program} {cx:Cx} {ρ:Env} {π:Pl} {w:World} {tm:List V} {a:Act} {st st':St} {r:OR} {o:Oper}
theorem dK.heap{h:H}{w':World}(hr:dK ρ π h w)(he:w'.heap=w.heap):dK ρ π h w':=⟨fun i o hi=>by rw[he];exact hr.obj i o hi,hr.inj⟩
theorem Mv.Ek{h h':H}{n n':Nat}{w1 w':World}(m:Mv ρ π h n w1 h' n' w')(he:w1.heap=w.heap)(hs:w1.tape=w.tape/\w1.os=w.os/\w1.output=w.output):Mv ρ π h n w h' n' w' where
 rep:=m.rep
 dom:=m.dom
 sub:=by rw[<-he];exact m.sub
 keep:=by rw[<-he];exact m.keep
 size:=by rw[<-he];exact m.size
 same:=⟨m.same.1.trans hs.1,m.same.2.1.trans hs.2.1,m.same.2.2.trans hs.2.2⟩
theorem uU{v:V}{n:Nat}(h:GO v=some n):(Builtin.lenOf (v.ab ρ π)).run P w=.ok n w:=by
 unfold GO at h;split at h
 ·simp only[qqk]at h;subst h;simp[V.ab,Builtin.lenOf]
 ·simp only[qqk]at h;subst h;simp[V.ab,X.den,Builtin.lenOf]
 ·simp only[qqk]at h;subst h;simp[V.ab,Builtin.lenOf]
 ·simp only[qqk]at h;subst h;simp[V.ab,Builtin.lenOf]
 ·simp only[qqk]at h;subst h;simp[V.ab,Builtin.lenOf,X.bF,Q9]
 ·simp at h
theorem lD{h:H}(hr:dK ρ π h w){size n:Nat}{v:V}{cs:List V}(e:kx h size n v=some cs):
  (Builtin.firstCells size n (v.ab ρ π)).run P w=.ok (V.ae ρ π cs).toArray w:=by
 unfold kx at e;split at e
 ·simp only[V.ab,Builtin.firstCells];exact(lP hr e).1
 ·simp only[qqk]at e;subst e;simp[V.ab,Builtin.firstCells,V.ae]
 ·split at e
  ·simp only[qqk]at e;subst e;simp[V.ab,Builtin.firstCells,V.ae,loadCells,loadCellsFrom]
  ·cases e
 ·simp only[V.ab,Builtin.firstCells];exact(acU hr e).1
 ·rename_i l;simp only[qqk]at e;subst e;simp only[V.ab,Builtin.firstCells,Sem.run_pure,X.bF];congr 1;apply Array.ext';rw[Array.toList_map,Lib.extract_data];show List.map _ (((l.map UInt8.ofNat).toArray.toList.drop 0).take (n-0))=_;simp only[List.drop_zero,Nat.sub_zero,aU,List.map_map,<-List.map_take];apply qz5;intro x _;simp[V.ab,X.den,UInt8.toNat_ofNat']
 ·simp at e
theorem Fq{α:Type}:∀ (l:List α),takeN l.length l=some l
 |[]=>rfl
 |a::l=>by simp[takeN,Fq l]
theorem Mv.move{h:H}(hr:dK ρ π h w){n b:Nat}{o o':ak}{ob:Obj}(hb:h.get b=some o) (hn:(π n).1=(π b).1) (ho:o'.is ρ π n ob) (hz:o.bg=false):
  Mv ρ π h n w ((h.drop b).set n o') (n+1) {w with heap:=w.heap.setIfInBounds (π b).1 ob}:=by
 obtain⟨ob0,h1,_⟩:=hr.obj b o hb;have hlt:(π b).1<w.heap.size:=(qq6.1 h1).1;have hget:∀ i x,n≠i->((h.drop b).set n o').get i=some x->h.get i=some x/\b≠i:=by
  intro i x e hi;rw[T.aB _ _ e]at hi;by_cases eb:b=i
  ·subst eb;rw[T.mh]at hi;simp at hi
  ·rw[T.lJ _ eb]at hi;exact⟨hi,eb⟩
 refine⟨⟨?_,?_⟩,?_,?_,?_,?_,⟨rfl,rfl,rfl⟩⟩
 ·intro i x hi;by_cases e:n=i
  ·subst e;rw[T.aP]at hi;cases hi;exact⟨ob,by rw[hn];simp[hlt],ho⟩
  ·obtain⟨hi2,eb⟩:=hget i x e hi;obtain⟨x',h2,h3⟩:=hr.obj i x hi2;refine⟨x',?_,h3⟩;have:(π b).1≠(π i).1:=fun e'=>(hr.inj b i _ _ hb hi2 e').elim eb fun h=>by rw[hz]at h;cases h.1
   rw[<-h2];simp only[Array.getElem?_setIfInBounds];rw[if_neg this]
 ·intro i j x y hi hj he;by_cases e:n=i
  ·by_cases e':n=j
   ·exact .inl (by rw[<-e,<-e'])
   ·obtain⟨hj2,eb⟩:=hget j y e' hj;subst e;exact((hr.inj b j _ _ hb hj2 (by rw[<-hn,he])).elim eb fun h=>by rw[hz]at h;cases h.1).elim
  ·obtain⟨hi2,eb⟩:=hget i x e hi;by_cases e':n=j
   ·subst e';exact((hr.inj b i _ _ hb hi2 (by rw[<-hn,he])).elim eb fun h=>by rw[hz]at h;cases h.1).elim
   ·obtain⟨hj2,_⟩:=hget j y e' hj;exact hr.inj i j _ _ hi2 hj2 he
 ·intro i x hi;by_cases e:n=i
  ·exact .inr (by omega)
  ·exact .inl ⟨x,(hget i x e hi).1⟩
 ·intro i x hi;by_cases e:n=i
  ·subst e;exact .inr ⟨b,o,hb,hn.symm,fun q=>by rw[hz]at q;cases q⟩
  ·exact .inr ⟨i,x,(hget i x e hi).1,rfl,id⟩
 ·intro j hj hne;simp only[Array.getElem?_setIfInBounds];rw[if_neg fun e=>by have:=hne b o hb e;rw[hz]at this;cases this]
 ·simp
theorem dZ{cl:Call}{b:Builtin}{args:List V}(ho:o.op=.call cl)(hb:cl.callee=.builtin b)(ha:cl.args.toList.map a.eval=V.ae ρ π args):
  ∃ consts,(execOp a.eval o).run P w=(builtin b cl.argTypes o.type consts (V.ae ρ π args).toArray).run P w:=by
 refine⟨cl.args.map fun|.const _=>true|_=>false,?_⟩;simp only[execOp,ho,resolve,hb,ra,ha,Sem.run_bind,Sem.run_pure,Result.andThen_ok,invoke];rfl
theorem ans{cl:Call}{args:List V}(c:Ctx P cx ρ π st.h w tm a)(hpc:ai ρ st.pc)(ho:o.op=.call cl)(hb:cl.callee=.builtin .len)(ha:cl.args.toList.map a.eval=V.ae ρ π args)
  (h:(PI cx st cl.argTypes.toList args).ag ρ=some (r,st')):aD P cx tm ρ π st st' w ((execOp a.eval o).run P w) r:=by
 have hl:=cG.refl hpc;obtain⟨consts,hrun⟩:=dZ (P:=P) (w:=w) ho hb ha;unfold PI at h;split at h
 ·rename_i t ts x xs hts;have ht0:cl.argTypes[0]?=some t:=by rw[<-Array.getElem?_toList,hts];rfl
  have key:∀ u:V,(Builtin.len_ cl.argTypes o.type (V.ae ρ π (x::xs)).toArray).run P w=.ok (u.ab ρ π) w->(execOp a.eval o).run P w=.ok (.value (u.ab ρ π)) w:=by
   intro u hu;rw[hrun];simp[builtin,hu]
  split at h
  ·rename_i td hd;have hk:=c.tt t td hd;have hu:=hk.under;split at h
   ·rename_i y hdd;rw[hdd]at hu;refine aD.value c.rep hl h (key _ ?_);simp[Builtin.len_,ht0,V.ae,run_underlying hu,V.ab,xL,Q9,goInt]
   ·rename_i n e y hdd;rw[hdd]at hu;refine aD.value c.rep hl h (key _ ?_);simp[Builtin.len_,ht0,V.ae,run_underlying hu,V.ab,X.den,goInt]
   ·rename_i y arr hdd;rw[hdd]at hu;split at h
    ·rename_i ad had;have hka:=c.tt arr ad had;have hua:=hka.under;split at h
     ·rename_i n e hdd2;rw[hdd2]at hua;refine aD.value c.rep hl h (key _ ?_);simp[Builtin.len_,ht0,V.ae,run_underlying hu,run_underlying hua,V.ab,X.den,goInt]
     ·simp[R.ag]at h
    ·simp[R.ag]at h
   ·rename_i e b off n cp hdd;rw[hdd]at hu;refine aD.value c.rep hl h (key _ ?_);simp[Builtin.len_,ht0,V.ae,run_underlying hu,V.ab,X.den,goInt]
   ·rename_i e hdd;rw[hdd]at hu;refine aD.value c.rep hl h (key _ ?_);simp[Builtin.len_,ht0,V.ae,run_underlying hu,V.ab,X.den,goInt]
   ·rename_i e b off l z hdd;rw[hdd]at hu;refine aD.value c.rep hl h (key _ ?_);simp[Builtin.len_,ht0,V.ae,run_underlying hu,V.ab,X.den,goInt]
   ·rename_i e b off n cp hdd;rw[hdd]at hu;obtain⟨st1,hl1,h1⟩:=ah hpc h;rw[dF]at h1;split at h1
    ·rename_i hle;have hle':=of_decide_eq_true hle;simp only[X.den]at hle';refine aD.value c.rep hl1 h1 (key _ ?_);simp[Builtin.len_,ht0,V.ae,run_underlying hu,V.ab,goInt];omega
    ·simp[R.ag]at h1
   ·rename_i k e hdd;rw[hdd]at hu;refine aD.value c.rep hl h (key _ ?_);simp[Builtin.len_,ht0,V.ae,run_underlying hu,V.ab,X.den,goInt]
   ·rename_i k e b hdd;rw[hdd]at hu;split at h
    ·rename_i es hb;obtain⟨ms,clock,h1,h2,_⟩:=c.rep.NZ hb;have hlen:ms.length=es.length:=by
      have:=h2.length_eq;simpa[entriesOf]using this
     refine aD.value c.rep hl h (key _ ?_);simp[Builtin.len_,ht0,V.ae,run_underlying hu,V.ab,X.den,goInt,run_getObj_map h1,hlen]
    ·simp[R.ag]at h
   ·simp[R.ag]at h
  ·simp[R.ag]at h
 ·simp[R.ag]at h
theorem Qb{gt:Bool}{x y z:V}(h:Kx gt x y=some z):(if gt then Builtin.max2 (x.ab ρ π) (y.ab ρ π)else Builtin.min2 (x.ab ρ π) (y.ab ρ π)).run P w=.ok (z.ab ρ π) w:=by
 unfold Kx at h;split at h
 ·split at h
  ·rename_i hk;simp only[qqk]at h;subst h;cases gt
   ·simp only[V.ab,qqj,if_false,Builtin.min2,Sem.run_pure,gY,mu,decide_eq_true_eq]
   ·simp only[V.ab,if_true,Builtin.max2,Sem.run_pure,gY,mu,decide_eq_true_eq,gt_iff_lt]
  ·simp at h
 ·simp at h
theorem Qc{gt:Bool}:∀ {l:List V} {x z:V},Nh gt x l=some z->((V.ae ρ π l).foldlM (if gt then Builtin.max2 else Builtin.min2) (x.ab ρ π)).run P w=.ok (z.ab ρ π) w
 |[],x,z,h=>by simp only[Nh,qqk]at h;subst h;simp[V.ae]
 |y::l,x,z,h=>by
  simp only[Nh]at h;split at h
  ·rename_i c hc;have:=Qb (P:=P) (ρ:=ρ) (π:=π) (w:=w) hc;have e:((if gt then Builtin.max2 else Builtin.min2) (x.ab ρ π) (y.ab ρ π)).run P w=.ok (c.ab ρ π) w:=by
    rw[<-this];cases gt<;>rfl
   rw[V.ae,List.foldlM_cons,Sem.run_bind,e,Result.andThen_ok];exact Qc h
  ·simp at h
theorem Wr{gt:Bool}{cl:Call}{x:V}{l:List V}{s:String}(c:Ctx P cx ρ π st.h w tm a)(hpc:ai ρ st.pc)(ho:o.op=.call cl) (hb:cl.callee=.builtin (if gt then .max else .min)) (ha:cl.args.toList.map a.eval=V.ae ρ π (x::l))
  (h:(gA st (Nh gt x l) s).ag ρ=some (r,st')):aD P cx tm ρ π st st' w ((execOp a.eval o).run P w) r:=by
 obtain⟨consts,hrun⟩:=dZ (P:=P) (w:=w) ho hb ha;refine aD.gA c.rep (.refl hpc) h fun u hu=>?_
 rw[hrun];have:=Qc (P:=P) (ρ:=ρ) (π:=π) (w:=w) hu;cases gt
 ·simp only[qqj,if_false]at this ⊢;simp[builtin,Builtin.min_,V.ae,this]
 ·simp only[if_true]at this ⊢;simp[builtin,Builtin.max_,V.ae,this]
theorem EZ{k:IntKind}{b x y:X}:(V.int k (mkIte b x y)).ab ρ π=(V.int k (match b.tt ρ with
  |true=>x
  |false=>y)).ab ρ π:=by
 simp only[V.ab,gY];generalize b.tt ρ=t;cases t<;>simp
theorem KR{gt:Bool}{cl:Call}{x:V}{l:List V}{s:String}(c:Ctx P cx ρ π st.h w tm a)(hpc:ai ρ st.pc)(ho:o.op=.call cl) (hb:cl.callee=.builtin (if gt then .max else .min)) (ha:cl.args.toList.map a.eval=V.ae ρ π (x::l))
  (h:(PJ st gt x l s).ag ρ=some (r,st')):aD P cx tm ρ π st st' w ((execOp a.eval o).run P w) r:=by
 unfold PJ at h;split at h
 ·rename_i k x j y _;split at h
  ·rename_i hk;obtain rfl:=a9 hk;obtain⟨consts,hrun⟩:=dZ (P:=P) (w:=w) ho hb ha;obtain⟨st1,hl1,h1⟩:=ah hpc h;refine aD.value c.rep hl1 h1 ?_;rw[hrun];have hz:Kx gt (.int k x) (.int k y)=some (.int k (if gt then mkIte (mkLt x y) y x else mkIte (mkLt y x) y x)):=by simp[Kx,hk]
   have:=Qb (P:=P) (ρ:=ρ) (π:=π) (w:=w) hz;cases gt
   ·simp only[qqj,if_false]at this ⊢;rw[EZ]at this;simp[builtin,Builtin.min_,V.ae,this];cases(mkLt y x).tt ρ<;>rfl
   ·simp only[if_true]at this ⊢;rw[EZ]at this;simp[builtin,Builtin.max_,V.ae,this];cases(mkLt x y).tt ρ<;>rfl
  ·exact Wr c hpc ho hb ha h
 ·exact Wr c hpc ho hb ha h
theorem abY{cl:Call}{args:List V}(c:Ctx P cx ρ π st.h w tm a)(hpc:ai ρ st.pc)(ho:o.op=.call cl)(hb:cl.callee=.builtin .copy)(ha:cl.args.toList.map a.eval=V.ae ρ π args)
  (h:(NA cx st cl.argTypes.toList args).ag ρ=some (r,st')):aD P cx tm ρ π st st' w ((execOp a.eval o).run P w) r:=by
 have hl:=cG.refl hpc;obtain⟨consts,hrun⟩:=dZ (P:=P) (w:=w) ho hb ha;unfold NA at h;split at h
 ·rename_i t ts d x xs hts;have ht0:cl.argTypes[0]?=some t:=by rw[<-Array.getElem?_toList,hts];rfl
  split at h
  ·rename_i td hd;have hk:=c.tt t td hd;have hu:=hk.under;split at h
   ·rename_i elem hdd;rw[hdd]at hu;split at h
    ·rename_i ed dl xl hed hdl hxl;have hke:=c.tt elem ed hed;simp only at h;split at h
     ·simp[R.ag]at h
     ·rename_i cs hcs;have h1:=uU (P:=P) (ρ:=ρ) (π:=π) (w:=w) hxl;have h2:=lD (P:=P) (ρ:=ρ) (π:=π) c.rep hcs;split at h
      ·refine aD.value c.rep hl h ?_;rw[hrun];simp only[GO,qqk]at hdl;subst hdl;rw[Nat.min_zero]at h2;simp[builtin,Builtin.copy_,ht0,V.ae,run_underlying hu,V.ab,h1,hke.aQ,h2,X.den,goInt]
      ·rename_i b off n2 cp;simp only[GO,qqk]at hdl;subst hdl;split at h
       ·rename_i h' hp;simp only[bA,R.ag,qqk,qqv]at h;obtain⟨rfl,rfl⟩:=h;obtain⟨w',g1,g2⟩:=g8 (P:=P) c.rep hp st.n;refine⟨hpc,qq2 _,fun _=>⟨w',?_,g2⟩⟩;rw[hrun];simp[builtin,Builtin.copy_,ht0,V.ae,run_underlying hu,V.ab,h1,hke.aQ,h2,X.den,goInt,g1]
       ·simp[R.ag]at h
      ·simp[R.ag]at h
    ·simp[R.ag]at h
   ·simp[R.ag]at h
  ·simp[R.ag]at h
 ·simp[R.ag]at h
theorem o6{ρ:Env}{π:Pl}(z:List V)(n:Nat):Builtin.zeroCells (V.ae ρ π z).toArray n=(V.ae ρ π (b7 z n)).toArray:=by
 unfold Builtin.zeroCells;rw[show(V.ae ρ π z).toArray.size=z.length by simp[au]];have:=C6 ρ π z n;rw[show(V.ae ρ π z).toArray.size=z.length by simp[au]]at this;exact this
theorem FM{cl:Call}{T:TypeId}{t u:TypeId}{elem:TypeId}{td ud ed:TD} (ht0:cl.argTypes[0]?=some t) (ht1:cl.argTypes[1]?=some u) (hk:iO P t td) (hku:iO P u ud) (hke:iO P elem ed)
  (hdd:td.d=.slice elem) (hud:∀ k,ud.d≠.int k) {h:H} (hr:dK ρ π h w) {x:V} {xs:List V} {base:Option Addr} {sLen sCap n:Nat} {old new:List V} (hx:GO x=some n) (hnew:kx h ed.size n x=some new)
  (hold:∀ w':World,w'.heap=w.heap->(Builtin.firstCells ed.size sLen (.slice base sLen sCap)).run P w'=.ok (V.ae ρ π old).toArray w')
  (hgt:¬sLen+n<=sCap) (hsmall:(sLen+n+sCap+1)*(ed.bytes+1)<=2000000000):
  ∃ (cap:Nat) (w1:World),sLen+n<=cap/\w1.heap=w.heap/\(w1.tape=w.tape/\w1.os=w.os/\w1.output=w.output) /\
   (Builtin.append_ cl.argTypes T (Value.slice base sLen sCap::V.ae ρ π (x::xs)).toArray).run P w =
    .ok (.slice (some ⟨w.heap.size,0,none⟩) (sLen+n) cap) {w1 with heap:=w1.heap.push (.cells (V.ae ρ π (old++new)++V.ae ρ π (b7 ed.zero (cap-(sLen+n)))).toArray elem (0,0))}:=by
 have hu:=hk.under;rw[hdd]at hu;obtain⟨i,hi,hsz,hby,_⟩:=hke.info;have hti:∀ w:World,(typeInfo elem).run P w=.ok i w:=fun w=>by simp[typeInfo,hi]
 have hneed:sLen+n<=2000000000:=by
  have:(sLen+n+sCap+1)*1<=(sLen+n+sCap+1)*(ed.bytes+1):=Nat.mul_le_mul_left _ (by omega);omega
 have hcap:=B2 (sLen+n) sCap ed.bytes hsmall;let q:Question:=.appendCap (sLen+n) sCap elem;let w1:World:={w with drawn:=w.drawn+1}
 have hch:(choose q).run P w=.ok (q.cut (w.tape w.drawn q)) w1:=by
  simp[choose,Sem.run,q,Question.forced,w1]
 have hle:sLen+n<=q.cut (w.tape w.drawn q):=by simp[q,Question.cut]
 have hroom:∀ (m:Nat) (w:World),(askRoom m).run P w=.ok () w:=by
  intro m w;unfold askRoom;split<;>simp[mark,Sem.run]
 refine⟨q.cut (w.tape w.drawn q),w1,hle,rfl,⟨rfl,rfl,rfl⟩,?_⟩;have hr1:dK ρ π h w1:=hr.heap rfl;obtain⟨z,hz,hzc,_⟩:=fe hke w1 ρ π;have hzeros:(underlying u).run P w=.ok ud.d w:=hku.cR w;have hnz:(match ud.d with|.int _=>true|_=>false)=false:=by
  cases hq:ud.d<;>first|rfl|exact absurd hq (hud _)
 have hmx:¬(((sLen+n:Nat):Int) > IntKind.i64.max):=by rw[IntKind.max_i64];omega
 have hh1:=uU (P:=P) (ρ:=ρ) (π:=π) (w:=w) hx;have hh2:=lD (P:=P) (ρ:=ρ) (π:=π) hr1 hnew;have hm:∀ (al be:Bool),(match ud.d with|.int _=>al|_=>be)=be:=by
  intro al be;cases hq:ud.d<;>first|rfl|exact absurd hq (hud _)
 simp only[Builtin.append_,ht0,ht1,V.ae,List.getElem?_toArray,List.getElem?_cons_zero,List.getElem?_cons_succ,Sem.run_bind,run_underlying hu,Result.andThen_ok,hke.aQ,hzeros,Sem.run_pure];have hold1:=hold w1 rfl;have hch':(choose (Question.appendCap (sLen+n) sCap elem)).run P w=.ok (q.cut (w.tape w.drawn q)) w1:=hch;simp only[qqj,if_false,Bool.not_false,if_true,Sem.run_bind,hh1,Result.andThen_ok,if_neg hgt,hti,hmx,false_and,hby,hcap,hch',hroom,hold1,hh2,hz,hzc,o6];simp only[newRow,Go.newObj,Sem.run_bind,Sem.run,Result.andThen_ok,Sem.run_pure];simp only[aW,List.append_toArray];rfl
theorem Wm{cl:Call}{args:List V}(c:Ctx P cx ρ π st.h w tm a)(hpc:ai ρ st.pc)(ho:o.op=.call cl)(hb:cl.callee=.builtin .clear)(ha:cl.args.toList.map a.eval=V.ae ρ π args)
  (h:(Gb cx st cl.argTypes.toList args).ag ρ=some (r,st')):aD P cx tm ρ π st st' w ((execOp a.eval o).run P w) r:=by
 have hl:=cG.refl hpc;obtain⟨consts,hrun⟩:=dZ (P:=P) (w:=w) ho hb ha;unfold Gb at h;split at h
 ·rename_i t ts x xs hts;have ht0:cl.argTypes[0]?=some t:=by rw[<-Array.getElem?_toList,hts];rfl
  split at h
  ·rename_i td hd;have hk:=c.tt t td hd;have hu:=hk.under;split at h
   ·rename_i elem b off n cp hdd;rw[hdd]at hu;split at h
    ·rename_i ed hed;have hke:=c.tt elem ed hed;obtain⟨z,hz,hzc,_⟩:=fe hke w ρ π;split at h
     ·refine aD.value c.rep hl h ?_;rw[hrun];simp[builtin,Builtin.clear_,ht0,V.ae,run_underlying hu,V.ab]
     ·rename_i m;split at h
      ·rename_i h' hp;simp only[bA,R.ag,qqk,qqv]at h;obtain⟨rfl,rfl⟩:=h;obtain⟨w',g1,g2⟩:=g8 (P:=P) c.rep hp st.n;refine⟨hpc,qq2 _,fun _=>⟨w',?_,g2⟩⟩;rw[hrun];simp[builtin,Builtin.clear_,ht0,V.ae,run_underlying hu,V.ab,hz,hzc,o6,g1]
      ·simp[R.ag]at h
    ·simp[R.ag]at h
   ·simp[R.ag]at h
  ·simp[R.ag]at h
 ·simp[R.ag]at h
theorem SE{cl:Call}{args:List V}(c:Ctx P cx ρ π st.h w tm a)(hpc:ai ρ st.pc)(ho:o.op=.call cl)(hb:cl.callee=.builtin .append)(ha:cl.args.toList.map a.eval=V.ae ρ π args)
  (h:(AW cx st cl.argTypes.toList args).ag ρ=some (r,st')):aD P cx tm ρ π st st' w ((execOp a.eval o).run P w) r:=by
 have hl:=cG.refl hpc;obtain⟨consts,hrun⟩:=dZ (P:=P) (w:=w) ho hb ha;unfold AW at h;split at h
 ·rename_i t u ts s x xs hts;have ht0:cl.argTypes[0]?=some t:=by rw[<-Array.getElem?_toList,hts];rfl
  have ht1:cl.argTypes[1]?=some u:=by rw[<-Array.getElem?_toList,hts];rfl
  split at h
  ·rename_i td ud hd hud;have hk:=c.tt t td hd;have hku:=c.tt u ud hud;split at h
   ·simp[R.ag]at h
   ·rename_i elem hdd hni;split at h
    ·simp[R.ag]at h
    ·rename_i ed hed;have hke:=c.tt elem ed hed;split at h
     ·simp[R.ag]at h
     ·rename_i n hn;split at h
      ·simp[R.ag]at h
      ·rename_i new hnew;split at h
       ·simp[R.ag]at h
       ·rename_i hsz;have hsz':=qqq hsz;have hlx:=uU (P:=P) (ρ:=ρ) (π:=π) (w:=w) hn;have hex:=lD (P:=P) (ρ:=ρ) (π:=π) c.rep hnew;have hu:=hk.under;rw[hdd]at hu;have hniz:∀ k,ud.d≠.int k:=fun k e=>hni k e
        -- a new, wide block
        have wide:∀ (base:Option Addr) (sLen sCap:Nat) (old:List V) (hs:s.ab ρ π=.slice base sLen sCap) (hold:∀ w':World,w'.heap=w.heap->(Builtin.firstCells ed.size sLen (.slice base sLen sCap)).run P w'=.ok (V.ae ρ π old).toArray w')
          (hol:old.length=sLen*ed.size) (hgt:¬sLen+n<=sCap) (hsmall:(sLen+n+sCap+1)*(ed.bytes+1)<=2000000000) (hd:H) (hsub:∀ i o,hd.get i=some o->st.h.get i=some o)
          (h:R.ag ρ (bA (newObj {st with h:=hd} (.cells (old++new) elem (some ed.size))) (.slice st.n 0 (sLen+n) (.room st.n 0 (sLen+n))))=some (r,st')),aD P cx tm ρ π st st' w ((execOp a.eval o).run P w) r:=by
         intro base sLen sCap old hs hold hol hgt hsmall hd hsub h;simp only[bA,R.ag,qqk,qqv]at h;obtain⟨rfl,rfl⟩:=h;obtain⟨cap,w1,hle,hw1,hw2,hap⟩:=FM (T:=o.type) (xs:=xs) ht0 ht1 hk hku hke hdd hniz c.rep hn hnew hold hgt hsmall;rw[<-hs]at hap;have hfull:(execOp a.eval o).run P w=.ok (.value (.slice (some ⟨w.heap.size,0,none⟩) (sLen+n) cap)) {w1 with heap:=w1.heap.push (.cells (V.ae ρ π (old++new)++V.ae ρ π (b7 ed.zero (cap-(sLen+n)))).toArray elem (0,0))}:=by
          rw[hrun];simp only[builtin,V.ae,Sem.run_bind]at hap ⊢;rw[hap];rfl
         refine⟨hpc,by simp[newObj],fun hpl=>?_⟩;have hpl':=hpl (by simp[newObj]);rw[hfull]at hpl';simp only[nS]at hpl';refine⟨_,by rw[hfull];simp only[V.ab,Cp.ab,hpl',Nat.sub_zero,Nat.max_eq_left hle];rfl,?_⟩;have hr1:dK ρ π hd w1:=⟨fun i o hi=>by rw[hw1];exact c.rep.obj i o (hsub i o hi),fun i j o o' hi hj=>c.rep.inj i j o o' (hsub i o hi) (hsub j o' hj)⟩
         have m:=Mv.new (n:=st.n) (o:=.cells (old++new) elem (some ed.size)) (ob:=.cells (V.ae ρ π (old++new)++V.ae ρ π (b7 ed.zero (cap-(sLen+n)))).toArray elem (0,0)) hr1 (by rw[hpl',hw1]) ⟨_,rfl,by
          simp only[C2,au,fS,hke.len,qq9,hsz',hol,hpl'];rw[<-qk0,<-qk0];congr 1;omega⟩
         have m2:=m.Ek (w:=w) hw1 hw2;exact⟨m2.rep,fun i o hi=>(m2.dom i o hi).imp_left fun⟨o0,h0⟩=>⟨o0,hsub i o0 h0⟩,fun i o hi=>(m2.sub i o hi).imp_right fun⟨i0,o0,h0,e,z⟩=>⟨i0,o0,hsub i0 o0 h0,e,z⟩,
          fun j hj hne=>m2.keep j hj fun i o hi=>hne i o (hsub i o hi),m2.size,m2.same⟩
        split at h
        ·-- nil
         split at h
         ·rename_i hn0;have hn0':=qqq hn0;subst hn0';refine aD.value c.rep hl h ?_;rw[hrun];simp[builtin,Builtin.append_,ht0,ht1,V.ae,V.ab,run_underlying hu,hke.aQ,hku.cR,hlx,hex]
         ·rename_i hn0;split at h
          ·rename_i hsm;have hsm':=qqx hsm;have hne:n≠0:=fun e=>hn0 (by rw[e];rfl)
           have h':R.ag ρ (bA (newObj {st with h:=st.h} (.cells ([]++new) elem (some ed.size))) (.slice st.n 0 (0+n) (.room st.n 0 (0+n))))=some (r,st'):=by simpa using h
           exact wide none 0 0 [] rfl (fun w' _=>by simp[Builtin.firstCells,V.ae]) (by simp) (by omega) (by simp only[qk7,Nat.add_zero];omega) st.h (fun _ _ h=>h) h'
          ·simp[R.ag]at h
        ·rename_i b off len cc;split at h
         ·rename_i hfit;have hfit':=qqx hfit;split at h
          ·rename_i h' hp;simp only[bA,R.ag,qqk,qqv]at h;obtain⟨rfl,rfl⟩:=h;obtain⟨w',g1,g2⟩:=g8 (P:=P) c.rep hp st.n;refine⟨hpc,qq2 _,fun _=>⟨w',?_,g2⟩⟩;rw[hrun];simp[builtin,Builtin.append_,ht0,ht1,V.ae,V.ab,Cp.ab,run_underlying hu,hke.aQ,hku.cR,hlx,hex,hfit',cd,g1]
          ·simp[R.ag]at h
         ·rename_i hfit;split at h
          ·rename_i hsm;have hsm':=qqx hsm;split at h
           ·rename_i old hold;have hgt:¬len+n<=cc:=fun e=>hfit (qkq e)
            exact wide _ len cc old rfl (fun w' hw'=>(lP (c.rep.heap hw') hold).1) (lP (P:=P) c.rep hold).2 hgt (by omega) st.h (fun _ _ h=>h) h
           ·simp[R.ag]at h
          ·simp[R.ag]at h
        ·rename_i b len b' lo;split at h
         ·rename_i hfit;have hfit':=qqx hfit;split at h
          ·rename_i h' hp;simp only[bA,R.ag,qqk,qqv]at h;obtain⟨rfl,rfl⟩:=h;obtain⟨w',g1,g2⟩:=g8 (P:=P) c.rep hp st.n;refine⟨hpc,qq2 _,fun _=>⟨w',?_,g2⟩⟩;have hfit2:len+n<=max (π b').2 lo:=qzq hfit' (Nat.le_max_right _ _);rw[hrun];simp[builtin,Builtin.append_,ht0,ht1,V.ae,V.ab,Cp.ab,run_underlying hu,hke.aQ,hku.cR,hlx,hex,hfit2,cd,g1]
          ·simp[R.ag]at h
         ·split at h
          ·rename_i cs e sz hbk;split at h
           ·rename_i hall;simp only[qqw]at hall;obtain⟨⟨⟨⟨⟨⟨⟨hb1,hb2⟩,hb3⟩,hb4⟩,hb5⟩,hb6⟩,hb7⟩,hb8⟩:=hall;have e1:=qqq hb1;have e2:=qqq hb2;have e3:=qqq hb3;have e4:=qqq hb4;have e5:=qqx hb5;subst e1 e2 e4;obtain⟨spare,hsp1,hsp2⟩:=c.rep.AL hbk;simp only[C2]at hsp2;have hlo:=qqx hb7;have hsz0:0<ed.size:=qqx hb8;have hlen:len<=(π b).2:=by
             have:len*ed.size<=(π b).2*ed.size:=by omega
             exact Nat.le_of_mul_le_mul_right this hsz0
            have hcap:max (π b).2 lo=(π b).2:=Nat.max_eq_left (by omega);by_cases hfit:len+n<=(π b).2
            ·simp only[bA,R.ag,qqk,qqv]at h;obtain⟨rfl,rfl⟩:=h;have hfits:len*ed.size+n*ed.size<=(π b).2*ed.size:=by
              rw[<-qk0];exact qq7 _ hfit
             have hst:=run_storeCells_at (P:=P) (π b).1 (len*ed.size) e (V.ae ρ π new) 0 _ w hsp1 (by simp only[List.size_toArray,qq9,au];omega) (fun v hv=>by
              rw[aU]at hv;obtain⟨u,hu,rfl⟩:=qzx.1 hv;exact vg ρ π u (sZ hb6 u hu))
             have hlt:(π b).1<w.heap.size:=(qq6.1 hsp1).1;have ew:w.setRow (π b).1 (List.take (len*ed.size+0) (V.ae ρ π cs++spare).toArray.toList++V.ae ρ π new++List.drop (len*ed.size+0+(V.ae ρ π new).length) (V.ae ρ π cs++spare).toArray.toList).toArray =
               {w with heap:=w.heap.setIfInBounds (π b).1 (.cells (V.ae ρ π (cs++new)++spare.drop new.length).toArray e (0,0))}:=by
              unfold World.setRow;congr 1;apply Array.ext_getElem?;intro j;simp only[Array.getElem?_modify,Array.getElem?_setIfInBounds];by_cases ej:(π b).1=j
              ·subst ej;simp only[if_true,hsp1,hlt,Option.map_some];congr 2;simp only[Nat.add_zero,au,aW];rw[List.take_append_of_le_length (by rw[au];omega),List.take_of_length_le (by rw[au];omega),List.drop_append,List.drop_of_length_le (by rw[au];omega)];simp only[List.nil_append,au];rw[show len*ed.size+new.length-cs.length=new.length by omega]
              ·simp[ej]
             rw[ew]at hst;have hfull:(execOp a.eval o).run P w=.ok (.value (.slice (some ⟨(π b).1,0,none⟩) (len+n) (π b).2)) {w with heap:=w.heap.setIfInBounds (π b).1 (.cells (V.ae ρ π (cs++new)++spare.drop new.length).toArray e (0,0))}:=by
              rw[hrun];simp[builtin,Builtin.append_,ht0,ht1,V.ae,V.ab,Cp.ab,hcap,run_underlying hu,hke.aQ,hku.cR,hlx,hex,hfit,cd,hst]
             refine⟨hpc,by simp[newObj],fun hpl=>?_⟩;have hpl':=hpl (by simp[newObj]);rw[hfull]at hpl';simp only[nS]at hpl';refine⟨_,by rw[hfull];simp only[V.ab,Cp.ab,hpl',Nat.sub_zero,Nat.max_eq_left hfit];rfl,?_⟩;exact Mv.move (o':=.cells (cs++new) e (some ed.size)) c.rep hbk (by rw[hpl']) ⟨_,rfl,by
              simp only[C2,qq9,qzv,hpl'];omega⟩ rfl
            ·have hold:cN st.h b 0 (len*ed.size)=some cs:=by
              simp only[cN,rowAt,hbk,cO,List.drop_zero];rw[<-e3];exact Fq cs
             refine wide _ len (π b).2 cs (by simp only[V.ab,Cp.ab,Nat.sub_zero,hcap];rfl) (fun w' hw'=>?_) e3 (by omega) ?_ (st.h.drop b) (fun i o hi=>?_) h
             ·exact(lP (c.rep.heap hw') hold).1
             ·have:(len+n+(π b).2+1)*(ed.bytes+1)<=(2*(len+n+1))*(ed.bytes+1):=qq7 _ (by omega);rw[Nat.mul_assoc]at this;omega
             ·by_cases eb:b=i
              ·subst eb;rw[T.mh]at hi;simp at hi
              ·rw[T.lJ _ eb]at hi;exact hi
           ·simp[R.ag]at h
          ·simp[R.ag]at h
        ·rename_i b off;split at h
         ·rename_i hn0;have hn0':=qqq hn0;subst hn0';obtain rfl:new=[]:=qzj (by omega);refine aD.value c.rep hl h ?_;rw[hrun];simp[builtin,Builtin.append_,ht0,ht1,V.ae,V.ab,X.den,run_underlying hu,hke.aQ,hku.cR,hlx,hex,storeCells]
         ·rename_i hn0;split at h
          ·rename_i hsm;have hsm':=qqx hsm;have hne:n≠0:=fun e=>hn0 (by rw[e];rfl)
           have h':R.ag ρ (bA (newObj {st with h:=st.h} (.cells ([]++new) elem (some ed.size))) (.slice st.n 0 (0+n) (.room st.n 0 (0+n))))=some (r,st'):=by simpa using h
           exact wide (some ((ρ.win b).add off)) 0 0 [] rfl (fun w' _=>by simp[Builtin.firstCells,V.ae,loadCells,loadCellsFrom]) (by simp) (by omega) (by simp only[qk7,Nat.add_zero];omega) st.h (fun _ _ h=>h) h'
          ·simp[R.ag]at h
        ·simp[R.ag]at h
   ·simp[R.ag]at h
  ·simp[R.ag]at h
 ·simp[R.ag]at h
theorem Nm(x:X):(UQ x).bF ρ=[UInt8.ofNat (x.den ρ).toNat]:=by
 cases x<;>first
  |rfl
  |(simp only[UQ,X.bF,X.den,List.map_cons,List.map_nil];congr 1;apply UInt8.toNat_inj.1;simp)
theorem MX:∀ {cs:List V} {r:X},Ft cs=some r->∃ ns:List Int,V.ae ρ π cs=ns.map (Value.int .u8)/\r.bF ρ=ns.map fun n=>UInt8.ofNat n.toNat
 |[],r,h=>by
  obtain rfl:=qqz h;exact⟨[],rfl,rfl⟩
 |v::l,r,h=>by
  unfold Ft at h;split at h
  ·rename_i x;split at h
   ·rename_i q hq;obtain rfl:=qqz h;obtain⟨ns,h1,h2⟩:=MX hq;exact⟨x.den ρ::ns,by simp[V.ae,V.ab,h1],by rw[tI,Nm,h2];rfl⟩
   ·cases h
  ·cases h
theorem acO{src dst e:TypeId} (hs:P.underlying src=some (.slice e)) (he:P.underlying e=some (.int .u8)) (hd:P.underlying dst=some .string) {h:H} (hr:dK ρ π h w) {x:V} {n:Nat} {cs:List V} {r:X}
  (hn:OQ x=some n) (hc:kx h 1 n x=some cs) (ht:Ft cs=some r):(convert src dst (x.ab ρ π)).run P w=.ok ((V.str r).ab ρ π) w:=by
 obtain⟨ns,h1,h2⟩:=MX (ρ:=ρ) (π:=π) ht;have h3:=lD (P:=P) hr hc;rw[h1]at h3;have fin:∀ (a:Addr) (cap:Nat),(loadCells a n).run P w=.ok (ns.map (Value.int .u8)).toArray w->(convert src dst (.slice (some a) n cap)).run P w=.ok ((V.str r).ab ρ π) w:=fun a cap hl=>by
  rw[run_convert_bytes_string w src dst e _ n cap hs he hd,run_bytesToString w _ n cap ns hl,foldl_push_bytes];simp only[V.ab,h2,ByteArray.empty,ByteArray.emptyWithCapacity];simp;rfl
 unfold OQ at hn;split at hn
 ·obtain rfl:=qqz hn;simp only[V.ab,Builtin.firstCells,Nat.mul_one]at h3 ⊢;exact fin _ _ h3
 ·obtain rfl:=qqz hn;simp only[V.ab,Builtin.firstCells,Nat.mul_one]at h3;exact fin _ _ h3
 ·obtain rfl:=qqz hn;simp only[kx,qqk]at hc;subst hc;simp only[Ft,qqk]at ht;subst ht;simp only[V.ab];rw[run_convert_bytes_string w src dst e _ 0 0 hs he hd];rfl
 ·cases hn
theorem Jz{ks:List CK}{t:Nat}{lo:X}{n:Nat} (hk:ks=[.int .u8]) {get:Nat->Option Value} {N:Nat} {a:A} (hr:ko ρ a ks N get) (h0:0<=lo.den ρ) (hle:(lo.den ρ).toNat+n<=N) (hu:∀ i:Int,lo.den ρ<=i->i<lo.den ρ+n->a.den ρ (.int .u8) 0 i=(CK.int .u8).sym ρ t 0 i) (j:Nat) (hj:j<n):
  get ((lo.den ρ).toNat+j)=some (.int .u8 (IntKind.u8.wrap (ρ.f1 t (lo.den ρ+(j:Int))))):=by
 subst hk;have:=hr ((lo.den ρ).toNat+j) 0 (.int .u8) (by omega) rfl;simp only[List.length_cons,List.length_nil,qk7,Nat.mul_one,Nat.add_zero]at this;have e:(((lo.den ρ).toNat+j:Nat):Int)=lo.den ρ+(j:Int):=by omega
 rw[this,e,hu _ (by omega) (by omega)];rfl
theorem CX{pc:PC}(hp:ai ρ pc){lo hi:X}{t:Nat}:∀ {a:A},a.under pc lo hi=some t->∀ (k:CK) (c:Nat) (i:Int),lo.den ρ<=i->i<hi.den ρ->a.den ρ k c i=k.sym ρ t c i
 |.base t',h,k,c,i,_,_=>by
  obtain rfl:=qqz h;rfl
 |.fill _,h,_,_,_,_,_=>by cases h
 |.put a j c' x,h,k,c,i,h1,h2=>by
  unfold A.under at h;split at h
  ·rename_i hlt;have:=tE hp hlt;rw[A.den,if_neg (by rintro⟨_,e⟩;omega)];exact CX hp h k c i h1 h2
  ·split at h
   ·rename_i hle;have:=eu hp hle;rw[A.den,if_neg (by rintro⟨_,e⟩;omega)];exact CX hp h k c i h1 h2
   ·cases h
theorem Wy{src dst:TypeId}{p:Operand}{wd:Bool}{b:Nat}{off len:X}{es:Nat}{cap:XC}(c:Ctx P cx ρ π st.h w tm a)(hpc:ai ρ st.pc)(ho:o.op=.convert src dst p) (hx:a.eval p=(V.xslice wd b off es len cap).ab ρ π)
  (h:(Fz cx st src dst wd b off es len).ag ρ=some (r,st')):aD P cx tm ρ π st st' w ((execOp a.eval o).run P w) r:=by
 unfold Fz at h;split at h
 ·rename_i hz;have hz':=gr ρ hz;split at h;rotate_left
  ·simp[R.ag]at h
  rename_i sd td hsd htd;have hs:=(c.tt src sd hsd).under;have hd:=(c.tt dst td htd).under;split at h;rotate_left
  ·simp[R.ag]at h
  rename_i elem hdd1 hdd2;rw[hdd1]at hs;rw[hdd2]at hd;split at h;rotate_left
  ·simp[R.ag]at h
  rename_i ed hed;have he:=(c.tt elem ed hed).under;split at h;rotate_left
  ·simp[R.ag]at h
  rename_i hde;rw[hde]at he;refine aD.value c.rep (.refl hpc) h ?_;have hn0:(len.den ρ).toNat=0:=by omega
  have hload:(loadCells (cU ρ π wd b ((off.den ρ).toNat*es)) 0).run P w=.ok (([]:List Int).map (Value.int .u8)).toArray w:=by simp[loadCells,loadCellsFrom]
  simp only[execOp,ho,hx,V.ab,Sem.run_bind,hn0];rw[run_convert_bytes_string w src dst elem _ 0 _ hs he hd,run_bytesToString w _ 0 _ [] hload,foldl_push_bytes];simp only[ByteArray.empty,ByteArray.emptyWithCapacity,Result.andThen_ok,Sem.run_pure,X.bF];rfl
 split at h
 ·rename_i sd td a0 ks L hsd htd hrow;have hs:=(c.tt src sd hsd).under;have hd:=(c.tt dst td htd).under;split at h
  ·rename_i elem hdd1 hdd2;rw[hdd1]at hs;rw[hdd2]at hd;split at h
   ·rename_i ed hed;have he:=(c.tt elem ed hed).under;split at h
    ·rename_i t hde h1 h2 hun;rw[hde]at he;rw[qqw]at h1;obtain rfl:=qqq h1.1;have b1:0<=off.den ρ:=eu hpc h1.2;have b2:=eu hpc h2;rw[fN]at b2;obtain⟨st1,hl1,hx1,h3⟩:=cn hpc h;rw[dF]at hx1;have b3:0<=len.den ρ:=of_decide_eq_true hx1;refine aD.value c.rep hl1 h3 ?_;obtain⟨cs,ty,fr,o',g1,g2,g3⟩:=ID c.rep hrow;have hun':=CX hpc hun;let ns:List Int:=(List.range (len.den ρ).toNat).map fun j:Nat=>IntKind.u8.wrap (ρ.f1 t (off.den ρ+(j:Int)))
     have hload:(loadCells (cU ρ π wd b ((off.den ρ).toNat*1)) (len.den ρ).toNat).run P w=.ok (ns.map (Value.int .u8)).toArray w:=by
      have:=run_loadCells_list (P:=P) w (cU ρ π wd b ((off.den ρ).toNat*1)) (ns.map (Value.int .u8)) fun j v hv=>by
       have hj:j<(len.den ρ).toNat:=by simpa[ns]using(qq5.1 hv).1
       rw[ig,g2,cell_of_row w _ _ _ _ _ g1];have:=Jz (n:=(len.den ρ).toNat) (t:=t) rfl g3 b1 (by omega) (fun i i1 i2=>hun' _ 0 i i1 (by rw[fN];omega)) j hj;rw[Nat.mul_one,this];simp only[ns,List.map_map,qk5,List.getElem?_range hj,Option.map_some,Function.comp]at hv;exact hv
      simpa[ns]using this
     simp only[execOp,ho,hx,V.ab,Sem.run_bind];rw[run_convert_bytes_string w src dst elem _ (len.den ρ).toNat _ hs he hd,run_bytesToString w _ (len.den ρ).toNat _ ns hload,foldl_push_bytes];simp only[ByteArray.empty,ByteArray.emptyWithCapacity,Result.andThen_ok,Sem.run_pure,X.bF,wq];simp[ns];rfl
    ·simp[R.ag]at h
   ·simp[R.ag]at h
  ·simp[R.ag]at h
 ·simp[R.ag]at h
theorem Ox{src dst:TypeId}{p:Operand}(c:Ctx P cx ρ π st.h w tm a)(hpc:ai ρ st.pc)(ho:o.op=.convert src dst p)
  (h:(lR cx tm st src dst p).ag ρ=some (r,st')):aD P cx tm ρ π st st' w ((execOp a.eval o).run P w) r:=by
 have hl:=cG.refl hpc;unfold lR at h;split at h
 ·rename_i x ex;have hx:=a7 c ex;split at h
  ·exact Wy c hpc ho hx h
  rename_i hnx;clear hnx;unfold xb at h;split at h
  ·rename_i sd td j y hs hd;have hks:=c.tt src sd hs;have hk:=c.tt dst td hd;split at h
   ·rename_i k hdd;have hu:=hk.under;rw[hdd]at hu;refine aD.value c.rep hl h ?_;simp[execOp,ho,hx,V.ab,convert,run_underlying hks.under,run_underlying hu,Conv.intToInt,jd]
   ·simp[R.ag]at h
  ·rename_i sd td y hs hd;have hks:=c.tt src sd hs;have hk:=c.tt dst td hd;split at h
   ·rename_i hdd;have hu:=hk.under;rw[hdd]at hu;refine aD.value c.rep hl h ?_;simp[execOp,ho,hx,V.ab,convert,run_underlying hks.under,run_underlying hu]
   ·simp[R.ag]at h
  ·unfold Vc at h;split at h
   ·rename_i sd td hs hd;have hks:=(c.tt src sd hs).under;have hkd:=(c.tt dst td hd).under;split at h
    ·rename_i elem hsd htd;rw[hsd]at hks;rw[htd]at hkd;split at h
     ·rename_i ed n hed hn;have hke:=(c.tt elem ed hed).under;split at h
      ·rename_i cs hee hcs;rw[hee]at hke;split at h
       ·rename_i q hq;refine aD.value c.rep hl h ?_;simp only[execOp,ho,hx,Sem.run_bind,acO hks hke hkd c.rep hn hcs hq,Result.andThen_ok,Sem.run_pure]
       ·simp[R.ag]at h
      ·simp[R.ag]at h
     ·simp[R.ag]at h
    ·simp[R.ag]at h
   ·simp[R.ag]at h
 ·simp[R.ag]at h
theorem Wt{t:TypeId}{p:Operand}(c:Ctx P cx ρ π st.h w tm a)(hpc:ai ρ st.pc)(ho:o.op=.range t p)
  (h:(xZ cx tm st t p).ag ρ=some (r,st')):aD P cx tm ρ π st st' w ((execOp a.eval o).run P w) r:=by
 unfold xZ at h;split at h
 ·rename_i td v hd ex;have hx:=a7 c ex;have hu:=(c.tt t td hd).under;split at h
  ·rename_i k e hdd;rw[hdd]at hu;have hrun:(execOp a.eval o).run P w=.ok (.value (.pointer (some ⟨w.heap.size,0,none⟩))) {w with heap:=w.heap.push (.mapIter none 0 #[] 0)}:=by
    simp[execOp,ho,hx,V.ab,Instr.range,Go.newObj,Sem.run,run_underlying hu]
   exact aD.new c.rep hpc h (fun hn=>by rw[hrun];simp[V.ab,hn]) (by rw[hrun];rfl) (fun _=>rfl)
  ·rename_i k e b hdd;rw[hdd]at hu;split at h
   ·rename_i es hes;obtain⟨ob,h1,ms,clock,rfl,_,_⟩:=c.rep.obj b _ hes;have hg:(getObj (π b).1).run P w=.ok (.map ms.toArray clock) w:=by simp[getObj,Sem.run,h1]
    have hrun:(execOp a.eval o).run P w=.ok (.value (.pointer (some ⟨w.heap.size,0,none⟩))) {w with heap:=w.heap.push (.mapIter (some (π b).1) clock #[] clock)}:=by
     simp only[execOp,ho,hx,V.ab,Instr.range,Sem.run_bind,run_underlying hu,Result.andThen_ok,hg,Sem.run_pure];simp[Go.newObj,Sem.run]
    exact aD.new c.rep hpc h (fun hn=>by rw[hrun];simp[V.ab,hn]) (by rw[hrun];rfl) (fun _=>⟨clock,clock,rfl⟩)
   ·simp[R.ag]at h
  ·simp[R.ag]at h
 ·simp[R.ag]at h
theorem ab1{p:Operand}{s:Bool}(c:Ctx P cx ρ π st.h w tm a)(hpc:ai ρ st.pc)(ho:o.op=.next p s)
  (h:(ES cx tm st p s).ag ρ=some (r,st')):aD P cx tm ρ π st st' w ((execOp a.eval o).run P w) r:=by
 have hl:=cG.refl hpc;unfold ES at h;split at h
 ·rename_i rb ex;have hx:=a7 c ex;split at h
  ·rename_i hr;obtain⟨ob,h1,rfl⟩:=c.rep.obj rb _ hr;refine aD.value c.rep hl h ?_;have hg:(getObj (π rb).1).run P w=.ok (.mapIter none 0 #[] 0) w:=by simp[getObj,Sem.run,h1]
   simp only[execOp,ho,hx,V.ab,Instr.next,Sem.run_bind,hg,Result.andThen_ok,Sem.run_pure];rfl
  ·rename_i b hr;split at h
   ·rename_i hb;obtain⟨ob,h1,since,last,rfl⟩:=c.rep.obj rb _ hr;obtain⟨ob2,h2,ms,clock,rfl,hperm,_⟩:=c.rep.obj b _ hb;have hms:ms=[]:=by
     have:=hperm.length_eq;simpa[entriesOf]using this
    subst hms;refine aD.value c.rep hl h ?_;have hg:(getObj (π rb).1).run P w=.ok (.mapIter (some (π b).1) since #[] last) w:=by simp[getObj,Sem.run,h1]
    have hg2:(getObj (π b).1).run P w=.ok (.map #[] clock) w:=by simp[getObj,Sem.run,h2]
    simp only[execOp,ho,hx,V.ab,Instr.next,Sem.run_bind,hg,hg2,Result.andThen_ok,Sem.run_pure];have hf:∀ q:MapEntry->Bool,Array.filter q #[] 0 0=#[]:=fun _=>rfl
    simp[hf,choose,Sem.run,Question.forced,V.ae,V.ab,X.tt,X.den]
   ·simp[R.ag]at h
  ·simp[R.ag]at h
 ·simp[R.ag]at h
end ops
theorem val_one(k:CK)(z:Int):(k.val z).oneCell'=true:=by cases k<;>rfl
section ops
variable {P:Program} {cx:Cx} {ρ:Env} {π:Pl} {w:World} {tm:List V} {a:Act} {st st':St} {r:OR} {o:Oper}
theorem yo{h:H}(hr:dK ρ π h w){wd:Bool}{b:Nat}{a:A}{ks:List CK}{L:X}{n:Nat} (hb:CL h wd b=some (a,ks,L)) (hn:n<=(L.den ρ).toNat):
  ∃ vs:List Value,vs.length=n*ks.length/\(∀ w':World,w'.heap=w.heap->(loadCells (cU ρ π wd b 0) (n*ks.length)).run P w'=.ok vs.toArray w')/\ko ρ a ks n (fun j=>vs[j]?)/\∀ v∈vs,v.oneCell'=true:=by
 obtain⟨cs,t,fr,o,h1,h2,h3⟩:=ID hr hb;have each:∀ i,i<n*ks.length->∃ (k:CK) (z:Int),cs[o+i]?=some (k.val z):=by
  intro i hi;have hk0:0<ks.length:=by
   rcases Nat.eq_zero_or_pos ks.length with e|e
   ·rw[e,Nat.mul_zero]at hi;omega
   ·exact e
  have hm:=Nat.mod_lt i hk0;have hj:i / ks.length<n:=Nat.div_lt_of_lt_mul (by rw[Nat.mul_comm];exact hi);have:=h3 (i / ks.length) (i % ks.length) ks[i % ks.length] (by omega) (qq0 hm);dsimp only at this;rw[Nat.div_add_mod']at this;exact⟨_,_,this⟩
 have hsz:n*ks.length=0\/o+n*ks.length<=cs.size:=by
  rcases Nat.eq_zero_or_pos (n*ks.length)with e|e
  ·exact .inl e
  ·obtain⟨k,z,hz⟩:=each (n*ks.length-1) (by omega);have:=(qq6.1 hz).1;exact .inr (by omega)
 have hget:∀ i,i<n*ks.length->((cs.toList.drop o).take (n*ks.length))[i]?=cs[o+i]?:=fun i hi=>by
  rw[List.getElem?_take,if_pos hi,List.getElem?_drop];simp
 have hlen:((cs.toList.drop o).take (n*ks.length)).length=n*ks.length:=by
  rcases hsz with e|e
  ·rw[e];simp
  ·simp;omega
 refine⟨(cs.toList.drop o).take (n*ks.length),hlen,fun w' hw'=>?_,fun j c k hj hk=>?_,fun v hv=>?_⟩
 ·have:=run_loadCells_list (P:=P) w' (cU ρ π wd b 0) ((cs.toList.drop o).take (n*ks.length)) fun j v hv=>by
   have hj:j<n*ks.length:=by rw[<-hlen];exact(qq5.1 hv).1
   rw[ig,h2,cell_of_row w' _ _ _ _ _ (by rw[hw'];exact h1),qk7,<-hget j hj];exact hv
  rwa [hlen]at this
 ·have hc:c<ks.length:=(qq5.1 hk).1;have hlt:j*ks.length+c<n*ks.length:=by
   have:(j+1)*ks.length<=n*ks.length:=qq7 _ hj;rw[qk0]at this;omega
  dsimp only;rw[hget _ hlt];exact h3 j c k (by omega) hk
 ·obtain⟨i,hi⟩:=List.getElem?_of_mem hv;have hlt:i<n*ks.length:=by rw[<-hlen];exact(qq5.1 hi).1
  rw[hget i hlt]at hi;obtain⟨k,z,hz⟩:=each i hlt;rw[hz]at hi;rw[<-qqz hi];exact val_one k z
theorem ab3{cl:Call}{args:List V}{res:cJ}(c:Ctx P cx ρ π st.h w tm a)(hpc:ai ρ st.pc)(ho:o.op=.call cl)(hb:cl.callee=.builtin .len)(ha:cl.args.toList.map a.eval=V.ae ρ π args)
  (hx:Y4 cx st cl.argTypes.toList args=some res) (h:res.ag ρ=some (r,st')):aD P cx tm ρ π st st' w ((execOp a.eval o).run P w) r:=by
 obtain⟨consts,hrun⟩:=dZ (P:=P) (w:=w) ho hb ha;unfold Y4 at hx;split at hx
 ·rename_i t ts x xs hts;have ht0:cl.argTypes[0]?=some t:=by rw[<-Array.getElem?_toList,hts];rfl
  split at hx
  ·split at hx
   ·rename_i td hd;have hu:=(c.tt t td hd).under;split at hx
    ·rename_i e hdd;rw[hdd]at hu;obtain rfl:=qqz hx;obtain⟨st1,hl1,hx1,h1⟩:=cn hpc h;rw[dF]at hx1;have b1:=of_decide_eq_true hx1;simp only[X.den]at b1;refine aD.value c.rep hl1 h1 ?_;rw[hrun];simp[builtin,Builtin.len_,ht0,V.ae,run_underlying hu,V.ab,goInt];omega
    ·cases hx
   ·cases hx
  ·cases hx
 ·cases hx
theorem Ww{cl:Call}{args:List V}{res:cJ}(c:Ctx P cx ρ π st.h w tm a)(hpc:ai ρ st.pc)(ho:o.op=.call cl)(hb:cl.callee=.builtin .copy)(ha:cl.args.toList.map a.eval=V.ae ρ π args)
  (hx:Y2 cx st cl.argTypes.toList args=some res) (h:res.ag ρ=some (r,st')):aD P cx tm ρ π st st' w ((execOp a.eval o).run P w) r:=by
 obtain⟨consts,hrun⟩:=dZ (P:=P) (w:=w) ho hb ha;unfold Y2 at hx;split at hx
 ·rename_i t ts d x xs hts;have ht0:cl.argTypes[0]?=some t:=by rw[<-Array.getElem?_toList,hts];rfl
  split at hx
  ·split at hx
   ·rename_i td hd;have hu:=(c.tt t td hd).under;split at hx
    ·rename_i elem hdd;rw[hdd]at hu;split at hx
     ·rename_i ed hed;have hke:=c.tt elem ed hed;obtain rfl:=qqz hx;unfold Y3 at h;split at h
      ·rename_i b off es len cap w2 b2 off2 es2 len2 cap2 hdeq;obtain⟨rfl,rfl,rfl,rfl,rfl,rfl⟩:_/\_/\_/\_/\_/\_:=by simpa only[V.xslice.injEq]using hdeq
       split at h
       ·rename_i a0 ks L e wd a2 ks2 L2 hob hrow hz1 hz2;split at h
        ·rename_i hes hks1 hks2 hlen;rw[qqw]at hes hlen;obtain rfl:=qqq hes.1;obtain rfl:=qqq hes.2;have hks1':=qqq hks1;obtain rfl:=CK.aR hks2;obtain rfl:=X.beq_eq hlen.1;obtain rfl:=X.beq_eq hlen.2;split at h
         ·rename_i hle h0;have hle':=eu hpc hle;have h0':0<=L.den ρ:=eu hpc h0;simp only[bA,R.ag,qqk,qqv]at h;obtain⟨rfl,rfl⟩:=h;obtain⟨vs,g1,g2,g3,g4⟩:=yo (P:=P) (n:=(L.den ρ).toNat) c.rep hrow (by omega);obtain⟨cs,k1,k2,k3,k4⟩:=FO c.rep hob;have hst:=mK (P:=P) (off:=0) w k1 (by rw[g1];omega) g4;have hz1':=gr ρ hz1;have hz2':=gr ρ hz2;refine⟨hpc,qq2 _,fun _=>⟨_,?_,Mv.turn c.rep st.n hob (ob:=.cells (cs.take 0++vs++cs.drop (0+vs.length)).toArray e (0,0)) ⟨_,rfl,?_,fun hw=>?_,fun j q k hj hk=>?_⟩ rfl⟩⟩
          ·rw[hrun];have hl0:=g2 w rfl;rw[hks1']at hl0;have e0:∀ b,(cU ρ π false b 0:Addr)=⟨(π b).1,0,none⟩:=fun b=>by simp[cU]
           simp[builtin,Builtin.copy_,ht0,V.ae,run_underlying hu,V.ab,Builtin.lenOf,Builtin.firstCells,hke.aQ,hz1',hz2',hl0,e0,hst,goInt];omega
          ·simp only[qq9,qz3,qzv,g1];omega
          ·have:=k3 hw;simp only[qq9,qz3,qzv,g1];omega
          ·have hq:q<ks.length:=(qq5.1 hk).1;have hlt:j*ks.length+q<vs.length:=by
            have:(j+1)*ks.length<=(L.den ρ).toNat*ks.length:=qq7 _ hj;rw[qk0]at this;omega
           dsimp only;rw[pZ _ _ _ _ (by rw[g1];omega),if_pos ⟨by omega,by omega⟩,Nat.sub_zero];exact g3 j q k hj hk
         ·simp[R.ag]at h
        ·simp[R.ag]at h
       ·simp[R.ag]at h
      ·simp[R.ag]at h
     ·cases hx
    ·cases hx
   ·cases hx
  ·cases hx
 ·cases hx
theorem mz{ks:List CK}{len:X}:∀ {n j:Nat} {vs:List V} {a a':A},jT ks len j n vs a=some a'->vs.length=n*ks.length /\
  (∀ (c:Nat) (k:CK) (i:Int),(i<len.den ρ+(j:Int)\/len.den ρ+(j:Int)+(n:Int)<=i)->a'.den ρ k c i=a.den ρ k c i) /\
  (∀ (m c:Nat) (k:CK),m<n->ks[c]?=some k->(V.ae ρ π vs)[m*ks.length+c]?=some (k.val (a'.den ρ k c (len.den ρ+(j:Int)+(m:Int)))))/\∀ v∈vs,v.one=true
 |0,j,vs,a,a',h=>by
  unfold jT at h;split at h
  ·obtain rfl:=qqz h;exact⟨by simp,fun _ _ _ _=>rfl,fun m _ _ hm=>by omega,fun v hv=>by simp at hv⟩
  ·cases h
 |n+1,j,vs,a,a',h=>by
  unfold jT at h;split at h
  ·rename_i cs hcs;split at h
   ·rename_i a1 hp;obtain⟨e1,e2,e3⟩:=cS _ _ _ hcs;obtain⟨p1,p2,p3⟩:=my (ρ:=ρ) (π:=π) hp;obtain⟨q1,q2,q3,q4⟩:=mz h;rw[cO]at q1 q3 q4;simp only[qzv]at q1;have hden:(nh len (.lit (Int.ofNat j))).den ρ=len.den ρ+(j:Int):=by rw[fN];rfl
    rw[hden]at p2 p3;refine⟨by rw[qk0];omega,fun c k i hi=>?_,fun m c k hm hk=>?_,fun v hv=>?_⟩
    ·rw[q2 c k i (by omega),p2 c k i (.inl (by omega))]
    ·have hc:c<ks.length:=(qq5.1 hk).1;cases m with
     |zero=>
      have:=p3 c k hk;rw[qk7]at this;rw[Nat.zero_mul,qk7,q2 c k _ (.inl (by omega)),show len.den ρ+(j:Int)+((0:Nat):Int)=len.den ρ+(j:Int) by omega,<-this,<-e1,eT,List.getElem?_take,if_pos hc]
     |succ m=>
      have:=q3 m c k (by omega) hk;rw[show len.den ρ+((j+1:Nat):Int)+(m:Int)=len.den ρ+(j:Int)+((m+1:Nat):Int) by omega]at this;rw[<-this,eS,List.getElem?_drop];congr 1;rw[qk0];omega
    ·rcases qzz.1 (by rw[List.take_append_drop ks.length vs];exact hv:v∈vs.take ks.length++vs.drop ks.length)with hv|hv
     ·rw[e1]at hv;exact kG hp v hv
     ·exact q4 v hv
   ·cases h
  ·cases h
theorem xo{cl:Call}{T:TypeId}{t u:TypeId}{elem:TypeId}{td ud ed:TD} (ht0:cl.argTypes[0]?=some t) (ht1:cl.argTypes[1]?=some u) (hk:iO P t td) (hku:iO P u ud) (hke:iO P elem ed)
  (hdd:td.d=.slice elem) (hud:∀ k,ud.d≠.int k) {xv:Value} {xs:List Value} {base:Option Addr} {sLen sCap n:Nat} {old new:List Value} (hx:(Builtin.lenOf xv).run P w=.ok n w)
  (hnew:∀ w':World,w'.heap=w.heap->(Builtin.firstCells ed.size n xv).run P w'=.ok new.toArray w')
  (hold:∀ w':World,w'.heap=w.heap->(Builtin.firstCells ed.size sLen (.slice base sLen sCap)).run P w'=.ok old.toArray w')
  (hgt:¬sLen+n<=sCap) (hsmall:(sLen+n+sCap+1)*(ed.bytes+1)<=2000000000):
  ∃ (cap:Nat) (w1:World),sLen+n<=cap/\w1.heap=w.heap/\(w1.tape=w.tape/\w1.os=w.os/\w1.output=w.output) /\
   (Builtin.append_ cl.argTypes T (Value.slice base sLen sCap::xv::xs).toArray).run P w =
    .ok (.slice (some ⟨w.heap.size,0,none⟩) (sLen+n) cap) {w1 with heap:=w1.heap.push (.cells (old++new++V.ae ρ π (b7 ed.zero (cap-(sLen+n)))).toArray elem (0,0))}:=by
 have hu:=hk.under;rw[hdd]at hu;obtain⟨i,hi,hsz,hby,_⟩:=hke.info;have hti:∀ w:World,(typeInfo elem).run P w=.ok i w:=fun w=>by simp[typeInfo,hi]
 have hneed:sLen+n<=2000000000:=by
  have:(sLen+n+sCap+1)*1<=(sLen+n+sCap+1)*(ed.bytes+1):=Nat.mul_le_mul_left _ (by omega);omega
 have hcap:=B2 (sLen+n) sCap ed.bytes hsmall;let q:Question:=.appendCap (sLen+n) sCap elem;let w1:World:={w with drawn:=w.drawn+1}
 have hle:sLen+n<=q.cut (w.tape w.drawn q):=by simp[q,Question.cut]
 have hroom:∀ (m:Nat) (w:World),(askRoom m).run P w=.ok () w:=by
  intro m w;unfold askRoom;split<;>simp[mark,Sem.run]
 refine⟨q.cut (w.tape w.drawn q),w1,hle,rfl,⟨rfl,rfl,rfl⟩,?_⟩;obtain⟨z,hz,hzc,_⟩:=fe hke w1 ρ π;have hzeros:(underlying u).run P w=.ok ud.d w:=hku.cR w;have hmx:¬(((sLen+n:Nat):Int) > IntKind.i64.max):=by rw[IntKind.max_i64];omega
 have hh2:=hnew w1 rfl;have hm:∀ (al be:Bool),(match ud.d with|.int _=>al|_=>be)=be:=by
  intro al be;cases hq:ud.d<;>first|rfl|exact absurd hq (hud _)
 simp only[Builtin.append_,ht0,ht1,List.getElem?_toArray,List.getElem?_cons_zero,List.getElem?_cons_succ,Sem.run_bind,run_underlying hu,Result.andThen_ok,hke.aQ,hzeros,Sem.run_pure];have hold1:=hold w1 rfl;have hch':(choose (Question.appendCap (sLen+n) sCap elem)).run P w=.ok (q.cut (w.tape w.drawn q)) w1:=by
  simp[choose,Sem.run,q,Question.forced,w1]
 simp only[qqj,if_false,Bool.not_false,if_true,Sem.run_bind,hx,Result.andThen_ok,if_neg hgt,hti,hmx,false_and,hby,hcap,hch',hroom,hold1,hh2,hz,hzc,o6];simp only[newRow,Go.newObj,Sem.run_bind,Sem.run,Result.andThen_ok,Sem.run_pure];simp only[List.append_toArray];rfl
theorem E7{a a':A}{ks:List CK}{len:X}{n N N':Nat}{cs:List Value}{new:List V}(hput:jT ks len 0 n new a=some a')(h0:0<=len.den ρ) (hr:ko ρ a ks N fun j=>cs[j]?) (h1:(len.den ρ).toNat<=N) (h2:N'<=N\/N'<=(len.den ρ).toNat+n)
  (hle:((len.den ρ).toNat+n)*ks.length<=cs.length):ko ρ a' ks N' fun j=>(cs.take ((len.den ρ).toNat*ks.length)++V.ae ρ π new++cs.drop ((len.den ρ).toNat*ks.length+(V.ae ρ π new).length))[j]?:=by
 obtain⟨p1,p2,p3,_⟩:=mz (ρ:=ρ) (π:=π) hput;intro j c k hj hk;have hc:c<ks.length:=(qq5.1 hk).1;rw[qk0]at hle;dsimp only;rw[pZ _ _ _ _ (by rw[au,p1];exact hle),au,p1];have up:∀ m:Nat,j<m->j*ks.length+c<m*ks.length:=fun m hm=>by
  have:(j+1)*ks.length<=m*ks.length:=qq7 _ hm;rw[qk0]at this;omega
 have dn:∀ m:Nat,m<=j->m*ks.length<=j*ks.length:=fun m hm=>qq7 _ hm
 by_cases hin:(len.den ρ).toNat<=j/\j<(len.den ρ).toNat+n
 ·have u1:=up _ hin.2;have d1:=dn _ hin.1;rw[qk0]at u1;rw[if_pos ⟨by omega,by omega⟩];have:=p3 (j-(len.den ρ).toNat) c k (by omega) hk;rw[show j*ks.length+c-(len.den ρ).toNat*ks.length=(j-(len.den ρ).toNat)*ks.length+c by rw[Nat.sub_mul];omega,this];congr 3;omega
 ·have hjN:j<N:=by omega
  rw[if_neg,p2 c k j (by omega)]
  ·exact hr j c k hjN hk
  ·rintro⟨e1,e2⟩;rcases qkz j (len.den ρ).toNat with hlt|hge
   ·have:=up _ hlt;omega
   ·have:=dn ((len.den ρ).toNat+n) (by omega);rw[qk0]at this;omega
theorem wk{a a':A}{ks:List CK}{len:X}{n:Nat}{old:List Value}{new:List V}(hput:jT ks len 0 n new a=some a')(h0:0<=len.den ρ) (hold:old.length=(len.den ρ).toNat*ks.length) (hr:ko ρ a ks (len.den ρ).toNat fun j=>old[j]?):
  ko ρ a' ks ((len.den ρ).toNat+n) fun j=>(old++V.ae ρ π new)[j]?:=by
 obtain⟨p1,p2,p3,_⟩:=mz (ρ:=ρ) (π:=π) hput;intro j c k hj hk;have hc:c<ks.length:=(qq5.1 hk).1;dsimp only;by_cases hlt:j<(len.den ρ).toNat
 ·have:(j+1)*ks.length<=(len.den ρ).toNat*ks.length:=qq7 _ hlt;rw[qk0]at this;rw[qk1 (by rw[hold];omega),p2 c k j (by omega)];exact hr j c k hlt hk
 ·have hge:(len.den ρ).toNat*ks.length<=j*ks.length:=qq7 _ (by omega);rw[qz0 (by rw[hold];omega),hold];have:=p3 (j-(len.den ρ).toNat) c k (by omega) hk;rw[show j*ks.length+c-(len.den ρ).toNat*ks.length=(j-(len.den ρ).toNat)*ks.length+c by rw[Nat.sub_mul];omega,this];congr 3;omega
theorem Bp(c:Ctx P cx ρ π st.h w tm a){st1:St}(hl:cG ρ st st1){h':H}(hsub:∀ i o,h'.get i=some o->st.h.get i=some o){a':A}{ks:List CK}{L':X}{elem:TypeId}{ed:TD}(hke:iO P elem ed)(hes:ks.length=ed.size)
  (h:(xQ st1 h' a' ks L' elem).ag ρ=some (r,st')) {N cap:Nat} {w1:World} {vals:List Value} (hN:(L'.den ρ).toNat=N) (hcap:N<=cap) (hw1:w1.heap=w.heap) (hw2:w1.tape=w.tape/\w1.os=w.os/\w1.output=w.output)
  (hv:vals.length=N*ks.length) (hrow:ko ρ a' ks N fun j=>vals[j]?)
  (hrun:(execOp a.eval o).run P w=.ok (.value (.slice (some ⟨w.heap.size,0,none⟩) N cap)) {w1 with heap:=w1.heap.push (.cells (vals++V.ae ρ π (b7 ed.zero (cap-N))).toArray elem (0,0))}):
  aD P cx tm ρ π st st' w ((execOp a.eval o).run P w) r:=by
 simp only[xQ,bA,R.ag,qqk,qqv]at h;obtain⟨rfl,rfl⟩:=h;refine⟨hl.pc,by dsimp only;rw[hl.n];omega,fun hpl=>?_⟩;have hpl':π st.n=⟨w.heap.size,cap,.nilFunc⟩:=by
  have:=hpl (by dsimp only;rw[hl.n];omega);rw[hrun]at this;exact this
 refine⟨{w1 with heap:=w1.heap.push (.cells (vals++V.ae ρ π (b7 ed.zero (cap-N))).toArray elem (0,0))},?_,?_⟩
 ·rw[hrun];simp only[V.ab,XC.ab,cU,X.den,hl.n,hpl',hN,Nat.max_eq_left hcap];simp
 ·dsimp only;rw[hl.n];have hr1:dK ρ π h' w1:=⟨fun i o hi=>by rw[hw1];exact c.rep.obj i o (hsub i o hi),fun i j o o' hi hj=>c.rep.inj i j o o' (hsub i o hi) (hsub j o' hj)⟩
  have m:=Mv.new (n:=st.n) (o:=.arr a' ks L' elem true) (ob:=.cells (vals++V.ae ρ π (b7 ed.zero (cap-N))).toArray elem (0,0)) hr1 (by rw[hpl',hw1]) ⟨_,rfl,by
    simp only[qq9,hv,hN];omega,fun _=>by
    simp only[qq9,hv,au,fS,hke.len,hpl',hes];rw[<-qk0];congr 1;omega,fun j q k hj hk=>by
    have hq:q<ks.length:=(qq5.1 hk).1;rw[hN]at hj;have:(j+1)*ks.length<=N*ks.length:=qq7 _ hj;rw[qk0]at this;dsimp only;rw[qk1 (by rw[hv];omega)];exact hrow j q k hj hk⟩
  have m2:=m.Ek (w:=w) hw1 hw2;exact⟨m2.rep,fun i o hi=>(m2.dom i o hi).imp_left fun⟨o0,h0⟩=>⟨o0,hsub i o0 h0⟩,fun i o hi=>(m2.sub i o hi).imp_right fun⟨i0,o0,h0,e,z⟩=>⟨i0,o0,hsub i0 o0 h0,e,z⟩,
   fun j hj hne=>m2.keep j hj fun i o hi=>hne i o (hsub i o hi),m2.size,m2.same⟩
theorem y3{s:V}(h:noRoom s=true):∃ base,s.ab ρ π=.slice base 0 0:=by
 unfold noRoom at h;split at h
 ·exact⟨none,rfl⟩
 ·split at h
  ·split at h
   ·rename_i c;obtain rfl:=qqq h;exact⟨_,rfl⟩
   ·cases h
  ·cases h
 ·split at h
  ·rename_i hz;split at h
   ·exact⟨_,by simp only[V.ab,XC.ab,gr ρ hz,gr ρ h];rfl⟩
   ·cases h
  ·cases h
 ·cases h
theorem Vo{h:H}{b i:Nat}{o:ak} (hi:(h.drop b).get i=some o):h.get i=some o:=by
 by_cases eb:b=i
 ·subst eb;rw[T.mh]at hi;cases hi
 ·rw[T.lJ _ eb]at hi;exact hi
theorem Oz{cl:Call}{args:List V}{res:cJ}(c:Ctx P cx ρ π st.h w tm a)(hpc:ai ρ st.pc)(ho:o.op=.call cl)(hb:cl.callee=.builtin .append)(ha:cl.args.toList.map a.eval=V.ae ρ π args)
  (hx:I4 cx st cl.argTypes.toList args=some res) (h:res.ag ρ=some (r,st')):aD P cx tm ρ π st st' w ((execOp a.eval o).run P w) r:=by
 obtain⟨consts,hrun⟩:=dZ (P:=P) (w:=w) ho hb ha;have hl:=cG.refl hpc;unfold I4 at hx;split at hx;rotate_left
 ·cases hx
 rename_i t u ts s x xs hts;have ht0:cl.argTypes[0]?=some t:=by rw[<-Array.getElem?_toList,hts];rfl
 have ht1:cl.argTypes[1]?=some u:=by rw[<-Array.getElem?_toList,hts];rfl
 split at hx;rotate_left
 ·cases hx
 rename_i td ud hd hud;have hk:=c.tt t td hd;have hku:=c.tt u ud hud;have hu:=hk.under;split at hx;rotate_left
 ·cases hx
 rename_i elem ue hdd hdu;have hniz:∀ k,ud.d≠.int k:=fun k e=>by rw[hdu]at e;cases e
 rw[hdd]at hu;split at hx;rotate_left
 ·cases hx
 rename_i ed hed;have hke:=c.tt elem ed hed;have full:∀ {v:Value} {w':World},(Builtin.append_ cl.argTypes o.type (s.ab ρ π::x.ab ρ π::V.ae ρ π xs).toArray).run P w=.ok v w'->(execOp a.eval o).run P w=.ok (.value v) w':=by
  intro v w' hv;rw[hrun];simp only[builtin,V.ae,Sem.run_bind]at hv ⊢;rw[hv];rfl
 split at hx
 ·-- a row, laid anew
  rename_i wd b off es len cap;obtain rfl:=qqz hx;unfold Y1 at h;split at h
  ·rename_i hzn;rw[qqw]at hzn;have hlz:=gr ρ hzn.1;obtain⟨base,hs⟩:=y3 (ρ:=ρ) (π:=π) hzn.2;have hn0:(len.den ρ).toNat=0:=by omega
   refine aD.value c.rep (.refl hpc) h (full ?_);have hxl:(Builtin.lenOf ((V.xslice wd b off es len cap).ab ρ π)).run P w=.ok 0 w:=by simp[V.ab,Builtin.lenOf,hn0]
   have hxc0:(Builtin.firstCells ed.size 0 ((V.xslice wd b off es len cap).ab ρ π)).run P w=.ok #[] w:=by simp[V.ab,Builtin.firstCells,loadCells,loadCellsFrom]
   rw[hs];simp[Builtin.append_,ht0,ht1,run_underlying hu,hke.aQ,hku.cR,hxl,hxc0,hdu];cases base<;>simp[storeCells]
  split at h;rotate_left
  ·simp[R.ag]at h
  rename_i a0 ks L hrow hz hnr;split at h;rotate_left
  ·simp[R.ag]at h
  rename_i hes hks hes0 hle;obtain rfl:=qqq hes;have hks':=qqq hks;have hle':=eu hpc hle;obtain⟨st1,hl1,hx1,h1⟩:=cn hpc h;rw[dF]at hx1;have b1:0<=len.den ρ:=of_decide_eq_true hx1;split at h1;rotate_left
  ·simp[R.ag]at h1
  rename_i hm;have hm':=B0 (eu hl1.pc hm) b1;obtain⟨st2,hl2,h2⟩:=ah hl1.pc h1;rw[dF]at h2;obtain⟨base,hs⟩:=y3 (ρ:=ρ) (π:=π) hnr;have hz':=gr ρ hz;obtain⟨vs,g1,g2,g3,g4⟩:=yo (P:=P) (n:=(len.den ρ).toNat) c.rep hrow (by omega);have hxl:(Builtin.lenOf ((V.xslice wd b off ed.size len cap).ab ρ π)).run P w=.ok (len.den ρ).toNat w:=by simp[V.ab,Builtin.lenOf]
  have hxc:∀ w':World,w'.heap=w.heap->(Builtin.firstCells ed.size (len.den ρ).toNat ((V.xslice wd b off ed.size len cap).ab ρ π)).run P w'=.ok vs.toArray w':=fun w' hw'=>by
   have:=g2 w' hw';rw[hks']at this;simp only[V.ab,Builtin.firstCells,hz'];simpa using this
  split at h2
  ·rename_i hle0;have hle0':len.den ρ<=0:=of_decide_eq_true hle0;have hn0:(len.den ρ).toNat=0:=by omega
   refine aD.value c.rep (hl1.trans hl2) h2 (full ?_);have hvs:vs=[]:=qzj (by rw[g1,hn0,Nat.zero_mul]);subst hvs;rw[hn0]at hxl hxc;have hxc0:=hxc w rfl;rw[hs];simp[Builtin.append_,ht0,ht1,run_underlying hu,hke.aQ,hku.cR,hxl,hxc0,hdu];cases base<;>simp[storeCells]
  ·rename_i hle0;have hle0':¬len.den ρ<=0:=of_decide_eq_false hle0;obtain⟨cap',w1,e1,e2,e3,e4⟩:=xo (P:=P) (ρ:=ρ) (π:=π) (T:=o.type) (xs:=V.ae ρ π xs) (base:=base) (sLen:=0) (sCap:=0) (old:=[]) (new:=vs) ht0 ht1 hk hku hke hdd hniz hxl hxc (fun w' _=>by cases base<;>simp[Builtin.firstCells,loadCells,loadCellsFrom]) (by omega) (by
     have:(0+(len.den ρ).toNat+0+1)*(ed.bytes+1)<=((len.den ρ).toNat+0+1)*(ed.bytes+1):=qq7 _ (by omega);omega)
   rw[<-hs]at e4;refine Bp (c:=c) (hl1.trans hl2) (h':=st2.h) (fun i o hi=>by rw[(hl1.trans hl2).h]at hi;exact hi) hke hks' h2 (N:=(len.den ρ).toNat) (cap:=cap') (vals:=vs) rfl (by omega) e2 e3 g1 g3 (full ?_);rw[e4];simp
 ·-- elements that are written out
  split at hx;rotate_left
  ·cases hx
  rename_i n hn;split at hx;rotate_left
  ·cases hx
  rename_i new hnew;split at hx;rotate_left
  ·cases hx
  rename_i hsz;have hsz':=qqq hsz;have hlx:∀ w:World,(Builtin.lenOf (x.ab ρ π)).run P w=.ok n w:=fun w=>uU hn
  have hex:∀ w':World,w'.heap=w.heap->(Builtin.firstCells ed.size n (x.ab ρ π)).run P w'=.ok (V.ae ρ π new).toArray w':=fun w' hw'=>lD (c.rep.heap hw') hnew
  unfold M1 at hx;split at hx
  ·-- behind nothing
   split at hx;rotate_left
   ·cases hx
   rename_i ks hn0 _ hkz;split at hx;rotate_left
   ·cases hx
   rename_i a' hput hes0 hsm;obtain rfl:=qqz hx;have hks:=(q9 (ρ:=ρ) (π:=π) hkz).1;have hsm':=qqx hsm;have hne:n≠0:=fun e=>by rw[e]at hn0;cases hn0
   obtain⟨cap',w1,e1,e2,e3,e4⟩:=xo (P:=P) (ρ:=ρ) (π:=π) (T:=o.type) (xs:=V.ae ρ π xs) (base:=none) (sLen:=0) (sCap:=0) (old:=[]) (new:=V.ae ρ π new) ht0 ht1 hk hku hke hdd hniz (hlx w) hex (fun w' _=>by simp[Builtin.firstCells]) (by omega) (by simp only[qk7,Nat.add_zero];omega);refine Bp (c:=c) hl (h':=st.h) (fun i o hi=>hi) hke (by rw[hks,hke.len]) h (N:=n) (cap:=cap') (vals:=V.ae ρ π new) (by simp[X.den]) (by omega) e2 e3 (by rw[au,hsz',hks,hke.len]) ?_ (full ?_)
   ·have:=wk (ρ:=ρ) (π:=π) (old:=[]) hput (by simp[X.den]) (by simp[X.den]) (fun j q k hj hk=>by simp[X.den]at hj);simpa[X.den]using this
   ·rw[show(V.nilslice).ab ρ π=.slice none 0 0 from rfl,e4];simp
  ·-- behind a row
   rename_i b off es len cap;split at hx;rotate_left
   ·obtain rfl:=qqz hx;simp[R.ag]at h
   rename_i a0 ks L e wd hz hob;split at hx;rotate_left
   ·obtain rfl:=qqz hx;simp[R.ag]at h
   rename_i hes hks he hes0;obtain rfl:=qqq hes;obtain rfl:=qqq he;have hks':=qqq hks;have hes0':0<ed.size:=by
    rcases Nat.eq_zero_or_pos ed.size with q|q
    ·rw[q]at hes0;cases hes0
    ·exact q
   split at hx;rotate_left
   ·obtain rfl:=qqz hx;simp[R.ag]at h
   rename_i a' h0 hm hput;have b0:0<=len.den ρ:=eu hpc h0;have hm':=B0 (eu hpc hm) b0;have hz':=gr ρ hz;obtain⟨cs,k1,k2,k3,k4⟩:=FO c.rep hob;have hnewl:(V.ae ρ π new).length=n*ks.length:=by rw[au,hsz',hks']
   have hone:∀ v∈V.ae ρ π new,v.oneCell'=true:=fun v hv=>by
    rw[aU]at hv;obtain⟨u,hu,rfl⟩:=qzx.1 hv;exact vg ρ π u ((mz (ρ:=ρ) (π:=π) hput).2.2.2 u hu)
   have hlen':(nh len (.lit (Int.ofNat n))).den ρ=len.den ρ+(n:Int):=by rw[fN];rfl
   have hlenN:((nh len (.lit (Int.ofNat n))).den ρ).toNat=(len.den ρ).toNat+n:=by rw[hlen'];omega
   have hlenN2:((nh len (.lit ((n:Nat):Int))).den ρ).toNat=(len.den ρ).toNat+n:=hlenN;split at hx
   ·-- room of its own
    rename_i lo;split at hx;rotate_left
    ·obtain rfl:=qqz hx;simp[R.ag]at h
    rename_i hL hlo;obtain rfl:=qqz hx;obtain rfl:=X.beq_eq hL;have hlo':=eu hpc hlo;have hcl:=k3 rfl;have hcap:(L.den ρ).toNat<=(π b).2:=by
     rw[hcl]at k2;exact Nat.le_of_mul_le_mul_right k2 (by omega)
    have hs:(V.xslice false b off ed.size L (.room lo)).ab ρ π=.slice (some ⟨(π b).1,0,none⟩) (L.den ρ).toNat (π b).2:=by
     simp only[V.ab,XC.ab,cU,hz',Nat.max_eq_left (show(lo.den ρ).toNat<=(π b).2 by omega)];simp
    by_cases hfit:(L.den ρ).toNat+n<=(π b).2
    ·have hfits:((L.den ρ).toNat+n)*ks.length<=cs.length:=by rw[hcl];exact qq7 _ hfit
     have hst:=mK (P:=P) (off:=(L.den ρ).toNat*ks.length) w k1 (by rw[hnewl,<-qk0];exact hfits) hone;simp only[xQ,bA,R.ag,qqk,qqv]at h;obtain⟨rfl,rfl⟩:=h;have hfull:(execOp a.eval o).run P w=.ok (.value (.slice (some ⟨(π b).1,0,none⟩) ((L.den ρ).toNat+n) (π b).2)) {w with heap:=w.heap.setIfInBounds (π b).1 (.cells (cs.take ((L.den ρ).toNat*ks.length)++V.ae ρ π new++cs.drop ((L.den ρ).toNat*ks.length+(V.ae ρ π new).length)).toArray e (0,0))}:=by
      refine full ?_;rw[hs];rw[hks']at hst;simp[Builtin.append_,ht0,ht1,run_underlying hu,hke.aQ,hku.cR,hlx,hex w rfl,hdu,hfit,cd,hst,hks']
     refine⟨hpc,by simp,fun hpl=>?_⟩;have hpl':=hpl (by simp);rw[hfull]at hpl';simp only[nS]at hpl';refine⟨{w with heap:=w.heap.setIfInBounds (π b).1 (.cells (cs.take ((L.den ρ).toNat*ks.length)++V.ae ρ π new++cs.drop ((L.den ρ).toNat*ks.length+(V.ae ρ π new).length)).toArray e (0,0))},by rw[hfull];simp[V.ab,XC.ab,cU,X.den,hlenN2,hpl',Nat.max_eq_left hfit],?_⟩;refine Mv.move c.rep hob (by rw[hpl']) ⟨_,rfl,?_,fun _=>?_,?_⟩ rfl
     ·rw[hlenN];simp only[qq9,qz3,qzv,hnewl];rw[qk0]at hfits ⊢;omega
     ·simp only[qq9,qz3,qzv,hnewl,hpl'];rw[qk0]at hfits;omega
     ·rw[hlenN];exact E7 hput b0 k4 (qq2 _) (.inr (qq2 _)) hfits
    ·have hrow:CL st.h false b=some (a0,ks,L):=by simp only[CL,hob]
     obtain⟨vs,g1,g2,g3,g4⟩:=yo (P:=P) (n:=(L.den ρ).toNat) c.rep hrow (qq2 _);obtain⟨cap',w1,e1,e2,e3,e4⟩:=xo (P:=P) (ρ:=ρ) (π:=π) (T:=o.type) (xs:=V.ae ρ π xs) (base:=some ⟨(π b).1,0,none⟩) (sLen:=(L.den ρ).toNat) (sCap:=(π b).2) (old:=vs) (new:=V.ae ρ π new) ht0 ht1 hk hku hke hdd hniz (hlx w) hex (fun w' hw'=>by
       have:=g2 w' hw';rw[hks']at this;simp only[Builtin.firstCells];simpa[cU]using this) hfit (by
       have:((L.den ρ).toNat+n+(π b).2+1)*(ed.bytes+1)<=(2*((L.den ρ).toNat+n+1))*(ed.bytes+1):=qq7 _ (by omega);rw[Nat.mul_assoc]at this;omega)
     rw[<-hs]at e4;exact Bp (c:=c) hl (h':=st.h.drop b) (fun i o hi=>Vo hi) hke hks' h (N:=(L.den ρ).toNat+n) (vals:=vs++V.ae ρ π new) hlenN e1 e2 e3 (by rw[qq9,g1,hnewl,qk0]) (wk hput b0 g1 g3) (full e4)
   ·-- room that is told
    rename_i cc;split at hx;rotate_left
    ·obtain rfl:=qqz hx;simp[R.ag]at h
    rename_i hL;obtain rfl:=qqz hx;obtain rfl:=X.beq_eq hL;obtain⟨st1,hl1,h1⟩:=ah hpc h;rw[dF,hlen']at h1;split at h1;rotate_left
    ·simp[R.ag]at h1
    rename_i hfit;have hfit':len.den ρ+(n:Int)<=L.den ρ:=of_decide_eq_true hfit;have hfits:((len.den ρ).toNat+n)*ks.length<=cs.length:=qzq (qq7 _ (by omega)) k2;have hst:=mK (P:=P) (off:=(len.den ρ).toNat*ks.length) w k1 (by rw[hnewl,<-qk0];exact hfits) hone;simp only[bA,R.ag,qqk,qqv]at h1;obtain⟨rfl,rfl⟩:=h1;refine⟨hl1.pc,by dsimp only;rw[hl1.n];exact qq2 _,fun _=>⟨{w with heap:=w.heap.setIfInBounds (π b).1 (.cells (cs.take ((len.den ρ).toNat*ks.length)++V.ae ρ π new++cs.drop ((len.den ρ).toNat*ks.length+(V.ae ρ π new).length)).toArray e (0,0))},full ?_,?_⟩⟩
    ·rw[show(V.xslice false b off ed.size len (.known L)).ab ρ π=.slice (some ⟨(π b).1,0,none⟩) (len.den ρ).toNat (L.den ρ).toNat by simp[V.ab,XC.ab,cU,hz']];rw[hks']at hst;have hf2:(len.den ρ).toNat+n<=(L.den ρ).toNat:=by omega
     simp[Builtin.append_,ht0,ht1,run_underlying hu,hke.aQ,hku.cR,hlx,hex w rfl,hdu,hf2,cd,hst,hks',V.ab,XC.ab,cU,hz',hlenN2]
    ·dsimp only;rw[hl1.n,hl1.h];refine Mv.turn c.rep st.n hob ⟨_,rfl,?_,fun hw=>(by cases hw),?_⟩ rfl
     ·simp only[qq9,qz3,qzv,hnewl];rw[qk0]at hfits;omega
     ·exact E7 hput b0 k4 (by omega) (.inl (qq2 _)) hfits
   ·obtain rfl:=qqz hx;simp[R.ag]at h
  ·cases hx
end ops
end Go.Proofs.YtgcbnjpeifigaaaGreatDoor
