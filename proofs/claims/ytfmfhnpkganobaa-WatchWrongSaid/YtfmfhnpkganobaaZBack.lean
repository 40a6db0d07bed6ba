/- WatchWrong: what came in; the law's walk. No condition. -/
import Derived.Test.YtfmfhnpkganobaaZRn
set_option maxRecDepth 100000
namespace Go.Proofs.Ytfmfhnpkganobaa
open Go Go.Proofs Go.ChangeShapes Go.WideShapes Go.ChangeAt Go.RowKit
structure SlD where
 z:Bool
 a:Addr
 n:Nat
 c:Nat
 g:Nat→Int→Int
def SlD.In(s:SlD)(W:World)(ks:List CK)(v:Value):Prop:=v=slW s.z s.a s.n s.c∧s.n≤s.c∧(s.z=true→s.n=0)∧(s.z=false→1≤s.n→CameIn W ks s.a s.n s.g)
section
variable {H:Type} {enc:TypeId×Value→H} {W:World} {base:Nat} {sp:Nat→Bool} {held:Bool}
theorem slIn_of{v:Value}{t e k fuel:Nat}{ks:List CK}{x:DataW H×List MemPlace} (hu:Try.prog.underlying t=some (.slice e)) (hk:flatK Try.prog k e=some ks) (hc:Try.prog.cellsOf e=ks.length) (hp:0<ks.length)
  (h:DataW.trod enc Try.prog W base sp held fuel t [v]=some x):∃ s:SlD,s.In W ks v:=by
 rcases open_row hu hk hc h with hcs | ⟨a,len,cap,zs,hcs,_,hle,hm,hz⟩
 ·obtain rfl:=List.head_eq_of_cons_eq hcs
  exact⟨⟨true,⟨0,0,none⟩,0,0,fun _ _=>0⟩,rfl,Nat.le_refl _,fun _=>rfl,fun h=>by cases h⟩
 ·obtain rfl:=List.head_eq_of_cons_eq hcs
  exact⟨⟨false,a,len,cap,_⟩,rfl,hle,(fun h=>by cases h),fun _ h=>cameIn_of h hp hz⟩
theorem open_rows{t e fuel:Nat}{v:Value}{x:DataW H×List MemPlace} (hu:Try.prog.underlying t=some (.slice e)) (hc:Try.prog.cellsOf e=1) (h:DataW.trod enc Try.prog W base sp held fuel t [v]=some x):
  v=.slice none 0 0∨∃ (a:Addr) (len cap:Nat) (zs:Nat→Value),v=.slice (some a) len cap∧len≤cap∧∀ i,i<len→W.cell? (a.add i)=some (zs i)∧∃ n y,DataW.trod enc Try.prog W base sp held n e [zs i]=some y:=by
 rcases DataW.trod_slice hu h with ⟨h0,_⟩ | ⟨a,len,cap,elems,rest,m,_,h0,_,hb,hl,hm,hlen,hel,_,_⟩
 ·exact .inl (List.head_eq_of_cons_eq h0)
 ·refine .inr ⟨a,len,cap,fun i=>(((W.cells? base (a.add (i*Try.prog.cellsOf e)) (Try.prog.cellsOf e)).getD []).head?).getD default,List.head_eq_of_cons_eq h0,hl,fun i hi=>?_⟩
  have hi':=hel i hi
  rw [List.getElem?_eq_getElem (by omega),Option.bind_eq_some_iff] at hi'
  obtain⟨cs',hcs,hy⟩:=hi'
  obtain⟨_,hl2,hg⟩:=World.cells?_some hcs
  dsimp only
  rw [hcs,Option.getD_some]
  rw [hc] at hl2 hg
  match cs',hl2 with
  | [u],_=>
   have h1:=hg 0 (by decide)
   rw [add_add,Nat.mul_one,Nat.add_zero] at h1
   exact⟨h1,_,_,hy⟩
theorem rowSl_of{a:Addr}{k:Nat}{zs:Nat→Value}(hk:1≤k) (h:∀ i,i<k→W.cell? (a.add i)=some (zs i)):a.spot=none∧∃ cs t fr,W.heap[a.block]?=some (.cells cs t fr)∧∀ j,j<k→cs[a.off+j]?=some (zs j):=by
 have h0:∃ cs t fr,W.heap[a.block]?=some (.cells cs t fr)∧a.spot=none:=by
  have h3:=h 0 hk
  unfold World.cell? at h3
  split at h3
  ·rename_i cs t fr hb
   refine⟨cs,t,fr,by simpa [Addr.add] using hb,?_⟩
   cases hs:a.spot with
   | none=>rfl
   | some n=>simp [Addr.add,hs] at h3
  ·cases h3
 obtain⟨cs,t,fr,hb,hs⟩:=h0
 refine⟨hs,cs,t,fr,hb,fun j hj=>?_⟩
 have h3:=h j hj
 rw [add_plain hs] at h3
 unfold World.cell? at h3
 dsimp only at h3
 rw [hb] at h3
 simpa using h3
end
section
variable {d:GD} {z:Bool} {gm:Nat→Int→Int} {gc:Nat→Nat→Int→Int}
theorem anys_get:∀ {k q j:Nat} {v:V},(anys q k)[j]?=some v→j<k∧v=.any (q+j)
 | 0,_,_,_,h=>by simp [anys] at h
 | k+1,q,0,v,h=>by
  simp only [anys,List.getElem?_cons_zero,Option.some.injEq] at h
  exact⟨by omega,h.symm⟩
 | k+1,q,j+1,v,h=>by
  simp only [anys,List.getElem?_cons_succ] at h
  obtain⟨h1,h2⟩:=anys_get h
  exact⟨by omega,by rw [h2];congr 1;omega⟩
theorem wR_mem:∀ {k:Nat} {x:Nat×SObj},x∈wR k→∃ j,j<k∧x=(10+j,.warr (10+j) (300+10*j) [.int .u32] (.var (52+2*j)))
 | 0,x,h=>by cases h
 | k+1,x,h=>by
  rcases List.mem_append.1 h with h | h
  ·obtain⟨j,h1,h2⟩:=wR_mem h
   exact⟨j,by omega,h2⟩
  ·exact⟨k,by omega,List.mem_singleton.1 h⟩
theorem lLen:∀ {j:Nat},j<6→(lEnv d z gm gc).v (52+2*j)=d.len j∧(lEnv d z gm gc).win (10+j)=d.at' j∧(lEnv d z gm gc).f1 (300+10*j)=gc j 0∧(lEnv d z gm gc).ro (10+j)=roW d.W (d.at' j).block∧(lPl d (10+j)).1=(d.at' j).block∧(lPl d (20+j)).3=d.cell j
 | 0,_=>⟨rfl,rfl,rfl,rfl,rfl,rfl⟩
 | 1,_=>⟨rfl,rfl,rfl,rfl,rfl,rfl⟩
 | 2,_=>⟨rfl,rfl,rfl,rfl,rfl,rfl⟩
 | 3,_=>⟨rfl,rfl,rfl,rfl,rfl,rfl⟩
 | 4,_=>⟨rfl,rfl,rfl,rfl,rfl,rfl⟩
 | 5,_=>⟨rfl,rfl,rfl,rfl,rfl,rfl⟩
theorem op_yes{j:Nat}(h:d.op j=true):d.nilc j=false∧1≤d.n j∧d.len j=d.n j∧d.at' j=d.p j:=by
 have h':=h
 unfold GD.op at h
 split at h
 ·cases h
 ·rename_i h1
  refine⟨h1,Nat.le_of_ble_eq_true h,?_,?_⟩
  ·unfold GD.len
   rw [h1]
   rfl
  ·unfold GD.at'
   rw [h']
theorem op_no{j:Nat}(h:d.op j=false):d.len j=0∧d.at' j=d.a:=by
 have h':=h
 unfold GD.op at h
 refine⟨?_,by unfold GD.at';rw [h']⟩
 unfold GD.len
 split at h
 ·rename_i h1
  rw [h1]
  rfl
 ·rename_i h1
  rw [h1]
  show d.n j=0
  by_cases h0:1≤d.n j
  ·rw [Nat.ble_eq_true_of_le h0] at h
   cases h
  ·omega
theorem lFlag:∀ {j:Nat},j<6→(lEnv d z gm gc).v (110+j)=if 1024<d.len j then 1 else 0
 | 0,_=>rfl
 | 1,_=>rfl
 | 2,_=>rfl
 | 3,_=>rfl
 | 4,_=>rfl
 | 5,_=>rfl
structure Ins (d:GD) (gc:Nat→Nat→Int→Int) (z:Bool):Prop where
 none:z=true→d.k=0
 row:1≤d.k→d.Row
 codes:∀ j,j<d.k→d.op j=true→CameIn d.W [.int .u32] (d.p j) (d.n j) (gc j)
 le:∀ j,j<d.k→d.n j≤d.c j
def MIn(d:GD)(gm:Nat→Int→Int):Nat→Prop
 | 0=>d.nilm=true
 | 1=>d.nilm=false∧d.m=0
 | _=>d.nilm=false∧1≤d.m∧d.m≤d.mc∧CameIn d.W [.int .u8] d.mp d.m gm
theorem ml_of(h:d.nilm=false):d.ml=d.m:=by
 unfold GD.ml
 rw [h]
 rfl
theorem mV_conc{π:Pl}:∀ {i:Nat},i<3→MIn d gm i→(mV i).conc (lEnv d z gm gc) π=d.mem
 | 0,_,h=>by
  unfold GD.mem
  rw [show d.nilm=true from h]
  rfl
 | 1,_,h=>by
  unfold GD.mem
  rw [h.1,h.2]
  show Value.slice (some (d.mp.add (0*1))) 0 ((d.mc:Int)).toNat=_
  rw [Int.toNat_natCast]
  simp [slW,Addr.add]
 | 2,_,h=>by
  unfold GD.mem
  rw [h.1]
  show Value.slice (some (d.mp.add (0*1))) ((d.ml:Int)).toNat ((d.mc:Int)).toNat=_
  rw [Int.toNat_natCast,Int.toNat_natCast,ml_of h.1]
  simp [slW,Addr.add]
theorem mPc_ok:∀ {i:Nat},i<3→MIn d gm i→PcOk (lEnv d z gm gc) (mPc i)
 | 0,_,_=>pcNil
 | 1,_,_=>pcCons (tle (show (0:Int)≤(d.mc:Int) from Int.natCast_nonneg _)) pcNil
 | 2,_,h=>pcCons (tle (by show (1:Int)≤(d.ml:Int);rw [ml_of h.1];exact Int.ofNat_le.2 h.2.1)) (pcCons (tle (by show (d.ml:Int)≤(d.mc:Int);rw [ml_of h.1];exact Int.ofNat_le.2 h.2.2.1)) pcNil)
theorem rowsV {ws:List (Nat×SObj)} (I:Ins d gc z) (hx:∀ x∈ws,(x=(7,.warr 7 200 [.int .u8] (.var 50))∧MIn d gm 2)∨(1≤d.k∧∃ n len,n≤d.k∧n≤6∧x=(8,.win 8 (anys 20 n) len 1))∨∃ j,j<d.k∧j<6∧x=(10+j,.warr (10+j) (300+10*j) [.int .u32] (.var (52+2*j)))):RowsV (lEnv d z gm gc) d.W ws 0 26 (lPl d):=by
 refine⟨fun i hi=>absurd hi (Nat.not_lt_zero i),fun x h=>?_,by decide,fun x h=>?_,fun x h π hπ=>?_⟩
 ·rcases hx x h with ⟨rfl,_⟩ | ⟨_,n,len,_,_,rfl⟩ | ⟨j,_,hj,rfl⟩
  ·exact⟨Nat.zero_le _,show 7<26 by decide⟩
  ·exact⟨Nat.zero_le _,show 8<26 by decide⟩
  ·exact⟨Nat.zero_le _,show 10+j<26 by omega⟩
 ·rcases hx x h with ⟨rfl,_⟩ | ⟨_,n,len,_,_,rfl⟩ | ⟨j,_,hj,rfl⟩<;>rfl
 ·rcases hx x h with ⟨rfl,hm⟩ | ⟨h0,n,len,hn,h6,rfl⟩ | ⟨j,hj,hj6,rfl⟩
  ·have hc:=hm.2.2.2
   refine⟨roW d.W d.mp.block,hc.block,hc.is (t:=200) rfl rfl (fun c hc=>?_) ?_ ?_⟩
   ·match c,hc with
    | 0,_=>rfl
   ·show ((d.ml:Int)).toNat≤d.m
    rw [Int.toNat_natCast,ml_of hm.1]
    exact Nat.le_refl _
   ·rw [hπ 7 (by show 7<26;decide)]
    rfl
  ·have R:=I.row h0
   obtain⟨cs,t,fr,h1,h2⟩:=R.row
   refine⟨_,h1,⟨R.spot,?_,cs,t,fr,rfl,fun j v hj hjk=>?_⟩,?_⟩
   ·rw [hπ 8 (by show 8<26;decide)]
    rfl
   ·obtain⟨h3,rfl⟩:=anys_get hj
    show cs[d.a.off+j]?=some (π (20+j)).3
    rw [hπ (20+j) (by show 20+j<26;omega),(lLen (d:=d) (z:=z) (gm:=gm) (gc:=gc) (j:=j) (by omega)).2.2.2.2.2]
    exact h2 j (by omega)
   ·show _=roW d.W d.a.block
    simp only [roW,h1,Option.getD_some]
  ·obtain⟨e1,e2,e3,e4,e5,_⟩:=lLen (d:=d) (z:=z) (gm:=gm) (gc:=gc) (j:=j) hj6
   have e6:(π (10+j)).1=(d.at' j).block:=by rw [hπ (10+j) (by show 10+j<26;omega),e5]
   cases ho:d.op j with
   | true=>
    obtain⟨_,_,o3,o4⟩:=op_yes ho
    rw [o4] at e2 e4 e5 e6
    have hc:=I.codes j hj ho
    refine⟨roW d.W (d.p j).block,by rw [e5];exact hc.block,hc.is (t:=300+10*j) e2 e4 (fun c hc=>?_) ?_ e6⟩
    ·match c,hc with
     | 0,_=>exact e3
    ·show ((lEnv d z gm gc).v (52+2*j)).toNat≤d.n j
     rw [e1,o3,Int.toNat_natCast]
     exact Nat.le_refl _
   | false=>
    obtain⟨o1,o2⟩:=op_no ho
    rw [o2] at e2 e4 e5 e6
    have R:=I.row (by omega)
    obtain⟨cs,t,fr,h1,h2⟩:=R.row
    refine⟨_,by rw [e5];exact h1,⟨by rw [e2];exact R.spot,by rw [e2,e6],cs,t,fr,rfl,fun j' c k hj' hk=>?_⟩,?_⟩
    ·exfalso
     have:((lEnv d z gm gc).v (52+2*j)).toNat=0:=by rw [e1,o1];rfl
     have h3:j'<((lEnv d z gm gc).v (52+2*j)).toNat:=hj'
     omega
    ·rw [e4]
     simp only [roW,h1,Option.getD_some]
theorem fit_at(I:Ins d gc z)(hk:d.k≤4){j:Nat}(hj:j<d.k):FitAt (lEnv d z gm gc) j:=by
 have R:=I.row (by omega)
 obtain⟨cs,t,fr,h1,h2⟩:=R.row
 obtain⟨e1,e2,_⟩:=lLen (d:=d) (z:=z) (gm:=gm) (gc:=gc) (j:=j) (by omega)
 have e7:=lFlag (d:=d) (z:=z) (gm:=gm) (gc:=gc) (j:=j) (by omega)
 refine⟨cs,t,fr,d.cell j,?_,h2 j hj,?_⟩
 ·show roW d.W d.a.block=_
  simp only [roW,h1,Option.getD_some]
 ·cases ho:d.op j with
  | true=>
   obtain⟨o1,o2,o3,o4⟩:=op_yes ho
   have hle:=I.le j hj
   have ec:d.cell j=.slice (some (d.p j)) (d.n j) (d.c j):=by
    unfold GD.cell
    rw [o1]
    rfl
   by_cases h40:d.n j≤1024
   ·refine .inl ⟨by rw [e7,if_neg (by omega)],.inr (.inr ⟨d.c j,?_,?_,?_,?_⟩)⟩
    ·rw [e1,e2,o4,o3,Int.toNat_natCast,ec]
    ·rw [e1];omega
    ·rw [e1];omega
    ·rw [e1];omega
   ·exact .inr ⟨by rw [e7,if_pos (by omega)];decide,_,_,_,ec,by omega,hle⟩
  | false=>
   obtain⟨o1,_⟩:=op_no ho
   refine .inl ⟨by rw [e7,if_neg (by omega)],?_⟩
   unfold GD.len at o1
   unfold GD.cell
   cases hz:d.nilc j with
   | true=>exact .inl rfl
   | false=>
    rw [hz] at o1
    have o1:d.n j=0:=o1
    rw [o1]
    exact .inr (.inl ⟨_,_,rfl⟩)
theorem gCh_concL{π:Pl}:(gCh d.lz).conc (lEnv d z gm gc) π=d.chs:=by
 unfold GD.chs
 cases d.lz
 ·show Value.slice (some (d.la.add (0*3))) ((d.ll:Int)).toNat ((d.lc:Int)).toNat=_
  rw [Int.toNat_natCast,Int.toNat_natCast]
  simp [slW,Addr.add]
 ·rfl
theorem pow_tab:((List.range 65).all fun n=>Nat.beq n 0 || (List.range 7).any (fun s=>decide ((n:Int)=pow s)) || !(bitsI 0 .i64 (n:Int) ((n:Int)-1)==0))=true:=by kernel_rfl
theorem pow_of(n:Nat)(h1:1≤n)(h2:n≤64):(∃ s,s<7∧(n:Int)=pow s)∨((X.bits 0 .i64 (.var 91) (.sub (.var 91) (.lit 1))).den {lEnv d z gm gc with v:=fun _=>(n:Int)}==(X.lit 0).den (lEnv d z gm gc))=false:=by
 have h:=List.all_eq_true.1 pow_tab n (List.mem_range.2 (by omega))
 rcases Bool.or_eq_true _ _▸h with h | h
 ·rcases Bool.or_eq_true _ _▸h with h | h
  ·have:=Nat.eq_of_beq_eq_true h
   omega
  ·obtain⟨s,h3,h4⟩:=List.any_eq_true.1 h
   exact .inl ⟨s,List.mem_range.1 h3,of_decide_eq_true h4⟩
 ·right
  show (bitsI 0 .i64 (n:Int) ((n:Int)-1)==0)=false
  cases hb:(bitsI 0 .i64 (n:Int) ((n:Int)-1)==0) with
  | false=>rfl
  | true=>rw [hb] at h;cases h
theorem sets_of:∃ s,s<11∧(sX s).den (lEnv d z gm gc)=d.s∧1≤s∧PcOk (lEnv d z gm gc) (sPc s):=by
 have e91:(X.var 91).den (lEnv d z gm gc)=d.s:=rfl
 have lt1:∀ {x y:X} {b:Bool},decide (x.den (lEnv d z gm gc)<y.den (lEnv d z gm gc))=b→(X.lt x y).tt (lEnv d z gm gc)=b:=fun h=>by rw [tt_lt];exact h
 by_cases h1:d.s<1
 ·exact⟨1,by decide,rfl,by decide,pcCons (lt1 (by rw [e91];exact decide_eq_true h1)) pcNil⟩
 have p1:(X.lt (.var 91) (.lit 1)).tt (lEnv d z gm gc)=false:=lt1 (by rw [e91];exact decide_eq_false h1)
 by_cases h2:64<d.s
 ·exact⟨2,by decide,rfl,by decide,pcCons p1 (pcCons (lt1 (by rw [e91];exact decide_eq_true h2)) pcNil)⟩
 have p2:(X.lt (.lit 64) (.var 91)).tt (lEnv d z gm gc)=false:=lt1 (by rw [e91];exact decide_eq_false h2)
 have hn:(d.s.toNat:Int)=d.s:=by omega
 rcases pow_of (d:=d) (z:=z) (gm:=gm) (gc:=gc) d.s.toNat (by omega) (by omega) with ⟨s,s1,s2⟩ | h
 ·exact⟨s+4,by omega,by show pow s=d.s;rw [←s2,hn],by omega,pcNil⟩
 ·have h:((X.bits 0 .i64 (.var 91) (.sub (.var 91) (.lit 1))).den (lEnv d z gm gc)==(X.lit 0).den (lEnv d z gm gc))=false:=by
   rw [hn] at h
   exact h
  exact⟨3,by decide,rfl,by decide,pcCons p1 (pcCons p2 (pcCons (by rw [tt_eq];exact h) pcNil))⟩
theorem kC:∀ {k:Nat},1≤k→k≤4→kR (k+1)=(8,.win 8 (anys 20 k) (.lit (.ofNat k)) 1)::wR k∧kV (k+1)=.wslice 8 0 (.lit (.ofNat k)) (.var 92)∧k0 (k+1)=k∧hasR (k+1)=true∧Nat.beq (k+1) 6=false
 | 1,_,_=>⟨rfl,rfl,rfl,rfl,rfl⟩
 | 2,_,_=>⟨rfl,rfl,rfl,rfl,rfl⟩
 | 3,_,_=>⟨rfl,rfl,rfl,rfl,rfl⟩
 | 4,_,_=>⟨rfl,rfl,rfl,rfl,rfl⟩
def CI(d:GD)(z:Bool)(i c:Nat):Prop:=(c=0∧z=true)∨(c=1∧z=false∧d.k=0)∨(c=6∧z=false∧1≤d.k∧(i=2→4<d.k))∨(∃ k,c=k+1∧z=false∧d.k=k∧1≤k∧k≤4∧i=2)
theorem ci_of{i:Nat}(hi:i<3)(hz:z=true→d.k=0):∃ c,CI d z i c:=by
 cases z with
 | true=>exact⟨0,.inl ⟨rfl,rfl⟩⟩
 | false=>
  by_cases h0:d.k=0
  ·exact⟨1,.inr (.inl ⟨rfl,rfl,h0⟩)⟩
  ·by_cases h2:i=2
   ·by_cases h4:d.k≤4
    ·exact⟨d.k+1,.inr (.inr (.inr ⟨d.k,rfl,rfl,rfl,by omega,h4,h2⟩))⟩
    ·exact⟨6,.inr (.inr (.inl ⟨rfl,rfl,by omega,fun _=>by omega⟩))⟩
   ·exact⟨6,.inr (.inr (.inl ⟨rfl,rfl,by omega,fun h=>absurd h h2⟩))⟩
theorem add0{a:Addr}:a.add 0=a:=by simp [Addr.add]
theorem kV_conc{π:Pl}{i c:Nat}(h:CI d z i c):(kV c).conc (lEnv d z gm gc) π=d.codes z:=by
 rcases h with ⟨rfl,rfl⟩ | ⟨rfl,rfl,h0⟩ | ⟨rfl,rfl,_⟩ | ⟨k,rfl,rfl,rfl,h1,h4,_⟩
 ·rfl
 ·show Value.slice (some (d.a.add 0)) 0 ((d.cap:Int)).toNat=.slice (some d.a) d.k d.cap
  rw [Int.toNat_natCast,add0,h0]
 ·show Value.slice (some (d.a.add 0)) ((d.k:Int)).toNat ((d.cap:Int)).toNat=.slice (some d.a) d.k d.cap
  rw [Int.toNat_natCast,Int.toNat_natCast,add0]
 ·rw [(kC h1 h4).2.1]
  show Value.slice (some (d.a.add 0)) ((d.k:Int)).toNat ((d.cap:Int)).toNat=.slice (some d.a) d.k d.cap
  rw [Int.toNat_natCast,Int.toNat_natCast,add0]
theorem arg_conc{π:Pl}{i c:Nat}(hi:i<3)(hm:MIn d gm i)(hc:CI d z i c){x:X} (hs:x.den (lEnv d z gm gc)=d.s):(argV (kV c) (mV i) x).conc (lEnv d z gm gc) π=d.setup z:=by
 show Value.agg [(kV c).conc (lEnv d z gm gc) π,(mV i).conc (lEnv d z gm gc) π,.int .i64 (x.den (lEnv d z gm gc)),.int .i64 d.w].toArray=_
 rw [kV_conc hc,mV_conc hi hm,hs]
 rfl
theorem rows_of{i c:Nat}(hi:i<3)(hm:MIn d gm i)(hc:CI d z i c)(I:Ins d gc z):RowsV (lEnv d z gm gc) d.W (mR i++kR c) 0 26 (lPl d):=by
 refine rowsV I fun x h=>?_
 rcases List.mem_append.1 h with h | h
 ·left
  match i,hi,hm,h with
  | 0,_,_,h=>cases h
  | 1,_,_,h=>cases h
  | 2,_,hm,h=>exact⟨List.mem_singleton.1 h,hm⟩
 ·right
  rcases hc with ⟨rfl,rfl⟩ | ⟨rfl,rfl,h0⟩ | ⟨rfl,rfl,h1,_⟩ | ⟨k,rfl,rfl,rfl,h1,h4,_⟩
  ·cases h
  ·cases h
  ·obtain rfl:=List.mem_singleton.1 h
   exact .inl ⟨h1,0,_,Nat.zero_le _,Nat.zero_le _,rfl⟩
  ·rw [(kC h1 h4).1] at h
   rcases List.mem_cons.1 h with rfl | h
   ·exact .inl ⟨h1,d.k,_,Nat.le_refl _,by omega,rfl⟩
   ·obtain⟨j,h5,rfl⟩:=wR_mem h
    exact .inr ⟨j,h5,by omega,rfl⟩
theorem runC_all{lz:Bool}{k s:Nat}(h1:1≤k)(h4:k≤4)(hs1:1≤s)(hs:s<11):runW lz (k+1) 2 s=true:=by
 match k,h1,h4 with
 | 1,_,_=>exact run1_all hs1 hs
 | 2,_,_=>exact run2_all hs1 hs
 | 3,_,_=>exact run3_all hs1 hs
 | 4,_,_=>exact run4_all hs1 hs
theorem wrong_go{i:Nat}(I:Ins d gc z)(hi:i<3)(hm:MIn d gm i):Calls Try.prog 3 #[d.setup z,d.chs,.int .i64 d.at_] d.W fun e W'=>e=.returned (.bool true)∧Below d.W.heap.size d.W W':=by
 obtain⟨c,hc⟩:=ci_of (d:=d) (z:=z) hi I.none
 obtain⟨s0,hs0,hx0,h10,hp0⟩:=sets_of (d:=d) (z:=z) (gm:=gm) (gc:=gc)
 have hrun:∃ s,(sX s).den (lEnv d z gm gc)=d.s∧PcOk (lEnv d z gm gc) (sPc s)∧runW d.lz c i s=true:=by
  rcases hc with ⟨rfl,_⟩ | ⟨rfl,_⟩ | ⟨rfl,_⟩ | ⟨k,rfl,_,_,h1,h4,rfl⟩
  ·exact⟨0,rfl,pcNil,runO_all (.inl rfl) hi⟩
  ·exact⟨0,rfl,pcNil,runO_all (.inr (.inl rfl)) hi⟩
  ·exact⟨0,rfl,pcNil,runO_all (.inr (.inr rfl)) hi⟩
  ·exact⟨s0,hx0,hp0,runC_all h1 h4 h10 hs0⟩
 obtain⟨s,hx,hp,hr⟩:=hrun
 have hk0:k0 c≤4∧k0 c≤d.k:=by
  rcases hc with ⟨rfl,_⟩ | ⟨rfl,_⟩ | ⟨rfl,_⟩ | ⟨k,rfl,_,rfl,h1,h4,_⟩
  ·exact⟨Nat.zero_le _,Nat.zero_le _⟩
  ·exact⟨Nat.zero_le _,Nat.zero_le _⟩
  ·exact⟨Nat.zero_le _,Nat.zero_le _⟩
  ·rw [(kC h1 h4).2.2.1]
   exact⟨h4,Nat.le_refl _⟩
 have hfit:∀ j,j<k0 c→FitAt (lEnv d z gm gc) j:=fun j hj=>by
  have h4:d.k≤4:=by
   rcases hc with ⟨rfl,_⟩ | ⟨rfl,_⟩ | ⟨rfl,_⟩ | ⟨k,rfl,_,rfl,h1,h4,_⟩
   ·exact absurd hj (Nat.not_lt_zero _)
   ·exact absurd hj (Nat.not_lt_zero _)
   ·exact absurd hj (Nat.not_lt_zero _)
   ·exact h4
  exact fit_at I h4 (by omega)
 have harg:∀ π,(argV (kV c) (mV i) (sX s)).conc (lEnv d z gm gc) π=d.setup z:=fun π=>arg_conc hi hm hc hx
 have hrow:hasR c=false→d.k=0:=fun hh=>by
  rcases hc with ⟨rfl,h⟩ | ⟨rfl,_,h⟩ | ⟨rfl,_⟩ | ⟨k,rfl,_,rfl,h1,h4,_⟩
  ·exact I.none h
  ·exact h
  ·cases hh
  ·rw [(kC h1 h4).2.2.2.1] at hh
   cases hh
 have hrow':hasR c=true→d.Row∧(lEnv d z gm gc).win 8=d.a∧(lEnv d z gm gc).ro 8=roW d.W d.a.block:=fun h=>by
  refine⟨I.row ?_,rfl,rfl⟩
  rcases hc with ⟨rfl,_⟩ | ⟨rfl,_,_⟩ | ⟨rfl,_,h,_⟩ | ⟨k,rfl,_,rfl,h1,h4,_⟩
  ·cases h
  ·cases h
  ·exact h
  ·exact h1
 have hsum:SumOk Try.prog (cxV (k0 c) (argV (kV c) (mV i) (sX s)) (gCh d.lz) (hasR c)) (lEnv d z gm gc):=
  smOf_okL (l:=smV (k0 c) (argV (kV c) (mV i) (sX s)) (gCh d.lz) (hasR c)) ⟨knAt rfl,coreS_ok hk0.1 hfit,vastS_ok harg (fun π=>gCh_concL) I.none hrow hrow' rfl,equalS_ok rfl fun j=>rfl,trivial⟩ rfl
 have hf:PcOk (lEnv d z gm gc) (fPc (Nat.beq c 6&&Nat.beq i 2)):=by
  cases hb:Nat.beq c 6&&Nat.beq i 2 with
  | false=>exact pcNil
  | true=>
   rw [Bool.and_eq_true] at hb
   obtain rfl:=Nat.eq_of_beq_eq_true hb.1
   obtain rfl:=Nat.eq_of_beq_eq_true hb.2
   refine pcCons (tlt ?_) pcNil
   show (4:Int)<(d.k:Int)
   rcases hc with ⟨h,_⟩ | ⟨h,_⟩ | ⟨_,_,_,h⟩ | ⟨k,h,_,_,h1,h4,_⟩
   ·cases h
   ·cases h
   ·have:=h rfl
    omega
   ·omega
 have one:PcOk (lEnv d z gm gc) [(.le (.lit 0) (.lit 7),true)]:=pcCons rfl pcNil
 unfold runW at hr
 refine law_rowsV (cx:=cxV (k0 c) (argV (kV c) (mV i) (sX s)) (gCh d.lz) (hasR c)) (L:=LStart) (ng:=0) (nm:=26) (ρ:=lEnv d z gm gc) (N:=4000) mixed_door tt_ok ft_ok hsum Try.func3 rfl LStart_lt ro_nil heap_nil (rows_of hi hm hc I) (pcApp (mPc_ok hi hm) (pcApp hf (pcApp hp one))) (by rw [evT_call];exact hr) fun π _=>?_
 show [(argV (kV c) (mV i) (sX s)).conc (lEnv d z gm gc) π,(gCh d.lz).conc (lEnv d z gm gc) π,.int .i64 d.at_]=_
 rw [harg,gCh_concL]
end
theorem setup_of{H:Type}{enc:TypeId×Value→H}{W:World}{v:Value}{d0:DataW H}{p:List MemPlace}{base b0:Nat}{sp:Nat→Bool}{held:Bool}{r:Reach}(hval:Value.okWide Try.prog W r b0 25 v)(h:DataW.Trod enc Try.prog W base sp held 25 v d0 p):
  ∃ u0 u1 s w,v=.agg #[u0,u1,.int .i64 s,.int .i64 w]∧(∃ fuel x,DataW.trod enc Try.prog W base sp held fuel 22 [u0]=some x)∧∃ m:SlD,m.In W [.int .u8] u1:=by
 obtain⟨cs,rfl,hs⟩:=okWide_struct Try.underlying25 hval
 obtain⟨fuel,hf⟩:=h
 obtain⟨xs,m,rfl,_,hlen,hxs,hel⟩:=DataW.trod_struct Try.underlying25 hf
 have hc:Try.prog.cellsOf 25=4:=by kernel_rfl
 have c0:Try.prog.cellsOf 22=1:=by kernel_rfl
 have c1:Try.prog.cellsOf 23=1:=by kernel_rfl
 have c2:Try.prog.cellsOf 3=1:=by kernel_rfl
 obtain⟨l⟩:=cs
 have hl:l.length=4:=by simpa [hc] using hs
 have hxl:xs.length=4:=by simpa using hxs
 have get:∀ i (hi:i<xs.length),xs[i]?=some xs[i]:=fun i hi=>List.getElem?_eq_getElem hi
 match l,hl with
 | [a0,a1,a2,a3],_=>
  have e0:=hel 0 {name := "Codes", type:=22,offset:=0,embedded:=false,tag := "", pkgPath := "", byteOffset:=0} rfl
  have e1:=hel 1 {name := "Bytes", type:=23,offset:=1,embedded:=false,tag := "", pkgPath := "", byteOffset:=24} rfl
  have e2:=hel 2 {name := "Sets", type:=3,offset:=2,embedded:=false,tag := "", pkgPath := "", byteOffset:=48} rfl
  have e3:=hel 3 {name := "Ways", type:=3,offset:=3,embedded:=false,tag := "", pkgPath := "", byteOffset:=56} rfl
  rw [get _ (by omega)] at e0 e1 e2 e3
  dsimp only at e0 e1 e2 e3
  rw [c0] at e0
  rw [c1] at e1
  rw [c2] at e2 e3
  obtain⟨s,h2,_⟩:=DataW.trod_int Try.underlying3 e2
  obtain⟨w,h3,_⟩:=DataW.trod_int Try.underlying3 e3
  simp [Value.cells] at h2 h3
  subst h2 h3
  exact⟨a0,a1,s,w,rfl,⟨_,_,e0⟩,slIn_of (k:=3) Try.underlying23 (by kernel_rfl) (by kernel_rfl) (by decide) e1⟩
theorem mIn_of{d:GD}{s:SlD}{u:Value} (h:s.In d.W [.int .u8] u) (hz:d.nilm=s.z) (hm:d.m=s.n) (hc:d.mc=s.c) (hp:d.mp=s.a):∃ i,i<3∧MIn d s.g i:=by
 obtain⟨_,h2,h3,h4⟩:=h
 cases hs:s.z with
 | true=>exact⟨0,by decide,hz.trans hs⟩
 | false=>
  by_cases h0:s.n=0
  ·exact⟨1,by decide,hz.trans hs,hm.trans h0⟩
  ·refine⟨2,by decide,hz.trans hs,by omega,by omega,?_⟩
   rw [hp,hm]
   exact h4 hs (by omega)
theorem wrong_walk{H:Type}{enc:TypeId×Value→H}{W:World}{v0 v1 v2:Value}{d0 d1 d2:DataW H}{p0 p1 p2:List MemPlace}{b0 b1 b2:Nat}(hv0:Value.okWide Try.prog W .any b0 25 v0)(hv1:Value.okWide Try.prog W .any b1 26 v1)(hv2:Value.okWide Try.prog W .any b2 3 v2)
  (h0:DataW.Trod enc Try.prog W 0 (fun _=>true) true 25 v0 d0 p0) (h1:DataW.Trod enc Try.prog W 0 (fun _=>true) true 26 v1 d1 p1) (h2:DataW.Trod enc Try.prog W 0 (fun _=>true) true 3 v2 d2 p2):Calls Try.prog 3 #[v0,v1,v2] W fun e W'=>e=.returned (.bool true)∧Below W.heap.size W W':=by
 obtain⟨u0,u1,s,w,rfl,⟨fuel,x,hx⟩,m,hm⟩:=setup_of hv0 h0
 have hu1:u1=slW m.z m.a m.n m.c:=hm.1
 obtain⟨lz,la,ll,lc,rfl⟩:∃ lz la ll lc,v1=slW lz la ll lc:=by
  obtain⟨ad,ln,cp,rfl⟩:=okWide_slice Try.underlying26 hv1
  obtain⟨fuel,hf⟩:=h1
  rcases DataW.trod_slice Try.underlying26 hf with ⟨h0,_⟩ | ⟨a,len,cap,elems,rest,m,_,h0,_⟩
  ·exact⟨true,⟨0,0,none⟩,0,0,by have:=List.head_eq_of_cons_eq h0;exact this⟩
  ·exact⟨false,a,len,cap,by have:=List.head_eq_of_cons_eq h0;exact this⟩
 obtain⟨at_,rfl,_⟩:=open_int Try.underlying3 hv2 h2
 rcases open_rows Try.underlying22 (by kernel_rfl) hx with rfl | ⟨a,len,cap,zs,rfl,hle,hel⟩
 ·let d:GD:=⟨W,0,0,⟨0,0,none⟩,fun _=>true,fun _=>0,fun _=>0,fun _=>⟨0,0,none⟩,m.z,m.n,m.c,m.a,s,w,lz,la,ll,lc,at_⟩
  obtain⟨i,hi,hmi⟩:=mIn_of (d:=d) hm rfl rfl rfl rfl
  have key:=wrong_go (d:=d) (z:=true) (gc:=fun _ _ _=>0) ⟨fun _=>rfl,(fun h=>by cases h),(fun j hj=>by cases hj),fun j hj=>by cases hj⟩ hi hmi
  rw [hu1]
  exact key
 ·have hsl:∀ j,∃ c:SlD,j<len→c.In W [.int .u32] (zs j):=fun j=>by
   by_cases hj:j<len
   ·obtain⟨_,n,y,hy⟩:=hel j hj
    obtain⟨c,hc⟩:=slIn_of (ks:=[.int .u32]) (k:=3) Try.underlying43 (by kernel_rfl) (by kernel_rfl) (by decide) hy
    exact⟨c,fun _=>hc⟩
   ·exact⟨⟨true,⟨0,0,none⟩,0,0,fun _ _=>0⟩,fun h=>absurd h hj⟩
  obtain⟨f,hf⟩:=Classical.axiomOfChoice hsl
  let d:GD:=⟨W,len,cap,a,fun j=>(f j).z,fun j=>(f j).n,fun j=>(f j).c,fun j=>(f j).a,m.z,m.n,m.c,m.a,s,w,lz,la,ll,lc,at_⟩
  obtain⟨i,hi,hmi⟩:=mIn_of (d:=d) hm rfl rfl rfl rfl
  have hrow:1≤len→d.Row:=fun h1=>by
   obtain⟨r1,cs,t,fr,r2,r3⟩:=rowSl_of h1 fun i hi=>(hel i hi).1
   refine⟨r1,cs,t,fr,r2,fun j hj=>?_⟩
   rw [r3 j hj,(hf j hj).1]
   rfl
  have key:=wrong_go (d:=d) (z:=false) (gc:=fun j=>(f j).g) ⟨(fun h=>by cases h),fun h1=>hrow h1,(fun j hj ho=>by
   obtain⟨o1,o2,_,_⟩:=op_yes ho
   exact (hf j hj).2.2.2 o1 o2),fun j hj=>(hf j hj).2.1⟩ hi hmi
  rw [hu1]
  exact key
end Go.Proofs.Ytfmfhnpkganobaa
