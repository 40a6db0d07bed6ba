/- vast: a truth, whatever came in. No condition. -/
import Derived.Test.YtfmfhnpkganobaaZDoor
set_option maxRecDepth 100000
namespace Go.Proofs.Ytfmfhnpkganobaa
open Go Go.Proofs Go.RowKit
structure GD where
 W:World
 k:Nat
 cap:Nat
 a:Addr
 nilc:Nat→Bool
 n:Nat→Nat
 c:Nat→Nat
 p:Nat→Addr
 nilm:Bool
 m:Nat
 mc:Nat
 mp:Addr
 s:Int
 w:Int
 lz:Bool
 la:Addr
 ll:Nat
 lc:Nat
 at_:Int
def slW(z:Bool)(a:Addr)(n c:Nat):Value:=match z with
 | true=>.slice none 0 0
 | false=>.slice (some a) n c
def lnW(z:Bool)(n:Nat):Nat:=match z with
 | true=>0
 | false=>n
def GD.cell(d:GD)(j:Nat):Value:=slW (d.nilc j) (d.p j) (d.n j) (d.c j)
def GD.len(d:GD)(j:Nat):Nat:=lnW (d.nilc j) (d.n j)
def GD.ml(d:GD):Nat:=lnW d.nilm d.m
def GD.mem(d:GD):Value:=slW d.nilm d.mp d.m d.mc
def GD.chs(d:GD):Value:=slW d.lz d.la d.ll d.lc
def b01:Bool→Int
 | true=>0
 | false=>1
def GD.codes(d:GD):Bool→Value
 | true=>.slice none 0 0
 | false=>.slice (some d.a) d.k d.cap
def GD.setup(d:GD)(z:Bool):Value:=.agg #[d.codes z,d.mem,.int .i64 d.s,.int .i64 d.w]
structure GD.Row (d:GD):Prop where
 spot:d.a.spot=none
 row:∃ cs t fr,d.W.heap[d.a.block]?=some (.cells cs t fr)∧∀ j,j<d.k→cs[d.a.off+j]?=some (d.cell j)
def vEnv(d:GD):Env:=
 {b:=fun _=>false
  v:=fun i=>if i=50 then d.ml else if i=51 then d.mc else if i=68 then b01 d.nilm else if i=92 then d.cap else if i=93 then d.k else if i=91 then d.s else if i=90 then d.w else if i=94 then d.ll else if i=95 then d.lc else if 70≤i∧i<80 then b01 (d.nilc (i-70)) else if i % 2=0 then d.len ((i-52) / 2) else d.c ((i-53) / 2)
  f1:=fun _ _=>0
  f2:=fun _ _ _=>0,s:=fun _=>[],sf:=fun _ _=>[]
  ro:=fun _=>roW d.W d.a.block
  win:=fun i=>if i=7 then d.mp else if i=8 then d.a else if i=9 then d.la else d.p (i-10)}
def gCell(j:Nat):V:=.ite (.eq (.var (70+j)) (.lit 0)) .nilslice (.xslice true (10+j) (.lit 0) 1 (.var (52+2*j)) (.known (.var (53+2*j))))
def gCellQ(q j:Nat):V:=match Nat.blt q 8&&Nat.blt j 3 with
 | true=>match q.testBit j with
  | true=>.nilslice
  | false=>.xslice true (10+j) (.lit 0) 1 (.var (52+2*j)) (.known (.var (53+2*j)))
 | false=>gCell j
def gCells(q:Nat):Nat→List V
 | 0=>[]
 | k+1=>gCells q k++[gCellQ q k]
def gMem:V:=.ite (.eq (.var 68) (.lit 0)) .nilslice (.xslice true 7 (.lit 0) 1 (.var 50) (.known (.var 51)))
def gCh:Bool→V
 | true=>.nilslice
 | false=>.xslice true 9 (.lit 0) 3 (.var 94) (.known (.var 95))
def gPcs:Nat→PC
 | 0=>[(.le (.lit 0) (.var 50),true),(.le (.lit 0) (.var 94),true),(.le (.lit 0) (.lit 7),true)]
 | k+1=>(.le (.lit 0) (.var (52+2*k)),true)::gPcs k
def gCodes(z:Bool)(k:Nat):V:=match z,Nat.blt k 8 with
 | true,_=>.nilslice
 | false,true=>.wslice 8 0 (.lit (.ofNat k)) (.var 92)
 | false,false=>.wslice 8 0 (.var 93) (.var 92)
def gWs(q:Nat)(z:Bool)(k:Nat):List (Nat×SObj):=match z,Nat.beq k 0,Nat.blt k 8 with
 | true,_,_=>[]
 | false,true,_=>[]
 | false,false,true=>[(8,.win 8 (gCells q k) (.lit (.ofNat k)) 1)]
 | false,false,false=>[(8,.win 8 (gCells q 8) (.var 93) 1)]
def gPc(z:Bool)(k:Nat):PC:=match z,Nat.blt k 8 with
 | true,_=>gPcs 0
 | false,true=>gPcs k
 | false,false=>(.le (.lit 8) (.var 93),true)::gPcs 8
noncomputable def vRun(q:Nat)(lz z:Bool)(k:Nat):EOut:=(evT {cxD with sx:=true,js:=true} 4000).call 5 [.agg [gCodes z k,gMem,.int .i64 (.var 91),.int .i64 (.var 90)],gCh lz] (stRows LStart (gWs q z k) 30 (gPc z k))
def isB(v:V)(_:St):Bool:=match v with
 | .bool _=>true
 | _=>false
noncomputable def vOk(q:Nat)(lz z:Bool)(k:Nat):Bool:=overR (vRun q lz z k) isB
theorem v0:vOk 8 false true 0=true:=by kernel_rfl
theorem v1:vOk 8 true true 0=true:=by kernel_rfl
def kI(k:Nat):Nat:=match Nat.blt k 8 with
 | true=>k
 | false=>8
def bq:Bool→Nat
 | true=>1
 | false=>0
def GD.q(d:GD):Nat:=match Nat.blt d.k 6 with
 | true=>8
 | false=>bq (d.nilc 0)+2*bq (d.nilc 1)+4*bq (d.nilc 2)
noncomputable def GD.vb(d:GD)(z:Bool):Bool:=match (vRun d.q d.lz z (kI d.k)).sel (vEnv d) with
 | some (.ret (.bool x),_)=>x.tt (vEnv d)
 | _=>false
theorem v0_false:vOk 8 false false 0=true:=by kernel_rfl
theorem v1_false:vOk 8 false false 1=true:=by kernel_rfl
theorem v2_false:vOk 8 false false 2=true:=by kernel_rfl
theorem v3_false:vOk 8 false false 3=true:=by kernel_rfl
theorem v4_false:vOk 8 false false 4=true:=by kernel_rfl
theorem v5_false:vOk 8 false false 5=true:=by kernel_rfl
theorem v6_0_false:vOk 0 false false 6=true:=by kernel_rfl
theorem v6_1_false:vOk 1 false false 6=true:=by kernel_rfl
theorem v6_2_false:vOk 2 false false 6=true:=by kernel_rfl
theorem v6_3_false:vOk 3 false false 6=true:=by kernel_rfl
theorem v6_4_false:vOk 4 false false 6=true:=by kernel_rfl
theorem v6_5_false:vOk 5 false false 6=true:=by kernel_rfl
theorem v6_6_false:vOk 6 false false 6=true:=by kernel_rfl
theorem v6_7_false:vOk 7 false false 6=true:=by kernel_rfl
theorem v7_0_false:vOk 0 false false 7=true:=by kernel_rfl
theorem v7_1_false:vOk 1 false false 7=true:=by kernel_rfl
theorem v7_2_false:vOk 2 false false 7=true:=by kernel_rfl
theorem v7_3_false:vOk 3 false false 7=true:=by kernel_rfl
theorem v7_4_false:vOk 4 false false 7=true:=by kernel_rfl
theorem v7_5_false:vOk 5 false false 7=true:=by kernel_rfl
theorem v7_6_false:vOk 6 false false 7=true:=by kernel_rfl
theorem v7_7_false:vOk 7 false false 7=true:=by kernel_rfl
theorem v8_0_false:vOk 0 false false 8=true:=by kernel_rfl
theorem v8_1_false:vOk 1 false false 8=true:=by kernel_rfl
theorem v8_2_false:vOk 2 false false 8=true:=by kernel_rfl
theorem v8_3_false:vOk 3 false false 8=true:=by kernel_rfl
theorem v8_4_false:vOk 4 false false 8=true:=by kernel_rfl
theorem v8_5_false:vOk 5 false false 8=true:=by kernel_rfl
theorem v8_6_false:vOk 6 false false 8=true:=by kernel_rfl
theorem v8_7_false:vOk 7 false false 8=true:=by kernel_rfl
theorem v0_true:vOk 8 true false 0=true:=by kernel_rfl
theorem v1_true:vOk 8 true false 1=true:=by kernel_rfl
theorem v2_true:vOk 8 true false 2=true:=by kernel_rfl
theorem v3_true:vOk 8 true false 3=true:=by kernel_rfl
theorem v4_true:vOk 8 true false 4=true:=by kernel_rfl
theorem v5_true:vOk 8 true false 5=true:=by kernel_rfl
theorem v6_0_true:vOk 0 true false 6=true:=by kernel_rfl
theorem v6_1_true:vOk 1 true false 6=true:=by kernel_rfl
theorem v6_2_true:vOk 2 true false 6=true:=by kernel_rfl
theorem v6_3_true:vOk 3 true false 6=true:=by kernel_rfl
theorem v6_4_true:vOk 4 true false 6=true:=by kernel_rfl
theorem v6_5_true:vOk 5 true false 6=true:=by kernel_rfl
theorem v6_6_true:vOk 6 true false 6=true:=by kernel_rfl
theorem v6_7_true:vOk 7 true false 6=true:=by kernel_rfl
theorem v7_0_true:vOk 0 true false 7=true:=by kernel_rfl
theorem v7_1_true:vOk 1 true false 7=true:=by kernel_rfl
theorem v7_2_true:vOk 2 true false 7=true:=by kernel_rfl
theorem v7_3_true:vOk 3 true false 7=true:=by kernel_rfl
theorem v7_4_true:vOk 4 true false 7=true:=by kernel_rfl
theorem v7_5_true:vOk 5 true false 7=true:=by kernel_rfl
theorem v7_6_true:vOk 6 true false 7=true:=by kernel_rfl
theorem v7_7_true:vOk 7 true false 7=true:=by kernel_rfl
theorem v8_0_true:vOk 0 true false 8=true:=by kernel_rfl
theorem v8_1_true:vOk 1 true false 8=true:=by kernel_rfl
theorem v8_2_true:vOk 2 true false 8=true:=by kernel_rfl
theorem v8_3_true:vOk 3 true false 8=true:=by kernel_rfl
theorem v8_4_true:vOk 4 true false 8=true:=by kernel_rfl
theorem v8_5_true:vOk 5 true false 8=true:=by kernel_rfl
theorem v8_6_true:vOk 6 true false 8=true:=by kernel_rfl
theorem v8_7_true:vOk 7 true false 8=true:=by kernel_rfl
theorem v_all{lz z:Bool}{q k:Nat}(hz:z=true→k=0)(hk:k≤8) (hq:(k<6∧q=8)∨(6≤k∧q<8)):vOk q lz z k=true:=by
 rcases hq with ⟨h6,rfl⟩ | ⟨h6,hq⟩
 ·match lz,z,k,hz,h6 with
  | false,true,0,_,_=>exact v0
  | true,true,0,_,_=>exact v1
  | _,true,k+1,hz,_=>cases hz rfl
  | false,false,0,_,_=>exact v0_false
  | true,false,0,_,_=>exact v0_true
  | false,false,1,_,_=>exact v1_false
  | true,false,1,_,_=>exact v1_true
  | false,false,2,_,_=>exact v2_false
  | true,false,2,_,_=>exact v2_true
  | false,false,3,_,_=>exact v3_false
  | true,false,3,_,_=>exact v3_true
  | false,false,4,_,_=>exact v4_false
  | true,false,4,_,_=>exact v4_true
  | false,false,5,_,_=>exact v5_false
  | true,false,5,_,_=>exact v5_true
 ·cases z with
  | true=>have:=hz rfl;omega
  | false=>
   match lz,k,q,h6,hk,hq with
   | false,6,0,_,_,_=>exact v6_0_false
   | false,6,1,_,_,_=>exact v6_1_false
   | false,6,2,_,_,_=>exact v6_2_false
   | false,6,3,_,_,_=>exact v6_3_false
   | false,6,4,_,_,_=>exact v6_4_false
   | false,6,5,_,_,_=>exact v6_5_false
   | false,6,6,_,_,_=>exact v6_6_false
   | false,6,7,_,_,_=>exact v6_7_false
   | false,7,0,_,_,_=>exact v7_0_false
   | false,7,1,_,_,_=>exact v7_1_false
   | false,7,2,_,_,_=>exact v7_2_false
   | false,7,3,_,_,_=>exact v7_3_false
   | false,7,4,_,_,_=>exact v7_4_false
   | false,7,5,_,_,_=>exact v7_5_false
   | false,7,6,_,_,_=>exact v7_6_false
   | false,7,7,_,_,_=>exact v7_7_false
   | false,8,0,_,_,_=>exact v8_0_false
   | false,8,1,_,_,_=>exact v8_1_false
   | false,8,2,_,_,_=>exact v8_2_false
   | false,8,3,_,_,_=>exact v8_3_false
   | false,8,4,_,_,_=>exact v8_4_false
   | false,8,5,_,_,_=>exact v8_5_false
   | false,8,6,_,_,_=>exact v8_6_false
   | false,8,7,_,_,_=>exact v8_7_false
   | true,6,0,_,_,_=>exact v6_0_true
   | true,6,1,_,_,_=>exact v6_1_true
   | true,6,2,_,_,_=>exact v6_2_true
   | true,6,3,_,_,_=>exact v6_3_true
   | true,6,4,_,_,_=>exact v6_4_true
   | true,6,5,_,_,_=>exact v6_5_true
   | true,6,6,_,_,_=>exact v6_6_true
   | true,6,7,_,_,_=>exact v6_7_true
   | true,7,0,_,_,_=>exact v7_0_true
   | true,7,1,_,_,_=>exact v7_1_true
   | true,7,2,_,_,_=>exact v7_2_true
   | true,7,3,_,_,_=>exact v7_3_true
   | true,7,4,_,_,_=>exact v7_4_true
   | true,7,5,_,_,_=>exact v7_5_true
   | true,7,6,_,_,_=>exact v7_6_true
   | true,7,7,_,_,_=>exact v7_7_true
   | true,8,0,_,_,_=>exact v8_0_true
   | true,8,1,_,_,_=>exact v8_1_true
   | true,8,2,_,_,_=>exact v8_2_true
   | true,8,3,_,_,_=>exact v8_3_true
   | true,8,4,_,_,_=>exact v8_4_true
   | true,8,5,_,_,_=>exact v8_5_true
   | true,8,6,_,_,_=>exact v8_6_true
   | true,8,7,_,_,_=>exact v8_7_true
section
variable {d:GD} {W:World}
theorem sl_conc{ρ:Env}{π:Pl}{z:Bool}{a:Addr}{n c b i j k:Nat}(h0:ρ.v k=b01 z)(h1:ρ.win b=a)(h2:ρ.v i=lnW z n)(h3:ρ.v j=c):(V.ite (.eq (.var k) (.lit 0)) .nilslice (.xslice true b (.lit 0) 1 (.var i) (.known (.var j)))).conc ρ π=slW z a n c:=by
 show (if (X.eq (.var k) (.lit 0)).tt ρ then Value.slice none 0 0 else Value.slice (some ((ρ.win b).add (0*1))) (ρ.v i).toNat (ρ.v j).toNat)=_
 rw [tt_eq]
 show (if (ρ.v k==0)=true then _ else _)=_
 rw [h0,h1,h2,h3]
 cases z
 ·simp [b01,slW,lnW,Addr.add]
 ·simp [b01,slW]
theorem gMem_conc{π:Pl}:gMem.conc (vEnv d) π=d.mem:=sl_conc rfl rfl rfl rfl
theorem gCell_conc{π:Pl}:∀ {j:Nat},j<8→(gCell j).conc (vEnv d) π=d.cell j
 | 0,_=>sl_conc rfl rfl rfl rfl
 | 1,_=>sl_conc rfl rfl rfl rfl
 | 2,_=>sl_conc rfl rfl rfl rfl
 | 3,_=>sl_conc rfl rfl rfl rfl
 | 4,_=>sl_conc rfl rfl rfl rfl
 | 5,_=>sl_conc rfl rfl rfl rfl
 | 6,_=>sl_conc rfl rfl rfl rfl
 | 7,_=>sl_conc rfl rfl rfl rfl
theorem q_bit(h:Nat.blt d.q 8=true):∀ {j:Nat},j<3→d.q.testBit j=d.nilc j:=by
 unfold GD.q at h ⊢
 split at h
 ·cases h
 ·intro j hj
  cases e0:d.nilc 0<;>cases e1:d.nilc 1<;>cases e2:d.nilc 2<;>match j,hj with
  | 0,_=>simp [bq,e0]
  | 1,_=>simp [bq,e1,Nat.testBit]
  | 2,_=>simp [bq,e2,Nat.testBit]
theorem gCellQ_conc{π:Pl}{j:Nat}(hj:j<8):(gCellQ d.q j).conc (vEnv d) π=d.cell j:=by
 unfold gCellQ
 split
 ·rename_i h
  rw [Bool.and_eq_true] at h
  have h3:j<3:=Nat.le_of_ble_eq_true h.2
  have hb:=q_bit h.1 h3
  have hs:∀ i:Nat,i<3→d.nilc i=false→(V.xslice true (10+i) (.lit 0) 1 (.var (52+2*i)) (.known (.var (53+2*i)))).conc (vEnv d) π=d.cell i:=fun i hi e=>by
   rw [←gCell_conc (π:=π) (by omega)]
   have et:(X.eq (.var (70+i)) (.lit 0)).tt (vEnv d)=false:=by
    rw [tt_eq]
    refine beq_eq_false_iff_ne.2 ?_
    match i,hi,e with
    | 0,_,e=>show b01 (d.nilc 0)≠0;rw [e];decide
    | 1,_,e=>show b01 (d.nilc 1)≠0;rw [e];decide
    | 2,_,e=>show b01 (d.nilc 2)≠0;rw [e];decide
   show _=if (X.eq (.var (70+i)) (.lit 0)).tt (vEnv d) then Value.slice none 0 0 else _
   rw [et]
   rfl
  split
  ·rename_i ht
   rw [hb] at ht
   unfold GD.cell
   rw [ht]
   rfl
  ·rename_i ht
   rw [hb] at ht
   exact hs j h3 ht
 ·exact gCell_conc hj
theorem gCh_conc{π:Pl}:(gCh d.lz).conc (vEnv d) π=d.chs:=by
 unfold GD.chs
 cases d.lz
 ·show Value.slice (some (d.la.add (0*3))) ((d.ll:Int)).toNat ((d.lc:Int)).toNat=_
  rw [Int.toNat_natCast,Int.toNat_natCast]
  simp [slW,Addr.add]
 ·rfl
theorem gLen:∀ {j:Nat},j<8→(vEnv d).v (52+2*j)=d.len j
 | 0,_=>rfl
 | 1,_=>rfl
 | 2,_=>rfl
 | 3,_=>rfl
 | 4,_=>rfl
 | 5,_=>rfl
 | 6,_=>rfl
 | 7,_=>rfl
theorem gCells_len{q:Nat}:∀ k,(gCells q k).length=k:=fun k=>by
 induction k with
 | zero=>rfl
 | succ k ih=>simp [gCells,ih]
theorem gCells_get{q:Nat}:∀ {k j:Nat} {v:V},(gCells q k)[j]?=some v→j<k∧v=gCellQ q j
 | 0,j,v,h=>by simp [gCells] at h
 | k+1,j,v,h=>by
  unfold gCells at h
  by_cases hj:j<k
  ·rw [List.getElem?_append_left (by rw [gCells_len];exact hj)] at h
   exact⟨by omega,(gCells_get h).2⟩
  ·rw [List.getElem?_append_right (by rw [gCells_len];omega),gCells_len] at h
   have h1:j-k=0:=by
    have:=(List.getElem?_eq_some_iff.1 h).1
    simp at this
    omega
   rw [h1] at h
   have h2:j=k:=by omega
   subst h2
   exact⟨by omega,(Option.some.inj h).symm⟩
theorem gPcs_ok:∀ {k:Nat},k≤8→PcOk (vEnv d) (gPcs k)
 | 0,_=>pcCons (tle (show (0:Int)≤(d.ml:Int) from Int.natCast_nonneg _)) (pcCons (tle (show (0:Int)≤(d.ll:Int) from Int.natCast_nonneg _)) (pcCons rfl pcNil))
 | k+1,hk=>pcCons (tle (by
   show (0:Int)≤(vEnv d).v (52+2*k)
   rw [gLen (j:=k) (by omega)]
   exact Int.natCast_nonneg _)) (gPcs_ok (by omega))
theorem vast_ret(z:Bool)(hz:z=true→d.k=0) (hrow:1≤d.k→d.Row∧W.heap[d.a.block]?=some (roW d.W d.a.block)):Calls Try.prog 5 #[d.setup z,d.chs] W fun e w'=>e=.returned (.bool (d.vb z))∧Below W.heap.size W w':=by
 have hkI:kI d.k≤8:=by
  unfold kI
  split
  ·rename_i h
   exact Nat.le_of_lt (Nat.le_of_ble_eq_true h)
  ·omega
 have hzI:z=true→kI d.k=0:=fun h=>by rw [hz h];rfl
 have hqI:(kI d.k<6∧d.q=8)∨(6≤kI d.k∧d.q<8):=by
  unfold GD.q kI
  by_cases h6:d.k<6
  ·left
   rw [show Nat.blt d.k 8=true from Nat.ble_eq_true_of_le (by omega),show Nat.blt d.k 6=true from Nat.ble_eq_true_of_le h6]
   exact⟨h6,rfl⟩
  ·right
   have e6:Nat.blt d.k 6=false:=by
    cases hb:Nat.blt d.k 6 with
    | false=>rfl
    | true=>have:d.k<6:=Nat.le_of_ble_eq_true hb;omega
   rw [e6]
   refine⟨?_,?_⟩
   ·split<;>omega
   ·show bq (d.nilc 0)+2*bq (d.nilc 1)+4*bq (d.nilc 2)<8
    cases d.nilc 0<;>cases d.nilc 1<;>cases d.nilc 2<;>decide
 have hr:=v_all (lz:=d.lz) hzI hkI hqI
 unfold vOk at hr
 obtain⟨v,st,hsel,hk⟩:=overR_sel (ρ:=vEnv d) hr
 have hs:SumOk Try.prog {cxD with sx:=true,js:=true} (vEnv d):=sum_flags (c:=cxD) allD
 have hw:RowsV (vEnv d) W (gWs d.q z (kI d.k)) 0 30 (πRows (vEnv d) 0):=by
  have key:∀ x∈gWs d.q z (kI d.k),z=false∧1≤d.k∧∃ len:X,x=(8,.win 8 (gCells d.q (kI d.k)) len 1):=by
   intro x hx
   unfold gWs at hx
   split at hx
   ·cases hx
   ·cases hx
   ·rename_i h1 h2 h3
    obtain rfl:=List.mem_singleton.1 hx
    refine⟨rfl,?_,_,rfl⟩
    rcases Nat.eq_zero_or_pos d.k with h | h
    ·rw [h] at h2
     cases h2
    ·exact h
   ·rename_i h1 h2 h3
    obtain rfl:=List.mem_singleton.1 hx
    have e:kI d.k=8:=by
     unfold kI at h3 ⊢
     split
     ·rename_i h5
      simp only [h5] at h3
      cases h3
     ·rfl
    refine⟨rfl,?_,_,by rw [e]⟩
    rcases Nat.eq_zero_or_pos d.k with h | h
    ·rw [h] at e
     cases e
    ·exact h
  refine⟨fun i hi=>absurd hi (Nat.not_lt_zero i),fun x hx=>?_,by decide,fun x hx=>?_,fun x hx π hπ=>?_⟩<;>obtain⟨e1,e2,len,rfl⟩:=key x hx
  ·exact⟨Nat.zero_le _,show 8<30 by decide⟩
  ·rfl
  ·obtain⟨R,hW⟩:=hrow e2
   obtain⟨cs,t,fr,h1,h2⟩:=R.row
   have e3:roW d.W d.a.block=.cells cs t fr:=by simp only [roW,h1,Option.getD_some]
   refine⟨_,hW,⟨R.spot,?_,cs,t,fr,e3,fun j v hj hjk=>?_⟩,rfl⟩
   ·rw [hπ 8 (by show 8<30;decide)]
    rfl
   ·obtain⟨h3,rfl⟩:=gCells_get hj
    rw [gCellQ_conc (by omega)]
    refine h2 j ?_
    have:kI d.k≤d.k:=by
     unfold kI
     split
     ·exact Nat.le_refl _
     ·rename_i h5
      rcases Nat.lt_or_ge d.k 8 with h | h
      ·rw [show Nat.blt d.k 8=true from Nat.ble_eq_true_of_le h] at h5
       cases h5
      ·exact h
    omega
 have hpc:PcOk (vEnv d) (gPc z (kI d.k)):=by
  unfold gPc
  split
  ·exact gPcs_ok (by omega)
  ·exact gPcs_ok hkI
  ·rename_i h1
   refine pcCons (tle ?_) (gPcs_ok (by omega))
   show (8:Int)≤(d.k:Int)
   unfold kI at h1
   split at h1
   ·rename_i h2
    rw [h2] at h1
    cases h1
   ·rename_i h2
    rcases Nat.lt_or_ge d.k 8 with h | h
    ·rw [show Nat.blt d.k 8=true from Nat.ble_eq_true_of_le h] at h2
     cases h2
    ·omega
 have hh:=here_rowsV (cx:={cxD with sx:=true,js:=true}) (ng:=0) rfl LStart_lt ro_nil heap_nil hw hpc
 have hcc:∀ π,(gCodes z (kI d.k)).conc (vEnv d) π=d.codes z:=fun π=>by
  have add0:d.a.add 0=d.a:=by simp [Addr.add]
  unfold gCodes
  split
  ·rfl
  ·rename_i h1
   have e:kI d.k=d.k:=by
    unfold kI
    split
    ·rfl
    ·rename_i h2
     unfold kI at h1
     rw [h2] at h1
     cases h1
   show Value.slice (some (d.a.add 0)) ((kI d.k:Int)).toNat ((d.cap:Int)).toNat=_
   rw [add0,Int.toNat_natCast,Int.toNat_natCast,e]
   rfl
  ·show Value.slice (some (d.a.add 0)) ((d.k:Int)).toNat ((d.cap:Int)).toNat=_
   rw [add0,Int.toNat_natCast,Int.toNat_natCast]
   rfl
 have hargs:SaysL (vEnv d) (fun i=>i<30) (πRows (vEnv d) 0) [.agg [gCodes z (kI d.k),gMem,.int .i64 (.var 91),.int .i64 (.var 90)],gCh d.lz] [d.setup z,d.chs]:=fun π _=>by
  show [Value.agg [(gCodes z (kI d.k)).conc (vEnv d) π,gMem.conc (vEnv d) π,Value.int .i64 d.s,Value.int .i64 d.w].toArray,(gCh d.lz).conc (vEnv d) π]=_
  rw [hcc,gMem_conc,gCh_conc]
  rfl
 have hvb:∀ π,v.conc (vEnv d) π=.bool (d.vb z):=by
  unfold isB at hk
  split at hk
  ·rename_i x
   intro π
   show Value.bool (x.tt (vEnv d))=_
   unfold GD.vb
   rw [hsel]
  ·cases hk
 have hsel':((ev {cxD with sx:=true,js:=true} 4000).call 5 [.agg [gCodes z (kI d.k),gMem,.int .i64 (.var 91),.int .i64 (.var 90)],gCh d.lz] (stRows LStart (gWs d.q z (kI d.k)) 30 (gPc z (kI d.k)))).sel (vEnv d)=some (.ret v,st):=by
  rw [evT_call]
  exact hsel
 refine (ev_calls mixed_door tt_ok ft_ok hs hsel' hh hargs Try.func5).mono fun e w' hp=>?_
 obtain⟨_,π1,g,c,rfl,hv⟩:=hp
 refine⟨?_,g.same.2.1,g.same.1,g.same.2.2,g.size,fun k hk=>g.keep k hk fun i o hi _=>?_⟩
 ·rw [←hv π1 fun _ _=>rfl,hvb]
 ·rcases winHeap_get hi with h | ⟨_,h⟩
  ·exact hw.froz _ h
  ·obtain⟨x,hx,rfl,rfl⟩:=roHeap_get h
   rfl
end
end Go.Proofs.Ytfmfhnpkganobaa
