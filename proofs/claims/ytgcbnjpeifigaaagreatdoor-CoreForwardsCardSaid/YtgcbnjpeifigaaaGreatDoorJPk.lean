/- CorePlay by itself, its loop told. CorePlay is true: what is told of it, where a code and acts are rows in the heap. No condition. -/
import Derived.Test.YtgcbnjpeifigaaaGreatDoorJGo
import Derived.Test.YtgcbnjpeifigaaaGreatDoorJBq
import Derived.Test.YtgcbnjpeifigaaaGreatDoorJNk
import Derived.Test.YtgcbnjpeifigaaaGreatDoorJBs
set_option maxRecDepth 100000
namespace Go.Proofs.YtgcbnjpeifigaaaGreatDoor
open Go Go.Proofs
noncomputable section
def T8:Cx:={cx with dm:=RX,sx:=true,js:=true,lp:=some (Kt [LJ]),sm:=tW [(10,bY aj 7 sQ)]}
def pcZ(z:Nat):PC:=match z with
 |0=>RD
 |1=>[(.le (.var 50) (.lit 80),false),(.le (.var 50) (.var 51),true),(.le (.lit 1) (.var 40),true),(.le (.var 40) (.lit 60),true),(.le (.var 40) (.var 41),true),(.le (.lit 0) (.var 42),true),(.le (.var 42) (.lit 3),true),(.le (.lit 0) (.lit 8),true),(.le (.lit 0) (.lit 7),true)]
 |_=>[(.le (.lit 1) (.var 40),true),(.le (.var 40) (.lit 60),true),(.le (.var 40) (.var 41),true),(.le (.lit 0) (.var 42),true),(.le (.var 42) (.lit 3),true),(.le (.lit 0) (.lit 8),true),(.le (.lit 0) (.lit 7),true)]
def acZ(z:Nat):V:=match z with
 |0=>.xslice true 9 (.lit 0) 4 (.var 50) (.known (.var 51))
 |1=>.xslice true 9 (.lit 0) 4 (.var 50) (.known (.var 51))
 |2=>.nilslice
 |_=>.wslice 9 0 (.lit 0) (.var 51)
def oCd:ak:=.arr (.base 10) [.int .u32] (.var 40) 38 false
def oAc:ak:=.warr 9 20 [.int .i64,.int .i64,.int .u32,.int .u8] (.var 50)
def itZ(z:Nat):List (Nat×ak):=match z with
 |0=>[(8,oCd),(9,oAc)]
 |1=>[(8,oCd),(9,oAc)]
 |_=>[(8,oCd)]
def OE(z:Nat):gk:=⟨[i64 (.var 42),.agg [Dd,i64 (.lit 16),i64 (.lit 1),i64 (.lit 1)],acZ z],itZ z,10,pcZ z⟩
def xG:R Leaf->Bool
 |.ok lf=>bc (lf.v.beq (.bool (.lit 1))) (u9 lf.objs [(8,oCd)]) (Nat.ble lf.n (10+bm)) true true true
 |_=>false
end
theorem atI:xG (eA T8 4 (OE 0))=true:=by kernel_rfl
theorem atJ:xG (eA T8 4 (OE 1))=true:=by kernel_rfl
theorem atK:xG (eA T8 4 (OE 2))=true:=by kernel_rfl
theorem atL:xG (eA T8 4 (OE 3))=true:=by kernel_rfl
theorem kPl{z:Nat}(h:z<4):xG (eA T8 4 (OE z))=true:=by
 match z,h with
 |0,_=>exact atI
 |1,_=>exact atJ
 |2,_=>exact atK
 |3,_=>exact atL
open Go.RowKit
theorem acw{ρ:Env}(h:aZ ρ.ro){ro:Nat->Obj}(h0:ro 0=ρ.ro 0):aZ ro:=by
 intro ρ' hr;refine⟨fun x hx=>?_⟩;have hx0:=hx;simp only[aj,qq4]at hx;subst hx;obtain⟨t,fr,h2⟩:=(h ρ rfl).is _ hx0;exact⟨t,fr,fun π=>by rw[hr,h0,h2 π,dp,dp]⟩
def FB(ρ:Env)(π0:Pl)(w:World)(b n:Nat)(q:ak)(fc:Int->Int):Prop:=q.bg=false/\∀ ob,w.heap[(π0 b).1]?=some ob->q.is ρ π0 b ob->∃ cs:List Value,ob=.cells cs.toArray 38 (0,0)/\n<=cs.length/\∀ j:Nat,j<n->cs[j]?=some (.int .u32 (IntKind.u32.wrap (fc j)))
def zz:List CK:=[.int .i64,.int .i64,.int .u32,.int .u8]
def ach(ρ:Env)(π0:Pl)(w:World)(b2:Nat)(q2:ak)(ad:Addr)(m:Nat)(fa:Nat->Int->Int):Prop:=ad.spot=none/\ad.block=(π0 b2).1/\∀ ob,w.heap[(π0 b2).1]?=some ob->q2.is ρ π0 b2 ob->∃ (cs:Array Value) (t:TypeId) (fr:Nat×Nat),ob=.cells cs t fr/\∀ (j c:Nat) (k:IntKind),j<m->zz[c]?=some (.int k)->cs[ad.off+(j*4+c)]?=some (.int k (k.wrap (fa c j)))
def JN(ρ:Env)(n cv:Nat)(id:Int)(fc:Int->Int)(m cv2:Nat)(fa:Nat->Int->Int)(ob2:Obj)(ad:Addr):Env:=
 {ρ with
  v:=fun i=>if i=40 then n else if i=41 then cv else if i=42 then id else if i=50 then m else if i=51 then cv2 else ρ.v i
  f1:=fun t j=>if t=10 then fc j else if 20<=t/\t<24 then fa (t-20) j else ρ.f1 t j
  ro:=fun i=>if i=9 then ob2 else ρ.ro i
  win:=fun i=>if i=9 then ad else ρ.win i}
theorem nm2{b b2 g:Nat}(hg:g<8):eD [(8,b),(9,b2)] g=g:=by
 unfold eD look look;rw[show Nat.beq 8 g=false by
  cases hb:Nat.beq 8 g with
  |false=>rfl
  |true=>have:=qqq hb;omega,show Nat.beq 9 g=false by
  cases hb:Nat.beq 9 g with
  |false=>rfl
  |true=>have:=qqq hb;omega]
 rfl
section
variable {c:Cx} {ρ:Env} {S:Nat→Prop} {π0:Pl} {st:St} {w:World}
theorem auK{ρ':Env}(hro:aZ ρ'.ro)(hl:ij Tryz.prog T8 ρ' LJ):SumOk Tryz.prog T8 ρ':=by
 obtain⟨h10,_⟩:=Zs hro ρ' rfl {T8 with lp:=none} rfl;have h:SumOk Tryz.prog {T8 with lp:=none} ρ':=lX (l:=[(10,bY aj 7 sQ)]) ⟨h10,trivial⟩ rfl;refine⟨fun f s hs args st v st' he S π0 w ac n hh ha=>h.sum f s hs args st v st' he S π0 w ac n ⟨hh.pc,hh.at_,hh.glob,hh.fresh⟩ ha,fun g s hg=>PD rfl g s hg,fun lp hlp=>?_⟩;obtain rfl:=qqz (show some (Kt [LJ])=some lp from hlp);exact GP fun L' hL=>by obtain rfl:=qq4.1 hL;exact hl
theorem vo (hchk:∀ j k r,j<15->k<9->r<2->ao (aN j) k r=true) (hng:c.ng=7) (hro:aZ ρ.ro) {n cv:Nat} {id:Int} {fc:Int->Int} {m cv2:Nat} {fa:Nat->Int->Int} {ob2:Obj} {ad:Addr} {z b b2:Nat} {q:ak} {args:List V} (hz:z<4) (hthere:bB aj st.h=true)
  (hh:b8 c ρ S π0 st w) {ac:List Value} (ha:bz ρ S π0 args ac) (hn:1<=n/\n<=60) (hcv:n<=cv) (hid:0<=id/\id<=3) (hb:st.h.get b=some q) (hcode:FB ρ π0 w b n q fc) (hm2:z<2->m<=cv2/\(z=0->m<=80)/\(z≠0->80<m))
  (hrow:z<2->b2≠b/\∃ q2,st.h.get b2=some q2/\ach ρ π0 w b2 q2 ad m fa/\∃ ob,w.heap[(π0 b2).1]?=some ob/\q2.is ρ π0 b2 ob/\ob=ob2)
  (hargs:V.ae ρ π0 args=V.ae (JN ρ n cv id fc m cv2 fa ob2 ad) (fw [] (eD [(8,b),(9,b2)]) ρ π0) (OE z).args) {k:Nat}:
  CallsIn Fence.wide k Tryz.prog 4 ac.toArray w (EPost ρ S π0 st w (.ret (.bool (.lit 1)),{h:=st.h.set b (.opt (.lit 0) [] 38),n:=st.n+bm,pc:=st.pc})):=by
 let ρ':=JN ρ n cv id fc m cv2 fa ob2 ad;have hro':aZ ρ'.ro:=acw hro rfl;have hW:∀ x∈aj,w.heap[x.1]?=some (ρ'.ro x.1):=by
  intro x hx;have hx0:=hx;simp only[aj,qq4]at hx;subst hx;obtain⟨cc,hc⟩:=eP hthere _ hx0;obtain⟨ob,h1,_,h2⟩:=(hh.at_.rep π0 fun _ _=>rfl).obj _ _ hc;rw[(hh.glob 0 (by rw[hng];omega)).2,h2]at h1;exact h1
 have hloop:ij Tryz.prog T8 ρ' LJ:=abN hro' hW rfl hchk fun q' S' _ _ hO=>auJ hro' hW hO
 have hchkP:=kPl hz;unfold xG at hchkP;split at hchkP;rotate_left
 ·cases hchkP
 rename_i lf hlf;obtain⟨l1,l2,l3,_⟩:=ar hchkP;have l1:=V.beq_eq _ _ l1;have l3:=qqx l3;have hsel:(sK (OE z) ((ev T8 4001).call 4 (OE z).args ((OE z).st aj))).ag ρ'=some lf:=by
  rw[cj];unfold eA at hlf;rw[hlf];rfl
 have hitz:∀ i o,(i,o)∈itZ z->(i=8/\o=oCd)\/(i=9/\o=oAc/\z<2):=by
  intro i o ho;rcases(show z=0\/z=1\/z=2\/z=3 by omega)with e|e|e|e<;>subst e<;>simp only[itZ,List.mem_cons,qk6,or_false,qqv]at ho
  ·exact ho.imp (fun h=>h) fun h=>⟨h.1,h.2,by omega⟩
  ·exact ho.imp (fun h=>h) fun h=>⟨h.1,h.2,by omega⟩
  ·exact .inl ho
  ·exact .inl ho
 have hin:dE (itZ z)=[8]:=by
  rcases(show z=0\/z=1\/z=2\/z=3 by omega)with e|e|e|e<;>subst e<;>rfl
 have h8:eD [(8,b),(9,b2)] 8=b:=rfl;have h9:eD [(8,b),(9,b2)] 9=b2:=rfl;have hkn:dU 7 (eJ (OE z).items++ma []) (V.gz (OE z).args)=true:=by
  rcases(show z=0\/z=1\/z=2\/z=3 by omega)with e|e|e|e<;>subst e<;>rfl
 have hkn2:∀ i o,(i,o)∈itZ z->dU 7 (eJ (OE z).items++ma []) o.iB=true:=by
  intro i o ho;rcases hitz i o ho with⟨rfl,rfl⟩|⟨rfl,rfl,_⟩<;>rfl
 have TS:SiteAt aj 7 ρ ρ' [] (OE z) [(8,b),(9,b2)] args st π0 w:=by
  refine⟨by show 7<=10;omega,fun g hg=>⟨nm2 (by omega),rfl⟩,hthere,(fun i v h=>by cases h),hkn,fun i o hi=>?_,fun i o j o' hi hj e=>?_,?_⟩
  ·rcases hitz i o hi with⟨rfl,rfl⟩|⟨rfl,rfl,hz2⟩
   ·refine⟨rfl,q,hb,fun _=>hcode.1,by show 8<10;omega,hkn2 _ _ hi,fun ob h1 h2=>?_⟩;obtain⟨cs,e1,e2,e3⟩:=hcode.2 ob h1 h2;refine⟨cs,e1,?_,(fun h=>by cases h),fun j c k hj hk=>?_⟩
    ·show((n:Int)).toNat*1<=cs.length;omega
    ·have hj:j<((n:Int)).toNat:=hj;cases c with
     |succ c=>cases hk
     |zero=>
      obtain rfl:k=.int .u32:=(qqz hk).symm;show cs[j*1+0]?=some (.int .u32 (IntKind.u32.wrap (fc j)));rw[show j*1+0=j by omega];exact e3 j (by omega)
   ·obtain⟨_,q2,g1,⟨g2,g3,g4⟩,g5⟩:=hrow hz2;refine⟨rfl,q2,g1,fun h=>(by cases h),by show 9<10;omega,hkn2 _ _ hi,fun ob h1 h2=>?_⟩;obtain⟨cs,t,fr,e1,e2⟩:=g4 ob h1 h2;obtain⟨ob',f1,_,f3⟩:=g5;have hob:ob=ob2:=by
     rw[h9,f1]at h1;rw[<-qqz h1,f3]
    refine⟨⟨g2,g3,cs,t,fr,e1,fun j c k hj hk=>?_⟩,hob⟩;have hj:j<((m:Int)).toNat:=hj;have hk':zz[c]?=some k:=hk;have hki:∃ k',k=.int k':=by
     rcases c with _|_|_|_|c<;>simp only[zz,List.getElem?_cons_zero,List.getElem?_cons_succ,qqk]at hk'
     ·exact⟨_,hk'.symm⟩
     ·exact⟨_,hk'.symm⟩
     ·exact⟨_,hk'.symm⟩
     ·exact⟨_,hk'.symm⟩
     ·simp at hk'
    obtain⟨k',rfl⟩:=hki;have hc4:c<4:=by
     rcases qkz c 4 with h|h
     ·exact h
     ·rw[qkj (by show 4<=c;exact h)]at hk';cases hk'
    show cs[ad.off+(j*4+c)]?=some (.int k' (k'.wrap (if 20+c=10 then fc j else if 20<=20+c/\20+c<24 then fa (20+c-20) j else ρ.f1 (20+c) j)));rw[if_neg (by omega),if_pos (by omega),show 20+c-20=c by omega];exact e2 j c k' (by omega) hk'
  ·rcases hitz i o hi with⟨rfl,rfl⟩|⟨rfl,rfl,hz2⟩<;>rcases hitz j o' hj with⟨rfl,rfl⟩|⟨rfl,rfl,hz2'⟩
   ·exact .inl rfl
   ·rw[h8,h9]at e;exact absurd e.symm (hrow hz2').1
   ·rw[h8,h9]at e;exact absurd e (hrow hz2).1
   ·exact .inl rfl
  ·have L:∀ {x y:X} {r:PC},x.den ρ'<=y.den ρ'->ai ρ' r->ai ρ' ((.le x y,true)::r):=fun h hr=>ai.gw (by rw[cT];exact decide_eq_true h) hr
   have a1:(X.var 40).den ρ'=n:=rfl;have a2:(X.var 41).den ρ'=cv:=rfl;have a3:(X.var 42).den ρ'=id:=rfl;have a4:(X.var 50).den ρ'=m:=rfl;have a5:(X.var 51).den ρ'=cv2:=rfl;have k1:((X.lit 1).den ρ':Int)=1:=rfl;have k60:((X.lit 60).den ρ':Int)=60:=rfl;have k0:((X.lit 0).den ρ':Int)=0:=rfl;have k3:((X.lit 3).den ρ':Int)=3:=rfl;have k7:((X.lit 7).den ρ':Int)=7:=rfl;have k8:((X.lit 8).den ρ':Int)=8:=rfl;have k80:((X.lit 80).den ρ':Int)=80:=rfl;show ai ρ' (pcZ z);rcases(show z=0\/z=1\/2<=z by omega)with e|e|e
   ·subst e;obtain⟨g1,g2,_⟩:=hm2 (by omega);have g2:=g2 rfl;exact L (by rw[a1,a2];omega) (L (by rw[a4,a5];omega) (L (by rw[k1,a1];omega) (L (by rw[a1,k60];omega) (L (by rw[k0,a4];omega) (L (by rw[a4,k80];omega) (L (by rw[k0,a3];omega) (L (by rw[a3,k3];omega) (L (by rw[k0,k8];omega) (L (by rw[k0,k7];omega) ai.eL)))))))))
   ·subst e;obtain⟨g1,_,g2⟩:=hm2 (by omega);have g2:=g2 (by omega);exact ai.gw (by
     show(X.le (.var 50) (.lit 80)).tt ρ'=false;rw[cT,a4,k80];exact decide_eq_false (by omega)) (L (by rw[a4,a5];omega) (L (by rw[k1,a1];omega) (L (by rw[a1,k60];omega) (L (by rw[a1,a2];omega) (L (by rw[k0,a3];omega) (L (by rw[a3,k3];omega) (L (by rw[k0,k8];omega) (L (by rw[k0,k7];omega) ai.eL))))))))
   ·have:pcZ z=pcZ 2:=by
     match z,e with
     |z+2,_=>rfl
    rw[this];exact L (by rw[k1,a1];omega) (L (by rw[a1,k60];omega) (L (by rw[a1,a2];omega) (L (by rw[k0,a3];omega) (L (by rw[a3,k3];omega) (L (by rw[k0,k8];omega) (L (by rw[k0,k7];omega) ai.eL))))))
 have:=yx (cx:=c) (cx0:=T8) (ρ:=ρ) (ρ':=ρ') (S:=S) (π0:=π0) (st:=st) (w:=w) (L:=aj) (ng:=7) bG dh dV (auK hro' hloop) (fun g hg=>by show(if g=9 then ob2 else ρ.ro g)=ρ.ro g;rw[if_neg (by omega)]) hng rfl dS (hro' ρ' rfl) Tryz.func4 TS hargs hsel (tv:=.bool (.lit 1)) (h':=st.h.set b (.opt (.lit 0) [] 38)) (m:=10+bm)
  ⟨fun π=>by rw[l1];rfl,fun j o' hj=>?_,l3⟩ hh ha (n:=k)
 ·have e:(10+bm)-(OE z).n=bm:=by show 10+bm-10=bm;omega
  rw[e]at this;exact this
 ·by_cases e:j=b
  ·subst e;rw[T.aP]at hj;obtain rfl:=qqz hj;have hm8:=tM l2 (8,oCd) (qq1 ..);exact .inl ⟨8,oCd,hm8,rfl,rfl,fun π ob _ h=>by cases h⟩
  ·rw[T.aB _ _ (Ne.symm e)]at hj;refine .inr ⟨hj,fun i hi=>?_⟩;have hi:i∈dE (itZ z):=hi;rw[hin]at hi;obtain rfl:=qq4.1 hi;exact fun h=>e h.symm
end
end Go.Proofs.YtgcbnjpeifigaaaGreatDoor
