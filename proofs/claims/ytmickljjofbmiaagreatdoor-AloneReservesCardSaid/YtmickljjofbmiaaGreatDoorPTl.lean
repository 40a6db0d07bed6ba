/- Alone: alone.Run's loop, and the document's, are told. No condition. -/
import Derived.Test.YtmickljjofbmiaaGreatDoorALoop
import Derived.Test.YtmickljjofbmiaaGreatDoorPLk0
import Derived.Test.YtmickljjofbmiaaGreatDoorPLk1
namespace Go.Proofs.YtmickljjofbmiaaGreatDoor
open Go Go.Proofs
theorem RunOk.at{p:Par}{s0:MSt}{ρ:Env}(B:RunOk p s0 ρ)(n:Nat):RunOk p s0 (envM ρ p s0 n):=⟨B.T.at n,B.code,B.len,B.bytes,B.h,B.res,B.at_,B.id,B.len1,B.size⟩
theorem only8{P:Nat→CK→Prop} (h:P 0 (.int .u8)):∀ (c:Nat) (k:CK),[CK.int .u8][c]?=some k→P c k:=by
 intro c k hk
 match c,hk with
 | 0,hk=>obtain rfl:=Option.some.inj hk;exact h
theorem mem_rel{ρ1 ρ2:Env}{x:A}{m:Int→Int}(h:MemIs ρ1 x m)(hr:MemRg ρ1 x){t:Nat}(ht:ρ2.f1 t=m):∀ (c:Nat) (k:CK),[CK.int .u8][c]?=some k→∀ j:Int,k.val (k.sym ρ2 t c j)=k.val (A.den ρ1 k c j x):=by
 refine only8 fun j=>?_
 show Value.int .u8 (IntKind.u8.wrap (ρ2.f1 (t+0) j))=Value.int .u8 (A.den ρ1 (.int .u8) 0 j x)
 rw [Nat.add_zero,ht,←h j]
 have:=hr j
 rw [wrap_in (k:=.u8) (by simp only [kLo];omega) (by simp only [kHi];omega)]
theorem row_rel{ρ1 ρ2:Env}{x:A}{r:Nat→Int→Int}(h:RowIs ρ1 x r){t:Nat} (ht:∀ c,c<14→ρ2.f1 (t+c)=r c):∀ (c:Nat) (k:CK),ksC[c]?=some k→∀ j:Int,k.val (k.sym ρ2 t c j)=k.val (A.den ρ1 k c j x):=fun c k hk j=>by
 rw [sym_symV (by rw [ht c (ksC_lt hk)]),←h c k hk j]
theorem nxt_go{p:Par}{s:MSt}(hc:s.h.cause=0)(hf:fetchF p s=true):nxt p s=⟨(comO p s).1,memF p s,resF p s,atF p s⟩:=by
 unfold nxt
 rw [decide_eq_true hc]
 simp only [hf]
theorem nxt_halt{p:Par}{s:MSt}(hc:s.h.cause=0)(hf:fetchF p s=false):nxt p s={s with h:={s.h with cause:=4}}:=by
 unfold nxt
 rw [decide_eq_true hc]
 simp only [hf]
theorem fetT_sel{α:Type}{ρ:Env}{p:Par}{s:MSt}(h1:ρ.v 101=s.h.pc)(h2:ρ.v 40=p.len){t f:R α}:(fetT t f).sel ρ=if fetchF p s=true then t.sel ρ else f.sel ρ:=by
 have e1:(X.eq (.rem (.var 101) (.lit 4)) (.lit 0)).tt ρ=decide (s.h.pc.tmod 4=0):=by
  rw [tt_eq]
  show ((ρ.v 101).tmod 4==0)=_
  rw [h1]
  by_cases h:s.h.pc.tmod 4=0
  ·simp [h]
  ·rw [decide_eq_false h];exact beq_eq_false_iff_ne.2 h
 have e2:(X.lt (w32 (.quo (.var 101) (.lit 4))) (.var 40)).tt ρ=decide (IntKind.u32.wrap (s.h.pc.tdiv 4)<p.len):=by
  rw [tt_lt']
  show decide (IntKind.u32.wrap ((ρ.v 101).tdiv 4)<ρ.v 40)=_
  rw [h1,h2]
 unfold fetT fetchF
 cases d1:decide (s.h.pc.tmod 4=0) with
 | false=>rw [br_f (e1.trans d1)];simp
 | true=>
  rw [br_t (e1.trans d1)]
  cases d2:decide (IntKind.u32.wrap (s.h.pc.tdiv 4)<p.len) with
  | false=>rw [br_f (e2.trans d2)];simp
  | true=>rw [br_t (e2.trans d2)];simp
section
variable {W:World} {p:Par} (hro:RoAll p.ro) (hW:∀ x∈LStart,W.heap[x.1]?=some (p.ro x.1))
variable {s0:MSt} {ρ:Env} (B:RunOk p s0 ρ)
include hro hW B
theorem end_cells{n:Nat} (hc:(seqM p s0 n).h.cause=0) (hf:fetchF p (seqM p s0 n)=true) {rn:X} (hn:rn.den (envM ρ p s0 n)=(n:Int)) {e:EndX} (he:EndOk p (seqM p s0 n) (envM ρ p s0 n) e):
  (∀ i,1≤i→i≤34→(tb e.b rn i).den (envM ρ p s0 n)=(seqM p s0 (n+1)).h.cell i)∧(tb e.b rn 41).den (envM ρ p s0 n)=(seqM p s0 (n+1)).h.cause∧e.res.den (envM ρ p s0 n)=b2i (seqM p s0 (n+1)).res∧e.at_.den (envM ρ p s0 n)=(seqM p s0 (n+1)).at_∧MemIs (envM ρ p s0 n) e.mem (seqM p s0 (n+1)).m:=by
 have hs:=(st_ok hro hW B n).1
 have hb:10≤blk p (seqM p s0 n)∧blk p (seqM p s0 n)≤14:=by
  unfold blk
  split<;>(try split)<;>omega
 have h:=com_is hro hW hs hc (blk p (seqM p s0 n))
 have en:seqM p s0 (n+1)=⟨(comO p (seqM p s0 n)).1,memF p (seqM p s0 n),resF p (seqM p s0 n),atF p (seqM p s0 n)⟩:=nxt_go hc hf
 rw [en,he.b]
 have T:=B.T.at n
 refine⟨fun i h1 h2=>(tb_den hn _ _).trans (T.hart _ n i hb.1 hb.2 h2),?_,he.res,he.at_,he.mem⟩
 have e6:=(tb_den hn (blk p (seqM p s0 n)) 41).trans (T.com _ n 6 hb.1 hb.2 (by omega))
 rw [e6]
 exact h.cause
theorem cols_end{n:Nat} (hc:(seqM p s0 n).h.cause=0) (hf:fetchF p (seqM p s0 n)=true) {rn:X} (hn:rn.den (envM ρ p s0 n)=(n:Int)) {e:EndX} (he:EndOk p (seqM p s0 n) (envM ρ p s0 n) e) {row:A} (hrow:RowIs (envM ρ p s0 n) row (rowC p s0 n)):RowIs (envM ρ p s0 n) (putsA rn 0 (colsX e.b rn) row) (rowC p s0 (n+1)):=by
 refine row_next hrow hn rfl ?_
 rw [he.b]
 exact colsX_val hro hW (B.T.at n) (st_ok hro hW B n).1 hc hn hf
omit hro hW B in
theorem rel_of{ρ1 ρ2:Env}(hag:Agree tM ρ1 ρ2){o kn kr ka:Nat}{xn xr xa:X}{g:Nat→X} {asg:List (Nat×(List CK×A))} (hn:ρ2.v kn=xn.den ρ1) (hr:ρ2.v kr=xr.den ρ1) (ha:ρ2.v ka=xa.den ρ1) (hg:∀ i,1≤i→i≤34→ρ2.v (o+i)=(g i).den ρ1) (has:∀ f ks a,look asg f=some (ks,a)→∀ (c:Nat) (k:CK),ks[c]?=some k→∀ j:Int,k.val (k.sym ρ2 f c j)=k.val (A.den ρ1 k c j a)):EnvRel tM ρ1 ρ2 (mtV ((kn,xn)::(kr,xr)::(ka,xa)::hv o g) asg):=by
 refine⟨hag,fun i x h=>?_,has⟩
 rcases look_cons h with ⟨rfl,rfl⟩ | h
 ·exact hn
 rcases look_cons h with ⟨rfl,rfl⟩ | h
 ·exact hr
 rcases look_cons h with ⟨rfl,rfl⟩ | h
 ·exact ha
 ·obtain⟨q,h1,h2,rfl,rfl⟩:=look_hvL h
  exact hg q h1 (by omega)
omit hro hW B in
theorem look2_of{ρ1 ρ2:Env}{t1 t2:Nat}{ks1 ks2:List CK}{a1 a2:A} (h1:∀ (c:Nat) (k:CK),ks1[c]?=some k→∀ j:Int,k.val (k.sym ρ2 t1 c j)=k.val (A.den ρ1 k c j a1)) (h2:∀ (c:Nat) (k:CK),ks2[c]?=some k→∀ j:Int,k.val (k.sym ρ2 t2 c j)=k.val (A.den ρ1 k c j a2)):∀ f ks a,look [(t1,(ks1,a1)),(t2,(ks2,a2))] f=some (ks,a)→∀ (c:Nat) (k:CK),ks[c]?=some k→∀ j:Int,k.val (k.sym ρ2 f c j)=k.val (A.den ρ1 k c j a):=by
 intro f ks a h
 rcases look_cons h with ⟨rfl,e⟩ | h
 ·obtain⟨rfl,rfl⟩:=Prod.mk.inj e
  exact h1
 rcases look_cons h with ⟨rfl,e⟩ | h
 ·obtain⟨rfl,rfl⟩:=Prod.mk.inj e
  exact h2
 ·exact (look_none h).elim
omit hro hW B in
theorem look1_of{ρ1 ρ2:Env}{t1:Nat}{ks1:List CK}{a1:A} (h1:∀ (c:Nat) (k:CK),ks1[c]?=some k→∀ j:Int,k.val (k.sym ρ2 t1 c j)=k.val (A.den ρ1 k c j a1)):∀ f ks a,look [(t1,(ks1,a1))] f=some (ks,a)→∀ (c:Nat) (k:CK),ks[c]?=some k→∀ j:Int,k.val (k.sym ρ2 f c j)=k.val (A.den ρ1 k c j a):=by
 intro f ks a h
 rcases look_cons h with ⟨rfl,e⟩ | h
 ·obtain⟨rfl,rfl⟩:=Prod.mk.inj e
  exact h1
 ·exact (look_none h).elim
omit hro hW B in
theorem stop_at{N n:Nat}(S:SpecM p s0 ρ N)(hn:n≤N) (hlt:(n:Int)<ρ.v 43) (hc:(seqM p s0 n).h.cause=0):n+1≤N∧((seqM p s0 (n+1)).h.cause≠0→N=n+1):=by
 have h1:n+1≤N:=by
  rcases Nat.lt_or_ge n N with h | h
  ·exact h
  ·obtain rfl:N=n:=by omega
   rcases S.stop with h | h
   ·omega
   ·exact absurd hc h
 refine⟨h1,fun hne=>?_⟩
 rcases Nat.lt_or_ge (n+1) N with h | h
 ·exact absurd (S.go (n+1) h) hne
 ·omega
def InvP(ρ:Env)(p:Par)(s0:MSt)(N j:Nat)(ρ1:Env):Prop:=∃ n:Nat,ρ1=envM ρ p s0 n∧(j=0→n=0)∧(j≠0→1≤n)∧n≤N∧(seqM p s0 n).h.cause=0
def EndsP(ρ:Env)(p:Par)(s0:MSt)(N:Nat)(ρ1:Env)(x:LM):Prop:=match x with
 | .next j' σ=>∃ ρ2,EnvRel tM ρ1 ρ2 σ∧InvP ρ p s0 N j' ρ2∧(ρ.v 43-ρ2.v 100).toNat<(ρ.v 43-ρ1.v 100).toNat
 | .out k σ=>EnvRel tM ρ1 ρ σ∧∃ O,nth [ARO0,ARO1] k=some O∧ARL.res.sel ρ=some (O.ex,O.pat.fr,⟨O.pat.st.h,O.pat.st.n,ARL.st.pc⟩)
 | .never=>False
omit hro hW B in
theorem AR_res1{N:Nat}(S:SpecM p s0 ρ N) (h:(seqM p s0 N).h.cause≠0):ARL.res.sel ρ=some (ARO1.ex,ARO1.pat.fr,⟨ARO1.pat.st.h,ARO1.pat.st.n,ARL.st.pc⟩):=by
 have e:(X.eq (.var 534) (.lit 0)).tt ρ=false:=by
  rw [tt_eq]
  exact beq_eq_false_iff_ne.2 (by rw [show (X.var 534).den ρ=ρ.v (500+34) from rfl,S.hart 34 (by omega) (by omega)];exact h)
 exact br_f e
omit hro hW B in
theorem AR_res0{N:Nat}(S:SpecM p s0 ρ N) (h:(seqM p s0 N).h.cause=0):ARL.res.sel ρ=some (ARO0.ex,ARO0.pat.fr,⟨ARO0.pat.st.h,ARO0.pat.st.n,ARL.st.pc⟩):=by
 have e:(X.eq (.var 534) (.lit 0)).tt ρ=true:=by
  rw [tt_eq,show (X.var 534).den ρ=ρ.v (500+34) from rfl,S.hart 34 (by omega) (by omega)]
  exact beq_iff_eq.2 h
 exact br_t e
theorem AR_end{N n:Nat}(S:SpecM p s0 ρ N)(hn:n≤N) (hlt:(n:Int)<ρ.v 43) (hc:(seqM p s0 n).h.cause=0) (hf:fetchF p (seqM p s0 n)=true) {r:RdX} (R:RdOk p (seqM p s0 n) (envM ρ p s0 n) n r) (hrow:RowIs (envM ρ p s0 n) r.row (rowC p s0 n)) {e:EndX} (he:EndOk p (seqM p s0 n) (envM ρ p s0 n) e):
  ∃ x,(endP r e).sel (envM ρ p s0 n)=some x∧EndsP ρ p s0 N (envM ρ p s0 n) x:=by
 obtain⟨e1,e2,e3,e4,e5⟩:=end_cells hro hW B hc hf R.n he
 have e6:=cols_end hro hW B hc hf R.n he hrow
 obtain⟨s1,s2⟩:=stop_at S hn hlt hc
 by_cases hz:(seqM p s0 (n+1)).h.cause=0
 ·refine⟨nextP r e,br_t (by rw [tt_eq,e2,hz];rfl),envM ρ p s0 (n+1),?_,⟨n+1,rfl,fun h=>by omega,fun _=>by omega,s1,hz⟩,?_⟩
  ·refine rel_of (agreeM n (n+1)) (by rw [R.n1];rfl) (by rw [e3];rfl) (by rw [e4];rfl) (fun i h1 h2=>by rw [e1 i h1 h2];exact envM_cell h1 h2) (look2_of (mem_rel e5 he.rg rfl) (row_rel e6 fun c hc=>envM_row hc))
  ·show (ρ.v 43-((n+1:Nat):Int)).toNat<(ρ.v 43-(n:Int)).toNat
   omega
 ·obtain rfl:=s2 hz
  refine⟨outP r e,br_f (by rw [tt_eq,e2];exact beq_eq_false_iff_ne.2 hz),?_,ARO1,rfl,AR_res1 S hz⟩
  exact rel_of (agreeM1 n) (by rw [R.n1,S.n];rfl) (by rw [e3,S.res]) (by rw [e4,S.at_]) (fun i h1 h2=>by rw [e1 i h1 h2];exact S.hart i h1 h2) (look2_of (mem_rel e5 he.rg S.mem) (row_rel e6 S.row))
omit hro hW in
theorem rdOk0:RdOk p (seqM p s0 0) (envM ρ p s0 0) 0 (rd0 (.base 20)):=by
 refine⟨rfl,rfl,?_,?_,?_,⟨20,rfl⟩⟩
 ·show (0:Int)=b2i s0.res
  rw [B.res];rfl
 ·exact B.at_.symm
 ·exact base_mem (ρ:=envM ρ p s0 0) (t:=20) (m:=s0.m) B.bytes
omit hro hW B in
theorem rdOk1{n:Nat}{t:Nat} (ht:(envM ρ p s0 n).f1 t=(seqM p s0 n).m) {row:A}:RdOk p (seqM p s0 n) (envM ρ p s0 n) n (rd1 (.base t) row):=⟨rfl,rfl,rfl,rfl,base_mem ht,⟨t,rfl⟩⟩
theorem kind_sel{α:Type}{n:Nat} (hc:(seqM p s0 n).h.cause=0) {rn:X} (hn:rn.den (envM ρ p s0 n)=(n:Int)) {g:Nat→Nat→_root_.Go.Proofs.YtmickljjofbmiaaGreatDoor.R α} {nv:_root_.Go.Proofs.YtmickljjofbmiaaGreatDoor.R α}:(kindT rn (.var 50) g nv).sel (envM ρ p s0 n)=(g (acc p (seqM p s0 n)).k (acc p (seqM p s0 n)).w).sel (envM ρ p s0 n):=by
 have ha:=acc_ok hro hW (st_ok hro hW B n).1 hc
 have T:=B.T.at n
 exact kindT_sel ha ((tb_den hn 1 0).trans (T.acc n 0 (by omega))) ((tb_den hn 1 1).trans (T.acc n 1 (by omega))) ((tb_den hn 1 2).trans (T.acc n 2 (by omega))) (show (X.var 50).den (envM ρ p s0 n)=p.size from T.size) B.size
theorem AR_told{cx:Cx}(hng:cx.ng=7){N:Nat}(S:SpecM p s0 ρ N):LoopTold Tryz.prog cx ρ ARL:=by
 have hst:=AR_ok
 simp only [Bool.and_eq_true] at hst
 obtain⟨k1,k2,k3⟩:=hst
 have h00:=start_ok B
 refine loop_told3 (cxB:=fun j=>match j with | 0=>cxRd (smPr (row0 20)) | _=>cxRd (smPr (row1 30))) (t:=tM) (Is:=[ARI0,ARI1]) (outs:=[ARO0,ARO1]) (lls:=[ARl0,ARl1]) (N:=4000) (ng:=7) (I0:=ARI0) ⟨[],[],[],[]⟩ (InvP ρ p s0 N) (fun ρ1=>(ρ.v 43-ρ1.v 100).toNat)
  (fun j ρ1 hI=>?_) (fun j=>by cases j<;>rfl) hng (fun j I ll hI hll=>?_) (fun j I hI=>?_) k1 k2 rfl k3 ⟨envM ρ p s0 0,⟨agreeM0 0,fun i x h=>(look_none h).elim,fun f ks q h=>(look_none h).elim⟩,0,rfl,fun _=>rfl,fun h=>absurd rfl h,by omega,h00.2.2.2⟩ (fun j ρ1 I ll hI hll hinv hpc=>?_)
 ·obtain⟨n,rfl,h0,h1,hn,hc⟩:=hI
  have hs:=st_ok hro hW B n
  cases j with
  | zero=>
   obtain rfl:=h0 rfl
   exact (ev_ok mixed_door tt_ok ft_ok (sumP_ok hro hW (B.at 0).T (row0_ok (B.at 0) 20 B.bytes) hs.1 hs.2.1 (fun _=>hc) B.size) 4000).1
  | succ j=>
   exact (ev_ok mixed_door tt_ok ft_ok (sumP_ok hro hW (B.at n).T (row1_ok B.T B.code n hs.1 hs.2.1 (t:=30) rfl) hs.1 hs.2.1 (fun _=>hc) B.size) 4000).1
 ·match j,hI,hll with
  | 0,hI,hll=>
   obtain rfl:=Option.some.inj (show some ARI0=some I from hI)
   obtain rfl:=Option.some.inj (show some ARl0=some ll from hll)
   exact AR_chk0
  | 1,hI,hll=>
   obtain rfl:=Option.some.inj (show some ARI1=some I from hI)
   obtain rfl:=Option.some.inj (show some ARl1=some ll from hll)
   exact AR_chk1
 ·match j,hI with
  | 0,_=>exact⟨_,rfl⟩
  | 1,_=>exact⟨_,rfl⟩
 ·obtain⟨n,rfl,h0,h1,hn,hc⟩:=hinv
  have hs:=st_ok hro hW B n
  suffices h:∃ x,ll.sel (envM ρ p s0 n)=some x∧EndsP ρ p s0 N (envM ρ p s0 n) x by
   obtain⟨x,hx,he⟩:=h
   refine⟨x,hx,?_⟩
   cases x<;>exact he
  match j,hI,hll with
  | 0,hI,hll=>
   obtain rfl:=h0 rfl
   obtain rfl:=Option.some.inj (show some ARl0=some ll from hll)
   have R:=rdOk0 B
   obtain⟨e,he,hsel⟩:=caseT_ok hro hW (B.T.at 0) R hs.1 hc (fun v z hv hz i hi=>bytP_den hv hz hi) (v2:=0) (fun _=>(B.T.at 0).am0 0) (g:=endP (rd0 (.base 20))) (sc:=sc0 (rd0 (.base 20)) (endP (rd0 (.base 20)))) (fun h4=>sc0_ok R h4 B.res)
   have:=S.n1
   have:=S.most
   obtain⟨x,hx,hend⟩:=AR_end hro hW B S (n:=0) (by omega) (by omega) hc (fetch0 B) R fill_row he
   exact⟨x,by rw [ARl0,kind_sel hro hW B hc rfl,hsel];exact hx,hend⟩
  | 1,hI,hll=>
   obtain rfl:=Option.some.inj (show some ARl1=some ll from hll)
   have hmost:=S.most
   by_cases hlt:(n:Int)<ρ.v 43
   ·have t1:(X.lt (.var 100) (.var 43)).tt (envM ρ p s0 n)=true:=by rw [tt_lt'];exact decide_eq_true hlt
    have t2:(X.eq (.var 134) (.lit 0)).tt (envM ρ p s0 n)=true:=by
     rw [tt_eq,show (X.var 134).den (envM ρ p s0 n)=(envM ρ p s0 n).v (100+34) from rfl,envM_cell (by omega) (by omega)]
     exact beq_iff_eq.2 hc
    have hpcv:(envM ρ p s0 n).v 101=(seqM p s0 n).h.pc:=envM_cell (i:=1) (by omega) (by omega)
    cases hf:fetchF p (seqM p s0 n) with
    | true=>
     have R:RdOk p (seqM p s0 n) (envM ρ p s0 n) n (rd1 (.base 30) (.base 31)):=rdOk1 rfl
     obtain⟨e,he,hsel⟩:=caseT_ok hro hW (B.T.at n) R hs.1 hc (fun v z hv hz i hi=>bytP_den hv hz hi) (v2:=0) (fun _=>(B.T.at n).am0 n) (g:=endP (rd1 (.base 30) (.base 31))) (sc:=scT bytP (rd1 (.base 30) (.base 31)) (endP (rd1 (.base 30) (.base 31)))) (fun h4=>scT_ok hro hW (B.T.at n) R hs.1 hc (fun v z hv hz i hi=>bytP_den hv hz hi) h4)
     obtain⟨x,hx,hend⟩:=AR_end hro hW B S hn hlt hc hf R (base_row fun c hc=>envM_row hc) he
     refine⟨x,?_,hend⟩
     unfold ARl1
     rw [br_t t1,br_t t2,fetT_sel (p:=p) (s:=seqM p s0 n) hpcv B.len,if_pos hf,kind_sel hro hW B hc rfl,hsel]
     exact hx
    | false=>
     have en:seqM p s0 (n+1)=_:=nxt_halt hc hf
     have hz:(seqM p s0 (n+1)).h.cause≠0:=by rw [en];simp
     obtain⟨s1,s2⟩:=stop_at S hn hlt hc
     obtain rfl:=s2 hz
     refine⟨haltP (rd1 (.base 30) (.base 31)),?_,?_,ARO1,rfl,AR_res1 S hz⟩
     ·unfold ARl1
      rw [br_t t1,br_t t2,fetT_sel (p:=p) (s:=seqM p s0 n) hpcv B.len,if_neg (by rw [hf];decide)]
      rfl
     ·have e6:RowIs (envM ρ p s0 n) (putsA (.var 100) 0 (colsH (.var 101)) (.base 31)) (rowC p s0 (n+1)):=row_next (base_row fun c hc=>envM_row hc) rfl rfl (colsH_val hs.1 hpcv hf)
      refine⟨agreeM1 n,fun i x h=>?_,look2_of (mem_rel (base_mem rfl) (base_rg 30) (by rw [S.mem,en];rfl)) (row_rel e6 S.row)⟩
      rcases look_cons h with ⟨rfl,rfl⟩ | h
      ·rw [S.n];rfl
      rcases look_cons h with ⟨rfl,rfl⟩ | h
      ·rw [show (534:Nat)=500+34 from rfl,S.hart 34 (by omega) (by omega),en];rfl
      rcases look_cons h with ⟨rfl,rfl⟩ | h
      ·rw [S.res,en];rfl
      rcases look_cons h with ⟨rfl,rfl⟩ | h
      ·rw [S.at_,en];rfl
      ·obtain⟨q,q1,q2,rfl,rfl⟩:=look_hvL h
       rw [S.hart q q1 (by omega),en]
       show Hart.cell {(seqM p s0 n).h with cause:=4} q=(envM ρ p s0 n).v (100+q)
       rw [envM_cell q1 (by omega)]
       match q,q1,q2 with
       | 1,_,_=>rfl
       | q+2,_,h2=>
        show (if q<32 then _ else _)=(if q<32 then _ else _)
        rw [if_pos (by omega),if_pos (by omega)]
   ·have t1:(X.lt (.var 100) (.var 43)).tt (envM ρ p s0 n)=false:=by rw [tt_lt'];exact decide_eq_false hlt
    obtain rfl:N=n:=by omega
    refine⟨mostP,by unfold ARl1;rw [br_f t1];rfl,?_,ARO0,rfl,AR_res0 S hc⟩
    exact rel_of (agreeM1 N) (by rw [S.n];rfl) (by rw [S.res];rfl) (by rw [S.at_];rfl) (fun i q1 q2=>by rw [S.hart i q1 q2];exact (envM_cell q1 q2).symm) (look2_of (mem_rel (base_mem rfl) (base_rg 30) S.mem) (row_rel (base_row fun c hc=>envM_row hc) S.row))
end
end Go.Proofs.YtmickljjofbmiaaGreatDoor
