/- Alone: the document's loop is told. No condition. -/
import Derived.Test.YtmickljjofbmiaaGreatDoorPTl
namespace Go.Proofs.YtmickljjofbmiaaGreatDoor
open Go Go.Proofs
structure SpecR (p:Par) (s0:MSt) (ρ:Env) (N:Nat):Prop where
 S:SpecM p s0 ρ N
 no:ρ.v 67=0→∀ i,i<N→¬putRd p (seqM p s0 i)
 yes:(∀ i,i<N→¬putRd p (seqM p s0 i))→ρ.v 67=0
theorem memF_no{p:Par}{s:MSt}(h:¬putF p s):memF p s=s.m:=by
 unfold putF at h
 unfold memF
 split
 ·rename_i e;exact absurd (.inl e) h
 ·rename_i e
  split
  ·rename_i e2
   rw [Bool.and_eq_true,decide_eq_true_iff] at e2
   exact absurd (.inr (.inl ⟨e,e2⟩)) h
  ·rfl
 ·rename_i e;exact absurd (.inr (.inr e)) h
 ·rfl
theorem nxt_no{p:Par}{s:MSt}(h:¬putRd p s):(nxt p s).m=s.m:=by
 unfold nxt
 split
 ·rfl
 ·split
  ·rfl
  ·rename_i e
   exact memF_no fun h'=>h ⟨e,h'⟩
theorem seq_no{p:Par}{s0:MSt}:∀ (n:Nat),(∀ i,i<n→¬putRd p (seqM p s0 i))→(seqM p s0 n).m=s0.m
 | 0,_=>rfl
 | n+1,h=>(nxt_no (h n (by omega))).trans (seq_no n fun i hi=>h i (by omega))
def InvR(ρ:Env)(p:Par)(s0:MSt)(N j:Nat)(ρ1:Env):Prop:=∃ n:Nat,ρ1=envM ρ p s0 n∧(j=0→n=0)∧n≤N∧(j=1→∀ i,i<n→¬putRd p (seqM p s0 i))∧(j=2→∃ i,i<n∧putRd p (seqM p s0 i))
def EndsR(ρ:Env)(p:Par)(s0:MSt)(N:Nat)(ρ1:Env)(x:LM):Prop:=match x with
 | .next j' σ=>∃ ρ2,EnvRel tM ρ1 ρ2 σ∧InvR ρ p s0 N j' ρ2∧(ρ.v 43-ρ2.v 100).toNat<(ρ.v 43-ρ1.v 100).toNat
 | .out k σ=>EnvRel tM ρ1 ρ σ∧∃ O,nth [RRO0,RRO1] k=some O∧RRL.res.sel ρ=some (O.ex,O.pat.fr,⟨O.pat.st.h,O.pat.st.n,RRL.st.pc⟩)
 | .never=>False
section
variable {W:World} {p:Par} (hro:RoAll p.ro) (hW:∀ x∈LStart,W.heap[x.1]?=some (p.ro x.1))
variable {s0:MSt} {ρ:Env} (B:RunOk p s0 ρ)
include hro hW B
omit hro hW B in
theorem RR_res0(h:ρ.v 67=0):RRL.res.sel ρ=some (RRO0.ex,RRO0.pat.fr,⟨RRO0.pat.st.h,RRO0.pat.st.n,RRL.st.pc⟩):=
 br_t (by rw [tt_eq];exact beq_iff_eq.2 h)
omit hro hW B in
theorem RR_res1(h:ρ.v 67≠0):RRL.res.sel ρ=some (RRO1.ex,RRO1.pat.fr,⟨RRO1.pat.st.h,RRO1.pat.st.n,RRL.st.pc⟩):=
 br_f (by rw [tt_eq];exact beq_eq_false_iff_ne.2 h)
theorem RR_end{N n:Nat}(S:SpecM p s0 ρ N)(hn:n≤N) (hlt:(n:Int)<ρ.v 43) (hc:(seqM p s0 n).h.cause=0) (hf:fetchF p (seqM p s0 n)=true) {r:RdX} (R:RdOk p (seqM p s0 n) (envM ρ p s0 n) n r) (hrow:RowIs (envM ρ p s0 n) r.row (rowC p s0 n)) {j:Nat} (hj:j=1∨j=2) (h1:j=1→∀ i,i<n→¬putRd p (seqM p s0 i)) (h2:j=2→∃ i,i<n∧putRd p (seqM p s0 i)) {e:EndX} (he:EndOk p (seqM p s0 n) (envM ρ p s0 n) e):
  ∃ x,(endR j r e).sel (envM ρ p s0 n)=some x∧EndsR ρ p s0 N (envM ρ p s0 n) x:=by
 obtain⟨e1,e2,e3,e4,e5⟩:=end_cells hro hW B hc hf R.n he
 have e6:=cols_end hro hW B hc hf R.n he hrow
 obtain⟨s1,s2⟩:=stop_at S hn hlt hc
 have e7:=row_rel (ρ2:=envM ρ p s0 (n+1)) (t:=31) e6 fun c hc=>envM_row hc
 have e8:=mem_rel (ρ2:=envM ρ p s0 (n+1)) (t:=30) e5 he.rg rfl
 have lt:(ρ.v 43-(envM ρ p s0 (n+1)).v 100).toNat<(ρ.v 43-(envM ρ p s0 n).v 100).toNat:=by
  show (ρ.v 43-((n+1:Nat):Int)).toNat<(ρ.v 43-(n:Int)).toNat
  omega
 have hv:∀ i,1≤i→i≤34→(envM ρ p s0 (n+1)).v (100+i)=(tb e.b r.n i).den (envM ρ p s0 n):=fun i h1 h2=>by rw [e1 i h1 h2];exact envM_cell h1 h2
 by_cases hp:putF p (seqM p s0 n)
 ·obtain⟨a,i,c,x,hm⟩:=he.put hp
  refine⟨nextR 2 r e,by unfold endR;rw [hm];rfl,envM ρ p s0 (n+1),?_,⟨n+1,rfl,fun h=>by omega,s1,fun h=>by omega,fun _=>⟨n,by omega,hf,hp⟩⟩,lt⟩
  exact rel_of (agreeM n (n+1)) (by rw [R.n1];rfl) (by rw [e3];rfl) (by rw [e4];rfl) hv (look2_of e7 e8)
 ·obtain⟨t,hm⟩:=he.no hp
  have hno:¬putRd p (seqM p s0 n):=fun h=>hp h.2
  refine⟨nextR j r e,by unfold endR;rw [hm];rfl,envM ρ p s0 (n+1),?_,⟨n+1,rfl,fun h=>absurd h (by rcases hj with rfl | rfl<;>decide),s1,fun h i hi=>?_,fun h=>?_⟩,lt⟩
  ·rcases hj with rfl | rfl
   ·exact rel_of (agreeM n (n+1)) (by rw [R.n1];rfl) (by rw [e3];rfl) (by rw [e4];rfl) hv (look1_of e7)
   ·exact rel_of (agreeM n (n+1)) (by rw [R.n1];rfl) (by rw [e3];rfl) (by rw [e4];rfl) hv (look2_of e7 e8)
  ·rcases Nat.lt_or_ge i n with q | q
   ·exact h1 h i q
   ·obtain rfl:i=n:=by omega
    exact hno
  ·obtain⟨i,q1,q2⟩:=h2 h
   exact⟨i,by omega,q2⟩
theorem RR_round{N n:Nat}(S:SpecR p s0 ρ N)(hn:n≤N){j:Nat}(hj:j=1∨j=2) (h1:j=1→∀ i,i<n→¬putRd p (seqM p s0 i)) (h2:j=2→∃ i,i<n∧putRd p (seqM p s0 i)) {t:Nat} (ht:(j=1∧t=20)∨(j=2∧t=30)):
  ∃ x,(RRl j (.base t)).sel (envM ρ p s0 n)=some x∧EndsR ρ p s0 N (envM ρ p s0 n) x:=by
 have hs:=st_ok hro hW B n
 have hbase:(envM ρ p s0 n).f1 t=(seqM p s0 n).m:=by
  rcases ht with ⟨rfl,rfl⟩ | ⟨rfl,rfl⟩
  ·show ρ.f1 20=_
   rw [B.bytes,seq_no n (h1 rfl)]
  ·rfl
 have R:RdOk p (seqM p s0 n) (envM ρ p s0 n) n (rd1 (.base t) (.base 31)):=rdOk1 hbase
 have hpcv:(envM ρ p s0 n).v 101=(seqM p s0 n).h.pc:=envM_cell (i:=1) (by omega) (by omega)
 have hmost:=S.S.most
 -- the way out
 have hout:N=n→∃ x,(_root_.Go.Proofs.YtmickljjofbmiaaGreatDoor.R.ok (mostR j)).sel (envM ρ p s0 n)=some x∧EndsR ρ p s0 N (envM ρ p s0 n) x:=by
  rintro rfl
  refine⟨mostR j,rfl,?_⟩
  have r1:=row_rel (ρ2:=ρ) (t:=60) (base_row (ρ:=envM ρ p s0 N) (t:=31) (r:=rowC p s0 N) fun c hc=>envM_row hc) S.S.row
  rcases ht with ⟨rfl,rfl⟩ | ⟨rfl,rfl⟩
  ·refine⟨?_,RRO0,rfl,RR_res0 (S.yes (h1 rfl))⟩
   exact rel_of (agreeM1 N) (by rw [S.S.n];rfl) (by rw [S.S.res];rfl) (by rw [S.S.at_];rfl) (fun i q1 q2=>by rw [S.S.hart i q1 q2];exact (envM_cell q1 q2).symm) (look1_of r1)
  ·obtain⟨i,q1,q2⟩:=h2 rfl
   refine⟨?_,RRO1,rfl,RR_res1 fun h=>S.no h i q1 q2⟩
   exact rel_of (agreeM1 N) (by rw [S.S.n];rfl) (by rw [S.S.res];rfl) (by rw [S.S.at_];rfl) (fun i q1 q2=>by rw [S.S.hart i q1 q2];exact (envM_cell q1 q2).symm) (look2_of r1 (mem_rel (base_mem rfl) (base_rg 30) S.S.mem))
 unfold RRl
 by_cases hlt:(n:Int)<ρ.v 43
 ·have t1:(X.lt (.var 100) (.var 43)).tt (envM ρ p s0 n)=true:=by rw [tt_lt'];exact decide_eq_true hlt
  rw [br_t t1]
  have hcell:(X.var 134).den (envM ρ p s0 n)=(seqM p s0 n).h.cause:=envM_cell (i:=34) (by omega) (by omega)
  by_cases hc:(seqM p s0 n).h.cause=0
  ·have t2:(X.eq (.var 134) (.lit 0)).tt (envM ρ p s0 n)=true:=by
    rw [tt_eq,hcell]
    exact beq_iff_eq.2 hc
   rw [br_t t2]
   cases hf:fetchF p (seqM p s0 n) with
   | true=>
    obtain⟨e,he,hsel⟩:=caseT_ok hro hW (B.T.at n) R hs.1 hc (fun v z hv hz i hi=>bytR_den hv hz hi) (v2:=2) (fun h5=>((B.T.at n).am2 n).trans ((amo_is hro hW hs.1 hc).2.2.1 h5)) (g:=endR j (rd1 (.base t) (.base 31))) (sc:=scT bytR (rd1 (.base t) (.base 31)) (endR j (rd1 (.base t) (.base 31)))) (fun h4=>scT_ok hro hW (B.T.at n) R hs.1 hc (fun v z hv hz i hi=>bytR_den hv hz hi) h4)
    obtain⟨x,hx,hend⟩:=RR_end hro hW B S.S hn hlt hc hf R (base_row fun c hc=>envM_row hc) hj h1 h2 he
    refine⟨x,?_,hend⟩
    rw [fetT_sel (p:=p) (s:=seqM p s0 n) hpcv B.len,if_pos hf,kind_sel hro hW B hc rfl,hsel]
    exact hx
   | false=>
    have en:seqM p s0 (n+1)=_:=nxt_halt hc hf
    obtain⟨s1,-⟩:=stop_at S.S hn hlt hc
    have hno:¬putRd p (seqM p s0 n):=fun h=>by rw [h.1] at hf;cases hf
    refine⟨haltR j (rd1 (.base t) (.base 31)),?_,envM ρ p s0 (n+1),?_,⟨n+1,rfl,fun h=>absurd h (by rcases hj with rfl | rfl<;>decide),s1,fun h i hi=>?_,fun h=>?_⟩,?_⟩
    ·rw [fetT_sel (p:=p) (s:=seqM p s0 n) hpcv B.len,if_neg (by rw [hf];decide)]
     rfl
    ·have e6:RowIs (envM ρ p s0 n) (putsA (.var 100) 0 (colsH (.var 101)) (.base 31)) (rowC p s0 (n+1)):=row_next (base_row fun c hc=>envM_row hc) rfl rfl (colsH_val hs.1 hpcv hf)
     have e7:=row_rel (ρ2:=envM ρ p s0 (n+1)) (t:=31) e6 fun c hc=>envM_row hc
     have e8:∀ (c:Nat) (k:CK),[CK.int .u8][c]?=some k→∀ j:Int,k.val (k.sym (envM ρ p s0 (n+1)) 30 c j)=k.val (A.den (envM ρ p s0 n) k c j (.base t)):=mem_rel (base_mem hbase) (base_rg t) (by show (seqM p s0 (n+1)).m=_;rw [en])
     refine⟨agreeM n (n+1),fun i x h=>?_,?_⟩
     ·have ev:∀ q,1≤q→q≤34→(envM ρ p s0 (n+1)).v (100+q)=(seqM p s0 (n+1)).h.cell q:=fun q h1 h2=>envM_cell h1 h2
      rcases look_cons h with ⟨rfl,rfl⟩ | h
      ·rfl
      rcases look_cons h with ⟨rfl,rfl⟩ | h
      ·rw [show (134:Nat)=100+34 from rfl,ev 34 (by omega) (by omega),en];rfl
      rcases look_cons h with ⟨rfl,rfl⟩ | h
      ·show b2i (seqM p s0 (n+1)).res=_
       rw [en];rfl
      rcases look_cons h with ⟨rfl,rfl⟩ | h
      ·show (seqM p s0 (n+1)).at_=_
       rw [en];rfl
      ·obtain⟨q,q1,q2,rfl,rfl⟩:=look_hvL h
       rw [ev q q1 (by omega),en]
       show Hart.cell {(seqM p s0 n).h with cause:=4} q=(envM ρ p s0 n).v (100+q)
       rw [envM_cell q1 (by omega)]
       match q,q1,q2 with
       | 1,_,_=>rfl
       | q+2,_,h2=>
        show (if q<32 then _ else _)=(if q<32 then _ else _)
        rw [if_pos (by omega),if_pos (by omega)]
     ·rcases hj with rfl | rfl
      ·exact look1_of e7
      ·exact look2_of e7 e8
    ·rcases Nat.lt_or_ge i n with q | q
     ·exact h1 h i q
     ·obtain rfl:i=n:=by omega
      exact hno
    ·obtain⟨i,q1,q2⟩:=h2 h
     exact⟨i,by omega,q2⟩
    ·show (ρ.v 43-((n+1:Nat):Int)).toNat<(ρ.v 43-(n:Int)).toNat
     omega
  ·have t2:(X.eq (.var 134) (.lit 0)).tt (envM ρ p s0 n)=false:=by
    rw [tt_eq,hcell]
    exact beq_eq_false_iff_ne.2 hc
   rw [br_f t2]
   refine hout ?_
   rcases Nat.lt_or_ge n N with q | q
   ·exact absurd (S.S.go n q) hc
   ·omega
 ·have t1:(X.lt (.var 100) (.var 43)).tt (envM ρ p s0 n)=false:=by rw [tt_lt'];exact decide_eq_false hlt
  rw [br_f t1]
  exact hout (by omega)
theorem RR_told{cx:Cx}(hng:cx.ng=7){N:Nat}(S:SpecR p s0 ρ N):LoopTold Tryz.prog cx ρ RRL:=by
 have hst:=RR_ok
 simp only [Bool.and_eq_true] at hst
 obtain⟨k1,k2,k3⟩:=hst
 have h00:=start_ok B
 have cause_of:∀ n,PcOk (envM ρ p s0 n) (row1 20).g→(seqM p s0 n).h.cause=0:=fun n h=>by
  have h':=h _ (.head _)
  rw [tt_eq,show (X.var 134).den (envM ρ p s0 n)=(seqM p s0 n).h.cause from envM_cell (i:=34) (by omega) (by omega)] at h'
  exact beq_iff_eq.1 h'
 refine loop_told3 (cxB:=fun j=>match j with | 0=>cxRd (smRr (row0 20)) | 1=>cxRd (smRr (row1 20)) | _=>cxRd (smRr (row1 30))) (t:=tM) (Is:=[RRI0,RRI1,RRI2]) (outs:=[RRO0,RRO1]) (lls:=[RRl0,RRl 1 (.base 20),RRl 2 (.base 30)]) (N:=4000) (ng:=7) (I0:=RRI0) ⟨[],[],[],[]⟩ (InvR ρ p s0 N) (fun ρ1=>(ρ.v 43-ρ1.v 100).toNat)
  (fun j ρ1 hI=>?_) (fun j=>by match j with | 0=>rfl | 1=>rfl | _+2=>rfl) hng (fun j I ll hI hll=>?_) (fun j I hI=>?_) k1 k2 rfl k3 ⟨envM ρ p s0 0,⟨agreeM0 0,fun i x h=>(look_none h).elim,fun f ks q h=>(look_none h).elim⟩,0,rfl,fun _=>rfl,by omega,fun h=>by omega,fun h=>by omega⟩ (fun j ρ1 I ll hI hll hinv hpc=>?_)
 ·obtain⟨n,rfl,h0,hn,h1,h2⟩:=hI
  have hs:=st_ok hro hW B n
  match j,h0,h1,h2 with
  | 0,h0,_,_=>
   obtain rfl:=h0 rfl
   exact (ev_ok mixed_door tt_ok ft_ok (sumR_ok hro hW (B.at 0).T (row0_ok (B.at 0) 20 B.bytes) hs.1 hs.2.1 (fun _=>h00.2.2.2) B.size) 4000).1
  | 1,_,h1,_=>
   exact (ev_ok mixed_door tt_ok ft_ok (sumR_ok hro hW (B.at n).T (row1_ok B.T B.code n hs.1 hs.2.1 (t:=20) (by show ρ.f1 20=_;rw [B.bytes,seq_no n (h1 rfl)])) hs.1 hs.2.1 (cause_of n) B.size) 4000).1
  | j+2,_,_,_=>
   exact (ev_ok mixed_door tt_ok ft_ok (sumR_ok hro hW (B.at n).T (row1_ok B.T B.code n hs.1 hs.2.1 (t:=30) rfl) hs.1 hs.2.1 (cause_of n) B.size) 4000).1
 ·match j,hI,hll with
  | 0,hI,hll=>
   obtain rfl:=Option.some.inj (show some RRI0=some I from hI)
   obtain rfl:=Option.some.inj (show some RRl0=some ll from hll)
   exact RR_chk0
  | 1,hI,hll=>
   obtain rfl:=Option.some.inj (show some RRI1=some I from hI)
   obtain rfl:=Option.some.inj (show some (RRl 1 (.base 20))=some ll from hll)
   exact RR_chk1
  | 2,hI,hll=>
   obtain rfl:=Option.some.inj (show some RRI2=some I from hI)
   obtain rfl:=Option.some.inj (show some (RRl 2 (.base 30))=some ll from hll)
   exact RR_chk2
 ·match j,hI with
  | 0,_=>exact⟨_,rfl⟩
  | 1,_=>exact⟨_,rfl⟩
  | 2,_=>exact⟨_,rfl⟩
 ·obtain⟨n,rfl,h0,hn,h1,h2⟩:=hinv
  have hs:=st_ok hro hW B n
  suffices h:∃ x,ll.sel (envM ρ p s0 n)=some x∧EndsR ρ p s0 N (envM ρ p s0 n) x by
   obtain⟨x,hx,he⟩:=h
   refine⟨x,hx,?_⟩
   cases x<;>exact he
  match j,hI,hll with
  | 0,hI,hll=>
   obtain rfl:=h0 rfl
   obtain rfl:=Option.some.inj (show some RRl0=some ll from hll)
   have R:=rdOk0 B
   have hc:(seqM p s0 0).h.cause=0:=h00.2.2.2
   obtain⟨e,he,hsel⟩:=caseT_ok hro hW (B.T.at 0) R hs.1 hc (fun v z hv hz i hi=>bytR_den hv hz hi) (v2:=2) (fun h5=>((B.T.at 0).am2 0).trans ((amo_is hro hW hs.1 hc).2.2.1 h5)) (g:=endR 1 (rd0 (.base 20))) (sc:=sc0 (rd0 (.base 20)) (endR 1 (rd0 (.base 20)))) (fun h4=>sc0_ok R h4 B.res)
   have:=S.S.n1
   have:=S.S.most
   obtain⟨x,hx,hend⟩:=RR_end hro hW B S.S (n:=0) (by omega) (by omega) hc (fetch0 B) R fill_row (.inl rfl) (fun _ i hi=>by omega) (fun h=>by omega) he
   exact⟨x,by rw [RRl0,kind_sel hro hW B hc rfl,hsel];exact hx,hend⟩
  | 1,hI,hll=>
   obtain rfl:=Option.some.inj (show some (RRl 1 (.base 20))=some ll from hll)
   exact RR_round hro hW B S hn (.inl rfl) h1 h2 (.inl ⟨rfl,rfl⟩)
  | 2,hI,hll=>
   obtain rfl:=Option.some.inj (show some (RRl 2 (.base 30))=some ll from hll)
   exact RR_round hro hW B S hn (.inr rfl) h1 h2 (.inr ⟨rfl,rfl⟩)
end
end Go.Proofs.YtmickljjofbmiaaGreatDoor
