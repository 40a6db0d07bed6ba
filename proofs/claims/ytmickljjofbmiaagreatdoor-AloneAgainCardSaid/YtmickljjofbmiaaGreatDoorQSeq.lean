/- AloneAgain: which commits are told something; the row of what they are told. No condition. -/
import Derived.Test.YtmickljjofbmiaaGreatDoorALoop
import Derived.Test.YtmickljjofbmiaaGreatDoorQLm
namespace Go.Proofs.YtmickljjofbmiaaGreatDoor
open Go Go.Proofs
section
variable (p:Par) (s0:fg)
noncomputable def dz(n:Nat):Bool:=dD p (ak p s0 n)&&rh (acc p (ak p s0 n)).k
noncomputable def idxs(n:Nat):List Nat:=(List.range n).filter (dz p s0)
noncomputable def ie(n:Nat):Nat:=(idxs p s0 n).length
noncomputable def cy(n c:Nat)(j:Int):Int:=if 0≤j then (match (idxs p s0 n)[j.toNat]? with
 | some i=>mY p (ak p s0 i) (9+c)
 | none=>0) else 0
noncomputable def Br(N n:Nat):Int:=IntKind.u32.wrap (cy p s0 N 0 (ie p s0 n))
noncomputable def Kh(N n:Nat):Bool:=cy p s0 N 1 (ie p s0 n)==1
noncomputable def KW(N n:Nat):gF×Dg:=MV p (ak p s0 n) (Br p s0 N n) (Kh p s0 N n)
end
section
variable {p:Par} {s0:fg}
theorem tg{n:Nat}(h:dz p s0 n=true):idxs p s0 (n+1)=idxs p s0 n++[n]:=by
 unfold idxs
 rw [List.range_succ,List.filter_append,List.filter_cons_of_pos h,List.filter_nil]
theorem Fu{n:Nat}(h:dz p s0 n=false):idxs p s0 (n+1)=idxs p s0 n:=by
 unfold idxs
 rw [List.range_succ,List.filter_append,List.filter_cons_of_neg (by rw [h];decide),List.filter_nil,List.append_nil]
theorem gf{n:Nat}(h:dz p s0 n=true):ie p s0 (n+1)=ie p s0 n+1:=by
 unfold ie
 rw [tg h,List.length_append]
 rfl
theorem sC{n:Nat}(h:dz p s0 n=false):ie p s0 (n+1)=ie p s0 n:=by
 unfold ie
 rw [Fu h]
theorem XB(n:Nat):ie p s0 n≤ie p s0 (n+1):=by
 cases h:dz p s0 n with
 | true=>rw [gf h];omega
 | false=>rw [sC h];omega
theorem Ag{n m:Nat}(h:n≤m):ie p s0 n≤ie p s0 m:=by
 induction m with
 | zero=>
  obtain rfl:n=0:=by omega
  exact Nat.le_refl _
 | succ m ih=>
  rcases Nat.lt_or_ge n (m+1) with h' | h'
  ·exact Nat.le_trans (ih (by omega)) (XB m)
  ·obtain rfl:n=m+1:=by omega
   exact Nat.le_refl _
theorem adr(n:Nat):ie p s0 n≤n:=by
 induction n with
 | zero=>exact Nat.le_refl _
 | succ n ih=>
  cases h:dz p s0 n with
  | true=>rw [gf h];omega
  | false=>rw [sC h];omega
theorem ac4{n N:Nat}(h:dz p s0 n=true)(hn:n<N):ie p s0 n<ie p s0 N:=by
 have h1:=Ag (p:=p) (s0:=s0) (show n+1≤N by omega)
 rw [gf h] at h1
 omega
theorem TW{n m:Nat}(h:n≤m){j:Nat}(hj:j<ie p s0 n):(idxs p s0 m)[j]?=(idxs p s0 n)[j]?:=by
 induction m with
 | zero=>
  obtain rfl:n=0:=by omega
  rfl
 | succ m ih=>
  rcases Nat.lt_or_ge n (m+1) with h' | h'
  ·have h2:=Ag (p:=p) (s0:=s0) (show n≤m by omega)
   rw [←ih (by omega)]
   cases ha:dz p s0 m with
   | true=>
    rw [tg ha,List.getElem?_append_left]
    show j<ie p s0 m
    omega
   | false=>rw [Fu ha]
  ·obtain rfl:n=m+1:=by omega
   rfl
theorem aal{n N:Nat}(h:dz p s0 n=true)(hn:n<N):(idxs p s0 N)[ie p s0 n]?=some n:=by
 rw [TW (n:=n+1) (by omega) (by rw [gf h];omega),tg h]
 show (idxs p s0 n++[n])[(idxs p s0 n).length]?=_
 rw [List.getElem?_append_right (Nat.le_refl _),Nat.sub_self]
 rfl
theorem wU{n N c:Nat}(h:dz p s0 n=true)(hn:n<N):cy p s0 N c (ie p s0 n)=mY p (ak p s0 n) (9+c):=by
 unfold cy
 rw [if_pos (by omega),Int.toNat_natCast,aal h hn]
theorem Lm{n c:Nat}{j:Int}(h:ie p s0 n=0):cy p s0 n c j=0:=by
 unfold cy
 split
 ·have:idxs p s0 n=[]:=List.eq_nil_of_length_eq_zero h
  rw [this]
  rfl
 ·rfl
theorem Md{n c:Nat}{j:Int}(h:dz p s0 n=true):cy p s0 (n+1) c j=if j=ie p s0 n then mY p (ak p s0 n) (9+c) else cy p s0 n c j:=by
 by_cases e:j=ie p s0 n
 ·rw [if_pos e,e]
  exact wU h (by omega)
 ·rw [if_neg e]
  unfold cy
  by_cases h0:0≤j
  ·rw [if_pos h0,if_pos h0,tg h]
   by_cases hj:j.toNat<ie p s0 n
   ·rw [List.getElem?_append_left hj]
   ·have h1:(idxs p s0 n)[j.toNat]?=none:=List.getElem?_eq_none (by show ie p s0 n≤_;omega)
    have h2:(idxs p s0 n++[n])[j.toNat]?=none:=List.getElem?_eq_none (by
     rw [List.length_append]
     show ie p s0 n+1≤_
     omega)
    rw [h1,h2]
  ·rw [if_neg h0,if_neg h0]
theorem P8{n c:Nat}{j:Int}(h:dz p s0 n=false):cy p s0 (n+1) c j=cy p s0 n c j:=by
 unfold cy
 rw [Fu h]
end
section
variable {W:World} {p:Par} (hro:aZ p.ro) (hW:∀ x∈aj,W.heap[x.1]?=some (p.ro x.1))
variable {s0:fg} {n N:Nat} (hs:(ak p s0 n).h.Ok) (hc:(ak p s0 n).h.cause=0)
include hro hW hs hc
theorem ZB (hk:rh (acc p (ak p s0 n)).k=true):(ki p (ak p s0 n)).2.x=(lF p (ak p s0 n) (m9 p (ak p s0 n))).1∧(ki p (ak p s0 n)).2.ok=(lF p (ak p s0 n) (m9 p (ak p s0 n))).2:=by
 have h:=jO hro hW hs hc (m9 p (ak p s0 n))
 have ha:=h.acc
 have hx:(ki p (ak p s0 n)).2.x=GJ (acc p (ak p s0 n)).k (acc p (ak p s0 n)).w (lF p (ak p s0 n) (m9 p (ak p s0 n))).1:=h.cx
 have ho:(ki p (ak p s0 n)).2.ok=if (acc p (ak p s0 n)).k=4 then (lF p (ak p s0 n) (m9 p (ak p s0 n))).2 else false:=h.cok
 have ldm:∀ w:Nat,ld (ak p s0 n).m (acc p (ak p s0 n)).ad w % 2 ^ (8*w)=ld (ak p s0 n).m (acc p (ak p s0 n)).ad w:=fun w=>by
  obtain⟨h1,h2⟩:=Oj (ak p s0 n).m w (acc p (ak p s0 n)).ad
  have e:(256:Int) ^ w=2 ^ (8*w):=by rw [show (256:Int)=2 ^ 8 from rfl,←Int.pow_mul]
  rw [←e]
  exact Int.emod_eq_of_lt h1 h2
 rw [hx,ho]
 generalize hkk:(acc p (ak p s0 n)).k=k at hk
 match k,hk with
 | 1,_=>
  have hw:=ha.w (by omega) (by omega)
  unfold GJ m9
  rw [hkk]
  rcases hw with hw | hw | hw<;>rw [hw]
  ·exact⟨by rw [if_pos (by omega)];exact ldm 1,rfl⟩
  ·exact⟨by rw [if_pos (by omega)];exact ldm 2,rfl⟩
  ·exact⟨by rw [if_pos (by omega)];exact ldm 4,rfl⟩
 | 3,_=>
  have hw:=ha.w4 (by omega) (by omega)
  unfold GJ m9
  rw [hkk,hw]
  exact⟨by rw [if_pos (by omega)];exact ldm 4,rfl⟩
 | 4,_=>
  unfold GJ m9
  rw [hkk]
  refine⟨?_,rfl⟩
  rw [if_neg (by omega)]
  cases (ak p s0 n).res<;>rfl
 | 5,_=>
  have hw:=ha.w4 (by omega) (by omega)
  unfold GJ m9
  rw [hkk,hw]
  exact⟨by rw [if_pos (by omega)];exact ldm 4,rfl⟩
theorem aaR(h:dz p s0 n=true)(hn:n<N):KW p s0 N n=ki p (ak p s0 n):=by
 have h':=h
 unfold dz at h'
 rw [Bool.and_eq_true] at h'
 obtain⟨e1,e2⟩:=ZB hro hW hs hc h'.2
 have hcom:=(jO hro hW hs hc (m9 p (ak p s0 n))).com
 have hx:0≤(ki p (ak p s0 n)).2.x∧(ki p (ak p s0 n)).2.x≤4294967295:=hcom.x
 have c9:cy p s0 N 0 (ie p s0 n)=(ki p (ak p s0 n)).2.x:=by
  rw [wU h hn]
  unfold mY
  rw [h'.1]
  rfl
 have c10:cy p s0 N 1 (ie p s0 n)=bc (ki p (ak p s0 n)).2.ok:=by
  rw [wU h hn]
  unfold mY
  rw [h'.1]
  rfl
 have t1:Br p s0 N n=(lF p (ak p s0 n) (m9 p (ak p s0 n))).1:=by
  unfold Br
  rw [c9,←e1]
  exact bp (by simp only [j6];omega) (by simp only [lQ];omega)
 have t2:Kh p s0 N n=(lF p (ak p s0 n) (m9 p (ak p s0 n))).2:=by
  unfold Kh
  rw [c10,←e2]
  cases (ki p (ak p s0 n)).2.ok<;>rfl
 unfold KW ki
 rw [t1,t2]
omit hro hW hs hc in
theorem RJ:0≤Br p s0 N n∧Br p s0 N n≤4294967295:=by
 unfold Br
 have:∀ z:Int,0≤IntKind.u32.wrap z∧IntKind.u32.wrap z≤4294967295:=fun z=>by
  simp [IntKind.wrap,IntKind.bits,IntKind.signed]
  omega
 exact this _
omit hro hW hs hc in
theorem adY (h:rh (acc p (ak p s0 n)).k=false) (hk6:(acc p (ak p s0 n)).k≤6):m9 p (ak p s0 n)=10:=by
 unfold m9
 generalize (acc p (ak p s0 n)).k=k at h hk6
 match k,h with
 | 0,_=>rfl
 | 2,_=>rfl
 | 6,_=>rfl
 | k+7,_=>omega
end
end Go.Proofs.YtmickljjofbmiaaGreatDoor
