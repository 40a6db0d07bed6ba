/- Alone: what an AMO stores: the program's answer is the document's. No condition. -/
import Derived.Test.YtmickljjofbmiaaGreatDoorAStep
namespace Go.Proofs.YtmickljjofbmiaaGreatDoor
open Go Go.Proofs
noncomputable def aev:Cx:={cx with dm:=XW,sm:=BA Ti,sx:=true}
noncomputable def sK(op:Nat):List V:=[.int .i64 (.lit (.ofNat op)),.int .u32 (.wrap .u32 (.var 0)),.int .u32 (.wrap .u32 (.var 1))]
noncomputable def xY(op:Nat):List V→PC→Bool
 | [.int .u32 r,.tuple [.int .u32 n,.int .i64 _]],pc=>bM (QL r) (QL n) (match op with | 0=>true | _=>pC pc r n) true true true
 | _,_=>false
noncomputable def jj(op:Nat):Bool:=comp (X1 aev 4000).call aj 7 100000 [(38,sK op),(20,sK op)] [] [(.le (.lit 0) (.lit 7),true)] (xY op)
set_option maxRecDepth 100000 in
theorem QZ:(jj 0&&(jj 50&&(jj 51&&(jj 52&&(jj 53&&(jj 54&&(jj 55&&(jj 56&&(jj 57&&jj 58)))))))))=true:=by kernel_rfl
theorem Xu{op:Nat}(h:op=0∨50≤op∧op≤58):jj op=true:=by
 have e:=QZ
 simp only [Bool.and_eq_true] at e
 obtain⟨e0,e1,e2,e3,e4,e5,e6,e7,e8,e9⟩:=e
 obtain rfl | rfl | rfl | rfl | rfl | rfl | rfl | rfl | rfl | rfl:op=0∨op=50∨op=51∨op=52∨op=53∨op=54∨op=55∨op=56∨op=57∨op=58:=by omega
 ·exact e0
 ·exact e1
 ·exact e2
 ·exact e3
 ·exact e4
 ·exact e5
 ·exact e6
 ·exact e7
 ·exact e8
 ·exact e9
theorem K8{op:Nat}{l:List V}{pc:PC}(h:xY op l pc=true):∃ r n e,l=[.int .u32 r,.tuple [.int .u32 n,.int .i64 e]]∧QL r=true∧QL n=true∧(op≠0→pC pc r n=true):=by
 unfold xY at h
 split at h
 ·rename_i r n e
  obtain⟨h1,h2,h3,_⟩:=az h
  refine⟨r,n,e,rfl,h1,h2,fun hne=>?_⟩
  split at h3
  ·exact absurd rfl hne
  ·exact h3
 ·cases h
section
variable {W:World} {ro:Nat→Obj} (hro:bx ro) (hW:∀ x∈aj,W.heap[x.1]?=some (ro x.1))
include hro hW
theorem Z7{op:Nat}(hop:op=0∨50≤op∧op≤58){a b:Int}(ha:0≤a∧a≤4294967295)(hb:0≤b∧b≤4294967295):∃ n e r:Int,bc Tryz.prog aj 7 100000 ro 38 [.int .i64 op,.int .u32 a,.int .u32 b] (.tuple #[.int .u32 n,.int .i64 e])∧bc Tryz.prog aj 7 100000 ro 20 [.int .i64 op,.int .u32 a,.int .u32 b] (.int .u32 r)∧(op≠0→r=n)∧(0≤n∧n≤4294967295)∧(0≤r∧r≤4294967295):=by
 have h:=Xu hop
 unfold jj at h
 rw [←de] at h
 let ρ:Env:={b:=fun _=>false,v:=fun i=>if i=0 then a else b,f1:=fun _ _=>0,f2:=fun _ _ _=>0,s:=fun _=>[],sf:=fun _ _=>[],ro:=ro,win:=fun _=>⟨0,0,none⟩}
 have hs:SumOk Tryz.prog aev ρ:=(ZB hro).ok rfl rfl
 have hpc:av ρ [(.le (.lit 0) (.lit 7),true)]:=fun f hf=>by
  obtain rfl:=List.mem_singleton.1 hf
  rfl
 have hc:∀ π,V.af ρ π (sK op)=[.int .i64 op,.int .u32 a,.int .u32 b]:=fun π=>by
  show [Value.int .i64 (op:Int),.int .u32 (IntKind.u32.wrap a),.int .u32 (IntKind.u32.wrap b)]=_
  rw [wL ha,wL hb]
 obtain⟨v1,pc1,p1,h,c1⟩:=pR hro hW hs rfl rfl rfl rfl (by rfl:V.dt (sK op)=true) hpc Tryz.func38 h
 obtain⟨v2,pc2,p2,h,c2⟩:=pR hro hW hs rfl rfl rfl rfl (by rfl:V.dt (sK op)=true) p1 Tryz.func20 h
 obtain⟨r,n,e,he,h1,h2,h3⟩:=K8 (show xY op [v2,v1] pc2=true from h)
 injection he with e2 he
 injection he with e1 _
 subst e1 e2
 exact⟨n.den ρ,e.den ρ,r.den ρ,c1 _ _ hc fun π=>rfl,c2 _ _ hc fun π=>rfl,fun hne=>jg p2 (h3 hne),cw h2,cw h1⟩
end
end Go.Proofs.YtmickljjofbmiaaGreatDoor
