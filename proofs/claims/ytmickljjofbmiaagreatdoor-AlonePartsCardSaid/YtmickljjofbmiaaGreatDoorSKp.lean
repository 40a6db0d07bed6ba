/- AloneParts: the laws' commits, over a row and the first part of another, of one symbol (printed by hcas); what alone.Run leaves. No condition. -/
import Derived.Test.YtmickljjofbmiaaGreatDoorSCs
namespace Go.Proofs.YtmickljjofbmiaaGreatDoor
open Go Go.Proofs
noncomputable def lbC : Code := (rk (Tryz.f12.body.getD .skip)).getD 0 .skip
noncomputable def C1H : H := rS [(0, .ro 0 (YR 0)),
  (8, .arr (.base 75) NA (.var 80) 65 true),
  (7, .arr (.base 75) NA (.var 60) 65 true)]
noncomputable def C1Pc : PC := [((.le (.lit 1) (.var 60)), true), ((.le (.var 60) (.lit 300)), true), ((.le (.var 60) (.var 80)), true), ((.le (.var 80) (.lit 300)), true), ((.le (.lit 0) (.lit 7)), true)]
noncomputable def C1I : n5 := ⟨⟨[(.xslice false 7 (.lit 0) 14 (.var 60) (.room (.var 60))), (.xslice false 8 (.lit 0) 14 (.var 60) (.room (.var 80))), U, U, (.any 9), (.int .i64 (.var 100)), (.xslice false 7 (.lit 0) 14 (.var 60) (.room (.var 60))), (.int .i64 (.var 60)), (.xslice false 8 (.lit 0) 14 (.var 60) (.room (.var 80))), (.int .i64 (.var 60)), (.bool (.lit 0)), (.any 10), (.any 11), (.any 12), (.any 13), (.any 14), (.any 15), (.any 16), (.any 17), (.any 18), (.any 19), (.any 20), (.any 21), (.any 22), (.any 23), (.any 24)], []⟩,
 [(0, .ro 0 (YR 0)),
  (8, .arr (.base 75) NA (.var 80) 65 true),
  (7, .arr (.base 75) NA (.var 60) 65 true)],
 25, [((.le (.lit 0) (.var 100)), true), ((.le (.lit 1) (.var 60)), true), ((.le (.var 60) (.lit 300)), true), ((.le (.var 60) (.var 80)), true), ((.le (.var 80) (.lit 300)), true), ((.le (.lit 0) (.lit 7)), true)], [0, 1, 2, 3, 4, 5, 6, 8, 7, 9, 10, 11, 12, 13, 14, 15, 16, 17, 18, 19, 20, 21, 22, 23, 24]⟩
noncomputable def C1T : Tch := ⟨[100], []⟩
noncomputable def C1S : Mt := (Zz [(100, (.lit 0))] [])
noncomputable def C1O : OutP := ⟨(.exit 0), ⟨⟨[(.xslice false 7 (.lit 0) 14 (.var 60) (.room (.var 60))), (.xslice false 8 (.lit 0) 14 (.var 60) (.room (.var 80))), U, U, (.any 9), (.any 10), (.xslice false 7 (.lit 0) 14 (.var 60) (.room (.var 60))), (.int .i64 (.var 60)), (.xslice false 8 (.lit 0) 14 (.var 60) (.room (.var 80))), (.int .i64 (.var 60)), (.bool (.lit 0)), (.any 11), (.xslice false 7 (.lit 0) 14 (.var 60) (.room (.var 60))), (.int .i64 (.var 60)), (.any 12), (.any 13), (.any 14), (.any 15), (.any 16), (.any 17), (.any 18), (.any 19), (.any 20), (.any 21), (.any 22), (.any 23)], []⟩,
 [(0, .ro 0 (YR 0)),
  (8, .arr (.base 75) NA (.var 80) 65 true),
  (7, .arr (.base 75) NA (.var 60) 65 true)],
 24, [], [0, 1, 2, 3, 4, 5, 6, 8, 7, 9, 10, 11, 12, 13, 14, 15, 16, 17, 18, 19, 20, 21, 22, 23]⟩⟩
noncomputable def C1LL : R LL :=
 (.br (.lt (.var 100) (.var 60))
  (.ok (.next (Zz [(100, (.add (.var 100) (.lit 1)))] [])))
  (.ok (.out 0 (Zz [] []))))
noncomputable def C1L : LoopI := ⟨none, lbC, ⟨[(.xslice false 7 (.lit 0) 14 (.var 60) (.room (.var 60))), (.xslice false 8 (.lit 0) 14 (.var 60) (.room (.var 80))), U, U, (.bool (.lit 0)), (.int .i64 (.lit 0)), (.xslice false 7 (.lit 0) 14 (.var 60) (.room (.var 60))), (.int .i64 (.var 60)), (.xslice false 8 (.lit 0) 14 (.var 60) (.room (.var 80))), (.int .i64 (.var 60)), (.bool (.lit 0)), U, U, U, U, U, U, U, U, U, U, U, U, U, U, U], []⟩, ⟨C1H, 9, C1Pc⟩, .ok (C1O.ex, C1O.pat.fr, ⟨C1O.pat.st.h, C1O.pat.st.n, C1Pc⟩)⟩
def CMP : nU := ⟨[(.xslice false 7 (.lit 0) 14 (.var 60) (.room (.var 60))), (.xslice false 8 (.lit 0) 14 (.var 60) (.room (.var 80)))], [(7, .arr (.base 75) NA (.var 60) 65 true),
  (8, .arr (.base 75) NA (.var 80) 65 true)], 9, [((.le (.lit 1) (.var 60)), true), ((.le (.var 60) (.lit 300)), true), ((.le (.var 60) (.var 80)), true), ((.le (.var 80) (.lit 300)), true), ((.le (.lit 0) (.lit 7)), true)]⟩
def CMR : R Leaf :=
 (.ok { v := (.bool (.lit 1)), objs := [(7, .arr (.base 75) NA (.var 60) 65 true), (8, .arr (.base 75) NA (.var 80) 65 true)], n := 24 })
noncomputable def cxLp (L : LoopI) : Cx := { O4 [] with lp := some (Yl [L]) }
set_option maxRecDepth 100000 in
theorem C1_chk : (match (ev (O4 []) 4000).code C1L.rnd C1L.body C1I.fr C1I.st with | raw => kZ C1T C1L.st.n C1I [C1O] raw (oL C1I [C1O] raw C1LL)) = true := by kernel_rfl
set_option maxRecDepth 100000 in
theorem C1_ok : LG 7 C1L C1I [C1O] = true := by kernel_rfl
set_option maxRecDepth 100000 in
theorem C1_ent : fit C1T (lU C1I C1L.fr C1L.st C1S.v C1S.a) C1L.st.n C1I C1L.fr C1L.st = true := by kernel_rfl
set_option maxRecDepth 100000 in
theorem CM_run : tz CMP ((X1 (cxLp C1L) 4000).call 12 CMP.args (CMP.st aj)) = CMR := by kernel_rfl
set_option maxRecDepth 100000 in
theorem AR_run : tz ARP ((X1 (cxLp BD) 4000).call 10 ARP.args (ARP.st aj)) = ARR := by kernel_rfl
set_option maxRecDepth 100000 in
theorem BR_run : tz BRP ((X1 (cxLp BRL) 4000).call 10 BRP.args (BRP.st aj)) = BRR := by kernel_rfl
end Go.Proofs.YtmickljjofbmiaaGreatDoor
