/- script's functions: their loops' shapes, what they do (printed by hctr, hlg2, hlg3, hlg4). No condition. -/
import Derived.Test.YtennjdjcjjjmiaaGreatDoorTOk
import Derived.Test.YtennjdjcjjjmiaaGreatDoorFwH
namespace Go.Proofs.YtennjdjcjjjmiaaGreatDoor
open Go
noncomputable def roC (_ : Nat) : List V := asciiL 256
abbrev U : V := .undef
def kE (b : X) : X := .ite (.eq (.rem b (.lit 8)) (.lit 0)) (.lit 1) (.ite (.eq (.rem b (.lit 8)) (.lit 1)) (.lit 1) (.ite (.eq (.rem b (.lit 8)) (.lit 2)) (.lit 2) (.ite (.eq (.rem b (.lit 8)) (.lit 3)) (.lit 2) (.ite (.eq (.rem b (.lit 8)) (.lit 4)) (.lit 3) (.ite (.eq (.rem b (.lit 8)) (.lit 5)) (.lit 3) (.ite (.eq (.rem b (.lit 8)) (.lit 6)) (.lit 4) (.lit 5)))))))
def hE (b : X) : X := .rem (.quo b (.lit 8)) (.lit 4)
def nE (k : X) : X := .ite (.eq k (.lit 1)) (.lit 0) (.ite (.eq k (.lit 2)) (.lit 2) (.ite (.eq k (.lit 3)) (.lit 4) (.ite (.eq k (.lit 4)) (.lit 6) (.ite (.eq k (.lit 5)) (.lit 7) (.lit (-1))))))
def lpsOf : Code → List Code
 | .seq a b => lpsOf a ++ lpsOf b
 | .cond _ a b => lpsOf a ++ lpsOf b
 | .block _ c => lpsOf c
 | .loop c => c :: lpsOf c
 | .scope c => lpsOf c
 | .rangeFunc _ _ a b => lpsOf a ++ lpsOf b
 | _ => []
def rgsOf : Code → List (Array Tmp × Code × Code)
 | .seq a b => rgsOf a ++ rgsOf b
 | .cond _ a b => rgsOf a ++ rgsOf b
 | .block _ c => rgsOf c
 | .loop c => rgsOf c
 | .scope c => rgsOf c
 | .rangeFunc _ ps a b => (ps, a, b) :: (rgsOf a ++ rgsOf b)
 | _ => []
noncomputable def bodyOf : Nat → Code
 | 34 => Tryz.f34.body.getD .skip
 | 35 => Tryz.f35.body.getD .skip
 | 36 => Tryz.f36.body.getD .skip
 | 25 => Tryz.f25.body.getD .skip
 | 26 => Tryz.f26.body.getD .skip
 | _ => .skip
noncomputable def lb (f k : Nat) : Code := (lpsOf (bodyOf f)).getD k .skip
noncomputable def rp (f k : Nat) : Array Tmp := ((rgsOf (bodyOf f)).getD k (#[], .skip, .skip)).1
noncomputable def ra (f k : Nat) : Code := ((rgsOf (bodyOf f)).getD k (#[], .skip, .skip)).2.1
noncomputable def rb (f k : Nat) : Code := ((rgsOf (bodyOf f)).getD k (#[], .skip, .skip)).2.2
noncomputable def cxB : Cx := { cxD with sx := true, mg := true, js := true }
noncomputable def cxI : Cx := { cxD with sx := true, mg := true }
def kD : List CK := [.int .i64, .int .i64, .int .u32, .int .u32, .int .i64, .int .u32, .int .i64, .int .u32, .int .i64, .bool, .bool, .int .u32, .bool, .int .i64, .int .u32, .int .i64, .int .u32, .int .i64, .int .u32, .int .i64]
def kH : List CK := .int .i64 :: (List.replicate 33 (.int .u32) ++ [.int .i64])
def lBig : X := .lit 9223372036854775807
def cEqs (x : X) (t s : Nat) : Nat → List CK → List X
 | _, [] => []
 | c, .int k :: l => .eq (.wrap k (.fn1 (t + c) x)) (.wrap k (.fn1 (s + c) x)) :: cEqs x t s (c + 1) l
 | c, .bool :: l => .eq (.not (.eq (.fn1 (t + c) x) (.lit 1))) (.not (.eq (.fn1 (s + c) x) (.lit 1))) :: cEqs x t s (c + 1) l
def chainL (y n : R LL) : List X → R LL
 | [] => y
 | x :: l => .br x (chainL y n l) n
def nextL : R LL := .ok (.next (mtV [(100, .add (.var 100) (.lit 1))] []))
def eqLL (n t s : Nat) (ks : List CK) : R LL := .br (.lt (.var 100) (.var n)) (chainL nextL (.ok (.out 0 (mtV [] []))) (cEqs (.var 100) t s 0 ks)) (.ok (.out 1 (mtV [] [])))
def selfLL (n : Nat) : R LL := .br (.lt (.var 100) (.var n)) nextL (.ok (.out 0 (mtV [] [])))
noncomputable def A1H : H := itemsH [(0, .ro 0 (roC 0)),
  (10, .warr 10 300 kD (.var 52)),
  (7, .warr 7 200 kD (.var 50))]
noncomputable def A1Pc : PC := [((.eq (.var 50) (.var 52)), true), ((.le (.lit 1) (.var 50)), true), ((.le (.var 50) lBig), true), ((.le (.var 50) (.var 51)), true), ((.le (.lit 1) (.var 52)), true), ((.le (.var 52) lBig), true), ((.le (.var 52) (.var 53)), true), ((.le (.lit 0) (.lit 7)), true)]
noncomputable def A1I : Pat := ⟨⟨[(.xslice true 7 (.lit 0) 20 (.var 50) (.known (.var 51))), (.xslice true 10 (.lit 0) 20 (.var 52) (.known (.var 53))), U, U, (.any 11), (.any 12), (.xslice true 7 (.lit 0) 20 (.var 50) (.known (.var 51))), (.int .i64 (.var 50)), (.xslice true 10 (.lit 0) 20 (.var 52) (.known (.var 53))), (.int .i64 (.var 52)), (.bool (.not (.eq (.var 50) (.var 52)))), (.xslice true 7 (.lit 0) 20 (.var 50) (.known (.var 51))), (.int .i64 (.var 50)), (.int .i64 (.var 100)), (.any 13), (.any 14), (.any 15), (.any 16), (.any 17), (.any 18), (.any 19), (.any 20), (.any 21), (.any 22), (.any 23), (.any 24)], []⟩,
 [(0, .ro 0 (roC 0)),
  (10, .warr 10 300 kD (.var 52)),
  (7, .warr 7 200 kD (.var 50))],
 25, [((.le (.lit 0) (.var 100)), true), ((.eq (.var 50) (.var 52)), true), ((.le (.lit 1) (.var 50)), true), ((.le (.var 50) lBig), true), ((.le (.var 50) (.var 51)), true), ((.le (.lit 1) (.var 52)), true), ((.le (.var 52) lBig), true), ((.le (.var 52) (.var 53)), true), ((.le (.lit 0) (.lit 7)), true)], [0, 1, 2, 3, 4, 5, 6, 10, 7, 11, 12, 13, 14, 15, 16, 17, 18, 19, 20, 21, 22, 23, 24]⟩
noncomputable def A1T : Tch := ⟨[100], []⟩
noncomputable def A1S : Mt := (mtV [(100, (.lit 0))] [])
noncomputable def A1O : OutP := ⟨.ret, ⟨⟨[(.any 11), (.any 12), (.any 13), (.any 14), (.bool (.lit 0)), (.any 15), (.any 16), (.any 17), (.any 18), (.any 19), (.any 20), (.any 21), (.any 22), (.any 23), (.any 24), (.any 25), (.any 26), (.any 27), (.any 28), (.any 29), (.any 30), (.any 31), (.any 32), (.any 33), (.any 34), (.any 35)], []⟩,
 [(0, .ro 0 (roC 0)),
  (10, .warr 10 300 kD (.var 52)),
  (7, .warr 7 200 kD (.var 50))],
 36, [], [0, 1, 2, 3, 4, 5, 6, 10, 7, 11, 12, 13, 14, 15, 16, 17, 18, 19, 20, 21, 22, 23, 24, 25, 26, 27, 28, 29, 30, 31, 32, 33, 34, 35]⟩⟩
noncomputable def A1O1 : OutP := ⟨(.exit 0), ⟨⟨[(.xslice true 7 (.lit 0) 20 (.var 50) (.known (.var 51))), (.xslice true 10 (.lit 0) 20 (.var 52) (.known (.var 53))), (.any 11), (.any 12), (.any 13), (.any 14), (.xslice true 7 (.lit 0) 20 (.var 50) (.known (.var 51))), (.int .i64 (.var 50)), (.xslice true 10 (.lit 0) 20 (.var 52) (.known (.var 53))), (.int .i64 (.var 52)), (.bool (.not (.eq (.var 50) (.var 52)))), (.xslice true 7 (.lit 0) 20 (.var 50) (.known (.var 51))), (.any 15), (.any 16), (.any 17), (.any 18), (.any 19), (.any 20), (.any 21), (.any 22), (.any 23), (.any 24), (.any 25), (.any 26), (.any 27), (.any 28)], []⟩,
 [(0, .ro 0 (roC 0)),
  (10, .warr 10 300 kD (.var 52)),
  (7, .warr 7 200 kD (.var 50))],
 29, [], [0, 1, 2, 3, 4, 5, 6, 10, 7, 11, 12, 13, 14, 15, 16, 17, 18, 19, 20, 21, 22, 23, 24, 25, 26, 27, 28]⟩⟩
def A1LL : R LL := eqLL 50 200 300 kD
noncomputable def A1L : LoopI := ⟨none, (lb 34 0), ⟨[(.xslice true 7 (.lit 0) 20 (.var 50) (.known (.var 51))), (.xslice true 10 (.lit 0) 20 (.var 52) (.known (.var 53))), U, U, (.bool (.lit 0)), U, (.xslice true 7 (.lit 0) 20 (.var 50) (.known (.var 51))), (.int .i64 (.var 50)), (.xslice true 10 (.lit 0) 20 (.var 52) (.known (.var 53))), (.int .i64 (.var 52)), (.bool (.not (.eq (.var 50) (.var 52)))), (.xslice true 7 (.lit 0) 20 (.var 50) (.known (.var 51))), (.int .i64 (.var 50)), (.int .i64 (.lit 0)), U, U, U, U, U, U, U, U, U, U, U, U], []⟩, ⟨A1H, 11, A1Pc⟩, .br (.eq (.var 62) (.lit 0)) (.ok (A1O.ex, A1O.pat.fr, ⟨A1O.pat.st.h, A1O.pat.st.n, A1Pc⟩)) (.ok (A1O1.ex, A1O1.pat.fr, ⟨A1O1.pat.st.h, A1O1.pat.st.n, A1Pc⟩))⟩
def EDP : CallP := ⟨[(.xslice true 7 (.lit 0) 20 (.var 50) (.known (.var 51))), (.xslice true 10 (.lit 0) 20 (.var 52) (.known (.var 53)))], [(7, .warr 7 200 kD (.var 50)),
  (10, .warr 10 300 kD (.var 52))], 11, [((.le (.lit 1) (.var 50)), true), ((.le (.var 50) lBig), true), ((.le (.var 50) (.var 51)), true), ((.le (.lit 1) (.var 52)), true), ((.le (.var 52) lBig), true), ((.le (.var 52) (.var 53)), true), ((.le (.lit 0) (.lit 7)), true)]⟩
def EDR : R Leaf :=
 (.br (.eq (.var 50) (.var 52))
  (.br (.eq (.var 62) (.lit 0))
  (.ok { v := (.bool (.lit 0)), objs := [], n := 36 })
  (.ok { v := (.bool (.lit 1)), objs := [], n := 29 }))
  (.ok { v := (.bool (.lit 0)), objs := [], n := 11 }))
noncomputable def B1H : H := itemsH [(0, .ro 0 (roC 0)),
  (7, .warr 7 200 kD (.var 50))]
noncomputable def B1Pc : PC := [((.le (.lit 1) (.var 50)), true), ((.le (.var 50) lBig), true), ((.le (.var 50) (.var 51)), true), ((.le (.lit 0) (.lit 7)), true)]
noncomputable def B1I : Pat := ⟨⟨[(.xslice true 7 (.lit 0) 20 (.var 50) (.known (.var 51))), (.xslice true 7 (.lit 0) 20 (.var 50) (.known (.var 51))), U, U, (.any 8), (.any 9), (.xslice true 7 (.lit 0) 20 (.var 50) (.known (.var 51))), (.int .i64 (.var 50)), (.xslice true 7 (.lit 0) 20 (.var 50) (.known (.var 51))), (.int .i64 (.var 50)), (.bool (.lit 0)), (.xslice true 7 (.lit 0) 20 (.var 50) (.known (.var 51))), (.int .i64 (.var 50)), (.int .i64 (.var 100)), (.any 10), (.any 11), (.any 12), (.any 13), (.any 14), (.any 15), (.any 16), (.any 17), (.any 18), (.any 19), (.any 20), (.any 21)], []⟩,
 [(0, .ro 0 (roC 0)),
  (7, .warr 7 200 kD (.var 50))],
 22, [((.le (.lit 0) (.var 100)), true), ((.le (.lit 1) (.var 50)), true), ((.le (.var 50) lBig), true), ((.le (.var 50) (.var 51)), true), ((.le (.lit 0) (.lit 7)), true)], [0, 1, 2, 3, 4, 5, 6, 7, 8, 9, 10, 11, 12, 13, 14, 15, 16, 17, 18, 19, 20, 21]⟩
noncomputable def B1T : Tch := ⟨[100], []⟩
noncomputable def B1S : Mt := (mtV [(100, (.lit 0))] [])
noncomputable def B1O : OutP := ⟨(.exit 0), ⟨⟨[(.xslice true 7 (.lit 0) 20 (.var 50) (.known (.var 51))), (.xslice true 7 (.lit 0) 20 (.var 50) (.known (.var 51))), U, U, (.any 8), (.any 9), (.xslice true 7 (.lit 0) 20 (.var 50) (.known (.var 51))), (.int .i64 (.var 50)), (.xslice true 7 (.lit 0) 20 (.var 50) (.known (.var 51))), (.int .i64 (.var 50)), (.bool (.lit 0)), (.xslice true 7 (.lit 0) 20 (.var 50) (.known (.var 51))), (.int .i64 (.var 50)), (.any 10), (.any 11), (.any 12), (.any 13), (.any 14), (.any 15), (.any 16), (.any 17), (.any 18), (.any 19), (.any 20), (.any 21), (.any 22)], []⟩,
 [(0, .ro 0 (roC 0)),
  (7, .warr 7 200 kD (.var 50))],
 23, [], [0, 1, 2, 3, 4, 5, 6, 7, 8, 9, 10, 11, 12, 13, 14, 15, 16, 17, 18, 19, 20, 21, 22]⟩⟩
def B1LL : R LL := selfLL 50
noncomputable def B1L : LoopI := ⟨none, (lb 34 0), ⟨[(.xslice true 7 (.lit 0) 20 (.var 50) (.known (.var 51))), (.xslice true 7 (.lit 0) 20 (.var 50) (.known (.var 51))), U, U, (.bool (.lit 0)), U, (.xslice true 7 (.lit 0) 20 (.var 50) (.known (.var 51))), (.int .i64 (.var 50)), (.xslice true 7 (.lit 0) 20 (.var 50) (.known (.var 51))), (.int .i64 (.var 50)), (.bool (.lit 0)), (.xslice true 7 (.lit 0) 20 (.var 50) (.known (.var 51))), (.int .i64 (.var 50)), (.int .i64 (.lit 0)), U, U, U, U, U, U, U, U, U, U, U, U], []⟩, ⟨B1H, 8, B1Pc⟩, .ok (B1O.ex, B1O.pat.fr, ⟨B1O.pat.st.h, B1O.pat.st.n, B1Pc⟩)⟩
def SDP : CallP := ⟨[(.xslice true 7 (.lit 0) 20 (.var 50) (.known (.var 51))), (.xslice true 7 (.lit 0) 20 (.var 50) (.known (.var 51)))], [(7, .warr 7 200 kD (.var 50))], 8, [((.le (.lit 1) (.var 50)), true), ((.le (.var 50) lBig), true), ((.le (.var 50) (.var 51)), true), ((.le (.lit 0) (.lit 7)), true)]⟩
def SDR : R Leaf :=
 (.ok { v := (.bool (.lit 1)), objs := [], n := 23 })
noncomputable def A2H : H := itemsH [(0, .ro 0 (roC 0)),
  (8, .warr 8 400 kH (.var 54)),
  (11, .warr 11 500 kH (.var 56))]
noncomputable def A2Pc : PC := [((.eq (.var 54) (.var 56)), true), ((.le (.lit 1) (.var 54)), true), ((.le (.var 54) lBig), true), ((.le (.var 54) (.var 55)), true), ((.le (.lit 1) (.var 56)), true), ((.le (.var 56) lBig), true), ((.le (.var 56) (.var 57)), true), ((.le (.lit 0) (.lit 7)), true)]
noncomputable def A2I : Pat := ⟨⟨[(.xslice true 8 (.lit 0) 35 (.var 54) (.known (.var 55))), (.xslice true 11 (.lit 0) 35 (.var 56) (.known (.var 57))), U, U, (.any 12), (.any 13), (.xslice true 8 (.lit 0) 35 (.var 54) (.known (.var 55))), (.int .i64 (.var 54)), (.xslice true 11 (.lit 0) 35 (.var 56) (.known (.var 57))), (.int .i64 (.var 56)), (.bool (.not (.eq (.var 54) (.var 56)))), (.xslice true 8 (.lit 0) 35 (.var 54) (.known (.var 55))), (.int .i64 (.var 54)), (.int .i64 (.var 100)), (.any 14), (.any 15), (.any 16), (.any 17), (.any 18), (.any 19), (.any 20), (.any 21), (.any 22), (.any 23), (.any 24), (.any 25)], []⟩,
 [(0, .ro 0 (roC 0)),
  (8, .warr 8 400 kH (.var 54)),
  (11, .warr 11 500 kH (.var 56))],
 26, [((.le (.lit 0) (.var 100)), true), ((.eq (.var 54) (.var 56)), true), ((.le (.lit 1) (.var 54)), true), ((.le (.var 54) lBig), true), ((.le (.var 54) (.var 55)), true), ((.le (.lit 1) (.var 56)), true), ((.le (.var 56) lBig), true), ((.le (.var 56) (.var 57)), true), ((.le (.lit 0) (.lit 7)), true)], [0, 1, 2, 3, 4, 5, 6, 8, 11, 12, 13, 14, 15, 16, 17, 18, 19, 20, 21, 22, 23, 24, 25]⟩
noncomputable def A2T : Tch := ⟨[100], []⟩
noncomputable def A2S : Mt := (mtV [(100, (.lit 0))] [])
noncomputable def A2O : OutP := ⟨.ret, ⟨⟨[(.any 12), (.any 13), (.any 14), (.any 15), (.bool (.lit 0)), (.any 16), (.any 17), (.any 18), (.any 19), (.any 20), (.any 21), (.any 22), (.any 23), (.any 24), (.any 25), (.any 26), (.any 27), (.any 28), (.any 29), (.any 30), (.any 31), (.any 32), (.any 33), (.any 34), (.any 35), (.any 36)], []⟩,
 [(0, .ro 0 (roC 0)),
  (8, .warr 8 400 kH (.var 54)),
  (11, .warr 11 500 kH (.var 56))],
 37, [], [0, 1, 2, 3, 4, 5, 6, 8, 11, 12, 13, 14, 15, 16, 17, 18, 19, 20, 21, 22, 23, 24, 25, 26, 27, 28, 29, 30, 31, 32, 33, 34, 35, 36]⟩⟩
noncomputable def A2O1 : OutP := ⟨(.exit 0), ⟨⟨[(.xslice true 8 (.lit 0) 35 (.var 54) (.known (.var 55))), (.xslice true 11 (.lit 0) 35 (.var 56) (.known (.var 57))), (.any 12), (.any 13), (.any 14), (.any 15), (.xslice true 8 (.lit 0) 35 (.var 54) (.known (.var 55))), (.int .i64 (.var 54)), (.xslice true 11 (.lit 0) 35 (.var 56) (.known (.var 57))), (.int .i64 (.var 56)), (.bool (.not (.eq (.var 54) (.var 56)))), (.xslice true 8 (.lit 0) 35 (.var 54) (.known (.var 55))), (.any 16), (.any 17), (.any 18), (.any 19), (.any 20), (.any 21), (.any 22), (.any 23), (.any 24), (.any 25), (.any 26), (.any 27), (.any 28), (.any 29)], []⟩,
 [(0, .ro 0 (roC 0)),
  (8, .warr 8 400 kH (.var 54)),
  (11, .warr 11 500 kH (.var 56))],
 30, [], [0, 1, 2, 3, 4, 5, 6, 8, 11, 12, 13, 14, 15, 16, 17, 18, 19, 20, 21, 22, 23, 24, 25, 26, 27, 28, 29]⟩⟩
def A2LL : R LL := eqLL 54 400 500 kH
noncomputable def A2L : LoopI := ⟨none, (lb 35 0), ⟨[(.xslice true 8 (.lit 0) 35 (.var 54) (.known (.var 55))), (.xslice true 11 (.lit 0) 35 (.var 56) (.known (.var 57))), U, U, (.bool (.lit 0)), U, (.xslice true 8 (.lit 0) 35 (.var 54) (.known (.var 55))), (.int .i64 (.var 54)), (.xslice true 11 (.lit 0) 35 (.var 56) (.known (.var 57))), (.int .i64 (.var 56)), (.bool (.not (.eq (.var 54) (.var 56)))), (.xslice true 8 (.lit 0) 35 (.var 54) (.known (.var 55))), (.int .i64 (.var 54)), (.int .i64 (.lit 0)), U, U, U, U, U, U, U, U, U, U, U, U], []⟩, ⟨A2H, 12, A2Pc⟩, .br (.eq (.var 63) (.lit 0)) (.ok (A2O.ex, A2O.pat.fr, ⟨A2O.pat.st.h, A2O.pat.st.n, A2Pc⟩)) (.ok (A2O1.ex, A2O1.pat.fr, ⟨A2O1.pat.st.h, A2O1.pat.st.n, A2Pc⟩))⟩
def EHP : CallP := ⟨[(.xslice true 8 (.lit 0) 35 (.var 54) (.known (.var 55))), (.xslice true 11 (.lit 0) 35 (.var 56) (.known (.var 57)))], [(8, .warr 8 400 kH (.var 54)),
  (11, .warr 11 500 kH (.var 56))], 12, [((.le (.lit 1) (.var 54)), true), ((.le (.var 54) lBig), true), ((.le (.var 54) (.var 55)), true), ((.le (.lit 1) (.var 56)), true), ((.le (.var 56) lBig), true), ((.le (.var 56) (.var 57)), true), ((.le (.lit 0) (.lit 7)), true)]⟩
def EHR : R Leaf :=
 (.br (.eq (.var 54) (.var 56))
  (.br (.eq (.var 63) (.lit 0))
  (.ok { v := (.bool (.lit 0)), objs := [], n := 37 })
  (.ok { v := (.bool (.lit 1)), objs := [], n := 30 }))
  (.ok { v := (.bool (.lit 0)), objs := [], n := 12 }))
noncomputable def B2H : H := itemsH [(0, .ro 0 (roC 0)),
  (8, .warr 8 400 kH (.var 54))]
noncomputable def B2Pc : PC := [((.le (.lit 1) (.var 54)), true), ((.le (.var 54) lBig), true), ((.le (.var 54) (.var 55)), true), ((.le (.lit 0) (.lit 7)), true)]
noncomputable def B2I : Pat := ⟨⟨[(.xslice true 8 (.lit 0) 35 (.var 54) (.known (.var 55))), (.xslice true 8 (.lit 0) 35 (.var 54) (.known (.var 55))), U, U, (.any 9), (.any 10), (.xslice true 8 (.lit 0) 35 (.var 54) (.known (.var 55))), (.int .i64 (.var 54)), (.xslice true 8 (.lit 0) 35 (.var 54) (.known (.var 55))), (.int .i64 (.var 54)), (.bool (.lit 0)), (.xslice true 8 (.lit 0) 35 (.var 54) (.known (.var 55))), (.int .i64 (.var 54)), (.int .i64 (.var 100)), (.any 11), (.any 12), (.any 13), (.any 14), (.any 15), (.any 16), (.any 17), (.any 18), (.any 19), (.any 20), (.any 21), (.any 22)], []⟩,
 [(0, .ro 0 (roC 0)),
  (8, .warr 8 400 kH (.var 54))],
 23, [((.le (.lit 0) (.var 100)), true), ((.le (.lit 1) (.var 54)), true), ((.le (.var 54) lBig), true), ((.le (.var 54) (.var 55)), true), ((.le (.lit 0) (.lit 7)), true)], [0, 1, 2, 3, 4, 5, 6, 8, 9, 10, 11, 12, 13, 14, 15, 16, 17, 18, 19, 20, 21, 22]⟩
noncomputable def B2T : Tch := ⟨[100], []⟩
noncomputable def B2S : Mt := (mtV [(100, (.lit 0))] [])
noncomputable def B2O : OutP := ⟨(.exit 0), ⟨⟨[(.xslice true 8 (.lit 0) 35 (.var 54) (.known (.var 55))), (.xslice true 8 (.lit 0) 35 (.var 54) (.known (.var 55))), U, U, (.any 9), (.any 10), (.xslice true 8 (.lit 0) 35 (.var 54) (.known (.var 55))), (.int .i64 (.var 54)), (.xslice true 8 (.lit 0) 35 (.var 54) (.known (.var 55))), (.int .i64 (.var 54)), (.bool (.lit 0)), (.xslice true 8 (.lit 0) 35 (.var 54) (.known (.var 55))), (.int .i64 (.var 54)), (.any 11), (.any 12), (.any 13), (.any 14), (.any 15), (.any 16), (.any 17), (.any 18), (.any 19), (.any 20), (.any 21), (.any 22), (.any 23)], []⟩,
 [(0, .ro 0 (roC 0)),
  (8, .warr 8 400 kH (.var 54))],
 24, [], [0, 1, 2, 3, 4, 5, 6, 8, 9, 10, 11, 12, 13, 14, 15, 16, 17, 18, 19, 20, 21, 22, 23]⟩⟩
def B2LL : R LL := selfLL 54
noncomputable def B2L : LoopI := ⟨none, (lb 35 0), ⟨[(.xslice true 8 (.lit 0) 35 (.var 54) (.known (.var 55))), (.xslice true 8 (.lit 0) 35 (.var 54) (.known (.var 55))), U, U, (.bool (.lit 0)), U, (.xslice true 8 (.lit 0) 35 (.var 54) (.known (.var 55))), (.int .i64 (.var 54)), (.xslice true 8 (.lit 0) 35 (.var 54) (.known (.var 55))), (.int .i64 (.var 54)), (.bool (.lit 0)), (.xslice true 8 (.lit 0) 35 (.var 54) (.known (.var 55))), (.int .i64 (.var 54)), (.int .i64 (.lit 0)), U, U, U, U, U, U, U, U, U, U, U, U], []⟩, ⟨B2H, 9, B2Pc⟩, .ok (B2O.ex, B2O.pat.fr, ⟨B2O.pat.st.h, B2O.pat.st.n, B2Pc⟩)⟩
def SHP : CallP := ⟨[(.xslice true 8 (.lit 0) 35 (.var 54) (.known (.var 55))), (.xslice true 8 (.lit 0) 35 (.var 54) (.known (.var 55)))], [(8, .warr 8 400 kH (.var 54))], 9, [((.le (.lit 1) (.var 54)), true), ((.le (.var 54) lBig), true), ((.le (.var 54) (.var 55)), true), ((.le (.lit 0) (.lit 7)), true)]⟩
def SHR : R Leaf :=
 (.ok { v := (.bool (.lit 1)), objs := [], n := 24 })
noncomputable def A3H : H := itemsH [(0, .ro 0 (roC 0)),
  (12, .warr 12 700 [.int .u8] (.var 60)),
  (9, .warr 9 600 [.int .u8] (.var 58))]
noncomputable def A3Pc : PC := [((.eq (.var 58) (.var 60)), true), ((.le (.lit 1) (.var 58)), true), ((.le (.var 58) lBig), true), ((.le (.var 58) (.var 59)), true), ((.le (.lit 1) (.var 60)), true), ((.le (.var 60) lBig), true), ((.le (.var 60) (.var 61)), true), ((.le (.lit 0) (.lit 7)), true)]
noncomputable def A3I : Pat := ⟨⟨[(.xslice true 9 (.lit 0) 1 (.var 58) (.known (.var 59))), (.xslice true 12 (.lit 0) 1 (.var 60) (.known (.var 61))), U, U, (.any 13), (.any 14), (.xslice true 9 (.lit 0) 1 (.var 58) (.known (.var 59))), (.int .i64 (.var 58)), (.xslice true 12 (.lit 0) 1 (.var 60) (.known (.var 61))), (.int .i64 (.var 60)), (.bool (.not (.eq (.var 58) (.var 60)))), (.xslice true 9 (.lit 0) 1 (.var 58) (.known (.var 59))), (.int .i64 (.var 58)), (.int .i64 (.var 100)), (.any 15), (.any 16), (.any 17), (.any 18), (.any 19), (.any 20), (.any 21), (.any 22), (.any 23), (.any 24), (.any 25), (.any 26)], []⟩,
 [(0, .ro 0 (roC 0)),
  (12, .warr 12 700 [.int .u8] (.var 60)),
  (9, .warr 9 600 [.int .u8] (.var 58))],
 27, [((.le (.lit 0) (.var 100)), true), ((.eq (.var 58) (.var 60)), true), ((.le (.lit 1) (.var 58)), true), ((.le (.var 58) lBig), true), ((.le (.var 58) (.var 59)), true), ((.le (.lit 1) (.var 60)), true), ((.le (.var 60) lBig), true), ((.le (.var 60) (.var 61)), true), ((.le (.lit 0) (.lit 7)), true)], [0, 1, 2, 3, 4, 5, 6, 12, 9, 13, 14, 15, 16, 17, 18, 19, 20, 21, 22, 23, 24, 25, 26]⟩
noncomputable def A3T : Tch := ⟨[100], []⟩
noncomputable def A3S : Mt := (mtV [(100, (.lit 0))] [])
noncomputable def A3O : OutP := ⟨.ret, ⟨⟨[(.any 13), (.any 14), (.any 15), (.any 16), (.bool (.lit 0)), (.any 17), (.any 18), (.any 19), (.any 20), (.any 21), (.any 22), (.any 23), (.any 24), (.any 25), (.any 26), (.any 27), (.any 28), (.any 29), (.any 30), (.any 31), (.any 32), (.any 33), (.any 34), (.any 35), (.any 36), (.any 37)], []⟩,
 [(0, .ro 0 (roC 0)),
  (12, .warr 12 700 [.int .u8] (.var 60)),
  (9, .warr 9 600 [.int .u8] (.var 58))],
 38, [], [0, 1, 2, 3, 4, 5, 6, 12, 9, 13, 14, 15, 16, 17, 18, 19, 20, 21, 22, 23, 24, 25, 26, 27, 28, 29, 30, 31, 32, 33, 34, 35, 36, 37]⟩⟩
noncomputable def A3O1 : OutP := ⟨(.exit 0), ⟨⟨[(.xslice true 9 (.lit 0) 1 (.var 58) (.known (.var 59))), (.xslice true 12 (.lit 0) 1 (.var 60) (.known (.var 61))), (.any 13), (.any 14), (.any 15), (.any 16), (.xslice true 9 (.lit 0) 1 (.var 58) (.known (.var 59))), (.int .i64 (.var 58)), (.xslice true 12 (.lit 0) 1 (.var 60) (.known (.var 61))), (.int .i64 (.var 60)), (.bool (.not (.eq (.var 58) (.var 60)))), (.xslice true 9 (.lit 0) 1 (.var 58) (.known (.var 59))), (.any 17), (.any 18), (.any 19), (.any 20), (.any 21), (.any 22), (.any 23), (.any 24), (.any 25), (.any 26), (.any 27), (.any 28), (.any 29), (.any 30)], []⟩,
 [(0, .ro 0 (roC 0)),
  (12, .warr 12 700 [.int .u8] (.var 60)),
  (9, .warr 9 600 [.int .u8] (.var 58))],
 31, [], [0, 1, 2, 3, 4, 5, 6, 12, 9, 13, 14, 15, 16, 17, 18, 19, 20, 21, 22, 23, 24, 25, 26, 27, 28, 29, 30]⟩⟩
def A3LL : R LL := eqLL 58 600 700 [.int .u8]
noncomputable def A3L : LoopI := ⟨none, (lb 36 0), ⟨[(.xslice true 9 (.lit 0) 1 (.var 58) (.known (.var 59))), (.xslice true 12 (.lit 0) 1 (.var 60) (.known (.var 61))), U, U, (.bool (.lit 0)), U, (.xslice true 9 (.lit 0) 1 (.var 58) (.known (.var 59))), (.int .i64 (.var 58)), (.xslice true 12 (.lit 0) 1 (.var 60) (.known (.var 61))), (.int .i64 (.var 60)), (.bool (.not (.eq (.var 58) (.var 60)))), (.xslice true 9 (.lit 0) 1 (.var 58) (.known (.var 59))), (.int .i64 (.var 58)), (.int .i64 (.lit 0)), U, U, U, U, U, U, U, U, U, U, U, U], []⟩, ⟨A3H, 13, A3Pc⟩, .br (.eq (.var 64) (.lit 0)) (.ok (A3O.ex, A3O.pat.fr, ⟨A3O.pat.st.h, A3O.pat.st.n, A3Pc⟩)) (.ok (A3O1.ex, A3O1.pat.fr, ⟨A3O1.pat.st.h, A3O1.pat.st.n, A3Pc⟩))⟩
def EBP : CallP := ⟨[(.xslice true 9 (.lit 0) 1 (.var 58) (.known (.var 59))), (.xslice true 12 (.lit 0) 1 (.var 60) (.known (.var 61)))], [(9, .warr 9 600 [.int .u8] (.var 58)),
  (12, .warr 12 700 [.int .u8] (.var 60))], 13, [((.le (.lit 1) (.var 58)), true), ((.le (.var 58) lBig), true), ((.le (.var 58) (.var 59)), true), ((.le (.lit 1) (.var 60)), true), ((.le (.var 60) lBig), true), ((.le (.var 60) (.var 61)), true), ((.le (.lit 0) (.lit 7)), true)]⟩
def EBR : R Leaf :=
 (.br (.eq (.var 58) (.var 60))
  (.br (.eq (.var 64) (.lit 0))
  (.ok { v := (.bool (.lit 0)), objs := [], n := 38 })
  (.ok { v := (.bool (.lit 1)), objs := [], n := 31 }))
  (.ok { v := (.bool (.lit 0)), objs := [], n := 13 }))
noncomputable def B3H : H := itemsH [(0, .ro 0 (roC 0)),
  (9, .warr 9 600 [.int .u8] (.var 58))]
noncomputable def B3Pc : PC := [((.le (.lit 1) (.var 58)), true), ((.le (.var 58) lBig), true), ((.le (.var 58) (.var 59)), true), ((.le (.lit 0) (.lit 7)), true)]
noncomputable def B3I : Pat := ⟨⟨[(.xslice true 9 (.lit 0) 1 (.var 58) (.known (.var 59))), (.xslice true 9 (.lit 0) 1 (.var 58) (.known (.var 59))), U, U, (.any 10), (.any 11), (.xslice true 9 (.lit 0) 1 (.var 58) (.known (.var 59))), (.int .i64 (.var 58)), (.xslice true 9 (.lit 0) 1 (.var 58) (.known (.var 59))), (.int .i64 (.var 58)), (.bool (.lit 0)), (.xslice true 9 (.lit 0) 1 (.var 58) (.known (.var 59))), (.int .i64 (.var 58)), (.int .i64 (.var 100)), (.any 12), (.any 13), (.any 14), (.any 15), (.any 16), (.any 17), (.any 18), (.any 19), (.any 20), (.any 21), (.any 22), (.any 23)], []⟩,
 [(0, .ro 0 (roC 0)),
  (9, .warr 9 600 [.int .u8] (.var 58))],
 24, [((.le (.lit 0) (.var 100)), true), ((.le (.lit 1) (.var 58)), true), ((.le (.var 58) lBig), true), ((.le (.var 58) (.var 59)), true), ((.le (.lit 0) (.lit 7)), true)], [0, 1, 2, 3, 4, 5, 6, 9, 10, 11, 12, 13, 14, 15, 16, 17, 18, 19, 20, 21, 22, 23]⟩
noncomputable def B3T : Tch := ⟨[100], []⟩
noncomputable def B3S : Mt := (mtV [(100, (.lit 0))] [])
noncomputable def B3O : OutP := ⟨(.exit 0), ⟨⟨[(.xslice true 9 (.lit 0) 1 (.var 58) (.known (.var 59))), (.xslice true 9 (.lit 0) 1 (.var 58) (.known (.var 59))), U, U, (.any 10), (.any 11), (.xslice true 9 (.lit 0) 1 (.var 58) (.known (.var 59))), (.int .i64 (.var 58)), (.xslice true 9 (.lit 0) 1 (.var 58) (.known (.var 59))), (.int .i64 (.var 58)), (.bool (.lit 0)), (.xslice true 9 (.lit 0) 1 (.var 58) (.known (.var 59))), (.int .i64 (.var 58)), (.any 12), (.any 13), (.any 14), (.any 15), (.any 16), (.any 17), (.any 18), (.any 19), (.any 20), (.any 21), (.any 22), (.any 23), (.any 24)], []⟩,
 [(0, .ro 0 (roC 0)),
  (9, .warr 9 600 [.int .u8] (.var 58))],
 25, [], [0, 1, 2, 3, 4, 5, 6, 9, 10, 11, 12, 13, 14, 15, 16, 17, 18, 19, 20, 21, 22, 23, 24]⟩⟩
def B3LL : R LL := selfLL 58
noncomputable def B3L : LoopI := ⟨none, (lb 36 0), ⟨[(.xslice true 9 (.lit 0) 1 (.var 58) (.known (.var 59))), (.xslice true 9 (.lit 0) 1 (.var 58) (.known (.var 59))), U, U, (.bool (.lit 0)), U, (.xslice true 9 (.lit 0) 1 (.var 58) (.known (.var 59))), (.int .i64 (.var 58)), (.xslice true 9 (.lit 0) 1 (.var 58) (.known (.var 59))), (.int .i64 (.var 58)), (.bool (.lit 0)), (.xslice true 9 (.lit 0) 1 (.var 58) (.known (.var 59))), (.int .i64 (.var 58)), (.int .i64 (.lit 0)), U, U, U, U, U, U, U, U, U, U, U, U], []⟩, ⟨B3H, 10, B3Pc⟩, .ok (B3O.ex, B3O.pat.fr, ⟨B3O.pat.st.h, B3O.pat.st.n, B3Pc⟩)⟩
def SBP : CallP := ⟨[(.xslice true 9 (.lit 0) 1 (.var 58) (.known (.var 59))), (.xslice true 9 (.lit 0) 1 (.var 58) (.known (.var 59)))], [(9, .warr 9 600 [.int .u8] (.var 58))], 10, [((.le (.lit 1) (.var 58)), true), ((.le (.var 58) lBig), true), ((.le (.var 58) (.var 59)), true), ((.le (.lit 0) (.lit 7)), true)]⟩
def SBR : R Leaf :=
 (.ok { v := (.bool (.lit 1)), objs := [], n := 25 })
noncomputable def D1H : H := itemsH [(0, .ro 0 (roC 0)),
  (10, .warr 10 300 kD (.var 52)),
  (7, .warr 7 200 kD (.var 50))]
noncomputable def D1Pc : PC := [((.eq (.var 50) (.var 52)), true), ((.le (.lit 1) (.var 50)), true), ((.le (.var 50) lBig), true), ((.le (.var 50) (.var 51)), true), ((.le (.lit 1) (.var 52)), true), ((.le (.var 52) lBig), true), ((.le (.var 52) (.var 53)), true), ((.le (.lit 0) (.lit 7)), true)]
noncomputable def D1I : Pat := ⟨⟨[(.xslice true 7 (.lit 0) 20 (.var 50) (.known (.var 51))), (.xslice true 10 (.lit 0) 20 (.var 52) (.known (.var 53))), U, U, (.any 11), (.int .i64 (.var 100)), (.xslice true 7 (.lit 0) 20 (.var 50) (.known (.var 51))), (.int .i64 (.var 50)), (.xslice true 10 (.lit 0) 20 (.var 52) (.known (.var 53))), (.int .i64 (.var 52)), (.bool (.not (.eq (.var 50) (.var 52)))), (.any 12), (.any 13), (.any 14), (.any 15), (.any 16), (.any 17), (.any 18), (.any 19), (.any 20), (.any 21), (.any 22), (.any 23), (.any 24), (.any 25), (.any 26)], []⟩,
 [(0, .ro 0 (roC 0)),
  (10, .warr 10 300 kD (.var 52)),
  (7, .warr 7 200 kD (.var 50))],
 27, [((.le (.lit 0) (.var 100)), true), ((.eq (.var 50) (.var 52)), true), ((.le (.lit 1) (.var 50)), true), ((.le (.var 50) lBig), true), ((.le (.var 50) (.var 51)), true), ((.le (.lit 1) (.var 52)), true), ((.le (.var 52) lBig), true), ((.le (.var 52) (.var 53)), true), ((.le (.lit 0) (.lit 7)), true)], [0, 1, 2, 3, 4, 5, 6, 10, 7, 11, 12, 13, 14, 15, 16, 17, 18, 19, 20, 21, 22, 23, 24, 25, 26]⟩
noncomputable def D1T : Tch := ⟨[100], []⟩
noncomputable def D1S : Mt := (mtV [(100, (.lit 0))] [])
noncomputable def D1O : OutP := ⟨.ret, ⟨⟨[(.any 11), (.any 12), (.any 13), (.any 14), (.bool (.lit 0)), (.any 15), (.any 16), (.any 17), (.any 18), (.any 19), (.any 20), (.any 21), (.any 22), (.any 23), (.any 24), (.any 25), (.any 26), (.any 27), (.any 28), (.any 29), (.any 30), (.any 31), (.any 32), (.any 33), (.any 34), (.any 35)], []⟩,
 [(0, .ro 0 (roC 0)),
  (10, .warr 10 300 kD (.var 52)),
  (7, .warr 7 200 kD (.var 50))],
 36, [], [0, 1, 2, 3, 4, 5, 6, 10, 7, 11, 12, 13, 14, 15, 16, 17, 18, 19, 20, 21, 22, 23, 24, 25, 26, 27, 28, 29, 30, 31, 32, 33, 34, 35]⟩⟩
noncomputable def D1O1 : OutP := ⟨(.exit 0), ⟨⟨[(.xslice true 7 (.lit 0) 20 (.var 50) (.known (.var 51))), (.xslice true 10 (.lit 0) 20 (.var 52) (.known (.var 53))), (.any 11), (.any 12), (.any 13), (.any 14), (.xslice true 7 (.lit 0) 20 (.var 50) (.known (.var 51))), (.int .i64 (.var 50)), (.xslice true 10 (.lit 0) 20 (.var 52) (.known (.var 53))), (.int .i64 (.var 52)), (.bool (.not (.eq (.var 50) (.var 52)))), (.any 15), (.any 16), (.any 17), (.any 18), (.any 19), (.any 20), (.any 21), (.any 22), (.any 23), (.any 24), (.any 25), (.any 26), (.any 27), (.any 28), (.any 29)], []⟩,
 [(0, .ro 0 (roC 0)),
  (10, .warr 10 300 kD (.var 52)),
  (7, .warr 7 200 kD (.var 50))],
 30, [], [0, 1, 2, 3, 4, 5, 6, 10, 7, 11, 12, 13, 14, 15, 16, 17, 18, 19, 20, 21, 22, 23, 24, 25, 26, 27, 28, 29]⟩⟩
def D1LL : R LL := eqLL 50 200 300 kD
noncomputable def D1L : LoopI := ⟨none, (lb 25 0), ⟨[(.xslice true 7 (.lit 0) 20 (.var 50) (.known (.var 51))), (.xslice true 10 (.lit 0) 20 (.var 52) (.known (.var 53))), U, U, (.bool (.lit 0)), (.int .i64 (.lit 0)), (.xslice true 7 (.lit 0) 20 (.var 50) (.known (.var 51))), (.int .i64 (.var 50)), (.xslice true 10 (.lit 0) 20 (.var 52) (.known (.var 53))), (.int .i64 (.var 52)), (.bool (.not (.eq (.var 50) (.var 52)))), U, U, U, U, U, U, U, U, U, U, U, U, U, U, U], []⟩, ⟨D1H, 11, D1Pc⟩, .br (.eq (.var 62) (.lit 0)) (.ok (D1O.ex, D1O.pat.fr, ⟨D1O.pat.st.h, D1O.pat.st.n, D1Pc⟩)) (.ok (D1O1.ex, D1O1.pat.fr, ⟨D1O1.pat.st.h, D1O1.pat.st.n, D1Pc⟩))⟩
def DDP : CallP := ⟨[(.xslice true 7 (.lit 0) 20 (.var 50) (.known (.var 51))), (.xslice true 10 (.lit 0) 20 (.var 52) (.known (.var 53)))], [(7, .warr 7 200 kD (.var 50)),
  (10, .warr 10 300 kD (.var 52))], 11, [((.le (.lit 1) (.var 50)), true), ((.le (.var 50) lBig), true), ((.le (.var 50) (.var 51)), true), ((.le (.lit 1) (.var 52)), true), ((.le (.var 52) lBig), true), ((.le (.var 52) (.var 53)), true), ((.le (.lit 0) (.lit 7)), true)]⟩
def DDR : R Leaf :=
 (.br (.eq (.var 50) (.var 52))
  (.br (.eq (.var 62) (.lit 0))
  (.ok { v := (.bool (.lit 0)), objs := [], n := 36 })
  (.ok { v := (.bool (.lit 1)), objs := [], n := 30 }))
  (.ok { v := (.bool (.lit 0)), objs := [], n := 11 }))
noncomputable def D2H : H := itemsH [(0, .ro 0 (roC 0)),
  (8, .warr 8 400 kH (.var 54)),
  (11, .warr 11 500 kH (.var 56))]
noncomputable def D2Pc : PC := [((.eq (.var 54) (.var 56)), true), ((.le (.lit 1) (.var 54)), true), ((.le (.var 54) lBig), true), ((.le (.var 54) (.var 55)), true), ((.le (.lit 1) (.var 56)), true), ((.le (.var 56) lBig), true), ((.le (.var 56) (.var 57)), true), ((.le (.lit 0) (.lit 7)), true)]
noncomputable def D2I : Pat := ⟨⟨[(.xslice true 8 (.lit 0) 35 (.var 54) (.known (.var 55))), (.xslice true 11 (.lit 0) 35 (.var 56) (.known (.var 57))), U, U, (.any 12), (.int .i64 (.var 100)), (.xslice true 8 (.lit 0) 35 (.var 54) (.known (.var 55))), (.int .i64 (.var 54)), (.xslice true 11 (.lit 0) 35 (.var 56) (.known (.var 57))), (.int .i64 (.var 56)), (.bool (.not (.eq (.var 54) (.var 56)))), (.any 13), (.any 14), (.any 15), (.any 16), (.any 17), (.any 18), (.any 19), (.any 20), (.any 21), (.any 22), (.any 23), (.any 24), (.any 25), (.any 26), (.any 27)], []⟩,
 [(0, .ro 0 (roC 0)),
  (8, .warr 8 400 kH (.var 54)),
  (11, .warr 11 500 kH (.var 56))],
 28, [((.le (.lit 0) (.var 100)), true), ((.eq (.var 54) (.var 56)), true), ((.le (.lit 1) (.var 54)), true), ((.le (.var 54) lBig), true), ((.le (.var 54) (.var 55)), true), ((.le (.lit 1) (.var 56)), true), ((.le (.var 56) lBig), true), ((.le (.var 56) (.var 57)), true), ((.le (.lit 0) (.lit 7)), true)], [0, 1, 2, 3, 4, 5, 6, 8, 11, 12, 13, 14, 15, 16, 17, 18, 19, 20, 21, 22, 23, 24, 25, 26, 27]⟩
noncomputable def D2T : Tch := ⟨[100], []⟩
noncomputable def D2S : Mt := (mtV [(100, (.lit 0))] [])
noncomputable def D2O : OutP := ⟨.ret, ⟨⟨[(.any 12), (.any 13), (.any 14), (.any 15), (.bool (.lit 0)), (.any 16), (.any 17), (.any 18), (.any 19), (.any 20), (.any 21), (.any 22), (.any 23), (.any 24), (.any 25), (.any 26), (.any 27), (.any 28), (.any 29), (.any 30), (.any 31), (.any 32), (.any 33), (.any 34), (.any 35), (.any 36)], []⟩,
 [(0, .ro 0 (roC 0)),
  (8, .warr 8 400 kH (.var 54)),
  (11, .warr 11 500 kH (.var 56))],
 37, [], [0, 1, 2, 3, 4, 5, 6, 8, 11, 12, 13, 14, 15, 16, 17, 18, 19, 20, 21, 22, 23, 24, 25, 26, 27, 28, 29, 30, 31, 32, 33, 34, 35, 36]⟩⟩
noncomputable def D2O1 : OutP := ⟨(.exit 0), ⟨⟨[(.xslice true 8 (.lit 0) 35 (.var 54) (.known (.var 55))), (.xslice true 11 (.lit 0) 35 (.var 56) (.known (.var 57))), (.any 12), (.any 13), (.any 14), (.any 15), (.xslice true 8 (.lit 0) 35 (.var 54) (.known (.var 55))), (.int .i64 (.var 54)), (.xslice true 11 (.lit 0) 35 (.var 56) (.known (.var 57))), (.int .i64 (.var 56)), (.bool (.not (.eq (.var 54) (.var 56)))), (.any 16), (.any 17), (.any 18), (.any 19), (.any 20), (.any 21), (.any 22), (.any 23), (.any 24), (.any 25), (.any 26), (.any 27), (.any 28), (.any 29), (.any 30)], []⟩,
 [(0, .ro 0 (roC 0)),
  (8, .warr 8 400 kH (.var 54)),
  (11, .warr 11 500 kH (.var 56))],
 31, [], [0, 1, 2, 3, 4, 5, 6, 8, 11, 12, 13, 14, 15, 16, 17, 18, 19, 20, 21, 22, 23, 24, 25, 26, 27, 28, 29, 30]⟩⟩
def D2LL : R LL := eqLL 54 400 500 kH
noncomputable def D2L : LoopI := ⟨none, (lb 26 0), ⟨[(.xslice true 8 (.lit 0) 35 (.var 54) (.known (.var 55))), (.xslice true 11 (.lit 0) 35 (.var 56) (.known (.var 57))), U, U, (.bool (.lit 0)), (.int .i64 (.lit 0)), (.xslice true 8 (.lit 0) 35 (.var 54) (.known (.var 55))), (.int .i64 (.var 54)), (.xslice true 11 (.lit 0) 35 (.var 56) (.known (.var 57))), (.int .i64 (.var 56)), (.bool (.not (.eq (.var 54) (.var 56)))), U, U, U, U, U, U, U, U, U, U, U, U, U, U, U], []⟩, ⟨D2H, 12, D2Pc⟩, .br (.eq (.var 63) (.lit 0)) (.ok (D2O.ex, D2O.pat.fr, ⟨D2O.pat.st.h, D2O.pat.st.n, D2Pc⟩)) (.ok (D2O1.ex, D2O1.pat.fr, ⟨D2O1.pat.st.h, D2O1.pat.st.n, D2Pc⟩))⟩
def DHP : CallP := ⟨[(.xslice true 8 (.lit 0) 35 (.var 54) (.known (.var 55))), (.xslice true 11 (.lit 0) 35 (.var 56) (.known (.var 57)))], [(8, .warr 8 400 kH (.var 54)),
  (11, .warr 11 500 kH (.var 56))], 12, [((.le (.lit 1) (.var 54)), true), ((.le (.var 54) lBig), true), ((.le (.var 54) (.var 55)), true), ((.le (.lit 1) (.var 56)), true), ((.le (.var 56) lBig), true), ((.le (.var 56) (.var 57)), true), ((.le (.lit 0) (.lit 7)), true)]⟩
def DHR : R Leaf :=
 (.br (.eq (.var 54) (.var 56))
  (.br (.eq (.var 63) (.lit 0))
  (.ok { v := (.bool (.lit 0)), objs := [], n := 37 })
  (.ok { v := (.bool (.lit 1)), objs := [], n := 31 }))
  (.ok { v := (.bool (.lit 0)), objs := [], n := 12 }))
set_option maxRecDepth 100000 in
theorem A1_chk : (match (ev cxB 4000).code A1L.rnd A1L.body A1I.fr A1I.st with | raw => chkTree A1T A1L.st.n A1I [A1O, A1O1] raw (fillLL A1I [A1O, A1O1] raw A1LL)) = true := by kernel_rfl
set_option maxRecDepth 100000 in
theorem A1_ok : loopOk 7 A1L A1I [A1O, A1O1] = true := by kernel_rfl
set_option maxRecDepth 100000 in
theorem A1_ent : fit A1T (fillMt A1I A1L.fr A1L.st A1S.v A1S.a) A1L.st.n A1I A1L.fr A1L.st = true := by kernel_rfl
set_option maxRecDepth 100000 in
theorem B1_chk : (match (ev cxB 4000).code B1L.rnd B1L.body B1I.fr B1I.st with | raw => chkTree B1T B1L.st.n B1I [B1O] raw (fillLL B1I [B1O] raw B1LL)) = true := by kernel_rfl
set_option maxRecDepth 100000 in
theorem B1_ok : loopOk 7 B1L B1I [B1O] = true := by kernel_rfl
set_option maxRecDepth 100000 in
theorem B1_ent : fit B1T (fillMt B1I B1L.fr B1L.st B1S.v B1S.a) B1L.st.n B1I B1L.fr B1L.st = true := by kernel_rfl
set_option maxRecDepth 100000 in
theorem A2_chk : (match (ev cxB 4000).code A2L.rnd A2L.body A2I.fr A2I.st with | raw => chkTree A2T A2L.st.n A2I [A2O, A2O1] raw (fillLL A2I [A2O, A2O1] raw A2LL)) = true := by kernel_rfl
set_option maxRecDepth 100000 in
theorem A2_ok : loopOk 7 A2L A2I [A2O, A2O1] = true := by kernel_rfl
set_option maxRecDepth 100000 in
theorem A2_ent : fit A2T (fillMt A2I A2L.fr A2L.st A2S.v A2S.a) A2L.st.n A2I A2L.fr A2L.st = true := by kernel_rfl
set_option maxRecDepth 100000 in
theorem B2_chk : (match (ev cxB 4000).code B2L.rnd B2L.body B2I.fr B2I.st with | raw => chkTree B2T B2L.st.n B2I [B2O] raw (fillLL B2I [B2O] raw B2LL)) = true := by kernel_rfl
set_option maxRecDepth 100000 in
theorem B2_ok : loopOk 7 B2L B2I [B2O] = true := by kernel_rfl
set_option maxRecDepth 100000 in
theorem B2_ent : fit B2T (fillMt B2I B2L.fr B2L.st B2S.v B2S.a) B2L.st.n B2I B2L.fr B2L.st = true := by kernel_rfl
set_option maxRecDepth 100000 in
theorem A3_chk : (match (ev cxB 4000).code A3L.rnd A3L.body A3I.fr A3I.st with | raw => chkTree A3T A3L.st.n A3I [A3O, A3O1] raw (fillLL A3I [A3O, A3O1] raw A3LL)) = true := by kernel_rfl
set_option maxRecDepth 100000 in
theorem A3_ok : loopOk 7 A3L A3I [A3O, A3O1] = true := by kernel_rfl
set_option maxRecDepth 100000 in
theorem A3_ent : fit A3T (fillMt A3I A3L.fr A3L.st A3S.v A3S.a) A3L.st.n A3I A3L.fr A3L.st = true := by kernel_rfl
set_option maxRecDepth 100000 in
theorem B3_chk : (match (ev cxB 4000).code B3L.rnd B3L.body B3I.fr B3I.st with | raw => chkTree B3T B3L.st.n B3I [B3O] raw (fillLL B3I [B3O] raw B3LL)) = true := by kernel_rfl
set_option maxRecDepth 100000 in
theorem B3_ok : loopOk 7 B3L B3I [B3O] = true := by kernel_rfl
set_option maxRecDepth 100000 in
theorem B3_ent : fit B3T (fillMt B3I B3L.fr B3L.st B3S.v B3S.a) B3L.st.n B3I B3L.fr B3L.st = true := by kernel_rfl
set_option maxRecDepth 100000 in
theorem D1_chk : (match (ev cxB 4000).code D1L.rnd D1L.body D1I.fr D1I.st with | raw => chkTree D1T D1L.st.n D1I [D1O, D1O1] raw (fillLL D1I [D1O, D1O1] raw D1LL)) = true := by kernel_rfl
set_option maxRecDepth 100000 in
theorem D1_ok : loopOk 7 D1L D1I [D1O, D1O1] = true := by kernel_rfl
set_option maxRecDepth 100000 in
theorem D1_ent : fit D1T (fillMt D1I D1L.fr D1L.st D1S.v D1S.a) D1L.st.n D1I D1L.fr D1L.st = true := by kernel_rfl
set_option maxRecDepth 100000 in
theorem D2_chk : (match (ev cxB 4000).code D2L.rnd D2L.body D2I.fr D2I.st with | raw => chkTree D2T D2L.st.n D2I [D2O, D2O1] raw (fillLL D2I [D2O, D2O1] raw D2LL)) = true := by kernel_rfl
set_option maxRecDepth 100000 in
theorem D2_ok : loopOk 7 D2L D2I [D2O, D2O1] = true := by kernel_rfl
set_option maxRecDepth 100000 in
theorem D2_ent : fit D2T (fillMt D2I D2L.fr D2L.st D2S.v D2S.a) D2L.st.n D2I D2L.fr D2L.st = true := by kernel_rfl
noncomputable def cxED : Cx := { cxB with lp := some (lpOf [A1L]) }
set_option maxRecDepth 100000 in
theorem ED_run : leafX EDP ((evT cxED 4000).call 34 EDP.args (EDP.st LStart)) = EDR := by kernel_rfl
noncomputable def cxSD : Cx := { cxB with lp := some (lpOf [B1L]) }
set_option maxRecDepth 100000 in
theorem SD_run : leafX SDP ((evT cxSD 4000).call 34 SDP.args (SDP.st LStart)) = SDR := by kernel_rfl
noncomputable def cxEH : Cx := { cxB with lp := some (lpOf [A2L]) }
set_option maxRecDepth 100000 in
theorem EH_run : leafX EHP ((evT cxEH 4000).call 35 EHP.args (EHP.st LStart)) = EHR := by kernel_rfl
noncomputable def cxSH : Cx := { cxB with lp := some (lpOf [B2L]) }
set_option maxRecDepth 100000 in
theorem SH_run : leafX SHP ((evT cxSH 4000).call 35 SHP.args (SHP.st LStart)) = SHR := by kernel_rfl
noncomputable def cxEB : Cx := { cxB with lp := some (lpOf [A3L]) }
set_option maxRecDepth 100000 in
theorem EB_run : leafX EBP ((evT cxEB 4000).call 36 EBP.args (EBP.st LStart)) = EBR := by kernel_rfl
noncomputable def cxSB : Cx := { cxB with lp := some (lpOf [B3L]) }
set_option maxRecDepth 100000 in
theorem SB_run : leafX SBP ((evT cxSB 4000).call 36 SBP.args (SBP.st LStart)) = SBR := by kernel_rfl
noncomputable def cxDD : Cx := { cxB with lp := some (lpOf [D1L]) }
set_option maxRecDepth 100000 in
theorem DD_run : leafX DDP ((evT cxDD 4000).call 25 DDP.args (DDP.st LStart)) = DDR := by kernel_rfl
noncomputable def cxDH : Cx := { cxB with lp := some (lpOf [D2L]) }
set_option maxRecDepth 100000 in
theorem DH_run : leafX DHP ((evT cxDH 4000).call 26 DHP.args (DHP.st LStart)) = DHR := by kernel_rfl
end Go.Proofs.YtennjdjcjjjmiaaGreatDoor
