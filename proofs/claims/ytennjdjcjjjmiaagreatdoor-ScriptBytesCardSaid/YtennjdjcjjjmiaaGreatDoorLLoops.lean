/- script's functions: their loops' shapes, what they do (printed by hctr, hlg2, hlg3, hlg4). No condition. -/
import Derived.Test.YtennjdjcjjjmiaaGreatDoorTOk
import Derived.Test.YtennjdjcjjjmiaaGreatDoorFwH
namespace Go.Proofs.YtennjdjcjjjmiaaGreatDoor
open Go
noncomputable def roC (_ : Nat) : List V := asciiL 256
abbrev U : V := .undef
def kE (b : X) : X := .ite (.eq (.rem b (.lit 8)) (.lit 0)) (.lit 1) (.ite (.eq (.rem b (.lit 8)) (.lit 1)) (.lit 1) (.ite (.eq (.rem b (.lit 8)) (.lit 2)) (.lit 2) (.ite (.eq (.rem b (.lit 8)) (.lit 3)) (.lit 2) (.ite (.eq (.rem b (.lit 8)) (.lit 4)) (.lit 3) (.ite (.eq (.rem b (.lit 8)) (.lit 5)) (.lit 3) (.ite (.eq (.rem b (.lit 8)) (.lit 6)) (.lit 4) (.lit 5)))))))
def hE (b : X) : X := .rem (.quo b (.lit 8)) (.lit 4)
def nE (k : X) : X := .ite (.eq k (.lit 1)) (.lit 0) (.ite (.eq k (.lit 2)) (.lit 2) (.ite (.eq k (.lit 3)) (.lit 4) (.ite (.eq k (.lit 4)) (.lit 6) (.ite (.eq k (.lit 5)) (.lit 7) (.lit (-1))))))
def lpsOf : Code → List Code
 | .seq a b => lpsOf a ++ lpsOf b
 | .cond _ a b => lpsOf a ++ lpsOf b
 | .block _ c => lpsOf c
 | .loop c => c :: lpsOf c
 | .scope c => lpsOf c
 | .rangeFunc _ _ a b => lpsOf a ++ lpsOf b
 | _ => []
def rgsOf : Code → List (Array Tmp × Code × Code)
 | .seq a b => rgsOf a ++ rgsOf b
 | .cond _ a b => rgsOf a ++ rgsOf b
 | .block _ c => rgsOf c
 | .loop c => rgsOf c
 | .scope c => rgsOf c
 | .rangeFunc _ ps a b => (ps, a, b) :: (rgsOf a ++ rgsOf b)
 | _ => []
noncomputable def bodyOf : Nat → Code
 | 49 => Tryz.f49.body.getD .skip
 | 32 => Tryz.f32.body.getD .skip
 | 31 => Tryz.f31.body.getD .skip
 | 13 => Tryz.f13.body.getD .skip
 | 10 => Tryz.f10.body.getD .skip
 | 11 => Tryz.f11.body.getD .skip
 | 12 => Tryz.f12.body.getD .skip
 | _ => .skip
noncomputable def lb (f k : Nat) : Code := (lpsOf (bodyOf f)).getD k .skip
noncomputable def rp (f k : Nat) : Array Tmp := ((rgsOf (bodyOf f)).getD k (#[], .skip, .skip)).1
noncomputable def ra (f k : Nat) : Code := ((rgsOf (bodyOf f)).getD k (#[], .skip, .skip)).2.1
noncomputable def rb (f k : Nat) : Code := ((rgsOf (bodyOf f)).getD k (#[], .skip, .skip)).2.2
noncomputable def cxB : Cx := { cxD with sx := true, mg := true, js := true }
noncomputable def cxI : Cx := { cxD with sx := true, mg := true }
def IxP : CallP := ⟨[(.slice 7 0 8 (.known 8)), (.int .i64 (.var 40))], [(7, .cells [(.int .i64 (.lit 1)), (.int .i64 (.lit 1)), (.int .i64 (.lit 2)), (.int .i64 (.lit 2)), (.int .i64 (.lit 3)), (.int .i64 (.lit 3)), (.int .i64 (.lit 4)), (.int .i64 (.lit 5))] 60 none)], 8, []⟩
def IxR : R Leaf :=
 (.ok { v := (.int .i64 (nE (.var 40))), objs := [(7, .cells [(.int .i64 (.lit 1)), (.int .i64 (.lit 1)), (.int .i64 (.lit 2)), (.int .i64 (.lit 2)), (.int .i64 (.lit 3)), (.int .i64 (.lit 3)), (.int .i64 (.lit 4)), (.int .i64 (.lit 5))] 60 none)], n := 8 })
noncomputable def cxR : Cx := { cxB with sm := smOf [(21, sumFree LStart 7 IxP IxR)] }
noncomputable def A1H : H := itemsH [(0, .ro 0 (roC 0)),
  (16, .cells [(.int .i64 (.lit 2))] 3 none),
  (8, .cells [(.xslice false 7 (.lit 0) 1 (.var 60) (.room (.add (.var 60) (.lit 1))))] 22 none),
  (20, .cells [(.int .i64 (kE (.wrap .u8 (.fn1 10 (.lit 0))))), (.int .i64 (hE (.wrap .u8 (.fn1 10 (.lit 0))))), (.int .i64 (.wrap .u8 (.fn1 10 (.lit 1))))] 27 none),
  (12, .cells [(.yield 11)] 39 none),
  (18, .loop .ready none [(.yield 11), (.ptr 8 0), (.ptr 12 0), (.ptr 14 0), U, U, (.agg [(.int .i64 (.lit 1)), (.int .i64 (.lit 1)), (.int .i64 (.lit 2)), (.int .i64 (.lit 2)), (.int .i64 (.lit 3)), (.int .i64 (.lit 3)), (.int .i64 (.lit 4)), (.int .i64 (.lit 5))]), (.xslice false 7 (.lit 0) 1 (.var 60) (.room (.add (.var 60) (.lit 1)))), (.func (.func 49) [] [(.ptr 15 0), (.ptr 16 0)]), U, U, U, U, U, U, U, U, U, U, U, U, U, U, U, U, U, U, U, U, U, U, U, U, U, U] (rp 32 0) (ra 32 0) (rb 32 0) 17),
  (10, .deferred (some [])),
  (22, .arr (.put (.put (.put (.fill (.lit 0)) (.lit 0) 0 (kE (.wrap .u8 (.fn1 10 (.lit 0))))) (.lit 0) 1 (hE (.wrap .u8 (.fn1 10 (.lit 0))))) (.lit 0) 2 (.wrap .u8 (.fn1 10 (.lit 1)))) [.int .i64, .int .i64, .int .i64] (.lit 1) 27 true),
  (14, .cells [(.int .i64 (.lit 1)), (.int .i64 (.lit 1)), (.int .i64 (.lit 2)), (.int .i64 (.lit 2)), (.int .i64 (.lit 3)), (.int .i64 (.lit 3)), (.int .i64 (.lit 4)), (.int .i64 (.lit 5))] 60 none),
  (17, .deferred (some [])),
  (9, .cells [(.xslice false 22 (.lit 0) 3 (.lit 1) (.room (.lit 1)))] 23 none),
  (21, .cells [(.int .i64 (kE (.wrap .u8 (.fn1 10 (.lit 0))))), (.int .i64 (hE (.wrap .u8 (.fn1 10 (.lit 0))))), (.int .i64 (.wrap .u8 (.fn1 10 (.lit 1))))] 27 none),
  (13, .cells [(.int .i64 (.lit 1)), (.int .i64 (.lit 1)), (.int .i64 (.lit 2)), (.int .i64 (.lit 2)), (.int .i64 (.lit 3)), (.int .i64 (.lit 3)), (.int .i64 (.lit 4)), (.int .i64 (.lit 5))] 60 none),
  (19, .cells [(.int .i64 (kE (.wrap .u8 (.fn1 10 (.lit 0))))), (.int .i64 (hE (.wrap .u8 (.fn1 10 (.lit 0))))), (.int .i64 (.wrap .u8 (.fn1 10 (.lit 1))))] 27 none),
  (11, .loop .ready none [.nilslice, (.func (.func 32) [] [(.ptr 8 0)]), (.ptr 9 0), U, .nilslice, U, (.func (.func 32) [] [(.ptr 8 0)]), U, U, U, U, U, U] (rp 31 0) (ra 31 0) (rb 31 0) 10),
  (7, .arr (.put (.base 10) (.var 60) 0 (.lit 77)) [.int .u8] (.add (.var 60) (.lit 1)) 5 true),
  (15, .cells [(.xslice false 7 (.lit 0) 1 (.var 60) (.room (.add (.var 60) (.lit 1))))] 22 none)]
noncomputable def A1Pc : PC := [((.lt (.var 60) (.lit 2)), false), ((.le (.var 60) (.lit 6000)), true), ((.le (.lit 0) (.var 60)), true), ((.le (.lit 0) (.lit 7)), true), ((.le (.var 60) (.add (.var 60) (.lit 1))), true)]
noncomputable def A1I : Pat := ⟨⟨[(.yield 18), (.ptr 15 0), (.ptr 16 0), U, (.int .i64 (.var 100)), (.any 23), (.any 24), (.any 25), (.any 26), (.any 27), (.any 28), (.any 29), (.any 30), (.any 31), (.any 32), (.any 33), (.any 34), (.any 35), (.any 36), (.any 37), (.any 38), (.any 39), (.any 40), (.any 41), (.any 42), (.any 43), (.any 44), (.any 45), (.any 46), (.any 47), (.any 48)], []⟩,
 [(0, .ro 0 (roC 0)),
  (16, .cells [(.int .i64 (.lit 2))] 3 none),
  (8, .cells [(.xslice false 7 (.lit 0) 1 (.var 60) (.room (.add (.var 60) (.lit 1))))] 22 none),
  (20, .cells [(.int .i64 (kE (.wrap .u8 (.fn1 10 (.lit 0))))), (.int .i64 (hE (.wrap .u8 (.fn1 10 (.lit 0))))), (.int .i64 (.wrap .u8 (.fn1 10 (.lit 1))))] 27 none),
  (12, .cells [(.yield 11)] 39 none),
  (18, .loop .ready none [(.yield 11), (.ptr 8 0), (.ptr 12 0), (.ptr 14 0), U, U, (.agg [(.int .i64 (.lit 1)), (.int .i64 (.lit 1)), (.int .i64 (.lit 2)), (.int .i64 (.lit 2)), (.int .i64 (.lit 3)), (.int .i64 (.lit 3)), (.int .i64 (.lit 4)), (.int .i64 (.lit 5))]), (.xslice false 7 (.lit 0) 1 (.var 60) (.room (.add (.var 60) (.lit 1)))), (.func (.func 49) [] [(.ptr 15 0), (.ptr 16 0)]), U, U, U, U, U, U, U, U, U, U, U, U, U, U, U, U, U, U, U, U, U, U, U, U, U, U] (rp 32 0) (ra 32 0) (rb 32 0) 17),
  (10, .deferred (some [])),
  (14, .cells [(.int .i64 (.lit 1)), (.int .i64 (.lit 1)), (.int .i64 (.lit 2)), (.int .i64 (.lit 2)), (.int .i64 (.lit 3)), (.int .i64 (.lit 3)), (.int .i64 (.lit 4)), (.int .i64 (.lit 5))] 60 none),
  (17, .deferred (some [])),
  (9, .cells [(.xslice false 49 (.lit 0) 3 (.var 101) (.room (.var 101)))] 23 none),
  (21, .cells [(.int .i64 (kE (.wrap .u8 (.fn1 10 (.lit 0))))), (.int .i64 (hE (.wrap .u8 (.fn1 10 (.lit 0))))), (.int .i64 (.wrap .u8 (.fn1 10 (.lit 1))))] 27 none),
  (13, .cells [(.int .i64 (.lit 1)), (.int .i64 (.lit 1)), (.int .i64 (.lit 2)), (.int .i64 (.lit 2)), (.int .i64 (.lit 3)), (.int .i64 (.lit 3)), (.int .i64 (.lit 4)), (.int .i64 (.lit 5))] 60 none),
  (19, .cells [(.int .i64 (kE (.wrap .u8 (.fn1 10 (.lit 0))))), (.int .i64 (hE (.wrap .u8 (.fn1 10 (.lit 0))))), (.int .i64 (.wrap .u8 (.fn1 10 (.lit 1))))] 27 none),
  (11, .loop .ready none [.nilslice, (.func (.func 32) [] [(.ptr 8 0)]), (.ptr 9 0), U, .nilslice, U, (.func (.func 32) [] [(.ptr 8 0)]), U, U, U, U, U, U] (rp 31 0) (ra 31 0) (rb 31 0) 10),
  (7, .arr (.put (.base 10) (.var 60) 0 (.lit 77)) [.int .u8] (.add (.var 60) (.lit 1)) 5 true),
  (15, .cells [(.xslice false 7 (.lit 0) 1 (.var 60) (.room (.add (.var 60) (.lit 1))))] 22 none),
  (49, .arr (.base 30) [.int .i64, .int .i64, .int .i64] (.var 101) 27 true)],
 50, [((.le (.lit 2) (.var 100)), true), ((.le (.var 100) (.add (.var 60) (.lit 1))), true), ((.le (.add (.var 101) (.var 101)) (.var 100)), true), ((.le (.var 100) (.add (.var 101) (.var 101))), true), ((.lt (.var 60) (.lit 2)), false), ((.le (.var 60) (.lit 6000)), true), ((.le (.lit 0) (.var 60)), true), ((.le (.lit 0) (.lit 7)), true), ((.le (.var 60) (.add (.var 60) (.lit 1))), true)], [0, 1, 2, 3, 4, 5, 6, 16, 8, 20, 12, 18, 10, 14, 17, 9, 21, 13, 19, 11, 7, 15, 49, 23, 24, 25, 26, 27, 28, 29, 30, 31, 32, 33, 34, 35, 36, 37, 38, 39, 40, 41, 42, 43, 44, 45, 46, 47, 48]⟩
noncomputable def A1T : Tch := ⟨[100, 101, 62], [(30, 3), (20, 3)]⟩
noncomputable def A1S : Mt := (mtV [(100, (.lit 2)), (101, (.lit 1))] [(30, [.int .i64, .int .i64, .int .i64], (.put (.put (.put (.fill (.lit 0)) (.lit 0) 0 (kE (.wrap .u8 (.fn1 10 (.lit 0))))) (.lit 0) 1 (hE (.wrap .u8 (.fn1 10 (.lit 0))))) (.lit 0) 2 (.wrap .u8 (.fn1 10 (.lit 1)))))])
noncomputable def A1O : OutP := ⟨(.exit 0), ⟨⟨[(.yield 18), (.ptr 15 0), (.ptr 16 0), U, (.any 23), (.any 24), (.any 25), (.xslice false 7 (.lit 0) 1 (.var 60) (.room (.add (.var 60) (.lit 1)))), (.int .i64 (.var 60)), (.any 26), (.any 27), (.any 28), (.any 29), (.any 30), (.any 31), (.any 32), (.any 33), (.any 34), (.any 35), (.any 36), (.any 37), (.any 38), (.any 39), (.any 40), (.any 41), (.any 42), (.any 43), (.any 44), (.any 45), (.any 46), (.any 47)], []⟩,
 [(0, .ro 0 (roC 0)),
  (16, .cells [(.int .i64 (.lit 2))] 3 none),
  (8, .cells [(.xslice false 7 (.lit 0) 1 (.var 60) (.room (.add (.var 60) (.lit 1))))] 22 none),
  (20, .cells [(.int .i64 (kE (.wrap .u8 (.fn1 10 (.lit 0))))), (.int .i64 (hE (.wrap .u8 (.fn1 10 (.lit 0))))), (.int .i64 (.wrap .u8 (.fn1 10 (.lit 1))))] 27 none),
  (12, .cells [(.yield 11)] 39 none),
  (18, .loop .ready none [(.yield 11), (.ptr 8 0), (.ptr 12 0), (.ptr 14 0), U, U, (.agg [(.int .i64 (.lit 1)), (.int .i64 (.lit 1)), (.int .i64 (.lit 2)), (.int .i64 (.lit 2)), (.int .i64 (.lit 3)), (.int .i64 (.lit 3)), (.int .i64 (.lit 4)), (.int .i64 (.lit 5))]), (.xslice false 7 (.lit 0) 1 (.var 60) (.room (.add (.var 60) (.lit 1)))), (.func (.func 49) [] [(.ptr 15 0), (.ptr 16 0)]), U, U, U, U, U, U, U, U, U, U, U, U, U, U, U, U, U, U, U, U, U, U, U, U, U, U] (rp 32 0) (ra 32 0) (rb 32 0) 17),
  (10, .deferred (some [])),
  (14, .cells [(.int .i64 (.lit 1)), (.int .i64 (.lit 1)), (.int .i64 (.lit 2)), (.int .i64 (.lit 2)), (.int .i64 (.lit 3)), (.int .i64 (.lit 3)), (.int .i64 (.lit 4)), (.int .i64 (.lit 5))] 60 none),
  (17, .deferred (some [])),
  (9, .cells [(.xslice false 48 (.lit 0) 3 (.var 62) (.room (.var 62)))] 23 none),
  (21, .cells [(.int .i64 (kE (.wrap .u8 (.fn1 10 (.lit 0))))), (.int .i64 (hE (.wrap .u8 (.fn1 10 (.lit 0))))), (.int .i64 (.wrap .u8 (.fn1 10 (.lit 1))))] 27 none),
  (13, .cells [(.int .i64 (.lit 1)), (.int .i64 (.lit 1)), (.int .i64 (.lit 2)), (.int .i64 (.lit 2)), (.int .i64 (.lit 3)), (.int .i64 (.lit 3)), (.int .i64 (.lit 4)), (.int .i64 (.lit 5))] 60 none),
  (19, .cells [(.int .i64 (kE (.wrap .u8 (.fn1 10 (.lit 0))))), (.int .i64 (hE (.wrap .u8 (.fn1 10 (.lit 0))))), (.int .i64 (.wrap .u8 (.fn1 10 (.lit 1))))] 27 none),
  (11, .loop .ready none [.nilslice, (.func (.func 32) [] [(.ptr 8 0)]), (.ptr 9 0), U, .nilslice, U, (.func (.func 32) [] [(.ptr 8 0)]), U, U, U, U, U, U] (rp 31 0) (ra 31 0) (rb 31 0) 10),
  (7, .arr (.put (.base 10) (.var 60) 0 (.lit 77)) [.int .u8] (.add (.var 60) (.lit 1)) 5 true),
  (15, .cells [(.xslice false 7 (.lit 0) 1 (.var 60) (.room (.add (.var 60) (.lit 1))))] 22 none),
  (48, .arr (.base 20) [.int .i64, .int .i64, .int .i64] (.var 62) 27 true)],
 49, [], [0, 1, 2, 3, 4, 5, 6, 16, 8, 20, 12, 18, 10, 14, 17, 9, 21, 13, 19, 11, 7, 15, 48, 23, 24, 25, 26, 27, 28, 29, 30, 31, 32, 33, 34, 35, 36, 37, 38, 39, 40, 41, 42, 43, 44, 45, 46, 47]⟩⟩
noncomputable def A1LL : R LL :=
 (.br (.lt (.var 100) (.var 60))
  (.br (.lt (.sub (.var 60) (.var 100)) (.lit 2))
  (.ok (.next (mtV [(100, (.add (.var 100) (.lit 2))), (101, (.add (.var 101) (.lit 1)))] [(30, [.int .i64, .int .i64, .int .i64], (.put (.put (.put (.base 30) (.var 101) 0 (kE (.wrap .u8 (.fn1 10 (.var 100))))) (.var 101) 1 (hE (.wrap .u8 (.fn1 10 (.var 100))))) (.var 101) 2 (.lit 0)))])))
  (.ok (.next (mtV [(100, (.add (.var 100) (.lit 2))), (101, (.add (.var 101) (.lit 1)))] [(30, [.int .i64, .int .i64, .int .i64], (.put (.put (.put (.base 30) (.var 101) 0 (kE (.wrap .u8 (.fn1 10 (.var 100))))) (.var 101) 1 (hE (.wrap .u8 (.fn1 10 (.var 100))))) (.var 101) 2 (.wrap .u8 (.fn1 10 (.add (.var 100) (.lit 1))))))]))))
  (.ok (.out 0 (mtV [(62, (.var 101))] [(20, [.int .i64, .int .i64, .int .i64], (.base 30))]))))
noncomputable def A1L : LoopI := ⟨none, (lb 49 0), ⟨[(.yield 18), (.ptr 15 0), (.ptr 16 0), U, (.int .i64 (.lit 2)), (.int .i64 (.lit 2)), (.int .i64 (.lit 0)), (.xslice false 7 (.lit 0) 1 (.var 60) (.room (.add (.var 60) (.lit 1)))), (.int .i64 (.var 60)), (.bool (.lt (.lit 0) (.var 60))), (.int .i64 (.lit 0)), (.int .i64 (.lit 2)), (.int .i64 (.lit 2)), (.int .i64 (.lit 2)), (.xslice false 7 (.lit 0) 1 (.var 60) (.room (.add (.var 60) (.lit 1)))), (.int .i64 (.lit 0)), (.xslice false 7 (.lit 0) 1 (.var 60) (.room (.add (.var 60) (.lit 1)))), (.int .i64 (.var 60)), (.int .i64 (.lit 2)), (.yield 18), (.xslice false 7 (.lit 0) 1 (.var 60) (.room (.add (.var 60) (.lit 1)))), (.int .i64 (.lit 0)), (.int .i64 (.lit 0)), (.int .i64 (.lit 2)), (.int .i64 (.lit 2)), (.int .i64 (.lit 0)), (.int .i64 (.lit 2)), (.int .i64 (.lit 2)), (.xslice false 7 (.lit 0) 1 (.lit 2) (.known (.lit 2))), (.bool (.lit 1)), (.bool (.lit 0))], []⟩, ⟨A1H, 23, A1Pc⟩, .ok (A1O.ex, A1O.pat.fr, ⟨A1O.pat.st.h, A1O.pat.st.n, A1Pc⟩)⟩
def Ch3P : CallP := ⟨[(.xslice false 7 (.lit 0) 1 (.var 60) (.room (.add (.var 60) (.lit 1))))], [(7, .arr (.put (.base 10) (.var 60) 0 (.lit 77)) [.int .u8] (.add (.var 60) (.lit 1)) 5 true)], 8, [((.lt (.var 60) (.lit 2)), false), ((.le (.var 60) (.lit 6000)), true), ((.le (.lit 0) (.var 60)), true), ((.le (.lit 0) (.lit 7)), true), ((.le (.var 60) (.add (.var 60) (.lit 1))), true)]⟩
def Ch3R : R Leaf :=
 (.ok { v := (.xslice false 48 (.lit 0) 3 (.var 62) (.room (.var 62))), objs := [(7, .arr (.put (.base 10) (.var 60) 0 (.lit 77)) [.int .u8] (.add (.var 60) (.lit 1)) 5 true), (48, .arr (.base 20) [.int .i64, .int .i64, .int .i64] (.var 62) 27 true)], n := 49 })
noncomputable def E1H : H := itemsH [(0, .ro 0 (roC 0)),
  (8, .warr 8 10 [.int .u8] (.var 60)),
  (10, .cells [(.int .i64 (kE (.wrap .u8 (.fn1 10 (.lit 0))))), (.int .i64 (hE (.wrap .u8 (.fn1 10 (.lit 0))))), (.int .i64 (.wrap .u8 (.fn1 10 (.lit 1))))] 27 none),
  (9, .cells [(.int .i64 (kE (.wrap .u8 (.fn1 10 (.lit 0))))), (.int .i64 (hE (.wrap .u8 (.fn1 10 (.lit 0))))), (.int .i64 (.wrap .u8 (.fn1 10 (.lit 1))))] 27 none),
  (11, .arr (.put (.put (.put (.fill (.lit 0)) (.lit 0) 0 (kE (.wrap .u8 (.fn1 10 (.lit 0))))) (.lit 0) 1 (hE (.wrap .u8 (.fn1 10 (.lit 0))))) (.lit 0) 2 (.wrap .u8 (.fn1 10 (.lit 1)))) [.int .i64, .int .i64, .int .i64] (.lit 1) 27 true)]
noncomputable def E1Pc : PC := [((.lt (.var 60) (.lit 2)), false), ((.le (.var 60) (.lit 6000)), true), ((.le (.lit 0) (.var 60)), true), ((.le (.lit 0) (.lit 7)), true), ((.le (.var 60) (.var 61)), true)]
noncomputable def E1I : Pat := ⟨⟨[(.xslice true 8 (.lit 0) 1 (.var 60) (.known (.var 61))), U, (.any 12), (.xslice false 13 (.lit 0) 3 (.var 100) (.room (.var 100))), (.int .i64 (.var 101)), (.any 14), (.any 15), (.any 16), (.any 17), (.any 18), (.any 19), (.any 20), (.any 21), (.any 22), (.any 23), (.any 24), (.any 25), (.any 26), (.any 27), (.any 28), (.any 29), (.any 30), (.any 31), (.any 32), (.any 33), (.any 34), (.any 35), (.any 36), (.any 37), (.any 38), (.any 39), (.any 40), (.any 41), (.any 42), (.any 43), (.any 44), (.any 45), (.any 46), (.any 47), (.any 48), (.any 49), (.any 50), (.any 51), (.any 52), (.any 53), (.any 54), (.any 55), (.any 56), (.any 57), (.any 58), (.any 59), (.any 60), (.any 61), (.any 62), (.any 63), (.any 64), (.any 65), U], []⟩,
 [(0, .ro 0 (roC 0)),
  (8, .warr 8 10 [.int .u8] (.var 60)),
  (10, .cells [(.int .i64 (kE (.wrap .u8 (.fn1 10 (.lit 0))))), (.int .i64 (hE (.wrap .u8 (.fn1 10 (.lit 0))))), (.int .i64 (.wrap .u8 (.fn1 10 (.lit 1))))] 27 none),
  (9, .cells [(.int .i64 (kE (.wrap .u8 (.fn1 10 (.lit 0))))), (.int .i64 (hE (.wrap .u8 (.fn1 10 (.lit 0))))), (.int .i64 (.wrap .u8 (.fn1 10 (.lit 1))))] 27 none),
  (13, .arr (.base 30) [.int .i64, .int .i64, .int .i64] (.var 100) 27 true)],
 66, [((.le (.lit 2) (.var 101)), true), ((.le (.var 101) (.add (.var 60) (.lit 1))), true), ((.le (.add (.var 100) (.var 100)) (.var 101)), true), ((.le (.var 101) (.add (.var 100) (.var 100))), true), ((.lt (.var 60) (.lit 2)), false), ((.le (.var 60) (.lit 6000)), true), ((.le (.lit 0) (.var 60)), true), ((.le (.lit 0) (.lit 7)), true), ((.le (.var 60) (.var 61)), true)], [0, 1, 2, 3, 4, 5, 6, 8, 10, 9, 13, 12, 14, 15, 16, 17, 18, 19, 20, 21, 22, 23, 24, 25, 26, 27, 28, 29, 30, 31, 32, 33, 34, 35, 36, 37, 38, 39, 40, 41, 42, 43, 44, 45, 46, 47, 48, 49, 50, 51, 52, 53, 54, 55, 56, 57, 58, 59, 60, 61, 62, 63, 64, 65]⟩
noncomputable def E1T : Tch := ⟨[100, 101, 62], [(30, 3), (20, 3)]⟩
noncomputable def E1S : Mt := (mtV [(100, (.lit 1)), (101, (.lit 2))] [(30, [.int .i64, .int .i64, .int .i64], (.put (.put (.put (.fill (.lit 0)) (.lit 0) 0 (kE (.wrap .u8 (.fn1 10 (.lit 0))))) (.lit 0) 1 (hE (.wrap .u8 (.fn1 10 (.lit 0))))) (.lit 0) 2 (.wrap .u8 (.fn1 10 (.lit 1)))))])
noncomputable def E1O : OutP := ⟨(.exit 0), ⟨⟨[(.xslice true 8 (.lit 0) 1 (.var 60) (.known (.var 61))), U, (.any 12), (.xslice false 13 (.lit 0) 3 (.var 62) (.room (.var 62))), (.any 14), (.any 15), (.any 16), (.xslice true 8 (.lit 0) 1 (.var 60) (.known (.var 61))), (.int .i64 (.var 60)), (.any 17), (.any 18), (.any 19), (.any 20), (.any 21), (.any 22), (.any 23), (.any 24), (.any 25), (.any 26), (.any 27), (.any 28), (.any 29), (.any 30), (.any 31), (.any 32), (.any 33), (.any 34), (.any 35), (.any 36), (.any 37), (.any 38), (.any 39), (.any 40), (.any 41), (.any 42), (.any 43), (.any 44), (.any 45), (.any 46), (.any 47), (.any 48), (.any 49), (.any 50), (.any 51), (.any 52), (.any 53), (.any 54), (.any 55), (.any 56), (.any 57), (.any 58), (.any 59), (.any 60), (.any 61), (.any 62), (.any 63), (.any 64), U], []⟩,
 [(0, .ro 0 (roC 0)),
  (8, .warr 8 10 [.int .u8] (.var 60)),
  (10, .cells [(.int .i64 (kE (.wrap .u8 (.fn1 10 (.lit 0))))), (.int .i64 (hE (.wrap .u8 (.fn1 10 (.lit 0))))), (.int .i64 (.wrap .u8 (.fn1 10 (.lit 1))))] 27 none),
  (9, .cells [(.int .i64 (kE (.wrap .u8 (.fn1 10 (.lit 0))))), (.int .i64 (hE (.wrap .u8 (.fn1 10 (.lit 0))))), (.int .i64 (.wrap .u8 (.fn1 10 (.lit 1))))] 27 none),
  (13, .arr (.base 20) [.int .i64, .int .i64, .int .i64] (.var 62) 27 true)],
 65, [], [0, 1, 2, 3, 4, 5, 6, 8, 10, 9, 13, 12, 14, 15, 16, 17, 18, 19, 20, 21, 22, 23, 24, 25, 26, 27, 28, 29, 30, 31, 32, 33, 34, 35, 36, 37, 38, 39, 40, 41, 42, 43, 44, 45, 46, 47, 48, 49, 50, 51, 52, 53, 54, 55, 56, 57, 58, 59, 60, 61, 62, 63, 64]⟩⟩
noncomputable def E1LL : R LL :=
 (.br (.lt (.var 101) (.var 60))
  (.ok (.next (mtV [(100, (.add (.var 100) (.lit 1))), (101, (.add (.var 101) (.lit 2)))] [(30, [.int .i64, .int .i64, .int .i64], (.put (.put (.put (.base 30) (.var 100) 0 (kE (.wrap .u8 (.fn1 10 (.var 101))))) (.var 100) 1 (hE (.wrap .u8 (.fn1 10 (.var 101))))) (.var 100) 2 (.ite (.lt (.add (.var 101) (.lit 1)) (.var 60)) (.wrap .u8 (.fn1 10 (.add (.var 101) (.lit 1)))) (.lit 0))))])))
  (.ok (.out 0 (mtV [(62, (.var 100))] [(20, [.int .i64, .int .i64, .int .i64], (.base 30))]))))
noncomputable def E1L : LoopI := ⟨none, (lb 13 0), ⟨[(.xslice true 8 (.lit 0) 1 (.var 60) (.known (.var 61))), U, .nilslice, (.xslice false 11 (.lit 0) 3 (.lit 1) (.room (.lit 1))), (.int .i64 (.lit 2)), (.ptr 9 0), (.int .i64 (.lit 0)), (.xslice true 8 (.lit 0) 1 (.var 60) (.known (.var 61))), (.int .i64 (.var 60)), (.bool (.lt (.lit 0) (.var 60))), (.int .i64 (.lit 0)), (.int .i64 (.lit 2)), (.xslice true 8 (.lit 0) 1 (.var 60) (.known (.var 61))), (.int .i64 (.lit 0)), (.xptr true 8 (.lit 0) 1 0), (.int .u8 (.wrap .u8 (.fn1 10 (.lit 0)))), (.int .u8 (.quo (.wrap .u8 (.fn1 10 (.lit 0))) (.lit 8))), (.int .i64 (.quo (.wrap .u8 (.fn1 10 (.lit 0))) (.lit 8))), (.int .i64 (hE (.wrap .u8 (.fn1 10 (.lit 0))))), (.agg [(.int .i64 (.lit 0)), (.int .i64 (hE (.wrap .u8 (.fn1 10 (.lit 0))))), (.int .i64 (.lit 0))]), (.xslice true 8 (.lit 0) 1 (.var 60) (.known (.var 61))), (.int .i64 (.lit 0)), (.xptr true 8 (.lit 0) 1 0), (.int .u8 (.wrap .u8 (.fn1 10 (.lit 0)))), (.int .u8 (.rem (.wrap .u8 (.fn1 10 (.lit 0))) (.lit 8))), (.ite (.eq (.rem (.wrap .u8 (.fn1 10 (.lit 0))) (.lit 8)) (.lit 0)) (.tuple []) (.ite (.eq (.rem (.wrap .u8 (.fn1 10 (.lit 0))) (.lit 8)) (.lit 1)) (.tuple []) (.ite (.eq (.rem (.wrap .u8 (.fn1 10 (.lit 0))) (.lit 8)) (.lit 2)) (.tuple []) (.ite (.eq (.rem (.wrap .u8 (.fn1 10 (.lit 0))) (.lit 8)) (.lit 3)) (.tuple []) (.ite (.eq (.rem (.wrap .u8 (.fn1 10 (.lit 0))) (.lit 8)) (.lit 4)) (.tuple []) (.ite (.eq (.rem (.wrap .u8 (.fn1 10 (.lit 0))) (.lit 8)) (.lit 5)) (.tuple []) (.ite (.eq (.rem (.wrap .u8 (.fn1 10 (.lit 0))) (.lit 8)) (.lit 6)) (.tuple []) (.ptr 9 0)))))))), (.bool (.ite (.eq (.rem (.wrap .u8 (.fn1 10 (.lit 0))) (.lit 8)) (.lit 0)) (.eq (.rem (.wrap .u8 (.fn1 10 (.lit 0))) (.lit 8)) (.lit 0)) (.eq (.rem (.wrap .u8 (.fn1 10 (.lit 0))) (.lit 8)) (.lit 1)))), (.bool (.eq (.rem (.wrap .u8 (.fn1 10 (.lit 0))) (.lit 8)) (.lit 0))), (.ite (.eq (.rem (.wrap .u8 (.fn1 10 (.lit 0))) (.lit 8)) (.lit 0)) (.tuple []) (.bool (.eq (.rem (.wrap .u8 (.fn1 10 (.lit 0))) (.lit 8)) (.lit 1)))), (.ite (.eq (.rem (.wrap .u8 (.fn1 10 (.lit 0))) (.lit 8)) (.lit 0)) (.ptr 9 0) (.ite (.eq (.rem (.wrap .u8 (.fn1 10 (.lit 0))) (.lit 8)) (.lit 1)) (.ptr 9 0) (.tuple []))), (.ite (.eq (.rem (.wrap .u8 (.fn1 10 (.lit 0))) (.lit 8)) (.lit 0)) (.tuple []) (.ite (.eq (.rem (.wrap .u8 (.fn1 10 (.lit 0))) (.lit 8)) (.lit 1)) (.tuple []) (.bool (.ite (.eq (.rem (.wrap .u8 (.fn1 10 (.lit 0))) (.lit 8)) (.lit 2)) (.eq (.rem (.wrap .u8 (.fn1 10 (.lit 0))) (.lit 8)) (.lit 2)) (.eq (.rem (.wrap .u8 (.fn1 10 (.lit 0))) (.lit 8)) (.lit 3)))))), (.ite (.eq (.rem (.wrap .u8 (.fn1 10 (.lit 0))) (.lit 8)) (.lit 0)) (.tuple []) (.ite (.eq (.rem (.wrap .u8 (.fn1 10 (.lit 0))) (.lit 8)) (.lit 1)) (.tuple []) (.bool (.eq (.rem (.wrap .u8 (.fn1 10 (.lit 0))) (.lit 8)) (.lit 2))))), (.ite (.eq (.rem (.wrap .u8 (.fn1 10 (.lit 0))) (.lit 8)) (.lit 0)) (.tuple []) (.ite (.eq (.rem (.wrap .u8 (.fn1 10 (.lit 0))) (.lit 8)) (.lit 1)) (.tuple []) (.ite (.eq (.rem (.wrap .u8 (.fn1 10 (.lit 0))) (.lit 8)) (.lit 2)) (.tuple []) (.bool (.eq (.rem (.wrap .u8 (.fn1 10 (.lit 0))) (.lit 8)) (.lit 3)))))), (.ite (.eq (.rem (.wrap .u8 (.fn1 10 (.lit 0))) (.lit 8)) (.lit 0)) (.tuple []) (.ite (.eq (.rem (.wrap .u8 (.fn1 10 (.lit 0))) (.lit 8)) (.lit 1)) (.tuple []) (.ite (.eq (.rem (.wrap .u8 (.fn1 10 (.lit 0))) (.lit 8)) (.lit 2)) (.ptr 9 0) (.ite (.eq (.rem (.wrap .u8 (.fn1 10 (.lit 0))) (.lit 8)) (.lit 3)) (.ptr 9 0) (.tuple []))))), (.ite (.eq (.rem (.wrap .u8 (.fn1 10 (.lit 0))) (.lit 8)) (.lit 0)) (.tuple []) (.ite (.eq (.rem (.wrap .u8 (.fn1 10 (.lit 0))) (.lit 8)) (.lit 1)) (.tuple []) (.ite (.eq (.rem (.wrap .u8 (.fn1 10 (.lit 0))) (.lit 8)) (.lit 2)) (.tuple []) (.ite (.eq (.rem (.wrap .u8 (.fn1 10 (.lit 0))) (.lit 8)) (.lit 3)) (.tuple []) (.bool (.ite (.eq (.rem (.wrap .u8 (.fn1 10 (.lit 0))) (.lit 8)) (.lit 4)) (.eq (.rem (.wrap .u8 (.fn1 10 (.lit 0))) (.lit 8)) (.lit 4)) (.eq (.rem (.wrap .u8 (.fn1 10 (.lit 0))) (.lit 8)) (.lit 5)))))))), (.ite (.eq (.rem (.wrap .u8 (.fn1 10 (.lit 0))) (.lit 8)) (.lit 0)) (.tuple []) (.ite (.eq (.rem (.wrap .u8 (.fn1 10 (.lit 0))) (.lit 8)) (.lit 1)) (.tuple []) (.ite (.eq (.rem (.wrap .u8 (.fn1 10 (.lit 0))) (.lit 8)) (.lit 2)) (.tuple []) (.ite (.eq (.rem (.wrap .u8 (.fn1 10 (.lit 0))) (.lit 8)) (.lit 3)) (.tuple []) (.bool (.eq (.rem (.wrap .u8 (.fn1 10 (.lit 0))) (.lit 8)) (.lit 4))))))), (.ite (.eq (.rem (.wrap .u8 (.fn1 10 (.lit 0))) (.lit 8)) (.lit 0)) (.tuple []) (.ite (.eq (.rem (.wrap .u8 (.fn1 10 (.lit 0))) (.lit 8)) (.lit 1)) (.tuple []) (.ite (.eq (.rem (.wrap .u8 (.fn1 10 (.lit 0))) (.lit 8)) (.lit 2)) (.tuple []) (.ite (.eq (.rem (.wrap .u8 (.fn1 10 (.lit 0))) (.lit 8)) (.lit 3)) (.tuple []) (.ite (.eq (.rem (.wrap .u8 (.fn1 10 (.lit 0))) (.lit 8)) (.lit 4)) (.tuple []) (.bool (.eq (.rem (.wrap .u8 (.fn1 10 (.lit 0))) (.lit 8)) (.lit 5)))))))), (.ite (.eq (.rem (.wrap .u8 (.fn1 10 (.lit 0))) (.lit 8)) (.lit 0)) (.tuple []) (.ite (.eq (.rem (.wrap .u8 (.fn1 10 (.lit 0))) (.lit 8)) (.lit 1)) (.tuple []) (.ite (.eq (.rem (.wrap .u8 (.fn1 10 (.lit 0))) (.lit 8)) (.lit 2)) (.tuple []) (.ite (.eq (.rem (.wrap .u8 (.fn1 10 (.lit 0))) (.lit 8)) (.lit 3)) (.tuple []) (.ite (.eq (.rem (.wrap .u8 (.fn1 10 (.lit 0))) (.lit 8)) (.lit 4)) (.ptr 9 0) (.ite (.eq (.rem (.wrap .u8 (.fn1 10 (.lit 0))) (.lit 8)) (.lit 5)) (.ptr 9 0) (.tuple []))))))), (.ite (.eq (.rem (.wrap .u8 (.fn1 10 (.lit 0))) (.lit 8)) (.lit 0)) (.tuple []) (.ite (.eq (.rem (.wrap .u8 (.fn1 10 (.lit 0))) (.lit 8)) (.lit 1)) (.tuple []) (.ite (.eq (.rem (.wrap .u8 (.fn1 10 (.lit 0))) (.lit 8)) (.lit 2)) (.tuple []) (.ite (.eq (.rem (.wrap .u8 (.fn1 10 (.lit 0))) (.lit 8)) (.lit 3)) (.tuple []) (.ite (.eq (.rem (.wrap .u8 (.fn1 10 (.lit 0))) (.lit 8)) (.lit 4)) (.tuple []) (.ite (.eq (.rem (.wrap .u8 (.fn1 10 (.lit 0))) (.lit 8)) (.lit 5)) (.tuple []) (.bool (.eq (.rem (.wrap .u8 (.fn1 10 (.lit 0))) (.lit 8)) (.lit 6))))))))), (.ite (.eq (.rem (.wrap .u8 (.fn1 10 (.lit 0))) (.lit 8)) (.lit 0)) (.tuple []) (.ite (.eq (.rem (.wrap .u8 (.fn1 10 (.lit 0))) (.lit 8)) (.lit 1)) (.tuple []) (.ite (.eq (.rem (.wrap .u8 (.fn1 10 (.lit 0))) (.lit 8)) (.lit 2)) (.tuple []) (.ite (.eq (.rem (.wrap .u8 (.fn1 10 (.lit 0))) (.lit 8)) (.lit 3)) (.tuple []) (.ite (.eq (.rem (.wrap .u8 (.fn1 10 (.lit 0))) (.lit 8)) (.lit 4)) (.tuple []) (.ite (.eq (.rem (.wrap .u8 (.fn1 10 (.lit 0))) (.lit 8)) (.lit 5)) (.tuple []) (.bool (.eq (.rem (.wrap .u8 (.fn1 10 (.lit 0))) (.lit 8)) (.lit 6))))))))), (.ite (.eq (.rem (.wrap .u8 (.fn1 10 (.lit 0))) (.lit 8)) (.lit 0)) (.tuple []) (.ite (.eq (.rem (.wrap .u8 (.fn1 10 (.lit 0))) (.lit 8)) (.lit 1)) (.tuple []) (.ite (.eq (.rem (.wrap .u8 (.fn1 10 (.lit 0))) (.lit 8)) (.lit 2)) (.tuple []) (.ite (.eq (.rem (.wrap .u8 (.fn1 10 (.lit 0))) (.lit 8)) (.lit 3)) (.tuple []) (.ite (.eq (.rem (.wrap .u8 (.fn1 10 (.lit 0))) (.lit 8)) (.lit 4)) (.tuple []) (.ite (.eq (.rem (.wrap .u8 (.fn1 10 (.lit 0))) (.lit 8)) (.lit 5)) (.tuple []) (.ite (.eq (.rem (.wrap .u8 (.fn1 10 (.lit 0))) (.lit 8)) (.lit 6)) (.ptr 9 0) (.tuple [])))))))), (.int .i64 (.lit 0)), (.int .i64 (.lit 1)), (.xslice true 8 (.lit 0) 1 (.var 60) (.known (.var 61))), (.int .i64 (.var 60)), (.bool (.lt (.lit 1) (.var 60))), (.xslice true 8 (.lit 0) 1 (.var 60) (.known (.var 61))), (.int .i64 (.lit 0)), (.int .i64 (.lit 1)), (.xptr true 8 (.lit 1) 1 0), (.int .u8 (.wrap .u8 (.fn1 10 (.lit 1)))), (.int .i64 (.wrap .u8 (.fn1 10 (.lit 1)))), (.ptr 9 2), .nilslice, (.agg [(.int .i64 (kE (.wrap .u8 (.fn1 10 (.lit 0))))), (.int .i64 (hE (.wrap .u8 (.fn1 10 (.lit 0))))), (.int .i64 (.wrap .u8 (.fn1 10 (.lit 1))))]), (.slice 10 0 1 (.known 1)), (.xslice false 11 (.lit 0) 3 (.lit 1) (.room (.lit 1))), U], []⟩, ⟨E1H, 12, E1Pc⟩, .ok (E1O.ex, E1O.pat.fr, ⟨E1O.pat.st.h, E1O.pat.st.n, E1Pc⟩)⟩
def RCP : CallP := ⟨[(.xslice true 8 (.lit 0) 1 (.var 60) (.known (.var 61)))], [(8, .warr 8 10 [.int .u8] (.var 60))], 9, [((.lt (.var 60) (.lit 2)), false), ((.le (.var 60) (.lit 6000)), true), ((.le (.lit 0) (.var 60)), true), ((.le (.lit 0) (.lit 7)), true), ((.le (.var 60) (.var 61)), true)]⟩
def RCR : R Leaf :=
 (.ok { v := (.xslice false 13 (.lit 0) 3 (.var 62) (.room (.var 62))), objs := [(13, .arr (.base 20) [.int .i64, .int .i64, .int .i64] (.var 62) 27 true)], n := 65 })
noncomputable def B1H : H := itemsH [(0, .ro 0 (roC 0)),
  (8, .cells [(.int .i64 (.lit 1)), (.int .i64 (.lit 1)), (.int .i64 (.lit 2)), (.int .i64 (.lit 2)), (.int .i64 (.lit 3)), (.int .i64 (.lit 3)), (.int .i64 (.lit 4)), (.int .i64 (.lit 5))] 60 none),
  (10, .arr (.fill (.lit 0)) [.int .u8] (.mul (.lit 2) (.var 50)) 5 false),
  (9, .cells [(.int .i64 (.lit 1)), (.int .i64 (.lit 1)), (.int .i64 (.lit 2)), (.int .i64 (.lit 2)), (.int .i64 (.lit 3)), (.int .i64 (.lit 3)), (.int .i64 (.lit 4)), (.int .i64 (.lit 5))] 60 none),
  (7, .arr (.put (.put (.put (.base 40) (.var 50) 0 (.lit 77)) (.var 50) 1 (.lit 0)) (.var 50) 2 (.lit 0)) [.int .i64, .int .i64, .int .i64] (.add (.var 50) (.lit 1)) 27 true)]
noncomputable def B1Pc : PC := [((.le (.lit 1) (.var 50)), true), ((.le (.var 50) (.lit 3000)), true), ((.le (.lit 0) (.lit 7)), true)]
noncomputable def B1I : Pat := ⟨⟨[(.xslice false 7 (.lit 0) 3 (.var 50) (.room (.add (.var 50) (.lit 1)))), U, (.any 11), (.any 12), (.ptr 9 0), (.xslice false 10 (.lit 0) 1 (.var 100) (.known (.mul (.lit 2) (.var 50)))), (.bool (.lit 1)), U, (.any 13), (.any 14), (.agg [(.int .i64 (.lit 1)), (.int .i64 (.lit 1)), (.int .i64 (.lit 2)), (.int .i64 (.lit 2)), (.int .i64 (.lit 3)), (.int .i64 (.lit 3)), (.int .i64 (.lit 4)), (.int .i64 (.lit 5))]), (.xslice false 7 (.lit 0) 3 (.var 50) (.room (.add (.var 50) (.lit 1)))), (.int .i64 (.var 50)), (.int .i64 (.mul (.lit 2) (.var 50))), (.xslice false 10 (.lit 0) 1 (.lit 0) (.known (.mul (.lit 2) (.var 50)))), (.xslice false 7 (.lit 0) 3 (.var 50) (.room (.add (.var 50) (.lit 1)))), (.int .i64 (.var 50)), (.int .i64 (.var 101)), (.any 15), (.any 16), (.any 17), (.any 18), (.any 19), (.any 20), (.any 21), (.any 22), (.any 23), (.any 24), (.any 25), (.any 26), (.any 27), (.any 28), (.any 29), (.any 30), (.any 31), (.any 32), (.any 33), (.any 34), (.any 35), (.any 36), (.any 37), (.any 38), (.any 39), (.any 40), (.any 41), (.any 42), (.any 43), (.any 44), (.any 45), (.any 46), (.any 47), (.any 48), (.any 49), (.any 50), (.any 51), (.any 52), (.any 53), (.any 54), (.any 55), (.any 56), U, U, U], []⟩,
 [(0, .ro 0 (roC 0)),
  (8, .cells [(.int .i64 (.lit 1)), (.int .i64 (.lit 1)), (.int .i64 (.lit 2)), (.int .i64 (.lit 2)), (.int .i64 (.lit 3)), (.int .i64 (.lit 3)), (.int .i64 (.lit 4)), (.int .i64 (.lit 5))] 60 none),
  (10, .arr (.base 30) [.int .u8] (.mul (.lit 2) (.var 50)) 5 false),
  (9, .cells [(.int .i64 (.lit 1)), (.int .i64 (.lit 1)), (.int .i64 (.lit 2)), (.int .i64 (.lit 2)), (.int .i64 (.lit 3)), (.int .i64 (.lit 3)), (.int .i64 (.lit 4)), (.int .i64 (.lit 5))] 60 none),
  (7, .arr (.put (.put (.put (.base 40) (.var 50) 0 (.lit 77)) (.var 50) 1 (.lit 0)) (.var 50) 2 (.lit 0)) [.int .i64, .int .i64, .int .i64] (.add (.var 50) (.lit 1)) 27 true)],
 57, [((.le (.lit 0) (.var 101)), true), ((.le (.var 101) (.var 50)), true), ((.le (.var 100) (.add (.var 101) (.var 101))), true), ((.le (.add (.var 101) (.var 101)) (.var 100)), true), ((.le (.lit 1) (.var 50)), true), ((.le (.var 50) (.lit 3000)), true), ((.le (.lit 0) (.lit 7)), true)], [0, 1, 2, 3, 4, 5, 6, 8, 10, 9, 7, 11, 12, 13, 14, 15, 16, 17, 18, 19, 20, 21, 22, 23, 24, 25, 26, 27, 28, 29, 30, 31, 32, 33, 34, 35, 36, 37, 38, 39, 40, 41, 42, 43, 44, 45, 46, 47, 48, 49, 50, 51, 52, 53, 54, 55, 56]⟩
noncomputable def B1T : Tch := ⟨[100, 101, 63], [(30, 1), (60, 1)]⟩
noncomputable def B1S : Mt := (mtV [(100, (.lit 0)), (101, (.lit 0))] [(30, [.int .u8], (.fill (.lit 0)))])
noncomputable def B1O : OutP := ⟨(.exit 0), ⟨⟨[(.xslice false 7 (.lit 0) 3 (.var 50) (.room (.add (.var 50) (.lit 1)))), (.any 11), (.any 12), (.any 13), (.ptr 9 0), (.any 14), (.bool (.lit 0)), (.any 15), (.any 16), (.any 17), (.agg [(.int .i64 (.lit 1)), (.int .i64 (.lit 1)), (.int .i64 (.lit 2)), (.int .i64 (.lit 2)), (.int .i64 (.lit 3)), (.int .i64 (.lit 3)), (.int .i64 (.lit 4)), (.int .i64 (.lit 5))]), (.xslice false 7 (.lit 0) 3 (.var 50) (.room (.add (.var 50) (.lit 1)))), (.int .i64 (.var 50)), (.int .i64 (.mul (.lit 2) (.var 50))), (.xslice false 10 (.lit 0) 1 (.lit 0) (.known (.mul (.lit 2) (.var 50)))), (.xslice false 7 (.lit 0) 3 (.var 50) (.room (.add (.var 50) (.lit 1)))), (.any 18), (.any 19), (.any 20), (.any 21), (.any 22), (.any 23), (.any 24), (.any 25), (.any 26), (.any 27), (.any 28), (.any 29), (.any 30), (.any 31), (.any 32), (.any 33), (.any 34), (.any 35), (.any 36), (.any 37), (.any 38), (.any 39), (.any 40), (.any 41), (.any 42), (.any 43), (.any 44), (.any 45), (.any 46), (.any 47), (.any 48), (.any 49), (.any 50), (.any 51), (.any 52), (.any 53), (.any 54), (.any 55), (.any 56), (.any 57), (.any 58), (.any 59), (.any 60), (.any 61), U, U, U], []⟩,
 [(0, .ro 0 (roC 0)),
  (8, .cells [(.int .i64 (.lit 1)), (.int .i64 (.lit 1)), (.int .i64 (.lit 2)), (.int .i64 (.lit 2)), (.int .i64 (.lit 3)), (.int .i64 (.lit 3)), (.int .i64 (.lit 4)), (.int .i64 (.lit 5))] 60 none),
  (9, .cells [(.int .i64 (.lit 1)), (.int .i64 (.lit 1)), (.int .i64 (.lit 2)), (.int .i64 (.lit 2)), (.int .i64 (.lit 3)), (.int .i64 (.lit 3)), (.int .i64 (.lit 4)), (.int .i64 (.lit 5))] 60 none),
  (7, .arr (.put (.put (.put (.base 40) (.var 50) 0 (.lit 77)) (.var 50) 1 (.lit 0)) (.var 50) 2 (.lit 0)) [.int .i64, .int .i64, .int .i64] (.add (.var 50) (.lit 1)) 27 true)],
 62, [], [0, 1, 2, 3, 4, 5, 6, 8, 10, 9, 7, 11, 12, 13, 14, 15, 16, 17, 18, 19, 20, 21, 22, 23, 24, 25, 26, 27, 28, 29, 30, 31, 32, 33, 34, 35, 36, 37, 38, 39, 40, 41, 42, 43, 44, 45, 46, 47, 48, 49, 50, 51, 52, 53, 54, 55, 56, 57, 58, 59, 60, 61]⟩⟩
noncomputable def B1O1 : OutP := ⟨(.exit 0), ⟨⟨[(.xslice false 7 (.lit 0) 3 (.var 50) (.room (.add (.var 50) (.lit 1)))), (.any 11), (.any 12), (.any 13), (.ptr 9 0), (.xslice false 10 (.lit 0) 1 (.var 63) (.known (.mul (.lit 2) (.var 50)))), (.bool (.lit 1)), (.any 14), (.any 15), (.any 16), (.agg [(.int .i64 (.lit 1)), (.int .i64 (.lit 1)), (.int .i64 (.lit 2)), (.int .i64 (.lit 2)), (.int .i64 (.lit 3)), (.int .i64 (.lit 3)), (.int .i64 (.lit 4)), (.int .i64 (.lit 5))]), (.xslice false 7 (.lit 0) 3 (.var 50) (.room (.add (.var 50) (.lit 1)))), (.int .i64 (.var 50)), (.int .i64 (.mul (.lit 2) (.var 50))), (.xslice false 10 (.lit 0) 1 (.lit 0) (.known (.mul (.lit 2) (.var 50)))), (.xslice false 7 (.lit 0) 3 (.var 50) (.room (.add (.var 50) (.lit 1)))), (.any 17), (.any 18), (.any 19), (.any 20), (.any 21), (.any 22), (.any 23), (.any 24), (.any 25), (.any 26), (.any 27), (.any 28), (.any 29), (.any 30), (.any 31), (.any 32), (.any 33), (.any 34), (.any 35), (.any 36), (.any 37), (.any 38), (.any 39), (.any 40), (.any 41), (.any 42), (.any 43), (.any 44), (.any 45), (.any 46), (.any 47), (.any 48), (.any 49), (.any 50), (.any 51), (.any 52), (.any 53), (.any 54), (.any 55), (.any 56), (.any 57), (.any 58), (.any 59), (.any 60), U, U, U], []⟩,
 [(0, .ro 0 (roC 0)),
  (8, .cells [(.int .i64 (.lit 1)), (.int .i64 (.lit 1)), (.int .i64 (.lit 2)), (.int .i64 (.lit 2)), (.int .i64 (.lit 3)), (.int .i64 (.lit 3)), (.int .i64 (.lit 4)), (.int .i64 (.lit 5))] 60 none),
  (10, .arr (.base 60) [.int .u8] (.mul (.lit 2) (.var 50)) 5 false),
  (9, .cells [(.int .i64 (.lit 1)), (.int .i64 (.lit 1)), (.int .i64 (.lit 2)), (.int .i64 (.lit 2)), (.int .i64 (.lit 3)), (.int .i64 (.lit 3)), (.int .i64 (.lit 4)), (.int .i64 (.lit 5))] 60 none),
  (7, .arr (.put (.put (.put (.base 40) (.var 50) 0 (.lit 77)) (.var 50) 1 (.lit 0)) (.var 50) 2 (.lit 0)) [.int .i64, .int .i64, .int .i64] (.add (.var 50) (.lit 1)) 27 true)],
 61, [], [0, 1, 2, 3, 4, 5, 6, 8, 10, 9, 7, 11, 12, 13, 14, 15, 16, 17, 18, 19, 20, 21, 22, 23, 24, 25, 26, 27, 28, 29, 30, 31, 32, 33, 34, 35, 36, 37, 38, 39, 40, 41, 42, 43, 44, 45, 46, 47, 48, 49, 50, 51, 52, 53, 54, 55, 56, 57, 58, 59, 60]⟩⟩
noncomputable def B1LL : R LL :=
 (.br (.lt (.var 101) (.var 50))
  (.br (.lt (nE (.wrap .i64 (.fn1 40 (.var 101)))) (.lit 0))
  (.ok (.out 0 (mtV [] [])))
  (.br (.lt (.wrap .i64 (.fn1 41 (.var 101))) (.lit 0))
   (.ok (.out 0 (mtV [] [])))
   (.br (.lt (.wrap .i64 (.fn1 41 (.var 101))) (.lit 4))
   (.br (.lt (.wrap .i64 (.fn1 42 (.var 101))) (.lit 0))
    (.ok (.out 0 (mtV [] [])))
    (.br (.lt (.lit 255) (.wrap .i64 (.fn1 42 (.var 101))))
    (.ok (.out 0 (mtV [] [])))
    (.ok (.next (mtV [(100, (.add (.var 100) (.lit 2))), (101, (.add (.var 101) (.lit 1)))] [(30, [.int .u8], (.put (.put (.base 30) (.var 100) 0 (.wrap .u8 (.bits 1 .i64 (nE (.wrap .i64 (.fn1 40 (.var 101)))) (.wrap .i64 (.mul (.wrap .i64 (.fn1 41 (.var 101))) (.lit 8)))))) (.add (.var 100) (.lit 1)) 0 (.wrap .u8 (.wrap .i64 (.fn1 42 (.var 101))))))])))))
   (.ok (.out 0 (mtV [] []))))))
  (.ok (.out 1 (mtV [(63, (.var 100))] [(60, [.int .u8], (.base 30))]))))
noncomputable def B1L : LoopI := ⟨none, (lb 10 0), ⟨[(.xslice false 7 (.lit 0) 3 (.var 50) (.room (.add (.var 50) (.lit 1)))), U, .nilslice, (.int .i64 (.lit 0)), (.ptr 9 0), (.xslice false 10 (.lit 0) 1 (.lit 0) (.known (.mul (.lit 2) (.var 50)))), (.bool (.lit 1)), U, U, U, (.agg [(.int .i64 (.lit 1)), (.int .i64 (.lit 1)), (.int .i64 (.lit 2)), (.int .i64 (.lit 2)), (.int .i64 (.lit 3)), (.int .i64 (.lit 3)), (.int .i64 (.lit 4)), (.int .i64 (.lit 5))]), (.xslice false 7 (.lit 0) 3 (.var 50) (.room (.add (.var 50) (.lit 1)))), (.int .i64 (.var 50)), (.int .i64 (.mul (.lit 2) (.var 50))), (.xslice false 10 (.lit 0) 1 (.lit 0) (.known (.mul (.lit 2) (.var 50)))), (.xslice false 7 (.lit 0) 3 (.var 50) (.room (.add (.var 50) (.lit 1)))), (.int .i64 (.var 50)), (.int .i64 (.lit 0)), U, U, U, U, U, U, U, U, U, U, U, U, U, U, U, U, U, U, U, U, U, U, U, U, U, U, U, U, U, U, U, U, U, U, U, U, U, U, U, U, U, U, U, U, U], []⟩, ⟨B1H, 11, B1Pc⟩, .br (.eq (.var 64) (.lit 0)) (.ok (B1O.ex, B1O.pat.fr, ⟨B1O.pat.st.h, B1O.pat.st.n, B1Pc⟩)) (.ok (B1O1.ex, B1O1.pat.fr, ⟨B1O1.pat.st.h, B1O1.pat.st.n, B1Pc⟩))⟩
def Rw3P : CallP := ⟨[(.xslice false 7 (.lit 0) 3 (.var 50) (.room (.add (.var 50) (.lit 1))))], [(7, .arr (.put (.put (.put (.base 40) (.var 50) 0 (.lit 77)) (.var 50) 1 (.lit 0)) (.var 50) 2 (.lit 0)) [.int .i64, .int .i64, .int .i64] (.add (.var 50) (.lit 1)) 27 true)], 8, [((.le (.lit 1) (.var 50)), true), ((.le (.var 50) (.lit 3000)), true), ((.le (.lit 0) (.lit 7)), true)]⟩
def Rw3R : R Leaf :=
 (.br (.eq (.var 64) (.lit 0))
  (.ok { v := (.tuple [.nilslice, (.int .i64 (.lit 2))]), objs := [(7, .arr (.put (.put (.put (.base 40) (.var 50) 0 (.lit 77)) (.var 50) 1 (.lit 0)) (.var 50) 2 (.lit 0)) [.int .i64, .int .i64, .int .i64] (.add (.var 50) (.lit 1)) 27 true)], n := 62 })
  (.ok { v := (.tuple [(.xslice false 10 (.lit 0) 1 (.var 63) (.known (.mul (.lit 2) (.var 50)))), (.int .i64 (.lit 0))]), objs := [(7, .arr (.put (.put (.put (.base 40) (.var 50) 0 (.lit 77)) (.var 50) 1 (.lit 0)) (.var 50) 2 (.lit 0)) [.int .i64, .int .i64, .int .i64] (.add (.var 50) (.lit 1)) 27 true), (10, .arr (.base 60) [.int .u8] (.mul (.lit 2) (.var 50)) 5 false)], n := 61 }))
noncomputable def G1H : H := itemsH [(0, .ro 0 (roC 0)),
  (8, .cells [(.int .i64 (.wrap .i64 (.fn1 40 (.lit 0)))), (.int .i64 (.wrap .i64 (.fn1 41 (.lit 0)))), (.int .i64 (.wrap .i64 (.fn1 42 (.lit 0))))] 27 none),
  (10, .cells [(.int .u8 (.wrap .u8 (.add (.ite (.eq (.wrap .i64 (.fn1 40 (.lit 0))) (.lit 0)) (.lit 0) (.ite (.eq (.wrap .i64 (.fn1 40 (.lit 0))) (.lit 1)) (.lit 0) (.ite (.eq (.wrap .i64 (.fn1 40 (.lit 0))) (.lit 2)) (.lit 2) (.ite (.eq (.wrap .i64 (.fn1 40 (.lit 0))) (.lit 3)) (.lit 4) (.ite (.eq (.wrap .i64 (.fn1 40 (.lit 0))) (.lit 4)) (.lit 6) (.lit 7)))))) (.wrap .u8 (.mul (.lit 8) (.wrap .i64 (.fn1 41 (.lit 0)))))))), (.int .u8 (.wrap .u8 (.wrap .i64 (.fn1 42 (.lit 0)))))] 5 none),
  (9, .cells [(.int .u8 (.lit 0)), (.int .u8 (.lit 0)), (.int .u8 (.lit 2)), (.int .u8 (.lit 4)), (.int .u8 (.lit 6)), (.int .u8 (.lit 7))] 5 none),
  (11, .arr (.put (.put (.fill (.lit 0)) (.lit 0) 0 (.wrap .u8 (.add (.ite (.eq (.wrap .i64 (.fn1 40 (.lit 0))) (.lit 0)) (.lit 0) (.ite (.eq (.wrap .i64 (.fn1 40 (.lit 0))) (.lit 1)) (.lit 0) (.ite (.eq (.wrap .i64 (.fn1 40 (.lit 0))) (.lit 2)) (.lit 2) (.ite (.eq (.wrap .i64 (.fn1 40 (.lit 0))) (.lit 3)) (.lit 4) (.ite (.eq (.wrap .i64 (.fn1 40 (.lit 0))) (.lit 4)) (.lit 6) (.lit 7)))))) (.wrap .u8 (.mul (.lit 8) (.wrap .i64 (.fn1 41 (.lit 0)))))))) (.lit 1) 0 (.wrap .u8 (.wrap .i64 (.fn1 42 (.lit 0))))) [.int .u8] (.lit 2) 5 true),
  (7, .warr 7 40 [.int .i64, .int .i64, .int .i64] (.var 50))]
noncomputable def G1Pc : PC := [((.lt (.lit 255) (.wrap .i64 (.fn1 42 (.lit 0)))), false), ((.lt (.wrap .i64 (.fn1 42 (.lit 0))) (.lit 0)), false), ((.lt (.lit 3) (.wrap .i64 (.fn1 41 (.lit 0)))), false), ((.lt (.wrap .i64 (.fn1 41 (.lit 0))) (.lit 0)), false), ((.lt (.lit 5) (.wrap .i64 (.fn1 40 (.lit 0)))), false), ((.lt (.wrap .i64 (.fn1 40 (.lit 0))) (.lit 1)), false), ((.le (.lit 1) (.var 50)), true), ((.le (.var 50) (.lit 3000)), true), ((.le (.lit 0) (.lit 7)), true), ((.le (.var 50) (.var 51)), true)]
noncomputable def G1I : Pat := ⟨⟨[(.xslice true 7 (.lit 0) 3 (.var 50) (.known (.var 51))), U, (.any 12), (.any 13), (.xslice false 14 (.lit 0) 1 (.var 100) (.room (.var 100))), (.int .i64 (.var 101)), (.any 15), (.any 16), (.any 17), (.any 18), (.any 19), (.any 20), (.any 21), (.any 22), (.any 23), (.any 24), (.any 25), (.any 26), (.any 27), (.any 28), (.any 29), (.ptr 30 0), (.any 31), (.any 32), (.any 33), (.any 34), (.ptr 30 1), (.any 35), (.any 36), (.any 37), (.any 38), (.ptr 30 1), (.any 39), (.any 40), (.any 41), (.any 42), (.ptr 30 2), (.any 43), (.any 44), (.any 45), (.any 46), (.ptr 30 2), (.any 47), (.any 48), (.any 49), (.any 50), (.any 51), (.any 52), (.any 53), (.any 54), (.any 55), (.any 56), (.any 57), (.any 58), (.any 59), (.any 60), (.any 61), (.any 62), (.any 63), (.any 64), (.any 65), U], []⟩,
 [(0, .ro 0 (roC 0)),
  (10, .cells [(.int .u8 (.wrap .u8 (.add (.ite (.eq (.wrap .i64 (.fn1 40 (.lit 0))) (.lit 0)) (.lit 0) (.ite (.eq (.wrap .i64 (.fn1 40 (.lit 0))) (.lit 1)) (.lit 0) (.ite (.eq (.wrap .i64 (.fn1 40 (.lit 0))) (.lit 2)) (.lit 2) (.ite (.eq (.wrap .i64 (.fn1 40 (.lit 0))) (.lit 3)) (.lit 4) (.ite (.eq (.wrap .i64 (.fn1 40 (.lit 0))) (.lit 4)) (.lit 6) (.lit 7)))))) (.wrap .u8 (.mul (.lit 8) (.wrap .i64 (.fn1 41 (.lit 0)))))))), (.int .u8 (.wrap .u8 (.wrap .i64 (.fn1 42 (.lit 0)))))] 5 none),
  (9, .cells [(.int .u8 (.lit 0)), (.int .u8 (.lit 0)), (.int .u8 (.lit 2)), (.int .u8 (.lit 4)), (.int .u8 (.lit 6)), (.int .u8 (.lit 7))] 5 none),
  (7, .warr 7 40 [.int .i64, .int .i64, .int .i64] (.var 50)),
  (14, .arr (.base 30) [.int .u8] (.var 100) 5 true),
  (30, .cells [(.any 66), (.any 67), (.any 68)] 27 none)],
 69, [((.le (.lit 0) (.var 101)), true), ((.le (.var 101) (.var 50)), true), ((.le (.var 100) (.add (.var 101) (.var 101))), true), ((.le (.add (.var 101) (.var 101)) (.var 100)), true), ((.le (.lit 1) (.var 50)), true), ((.le (.var 50) (.lit 3000)), true), ((.le (.lit 0) (.lit 7)), true), ((.le (.var 50) (.var 51)), true)], [0, 1, 2, 3, 4, 5, 6, 10, 9, 7, 14, 30, 12, 13, 15, 16, 17, 18, 19, 20, 21, 22, 23, 24, 25, 26, 27, 28, 29, 31, 32, 33, 34, 35, 36, 37, 38, 39, 40, 41, 42, 43, 44, 45, 46, 47, 48, 49, 50, 51, 52, 53, 54, 55, 56, 57, 58, 59, 60, 61, 62, 63, 64, 65, 66, 67, 68]⟩
noncomputable def G1T : Tch := ⟨[100, 101, 63], [(30, 1), (60, 1)]⟩
noncomputable def G1S : Mt := (mtV [(100, (.lit 2)), (101, (.lit 1))] [(30, [.int .u8], (.put (.put (.fill (.lit 0)) (.lit 0) 0 (.wrap .u8 (.add (.ite (.eq (.wrap .i64 (.fn1 40 (.lit 0))) (.lit 0)) (.lit 0) (.ite (.eq (.wrap .i64 (.fn1 40 (.lit 0))) (.lit 1)) (.lit 0) (.ite (.eq (.wrap .i64 (.fn1 40 (.lit 0))) (.lit 2)) (.lit 2) (.ite (.eq (.wrap .i64 (.fn1 40 (.lit 0))) (.lit 3)) (.lit 4) (.ite (.eq (.wrap .i64 (.fn1 40 (.lit 0))) (.lit 4)) (.lit 6) (.lit 7)))))) (.wrap .u8 (.mul (.lit 8) (.wrap .i64 (.fn1 41 (.lit 0)))))))) (.lit 1) 0 (.wrap .u8 (.wrap .i64 (.fn1 42 (.lit 0))))))])
noncomputable def G1O : OutP := ⟨.ret, ⟨⟨[(.any 12), (.any 13), .nilslice, (.int .i64 (.lit 2)), (.any 14), (.any 15), (.any 16), (.any 17), (.any 18), (.any 19), (.any 20), (.any 21), (.any 22), (.any 23), (.any 24), (.any 25), (.any 26), (.any 27), (.any 28), (.any 29), (.any 30), (.any 31), (.any 32), (.any 33), (.any 34), (.any 35), (.any 36), (.any 37), (.any 38), (.any 39), (.any 40), (.any 41), (.any 42), (.any 43), (.any 44), (.any 45), (.any 46), (.any 47), (.any 48), (.any 49), (.any 50), (.any 51), (.any 52), (.any 53), (.any 54), (.any 55), (.any 56), (.any 57), (.any 58), (.any 59), (.any 60), (.any 61), (.any 62), (.any 63), (.any 64), (.any 65), (.any 66), (.any 67), (.any 68), (.any 69), (.any 70), (.any 71)], []⟩,
 [(0, .ro 0 (roC 0)),
  (10, .cells [(.int .u8 (.wrap .u8 (.add (.ite (.eq (.wrap .i64 (.fn1 40 (.lit 0))) (.lit 0)) (.lit 0) (.ite (.eq (.wrap .i64 (.fn1 40 (.lit 0))) (.lit 1)) (.lit 0) (.ite (.eq (.wrap .i64 (.fn1 40 (.lit 0))) (.lit 2)) (.lit 2) (.ite (.eq (.wrap .i64 (.fn1 40 (.lit 0))) (.lit 3)) (.lit 4) (.ite (.eq (.wrap .i64 (.fn1 40 (.lit 0))) (.lit 4)) (.lit 6) (.lit 7)))))) (.wrap .u8 (.mul (.lit 8) (.wrap .i64 (.fn1 41 (.lit 0)))))))), (.int .u8 (.wrap .u8 (.wrap .i64 (.fn1 42 (.lit 0)))))] 5 none),
  (9, .cells [(.int .u8 (.lit 0)), (.int .u8 (.lit 0)), (.int .u8 (.lit 2)), (.int .u8 (.lit 4)), (.int .u8 (.lit 6)), (.int .u8 (.lit 7))] 5 none),
  (7, .warr 7 40 [.int .i64, .int .i64, .int .i64] (.var 50))],
 72, [], [0, 1, 2, 3, 4, 5, 6, 10, 9, 7, 12, 13, 14, 15, 16, 17, 18, 19, 20, 21, 22, 23, 24, 25, 26, 27, 28, 29, 30, 31, 32, 33, 34, 35, 36, 37, 38, 39, 40, 41, 42, 43, 44, 45, 46, 47, 48, 49, 50, 51, 52, 53, 54, 55, 56, 57, 58, 59, 60, 61, 62, 63, 64, 65, 66, 67, 68, 69, 70, 71]⟩⟩
noncomputable def G1O1 : OutP := ⟨(.exit 0), ⟨⟨[(.any 12), (.any 13), (.any 14), (.any 15), (.xslice false 16 (.lit 0) 1 (.var 63) (.room (.var 63))), (.any 17), (.any 18), (.any 19), (.any 20), (.any 21), (.any 22), (.any 23), (.any 24), (.any 25), (.any 26), (.any 27), (.any 28), (.any 29), (.any 30), (.any 31), (.any 32), (.any 33), (.any 34), (.any 35), (.any 36), (.any 37), (.any 38), (.any 39), (.any 40), (.any 41), (.any 42), (.any 43), (.any 44), (.any 45), (.any 46), (.any 47), (.any 48), (.any 49), (.any 50), (.any 51), (.any 52), (.any 53), (.any 54), (.any 55), (.any 56), (.any 57), (.any 58), (.any 59), (.any 60), (.any 61), (.any 62), (.any 63), (.any 64), (.any 65), (.any 66), (.any 67), (.any 68), (.any 69), (.any 70), (.any 71), (.any 72), U], []⟩,
 [(0, .ro 0 (roC 0)),
  (10, .cells [(.int .u8 (.wrap .u8 (.add (.ite (.eq (.wrap .i64 (.fn1 40 (.lit 0))) (.lit 0)) (.lit 0) (.ite (.eq (.wrap .i64 (.fn1 40 (.lit 0))) (.lit 1)) (.lit 0) (.ite (.eq (.wrap .i64 (.fn1 40 (.lit 0))) (.lit 2)) (.lit 2) (.ite (.eq (.wrap .i64 (.fn1 40 (.lit 0))) (.lit 3)) (.lit 4) (.ite (.eq (.wrap .i64 (.fn1 40 (.lit 0))) (.lit 4)) (.lit 6) (.lit 7)))))) (.wrap .u8 (.mul (.lit 8) (.wrap .i64 (.fn1 41 (.lit 0)))))))), (.int .u8 (.wrap .u8 (.wrap .i64 (.fn1 42 (.lit 0)))))] 5 none),
  (9, .cells [(.int .u8 (.lit 0)), (.int .u8 (.lit 0)), (.int .u8 (.lit 2)), (.int .u8 (.lit 4)), (.int .u8 (.lit 6)), (.int .u8 (.lit 7))] 5 none),
  (7, .warr 7 40 [.int .i64, .int .i64, .int .i64] (.var 50)),
  (16, .arr (.base 60) [.int .u8] (.var 63) 5 true)],
 73, [], [0, 1, 2, 3, 4, 5, 6, 10, 9, 7, 16, 12, 13, 14, 15, 17, 18, 19, 20, 21, 22, 23, 24, 25, 26, 27, 28, 29, 30, 31, 32, 33, 34, 35, 36, 37, 38, 39, 40, 41, 42, 43, 44, 45, 46, 47, 48, 49, 50, 51, 52, 53, 54, 55, 56, 57, 58, 59, 60, 61, 62, 63, 64, 65, 66, 67, 68, 69, 70, 71, 72]⟩⟩
noncomputable def G1LL : R LL :=
 (.br (.lt (.var 101) (.var 50))
  (.br (.lt (.wrap .i64 (.fn1 40 (.var 101))) (.lit 1))
  (.ok (.out 0 (mtV [] [])))
  (.br (.lt (.lit 5) (.wrap .i64 (.fn1 40 (.var 101))))
   (.ok (.out 0 (mtV [] [])))
   (.br (.lt (.wrap .i64 (.fn1 41 (.var 101))) (.lit 0))
   (.ok (.out 0 (mtV [] [])))
   (.br (.lt (.lit 3) (.wrap .i64 (.fn1 41 (.var 101))))
    (.ok (.out 0 (mtV [] [])))
    (.br (.lt (.wrap .i64 (.fn1 42 (.var 101))) (.lit 0))
    (.ok (.out 0 (mtV [] [])))
    (.br (.lt (.lit 255) (.wrap .i64 (.fn1 42 (.var 101))))
     (.ok (.out 0 (mtV [] [])))
     (.ok (.next (mtV [(100, (.add (.var 100) (.lit 2))), (101, (.add (.var 101) (.lit 1)))] [(30, [.int .u8], (.put (.put (.base 30) (.var 100) 0 (.wrap .u8 (.add (.ite (.eq (.wrap .i64 (.fn1 40 (.var 101))) (.lit 0)) (.lit 0) (.ite (.eq (.wrap .i64 (.fn1 40 (.var 101))) (.lit 1)) (.lit 0) (.ite (.eq (.wrap .i64 (.fn1 40 (.var 101))) (.lit 2)) (.lit 2) (.ite (.eq (.wrap .i64 (.fn1 40 (.var 101))) (.lit 3)) (.lit 4) (.ite (.eq (.wrap .i64 (.fn1 40 (.var 101))) (.lit 4)) (.lit 6) (.lit 7)))))) (.wrap .u8 (.mul (.lit 8) (.wrap .i64 (.fn1 41 (.var 101)))))))) (.add (.var 100) (.lit 1)) 0 (.wrap .u8 (.wrap .i64 (.fn1 42 (.var 101))))))])))))))))
  (.ok (.out 1 (mtV [(63, (.var 100))] [(60, [.int .u8], (.base 30))]))))
noncomputable def G1L : LoopI := ⟨none, (lb 11 0), ⟨[(.xslice true 7 (.lit 0) 3 (.var 50) (.known (.var 51))), U, .nilslice, (.int .i64 (.lit 0)), (.xslice false 11 (.lit 0) 1 (.lit 2) (.room (.lit 2))), (.int .i64 (.lit 1)), (.ptr 8 0), (.int .i64 (.lit 0)), (.xslice true 7 (.lit 0) 3 (.var 50) (.known (.var 51))), (.int .i64 (.var 50)), (.bool (.lt (.lit 0) (.var 50))), (.int .i64 (.lit 0)), (.int .i64 (.lit 1)), (.xslice true 7 (.lit 0) 3 (.var 50) (.known (.var 51))), (.int .i64 (.lit 0)), (.xptr true 7 (.lit 0) 3 0), (.agg [(.int .i64 (.wrap .i64 (.fn1 40 (.lit 0)))), (.int .i64 (.wrap .i64 (.fn1 41 (.lit 0)))), (.int .i64 (.wrap .i64 (.fn1 42 (.lit 0))))]), (.ptr 8 0), (.int .i64 (.wrap .i64 (.fn1 40 (.lit 0)))), (.bool (.lt (.wrap .i64 (.fn1 40 (.lit 0))) (.lit 1))), (.bool (.lt (.wrap .i64 (.fn1 40 (.lit 0))) (.lit 1))), (.ptr 8 0), (.int .i64 (.wrap .i64 (.fn1 40 (.lit 0)))), (.bool (.lt (.lit 5) (.wrap .i64 (.fn1 40 (.lit 0))))), (.bool (.lt (.lit 5) (.wrap .i64 (.fn1 40 (.lit 0))))), (.bool (.lt (.lit 5) (.wrap .i64 (.fn1 40 (.lit 0))))), (.ptr 8 1), (.int .i64 (.wrap .i64 (.fn1 41 (.lit 0)))), (.bool (.lt (.wrap .i64 (.fn1 41 (.lit 0))) (.lit 0))), (.bool (.lt (.wrap .i64 (.fn1 41 (.lit 0))) (.lit 0))), (.bool (.lt (.wrap .i64 (.fn1 41 (.lit 0))) (.lit 0))), (.ptr 8 1), (.int .i64 (.wrap .i64 (.fn1 41 (.lit 0)))), (.bool (.lt (.lit 3) (.wrap .i64 (.fn1 41 (.lit 0))))), (.bool (.lt (.lit 3) (.wrap .i64 (.fn1 41 (.lit 0))))), (.bool (.lt (.lit 3) (.wrap .i64 (.fn1 41 (.lit 0))))), (.ptr 8 2), (.int .i64 (.wrap .i64 (.fn1 42 (.lit 0)))), (.bool (.lt (.wrap .i64 (.fn1 42 (.lit 0))) (.lit 0))), (.bool (.lt (.wrap .i64 (.fn1 42 (.lit 0))) (.lit 0))), (.bool (.lt (.wrap .i64 (.fn1 42 (.lit 0))) (.lit 0))), (.ptr 8 2), (.int .i64 (.wrap .i64 (.fn1 42 (.lit 0)))), (.bool (.lt (.lit 255) (.wrap .i64 (.fn1 42 (.lit 0))))), (.bool (.lt (.lit 255) (.wrap .i64 (.fn1 42 (.lit 0))))), .nilslice, (.slice 9 0 6 (.known 6)), (.ptr 8 0), (.int .i64 (.wrap .i64 (.fn1 40 (.lit 0)))), (.sptr 9 0 6 (.wrap .i64 (.fn1 40 (.lit 0)))), (.int .u8 (.ite (.eq (.wrap .i64 (.fn1 40 (.lit 0))) (.lit 0)) (.lit 0) (.ite (.eq (.wrap .i64 (.fn1 40 (.lit 0))) (.lit 1)) (.lit 0) (.ite (.eq (.wrap .i64 (.fn1 40 (.lit 0))) (.lit 2)) (.lit 2) (.ite (.eq (.wrap .i64 (.fn1 40 (.lit 0))) (.lit 3)) (.lit 4) (.ite (.eq (.wrap .i64 (.fn1 40 (.lit 0))) (.lit 4)) (.lit 6) (.lit 7))))))), (.ptr 8 1), (.int .i64 (.wrap .i64 (.fn1 41 (.lit 0)))), (.int .i64 (.mul (.lit 8) (.wrap .i64 (.fn1 41 (.lit 0))))), (.int .u8 (.wrap .u8 (.mul (.lit 8) (.wrap .i64 (.fn1 41 (.lit 0)))))), (.int .u8 (.wrap .u8 (.add (.ite (.eq (.wrap .i64 (.fn1 40 (.lit 0))) (.lit 0)) (.lit 0) (.ite (.eq (.wrap .i64 (.fn1 40 (.lit 0))) (.lit 1)) (.lit 0) (.ite (.eq (.wrap .i64 (.fn1 40 (.lit 0))) (.lit 2)) (.lit 2) (.ite (.eq (.wrap .i64 (.fn1 40 (.lit 0))) (.lit 3)) (.lit 4) (.ite (.eq (.wrap .i64 (.fn1 40 (.lit 0))) (.lit 4)) (.lit 6) (.lit 7)))))) (.wrap .u8 (.mul (.lit 8) (.wrap .i64 (.fn1 41 (.lit 0)))))))), (.ptr 8 2), (.int .i64 (.wrap .i64 (.fn1 42 (.lit 0)))), (.int .u8 (.wrap .u8 (.wrap .i64 (.fn1 42 (.lit 0))))), (.slice 10 0 2 (.known 2)), (.xslice false 11 (.lit 0) 1 (.lit 2) (.room (.lit 2))), U], []⟩, ⟨G1H, 12, G1Pc⟩, .br (.eq (.var 64) (.lit 0)) (.ok (G1O.ex, G1O.pat.fr, ⟨G1O.pat.st.h, G1O.pat.st.n, G1Pc⟩)) (.ok (G1O1.ex, G1O1.pat.fr, ⟨G1O1.pat.st.h, G1O1.pat.st.n, G1Pc⟩))⟩
def RRP : CallP := ⟨[(.xslice true 7 (.lit 0) 3 (.var 50) (.known (.var 51)))], [(7, .warr 7 40 [.int .i64, .int .i64, .int .i64] (.var 50))], 8, [((.le (.lit 1) (.var 50)), true), ((.le (.var 50) (.lit 3000)), true), ((.le (.lit 0) (.lit 7)), true), ((.le (.var 50) (.var 51)), true)]⟩
def RRR : R Leaf :=
 (.br (.lt (.wrap .i64 (.fn1 40 (.lit 0))) (.lit 1))
  (.ok { v := (.tuple [.nilslice, (.int .i64 (.lit 2))]), objs := [], n := 9 })
  (.br (.lt (.lit 5) (.wrap .i64 (.fn1 40 (.lit 0))))
  (.ok { v := (.tuple [.nilslice, (.int .i64 (.lit 2))]), objs := [], n := 9 })
  (.br (.lt (.wrap .i64 (.fn1 41 (.lit 0))) (.lit 0))
   (.ok { v := (.tuple [.nilslice, (.int .i64 (.lit 2))]), objs := [], n := 9 })
   (.br (.lt (.lit 3) (.wrap .i64 (.fn1 41 (.lit 0))))
   (.ok { v := (.tuple [.nilslice, (.int .i64 (.lit 2))]), objs := [], n := 9 })
   (.br (.lt (.wrap .i64 (.fn1 42 (.lit 0))) (.lit 0))
    (.ok { v := (.tuple [.nilslice, (.int .i64 (.lit 2))]), objs := [], n := 9 })
    (.br (.lt (.lit 255) (.wrap .i64 (.fn1 42 (.lit 0))))
    (.ok { v := (.tuple [.nilslice, (.int .i64 (.lit 2))]), objs := [], n := 9 })
    (.br (.eq (.var 64) (.lit 0))
     (.ok { v := (.tuple [.nilslice, (.int .i64 (.lit 2))]), objs := [], n := 72 })
     (.ok { v := (.tuple [(.xslice false 16 (.lit 0) 1 (.var 63) (.room (.var 63))), (.int .i64 (.lit 0))]), objs := [(16, .arr (.base 60) [.int .u8] (.var 63) 5 true)], n := 73 }))))))))
noncomputable def D2H : H := itemsH [(0, .ro 0 (roC 0)),
  (8, .arr (.base 44) [.int .i64, .int .i64, .int .i64] (.var 54) 27 true),
  (7, .arr (.base 40) [.int .i64, .int .i64, .int .i64] (.var 50) 27 true)]
noncomputable def D2Pc : PC := [((.eq (.var 50) (.var 54)), true), ((.le (.lit 1) (.var 50)), true), ((.le (.var 50) (.lit 3000)), true), ((.le (.lit 0) (.var 54)), true), ((.le (.var 54) (.lit 3000)), true), ((.le (.lit 0) (.lit 7)), true), ((.le (.var 50) (.var 50)), true), ((.le (.var 54) (.var 54)), true)]
noncomputable def D2I : Pat := ⟨⟨[(.xslice false 7 (.lit 0) 3 (.var 50) (.room (.var 50))), (.xslice false 8 (.lit 0) 3 (.var 54) (.room (.var 54))), U, U, (.any 9), (.int .i64 (.var 100)), (.xslice false 7 (.lit 0) 3 (.var 50) (.room (.var 50))), (.int .i64 (.var 50)), (.xslice false 8 (.lit 0) 3 (.var 54) (.room (.var 54))), (.int .i64 (.var 54)), (.bool (.not (.eq (.var 50) (.var 54)))), (.any 10), (.any 11), (.any 12), (.any 13), (.any 14), (.any 15), (.any 16), (.any 17), (.any 18), (.any 19), (.any 20), (.any 21), (.any 22), (.any 23), (.any 24)], []⟩,
 [(0, .ro 0 (roC 0)),
  (8, .arr (.base 44) [.int .i64, .int .i64, .int .i64] (.var 54) 27 true),
  (7, .arr (.base 40) [.int .i64, .int .i64, .int .i64] (.var 50) 27 true)],
 25, [((.le (.lit 0) (.var 100)), true), ((.eq (.var 50) (.var 54)), true), ((.le (.lit 1) (.var 50)), true), ((.le (.var 50) (.lit 3000)), true), ((.le (.lit 0) (.var 54)), true), ((.le (.var 54) (.lit 3000)), true), ((.le (.lit 0) (.lit 7)), true), ((.le (.var 50) (.var 50)), true), ((.le (.var 54) (.var 54)), true)], [0, 1, 2, 3, 4, 5, 6, 8, 7, 9, 10, 11, 12, 13, 14, 15, 16, 17, 18, 19, 20, 21, 22, 23, 24]⟩
noncomputable def D2T : Tch := ⟨[100], []⟩
noncomputable def D2S : Mt := (mtV [(100, (.lit 0))] [])
noncomputable def D2O : OutP := ⟨.ret, ⟨⟨[(.any 9), (.any 10), (.any 11), (.any 12), (.bool (.lit 0)), (.any 13), (.any 14), (.any 15), (.any 16), (.any 17), (.any 18), (.any 19), (.any 20), (.any 21), (.any 22), (.any 23), (.any 24), (.any 25), (.any 26), (.any 27), (.any 28), (.any 29), (.any 30), (.any 31), (.any 32), (.any 33)], []⟩,
 [(0, .ro 0 (roC 0)),
  (8, .arr (.base 44) [.int .i64, .int .i64, .int .i64] (.var 54) 27 true),
  (7, .arr (.base 40) [.int .i64, .int .i64, .int .i64] (.var 50) 27 true)],
 34, [], [0, 1, 2, 3, 4, 5, 6, 8, 7, 9, 10, 11, 12, 13, 14, 15, 16, 17, 18, 19, 20, 21, 22, 23, 24, 25, 26, 27, 28, 29, 30, 31, 32, 33]⟩⟩
noncomputable def D2O1 : OutP := ⟨(.exit 0), ⟨⟨[(.xslice false 7 (.lit 0) 3 (.var 50) (.room (.var 50))), (.xslice false 8 (.lit 0) 3 (.var 54) (.room (.var 54))), (.any 9), (.any 10), (.any 11), (.any 12), (.xslice false 7 (.lit 0) 3 (.var 50) (.room (.var 50))), (.int .i64 (.var 50)), (.xslice false 8 (.lit 0) 3 (.var 54) (.room (.var 54))), (.int .i64 (.var 54)), (.bool (.not (.eq (.var 50) (.var 54)))), (.any 13), (.any 14), (.any 15), (.any 16), (.any 17), (.any 18), (.any 19), (.any 20), (.any 21), (.any 22), (.any 23), (.any 24), (.any 25), (.any 26), (.any 27)], []⟩,
 [(0, .ro 0 (roC 0)),
  (8, .arr (.base 44) [.int .i64, .int .i64, .int .i64] (.var 54) 27 true),
  (7, .arr (.base 40) [.int .i64, .int .i64, .int .i64] (.var 50) 27 true)],
 28, [], [0, 1, 2, 3, 4, 5, 6, 8, 7, 9, 10, 11, 12, 13, 14, 15, 16, 17, 18, 19, 20, 21, 22, 23, 24, 25, 26, 27]⟩⟩
noncomputable def D2LL : R LL :=
 (.br (.lt (.var 100) (.var 50))
  (.br (.eq (.wrap .i64 (.fn1 40 (.var 100))) (.wrap .i64 (.fn1 44 (.var 100))))
  (.br (.eq (.wrap .i64 (.fn1 41 (.var 100))) (.wrap .i64 (.fn1 45 (.var 100))))
   (.br (.eq (.wrap .i64 (.fn1 42 (.var 100))) (.wrap .i64 (.fn1 46 (.var 100))))
   (.ok (.next (mtV [(100, (.add (.var 100) (.lit 1)))] [])))
   (.ok (.out 0 (mtV [] []))))
   (.ok (.out 0 (mtV [] []))))
  (.ok (.out 0 (mtV [] []))))
  (.ok (.out 1 (mtV [] []))))
noncomputable def D2L : LoopI := ⟨none, (lb 12 0), ⟨[(.xslice false 7 (.lit 0) 3 (.var 50) (.room (.var 50))), (.xslice false 8 (.lit 0) 3 (.var 54) (.room (.var 54))), U, U, (.bool (.lit 0)), (.int .i64 (.lit 0)), (.xslice false 7 (.lit 0) 3 (.var 50) (.room (.var 50))), (.int .i64 (.var 50)), (.xslice false 8 (.lit 0) 3 (.var 54) (.room (.var 54))), (.int .i64 (.var 54)), (.bool (.not (.eq (.var 50) (.var 54)))), U, U, U, U, U, U, U, U, U, U, U, U, U, U, U], []⟩, ⟨D2H, 9, D2Pc⟩, .br (.eq (.var 66) (.lit 0)) (.ok (D2O.ex, D2O.pat.fr, ⟨D2O.pat.st.h, D2O.pat.st.n, D2Pc⟩)) (.ok (D2O1.ex, D2O1.pat.fr, ⟨D2O1.pat.st.h, D2O1.pat.st.n, D2Pc⟩))⟩
def Sm2P : CallP := ⟨[(.xslice false 7 (.lit 0) 3 (.var 50) (.room (.var 50))), (.xslice false 8 (.lit 0) 3 (.var 54) (.room (.var 54)))], [(7, .arr (.base 40) [.int .i64, .int .i64, .int .i64] (.var 50) 27 true),
  (8, .arr (.base 44) [.int .i64, .int .i64, .int .i64] (.var 54) 27 true)], 9, [((.le (.lit 1) (.var 50)), true), ((.le (.var 50) (.lit 3000)), true), ((.le (.lit 0) (.var 54)), true), ((.le (.var 54) (.lit 3000)), true), ((.le (.lit 0) (.lit 7)), true), ((.le (.var 50) (.var 50)), true), ((.le (.var 54) (.var 54)), true)]⟩
def Sm2R : R Leaf :=
 (.br (.eq (.var 50) (.var 54))
  (.br (.eq (.var 66) (.lit 0))
  (.ok { v := (.bool (.lit 0)), objs := [(7, .arr (.base 40) [.int .i64, .int .i64, .int .i64] (.var 50) 27 true), (8, .arr (.base 44) [.int .i64, .int .i64, .int .i64] (.var 54) 27 true)], n := 34 })
  (.ok { v := (.bool (.lit 1)), objs := [(7, .arr (.base 40) [.int .i64, .int .i64, .int .i64] (.var 50) 27 true), (8, .arr (.base 44) [.int .i64, .int .i64, .int .i64] (.var 54) 27 true)], n := 28 }))
  (.ok { v := (.bool (.lit 0)), objs := [(7, .arr (.base 40) [.int .i64, .int .i64, .int .i64] (.var 50) 27 true), (8, .arr (.base 44) [.int .i64, .int .i64, .int .i64] (.var 54) 27 true)], n := 9 }))
noncomputable def D1H : H := itemsH [(0, .ro 0 (roC 0)),
  (8, .arr (.put (.put (.put (.base 40) (.var 50) 0 (.lit 77)) (.var 50) 1 (.lit 0)) (.var 50) 2 (.lit 0)) [.int .i64, .int .i64, .int .i64] (.add (.var 50) (.lit 1)) 27 true),
  (7, .warr 7 44 [.int .i64, .int .i64, .int .i64] (.var 54))]
noncomputable def D1Pc : PC := [((.eq (.var 50) (.var 54)), true), ((.le (.lit 1) (.var 50)), true), ((.le (.var 50) (.lit 3000)), true), ((.le (.lit 0) (.var 54)), true), ((.le (.var 54) (.lit 3000)), true), ((.le (.lit 0) (.lit 7)), true), ((.le (.var 54) (.var 51)), true)]
noncomputable def D1I : Pat := ⟨⟨[(.xslice false 8 (.lit 0) 3 (.var 50) (.room (.add (.var 50) (.lit 1)))), (.xslice true 7 (.lit 0) 3 (.var 54) (.known (.var 51))), U, U, (.any 9), (.int .i64 (.var 100)), (.xslice false 8 (.lit 0) 3 (.var 50) (.room (.add (.var 50) (.lit 1)))), (.int .i64 (.var 50)), (.xslice true 7 (.lit 0) 3 (.var 54) (.known (.var 51))), (.int .i64 (.var 54)), (.bool (.not (.eq (.var 50) (.var 54)))), (.any 10), (.any 11), (.any 12), (.any 13), (.any 14), (.any 15), (.any 16), (.any 17), (.any 18), (.any 19), (.any 20), (.any 21), (.any 22), (.any 23), (.any 24)], []⟩,
 [(0, .ro 0 (roC 0)),
  (8, .arr (.put (.put (.put (.base 40) (.var 50) 0 (.lit 77)) (.var 50) 1 (.lit 0)) (.var 50) 2 (.lit 0)) [.int .i64, .int .i64, .int .i64] (.add (.var 50) (.lit 1)) 27 true),
  (7, .warr 7 44 [.int .i64, .int .i64, .int .i64] (.var 54))],
 25, [((.le (.lit 0) (.var 100)), true), ((.eq (.var 50) (.var 54)), true), ((.le (.lit 1) (.var 50)), true), ((.le (.var 50) (.lit 3000)), true), ((.le (.lit 0) (.var 54)), true), ((.le (.var 54) (.lit 3000)), true), ((.le (.lit 0) (.lit 7)), true), ((.le (.var 54) (.var 51)), true)], [0, 1, 2, 3, 4, 5, 6, 8, 7, 9, 10, 11, 12, 13, 14, 15, 16, 17, 18, 19, 20, 21, 22, 23, 24]⟩
noncomputable def D1T : Tch := ⟨[100], []⟩
noncomputable def D1S : Mt := (mtV [(100, (.lit 0))] [])
noncomputable def D1O : OutP := ⟨.ret, ⟨⟨[(.any 9), (.any 10), (.any 11), (.any 12), (.bool (.lit 0)), (.any 13), (.any 14), (.any 15), (.any 16), (.any 17), (.any 18), (.any 19), (.any 20), (.any 21), (.any 22), (.any 23), (.any 24), (.any 25), (.any 26), (.any 27), (.any 28), (.any 29), (.any 30), (.any 31), (.any 32), (.any 33)], []⟩,
 [(0, .ro 0 (roC 0)),
  (8, .arr (.put (.put (.put (.base 40) (.var 50) 0 (.lit 77)) (.var 50) 1 (.lit 0)) (.var 50) 2 (.lit 0)) [.int .i64, .int .i64, .int .i64] (.add (.var 50) (.lit 1)) 27 true),
  (7, .warr 7 44 [.int .i64, .int .i64, .int .i64] (.var 54))],
 34, [], [0, 1, 2, 3, 4, 5, 6, 8, 7, 9, 10, 11, 12, 13, 14, 15, 16, 17, 18, 19, 20, 21, 22, 23, 24, 25, 26, 27, 28, 29, 30, 31, 32, 33]⟩⟩
noncomputable def D1O1 : OutP := ⟨(.exit 0), ⟨⟨[(.xslice false 8 (.lit 0) 3 (.var 50) (.room (.add (.var 50) (.lit 1)))), (.xslice true 7 (.lit 0) 3 (.var 54) (.known (.var 51))), (.any 9), (.any 10), (.any 11), (.any 12), (.xslice false 8 (.lit 0) 3 (.var 50) (.room (.add (.var 50) (.lit 1)))), (.int .i64 (.var 50)), (.xslice true 7 (.lit 0) 3 (.var 54) (.known (.var 51))), (.int .i64 (.var 54)), (.bool (.not (.eq (.var 50) (.var 54)))), (.any 13), (.any 14), (.any 15), (.any 16), (.any 17), (.any 18), (.any 19), (.any 20), (.any 21), (.any 22), (.any 23), (.any 24), (.any 25), (.any 26), (.any 27)], []⟩,
 [(0, .ro 0 (roC 0)),
  (8, .arr (.put (.put (.put (.base 40) (.var 50) 0 (.lit 77)) (.var 50) 1 (.lit 0)) (.var 50) 2 (.lit 0)) [.int .i64, .int .i64, .int .i64] (.add (.var 50) (.lit 1)) 27 true),
  (7, .warr 7 44 [.int .i64, .int .i64, .int .i64] (.var 54))],
 28, [], [0, 1, 2, 3, 4, 5, 6, 8, 7, 9, 10, 11, 12, 13, 14, 15, 16, 17, 18, 19, 20, 21, 22, 23, 24, 25, 26, 27]⟩⟩
noncomputable def D1LL : R LL :=
 (.br (.lt (.var 100) (.var 50))
  (.br (.eq (.wrap .i64 (.fn1 40 (.var 100))) (.wrap .i64 (.fn1 44 (.var 100))))
  (.br (.eq (.wrap .i64 (.fn1 41 (.var 100))) (.wrap .i64 (.fn1 45 (.var 100))))
   (.br (.eq (.wrap .i64 (.fn1 42 (.var 100))) (.wrap .i64 (.fn1 46 (.var 100))))
   (.ok (.next (mtV [(100, (.add (.var 100) (.lit 1)))] [])))
   (.ok (.out 0 (mtV [] []))))
   (.ok (.out 0 (mtV [] []))))
  (.ok (.out 0 (mtV [] []))))
  (.ok (.out 1 (mtV [] []))))
noncomputable def D1L : LoopI := ⟨none, (lb 12 0), ⟨[(.xslice false 8 (.lit 0) 3 (.var 50) (.room (.add (.var 50) (.lit 1)))), (.xslice true 7 (.lit 0) 3 (.var 54) (.known (.var 51))), U, U, (.bool (.lit 0)), (.int .i64 (.lit 0)), (.xslice false 8 (.lit 0) 3 (.var 50) (.room (.add (.var 50) (.lit 1)))), (.int .i64 (.var 50)), (.xslice true 7 (.lit 0) 3 (.var 54) (.known (.var 51))), (.int .i64 (.var 54)), (.bool (.not (.eq (.var 50) (.var 54)))), U, U, U, U, U, U, U, U, U, U, U, U, U, U, U], []⟩, ⟨D1H, 9, D1Pc⟩, .br (.eq (.var 66) (.lit 0)) (.ok (D1O.ex, D1O.pat.fr, ⟨D1O.pat.st.h, D1O.pat.st.n, D1Pc⟩)) (.ok (D1O1.ex, D1O1.pat.fr, ⟨D1O1.pat.st.h, D1O1.pat.st.n, D1Pc⟩))⟩
def Sm3P : CallP := ⟨[(.xslice false 8 (.lit 0) 3 (.var 50) (.room (.add (.var 50) (.lit 1)))), (.xslice true 7 (.lit 0) 3 (.var 54) (.known (.var 51)))], [(8, .arr (.put (.put (.put (.base 40) (.var 50) 0 (.lit 77)) (.var 50) 1 (.lit 0)) (.var 50) 2 (.lit 0)) [.int .i64, .int .i64, .int .i64] (.add (.var 50) (.lit 1)) 27 true),
  (7, .warr 7 44 [.int .i64, .int .i64, .int .i64] (.var 54))], 9, [((.le (.lit 1) (.var 50)), true), ((.le (.var 50) (.lit 3000)), true), ((.le (.lit 0) (.var 54)), true), ((.le (.var 54) (.lit 3000)), true), ((.le (.lit 0) (.lit 7)), true), ((.le (.var 54) (.var 51)), true)]⟩
def Sm3R : R Leaf :=
 (.br (.eq (.var 50) (.var 54))
  (.br (.eq (.var 66) (.lit 0))
  (.ok { v := (.bool (.lit 0)), objs := [(8, .arr (.put (.put (.put (.base 40) (.var 50) 0 (.lit 77)) (.var 50) 1 (.lit 0)) (.var 50) 2 (.lit 0)) [.int .i64, .int .i64, .int .i64] (.add (.var 50) (.lit 1)) 27 true)], n := 34 })
  (.ok { v := (.bool (.lit 1)), objs := [(8, .arr (.put (.put (.put (.base 40) (.var 50) 0 (.lit 77)) (.var 50) 1 (.lit 0)) (.var 50) 2 (.lit 0)) [.int .i64, .int .i64, .int .i64] (.add (.var 50) (.lit 1)) 27 true)], n := 28 }))
  (.ok { v := (.bool (.lit 0)), objs := [(8, .arr (.put (.put (.put (.base 40) (.var 50) 0 (.lit 77)) (.var 50) 1 (.lit 0)) (.var 50) 2 (.lit 0)) [.int .i64, .int .i64, .int .i64] (.add (.var 50) (.lit 1)) 27 true)], n := 9 }))
set_option maxRecDepth 100000 in
theorem A1_chk : (match (ev cxB 4000).code A1L.rnd A1L.body A1I.fr A1I.st with | raw => chkTree A1T A1L.st.n A1I [A1O] raw (fillLL A1I [A1O] raw A1LL)) = true := by kernel_rfl
set_option maxRecDepth 100000 in
theorem A1_ok : loopOk 7 A1L A1I [A1O] = true := by kernel_rfl
set_option maxRecDepth 100000 in
theorem A1_ent : fit A1T (fillMt A1I A1L.fr A1L.st A1S.v A1S.a) A1L.st.n A1I A1L.fr A1L.st = true := by kernel_rfl
set_option maxRecDepth 100000 in
theorem E1_chk : (match (ev cxB 4000).code E1L.rnd E1L.body E1I.fr E1I.st with | raw => chkTree E1T E1L.st.n E1I [E1O] raw (fillLL E1I [E1O] raw E1LL)) = true := by kernel_rfl
set_option maxRecDepth 100000 in
theorem E1_ok : loopOk 7 E1L E1I [E1O] = true := by kernel_rfl
set_option maxRecDepth 100000 in
theorem E1_ent : fit E1T (fillMt E1I E1L.fr E1L.st E1S.v E1S.a) E1L.st.n E1I E1L.fr E1L.st = true := by kernel_rfl
set_option maxRecDepth 100000 in
theorem B1_chk : (match (ev cxR 4000).code B1L.rnd B1L.body B1I.fr B1I.st with | raw => chkTree B1T B1L.st.n B1I [B1O, B1O1] raw (fillLL B1I [B1O, B1O1] raw B1LL)) = true := by kernel_rfl
set_option maxRecDepth 100000 in
theorem B1_ok : loopOk 7 B1L B1I [B1O, B1O1] = true := by kernel_rfl
set_option maxRecDepth 100000 in
theorem B1_ent : fit B1T (fillMt B1I B1L.fr B1L.st B1S.v B1S.a) B1L.st.n B1I B1L.fr B1L.st = true := by kernel_rfl
set_option maxRecDepth 100000 in
theorem G1_chk : (match (ev cxB 4000).code G1L.rnd G1L.body G1I.fr G1I.st with | raw => chkTree G1T G1L.st.n G1I [G1O, G1O1] raw (fillLL G1I [G1O, G1O1] raw G1LL)) = true := by kernel_rfl
set_option maxRecDepth 100000 in
theorem G1_ok : loopOk 7 G1L G1I [G1O, G1O1] = true := by kernel_rfl
set_option maxRecDepth 100000 in
theorem G1_ent : fit G1T (fillMt G1I G1L.fr G1L.st G1S.v G1S.a) G1L.st.n G1I G1L.fr G1L.st = true := by kernel_rfl
set_option maxRecDepth 100000 in
theorem D2_chk : (match (ev cxB 4000).code D2L.rnd D2L.body D2I.fr D2I.st with | raw => chkTree D2T D2L.st.n D2I [D2O, D2O1] raw (fillLL D2I [D2O, D2O1] raw D2LL)) = true := by kernel_rfl
set_option maxRecDepth 100000 in
theorem D2_ok : loopOk 7 D2L D2I [D2O, D2O1] = true := by kernel_rfl
set_option maxRecDepth 100000 in
theorem D2_ent : fit D2T (fillMt D2I D2L.fr D2L.st D2S.v D2S.a) D2L.st.n D2I D2L.fr D2L.st = true := by kernel_rfl
set_option maxRecDepth 100000 in
theorem D1_chk : (match (ev cxB 4000).code D1L.rnd D1L.body D1I.fr D1I.st with | raw => chkTree D1T D1L.st.n D1I [D1O, D1O1] raw (fillLL D1I [D1O, D1O1] raw D1LL)) = true := by kernel_rfl
set_option maxRecDepth 100000 in
theorem D1_ok : loopOk 7 D1L D1I [D1O, D1O1] = true := by kernel_rfl
set_option maxRecDepth 100000 in
theorem D1_ent : fit D1T (fillMt D1I D1L.fr D1L.st D1S.v D1S.a) D1L.st.n D1I D1L.fr D1L.st = true := by kernel_rfl
set_option maxRecDepth 100000 in
theorem Ix_run : leafX IxP ((evT cxI 4000).call 21 IxP.args (IxP.st LStart)) = IxR := by kernel_rfl
noncomputable def cxCh3 : Cx := { cxB with lp := some (lpOf [A1L]) }
set_option maxRecDepth 100000 in
theorem Ch3_run : leafX Ch3P ((evT cxCh3 4000).call 9 Ch3P.args (Ch3P.st LStart)) = Ch3R := by kernel_rfl
noncomputable def cxRC : Cx := { cxB with lp := some (lpOf [E1L]) }
set_option maxRecDepth 100000 in
theorem RC_run : leafX RCP ((evT cxRC 4000).call 13 RCP.args (RCP.st LStart)) = RCR := by kernel_rfl
noncomputable def cxRw3 : Cx := { cxR with lp := some (lpOf [B1L]) }
set_option maxRecDepth 100000 in
theorem Rw3_run : leafX Rw3P ((evT cxRw3 4000).call 10 Rw3P.args (Rw3P.st LStart)) = Rw3R := by kernel_rfl
noncomputable def cxRR : Cx := { cxB with lp := some (lpOf [G1L]) }
set_option maxRecDepth 100000 in
theorem RR_run : leafX RRP ((evT cxRR 4000).call 11 RRP.args (RRP.st LStart)) = RRR := by kernel_rfl
noncomputable def cxSm2 : Cx := { cxB with lp := some (lpOf [D2L]) }
set_option maxRecDepth 100000 in
theorem Sm2_run : leafX Sm2P ((evT cxSm2 4000).call 12 Sm2P.args (Sm2P.st LStart)) = Sm2R := by kernel_rfl
noncomputable def cxSm3 : Cx := { cxB with lp := some (lpOf [D1L]) }
set_option maxRecDepth 100000 in
theorem Sm3_run : leafX Sm3P ((evT cxSm3 4000).call 12 Sm3P.args (Sm3P.st LStart)) = Sm3R := by kernel_rfl
end Go.Proofs.YtennjdjcjjjmiaaGreatDoor
