/- AloneParts: the law's loop of r7, the document's Put, alone.Run over a memory whose room is not known: where they are come to, their shapes, their ends, what they leave (printed by halv, halm). No condition. -/
import Derived.Test.YtmickljjofbmiaaGreatDoorALp
import Derived.Test.YtmickljjofbmiaaGreatDoorSLm
namespace Go.Proofs.YtmickljjofbmiaaGreatDoor
open Go Go.Proofs
noncomputable def sbodyOf : Nat → Code
 | 7 => Tryz.f7.body.getD .skip
 | 24 => Tryz.f24.body.getD .skip
 | 43 => Tryz.f43.body.getD .skip
 | _ => .skip
noncomputable def slb (f k : Nat) : Code := (rk (sbodyOf f)).getD k .skip
noncomputable def srp (f k : Nat) : Array Tmp := ((n3 (sbodyOf f)).getD k (#[], .skip, .skip)).1
noncomputable def sra (f k : Nat) : Code := ((n3 (sbodyOf f)).getD k (#[], .skip, .skip)).2.1
noncomputable def srb (f k : Nat) : Code := ((n3 (sbodyOf f)).getD k (#[], .skip, .skip)).2.2
def sm0 : X := .lit 0
def sm1 : V := .int .i64 sm0
def sm2 : V := .int .u32 sm0
def sm3 : V := .ptr 15 0
def sm4 : X := .var 50
def sm5 : V := .xslice false 10 sm0 1 sm4 (.room sm4)
def sm6 : X := .var 43
def sm7 : V := .int .i64 sm6
def sm8 : V := .func (.func 43) [] [(.ptr 19 0), (.ptr 18 0)]
def sm9 : V := .int .i64 (.var 42)
def sm10 : V := .xslice true 8 sm0 1 (.var 40) (.known (.var 41))
def sm11 : V := .ptr 12 0
def sm12 : V := .func (.func 36) [] [sm11, (.ptr 13 0), (.ptr 14 0)]
def sm13 : X := .lit 1
def sm14 : V := .int .i64 (.var 100)
def sm15 : X := .var 60
def sm16 : V := .xslice false 125 sm0 14 sm15 (.room sm15)
def sm17 : V := .int .u32 (.var 501)
def sm18 : V := .int .u32 (.var 502)
def sm19 : V := .int .u32 (.var 503)
def sm20 : V := .int .u32 (.var 504)
def sm21 : V := .int .u32 (.var 505)
def sm22 : V := .int .u32 (.var 506)
def sm23 : V := .int .u32 (.var 507)
def sm24 : V := .int .u32 (.var 508)
def sm25 : V := .int .u32 (.var 509)
def sm26 : V := .int .u32 (.var 510)
def sm27 : V := .int .u32 (.var 511)
def sm28 : V := .int .u32 (.var 512)
def sm29 : V := .int .u32 (.var 513)
def sm30 : V := .int .u32 (.var 514)
def sm31 : V := .int .u32 (.var 515)
def sm32 : V := .int .u32 (.var 516)
def sm33 : V := .int .u32 (.var 517)
def sm34 : V := .int .u32 (.var 518)
def sm35 : V := .int .u32 (.var 519)
def sm36 : V := .int .u32 (.var 520)
def sm37 : V := .int .u32 (.var 521)
def sm38 : V := .int .u32 (.var 522)
def sm39 : V := .int .u32 (.var 523)
def sm40 : V := .int .u32 (.var 524)
def sm41 : V := .int .u32 (.var 525)
def sm42 : V := .int .u32 (.var 526)
def sm43 : V := .int .u32 (.var 527)
def sm44 : V := .int .u32 (.var 528)
def sm45 : V := .int .u32 (.var 529)
def sm46 : V := .int .u32 (.var 530)
def sm47 : V := .int .u32 (.var 531)
def sm48 : V := .int .u32 (.var 532)
def sm49 : V := .int .u32 (.var 533)
def sm50 : V := .int .i64 (.var 534)
def sm51 : X := .eq (.var 534) sm0
def sm52 : V := .agg [sm9, sm17, sm18, sm19, sm20, sm21, sm22, sm23, sm24, sm25, sm26, sm27, sm28, sm29, sm30, sm31, sm32, sm33, sm34, sm35, sm36, sm37, sm38, sm39, sm40, sm41, sm42, sm43, sm44, sm45, sm46, sm47, sm48, sm49, sm50]
def sm53 : V := .int .i64 (.var 44)
def sm54 : V := .xslice true 9 sm0 1 sm4 (.known (.var 51))
def sm55 : V := .agg [sm7, sm53]
def sm56 : V := .ptr 10 0
def sm57 : V := .ptr 131 0
def sm58 : V := .xslice false 130 sm0 14 sm15 (.room sm15)
def sm59 : V := .ptr 247 0
def sm60 : V := .xslice false 246 sm0 14 (.var 80) (.room (.var 80))
def sm61 : V := .tuple [sm11, sm1]
def sm62 : V := .tuple [sm52, sm58, sm1]
def sm63 : V := .agg [sm9, (.int .u32 (.var 601)), (.int .u32 (.var 602)), (.int .u32 (.var 603)), (.int .u32 (.var 604)), (.int .u32 (.var 605)), (.int .u32 (.var 606)), (.int .u32 (.var 607)), (.int .u32 (.var 608)), (.int .u32 (.var 609)), (.int .u32 (.var 610)), (.int .u32 (.var 611)), (.int .u32 (.var 612)), (.int .u32 (.var 613)), (.int .u32 (.var 614)), (.int .u32 (.var 615)), (.int .u32 (.var 616)), (.int .u32 (.var 617)), (.int .u32 (.var 618)), (.int .u32 (.var 619)), (.int .u32 (.var 620)), (.int .u32 (.var 621)), (.int .u32 (.var 622)), (.int .u32 (.var 623)), (.int .u32 (.var 624)), (.int .u32 (.var 625)), (.int .u32 (.var 626)), (.int .u32 (.var 627)), (.int .u32 (.var 628)), (.int .u32 (.var 629)), (.int .u32 (.var 630)), (.int .u32 (.var 631)), (.int .u32 (.var 632)), (.int .u32 (.var 633)), (.int .i64 (.var 634))]
def sm64 : V := .tuple [sm63, sm60, sm1]
def sm65 : V := .int .i64 sm15
def sm66 : V := .int .i64 (.var 80)
def sm67 : V := .xslice false 246 sm0 14 sm15 (.room (.var 80))
def sm68 : X := .wrap .u32 (.var 63)
def sm69 : X := .var 64
def sm70 : X := .wrap .u32 (.var 65)
def sm71 : A := .put (.base 20) sm68 0 (.wrap .u8 sm70)
def sm72 : A := .put sm71 (.add sm68 sm13) 0 (.wrap .u8 (.quo sm70 (.lit 256)))
def sm73 : X := .quo (.quo sm70 (.lit 256)) (.lit 256)
def sm74 : A := .put sm72 (.add sm68 (.lit 2)) 0 (.wrap .u8 sm73)
def sm75 : A := .put (.base 30) sm68 0 (.wrap .u8 sm70)
def sm76 : A := .put sm75 (.add sm68 sm13) 0 (.wrap .u8 (.quo sm70 (.lit 256)))
def sm77 : A := .put sm76 (.add sm68 (.lit 2)) 0 (.wrap .u8 sm73)
noncomputable def BRIt : List (Nat × au) := [(0, .ro 0 (YR 0)),
  (16, .cells [sm1, sm2, sm2, sm2, sm2, sm2, sm2, sm2, sm2, sm2, sm2, sm2, sm2, sm2, sm2, sm2, sm2, sm2, sm2, sm2, sm2, sm2, sm2, sm2, sm2, sm2, sm2, sm2, sm2, sm2, sm2, sm2, sm2, sm2, sm1] 34 none),
  (8, .warr 8 10 [.int .u32] (.var 40)),
  (20, .deferred (some [])),
  (12, .cells [(.ptr 9 0)] 27 none),
  (18, .cells [sm3] 76 none),
  (10, .arr (.base 20) [.int .u8] sm4 5 true),
  (14, .cells [sm2] 24 none),
  (17, .cells [.nilslice] 35 none),
  (9, .cells [sm5] 72 none),
  (21, .loop .ready none [sm3, sm7, U, U, (.ptr 16 0), .nilslice, sm1, (.ptr 17 0), U, sm3, sm7, sm8, U, U, U, U, U, U, U, U, U, U, U, U, U] (srp 24 0) (sra 24 0) (srb 24 0) 20),
  (13, .cells [(.bool sm0)] 4 none),
  (19, .cells [sm7] 3 none),
  (11, .cells [sm1, sm2, sm2, sm2, sm2, sm2, sm2, sm2, sm2, sm2, sm2, sm2, sm2, sm2, sm2, sm2, sm2, sm2, sm2, sm2, sm2, sm2, sm2, sm2, sm2, sm2, sm2, sm2, sm2, sm2, sm2, sm2, sm2, sm2, sm1] 34 none),
  (15, .cells [sm9, sm2, sm2, sm2, sm2, sm2, sm2, sm2, sm2, sm2, sm2, sm2, sm2, sm2, sm2, sm2, sm2, sm2, sm2, sm2, sm2, sm2, sm2, sm2, sm2, sm2, sm2, sm2, sm2, sm2, sm2, sm2, sm2, sm2, sm1, sm10, (.int .i64 sm4), sm12] 80 none)]
noncomputable def BRPc : PC := [((.le sm13 (.var 40)), true), ((.le (.var 40) (.lit 200)), true), ((.le (.var 40) (.var 41)), true), ((.le (.lit 16) sm4), true), ((.le sm4 (.lit 4096)), true), ((.le sm0 (.var 42)), true), ((.le (.var 42) (.lit 3)), true), ((.le sm13 sm6), true), ((.le sm6 (.lit 300)), true), ((.le sm0 (.lit 7)), true)]
noncomputable def BRFr : Fr := ⟨[(.yield 21), (.ptr 19 0), (.ptr 18 0), U, sm1, U, U, U, U, U, U, U, U, U, U, U, U, U, U, U, U, U, U, U, U, U, U, U, U, U, U, U, U, U, U, U, U, U, U, U, U, U, U, U, U, U, U, U, U, U, U, U, U, U, U, U, U, U, U, U, U, U, U, U, U, U, U, U, U, U, U, U, U, U, U, U, U, U, U, U, U, U, U, U, U, U, U, U, U, U, U, U, U, U, U, U, U, U, U, U, U, U, U], []⟩
noncomputable def BRI0 : n5 := ⟨BRFr, BRIt, 22, BRPc, [0, 1, 2, 3, 4, 5, 6, 8, 9, 10, 11, 12, 13, 14, 15, 16, 17, 18, 19, 20, 21]⟩
noncomputable def BRI1 : n5 := ⟨⟨[(.yield 21), (.ptr 19 0), (.ptr 18 0), U, sm14, (.any 22), (.any 23), (.any 24), (.any 25), (.any 26), (.any 27), (.any 28), (.any 29), (.any 30), (.any 31), (.any 32), (.any 33), sm3, sm3, sm3, (.ptr 15 34), (.any 34), (.any 35), (.any 36), (.any 37), (.any 38), (.any 39), (.any 40), (.any 41), (.any 42), (.any 43), (.any 44), (.any 45), (.any 46), (.any 47), (.any 48), (.any 49), (.any 50), (.any 51), (.any 52), (.any 53), (.any 54), (.any 55), (.any 56), (.any 57), (.any 58), (.any 59), (.any 60), (.any 61), (.any 62), (.any 63), (.any 64), (.any 65), (.any 66), (.any 67), (.any 68), (.any 69), (.any 70), (.any 71), (.any 72), (.any 73), (.any 74), (.any 75), (.any 76), (.any 77), (.any 78), (.any 79), (.any 80), (.any 81), (.any 82), (.any 83), (.any 84), (.any 85), (.any 86), (.any 87), (.any 88), (.any 89), (.any 90), (.any 91), (.any 92), (.any 93), (.any 94), (.any 95), (.any 96), (.any 97), (.any 98), (.any 99), (.any 100), (.any 101), (.any 102), (.any 103), (.any 104), (.any 105), (.any 106), (.any 107), (.any 108), (.any 109), (.any 110), (.any 111), (.any 112), (.any 113), (.any 114), (.any 115)], []⟩,
 [(0, .ro 0 (YR 0)),
  (16, .cells [sm1, sm2, sm2, sm2, sm2, sm2, sm2, sm2, sm2, sm2, sm2, sm2, sm2, sm2, sm2, sm2, sm2, sm2, sm2, sm2, sm2, sm2, sm2, sm2, sm2, sm2, sm2, sm2, sm2, sm2, sm2, sm2, sm2, sm2, sm1] 34 none),
  (8, .warr 8 10 [.int .u32] (.var 40)),
  (20, .deferred (some [])),
  (12, .cells [(.ptr 9 0)] 27 none),
  (18, .cells [sm3] 76 none),
  (10, .arr (.base 30) [.int .u8] sm4 5 true),
  (14, .cells [(.int .u32 (.var 141))] 24 none),
  (17, .cells [(.xslice false 116 sm0 14 (.var 100) (.room (.var 100)))] 35 none),
  (9, .cells [sm5] 72 none),
  (21, .loop .ready none [sm3, sm7, U, U, (.ptr 16 0), .nilslice, sm1, (.ptr 17 0), U, sm3, sm7, sm8, U, U, U, U, U, U, U, U, U, U, U, U, U] (srp 24 0) (sra 24 0) (srb 24 0) 20),
  (13, .cells [(.bool (.var 140))] 4 none),
  (19, .cells [sm7] 3 none),
  (11, .cells [sm1, sm2, sm2, sm2, sm2, sm2, sm2, sm2, sm2, sm2, sm2, sm2, sm2, sm2, sm2, sm2, sm2, sm2, sm2, sm2, sm2, sm2, sm2, sm2, sm2, sm2, sm2, sm2, sm2, sm2, sm2, sm2, sm2, sm2, sm1] 34 none),
  (15, .cells [sm9, (.int .u32 (.var 101)), (.int .u32 (.var 102)), (.int .u32 (.var 103)), (.int .u32 (.var 104)), (.int .u32 (.var 105)), (.int .u32 (.var 106)), (.int .u32 (.var 107)), (.int .u32 (.var 108)), (.int .u32 (.var 109)), (.int .u32 (.var 110)), (.int .u32 (.var 111)), (.int .u32 (.var 112)), (.int .u32 (.var 113)), (.int .u32 (.var 114)), (.int .u32 (.var 115)), (.int .u32 (.var 116)), (.int .u32 (.var 117)), (.int .u32 (.var 118)), (.int .u32 (.var 119)), (.int .u32 (.var 120)), (.int .u32 (.var 121)), (.int .u32 (.var 122)), (.int .u32 (.var 123)), (.int .u32 (.var 124)), (.int .u32 (.var 125)), (.int .u32 (.var 126)), (.int .u32 (.var 127)), (.int .u32 (.var 128)), (.int .u32 (.var 129)), (.int .u32 (.var 130)), (.int .u32 (.var 131)), (.int .u32 (.var 132)), (.int .u32 (.var 133)), (.int .i64 (.var 134)), sm10, (.int .i64 sm4), sm12] 80 none),
  (116, .arr (.base 31) NA (.var 100) 65 true)],
 117, [((.le sm13 (.var 100)), true), ((.le sm13 (.var 40)), true), ((.le (.var 40) (.lit 200)), true), ((.le (.var 40) (.var 41)), true), ((.le (.lit 16) sm4), true), ((.le sm4 (.lit 4096)), true), ((.le sm0 (.var 42)), true), ((.le (.var 42) (.lit 3)), true), ((.le sm13 sm6), true), ((.le sm6 (.lit 300)), true), ((.le sm0 (.lit 7)), true)], [0, 1, 2, 3, 4, 5, 6, 16, 8, 20, 12, 18, 10, 14, 17, 9, 21, 13, 19, 11, 15, 116, 22, 23, 24, 25, 26, 27, 28, 29, 30, 31, 32, 33, 34, 35, 36, 37, 38, 39, 40, 41, 42, 43, 44, 45, 46, 47, 48, 49, 50, 51, 52, 53, 54, 55, 56, 57, 58, 59, 60, 61, 62, 63, 64, 65, 66, 67, 68, 69, 70, 71, 72, 73, 74, 75, 76, 77, 78, 79, 80, 81, 82, 83, 84, 85, 86, 87, 88, 89, 90, 91, 92, 93, 94, 95, 96, 97, 98, 99, 100, 101, 102, 103, 104, 105, 106, 107, 108, 109, 110, 111, 112, 113, 114, 115]⟩
noncomputable def BRO0 : OutP := ⟨(.exit 0), ⟨⟨[(.any 22), (.any 23), (.any 24), (.any 25), (.any 26), (.any 27), (.any 28), (.any 29), (.any 30), (.any 31), (.any 32), (.any 33), (.any 34), (.any 35), (.any 36), (.any 37), (.any 38), (.any 39), (.any 40), (.any 41), (.any 42), (.any 43), (.any 44), (.any 45), (.any 46), (.any 47), (.any 48), (.any 49), (.any 50), (.any 51), (.any 52), (.any 53), (.any 54), (.any 55), (.any 56), (.any 57), (.any 58), (.any 59), (.any 60), (.any 61), (.any 62), (.any 63), (.any 64), (.any 65), (.any 66), (.any 67), (.any 68), (.any 69), (.any 70), (.any 71), (.any 72), (.any 73), (.any 74), (.any 75), (.any 76), (.any 77), (.any 78), (.any 79), (.any 80), (.any 81), (.any 82), (.any 83), (.any 84), (.any 85), (.any 86), (.any 87), (.any 88), (.any 89), (.any 90), (.any 91), (.any 92), (.any 93), (.any 94), (.any 95), (.any 96), (.any 97), (.any 98), (.any 99), (.any 100), (.any 101), (.any 102), (.any 103), (.any 104), (.any 105), (.any 106), (.any 107), (.any 108), (.any 109), (.any 110), (.any 111), (.any 112), (.any 113), (.any 114), (.any 115), (.any 116), (.any 117), (.any 118), (.any 119), (.any 120), (.any 121), (.any 122), (.any 123), (.any 124)], []⟩,
 [(0, .ro 0 (YR 0)),
  (16, .cells [sm1, sm2, sm2, sm2, sm2, sm2, sm2, sm2, sm2, sm2, sm2, sm2, sm2, sm2, sm2, sm2, sm2, sm2, sm2, sm2, sm2, sm2, sm2, sm2, sm2, sm2, sm2, sm2, sm2, sm2, sm2, sm2, sm2, sm2, sm1] 34 none),
  (8, .warr 8 10 [.int .u32] (.var 40)),
  (20, .deferred (some [])),
  (12, .cells [(.ptr 9 0)] 27 none),
  (18, .cells [sm3] 76 none),
  (10, .arr (.base 50) [.int .u8] sm4 5 true),
  (14, .cells [(.int .u32 (.var 541))] 24 none),
  (17, .cells [sm16] 35 none),
  (9, .cells [sm5] 72 none),
  (21, .loop .ready none [sm3, sm7, U, U, (.ptr 16 0), .nilslice, sm1, (.ptr 17 0), U, sm3, sm7, sm8, U, U, U, U, U, U, U, U, U, U, U, U, U] (srp 24 0) (sra 24 0) (srb 24 0) 20),
  (13, .cells [(.bool (.var 540))] 4 none),
  (19, .cells [sm7] 3 none),
  (11, .cells [sm1, sm2, sm2, sm2, sm2, sm2, sm2, sm2, sm2, sm2, sm2, sm2, sm2, sm2, sm2, sm2, sm2, sm2, sm2, sm2, sm2, sm2, sm2, sm2, sm2, sm2, sm2, sm2, sm2, sm2, sm2, sm2, sm2, sm2, sm1] 34 none),
  (15, .cells [sm9, sm17, sm18, sm19, sm20, sm21, sm22, sm23, sm24, sm25, sm26, sm27, sm28, sm29, sm30, sm31, sm32, sm33, sm34, sm35, sm36, sm37, sm38, sm39, sm40, sm41, sm42, sm43, sm44, sm45, sm46, sm47, sm48, sm49, sm50, sm10, (.int .i64 sm4), sm12] 80 none),
  (125, .arr (.base 60) NA sm15 65 true)],
 126, [], [0, 1, 2, 3, 4, 5, 6, 16, 8, 20, 12, 18, 10, 14, 17, 9, 21, 13, 19, 11, 15, 125, 22, 23, 24, 25, 26, 27, 28, 29, 30, 31, 32, 33, 34, 35, 36, 37, 38, 39, 40, 41, 42, 43, 44, 45, 46, 47, 48, 49, 50, 51, 52, 53, 54, 55, 56, 57, 58, 59, 60, 61, 62, 63, 64, 65, 66, 67, 68, 69, 70, 71, 72, 73, 74, 75, 76, 77, 78, 79, 80, 81, 82, 83, 84, 85, 86, 87, 88, 89, 90, 91, 92, 93, 94, 95, 96, 97, 98, 99, 100, 101, 102, 103, 104, 105, 106, 107, 108, 109, 110, 111, 112, 113, 114, 115, 116, 117, 118, 119, 120, 121, 122, 123, 124]⟩⟩
noncomputable def BRO1 : OutP := ⟨.ret, ⟨⟨[(.any 22), (.any 23), (.any 24), (.any 25), (.any 26), (.any 27), (.any 28), (.any 29), (.any 30), (.any 31), (.any 32), (.any 33), (.any 34), (.any 35), (.any 36), (.any 37), (.any 38), (.any 39), (.any 40), (.any 41), (.any 42), (.any 43), (.any 44), (.any 45), (.any 46), (.any 47), (.any 48), (.any 49), (.any 50), (.any 51), (.any 52), (.any 53), (.any 54), (.any 55), (.any 56), (.any 57), (.any 58), (.any 59), (.any 60), (.any 61), (.any 62), (.any 63), (.any 64), (.any 65), (.any 66), (.any 67), (.any 68), (.any 69), (.any 70), (.any 71), (.any 72), (.any 73), (.any 74), (.any 75), (.any 76), (.any 77), (.any 78), (.any 79), (.any 80), (.any 81), (.any 82), (.any 83), (.any 84), (.any 85), (.any 86), (.any 87), (.any 88), (.any 89), (.any 90), (.any 91), (.any 92), (.any 93), (.any 94), (.any 95), (.any 96), (.any 97), (.any 98), (.any 99), (.any 100), (.any 101), (.any 102), (.any 103), (.any 104), (.any 105), (.any 106), (.any 107), (.any 108), (.any 109), (.any 110), (.any 111), (.any 112), (.any 113), (.any 114), (.any 115), (.any 116), (.any 117), (.any 118), (.any 119), (.any 120), (.any 121), (.any 122), (.any 123), (.any 124)], []⟩,
 [(0, .ro 0 (YR 0)),
  (16, .cells [sm1, sm2, sm2, sm2, sm2, sm2, sm2, sm2, sm2, sm2, sm2, sm2, sm2, sm2, sm2, sm2, sm2, sm2, sm2, sm2, sm2, sm2, sm2, sm2, sm2, sm2, sm2, sm2, sm2, sm2, sm2, sm2, sm2, sm2, sm1] 34 none),
  (8, .warr 8 10 [.int .u32] (.var 40)),
  (20, .deferred (some [])),
  (12, .cells [(.ptr 9 0)] 27 none),
  (18, .cells [sm3] 76 none),
  (10, .arr (.base 50) [.int .u8] sm4 5 true),
  (14, .cells [(.int .u32 (.var 541))] 24 none),
  (17, .cells [sm16] 35 none),
  (9, .cells [sm5] 72 none),
  (21, .loop .done (some (.exit 0)) [sm3, sm7, U, U, (.ptr 16 0), .nilslice, sm1, (.ptr 17 0), U, sm3, sm7, sm8, U, U, U, U, U, U, U, U, U, U, U, U, U] (srp 24 0) (sra 24 0) (srb 24 0) 20),
  (13, .cells [(.bool (.var 540))] 4 none),
  (19, .cells [sm7] 3 none),
  (11, .cells [sm1, sm2, sm2, sm2, sm2, sm2, sm2, sm2, sm2, sm2, sm2, sm2, sm2, sm2, sm2, sm2, sm2, sm2, sm2, sm2, sm2, sm2, sm2, sm2, sm2, sm2, sm2, sm2, sm2, sm2, sm2, sm2, sm2, sm2, sm1] 34 none),
  (15, .cells [sm9, sm17, sm18, sm19, sm20, sm21, sm22, sm23, sm24, sm25, sm26, sm27, sm28, sm29, sm30, sm31, sm32, sm33, sm34, sm35, sm36, sm37, sm38, sm39, sm40, sm41, sm42, sm43, sm44, sm45, sm46, sm47, sm48, sm49, sm50, sm10, (.int .i64 sm4), sm12] 80 none),
  (125, .arr (.base 60) NA sm15 65 true)],
 126, [], [0, 1, 2, 3, 4, 5, 6, 16, 8, 20, 12, 18, 10, 14, 17, 9, 21, 13, 19, 11, 15, 125, 22, 23, 24, 25, 26, 27, 28, 29, 30, 31, 32, 33, 34, 35, 36, 37, 38, 39, 40, 41, 42, 43, 44, 45, 46, 47, 48, 49, 50, 51, 52, 53, 54, 55, 56, 57, 58, 59, 60, 61, 62, 63, 64, 65, 66, 67, 68, 69, 70, 71, 72, 73, 74, 75, 76, 77, 78, 79, 80, 81, 82, 83, 84, 85, 86, 87, 88, 89, 90, 91, 92, 93, 94, 95, 96, 97, 98, 99, 100, 101, 102, 103, 104, 105, 106, 107, 108, 109, 110, 111, 112, 113, 114, 115, 116, 117, 118, 119, 120, 121, 122, 123, 124]⟩⟩
noncomputable def BRL : LoopI := ⟨none, (slb 43 0), BRFr, ⟨rS BRIt, 22, BRPc⟩, .br sm51 (.ok (BRO0.ex, BRO0.pat.fr, ⟨BRO0.pat.st.h, BRO0.pat.st.n, BRPc⟩)) (.ok (BRO1.ex, BRO1.pat.fr, ⟨BRO1.pat.st.h, BRO1.pat.st.n, BRPc⟩))⟩
def BRP : nU := ⟨[sm10, (.ptr 9 0), sm9, sm7], [(8, .warr 8 10 [.int .u32] (.var 40)),
  (10, .arr (.base 20) [.int .u8] sm4 5 true),
  (9, .cells [sm5] 72 none)], 11, [((.le sm13 (.var 40)), true), ((.le (.var 40) (.lit 200)), true), ((.le (.var 40) (.var 41)), true), ((.le (.lit 16) sm4), true), ((.le sm4 (.lit 4096)), true), ((.le sm0 (.var 42)), true), ((.le (.var 42) (.lit 3)), true), ((.le sm13 sm6), true), ((.le sm6 (.lit 300)), true), ((.le sm0 (.lit 7)), true)]⟩
def BRR : R Leaf :=
 (.br sm51
  (.ok { v := (.tuple [sm52, sm16, sm1]), objs := [(10, .arr (.base 50) [.int .u8] sm4 5 true), (9, .cells [sm5] 72 none), (125, .arr (.base 60) NA sm15 65 true)], n := 126 })
  (.ok { v := (.tuple [sm52, sm16, sm1]), objs := [(10, .arr (.base 50) [.int .u8] sm4 5 true), (9, .cells [sm5] 72 none), (125, .arr (.base 60) NA sm15 65 true)], n := 126 }))
noncomputable def PPIt : List (Nat × au) := [(0, .ro 0 (YR 0)),
  (8, .warr 8 10 [.int .u32] (.var 40)),
  (12, .cells [(.xslice false 11 sm0 1 sm4 (.known sm4))] 72 none),
  (130, .arr (.base 75) NA sm15 65 true),
  (10, .cells [sm7, sm53] 56 none),
  (246, .arr (.base 75) NA (.var 80) 65 true),
  (14, .arr (.base 52) [.int .u8] sm4 5 true),
  (9, .warr 9 20 [.int .u8] sm4),
  (13, .cells [] 5 none),
  (131, .cells [sm9, sm17, sm18, sm19, sm20, sm21, sm22, sm23, sm24, sm25, sm26, sm27, sm28, sm29, sm30, sm31, sm32, sm33, sm34, sm35, sm36, sm37, sm38, sm39, sm40, sm41, sm42, sm43, sm44, sm45, sm46, sm47, sm48, sm49, sm50] 34 none),
  (11, .arr (.base 50) [.int .u8] sm4 5 false),
  (247, .cells [sm9, (.int .u32 (.var 601)), (.int .u32 (.var 602)), (.int .u32 (.var 603)), (.int .u32 (.var 604)), (.int .u32 (.var 605)), (.int .u32 (.var 606)), (.int .u32 (.var 607)), (.int .u32 (.var 608)), (.int .u32 (.var 609)), (.int .u32 (.var 610)), (.int .u32 (.var 611)), (.int .u32 (.var 612)), (.int .u32 (.var 613)), (.int .u32 (.var 614)), (.int .u32 (.var 615)), (.int .u32 (.var 616)), (.int .u32 (.var 617)), (.int .u32 (.var 618)), (.int .u32 (.var 619)), (.int .u32 (.var 620)), (.int .u32 (.var 621)), (.int .u32 (.var 622)), (.int .u32 (.var 623)), (.int .u32 (.var 624)), (.int .u32 (.var 625)), (.int .u32 (.var 626)), (.int .u32 (.var 627)), (.int .u32 (.var 628)), (.int .u32 (.var 629)), (.int .u32 (.var 630)), (.int .u32 (.var 631)), (.int .u32 (.var 632)), (.int .u32 (.var 633)), (.int .i64 (.var 634))] 34 none),
  (15, .cells [(.xslice false 14 sm0 1 sm4 (.room sm4))] 72 none)]
noncomputable def PPPc : PC := [((.le sm13 (.var 40)), true), ((.le (.var 40) (.lit 200)), true), ((.le (.var 40) (.var 41)), true), ((.le (.lit 16) sm4), true), ((.le sm4 (.lit 4096)), true), ((.le sm4 (.var 51)), true), ((.le sm0 (.var 42)), true), ((.le (.var 42) (.lit 3)), true), ((.le sm13 sm6), true), ((.le sm6 (.var 44)), true), ((.le sm13 (.var 44)), true), ((.le (.var 44) (.lit 300)), true), ((.le sm6 (.lit 300)), true), ((.le sm13 sm15), true), ((.le sm15 sm6), true), ((.le sm15 (.var 80)), true), ((.le sm15 (.lit 300)), true), ((.le (.var 80) (.lit 300)), true), ((.le sm0 (.lit 7)), true)]
noncomputable def PPFr : Fr := ⟨[sm10, sm54, sm55, U, U, sm56, (.bool sm0), sm7, sm53, sm11, sm1, sm3, sm57, sm58, sm1, sm59, sm60, sm1, sm54, sm1, U, sm56, sm7, (.ptr 10 1), sm53, sm61, sm54, sm61, sm11, sm1, sm11, sm3, sm10, sm53, (.bool (.lt (.lit 300) (.var 44))), (.bool (.lt (.lit 300) (.var 44))), sm1, (.bool sm0), (.bool sm0), (.bool sm0), sm7, (.bool (.lt sm6 sm0)), (.bool (.lt sm6 sm0)), (.bool (.lt sm6 sm0)), sm53, sm7, (.bool (.lt (.var 44) sm6)), (.bool (.lt (.var 44) sm6)), U, sm62, sm10, sm11, sm7, sm62, sm52, sm58, sm1, sm64, sm10, sm3, sm53, sm64, sm63, sm60, sm1, sm1, (.bool sm0), (.bool sm0), sm1, (.bool sm0), (.bool sm0), (.bool sm0), sm58, sm65, sm7, (.bool (.lt sm6 sm15)), (.bool (.lt sm6 sm15)), (.bool (.lt sm6 sm15)), sm60, sm66, sm58, sm65, (.bool (.lt (.var 80) sm15)), (.bool (.lt (.var 80) sm15)), (.bool (.lt (.var 80) sm15)), sm58, sm60, sm58, sm65, sm67, (.bool sm13), (.bool sm0), (.bool sm0), sm54, U, U, U, U, U, U, U, U, U, U, U, U, U, U, U, U, U, U, U, U, U, U, U, U, U, U, U, U, U, U, U, U, U, U, U, U, U, U, U, U, U, U, U, U, U, U, U, U, U, U, U, U, U, U, U, U, U, U, U, U, U, U], []⟩
noncomputable def PPI0 : n5 := ⟨PPFr, PPIt, 263, PPPc, [0, 1, 2, 3, 4, 5, 6, 8, 9, 10, 11, 12, 13, 14, 15, 130, 131, 246, 247]⟩
noncomputable def PPI1 : n5 := ⟨⟨[sm10, sm54, sm55, U, U, sm56, (.any 263), sm7, sm53, sm11, sm1, sm3, sm57, sm58, sm1, sm59, sm60, sm1, sm54, sm14, (.any 264), sm56, sm7, (.ptr 10 1), sm53, sm61, sm54, sm61, sm11, sm1, sm11, sm3, sm10, sm53, (.bool (.lt (.lit 300) (.var 44))), (.bool (.lt (.lit 300) (.var 44))), sm1, (.bool sm0), (.bool sm0), (.bool sm0), sm7, (.bool (.lt sm6 sm0)), (.bool (.lt sm6 sm0)), (.bool (.lt sm6 sm0)), sm53, sm7, (.bool (.lt (.var 44) sm6)), (.bool (.lt (.var 44) sm6)), U, sm62, sm10, sm11, sm7, sm62, sm52, sm58, sm1, sm64, sm10, sm3, sm53, sm64, sm63, sm60, sm1, sm1, (.bool sm0), (.bool sm0), sm1, (.bool sm0), (.bool sm0), (.bool sm0), sm58, sm65, sm7, (.bool (.lt sm6 sm15)), (.bool (.lt sm6 sm15)), (.bool (.lt sm6 sm15)), sm60, sm66, sm58, sm65, (.bool (.lt (.var 80) sm15)), (.bool (.lt (.var 80) sm15)), (.bool (.lt (.var 80) sm15)), sm58, sm60, sm58, sm65, sm67, (.bool sm13), (.bool sm0), (.bool sm0), sm54, (.any 265), (.any 266), (.any 267), (.any 268), (.any 269), (.any 270), (.any 271), (.any 272), (.any 273), (.any 274), (.any 275), (.any 276), (.any 277), (.any 278), (.any 279), (.any 280), (.any 281), (.any 282), (.any 283), (.any 284), (.any 285), (.any 286), (.any 287), (.any 288), (.any 289), (.any 290), (.any 291), (.any 292), (.any 293), (.any 294), (.any 295), (.any 296), (.any 297), (.any 298), (.any 299), (.any 300), (.any 301), (.any 302), (.any 303), (.any 304), (.any 305), (.any 306), (.any 307), (.any 308), (.any 309), (.any 310), (.any 311), (.any 312), (.any 313), (.any 314), (.any 315), (.any 316), (.any 317), U, U, U, U, U, U, U, U, U], []⟩,
 [(0, .ro 0 (YR 0)),
  (8, .warr 8 10 [.int .u32] (.var 40)),
  (12, .cells [(.xslice false 11 sm0 1 sm4 (.known sm4))] 72 none),
  (130, .arr (.base 75) NA sm15 65 true),
  (10, .cells [sm7, sm53] 56 none),
  (246, .arr (.base 75) NA (.var 80) 65 true),
  (14, .arr (.base 52) [.int .u8] sm4 5 true),
  (9, .warr 9 20 [.int .u8] sm4),
  (13, .cells [] 5 none),
  (131, .cells [sm9, sm17, sm18, sm19, sm20, sm21, sm22, sm23, sm24, sm25, sm26, sm27, sm28, sm29, sm30, sm31, sm32, sm33, sm34, sm35, sm36, sm37, sm38, sm39, sm40, sm41, sm42, sm43, sm44, sm45, sm46, sm47, sm48, sm49, sm50] 34 none),
  (11, .arr (.base 50) [.int .u8] sm4 5 false),
  (247, .cells [sm9, (.int .u32 (.var 601)), (.int .u32 (.var 602)), (.int .u32 (.var 603)), (.int .u32 (.var 604)), (.int .u32 (.var 605)), (.int .u32 (.var 606)), (.int .u32 (.var 607)), (.int .u32 (.var 608)), (.int .u32 (.var 609)), (.int .u32 (.var 610)), (.int .u32 (.var 611)), (.int .u32 (.var 612)), (.int .u32 (.var 613)), (.int .u32 (.var 614)), (.int .u32 (.var 615)), (.int .u32 (.var 616)), (.int .u32 (.var 617)), (.int .u32 (.var 618)), (.int .u32 (.var 619)), (.int .u32 (.var 620)), (.int .u32 (.var 621)), (.int .u32 (.var 622)), (.int .u32 (.var 623)), (.int .u32 (.var 624)), (.int .u32 (.var 625)), (.int .u32 (.var 626)), (.int .u32 (.var 627)), (.int .u32 (.var 628)), (.int .u32 (.var 629)), (.int .u32 (.var 630)), (.int .u32 (.var 631)), (.int .u32 (.var 632)), (.int .u32 (.var 633)), (.int .i64 (.var 634))] 34 none),
  (15, .cells [(.xslice false 14 sm0 1 sm4 (.room sm4))] 72 none)],
 318, [((.le sm13 (.var 100)), true), ((.le sm13 (.var 40)), true), ((.le (.var 40) (.lit 200)), true), ((.le (.var 40) (.var 41)), true), ((.le (.lit 16) sm4), true), ((.le sm4 (.lit 4096)), true), ((.le sm4 (.var 51)), true), ((.le sm0 (.var 42)), true), ((.le (.var 42) (.lit 3)), true), ((.le sm13 sm6), true), ((.le sm6 (.var 44)), true), ((.le sm13 (.var 44)), true), ((.le (.var 44) (.lit 300)), true), ((.le sm6 (.lit 300)), true), ((.le sm13 sm15), true), ((.le sm15 sm6), true), ((.le sm15 (.var 80)), true), ((.le sm15 (.lit 300)), true), ((.le (.var 80) (.lit 300)), true), ((.le sm0 (.lit 7)), true)], [0, 1, 2, 3, 4, 5, 6, 8, 12, 130, 10, 246, 14, 9, 13, 131, 11, 247, 15, 263, 264, 265, 266, 267, 268, 269, 270, 271, 272, 273, 274, 275, 276, 277, 278, 279, 280, 281, 282, 283, 284, 285, 286, 287, 288, 289, 290, 291, 292, 293, 294, 295, 296, 297, 298, 299, 300, 301, 302, 303, 304, 305, 306, 307, 308, 309, 310, 311, 312, 313, 314, 315, 316, 317]⟩
noncomputable def PPI2 : n5 := ⟨⟨[sm10, sm54, sm55, U, U, sm56, (.any 263), sm7, sm53, sm11, sm1, sm3, sm57, sm58, sm1, sm59, sm60, sm1, (.xslice false 264 sm0 1 sm4 (.room sm4)), sm14, (.any 265), sm56, sm7, (.ptr 10 1), sm53, sm61, sm54, sm61, sm11, sm1, sm11, sm3, sm10, sm53, (.bool (.lt (.lit 300) (.var 44))), (.bool (.lt (.lit 300) (.var 44))), sm1, (.bool sm0), (.bool sm0), (.bool sm0), sm7, (.bool (.lt sm6 sm0)), (.bool (.lt sm6 sm0)), (.bool (.lt sm6 sm0)), sm53, sm7, (.bool (.lt (.var 44) sm6)), (.bool (.lt (.var 44) sm6)), U, sm62, sm10, sm11, sm7, sm62, sm52, sm58, sm1, sm64, sm10, sm3, sm53, sm64, sm63, sm60, sm1, sm1, (.bool sm0), (.bool sm0), sm1, (.bool sm0), (.bool sm0), (.bool sm0), sm58, sm65, sm7, (.bool (.lt sm6 sm15)), (.bool (.lt sm6 sm15)), (.bool (.lt sm6 sm15)), sm60, sm66, sm58, sm65, (.bool (.lt (.var 80) sm15)), (.bool (.lt (.var 80) sm15)), (.bool (.lt (.var 80) sm15)), sm58, sm60, sm58, sm65, sm67, (.bool sm13), (.bool sm0), (.bool sm0), sm54, (.any 266), (.any 267), (.any 268), (.any 269), (.any 270), (.any 271), (.any 272), (.any 273), (.any 274), (.any 275), (.any 276), (.any 277), (.any 278), (.any 279), (.any 280), (.any 281), (.any 282), (.any 283), (.any 284), (.any 285), (.any 286), (.any 287), (.any 288), (.any 289), (.any 290), (.any 291), (.any 292), (.any 293), (.any 294), (.any 295), (.any 296), (.any 297), (.any 298), (.any 299), (.any 300), (.any 301), (.any 302), (.any 303), (.any 304), (.any 305), (.any 306), (.any 307), (.any 308), (.any 309), (.any 310), (.any 311), (.any 312), (.any 313), (.any 314), (.any 315), (.any 316), (.any 317), (.any 318), U, U, U, U, U, U, U, U, U], []⟩,
 [(0, .ro 0 (YR 0)),
  (8, .warr 8 10 [.int .u32] (.var 40)),
  (12, .cells [(.xslice false 11 sm0 1 sm4 (.known sm4))] 72 none),
  (130, .arr (.base 75) NA sm15 65 true),
  (10, .cells [sm7, sm53] 56 none),
  (246, .arr (.base 75) NA (.var 80) 65 true),
  (14, .arr (.base 52) [.int .u8] sm4 5 true),
  (9, .warr 9 20 [.int .u8] sm4),
  (13, .cells [] 5 none),
  (131, .cells [sm9, sm17, sm18, sm19, sm20, sm21, sm22, sm23, sm24, sm25, sm26, sm27, sm28, sm29, sm30, sm31, sm32, sm33, sm34, sm35, sm36, sm37, sm38, sm39, sm40, sm41, sm42, sm43, sm44, sm45, sm46, sm47, sm48, sm49, sm50] 34 none),
  (11, .arr (.base 50) [.int .u8] sm4 5 false),
  (247, .cells [sm9, (.int .u32 (.var 601)), (.int .u32 (.var 602)), (.int .u32 (.var 603)), (.int .u32 (.var 604)), (.int .u32 (.var 605)), (.int .u32 (.var 606)), (.int .u32 (.var 607)), (.int .u32 (.var 608)), (.int .u32 (.var 609)), (.int .u32 (.var 610)), (.int .u32 (.var 611)), (.int .u32 (.var 612)), (.int .u32 (.var 613)), (.int .u32 (.var 614)), (.int .u32 (.var 615)), (.int .u32 (.var 616)), (.int .u32 (.var 617)), (.int .u32 (.var 618)), (.int .u32 (.var 619)), (.int .u32 (.var 620)), (.int .u32 (.var 621)), (.int .u32 (.var 622)), (.int .u32 (.var 623)), (.int .u32 (.var 624)), (.int .u32 (.var 625)), (.int .u32 (.var 626)), (.int .u32 (.var 627)), (.int .u32 (.var 628)), (.int .u32 (.var 629)), (.int .u32 (.var 630)), (.int .u32 (.var 631)), (.int .u32 (.var 632)), (.int .u32 (.var 633)), (.int .i64 (.var 634))] 34 none),
  (15, .cells [(.xslice false 14 sm0 1 sm4 (.room sm4))] 72 none),
  (264, .arr (.base 30) [.int .u8] sm4 5 true)],
 319, [((.le sm13 (.var 100)), true), ((.le sm13 (.var 40)), true), ((.le (.var 40) (.lit 200)), true), ((.le (.var 40) (.var 41)), true), ((.le (.lit 16) sm4), true), ((.le sm4 (.lit 4096)), true), ((.le sm4 (.var 51)), true), ((.le sm0 (.var 42)), true), ((.le (.var 42) (.lit 3)), true), ((.le sm13 sm6), true), ((.le sm6 (.var 44)), true), ((.le sm13 (.var 44)), true), ((.le (.var 44) (.lit 300)), true), ((.le sm6 (.lit 300)), true), ((.le sm13 sm15), true), ((.le sm15 sm6), true), ((.le sm15 (.var 80)), true), ((.le sm15 (.lit 300)), true), ((.le (.var 80) (.lit 300)), true), ((.le sm0 (.lit 7)), true)], [0, 1, 2, 3, 4, 5, 6, 8, 12, 130, 10, 246, 14, 9, 13, 131, 11, 247, 15, 264, 263, 265, 266, 267, 268, 269, 270, 271, 272, 273, 274, 275, 276, 277, 278, 279, 280, 281, 282, 283, 284, 285, 286, 287, 288, 289, 290, 291, 292, 293, 294, 295, 296, 297, 298, 299, 300, 301, 302, 303, 304, 305, 306, 307, 308, 309, 310, 311, 312, 313, 314, 315, 316, 317, 318]⟩
noncomputable def PPO0 : OutP := ⟨(.exit 0), ⟨⟨[sm10, sm54, sm55, (.any 263), (.any 264), sm56, (.any 265), sm7, sm53, sm11, sm1, sm3, sm57, sm58, sm1, sm59, sm60, sm1, sm54, (.any 266), (.any 267), sm56, sm7, (.ptr 10 1), sm53, sm61, sm54, sm61, sm11, sm1, sm11, sm3, sm10, sm53, (.bool (.lt (.lit 300) (.var 44))), (.bool (.lt (.lit 300) (.var 44))), sm1, (.bool sm0), (.bool sm0), (.bool sm0), sm7, (.bool (.lt sm6 sm0)), (.bool (.lt sm6 sm0)), (.bool (.lt sm6 sm0)), sm53, sm7, (.bool (.lt (.var 44) sm6)), (.bool (.lt (.var 44) sm6)), U, sm62, sm10, sm11, sm7, sm62, sm52, sm58, sm1, sm64, sm10, sm3, sm53, sm64, sm63, sm60, sm1, sm1, (.bool sm0), (.bool sm0), sm1, (.bool sm0), (.bool sm0), (.bool sm0), sm58, sm65, sm7, (.bool (.lt sm6 sm15)), (.bool (.lt sm6 sm15)), (.bool (.lt sm6 sm15)), sm60, sm66, sm58, sm65, (.bool (.lt (.var 80) sm15)), (.bool (.lt (.var 80) sm15)), (.bool (.lt (.var 80) sm15)), sm58, sm60, sm58, sm65, sm67, (.bool sm13), (.bool sm0), (.bool sm0), sm54, (.any 268), (.any 269), (.any 270), (.any 271), (.any 272), (.any 273), (.any 274), (.any 275), (.any 276), (.any 277), (.any 278), (.any 279), (.any 280), (.any 281), (.any 282), (.any 283), (.any 284), (.any 285), (.any 286), (.any 287), (.any 288), (.any 289), (.any 290), (.any 291), (.any 292), (.any 293), (.any 294), (.any 295), (.any 296), (.any 297), (.any 298), (.any 299), (.any 300), (.any 301), (.any 302), (.any 303), (.any 304), (.any 305), (.any 306), (.any 307), (.any 308), (.any 309), (.any 310), (.any 311), (.any 312), (.any 313), (.any 314), (.any 315), (.any 316), (.any 317), (.any 318), (.any 319), (.any 320), U, U, U, U, U, U, U, U, U], []⟩,
 [(0, .ro 0 (YR 0)),
  (8, .warr 8 10 [.int .u32] (.var 40)),
  (12, .cells [(.xslice false 11 sm0 1 sm4 (.known sm4))] 72 none),
  (130, .arr (.base 75) NA sm15 65 true),
  (10, .cells [sm7, sm53] 56 none),
  (246, .arr (.base 75) NA (.var 80) 65 true),
  (14, .arr (.base 52) [.int .u8] sm4 5 true),
  (9, .warr 9 20 [.int .u8] sm4),
  (13, .cells [] 5 none),
  (131, .cells [sm9, sm17, sm18, sm19, sm20, sm21, sm22, sm23, sm24, sm25, sm26, sm27, sm28, sm29, sm30, sm31, sm32, sm33, sm34, sm35, sm36, sm37, sm38, sm39, sm40, sm41, sm42, sm43, sm44, sm45, sm46, sm47, sm48, sm49, sm50] 34 none),
  (11, .arr (.base 50) [.int .u8] sm4 5 false),
  (247, .cells [sm9, (.int .u32 (.var 601)), (.int .u32 (.var 602)), (.int .u32 (.var 603)), (.int .u32 (.var 604)), (.int .u32 (.var 605)), (.int .u32 (.var 606)), (.int .u32 (.var 607)), (.int .u32 (.var 608)), (.int .u32 (.var 609)), (.int .u32 (.var 610)), (.int .u32 (.var 611)), (.int .u32 (.var 612)), (.int .u32 (.var 613)), (.int .u32 (.var 614)), (.int .u32 (.var 615)), (.int .u32 (.var 616)), (.int .u32 (.var 617)), (.int .u32 (.var 618)), (.int .u32 (.var 619)), (.int .u32 (.var 620)), (.int .u32 (.var 621)), (.int .u32 (.var 622)), (.int .u32 (.var 623)), (.int .u32 (.var 624)), (.int .u32 (.var 625)), (.int .u32 (.var 626)), (.int .u32 (.var 627)), (.int .u32 (.var 628)), (.int .u32 (.var 629)), (.int .u32 (.var 630)), (.int .u32 (.var 631)), (.int .u32 (.var 632)), (.int .u32 (.var 633)), (.int .i64 (.var 634))] 34 none),
  (15, .cells [(.xslice false 14 sm0 1 sm4 (.room sm4))] 72 none)],
 321, [], [0, 1, 2, 3, 4, 5, 6, 8, 12, 130, 10, 246, 14, 9, 13, 131, 11, 247, 15, 263, 264, 265, 266, 267, 268, 269, 270, 271, 272, 273, 274, 275, 276, 277, 278, 279, 280, 281, 282, 283, 284, 285, 286, 287, 288, 289, 290, 291, 292, 293, 294, 295, 296, 297, 298, 299, 300, 301, 302, 303, 304, 305, 306, 307, 308, 309, 310, 311, 312, 313, 314, 315, 316, 317, 318, 319, 320]⟩⟩
noncomputable def PPO1 : OutP := ⟨(.exit 0), ⟨⟨[sm10, sm54, sm55, (.any 263), (.any 264), sm56, (.any 265), sm7, sm53, sm11, sm1, sm3, sm57, sm58, sm1, sm59, sm60, sm1, (.xslice false 266 sm0 1 sm4 (.room sm4)), (.any 267), (.any 268), sm56, sm7, (.ptr 10 1), sm53, sm61, sm54, sm61, sm11, sm1, sm11, sm3, sm10, sm53, (.bool (.lt (.lit 300) (.var 44))), (.bool (.lt (.lit 300) (.var 44))), sm1, (.bool sm0), (.bool sm0), (.bool sm0), sm7, (.bool (.lt sm6 sm0)), (.bool (.lt sm6 sm0)), (.bool (.lt sm6 sm0)), sm53, sm7, (.bool (.lt (.var 44) sm6)), (.bool (.lt (.var 44) sm6)), U, sm62, sm10, sm11, sm7, sm62, sm52, sm58, sm1, sm64, sm10, sm3, sm53, sm64, sm63, sm60, sm1, sm1, (.bool sm0), (.bool sm0), sm1, (.bool sm0), (.bool sm0), (.bool sm0), sm58, sm65, sm7, (.bool (.lt sm6 sm15)), (.bool (.lt sm6 sm15)), (.bool (.lt sm6 sm15)), sm60, sm66, sm58, sm65, (.bool (.lt (.var 80) sm15)), (.bool (.lt (.var 80) sm15)), (.bool (.lt (.var 80) sm15)), sm58, sm60, sm58, sm65, sm67, (.bool sm13), (.bool sm0), (.bool sm0), sm54, (.any 269), (.any 270), (.any 271), (.any 272), (.any 273), (.any 274), (.any 275), (.any 276), (.any 277), (.any 278), (.any 279), (.any 280), (.any 281), (.any 282), (.any 283), (.any 284), (.any 285), (.any 286), (.any 287), (.any 288), (.any 289), (.any 290), (.any 291), (.any 292), (.any 293), (.any 294), (.any 295), (.any 296), (.any 297), (.any 298), (.any 299), (.any 300), (.any 301), (.any 302), (.any 303), (.any 304), (.any 305), (.any 306), (.any 307), (.any 308), (.any 309), (.any 310), (.any 311), (.any 312), (.any 313), (.any 314), (.any 315), (.any 316), (.any 317), (.any 318), (.any 319), (.any 320), (.any 321), U, U, U, U, U, U, U, U, U], []⟩,
 [(0, .ro 0 (YR 0)),
  (8, .warr 8 10 [.int .u32] (.var 40)),
  (12, .cells [(.xslice false 11 sm0 1 sm4 (.known sm4))] 72 none),
  (130, .arr (.base 75) NA sm15 65 true),
  (10, .cells [sm7, sm53] 56 none),
  (246, .arr (.base 75) NA (.var 80) 65 true),
  (14, .arr (.base 52) [.int .u8] sm4 5 true),
  (9, .warr 9 20 [.int .u8] sm4),
  (13, .cells [] 5 none),
  (131, .cells [sm9, sm17, sm18, sm19, sm20, sm21, sm22, sm23, sm24, sm25, sm26, sm27, sm28, sm29, sm30, sm31, sm32, sm33, sm34, sm35, sm36, sm37, sm38, sm39, sm40, sm41, sm42, sm43, sm44, sm45, sm46, sm47, sm48, sm49, sm50] 34 none),
  (11, .arr (.base 50) [.int .u8] sm4 5 false),
  (247, .cells [sm9, (.int .u32 (.var 601)), (.int .u32 (.var 602)), (.int .u32 (.var 603)), (.int .u32 (.var 604)), (.int .u32 (.var 605)), (.int .u32 (.var 606)), (.int .u32 (.var 607)), (.int .u32 (.var 608)), (.int .u32 (.var 609)), (.int .u32 (.var 610)), (.int .u32 (.var 611)), (.int .u32 (.var 612)), (.int .u32 (.var 613)), (.int .u32 (.var 614)), (.int .u32 (.var 615)), (.int .u32 (.var 616)), (.int .u32 (.var 617)), (.int .u32 (.var 618)), (.int .u32 (.var 619)), (.int .u32 (.var 620)), (.int .u32 (.var 621)), (.int .u32 (.var 622)), (.int .u32 (.var 623)), (.int .u32 (.var 624)), (.int .u32 (.var 625)), (.int .u32 (.var 626)), (.int .u32 (.var 627)), (.int .u32 (.var 628)), (.int .u32 (.var 629)), (.int .u32 (.var 630)), (.int .u32 (.var 631)), (.int .u32 (.var 632)), (.int .u32 (.var 633)), (.int .i64 (.var 634))] 34 none),
  (15, .cells [(.xslice false 14 sm0 1 sm4 (.room sm4))] 72 none),
  (266, .arr (.base 55) [.int .u8] sm4 5 true)],
 322, [], [0, 1, 2, 3, 4, 5, 6, 8, 12, 130, 10, 246, 14, 9, 13, 131, 11, 247, 15, 266, 263, 264, 265, 267, 268, 269, 270, 271, 272, 273, 274, 275, 276, 277, 278, 279, 280, 281, 282, 283, 284, 285, 286, 287, 288, 289, 290, 291, 292, 293, 294, 295, 296, 297, 298, 299, 300, 301, 302, 303, 304, 305, 306, 307, 308, 309, 310, 311, 312, 313, 314, 315, 316, 317, 318, 319, 320, 321]⟩⟩
noncomputable def PPBody : Code := (slb 7 0)
def PPn : Nat := 263
noncomputable def PPPcs : List PC := [[((.eq (.var 634) sm0), true), (sm51, true), ((.eq (.bits 0 .i64 sm4 (.sub sm4 sm13)) sm0), true)], [((.eq (.var 634) sm0), false), (sm51, true), ((.eq (.bits 0 .i64 sm4 (.sub sm4 sm13)) sm0), true)], [((.eq (.var 634) sm0), true), (sm51, false), ((.eq (.bits 0 .i64 sm4 (.sub sm4 sm13)) sm0), true)], [((.eq (.var 634) sm0), false), (sm51, false), ((.eq (.bits 0 .i64 sm4 (.sub sm4 sm13)) sm0), true)]]
def PT0P : nU := ⟨[sm54, (.int .u32 sm68), (.int .i64 sm69), (.int .u32 sm70)], [(9, .warr 9 20 [.int .u8] sm4)], 10, [((.le sm4 (.var 51)), true), ((.le sm0 sm69), true), ((.le sm69 (.lit 4)), true), ((.le (.add sm68 sm69) sm4), true), ((.le (.lit 16) sm4), true), ((.le sm4 (.lit 4096)), true), ((.le sm0 (.lit 7)), true)]⟩
def PT0R : R Leaf :=
 (.br (.lt sm0 sm69)
  (.br (.lt sm13 sm69)
  (.br (.lt (.lit 2) sm69)
   (.br (.lt (.lit 3) sm69)
   (.ok { v := sm5, objs := [(10, .arr (.put sm74 (.add sm68 (.lit 3)) 0 (.quo sm73 (.lit 256))) [.int .u8] sm4 5 true)], n := 11 })
   (.ok { v := sm5, objs := [(10, .arr sm74 [.int .u8] sm4 5 true)], n := 11 }))
   (.ok { v := sm5, objs := [(10, .arr sm72 [.int .u8] sm4 5 true)], n := 11 }))
  (.ok { v := sm5, objs := [(10, .arr sm71 [.int .u8] sm4 5 true)], n := 11 }))
  (.ok { v := sm5, objs := [(10, .arr (.base 20) [.int .u8] sm4 5 true)], n := 11 }))
def PT1P : nU := ⟨[(.xslice false 9 sm0 1 sm4 (.room sm4)), (.int .u32 sm68), (.int .i64 sm69), (.int .u32 sm70)], [(9, .arr (.base 30) [.int .u8] sm4 5 true)], 10, [((.le sm0 sm69), true), ((.le sm69 (.lit 4)), true), ((.le (.add sm68 sm69) sm4), true), ((.le (.lit 16) sm4), true), ((.le sm4 (.lit 4096)), true), ((.le sm0 (.lit 7)), true)]⟩
def PT1R : R Leaf :=
 (.br (.lt sm0 sm69)
  (.br (.lt sm13 sm69)
  (.br (.lt (.lit 2) sm69)
   (.br (.lt (.lit 3) sm69)
   (.ok { v := sm5, objs := [(9, .arr (.base 30) [.int .u8] sm4 5 true), (10, .arr (.put sm77 (.add sm68 (.lit 3)) 0 (.quo sm73 (.lit 256))) [.int .u8] sm4 5 true)], n := 11 })
   (.ok { v := sm5, objs := [(9, .arr (.base 30) [.int .u8] sm4 5 true), (10, .arr sm77 [.int .u8] sm4 5 true)], n := 11 }))
   (.ok { v := sm5, objs := [(9, .arr (.base 30) [.int .u8] sm4 5 true), (10, .arr sm76 [.int .u8] sm4 5 true)], n := 11 }))
  (.ok { v := sm5, objs := [(9, .arr (.base 30) [.int .u8] sm4 5 true), (10, .arr sm75 [.int .u8] sm4 5 true)], n := 11 }))
  (.ok { v := sm5, objs := [(9, .arr (.base 30) [.int .u8] sm4 5 true), (10, .arr (.base 30) [.int .u8] sm4 5 true)], n := 11 }))
end Go.Proofs.YtmickljjofbmiaaGreatDoor
