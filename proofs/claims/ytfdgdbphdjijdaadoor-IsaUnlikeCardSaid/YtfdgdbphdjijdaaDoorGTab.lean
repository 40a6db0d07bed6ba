/- The program's types and functions, as tables. No condition. -/
import Derived.Test.YtfdgdbphdjijdaaDoorProg
import Derived.Test.YtfdgdbphdjijdaaDoorFwG
import Derived.KernelRfl
namespace Go.Proofs.YtfdgdbphdjijdaaDoor
open Go Go.Proofs
set_option maxRecDepth 100000
abbrev TDO := TDOk Tryd.prog
abbrev FnO := FnOk Tryd.prog
theorem tdS {t : TypeId} {td : TD} (i : TypeInfo) (hi : Tryd.prog.info? t = some i) (hu : Tryd.prog.underlying t = some td.d) (hs : i.size = td.size ∧ i.bytes = td.bytes ∧ td.zero.length = td.size := by exact ⟨by kernel_rfl, by kernel_rfl, by kernel_rfl⟩)
  (hz : (i.zero.bind ofValue).map (fun v => (v.cells, isAggV v)) = some (td.zero, td.agg) := by kernel_rfl) (ha : td.agg = (match td.d with | .struct _ | .array _ _ => true | _ => false) := by kernel_rfl) (hn : td.agg = false := by kernel_rfl) : TDO t td :=
 .of i hi hu hs hz ha fun _ h => absurd (h.symm.trans hn) (by decide)
theorem tdA {t : TypeId} {td : TD} (i : TypeInfo) (hi : Tryd.prog.info? t = some i) (hu : Tryd.prog.underlying t = some td.d) (hs : i.size = td.size ∧ i.bytes = td.bytes ∧ td.zero.length = td.size := by exact ⟨by kernel_rfl, by kernel_rfl, by kernel_rfl⟩)
  (hz : (i.zero.bind ofValue).map (fun v => (v.cells, isAggV v)) = some (td.zero, td.agg) := by kernel_rfl) (ha : td.agg = (match td.d with | .struct _ | .array _ _ => true | _ => false) := by kernel_rfl)
  (hg : Tryd.prog.eqGuardType Tryd.prog.depth t = false ∧ Tryd.prog.stoodInHeld t = false ∧ (match td.d with | .struct fs => fs.toList.all fun f => f.name != "_" | _ => true) = true := by exact ⟨by kernel_rfl, by kernel_rfl, by kernel_rfl⟩) : TDO t td :=
 .of i hi hu hs hz ha fun _ _ => hg
theorem fnS {f : Nat} {fn : Func} (h : Tryd.prog.funcs[f]? = some fn) (h1 : (fn.name == "runtime.NumGoroutine") = false := by kernel_rfl) (h2 : fn.body.isSome = true := by kernel_rfl) : FnO f fn := ⟨h, h1, h2⟩
noncomputable def td0 : TD := { d := Tryd.t0.desc, size := 1, bytes := 0, zero := [.tuple []], agg := false, flat := true }
theorem td0_ok : TDO 0 td0 := tdS Tryd.t0 Tryd.type0 Tryd.underlying0
noncomputable def td1 : TD := { d := Tryd.t1.desc, size := 1, bytes := 8, zero := [.nilfunc], agg := false, flat := true }
theorem td1_ok : TDO 1 td1 := tdS Tryd.t1 Tryd.type1 Tryd.underlying1
noncomputable def td2 : TD := { d := Tryd.t2.desc, size := 1, bytes := 8, zero := [.int .i64 (.lit (0))], agg := false, flat := true }
theorem td2_ok : TDO 2 td2 := tdS Tryd.t2 Tryd.type2 Tryd.underlying2
noncomputable def td3 : TD := { d := Tryd.t3.desc, size := 1, bytes := 8, zero := [.int .i64 (.lit (0))], agg := false, flat := true }
theorem td3_ok : TDO 3 td3 := tdS Tryd.t3 Tryd.type3 Tryd.underlying3
noncomputable def td4 : TD := { d := Tryd.t4.desc, size := 1, bytes := 1, zero := [.bool (.lit (0))], agg := false, flat := true }
theorem td4_ok : TDO 4 td4 := tdS Tryd.t4 Tryd.type4 Tryd.underlying4
noncomputable def td5 : TD := { d := Tryd.t5.desc, size := 1, bytes := 1, zero := [.int .u8 (.lit (0))], agg := false, flat := true }
theorem td5_ok : TDO 5 td5 := tdS Tryd.t5 Tryd.type5 Tryd.underlying5
noncomputable def td6 : TD := { d := Tryd.t5.desc, size := 1, bytes := 1, zero := [.int .u8 (.lit (0))], agg := false, flat := true }
theorem td6_ok : TDO 6 td6 := tdS Tryd.t6 Tryd.type6 Tryd.underlying6
noncomputable def td7 : TD := { d := Tryd.t7.desc, size := 4, bytes := 24, zero := [.int .i64 (.lit (0)), .int .i64 (.lit (0)), .bool (.lit (0)), .int .u8 (.lit (0))], agg := true, flat := true }
theorem td7_ok : TDO 7 td7 := tdA Tryd.t7 Tryd.type7 Tryd.underlying7
noncomputable def td8 : TD := { d := Tryd.t7.desc, size := 4, bytes := 24, zero := [.int .i64 (.lit (0)), .int .i64 (.lit (0)), .bool (.lit (0)), .int .u8 (.lit (0))], agg := true, flat := true }
theorem td8_ok : TDO 8 td8 := tdA Tryd.t8 Tryd.type8 Tryd.underlying8
noncomputable def td9 : TD := { d := Tryd.t9.desc, size := 1, bytes := 16, zero := [.str (.slit [])], agg := false, flat := true }
theorem td9_ok : TDO 9 td9 := tdS Tryd.t9 Tryd.type9 Tryd.underlying9
noncomputable def td10 : TD := { d := Tryd.t9.desc, size := 1, bytes := 16, zero := [.str (.slit [])], agg := false, flat := true }
theorem td10_ok : TDO 10 td10 := tdS Tryd.t10 Tryd.type10 Tryd.underlying10
noncomputable def td11 : TD := { d := Tryd.t9.desc, size := 1, bytes := 16, zero := [.str (.slit [])], agg := false, flat := true }
theorem td11_ok : TDO 11 td11 := tdS Tryd.t11 Tryd.type11 Tryd.underlying11
noncomputable def td12 : TD := { d := Tryd.t12.desc, size := 1, bytes := 8, zero := [.int .u64 (.lit (0))], agg := false, flat := true }
theorem td12_ok : TDO 12 td12 := tdS Tryd.t12 Tryd.type12 Tryd.underlying12
noncomputable def td13 : TD := { d := Tryd.t13.desc, size := 2, bytes := 24, zero := [.str (.slit []), .int .u64 (.lit (0))], agg := true, flat := false }
theorem td13_ok : TDO 13 td13 := .of Tryd.t13 Tryd.type13 Tryd.underlying13 ⟨by kernel_rfl, by kernel_rfl, by kernel_rfl⟩ (by kernel_rfl) (by kernel_rfl) (fun h _ => absurd (h.symm.trans (show td13.flat = false by kernel_rfl)) (by decide))
noncomputable def td14 : TD := { d := Tryd.t13.desc, size := 2, bytes := 24, zero := [.str (.slit []), .int .u64 (.lit (0))], agg := true, flat := false }
theorem td14_ok : TDO 14 td14 := .of Tryd.t14 Tryd.type14 Tryd.underlying14 ⟨by kernel_rfl, by kernel_rfl, by kernel_rfl⟩ (by kernel_rfl) (by kernel_rfl) (fun h _ => absurd (h.symm.trans (show td14.flat = false by kernel_rfl)) (by decide))
noncomputable def td15 : TD := { d := Tryd.t15.desc, size := 1, bytes := 8, zero := [.nilptr], agg := false, flat := true }
theorem td15_ok : TDO 15 td15 := tdS Tryd.t15 Tryd.type15 Tryd.underlying15
noncomputable def td16 : TD := { d := Tryd.t16.desc, size := 1, bytes := 8, zero := [.nilptr], agg := false, flat := true }
theorem td16_ok : TDO 16 td16 := tdS Tryd.t16 Tryd.type16 Tryd.underlying16
noncomputable def td17 : TD := { d := Tryd.t17.desc, size := 1, bytes := 8, zero := [.nilptr], agg := false, flat := true }
theorem td17_ok : TDO 17 td17 := tdS Tryd.t17 Tryd.type17 Tryd.underlying17
noncomputable def td18 : TD := { d := Tryd.t18.desc, size := 1, bytes := 8, zero := [.nilptr], agg := true, flat := false }
theorem td18_ok : TDO 18 td18 := .of Tryd.t18 Tryd.type18 Tryd.underlying18 ⟨by kernel_rfl, by kernel_rfl, by kernel_rfl⟩ (by kernel_rfl) (by kernel_rfl) (fun h _ => absurd (h.symm.trans (show td18.flat = false by kernel_rfl)) (by decide))
noncomputable def td19 : TD := { d := Tryd.t18.desc, size := 1, bytes := 8, zero := [.nilptr], agg := true, flat := false }
theorem td19_ok : TDO 19 td19 := .of Tryd.t19 Tryd.type19 Tryd.underlying19 ⟨by kernel_rfl, by kernel_rfl, by kernel_rfl⟩ (by kernel_rfl) (by kernel_rfl) (fun h _ => absurd (h.symm.trans (show td19.flat = false by kernel_rfl)) (by decide))
noncomputable def td20 : TD := { d := Tryd.t20.desc, size := 1, bytes := 16, zero := [.niliface], agg := false, flat := true }
theorem td20_ok : TDO 20 td20 := tdS Tryd.t20 Tryd.type20 Tryd.underlying20
noncomputable def td21 : TD := { d := Tryd.t21.desc, size := 1, bytes := 4, zero := [.int .i32 (.lit (0))], agg := false, flat := true }
theorem td21_ok : TDO 21 td21 := tdS Tryd.t21 Tryd.type21 Tryd.underlying21
noncomputable def td22 : TD := { d := Tryd.t3.desc, size := 1, bytes := 8, zero := [.int .i64 (.lit (0))], agg := false, flat := true }
theorem td22_ok : TDO 22 td22 := tdS Tryd.t22 Tryd.type22 Tryd.underlying22
noncomputable def td23 : TD := { d := Tryd.t23.desc, size := 1, bytes := 4, zero := [.int .u32 (.lit (0))], agg := false, flat := true }
theorem td23_ok : TDO 23 td23 := tdS Tryd.t23 Tryd.type23 Tryd.underlying23
noncomputable def td24 : TD := { d := Tryd.t24.desc, size := 7, bytes := 40, zero := [.int .i64 (.lit (0)), .int .i64 (.lit (0)), .int .i64 (.lit (0)), .int .i64 (.lit (0)), .int .u32 (.lit (0)), .bool (.lit (0)), .bool (.lit (0))], agg := true, flat := true }
theorem td24_ok : TDO 24 td24 := tdA Tryd.t24 Tryd.type24 Tryd.underlying24
noncomputable def td25 : TD := { d := Tryd.t24.desc, size := 7, bytes := 40, zero := [.int .i64 (.lit (0)), .int .i64 (.lit (0)), .int .i64 (.lit (0)), .int .i64 (.lit (0)), .int .u32 (.lit (0)), .bool (.lit (0)), .bool (.lit (0))], agg := true, flat := true }
theorem td25_ok : TDO 25 td25 := tdA Tryd.t25 Tryd.type25 Tryd.underlying25
noncomputable def td26 : TD := { d := Tryd.t3.desc, size := 1, bytes := 8, zero := [.int .i64 (.lit (0))], agg := false, flat := true }
theorem td26_ok : TDO 26 td26 := tdS Tryd.t26 Tryd.type26 Tryd.underlying26
noncomputable def td27 : TD := { d := Tryd.t27.desc, size := 1, bytes := 0, zero := [.tuple [.str (.slit []), .int .i64 (.lit (0))]], agg := false, flat := true }
theorem td27_ok : TDO 27 td27 := tdS Tryd.t27 Tryd.type27 Tryd.underlying27
noncomputable def td28 : TD := { d := Tryd.t28.desc, size := 1, bytes := 8, zero := [.nilfunc], agg := false, flat := true }
theorem td28_ok : TDO 28 td28 := tdS Tryd.t28 Tryd.type28 Tryd.underlying28
noncomputable def td29 : TD := { d := Tryd.t29.desc, size := 1, bytes := 8, zero := [.nilfunc], agg := false, flat := true }
theorem td29_ok : TDO 29 td29 := tdS Tryd.t29 Tryd.type29 Tryd.underlying29
noncomputable def td30 : TD := { d := Tryd.t30.desc, size := 1, bytes := 8, zero := [.nilfunc], agg := false, flat := true }
theorem td30_ok : TDO 30 td30 := tdS Tryd.t30 Tryd.type30 Tryd.underlying30
noncomputable def td31 : TD := { d := Tryd.t31.desc, size := 1, bytes := 8, zero := [.nilfunc], agg := false, flat := true }
theorem td31_ok : TDO 31 td31 := tdS Tryd.t31 Tryd.type31 Tryd.underlying31
noncomputable def td32 : TD := { d := Tryd.t32.desc, size := 1, bytes := 0, zero := [.tuple [.int .u32 (.lit (0)), .int .i64 (.lit (0))]], agg := false, flat := true }
theorem td32_ok : TDO 32 td32 := tdS Tryd.t32 Tryd.type32 Tryd.underlying32
noncomputable def td33 : TD := { d := Tryd.t33.desc, size := 1, bytes := 8, zero := [.nilfunc], agg := false, flat := true }
theorem td33_ok : TDO 33 td33 := tdS Tryd.t33 Tryd.type33 Tryd.underlying33
noncomputable def td34 : TD := { d := Tryd.t34.desc, size := 1, bytes := 8, zero := [.nilfunc], agg := false, flat := true }
theorem td34_ok : TDO 34 td34 := tdS Tryd.t34 Tryd.type34 Tryd.underlying34
noncomputable def td35 : TD := { d := Tryd.t35.desc, size := 1, bytes := 8, zero := [.nilfunc], agg := false, flat := true }
theorem td35_ok : TDO 35 td35 := tdS Tryd.t35 Tryd.type35 Tryd.underlying35
noncomputable def td36 : TD := { d := Tryd.t36.desc, size := 1, bytes := 8, zero := [.nilfunc], agg := false, flat := true }
theorem td36_ok : TDO 36 td36 := tdS Tryd.t36 Tryd.type36 Tryd.underlying36
noncomputable def td37 : TD := { d := Tryd.t37.desc, size := 9, bytes := 40, zero := [.int .u32 (.lit (0)), .bool (.lit (0)), .bool (.lit (0)), .bool (.lit (0)), .bool (.lit (0)), .nilfunc, .nilfunc, .nilfunc, .nilfunc], agg := true, flat := true }
theorem td37_ok : TDO 37 td37 := tdA Tryd.t37 Tryd.type37 Tryd.underlying37
noncomputable def td38 : TD := { d := Tryd.t37.desc, size := 9, bytes := 40, zero := [.int .u32 (.lit (0)), .bool (.lit (0)), .bool (.lit (0)), .bool (.lit (0)), .bool (.lit (0)), .nilfunc, .nilfunc, .nilfunc, .nilfunc], agg := true, flat := true }
theorem td38_ok : TDO 38 td38 := tdA Tryd.t38 Tryd.type38 Tryd.underlying38
noncomputable def td39 : TD := { d := Tryd.t39.desc, size := 12, bytes := 72, zero := [.int .i64 (.lit (0)), .str (.slit []), .int .u32 (.lit (0)), .bool (.lit (0)), .bool (.lit (0)), .bool (.lit (0)), .bool (.lit (0)), .nilfunc, .nilfunc, .nilfunc, .nilfunc, .int .u32 (.lit (0))], agg := true, flat := true }
theorem td39_ok : TDO 39 td39 := tdA Tryd.t39 Tryd.type39 Tryd.underlying39
noncomputable def td40 : TD := { d := Tryd.t39.desc, size := 12, bytes := 72, zero := [.int .i64 (.lit (0)), .str (.slit []), .int .u32 (.lit (0)), .bool (.lit (0)), .bool (.lit (0)), .bool (.lit (0)), .bool (.lit (0)), .nilfunc, .nilfunc, .nilfunc, .nilfunc, .int .u32 (.lit (0))], agg := true, flat := true }
theorem td40_ok : TDO 40 td40 := tdA Tryd.t40 Tryd.type40 Tryd.underlying40
noncomputable def td41 : TD := { d := Tryd.t41.desc, size := 1, bytes := 0, zero := [.tuple [.agg [.int .i64 (.lit (0)), .str (.slit []), .int .u32 (.lit (0)), .bool (.lit (0)), .bool (.lit (0)), .bool (.lit (0)), .bool (.lit (0)), .nilfunc, .nilfunc, .nilfunc, .nilfunc, .int .u32 (.lit (0))], .bool (.lit (0))]], agg := false, flat := true }
theorem td41_ok : TDO 41 td41 := tdS Tryd.t41 Tryd.type41 Tryd.underlying41
noncomputable def td42 : TD := { d := Tryd.t42.desc, size := 1, bytes := 8, zero := [.nilfunc], agg := false, flat := true }
theorem td42_ok : TDO 42 td42 := tdS Tryd.t42 Tryd.type42 Tryd.underlying42
noncomputable def td43 : TD := { d := Tryd.t43.desc, size := 1, bytes := 8, zero := [.nilfunc], agg := false, flat := true }
theorem td43_ok : TDO 43 td43 := tdS Tryd.t43 Tryd.type43 Tryd.underlying43
noncomputable def td44 : TD := { d := Tryd.t44.desc, size := 1, bytes := 8, zero := [.nilfunc], agg := false, flat := true }
theorem td44_ok : TDO 44 td44 := tdS Tryd.t44 Tryd.type44 Tryd.underlying44
noncomputable def td45 : TD := { d := Tryd.t45.desc, size := 1, bytes := 0, zero := [.tuple [.agg [.int .i64 (.lit (0)), .int .i64 (.lit (0)), .int .i64 (.lit (0)), .int .i64 (.lit (0)), .int .u32 (.lit (0)), .bool (.lit (0)), .bool (.lit (0))], .bool (.lit (0))]], agg := false, flat := true }
theorem td45_ok : TDO 45 td45 := tdS Tryd.t45 Tryd.type45 Tryd.underlying45
noncomputable def td46 : TD := { d := Tryd.t46.desc, size := 1, bytes := 8, zero := [.nilfunc], agg := false, flat := true }
theorem td46_ok : TDO 46 td46 := tdS Tryd.t46 Tryd.type46 Tryd.underlying46
noncomputable def td47 : TD := { d := Tryd.t47.desc, size := 1, bytes := 8, zero := [.nilfunc], agg := false, flat := true }
theorem td47_ok : TDO 47 td47 := tdS Tryd.t47 Tryd.type47 Tryd.underlying47
noncomputable def td48 : TD := { d := Tryd.t48.desc, size := 1, bytes := 8, zero := [.nilfunc], agg := false, flat := true }
theorem td48_ok : TDO 48 td48 := tdS Tryd.t48 Tryd.type48 Tryd.underlying48
noncomputable def td49 : TD := { d := Tryd.t49.desc, size := 1, bytes := 8, zero := [.int .u64 (.lit (0))], agg := false, flat := true }
theorem td49_ok : TDO 49 td49 := tdS Tryd.t49 Tryd.type49 Tryd.underlying49
noncomputable def td50 : TD := { d := Tryd.t50.desc, size := 1, bytes := 8, zero := [.nilfunc], agg := false, flat := true }
theorem td50_ok : TDO 50 td50 := tdS Tryd.t50 Tryd.type50 Tryd.underlying50
noncomputable def td51 : TD := { d := Tryd.t51.desc, size := 1, bytes := 8, zero := [.nilfunc], agg := false, flat := true }
theorem td51_ok : TDO 51 td51 := tdS Tryd.t51 Tryd.type51 Tryd.underlying51
noncomputable def td52 : TD := { d := Tryd.t52.desc, size := 1, bytes := 8, zero := [.nilfunc], agg := false, flat := true }
theorem td52_ok : TDO 52 td52 := tdS Tryd.t52 Tryd.type52 Tryd.underlying52
noncomputable def td53 : TD := { d := Tryd.t53.desc, size := 1, bytes := 8, zero := [.nilfunc], agg := false, flat := true }
theorem td53_ok : TDO 53 td53 := tdS Tryd.t53 Tryd.type53 Tryd.underlying53
noncomputable def td54 : TD := { d := Tryd.t53.desc, size := 1, bytes := 8, zero := [.nilfunc], agg := false, flat := true }
theorem td54_ok : TDO 54 td54 := tdS Tryd.t54 Tryd.type54 Tryd.underlying54
noncomputable def td55 : TD := { d := Tryd.t55.desc, size := 1, bytes := 8, zero := [.nilfunc], agg := false, flat := true }
theorem td55_ok : TDO 55 td55 := tdS Tryd.t55 Tryd.type55 Tryd.underlying55
noncomputable def td56 : TD := { d := Tryd.t56.desc, size := 1, bytes := 8, zero := [.nilptr], agg := false, flat := true }
theorem td56_ok : TDO 56 td56 := tdS Tryd.t56 Tryd.type56 Tryd.underlying56
noncomputable def td57 : TD := { d := Tryd.t57.desc, size := 3, bytes := 24, zero := [.bool (.lit (0)), .nilptr, .int .i64 (.lit (0))], agg := true, flat := true }
theorem td57_ok : TDO 57 td57 := tdA Tryd.t57 Tryd.type57 Tryd.underlying57
noncomputable def td58 : TD := { d := Tryd.t58.desc, size := 1, bytes := 24, zero := [.nilslice], agg := false, flat := true }
theorem td58_ok : TDO 58 td58 := tdS Tryd.t58 Tryd.type58 Tryd.underlying58
noncomputable def td59 : TD := { d := Tryd.t59.desc, size := 1, bytes := 8, zero := [.nilfunc], agg := false, flat := true }
theorem td59_ok : TDO 59 td59 := tdS Tryd.t59 Tryd.type59 Tryd.underlying59
noncomputable def td60 : TD := { d := Tryd.t60.desc, size := 1, bytes := 24, zero := [.nilslice], agg := false, flat := true }
theorem td60_ok : TDO 60 td60 := tdS Tryd.t60 Tryd.type60 Tryd.underlying60
noncomputable def td61 : TD := { d := Tryd.t61.desc, size := 1, bytes := 8, zero := [.nilfunc], agg := false, flat := true }
theorem td61_ok : TDO 61 td61 := tdS Tryd.t61 Tryd.type61 Tryd.underlying61
noncomputable def td62 : TD := { d := Tryd.t62.desc, size := 1, bytes := 8, zero := [.nilmap], agg := false, flat := true }
theorem td62_ok : TDO 62 td62 := tdS Tryd.t62 Tryd.type62 Tryd.underlying62
noncomputable def td63 : TD := { d := Tryd.t63.desc, size := 1, bytes := 8, zero := [.nilfunc], agg := false, flat := true }
theorem td63_ok : TDO 63 td63 := tdS Tryd.t63 Tryd.type63 Tryd.underlying63
noncomputable def td64 : TD := { d := Tryd.t64.desc, size := 1, bytes := 8, zero := [.nilfunc], agg := false, flat := true }
theorem td64_ok : TDO 64 td64 := tdS Tryd.t64 Tryd.type64 Tryd.underlying64
noncomputable def td65 : TD := { d := Tryd.t65.desc, size := 1, bytes := 24, zero := [.nilslice], agg := false, flat := true }
theorem td65_ok : TDO 65 td65 := tdS Tryd.t65 Tryd.type65 Tryd.underlying65
noncomputable def td66 : TD := { d := Tryd.t66.desc, size := 1, bytes := 8, zero := [.nilfunc], agg := false, flat := true }
theorem td66_ok : TDO 66 td66 := tdS Tryd.t66 Tryd.type66 Tryd.underlying66
noncomputable def td67 : TD := { d := Tryd.t67.desc, size := 1, bytes := 8, zero := [.nilfunc], agg := false, flat := true }
theorem td67_ok : TDO 67 td67 := tdS Tryd.t67 Tryd.type67 Tryd.underlying67
noncomputable def td68 : TD := { d := Tryd.t68.desc, size := 1, bytes := 8, zero := [.nilfunc], agg := false, flat := true }
theorem td68_ok : TDO 68 td68 := tdS Tryd.t68 Tryd.type68 Tryd.underlying68
noncomputable def td69 : TD := { d := Tryd.t69.desc, size := 24, bytes := 24, zero := [.int .u8 (.lit (0)), .int .u8 (.lit (0)), .int .u8 (.lit (0)), .int .u8 (.lit (0)), .int .u8 (.lit (0)), .int .u8 (.lit (0)), .int .u8 (.lit (0)), .int .u8 (.lit (0)), .int .u8 (.lit (0)), .int .u8 (.lit (0)), .int .u8 (.lit (0)), .int .u8 (.lit (0)), .int .u8 (.lit (0)), .int .u8 (.lit (0)), .int .u8 (.lit (0)), .int .u8 (.lit (0)), .int .u8 (.lit (0)), .int .u8 (.lit (0)), .int .u8 (.lit (0)), .int .u8 (.lit (0)), .int .u8 (.lit (0)), .int .u8 (.lit (0)), .int .u8 (.lit (0)), .int .u8 (.lit (0))], agg := true, flat := true }
theorem td69_ok : TDO 69 td69 := tdA Tryd.t69 Tryd.type69 Tryd.underlying69
noncomputable def td70 : TD := { d := Tryd.t70.desc, size := 1, bytes := 8, zero := [.int .u64 (.lit (0))], agg := false, flat := true }
theorem td70_ok : TDO 70 td70 := tdS Tryd.t70 Tryd.type70 Tryd.underlying70
noncomputable def td71 : TD := { d := Tryd.t71.desc, size := 1, bytes := 8, zero := [.nilfunc], agg := false, flat := true }
theorem td71_ok : TDO 71 td71 := tdS Tryd.t71 Tryd.type71 Tryd.underlying71
noncomputable def td72 : TD := { d := Tryd.t72.desc, size := 1, bytes := 8, zero := [.nilfunc], agg := false, flat := true }
theorem td72_ok : TDO 72 td72 := tdS Tryd.t72 Tryd.type72 Tryd.underlying72
noncomputable def td73 : TD := { d := Tryd.t73.desc, size := 1, bytes := 24, zero := [.nilslice], agg := false, flat := true }
theorem td73_ok : TDO 73 td73 := tdS Tryd.t73 Tryd.type73 Tryd.underlying73
noncomputable def td74 : TD := { d := Tryd.t74.desc, size := 1, bytes := 0, zero := [.tuple [.nilslice, .str (.slit [])]], agg := false, flat := true }
theorem td74_ok : TDO 74 td74 := tdS Tryd.t74 Tryd.type74 Tryd.underlying74
noncomputable def td75 : TD := { d := Tryd.t75.desc, size := 1, bytes := 8, zero := [.nilfunc], agg := false, flat := true }
theorem td75_ok : TDO 75 td75 := tdS Tryd.t75 Tryd.type75 Tryd.underlying75
noncomputable def td76 : TD := { d := Tryd.t76.desc, size := 1, bytes := 8, zero := [.nilfunc], agg := false, flat := true }
theorem td76_ok : TDO 76 td76 := tdS Tryd.t76 Tryd.type76 Tryd.underlying76
noncomputable def td77 : TD := { d := Tryd.t77.desc, size := 1, bytes := 8, zero := [.nilfunc], agg := false, flat := true }
theorem td77_ok : TDO 77 td77 := tdS Tryd.t77 Tryd.type77 Tryd.underlying77
noncomputable def td78 : TD := { d := Tryd.t78.desc, size := 1, bytes := 8, zero := [.nilfunc], agg := false, flat := true }
theorem td78_ok : TDO 78 td78 := tdS Tryd.t78 Tryd.type78 Tryd.underlying78
noncomputable def td79 : TD := { d := Tryd.t79.desc, size := 1, bytes := 8, zero := [.nilfunc], agg := false, flat := true }
theorem td79_ok : TDO 79 td79 := tdS Tryd.t79 Tryd.type79 Tryd.underlying79
noncomputable def td80 : TD := { d := Tryd.t80.desc, size := 256, bytes := 256, zero := [.int .u8 (.lit (0)), .int .u8 (.lit (0)), .int .u8 (.lit (0)), .int .u8 (.lit (0)), .int .u8 (.lit (0)), .int .u8 (.lit (0)), .int .u8 (.lit (0)), .int .u8 (.lit (0)), .int .u8 (.lit (0)), .int .u8 (.lit (0)), .int .u8 (.lit (0)), .int .u8 (.lit (0)), .int .u8 (.lit (0)), .int .u8 (.lit (0)), .int .u8 (.lit (0)), .int .u8 (.lit (0)), .int .u8 (.lit (0)), .int .u8 (.lit (0)), .int .u8 (.lit (0)), .int .u8 (.lit (0)), .int .u8 (.lit (0)), .int .u8 (.lit (0)), .int .u8 (.lit (0)), .int .u8 (.lit (0)), .int .u8 (.lit (0)), .int .u8 (.lit (0)), .int .u8 (.lit (0)), .int .u8 (.lit (0)), .int .u8 (.lit (0)), .int .u8 (.lit (0)), .int .u8 (.lit (0)), .int .u8 (.lit (0)), .int .u8 (.lit (0)), .int .u8 (.lit (0)), .int .u8 (.lit (0)), .int .u8 (.lit (0)), .int .u8 (.lit (0)), .int .u8 (.lit (0)), .int .u8 (.lit (0)), .int .u8 (.lit (0)), .int .u8 (.lit (0)), .int .u8 (.lit (0)), .int .u8 (.lit (0)), .int .u8 (.lit (0)), .int .u8 (.lit (0)), .int .u8 (.lit (0)), .int .u8 (.lit (0)), .int .u8 (.lit (0)), .int .u8 (.lit (0)), .int .u8 (.lit (0)), .int .u8 (.lit (0)), .int .u8 (.lit (0)), .int .u8 (.lit (0)), .int .u8 (.lit (0)), .int .u8 (.lit (0)), .int .u8 (.lit (0)), .int .u8 (.lit (0)), .int .u8 (.lit (0)), .int .u8 (.lit (0)), .int .u8 (.lit (0)), .int .u8 (.lit (0)), .int .u8 (.lit (0)), .int .u8 (.lit (0)), .int .u8 (.lit (0)), .int .u8 (.lit (0)), .int .u8 (.lit (0)), .int .u8 (.lit (0)), .int .u8 (.lit (0)), .int .u8 (.lit (0)), .int .u8 (.lit (0)), .int .u8 (.lit (0)), .int .u8 (.lit (0)), .int .u8 (.lit (0)), .int .u8 (.lit (0)), .int .u8 (.lit (0)), .int .u8 (.lit (0)), .int .u8 (.lit (0)), .int .u8 (.lit (0)), .int .u8 (.lit (0)), .int .u8 (.lit (0)), .int .u8 (.lit (0)), .int .u8 (.lit (0)), .int .u8 (.lit (0)), .int .u8 (.lit (0)), .int .u8 (.lit (0)), .int .u8 (.lit (0)), .int .u8 (.lit (0)), .int .u8 (.lit (0)), .int .u8 (.lit (0)), .int .u8 (.lit (0)), .int .u8 (.lit (0)), .int .u8 (.lit (0)), .int .u8 (.lit (0)), .int .u8 (.lit (0)), .int .u8 (.lit (0)), .int .u8 (.lit (0)), .int .u8 (.lit (0)), .int .u8 (.lit (0)), .int .u8 (.lit (0)), .int .u8 (.lit (0)), .int .u8 (.lit (0)), .int .u8 (.lit (0)), .int .u8 (.lit (0)), .int .u8 (.lit (0)), .int .u8 (.lit (0)), .int .u8 (.lit (0)), .int .u8 (.lit (0)), .int .u8 (.lit (0)), .int .u8 (.lit (0)), .int .u8 (.lit (0)), .int .u8 (.lit (0)), .int .u8 (.lit (0)), .int .u8 (.lit (0)), .int .u8 (.lit (0)), .int .u8 (.lit (0)), .int .u8 (.lit (0)), .int .u8 (.lit (0)), .int .u8 (.lit (0)), .int .u8 (.lit (0)), .int .u8 (.lit (0)), .int .u8 (.lit (0)), .int .u8 (.lit (0)), .int .u8 (.lit (0)), .int .u8 (.lit (0)), .int .u8 (.lit (0)), .int .u8 (.lit (0)), .int .u8 (.lit (0)), .int .u8 (.lit (0)), .int .u8 (.lit (0)), .int .u8 (.lit (0)), .int .u8 (.lit (0)), .int .u8 (.lit (0)), .int .u8 (.lit (0)), .int .u8 (.lit (0)), .int .u8 (.lit (0)), .int .u8 (.lit (0)), .int .u8 (.lit (0)), .int .u8 (.lit (0)), .int .u8 (.lit (0)), .int .u8 (.lit (0)), .int .u8 (.lit (0)), .int .u8 (.lit (0)), .int .u8 (.lit (0)), .int .u8 (.lit (0)), .int .u8 (.lit (0)), .int .u8 (.lit (0)), .int .u8 (.lit (0)), .int .u8 (.lit (0)), .int .u8 (.lit (0)), .int .u8 (.lit (0)), .int .u8 (.lit (0)), .int .u8 (.lit (0)), .int .u8 (.lit (0)), .int .u8 (.lit (0)), .int .u8 (.lit (0)), .int .u8 (.lit (0)), .int .u8 (.lit (0)), .int .u8 (.lit (0)), .int .u8 (.lit (0)), .int .u8 (.lit (0)), .int .u8 (.lit (0)), .int .u8 (.lit (0)), .int .u8 (.lit (0)), .int .u8 (.lit (0)), .int .u8 (.lit (0)), .int .u8 (.lit (0)), .int .u8 (.lit (0)), .int .u8 (.lit (0)), .int .u8 (.lit (0)), .int .u8 (.lit (0)), .int .u8 (.lit (0)), .int .u8 (.lit (0)), .int .u8 (.lit (0)), .int .u8 (.lit (0)), .int .u8 (.lit (0)), .int .u8 (.lit (0)), .int .u8 (.lit (0)), .int .u8 (.lit (0)), .int .u8 (.lit (0)), .int .u8 (.lit (0)), .int .u8 (.lit (0)), .int .u8 (.lit (0)), .int .u8 (.lit (0)), .int .u8 (.lit (0)), .int .u8 (.lit (0)), .int .u8 (.lit (0)), .int .u8 (.lit (0)), .int .u8 (.lit (0)), .int .u8 (.lit (0)), .int .u8 (.lit (0)), .int .u8 (.lit (0)), .int .u8 (.lit (0)), .int .u8 (.lit (0)), .int .u8 (.lit (0)), .int .u8 (.lit (0)), .int .u8 (.lit (0)), .int .u8 (.lit (0)), .int .u8 (.lit (0)), .int .u8 (.lit (0)), .int .u8 (.lit (0)), .int .u8 (.lit (0)), .int .u8 (.lit (0)), .int .u8 (.lit (0)), .int .u8 (.lit (0)), .int .u8 (.lit (0)), .int .u8 (.lit (0)), .int .u8 (.lit (0)), .int .u8 (.lit (0)), .int .u8 (.lit (0)), .int .u8 (.lit (0)), .int .u8 (.lit (0)), .int .u8 (.lit (0)), .int .u8 (.lit (0)), .int .u8 (.lit (0)), .int .u8 (.lit (0)), .int .u8 (.lit (0)), .int .u8 (.lit (0)), .int .u8 (.lit (0)), .int .u8 (.lit (0)), .int .u8 (.lit (0)), .int .u8 (.lit (0)), .int .u8 (.lit (0)), .int .u8 (.lit (0)), .int .u8 (.lit (0)), .int .u8 (.lit (0)), .int .u8 (.lit (0)), .int .u8 (.lit (0)), .int .u8 (.lit (0)), .int .u8 (.lit (0)), .int .u8 (.lit (0)), .int .u8 (.lit (0)), .int .u8 (.lit (0)), .int .u8 (.lit (0)), .int .u8 (.lit (0)), .int .u8 (.lit (0)), .int .u8 (.lit (0)), .int .u8 (.lit (0)), .int .u8 (.lit (0)), .int .u8 (.lit (0)), .int .u8 (.lit (0)), .int .u8 (.lit (0)), .int .u8 (.lit (0)), .int .u8 (.lit (0)), .int .u8 (.lit (0)), .int .u8 (.lit (0)), .int .u8 (.lit (0)), .int .u8 (.lit (0)), .int .u8 (.lit (0)), .int .u8 (.lit (0)), .int .u8 (.lit (0)), .int .u8 (.lit (0)), .int .u8 (.lit (0)), .int .u8 (.lit (0)), .int .u8 (.lit (0)), .int .u8 (.lit (0)), .int .u8 (.lit (0))], agg := true, flat := true }
theorem td80_ok : TDO 80 td80 := tdA Tryd.t80 Tryd.type80 Tryd.underlying80
noncomputable def td81 : TD := { d := Tryd.t81.desc, size := 1, bytes := 8, zero := [.nilfunc], agg := false, flat := true }
theorem td81_ok : TDO 81 td81 := tdS Tryd.t81 Tryd.type81 Tryd.underlying81
noncomputable def td82 : TD := { d := Tryd.t82.desc, size := 1, bytes := 8, zero := [.nilfunc], agg := false, flat := true }
theorem td82_ok : TDO 82 td82 := tdS Tryd.t82 Tryd.type82 Tryd.underlying82
noncomputable def td83 : TD := { d := Tryd.t83.desc, size := 1, bytes := 8, zero := [.nilfunc], agg := false, flat := true }
theorem td83_ok : TDO 83 td83 := tdS Tryd.t83 Tryd.type83 Tryd.underlying83
noncomputable def td84 : TD := { d := Tryd.t84.desc, size := 1, bytes := 8, zero := [.nilfunc], agg := false, flat := true }
theorem td84_ok : TDO 84 td84 := tdS Tryd.t84 Tryd.type84 Tryd.underlying84
noncomputable def td85 : TD := { d := Tryd.t85.desc, size := 20, bytes := 160, zero := [.int .u64 (.lit (0)), .int .u64 (.lit (0)), .int .u64 (.lit (0)), .int .u64 (.lit (0)), .int .u64 (.lit (0)), .int .u64 (.lit (0)), .int .u64 (.lit (0)), .int .u64 (.lit (0)), .int .u64 (.lit (0)), .int .u64 (.lit (0)), .int .u64 (.lit (0)), .int .u64 (.lit (0)), .int .u64 (.lit (0)), .int .u64 (.lit (0)), .int .u64 (.lit (0)), .int .u64 (.lit (0)), .int .u64 (.lit (0)), .int .u64 (.lit (0)), .int .u64 (.lit (0)), .int .u64 (.lit (0))], agg := true, flat := true }
theorem td85_ok : TDO 85 td85 := tdA Tryd.t85 Tryd.type85 Tryd.underlying85
noncomputable def td86 : TD := { d := Tryd.t86.desc, size := 65, bytes := 65, zero := [.int .u8 (.lit (0)), .int .u8 (.lit (0)), .int .u8 (.lit (0)), .int .u8 (.lit (0)), .int .u8 (.lit (0)), .int .u8 (.lit (0)), .int .u8 (.lit (0)), .int .u8 (.lit (0)), .int .u8 (.lit (0)), .int .u8 (.lit (0)), .int .u8 (.lit (0)), .int .u8 (.lit (0)), .int .u8 (.lit (0)), .int .u8 (.lit (0)), .int .u8 (.lit (0)), .int .u8 (.lit (0)), .int .u8 (.lit (0)), .int .u8 (.lit (0)), .int .u8 (.lit (0)), .int .u8 (.lit (0)), .int .u8 (.lit (0)), .int .u8 (.lit (0)), .int .u8 (.lit (0)), .int .u8 (.lit (0)), .int .u8 (.lit (0)), .int .u8 (.lit (0)), .int .u8 (.lit (0)), .int .u8 (.lit (0)), .int .u8 (.lit (0)), .int .u8 (.lit (0)), .int .u8 (.lit (0)), .int .u8 (.lit (0)), .int .u8 (.lit (0)), .int .u8 (.lit (0)), .int .u8 (.lit (0)), .int .u8 (.lit (0)), .int .u8 (.lit (0)), .int .u8 (.lit (0)), .int .u8 (.lit (0)), .int .u8 (.lit (0)), .int .u8 (.lit (0)), .int .u8 (.lit (0)), .int .u8 (.lit (0)), .int .u8 (.lit (0)), .int .u8 (.lit (0)), .int .u8 (.lit (0)), .int .u8 (.lit (0)), .int .u8 (.lit (0)), .int .u8 (.lit (0)), .int .u8 (.lit (0)), .int .u8 (.lit (0)), .int .u8 (.lit (0)), .int .u8 (.lit (0)), .int .u8 (.lit (0)), .int .u8 (.lit (0)), .int .u8 (.lit (0)), .int .u8 (.lit (0)), .int .u8 (.lit (0)), .int .u8 (.lit (0)), .int .u8 (.lit (0)), .int .u8 (.lit (0)), .int .u8 (.lit (0)), .int .u8 (.lit (0)), .int .u8 (.lit (0)), .int .u8 (.lit (0))], agg := true, flat := true }
theorem td86_ok : TDO 86 td86 := tdA Tryd.t86 Tryd.type86 Tryd.underlying86
noncomputable def td87 : TD := { d := Tryd.t87.desc, size := 1, bytes := 8, zero := [.nilfunc], agg := false, flat := true }
theorem td87_ok : TDO 87 td87 := tdS Tryd.t87 Tryd.type87 Tryd.underlying87
noncomputable def td88 : TD := { d := Tryd.t88.desc, size := 1, bytes := 8, zero := [.nilfunc], agg := false, flat := true }
theorem td88_ok : TDO 88 td88 := tdS Tryd.t88 Tryd.type88 Tryd.underlying88
noncomputable def td89 : TD := { d := Tryd.t89.desc, size := 1, bytes := 8, zero := [.nilfunc], agg := false, flat := true }
theorem td89_ok : TDO 89 td89 := tdS Tryd.t89 Tryd.type89 Tryd.underlying89
noncomputable def td90 : TD := { d := Tryd.t90.desc, size := 1, bytes := 24, zero := [.nilslice], agg := false, flat := true }
theorem td90_ok : TDO 90 td90 := tdS Tryd.t90 Tryd.type90 Tryd.underlying90
noncomputable def td91 : TD := { d := Tryd.t91.desc, size := 2, bytes := 16, zero := [.int .i64 (.lit (0)), .int .i64 (.lit (0))], agg := true, flat := true }
theorem td91_ok : TDO 91 td91 := tdA Tryd.t91 Tryd.type91 Tryd.underlying91
noncomputable def td92 : TD := { d := Tryd.t91.desc, size := 2, bytes := 16, zero := [.int .i64 (.lit (0)), .int .i64 (.lit (0))], agg := true, flat := true }
theorem td92_ok : TDO 92 td92 := tdA Tryd.t92 Tryd.type92 Tryd.underlying92
noncomputable def td93 : TD := { d := Tryd.t93.desc, size := 1, bytes := 8, zero := [.nilfunc], agg := false, flat := true }
theorem td93_ok : TDO 93 td93 := tdS Tryd.t93 Tryd.type93 Tryd.underlying93
noncomputable def td94 : TD := { d := Tryd.t94.desc, size := 1, bytes := 8, zero := [.nilptr], agg := false, flat := true }
theorem td94_ok : TDO 94 td94 := tdS Tryd.t94 Tryd.type94 Tryd.underlying94
noncomputable def td95 : TD := { d := Tryd.t95.desc, size := 1, bytes := 8, zero := [.nilfunc], agg := false, flat := true }
theorem td95_ok : TDO 95 td95 := tdS Tryd.t95 Tryd.type95 Tryd.underlying95
noncomputable def td96 : TD := { d := Tryd.t96.desc, size := 1, bytes := 8, zero := [.nilptr], agg := false, flat := true }
theorem td96_ok : TDO 96 td96 := tdS Tryd.t96 Tryd.type96 Tryd.underlying96
noncomputable def td97 : TD := { d := Tryd.t97.desc, size := 2, bytes := 32, zero := [.nilptr, .nilslice], agg := true, flat := true }
theorem td97_ok : TDO 97 td97 := tdA Tryd.t97 Tryd.type97 Tryd.underlying97
noncomputable def td98 : TD := { d := Tryd.t97.desc, size := 2, bytes := 32, zero := [.nilptr, .nilslice], agg := true, flat := true }
theorem td98_ok : TDO 98 td98 := tdA Tryd.t98 Tryd.type98 Tryd.underlying98
noncomputable def td99 : TD := { d := Tryd.t99.desc, size := 1, bytes := 8, zero := [.nilfunc], agg := false, flat := true }
theorem td99_ok : TDO 99 td99 := tdS Tryd.t99 Tryd.type99 Tryd.underlying99
noncomputable def td100 : TD := { d := Tryd.t100.desc, size := 1, bytes := 16, zero := [.niliface], agg := false, flat := true }
theorem td100_ok : TDO 100 td100 := tdS Tryd.t100 Tryd.type100 Tryd.underlying100
noncomputable def td101 : TD := { d := Tryd.t100.desc, size := 1, bytes := 16, zero := [.niliface], agg := false, flat := true }
theorem td101_ok : TDO 101 td101 := tdS Tryd.t101 Tryd.type101 Tryd.underlying101
noncomputable def td102 : TD := { d := Tryd.t102.desc, size := 1, bytes := 0, zero := [.tuple [.int .i64 (.lit (0)), .niliface]], agg := false, flat := true }
theorem td102_ok : TDO 102 td102 := tdS Tryd.t102 Tryd.type102 Tryd.underlying102
noncomputable def td103 : TD := { d := Tryd.t103.desc, size := 1, bytes := 8, zero := [.nilfunc], agg := false, flat := true }
theorem td103_ok : TDO 103 td103 := tdS Tryd.t103 Tryd.type103 Tryd.underlying103
noncomputable def td104 : TD := { d := Tryd.t104.desc, size := 1, bytes := 8, zero := [.nilfunc], agg := false, flat := true }
theorem td104_ok : TDO 104 td104 := tdS Tryd.t104 Tryd.type104 Tryd.underlying104
noncomputable def td105 : TD := { d := Tryd.t105.desc, size := 1, bytes := 24, zero := [.nilslice], agg := false, flat := true }
theorem td105_ok : TDO 105 td105 := tdS Tryd.t105 Tryd.type105 Tryd.underlying105
noncomputable def td106 : TD := { d := Tryd.t106.desc, size := 1, bytes := 24, zero := [.nilslice], agg := false, flat := true }
theorem td106_ok : TDO 106 td106 := tdS Tryd.t106 Tryd.type106 Tryd.underlying106
noncomputable def td107 : TD := { d := Tryd.t107.desc, size := 3, bytes := 56, zero := [.nilslice, .nilslice, .int .i64 (.lit (0))], agg := true, flat := true }
theorem td107_ok : TDO 107 td107 := tdA Tryd.t107 Tryd.type107 Tryd.underlying107
noncomputable def td108 : TD := { d := Tryd.t107.desc, size := 3, bytes := 56, zero := [.nilslice, .nilslice, .int .i64 (.lit (0))], agg := true, flat := true }
theorem td108_ok : TDO 108 td108 := tdA Tryd.t108 Tryd.type108 Tryd.underlying108
noncomputable def td109 : TD := { d := Tryd.t109.desc, size := 1, bytes := 2, zero := [.int .u16 (.lit (0))], agg := false, flat := true }
theorem td109_ok : TDO 109 td109 := tdS Tryd.t109 Tryd.type109 Tryd.underlying109
noncomputable def td110 : TD := { d := Tryd.t110.desc, size := 3, bytes := 6, zero := [.int .u16 (.lit (0)), .int .u16 (.lit (0)), .int .u16 (.lit (0))], agg := true, flat := true }
theorem td110_ok : TDO 110 td110 := tdA Tryd.t110 Tryd.type110 Tryd.underlying110
noncomputable def td111 : TD := { d := Tryd.t110.desc, size := 3, bytes := 6, zero := [.int .u16 (.lit (0)), .int .u16 (.lit (0)), .int .u16 (.lit (0))], agg := true, flat := true }
theorem td111_ok : TDO 111 td111 := tdA Tryd.t111 Tryd.type111 Tryd.underlying111
noncomputable def td112 : TD := { d := Tryd.t112.desc, size := 1, bytes := 8, zero := [.nilfunc], agg := false, flat := true }
theorem td112_ok : TDO 112 td112 := tdS Tryd.t112 Tryd.type112 Tryd.underlying112
noncomputable def td113 : TD := { d := Tryd.t113.desc, size := 3, bytes := 12, zero := [.int .u32 (.lit (0)), .int .u32 (.lit (0)), .int .u32 (.lit (0))], agg := true, flat := true }
theorem td113_ok : TDO 113 td113 := tdA Tryd.t113 Tryd.type113 Tryd.underlying113
noncomputable def td114 : TD := { d := Tryd.t113.desc, size := 3, bytes := 12, zero := [.int .u32 (.lit (0)), .int .u32 (.lit (0)), .int .u32 (.lit (0))], agg := true, flat := true }
theorem td114_ok : TDO 114 td114 := tdA Tryd.t114 Tryd.type114 Tryd.underlying114
noncomputable def td115 : TD := { d := Tryd.t115.desc, size := 1, bytes := 8, zero := [.nilfunc], agg := false, flat := true }
theorem td115_ok : TDO 115 td115 := tdS Tryd.t115 Tryd.type115 Tryd.underlying115
noncomputable def td116 : TD := { d := Tryd.t116.desc, size := 32, bytes := 32, zero := [.int .u8 (.lit (0)), .int .u8 (.lit (0)), .int .u8 (.lit (0)), .int .u8 (.lit (0)), .int .u8 (.lit (0)), .int .u8 (.lit (0)), .int .u8 (.lit (0)), .int .u8 (.lit (0)), .int .u8 (.lit (0)), .int .u8 (.lit (0)), .int .u8 (.lit (0)), .int .u8 (.lit (0)), .int .u8 (.lit (0)), .int .u8 (.lit (0)), .int .u8 (.lit (0)), .int .u8 (.lit (0)), .int .u8 (.lit (0)), .int .u8 (.lit (0)), .int .u8 (.lit (0)), .int .u8 (.lit (0)), .int .u8 (.lit (0)), .int .u8 (.lit (0)), .int .u8 (.lit (0)), .int .u8 (.lit (0)), .int .u8 (.lit (0)), .int .u8 (.lit (0)), .int .u8 (.lit (0)), .int .u8 (.lit (0)), .int .u8 (.lit (0)), .int .u8 (.lit (0)), .int .u8 (.lit (0)), .int .u8 (.lit (0))], agg := true, flat := true }
theorem td116_ok : TDO 116 td116 := tdA Tryd.t116 Tryd.type116 Tryd.underlying116
noncomputable def td117 : TD := { d := Tryd.t117.desc, size := 64, bytes := 64, zero := [.int .u8 (.lit (0)), .int .u8 (.lit (0)), .int .u8 (.lit (0)), .int .u8 (.lit (0)), .int .u8 (.lit (0)), .int .u8 (.lit (0)), .int .u8 (.lit (0)), .int .u8 (.lit (0)), .int .u8 (.lit (0)), .int .u8 (.lit (0)), .int .u8 (.lit (0)), .int .u8 (.lit (0)), .int .u8 (.lit (0)), .int .u8 (.lit (0)), .int .u8 (.lit (0)), .int .u8 (.lit (0)), .int .u8 (.lit (0)), .int .u8 (.lit (0)), .int .u8 (.lit (0)), .int .u8 (.lit (0)), .int .u8 (.lit (0)), .int .u8 (.lit (0)), .int .u8 (.lit (0)), .int .u8 (.lit (0)), .int .u8 (.lit (0)), .int .u8 (.lit (0)), .int .u8 (.lit (0)), .int .u8 (.lit (0)), .int .u8 (.lit (0)), .int .u8 (.lit (0)), .int .u8 (.lit (0)), .int .u8 (.lit (0)), .int .u8 (.lit (0)), .int .u8 (.lit (0)), .int .u8 (.lit (0)), .int .u8 (.lit (0)), .int .u8 (.lit (0)), .int .u8 (.lit (0)), .int .u8 (.lit (0)), .int .u8 (.lit (0)), .int .u8 (.lit (0)), .int .u8 (.lit (0)), .int .u8 (.lit (0)), .int .u8 (.lit (0)), .int .u8 (.lit (0)), .int .u8 (.lit (0)), .int .u8 (.lit (0)), .int .u8 (.lit (0)), .int .u8 (.lit (0)), .int .u8 (.lit (0)), .int .u8 (.lit (0)), .int .u8 (.lit (0)), .int .u8 (.lit (0)), .int .u8 (.lit (0)), .int .u8 (.lit (0)), .int .u8 (.lit (0)), .int .u8 (.lit (0)), .int .u8 (.lit (0)), .int .u8 (.lit (0)), .int .u8 (.lit (0)), .int .u8 (.lit (0)), .int .u8 (.lit (0)), .int .u8 (.lit (0)), .int .u8 (.lit (0))], agg := true, flat := true }
theorem td117_ok : TDO 117 td117 := tdA Tryd.t117 Tryd.type117 Tryd.underlying117
noncomputable def td118 : TD := { d := Tryd.t118.desc, size := 1, bytes := 8, zero := [.nilptr], agg := false, flat := true }
theorem td118_ok : TDO 118 td118 := tdS Tryd.t118 Tryd.type118 Tryd.underlying118
noncomputable def td119 : TD := { d := Tryd.t119.desc, size := 1, bytes := 8, zero := [.nilptr], agg := false, flat := true }
theorem td119_ok : TDO 119 td119 := tdS Tryd.t119 Tryd.type119 Tryd.underlying119
noncomputable def td120 : TD := { d := Tryd.t120.desc, size := 1, bytes := 8, zero := [.nilptr], agg := false, flat := true }
theorem td120_ok : TDO 120 td120 := tdS Tryd.t120 Tryd.type120 Tryd.underlying120
noncomputable def td121 : TD := { d := Tryd.t121.desc, size := 1, bytes := 8, zero := [.nilptr], agg := false, flat := true }
theorem td121_ok : TDO 121 td121 := tdS Tryd.t121 Tryd.type121 Tryd.underlying121
noncomputable def td122 : TD := { d := Tryd.t122.desc, size := 1, bytes := 8, zero := [.nilfunc], agg := false, flat := true }
theorem td122_ok : TDO 122 td122 := tdS Tryd.t122 Tryd.type122 Tryd.underlying122
noncomputable def td123 : TD := { d := Tryd.t123.desc, size := 1, bytes := 8, zero := [.nilfunc], agg := false, flat := true }
theorem td123_ok : TDO 123 td123 := tdS Tryd.t123 Tryd.type123 Tryd.underlying123
noncomputable def td124 : TD := { d := Tryd.t124.desc, size := 4, bytes := 40, zero := [.nilptr, .nilptr, .nilptr, .str (.slit [])], agg := true, flat := false }
theorem td124_ok : TDO 124 td124 := .of Tryd.t124 Tryd.type124 Tryd.underlying124 ⟨by kernel_rfl, by kernel_rfl, by kernel_rfl⟩ (by kernel_rfl) (by kernel_rfl) (fun h _ => absurd (h.symm.trans (show td124.flat = false by kernel_rfl)) (by decide))
noncomputable def td125 : TD := { d := Tryd.t124.desc, size := 4, bytes := 40, zero := [.nilptr, .nilptr, .nilptr, .str (.slit [])], agg := true, flat := false }
theorem td125_ok : TDO 125 td125 := .of Tryd.t125 Tryd.type125 Tryd.underlying125 ⟨by kernel_rfl, by kernel_rfl, by kernel_rfl⟩ (by kernel_rfl) (by kernel_rfl) (fun h _ => absurd (h.symm.trans (show td125.flat = false by kernel_rfl)) (by decide))
noncomputable def td126 : TD := { d := Tryd.t126.desc, size := 0, bytes := 0, zero := [], agg := true, flat := true }
theorem td126_ok : TDO 126 td126 := tdA Tryd.t126 Tryd.type126 Tryd.underlying126
noncomputable def td127 : TD := { d := Tryd.t127.desc, size := 0, bytes := 0, zero := [], agg := true, flat := false }
theorem td127_ok : TDO 127 td127 := .of Tryd.t127 Tryd.type127 Tryd.underlying127 ⟨by kernel_rfl, by kernel_rfl, by kernel_rfl⟩ (by kernel_rfl) (by kernel_rfl) (fun h _ => absurd (h.symm.trans (show td127.flat = false by kernel_rfl)) (by decide))
noncomputable def td128 : TD := { d := Tryd.t127.desc, size := 0, bytes := 0, zero := [], agg := true, flat := false }
theorem td128_ok : TDO 128 td128 := .of Tryd.t128 Tryd.type128 Tryd.underlying128 ⟨by kernel_rfl, by kernel_rfl, by kernel_rfl⟩ (by kernel_rfl) (by kernel_rfl) (fun h _ => absurd (h.symm.trans (show td128.flat = false by kernel_rfl)) (by decide))
noncomputable def td129 : TD := { d := Tryd.t129.desc, size := 1, bytes := 8, zero := [.nilfunc], agg := false, flat := true }
theorem td129_ok : TDO 129 td129 := tdS Tryd.t129 Tryd.type129 Tryd.underlying129
noncomputable def td130 : TD := { d := Tryd.t5.desc, size := 1, bytes := 1, zero := [.int .u8 (.lit (0))], agg := false, flat := true }
theorem td130_ok : TDO 130 td130 := tdS Tryd.t130 Tryd.type130 Tryd.underlying130
noncomputable def td131 : TD := { d := Tryd.t5.desc, size := 1, bytes := 1, zero := [.int .u8 (.lit (0))], agg := false, flat := true }
theorem td131_ok : TDO 131 td131 := tdS Tryd.t131 Tryd.type131 Tryd.underlying131
noncomputable def td132 : TD := { d := Tryd.t132.desc, size := 1, bytes := 8, zero := [.nilfunc], agg := false, flat := true }
theorem td132_ok : TDO 132 td132 := tdS Tryd.t132 Tryd.type132 Tryd.underlying132
noncomputable def td133 : TD := { d := Tryd.t21.desc, size := 1, bytes := 4, zero := [.int .i32 (.lit (0))], agg := false, flat := true }
theorem td133_ok : TDO 133 td133 := tdS Tryd.t133 Tryd.type133 Tryd.underlying133
noncomputable def td134 : TD := { d := Tryd.t21.desc, size := 1, bytes := 4, zero := [.int .i32 (.lit (0))], agg := false, flat := true }
theorem td134_ok : TDO 134 td134 := tdS Tryd.t134 Tryd.type134 Tryd.underlying134
noncomputable def td135 : TD := { d := Tryd.t135.desc, size := 11, bytes := 48, zero := [.int .u64 (.lit (0)), .int .u64 (.lit (0)), .int .u32 (.lit (0)), .int .u8 (.lit (0)), .int .u8 (.lit (0)), .int .u8 (.lit (0)), .int .u8 (.lit (0)), .nilfunc, .nilptr, .int .i32 (.lit (0)), .int .i32 (.lit (0))], agg := true, flat := false }
theorem td135_ok : TDO 135 td135 := .of Tryd.t135 Tryd.type135 Tryd.underlying135 ⟨by kernel_rfl, by kernel_rfl, by kernel_rfl⟩ (by kernel_rfl) (by kernel_rfl) (fun h _ => absurd (h.symm.trans (show td135.flat = false by kernel_rfl)) (by decide))
noncomputable def td136 : TD := { d := Tryd.t135.desc, size := 11, bytes := 48, zero := [.int .u64 (.lit (0)), .int .u64 (.lit (0)), .int .u32 (.lit (0)), .int .u8 (.lit (0)), .int .u8 (.lit (0)), .int .u8 (.lit (0)), .int .u8 (.lit (0)), .nilfunc, .nilptr, .int .i32 (.lit (0)), .int .i32 (.lit (0))], agg := true, flat := false }
theorem td136_ok : TDO 136 td136 := .of Tryd.t136 Tryd.type136 Tryd.underlying136 ⟨by kernel_rfl, by kernel_rfl, by kernel_rfl⟩ (by kernel_rfl) (by kernel_rfl) (fun h _ => absurd (h.symm.trans (show td136.flat = false by kernel_rfl)) (by decide))
noncomputable def tt : T TD :=
 (.node (.node (.node (.node (.node (.node (.node (.node .nil none (.node .nil (some td128) .nil)) none (.node .nil (some td64) .nil)) none (.node .nil (some td32) (.node .nil (some td96) .nil))) none (.node (.node .nil none (.node .nil (some td80) .nil)) (some td16) (.node .nil (some td48) (.node .nil (some td112) .nil)))) none (.node (.node (.node (.node .nil none (.node .nil (some td136) .nil)) none (.node .nil (some td72) .nil)) none (.node .nil (some td40) (.node .nil (some td104) .nil))) (some td8) (.node (.node .nil none (.node .nil (some td88) .nil)) (some td24) (.node .nil (some td56) (.node .nil (some td120) .nil))))) none (.node (.node (.node (.node (.node .nil none (.node .nil (some td132) .nil)) none (.node .nil (some td68) .nil)) none (.node .nil (some td36) (.node .nil (some td100) .nil))) none (.node (.node .nil none (.node .nil (some td84) .nil)) (some td20) (.node .nil (some td52) (.node .nil (some td116) .nil)))) (some td4) (.node (.node (.node .nil none (.node .nil (some td76) .nil)) none (.node .nil (some td44) (.node .nil (some td108) .nil))) (some td12) (.node (.node .nil none (.node .nil (some td92) .nil)) (some td28) (.node .nil (some td60) (.node .nil (some td124) .nil)))))) none (.node (.node (.node (.node (.node (.node .nil none (.node .nil (some td130) .nil)) none (.node .nil (some td66) .nil)) none (.node .nil (some td34) (.node .nil (some td98) .nil))) none (.node (.node .nil none (.node .nil (some td82) .nil)) (some td18) (.node .nil (some td50) (.node .nil (some td114) .nil)))) none (.node (.node (.node .nil none (.node .nil (some td74) .nil)) none (.node .nil (some td42) (.node .nil (some td106) .nil))) (some td10) (.node (.node .nil none (.node .nil (some td90) .nil)) (some td26) (.node .nil (some td58) (.node .nil (some td122) .nil))))) (some td2) (.node (.node (.node (.node (.node .nil none (.node .nil (some td134) .nil)) none (.node .nil (some td70) .nil)) none (.node .nil (some td38) (.node .nil (some td102) .nil))) none (.node (.node .nil none (.node .nil (some td86) .nil)) (some td22) (.node .nil (some td54) (.node .nil (some td118) .nil)))) (some td6) (.node (.node (.node .nil none (.node .nil (some td78) .nil)) none (.node .nil (some td46) (.node .nil (some td110) .nil))) (some td14) (.node (.node .nil none (.node .nil (some td94) .nil)) (some td30) (.node .nil (some td62) (.node .nil (some td126) .nil))))))) (some td0) (.node (.node (.node (.node (.node (.node (.node .nil none (.node .nil (some td129) .nil)) none (.node .nil (some td65) .nil)) none (.node .nil (some td33) (.node .nil (some td97) .nil))) none (.node (.node .nil none (.node .nil (some td81) .nil)) (some td17) (.node .nil (some td49) (.node .nil (some td113) .nil)))) none (.node (.node (.node .nil none (.node .nil (some td73) .nil)) none (.node .nil (some td41) (.node .nil (some td105) .nil))) (some td9) (.node (.node .nil none (.node .nil (some td89) .nil)) (some td25) (.node .nil (some td57) (.node .nil (some td121) .nil))))) none (.node (.node (.node (.node (.node .nil none (.node .nil (some td133) .nil)) none (.node .nil (some td69) .nil)) none (.node .nil (some td37) (.node .nil (some td101) .nil))) none (.node (.node .nil none (.node .nil (some td85) .nil)) (some td21) (.node .nil (some td53) (.node .nil (some td117) .nil)))) (some td5) (.node (.node (.node .nil none (.node .nil (some td77) .nil)) none (.node .nil (some td45) (.node .nil (some td109) .nil))) (some td13) (.node (.node .nil none (.node .nil (some td93) .nil)) (some td29) (.node .nil (some td61) (.node .nil (some td125) .nil)))))) (some td1) (.node (.node (.node (.node (.node (.node .nil none (.node .nil (some td131) .nil)) none (.node .nil (some td67) .nil)) none (.node .nil (some td35) (.node .nil (some td99) .nil))) none (.node (.node .nil none (.node .nil (some td83) .nil)) (some td19) (.node .nil (some td51) (.node .nil (some td115) .nil)))) none (.node (.node (.node .nil none (.node .nil (some td75) .nil)) none (.node .nil (some td43) (.node .nil (some td107) .nil))) (some td11) (.node (.node .nil none (.node .nil (some td91) .nil)) (some td27) (.node .nil (some td59) (.node .nil (some td123) .nil))))) (some td3) (.node (.node (.node (.node (.node .nil none (.node .nil (some td135) .nil)) none (.node .nil (some td71) .nil)) none (.node .nil (some td39) (.node .nil (some td103) .nil))) none (.node (.node .nil none (.node .nil (some td87) .nil)) (some td23) (.node .nil (some td55) (.node .nil (some td119) .nil)))) (some td7) (.node (.node (.node .nil none (.node .nil (some td79) .nil)) none (.node .nil (some td47) (.node .nil (some td111) .nil))) (some td15) (.node (.node .nil none (.node .nil (some td95) .nil)) (some td31) (.node .nil (some td63) (.node .nil (some td127) .nil))))))))
noncomputable def ttl : List (Nat × TD) := [(0, td0), (128, td128), (64, td64), (32, td32), (96, td96), (16, td16), (80, td80), (48, td48), (112, td112), (8, td8), (136, td136), (72, td72), (40, td40), (104, td104), (24, td24), (88, td88), (56, td56), (120, td120), (4, td4), (132, td132), (68, td68), (36, td36), (100, td100), (20, td20), (84, td84), (52, td52), (116, td116), (12, td12), (76, td76), (44, td44), (108, td108), (28, td28), (92, td92), (60, td60), (124, td124), (2, td2), (130, td130), (66, td66), (34, td34), (98, td98), (18, td18), (82, td82), (50, td50), (114, td114), (10, td10), (74, td74), (42, td42), (106, td106), (26, td26), (90, td90), (58, td58), (122, td122), (6, td6), (134, td134), (70, td70), (38, td38), (102, td102), (22, td22), (86, td86), (54, td54), (118, td118), (14, td14), (78, td78), (46, td46), (110, td110), (30, td30), (94, td94), (62, td62), (126, td126), (1, td1), (129, td129), (65, td65), (33, td33), (97, td97), (17, td17), (81, td81), (49, td49), (113, td113), (9, td9), (73, td73), (41, td41), (105, td105), (25, td25), (89, td89), (57, td57), (121, td121), (5, td5), (133, td133), (69, td69), (37, td37), (101, td101), (21, td21), (85, td85), (53, td53), (117, td117), (13, td13), (77, td77), (45, td45), (109, td109), (29, td29), (93, td93), (61, td61), (125, td125), (3, td3), (131, td131), (67, td67), (35, td35), (99, td99), (19, td19), (83, td83), (51, td51), (115, td115), (11, td11), (75, td75), (43, td43), (107, td107), (27, td27), (91, td91), (59, td59), (123, td123), (7, td7), (135, td135), (71, td71), (39, td39), (103, td103), (23, td23), (87, td87), (55, td55), (119, td119), (15, td15), (79, td79), (47, td47), (111, td111), (31, td31), (95, td95), (63, td63), (127, td127)]
theorem tt_ok : TOk Tryd.prog tt := .of_list (l := ttl) (by kernel_rfl) (show AllL (TDOk Tryd.prog) ttl from ⟨td0_ok, td128_ok, td64_ok, td32_ok, td96_ok, td16_ok, td80_ok, td48_ok, td112_ok, td8_ok, td136_ok, td72_ok, td40_ok, td104_ok, td24_ok, td88_ok, td56_ok, td120_ok, td4_ok, td132_ok, td68_ok, td36_ok, td100_ok, td20_ok, td84_ok, td52_ok, td116_ok, td12_ok, td76_ok, td44_ok, td108_ok, td28_ok, td92_ok, td60_ok, td124_ok, td2_ok, td130_ok, td66_ok, td34_ok, td98_ok, td18_ok, td82_ok, td50_ok, td114_ok, td10_ok, td74_ok, td42_ok, td106_ok, td26_ok, td90_ok, td58_ok, td122_ok, td6_ok, td134_ok, td70_ok, td38_ok, td102_ok, td22_ok, td86_ok, td54_ok, td118_ok, td14_ok, td78_ok, td46_ok, td110_ok, td30_ok, td94_ok, td62_ok, td126_ok, td1_ok, td129_ok, td65_ok, td33_ok, td97_ok, td17_ok, td81_ok, td49_ok, td113_ok, td9_ok, td73_ok, td41_ok, td105_ok, td25_ok, td89_ok, td57_ok, td121_ok, td5_ok, td133_ok, td69_ok, td37_ok, td101_ok, td21_ok, td85_ok, td53_ok, td117_ok, td13_ok, td77_ok, td45_ok, td109_ok, td29_ok, td93_ok, td61_ok, td125_ok, td3_ok, td131_ok, td67_ok, td35_ok, td99_ok, td19_ok, td83_ok, td51_ok, td115_ok, td11_ok, td75_ok, td43_ok, td107_ok, td27_ok, td91_ok, td59_ok, td123_ok, td7_ok, td135_ok, td71_ok, td39_ok, td103_ok, td23_ok, td87_ok, td55_ok, td119_ok, td15_ok, td79_ok, td47_ok, td111_ok, td31_ok, td95_ok, td63_ok, td127_ok, trivial⟩)
noncomputable def ft : T Func :=
 (.node (.node (.node (.node (.node (.node (.node .nil none (.node .nil (some Tryd.f64) .nil)) none (.node .nil (some Tryd.f32) .nil)) none (.node (.node .nil none (.node .nil (some Tryd.f80) .nil)) (some Tryd.f16) (.node .nil (some Tryd.f48) .nil))) none (.node (.node (.node .nil none (.node .nil (some Tryd.f72) .nil)) none (.node .nil (some Tryd.f40) .nil)) (some Tryd.f8) (.node (.node .nil none (.node .nil (some Tryd.f88) .nil)) (some Tryd.f24) (.node .nil (some Tryd.f56) .nil)))) none (.node (.node (.node (.node .nil none (.node .nil (some Tryd.f68) .nil)) none (.node .nil (some Tryd.f36) .nil)) none (.node (.node .nil none (.node .nil (some Tryd.f84) .nil)) (some Tryd.f20) (.node .nil (some Tryd.f52) .nil))) (some Tryd.f4) (.node (.node (.node .nil none (.node .nil (some Tryd.f76) .nil)) none (.node .nil (some Tryd.f44) .nil)) (some Tryd.f12) (.node .nil (some Tryd.f28) (.node .nil (some Tryd.f60) .nil))))) none (.node (.node (.node (.node (.node .nil none (.node .nil (some Tryd.f66) .nil)) none (.node .nil (some Tryd.f34) .nil)) none (.node (.node .nil none (.node .nil (some Tryd.f82) .nil)) (some Tryd.f18) (.node .nil (some Tryd.f50) .nil))) none (.node (.node (.node .nil none (.node .nil (some Tryd.f74) .nil)) none (.node .nil (some Tryd.f42) .nil)) (some Tryd.f10) (.node (.node .nil none (.node .nil (some Tryd.f90) .nil)) (some Tryd.f26) (.node .nil (some Tryd.f58) (.node .nil (some Tryd.f122) .nil))))) (some Tryd.f2) (.node (.node (.node (.node .nil none (.node .nil (some Tryd.f70) .nil)) none (.node .nil (some Tryd.f38) .nil)) none (.node (.node .nil none (.node .nil (some Tryd.f86) .nil)) (some Tryd.f22) (.node .nil (some Tryd.f54) .nil))) (some Tryd.f6) (.node (.node (.node .nil none (.node .nil (some Tryd.f78) .nil)) none (.node .nil (some Tryd.f46) .nil)) (some Tryd.f14) (.node .nil (some Tryd.f30) (.node .nil (some Tryd.f62) .nil)))))) none (.node (.node (.node (.node (.node (.node .nil none (.node .nil (some Tryd.f65) .nil)) none (.node .nil (some Tryd.f33) .nil)) none (.node (.node .nil none (.node .nil (some Tryd.f81) .nil)) (some Tryd.f17) (.node .nil (some Tryd.f49) .nil))) none (.node (.node (.node .nil none (.node .nil (some Tryd.f73) .nil)) none (.node .nil (some Tryd.f41) .nil)) (some Tryd.f9) (.node (.node .nil none (.node .nil (some Tryd.f89) .nil)) (some Tryd.f25) (.node .nil (some Tryd.f57) .nil)))) none (.node (.node (.node (.node .nil none (.node .nil (some Tryd.f69) .nil)) none (.node .nil (some Tryd.f37) .nil)) none (.node (.node .nil none (.node .nil (some Tryd.f85) .nil)) (some Tryd.f21) (.node .nil (some Tryd.f53) .nil))) (some Tryd.f5) (.node (.node (.node .nil none (.node .nil (some Tryd.f77) .nil)) none (.node .nil (some Tryd.f45) .nil)) (some Tryd.f13) (.node .nil (some Tryd.f29) (.node .nil (some Tryd.f61) .nil))))) none (.node (.node (.node (.node (.node .nil none (.node .nil (some Tryd.f67) .nil)) none (.node .nil (some Tryd.f35) .nil)) none (.node (.node .nil none (.node .nil (some Tryd.f83) .nil)) (some Tryd.f19) (.node .nil (some Tryd.f51) .nil))) none (.node (.node (.node .nil none (.node .nil (some Tryd.f75) .nil)) none (.node .nil (some Tryd.f43) .nil)) (some Tryd.f11) (.node (.node .nil none (.node .nil (some Tryd.f91) .nil)) (some Tryd.f27) (.node .nil (some Tryd.f59) .nil)))) (some Tryd.f3) (.node (.node (.node (.node .nil none (.node .nil (some Tryd.f71) .nil)) none (.node .nil (some Tryd.f39) .nil)) none (.node (.node .nil none (.node .nil (some Tryd.f87) .nil)) (some Tryd.f23) (.node .nil (some Tryd.f55) .nil))) (some Tryd.f7) (.node (.node (.node .nil none (.node .nil (some Tryd.f79) .nil)) none (.node .nil (some Tryd.f47) .nil)) (some Tryd.f15) (.node .nil (some Tryd.f31) (.node .nil (some Tryd.f63) .nil)))))))
noncomputable def ftl : List (Nat × Func) := [(64, Tryd.f64), (32, Tryd.f32), (16, Tryd.f16), (80, Tryd.f80), (48, Tryd.f48), (8, Tryd.f8), (72, Tryd.f72), (40, Tryd.f40), (24, Tryd.f24), (88, Tryd.f88), (56, Tryd.f56), (4, Tryd.f4), (68, Tryd.f68), (36, Tryd.f36), (20, Tryd.f20), (84, Tryd.f84), (52, Tryd.f52), (12, Tryd.f12), (76, Tryd.f76), (44, Tryd.f44), (28, Tryd.f28), (60, Tryd.f60), (2, Tryd.f2), (66, Tryd.f66), (34, Tryd.f34), (18, Tryd.f18), (82, Tryd.f82), (50, Tryd.f50), (10, Tryd.f10), (74, Tryd.f74), (42, Tryd.f42), (26, Tryd.f26), (90, Tryd.f90), (58, Tryd.f58), (122, Tryd.f122), (6, Tryd.f6), (70, Tryd.f70), (38, Tryd.f38), (22, Tryd.f22), (86, Tryd.f86), (54, Tryd.f54), (14, Tryd.f14), (78, Tryd.f78), (46, Tryd.f46), (30, Tryd.f30), (62, Tryd.f62), (65, Tryd.f65), (33, Tryd.f33), (17, Tryd.f17), (81, Tryd.f81), (49, Tryd.f49), (9, Tryd.f9), (73, Tryd.f73), (41, Tryd.f41), (25, Tryd.f25), (89, Tryd.f89), (57, Tryd.f57), (5, Tryd.f5), (69, Tryd.f69), (37, Tryd.f37), (21, Tryd.f21), (85, Tryd.f85), (53, Tryd.f53), (13, Tryd.f13), (77, Tryd.f77), (45, Tryd.f45), (29, Tryd.f29), (61, Tryd.f61), (3, Tryd.f3), (67, Tryd.f67), (35, Tryd.f35), (19, Tryd.f19), (83, Tryd.f83), (51, Tryd.f51), (11, Tryd.f11), (75, Tryd.f75), (43, Tryd.f43), (27, Tryd.f27), (91, Tryd.f91), (59, Tryd.f59), (7, Tryd.f7), (71, Tryd.f71), (39, Tryd.f39), (23, Tryd.f23), (87, Tryd.f87), (55, Tryd.f55), (15, Tryd.f15), (79, Tryd.f79), (47, Tryd.f47), (31, Tryd.f31), (63, Tryd.f63)]
theorem fn2_ok : FnO 2 Tryd.f2 := fnS Tryd.func2
theorem fn3_ok : FnO 3 Tryd.f3 := fnS Tryd.func3
theorem fn4_ok : FnO 4 Tryd.f4 := fnS Tryd.func4
theorem fn5_ok : FnO 5 Tryd.f5 := fnS Tryd.func5
theorem fn6_ok : FnO 6 Tryd.f6 := fnS Tryd.func6
theorem fn7_ok : FnO 7 Tryd.f7 := fnS Tryd.func7
theorem fn8_ok : FnO 8 Tryd.f8 := fnS Tryd.func8
theorem fn9_ok : FnO 9 Tryd.f9 := fnS Tryd.func9
theorem fn10_ok : FnO 10 Tryd.f10 := fnS Tryd.func10
theorem fn11_ok : FnO 11 Tryd.f11 := fnS Tryd.func11
theorem fn12_ok : FnO 12 Tryd.f12 := fnS Tryd.func12
theorem fn13_ok : FnO 13 Tryd.f13 := fnS Tryd.func13
theorem fn14_ok : FnO 14 Tryd.f14 := fnS Tryd.func14
theorem fn15_ok : FnO 15 Tryd.f15 := fnS Tryd.func15
theorem fn16_ok : FnO 16 Tryd.f16 := fnS Tryd.func16
theorem fn17_ok : FnO 17 Tryd.f17 := fnS Tryd.func17
theorem fn18_ok : FnO 18 Tryd.f18 := fnS Tryd.func18
theorem fn19_ok : FnO 19 Tryd.f19 := fnS Tryd.func19
theorem fn20_ok : FnO 20 Tryd.f20 := fnS Tryd.func20
theorem fn21_ok : FnO 21 Tryd.f21 := fnS Tryd.func21
theorem fn22_ok : FnO 22 Tryd.f22 := fnS Tryd.func22
theorem fn23_ok : FnO 23 Tryd.f23 := fnS Tryd.func23
theorem fn24_ok : FnO 24 Tryd.f24 := fnS Tryd.func24
theorem fn25_ok : FnO 25 Tryd.f25 := fnS Tryd.func25
theorem fn26_ok : FnO 26 Tryd.f26 := fnS Tryd.func26
theorem fn27_ok : FnO 27 Tryd.f27 := fnS Tryd.func27
theorem fn28_ok : FnO 28 Tryd.f28 := fnS Tryd.func28
theorem fn29_ok : FnO 29 Tryd.f29 := fnS Tryd.func29
theorem fn30_ok : FnO 30 Tryd.f30 := fnS Tryd.func30
theorem fn31_ok : FnO 31 Tryd.f31 := fnS Tryd.func31
theorem fn32_ok : FnO 32 Tryd.f32 := fnS Tryd.func32
theorem fn33_ok : FnO 33 Tryd.f33 := fnS Tryd.func33
theorem fn34_ok : FnO 34 Tryd.f34 := fnS Tryd.func34
theorem fn35_ok : FnO 35 Tryd.f35 := fnS Tryd.func35
theorem fn36_ok : FnO 36 Tryd.f36 := fnS Tryd.func36
theorem fn37_ok : FnO 37 Tryd.f37 := fnS Tryd.func37
theorem fn38_ok : FnO 38 Tryd.f38 := fnS Tryd.func38
theorem fn39_ok : FnO 39 Tryd.f39 := fnS Tryd.func39
theorem fn40_ok : FnO 40 Tryd.f40 := fnS Tryd.func40
theorem fn41_ok : FnO 41 Tryd.f41 := fnS Tryd.func41
theorem fn42_ok : FnO 42 Tryd.f42 := fnS Tryd.func42
theorem fn43_ok : FnO 43 Tryd.f43 := fnS Tryd.func43
theorem fn44_ok : FnO 44 Tryd.f44 := fnS Tryd.func44
theorem fn45_ok : FnO 45 Tryd.f45 := fnS Tryd.func45
theorem fn46_ok : FnO 46 Tryd.f46 := fnS Tryd.func46
theorem fn47_ok : FnO 47 Tryd.f47 := fnS Tryd.func47
theorem fn48_ok : FnO 48 Tryd.f48 := fnS Tryd.func48
theorem fn49_ok : FnO 49 Tryd.f49 := fnS Tryd.func49
theorem fn50_ok : FnO 50 Tryd.f50 := fnS Tryd.func50
theorem fn51_ok : FnO 51 Tryd.f51 := fnS Tryd.func51
theorem fn52_ok : FnO 52 Tryd.f52 := fnS Tryd.func52
theorem fn53_ok : FnO 53 Tryd.f53 := fnS Tryd.func53
theorem fn54_ok : FnO 54 Tryd.f54 := fnS Tryd.func54
theorem fn55_ok : FnO 55 Tryd.f55 := fnS Tryd.func55
theorem fn56_ok : FnO 56 Tryd.f56 := fnS Tryd.func56
theorem fn57_ok : FnO 57 Tryd.f57 := fnS Tryd.func57
theorem fn58_ok : FnO 58 Tryd.f58 := fnS Tryd.func58
theorem fn59_ok : FnO 59 Tryd.f59 := fnS Tryd.func59
theorem fn60_ok : FnO 60 Tryd.f60 := fnS Tryd.func60
theorem fn61_ok : FnO 61 Tryd.f61 := fnS Tryd.func61
theorem fn62_ok : FnO 62 Tryd.f62 := fnS Tryd.func62
theorem fn63_ok : FnO 63 Tryd.f63 := fnS Tryd.func63
theorem fn64_ok : FnO 64 Tryd.f64 := fnS Tryd.func64
theorem fn65_ok : FnO 65 Tryd.f65 := fnS Tryd.func65
theorem fn66_ok : FnO 66 Tryd.f66 := fnS Tryd.func66
theorem fn67_ok : FnO 67 Tryd.f67 := fnS Tryd.func67
theorem fn68_ok : FnO 68 Tryd.f68 := fnS Tryd.func68
theorem fn69_ok : FnO 69 Tryd.f69 := fnS Tryd.func69
theorem fn70_ok : FnO 70 Tryd.f70 := fnS Tryd.func70
theorem fn71_ok : FnO 71 Tryd.f71 := fnS Tryd.func71
theorem fn72_ok : FnO 72 Tryd.f72 := fnS Tryd.func72
theorem fn73_ok : FnO 73 Tryd.f73 := fnS Tryd.func73
theorem fn74_ok : FnO 74 Tryd.f74 := fnS Tryd.func74
theorem fn75_ok : FnO 75 Tryd.f75 := fnS Tryd.func75
theorem fn76_ok : FnO 76 Tryd.f76 := fnS Tryd.func76
theorem fn77_ok : FnO 77 Tryd.f77 := fnS Tryd.func77
theorem fn78_ok : FnO 78 Tryd.f78 := fnS Tryd.func78
theorem fn79_ok : FnO 79 Tryd.f79 := fnS Tryd.func79
theorem fn80_ok : FnO 80 Tryd.f80 := fnS Tryd.func80
theorem fn81_ok : FnO 81 Tryd.f81 := fnS Tryd.func81
theorem fn82_ok : FnO 82 Tryd.f82 := fnS Tryd.func82
theorem fn83_ok : FnO 83 Tryd.f83 := fnS Tryd.func83
theorem fn84_ok : FnO 84 Tryd.f84 := fnS Tryd.func84
theorem fn85_ok : FnO 85 Tryd.f85 := fnS Tryd.func85
theorem fn86_ok : FnO 86 Tryd.f86 := fnS Tryd.func86
theorem fn87_ok : FnO 87 Tryd.f87 := fnS Tryd.func87
theorem fn88_ok : FnO 88 Tryd.f88 := fnS Tryd.func88
theorem fn89_ok : FnO 89 Tryd.f89 := fnS Tryd.func89
theorem fn90_ok : FnO 90 Tryd.f90 := fnS Tryd.func90
theorem fn91_ok : FnO 91 Tryd.f91 := fnS Tryd.func91
theorem fn122_ok : FnO 122 Tryd.f122 := fnS Tryd.func122
theorem ft_ok : FOk Tryd.prog ft := .of_list (l := ftl) (by kernel_rfl) (show AllL (FnOk Tryd.prog) ftl from ⟨fn64_ok, fn32_ok, fn16_ok, fn80_ok, fn48_ok, fn8_ok, fn72_ok, fn40_ok, fn24_ok, fn88_ok, fn56_ok, fn4_ok, fn68_ok, fn36_ok, fn20_ok, fn84_ok, fn52_ok, fn12_ok, fn76_ok, fn44_ok, fn28_ok, fn60_ok, fn2_ok, fn66_ok, fn34_ok, fn18_ok, fn82_ok, fn50_ok, fn10_ok, fn74_ok, fn42_ok, fn26_ok, fn90_ok, fn58_ok, fn122_ok, fn6_ok, fn70_ok, fn38_ok, fn22_ok, fn86_ok, fn54_ok, fn14_ok, fn78_ok, fn46_ok, fn30_ok, fn62_ok, fn65_ok, fn33_ok, fn17_ok, fn81_ok, fn49_ok, fn9_ok, fn73_ok, fn41_ok, fn25_ok, fn89_ok, fn57_ok, fn5_ok, fn69_ok, fn37_ok, fn21_ok, fn85_ok, fn53_ok, fn13_ok, fn77_ok, fn45_ok, fn29_ok, fn61_ok, fn3_ok, fn67_ok, fn35_ok, fn19_ok, fn83_ok, fn51_ok, fn11_ok, fn75_ok, fn43_ok, fn27_ok, fn91_ok, fn59_ok, fn7_ok, fn71_ok, fn39_ok, fn23_ok, fn87_ok, fn55_ok, fn15_ok, fn79_ok, fn47_ok, fn31_ok, fn63_ok, trivial⟩)
noncomputable def cx : Cx := { tt := tt, ft := ft, sm := fun _ => none, ng := 7 }
end Go.Proofs.YtfdgdbphdjijdaaDoor
