/- The program's types and functions, as tables. No condition. -/
import Derived.Test.YtodbpiifjpnnbaaGreatDoorProg
import Derived.Test.YtodbpiifjpnnbaaGreatDoorFwG
import Derived.KernelRfl
namespace Go.Proofs.YtodbpiifjpnnbaaGreatDoor
open Go Go.Proofs
set_option maxRecDepth 100000
abbrev TDO := TDOk Tryz.prog
abbrev FnO := FnOk Tryz.prog
theorem tdS {t : TypeId} {td : TD} (i : TypeInfo) (hi : Tryz.prog.info? t = some i) (hu : Tryz.prog.underlying t = some td.d) (hs : i.size = td.size ∧ i.bytes = td.bytes ∧ td.zero.length = td.size := by exact ⟨by kernel_rfl, by kernel_rfl, by kernel_rfl⟩)
  (hz : (i.zero.bind ofValue).map (fun v => (v.cells, isAggV v)) = some (td.zero, td.agg) := by kernel_rfl) (ha : td.agg = (match td.d with | .struct _ | .array _ _ => true | _ => false) := by kernel_rfl) (hn : td.agg = false := by kernel_rfl) : TDO t td :=
 .of i hi hu hs hz ha fun _ h => absurd (h.symm.trans hn) (by decide)
theorem tdA {t : TypeId} {td : TD} (i : TypeInfo) (hi : Tryz.prog.info? t = some i) (hu : Tryz.prog.underlying t = some td.d) (hs : i.size = td.size ∧ i.bytes = td.bytes ∧ td.zero.length = td.size := by exact ⟨by kernel_rfl, by kernel_rfl, by kernel_rfl⟩)
  (hz : (i.zero.bind ofValue).map (fun v => (v.cells, isAggV v)) = some (td.zero, td.agg) := by kernel_rfl) (ha : td.agg = (match td.d with | .struct _ | .array _ _ => true | _ => false) := by kernel_rfl)
  (hg : Tryz.prog.eqGuardType Tryz.prog.depth t = false ∧ Tryz.prog.stoodInHeld t = false ∧ (match td.d with | .struct fs => fs.toList.all fun f => f.name != "_" | _ => true) = true := by exact ⟨by kernel_rfl, by kernel_rfl, by kernel_rfl⟩) : TDO t td :=
 .of i hi hu hs hz ha fun _ _ => hg
theorem fnS {f : Nat} {fn : Func} (h : Tryz.prog.funcs[f]? = some fn) (h1 : (fn.name == "runtime.NumGoroutine") = false := by kernel_rfl) (h2 : fn.body.isSome = true := by kernel_rfl) : FnO f fn := ⟨h, h1, h2⟩
noncomputable def td0 : TD := { d := Tryz.t0.desc, size := 1, bytes := 0, zero := [.tuple []], agg := false, flat := true }
theorem td0_ok : TDO 0 td0 := tdS Tryz.t0 Tryz.type0 Tryz.underlying0
noncomputable def td1 : TD := { d := Tryz.t1.desc, size := 1, bytes := 8, zero := [.nilfunc], agg := false, flat := true }
theorem td1_ok : TDO 1 td1 := tdS Tryz.t1 Tryz.type1 Tryz.underlying1
noncomputable def td2 : TD := { d := Tryz.t2.desc, size := 1, bytes := 8, zero := [.int .i64 (.lit (0))], agg := false, flat := true }
theorem td2_ok : TDO 2 td2 := tdS Tryz.t2 Tryz.type2 Tryz.underlying2
noncomputable def td3 : TD := { d := Tryz.t3.desc, size := 1, bytes := 8, zero := [.int .i64 (.lit (0))], agg := false, flat := true }
theorem td3_ok : TDO 3 td3 := tdS Tryz.t3 Tryz.type3 Tryz.underlying3
noncomputable def td4 : TD := { d := Tryz.t4.desc, size := 1, bytes := 1, zero := [.bool (.lit (0))], agg := false, flat := true }
theorem td4_ok : TDO 4 td4 := tdS Tryz.t4 Tryz.type4 Tryz.underlying4
noncomputable def td5 : TD := { d := Tryz.t5.desc, size := 1, bytes := 1, zero := [.int .u8 (.lit (0))], agg := false, flat := true }
theorem td5_ok : TDO 5 td5 := tdS Tryz.t5 Tryz.type5 Tryz.underlying5
noncomputable def td6 : TD := { d := Tryz.t5.desc, size := 1, bytes := 1, zero := [.int .u8 (.lit (0))], agg := false, flat := true }
theorem td6_ok : TDO 6 td6 := tdS Tryz.t6 Tryz.type6 Tryz.underlying6
noncomputable def td7 : TD := { d := Tryz.t7.desc, size := 4, bytes := 24, zero := [.int .i64 (.lit (0)), .int .i64 (.lit (0)), .bool (.lit (0)), .int .u8 (.lit (0))], agg := true, flat := true }
theorem td7_ok : TDO 7 td7 := tdA Tryz.t7 Tryz.type7 Tryz.underlying7
noncomputable def td8 : TD := { d := Tryz.t7.desc, size := 4, bytes := 24, zero := [.int .i64 (.lit (0)), .int .i64 (.lit (0)), .bool (.lit (0)), .int .u8 (.lit (0))], agg := true, flat := true }
theorem td8_ok : TDO 8 td8 := tdA Tryz.t8 Tryz.type8 Tryz.underlying8
noncomputable def td9 : TD := { d := Tryz.t9.desc, size := 1, bytes := 16, zero := [.str (.slit [])], agg := false, flat := true }
theorem td9_ok : TDO 9 td9 := tdS Tryz.t9 Tryz.type9 Tryz.underlying9
noncomputable def td10 : TD := { d := Tryz.t9.desc, size := 1, bytes := 16, zero := [.str (.slit [])], agg := false, flat := true }
theorem td10_ok : TDO 10 td10 := tdS Tryz.t10 Tryz.type10 Tryz.underlying10
noncomputable def td11 : TD := { d := Tryz.t9.desc, size := 1, bytes := 16, zero := [.str (.slit [])], agg := false, flat := true }
theorem td11_ok : TDO 11 td11 := tdS Tryz.t11 Tryz.type11 Tryz.underlying11
noncomputable def td12 : TD := { d := Tryz.t12.desc, size := 1, bytes := 8, zero := [.int .u64 (.lit (0))], agg := false, flat := true }
theorem td12_ok : TDO 12 td12 := tdS Tryz.t12 Tryz.type12 Tryz.underlying12
noncomputable def td13 : TD := { d := Tryz.t13.desc, size := 2, bytes := 24, zero := [.str (.slit []), .int .u64 (.lit (0))], agg := true, flat := false }
theorem td13_ok : TDO 13 td13 := .of Tryz.t13 Tryz.type13 Tryz.underlying13 ⟨by kernel_rfl, by kernel_rfl, by kernel_rfl⟩ (by kernel_rfl) (by kernel_rfl) (fun h _ => absurd (h.symm.trans (show td13.flat = false by kernel_rfl)) (by decide))
noncomputable def td14 : TD := { d := Tryz.t13.desc, size := 2, bytes := 24, zero := [.str (.slit []), .int .u64 (.lit (0))], agg := true, flat := false }
theorem td14_ok : TDO 14 td14 := .of Tryz.t14 Tryz.type14 Tryz.underlying14 ⟨by kernel_rfl, by kernel_rfl, by kernel_rfl⟩ (by kernel_rfl) (by kernel_rfl) (fun h _ => absurd (h.symm.trans (show td14.flat = false by kernel_rfl)) (by decide))
noncomputable def td15 : TD := { d := Tryz.t15.desc, size := 1, bytes := 8, zero := [.nilptr], agg := false, flat := true }
theorem td15_ok : TDO 15 td15 := tdS Tryz.t15 Tryz.type15 Tryz.underlying15
noncomputable def td16 : TD := { d := Tryz.t16.desc, size := 1, bytes := 8, zero := [.nilptr], agg := false, flat := true }
theorem td16_ok : TDO 16 td16 := tdS Tryz.t16 Tryz.type16 Tryz.underlying16
noncomputable def td17 : TD := { d := Tryz.t17.desc, size := 1, bytes := 8, zero := [.nilptr], agg := false, flat := true }
theorem td17_ok : TDO 17 td17 := tdS Tryz.t17 Tryz.type17 Tryz.underlying17
noncomputable def td18 : TD := { d := Tryz.t18.desc, size := 1, bytes := 8, zero := [.nilptr], agg := true, flat := false }
theorem td18_ok : TDO 18 td18 := .of Tryz.t18 Tryz.type18 Tryz.underlying18 ⟨by kernel_rfl, by kernel_rfl, by kernel_rfl⟩ (by kernel_rfl) (by kernel_rfl) (fun h _ => absurd (h.symm.trans (show td18.flat = false by kernel_rfl)) (by decide))
noncomputable def td19 : TD := { d := Tryz.t18.desc, size := 1, bytes := 8, zero := [.nilptr], agg := true, flat := false }
theorem td19_ok : TDO 19 td19 := .of Tryz.t19 Tryz.type19 Tryz.underlying19 ⟨by kernel_rfl, by kernel_rfl, by kernel_rfl⟩ (by kernel_rfl) (by kernel_rfl) (fun h _ => absurd (h.symm.trans (show td19.flat = false by kernel_rfl)) (by decide))
noncomputable def td20 : TD := { d := Tryz.t20.desc, size := 1, bytes := 16, zero := [.niliface], agg := false, flat := true }
theorem td20_ok : TDO 20 td20 := tdS Tryz.t20 Tryz.type20 Tryz.underlying20
noncomputable def td21 : TD := { d := Tryz.t21.desc, size := 1, bytes := 4, zero := [.int .i32 (.lit (0))], agg := false, flat := true }
theorem td21_ok : TDO 21 td21 := tdS Tryz.t21 Tryz.type21 Tryz.underlying21
noncomputable def td22 : TD := { d := Tryz.t22.desc, size := 1, bytes := 24, zero := [.nilslice], agg := false, flat := true }
theorem td22_ok : TDO 22 td22 := tdS Tryz.t22 Tryz.type22 Tryz.underlying22
noncomputable def td23 : TD := { d := Tryz.t23.desc, size := 1, bytes := 24, zero := [.nilslice], agg := false, flat := true }
theorem td23_ok : TDO 23 td23 := tdS Tryz.t23 Tryz.type23 Tryz.underlying23
noncomputable def td24 : TD := { d := Tryz.t24.desc, size := 4, bytes := 64, zero := [.nilslice, .nilslice, .int .i64 (.lit (0)), .int .i64 (.lit (0))], agg := true, flat := true }
theorem td24_ok : TDO 24 td24 := tdA Tryz.t24 Tryz.type24 Tryz.underlying24
noncomputable def td25 : TD := { d := Tryz.t24.desc, size := 4, bytes := 64, zero := [.nilslice, .nilslice, .int .i64 (.lit (0)), .int .i64 (.lit (0))], agg := true, flat := true }
theorem td25_ok : TDO 25 td25 := tdA Tryz.t25 Tryz.type25 Tryz.underlying25
noncomputable def td26 : TD := { d := Tryz.t26.desc, size := 1, bytes := 8, zero := [.nilfunc], agg := false, flat := true }
theorem td26_ok : TDO 26 td26 := tdS Tryz.t26 Tryz.type26 Tryz.underlying26
noncomputable def td27 : TD := { d := Tryz.t27.desc, size := 1, bytes := 8, zero := [.nilfunc], agg := false, flat := true }
theorem td27_ok : TDO 27 td27 := tdS Tryz.t27 Tryz.type27 Tryz.underlying27
noncomputable def td28 : TD := { d := Tryz.t28.desc, size := 1, bytes := 8, zero := [.nilptr], agg := false, flat := true }
theorem td28_ok : TDO 28 td28 := tdS Tryz.t28 Tryz.type28 Tryz.underlying28
noncomputable def td29 : TD := { d := Tryz.t3.desc, size := 1, bytes := 8, zero := [.int .i64 (.lit (0))], agg := false, flat := true }
theorem td29_ok : TDO 29 td29 := tdS Tryz.t29 Tryz.type29 Tryz.underlying29
noncomputable def td30 : TD := { d := Tryz.t30.desc, size := 1, bytes := 0, zero := [.tuple [.nilptr, .int .i64 (.lit (0))]], agg := false, flat := true }
theorem td30_ok : TDO 30 td30 := tdS Tryz.t30 Tryz.type30 Tryz.underlying30
noncomputable def td31 : TD := { d := Tryz.t31.desc, size := 1, bytes := 8, zero := [.nilfunc], agg := false, flat := true }
theorem td31_ok : TDO 31 td31 := tdS Tryz.t31 Tryz.type31 Tryz.underlying31
noncomputable def td32 : TD := { d := Tryz.t32.desc, size := 1, bytes := 8, zero := [.nilfunc], agg := false, flat := true }
theorem td32_ok : TDO 32 td32 := tdS Tryz.t32 Tryz.type32 Tryz.underlying32
noncomputable def td33 : TD := { d := Tryz.t33.desc, size := 1, bytes := 8, zero := [.nilfunc], agg := false, flat := true }
theorem td33_ok : TDO 33 td33 := tdS Tryz.t33 Tryz.type33 Tryz.underlying33
noncomputable def td34 : TD := { d := Tryz.t34.desc, size := 1, bytes := 8, zero := [.nilfunc], agg := false, flat := true }
theorem td34_ok : TDO 34 td34 := tdS Tryz.t34 Tryz.type34 Tryz.underlying34
noncomputable def td35 : TD := { d := Tryz.t35.desc, size := 1, bytes := 24, zero := [.nilslice], agg := false, flat := true }
theorem td35_ok : TDO 35 td35 := tdS Tryz.t35 Tryz.type35 Tryz.underlying35
noncomputable def td36 : TD := { d := Tryz.t36.desc, size := 1, bytes := 8, zero := [.nilfunc], agg := false, flat := true }
theorem td36_ok : TDO 36 td36 := tdS Tryz.t36 Tryz.type36 Tryz.underlying36
noncomputable def td37 : TD := { d := Tryz.t37.desc, size := 1, bytes := 8, zero := [.nilfunc], agg := false, flat := true }
theorem td37_ok : TDO 37 td37 := tdS Tryz.t37 Tryz.type37 Tryz.underlying37
noncomputable def td38 : TD := { d := Tryz.t38.desc, size := 1, bytes := 8, zero := [.nilptr], agg := false, flat := true }
theorem td38_ok : TDO 38 td38 := tdS Tryz.t38 Tryz.type38 Tryz.underlying38
noncomputable def td39 : TD := { d := Tryz.t39.desc, size := 1, bytes := 8, zero := [.nilfunc], agg := false, flat := true }
theorem td39_ok : TDO 39 td39 := tdS Tryz.t39 Tryz.type39 Tryz.underlying39
noncomputable def td40 : TD := { d := Tryz.t40.desc, size := 1, bytes := 24, zero := [.nilslice], agg := false, flat := true }
theorem td40_ok : TDO 40 td40 := tdS Tryz.t40 Tryz.type40 Tryz.underlying40
noncomputable def td41 : TD := { d := Tryz.t41.desc, size := 1, bytes := 8, zero := [.nilfunc], agg := false, flat := true }
theorem td41_ok : TDO 41 td41 := tdS Tryz.t41 Tryz.type41 Tryz.underlying41
noncomputable def td42 : TD := { d := Tryz.t42.desc, size := 1, bytes := 24, zero := [.nilslice], agg := false, flat := true }
theorem td42_ok : TDO 42 td42 := tdS Tryz.t42 Tryz.type42 Tryz.underlying42
noncomputable def td43 : TD := { d := Tryz.t43.desc, size := 1, bytes := 24, zero := [.nilslice], agg := false, flat := true }
theorem td43_ok : TDO 43 td43 := tdS Tryz.t43 Tryz.type43 Tryz.underlying43
noncomputable def td44 : TD := { d := Tryz.t44.desc, size := 1, bytes := 8, zero := [.nilfunc], agg := false, flat := true }
theorem td44_ok : TDO 44 td44 := tdS Tryz.t44 Tryz.type44 Tryz.underlying44
noncomputable def td45 : TD := { d := Tryz.t45.desc, size := 1, bytes := 0, zero := [.tuple [.nilslice, .int .i64 (.lit (0))]], agg := false, flat := true }
theorem td45_ok : TDO 45 td45 := tdS Tryz.t45 Tryz.type45 Tryz.underlying45
noncomputable def td46 : TD := { d := Tryz.t46.desc, size := 1, bytes := 8, zero := [.nilfunc], agg := false, flat := true }
theorem td46_ok : TDO 46 td46 := tdS Tryz.t46 Tryz.type46 Tryz.underlying46
noncomputable def td47 : TD := { d := Tryz.t3.desc, size := 1, bytes := 8, zero := [.int .i64 (.lit (0))], agg := false, flat := true }
theorem td47_ok : TDO 47 td47 := tdS Tryz.t47 Tryz.type47 Tryz.underlying47
noncomputable def td48 : TD := { d := Tryz.t48.desc, size := 3, bytes := 24, zero := [.int .i64 (.lit (0)), .int .i64 (.lit (0)), .int .i64 (.lit (0))], agg := true, flat := true }
theorem td48_ok : TDO 48 td48 := tdA Tryz.t48 Tryz.type48 Tryz.underlying48
noncomputable def td49 : TD := { d := Tryz.t48.desc, size := 3, bytes := 24, zero := [.int .i64 (.lit (0)), .int .i64 (.lit (0)), .int .i64 (.lit (0))], agg := true, flat := true }
theorem td49_ok : TDO 49 td49 := tdA Tryz.t49 Tryz.type49 Tryz.underlying49
noncomputable def td50 : TD := { d := Tryz.t50.desc, size := 1, bytes := 24, zero := [.nilslice], agg := false, flat := true }
theorem td50_ok : TDO 50 td50 := tdS Tryz.t50 Tryz.type50 Tryz.underlying50
noncomputable def td51 : TD := { d := Tryz.t51.desc, size := 4, bytes := 80, zero := [.nilslice, .nilslice, .nilslice, .bool (.lit (0))], agg := true, flat := true }
theorem td51_ok : TDO 51 td51 := tdA Tryz.t51 Tryz.type51 Tryz.underlying51
noncomputable def td52 : TD := { d := Tryz.t51.desc, size := 4, bytes := 80, zero := [.nilslice, .nilslice, .nilslice, .bool (.lit (0))], agg := true, flat := true }
theorem td52_ok : TDO 52 td52 := tdA Tryz.t52 Tryz.type52 Tryz.underlying52
noncomputable def td53 : TD := { d := Tryz.t53.desc, size := 1, bytes := 0, zero := [.tuple [.agg [.nilslice, .nilslice, .nilslice, .bool (.lit (0))], .int .i64 (.lit (0)), .int .i64 (.lit (0))]], agg := false, flat := true }
theorem td53_ok : TDO 53 td53 := tdS Tryz.t53 Tryz.type53 Tryz.underlying53
noncomputable def td54 : TD := { d := Tryz.t54.desc, size := 1, bytes := 8, zero := [.nilfunc], agg := false, flat := true }
theorem td54_ok : TDO 54 td54 := tdS Tryz.t54 Tryz.type54 Tryz.underlying54
noncomputable def td55 : TD := { d := Tryz.t55.desc, size := 1, bytes := 4, zero := [.int .u32 (.lit (0))], agg := false, flat := true }
theorem td55_ok : TDO 55 td55 := tdS Tryz.t55 Tryz.type55 Tryz.underlying55
noncomputable def td56 : TD := { d := Tryz.t56.desc, size := 32, bytes := 128, zero := [.int .u32 (.lit (0)), .int .u32 (.lit (0)), .int .u32 (.lit (0)), .int .u32 (.lit (0)), .int .u32 (.lit (0)), .int .u32 (.lit (0)), .int .u32 (.lit (0)), .int .u32 (.lit (0)), .int .u32 (.lit (0)), .int .u32 (.lit (0)), .int .u32 (.lit (0)), .int .u32 (.lit (0)), .int .u32 (.lit (0)), .int .u32 (.lit (0)), .int .u32 (.lit (0)), .int .u32 (.lit (0)), .int .u32 (.lit (0)), .int .u32 (.lit (0)), .int .u32 (.lit (0)), .int .u32 (.lit (0)), .int .u32 (.lit (0)), .int .u32 (.lit (0)), .int .u32 (.lit (0)), .int .u32 (.lit (0)), .int .u32 (.lit (0)), .int .u32 (.lit (0)), .int .u32 (.lit (0)), .int .u32 (.lit (0)), .int .u32 (.lit (0)), .int .u32 (.lit (0)), .int .u32 (.lit (0)), .int .u32 (.lit (0))], agg := true, flat := true }
theorem td56_ok : TDO 56 td56 := tdA Tryz.t56 Tryz.type56 Tryz.underlying56
noncomputable def td57 : TD := { d := Tryz.t3.desc, size := 1, bytes := 8, zero := [.int .i64 (.lit (0))], agg := false, flat := true }
theorem td57_ok : TDO 57 td57 := tdS Tryz.t57 Tryz.type57 Tryz.underlying57
noncomputable def td58 : TD := { d := Tryz.t58.desc, size := 35, bytes := 152, zero := [.int .i64 (.lit (0)), .int .u32 (.lit (0)), .int .u32 (.lit (0)), .int .u32 (.lit (0)), .int .u32 (.lit (0)), .int .u32 (.lit (0)), .int .u32 (.lit (0)), .int .u32 (.lit (0)), .int .u32 (.lit (0)), .int .u32 (.lit (0)), .int .u32 (.lit (0)), .int .u32 (.lit (0)), .int .u32 (.lit (0)), .int .u32 (.lit (0)), .int .u32 (.lit (0)), .int .u32 (.lit (0)), .int .u32 (.lit (0)), .int .u32 (.lit (0)), .int .u32 (.lit (0)), .int .u32 (.lit (0)), .int .u32 (.lit (0)), .int .u32 (.lit (0)), .int .u32 (.lit (0)), .int .u32 (.lit (0)), .int .u32 (.lit (0)), .int .u32 (.lit (0)), .int .u32 (.lit (0)), .int .u32 (.lit (0)), .int .u32 (.lit (0)), .int .u32 (.lit (0)), .int .u32 (.lit (0)), .int .u32 (.lit (0)), .int .u32 (.lit (0)), .int .u32 (.lit (0)), .int .i64 (.lit (0))], agg := true, flat := true }
theorem td58_ok : TDO 58 td58 := tdA Tryz.t58 Tryz.type58 Tryz.underlying58
noncomputable def td59 : TD := { d := Tryz.t58.desc, size := 35, bytes := 152, zero := [.int .i64 (.lit (0)), .int .u32 (.lit (0)), .int .u32 (.lit (0)), .int .u32 (.lit (0)), .int .u32 (.lit (0)), .int .u32 (.lit (0)), .int .u32 (.lit (0)), .int .u32 (.lit (0)), .int .u32 (.lit (0)), .int .u32 (.lit (0)), .int .u32 (.lit (0)), .int .u32 (.lit (0)), .int .u32 (.lit (0)), .int .u32 (.lit (0)), .int .u32 (.lit (0)), .int .u32 (.lit (0)), .int .u32 (.lit (0)), .int .u32 (.lit (0)), .int .u32 (.lit (0)), .int .u32 (.lit (0)), .int .u32 (.lit (0)), .int .u32 (.lit (0)), .int .u32 (.lit (0)), .int .u32 (.lit (0)), .int .u32 (.lit (0)), .int .u32 (.lit (0)), .int .u32 (.lit (0)), .int .u32 (.lit (0)), .int .u32 (.lit (0)), .int .u32 (.lit (0)), .int .u32 (.lit (0)), .int .u32 (.lit (0)), .int .u32 (.lit (0)), .int .u32 (.lit (0)), .int .i64 (.lit (0))], agg := true, flat := true }
theorem td59_ok : TDO 59 td59 := tdA Tryz.t59 Tryz.type59 Tryz.underlying59
noncomputable def td60 : TD := { d := Tryz.t60.desc, size := 1, bytes := 0, zero := [.tuple [.nilptr, .int .i64 (.lit (0))]], agg := false, flat := true }
theorem td60_ok : TDO 60 td60 := tdS Tryz.t60 Tryz.type60 Tryz.underlying60
noncomputable def td61 : TD := { d := Tryz.t61.desc, size := 1, bytes := 8, zero := [.nilfunc], agg := false, flat := true }
theorem td61_ok : TDO 61 td61 := tdS Tryz.t61 Tryz.type61 Tryz.underlying61
noncomputable def td62 : TD := { d := Tryz.t62.desc, size := 1, bytes := 8, zero := [.nilfunc], agg := false, flat := true }
theorem td62_ok : TDO 62 td62 := tdS Tryz.t62 Tryz.type62 Tryz.underlying62
noncomputable def td63 : TD := { d := Tryz.t63.desc, size := 1, bytes := 8, zero := [.nilptr], agg := false, flat := true }
theorem td63_ok : TDO 63 td63 := tdS Tryz.t63 Tryz.type63 Tryz.underlying63
noncomputable def td64 : TD := { d := Tryz.t64.desc, size := 1, bytes := 8, zero := [.nilptr], agg := true, flat := true }
theorem td64_ok : TDO 64 td64 := tdA Tryz.t64 Tryz.type64 Tryz.underlying64
noncomputable def td65 : TD := { d := Tryz.t64.desc, size := 1, bytes := 8, zero := [.nilptr], agg := true, flat := true }
theorem td65_ok : TDO 65 td65 := tdA Tryz.t65 Tryz.type65 Tryz.underlying65
noncomputable def td66 : TD := { d := Tryz.t66.desc, size := 1, bytes := 24, zero := [.nilslice], agg := false, flat := true }
theorem td66_ok : TDO 66 td66 := tdS Tryz.t66 Tryz.type66 Tryz.underlying66
noncomputable def td67 : TD := { d := Tryz.t67.desc, size := 1, bytes := 24, zero := [.nilslice], agg := false, flat := true }
theorem td67_ok : TDO 67 td67 := tdS Tryz.t67 Tryz.type67 Tryz.underlying67
noncomputable def td68 : TD := { d := Tryz.t68.desc, size := 1, bytes := 8, zero := [.nilptr], agg := false, flat := true }
theorem td68_ok : TDO 68 td68 := tdS Tryz.t68 Tryz.type68 Tryz.underlying68
noncomputable def td69 : TD := { d := Tryz.t69.desc, size := 1, bytes := 8, zero := [.nilptr], agg := false, flat := true }
theorem td69_ok : TDO 69 td69 := tdS Tryz.t69 Tryz.type69 Tryz.underlying69
noncomputable def td70 : TD := { d := Tryz.t70.desc, size := 4, bytes := 64, zero := [.nilslice, .nilslice, .nilptr, .nilptr], agg := true, flat := true }
theorem td70_ok : TDO 70 td70 := tdA Tryz.t70 Tryz.type70 Tryz.underlying70
noncomputable def td71 : TD := { d := Tryz.t70.desc, size := 4, bytes := 64, zero := [.nilslice, .nilslice, .nilptr, .nilptr], agg := true, flat := true }
theorem td71_ok : TDO 71 td71 := tdA Tryz.t71 Tryz.type71 Tryz.underlying71
noncomputable def td72 : TD := { d := Tryz.t72.desc, size := 1, bytes := 8, zero := [.nilptr], agg := false, flat := true }
theorem td72_ok : TDO 72 td72 := tdS Tryz.t72 Tryz.type72 Tryz.underlying72
noncomputable def td73 : TD := { d := Tryz.t73.desc, size := 1, bytes := 8, zero := [.nilfunc], agg := false, flat := true }
theorem td73_ok : TDO 73 td73 := tdS Tryz.t73 Tryz.type73 Tryz.underlying73
noncomputable def td74 : TD := { d := Tryz.t74.desc, size := 1, bytes := 8, zero := [.nilfunc], agg := false, flat := true }
theorem td74_ok : TDO 74 td74 := tdS Tryz.t74 Tryz.type74 Tryz.underlying74
noncomputable def td75 : TD := { d := Tryz.t75.desc, size := 1, bytes := 24, zero := [.nilslice], agg := true, flat := true }
theorem td75_ok : TDO 75 td75 := tdA Tryz.t75 Tryz.type75 Tryz.underlying75
noncomputable def td76 : TD := { d := Tryz.t75.desc, size := 1, bytes := 24, zero := [.nilslice], agg := true, flat := true }
theorem td76_ok : TDO 76 td76 := tdA Tryz.t76 Tryz.type76 Tryz.underlying76
noncomputable def td77 : TD := { d := Tryz.t77.desc, size := 1, bytes := 8, zero := [.nilfunc], agg := false, flat := true }
theorem td77_ok : TDO 77 td77 := tdS Tryz.t77 Tryz.type77 Tryz.underlying77
noncomputable def td78 : TD := { d := Tryz.t77.desc, size := 1, bytes := 8, zero := [.nilfunc], agg := false, flat := true }
theorem td78_ok : TDO 78 td78 := tdS Tryz.t78 Tryz.type78 Tryz.underlying78
noncomputable def td79 : TD := { d := Tryz.t79.desc, size := 1, bytes := 8, zero := [.nilfunc], agg := false, flat := true }
theorem td79_ok : TDO 79 td79 := tdS Tryz.t79 Tryz.type79 Tryz.underlying79
noncomputable def td80 : TD := { d := Tryz.t3.desc, size := 1, bytes := 8, zero := [.int .i64 (.lit (0))], agg := false, flat := true }
theorem td80_ok : TDO 80 td80 := tdS Tryz.t80 Tryz.type80 Tryz.underlying80
noncomputable def td81 : TD := { d := Tryz.t81.desc, size := 16, bytes := 16, zero := [.int .u8 (.lit (0)), .int .u8 (.lit (0)), .int .u8 (.lit (0)), .int .u8 (.lit (0)), .int .u8 (.lit (0)), .int .u8 (.lit (0)), .int .u8 (.lit (0)), .int .u8 (.lit (0)), .int .u8 (.lit (0)), .int .u8 (.lit (0)), .int .u8 (.lit (0)), .int .u8 (.lit (0)), .int .u8 (.lit (0)), .int .u8 (.lit (0)), .int .u8 (.lit (0)), .int .u8 (.lit (0))], agg := true, flat := true }
theorem td81_ok : TDO 81 td81 := tdA Tryz.t81 Tryz.type81 Tryz.underlying81
noncomputable def td82 : TD := { d := Tryz.t82.desc, size := 18, bytes := 32, zero := [.int .u32 (.lit (0)), .int .i64 (.lit (0)), .int .u8 (.lit (0)), .int .u8 (.lit (0)), .int .u8 (.lit (0)), .int .u8 (.lit (0)), .int .u8 (.lit (0)), .int .u8 (.lit (0)), .int .u8 (.lit (0)), .int .u8 (.lit (0)), .int .u8 (.lit (0)), .int .u8 (.lit (0)), .int .u8 (.lit (0)), .int .u8 (.lit (0)), .int .u8 (.lit (0)), .int .u8 (.lit (0)), .int .u8 (.lit (0)), .int .u8 (.lit (0))], agg := true, flat := true }
theorem td82_ok : TDO 82 td82 := tdA Tryz.t82 Tryz.type82 Tryz.underlying82
noncomputable def td83 : TD := { d := Tryz.t82.desc, size := 18, bytes := 32, zero := [.int .u32 (.lit (0)), .int .i64 (.lit (0)), .int .u8 (.lit (0)), .int .u8 (.lit (0)), .int .u8 (.lit (0)), .int .u8 (.lit (0)), .int .u8 (.lit (0)), .int .u8 (.lit (0)), .int .u8 (.lit (0)), .int .u8 (.lit (0)), .int .u8 (.lit (0)), .int .u8 (.lit (0)), .int .u8 (.lit (0)), .int .u8 (.lit (0)), .int .u8 (.lit (0)), .int .u8 (.lit (0)), .int .u8 (.lit (0)), .int .u8 (.lit (0))], agg := true, flat := true }
theorem td83_ok : TDO 83 td83 := tdA Tryz.t83 Tryz.type83 Tryz.underlying83
noncomputable def td84 : TD := { d := Tryz.t84.desc, size := 1, bytes := 8, zero := [.nilfunc], agg := false, flat := true }
theorem td84_ok : TDO 84 td84 := tdS Tryz.t84 Tryz.type84 Tryz.underlying84
noncomputable def td85 : TD := { d := Tryz.t85.desc, size := 1, bytes := 8, zero := [.nilfunc], agg := false, flat := true }
theorem td85_ok : TDO 85 td85 := tdS Tryz.t85 Tryz.type85 Tryz.underlying85
noncomputable def td86 : TD := { d := Tryz.t86.desc, size := 1, bytes := 8, zero := [.nilfunc], agg := false, flat := true }
theorem td86_ok : TDO 86 td86 := tdS Tryz.t86 Tryz.type86 Tryz.underlying86
noncomputable def td87 : TD := { d := Tryz.t86.desc, size := 1, bytes := 8, zero := [.nilfunc], agg := false, flat := true }
theorem td87_ok : TDO 87 td87 := tdS Tryz.t87 Tryz.type87 Tryz.underlying87
noncomputable def td88 : TD := { d := Tryz.t88.desc, size := 1, bytes := 8, zero := [.nilfunc], agg := false, flat := true }
theorem td88_ok : TDO 88 td88 := tdS Tryz.t88 Tryz.type88 Tryz.underlying88
noncomputable def td89 : TD := { d := Tryz.t89.desc, size := 8, bytes := 64, zero := [.int .i64 (.lit (0)), .int .i64 (.lit (0)), .int .i64 (.lit (0)), .int .i64 (.lit (0)), .int .i64 (.lit (0)), .int .i64 (.lit (0)), .int .i64 (.lit (0)), .int .i64 (.lit (0))], agg := true, flat := true }
theorem td89_ok : TDO 89 td89 := tdA Tryz.t89 Tryz.type89 Tryz.underlying89
noncomputable def td90 : TD := { d := Tryz.t90.desc, size := 1, bytes := 8, zero := [.nilfunc], agg := false, flat := true }
theorem td90_ok : TDO 90 td90 := tdS Tryz.t90 Tryz.type90 Tryz.underlying90
noncomputable def td91 : TD := { d := Tryz.t91.desc, size := 1, bytes := 8, zero := [.nilfunc], agg := false, flat := true }
theorem td91_ok : TDO 91 td91 := tdS Tryz.t91 Tryz.type91 Tryz.underlying91
noncomputable def td92 : TD := { d := Tryz.t92.desc, size := 1, bytes := 24, zero := [.nilslice], agg := false, flat := true }
theorem td92_ok : TDO 92 td92 := tdS Tryz.t92 Tryz.type92 Tryz.underlying92
noncomputable def td93 : TD := { d := Tryz.t93.desc, size := 1, bytes := 8, zero := [.int .u64 (.lit (0))], agg := false, flat := true }
theorem td93_ok : TDO 93 td93 := tdS Tryz.t93 Tryz.type93 Tryz.underlying93
noncomputable def td94 : TD := { d := Tryz.t94.desc, size := 1, bytes := 8, zero := [.nilptr], agg := false, flat := true }
theorem td94_ok : TDO 94 td94 := tdS Tryz.t94 Tryz.type94 Tryz.underlying94
noncomputable def td95 : TD := { d := Tryz.t95.desc, size := 1, bytes := 0, zero := [.tuple [.nilptr, .int .i64 (.lit (0))]], agg := false, flat := true }
theorem td95_ok : TDO 95 td95 := tdS Tryz.t95 Tryz.type95 Tryz.underlying95
noncomputable def td96 : TD := { d := Tryz.t96.desc, size := 1, bytes := 8, zero := [.nilfunc], agg := false, flat := true }
theorem td96_ok : TDO 96 td96 := tdS Tryz.t96 Tryz.type96 Tryz.underlying96
noncomputable def td97 : TD := { d := Tryz.t97.desc, size := 2, bytes := 32, zero := [.nilptr, .nilslice], agg := true, flat := true }
theorem td97_ok : TDO 97 td97 := tdA Tryz.t97 Tryz.type97 Tryz.underlying97
noncomputable def td98 : TD := { d := Tryz.t97.desc, size := 2, bytes := 32, zero := [.nilptr, .nilslice], agg := true, flat := true }
theorem td98_ok : TDO 98 td98 := tdA Tryz.t98 Tryz.type98 Tryz.underlying98
noncomputable def td99 : TD := { d := Tryz.t99.desc, size := 1, bytes := 0, zero := [.tuple [.nilslice, .int .i64 (.lit (0))]], agg := false, flat := true }
theorem td99_ok : TDO 99 td99 := tdS Tryz.t99 Tryz.type99 Tryz.underlying99
noncomputable def td100 : TD := { d := Tryz.t100.desc, size := 1, bytes := 8, zero := [.nilfunc], agg := false, flat := true }
theorem td100_ok : TDO 100 td100 := tdS Tryz.t100 Tryz.type100 Tryz.underlying100
noncomputable def td101 : TD := { d := Tryz.t101.desc, size := 1, bytes := 8, zero := [.nilfunc], agg := false, flat := true }
theorem td101_ok : TDO 101 td101 := tdS Tryz.t101 Tryz.type101 Tryz.underlying101
noncomputable def td102 : TD := { d := Tryz.t102.desc, size := 1, bytes := 8, zero := [.nilfunc], agg := false, flat := true }
theorem td102_ok : TDO 102 td102 := tdS Tryz.t102 Tryz.type102 Tryz.underlying102
noncomputable def td103 : TD := { d := Tryz.t103.desc, size := 1, bytes := 0, zero := [.tuple [.nilptr, .int .i64 (.lit (0))]], agg := false, flat := true }
theorem td103_ok : TDO 103 td103 := tdS Tryz.t103 Tryz.type103 Tryz.underlying103
noncomputable def td104 : TD := { d := Tryz.t104.desc, size := 1, bytes := 8, zero := [.nilfunc], agg := false, flat := true }
theorem td104_ok : TDO 104 td104 := tdS Tryz.t104 Tryz.type104 Tryz.underlying104
noncomputable def td105 : TD := { d := Tryz.t105.desc, size := 1, bytes := 0, zero := [.tuple [.nilptr, .int .i64 (.lit (0))]], agg := false, flat := true }
theorem td105_ok : TDO 105 td105 := tdS Tryz.t105 Tryz.type105 Tryz.underlying105
noncomputable def td106 : TD := { d := Tryz.t106.desc, size := 1, bytes := 8, zero := [.nilfunc], agg := false, flat := true }
theorem td106_ok : TDO 106 td106 := tdS Tryz.t106 Tryz.type106 Tryz.underlying106
noncomputable def td107 : TD := { d := Tryz.t107.desc, size := 1, bytes := 0, zero := [.tuple [.nilptr, .int .i64 (.lit (0))]], agg := false, flat := true }
theorem td107_ok : TDO 107 td107 := tdS Tryz.t107 Tryz.type107 Tryz.underlying107
noncomputable def td108 : TD := { d := Tryz.t108.desc, size := 1, bytes := 8, zero := [.nilfunc], agg := false, flat := true }
theorem td108_ok : TDO 108 td108 := tdS Tryz.t108 Tryz.type108 Tryz.underlying108
noncomputable def td109 : TD := { d := Tryz.t109.desc, size := 1, bytes := 8, zero := [.nilfunc], agg := false, flat := true }
theorem td109_ok : TDO 109 td109 := tdS Tryz.t109 Tryz.type109 Tryz.underlying109
noncomputable def td110 : TD := { d := Tryz.t110.desc, size := 1, bytes := 8, zero := [.nilptr], agg := false, flat := true }
theorem td110_ok : TDO 110 td110 := tdS Tryz.t110 Tryz.type110 Tryz.underlying110
noncomputable def td111 : TD := { d := Tryz.t111.desc, size := 1, bytes := 0, zero := [.tuple [.nilptr, .int .i64 (.lit (0))]], agg := false, flat := true }
theorem td111_ok : TDO 111 td111 := tdS Tryz.t111 Tryz.type111 Tryz.underlying111
noncomputable def td112 : TD := { d := Tryz.t112.desc, size := 1, bytes := 8, zero := [.nilfunc], agg := false, flat := true }
theorem td112_ok : TDO 112 td112 := tdS Tryz.t112 Tryz.type112 Tryz.underlying112
noncomputable def td113 : TD := { d := Tryz.t113.desc, size := 37, bytes := 184, zero := [.int .i64 (.lit (0)), .int .u32 (.lit (0)), .int .u32 (.lit (0)), .int .u32 (.lit (0)), .int .u32 (.lit (0)), .int .u32 (.lit (0)), .int .u32 (.lit (0)), .int .u32 (.lit (0)), .int .u32 (.lit (0)), .int .u32 (.lit (0)), .int .u32 (.lit (0)), .int .u32 (.lit (0)), .int .u32 (.lit (0)), .int .u32 (.lit (0)), .int .u32 (.lit (0)), .int .u32 (.lit (0)), .int .u32 (.lit (0)), .int .u32 (.lit (0)), .int .u32 (.lit (0)), .int .u32 (.lit (0)), .int .u32 (.lit (0)), .int .u32 (.lit (0)), .int .u32 (.lit (0)), .int .u32 (.lit (0)), .int .u32 (.lit (0)), .int .u32 (.lit (0)), .int .u32 (.lit (0)), .int .u32 (.lit (0)), .int .u32 (.lit (0)), .int .u32 (.lit (0)), .int .u32 (.lit (0)), .int .u32 (.lit (0)), .int .u32 (.lit (0)), .int .u32 (.lit (0)), .int .i64 (.lit (0)), .nilslice, .int .i64 (.lit (0))], agg := true, flat := true }
theorem td113_ok : TDO 113 td113 := tdA Tryz.t113 Tryz.type113 Tryz.underlying113
noncomputable def td114 : TD := { d := Tryz.t113.desc, size := 37, bytes := 184, zero := [.int .i64 (.lit (0)), .int .u32 (.lit (0)), .int .u32 (.lit (0)), .int .u32 (.lit (0)), .int .u32 (.lit (0)), .int .u32 (.lit (0)), .int .u32 (.lit (0)), .int .u32 (.lit (0)), .int .u32 (.lit (0)), .int .u32 (.lit (0)), .int .u32 (.lit (0)), .int .u32 (.lit (0)), .int .u32 (.lit (0)), .int .u32 (.lit (0)), .int .u32 (.lit (0)), .int .u32 (.lit (0)), .int .u32 (.lit (0)), .int .u32 (.lit (0)), .int .u32 (.lit (0)), .int .u32 (.lit (0)), .int .u32 (.lit (0)), .int .u32 (.lit (0)), .int .u32 (.lit (0)), .int .u32 (.lit (0)), .int .u32 (.lit (0)), .int .u32 (.lit (0)), .int .u32 (.lit (0)), .int .u32 (.lit (0)), .int .u32 (.lit (0)), .int .u32 (.lit (0)), .int .u32 (.lit (0)), .int .u32 (.lit (0)), .int .u32 (.lit (0)), .int .u32 (.lit (0)), .int .i64 (.lit (0)), .nilslice, .int .i64 (.lit (0))], agg := true, flat := true }
theorem td114_ok : TDO 114 td114 := tdA Tryz.t114 Tryz.type114 Tryz.underlying114
noncomputable def td115 : TD := { d := Tryz.t115.desc, size := 1, bytes := 8, zero := [.nilptr], agg := false, flat := true }
theorem td115_ok : TDO 115 td115 := tdS Tryz.t115 Tryz.type115 Tryz.underlying115
noncomputable def td116 : TD := { d := Tryz.t116.desc, size := 1, bytes := 8, zero := [.nilptr], agg := false, flat := true }
theorem td116_ok : TDO 116 td116 := tdS Tryz.t116 Tryz.type116 Tryz.underlying116
noncomputable def td117 : TD := { d := Tryz.t117.desc, size := 40, bytes := 208, zero := [.int .i64 (.lit (0)), .int .u32 (.lit (0)), .int .u32 (.lit (0)), .int .u32 (.lit (0)), .int .u32 (.lit (0)), .int .u32 (.lit (0)), .int .u32 (.lit (0)), .int .u32 (.lit (0)), .int .u32 (.lit (0)), .int .u32 (.lit (0)), .int .u32 (.lit (0)), .int .u32 (.lit (0)), .int .u32 (.lit (0)), .int .u32 (.lit (0)), .int .u32 (.lit (0)), .int .u32 (.lit (0)), .int .u32 (.lit (0)), .int .u32 (.lit (0)), .int .u32 (.lit (0)), .int .u32 (.lit (0)), .int .u32 (.lit (0)), .int .u32 (.lit (0)), .int .u32 (.lit (0)), .int .u32 (.lit (0)), .int .u32 (.lit (0)), .int .u32 (.lit (0)), .int .u32 (.lit (0)), .int .u32 (.lit (0)), .int .u32 (.lit (0)), .int .u32 (.lit (0)), .int .u32 (.lit (0)), .int .u32 (.lit (0)), .int .u32 (.lit (0)), .int .u32 (.lit (0)), .int .i64 (.lit (0)), .nilslice, .int .i64 (.lit (0)), .nilptr, .int .i64 (.lit (0)), .nilptr], agg := true, flat := true }
theorem td117_ok : TDO 117 td117 := tdA Tryz.t117 Tryz.type117 Tryz.underlying117
noncomputable def td118 : TD := { d := Tryz.t117.desc, size := 40, bytes := 208, zero := [.int .i64 (.lit (0)), .int .u32 (.lit (0)), .int .u32 (.lit (0)), .int .u32 (.lit (0)), .int .u32 (.lit (0)), .int .u32 (.lit (0)), .int .u32 (.lit (0)), .int .u32 (.lit (0)), .int .u32 (.lit (0)), .int .u32 (.lit (0)), .int .u32 (.lit (0)), .int .u32 (.lit (0)), .int .u32 (.lit (0)), .int .u32 (.lit (0)), .int .u32 (.lit (0)), .int .u32 (.lit (0)), .int .u32 (.lit (0)), .int .u32 (.lit (0)), .int .u32 (.lit (0)), .int .u32 (.lit (0)), .int .u32 (.lit (0)), .int .u32 (.lit (0)), .int .u32 (.lit (0)), .int .u32 (.lit (0)), .int .u32 (.lit (0)), .int .u32 (.lit (0)), .int .u32 (.lit (0)), .int .u32 (.lit (0)), .int .u32 (.lit (0)), .int .u32 (.lit (0)), .int .u32 (.lit (0)), .int .u32 (.lit (0)), .int .u32 (.lit (0)), .int .u32 (.lit (0)), .int .i64 (.lit (0)), .nilslice, .int .i64 (.lit (0)), .nilptr, .int .i64 (.lit (0)), .nilptr], agg := true, flat := true }
theorem td118_ok : TDO 118 td118 := tdA Tryz.t118 Tryz.type118 Tryz.underlying118
noncomputable def td119 : TD := { d := Tryz.t119.desc, size := 1, bytes := 8, zero := [.nilmap], agg := false, flat := true }
theorem td119_ok : TDO 119 td119 := tdS Tryz.t119 Tryz.type119 Tryz.underlying119
noncomputable def td120 : TD := { d := Tryz.t120.desc, size := 2, bytes := 16, zero := [.nilptr, .nilmap], agg := true, flat := true }
theorem td120_ok : TDO 120 td120 := tdA Tryz.t120 Tryz.type120 Tryz.underlying120
noncomputable def td121 : TD := { d := Tryz.t120.desc, size := 2, bytes := 16, zero := [.nilptr, .nilmap], agg := true, flat := true }
theorem td121_ok : TDO 121 td121 := tdA Tryz.t121 Tryz.type121 Tryz.underlying121
noncomputable def td122 : TD := { d := Tryz.t122.desc, size := 1, bytes := 8, zero := [.nilfunc], agg := false, flat := true }
theorem td122_ok : TDO 122 td122 := tdS Tryz.t122 Tryz.type122 Tryz.underlying122
noncomputable def td123 : TD := { d := Tryz.t123.desc, size := 4, bytes := 4, zero := [.bool (.lit (0)), .bool (.lit (0)), .bool (.lit (0)), .bool (.lit (0))], agg := true, flat := true }
theorem td123_ok : TDO 123 td123 := tdA Tryz.t123 Tryz.type123 Tryz.underlying123
noncomputable def td124 : TD := { d := Tryz.t3.desc, size := 1, bytes := 8, zero := [.int .i64 (.lit (0))], agg := false, flat := true }
theorem td124_ok : TDO 124 td124 := tdS Tryz.t124 Tryz.type124 Tryz.underlying124
noncomputable def td125 : TD := { d := Tryz.t125.desc, size := 11, bytes := 72, zero := [.int .i64 (.lit (0)), .bool (.lit (0)), .bool (.lit (0)), .bool (.lit (0)), .bool (.lit (0)), .bool (.lit (0)), .int .i64 (.lit (0)), .int .i64 (.lit (0)), .int .i64 (.lit (0)), .bool (.lit (0)), .nilslice], agg := true, flat := true }
theorem td125_ok : TDO 125 td125 := tdA Tryz.t125 Tryz.type125 Tryz.underlying125
noncomputable def td126 : TD := { d := Tryz.t125.desc, size := 11, bytes := 72, zero := [.int .i64 (.lit (0)), .bool (.lit (0)), .bool (.lit (0)), .bool (.lit (0)), .bool (.lit (0)), .bool (.lit (0)), .int .i64 (.lit (0)), .int .i64 (.lit (0)), .int .i64 (.lit (0)), .bool (.lit (0)), .nilslice], agg := true, flat := true }
theorem td126_ok : TDO 126 td126 := tdA Tryz.t126 Tryz.type126 Tryz.underlying126
noncomputable def td127 : TD := { d := Tryz.t127.desc, size := 1, bytes := 0, zero := [.tuple [.agg [.int .i64 (.lit (0)), .bool (.lit (0)), .bool (.lit (0)), .bool (.lit (0)), .bool (.lit (0)), .bool (.lit (0)), .int .i64 (.lit (0)), .int .i64 (.lit (0)), .int .i64 (.lit (0)), .bool (.lit (0)), .nilslice], .int .i64 (.lit (0))]], agg := false, flat := true }
theorem td127_ok : TDO 127 td127 := tdS Tryz.t127 Tryz.type127 Tryz.underlying127
noncomputable def td128 : TD := { d := Tryz.t128.desc, size := 1, bytes := 8, zero := [.nilfunc], agg := false, flat := true }
theorem td128_ok : TDO 128 td128 := tdS Tryz.t128 Tryz.type128 Tryz.underlying128
noncomputable def td129 : TD := { d := Tryz.t129.desc, size := 1, bytes := 8, zero := [.nilfunc], agg := false, flat := true }
theorem td129_ok : TDO 129 td129 := tdS Tryz.t129 Tryz.type129 Tryz.underlying129
noncomputable def td130 : TD := { d := Tryz.t130.desc, size := 20, bytes := 48, zero := [.int .i64 (.lit (0)), .int .i64 (.lit (0)), .int .i64 (.lit (0)), .int .u32 (.lit (0)), .int .u8 (.lit (0)), .int .u8 (.lit (0)), .int .u8 (.lit (0)), .int .u8 (.lit (0)), .int .u8 (.lit (0)), .int .u8 (.lit (0)), .int .u8 (.lit (0)), .int .u8 (.lit (0)), .int .u8 (.lit (0)), .int .u8 (.lit (0)), .int .u8 (.lit (0)), .int .u8 (.lit (0)), .int .u8 (.lit (0)), .int .u8 (.lit (0)), .int .u8 (.lit (0)), .int .u8 (.lit (0))], agg := true, flat := true }
theorem td130_ok : TDO 130 td130 := tdA Tryz.t130 Tryz.type130 Tryz.underlying130
noncomputable def td131 : TD := { d := Tryz.t130.desc, size := 20, bytes := 48, zero := [.int .i64 (.lit (0)), .int .i64 (.lit (0)), .int .i64 (.lit (0)), .int .u32 (.lit (0)), .int .u8 (.lit (0)), .int .u8 (.lit (0)), .int .u8 (.lit (0)), .int .u8 (.lit (0)), .int .u8 (.lit (0)), .int .u8 (.lit (0)), .int .u8 (.lit (0)), .int .u8 (.lit (0)), .int .u8 (.lit (0)), .int .u8 (.lit (0)), .int .u8 (.lit (0)), .int .u8 (.lit (0)), .int .u8 (.lit (0)), .int .u8 (.lit (0)), .int .u8 (.lit (0)), .int .u8 (.lit (0))], agg := true, flat := true }
theorem td131_ok : TDO 131 td131 := tdA Tryz.t131 Tryz.type131 Tryz.underlying131
noncomputable def td132 : TD := { d := Tryz.t132.desc, size := 1, bytes := 0, zero := [.tuple [.agg [.int .u32 (.lit (0)), .int .i64 (.lit (0)), .int .u8 (.lit (0)), .int .u8 (.lit (0)), .int .u8 (.lit (0)), .int .u8 (.lit (0)), .int .u8 (.lit (0)), .int .u8 (.lit (0)), .int .u8 (.lit (0)), .int .u8 (.lit (0)), .int .u8 (.lit (0)), .int .u8 (.lit (0)), .int .u8 (.lit (0)), .int .u8 (.lit (0)), .int .u8 (.lit (0)), .int .u8 (.lit (0)), .int .u8 (.lit (0)), .int .u8 (.lit (0))], .bool (.lit (0))]], agg := false, flat := true }
theorem td132_ok : TDO 132 td132 := tdS Tryz.t132 Tryz.type132 Tryz.underlying132
noncomputable def td133 : TD := { d := Tryz.t133.desc, size := 1, bytes := 8, zero := [.nilfunc], agg := false, flat := true }
theorem td133_ok : TDO 133 td133 := tdS Tryz.t133 Tryz.type133 Tryz.underlying133
noncomputable def td134 : TD := { d := Tryz.t134.desc, size := 1, bytes := 24, zero := [.nilslice], agg := false, flat := true }
theorem td134_ok : TDO 134 td134 := tdS Tryz.t134 Tryz.type134 Tryz.underlying134
noncomputable def td135 : TD := { d := Tryz.t135.desc, size := 1, bytes := 8, zero := [.nilfunc], agg := false, flat := true }
theorem td135_ok : TDO 135 td135 := tdS Tryz.t135 Tryz.type135 Tryz.underlying135
noncomputable def td136 : TD := { d := Tryz.t136.desc, size := 1, bytes := 8, zero := [.nilfunc], agg := false, flat := true }
theorem td136_ok : TDO 136 td136 := tdS Tryz.t136 Tryz.type136 Tryz.underlying136
noncomputable def td137 : TD := { d := Tryz.t137.desc, size := 1, bytes := 8, zero := [.nilfunc], agg := false, flat := true }
theorem td137_ok : TDO 137 td137 := tdS Tryz.t137 Tryz.type137 Tryz.underlying137
noncomputable def td138 : TD := { d := Tryz.t138.desc, size := 1, bytes := 8, zero := [.nilfunc], agg := false, flat := true }
theorem td138_ok : TDO 138 td138 := tdS Tryz.t138 Tryz.type138 Tryz.underlying138
noncomputable def td139 : TD := { d := Tryz.t139.desc, size := 2, bytes := 32, zero := [.nilslice, .int .i64 (.lit (0))], agg := true, flat := true }
theorem td139_ok : TDO 139 td139 := tdA Tryz.t139 Tryz.type139 Tryz.underlying139
noncomputable def td140 : TD := { d := Tryz.t139.desc, size := 2, bytes := 32, zero := [.nilslice, .int .i64 (.lit (0))], agg := true, flat := true }
theorem td140_ok : TDO 140 td140 := tdA Tryz.t140 Tryz.type140 Tryz.underlying140
noncomputable def td141 : TD := { d := Tryz.t141.desc, size := 1, bytes := 8, zero := [.nilfunc], agg := false, flat := true }
theorem td141_ok : TDO 141 td141 := tdS Tryz.t141 Tryz.type141 Tryz.underlying141
noncomputable def td142 : TD := { d := Tryz.t142.desc, size := 1, bytes := 8, zero := [.nilfunc], agg := false, flat := true }
theorem td142_ok : TDO 142 td142 := tdS Tryz.t142 Tryz.type142 Tryz.underlying142
noncomputable def td143 : TD := { d := Tryz.t143.desc, size := 1, bytes := 8, zero := [.nilfunc], agg := false, flat := true }
theorem td143_ok : TDO 143 td143 := tdS Tryz.t143 Tryz.type143 Tryz.underlying143
noncomputable def td144 : TD := { d := Tryz.t143.desc, size := 1, bytes := 8, zero := [.nilfunc], agg := false, flat := true }
theorem td144_ok : TDO 144 td144 := tdS Tryz.t144 Tryz.type144 Tryz.underlying144
noncomputable def td145 : TD := { d := Tryz.t145.desc, size := 1, bytes := 8, zero := [.nilfunc], agg := false, flat := true }
theorem td145_ok : TDO 145 td145 := tdS Tryz.t145 Tryz.type145 Tryz.underlying145
noncomputable def td146 : TD := { d := Tryz.t3.desc, size := 1, bytes := 8, zero := [.int .i64 (.lit (0))], agg := false, flat := true }
theorem td146_ok : TDO 146 td146 := tdS Tryz.t146 Tryz.type146 Tryz.underlying146
noncomputable def td147 : TD := { d := Tryz.t3.desc, size := 1, bytes := 8, zero := [.int .i64 (.lit (0))], agg := false, flat := true }
theorem td147_ok : TDO 147 td147 := tdS Tryz.t147 Tryz.type147 Tryz.underlying147
noncomputable def td148 : TD := { d := Tryz.t3.desc, size := 1, bytes := 8, zero := [.int .i64 (.lit (0))], agg := false, flat := true }
theorem td148_ok : TDO 148 td148 := tdS Tryz.t148 Tryz.type148 Tryz.underlying148
noncomputable def td149 : TD := { d := Tryz.t149.desc, size := 7, bytes := 48, zero := [.int .i64 (.lit (0)), .int .u32 (.lit (0)), .int .i64 (.lit (0)), .int .u32 (.lit (0)), .int .i64 (.lit (0)), .bool (.lit (0)), .bool (.lit (0))], agg := true, flat := true }
theorem td149_ok : TDO 149 td149 := tdA Tryz.t149 Tryz.type149 Tryz.underlying149
noncomputable def td150 : TD := { d := Tryz.t149.desc, size := 7, bytes := 48, zero := [.int .i64 (.lit (0)), .int .u32 (.lit (0)), .int .i64 (.lit (0)), .int .u32 (.lit (0)), .int .i64 (.lit (0)), .bool (.lit (0)), .bool (.lit (0))], agg := true, flat := true }
theorem td150_ok : TDO 150 td150 := tdA Tryz.t150 Tryz.type150 Tryz.underlying150
noncomputable def td151 : TD := { d := Tryz.t151.desc, size := 2, bytes := 8, zero := [.int .u32 (.lit (0)), .bool (.lit (0))], agg := true, flat := true }
theorem td151_ok : TDO 151 td151 := tdA Tryz.t151 Tryz.type151 Tryz.underlying151
noncomputable def td152 : TD := { d := Tryz.t151.desc, size := 2, bytes := 8, zero := [.int .u32 (.lit (0)), .bool (.lit (0))], agg := true, flat := true }
theorem td152_ok : TDO 152 td152 := tdA Tryz.t152 Tryz.type152 Tryz.underlying152
noncomputable def td153 : TD := { d := Tryz.t153.desc, size := 14, bytes := 88, zero := [.int .u32 (.lit (0)), .int .u32 (.lit (0)), .int .i64 (.lit (0)), .int .u32 (.lit (0)), .int .i64 (.lit (0)), .int .u32 (.lit (0)), .int .i64 (.lit (0)), .bool (.lit (0)), .bool (.lit (0)), .int .u32 (.lit (0)), .bool (.lit (0)), .int .i64 (.lit (0)), .int .u32 (.lit (0)), .int .i64 (.lit (0))], agg := true, flat := true }
theorem td153_ok : TDO 153 td153 := tdA Tryz.t153 Tryz.type153 Tryz.underlying153
noncomputable def td154 : TD := { d := Tryz.t153.desc, size := 14, bytes := 88, zero := [.int .u32 (.lit (0)), .int .u32 (.lit (0)), .int .i64 (.lit (0)), .int .u32 (.lit (0)), .int .i64 (.lit (0)), .int .u32 (.lit (0)), .int .i64 (.lit (0)), .bool (.lit (0)), .bool (.lit (0)), .int .u32 (.lit (0)), .bool (.lit (0)), .int .i64 (.lit (0)), .int .u32 (.lit (0)), .int .i64 (.lit (0))], agg := true, flat := true }
theorem td154_ok : TDO 154 td154 := tdA Tryz.t154 Tryz.type154 Tryz.underlying154
noncomputable def td155 : TD := { d := Tryz.t155.desc, size := 3, bytes := 24, zero := [.int .u32 (.lit (0)), .int .i64 (.lit (0)), .int .u32 (.lit (0))], agg := true, flat := true }
theorem td155_ok : TDO 155 td155 := tdA Tryz.t155 Tryz.type155 Tryz.underlying155
noncomputable def td156 : TD := { d := Tryz.t155.desc, size := 3, bytes := 24, zero := [.int .u32 (.lit (0)), .int .i64 (.lit (0)), .int .u32 (.lit (0))], agg := true, flat := true }
theorem td156_ok : TDO 156 td156 := tdA Tryz.t156 Tryz.type156 Tryz.underlying156
noncomputable def td157 : TD := { d := Tryz.t157.desc, size := 20, bytes := 136, zero := [.int .i64 (.lit (0)), .int .i64 (.lit (0)), .int .u32 (.lit (0)), .int .u32 (.lit (0)), .int .i64 (.lit (0)), .int .u32 (.lit (0)), .int .i64 (.lit (0)), .int .u32 (.lit (0)), .int .i64 (.lit (0)), .bool (.lit (0)), .bool (.lit (0)), .int .u32 (.lit (0)), .bool (.lit (0)), .int .i64 (.lit (0)), .int .u32 (.lit (0)), .int .i64 (.lit (0)), .int .u32 (.lit (0)), .int .i64 (.lit (0)), .int .u32 (.lit (0)), .int .i64 (.lit (0))], agg := true, flat := true }
theorem td157_ok : TDO 157 td157 := tdA Tryz.t157 Tryz.type157 Tryz.underlying157
noncomputable def td158 : TD := { d := Tryz.t157.desc, size := 20, bytes := 136, zero := [.int .i64 (.lit (0)), .int .i64 (.lit (0)), .int .u32 (.lit (0)), .int .u32 (.lit (0)), .int .i64 (.lit (0)), .int .u32 (.lit (0)), .int .i64 (.lit (0)), .int .u32 (.lit (0)), .int .i64 (.lit (0)), .bool (.lit (0)), .bool (.lit (0)), .int .u32 (.lit (0)), .bool (.lit (0)), .int .i64 (.lit (0)), .int .u32 (.lit (0)), .int .i64 (.lit (0)), .int .u32 (.lit (0)), .int .i64 (.lit (0)), .int .u32 (.lit (0)), .int .i64 (.lit (0))], agg := true, flat := true }
theorem td158_ok : TDO 158 td158 := tdA Tryz.t158 Tryz.type158 Tryz.underlying158
noncomputable def td159 : TD := { d := Tryz.t159.desc, size := 1, bytes := 0, zero := [.tuple [.agg [.int .i64 (.lit (0)), .int .i64 (.lit (0)), .int .u32 (.lit (0)), .int .u32 (.lit (0)), .int .i64 (.lit (0)), .int .u32 (.lit (0)), .int .i64 (.lit (0)), .int .u32 (.lit (0)), .int .i64 (.lit (0)), .bool (.lit (0)), .bool (.lit (0)), .int .u32 (.lit (0)), .bool (.lit (0)), .int .i64 (.lit (0)), .int .u32 (.lit (0)), .int .i64 (.lit (0)), .int .u32 (.lit (0)), .int .i64 (.lit (0)), .int .u32 (.lit (0)), .int .i64 (.lit (0))], .int .i64 (.lit (0))]], agg := false, flat := true }
theorem td159_ok : TDO 159 td159 := tdS Tryz.t159 Tryz.type159 Tryz.underlying159
noncomputable def td160 : TD := { d := Tryz.t160.desc, size := 1, bytes := 8, zero := [.nilfunc], agg := false, flat := true }
theorem td160_ok : TDO 160 td160 := tdS Tryz.t160 Tryz.type160 Tryz.underlying160
noncomputable def td161 : TD := { d := Tryz.t161.desc, size := 1, bytes := 8, zero := [.nilfunc], agg := false, flat := true }
theorem td161_ok : TDO 161 td161 := tdS Tryz.t161 Tryz.type161 Tryz.underlying161
noncomputable def td162 : TD := { d := Tryz.t162.desc, size := 1, bytes := 24, zero := [.nilslice], agg := false, flat := true }
theorem td162_ok : TDO 162 td162 := tdS Tryz.t162 Tryz.type162 Tryz.underlying162
noncomputable def td163 : TD := { d := Tryz.t163.desc, size := 1, bytes := 8, zero := [.nilfunc], agg := false, flat := true }
theorem td163_ok : TDO 163 td163 := tdS Tryz.t163 Tryz.type163 Tryz.underlying163
noncomputable def td164 : TD := { d := Tryz.t164.desc, size := 1, bytes := 8, zero := [.nilfunc], agg := false, flat := true }
theorem td164_ok : TDO 164 td164 := tdS Tryz.t164 Tryz.type164 Tryz.underlying164
noncomputable def td165 : TD := { d := Tryz.t165.desc, size := 1, bytes := 8, zero := [.nilfunc], agg := false, flat := true }
theorem td165_ok : TDO 165 td165 := tdS Tryz.t165 Tryz.type165 Tryz.underlying165
noncomputable def td166 : TD := { d := Tryz.t166.desc, size := 1, bytes := 8, zero := [.nilfunc], agg := false, flat := true }
theorem td166_ok : TDO 166 td166 := tdS Tryz.t166 Tryz.type166 Tryz.underlying166
noncomputable def td167 : TD := { d := Tryz.t167.desc, size := 1, bytes := 8, zero := [.nilfunc], agg := false, flat := true }
theorem td167_ok : TDO 167 td167 := tdS Tryz.t167 Tryz.type167 Tryz.underlying167
noncomputable def td168 : TD := { d := Tryz.t168.desc, size := 1, bytes := 8, zero := [.nilfunc], agg := false, flat := true }
theorem td168_ok : TDO 168 td168 := tdS Tryz.t168 Tryz.type168 Tryz.underlying168
noncomputable def td169 : TD := { d := Tryz.t169.desc, size := 1, bytes := 8, zero := [.nilptr], agg := false, flat := true }
theorem td169_ok : TDO 169 td169 := tdS Tryz.t169 Tryz.type169 Tryz.underlying169
noncomputable def td170 : TD := { d := Tryz.t170.desc, size := 1, bytes := 0, zero := [.tuple [.nilptr, .int .i64 (.lit (0))]], agg := false, flat := true }
theorem td170_ok : TDO 170 td170 := tdS Tryz.t170 Tryz.type170 Tryz.underlying170
noncomputable def td171 : TD := { d := Tryz.t171.desc, size := 1, bytes := 8, zero := [.nilfunc], agg := false, flat := true }
theorem td171_ok : TDO 171 td171 := tdS Tryz.t171 Tryz.type171 Tryz.underlying171
noncomputable def td172 : TD := { d := Tryz.t172.desc, size := 1, bytes := 8, zero := [.nilptr], agg := false, flat := true }
theorem td172_ok : TDO 172 td172 := tdS Tryz.t172 Tryz.type172 Tryz.underlying172
noncomputable def td173 : TD := { d := Tryz.t173.desc, size := 1, bytes := 8, zero := [.nilptr], agg := false, flat := true }
theorem td173_ok : TDO 173 td173 := tdS Tryz.t173 Tryz.type173 Tryz.underlying173
noncomputable def td174 : TD := { d := Tryz.t174.desc, size := 4, bytes := 32, zero := [.int .i64 (.lit (0)), .nilptr, .nilptr, .nilptr], agg := true, flat := true }
theorem td174_ok : TDO 174 td174 := tdA Tryz.t174 Tryz.type174 Tryz.underlying174
noncomputable def td175 : TD := { d := Tryz.t174.desc, size := 4, bytes := 32, zero := [.int .i64 (.lit (0)), .nilptr, .nilptr, .nilptr], agg := true, flat := true }
theorem td175_ok : TDO 175 td175 := tdA Tryz.t175 Tryz.type175 Tryz.underlying175
noncomputable def td176 : TD := { d := Tryz.t176.desc, size := 1, bytes := 8, zero := [.nilfunc], agg := false, flat := true }
theorem td176_ok : TDO 176 td176 := tdS Tryz.t176 Tryz.type176 Tryz.underlying176
noncomputable def td177 : TD := { d := Tryz.t177.desc, size := 1, bytes := 8, zero := [.nilfunc], agg := false, flat := true }
theorem td177_ok : TDO 177 td177 := tdS Tryz.t177 Tryz.type177 Tryz.underlying177
noncomputable def td178 : TD := { d := Tryz.t178.desc, size := 1, bytes := 8, zero := [.nilfunc], agg := false, flat := true }
theorem td178_ok : TDO 178 td178 := tdS Tryz.t178 Tryz.type178 Tryz.underlying178
noncomputable def td179 : TD := { d := Tryz.t179.desc, size := 1, bytes := 8, zero := [.nilfunc], agg := false, flat := true }
theorem td179_ok : TDO 179 td179 := tdS Tryz.t179 Tryz.type179 Tryz.underlying179
noncomputable def td180 : TD := { d := Tryz.t180.desc, size := 6, bytes := 48, zero := [.nilfunc, .nilfunc, .nilfunc, .nilfunc, .nilfunc, .nilfunc], agg := true, flat := true }
theorem td180_ok : TDO 180 td180 := tdA Tryz.t180 Tryz.type180 Tryz.underlying180
noncomputable def td181 : TD := { d := Tryz.t181.desc, size := 1, bytes := 8, zero := [.nilfunc], agg := false, flat := true }
theorem td181_ok : TDO 181 td181 := tdS Tryz.t181 Tryz.type181 Tryz.underlying181
noncomputable def td182 : TD := { d := Tryz.t182.desc, size := 1, bytes := 8, zero := [.nilfunc], agg := false, flat := true }
theorem td182_ok : TDO 182 td182 := tdS Tryz.t182 Tryz.type182 Tryz.underlying182
noncomputable def td183 : TD := { d := Tryz.t183.desc, size := 1, bytes := 8, zero := [.nilfunc], agg := false, flat := true }
theorem td183_ok : TDO 183 td183 := tdS Tryz.t183 Tryz.type183 Tryz.underlying183
noncomputable def td184 : TD := { d := Tryz.t184.desc, size := 1, bytes := 8, zero := [.nilfunc], agg := false, flat := true }
theorem td184_ok : TDO 184 td184 := tdS Tryz.t184 Tryz.type184 Tryz.underlying184
noncomputable def td185 : TD := { d := Tryz.t185.desc, size := 2, bytes := 16, zero := [.int .i64 (.lit (0)), .int .i64 (.lit (0))], agg := true, flat := true }
theorem td185_ok : TDO 185 td185 := tdA Tryz.t185 Tryz.type185 Tryz.underlying185
noncomputable def td186 : TD := { d := Tryz.t186.desc, size := 1, bytes := 8, zero := [.nilfunc], agg := false, flat := true }
theorem td186_ok : TDO 186 td186 := tdS Tryz.t186 Tryz.type186 Tryz.underlying186
noncomputable def td187 : TD := { d := Tryz.t187.desc, size := 3, bytes := 24, zero := [.int .u32 (.lit (0)), .int .i64 (.lit (0)), .int .u32 (.lit (0))], agg := true, flat := true }
theorem td187_ok : TDO 187 td187 := tdA Tryz.t187 Tryz.type187 Tryz.underlying187
noncomputable def td188 : TD := { d := Tryz.t187.desc, size := 3, bytes := 24, zero := [.int .u32 (.lit (0)), .int .i64 (.lit (0)), .int .u32 (.lit (0))], agg := true, flat := true }
theorem td188_ok : TDO 188 td188 := tdA Tryz.t188 Tryz.type188 Tryz.underlying188
noncomputable def td189 : TD := { d := Tryz.t189.desc, size := 12, bytes := 96, zero := [.int .u32 (.lit (0)), .int .i64 (.lit (0)), .int .u32 (.lit (0)), .int .u32 (.lit (0)), .int .i64 (.lit (0)), .int .u32 (.lit (0)), .int .u32 (.lit (0)), .int .i64 (.lit (0)), .int .u32 (.lit (0)), .int .u32 (.lit (0)), .int .i64 (.lit (0)), .int .u32 (.lit (0))], agg := true, flat := true }
theorem td189_ok : TDO 189 td189 := tdA Tryz.t189 Tryz.type189 Tryz.underlying189
noncomputable def td190 : TD := { d := Tryz.t190.desc, size := 14, bytes := 112, zero := [.int .u32 (.lit (0)), .int .i64 (.lit (0)), .int .u32 (.lit (0)), .int .u32 (.lit (0)), .int .i64 (.lit (0)), .int .u32 (.lit (0)), .int .u32 (.lit (0)), .int .i64 (.lit (0)), .int .u32 (.lit (0)), .int .u32 (.lit (0)), .int .i64 (.lit (0)), .int .u32 (.lit (0)), .int .i64 (.lit (0)), .int .i64 (.lit (0))], agg := true, flat := true }
theorem td190_ok : TDO 190 td190 := tdA Tryz.t190 Tryz.type190 Tryz.underlying190
noncomputable def td191 : TD := { d := Tryz.t190.desc, size := 14, bytes := 112, zero := [.int .u32 (.lit (0)), .int .i64 (.lit (0)), .int .u32 (.lit (0)), .int .u32 (.lit (0)), .int .i64 (.lit (0)), .int .u32 (.lit (0)), .int .u32 (.lit (0)), .int .i64 (.lit (0)), .int .u32 (.lit (0)), .int .u32 (.lit (0)), .int .i64 (.lit (0)), .int .u32 (.lit (0)), .int .i64 (.lit (0)), .int .i64 (.lit (0))], agg := true, flat := true }
theorem td191_ok : TDO 191 td191 := tdA Tryz.t191 Tryz.type191 Tryz.underlying191
noncomputable def td192 : TD := { d := Tryz.t192.desc, size := 1, bytes := 24, zero := [.nilslice], agg := false, flat := true }
theorem td192_ok : TDO 192 td192 := tdS Tryz.t192 Tryz.type192 Tryz.underlying192
noncomputable def td193 : TD := { d := Tryz.t193.desc, size := 2, bytes := 32, zero := [.nilslice, .int .i64 (.lit (0))], agg := true, flat := true }
theorem td193_ok : TDO 193 td193 := tdA Tryz.t193 Tryz.type193 Tryz.underlying193
noncomputable def td194 : TD := { d := Tryz.t193.desc, size := 2, bytes := 32, zero := [.nilslice, .int .i64 (.lit (0))], agg := true, flat := true }
theorem td194_ok : TDO 194 td194 := tdA Tryz.t194 Tryz.type194 Tryz.underlying194
noncomputable def td195 : TD := { d := Tryz.t195.desc, size := 1, bytes := 8, zero := [.nilptr], agg := false, flat := true }
theorem td195_ok : TDO 195 td195 := tdS Tryz.t195 Tryz.type195 Tryz.underlying195
noncomputable def td196 : TD := { d := Tryz.t196.desc, size := 1, bytes := 8, zero := [.nilfunc], agg := false, flat := true }
theorem td196_ok : TDO 196 td196 := tdS Tryz.t196 Tryz.type196 Tryz.underlying196
noncomputable def td197 : TD := { d := Tryz.t197.desc, size := 1, bytes := 8, zero := [.nilfunc], agg := false, flat := true }
theorem td197_ok : TDO 197 td197 := tdS Tryz.t197 Tryz.type197 Tryz.underlying197
noncomputable def td198 : TD := { d := Tryz.t198.desc, size := 1, bytes := 8, zero := [.nilfunc], agg := false, flat := true }
theorem td198_ok : TDO 198 td198 := tdS Tryz.t198 Tryz.type198 Tryz.underlying198
noncomputable def td199 : TD := { d := Tryz.t199.desc, size := 1, bytes := 8, zero := [.nilfunc], agg := false, flat := true }
theorem td199_ok : TDO 199 td199 := tdS Tryz.t199 Tryz.type199 Tryz.underlying199
noncomputable def td200 : TD := { d := Tryz.t200.desc, size := 1, bytes := 8, zero := [.nilfunc], agg := false, flat := true }
theorem td200_ok : TDO 200 td200 := tdS Tryz.t200 Tryz.type200 Tryz.underlying200
noncomputable def td201 : TD := { d := Tryz.t200.desc, size := 1, bytes := 8, zero := [.nilfunc], agg := false, flat := true }
theorem td201_ok : TDO 201 td201 := tdS Tryz.t201 Tryz.type201 Tryz.underlying201
noncomputable def td202 : TD := { d := Tryz.t202.desc, size := 1, bytes := 8, zero := [.nilfunc], agg := false, flat := true }
theorem td202_ok : TDO 202 td202 := tdS Tryz.t202 Tryz.type202 Tryz.underlying202
noncomputable def td203 : TD := { d := Tryz.t203.desc, size := 1, bytes := 8, zero := [.nilfunc], agg := false, flat := true }
theorem td203_ok : TDO 203 td203 := tdS Tryz.t203 Tryz.type203 Tryz.underlying203
noncomputable def td204 : TD := { d := Tryz.t204.desc, size := 1, bytes := 8, zero := [.nilfunc], agg := false, flat := true }
theorem td204_ok : TDO 204 td204 := tdS Tryz.t204 Tryz.type204 Tryz.underlying204
noncomputable def td205 : TD := { d := Tryz.t205.desc, size := 1, bytes := 0, zero := [.tuple [.agg [.int .i64 (.lit (0)), .int .i64 (.lit (0)), .int .u32 (.lit (0)), .int .u32 (.lit (0)), .int .i64 (.lit (0)), .int .u32 (.lit (0)), .int .i64 (.lit (0)), .int .u32 (.lit (0)), .int .i64 (.lit (0)), .bool (.lit (0)), .bool (.lit (0)), .int .u32 (.lit (0)), .bool (.lit (0)), .int .i64 (.lit (0)), .int .u32 (.lit (0)), .int .i64 (.lit (0)), .int .u32 (.lit (0)), .int .i64 (.lit (0)), .int .u32 (.lit (0)), .int .i64 (.lit (0))], .nilslice, .int .i64 (.lit (0))]], agg := false, flat := true }
theorem td205_ok : TDO 205 td205 := tdS Tryz.t205 Tryz.type205 Tryz.underlying205
noncomputable def td206 : TD := { d := Tryz.t206.desc, size := 1, bytes := 8, zero := [.nilfunc], agg := false, flat := true }
theorem td206_ok : TDO 206 td206 := tdS Tryz.t206 Tryz.type206 Tryz.underlying206
noncomputable def td207 : TD := { d := Tryz.t207.desc, size := 1, bytes := 8, zero := [.nilfunc], agg := false, flat := true }
theorem td207_ok : TDO 207 td207 := tdS Tryz.t207 Tryz.type207 Tryz.underlying207
noncomputable def td208 : TD := { d := Tryz.t208.desc, size := 1, bytes := 0, zero := [.tuple [.agg [.int .i64 (.lit (0)), .int .i64 (.lit (0)), .int .i64 (.lit (0)), .int .u32 (.lit (0)), .int .u8 (.lit (0)), .int .u8 (.lit (0)), .int .u8 (.lit (0)), .int .u8 (.lit (0)), .int .u8 (.lit (0)), .int .u8 (.lit (0)), .int .u8 (.lit (0)), .int .u8 (.lit (0)), .int .u8 (.lit (0)), .int .u8 (.lit (0)), .int .u8 (.lit (0)), .int .u8 (.lit (0)), .int .u8 (.lit (0)), .int .u8 (.lit (0)), .int .u8 (.lit (0)), .int .u8 (.lit (0))], .bool (.lit (0))]], agg := false, flat := true }
theorem td208_ok : TDO 208 td208 := tdS Tryz.t208 Tryz.type208 Tryz.underlying208
noncomputable def td209 : TD := { d := Tryz.t209.desc, size := 1, bytes := 8, zero := [.nilfunc], agg := false, flat := true }
theorem td209_ok : TDO 209 td209 := tdS Tryz.t209 Tryz.type209 Tryz.underlying209
noncomputable def td210 : TD := { d := Tryz.t210.desc, size := 1, bytes := 8, zero := [.nilfunc], agg := false, flat := true }
theorem td210_ok : TDO 210 td210 := tdS Tryz.t210 Tryz.type210 Tryz.underlying210
noncomputable def td211 : TD := { d := Tryz.t211.desc, size := 1, bytes := 0, zero := [.tuple [.nilslice, .int .i64 (.lit (0))]], agg := false, flat := true }
theorem td211_ok : TDO 211 td211 := tdS Tryz.t211 Tryz.type211 Tryz.underlying211
noncomputable def td212 : TD := { d := Tryz.t212.desc, size := 1, bytes := 8, zero := [.nilfunc], agg := false, flat := true }
theorem td212_ok : TDO 212 td212 := tdS Tryz.t212 Tryz.type212 Tryz.underlying212
noncomputable def td213 : TD := { d := Tryz.t213.desc, size := 1, bytes := 8, zero := [.nilfunc], agg := false, flat := true }
theorem td213_ok : TDO 213 td213 := tdS Tryz.t213 Tryz.type213 Tryz.underlying213
noncomputable def td214 : TD := { d := Tryz.t214.desc, size := 1, bytes := 8, zero := [.nilfunc], agg := false, flat := true }
theorem td214_ok : TDO 214 td214 := tdS Tryz.t214 Tryz.type214 Tryz.underlying214
noncomputable def td215 : TD := { d := Tryz.t215.desc, size := 1, bytes := 8, zero := [.nilptr], agg := false, flat := true }
theorem td215_ok : TDO 215 td215 := tdS Tryz.t215 Tryz.type215 Tryz.underlying215
noncomputable def td216 : TD := { d := Tryz.t216.desc, size := 1, bytes := 8, zero := [.nilfunc], agg := false, flat := true }
theorem td216_ok : TDO 216 td216 := tdS Tryz.t216 Tryz.type216 Tryz.underlying216
noncomputable def td217 : TD := { d := Tryz.t217.desc, size := 1, bytes := 8, zero := [.nilfunc], agg := false, flat := true }
theorem td217_ok : TDO 217 td217 := tdS Tryz.t217 Tryz.type217 Tryz.underlying217
noncomputable def td218 : TD := { d := Tryz.t218.desc, size := 1, bytes := 0, zero := [.tuple [.int .u32 (.lit (0)), .bool (.lit (0))]], agg := false, flat := true }
theorem td218_ok : TDO 218 td218 := tdS Tryz.t218 Tryz.type218 Tryz.underlying218
noncomputable def td219 : TD := { d := Tryz.t219.desc, size := 1, bytes := 8, zero := [.nilfunc], agg := false, flat := true }
theorem td219_ok : TDO 219 td219 := tdS Tryz.t219 Tryz.type219 Tryz.underlying219
noncomputable def td220 : TD := { d := Tryz.t220.desc, size := 1, bytes := 0, zero := [.tuple [.agg [.int .i64 (.lit (0)), .int .u32 (.lit (0)), .int .i64 (.lit (0)), .int .u32 (.lit (0)), .int .i64 (.lit (0)), .bool (.lit (0)), .bool (.lit (0))], .int .i64 (.lit (0)), .int .i64 (.lit (0))]], agg := false, flat := true }
theorem td220_ok : TDO 220 td220 := tdS Tryz.t220 Tryz.type220 Tryz.underlying220
noncomputable def td221 : TD := { d := Tryz.t221.desc, size := 1, bytes := 8, zero := [.nilfunc], agg := false, flat := true }
theorem td221_ok : TDO 221 td221 := tdS Tryz.t221 Tryz.type221 Tryz.underlying221
noncomputable def td222 : TD := { d := Tryz.t222.desc, size := 1, bytes := 8, zero := [.nilptr], agg := false, flat := true }
theorem td222_ok : TDO 222 td222 := tdS Tryz.t222 Tryz.type222 Tryz.underlying222
noncomputable def td223 : TD := { d := Tryz.t223.desc, size := 11, bytes := 80, zero := [.nilptr, .nilptr, .int .i64 (.lit (0)), .int .u32 (.lit (0)), .int .i64 (.lit (0)), .int .u32 (.lit (0)), .int .i64 (.lit (0)), .int .u32 (.lit (0)), .int .i64 (.lit (0)), .bool (.lit (0)), .bool (.lit (0))], agg := true, flat := true }
theorem td223_ok : TDO 223 td223 := tdA Tryz.t223 Tryz.type223 Tryz.underlying223
noncomputable def td224 : TD := { d := Tryz.t223.desc, size := 11, bytes := 80, zero := [.nilptr, .nilptr, .int .i64 (.lit (0)), .int .u32 (.lit (0)), .int .i64 (.lit (0)), .int .u32 (.lit (0)), .int .i64 (.lit (0)), .int .u32 (.lit (0)), .int .i64 (.lit (0)), .bool (.lit (0)), .bool (.lit (0))], agg := true, flat := true }
theorem td224_ok : TDO 224 td224 := tdA Tryz.t224 Tryz.type224 Tryz.underlying224
noncomputable def td225 : TD := { d := Tryz.t225.desc, size := 1, bytes := 0, zero := [.tuple [.agg [.int .i64 (.lit (0)), .int .i64 (.lit (0)), .int .u32 (.lit (0)), .int .u32 (.lit (0)), .int .i64 (.lit (0)), .int .u32 (.lit (0)), .int .i64 (.lit (0)), .int .u32 (.lit (0)), .int .i64 (.lit (0)), .bool (.lit (0)), .bool (.lit (0)), .int .u32 (.lit (0)), .bool (.lit (0)), .int .i64 (.lit (0)), .int .u32 (.lit (0)), .int .i64 (.lit (0)), .int .u32 (.lit (0)), .int .i64 (.lit (0)), .int .u32 (.lit (0)), .int .i64 (.lit (0))], .nilslice]], agg := false, flat := true }
theorem td225_ok : TDO 225 td225 := tdS Tryz.t225 Tryz.type225 Tryz.underlying225
noncomputable def td226 : TD := { d := Tryz.t226.desc, size := 1, bytes := 8, zero := [.nilfunc], agg := false, flat := true }
theorem td226_ok : TDO 226 td226 := tdS Tryz.t226 Tryz.type226 Tryz.underlying226
noncomputable def td227 : TD := { d := Tryz.t227.desc, size := 1, bytes := 8, zero := [.nilfunc], agg := false, flat := true }
theorem td227_ok : TDO 227 td227 := tdS Tryz.t227 Tryz.type227 Tryz.underlying227
noncomputable def td228 : TD := { d := Tryz.t228.desc, size := 1, bytes := 8, zero := [.nilmap], agg := false, flat := true }
theorem td228_ok : TDO 228 td228 := tdS Tryz.t228 Tryz.type228 Tryz.underlying228
noncomputable def td229 : TD := { d := Tryz.t229.desc, size := 1, bytes := 8, zero := [.nilfunc], agg := false, flat := true }
theorem td229_ok : TDO 229 td229 := tdS Tryz.t229 Tryz.type229 Tryz.underlying229
noncomputable def td230 : TD := { d := Tryz.t230.desc, size := 1, bytes := 8, zero := [.nilfunc], agg := false, flat := true }
theorem td230_ok : TDO 230 td230 := tdS Tryz.t230 Tryz.type230 Tryz.underlying230
noncomputable def td231 : TD := { d := Tryz.t231.desc, size := 1, bytes := 8, zero := [.nilfunc], agg := false, flat := true }
theorem td231_ok : TDO 231 td231 := tdS Tryz.t231 Tryz.type231 Tryz.underlying231
noncomputable def td232 : TD := { d := Tryz.t232.desc, size := 1, bytes := 0, zero := [.tuple [.agg [.int .u32 (.lit (0)), .int .i64 (.lit (0)), .int .u32 (.lit (0))], .bool (.lit (0))]], agg := false, flat := true }
theorem td232_ok : TDO 232 td232 := tdS Tryz.t232 Tryz.type232 Tryz.underlying232
noncomputable def td233 : TD := { d := Tryz.t233.desc, size := 1, bytes := 8, zero := [.nilfunc], agg := false, flat := true }
theorem td233_ok : TDO 233 td233 := tdS Tryz.t233 Tryz.type233 Tryz.underlying233
noncomputable def td234 : TD := { d := Tryz.t234.desc, size := 1, bytes := 8, zero := [.nilfunc], agg := false, flat := true }
theorem td234_ok : TDO 234 td234 := tdS Tryz.t234 Tryz.type234 Tryz.underlying234
noncomputable def td235 : TD := { d := Tryz.t235.desc, size := 1, bytes := 8, zero := [.nilfunc], agg := false, flat := true }
theorem td235_ok : TDO 235 td235 := tdS Tryz.t235 Tryz.type235 Tryz.underlying235
noncomputable def td236 : TD := { d := Tryz.t236.desc, size := 1, bytes := 8, zero := [.nilfunc], agg := false, flat := true }
theorem td236_ok : TDO 236 td236 := tdS Tryz.t236 Tryz.type236 Tryz.underlying236
noncomputable def td237 : TD := { d := Tryz.t237.desc, size := 1, bytes := 8, zero := [.int .i64 (.lit (0))], agg := true, flat := true }
theorem td237_ok : TDO 237 td237 := tdA Tryz.t237 Tryz.type237 Tryz.underlying237
noncomputable def td238 : TD := { d := Tryz.t237.desc, size := 1, bytes := 8, zero := [.int .i64 (.lit (0))], agg := true, flat := true }
theorem td238_ok : TDO 238 td238 := tdA Tryz.t238 Tryz.type238 Tryz.underlying238
noncomputable def td239 : TD := { d := Tryz.t239.desc, size := 1, bytes := 8, zero := [.nilptr], agg := false, flat := true }
theorem td239_ok : TDO 239 td239 := tdS Tryz.t239 Tryz.type239 Tryz.underlying239
noncomputable def td240 : TD := { d := Tryz.t240.desc, size := 1, bytes := 24, zero := [.nilslice], agg := true, flat := true }
theorem td240_ok : TDO 240 td240 := tdA Tryz.t240 Tryz.type240 Tryz.underlying240
noncomputable def td241 : TD := { d := Tryz.t240.desc, size := 1, bytes := 24, zero := [.nilslice], agg := true, flat := true }
theorem td241_ok : TDO 241 td241 := tdA Tryz.t241 Tryz.type241 Tryz.underlying241
noncomputable def td242 : TD := { d := Tryz.t242.desc, size := 4, bytes := 48, zero := [.nilslice, .nilptr, .nilptr, .int .u32 (.lit (0))], agg := true, flat := true }
theorem td242_ok : TDO 242 td242 := tdA Tryz.t242 Tryz.type242 Tryz.underlying242
noncomputable def td243 : TD := { d := Tryz.t242.desc, size := 4, bytes := 48, zero := [.nilslice, .nilptr, .nilptr, .int .u32 (.lit (0))], agg := true, flat := true }
theorem td243_ok : TDO 243 td243 := tdA Tryz.t243 Tryz.type243 Tryz.underlying243
noncomputable def td244 : TD := { d := Tryz.t244.desc, size := 1, bytes := 8, zero := [.nilfunc], agg := false, flat := true }
theorem td244_ok : TDO 244 td244 := tdS Tryz.t244 Tryz.type244 Tryz.underlying244
noncomputable def td245 : TD := { d := Tryz.t245.desc, size := 1, bytes := 8, zero := [.nilmap], agg := false, flat := true }
theorem td245_ok : TDO 245 td245 := tdS Tryz.t245 Tryz.type245 Tryz.underlying245
noncomputable def td246 : TD := { d := Tryz.t246.desc, size := 1, bytes := 8, zero := [.nilfunc], agg := false, flat := true }
theorem td246_ok : TDO 246 td246 := tdS Tryz.t246 Tryz.type246 Tryz.underlying246
noncomputable def td247 : TD := { d := Tryz.t247.desc, size := 1, bytes := 8, zero := [.nilptr], agg := false, flat := true }
theorem td247_ok : TDO 247 td247 := tdS Tryz.t247 Tryz.type247 Tryz.underlying247
noncomputable def td248 : TD := { d := Tryz.t248.desc, size := 1, bytes := 8, zero := [.nilfunc], agg := false, flat := true }
theorem td248_ok : TDO 248 td248 := tdS Tryz.t248 Tryz.type248 Tryz.underlying248
noncomputable def td249 : TD := { d := Tryz.t249.desc, size := 1, bytes := 8, zero := [.nilmap], agg := false, flat := true }
theorem td249_ok : TDO 249 td249 := tdS Tryz.t249 Tryz.type249 Tryz.underlying249
noncomputable def td250 : TD := { d := Tryz.t250.desc, size := 1, bytes := 0, zero := [.tuple [.nilslice, .bool (.lit (0))]], agg := false, flat := true }
theorem td250_ok : TDO 250 td250 := tdS Tryz.t250 Tryz.type250 Tryz.underlying250
noncomputable def td251 : TD := { d := Tryz.t251.desc, size := 1, bytes := 8, zero := [.nilfunc], agg := false, flat := true }
theorem td251_ok : TDO 251 td251 := tdS Tryz.t251 Tryz.type251 Tryz.underlying251
noncomputable def td252 : TD := { d := Tryz.t252.desc, size := 1, bytes := 8, zero := [.nilptr], agg := false, flat := true }
theorem td252_ok : TDO 252 td252 := tdS Tryz.t252 Tryz.type252 Tryz.underlying252
noncomputable def td253 : TD := { d := Tryz.t253.desc, size := 1, bytes := 0, zero := [.tuple [.nilptr, .int .i64 (.lit (0))]], agg := false, flat := true }
theorem td253_ok : TDO 253 td253 := tdS Tryz.t253 Tryz.type253 Tryz.underlying253
noncomputable def td254 : TD := { d := Tryz.t254.desc, size := 1, bytes := 8, zero := [.nilfunc], agg := false, flat := true }
theorem td254_ok : TDO 254 td254 := tdS Tryz.t254 Tryz.type254 Tryz.underlying254
noncomputable def td255 : TD := { d := Tryz.t255.desc, size := 2, bytes := 8, zero := [.int .u32 (.lit (0)), .bool (.lit (0))], agg := true, flat := true }
theorem td255_ok : TDO 255 td255 := tdA Tryz.t255 Tryz.type255 Tryz.underlying255
noncomputable def td256 : TD := { d := Tryz.t256.desc, size := 1, bytes := 8, zero := [.nilfunc], agg := false, flat := true }
theorem td256_ok : TDO 256 td256 := tdS Tryz.t256 Tryz.type256 Tryz.underlying256
noncomputable def td257 : TD := { d := Tryz.t257.desc, size := 1, bytes := 8, zero := [.nilfunc], agg := false, flat := true }
theorem td257_ok : TDO 257 td257 := tdS Tryz.t257 Tryz.type257 Tryz.underlying257
noncomputable def td258 : TD := { d := Tryz.t258.desc, size := 1, bytes := 8, zero := [.nilptr], agg := false, flat := true }
theorem td258_ok : TDO 258 td258 := tdS Tryz.t258 Tryz.type258 Tryz.underlying258
noncomputable def td259 : TD := { d := Tryz.t259.desc, size := 7, bytes := 40, zero := [.int .i64 (.lit (0)), .int .i64 (.lit (0)), .int .i64 (.lit (0)), .int .i64 (.lit (0)), .int .u32 (.lit (0)), .bool (.lit (0)), .bool (.lit (0))], agg := true, flat := true }
theorem td259_ok : TDO 259 td259 := tdA Tryz.t259 Tryz.type259 Tryz.underlying259
noncomputable def td260 : TD := { d := Tryz.t259.desc, size := 7, bytes := 40, zero := [.int .i64 (.lit (0)), .int .i64 (.lit (0)), .int .i64 (.lit (0)), .int .i64 (.lit (0)), .int .u32 (.lit (0)), .bool (.lit (0)), .bool (.lit (0))], agg := true, flat := true }
theorem td260_ok : TDO 260 td260 := tdA Tryz.t260 Tryz.type260 Tryz.underlying260
noncomputable def td261 : TD := { d := Tryz.t261.desc, size := 1, bytes := 0, zero := [.tuple [.agg [.int .i64 (.lit (0)), .int .i64 (.lit (0)), .int .i64 (.lit (0)), .int .i64 (.lit (0)), .int .u32 (.lit (0)), .bool (.lit (0)), .bool (.lit (0))], .agg [.int .i64 (.lit (0)), .int .u32 (.lit (0)), .int .i64 (.lit (0)), .int .u32 (.lit (0)), .int .i64 (.lit (0)), .bool (.lit (0)), .bool (.lit (0))], .int .u32 (.lit (0))]], agg := false, flat := true }
theorem td261_ok : TDO 261 td261 := tdS Tryz.t261 Tryz.type261 Tryz.underlying261
noncomputable def td262 : TD := { d := Tryz.t262.desc, size := 1, bytes := 8, zero := [.nilfunc], agg := false, flat := true }
theorem td262_ok : TDO 262 td262 := tdS Tryz.t262 Tryz.type262 Tryz.underlying262
noncomputable def td263 : TD := { d := Tryz.t263.desc, size := 1, bytes := 24, zero := [.nilslice], agg := true, flat := true }
theorem td263_ok : TDO 263 td263 := tdA Tryz.t263 Tryz.type263 Tryz.underlying263
noncomputable def td264 : TD := { d := Tryz.t263.desc, size := 1, bytes := 24, zero := [.nilslice], agg := true, flat := true }
theorem td264_ok : TDO 264 td264 := tdA Tryz.t264 Tryz.type264 Tryz.underlying264
noncomputable def td265 : TD := { d := Tryz.t265.desc, size := 1, bytes := 0, zero := [.tuple [.int .u32 (.lit (0)), .int .i64 (.lit (0)), .bool (.lit (0))]], agg := false, flat := true }
theorem td265_ok : TDO 265 td265 := tdS Tryz.t265 Tryz.type265 Tryz.underlying265
noncomputable def td266 : TD := { d := Tryz.t266.desc, size := 1, bytes := 8, zero := [.nilfunc], agg := false, flat := true }
theorem td266_ok : TDO 266 td266 := tdS Tryz.t266 Tryz.type266 Tryz.underlying266
noncomputable def td267 : TD := { d := Tryz.t267.desc, size := 1, bytes := 8, zero := [.nilfunc], agg := false, flat := true }
theorem td267_ok : TDO 267 td267 := tdS Tryz.t267 Tryz.type267 Tryz.underlying267
noncomputable def td268 : TD := { d := Tryz.t268.desc, size := 1, bytes := 8, zero := [.nilfunc], agg := false, flat := true }
theorem td268_ok : TDO 268 td268 := tdS Tryz.t268 Tryz.type268 Tryz.underlying268
noncomputable def td269 : TD := { d := Tryz.t269.desc, size := 1, bytes := 8, zero := [.nilfunc], agg := false, flat := true }
theorem td269_ok : TDO 269 td269 := tdS Tryz.t269 Tryz.type269 Tryz.underlying269
noncomputable def td270 : TD := { d := Tryz.t270.desc, size := 2, bytes := 2, zero := [.bool (.lit (0)), .bool (.lit (0))], agg := true, flat := true }
theorem td270_ok : TDO 270 td270 := tdA Tryz.t270 Tryz.type270 Tryz.underlying270
noncomputable def td271 : TD := { d := Tryz.t270.desc, size := 2, bytes := 2, zero := [.bool (.lit (0)), .bool (.lit (0))], agg := true, flat := true }
theorem td271_ok : TDO 271 td271 := tdA Tryz.t271 Tryz.type271 Tryz.underlying271
noncomputable def td272 : TD := { d := Tryz.t272.desc, size := 1, bytes := 0, zero := [.tuple [.agg [.bool (.lit (0)), .bool (.lit (0))], .bool (.lit (0))]], agg := false, flat := true }
theorem td272_ok : TDO 272 td272 := tdS Tryz.t272 Tryz.type272 Tryz.underlying272
noncomputable def td273 : TD := { d := Tryz.t273.desc, size := 1, bytes := 8, zero := [.nilmap], agg := false, flat := true }
theorem td273_ok : TDO 273 td273 := tdS Tryz.t273 Tryz.type273 Tryz.underlying273
noncomputable def td274 : TD := { d := Tryz.t274.desc, size := 1, bytes := 8, zero := [.nilfunc], agg := false, flat := true }
theorem td274_ok : TDO 274 td274 := tdS Tryz.t274 Tryz.type274 Tryz.underlying274
noncomputable def td275 : TD := { d := Tryz.t275.desc, size := 1, bytes := 8, zero := [.nilfunc], agg := false, flat := true }
theorem td275_ok : TDO 275 td275 := tdS Tryz.t275 Tryz.type275 Tryz.underlying275
noncomputable def td276 : TD := { d := Tryz.t276.desc, size := 1, bytes := 8, zero := [.nilfunc], agg := false, flat := true }
theorem td276_ok : TDO 276 td276 := tdS Tryz.t276 Tryz.type276 Tryz.underlying276
noncomputable def td277 : TD := { d := Tryz.t277.desc, size := 1, bytes := 8, zero := [.nilfunc], agg := false, flat := true }
theorem td277_ok : TDO 277 td277 := tdS Tryz.t277 Tryz.type277 Tryz.underlying277
noncomputable def td278 : TD := { d := Tryz.t278.desc, size := 1, bytes := 8, zero := [.int .i64 (.lit (0))], agg := true, flat := true }
theorem td278_ok : TDO 278 td278 := tdA Tryz.t278 Tryz.type278 Tryz.underlying278
noncomputable def td279 : TD := { d := Tryz.t278.desc, size := 1, bytes := 8, zero := [.int .i64 (.lit (0))], agg := true, flat := true }
theorem td279_ok : TDO 279 td279 := tdA Tryz.t279 Tryz.type279 Tryz.underlying279
noncomputable def td280 : TD := { d := Tryz.t280.desc, size := 1, bytes := 8, zero := [.nilfunc], agg := false, flat := true }
theorem td280_ok : TDO 280 td280 := tdS Tryz.t280 Tryz.type280 Tryz.underlying280
noncomputable def td281 : TD := { d := Tryz.t281.desc, size := 1, bytes := 8, zero := [.nilfunc], agg := false, flat := true }
theorem td281_ok : TDO 281 td281 := tdS Tryz.t281 Tryz.type281 Tryz.underlying281
noncomputable def td282 : TD := { d := Tryz.t282.desc, size := 1, bytes := 8, zero := [.nilfunc], agg := false, flat := true }
theorem td282_ok : TDO 282 td282 := tdS Tryz.t282 Tryz.type282 Tryz.underlying282
noncomputable def td283 : TD := { d := Tryz.t283.desc, size := 1, bytes := 8, zero := [.nilfunc], agg := false, flat := true }
theorem td283_ok : TDO 283 td283 := tdS Tryz.t283 Tryz.type283 Tryz.underlying283
noncomputable def td284 : TD := { d := Tryz.t284.desc, size := 1, bytes := 8, zero := [.int .i64 (.lit (0))], agg := true, flat := true }
theorem td284_ok : TDO 284 td284 := tdA Tryz.t284 Tryz.type284 Tryz.underlying284
noncomputable def td285 : TD := { d := Tryz.t284.desc, size := 1, bytes := 8, zero := [.int .i64 (.lit (0))], agg := true, flat := true }
theorem td285_ok : TDO 285 td285 := tdA Tryz.t285 Tryz.type285 Tryz.underlying285
noncomputable def td286 : TD := { d := Tryz.t286.desc, size := 1, bytes := 0, zero := [.tuple [.agg [.int .i64 (.lit (0)), .int .i64 (.lit (0)), .int .i64 (.lit (0)), .int .i64 (.lit (0)), .int .u32 (.lit (0)), .bool (.lit (0)), .bool (.lit (0))], .bool (.lit (0))]], agg := false, flat := true }
theorem td286_ok : TDO 286 td286 := tdS Tryz.t286 Tryz.type286 Tryz.underlying286
noncomputable def td287 : TD := { d := Tryz.t287.desc, size := 1, bytes := 8, zero := [.nilfunc], agg := false, flat := true }
theorem td287_ok : TDO 287 td287 := tdS Tryz.t287 Tryz.type287 Tryz.underlying287
noncomputable def td288 : TD := { d := Tryz.t288.desc, size := 1, bytes := 8, zero := [.nilfunc], agg := false, flat := true }
theorem td288_ok : TDO 288 td288 := tdS Tryz.t288 Tryz.type288 Tryz.underlying288
noncomputable def td289 : TD := { d := Tryz.t289.desc, size := 1, bytes := 8, zero := [.nilfunc], agg := false, flat := true }
theorem td289_ok : TDO 289 td289 := tdS Tryz.t289 Tryz.type289 Tryz.underlying289
noncomputable def td290 : TD := { d := Tryz.t290.desc, size := 1, bytes := 8, zero := [.nilfunc], agg := false, flat := true }
theorem td290_ok : TDO 290 td290 := tdS Tryz.t290 Tryz.type290 Tryz.underlying290
noncomputable def td291 : TD := { d := Tryz.t291.desc, size := 1, bytes := 8, zero := [.nilfunc], agg := false, flat := true }
theorem td291_ok : TDO 291 td291 := tdS Tryz.t291 Tryz.type291 Tryz.underlying291
noncomputable def td292 : TD := { d := Tryz.t3.desc, size := 1, bytes := 8, zero := [.int .i64 (.lit (0))], agg := false, flat := true }
theorem td292_ok : TDO 292 td292 := tdS Tryz.t292 Tryz.type292 Tryz.underlying292
noncomputable def td293 : TD := { d := Tryz.t293.desc, size := 1, bytes := 0, zero := [.tuple [.int .u32 (.lit (0)), .int .i64 (.lit (0))]], agg := false, flat := true }
theorem td293_ok : TDO 293 td293 := tdS Tryz.t293 Tryz.type293 Tryz.underlying293
noncomputable def td294 : TD := { d := Tryz.t294.desc, size := 1, bytes := 8, zero := [.nilfunc], agg := false, flat := true }
theorem td294_ok : TDO 294 td294 := tdS Tryz.t294 Tryz.type294 Tryz.underlying294
noncomputable def td295 : TD := { d := Tryz.t295.desc, size := 1, bytes := 8, zero := [.nilfunc], agg := false, flat := true }
theorem td295_ok : TDO 295 td295 := tdS Tryz.t295 Tryz.type295 Tryz.underlying295
noncomputable def td296 : TD := { d := Tryz.t296.desc, size := 1, bytes := 8, zero := [.nilfunc], agg := false, flat := true }
theorem td296_ok : TDO 296 td296 := tdS Tryz.t296 Tryz.type296 Tryz.underlying296
noncomputable def td297 : TD := { d := Tryz.t297.desc, size := 1, bytes := 0, zero := [.tuple [.int .u32 (.lit (0)), .int .i64 (.lit (0))]], agg := false, flat := true }
theorem td297_ok : TDO 297 td297 := tdS Tryz.t297 Tryz.type297 Tryz.underlying297
noncomputable def td298 : TD := { d := Tryz.t298.desc, size := 1, bytes := 8, zero := [.nilfunc], agg := false, flat := true }
theorem td298_ok : TDO 298 td298 := tdS Tryz.t298 Tryz.type298 Tryz.underlying298
noncomputable def td299 : TD := { d := Tryz.t299.desc, size := 1, bytes := 8, zero := [.nilfunc], agg := false, flat := true }
theorem td299_ok : TDO 299 td299 := tdS Tryz.t299 Tryz.type299 Tryz.underlying299
noncomputable def td300 : TD := { d := Tryz.t300.desc, size := 1, bytes := 8, zero := [.nilfunc], agg := false, flat := true }
theorem td300_ok : TDO 300 td300 := tdS Tryz.t300 Tryz.type300 Tryz.underlying300
noncomputable def td301 : TD := { d := Tryz.t301.desc, size := 1, bytes := 0, zero := [.tuple [.agg [.int .u8 (.lit (0)), .int .u8 (.lit (0)), .int .u8 (.lit (0)), .int .u8 (.lit (0)), .int .u8 (.lit (0)), .int .u8 (.lit (0)), .int .u8 (.lit (0)), .int .u8 (.lit (0)), .int .u8 (.lit (0)), .int .u8 (.lit (0)), .int .u8 (.lit (0)), .int .u8 (.lit (0)), .int .u8 (.lit (0)), .int .u8 (.lit (0)), .int .u8 (.lit (0)), .int .u8 (.lit (0))], .int .i64 (.lit (0))]], agg := false, flat := true }
theorem td301_ok : TDO 301 td301 := tdS Tryz.t301 Tryz.type301 Tryz.underlying301
noncomputable def td302 : TD := { d := Tryz.t302.desc, size := 1, bytes := 8, zero := [.nilfunc], agg := false, flat := true }
theorem td302_ok : TDO 302 td302 := tdS Tryz.t302 Tryz.type302 Tryz.underlying302
noncomputable def td303 : TD := { d := Tryz.t303.desc, size := 1, bytes := 8, zero := [.nilfunc], agg := false, flat := true }
theorem td303_ok : TDO 303 td303 := tdS Tryz.t303 Tryz.type303 Tryz.underlying303
noncomputable def td304 : TD := { d := Tryz.t304.desc, size := 1, bytes := 8, zero := [.nilfunc], agg := false, flat := true }
theorem td304_ok : TDO 304 td304 := tdS Tryz.t304 Tryz.type304 Tryz.underlying304
noncomputable def td305 : TD := { d := Tryz.t305.desc, size := 1, bytes := 8, zero := [.nilfunc], agg := false, flat := true }
theorem td305_ok : TDO 305 td305 := tdS Tryz.t305 Tryz.type305 Tryz.underlying305
noncomputable def td306 : TD := { d := Tryz.t306.desc, size := 9, bytes := 40, zero := [.int .u32 (.lit (0)), .bool (.lit (0)), .bool (.lit (0)), .bool (.lit (0)), .bool (.lit (0)), .nilfunc, .nilfunc, .nilfunc, .nilfunc], agg := true, flat := true }
theorem td306_ok : TDO 306 td306 := tdA Tryz.t306 Tryz.type306 Tryz.underlying306
noncomputable def td307 : TD := { d := Tryz.t306.desc, size := 9, bytes := 40, zero := [.int .u32 (.lit (0)), .bool (.lit (0)), .bool (.lit (0)), .bool (.lit (0)), .bool (.lit (0)), .nilfunc, .nilfunc, .nilfunc, .nilfunc], agg := true, flat := true }
theorem td307_ok : TDO 307 td307 := tdA Tryz.t307 Tryz.type307 Tryz.underlying307
noncomputable def td308 : TD := { d := Tryz.t308.desc, size := 12, bytes := 72, zero := [.int .i64 (.lit (0)), .str (.slit []), .int .u32 (.lit (0)), .bool (.lit (0)), .bool (.lit (0)), .bool (.lit (0)), .bool (.lit (0)), .nilfunc, .nilfunc, .nilfunc, .nilfunc, .int .u32 (.lit (0))], agg := true, flat := true }
theorem td308_ok : TDO 308 td308 := tdA Tryz.t308 Tryz.type308 Tryz.underlying308
noncomputable def td309 : TD := { d := Tryz.t308.desc, size := 12, bytes := 72, zero := [.int .i64 (.lit (0)), .str (.slit []), .int .u32 (.lit (0)), .bool (.lit (0)), .bool (.lit (0)), .bool (.lit (0)), .bool (.lit (0)), .nilfunc, .nilfunc, .nilfunc, .nilfunc, .int .u32 (.lit (0))], agg := true, flat := true }
theorem td309_ok : TDO 309 td309 := tdA Tryz.t309 Tryz.type309 Tryz.underlying309
noncomputable def td310 : TD := { d := Tryz.t310.desc, size := 1, bytes := 8, zero := [.nilfunc], agg := false, flat := true }
theorem td310_ok : TDO 310 td310 := tdS Tryz.t310 Tryz.type310 Tryz.underlying310
noncomputable def td311 : TD := { d := Tryz.t310.desc, size := 1, bytes := 8, zero := [.nilfunc], agg := false, flat := true }
theorem td311_ok : TDO 311 td311 := tdS Tryz.t311 Tryz.type311 Tryz.underlying311
noncomputable def td312 : TD := { d := Tryz.t312.desc, size := 1, bytes := 8, zero := [.nilfunc], agg := false, flat := true }
theorem td312_ok : TDO 312 td312 := tdS Tryz.t312 Tryz.type312 Tryz.underlying312
noncomputable def td313 : TD := { d := Tryz.t313.desc, size := 1, bytes := 8, zero := [.nilptr], agg := false, flat := true }
theorem td313_ok : TDO 313 td313 := tdS Tryz.t313 Tryz.type313 Tryz.underlying313
noncomputable def td314 : TD := { d := Tryz.t314.desc, size := 3, bytes := 24, zero := [.bool (.lit (0)), .nilptr, .int .i64 (.lit (0))], agg := true, flat := true }
theorem td314_ok : TDO 314 td314 := tdA Tryz.t314 Tryz.type314 Tryz.underlying314
noncomputable def td315 : TD := { d := Tryz.t315.desc, size := 1, bytes := 24, zero := [.nilslice], agg := false, flat := true }
theorem td315_ok : TDO 315 td315 := tdS Tryz.t315 Tryz.type315 Tryz.underlying315
noncomputable def td316 : TD := { d := Tryz.t316.desc, size := 1, bytes := 8, zero := [.nilfunc], agg := false, flat := true }
theorem td316_ok : TDO 316 td316 := tdS Tryz.t316 Tryz.type316 Tryz.underlying316
noncomputable def td317 : TD := { d := Tryz.t317.desc, size := 1, bytes := 8, zero := [.nilmap], agg := false, flat := true }
theorem td317_ok : TDO 317 td317 := tdS Tryz.t317 Tryz.type317 Tryz.underlying317
noncomputable def td318 : TD := { d := Tryz.t318.desc, size := 1, bytes := 8, zero := [.nilfunc], agg := false, flat := true }
theorem td318_ok : TDO 318 td318 := tdS Tryz.t318 Tryz.type318 Tryz.underlying318
noncomputable def td319 : TD := { d := Tryz.t319.desc, size := 1, bytes := 8, zero := [.nilfunc], agg := false, flat := true }
theorem td319_ok : TDO 319 td319 := tdS Tryz.t319 Tryz.type319 Tryz.underlying319
noncomputable def td320 : TD := { d := Tryz.t320.desc, size := 1, bytes := 8, zero := [.nilfunc], agg := false, flat := true }
theorem td320_ok : TDO 320 td320 := tdS Tryz.t320 Tryz.type320 Tryz.underlying320
noncomputable def td321 : TD := { d := Tryz.t321.desc, size := 1, bytes := 8, zero := [.nilfunc], agg := false, flat := true }
theorem td321_ok : TDO 321 td321 := tdS Tryz.t321 Tryz.type321 Tryz.underlying321
noncomputable def td322 : TD := { d := Tryz.t322.desc, size := 1, bytes := 0, zero := [.tuple [.nilfunc, .bool (.lit (0))]], agg := false, flat := true }
theorem td322_ok : TDO 322 td322 := tdS Tryz.t322 Tryz.type322 Tryz.underlying322
noncomputable def td323 : TD := { d := Tryz.t323.desc, size := 1, bytes := 8, zero := [.nilmap], agg := false, flat := true }
theorem td323_ok : TDO 323 td323 := tdS Tryz.t323 Tryz.type323 Tryz.underlying323
noncomputable def td324 : TD := { d := Tryz.t324.desc, size := 1, bytes := 8, zero := [.nilfunc], agg := false, flat := true }
theorem td324_ok : TDO 324 td324 := tdS Tryz.t324 Tryz.type324 Tryz.underlying324
noncomputable def td325 : TD := { d := Tryz.t325.desc, size := 1, bytes := 0, zero := [.tuple [.agg [.int .i64 (.lit (0)), .int .u32 (.lit (0)), .int .u32 (.lit (0)), .int .u32 (.lit (0)), .int .u32 (.lit (0)), .int .u32 (.lit (0)), .int .u32 (.lit (0)), .int .u32 (.lit (0)), .int .u32 (.lit (0)), .int .u32 (.lit (0)), .int .u32 (.lit (0)), .int .u32 (.lit (0)), .int .u32 (.lit (0)), .int .u32 (.lit (0)), .int .u32 (.lit (0)), .int .u32 (.lit (0)), .int .u32 (.lit (0)), .int .u32 (.lit (0)), .int .u32 (.lit (0)), .int .u32 (.lit (0)), .int .u32 (.lit (0)), .int .u32 (.lit (0)), .int .u32 (.lit (0)), .int .u32 (.lit (0)), .int .u32 (.lit (0)), .int .u32 (.lit (0)), .int .u32 (.lit (0)), .int .u32 (.lit (0)), .int .u32 (.lit (0)), .int .u32 (.lit (0)), .int .u32 (.lit (0)), .int .u32 (.lit (0)), .int .u32 (.lit (0)), .int .u32 (.lit (0)), .int .i64 (.lit (0))], .agg [.int .u32 (.lit (0)), .int .u32 (.lit (0)), .int .i64 (.lit (0)), .int .u32 (.lit (0)), .int .i64 (.lit (0)), .int .u32 (.lit (0)), .int .i64 (.lit (0)), .bool (.lit (0)), .bool (.lit (0)), .int .u32 (.lit (0)), .bool (.lit (0)), .int .i64 (.lit (0)), .int .u32 (.lit (0)), .int .i64 (.lit (0))], .int .i64 (.lit (0))]], agg := false, flat := true }
theorem td325_ok : TDO 325 td325 := tdS Tryz.t325 Tryz.type325 Tryz.underlying325
noncomputable def td326 : TD := { d := Tryz.t326.desc, size := 1, bytes := 8, zero := [.nilfunc], agg := false, flat := true }
theorem td326_ok : TDO 326 td326 := tdS Tryz.t326 Tryz.type326 Tryz.underlying326
noncomputable def td327 : TD := { d := Tryz.t327.desc, size := 1, bytes := 8, zero := [.nilfunc], agg := false, flat := true }
theorem td327_ok : TDO 327 td327 := tdS Tryz.t327 Tryz.type327 Tryz.underlying327
noncomputable def td328 : TD := { d := Tryz.t328.desc, size := 1, bytes := 8, zero := [.int .u64 (.lit (0))], agg := false, flat := true }
theorem td328_ok : TDO 328 td328 := tdS Tryz.t328 Tryz.type328 Tryz.underlying328
noncomputable def td329 : TD := { d := Tryz.t329.desc, size := 1, bytes := 8, zero := [.nilfunc], agg := false, flat := true }
theorem td329_ok : TDO 329 td329 := tdS Tryz.t329 Tryz.type329 Tryz.underlying329
noncomputable def td330 : TD := { d := Tryz.t330.desc, size := 1, bytes := 8, zero := [.nilfunc], agg := false, flat := true }
theorem td330_ok : TDO 330 td330 := tdS Tryz.t330 Tryz.type330 Tryz.underlying330
noncomputable def td331 : TD := { d := Tryz.t330.desc, size := 1, bytes := 8, zero := [.nilfunc], agg := false, flat := true }
theorem td331_ok : TDO 331 td331 := tdS Tryz.t331 Tryz.type331 Tryz.underlying331
noncomputable def td332 : TD := { d := Tryz.t332.desc, size := 1, bytes := 8, zero := [.nilfunc], agg := false, flat := true }
theorem td332_ok : TDO 332 td332 := tdS Tryz.t332 Tryz.type332 Tryz.underlying332
noncomputable def td333 : TD := { d := Tryz.t333.desc, size := 1, bytes := 8, zero := [.nilfunc], agg := false, flat := true }
theorem td333_ok : TDO 333 td333 := tdS Tryz.t333 Tryz.type333 Tryz.underlying333
noncomputable def td334 : TD := { d := Tryz.t334.desc, size := 1, bytes := 8, zero := [.nilfunc], agg := false, flat := true }
theorem td334_ok : TDO 334 td334 := tdS Tryz.t334 Tryz.type334 Tryz.underlying334
noncomputable def td335 : TD := { d := Tryz.t335.desc, size := 1, bytes := 8, zero := [.nilfunc], agg := false, flat := true }
theorem td335_ok : TDO 335 td335 := tdS Tryz.t335 Tryz.type335 Tryz.underlying335
noncomputable def td336 : TD := { d := Tryz.t336.desc, size := 1, bytes := 24, zero := [.nilslice], agg := false, flat := true }
theorem td336_ok : TDO 336 td336 := tdS Tryz.t336 Tryz.type336 Tryz.underlying336
noncomputable def td337 : TD := { d := Tryz.t337.desc, size := 1, bytes := 8, zero := [.nilfunc], agg := false, flat := true }
theorem td337_ok : TDO 337 td337 := tdS Tryz.t337 Tryz.type337 Tryz.underlying337
noncomputable def td338 : TD := { d := Tryz.t338.desc, size := 1, bytes := 8, zero := [.nilfunc], agg := false, flat := true }
theorem td338_ok : TDO 338 td338 := tdS Tryz.t338 Tryz.type338 Tryz.underlying338
noncomputable def td339 : TD := { d := Tryz.t339.desc, size := 1, bytes := 8, zero := [.nilmap], agg := false, flat := true }
theorem td339_ok : TDO 339 td339 := tdS Tryz.t339 Tryz.type339 Tryz.underlying339
noncomputable def td340 : TD := { d := Tryz.t340.desc, size := 1, bytes := 8, zero := [.nilfunc], agg := false, flat := true }
theorem td340_ok : TDO 340 td340 := tdS Tryz.t340 Tryz.type340 Tryz.underlying340
noncomputable def td341 : TD := { d := Tryz.t341.desc, size := 1, bytes := 24, zero := [.nilslice], agg := false, flat := true }
theorem td341_ok : TDO 341 td341 := tdS Tryz.t341 Tryz.type341 Tryz.underlying341
noncomputable def td342 : TD := { d := Tryz.t342.desc, size := 1, bytes := 8, zero := [.nilfunc], agg := false, flat := true }
theorem td342_ok : TDO 342 td342 := tdS Tryz.t342 Tryz.type342 Tryz.underlying342
noncomputable def td343 : TD := { d := Tryz.t343.desc, size := 1, bytes := 8, zero := [.nilfunc], agg := false, flat := true }
theorem td343_ok : TDO 343 td343 := tdS Tryz.t343 Tryz.type343 Tryz.underlying343
noncomputable def td344 : TD := { d := Tryz.t344.desc, size := 1, bytes := 8, zero := [.nilfunc], agg := false, flat := true }
theorem td344_ok : TDO 344 td344 := tdS Tryz.t344 Tryz.type344 Tryz.underlying344
noncomputable def td345 : TD := { d := Tryz.t345.desc, size := 1, bytes := 8, zero := [.nilfunc], agg := false, flat := true }
theorem td345_ok : TDO 345 td345 := tdS Tryz.t345 Tryz.type345 Tryz.underlying345
noncomputable def td346 : TD := { d := Tryz.t346.desc, size := 1, bytes := 8, zero := [.nilfunc], agg := false, flat := true }
theorem td346_ok : TDO 346 td346 := tdS Tryz.t346 Tryz.type346 Tryz.underlying346
noncomputable def td347 : TD := { d := Tryz.t347.desc, size := 1, bytes := 0, zero := [.tuple [.agg [.int .i64 (.lit (0)), .int .u32 (.lit (0)), .int .u32 (.lit (0)), .int .u32 (.lit (0)), .int .u32 (.lit (0)), .int .u32 (.lit (0)), .int .u32 (.lit (0)), .int .u32 (.lit (0)), .int .u32 (.lit (0)), .int .u32 (.lit (0)), .int .u32 (.lit (0)), .int .u32 (.lit (0)), .int .u32 (.lit (0)), .int .u32 (.lit (0)), .int .u32 (.lit (0)), .int .u32 (.lit (0)), .int .u32 (.lit (0)), .int .u32 (.lit (0)), .int .u32 (.lit (0)), .int .u32 (.lit (0)), .int .u32 (.lit (0)), .int .u32 (.lit (0)), .int .u32 (.lit (0)), .int .u32 (.lit (0)), .int .u32 (.lit (0)), .int .u32 (.lit (0)), .int .u32 (.lit (0)), .int .u32 (.lit (0)), .int .u32 (.lit (0)), .int .u32 (.lit (0)), .int .u32 (.lit (0)), .int .u32 (.lit (0)), .int .u32 (.lit (0)), .int .u32 (.lit (0)), .int .i64 (.lit (0))], .int .i64 (.lit (0))]], agg := false, flat := true }
theorem td347_ok : TDO 347 td347 := tdS Tryz.t347 Tryz.type347 Tryz.underlying347
noncomputable def td348 : TD := { d := Tryz.t348.desc, size := 1, bytes := 8, zero := [.nilfunc], agg := false, flat := true }
theorem td348_ok : TDO 348 td348 := tdS Tryz.t348 Tryz.type348 Tryz.underlying348
noncomputable def td349 : TD := { d := Tryz.t349.desc, size := 1, bytes := 0, zero := [.tuple [.int .i64 (.lit (0)), .bool (.lit (0))]], agg := false, flat := true }
theorem td349_ok : TDO 349 td349 := tdS Tryz.t349 Tryz.type349 Tryz.underlying349
noncomputable def td350 : TD := { d := Tryz.t350.desc, size := 1, bytes := 8, zero := [.nilfunc], agg := false, flat := true }
theorem td350_ok : TDO 350 td350 := tdS Tryz.t350 Tryz.type350 Tryz.underlying350
noncomputable def td351 : TD := { d := Tryz.t351.desc, size := 1, bytes := 8, zero := [.nilfunc], agg := false, flat := true }
theorem td351_ok : TDO 351 td351 := tdS Tryz.t351 Tryz.type351 Tryz.underlying351
noncomputable def td352 : TD := { d := Tryz.t21.desc, size := 1, bytes := 4, zero := [.int .i32 (.lit (0))], agg := false, flat := true }
theorem td352_ok : TDO 352 td352 := tdS Tryz.t352 Tryz.type352 Tryz.underlying352
noncomputable def td353 : TD := { d := Tryz.t353.desc, size := 1, bytes := 8, zero := [.nilfunc], agg := false, flat := true }
theorem td353_ok : TDO 353 td353 := tdS Tryz.t353 Tryz.type353 Tryz.underlying353
noncomputable def td354 : TD := { d := Tryz.t354.desc, size := 1, bytes := 8, zero := [.nilfunc], agg := false, flat := true }
theorem td354_ok : TDO 354 td354 := tdS Tryz.t354 Tryz.type354 Tryz.underlying354
noncomputable def td355 : TD := { d := Tryz.t355.desc, size := 1, bytes := 8, zero := [.nilfunc], agg := false, flat := true }
theorem td355_ok : TDO 355 td355 := tdS Tryz.t355 Tryz.type355 Tryz.underlying355
noncomputable def td356 : TD := { d := Tryz.t356.desc, size := 1, bytes := 8, zero := [.nilfunc], agg := false, flat := true }
theorem td356_ok : TDO 356 td356 := tdS Tryz.t356 Tryz.type356 Tryz.underlying356
noncomputable def td357 : TD := { d := Tryz.t357.desc, size := 1, bytes := 8, zero := [.nilfunc], agg := false, flat := true }
theorem td357_ok : TDO 357 td357 := tdS Tryz.t357 Tryz.type357 Tryz.underlying357
noncomputable def td358 : TD := { d := Tryz.t358.desc, size := 256, bytes := 256, zero := [.int .u8 (.lit (0)), .int .u8 (.lit (0)), .int .u8 (.lit (0)), .int .u8 (.lit (0)), .int .u8 (.lit (0)), .int .u8 (.lit (0)), .int .u8 (.lit (0)), .int .u8 (.lit (0)), .int .u8 (.lit (0)), .int .u8 (.lit (0)), .int .u8 (.lit (0)), .int .u8 (.lit (0)), .int .u8 (.lit (0)), .int .u8 (.lit (0)), .int .u8 (.lit (0)), .int .u8 (.lit (0)), .int .u8 (.lit (0)), .int .u8 (.lit (0)), .int .u8 (.lit (0)), .int .u8 (.lit (0)), .int .u8 (.lit (0)), .int .u8 (.lit (0)), .int .u8 (.lit (0)), .int .u8 (.lit (0)), .int .u8 (.lit (0)), .int .u8 (.lit (0)), .int .u8 (.lit (0)), .int .u8 (.lit (0)), .int .u8 (.lit (0)), .int .u8 (.lit (0)), .int .u8 (.lit (0)), .int .u8 (.lit (0)), .int .u8 (.lit (0)), .int .u8 (.lit (0)), .int .u8 (.lit (0)), .int .u8 (.lit (0)), .int .u8 (.lit (0)), .int .u8 (.lit (0)), .int .u8 (.lit (0)), .int .u8 (.lit (0)), .int .u8 (.lit (0)), .int .u8 (.lit (0)), .int .u8 (.lit (0)), .int .u8 (.lit (0)), .int .u8 (.lit (0)), .int .u8 (.lit (0)), .int .u8 (.lit (0)), .int .u8 (.lit (0)), .int .u8 (.lit (0)), .int .u8 (.lit (0)), .int .u8 (.lit (0)), .int .u8 (.lit (0)), .int .u8 (.lit (0)), .int .u8 (.lit (0)), .int .u8 (.lit (0)), .int .u8 (.lit (0)), .int .u8 (.lit (0)), .int .u8 (.lit (0)), .int .u8 (.lit (0)), .int .u8 (.lit (0)), .int .u8 (.lit (0)), .int .u8 (.lit (0)), .int .u8 (.lit (0)), .int .u8 (.lit (0)), .int .u8 (.lit (0)), .int .u8 (.lit (0)), .int .u8 (.lit (0)), .int .u8 (.lit (0)), .int .u8 (.lit (0)), .int .u8 (.lit (0)), .int .u8 (.lit (0)), .int .u8 (.lit (0)), .int .u8 (.lit (0)), .int .u8 (.lit (0)), .int .u8 (.lit (0)), .int .u8 (.lit (0)), .int .u8 (.lit (0)), .int .u8 (.lit (0)), .int .u8 (.lit (0)), .int .u8 (.lit (0)), .int .u8 (.lit (0)), .int .u8 (.lit (0)), .int .u8 (.lit (0)), .int .u8 (.lit (0)), .int .u8 (.lit (0)), .int .u8 (.lit (0)), .int .u8 (.lit (0)), .int .u8 (.lit (0)), .int .u8 (.lit (0)), .int .u8 (.lit (0)), .int .u8 (.lit (0)), .int .u8 (.lit (0)), .int .u8 (.lit (0)), .int .u8 (.lit (0)), .int .u8 (.lit (0)), .int .u8 (.lit (0)), .int .u8 (.lit (0)), .int .u8 (.lit (0)), .int .u8 (.lit (0)), .int .u8 (.lit (0)), .int .u8 (.lit (0)), .int .u8 (.lit (0)), .int .u8 (.lit (0)), .int .u8 (.lit (0)), .int .u8 (.lit (0)), .int .u8 (.lit (0)), .int .u8 (.lit (0)), .int .u8 (.lit (0)), .int .u8 (.lit (0)), .int .u8 (.lit (0)), .int .u8 (.lit (0)), .int .u8 (.lit (0)), .int .u8 (.lit (0)), .int .u8 (.lit (0)), .int .u8 (.lit (0)), .int .u8 (.lit (0)), .int .u8 (.lit (0)), .int .u8 (.lit (0)), .int .u8 (.lit (0)), .int .u8 (.lit (0)), .int .u8 (.lit (0)), .int .u8 (.lit (0)), .int .u8 (.lit (0)), .int .u8 (.lit (0)), .int .u8 (.lit (0)), .int .u8 (.lit (0)), .int .u8 (.lit (0)), .int .u8 (.lit (0)), .int .u8 (.lit (0)), .int .u8 (.lit (0)), .int .u8 (.lit (0)), .int .u8 (.lit (0)), .int .u8 (.lit (0)), .int .u8 (.lit (0)), .int .u8 (.lit (0)), .int .u8 (.lit (0)), .int .u8 (.lit (0)), .int .u8 (.lit (0)), .int .u8 (.lit (0)), .int .u8 (.lit (0)), .int .u8 (.lit (0)), .int .u8 (.lit (0)), .int .u8 (.lit (0)), .int .u8 (.lit (0)), .int .u8 (.lit (0)), .int .u8 (.lit (0)), .int .u8 (.lit (0)), .int .u8 (.lit (0)), .int .u8 (.lit (0)), .int .u8 (.lit (0)), .int .u8 (.lit (0)), .int .u8 (.lit (0)), .int .u8 (.lit (0)), .int .u8 (.lit (0)), .int .u8 (.lit (0)), .int .u8 (.lit (0)), .int .u8 (.lit (0)), .int .u8 (.lit (0)), .int .u8 (.lit (0)), .int .u8 (.lit (0)), .int .u8 (.lit (0)), .int .u8 (.lit (0)), .int .u8 (.lit (0)), .int .u8 (.lit (0)), .int .u8 (.lit (0)), .int .u8 (.lit (0)), .int .u8 (.lit (0)), .int .u8 (.lit (0)), .int .u8 (.lit (0)), .int .u8 (.lit (0)), .int .u8 (.lit (0)), .int .u8 (.lit (0)), .int .u8 (.lit (0)), .int .u8 (.lit (0)), .int .u8 (.lit (0)), .int .u8 (.lit (0)), .int .u8 (.lit (0)), .int .u8 (.lit (0)), .int .u8 (.lit (0)), .int .u8 (.lit (0)), .int .u8 (.lit (0)), .int .u8 (.lit (0)), .int .u8 (.lit (0)), .int .u8 (.lit (0)), .int .u8 (.lit (0)), .int .u8 (.lit (0)), .int .u8 (.lit (0)), .int .u8 (.lit (0)), .int .u8 (.lit (0)), .int .u8 (.lit (0)), .int .u8 (.lit (0)), .int .u8 (.lit (0)), .int .u8 (.lit (0)), .int .u8 (.lit (0)), .int .u8 (.lit (0)), .int .u8 (.lit (0)), .int .u8 (.lit (0)), .int .u8 (.lit (0)), .int .u8 (.lit (0)), .int .u8 (.lit (0)), .int .u8 (.lit (0)), .int .u8 (.lit (0)), .int .u8 (.lit (0)), .int .u8 (.lit (0)), .int .u8 (.lit (0)), .int .u8 (.lit (0)), .int .u8 (.lit (0)), .int .u8 (.lit (0)), .int .u8 (.lit (0)), .int .u8 (.lit (0)), .int .u8 (.lit (0)), .int .u8 (.lit (0)), .int .u8 (.lit (0)), .int .u8 (.lit (0)), .int .u8 (.lit (0)), .int .u8 (.lit (0)), .int .u8 (.lit (0)), .int .u8 (.lit (0)), .int .u8 (.lit (0)), .int .u8 (.lit (0)), .int .u8 (.lit (0)), .int .u8 (.lit (0)), .int .u8 (.lit (0)), .int .u8 (.lit (0)), .int .u8 (.lit (0)), .int .u8 (.lit (0)), .int .u8 (.lit (0)), .int .u8 (.lit (0)), .int .u8 (.lit (0)), .int .u8 (.lit (0)), .int .u8 (.lit (0)), .int .u8 (.lit (0)), .int .u8 (.lit (0)), .int .u8 (.lit (0)), .int .u8 (.lit (0)), .int .u8 (.lit (0)), .int .u8 (.lit (0)), .int .u8 (.lit (0)), .int .u8 (.lit (0)), .int .u8 (.lit (0)), .int .u8 (.lit (0)), .int .u8 (.lit (0)), .int .u8 (.lit (0)), .int .u8 (.lit (0)), .int .u8 (.lit (0)), .int .u8 (.lit (0)), .int .u8 (.lit (0)), .int .u8 (.lit (0)), .int .u8 (.lit (0)), .int .u8 (.lit (0)), .int .u8 (.lit (0)), .int .u8 (.lit (0)), .int .u8 (.lit (0)), .int .u8 (.lit (0)), .int .u8 (.lit (0)), .int .u8 (.lit (0))], agg := true, flat := true }
theorem td358_ok : TDO 358 td358 := tdA Tryz.t358 Tryz.type358 Tryz.underlying358
noncomputable def td359 : TD := { d := Tryz.t359.desc, size := 1, bytes := 8, zero := [.nilfunc], agg := false, flat := true }
theorem td359_ok : TDO 359 td359 := tdS Tryz.t359 Tryz.type359 Tryz.underlying359
noncomputable def td360 : TD := { d := Tryz.t360.desc, size := 1, bytes := 8, zero := [.nilfunc], agg := false, flat := true }
theorem td360_ok : TDO 360 td360 := tdS Tryz.t360 Tryz.type360 Tryz.underlying360
noncomputable def td361 : TD := { d := Tryz.t361.desc, size := 1, bytes := 8, zero := [.nilfunc], agg := false, flat := true }
theorem td361_ok : TDO 361 td361 := tdS Tryz.t361 Tryz.type361 Tryz.underlying361
noncomputable def td362 : TD := { d := Tryz.t362.desc, size := 1, bytes := 8, zero := [.nilfunc], agg := false, flat := true }
theorem td362_ok : TDO 362 td362 := tdS Tryz.t362 Tryz.type362 Tryz.underlying362
noncomputable def td363 : TD := { d := Tryz.t363.desc, size := 1, bytes := 8, zero := [.nilfunc], agg := false, flat := true }
theorem td363_ok : TDO 363 td363 := tdS Tryz.t363 Tryz.type363 Tryz.underlying363
noncomputable def td364 : TD := { d := Tryz.t364.desc, size := 1, bytes := 8, zero := [.nilfunc], agg := false, flat := true }
theorem td364_ok : TDO 364 td364 := tdS Tryz.t364 Tryz.type364 Tryz.underlying364
noncomputable def td365 : TD := { d := Tryz.t365.desc, size := 1, bytes := 24, zero := [.nilslice], agg := false, flat := true }
theorem td365_ok : TDO 365 td365 := tdS Tryz.t365 Tryz.type365 Tryz.underlying365
noncomputable def td366 : TD := { d := Tryz.t366.desc, size := 2, bytes := 16, zero := [.int .i64 (.lit (0)), .int .i64 (.lit (0))], agg := true, flat := true }
theorem td366_ok : TDO 366 td366 := tdA Tryz.t366 Tryz.type366 Tryz.underlying366
noncomputable def td367 : TD := { d := Tryz.t366.desc, size := 2, bytes := 16, zero := [.int .i64 (.lit (0)), .int .i64 (.lit (0))], agg := true, flat := true }
theorem td367_ok : TDO 367 td367 := tdA Tryz.t367 Tryz.type367 Tryz.underlying367
noncomputable def td368 : TD := { d := Tryz.t368.desc, size := 1, bytes := 8, zero := [.nilfunc], agg := false, flat := true }
theorem td368_ok : TDO 368 td368 := tdS Tryz.t368 Tryz.type368 Tryz.underlying368
noncomputable def td369 : TD := { d := Tryz.t369.desc, size := 1, bytes := 8, zero := [.nilptr], agg := false, flat := true }
theorem td369_ok : TDO 369 td369 := tdS Tryz.t369 Tryz.type369 Tryz.underlying369
noncomputable def td370 : TD := { d := Tryz.t370.desc, size := 1, bytes := 0, zero := [.tuple [.nilfunc, .bool (.lit (0))]], agg := false, flat := true }
theorem td370_ok : TDO 370 td370 := tdS Tryz.t370 Tryz.type370 Tryz.underlying370
noncomputable def td371 : TD := { d := Tryz.t371.desc, size := 1, bytes := 8, zero := [.nilmap], agg := false, flat := true }
theorem td371_ok : TDO 371 td371 := tdS Tryz.t371 Tryz.type371 Tryz.underlying371
noncomputable def td372 : TD := { d := Tryz.t372.desc, size := 1, bytes := 8, zero := [.nilfunc], agg := false, flat := true }
theorem td372_ok : TDO 372 td372 := tdS Tryz.t372 Tryz.type372 Tryz.underlying372
noncomputable def td373 : TD := { d := Tryz.t373.desc, size := 1, bytes := 8, zero := [.nilptr], agg := false, flat := true }
theorem td373_ok : TDO 373 td373 := tdS Tryz.t373 Tryz.type373 Tryz.underlying373
noncomputable def td374 : TD := { d := Tryz.t374.desc, size := 2, bytes := 32, zero := [.nilptr, .nilslice], agg := true, flat := true }
theorem td374_ok : TDO 374 td374 := tdA Tryz.t374 Tryz.type374 Tryz.underlying374
noncomputable def td375 : TD := { d := Tryz.t374.desc, size := 2, bytes := 32, zero := [.nilptr, .nilslice], agg := true, flat := true }
theorem td375_ok : TDO 375 td375 := tdA Tryz.t375 Tryz.type375 Tryz.underlying375
noncomputable def td376 : TD := { d := Tryz.t376.desc, size := 1, bytes := 16, zero := [.niliface], agg := false, flat := true }
theorem td376_ok : TDO 376 td376 := tdS Tryz.t376 Tryz.type376 Tryz.underlying376
noncomputable def td377 : TD := { d := Tryz.t376.desc, size := 1, bytes := 16, zero := [.niliface], agg := false, flat := true }
theorem td377_ok : TDO 377 td377 := tdS Tryz.t377 Tryz.type377 Tryz.underlying377
noncomputable def td378 : TD := { d := Tryz.t378.desc, size := 1, bytes := 0, zero := [.tuple [.int .i64 (.lit (0)), .niliface]], agg := false, flat := true }
theorem td378_ok : TDO 378 td378 := tdS Tryz.t378 Tryz.type378 Tryz.underlying378
noncomputable def td379 : TD := { d := Tryz.t379.desc, size := 1, bytes := 8, zero := [.nilfunc], agg := false, flat := true }
theorem td379_ok : TDO 379 td379 := tdS Tryz.t379 Tryz.type379 Tryz.underlying379
noncomputable def td380 : TD := { d := Tryz.t380.desc, size := 1, bytes := 8, zero := [.nilfunc], agg := false, flat := true }
theorem td380_ok : TDO 380 td380 := tdS Tryz.t380 Tryz.type380 Tryz.underlying380
noncomputable def td381 : TD := { d := Tryz.t381.desc, size := 24, bytes := 24, zero := [.int .u8 (.lit (0)), .int .u8 (.lit (0)), .int .u8 (.lit (0)), .int .u8 (.lit (0)), .int .u8 (.lit (0)), .int .u8 (.lit (0)), .int .u8 (.lit (0)), .int .u8 (.lit (0)), .int .u8 (.lit (0)), .int .u8 (.lit (0)), .int .u8 (.lit (0)), .int .u8 (.lit (0)), .int .u8 (.lit (0)), .int .u8 (.lit (0)), .int .u8 (.lit (0)), .int .u8 (.lit (0)), .int .u8 (.lit (0)), .int .u8 (.lit (0)), .int .u8 (.lit (0)), .int .u8 (.lit (0)), .int .u8 (.lit (0)), .int .u8 (.lit (0)), .int .u8 (.lit (0)), .int .u8 (.lit (0))], agg := true, flat := true }
theorem td381_ok : TDO 381 td381 := tdA Tryz.t381 Tryz.type381 Tryz.underlying381
noncomputable def td382 : TD := { d := Tryz.t382.desc, size := 1, bytes := 8, zero := [.nilfunc], agg := false, flat := true }
theorem td382_ok : TDO 382 td382 := tdS Tryz.t382 Tryz.type382 Tryz.underlying382
noncomputable def td383 : TD := { d := Tryz.t383.desc, size := 1, bytes := 8, zero := [.nilfunc], agg := false, flat := true }
theorem td383_ok : TDO 383 td383 := tdS Tryz.t383 Tryz.type383 Tryz.underlying383
noncomputable def td384 : TD := { d := Tryz.t384.desc, size := 1, bytes := 0, zero := [.tuple [.nilslice, .str (.slit [])]], agg := false, flat := true }
theorem td384_ok : TDO 384 td384 := tdS Tryz.t384 Tryz.type384 Tryz.underlying384
noncomputable def td385 : TD := { d := Tryz.t385.desc, size := 1, bytes := 8, zero := [.nilfunc], agg := false, flat := true }
theorem td385_ok : TDO 385 td385 := tdS Tryz.t385 Tryz.type385 Tryz.underlying385
noncomputable def td386 : TD := { d := Tryz.t386.desc, size := 1, bytes := 24, zero := [.nilslice], agg := false, flat := true }
theorem td386_ok : TDO 386 td386 := tdS Tryz.t386 Tryz.type386 Tryz.underlying386
noncomputable def td387 : TD := { d := Tryz.t387.desc, size := 1, bytes := 24, zero := [.nilslice], agg := false, flat := true }
theorem td387_ok : TDO 387 td387 := tdS Tryz.t387 Tryz.type387 Tryz.underlying387
noncomputable def td388 : TD := { d := Tryz.t388.desc, size := 3, bytes := 56, zero := [.nilslice, .nilslice, .int .i64 (.lit (0))], agg := true, flat := true }
theorem td388_ok : TDO 388 td388 := tdA Tryz.t388 Tryz.type388 Tryz.underlying388
noncomputable def td389 : TD := { d := Tryz.t388.desc, size := 3, bytes := 56, zero := [.nilslice, .nilslice, .int .i64 (.lit (0))], agg := true, flat := true }
theorem td389_ok : TDO 389 td389 := tdA Tryz.t389 Tryz.type389 Tryz.underlying389
noncomputable def td390 : TD := { d := Tryz.t390.desc, size := 1, bytes := 2, zero := [.int .u16 (.lit (0))], agg := false, flat := true }
theorem td390_ok : TDO 390 td390 := tdS Tryz.t390 Tryz.type390 Tryz.underlying390
noncomputable def td391 : TD := { d := Tryz.t391.desc, size := 3, bytes := 6, zero := [.int .u16 (.lit (0)), .int .u16 (.lit (0)), .int .u16 (.lit (0))], agg := true, flat := true }
theorem td391_ok : TDO 391 td391 := tdA Tryz.t391 Tryz.type391 Tryz.underlying391
noncomputable def td392 : TD := { d := Tryz.t391.desc, size := 3, bytes := 6, zero := [.int .u16 (.lit (0)), .int .u16 (.lit (0)), .int .u16 (.lit (0))], agg := true, flat := true }
theorem td392_ok : TDO 392 td392 := tdA Tryz.t392 Tryz.type392 Tryz.underlying392
noncomputable def td393 : TD := { d := Tryz.t393.desc, size := 1, bytes := 8, zero := [.nilfunc], agg := false, flat := true }
theorem td393_ok : TDO 393 td393 := tdS Tryz.t393 Tryz.type393 Tryz.underlying393
noncomputable def td394 : TD := { d := Tryz.t394.desc, size := 3, bytes := 12, zero := [.int .u32 (.lit (0)), .int .u32 (.lit (0)), .int .u32 (.lit (0))], agg := true, flat := true }
theorem td394_ok : TDO 394 td394 := tdA Tryz.t394 Tryz.type394 Tryz.underlying394
noncomputable def td395 : TD := { d := Tryz.t394.desc, size := 3, bytes := 12, zero := [.int .u32 (.lit (0)), .int .u32 (.lit (0)), .int .u32 (.lit (0))], agg := true, flat := true }
theorem td395_ok : TDO 395 td395 := tdA Tryz.t395 Tryz.type395 Tryz.underlying395
noncomputable def td396 : TD := { d := Tryz.t396.desc, size := 1, bytes := 8, zero := [.nilfunc], agg := false, flat := true }
theorem td396_ok : TDO 396 td396 := tdS Tryz.t396 Tryz.type396 Tryz.underlying396
noncomputable def td397 : TD := { d := Tryz.t397.desc, size := 1, bytes := 8, zero := [.nilptr], agg := false, flat := true }
theorem td397_ok : TDO 397 td397 := tdS Tryz.t397 Tryz.type397 Tryz.underlying397
noncomputable def td398 : TD := { d := Tryz.t398.desc, size := 1, bytes := 8, zero := [.nilfunc], agg := false, flat := true }
theorem td398_ok : TDO 398 td398 := tdS Tryz.t398 Tryz.type398 Tryz.underlying398
noncomputable def td399 : TD := { d := Tryz.t399.desc, size := 1, bytes := 8, zero := [.nilfunc], agg := false, flat := true }
theorem td399_ok : TDO 399 td399 := tdS Tryz.t399 Tryz.type399 Tryz.underlying399
noncomputable def td400 : TD := { d := Tryz.t400.desc, size := 20, bytes := 160, zero := [.int .u64 (.lit (0)), .int .u64 (.lit (0)), .int .u64 (.lit (0)), .int .u64 (.lit (0)), .int .u64 (.lit (0)), .int .u64 (.lit (0)), .int .u64 (.lit (0)), .int .u64 (.lit (0)), .int .u64 (.lit (0)), .int .u64 (.lit (0)), .int .u64 (.lit (0)), .int .u64 (.lit (0)), .int .u64 (.lit (0)), .int .u64 (.lit (0)), .int .u64 (.lit (0)), .int .u64 (.lit (0)), .int .u64 (.lit (0)), .int .u64 (.lit (0)), .int .u64 (.lit (0)), .int .u64 (.lit (0))], agg := true, flat := true }
theorem td400_ok : TDO 400 td400 := tdA Tryz.t400 Tryz.type400 Tryz.underlying400
noncomputable def td401 : TD := { d := Tryz.t401.desc, size := 65, bytes := 65, zero := [.int .u8 (.lit (0)), .int .u8 (.lit (0)), .int .u8 (.lit (0)), .int .u8 (.lit (0)), .int .u8 (.lit (0)), .int .u8 (.lit (0)), .int .u8 (.lit (0)), .int .u8 (.lit (0)), .int .u8 (.lit (0)), .int .u8 (.lit (0)), .int .u8 (.lit (0)), .int .u8 (.lit (0)), .int .u8 (.lit (0)), .int .u8 (.lit (0)), .int .u8 (.lit (0)), .int .u8 (.lit (0)), .int .u8 (.lit (0)), .int .u8 (.lit (0)), .int .u8 (.lit (0)), .int .u8 (.lit (0)), .int .u8 (.lit (0)), .int .u8 (.lit (0)), .int .u8 (.lit (0)), .int .u8 (.lit (0)), .int .u8 (.lit (0)), .int .u8 (.lit (0)), .int .u8 (.lit (0)), .int .u8 (.lit (0)), .int .u8 (.lit (0)), .int .u8 (.lit (0)), .int .u8 (.lit (0)), .int .u8 (.lit (0)), .int .u8 (.lit (0)), .int .u8 (.lit (0)), .int .u8 (.lit (0)), .int .u8 (.lit (0)), .int .u8 (.lit (0)), .int .u8 (.lit (0)), .int .u8 (.lit (0)), .int .u8 (.lit (0)), .int .u8 (.lit (0)), .int .u8 (.lit (0)), .int .u8 (.lit (0)), .int .u8 (.lit (0)), .int .u8 (.lit (0)), .int .u8 (.lit (0)), .int .u8 (.lit (0)), .int .u8 (.lit (0)), .int .u8 (.lit (0)), .int .u8 (.lit (0)), .int .u8 (.lit (0)), .int .u8 (.lit (0)), .int .u8 (.lit (0)), .int .u8 (.lit (0)), .int .u8 (.lit (0)), .int .u8 (.lit (0)), .int .u8 (.lit (0)), .int .u8 (.lit (0)), .int .u8 (.lit (0)), .int .u8 (.lit (0)), .int .u8 (.lit (0)), .int .u8 (.lit (0)), .int .u8 (.lit (0)), .int .u8 (.lit (0)), .int .u8 (.lit (0))], agg := true, flat := true }
theorem td401_ok : TDO 401 td401 := tdA Tryz.t401 Tryz.type401 Tryz.underlying401
noncomputable def td402 : TD := { d := Tryz.t402.desc, size := 1, bytes := 8, zero := [.nilfunc], agg := false, flat := true }
theorem td402_ok : TDO 402 td402 := tdS Tryz.t402 Tryz.type402 Tryz.underlying402
noncomputable def td403 : TD := { d := Tryz.t403.desc, size := 1, bytes := 8, zero := [.nilptr], agg := false, flat := true }
theorem td403_ok : TDO 403 td403 := tdS Tryz.t403 Tryz.type403 Tryz.underlying403
noncomputable def td404 : TD := { d := Tryz.t404.desc, size := 1, bytes := 8, zero := [.nilptr], agg := false, flat := true }
theorem td404_ok : TDO 404 td404 := tdS Tryz.t404 Tryz.type404 Tryz.underlying404
noncomputable def td405 : TD := { d := Tryz.t405.desc, size := 1, bytes := 8, zero := [.nilfunc], agg := false, flat := true }
theorem td405_ok : TDO 405 td405 := tdS Tryz.t405 Tryz.type405 Tryz.underlying405
noncomputable def td406 : TD := { d := Tryz.t406.desc, size := 2, bytes := 8, zero := [.int .u32 (.lit (0)), .int .u32 (.lit (0))], agg := true, flat := true }
theorem td406_ok : TDO 406 td406 := tdA Tryz.t406 Tryz.type406 Tryz.underlying406
noncomputable def td407 : TD := { d := Tryz.t407.desc, size := 1, bytes := 8, zero := [.nilfunc], agg := false, flat := true }
theorem td407_ok : TDO 407 td407 := tdS Tryz.t407 Tryz.type407 Tryz.underlying407
noncomputable def td408 : TD := { d := Tryz.t408.desc, size := 1, bytes := 0, zero := [.tuple [.int .u32 (.lit (0)), .int .u32 (.lit (0))]], agg := false, flat := true }
theorem td408_ok : TDO 408 td408 := tdS Tryz.t408 Tryz.type408 Tryz.underlying408
noncomputable def td409 : TD := { d := Tryz.t409.desc, size := 1, bytes := 8, zero := [.nilfunc], agg := false, flat := true }
theorem td409_ok : TDO 409 td409 := tdS Tryz.t409 Tryz.type409 Tryz.underlying409
noncomputable def td410 : TD := { d := Tryz.t410.desc, size := 1, bytes := 8, zero := [.nilptr], agg := false, flat := true }
theorem td410_ok : TDO 410 td410 := tdS Tryz.t410 Tryz.type410 Tryz.underlying410
noncomputable def td411 : TD := { d := Tryz.t411.desc, size := 1, bytes := 8, zero := [.nilfunc], agg := false, flat := true }
theorem td411_ok : TDO 411 td411 := tdS Tryz.t411 Tryz.type411 Tryz.underlying411
noncomputable def td412 : TD := { d := Tryz.t412.desc, size := 1, bytes := 8, zero := [.nilfunc], agg := false, flat := true }
theorem td412_ok : TDO 412 td412 := tdS Tryz.t412 Tryz.type412 Tryz.underlying412
noncomputable def td413 : TD := { d := Tryz.t413.desc, size := 1, bytes := 8, zero := [.nilfunc], agg := false, flat := true }
theorem td413_ok : TDO 413 td413 := tdS Tryz.t413 Tryz.type413 Tryz.underlying413
noncomputable def td414 : TD := { d := Tryz.t414.desc, size := 1, bytes := 8, zero := [.nilfunc], agg := false, flat := true }
theorem td414_ok : TDO 414 td414 := tdS Tryz.t414 Tryz.type414 Tryz.underlying414
noncomputable def td415 : TD := { d := Tryz.t415.desc, size := 32, bytes := 32, zero := [.int .u8 (.lit (0)), .int .u8 (.lit (0)), .int .u8 (.lit (0)), .int .u8 (.lit (0)), .int .u8 (.lit (0)), .int .u8 (.lit (0)), .int .u8 (.lit (0)), .int .u8 (.lit (0)), .int .u8 (.lit (0)), .int .u8 (.lit (0)), .int .u8 (.lit (0)), .int .u8 (.lit (0)), .int .u8 (.lit (0)), .int .u8 (.lit (0)), .int .u8 (.lit (0)), .int .u8 (.lit (0)), .int .u8 (.lit (0)), .int .u8 (.lit (0)), .int .u8 (.lit (0)), .int .u8 (.lit (0)), .int .u8 (.lit (0)), .int .u8 (.lit (0)), .int .u8 (.lit (0)), .int .u8 (.lit (0)), .int .u8 (.lit (0)), .int .u8 (.lit (0)), .int .u8 (.lit (0)), .int .u8 (.lit (0)), .int .u8 (.lit (0)), .int .u8 (.lit (0)), .int .u8 (.lit (0)), .int .u8 (.lit (0))], agg := true, flat := true }
theorem td415_ok : TDO 415 td415 := tdA Tryz.t415 Tryz.type415 Tryz.underlying415
noncomputable def td416 : TD := { d := Tryz.t416.desc, size := 64, bytes := 64, zero := [.int .u8 (.lit (0)), .int .u8 (.lit (0)), .int .u8 (.lit (0)), .int .u8 (.lit (0)), .int .u8 (.lit (0)), .int .u8 (.lit (0)), .int .u8 (.lit (0)), .int .u8 (.lit (0)), .int .u8 (.lit (0)), .int .u8 (.lit (0)), .int .u8 (.lit (0)), .int .u8 (.lit (0)), .int .u8 (.lit (0)), .int .u8 (.lit (0)), .int .u8 (.lit (0)), .int .u8 (.lit (0)), .int .u8 (.lit (0)), .int .u8 (.lit (0)), .int .u8 (.lit (0)), .int .u8 (.lit (0)), .int .u8 (.lit (0)), .int .u8 (.lit (0)), .int .u8 (.lit (0)), .int .u8 (.lit (0)), .int .u8 (.lit (0)), .int .u8 (.lit (0)), .int .u8 (.lit (0)), .int .u8 (.lit (0)), .int .u8 (.lit (0)), .int .u8 (.lit (0)), .int .u8 (.lit (0)), .int .u8 (.lit (0)), .int .u8 (.lit (0)), .int .u8 (.lit (0)), .int .u8 (.lit (0)), .int .u8 (.lit (0)), .int .u8 (.lit (0)), .int .u8 (.lit (0)), .int .u8 (.lit (0)), .int .u8 (.lit (0)), .int .u8 (.lit (0)), .int .u8 (.lit (0)), .int .u8 (.lit (0)), .int .u8 (.lit (0)), .int .u8 (.lit (0)), .int .u8 (.lit (0)), .int .u8 (.lit (0)), .int .u8 (.lit (0)), .int .u8 (.lit (0)), .int .u8 (.lit (0)), .int .u8 (.lit (0)), .int .u8 (.lit (0)), .int .u8 (.lit (0)), .int .u8 (.lit (0)), .int .u8 (.lit (0)), .int .u8 (.lit (0)), .int .u8 (.lit (0)), .int .u8 (.lit (0)), .int .u8 (.lit (0)), .int .u8 (.lit (0)), .int .u8 (.lit (0)), .int .u8 (.lit (0)), .int .u8 (.lit (0)), .int .u8 (.lit (0))], agg := true, flat := true }
theorem td416_ok : TDO 416 td416 := tdA Tryz.t416 Tryz.type416 Tryz.underlying416
noncomputable def td417 : TD := { d := Tryz.t417.desc, size := 4, bytes := 40, zero := [.nilptr, .nilptr, .nilptr, .str (.slit [])], agg := true, flat := false }
theorem td417_ok : TDO 417 td417 := .of Tryz.t417 Tryz.type417 Tryz.underlying417 ⟨by kernel_rfl, by kernel_rfl, by kernel_rfl⟩ (by kernel_rfl) (by kernel_rfl) (fun h _ => absurd (h.symm.trans (show td417.flat = false by kernel_rfl)) (by decide))
noncomputable def td418 : TD := { d := Tryz.t417.desc, size := 4, bytes := 40, zero := [.nilptr, .nilptr, .nilptr, .str (.slit [])], agg := true, flat := false }
theorem td418_ok : TDO 418 td418 := .of Tryz.t418 Tryz.type418 Tryz.underlying418 ⟨by kernel_rfl, by kernel_rfl, by kernel_rfl⟩ (by kernel_rfl) (by kernel_rfl) (fun h _ => absurd (h.symm.trans (show td418.flat = false by kernel_rfl)) (by decide))
noncomputable def td419 : TD := { d := Tryz.t419.desc, size := 0, bytes := 0, zero := [], agg := true, flat := true }
theorem td419_ok : TDO 419 td419 := tdA Tryz.t419 Tryz.type419 Tryz.underlying419
noncomputable def td420 : TD := { d := Tryz.t420.desc, size := 0, bytes := 0, zero := [], agg := true, flat := false }
theorem td420_ok : TDO 420 td420 := .of Tryz.t420 Tryz.type420 Tryz.underlying420 ⟨by kernel_rfl, by kernel_rfl, by kernel_rfl⟩ (by kernel_rfl) (by kernel_rfl) (fun h _ => absurd (h.symm.trans (show td420.flat = false by kernel_rfl)) (by decide))
noncomputable def td421 : TD := { d := Tryz.t420.desc, size := 0, bytes := 0, zero := [], agg := true, flat := false }
theorem td421_ok : TDO 421 td421 := .of Tryz.t421 Tryz.type421 Tryz.underlying421 ⟨by kernel_rfl, by kernel_rfl, by kernel_rfl⟩ (by kernel_rfl) (by kernel_rfl) (fun h _ => absurd (h.symm.trans (show td421.flat = false by kernel_rfl)) (by decide))
noncomputable def td422 : TD := { d := Tryz.t5.desc, size := 1, bytes := 1, zero := [.int .u8 (.lit (0))], agg := false, flat := true }
theorem td422_ok : TDO 422 td422 := tdS Tryz.t422 Tryz.type422 Tryz.underlying422
noncomputable def td423 : TD := { d := Tryz.t5.desc, size := 1, bytes := 1, zero := [.int .u8 (.lit (0))], agg := false, flat := true }
theorem td423_ok : TDO 423 td423 := tdS Tryz.t423 Tryz.type423 Tryz.underlying423
noncomputable def td424 : TD := { d := Tryz.t424.desc, size := 1, bytes := 8, zero := [.nilfunc], agg := false, flat := true }
theorem td424_ok : TDO 424 td424 := tdS Tryz.t424 Tryz.type424 Tryz.underlying424
noncomputable def td425 : TD := { d := Tryz.t21.desc, size := 1, bytes := 4, zero := [.int .i32 (.lit (0))], agg := false, flat := true }
theorem td425_ok : TDO 425 td425 := tdS Tryz.t425 Tryz.type425 Tryz.underlying425
noncomputable def td426 : TD := { d := Tryz.t21.desc, size := 1, bytes := 4, zero := [.int .i32 (.lit (0))], agg := false, flat := true }
theorem td426_ok : TDO 426 td426 := tdS Tryz.t426 Tryz.type426 Tryz.underlying426
noncomputable def td427 : TD := { d := Tryz.t427.desc, size := 11, bytes := 48, zero := [.int .u64 (.lit (0)), .int .u64 (.lit (0)), .int .u32 (.lit (0)), .int .u8 (.lit (0)), .int .u8 (.lit (0)), .int .u8 (.lit (0)), .int .u8 (.lit (0)), .nilfunc, .nilptr, .int .i32 (.lit (0)), .int .i32 (.lit (0))], agg := true, flat := false }
theorem td427_ok : TDO 427 td427 := .of Tryz.t427 Tryz.type427 Tryz.underlying427 ⟨by kernel_rfl, by kernel_rfl, by kernel_rfl⟩ (by kernel_rfl) (by kernel_rfl) (fun h _ => absurd (h.symm.trans (show td427.flat = false by kernel_rfl)) (by decide))
noncomputable def td428 : TD := { d := Tryz.t427.desc, size := 11, bytes := 48, zero := [.int .u64 (.lit (0)), .int .u64 (.lit (0)), .int .u32 (.lit (0)), .int .u8 (.lit (0)), .int .u8 (.lit (0)), .int .u8 (.lit (0)), .int .u8 (.lit (0)), .nilfunc, .nilptr, .int .i32 (.lit (0)), .int .i32 (.lit (0))], agg := true, flat := false }
theorem td428_ok : TDO 428 td428 := .of Tryz.t428 Tryz.type428 Tryz.underlying428 ⟨by kernel_rfl, by kernel_rfl, by kernel_rfl⟩ (by kernel_rfl) (by kernel_rfl) (fun h _ => absurd (h.symm.trans (show td428.flat = false by kernel_rfl)) (by decide))
noncomputable def tt : T TD :=
 (.node (.node (.node (.node (.node (.node (.node (.node (.node .nil none (.node .nil (some td256) .nil)) none (.node .nil (some td128) (.node .nil (some td384) .nil))) none (.node (.node .nil none (.node .nil (some td320) .nil)) (some td64) (.node .nil (some td192) .nil))) none (.node (.node (.node .nil none (.node .nil (some td288) .nil)) none (.node .nil (some td160) (.node .nil (some td416) .nil))) (some td32) (.node (.node .nil none (.node .nil (some td352) .nil)) (some td96) (.node .nil (some td224) .nil)))) none (.node (.node (.node (.node .nil none (.node .nil (some td272) .nil)) none (.node .nil (some td144) (.node .nil (some td400) .nil))) none (.node (.node .nil none (.node .nil (some td336) .nil)) (some td80) (.node .nil (some td208) .nil))) (some td16) (.node (.node (.node .nil none (.node .nil (some td304) .nil)) none (.node .nil (some td176) .nil)) (some td48) (.node (.node .nil none (.node .nil (some td368) .nil)) (some td112) (.node .nil (some td240) .nil))))) none (.node (.node (.node (.node (.node .nil none (.node .nil (some td264) .nil)) none (.node .nil (some td136) (.node .nil (some td392) .nil))) none (.node (.node .nil none (.node .nil (some td328) .nil)) (some td72) (.node .nil (some td200) .nil))) none (.node (.node (.node .nil none (.node .nil (some td296) .nil)) none (.node .nil (some td168) (.node .nil (some td424) .nil))) (some td40) (.node (.node .nil none (.node .nil (some td360) .nil)) (some td104) (.node .nil (some td232) .nil)))) (some td8) (.node (.node (.node (.node .nil none (.node .nil (some td280) .nil)) none (.node .nil (some td152) (.node .nil (some td408) .nil))) none (.node (.node .nil none (.node .nil (some td344) .nil)) (some td88) (.node .nil (some td216) .nil))) (some td24) (.node (.node (.node .nil none (.node .nil (some td312) .nil)) none (.node .nil (some td184) .nil)) (some td56) (.node (.node .nil none (.node .nil (some td376) .nil)) (some td120) (.node .nil (some td248) .nil)))))) none (.node (.node (.node (.node (.node (.node .nil none (.node .nil (some td260) .nil)) none (.node .nil (some td132) (.node .nil (some td388) .nil))) none (.node (.node .nil none (.node .nil (some td324) .nil)) (some td68) (.node .nil (some td196) .nil))) none (.node (.node (.node .nil none (.node .nil (some td292) .nil)) none (.node .nil (some td164) (.node .nil (some td420) .nil))) (some td36) (.node (.node .nil none (.node .nil (some td356) .nil)) (some td100) (.node .nil (some td228) .nil)))) none (.node (.node (.node (.node .nil none (.node .nil (some td276) .nil)) none (.node .nil (some td148) (.node .nil (some td404) .nil))) none (.node (.node .nil none (.node .nil (some td340) .nil)) (some td84) (.node .nil (some td212) .nil))) (some td20) (.node (.node (.node .nil none (.node .nil (some td308) .nil)) none (.node .nil (some td180) .nil)) (some td52) (.node (.node .nil none (.node .nil (some td372) .nil)) (some td116) (.node .nil (some td244) .nil))))) (some td4) (.node (.node (.node (.node (.node .nil none (.node .nil (some td268) .nil)) none (.node .nil (some td140) (.node .nil (some td396) .nil))) none (.node (.node .nil none (.node .nil (some td332) .nil)) (some td76) (.node .nil (some td204) .nil))) none (.node (.node (.node .nil none (.node .nil (some td300) .nil)) none (.node .nil (some td172) (.node .nil (some td428) .nil))) (some td44) (.node (.node .nil none (.node .nil (some td364) .nil)) (some td108) (.node .nil (some td236) .nil)))) (some td12) (.node (.node (.node (.node .nil none (.node .nil (some td284) .nil)) none (.node .nil (some td156) (.node .nil (some td412) .nil))) none (.node (.node .nil none (.node .nil (some td348) .nil)) (some td92) (.node .nil (some td220) .nil))) (some td28) (.node (.node (.node .nil none (.node .nil (some td316) .nil)) none (.node .nil (some td188) .nil)) (some td60) (.node (.node .nil none (.node .nil (some td380) .nil)) (some td124) (.node .nil (some td252) .nil))))))) none (.node (.node (.node (.node (.node (.node (.node .nil none (.node .nil (some td258) .nil)) none (.node .nil (some td130) (.node .nil (some td386) .nil))) none (.node (.node .nil none (.node .nil (some td322) .nil)) (some td66) (.node .nil (some td194) .nil))) none (.node (.node (.node .nil none (.node .nil (some td290) .nil)) none (.node .nil (some td162) (.node .nil (some td418) .nil))) (some td34) (.node (.node .nil none (.node .nil (some td354) .nil)) (some td98) (.node .nil (some td226) .nil)))) none (.node (.node (.node (.node .nil none (.node .nil (some td274) .nil)) none (.node .nil (some td146) (.node .nil (some td402) .nil))) none (.node (.node .nil none (.node .nil (some td338) .nil)) (some td82) (.node .nil (some td210) .nil))) (some td18) (.node (.node (.node .nil none (.node .nil (some td306) .nil)) none (.node .nil (some td178) .nil)) (some td50) (.node (.node .nil none (.node .nil (some td370) .nil)) (some td114) (.node .nil (some td242) .nil))))) none (.node (.node (.node (.node (.node .nil none (.node .nil (some td266) .nil)) none (.node .nil (some td138) (.node .nil (some td394) .nil))) none (.node (.node .nil none (.node .nil (some td330) .nil)) (some td74) (.node .nil (some td202) .nil))) none (.node (.node (.node .nil none (.node .nil (some td298) .nil)) none (.node .nil (some td170) (.node .nil (some td426) .nil))) (some td42) (.node (.node .nil none (.node .nil (some td362) .nil)) (some td106) (.node .nil (some td234) .nil)))) (some td10) (.node (.node (.node (.node .nil none (.node .nil (some td282) .nil)) none (.node .nil (some td154) (.node .nil (some td410) .nil))) none (.node (.node .nil none (.node .nil (some td346) .nil)) (some td90) (.node .nil (some td218) .nil))) (some td26) (.node (.node (.node .nil none (.node .nil (some td314) .nil)) none (.node .nil (some td186) .nil)) (some td58) (.node (.node .nil none (.node .nil (some td378) .nil)) (some td122) (.node .nil (some td250) .nil)))))) (some td2) (.node (.node (.node (.node (.node (.node .nil none (.node .nil (some td262) .nil)) none (.node .nil (some td134) (.node .nil (some td390) .nil))) none (.node (.node .nil none (.node .nil (some td326) .nil)) (some td70) (.node .nil (some td198) .nil))) none (.node (.node (.node .nil none (.node .nil (some td294) .nil)) none (.node .nil (some td166) (.node .nil (some td422) .nil))) (some td38) (.node (.node .nil none (.node .nil (some td358) .nil)) (some td102) (.node .nil (some td230) .nil)))) none (.node (.node (.node (.node .nil none (.node .nil (some td278) .nil)) none (.node .nil (some td150) (.node .nil (some td406) .nil))) none (.node (.node .nil none (.node .nil (some td342) .nil)) (some td86) (.node .nil (some td214) .nil))) (some td22) (.node (.node (.node .nil none (.node .nil (some td310) .nil)) none (.node .nil (some td182) .nil)) (some td54) (.node (.node .nil none (.node .nil (some td374) .nil)) (some td118) (.node .nil (some td246) .nil))))) (some td6) (.node (.node (.node (.node (.node .nil none (.node .nil (some td270) .nil)) none (.node .nil (some td142) (.node .nil (some td398) .nil))) none (.node (.node .nil none (.node .nil (some td334) .nil)) (some td78) (.node .nil (some td206) .nil))) none (.node (.node (.node .nil none (.node .nil (some td302) .nil)) none (.node .nil (some td174) .nil)) (some td46) (.node (.node .nil none (.node .nil (some td366) .nil)) (some td110) (.node .nil (some td238) .nil)))) (some td14) (.node (.node (.node (.node .nil none (.node .nil (some td286) .nil)) none (.node .nil (some td158) (.node .nil (some td414) .nil))) none (.node (.node .nil none (.node .nil (some td350) .nil)) (some td94) (.node .nil (some td222) .nil))) (some td30) (.node (.node (.node .nil none (.node .nil (some td318) .nil)) none (.node .nil (some td190) .nil)) (some td62) (.node (.node .nil none (.node .nil (some td382) .nil)) (some td126) (.node .nil (some td254) .nil)))))))) (some td0) (.node (.node (.node (.node (.node (.node (.node (.node .nil none (.node .nil (some td257) .nil)) none (.node .nil (some td129) (.node .nil (some td385) .nil))) none (.node (.node .nil none (.node .nil (some td321) .nil)) (some td65) (.node .nil (some td193) .nil))) none (.node (.node (.node .nil none (.node .nil (some td289) .nil)) none (.node .nil (some td161) (.node .nil (some td417) .nil))) (some td33) (.node (.node .nil none (.node .nil (some td353) .nil)) (some td97) (.node .nil (some td225) .nil)))) none (.node (.node (.node (.node .nil none (.node .nil (some td273) .nil)) none (.node .nil (some td145) (.node .nil (some td401) .nil))) none (.node (.node .nil none (.node .nil (some td337) .nil)) (some td81) (.node .nil (some td209) .nil))) (some td17) (.node (.node (.node .nil none (.node .nil (some td305) .nil)) none (.node .nil (some td177) .nil)) (some td49) (.node (.node .nil none (.node .nil (some td369) .nil)) (some td113) (.node .nil (some td241) .nil))))) none (.node (.node (.node (.node (.node .nil none (.node .nil (some td265) .nil)) none (.node .nil (some td137) (.node .nil (some td393) .nil))) none (.node (.node .nil none (.node .nil (some td329) .nil)) (some td73) (.node .nil (some td201) .nil))) none (.node (.node (.node .nil none (.node .nil (some td297) .nil)) none (.node .nil (some td169) (.node .nil (some td425) .nil))) (some td41) (.node (.node .nil none (.node .nil (some td361) .nil)) (some td105) (.node .nil (some td233) .nil)))) (some td9) (.node (.node (.node (.node .nil none (.node .nil (some td281) .nil)) none (.node .nil (some td153) (.node .nil (some td409) .nil))) none (.node (.node .nil none (.node .nil (some td345) .nil)) (some td89) (.node .nil (some td217) .nil))) (some td25) (.node (.node (.node .nil none (.node .nil (some td313) .nil)) none (.node .nil (some td185) .nil)) (some td57) (.node (.node .nil none (.node .nil (some td377) .nil)) (some td121) (.node .nil (some td249) .nil)))))) none (.node (.node (.node (.node (.node (.node .nil none (.node .nil (some td261) .nil)) none (.node .nil (some td133) (.node .nil (some td389) .nil))) none (.node (.node .nil none (.node .nil (some td325) .nil)) (some td69) (.node .nil (some td197) .nil))) none (.node (.node (.node .nil none (.node .nil (some td293) .nil)) none (.node .nil (some td165) (.node .nil (some td421) .nil))) (some td37) (.node (.node .nil none (.node .nil (some td357) .nil)) (some td101) (.node .nil (some td229) .nil)))) none (.node (.node (.node (.node .nil none (.node .nil (some td277) .nil)) none (.node .nil (some td149) (.node .nil (some td405) .nil))) none (.node (.node .nil none (.node .nil (some td341) .nil)) (some td85) (.node .nil (some td213) .nil))) (some td21) (.node (.node (.node .nil none (.node .nil (some td309) .nil)) none (.node .nil (some td181) .nil)) (some td53) (.node (.node .nil none (.node .nil (some td373) .nil)) (some td117) (.node .nil (some td245) .nil))))) (some td5) (.node (.node (.node (.node (.node .nil none (.node .nil (some td269) .nil)) none (.node .nil (some td141) (.node .nil (some td397) .nil))) none (.node (.node .nil none (.node .nil (some td333) .nil)) (some td77) (.node .nil (some td205) .nil))) none (.node (.node (.node .nil none (.node .nil (some td301) .nil)) none (.node .nil (some td173) .nil)) (some td45) (.node (.node .nil none (.node .nil (some td365) .nil)) (some td109) (.node .nil (some td237) .nil)))) (some td13) (.node (.node (.node (.node .nil none (.node .nil (some td285) .nil)) none (.node .nil (some td157) (.node .nil (some td413) .nil))) none (.node (.node .nil none (.node .nil (some td349) .nil)) (some td93) (.node .nil (some td221) .nil))) (some td29) (.node (.node (.node .nil none (.node .nil (some td317) .nil)) none (.node .nil (some td189) .nil)) (some td61) (.node (.node .nil none (.node .nil (some td381) .nil)) (some td125) (.node .nil (some td253) .nil))))))) (some td1) (.node (.node (.node (.node (.node (.node (.node .nil none (.node .nil (some td259) .nil)) none (.node .nil (some td131) (.node .nil (some td387) .nil))) none (.node (.node .nil none (.node .nil (some td323) .nil)) (some td67) (.node .nil (some td195) .nil))) none (.node (.node (.node .nil none (.node .nil (some td291) .nil)) none (.node .nil (some td163) (.node .nil (some td419) .nil))) (some td35) (.node (.node .nil none (.node .nil (some td355) .nil)) (some td99) (.node .nil (some td227) .nil)))) none (.node (.node (.node (.node .nil none (.node .nil (some td275) .nil)) none (.node .nil (some td147) (.node .nil (some td403) .nil))) none (.node (.node .nil none (.node .nil (some td339) .nil)) (some td83) (.node .nil (some td211) .nil))) (some td19) (.node (.node (.node .nil none (.node .nil (some td307) .nil)) none (.node .nil (some td179) .nil)) (some td51) (.node (.node .nil none (.node .nil (some td371) .nil)) (some td115) (.node .nil (some td243) .nil))))) none (.node (.node (.node (.node (.node .nil none (.node .nil (some td267) .nil)) none (.node .nil (some td139) (.node .nil (some td395) .nil))) none (.node (.node .nil none (.node .nil (some td331) .nil)) (some td75) (.node .nil (some td203) .nil))) none (.node (.node (.node .nil none (.node .nil (some td299) .nil)) none (.node .nil (some td171) (.node .nil (some td427) .nil))) (some td43) (.node (.node .nil none (.node .nil (some td363) .nil)) (some td107) (.node .nil (some td235) .nil)))) (some td11) (.node (.node (.node (.node .nil none (.node .nil (some td283) .nil)) none (.node .nil (some td155) (.node .nil (some td411) .nil))) none (.node (.node .nil none (.node .nil (some td347) .nil)) (some td91) (.node .nil (some td219) .nil))) (some td27) (.node (.node (.node .nil none (.node .nil (some td315) .nil)) none (.node .nil (some td187) .nil)) (some td59) (.node (.node .nil none (.node .nil (some td379) .nil)) (some td123) (.node .nil (some td251) .nil)))))) (some td3) (.node (.node (.node (.node (.node (.node .nil none (.node .nil (some td263) .nil)) none (.node .nil (some td135) (.node .nil (some td391) .nil))) none (.node (.node .nil none (.node .nil (some td327) .nil)) (some td71) (.node .nil (some td199) .nil))) none (.node (.node (.node .nil none (.node .nil (some td295) .nil)) none (.node .nil (some td167) (.node .nil (some td423) .nil))) (some td39) (.node (.node .nil none (.node .nil (some td359) .nil)) (some td103) (.node .nil (some td231) .nil)))) none (.node (.node (.node (.node .nil none (.node .nil (some td279) .nil)) none (.node .nil (some td151) (.node .nil (some td407) .nil))) none (.node (.node .nil none (.node .nil (some td343) .nil)) (some td87) (.node .nil (some td215) .nil))) (some td23) (.node (.node (.node .nil none (.node .nil (some td311) .nil)) none (.node .nil (some td183) .nil)) (some td55) (.node (.node .nil none (.node .nil (some td375) .nil)) (some td119) (.node .nil (some td247) .nil))))) (some td7) (.node (.node (.node (.node (.node .nil none (.node .nil (some td271) .nil)) none (.node .nil (some td143) (.node .nil (some td399) .nil))) none (.node (.node .nil none (.node .nil (some td335) .nil)) (some td79) (.node .nil (some td207) .nil))) none (.node (.node (.node .nil none (.node .nil (some td303) .nil)) none (.node .nil (some td175) .nil)) (some td47) (.node (.node .nil none (.node .nil (some td367) .nil)) (some td111) (.node .nil (some td239) .nil)))) (some td15) (.node (.node (.node (.node .nil none (.node .nil (some td287) .nil)) none (.node .nil (some td159) (.node .nil (some td415) .nil))) none (.node (.node .nil none (.node .nil (some td351) .nil)) (some td95) (.node .nil (some td223) .nil))) (some td31) (.node (.node (.node .nil none (.node .nil (some td319) .nil)) none (.node .nil (some td191) .nil)) (some td63) (.node (.node .nil none (.node .nil (some td383) .nil)) (some td127) (.node .nil (some td255) .nil)))))))))
noncomputable def ttl : List (Nat × TD) := [(0, td0), (256, td256), (128, td128), (384, td384), (64, td64), (320, td320), (192, td192), (32, td32), (288, td288), (160, td160), (416, td416), (96, td96), (352, td352), (224, td224), (16, td16), (272, td272), (144, td144), (400, td400), (80, td80), (336, td336), (208, td208), (48, td48), (304, td304), (176, td176), (112, td112), (368, td368), (240, td240), (8, td8), (264, td264), (136, td136), (392, td392), (72, td72), (328, td328), (200, td200), (40, td40), (296, td296), (168, td168), (424, td424), (104, td104), (360, td360), (232, td232), (24, td24), (280, td280), (152, td152), (408, td408), (88, td88), (344, td344), (216, td216), (56, td56), (312, td312), (184, td184), (120, td120), (376, td376), (248, td248), (4, td4), (260, td260), (132, td132), (388, td388), (68, td68), (324, td324), (196, td196), (36, td36), (292, td292), (164, td164), (420, td420), (100, td100), (356, td356), (228, td228), (20, td20), (276, td276), (148, td148), (404, td404), (84, td84), (340, td340), (212, td212), (52, td52), (308, td308), (180, td180), (116, td116), (372, td372), (244, td244), (12, td12), (268, td268), (140, td140), (396, td396), (76, td76), (332, td332), (204, td204), (44, td44), (300, td300), (172, td172), (428, td428), (108, td108), (364, td364), (236, td236), (28, td28), (284, td284), (156, td156), (412, td412), (92, td92), (348, td348), (220, td220), (60, td60), (316, td316), (188, td188), (124, td124), (380, td380), (252, td252), (2, td2), (258, td258), (130, td130), (386, td386), (66, td66), (322, td322), (194, td194), (34, td34), (290, td290), (162, td162), (418, td418), (98, td98), (354, td354), (226, td226), (18, td18), (274, td274), (146, td146), (402, td402), (82, td82), (338, td338), (210, td210), (50, td50), (306, td306), (178, td178), (114, td114), (370, td370), (242, td242), (10, td10), (266, td266), (138, td138), (394, td394), (74, td74), (330, td330), (202, td202), (42, td42), (298, td298), (170, td170), (426, td426), (106, td106), (362, td362), (234, td234), (26, td26), (282, td282), (154, td154), (410, td410), (90, td90), (346, td346), (218, td218), (58, td58), (314, td314), (186, td186), (122, td122), (378, td378), (250, td250), (6, td6), (262, td262), (134, td134), (390, td390), (70, td70), (326, td326), (198, td198), (38, td38), (294, td294), (166, td166), (422, td422), (102, td102), (358, td358), (230, td230), (22, td22), (278, td278), (150, td150), (406, td406), (86, td86), (342, td342), (214, td214), (54, td54), (310, td310), (182, td182), (118, td118), (374, td374), (246, td246), (14, td14), (270, td270), (142, td142), (398, td398), (78, td78), (334, td334), (206, td206), (46, td46), (302, td302), (174, td174), (110, td110), (366, td366), (238, td238), (30, td30), (286, td286), (158, td158), (414, td414), (94, td94), (350, td350), (222, td222), (62, td62), (318, td318), (190, td190), (126, td126), (382, td382), (254, td254), (1, td1), (257, td257), (129, td129), (385, td385), (65, td65), (321, td321), (193, td193), (33, td33), (289, td289), (161, td161), (417, td417), (97, td97), (353, td353), (225, td225), (17, td17), (273, td273), (145, td145), (401, td401), (81, td81), (337, td337), (209, td209), (49, td49), (305, td305), (177, td177), (113, td113), (369, td369), (241, td241), (9, td9), (265, td265), (137, td137), (393, td393), (73, td73), (329, td329), (201, td201), (41, td41), (297, td297), (169, td169), (425, td425), (105, td105), (361, td361), (233, td233), (25, td25), (281, td281), (153, td153), (409, td409), (89, td89), (345, td345), (217, td217), (57, td57), (313, td313), (185, td185), (121, td121), (377, td377), (249, td249), (5, td5), (261, td261), (133, td133), (389, td389), (69, td69), (325, td325), (197, td197), (37, td37), (293, td293), (165, td165), (421, td421), (101, td101), (357, td357), (229, td229), (21, td21), (277, td277), (149, td149), (405, td405), (85, td85), (341, td341), (213, td213), (53, td53), (309, td309), (181, td181), (117, td117), (373, td373), (245, td245), (13, td13), (269, td269), (141, td141), (397, td397), (77, td77), (333, td333), (205, td205), (45, td45), (301, td301), (173, td173), (109, td109), (365, td365), (237, td237), (29, td29), (285, td285), (157, td157), (413, td413), (93, td93), (349, td349), (221, td221), (61, td61), (317, td317), (189, td189), (125, td125), (381, td381), (253, td253), (3, td3), (259, td259), (131, td131), (387, td387), (67, td67), (323, td323), (195, td195), (35, td35), (291, td291), (163, td163), (419, td419), (99, td99), (355, td355), (227, td227), (19, td19), (275, td275), (147, td147), (403, td403), (83, td83), (339, td339), (211, td211), (51, td51), (307, td307), (179, td179), (115, td115), (371, td371), (243, td243), (11, td11), (267, td267), (139, td139), (395, td395), (75, td75), (331, td331), (203, td203), (43, td43), (299, td299), (171, td171), (427, td427), (107, td107), (363, td363), (235, td235), (27, td27), (283, td283), (155, td155), (411, td411), (91, td91), (347, td347), (219, td219), (59, td59), (315, td315), (187, td187), (123, td123), (379, td379), (251, td251), (7, td7), (263, td263), (135, td135), (391, td391), (71, td71), (327, td327), (199, td199), (39, td39), (295, td295), (167, td167), (423, td423), (103, td103), (359, td359), (231, td231), (23, td23), (279, td279), (151, td151), (407, td407), (87, td87), (343, td343), (215, td215), (55, td55), (311, td311), (183, td183), (119, td119), (375, td375), (247, td247), (15, td15), (271, td271), (143, td143), (399, td399), (79, td79), (335, td335), (207, td207), (47, td47), (303, td303), (175, td175), (111, td111), (367, td367), (239, td239), (31, td31), (287, td287), (159, td159), (415, td415), (95, td95), (351, td351), (223, td223), (63, td63), (319, td319), (191, td191), (127, td127), (383, td383), (255, td255)]
theorem tt_ok : TOk Tryz.prog tt := .of_list (l := ttl) (by kernel_rfl) (show AllL (TDOk Tryz.prog) ttl from ⟨td0_ok, td256_ok, td128_ok, td384_ok, td64_ok, td320_ok, td192_ok, td32_ok, td288_ok, td160_ok, td416_ok, td96_ok, td352_ok, td224_ok, td16_ok, td272_ok, td144_ok, td400_ok, td80_ok, td336_ok, td208_ok, td48_ok, td304_ok, td176_ok, td112_ok, td368_ok, td240_ok, td8_ok, td264_ok, td136_ok, td392_ok, td72_ok, td328_ok, td200_ok, td40_ok, td296_ok, td168_ok, td424_ok, td104_ok, td360_ok, td232_ok, td24_ok, td280_ok, td152_ok, td408_ok, td88_ok, td344_ok, td216_ok, td56_ok, td312_ok, td184_ok, td120_ok, td376_ok, td248_ok, td4_ok, td260_ok, td132_ok, td388_ok, td68_ok, td324_ok, td196_ok, td36_ok, td292_ok, td164_ok, td420_ok, td100_ok, td356_ok, td228_ok, td20_ok, td276_ok, td148_ok, td404_ok, td84_ok, td340_ok, td212_ok, td52_ok, td308_ok, td180_ok, td116_ok, td372_ok, td244_ok, td12_ok, td268_ok, td140_ok, td396_ok, td76_ok, td332_ok, td204_ok, td44_ok, td300_ok, td172_ok, td428_ok, td108_ok, td364_ok, td236_ok, td28_ok, td284_ok, td156_ok, td412_ok, td92_ok, td348_ok, td220_ok, td60_ok, td316_ok, td188_ok, td124_ok, td380_ok, td252_ok, td2_ok, td258_ok, td130_ok, td386_ok, td66_ok, td322_ok, td194_ok, td34_ok, td290_ok, td162_ok, td418_ok, td98_ok, td354_ok, td226_ok, td18_ok, td274_ok, td146_ok, td402_ok, td82_ok, td338_ok, td210_ok, td50_ok, td306_ok, td178_ok, td114_ok, td370_ok, td242_ok, td10_ok, td266_ok, td138_ok, td394_ok, td74_ok, td330_ok, td202_ok, td42_ok, td298_ok, td170_ok, td426_ok, td106_ok, td362_ok, td234_ok, td26_ok, td282_ok, td154_ok, td410_ok, td90_ok, td346_ok, td218_ok, td58_ok, td314_ok, td186_ok, td122_ok, td378_ok, td250_ok, td6_ok, td262_ok, td134_ok, td390_ok, td70_ok, td326_ok, td198_ok, td38_ok, td294_ok, td166_ok, td422_ok, td102_ok, td358_ok, td230_ok, td22_ok, td278_ok, td150_ok, td406_ok, td86_ok, td342_ok, td214_ok, td54_ok, td310_ok, td182_ok, td118_ok, td374_ok, td246_ok, td14_ok, td270_ok, td142_ok, td398_ok, td78_ok, td334_ok, td206_ok, td46_ok, td302_ok, td174_ok, td110_ok, td366_ok, td238_ok, td30_ok, td286_ok, td158_ok, td414_ok, td94_ok, td350_ok, td222_ok, td62_ok, td318_ok, td190_ok, td126_ok, td382_ok, td254_ok, td1_ok, td257_ok, td129_ok, td385_ok, td65_ok, td321_ok, td193_ok, td33_ok, td289_ok, td161_ok, td417_ok, td97_ok, td353_ok, td225_ok, td17_ok, td273_ok, td145_ok, td401_ok, td81_ok, td337_ok, td209_ok, td49_ok, td305_ok, td177_ok, td113_ok, td369_ok, td241_ok, td9_ok, td265_ok, td137_ok, td393_ok, td73_ok, td329_ok, td201_ok, td41_ok, td297_ok, td169_ok, td425_ok, td105_ok, td361_ok, td233_ok, td25_ok, td281_ok, td153_ok, td409_ok, td89_ok, td345_ok, td217_ok, td57_ok, td313_ok, td185_ok, td121_ok, td377_ok, td249_ok, td5_ok, td261_ok, td133_ok, td389_ok, td69_ok, td325_ok, td197_ok, td37_ok, td293_ok, td165_ok, td421_ok, td101_ok, td357_ok, td229_ok, td21_ok, td277_ok, td149_ok, td405_ok, td85_ok, td341_ok, td213_ok, td53_ok, td309_ok, td181_ok, td117_ok, td373_ok, td245_ok, td13_ok, td269_ok, td141_ok, td397_ok, td77_ok, td333_ok, td205_ok, td45_ok, td301_ok, td173_ok, td109_ok, td365_ok, td237_ok, td29_ok, td285_ok, td157_ok, td413_ok, td93_ok, td349_ok, td221_ok, td61_ok, td317_ok, td189_ok, td125_ok, td381_ok, td253_ok, td3_ok, td259_ok, td131_ok, td387_ok, td67_ok, td323_ok, td195_ok, td35_ok, td291_ok, td163_ok, td419_ok, td99_ok, td355_ok, td227_ok, td19_ok, td275_ok, td147_ok, td403_ok, td83_ok, td339_ok, td211_ok, td51_ok, td307_ok, td179_ok, td115_ok, td371_ok, td243_ok, td11_ok, td267_ok, td139_ok, td395_ok, td75_ok, td331_ok, td203_ok, td43_ok, td299_ok, td171_ok, td427_ok, td107_ok, td363_ok, td235_ok, td27_ok, td283_ok, td155_ok, td411_ok, td91_ok, td347_ok, td219_ok, td59_ok, td315_ok, td187_ok, td123_ok, td379_ok, td251_ok, td7_ok, td263_ok, td135_ok, td391_ok, td71_ok, td327_ok, td199_ok, td39_ok, td295_ok, td167_ok, td423_ok, td103_ok, td359_ok, td231_ok, td23_ok, td279_ok, td151_ok, td407_ok, td87_ok, td343_ok, td215_ok, td55_ok, td311_ok, td183_ok, td119_ok, td375_ok, td247_ok, td15_ok, td271_ok, td143_ok, td399_ok, td79_ok, td335_ok, td207_ok, td47_ok, td303_ok, td175_ok, td111_ok, td367_ok, td239_ok, td31_ok, td287_ok, td159_ok, td415_ok, td95_ok, td351_ok, td223_ok, td63_ok, td319_ok, td191_ok, td127_ok, td383_ok, td255_ok, trivial⟩)
noncomputable def ft : T Func :=
 (.node (.node (.node (.node (.node (.node (.node (.node (.node .nil none (.node .nil (some Tryz.f256) .nil)) none (.node .nil (some Tryz.f128) .nil)) none (.node .nil (some Tryz.f64) (.node .nil (some Tryz.f192) .nil))) none (.node (.node (.node .nil none (.node .nil (some Tryz.f288) .nil)) none (.node .nil (some Tryz.f160) .nil)) (some Tryz.f32) (.node .nil (some Tryz.f96) (.node .nil (some Tryz.f224) .nil)))) none (.node (.node (.node (.node .nil none (.node .nil (some Tryz.f272) .nil)) none (.node .nil (some Tryz.f144) .nil)) none (.node .nil (some Tryz.f80) (.node .nil (some Tryz.f208) .nil))) (some Tryz.f16) (.node (.node (.node .nil none (.node .nil (some Tryz.f304) .nil)) none (.node .nil (some Tryz.f176) .nil)) (some Tryz.f48) (.node .nil (some Tryz.f112) (.node .nil (some Tryz.f240) .nil))))) none (.node (.node (.node (.node (.node .nil none (.node .nil (some Tryz.f264) .nil)) none (.node .nil (some Tryz.f136) .nil)) none (.node .nil (some Tryz.f72) (.node .nil (some Tryz.f200) .nil))) none (.node (.node (.node .nil none (.node .nil (some Tryz.f296) .nil)) none (.node .nil (some Tryz.f168) .nil)) (some Tryz.f40) (.node .nil (some Tryz.f104) (.node .nil (some Tryz.f232) .nil)))) (some Tryz.f8) (.node (.node (.node (.node .nil none (.node .nil (some Tryz.f280) .nil)) none (.node .nil (some Tryz.f152) .nil)) none (.node .nil (some Tryz.f88) (.node .nil (some Tryz.f216) .nil))) (some Tryz.f24) (.node (.node .nil none (.node .nil (some Tryz.f184) .nil)) (some Tryz.f56) (.node .nil (some Tryz.f120) (.node .nil (some Tryz.f248) .nil)))))) none (.node (.node (.node (.node (.node (.node .nil none (.node .nil (some Tryz.f260) .nil)) none (.node .nil (some Tryz.f132) .nil)) none (.node .nil (some Tryz.f68) (.node .nil (some Tryz.f196) .nil))) none (.node (.node (.node .nil none (.node .nil (some Tryz.f292) .nil)) none (.node .nil (some Tryz.f164) .nil)) (some Tryz.f36) (.node .nil (some Tryz.f100) (.node .nil (some Tryz.f228) .nil)))) none (.node (.node (.node (.node .nil none (.node .nil (some Tryz.f276) .nil)) none (.node .nil (some Tryz.f148) .nil)) none (.node .nil (some Tryz.f84) (.node .nil (some Tryz.f212) .nil))) (some Tryz.f20) (.node (.node (.node .nil none (.node .nil (some Tryz.f308) .nil)) none (.node .nil (some Tryz.f180) .nil)) (some Tryz.f52) (.node .nil (some Tryz.f116) (.node .nil (some Tryz.f244) .nil))))) (some Tryz.f4) (.node (.node (.node (.node (.node .nil none (.node .nil (some Tryz.f268) .nil)) none (.node .nil (some Tryz.f140) .nil)) none (.node .nil (some Tryz.f76) (.node .nil (some Tryz.f204) .nil))) none (.node (.node (.node .nil none (.node .nil (some Tryz.f300) .nil)) none (.node .nil (some Tryz.f172) .nil)) (some Tryz.f44) (.node .nil (some Tryz.f108) (.node .nil (some Tryz.f236) .nil)))) (some Tryz.f12) (.node (.node (.node (.node .nil none (.node .nil (some Tryz.f284) .nil)) none (.node .nil (some Tryz.f156) .nil)) none (.node .nil (some Tryz.f92) (.node .nil (some Tryz.f220) .nil))) (some Tryz.f28) (.node (.node .nil none (.node .nil (some Tryz.f188) .nil)) (some Tryz.f60) (.node .nil (some Tryz.f124) (.node .nil (some Tryz.f252) .nil))))))) none (.node (.node (.node (.node (.node (.node (.node .nil none (.node .nil (some Tryz.f258) .nil)) none (.node .nil (some Tryz.f130) .nil)) none (.node .nil (some Tryz.f66) (.node .nil (some Tryz.f194) .nil))) none (.node (.node (.node .nil none (.node .nil (some Tryz.f290) .nil)) none (.node .nil (some Tryz.f162) .nil)) (some Tryz.f34) (.node .nil (some Tryz.f98) (.node .nil (some Tryz.f226) .nil)))) none (.node (.node (.node (.node .nil none (.node .nil (some Tryz.f274) .nil)) none (.node .nil (some Tryz.f146) .nil)) none (.node .nil (some Tryz.f82) (.node .nil (some Tryz.f210) .nil))) (some Tryz.f18) (.node (.node .nil none (.node .nil (some Tryz.f178) .nil)) (some Tryz.f50) (.node .nil (some Tryz.f114) (.node .nil (some Tryz.f242) .nil))))) none (.node (.node (.node (.node (.node .nil none (.node .nil (some Tryz.f266) .nil)) none (.node .nil (some Tryz.f138) .nil)) none (.node .nil (some Tryz.f74) (.node .nil (some Tryz.f202) .nil))) none (.node (.node (.node .nil none (.node .nil (some Tryz.f298) .nil)) none (.node .nil (some Tryz.f170) .nil)) (some Tryz.f42) (.node .nil (some Tryz.f106) (.node .nil (some Tryz.f234) .nil)))) (some Tryz.f10) (.node (.node (.node (.node .nil none (.node .nil (some Tryz.f282) .nil)) none (.node .nil (some Tryz.f154) .nil)) none (.node .nil (some Tryz.f90) (.node .nil (some Tryz.f218) .nil))) (some Tryz.f26) (.node (.node .nil none (.node .nil (some Tryz.f186) .nil)) (some Tryz.f58) (.node .nil (some Tryz.f122) (.node .nil (some Tryz.f250) .nil)))))) (some Tryz.f2) (.node (.node (.node (.node (.node (.node .nil none (.node .nil (some Tryz.f262) .nil)) none (.node .nil (some Tryz.f134) .nil)) none (.node .nil (some Tryz.f70) (.node .nil (some Tryz.f198) .nil))) none (.node (.node (.node .nil none (.node .nil (some Tryz.f294) .nil)) none (.node .nil (some Tryz.f166) .nil)) (some Tryz.f38) (.node .nil (some Tryz.f102) (.node .nil (some Tryz.f230) .nil)))) none (.node (.node (.node (.node .nil none (.node .nil (some Tryz.f278) .nil)) none (.node .nil (some Tryz.f150) .nil)) none (.node .nil (some Tryz.f86) (.node .nil (some Tryz.f214) .nil))) (some Tryz.f22) (.node (.node (.node .nil none (.node .nil (some Tryz.f310) .nil)) none (.node .nil (some Tryz.f182) .nil)) (some Tryz.f54) (.node .nil (some Tryz.f118) (.node .nil (some Tryz.f246) .nil))))) (some Tryz.f6) (.node (.node (.node (.node (.node .nil none (.node .nil (some Tryz.f270) .nil)) none (.node .nil (some Tryz.f142) .nil)) none (.node .nil (some Tryz.f78) (.node .nil (some Tryz.f206) .nil))) none (.node (.node (.node .nil none (.node .nil (some Tryz.f302) .nil)) none (.node .nil (some Tryz.f174) .nil)) (some Tryz.f46) (.node .nil (some Tryz.f110) (.node .nil (some Tryz.f238) .nil)))) (some Tryz.f14) (.node (.node (.node (.node .nil none (.node .nil (some Tryz.f286) .nil)) none (.node .nil (some Tryz.f158) .nil)) none (.node .nil (some Tryz.f94) (.node .nil (some Tryz.f222) .nil))) (some Tryz.f30) (.node (.node .nil none (.node .nil (some Tryz.f190) .nil)) (some Tryz.f62) (.node .nil (some Tryz.f126) (.node .nil (some Tryz.f254) .nil)))))))) none (.node (.node (.node (.node (.node (.node (.node (.node .nil none (.node .nil (some Tryz.f257) .nil)) none (.node .nil (some Tryz.f129) .nil)) none (.node .nil (some Tryz.f65) (.node .nil (some Tryz.f193) .nil))) none (.node (.node (.node .nil none (.node .nil (some Tryz.f289) .nil)) none (.node .nil (some Tryz.f161) .nil)) (some Tryz.f33) (.node .nil (some Tryz.f97) (.node .nil (some Tryz.f225) .nil)))) none (.node (.node (.node (.node .nil none (.node .nil (some Tryz.f273) .nil)) none (.node .nil (some Tryz.f145) .nil)) none (.node .nil (some Tryz.f81) (.node .nil (some Tryz.f209) .nil))) (some Tryz.f17) (.node (.node (.node .nil none (.node .nil (some Tryz.f305) .nil)) none (.node .nil (some Tryz.f177) .nil)) (some Tryz.f49) (.node .nil (some Tryz.f113) (.node .nil (some Tryz.f241) .nil))))) none (.node (.node (.node (.node (.node .nil none (.node .nil (some Tryz.f265) .nil)) none (.node .nil (some Tryz.f137) .nil)) none (.node .nil (some Tryz.f73) (.node .nil (some Tryz.f201) .nil))) none (.node (.node (.node .nil none (.node .nil (some Tryz.f297) .nil)) none (.node .nil (some Tryz.f169) .nil)) (some Tryz.f41) (.node .nil (some Tryz.f105) (.node .nil (some Tryz.f233) .nil)))) (some Tryz.f9) (.node (.node (.node (.node .nil none (.node .nil (some Tryz.f281) .nil)) none (.node .nil (some Tryz.f153) .nil)) none (.node .nil (some Tryz.f89) (.node .nil (some Tryz.f217) .nil))) (some Tryz.f25) (.node (.node .nil none (.node .nil (some Tryz.f185) .nil)) (some Tryz.f57) (.node .nil (some Tryz.f121) (.node .nil (some Tryz.f249) .nil)))))) none (.node (.node (.node (.node (.node (.node .nil none (.node .nil (some Tryz.f261) .nil)) none (.node .nil (some Tryz.f133) .nil)) none (.node .nil (some Tryz.f69) (.node .nil (some Tryz.f197) .nil))) none (.node (.node (.node .nil none (.node .nil (some Tryz.f293) .nil)) none (.node .nil (some Tryz.f165) .nil)) (some Tryz.f37) (.node .nil (some Tryz.f101) (.node .nil (some Tryz.f229) .nil)))) none (.node (.node (.node (.node .nil none (.node .nil (some Tryz.f277) .nil)) none (.node .nil (some Tryz.f149) .nil)) none (.node (.node .nil none (.node .nil (some Tryz.f341) .nil)) (some Tryz.f85) (.node .nil (some Tryz.f213) .nil))) (some Tryz.f21) (.node (.node (.node .nil none (.node .nil (some Tryz.f309) .nil)) none (.node .nil (some Tryz.f181) .nil)) (some Tryz.f53) (.node .nil (some Tryz.f117) (.node .nil (some Tryz.f245) .nil))))) (some Tryz.f5) (.node (.node (.node (.node (.node .nil none (.node .nil (some Tryz.f269) .nil)) none (.node .nil (some Tryz.f141) .nil)) none (.node .nil (some Tryz.f77) (.node .nil (some Tryz.f205) .nil))) none (.node (.node (.node .nil none (.node .nil (some Tryz.f301) .nil)) none (.node .nil (some Tryz.f173) .nil)) (some Tryz.f45) (.node .nil (some Tryz.f109) (.node .nil (some Tryz.f237) .nil)))) (some Tryz.f13) (.node (.node (.node (.node .nil none (.node .nil (some Tryz.f285) .nil)) none (.node .nil (some Tryz.f157) .nil)) none (.node .nil (some Tryz.f93) (.node .nil (some Tryz.f221) .nil))) (some Tryz.f29) (.node (.node .nil none (.node .nil (some Tryz.f189) .nil)) (some Tryz.f61) (.node .nil (some Tryz.f125) (.node .nil (some Tryz.f253) .nil))))))) none (.node (.node (.node (.node (.node (.node (.node .nil none (.node .nil (some Tryz.f259) .nil)) none (.node .nil (some Tryz.f131) .nil)) none (.node .nil (some Tryz.f67) (.node .nil (some Tryz.f195) .nil))) none (.node (.node (.node .nil none (.node .nil (some Tryz.f291) .nil)) none (.node .nil (some Tryz.f163) .nil)) (some Tryz.f35) (.node .nil (some Tryz.f99) (.node .nil (some Tryz.f227) .nil)))) none (.node (.node (.node (.node .nil none (.node .nil (some Tryz.f275) .nil)) none (.node .nil (some Tryz.f147) .nil)) none (.node .nil (some Tryz.f83) (.node .nil (some Tryz.f211) .nil))) (some Tryz.f19) (.node (.node .nil none (.node .nil (some Tryz.f179) .nil)) (some Tryz.f51) (.node .nil (some Tryz.f115) (.node .nil (some Tryz.f243) .nil))))) none (.node (.node (.node (.node (.node .nil none (.node .nil (some Tryz.f267) .nil)) none (.node .nil (some Tryz.f139) .nil)) none (.node .nil (some Tryz.f75) (.node .nil (some Tryz.f203) .nil))) none (.node (.node (.node .nil none (.node .nil (some Tryz.f299) .nil)) none (.node .nil (some Tryz.f171) .nil)) (some Tryz.f43) (.node .nil (some Tryz.f107) (.node .nil (some Tryz.f235) .nil)))) (some Tryz.f11) (.node (.node (.node (.node .nil none (.node .nil (some Tryz.f283) .nil)) none (.node .nil (some Tryz.f155) .nil)) none (.node .nil (some Tryz.f91) (.node .nil (some Tryz.f219) .nil))) (some Tryz.f27) (.node (.node .nil none (.node .nil (some Tryz.f187) .nil)) (some Tryz.f59) (.node .nil (some Tryz.f123) (.node .nil (some Tryz.f251) .nil)))))) (some Tryz.f3) (.node (.node (.node (.node (.node (.node .nil none (.node .nil (some Tryz.f263) .nil)) none (.node .nil (some Tryz.f135) .nil)) none (.node .nil (some Tryz.f71) (.node .nil (some Tryz.f199) .nil))) none (.node (.node (.node .nil none (.node .nil (some Tryz.f295) .nil)) none (.node .nil (some Tryz.f167) .nil)) (some Tryz.f39) (.node .nil (some Tryz.f103) (.node .nil (some Tryz.f231) .nil)))) none (.node (.node (.node (.node .nil none (.node .nil (some Tryz.f279) .nil)) none (.node .nil (some Tryz.f151) .nil)) none (.node .nil (some Tryz.f87) (.node .nil (some Tryz.f215) .nil))) (some Tryz.f23) (.node (.node .nil none (.node .nil (some Tryz.f183) .nil)) (some Tryz.f55) (.node .nil (some Tryz.f119) (.node .nil (some Tryz.f247) .nil))))) (some Tryz.f7) (.node (.node (.node (.node (.node .nil none (.node .nil (some Tryz.f271) .nil)) none (.node .nil (some Tryz.f143) .nil)) none (.node .nil (some Tryz.f79) (.node .nil (some Tryz.f207) .nil))) none (.node (.node (.node .nil none (.node .nil (some Tryz.f303) .nil)) none (.node .nil (some Tryz.f175) .nil)) (some Tryz.f47) (.node .nil (some Tryz.f111) (.node .nil (some Tryz.f239) .nil)))) (some Tryz.f15) (.node (.node (.node (.node .nil none (.node .nil (some Tryz.f287) .nil)) none (.node .nil (some Tryz.f159) .nil)) none (.node .nil (some Tryz.f95) (.node .nil (some Tryz.f223) .nil))) (some Tryz.f31) (.node (.node .nil none (.node .nil (some Tryz.f191) .nil)) (some Tryz.f63) (.node .nil (some Tryz.f127) (.node .nil (some Tryz.f255) .nil)))))))))
noncomputable def ftl : List (Nat × Func) := [(256, Tryz.f256), (128, Tryz.f128), (64, Tryz.f64), (192, Tryz.f192), (32, Tryz.f32), (288, Tryz.f288), (160, Tryz.f160), (96, Tryz.f96), (224, Tryz.f224), (16, Tryz.f16), (272, Tryz.f272), (144, Tryz.f144), (80, Tryz.f80), (208, Tryz.f208), (48, Tryz.f48), (304, Tryz.f304), (176, Tryz.f176), (112, Tryz.f112), (240, Tryz.f240), (8, Tryz.f8), (264, Tryz.f264), (136, Tryz.f136), (72, Tryz.f72), (200, Tryz.f200), (40, Tryz.f40), (296, Tryz.f296), (168, Tryz.f168), (104, Tryz.f104), (232, Tryz.f232), (24, Tryz.f24), (280, Tryz.f280), (152, Tryz.f152), (88, Tryz.f88), (216, Tryz.f216), (56, Tryz.f56), (184, Tryz.f184), (120, Tryz.f120), (248, Tryz.f248), (4, Tryz.f4), (260, Tryz.f260), (132, Tryz.f132), (68, Tryz.f68), (196, Tryz.f196), (36, Tryz.f36), (292, Tryz.f292), (164, Tryz.f164), (100, Tryz.f100), (228, Tryz.f228), (20, Tryz.f20), (276, Tryz.f276), (148, Tryz.f148), (84, Tryz.f84), (212, Tryz.f212), (52, Tryz.f52), (308, Tryz.f308), (180, Tryz.f180), (116, Tryz.f116), (244, Tryz.f244), (12, Tryz.f12), (268, Tryz.f268), (140, Tryz.f140), (76, Tryz.f76), (204, Tryz.f204), (44, Tryz.f44), (300, Tryz.f300), (172, Tryz.f172), (108, Tryz.f108), (236, Tryz.f236), (28, Tryz.f28), (284, Tryz.f284), (156, Tryz.f156), (92, Tryz.f92), (220, Tryz.f220), (60, Tryz.f60), (188, Tryz.f188), (124, Tryz.f124), (252, Tryz.f252), (2, Tryz.f2), (258, Tryz.f258), (130, Tryz.f130), (66, Tryz.f66), (194, Tryz.f194), (34, Tryz.f34), (290, Tryz.f290), (162, Tryz.f162), (98, Tryz.f98), (226, Tryz.f226), (18, Tryz.f18), (274, Tryz.f274), (146, Tryz.f146), (82, Tryz.f82), (210, Tryz.f210), (50, Tryz.f50), (178, Tryz.f178), (114, Tryz.f114), (242, Tryz.f242), (10, Tryz.f10), (266, Tryz.f266), (138, Tryz.f138), (74, Tryz.f74), (202, Tryz.f202), (42, Tryz.f42), (298, Tryz.f298), (170, Tryz.f170), (106, Tryz.f106), (234, Tryz.f234), (26, Tryz.f26), (282, Tryz.f282), (154, Tryz.f154), (90, Tryz.f90), (218, Tryz.f218), (58, Tryz.f58), (186, Tryz.f186), (122, Tryz.f122), (250, Tryz.f250), (6, Tryz.f6), (262, Tryz.f262), (134, Tryz.f134), (70, Tryz.f70), (198, Tryz.f198), (38, Tryz.f38), (294, Tryz.f294), (166, Tryz.f166), (102, Tryz.f102), (230, Tryz.f230), (22, Tryz.f22), (278, Tryz.f278), (150, Tryz.f150), (86, Tryz.f86), (214, Tryz.f214), (54, Tryz.f54), (310, Tryz.f310), (182, Tryz.f182), (118, Tryz.f118), (246, Tryz.f246), (14, Tryz.f14), (270, Tryz.f270), (142, Tryz.f142), (78, Tryz.f78), (206, Tryz.f206), (46, Tryz.f46), (302, Tryz.f302), (174, Tryz.f174), (110, Tryz.f110), (238, Tryz.f238), (30, Tryz.f30), (286, Tryz.f286), (158, Tryz.f158), (94, Tryz.f94), (222, Tryz.f222), (62, Tryz.f62), (190, Tryz.f190), (126, Tryz.f126), (254, Tryz.f254), (257, Tryz.f257), (129, Tryz.f129), (65, Tryz.f65), (193, Tryz.f193), (33, Tryz.f33), (289, Tryz.f289), (161, Tryz.f161), (97, Tryz.f97), (225, Tryz.f225), (17, Tryz.f17), (273, Tryz.f273), (145, Tryz.f145), (81, Tryz.f81), (209, Tryz.f209), (49, Tryz.f49), (305, Tryz.f305), (177, Tryz.f177), (113, Tryz.f113), (241, Tryz.f241), (9, Tryz.f9), (265, Tryz.f265), (137, Tryz.f137), (73, Tryz.f73), (201, Tryz.f201), (41, Tryz.f41), (297, Tryz.f297), (169, Tryz.f169), (105, Tryz.f105), (233, Tryz.f233), (25, Tryz.f25), (281, Tryz.f281), (153, Tryz.f153), (89, Tryz.f89), (217, Tryz.f217), (57, Tryz.f57), (185, Tryz.f185), (121, Tryz.f121), (249, Tryz.f249), (5, Tryz.f5), (261, Tryz.f261), (133, Tryz.f133), (69, Tryz.f69), (197, Tryz.f197), (37, Tryz.f37), (293, Tryz.f293), (165, Tryz.f165), (101, Tryz.f101), (229, Tryz.f229), (21, Tryz.f21), (277, Tryz.f277), (149, Tryz.f149), (85, Tryz.f85), (341, Tryz.f341), (213, Tryz.f213), (53, Tryz.f53), (309, Tryz.f309), (181, Tryz.f181), (117, Tryz.f117), (245, Tryz.f245), (13, Tryz.f13), (269, Tryz.f269), (141, Tryz.f141), (77, Tryz.f77), (205, Tryz.f205), (45, Tryz.f45), (301, Tryz.f301), (173, Tryz.f173), (109, Tryz.f109), (237, Tryz.f237), (29, Tryz.f29), (285, Tryz.f285), (157, Tryz.f157), (93, Tryz.f93), (221, Tryz.f221), (61, Tryz.f61), (189, Tryz.f189), (125, Tryz.f125), (253, Tryz.f253), (3, Tryz.f3), (259, Tryz.f259), (131, Tryz.f131), (67, Tryz.f67), (195, Tryz.f195), (35, Tryz.f35), (291, Tryz.f291), (163, Tryz.f163), (99, Tryz.f99), (227, Tryz.f227), (19, Tryz.f19), (275, Tryz.f275), (147, Tryz.f147), (83, Tryz.f83), (211, Tryz.f211), (51, Tryz.f51), (179, Tryz.f179), (115, Tryz.f115), (243, Tryz.f243), (11, Tryz.f11), (267, Tryz.f267), (139, Tryz.f139), (75, Tryz.f75), (203, Tryz.f203), (43, Tryz.f43), (299, Tryz.f299), (171, Tryz.f171), (107, Tryz.f107), (235, Tryz.f235), (27, Tryz.f27), (283, Tryz.f283), (155, Tryz.f155), (91, Tryz.f91), (219, Tryz.f219), (59, Tryz.f59), (187, Tryz.f187), (123, Tryz.f123), (251, Tryz.f251), (7, Tryz.f7), (263, Tryz.f263), (135, Tryz.f135), (71, Tryz.f71), (199, Tryz.f199), (39, Tryz.f39), (295, Tryz.f295), (167, Tryz.f167), (103, Tryz.f103), (231, Tryz.f231), (23, Tryz.f23), (279, Tryz.f279), (151, Tryz.f151), (87, Tryz.f87), (215, Tryz.f215), (55, Tryz.f55), (183, Tryz.f183), (119, Tryz.f119), (247, Tryz.f247), (15, Tryz.f15), (271, Tryz.f271), (143, Tryz.f143), (79, Tryz.f79), (207, Tryz.f207), (47, Tryz.f47), (303, Tryz.f303), (175, Tryz.f175), (111, Tryz.f111), (239, Tryz.f239), (31, Tryz.f31), (287, Tryz.f287), (159, Tryz.f159), (95, Tryz.f95), (223, Tryz.f223), (63, Tryz.f63), (191, Tryz.f191), (127, Tryz.f127), (255, Tryz.f255)]
theorem fn2_ok : FnO 2 Tryz.f2 := fnS Tryz.func2
theorem fn3_ok : FnO 3 Tryz.f3 := fnS Tryz.func3
theorem fn4_ok : FnO 4 Tryz.f4 := fnS Tryz.func4
theorem fn5_ok : FnO 5 Tryz.f5 := fnS Tryz.func5
theorem fn6_ok : FnO 6 Tryz.f6 := fnS Tryz.func6
theorem fn7_ok : FnO 7 Tryz.f7 := fnS Tryz.func7
theorem fn8_ok : FnO 8 Tryz.f8 := fnS Tryz.func8
theorem fn9_ok : FnO 9 Tryz.f9 := fnS Tryz.func9
theorem fn10_ok : FnO 10 Tryz.f10 := fnS Tryz.func10
theorem fn11_ok : FnO 11 Tryz.f11 := fnS Tryz.func11
theorem fn12_ok : FnO 12 Tryz.f12 := fnS Tryz.func12
theorem fn13_ok : FnO 13 Tryz.f13 := fnS Tryz.func13
theorem fn14_ok : FnO 14 Tryz.f14 := fnS Tryz.func14
theorem fn15_ok : FnO 15 Tryz.f15 := fnS Tryz.func15
theorem fn16_ok : FnO 16 Tryz.f16 := fnS Tryz.func16
theorem fn17_ok : FnO 17 Tryz.f17 := fnS Tryz.func17
theorem fn18_ok : FnO 18 Tryz.f18 := fnS Tryz.func18
theorem fn19_ok : FnO 19 Tryz.f19 := fnS Tryz.func19
theorem fn20_ok : FnO 20 Tryz.f20 := fnS Tryz.func20
theorem fn21_ok : FnO 21 Tryz.f21 := fnS Tryz.func21
theorem fn22_ok : FnO 22 Tryz.f22 := fnS Tryz.func22
theorem fn23_ok : FnO 23 Tryz.f23 := fnS Tryz.func23
theorem fn24_ok : FnO 24 Tryz.f24 := fnS Tryz.func24
theorem fn25_ok : FnO 25 Tryz.f25 := fnS Tryz.func25
theorem fn26_ok : FnO 26 Tryz.f26 := fnS Tryz.func26
theorem fn27_ok : FnO 27 Tryz.f27 := fnS Tryz.func27
theorem fn28_ok : FnO 28 Tryz.f28 := fnS Tryz.func28
theorem fn29_ok : FnO 29 Tryz.f29 := fnS Tryz.func29
theorem fn30_ok : FnO 30 Tryz.f30 := fnS Tryz.func30
theorem fn31_ok : FnO 31 Tryz.f31 := fnS Tryz.func31
theorem fn32_ok : FnO 32 Tryz.f32 := fnS Tryz.func32
theorem fn33_ok : FnO 33 Tryz.f33 := fnS Tryz.func33
theorem fn34_ok : FnO 34 Tryz.f34 := fnS Tryz.func34
theorem fn35_ok : FnO 35 Tryz.f35 := fnS Tryz.func35
theorem fn36_ok : FnO 36 Tryz.f36 := fnS Tryz.func36
theorem fn37_ok : FnO 37 Tryz.f37 := fnS Tryz.func37
theorem fn38_ok : FnO 38 Tryz.f38 := fnS Tryz.func38
theorem fn39_ok : FnO 39 Tryz.f39 := fnS Tryz.func39
theorem fn40_ok : FnO 40 Tryz.f40 := fnS Tryz.func40
theorem fn41_ok : FnO 41 Tryz.f41 := fnS Tryz.func41
theorem fn42_ok : FnO 42 Tryz.f42 := fnS Tryz.func42
theorem fn43_ok : FnO 43 Tryz.f43 := fnS Tryz.func43
theorem fn44_ok : FnO 44 Tryz.f44 := fnS Tryz.func44
theorem fn45_ok : FnO 45 Tryz.f45 := fnS Tryz.func45
theorem fn46_ok : FnO 46 Tryz.f46 := fnS Tryz.func46
theorem fn47_ok : FnO 47 Tryz.f47 := fnS Tryz.func47
theorem fn48_ok : FnO 48 Tryz.f48 := fnS Tryz.func48
theorem fn49_ok : FnO 49 Tryz.f49 := fnS Tryz.func49
theorem fn50_ok : FnO 50 Tryz.f50 := fnS Tryz.func50
theorem fn51_ok : FnO 51 Tryz.f51 := fnS Tryz.func51
theorem fn52_ok : FnO 52 Tryz.f52 := fnS Tryz.func52
theorem fn53_ok : FnO 53 Tryz.f53 := fnS Tryz.func53
theorem fn54_ok : FnO 54 Tryz.f54 := fnS Tryz.func54
theorem fn55_ok : FnO 55 Tryz.f55 := fnS Tryz.func55
theorem fn56_ok : FnO 56 Tryz.f56 := fnS Tryz.func56
theorem fn57_ok : FnO 57 Tryz.f57 := fnS Tryz.func57
theorem fn58_ok : FnO 58 Tryz.f58 := fnS Tryz.func58
theorem fn59_ok : FnO 59 Tryz.f59 := fnS Tryz.func59
theorem fn60_ok : FnO 60 Tryz.f60 := fnS Tryz.func60
theorem fn61_ok : FnO 61 Tryz.f61 := fnS Tryz.func61
theorem fn62_ok : FnO 62 Tryz.f62 := fnS Tryz.func62
theorem fn63_ok : FnO 63 Tryz.f63 := fnS Tryz.func63
theorem fn64_ok : FnO 64 Tryz.f64 := fnS Tryz.func64
theorem fn65_ok : FnO 65 Tryz.f65 := fnS Tryz.func65
theorem fn66_ok : FnO 66 Tryz.f66 := fnS Tryz.func66
theorem fn67_ok : FnO 67 Tryz.f67 := fnS Tryz.func67
theorem fn68_ok : FnO 68 Tryz.f68 := fnS Tryz.func68
theorem fn69_ok : FnO 69 Tryz.f69 := fnS Tryz.func69
theorem fn70_ok : FnO 70 Tryz.f70 := fnS Tryz.func70
theorem fn71_ok : FnO 71 Tryz.f71 := fnS Tryz.func71
theorem fn72_ok : FnO 72 Tryz.f72 := fnS Tryz.func72
theorem fn73_ok : FnO 73 Tryz.f73 := fnS Tryz.func73
theorem fn74_ok : FnO 74 Tryz.f74 := fnS Tryz.func74
theorem fn75_ok : FnO 75 Tryz.f75 := fnS Tryz.func75
theorem fn76_ok : FnO 76 Tryz.f76 := fnS Tryz.func76
theorem fn77_ok : FnO 77 Tryz.f77 := fnS Tryz.func77
theorem fn78_ok : FnO 78 Tryz.f78 := fnS Tryz.func78
theorem fn79_ok : FnO 79 Tryz.f79 := fnS Tryz.func79
theorem fn80_ok : FnO 80 Tryz.f80 := fnS Tryz.func80
theorem fn81_ok : FnO 81 Tryz.f81 := fnS Tryz.func81
theorem fn82_ok : FnO 82 Tryz.f82 := fnS Tryz.func82
theorem fn83_ok : FnO 83 Tryz.f83 := fnS Tryz.func83
theorem fn84_ok : FnO 84 Tryz.f84 := fnS Tryz.func84
theorem fn85_ok : FnO 85 Tryz.f85 := fnS Tryz.func85
theorem fn86_ok : FnO 86 Tryz.f86 := fnS Tryz.func86
theorem fn87_ok : FnO 87 Tryz.f87 := fnS Tryz.func87
theorem fn88_ok : FnO 88 Tryz.f88 := fnS Tryz.func88
theorem fn89_ok : FnO 89 Tryz.f89 := fnS Tryz.func89
theorem fn90_ok : FnO 90 Tryz.f90 := fnS Tryz.func90
theorem fn91_ok : FnO 91 Tryz.f91 := fnS Tryz.func91
theorem fn92_ok : FnO 92 Tryz.f92 := fnS Tryz.func92
theorem fn93_ok : FnO 93 Tryz.f93 := fnS Tryz.func93
theorem fn94_ok : FnO 94 Tryz.f94 := fnS Tryz.func94
theorem fn95_ok : FnO 95 Tryz.f95 := fnS Tryz.func95
theorem fn96_ok : FnO 96 Tryz.f96 := fnS Tryz.func96
theorem fn97_ok : FnO 97 Tryz.f97 := fnS Tryz.func97
theorem fn98_ok : FnO 98 Tryz.f98 := fnS Tryz.func98
theorem fn99_ok : FnO 99 Tryz.f99 := fnS Tryz.func99
theorem fn100_ok : FnO 100 Tryz.f100 := fnS Tryz.func100
theorem fn101_ok : FnO 101 Tryz.f101 := fnS Tryz.func101
theorem fn102_ok : FnO 102 Tryz.f102 := fnS Tryz.func102
theorem fn103_ok : FnO 103 Tryz.f103 := fnS Tryz.func103
theorem fn104_ok : FnO 104 Tryz.f104 := fnS Tryz.func104
theorem fn105_ok : FnO 105 Tryz.f105 := fnS Tryz.func105
theorem fn106_ok : FnO 106 Tryz.f106 := fnS Tryz.func106
theorem fn107_ok : FnO 107 Tryz.f107 := fnS Tryz.func107
theorem fn108_ok : FnO 108 Tryz.f108 := fnS Tryz.func108
theorem fn109_ok : FnO 109 Tryz.f109 := fnS Tryz.func109
theorem fn110_ok : FnO 110 Tryz.f110 := fnS Tryz.func110
theorem fn111_ok : FnO 111 Tryz.f111 := fnS Tryz.func111
theorem fn112_ok : FnO 112 Tryz.f112 := fnS Tryz.func112
theorem fn113_ok : FnO 113 Tryz.f113 := fnS Tryz.func113
theorem fn114_ok : FnO 114 Tryz.f114 := fnS Tryz.func114
theorem fn115_ok : FnO 115 Tryz.f115 := fnS Tryz.func115
theorem fn116_ok : FnO 116 Tryz.f116 := fnS Tryz.func116
theorem fn117_ok : FnO 117 Tryz.f117 := fnS Tryz.func117
theorem fn118_ok : FnO 118 Tryz.f118 := fnS Tryz.func118
theorem fn119_ok : FnO 119 Tryz.f119 := fnS Tryz.func119
theorem fn120_ok : FnO 120 Tryz.f120 := fnS Tryz.func120
theorem fn121_ok : FnO 121 Tryz.f121 := fnS Tryz.func121
theorem fn122_ok : FnO 122 Tryz.f122 := fnS Tryz.func122
theorem fn123_ok : FnO 123 Tryz.f123 := fnS Tryz.func123
theorem fn124_ok : FnO 124 Tryz.f124 := fnS Tryz.func124
theorem fn125_ok : FnO 125 Tryz.f125 := fnS Tryz.func125
theorem fn126_ok : FnO 126 Tryz.f126 := fnS Tryz.func126
theorem fn127_ok : FnO 127 Tryz.f127 := fnS Tryz.func127
theorem fn128_ok : FnO 128 Tryz.f128 := fnS Tryz.func128
theorem fn129_ok : FnO 129 Tryz.f129 := fnS Tryz.func129
theorem fn130_ok : FnO 130 Tryz.f130 := fnS Tryz.func130
theorem fn131_ok : FnO 131 Tryz.f131 := fnS Tryz.func131
theorem fn132_ok : FnO 132 Tryz.f132 := fnS Tryz.func132
theorem fn133_ok : FnO 133 Tryz.f133 := fnS Tryz.func133
theorem fn134_ok : FnO 134 Tryz.f134 := fnS Tryz.func134
theorem fn135_ok : FnO 135 Tryz.f135 := fnS Tryz.func135
theorem fn136_ok : FnO 136 Tryz.f136 := fnS Tryz.func136
theorem fn137_ok : FnO 137 Tryz.f137 := fnS Tryz.func137
theorem fn138_ok : FnO 138 Tryz.f138 := fnS Tryz.func138
theorem fn139_ok : FnO 139 Tryz.f139 := fnS Tryz.func139
theorem fn140_ok : FnO 140 Tryz.f140 := fnS Tryz.func140
theorem fn141_ok : FnO 141 Tryz.f141 := fnS Tryz.func141
theorem fn142_ok : FnO 142 Tryz.f142 := fnS Tryz.func142
theorem fn143_ok : FnO 143 Tryz.f143 := fnS Tryz.func143
theorem fn144_ok : FnO 144 Tryz.f144 := fnS Tryz.func144
theorem fn145_ok : FnO 145 Tryz.f145 := fnS Tryz.func145
theorem fn146_ok : FnO 146 Tryz.f146 := fnS Tryz.func146
theorem fn147_ok : FnO 147 Tryz.f147 := fnS Tryz.func147
theorem fn148_ok : FnO 148 Tryz.f148 := fnS Tryz.func148
theorem fn149_ok : FnO 149 Tryz.f149 := fnS Tryz.func149
theorem fn150_ok : FnO 150 Tryz.f150 := fnS Tryz.func150
theorem fn151_ok : FnO 151 Tryz.f151 := fnS Tryz.func151
theorem fn152_ok : FnO 152 Tryz.f152 := fnS Tryz.func152
theorem fn153_ok : FnO 153 Tryz.f153 := fnS Tryz.func153
theorem fn154_ok : FnO 154 Tryz.f154 := fnS Tryz.func154
theorem fn155_ok : FnO 155 Tryz.f155 := fnS Tryz.func155
theorem fn156_ok : FnO 156 Tryz.f156 := fnS Tryz.func156
theorem fn157_ok : FnO 157 Tryz.f157 := fnS Tryz.func157
theorem fn158_ok : FnO 158 Tryz.f158 := fnS Tryz.func158
theorem fn159_ok : FnO 159 Tryz.f159 := fnS Tryz.func159
theorem fn160_ok : FnO 160 Tryz.f160 := fnS Tryz.func160
theorem fn161_ok : FnO 161 Tryz.f161 := fnS Tryz.func161
theorem fn162_ok : FnO 162 Tryz.f162 := fnS Tryz.func162
theorem fn163_ok : FnO 163 Tryz.f163 := fnS Tryz.func163
theorem fn164_ok : FnO 164 Tryz.f164 := fnS Tryz.func164
theorem fn165_ok : FnO 165 Tryz.f165 := fnS Tryz.func165
theorem fn166_ok : FnO 166 Tryz.f166 := fnS Tryz.func166
theorem fn167_ok : FnO 167 Tryz.f167 := fnS Tryz.func167
theorem fn168_ok : FnO 168 Tryz.f168 := fnS Tryz.func168
theorem fn169_ok : FnO 169 Tryz.f169 := fnS Tryz.func169
theorem fn170_ok : FnO 170 Tryz.f170 := fnS Tryz.func170
theorem fn171_ok : FnO 171 Tryz.f171 := fnS Tryz.func171
theorem fn172_ok : FnO 172 Tryz.f172 := fnS Tryz.func172
theorem fn173_ok : FnO 173 Tryz.f173 := fnS Tryz.func173
theorem fn174_ok : FnO 174 Tryz.f174 := fnS Tryz.func174
theorem fn175_ok : FnO 175 Tryz.f175 := fnS Tryz.func175
theorem fn176_ok : FnO 176 Tryz.f176 := fnS Tryz.func176
theorem fn177_ok : FnO 177 Tryz.f177 := fnS Tryz.func177
theorem fn178_ok : FnO 178 Tryz.f178 := fnS Tryz.func178
theorem fn179_ok : FnO 179 Tryz.f179 := fnS Tryz.func179
theorem fn180_ok : FnO 180 Tryz.f180 := fnS Tryz.func180
theorem fn181_ok : FnO 181 Tryz.f181 := fnS Tryz.func181
theorem fn182_ok : FnO 182 Tryz.f182 := fnS Tryz.func182
theorem fn183_ok : FnO 183 Tryz.f183 := fnS Tryz.func183
theorem fn184_ok : FnO 184 Tryz.f184 := fnS Tryz.func184
theorem fn185_ok : FnO 185 Tryz.f185 := fnS Tryz.func185
theorem fn186_ok : FnO 186 Tryz.f186 := fnS Tryz.func186
theorem fn187_ok : FnO 187 Tryz.f187 := fnS Tryz.func187
theorem fn188_ok : FnO 188 Tryz.f188 := fnS Tryz.func188
theorem fn189_ok : FnO 189 Tryz.f189 := fnS Tryz.func189
theorem fn190_ok : FnO 190 Tryz.f190 := fnS Tryz.func190
theorem fn191_ok : FnO 191 Tryz.f191 := fnS Tryz.func191
theorem fn192_ok : FnO 192 Tryz.f192 := fnS Tryz.func192
theorem fn193_ok : FnO 193 Tryz.f193 := fnS Tryz.func193
theorem fn194_ok : FnO 194 Tryz.f194 := fnS Tryz.func194
theorem fn195_ok : FnO 195 Tryz.f195 := fnS Tryz.func195
theorem fn196_ok : FnO 196 Tryz.f196 := fnS Tryz.func196
theorem fn197_ok : FnO 197 Tryz.f197 := fnS Tryz.func197
theorem fn198_ok : FnO 198 Tryz.f198 := fnS Tryz.func198
theorem fn199_ok : FnO 199 Tryz.f199 := fnS Tryz.func199
theorem fn200_ok : FnO 200 Tryz.f200 := fnS Tryz.func200
theorem fn201_ok : FnO 201 Tryz.f201 := fnS Tryz.func201
theorem fn202_ok : FnO 202 Tryz.f202 := fnS Tryz.func202
theorem fn203_ok : FnO 203 Tryz.f203 := fnS Tryz.func203
theorem fn204_ok : FnO 204 Tryz.f204 := fnS Tryz.func204
theorem fn205_ok : FnO 205 Tryz.f205 := fnS Tryz.func205
theorem fn206_ok : FnO 206 Tryz.f206 := fnS Tryz.func206
theorem fn207_ok : FnO 207 Tryz.f207 := fnS Tryz.func207
theorem fn208_ok : FnO 208 Tryz.f208 := fnS Tryz.func208
theorem fn209_ok : FnO 209 Tryz.f209 := fnS Tryz.func209
theorem fn210_ok : FnO 210 Tryz.f210 := fnS Tryz.func210
theorem fn211_ok : FnO 211 Tryz.f211 := fnS Tryz.func211
theorem fn212_ok : FnO 212 Tryz.f212 := fnS Tryz.func212
theorem fn213_ok : FnO 213 Tryz.f213 := fnS Tryz.func213
theorem fn214_ok : FnO 214 Tryz.f214 := fnS Tryz.func214
theorem fn215_ok : FnO 215 Tryz.f215 := fnS Tryz.func215
theorem fn216_ok : FnO 216 Tryz.f216 := fnS Tryz.func216
theorem fn217_ok : FnO 217 Tryz.f217 := fnS Tryz.func217
theorem fn218_ok : FnO 218 Tryz.f218 := fnS Tryz.func218
theorem fn219_ok : FnO 219 Tryz.f219 := fnS Tryz.func219
theorem fn220_ok : FnO 220 Tryz.f220 := fnS Tryz.func220
theorem fn221_ok : FnO 221 Tryz.f221 := fnS Tryz.func221
theorem fn222_ok : FnO 222 Tryz.f222 := fnS Tryz.func222
theorem fn223_ok : FnO 223 Tryz.f223 := fnS Tryz.func223
theorem fn224_ok : FnO 224 Tryz.f224 := fnS Tryz.func224
theorem fn225_ok : FnO 225 Tryz.f225 := fnS Tryz.func225
theorem fn226_ok : FnO 226 Tryz.f226 := fnS Tryz.func226
theorem fn227_ok : FnO 227 Tryz.f227 := fnS Tryz.func227
theorem fn228_ok : FnO 228 Tryz.f228 := fnS Tryz.func228
theorem fn229_ok : FnO 229 Tryz.f229 := fnS Tryz.func229
theorem fn230_ok : FnO 230 Tryz.f230 := fnS Tryz.func230
theorem fn231_ok : FnO 231 Tryz.f231 := fnS Tryz.func231
theorem fn232_ok : FnO 232 Tryz.f232 := fnS Tryz.func232
theorem fn233_ok : FnO 233 Tryz.f233 := fnS Tryz.func233
theorem fn234_ok : FnO 234 Tryz.f234 := fnS Tryz.func234
theorem fn235_ok : FnO 235 Tryz.f235 := fnS Tryz.func235
theorem fn236_ok : FnO 236 Tryz.f236 := fnS Tryz.func236
theorem fn237_ok : FnO 237 Tryz.f237 := fnS Tryz.func237
theorem fn238_ok : FnO 238 Tryz.f238 := fnS Tryz.func238
theorem fn239_ok : FnO 239 Tryz.f239 := fnS Tryz.func239
theorem fn240_ok : FnO 240 Tryz.f240 := fnS Tryz.func240
theorem fn241_ok : FnO 241 Tryz.f241 := fnS Tryz.func241
theorem fn242_ok : FnO 242 Tryz.f242 := fnS Tryz.func242
theorem fn243_ok : FnO 243 Tryz.f243 := fnS Tryz.func243
theorem fn244_ok : FnO 244 Tryz.f244 := fnS Tryz.func244
theorem fn245_ok : FnO 245 Tryz.f245 := fnS Tryz.func245
theorem fn246_ok : FnO 246 Tryz.f246 := fnS Tryz.func246
theorem fn247_ok : FnO 247 Tryz.f247 := fnS Tryz.func247
theorem fn248_ok : FnO 248 Tryz.f248 := fnS Tryz.func248
theorem fn249_ok : FnO 249 Tryz.f249 := fnS Tryz.func249
theorem fn250_ok : FnO 250 Tryz.f250 := fnS Tryz.func250
theorem fn251_ok : FnO 251 Tryz.f251 := fnS Tryz.func251
theorem fn252_ok : FnO 252 Tryz.f252 := fnS Tryz.func252
theorem fn253_ok : FnO 253 Tryz.f253 := fnS Tryz.func253
theorem fn254_ok : FnO 254 Tryz.f254 := fnS Tryz.func254
theorem fn255_ok : FnO 255 Tryz.f255 := fnS Tryz.func255
theorem fn256_ok : FnO 256 Tryz.f256 := fnS Tryz.func256
theorem fn257_ok : FnO 257 Tryz.f257 := fnS Tryz.func257
theorem fn258_ok : FnO 258 Tryz.f258 := fnS Tryz.func258
theorem fn259_ok : FnO 259 Tryz.f259 := fnS Tryz.func259
theorem fn260_ok : FnO 260 Tryz.f260 := fnS Tryz.func260
theorem fn261_ok : FnO 261 Tryz.f261 := fnS Tryz.func261
theorem fn262_ok : FnO 262 Tryz.f262 := fnS Tryz.func262
theorem fn263_ok : FnO 263 Tryz.f263 := fnS Tryz.func263
theorem fn264_ok : FnO 264 Tryz.f264 := fnS Tryz.func264
theorem fn265_ok : FnO 265 Tryz.f265 := fnS Tryz.func265
theorem fn266_ok : FnO 266 Tryz.f266 := fnS Tryz.func266
theorem fn267_ok : FnO 267 Tryz.f267 := fnS Tryz.func267
theorem fn268_ok : FnO 268 Tryz.f268 := fnS Tryz.func268
theorem fn269_ok : FnO 269 Tryz.f269 := fnS Tryz.func269
theorem fn270_ok : FnO 270 Tryz.f270 := fnS Tryz.func270
theorem fn271_ok : FnO 271 Tryz.f271 := fnS Tryz.func271
theorem fn272_ok : FnO 272 Tryz.f272 := fnS Tryz.func272
theorem fn273_ok : FnO 273 Tryz.f273 := fnS Tryz.func273
theorem fn274_ok : FnO 274 Tryz.f274 := fnS Tryz.func274
theorem fn275_ok : FnO 275 Tryz.f275 := fnS Tryz.func275
theorem fn276_ok : FnO 276 Tryz.f276 := fnS Tryz.func276
theorem fn277_ok : FnO 277 Tryz.f277 := fnS Tryz.func277
theorem fn278_ok : FnO 278 Tryz.f278 := fnS Tryz.func278
theorem fn279_ok : FnO 279 Tryz.f279 := fnS Tryz.func279
theorem fn280_ok : FnO 280 Tryz.f280 := fnS Tryz.func280
theorem fn281_ok : FnO 281 Tryz.f281 := fnS Tryz.func281
theorem fn282_ok : FnO 282 Tryz.f282 := fnS Tryz.func282
theorem fn283_ok : FnO 283 Tryz.f283 := fnS Tryz.func283
theorem fn284_ok : FnO 284 Tryz.f284 := fnS Tryz.func284
theorem fn285_ok : FnO 285 Tryz.f285 := fnS Tryz.func285
theorem fn286_ok : FnO 286 Tryz.f286 := fnS Tryz.func286
theorem fn287_ok : FnO 287 Tryz.f287 := fnS Tryz.func287
theorem fn288_ok : FnO 288 Tryz.f288 := fnS Tryz.func288
theorem fn289_ok : FnO 289 Tryz.f289 := fnS Tryz.func289
theorem fn290_ok : FnO 290 Tryz.f290 := fnS Tryz.func290
theorem fn291_ok : FnO 291 Tryz.f291 := fnS Tryz.func291
theorem fn292_ok : FnO 292 Tryz.f292 := fnS Tryz.func292
theorem fn293_ok : FnO 293 Tryz.f293 := fnS Tryz.func293
theorem fn294_ok : FnO 294 Tryz.f294 := fnS Tryz.func294
theorem fn295_ok : FnO 295 Tryz.f295 := fnS Tryz.func295
theorem fn296_ok : FnO 296 Tryz.f296 := fnS Tryz.func296
theorem fn297_ok : FnO 297 Tryz.f297 := fnS Tryz.func297
theorem fn298_ok : FnO 298 Tryz.f298 := fnS Tryz.func298
theorem fn299_ok : FnO 299 Tryz.f299 := fnS Tryz.func299
theorem fn300_ok : FnO 300 Tryz.f300 := fnS Tryz.func300
theorem fn301_ok : FnO 301 Tryz.f301 := fnS Tryz.func301
theorem fn302_ok : FnO 302 Tryz.f302 := fnS Tryz.func302
theorem fn303_ok : FnO 303 Tryz.f303 := fnS Tryz.func303
theorem fn304_ok : FnO 304 Tryz.f304 := fnS Tryz.func304
theorem fn305_ok : FnO 305 Tryz.f305 := fnS Tryz.func305
theorem fn308_ok : FnO 308 Tryz.f308 := fnS Tryz.func308
theorem fn309_ok : FnO 309 Tryz.f309 := fnS Tryz.func309
theorem fn310_ok : FnO 310 Tryz.f310 := fnS Tryz.func310
theorem fn341_ok : FnO 341 Tryz.f341 := fnS Tryz.func341
theorem ft_ok : FOk Tryz.prog ft := .of_list (l := ftl) (by kernel_rfl) (show AllL (FnOk Tryz.prog) ftl from ⟨fn256_ok, fn128_ok, fn64_ok, fn192_ok, fn32_ok, fn288_ok, fn160_ok, fn96_ok, fn224_ok, fn16_ok, fn272_ok, fn144_ok, fn80_ok, fn208_ok, fn48_ok, fn304_ok, fn176_ok, fn112_ok, fn240_ok, fn8_ok, fn264_ok, fn136_ok, fn72_ok, fn200_ok, fn40_ok, fn296_ok, fn168_ok, fn104_ok, fn232_ok, fn24_ok, fn280_ok, fn152_ok, fn88_ok, fn216_ok, fn56_ok, fn184_ok, fn120_ok, fn248_ok, fn4_ok, fn260_ok, fn132_ok, fn68_ok, fn196_ok, fn36_ok, fn292_ok, fn164_ok, fn100_ok, fn228_ok, fn20_ok, fn276_ok, fn148_ok, fn84_ok, fn212_ok, fn52_ok, fn308_ok, fn180_ok, fn116_ok, fn244_ok, fn12_ok, fn268_ok, fn140_ok, fn76_ok, fn204_ok, fn44_ok, fn300_ok, fn172_ok, fn108_ok, fn236_ok, fn28_ok, fn284_ok, fn156_ok, fn92_ok, fn220_ok, fn60_ok, fn188_ok, fn124_ok, fn252_ok, fn2_ok, fn258_ok, fn130_ok, fn66_ok, fn194_ok, fn34_ok, fn290_ok, fn162_ok, fn98_ok, fn226_ok, fn18_ok, fn274_ok, fn146_ok, fn82_ok, fn210_ok, fn50_ok, fn178_ok, fn114_ok, fn242_ok, fn10_ok, fn266_ok, fn138_ok, fn74_ok, fn202_ok, fn42_ok, fn298_ok, fn170_ok, fn106_ok, fn234_ok, fn26_ok, fn282_ok, fn154_ok, fn90_ok, fn218_ok, fn58_ok, fn186_ok, fn122_ok, fn250_ok, fn6_ok, fn262_ok, fn134_ok, fn70_ok, fn198_ok, fn38_ok, fn294_ok, fn166_ok, fn102_ok, fn230_ok, fn22_ok, fn278_ok, fn150_ok, fn86_ok, fn214_ok, fn54_ok, fn310_ok, fn182_ok, fn118_ok, fn246_ok, fn14_ok, fn270_ok, fn142_ok, fn78_ok, fn206_ok, fn46_ok, fn302_ok, fn174_ok, fn110_ok, fn238_ok, fn30_ok, fn286_ok, fn158_ok, fn94_ok, fn222_ok, fn62_ok, fn190_ok, fn126_ok, fn254_ok, fn257_ok, fn129_ok, fn65_ok, fn193_ok, fn33_ok, fn289_ok, fn161_ok, fn97_ok, fn225_ok, fn17_ok, fn273_ok, fn145_ok, fn81_ok, fn209_ok, fn49_ok, fn305_ok, fn177_ok, fn113_ok, fn241_ok, fn9_ok, fn265_ok, fn137_ok, fn73_ok, fn201_ok, fn41_ok, fn297_ok, fn169_ok, fn105_ok, fn233_ok, fn25_ok, fn281_ok, fn153_ok, fn89_ok, fn217_ok, fn57_ok, fn185_ok, fn121_ok, fn249_ok, fn5_ok, fn261_ok, fn133_ok, fn69_ok, fn197_ok, fn37_ok, fn293_ok, fn165_ok, fn101_ok, fn229_ok, fn21_ok, fn277_ok, fn149_ok, fn85_ok, fn341_ok, fn213_ok, fn53_ok, fn309_ok, fn181_ok, fn117_ok, fn245_ok, fn13_ok, fn269_ok, fn141_ok, fn77_ok, fn205_ok, fn45_ok, fn301_ok, fn173_ok, fn109_ok, fn237_ok, fn29_ok, fn285_ok, fn157_ok, fn93_ok, fn221_ok, fn61_ok, fn189_ok, fn125_ok, fn253_ok, fn3_ok, fn259_ok, fn131_ok, fn67_ok, fn195_ok, fn35_ok, fn291_ok, fn163_ok, fn99_ok, fn227_ok, fn19_ok, fn275_ok, fn147_ok, fn83_ok, fn211_ok, fn51_ok, fn179_ok, fn115_ok, fn243_ok, fn11_ok, fn267_ok, fn139_ok, fn75_ok, fn203_ok, fn43_ok, fn299_ok, fn171_ok, fn107_ok, fn235_ok, fn27_ok, fn283_ok, fn155_ok, fn91_ok, fn219_ok, fn59_ok, fn187_ok, fn123_ok, fn251_ok, fn7_ok, fn263_ok, fn135_ok, fn71_ok, fn199_ok, fn39_ok, fn295_ok, fn167_ok, fn103_ok, fn231_ok, fn23_ok, fn279_ok, fn151_ok, fn87_ok, fn215_ok, fn55_ok, fn183_ok, fn119_ok, fn247_ok, fn15_ok, fn271_ok, fn143_ok, fn79_ok, fn207_ok, fn47_ok, fn303_ok, fn175_ok, fn111_ok, fn239_ok, fn31_ok, fn287_ok, fn159_ok, fn95_ok, fn223_ok, fn63_ok, fn191_ok, fn127_ok, fn255_ok, trivial⟩)
noncomputable def cx : Cx := { tt := tt, ft := ft, sm := fun _ => none, ng := 7 }
end Go.Proofs.YtodbpiifjpnnbaaGreatDoor
