/- The types, the functions and the loops' live slots that the laws reach, and that they are what the program has. No conditions. -/
import Derived.Test.YtbjmfjfnilmhhaaGreatDoorEngTa
namespace Go.Proofs.YtbjmfjfnilmhhaaGreatDoor.Eng
open Go Go.Proofs
set_option maxRecDepth 100000
noncomputable def R3_0 : Array Oper := opsAt Tryz.f3 [0]
noncomputable def R3_1 : Array Oper := opsAt Tryz.f3 [1, 0, 0]
noncomputable def R3_2 : Array Oper := opsAt Tryz.f3 [1, 0, 1, 0, 0]
noncomputable def R3_3 : Array Oper := opsAt Tryz.f3 [1, 1, 0]
noncomputable def R3_4 : Array Oper := opsAt Tryz.f3 [1, 1, 1, 0]
noncomputable def R3_5 : Array Oper := opsAt Tryz.f3 [1, 1, 1, 1, 0]
noncomputable def R3_6 : Array Oper := opsAt Tryz.f3 [1, 1, 1, 1, 1, 0, 0]
noncomputable def R3_7 : Array Oper := opsAt Tryz.f3 [1, 1, 1, 1, 1, 0, 1, 0]
noncomputable def R3_8 : Array Oper := opsAt Tryz.f3 [1, 1, 1, 1, 1, 0, 1, 1, 0, 0]
noncomputable def R3_9 : Array Oper := opsAt Tryz.f3 [1, 1, 1, 1, 1, 1, 0]
noncomputable def R3_10 : Array Oper := opsAt Tryz.f3 [1, 1, 1, 1, 1, 1, 1, 0]
noncomputable def R3_11 : Array Oper := opsAt Tryz.f3 [1, 1, 1, 1, 1, 1, 1, 1, 0]
noncomputable def R3_12 : Array Oper := opsAt Tryz.f3 [1, 1, 1, 1, 1, 1, 1, 1, 1, 0, 0]
noncomputable def R3_13 : Array Oper := opsAt Tryz.f3 [1, 1, 1, 1, 1, 1, 1, 1, 1, 0, 1, 0, 0]
noncomputable def R3_14 : Array Oper := opsAt Tryz.f3 [1, 1, 1, 1, 1, 1, 1, 1, 1, 1, 0]
noncomputable def R3_15 : Array Oper := opsAt Tryz.f3 [1, 1, 1, 1, 1, 1, 1, 1, 1, 1, 1, 0]
noncomputable def R3_16 : Array Oper := opsAt Tryz.f3 [1, 1, 1, 1, 1, 1, 1, 1, 1, 1, 1, 1, 0, 0]
noncomputable def R3_17 : Array Oper := opsAt Tryz.f3 [1, 1, 1, 1, 1, 1, 1, 1, 1, 1, 1, 1, 0, 1, 0]
noncomputable def R3_18 : Array Oper := opsAt Tryz.f3 [1, 1, 1, 1, 1, 1, 1, 1, 1, 1, 1, 1, 0, 1, 1, 0, 0]
noncomputable def R3_19 : Array Oper := opsAt Tryz.f3 [1, 1, 1, 1, 1, 1, 1, 1, 1, 1, 1, 1, 1, 0]
noncomputable def R3_20 : Array Oper := opsAt Tryz.f3 [1, 1, 1, 1, 1, 1, 1, 1, 1, 1, 1, 1, 1, 1, 0, 0]
noncomputable def R3_21 : Array Oper := opsAt Tryz.f3 [1, 1, 1, 1, 1, 1, 1, 1, 1, 1, 1, 1, 1, 1, 0, 1, 0]
noncomputable def R3_22 : Array Oper := opsAt Tryz.f3 [1, 1, 1, 1, 1, 1, 1, 1, 1, 1, 1, 1, 1, 1, 0, 1, 1, 0, 0]
noncomputable def R3_23 : Array Oper := opsAt Tryz.f3 [1, 1, 1, 1, 1, 1, 1, 1, 1, 1, 1, 1, 1, 1, 1, 0, 0]
noncomputable def R3_24 : Array Oper := opsAt Tryz.f3 [1, 1, 1, 1, 1, 1, 1, 1, 1, 1, 1, 1, 1, 1, 1, 0, 1, 0, 0]
noncomputable def R3_25 : Array Oper := opsAt Tryz.f3 [1, 1, 1, 1, 1, 1, 1, 1, 1, 1, 1, 1, 1, 1, 1, 0, 1, 0, 1, 0]
noncomputable def R3_26 : Array Oper := opsAt Tryz.f3 [1, 1, 1, 1, 1, 1, 1, 1, 1, 1, 1, 1, 1, 1, 1, 0, 1, 0, 1, 1, 0]
noncomputable def R3_27 : Array Oper := opsAt Tryz.f3 [1, 1, 1, 1, 1, 1, 1, 1, 1, 1, 1, 1, 1, 1, 1, 0, 1, 0, 1, 1, 1, 0, 0]
noncomputable def R3_28 : Array Oper := opsAt Tryz.f3 [1, 1, 1, 1, 1, 1, 1, 1, 1, 1, 1, 1, 1, 1, 1, 1, 0]
theorem code3 : Tryz.f3.body = some (.seq (.region 0 R3_0 false) (.seq (.seq (.region 1 R3_1 false) (.cond (.tmp 30) (.seq (.region 2 R3_2 false) .ret) .skip)) (.seq (.region 3 R3_3 false) (.seq (.region 4 R3_4 false) (.seq (.region 5 R3_5 false) (.seq (.seq (.region 6 R3_6 false) (.seq (.region 7 R3_7 false) (.cond (.tmp 74) (.seq (.region 8 R3_8 false) .ret) .skip))) (.seq (.region 9 R3_9 false) (.seq (.region 10 R3_10 false) (.seq (.region 11 R3_11 false) (.seq (.seq (.region 12 R3_12 false) (.cond (.tmp 96) (.seq (.region 13 R3_13 false) .ret) .skip)) (.seq (.region 14 R3_14 false) (.seq (.region 15 R3_15 false) (.seq (.seq (.region 16 R3_16 false) (.seq (.region 17 R3_17 false) (.cond (.tmp 122) (.seq (.region 18 R3_18 false) .ret) .skip))) (.seq (.region 19 R3_19 false) (.seq (.seq (.region 20 R3_20 false) (.seq (.region 21 R3_21 false) (.cond (.tmp 148) (.seq (.region 22 R3_22 false) .ret) .skip))) (.seq (.seq (.region 23 R3_23 false) (.cond (.tmp 149) (.seq (.region 24 R3_24 false) (.seq (.region 25 R3_25 false) (.seq (.region 26 R3_26 false) (.cond (.tmp 182) (.seq (.region 27 R3_27 false) .ret) .skip)))) .skip)) (.seq (.region 28 R3_28 false) .ret))))))))))))))))) := by kernel_rfl
noncomputable def R4_0 : Array Oper := opsAt Tryz.f4 [0]
noncomputable def R4_1 : Array Oper := opsAt Tryz.f4 [1, 0]
theorem code4 : Tryz.f4.body = some (.seq (.region 0 R4_0 false) (.seq (.region 1 R4_1 false) .ret)) := by kernel_rfl
noncomputable def R5_0 : Array Oper := opsAt Tryz.f5 [0]
noncomputable def R5_1 : Array Oper := opsAt Tryz.f5 [1, 0]
theorem code5 : Tryz.f5.body = some (.seq (.region 0 R5_0 false) (.seq (.region 1 R5_1 false) .ret)) := by kernel_rfl
noncomputable def R6_0 : Array Oper := opsAt Tryz.f6 [0]
noncomputable def R6_1 : Array Oper := opsAt Tryz.f6 [1, 0, 0]
noncomputable def R6_2 : Array Oper := opsAt Tryz.f6 [1, 0, 1, 0, 0]
noncomputable def R6_3 : Array Oper := opsAt Tryz.f6 [1, 1, 0]
theorem code6 : Tryz.f6.body = some (.seq (.region 0 R6_0 false) (.seq (.seq (.region 1 R6_1 false) (.cond (.tmp 6) (.seq (.region 2 R6_2 false) .ret) .skip)) (.seq (.region 3 R6_3 false) .ret))) := by kernel_rfl
noncomputable def R7_0 : Array Oper := opsAt Tryz.f7 [0]
noncomputable def R7_1 : Array Oper := opsAt Tryz.f7 [1, 0, 0]
noncomputable def R7_2 : Array Oper := opsAt Tryz.f7 [1, 0, 1, 0, 0]
noncomputable def R7_3 : Array Oper := opsAt Tryz.f7 [1, 1, 0]
noncomputable def R7_4 : Array Oper := opsAt Tryz.f7 [1, 1, 1, 0]
noncomputable def R7_5 : Array Oper := opsAt Tryz.f7 [1, 1, 1, 1, 0, 0]
noncomputable def R7_6 : Array Oper := opsAt Tryz.f7 [1, 1, 1, 1, 0, 1, 0, 0]
noncomputable def R7_7 : Array Oper := opsAt Tryz.f7 [1, 1, 1, 1, 1, 0]
theorem code7 : Tryz.f7.body = some (.seq (.region 0 R7_0 false) (.seq (.seq (.region 1 R7_1 false) (.cond (.tmp 7) (.seq (.region 2 R7_2 false) .ret) .skip)) (.seq (.region 3 R7_3 false) (.seq (.region 4 R7_4 false) (.seq (.seq (.region 5 R7_5 false) (.cond (.tmp 30) (.seq (.region 6 R7_6 false) .ret) .skip)) (.seq (.region 7 R7_7 false) .ret)))))) := by kernel_rfl
noncomputable def R8_0 : Array Oper := opsAt Tryz.f8 [0]
noncomputable def R8_1 : Array Oper := opsAt Tryz.f8 [1, 0, 0]
noncomputable def R8_2 : Array Oper := opsAt Tryz.f8 [1, 0, 1, 0, 0]
noncomputable def R8_3 : Array Oper := opsAt Tryz.f8 [1, 1, 0]
theorem code8 : Tryz.f8.body = some (.seq (.region 0 R8_0 false) (.seq (.seq (.region 1 R8_1 false) (.cond (.tmp 6) (.seq (.region 2 R8_2 false) .ret) .skip)) (.seq (.region 3 R8_3 false) .ret))) := by kernel_rfl
noncomputable def R9_0 : Array Oper := opsAt Tryz.f9 [0]
noncomputable def R9_1 : Array Oper := opsAt Tryz.f9 [1, 0, 0]
noncomputable def R9_2 : Array Oper := opsAt Tryz.f9 [1, 0, 1, 0, 0]
noncomputable def R9_3 : Array Oper := opsAt Tryz.f9 [1, 1, 0]
noncomputable def R9_4 : Array Oper := opsAt Tryz.f9 [1, 1, 1, 0, 0]
noncomputable def R9_5 : Array Oper := opsAt Tryz.f9 [1, 1, 1, 0, 1, 0, 0, 0]
noncomputable def R9_6 : Array Oper := opsAt Tryz.f9 [1, 1, 1, 0, 1, 0, 0, 1, 1, 0, 0, 0]
noncomputable def R9_7 : Array Oper := opsAt Tryz.f9 [1, 1, 1, 0, 1, 0, 0, 1, 1, 0, 0, 1, 0]
noncomputable def R9_8 : Array Oper := opsAt Tryz.f9 [1, 1, 1, 0, 1, 0, 0, 1, 1, 0, 0, 1, 1, 0, 0]
noncomputable def R9_9 : Array Oper := opsAt Tryz.f9 [1, 1, 1, 0, 1, 0, 0, 1, 1, 0, 0, 1, 1, 0, 1, 0, 0]
noncomputable def R9_10 : Array Oper := opsAt Tryz.f9 [1, 1, 1, 0, 1, 0, 0, 1, 1, 0, 0, 1, 1, 1]
noncomputable def R9_11 : Array Oper := opsAt Tryz.f9 [1, 1, 1, 0, 1, 0, 0, 1, 1, 1]
noncomputable def L9_0 : Code := .seq (.region 5 R9_5 false) (.seq (.cond (.tmp 12) .skip (.exit 0)) (.seq (.block 1 (.seq (.region 6 R9_6 false) (.seq (.region 7 R9_7 false) (.seq (.seq (.region 8 R9_8 false) (.cond (.tmp 25) (.seq (.region 9 R9_9 false) .ret) .skip)) (.region 10 R9_10 false))))) (.region 11 R9_11 false)))
theorem lpL9_0 : loops L9_0 = 0 := rfl
noncomputable def R9_12 : Array Oper := opsAt Tryz.f9 [1, 1, 1, 1, 0]
noncomputable def M9_0 : Code := .seq (.region 12 R9_12 false) .ret
theorem lpM9_0 : loops M9_0 = 0 := rfl
theorem code9 : Tryz.f9.body = some (.seq (.region 0 R9_0 false) (.seq (.seq (.region 1 R9_1 false) (.cond (.tmp 8) (.seq (.region 2 R9_2 false) .ret) .skip)) (.seq (.region 3 R9_3 false) (.seq (.seq (.region 4 R9_4 false) (.block 0 (.loop L9_0))) M9_0)))) := by kernel_rfl
noncomputable def R10_0 : Array Oper := opsAt Tryz.f10 [0]
noncomputable def R10_1 : Array Oper := opsAt Tryz.f10 [1, 0, 0]
noncomputable def R10_2 : Array Oper := opsAt Tryz.f10 [1, 0, 1, 0, 0]
noncomputable def R10_3 : Array Oper := opsAt Tryz.f10 [1, 1, 0, 0]
noncomputable def R10_4 : Array Oper := opsAt Tryz.f10 [1, 1, 0, 1, 0, 0, 0, 0]
noncomputable def R10_6 : Array Oper := opsAt Tryz.f10 [1, 1, 0, 1, 0, 0, 1, 0, 0, 0]
noncomputable def R10_7 : Array Oper := opsAt Tryz.f10 [1, 1, 0, 1, 0, 0, 1, 0, 0, 1, 0, 0]
noncomputable def R10_5 : Array Oper := opsAt Tryz.f10 [1, 1, 0, 1, 0, 0, 1, 1]
noncomputable def L10_0 : Code := .seq (.seq (.region 4 R10_4 false) (.cond (.tmp 14) .skip (.exit 0))) (.seq (.block 1 (.seq (.region 6 R10_6 true) (.cond (.tmp 25) (.seq (.region 7 R10_7 false) .ret) .skip))) (.region 5 R10_5 false))
theorem lpL10_0 : loops L10_0 = 0 := rfl
noncomputable def R10_8 : Array Oper := opsAt Tryz.f10 [1, 1, 1, 0]
noncomputable def M10_0 : Code := .seq (.region 8 R10_8 false) .ret
theorem lpM10_0 : loops M10_0 = 0 := rfl
theorem code10 : Tryz.f10.body = some (.seq (.region 0 R10_0 false) (.seq (.seq (.region 1 R10_1 false) (.cond (.tmp 10) (.seq (.region 2 R10_2 false) .ret) .skip)) (.seq (.seq (.region 3 R10_3 false) (.block 0 (.loop L10_0))) M10_0))) := by kernel_rfl
noncomputable def R11_0 : Array Oper := opsAt Tryz.f11 [0]
noncomputable def R11_1 : Array Oper := opsAt Tryz.f11 [1, 0]
noncomputable def R11_2 : Array Oper := opsAt Tryz.f11 [1, 1, 0]
noncomputable def R11_3 : Array Oper := opsAt Tryz.f11 [1, 1, 1, 0]
noncomputable def R11_4 : Array Oper := opsAt Tryz.f11 [1, 1, 1, 1, 0, 0]
noncomputable def R11_5 : Array Oper := opsAt Tryz.f11 [1, 1, 1, 1, 0, 1, 0]
noncomputable def R11_6 : Array Oper := opsAt Tryz.f11 [1, 1, 1, 1, 1, 0]
theorem code11 : Tryz.f11.body = some (.seq (.region 0 R11_0 false) (.seq (.region 1 R11_1 false) (.seq (.region 2 R11_2 false) (.seq (.region 3 R11_3 false) (.seq (.seq (.region 4 R11_4 false) (.cond (.tmp 18) (.region 5 R11_5 false) .skip)) (.seq (.region 6 R11_6 false) .ret)))))) := by kernel_rfl
noncomputable def R12_0 : Array Oper := opsAt Tryz.f12 [0]
noncomputable def R12_1 : Array Oper := opsAt Tryz.f12 [1, 0]
noncomputable def R12_2 : Array Oper := opsAt Tryz.f12 [1, 1, 0]
noncomputable def R12_3 : Array Oper := opsAt Tryz.f12 [1, 1, 1, 0]
theorem code12 : Tryz.f12.body = some (.seq (.region 0 R12_0 false) (.seq (.region 1 R12_1 false) (.seq (.region 2 R12_2 false) (.seq (.region 3 R12_3 false) .ret)))) := by kernel_rfl
noncomputable def R13_0 : Array Oper := opsAt Tryz.f13 [0]
noncomputable def R13_1 : Array Oper := opsAt Tryz.f13 [1, 0, 0]
noncomputable def R13_2 : Array Oper := opsAt Tryz.f13 [1, 0, 1, 0, 0]
noncomputable def R13_3 : Array Oper := opsAt Tryz.f13 [1, 1, 0]
noncomputable def R13_4 : Array Oper := opsAt Tryz.f13 [1, 1, 1, 0, 0]
noncomputable def R13_5 : Array Oper := opsAt Tryz.f13 [1, 1, 1, 0, 1, 0, 0, 0]
noncomputable def R13_6 : Array Oper := opsAt Tryz.f13 [1, 1, 1, 0, 1, 0, 0, 1, 1, 0, 0, 0]
noncomputable def R13_7 : Array Oper := opsAt Tryz.f13 [1, 1, 1, 0, 1, 0, 0, 1, 1, 0, 0, 1, 0]
noncomputable def R13_8 : Array Oper := opsAt Tryz.f13 [1, 1, 1, 0, 1, 0, 0, 1, 1, 0, 0, 1, 1, 0, 0]
noncomputable def R13_9 : Array Oper := opsAt Tryz.f13 [1, 1, 1, 0, 1, 0, 0, 1, 1, 0, 0, 1, 1, 0, 1, 0, 0]
noncomputable def R13_10 : Array Oper := opsAt Tryz.f13 [1, 1, 1, 0, 1, 0, 0, 1, 1, 0, 0, 1, 1, 1]
noncomputable def R13_11 : Array Oper := opsAt Tryz.f13 [1, 1, 1, 0, 1, 0, 0, 1, 1, 1]
noncomputable def L13_0 : Code := .seq (.region 5 R13_5 false) (.seq (.cond (.tmp 29) .skip (.exit 0)) (.seq (.block 1 (.seq (.region 6 R13_6 false) (.seq (.region 7 R13_7 false) (.seq (.seq (.region 8 R13_8 false) (.cond (.tmp 40) (.seq (.region 9 R13_9 false) .ret) .skip)) (.region 10 R13_10 true))))) (.region 11 R13_11 false)))
theorem lpL13_0 : loops L13_0 = 0 := rfl
noncomputable def R13_12 : Array Oper := opsAt Tryz.f13 [1, 1, 1, 1, 0]
noncomputable def M13_0 : Code := .seq (.region 12 R13_12 false) .ret
theorem lpM13_0 : loops M13_0 = 0 := rfl
theorem code13 : Tryz.f13.body = some (.seq (.region 0 R13_0 false) (.seq (.seq (.region 1 R13_1 false) (.cond (.tmp 24) (.seq (.region 2 R13_2 false) .ret) .skip)) (.seq (.region 3 R13_3 false) (.seq (.seq (.region 4 R13_4 false) (.block 0 (.loop L13_0))) M13_0)))) := by kernel_rfl
noncomputable def R14_0 : Array Oper := opsAt Tryz.f14 [0]
noncomputable def R14_1 : Array Oper := opsAt Tryz.f14 [1, 0, 0]
noncomputable def R14_2 : Array Oper := opsAt Tryz.f14 [1, 0, 1, 0, 0]
noncomputable def R14_3 : Array Oper := opsAt Tryz.f14 [1, 1, 0]
theorem code14 : Tryz.f14.body = some (.seq (.region 0 R14_0 false) (.seq (.seq (.region 1 R14_1 false) (.cond (.tmp 13) (.seq (.region 2 R14_2 false) .ret) .skip)) (.seq (.region 3 R14_3 false) .ret))) := by kernel_rfl
noncomputable def R15_0 : Array Oper := opsAt Tryz.f15 [0]
noncomputable def R15_1 : Array Oper := opsAt Tryz.f15 [1, 0]
theorem code15 : Tryz.f15.body = some (.seq (.region 0 R15_0 false) (.seq (.region 1 R15_1 false) .ret)) := by kernel_rfl
noncomputable def R16_0 : Array Oper := opsAt Tryz.f16 [0]
noncomputable def R16_1 : Array Oper := opsAt Tryz.f16 [1, 0, 0]
noncomputable def R16_2 : Array Oper := opsAt Tryz.f16 [1, 0, 1, 0, 0]
noncomputable def R16_3 : Array Oper := opsAt Tryz.f16 [1, 1, 0]
noncomputable def R16_4 : Array Oper := opsAt Tryz.f16 [1, 1, 1, 0, 0]
noncomputable def R16_5 : Array Oper := opsAt Tryz.f16 [1, 1, 1, 0, 1, 0, 0, 0, 0]
noncomputable def R16_6 : Array Oper := opsAt Tryz.f16 [1, 1, 1, 0, 1, 0, 0, 1, 0, 0]
noncomputable def R16_7 : Array Oper := opsAt Tryz.f16 [1, 1, 1, 0, 1, 0, 0, 1, 0, 1, 0]
noncomputable def R16_8 : Array Oper := opsAt Tryz.f16 [1, 1, 1, 0, 1, 0, 0, 1, 0, 1, 1, 0, 0, 0]
noncomputable def R16_9 : Array Oper := opsAt Tryz.f16 [1, 1, 1, 0, 1, 0, 0, 1, 0, 1, 1, 0, 0, 1, 1, 0, 0, 0]
noncomputable def R16_10 : Array Oper := opsAt Tryz.f16 [1, 1, 1, 0, 1, 0, 0, 1, 0, 1, 1, 0, 0, 1, 1, 0, 0, 1, 0]
noncomputable def R16_11 : Array Oper := opsAt Tryz.f16 [1, 1, 1, 0, 1, 0, 0, 1, 0, 1, 1, 0, 0, 1, 1, 0, 0, 1, 1, 0]
noncomputable def R16_12 : Array Oper := opsAt Tryz.f16 [1, 1, 1, 0, 1, 0, 0, 1, 0, 1, 1, 0, 0, 1, 1, 0, 0, 1, 1, 1, 0, 0]
noncomputable def R16_13 : Array Oper := opsAt Tryz.f16 [1, 1, 1, 0, 1, 0, 0, 1, 0, 1, 1, 0, 0, 1, 1, 0, 0, 1, 1, 1, 0, 1, 0]
noncomputable def R16_14 : Array Oper := opsAt Tryz.f16 [1, 1, 1, 0, 1, 0, 0, 1, 0, 1, 1, 0, 0, 1, 1, 1]
noncomputable def L16_1 : Code := .seq (.region 8 R16_8 false) (.seq (.cond (.tmp 19) .skip (.exit 2)) (.seq (.block 3 (.seq (.region 9 R16_9 false) (.seq (.region 10 R16_10 true) (.seq (.region 11 R16_11 false) (.cond (.tmp 31) (.seq (.region 12 R16_12 false) (.seq (.region 13 R16_13 false) (.exit 2))) .skip))))) (.region 14 R16_14 false)))
theorem lpL16_1 : loops L16_1 = 0 := rfl
noncomputable def L16_0 : Code := .seq (.seq (.region 5 R16_5 false) (.cond (.tmp 15) .skip (.exit 0))) (.block 1 (.seq (.region 6 R16_6 false) (.seq (.region 7 R16_7 false) (.block 2 (.loop L16_1)))))
theorem lpL16_0 : loops L16_0 = 1 := rfl
noncomputable def R16_15 : Array Oper := opsAt Tryz.f16 [1, 1, 1, 1, 0]
noncomputable def M16_0 : Code := .seq (.region 15 R16_15 false) .ret
theorem lpM16_0 : loops M16_0 = 0 := rfl
theorem code16 : Tryz.f16.body = some (.seq (.region 0 R16_0 false) (.seq (.seq (.region 1 R16_1 false) (.cond (.tmp 12) (.seq (.region 2 R16_2 false) .ret) .skip)) (.seq (.region 3 R16_3 false) (.seq (.seq (.region 4 R16_4 false) (.block 0 (.loop L16_0))) M16_0)))) := by kernel_rfl
noncomputable def R17_0 : Array Oper := opsAt Tryz.f17 [0]
noncomputable def R17_1 : Array Oper := opsAt Tryz.f17 [1, 0, 0]
noncomputable def R17_2 : Array Oper := opsAt Tryz.f17 [1, 0, 1, 0, 0]
noncomputable def R17_3 : Array Oper := opsAt Tryz.f17 [1, 1, 0]
noncomputable def R17_4 : Array Oper := opsAt Tryz.f17 [1, 1, 1, 0, 0]
noncomputable def R17_5 : Array Oper := opsAt Tryz.f17 [1, 1, 1, 0, 1, 0, 0, 0, 0]
noncomputable def R17_7 : Array Oper := opsAt Tryz.f17 [1, 1, 1, 0, 1, 0, 0, 1, 0, 0, 0]
noncomputable def R17_8 : Array Oper := opsAt Tryz.f17 [1, 1, 1, 0, 1, 0, 0, 1, 0, 0, 1, 0, 0]
noncomputable def R17_9 : Array Oper := opsAt Tryz.f17 [1, 1, 1, 0, 1, 0, 0, 1, 0, 0, 1, 1, 0]
noncomputable def R17_10 : Array Oper := opsAt Tryz.f17 [1, 1, 1, 0, 1, 0, 0, 1, 0, 0, 1, 1, 1, 0]
noncomputable def R17_11 : Array Oper := opsAt Tryz.f17 [1, 1, 1, 0, 1, 0, 0, 1, 0, 0, 1, 1, 1, 1, 0]
noncomputable def R17_12 : Array Oper := opsAt Tryz.f17 [1, 1, 1, 0, 1, 0, 0, 1, 0, 0, 1, 1, 1, 1, 1]
noncomputable def R17_6 : Array Oper := opsAt Tryz.f17 [1, 1, 1, 0, 1, 0, 0, 1, 1]
noncomputable def L17_0 : Code := .seq (.seq (.region 5 R17_5 false) (.cond (.tmp 19) .skip (.exit 0))) (.seq (.block 1 (.seq (.region 7 R17_7 false) (.seq (.seq (.region 8 R17_8 false) (.cond (.tmp 29) (.exit 1) .skip)) (.seq (.region 9 R17_9 false) (.seq (.region 10 R17_10 false) (.seq (.region 11 R17_11 false) (.region 12 R17_12 false))))))) (.region 6 R17_6 false))
theorem lpL17_0 : loops L17_0 = 0 := rfl
noncomputable def R17_13 : Array Oper := opsAt Tryz.f17 [1, 1, 1, 1, 0]
noncomputable def M17_0 : Code := .seq (.region 13 R17_13 false) .ret
theorem lpM17_0 : loops M17_0 = 0 := rfl
theorem code17 : Tryz.f17.body = some (.seq (.region 0 R17_0 false) (.seq (.seq (.region 1 R17_1 false) (.cond (.tmp 11) (.seq (.region 2 R17_2 false) .ret) .skip)) (.seq (.region 3 R17_3 false) (.seq (.seq (.region 4 R17_4 false) (.block 0 (.loop L17_0))) M17_0)))) := by kernel_rfl
noncomputable def R18_0 : Array Oper := opsAt Tryz.f18 [0]
noncomputable def R18_1 : Array Oper := opsAt Tryz.f18 [1, 0]
noncomputable def R18_2 : Array Oper := opsAt Tryz.f18 [1, 1, 0]
theorem code18 : Tryz.f18.body = some (.seq (.region 0 R18_0 false) (.seq (.region 1 R18_1 false) (.seq (.region 2 R18_2 false) .ret))) := by kernel_rfl
noncomputable def R19_0 : Array Oper := opsAt Tryz.f19 [0]
noncomputable def R19_1 : Array Oper := opsAt Tryz.f19 [1, 0]
noncomputable def R19_2 : Array Oper := opsAt Tryz.f19 [1, 1, 0]
noncomputable def R19_3 : Array Oper := opsAt Tryz.f19 [1, 1, 1, 0, 0]
noncomputable def R19_4 : Array Oper := opsAt Tryz.f19 [1, 1, 1, 0, 1, 0, 0, 0]
noncomputable def R19_5 : Array Oper := opsAt Tryz.f19 [1, 1, 1, 0, 1, 0, 0, 1, 1, 0, 0, 0]
noncomputable def R19_6 : Array Oper := opsAt Tryz.f19 [1, 1, 1, 0, 1, 0, 0, 1, 1, 0, 0, 1, 0]
noncomputable def R19_7 : Array Oper := opsAt Tryz.f19 [1, 1, 1, 0, 1, 0, 0, 1, 1, 0, 0, 1, 1, 0]
noncomputable def R19_8 : Array Oper := opsAt Tryz.f19 [1, 1, 1, 0, 1, 0, 0, 1, 1, 0, 0, 1, 1, 1, 0]
noncomputable def R19_9 : Array Oper := opsAt Tryz.f19 [1, 1, 1, 0, 1, 0, 0, 1, 1, 0, 0, 1, 1, 1, 1, 0, 0]
noncomputable def R19_10 : Array Oper := opsAt Tryz.f19 [1, 1, 1, 0, 1, 0, 0, 1, 1, 0, 0, 1, 1, 1, 1, 0, 1, 0, 0]
noncomputable def R19_11 : Array Oper := opsAt Tryz.f19 [1, 1, 1, 0, 1, 0, 0, 1, 1, 0, 0, 1, 1, 1, 1, 0, 1, 0, 1, 0]
noncomputable def R19_12 : Array Oper := opsAt Tryz.f19 [1, 1, 1, 0, 1, 0, 0, 1, 1, 0, 0, 1, 1, 1, 1, 0, 1, 0, 1, 1, 0]
noncomputable def R19_13 : Array Oper := opsAt Tryz.f19 [1, 1, 1, 0, 1, 0, 0, 1, 1, 0, 0, 1, 1, 1, 1, 0, 1, 0, 1, 1, 1, 0]
noncomputable def R19_14 : Array Oper := opsAt Tryz.f19 [1, 1, 1, 0, 1, 0, 0, 1, 1, 0, 0, 1, 1, 1, 1, 0, 1, 0, 1, 1, 1, 1, 0, 0]
noncomputable def R19_15 : Array Oper := opsAt Tryz.f19 [1, 1, 1, 0, 1, 0, 0, 1, 1, 0, 0, 1, 1, 1, 1, 0, 1, 0, 1, 1, 1, 1, 0, 1, 1]
noncomputable def R19_16 : Array Oper := opsAt Tryz.f19 [1, 1, 1, 0, 1, 0, 0, 1, 1, 0, 0, 1, 1, 1, 1, 0, 1, 0, 1, 1, 1, 1, 1, 0, 0]
noncomputable def R19_17 : Array Oper := opsAt Tryz.f19 [1, 1, 1, 0, 1, 0, 0, 1, 1, 0, 0, 1, 1, 1, 1, 0, 1, 0, 1, 1, 1, 1, 1, 0, 1, 0, 0]
noncomputable def R19_18 : Array Oper := opsAt Tryz.f19 [1, 1, 1, 0, 1, 0, 0, 1, 1, 0, 0, 1, 1, 1, 1, 0, 1, 0, 1, 1, 1, 1, 1, 0, 1, 0, 1, 0]
noncomputable def R19_19 : Array Oper := opsAt Tryz.f19 [1, 1, 1, 0, 1, 0, 0, 1, 1, 0, 0, 1, 1, 1, 1, 0, 1, 0, 1, 1, 1, 1, 1, 0, 1, 1, 0]
noncomputable def R19_20 : Array Oper := opsAt Tryz.f19 [1, 1, 1, 0, 1, 0, 0, 1, 1, 0, 0, 1, 1, 1, 1, 0, 1, 0, 1, 1, 1, 1, 1, 0, 1, 1, 1, 0, 0]
noncomputable def R19_21 : Array Oper := opsAt Tryz.f19 [1, 1, 1, 0, 1, 0, 0, 1, 1, 0, 0, 1, 1, 1, 1, 0, 1, 0, 1, 1, 1, 1, 1, 0, 1, 1, 1, 0, 1, 0]
noncomputable def R19_22 : Array Oper := opsAt Tryz.f19 [1, 1, 1, 0, 1, 0, 0, 1, 1, 0, 0, 1, 1, 1, 1, 0, 1, 0, 1, 1, 1, 1, 1, 0, 1, 1, 1, 1]
noncomputable def R19_23 : Array Oper := opsAt Tryz.f19 [1, 1, 1, 0, 1, 0, 0, 1, 1, 0, 0, 1, 1, 1, 1, 0, 1, 0, 1, 1, 1, 1, 1, 1, 0]
noncomputable def R19_24 : Array Oper := opsAt Tryz.f19 [1, 1, 1, 0, 1, 0, 0, 1, 1, 0, 0, 1, 1, 1, 1, 0, 1, 0, 1, 1, 1, 1, 1, 1, 1, 0]
noncomputable def R19_25 : Array Oper := opsAt Tryz.f19 [1, 1, 1, 0, 1, 0, 0, 1, 1, 0, 0, 1, 1, 1, 1, 0, 1, 0, 1, 1, 1, 1, 1, 1, 1, 1, 0]
noncomputable def R19_26 : Array Oper := opsAt Tryz.f19 [1, 1, 1, 0, 1, 0, 0, 1, 1, 0, 0, 1, 1, 1, 1, 0, 1, 0, 1, 1, 1, 1, 1, 1, 1, 1, 1, 0]
noncomputable def R19_27 : Array Oper := opsAt Tryz.f19 [1, 1, 1, 0, 1, 0, 0, 1, 1, 0, 0, 1, 1, 1, 1, 0, 1, 0, 1, 1, 1, 1, 1, 1, 1, 1, 1, 1, 0]
noncomputable def R19_28 : Array Oper := opsAt Tryz.f19 [1, 1, 1, 0, 1, 0, 0, 1, 1, 0, 0, 1, 1, 1, 1, 0, 1, 0, 1, 1, 1, 1, 1, 1, 1, 1, 1, 1, 1, 0]
noncomputable def R19_29 : Array Oper := opsAt Tryz.f19 [1, 1, 1, 0, 1, 0, 0, 1, 1, 0, 0, 1, 1, 1, 1, 1]
noncomputable def R19_30 : Array Oper := opsAt Tryz.f19 [1, 1, 1, 0, 1, 0, 0, 1, 1, 1]
noncomputable def L19_0 : Code := .seq (.region 4 R19_4 false) (.seq (.cond (.tmp 16) .skip (.exit 0)) (.seq (.block 1 (.seq (.region 5 R19_5 false) (.seq (.region 6 R19_6 false) (.seq (.region 7 R19_7 true) (.seq (.region 8 R19_8 false) (.seq (.seq (.region 9 R19_9 false) (.block 2 (.seq (.region 10 R19_10 false) (.cond (.tmp 32) (.region 11 R19_11 false) (.seq (.region 12 R19_12 false) (.cond (.tmp 40) (.region 13 R19_13 false) (.seq (.seq (.region 14 R19_14 false) (.cond (.tmp 45) .skip (.region 15 R19_15 false))) (.cond (.tmp 45) (.seq (.region 16 R19_16 false) (.seq (.seq (.region 17 R19_17 false) (.cond (.tmp 50) (.region 18 R19_18 false) .skip)) (.seq (.region 19 R19_19 false) (.seq (.seq (.region 20 R19_20 false) (.cond (.tmp 56) (.region 21 R19_21 false) .skip)) (.region 22 R19_22 false))))) (.seq (.region 23 R19_23 false) (.cond (.tmp 67) (.region 24 R19_24 true) (.seq (.region 25 R19_25 false) (.cond (.tmp 79) (.region 26 R19_26 true) (.seq (.region 27 R19_27 false) (.cond (.tmp 91) (.region 28 R19_28 true) .skip)))))))))))))) (.region 29 R19_29 true))))))) (.region 30 R19_30 false)))
theorem lpL19_0 : loops L19_0 = 0 := rfl
noncomputable def R19_31 : Array Oper := opsAt Tryz.f19 [1, 1, 1, 1, 0]
noncomputable def M19_0 : Code := .seq (.region 31 R19_31 false) .ret
theorem lpM19_0 : loops M19_0 = 0 := rfl
theorem code19 : Tryz.f19.body = some (.seq (.region 0 R19_0 false) (.seq (.region 1 R19_1 false) (.seq (.region 2 R19_2 false) (.seq (.seq (.region 3 R19_3 false) (.block 0 (.loop L19_0))) M19_0)))) := by kernel_rfl
noncomputable def R20_0 : Array Oper := opsAt Tryz.f20 [0]
noncomputable def R20_1 : Array Oper := opsAt Tryz.f20 [1, 0, 0, 0, 0]
noncomputable def R20_2 : Array Oper := opsAt Tryz.f20 [1, 0, 0, 1, 0, 0]
noncomputable def R20_3 : Array Oper := opsAt Tryz.f20 [1, 0, 0, 1, 0, 1, 0, 0, 0]
noncomputable def R20_4 : Array Oper := opsAt Tryz.f20 [1, 0, 0, 1, 0, 1, 0, 0, 1, 0]
noncomputable def R20_5 : Array Oper := opsAt Tryz.f20 [1, 0, 0, 1, 0, 1, 0, 0, 1, 1, 0]
noncomputable def R20_6 : Array Oper := opsAt Tryz.f20 [1, 0, 0, 1, 0, 1, 0, 0, 1, 1, 1, 0]
noncomputable def R20_7 : Array Oper := opsAt Tryz.f20 [1, 0, 0, 1, 0, 1, 1, 0]
noncomputable def R20_8 : Array Oper := opsAt Tryz.f20 [1, 0, 0, 1, 0, 1, 1, 1]
noncomputable def L20_0 : Code := .seq (.seq (.region 1 R20_1 false) (.cond (.tmp 9) .skip (.exit 0))) (.block 1 (.seq (.region 2 R20_2 false) (.seq (.block 2 (.seq (.region 3 R20_3 false) (.cond (.tmp 10) (.region 4 R20_4 false) (.seq (.region 5 R20_5 false) (.cond (.tmp 13) (.region 6 R20_6 false) .ret))))) (.seq (.region 7 R20_7 false) (.region 8 R20_8 false)))))
theorem lpL20_0 : loops L20_0 = 0 := rfl
theorem code20 : Tryz.f20.body = some (.seq (.region 0 R20_0 false) (.block 0 (.loop L20_0))) := by kernel_rfl
noncomputable def R21_0 : Array Oper := opsAt Tryz.f21 [0]
noncomputable def R21_1 : Array Oper := opsAt Tryz.f21 [1, 0]
noncomputable def R21_2 : Array Oper := opsAt Tryz.f21 [1, 1, 0, 0]
noncomputable def R21_3 : Array Oper := opsAt Tryz.f21 [1, 1, 0, 1, 0, 0]
noncomputable def R21_4 : Array Oper := opsAt Tryz.f21 [1, 1, 1, 0, 0]
noncomputable def R21_5 : Array Oper := opsAt Tryz.f21 [1, 1, 1, 0, 1, 0, 0, 0, 0]
noncomputable def R21_7 : Array Oper := opsAt Tryz.f21 [1, 1, 1, 0, 1, 0, 0, 1, 0, 0, 0]
noncomputable def R21_8 : Array Oper := opsAt Tryz.f21 [1, 1, 1, 0, 1, 0, 0, 1, 0, 0, 1, 0, 0]
noncomputable def R21_9 : Array Oper := opsAt Tryz.f21 [1, 1, 1, 0, 1, 0, 0, 1, 0, 0, 1, 0, 1, 0, 0]
noncomputable def R21_10 : Array Oper := opsAt Tryz.f21 [1, 1, 1, 0, 1, 0, 0, 1, 0, 0, 1, 1]
noncomputable def R21_6 : Array Oper := opsAt Tryz.f21 [1, 1, 1, 0, 1, 0, 0, 1, 1]
noncomputable def L21_0 : Code := .seq (.seq (.region 5 R21_5 false) (.cond (.tmp 12) .skip (.exit 0))) (.seq (.block 1 (.seq (.region 7 R21_7 false) (.seq (.seq (.region 8 R21_8 false) (.cond (.tmp 26) (.seq (.region 9 R21_9 false) .ret) .skip)) (.region 10 R21_10 false)))) (.region 6 R21_6 false))
theorem lpL21_0 : loops L21_0 = 0 := rfl
noncomputable def R21_11 : Array Oper := opsAt Tryz.f21 [1, 1, 1, 1, 0]
noncomputable def M21_0 : Code := .seq (.region 11 R21_11 false) .ret
theorem lpM21_0 : loops M21_0 = 0 := rfl
theorem code21 : Tryz.f21.body = some (.seq (.region 0 R21_0 false) (.seq (.region 1 R21_1 false) (.seq (.seq (.region 2 R21_2 false) (.cond (.tmp 8) (.seq (.region 3 R21_3 false) .ret) .skip)) (.seq (.seq (.region 4 R21_4 false) (.block 0 (.loop L21_0))) M21_0)))) := by kernel_rfl
noncomputable def R22_0 : Array Oper := opsAt Tryz.f22 [0]
noncomputable def R22_1 : Array Oper := opsAt Tryz.f22 [1, 0]
noncomputable def R22_2 : Array Oper := opsAt Tryz.f22 [1, 1, 0, 0]
noncomputable def R22_3 : Array Oper := opsAt Tryz.f22 [1, 1, 0, 1, 0, 0]
noncomputable def R22_4 : Array Oper := opsAt Tryz.f22 [1, 1, 0, 1, 0, 1, 0, 0]
noncomputable def R22_5 : Array Oper := opsAt Tryz.f22 [1, 1, 0, 1, 0, 1, 1, 0]
noncomputable def R22_6 : Array Oper := opsAt Tryz.f22 [1, 1, 0, 1, 0, 1, 1, 1, 0, 0]
noncomputable def R22_7 : Array Oper := opsAt Tryz.f22 [1, 1, 0, 1, 0, 1, 1, 1, 1, 0]
noncomputable def R22_8 : Array Oper := opsAt Tryz.f22 [1, 1, 0, 1, 0, 1, 1, 1, 1, 1, 0, 0]
noncomputable def R22_9 : Array Oper := opsAt Tryz.f22 [1, 1, 1, 0]
noncomputable def R22_10 : Array Oper := opsAt Tryz.f22 [1, 1, 1, 1, 0]
noncomputable def R22_11 : Array Oper := opsAt Tryz.f22 [1, 1, 1, 1, 1, 0, 0]
noncomputable def R22_12 : Array Oper := opsAt Tryz.f22 [1, 1, 1, 1, 1, 0, 1, 0, 0]
noncomputable def R22_13 : Array Oper := opsAt Tryz.f22 [1, 1, 1, 1, 1, 0, 1, 0, 1, 0, 0]
noncomputable def R22_14 : Array Oper := opsAt Tryz.f22 [1, 1, 1, 1, 1, 0, 1, 0, 1, 1, 0]
noncomputable def R22_15 : Array Oper := opsAt Tryz.f22 [1, 1, 1, 1, 1, 0, 1, 0, 1, 1, 1, 0, 0]
noncomputable def R22_16 : Array Oper := opsAt Tryz.f22 [1, 1, 1, 1, 1, 1, 0, 0]
noncomputable def R22_17 : Array Oper := opsAt Tryz.f22 [1, 1, 1, 1, 1, 1, 0, 1, 0]
noncomputable def R22_18 : Array Oper := opsAt Tryz.f22 [1, 1, 1, 1, 1, 1, 1, 0, 0]
noncomputable def R22_19 : Array Oper := opsAt Tryz.f22 [1, 1, 1, 1, 1, 1, 1, 0, 1, 0, 0]
noncomputable def R22_20 : Array Oper := opsAt Tryz.f22 [1, 1, 1, 1, 1, 1, 1, 1, 0]
theorem code22 : Tryz.f22.body = some (.seq (.region 0 R22_0 false) (.seq (.region 1 R22_1 false) (.seq (.seq (.region 2 R22_2 false) (.block 0 (.seq (.region 3 R22_3 false) (.cond (.tmp 14) (.seq (.region 4 R22_4 false) .ret) (.seq (.region 5 R22_5 false) (.cond (.tmp 22) (.seq (.region 6 R22_6 false) .ret) (.seq (.region 7 R22_7 false) (.cond (.tmp 27) (.seq (.region 8 R22_8 true) .ret) .skip)))))))) (.seq (.region 9 R22_9 false) (.seq (.region 10 R22_10 false) (.seq (.seq (.region 11 R22_11 false) (.block 1 (.seq (.region 12 R22_12 false) (.cond (.tmp 53) (.seq (.region 13 R22_13 false) .ret) (.seq (.region 14 R22_14 false) (.cond (.tmp 61) (.seq (.region 15 R22_15 false) .ret) .skip)))))) (.seq (.seq (.region 16 R22_16 false) (.cond (.tmp 74) (.region 17 R22_17 false) .skip)) (.seq (.seq (.region 18 R22_18 false) (.cond (.tmp 80) (.seq (.region 19 R22_19 false) .ret) .skip)) (.seq (.region 20 R22_20 false) .ret))))))))) := by kernel_rfl
noncomputable def R23_0 : Array Oper := opsAt Tryz.f23 [0]
noncomputable def R23_1 : Array Oper := opsAt Tryz.f23 [1, 0, 0, 0]
noncomputable def R23_2 : Array Oper := opsAt Tryz.f23 [1, 0, 0, 1, 0, 0]
noncomputable def R23_3 : Array Oper := opsAt Tryz.f23 [1, 0, 0, 1, 1, 0]
noncomputable def R23_4 : Array Oper := opsAt Tryz.f23 [1, 0, 0, 1, 1, 1, 0, 0]
noncomputable def R23_5 : Array Oper := opsAt Tryz.f23 [1, 1, 0]
theorem code23 : Tryz.f23.body = some (.seq (.region 0 R23_0 false) (.seq (.block 0 (.seq (.region 1 R23_1 false) (.cond (.tmp 3) (.seq (.region 2 R23_2 false) .ret) (.seq (.region 3 R23_3 false) (.cond (.tmp 7) (.seq (.region 4 R23_4 false) .ret) .skip))))) (.seq (.region 5 R23_5 false) .ret))) := by kernel_rfl
noncomputable def R24_0 : Array Oper := opsAt Tryz.f24 [0]
noncomputable def R24_1 : Array Oper := opsAt Tryz.f24 [1, 0, 0, 0]
noncomputable def R24_2 : Array Oper := opsAt Tryz.f24 [1, 0, 0, 1, 0, 0]
noncomputable def R24_3 : Array Oper := opsAt Tryz.f24 [1, 0, 0, 1, 1, 0]
noncomputable def R24_4 : Array Oper := opsAt Tryz.f24 [1, 0, 0, 1, 1, 1, 0, 0]
noncomputable def R24_5 : Array Oper := opsAt Tryz.f24 [1, 1, 0]
theorem code24 : Tryz.f24.body = some (.seq (.region 0 R24_0 false) (.seq (.block 0 (.seq (.region 1 R24_1 false) (.cond (.tmp 3) (.seq (.region 2 R24_2 false) .ret) (.seq (.region 3 R24_3 false) (.cond (.tmp 10) (.seq (.region 4 R24_4 false) .ret) .skip))))) (.seq (.region 5 R24_5 false) .ret))) := by kernel_rfl
noncomputable def R25_0 : Array Oper := opsAt Tryz.f25 [0]
noncomputable def R25_1 : Array Oper := opsAt Tryz.f25 [1, 0]
noncomputable def R25_2 : Array Oper := opsAt Tryz.f25 [1, 1, 0]
noncomputable def R25_3 : Array Oper := opsAt Tryz.f25 [1, 1, 1, 0, 0]
noncomputable def R25_4 : Array Oper := opsAt Tryz.f25 [1, 1, 1, 0, 1, 0, 0, 0, 0]
noncomputable def R25_8 : Array Oper := opsAt Tryz.f25 [1, 1, 1, 0, 1, 0, 0, 1, 0, 0, 0, 0]
noncomputable def R25_9 : Array Oper := opsAt Tryz.f25 [1, 1, 1, 0, 1, 0, 0, 1, 0, 0, 0, 1, 0, 0]
noncomputable def R25_10 : Array Oper := opsAt Tryz.f25 [1, 1, 1, 0, 1, 0, 0, 1, 0, 0, 0, 1, 0, 1]
noncomputable def R25_11 : Array Oper := opsAt Tryz.f25 [1, 1, 1, 0, 1, 0, 0, 1, 0, 0, 0, 1, 1, 0]
noncomputable def R25_12 : Array Oper := opsAt Tryz.f25 [1, 1, 1, 0, 1, 0, 0, 1, 0, 0, 0, 1, 1, 1, 0]
noncomputable def R25_13 : Array Oper := opsAt Tryz.f25 [1, 1, 1, 0, 1, 0, 0, 1, 0, 0, 0, 1, 1, 1, 1, 0]
noncomputable def R25_14 : Array Oper := opsAt Tryz.f25 [1, 1, 1, 0, 1, 0, 0, 1, 0, 0, 0, 1, 1, 1, 1, 1, 0, 0]
noncomputable def R25_15 : Array Oper := opsAt Tryz.f25 [1, 1, 1, 0, 1, 0, 0, 1, 0, 0, 0, 1, 1, 1, 1, 1, 0, 1]
noncomputable def R25_6 : Array Oper := opsAt Tryz.f25 [1, 1, 1, 0, 1, 0, 0, 1, 0, 0, 0, 1, 1, 1, 1, 1, 1, 0]
noncomputable def R25_7 : Array Oper := opsAt Tryz.f25 [1, 1, 1, 0, 1, 0, 0, 1, 0, 0, 0, 1, 1, 1, 1, 1, 1, 1]
noncomputable def R25_5 : Array Oper := opsAt Tryz.f25 [1, 1, 1, 0, 1, 0, 0, 1, 1]
noncomputable def L25_0 : Code := .seq (.seq (.region 4 R25_4 false) (.cond (.tmp 11) .skip (.exit 0))) (.seq (.block 1 (.block 2 (.seq (.region 8 R25_8 false) (.cond (.tmp 22) (.seq (.region 9 R25_9 false) (.region 10 R25_10 false)) (.seq (.region 11 R25_11 false) (.cond (.tmp 38) (.region 12 R25_12 false) (.seq (.region 13 R25_13 false) (.cond (.tmp 51) (.seq (.region 14 R25_14 false) (.region 15 R25_15 false)) (.seq (.region 6 R25_6 false) (.region 7 R25_7 false)))))))))) (.region 5 R25_5 false))
theorem lpL25_0 : loops L25_0 = 0 := rfl
noncomputable def R25_16 : Array Oper := opsAt Tryz.f25 [1, 1, 1, 1, 0, 0, 0, 0, 0]
noncomputable def R25_17 : Array Oper := opsAt Tryz.f25 [1, 1, 1, 1, 0, 0, 0, 1, 0, 0]
noncomputable def R25_18 : Array Oper := opsAt Tryz.f25 [1, 1, 1, 1, 0, 0, 0, 1, 0, 1]
noncomputable def L25_1 : Code := .seq (.seq (.region 16 R25_16 false) (.cond (.tmp 64) .skip (.exit 3))) (.block 4 (.seq (.region 17 R25_17 false) (.region 18 R25_18 false)))
theorem lpL25_1 : loops L25_1 = 0 := rfl
noncomputable def R25_19 : Array Oper := opsAt Tryz.f25 [1, 1, 1, 1, 1, 0]
noncomputable def M25_1 : Code := .seq (.region 19 R25_19 false) .ret
theorem lpM25_1 : loops M25_1 = 0 := rfl
noncomputable def M25_0 : Code := .seq (.block 3 (.loop L25_1)) M25_1
theorem lpM25_0 : loops M25_0 = 1 := rfl
theorem code25 : Tryz.f25.body = some (.seq (.region 0 R25_0 false) (.seq (.region 1 R25_1 false) (.seq (.region 2 R25_2 false) (.seq (.seq (.region 3 R25_3 false) (.block 0 (.loop L25_0))) M25_0)))) := by kernel_rfl
noncomputable def R26_0 : Array Oper := opsAt Tryz.f26 [0]
noncomputable def R26_1 : Array Oper := opsAt Tryz.f26 [1, 0]
theorem code26 : Tryz.f26.body = some (.seq (.region 0 R26_0 false) (.seq (.region 1 R26_1 false) .ret)) := by kernel_rfl
noncomputable def R27_0 : Array Oper := opsAt Tryz.f27 [0]
noncomputable def R27_1 : Array Oper := opsAt Tryz.f27 [1, 0, 0]
noncomputable def R27_2 : Array Oper := opsAt Tryz.f27 [1, 0, 1, 0, 0]
noncomputable def R27_3 : Array Oper := opsAt Tryz.f27 [1, 1, 0]
noncomputable def R27_4 : Array Oper := opsAt Tryz.f27 [1, 1, 1, 0]
noncomputable def R27_5 : Array Oper := opsAt Tryz.f27 [1, 1, 1, 1, 0, 0]
noncomputable def R27_6 : Array Oper := opsAt Tryz.f27 [1, 1, 1, 1, 0, 1, 0, 0]
noncomputable def R27_7 : Array Oper := opsAt Tryz.f27 [1, 1, 1, 1, 0, 1, 0, 1, 0, 0]
noncomputable def R27_8 : Array Oper := opsAt Tryz.f27 [1, 1, 1, 1, 0, 1, 0, 1, 1, 0]
noncomputable def R27_9 : Array Oper := opsAt Tryz.f27 [1, 1, 1, 1, 0, 1, 0, 1, 1, 1, 0, 0]
noncomputable def R27_10 : Array Oper := opsAt Tryz.f27 [1, 1, 1, 1, 1, 0]
theorem code27 : Tryz.f27.body = some (.seq (.region 0 R27_0 false) (.seq (.seq (.region 1 R27_1 false) (.cond (.tmp 10) (.seq (.region 2 R27_2 false) .ret) .skip)) (.seq (.region 3 R27_3 false) (.seq (.region 4 R27_4 false) (.seq (.seq (.region 5 R27_5 false) (.block 0 (.seq (.region 6 R27_6 false) (.cond (.tmp 26) (.seq (.region 7 R27_7 true) .ret) (.seq (.region 8 R27_8 false) (.cond (.tmp 37) (.seq (.region 9 R27_9 true) .ret) .skip)))))) (.seq (.region 10 R27_10 true) .ret)))))) := by kernel_rfl
noncomputable def R28_0 : Array Oper := opsAt Tryz.f28 [0]
noncomputable def R28_1 : Array Oper := opsAt Tryz.f28 [1, 0]
noncomputable def R28_2 : Array Oper := opsAt Tryz.f28 [1, 1, 0, 0]
noncomputable def R28_3 : Array Oper := opsAt Tryz.f28 [1, 1, 0, 1, 0, 0]
noncomputable def R28_4 : Array Oper := opsAt Tryz.f28 [1, 1, 0, 1, 0, 1, 0]
noncomputable def R28_5 : Array Oper := opsAt Tryz.f28 [1, 1, 0, 1, 0, 1, 1, 0]
noncomputable def R28_6 : Array Oper := opsAt Tryz.f28 [1, 1, 0, 1, 0, 1, 1, 1, 0, 0]
noncomputable def R28_7 : Array Oper := opsAt Tryz.f28 [1, 1, 0, 1, 0, 1, 1, 1, 0, 1, 0]
noncomputable def R28_8 : Array Oper := opsAt Tryz.f28 [1, 1, 0, 1, 0, 1, 1, 1, 1, 0]
noncomputable def R28_9 : Array Oper := opsAt Tryz.f28 [1, 1, 0, 1, 0, 1, 1, 1, 1, 1, 0]
noncomputable def R28_10 : Array Oper := opsAt Tryz.f28 [1, 1, 1, 0]
theorem code28 : Tryz.f28.body = some (.seq (.region 0 R28_0 false) (.seq (.region 1 R28_1 false) (.seq (.seq (.region 2 R28_2 false) (.block 0 (.seq (.region 3 R28_3 false) (.cond (.tmp 8) (.region 4 R28_4 false) (.seq (.region 5 R28_5 false) (.cond (.tmp 18) (.seq (.region 6 R28_6 false) (.cond (.tmp 22) (.region 7 R28_7 false) .skip)) (.seq (.region 8 R28_8 false) (.cond (.tmp 35) (.region 9 R28_9 false) .skip)))))))) (.seq (.region 10 R28_10 false) .ret)))) := by kernel_rfl
noncomputable def R29_0 : Array Oper := opsAt Tryz.f29 [0]
noncomputable def R29_1 : Array Oper := opsAt Tryz.f29 [1, 0]
noncomputable def R29_2 : Array Oper := opsAt Tryz.f29 [1, 1, 0]
noncomputable def R29_3 : Array Oper := opsAt Tryz.f29 [1, 1, 1, 0, 0]
noncomputable def R29_4 : Array Oper := opsAt Tryz.f29 [1, 1, 1, 0, 1, 0, 0, 0, 0]
noncomputable def R29_6 : Array Oper := opsAt Tryz.f29 [1, 1, 1, 0, 1, 0, 0, 1, 0, 0]
noncomputable def R29_5 : Array Oper := opsAt Tryz.f29 [1, 1, 1, 0, 1, 0, 0, 1, 1]
noncomputable def L29_0 : Code := .seq (.seq (.region 4 R29_4 false) (.cond (.tmp 13) .skip (.exit 0))) (.seq (.block 1 (.region 6 R29_6 false)) (.region 5 R29_5 false))
theorem lpL29_0 : loops L29_0 = 0 := rfl
noncomputable def R29_7 : Array Oper := opsAt Tryz.f29 [1, 1, 1, 1, 0, 0]
noncomputable def R29_8 : Array Oper := opsAt Tryz.f29 [1, 1, 1, 1, 0, 1, 0]
noncomputable def R29_9 : Array Oper := opsAt Tryz.f29 [1, 1, 1, 1, 1, 0]
noncomputable def M29_0 : Code := .seq (.seq (.region 7 R29_7 false) (.cond (.tmp 23) (.region 8 R29_8 false) .skip)) (.seq (.region 9 R29_9 false) .ret)
theorem lpM29_0 : loops M29_0 = 0 := rfl
theorem code29 : Tryz.f29.body = some (.seq (.region 0 R29_0 false) (.seq (.region 1 R29_1 false) (.seq (.region 2 R29_2 false) (.seq (.seq (.region 3 R29_3 false) (.block 0 (.loop L29_0))) M29_0)))) := by kernel_rfl
noncomputable def R30_0 : Array Oper := opsAt Tryz.f30 [0]
noncomputable def R30_1 : Array Oper := opsAt Tryz.f30 [1, 0]
theorem code30 : Tryz.f30.body = some (.seq (.region 0 R30_0 false) (.seq (.region 1 R30_1 false) .ret)) := by kernel_rfl
noncomputable def R31_0 : Array Oper := opsAt Tryz.f31 [0]
noncomputable def R31_1 : Array Oper := opsAt Tryz.f31 [1, 0, 0]
noncomputable def R31_2 : Array Oper := opsAt Tryz.f31 [1, 0, 1, 0, 0, 0]
noncomputable def R31_3 : Array Oper := opsAt Tryz.f31 [1, 0, 1, 0, 0, 1, 1, 0, 0, 0]
noncomputable def R31_4 : Array Oper := opsAt Tryz.f31 [1, 0, 1, 0, 0, 1, 1, 0, 0, 1, 0]
noncomputable def R31_5 : Array Oper := opsAt Tryz.f31 [1, 0, 1, 0, 0, 1, 1, 0, 0, 1, 1, 0, 0]
noncomputable def R31_6 : Array Oper := opsAt Tryz.f31 [1, 0, 1, 0, 0, 1, 1, 1]
noncomputable def L31_0 : Code := .seq (.region 2 R31_2 false) (.seq (.cond (.tmp 8) .skip (.exit 0)) (.seq (.block 1 (.seq (.region 3 R31_3 false) (.seq (.region 4 R31_4 true) (.cond (.tmp 21) (.seq (.region 5 R31_5 false) .ret) .skip)))) (.region 6 R31_6 false)))
theorem lpL31_0 : loops L31_0 = 0 := rfl
noncomputable def R31_7 : Array Oper := opsAt Tryz.f31 [1, 1, 0]
noncomputable def M31_0 : Code := .seq (.region 7 R31_7 false) .ret
theorem lpM31_0 : loops M31_0 = 0 := rfl
theorem code31 : Tryz.f31.body = some (.seq (.region 0 R31_0 false) (.seq (.seq (.region 1 R31_1 false) (.block 0 (.loop L31_0))) M31_0)) := by kernel_rfl
noncomputable def R32_0 : Array Oper := opsAt Tryz.f32 [0]
noncomputable def R32_1 : Array Oper := opsAt Tryz.f32 [1, 0]
noncomputable def R32_2 : Array Oper := opsAt Tryz.f32 [1, 1, 0, 0]
noncomputable def R32_3 : Array Oper := opsAt Tryz.f32 [1, 1, 0, 1, 0, 0]
noncomputable def R32_4 : Array Oper := opsAt Tryz.f32 [1, 1, 0, 1, 0, 1, 0, 0, 0]
noncomputable def R32_5 : Array Oper := opsAt Tryz.f32 [1, 1, 0, 1, 0, 1, 0, 0, 1, 0, 0]
noncomputable def R32_6 : Array Oper := opsAt Tryz.f32 [1, 1, 0, 1, 0, 1, 0, 1, 0]
noncomputable def R32_7 : Array Oper := opsAt Tryz.f32 [1, 1, 0, 1, 0, 1, 1, 0]
noncomputable def R32_8 : Array Oper := opsAt Tryz.f32 [1, 1, 0, 1, 0, 1, 1, 1, 0, 0]
noncomputable def R32_9 : Array Oper := opsAt Tryz.f32 [1, 1, 0, 1, 0, 1, 1, 1, 1, 0]
noncomputable def R32_10 : Array Oper := opsAt Tryz.f32 [1, 1, 0, 1, 0, 1, 1, 1, 1, 1, 0, 0]
noncomputable def R32_11 : Array Oper := opsAt Tryz.f32 [1, 1, 1, 0]
noncomputable def R32_12 : Array Oper := opsAt Tryz.f32 [1, 1, 1, 1, 0]
theorem code32 : Tryz.f32.body = some (.seq (.region 0 R32_0 false) (.seq (.region 1 R32_1 false) (.seq (.seq (.region 2 R32_2 false) (.block 0 (.seq (.region 3 R32_3 false) (.cond (.tmp 14) (.seq (.seq (.region 4 R32_4 false) (.cond (.tmp 20) (.seq (.region 5 R32_5 false) .ret) .skip)) (.seq (.region 6 R32_6 false) .ret)) (.seq (.region 7 R32_7 false) (.cond (.tmp 28) (.seq (.region 8 R32_8 true) .ret) (.seq (.region 9 R32_9 false) (.cond (.tmp 41) (.seq (.region 10 R32_10 true) .ret) .skip)))))))) (.seq (.region 11 R32_11 false) (.seq (.region 12 R32_12 true) .ret))))) := by kernel_rfl
noncomputable def R33_0 : Array Oper := opsAt Tryz.f33 [0]
noncomputable def R33_1 : Array Oper := opsAt Tryz.f33 [1, 0, 0]
noncomputable def R33_2 : Array Oper := opsAt Tryz.f33 [1, 0, 1, 0, 0, 0, 0]
noncomputable def R33_4 : Array Oper := opsAt Tryz.f33 [1, 0, 1, 0, 0, 1, 0, 0, 0]
noncomputable def R33_5 : Array Oper := opsAt Tryz.f33 [1, 0, 1, 0, 0, 1, 0, 0, 1, 0, 0]
noncomputable def R33_3 : Array Oper := opsAt Tryz.f33 [1, 0, 1, 0, 0, 1, 1]
noncomputable def L33_0 : Code := .seq (.seq (.region 2 R33_2 false) (.cond (.tmp 7) .skip (.exit 0))) (.seq (.block 1 (.seq (.region 4 R33_4 true) (.cond (.tmp 18) (.seq (.region 5 R33_5 false) .ret) .skip))) (.region 3 R33_3 false))
theorem lpL33_0 : loops L33_0 = 0 := rfl
noncomputable def R33_6 : Array Oper := opsAt Tryz.f33 [1, 1, 0]
noncomputable def M33_0 : Code := .seq (.region 6 R33_6 false) .ret
theorem lpM33_0 : loops M33_0 = 0 := rfl
theorem code33 : Tryz.f33.body = some (.seq (.region 0 R33_0 false) (.seq (.seq (.region 1 R33_1 false) (.block 0 (.loop L33_0))) M33_0)) := by kernel_rfl
noncomputable def R34_0 : Array Oper := opsAt Tryz.f34 [0]
noncomputable def R34_1 : Array Oper := opsAt Tryz.f34 [1, 0]
noncomputable def R34_2 : Array Oper := opsAt Tryz.f34 [1, 1, 0, 0]
noncomputable def R34_3 : Array Oper := opsAt Tryz.f34 [1, 1, 0, 1, 0, 0]
noncomputable def R34_4 : Array Oper := opsAt Tryz.f34 [1, 1, 0, 1, 0, 1, 0, 0, 0]
noncomputable def R34_5 : Array Oper := opsAt Tryz.f34 [1, 1, 0, 1, 0, 1, 0, 0, 1, 0, 0]
noncomputable def R34_6 : Array Oper := opsAt Tryz.f34 [1, 1, 0, 1, 0, 1, 0, 1, 0]
noncomputable def R34_7 : Array Oper := opsAt Tryz.f34 [1, 1, 0, 1, 0, 1, 1, 0]
noncomputable def R34_8 : Array Oper := opsAt Tryz.f34 [1, 1, 0, 1, 0, 1, 1, 1, 0, 0]
noncomputable def R34_9 : Array Oper := opsAt Tryz.f34 [1, 1, 0, 1, 0, 1, 1, 1, 1, 0]
noncomputable def R34_10 : Array Oper := opsAt Tryz.f34 [1, 1, 0, 1, 0, 1, 1, 1, 1, 1, 0, 0]
noncomputable def R34_11 : Array Oper := opsAt Tryz.f34 [1, 1, 0, 1, 0, 1, 1, 1, 1, 1, 0, 1, 0, 0]
noncomputable def R34_12 : Array Oper := opsAt Tryz.f34 [1, 1, 0, 1, 0, 1, 1, 1, 1, 1, 0, 1, 0, 1, 0, 0]
noncomputable def R34_13 : Array Oper := opsAt Tryz.f34 [1, 1, 0, 1, 0, 1, 1, 1, 1, 1, 0, 1, 1, 0]
noncomputable def R34_14 : Array Oper := opsAt Tryz.f34 [1, 1, 1, 0]
noncomputable def R34_15 : Array Oper := opsAt Tryz.f34 [1, 1, 1, 1, 0]
noncomputable def R34_16 : Array Oper := opsAt Tryz.f34 [1, 1, 1, 1, 1, 0, 0]
noncomputable def R34_17 : Array Oper := opsAt Tryz.f34 [1, 1, 1, 1, 1, 0, 1, 0, 0]
noncomputable def R34_18 : Array Oper := opsAt Tryz.f34 [1, 1, 1, 1, 1, 1, 0]
theorem code34 : Tryz.f34.body = some (.seq (.region 0 R34_0 false) (.seq (.region 1 R34_1 false) (.seq (.seq (.region 2 R34_2 false) (.block 0 (.seq (.region 3 R34_3 false) (.cond (.tmp 21) (.seq (.seq (.region 4 R34_4 false) (.cond (.tmp 27) (.seq (.region 5 R34_5 false) .ret) .skip)) (.seq (.region 6 R34_6 false) .ret)) (.seq (.region 7 R34_7 false) (.cond (.tmp 35) (.seq (.region 8 R34_8 true) .ret) (.seq (.region 9 R34_9 false) (.cond (.tmp 48) (.seq (.region 10 R34_10 false) (.seq (.seq (.region 11 R34_11 false) (.cond (.tmp 59) (.seq (.region 12 R34_12 false) .ret) .skip)) (.seq (.region 13 R34_13 false) .ret))) .skip)))))))) (.seq (.region 14 R34_14 false) (.seq (.region 15 R34_15 false) (.seq (.seq (.region 16 R34_16 false) (.cond (.tmp 89) (.seq (.region 17 R34_17 false) .ret) .skip)) (.seq (.region 18 R34_18 false) .ret))))))) := by kernel_rfl
noncomputable def R35_0 : Array Oper := opsAt Tryz.f35 [0]
noncomputable def R35_1 : Array Oper := opsAt Tryz.f35 [1, 0, 0]
noncomputable def R35_2 : Array Oper := opsAt Tryz.f35 [1, 0, 1, 0, 0]
noncomputable def R35_3 : Array Oper := opsAt Tryz.f35 [1, 1, 0, 0]
noncomputable def R35_4 : Array Oper := opsAt Tryz.f35 [1, 1, 0, 1, 0, 0, 0, 0]
noncomputable def R35_6 : Array Oper := opsAt Tryz.f35 [1, 1, 0, 1, 0, 0, 1, 0, 0, 0]
noncomputable def R35_7 : Array Oper := opsAt Tryz.f35 [1, 1, 0, 1, 0, 0, 1, 0, 0, 1, 0, 0]
noncomputable def R35_5 : Array Oper := opsAt Tryz.f35 [1, 1, 0, 1, 0, 0, 1, 1]
noncomputable def L35_0 : Code := .seq (.seq (.region 4 R35_4 false) (.cond (.tmp 14) .skip (.exit 0))) (.seq (.block 1 (.seq (.region 6 R35_6 true) (.cond (.tmp 25) (.seq (.region 7 R35_7 false) .ret) .skip))) (.region 5 R35_5 false))
theorem lpL35_0 : loops L35_0 = 0 := rfl
noncomputable def R35_8 : Array Oper := opsAt Tryz.f35 [1, 1, 1, 0]
noncomputable def M35_0 : Code := .seq (.region 8 R35_8 false) .ret
theorem lpM35_0 : loops M35_0 = 0 := rfl
theorem code35 : Tryz.f35.body = some (.seq (.region 0 R35_0 false) (.seq (.seq (.region 1 R35_1 false) (.cond (.tmp 10) (.seq (.region 2 R35_2 false) .ret) .skip)) (.seq (.seq (.region 3 R35_3 false) (.block 0 (.loop L35_0))) M35_0))) := by kernel_rfl
noncomputable def R36_0 : Array Oper := opsAt Tryz.f36 [0]
noncomputable def R36_1 : Array Oper := opsAt Tryz.f36 [1, 0, 0]
noncomputable def R36_2 : Array Oper := opsAt Tryz.f36 [1, 0, 1, 0, 0]
noncomputable def R36_3 : Array Oper := opsAt Tryz.f36 [1, 1, 0]
theorem code36 : Tryz.f36.body = some (.seq (.region 0 R36_0 false) (.seq (.seq (.region 1 R36_1 false) (.cond (.tmp 4) (.seq (.region 2 R36_2 false) .ret) .skip)) (.seq (.region 3 R36_3 false) .ret))) := by kernel_rfl
noncomputable def R37_0 : Array Oper := opsAt Tryz.f37 [0]
noncomputable def R37_1 : Array Oper := opsAt Tryz.f37 [1, 0]
noncomputable def R37_2 : Array Oper := opsAt Tryz.f37 [1, 1, 0, 0]
noncomputable def R37_3 : Array Oper := opsAt Tryz.f37 [1, 1, 0, 1, 0, 0]
noncomputable def R37_4 : Array Oper := opsAt Tryz.f37 [1, 1, 1, 0]
noncomputable def R37_5 : Array Oper := opsAt Tryz.f37 [1, 1, 1, 1, 0, 0]
noncomputable def R37_6 : Array Oper := opsAt Tryz.f37 [1, 1, 1, 1, 0, 1, 0, 0, 0]
noncomputable def R37_7 : Array Oper := opsAt Tryz.f37 [1, 1, 1, 1, 0, 1, 0, 0, 1, 1, 0, 0, 0]
noncomputable def R37_8 : Array Oper := opsAt Tryz.f37 [1, 1, 1, 1, 0, 1, 0, 0, 1, 1, 0, 0, 1, 0]
noncomputable def R37_9 : Array Oper := opsAt Tryz.f37 [1, 1, 1, 1, 0, 1, 0, 0, 1, 1, 0, 0, 1, 1, 0, 0]
noncomputable def R37_10 : Array Oper := opsAt Tryz.f37 [1, 1, 1, 1, 0, 1, 0, 0, 1, 1, 1]
noncomputable def L37_0 : Code := .seq (.region 6 R37_6 false) (.seq (.cond (.tmp 26) .skip (.exit 0)) (.seq (.block 1 (.seq (.region 7 R37_7 false) (.seq (.region 8 R37_8 false) (.cond (.tmp 31) (.seq (.region 9 R37_9 false) .ret) .skip)))) (.region 10 R37_10 false)))
theorem lpL37_0 : loops L37_0 = 0 := rfl
noncomputable def R37_11 : Array Oper := opsAt Tryz.f37 [1, 1, 1, 1, 1, 0]
noncomputable def R37_12 : Array Oper := opsAt Tryz.f37 [1, 1, 1, 1, 1, 1, 0, 0]
noncomputable def R37_13 : Array Oper := opsAt Tryz.f37 [1, 1, 1, 1, 1, 1, 0, 1, 0, 0]
noncomputable def R37_14 : Array Oper := opsAt Tryz.f37 [1, 1, 1, 1, 1, 1, 0, 1, 0, 1, 0]
noncomputable def R37_15 : Array Oper := opsAt Tryz.f37 [1, 1, 1, 1, 1, 1, 0, 1, 0, 1, 1, 0]
noncomputable def R37_16 : Array Oper := opsAt Tryz.f37 [1, 1, 1, 1, 1, 1, 0, 1, 0, 1, 1, 1, 0]
noncomputable def R37_17 : Array Oper := opsAt Tryz.f37 [1, 1, 1, 1, 1, 1, 0, 1, 0, 1, 1, 1, 1, 0]
noncomputable def R37_18 : Array Oper := opsAt Tryz.f37 [1, 1, 1, 1, 1, 1, 0, 1, 0, 1, 1, 1, 1, 1, 0]
noncomputable def R37_19 : Array Oper := opsAt Tryz.f37 [1, 1, 1, 1, 1, 1, 0, 1, 0, 1, 1, 1, 1, 1, 1, 0]
noncomputable def R37_20 : Array Oper := opsAt Tryz.f37 [1, 1, 1, 1, 1, 1, 0, 1, 0, 1, 1, 1, 1, 1, 1, 1, 0]
noncomputable def R37_21 : Array Oper := opsAt Tryz.f37 [1, 1, 1, 1, 1, 1, 0, 1, 0, 1, 1, 1, 1, 1, 1, 1, 1, 0]
noncomputable def R37_22 : Array Oper := opsAt Tryz.f37 [1, 1, 1, 1, 1, 1, 0, 1, 0, 1, 1, 1, 1, 1, 1, 1, 1, 1, 0, 0]
noncomputable def R37_23 : Array Oper := opsAt Tryz.f37 [1, 1, 1, 1, 1, 1, 0, 1, 0, 1, 1, 1, 1, 1, 1, 1, 1, 1, 0, 1, 0]
noncomputable def R37_24 : Array Oper := opsAt Tryz.f37 [1, 1, 1, 1, 1, 1, 1, 0]
noncomputable def M37_0 : Code := .seq (.region 11 R37_11 true) (.seq (.seq (.region 12 R37_12 false) (.block 2 (.seq (.region 13 R37_13 false) (.cond (.tmp 45) (.region 14 R37_14 false) (.seq (.region 15 R37_15 false) (.cond (.tmp 50) (.region 16 R37_16 false) (.seq (.region 17 R37_17 false) (.cond (.tmp 55) (.region 18 R37_18 false) (.seq (.region 19 R37_19 false) (.cond (.tmp 60) (.region 20 R37_20 false) (.seq (.region 21 R37_21 false) (.cond (.tmp 65) (.seq (.region 22 R37_22 false) (.cond (.tmp 70) (.region 23 R37_23 false) .skip)) .skip)))))))))))) (.seq (.region 24 R37_24 false) .ret))
theorem lpM37_0 : loops M37_0 = 0 := rfl
theorem code37 : Tryz.f37.body = some (.seq (.region 0 R37_0 false) (.seq (.region 1 R37_1 false) (.seq (.seq (.region 2 R37_2 false) (.cond (.tmp 16) (.seq (.region 3 R37_3 false) .ret) .skip)) (.seq (.region 4 R37_4 false) (.seq (.seq (.region 5 R37_5 false) (.block 0 (.loop L37_0))) M37_0))))) := by kernel_rfl
noncomputable def R39_0 : Array Oper := opsAt Tryz.f39 [0]
noncomputable def R39_1 : Array Oper := opsAt Tryz.f39 [1, 0]
noncomputable def R39_2 : Array Oper := opsAt Tryz.f39 [1, 1, 0, 0, 0]
noncomputable def R39_3 : Array Oper := opsAt Tryz.f39 [1, 1, 0, 0, 1, 0, 0, 0]
noncomputable def R39_4 : Array Oper := opsAt Tryz.f39 [1, 1, 0, 0, 1, 0, 0, 1, 0, 0]
noncomputable def R39_5 : Array Oper := opsAt Tryz.f39 [1, 1, 0, 0, 1, 0, 1, 0]
noncomputable def R39_6 : Array Oper := opsAt Tryz.f39 [1, 1, 0, 0, 1, 1, 0]
noncomputable def R39_7 : Array Oper := opsAt Tryz.f39 [1, 1, 0, 0, 1, 1, 1, 0, 0]
noncomputable def R39_8 : Array Oper := opsAt Tryz.f39 [1, 1, 0, 0, 1, 1, 1, 0, 1, 0]
noncomputable def R39_9 : Array Oper := opsAt Tryz.f39 [1, 1, 0, 0, 1, 1, 1, 0, 1, 1, 0, 0]
noncomputable def R39_10 : Array Oper := opsAt Tryz.f39 [1, 1, 1, 0]
theorem code39 : Tryz.f39.body = some (.seq (.region 0 R39_0 false) (.seq (.region 1 R39_1 false) (.seq (.block 0 (.seq (.region 2 R39_2 false) (.cond (.tmp 12) (.seq (.seq (.region 3 R39_3 true) (.cond (.tmp 32) (.seq (.region 4 R39_4 false) .ret) .skip)) (.seq (.region 5 R39_5 false) .ret)) (.seq (.region 6 R39_6 false) (.cond (.tmp 33) (.seq (.region 7 R39_7 true) (.seq (.region 8 R39_8 false) (.cond (.tmp 71) (.seq (.region 9 R39_9 false) .ret) .skip))) .skip))))) (.seq (.region 10 R39_10 false) .ret)))) := by kernel_rfl
noncomputable def R41_0 : Array Oper := opsAt Tryz.f41 [0]
noncomputable def R41_1 : Array Oper := opsAt Tryz.f41 [1, 0]
theorem code41 : Tryz.f41.body = some (.seq (.region 0 R41_0 false) (.seq (.region 1 R41_1 false) .ret)) := by kernel_rfl
noncomputable def R42_0 : Array Oper := opsAt Tryz.f42 [0, 0]
noncomputable def R42_1 : Array Oper := opsAt Tryz.f42 [0, 1, 0, 0]
noncomputable def R42_3 : Array Oper := opsAt Tryz.f42 [1, 0, 0]
noncomputable def R42_4 : Array Oper := opsAt Tryz.f42 [1, 0, 1, 0]
noncomputable def R42_5 : Array Oper := opsAt Tryz.f42 [1, 0, 1, 1, 0]
noncomputable def R42_6 : Array Oper := opsAt Tryz.f42 [1, 0, 1, 1, 1, 0]
noncomputable def R42_7 : Array Oper := opsAt Tryz.f42 [1, 0, 1, 1, 1, 1, 0]
noncomputable def R42_8 : Array Oper := opsAt Tryz.f42 [1, 0, 1, 1, 1, 1, 1, 0, 0]
noncomputable def R42_9 : Array Oper := opsAt Tryz.f42 [1, 0, 1, 1, 1, 1, 1, 0, 1, 0]
noncomputable def R42_10 : Array Oper := opsAt Tryz.f42 [1, 0, 1, 1, 1, 1, 1, 0, 1, 1, 0]
noncomputable def R42_11 : Array Oper := opsAt Tryz.f42 [1, 0, 1, 1, 1, 1, 1, 0, 1, 1, 1]
noncomputable def R42_12 : Array Oper := opsAt Tryz.f42 [1, 0, 1, 1, 1, 1, 1, 1, 0]
noncomputable def R42_13 : Array Oper := opsAt Tryz.f42 [1, 0, 1, 1, 1, 1, 1, 1, 1, 0, 0]
noncomputable def R42_14 : Array Oper := opsAt Tryz.f42 [1, 0, 1, 1, 1, 1, 1, 1, 1, 0, 1]
noncomputable def R42_15 : Array Oper := opsAt Tryz.f42 [1, 0, 1, 1, 1, 1, 1, 1, 1, 1, 0]
noncomputable def R42_16 : Array Oper := opsAt Tryz.f42 [1, 0, 1, 1, 1, 1, 1, 1, 1, 1, 1, 0, 0]
noncomputable def R42_17 : Array Oper := opsAt Tryz.f42 [1, 0, 1, 1, 1, 1, 1, 1, 1, 1, 1, 0, 1]
noncomputable def R42_2 : Array Oper := opsAt Tryz.f42 [1, 0, 1, 1, 1, 1, 1, 1, 1, 1, 1, 1]
theorem code42 : Tryz.f42.body = some (.seq (.seq (.region 0 R42_0 false) (.cond (.tmp 12) (.seq (.region 1 R42_1 false) .ret) .skip)) (.block 0 (.seq (.region 3 R42_3 false) (.cond (.tmp 28) (.region 4 R42_4 false) (.seq (.region 5 R42_5 false) (.cond (.tmp 33) (.region 6 R42_6 false) (.seq (.region 7 R42_7 false) (.cond (.tmp 38) (.seq (.region 8 R42_8 false) (.seq (.region 9 R42_9 false) (.seq (.region 10 R42_10 true) (.region 11 R42_11 false)))) (.seq (.region 12 R42_12 false) (.cond (.tmp 59) (.seq (.region 13 R42_13 false) (.region 14 R42_14 false)) (.seq (.region 15 R42_15 false) (.cond (.tmp 66) (.seq (.region 16 R42_16 true) (.region 17 R42_17 false)) (.region 2 R42_2 true))))))))))))) := by kernel_rfl
noncomputable def R43_0 : Array Oper := opsAt Tryz.f43 [0]
noncomputable def R43_1 : Array Oper := opsAt Tryz.f43 [1, 0]
noncomputable def R43_2 : Array Oper := opsAt Tryz.f43 [1, 1, 0]
noncomputable def R43_3 : Array Oper := opsAt Tryz.f43 [1, 1, 1, 0]
theorem code43 : Tryz.f43.body = some (.seq (.region 0 R43_0 false) (.seq (.region 1 R43_1 false) (.seq (.region 2 R43_2 false) (.seq (.region 3 R43_3 false) .ret)))) := by kernel_rfl
noncomputable def R44_0 : Array Oper := opsAt Tryz.f44 [0]
noncomputable def R44_1 : Array Oper := opsAt Tryz.f44 [1, 0, 0, 0, 0]
noncomputable def R44_2 : Array Oper := opsAt Tryz.f44 [1, 0, 0, 0, 1, 1]
noncomputable def R44_3 : Array Oper := opsAt Tryz.f44 [1, 0, 0, 1, 0, 0]
noncomputable def R44_4 : Array Oper := opsAt Tryz.f44 [1, 0, 0, 1, 1, 0]
noncomputable def R44_5 : Array Oper := opsAt Tryz.f44 [1, 0, 0, 1, 1, 1, 0, 0]
noncomputable def R44_6 : Array Oper := opsAt Tryz.f44 [1, 0, 0, 1, 1, 1, 1, 0]
noncomputable def R44_7 : Array Oper := opsAt Tryz.f44 [1, 0, 0, 1, 1, 1, 1, 1, 0, 0]
noncomputable def R44_8 : Array Oper := opsAt Tryz.f44 [1, 1, 0]
theorem code44 : Tryz.f44.body = some (.seq (.region 0 R44_0 false) (.seq (.block 0 (.seq (.seq (.region 1 R44_1 false) (.cond (.tmp 3) .skip (.region 2 R44_2 false))) (.cond (.tmp 3) (.seq (.region 3 R44_3 false) .ret) (.seq (.region 4 R44_4 false) (.cond (.tmp 20) (.seq (.region 5 R44_5 false) .ret) (.seq (.region 6 R44_6 false) (.cond (.tmp 29) (.seq (.region 7 R44_7 false) .ret) .skip))))))) (.seq (.region 8 R44_8 false) .ret))) := by kernel_rfl
noncomputable def R45_0 : Array Oper := opsAt Tryz.f45 [0]
noncomputable def R45_1 : Array Oper := opsAt Tryz.f45 [1, 0, 0]
noncomputable def R45_2 : Array Oper := opsAt Tryz.f45 [1, 0, 1, 0, 0]
noncomputable def R45_3 : Array Oper := opsAt Tryz.f45 [1, 1, 0, 0]
noncomputable def R45_4 : Array Oper := opsAt Tryz.f45 [1, 1, 0, 1, 0, 0]
noncomputable def R45_5 : Array Oper := opsAt Tryz.f45 [1, 1, 1, 0]
theorem code45 : Tryz.f45.body = some (.seq (.region 0 R45_0 false) (.seq (.seq (.region 1 R45_1 false) (.cond (.tmp 4) (.seq (.region 2 R45_2 false) .ret) .skip)) (.seq (.seq (.region 3 R45_3 false) (.cond (.tmp 10) (.seq (.region 4 R45_4 false) .ret) .skip)) (.seq (.region 5 R45_5 true) .ret)))) := by kernel_rfl
noncomputable def R46_0 : Array Oper := opsAt Tryz.f46 [0]
noncomputable def R46_1 : Array Oper := opsAt Tryz.f46 [1, 0, 0]
noncomputable def R46_2 : Array Oper := opsAt Tryz.f46 [1, 0, 1, 0, 0]
noncomputable def R46_3 : Array Oper := opsAt Tryz.f46 [1, 0, 1, 0, 1, 0, 0]
noncomputable def R46_4 : Array Oper := opsAt Tryz.f46 [1, 0, 1, 0, 1, 1, 0]
noncomputable def R46_5 : Array Oper := opsAt Tryz.f46 [1, 0, 1, 0, 1, 1, 1, 0, 0]
noncomputable def R46_6 : Array Oper := opsAt Tryz.f46 [1, 1, 0]
theorem code46 : Tryz.f46.body = some (.seq (.region 0 R46_0 false) (.seq (.seq (.region 1 R46_1 false) (.block 0 (.seq (.region 2 R46_2 false) (.cond (.tmp 10) (.seq (.region 3 R46_3 false) .ret) (.seq (.region 4 R46_4 false) (.cond (.tmp 13) (.seq (.region 5 R46_5 false) .ret) .skip)))))) (.seq (.region 6 R46_6 false) .ret))) := by kernel_rfl
noncomputable def R47_0 : Array Oper := opsAt Tryz.f47 [0]
noncomputable def R47_1 : Array Oper := opsAt Tryz.f47 [1, 0]
theorem code47 : Tryz.f47.body = some (.seq (.region 0 R47_0 false) (.seq (.region 1 R47_1 false) .ret)) := by kernel_rfl
noncomputable def R48_0 : Array Oper := opsAt Tryz.f48 [0]
noncomputable def R48_1 : Array Oper := opsAt Tryz.f48 [1, 0, 0]
noncomputable def R48_2 : Array Oper := opsAt Tryz.f48 [1, 0, 1, 0, 0]
noncomputable def R48_3 : Array Oper := opsAt Tryz.f48 [1, 1, 0]
noncomputable def R48_4 : Array Oper := opsAt Tryz.f48 [1, 1, 1, 0, 0]
noncomputable def R48_5 : Array Oper := opsAt Tryz.f48 [1, 1, 1, 0, 1, 0]
noncomputable def R48_6 : Array Oper := opsAt Tryz.f48 [1, 1, 1, 1, 0]
theorem code48 : Tryz.f48.body = some (.seq (.region 0 R48_0 false) (.seq (.seq (.region 1 R48_1 false) (.cond (.tmp 7) (.seq (.region 2 R48_2 false) .ret) .skip)) (.seq (.region 3 R48_3 false) (.seq (.seq (.region 4 R48_4 false) (.cond (.tmp 11) (.region 5 R48_5 false) .skip)) (.seq (.region 6 R48_6 false) .ret))))) := by kernel_rfl
noncomputable def R49_0 : Array Oper := opsAt Tryz.f49 [0]
noncomputable def R49_1 : Array Oper := opsAt Tryz.f49 [1, 0]
theorem code49 : Tryz.f49.body = some (.seq (.region 0 R49_0 false) (.seq (.region 1 R49_1 false) .ret)) := by kernel_rfl
noncomputable def R50_0 : Array Oper := opsAt Tryz.f50 [0]
noncomputable def R50_1 : Array Oper := opsAt Tryz.f50 [1, 0]
noncomputable def R50_2 : Array Oper := opsAt Tryz.f50 [1, 1, 0]
noncomputable def R50_3 : Array Oper := opsAt Tryz.f50 [1, 1, 1, 0, 0]
noncomputable def R50_4 : Array Oper := opsAt Tryz.f50 [1, 1, 1, 0, 1, 0, 0, 0, 0]
noncomputable def R50_6 : Array Oper := opsAt Tryz.f50 [1, 1, 1, 0, 1, 0, 0, 1, 0, 0, 0]
noncomputable def R50_7 : Array Oper := opsAt Tryz.f50 [1, 1, 1, 0, 1, 0, 0, 1, 0, 0, 1, 0, 0]
noncomputable def R50_8 : Array Oper := opsAt Tryz.f50 [1, 1, 1, 0, 1, 0, 0, 1, 0, 0, 1, 0, 1, 0]
noncomputable def R50_9 : Array Oper := opsAt Tryz.f50 [1, 1, 1, 0, 1, 0, 0, 1, 0, 0, 1, 1]
noncomputable def R50_5 : Array Oper := opsAt Tryz.f50 [1, 1, 1, 0, 1, 0, 0, 1, 1]
noncomputable def L50_0 : Code := .seq (.seq (.region 4 R50_4 false) (.cond (.tmp 23) .skip (.exit 0))) (.seq (.block 1 (.seq (.region 6 R50_6 false) (.seq (.seq (.region 7 R50_7 false) (.cond (.tmp 31) (.region 8 R50_8 false) .skip)) (.region 9 R50_9 false)))) (.region 5 R50_5 false))
theorem lpL50_0 : loops L50_0 = 0 := rfl
noncomputable def R50_10 : Array Oper := opsAt Tryz.f50 [1, 1, 1, 1, 0, 0]
noncomputable def R50_11 : Array Oper := opsAt Tryz.f50 [1, 1, 1, 1, 0, 1, 0]
noncomputable def R50_12 : Array Oper := opsAt Tryz.f50 [1, 1, 1, 1, 1, 0, 0]
noncomputable def R50_13 : Array Oper := opsAt Tryz.f50 [1, 1, 1, 1, 1, 0, 1, 0]
noncomputable def R50_14 : Array Oper := opsAt Tryz.f50 [1, 1, 1, 1, 1, 1, 0]
noncomputable def M50_0 : Code := .seq (.seq (.region 10 R50_10 false) (.cond (.tmp 39) (.region 11 R50_11 true) .skip)) (.seq (.seq (.region 12 R50_12 false) (.cond (.tmp 52) (.region 13 R50_13 false) .skip)) (.seq (.region 14 R50_14 false) .ret))
theorem lpM50_0 : loops M50_0 = 0 := rfl
theorem code50 : Tryz.f50.body = some (.seq (.region 0 R50_0 false) (.seq (.region 1 R50_1 false) (.seq (.region 2 R50_2 false) (.seq (.seq (.region 3 R50_3 false) (.block 0 (.loop L50_0))) M50_0)))) := by kernel_rfl
noncomputable def R51_0 : Array Oper := opsAt Tryz.f51 [0]
noncomputable def R51_1 : Array Oper := opsAt Tryz.f51 [1, 0]
noncomputable def R51_2 : Array Oper := opsAt Tryz.f51 [1, 1, 0, 0]
noncomputable def R51_3 : Array Oper := opsAt Tryz.f51 [1, 1, 0, 1, 0, 0, 0, 0]
noncomputable def R51_5 : Array Oper := opsAt Tryz.f51 [1, 1, 0, 1, 0, 0, 1, 0, 0, 0]
noncomputable def R51_6 : Array Oper := opsAt Tryz.f51 [1, 1, 0, 1, 0, 0, 1, 0, 0, 1, 0, 0]
noncomputable def R51_7 : Array Oper := opsAt Tryz.f51 [1, 1, 0, 1, 0, 0, 1, 0, 0, 1, 0, 1, 0]
noncomputable def R51_8 : Array Oper := opsAt Tryz.f51 [1, 1, 0, 1, 0, 0, 1, 0, 0, 1, 0, 1, 1, 0]
noncomputable def R51_9 : Array Oper := opsAt Tryz.f51 [1, 1, 0, 1, 0, 0, 1, 0, 0, 1, 0, 1, 1, 1, 0, 0]
noncomputable def R51_10 : Array Oper := opsAt Tryz.f51 [1, 1, 0, 1, 0, 0, 1, 0, 0, 1, 0, 1, 1, 1, 0, 1, 0]
noncomputable def R51_4 : Array Oper := opsAt Tryz.f51 [1, 1, 0, 1, 0, 0, 1, 1]
noncomputable def L51_0 : Code := .seq (.seq (.region 3 R51_3 false) (.cond (.tmp 13) .skip (.exit 0))) (.seq (.block 1 (.seq (.region 5 R51_5 false) (.block 2 (.seq (.region 6 R51_6 false) (.cond (.tmp 18) (.region 7 R51_7 true) (.seq (.region 8 R51_8 false) (.cond (.tmp 26) (.seq (.region 9 R51_9 false) (.cond (.tmp 29) (.region 10 R51_10 false) .skip)) .skip))))))) (.region 4 R51_4 false))
theorem lpL51_0 : loops L51_0 = 0 := rfl
noncomputable def R51_11 : Array Oper := opsAt Tryz.f51 [1, 1, 1, 0, 0]
noncomputable def R51_12 : Array Oper := opsAt Tryz.f51 [1, 1, 1, 0, 1, 0]
noncomputable def R51_13 : Array Oper := opsAt Tryz.f51 [1, 1, 1, 1, 0]
noncomputable def M51_0 : Code := .seq (.seq (.region 11 R51_11 false) (.cond (.tmp 35) (.region 12 R51_12 false) .skip)) (.seq (.region 13 R51_13 false) .ret)
theorem lpM51_0 : loops M51_0 = 0 := rfl
theorem code51 : Tryz.f51.body = some (.seq (.region 0 R51_0 false) (.seq (.region 1 R51_1 false) (.seq (.seq (.region 2 R51_2 false) (.block 0 (.loop L51_0))) M51_0))) := by kernel_rfl
noncomputable def R52_0 : Array Oper := opsAt Tryz.f52 [0]
noncomputable def R52_1 : Array Oper := opsAt Tryz.f52 [1, 0]
noncomputable def R52_2 : Array Oper := opsAt Tryz.f52 [1, 1, 0, 0]
noncomputable def R52_3 : Array Oper := opsAt Tryz.f52 [1, 1, 0, 1, 0, 0]
noncomputable def R52_4 : Array Oper := opsAt Tryz.f52 [1, 1, 0, 1, 0, 1, 0]
noncomputable def R52_5 : Array Oper := opsAt Tryz.f52 [1, 1, 0, 1, 0, 1, 1, 0]
noncomputable def R52_6 : Array Oper := opsAt Tryz.f52 [1, 1, 0, 1, 0, 1, 1, 1, 0]
noncomputable def R52_7 : Array Oper := opsAt Tryz.f52 [1, 1, 0, 1, 0, 1, 1, 1, 1, 0]
noncomputable def R52_8 : Array Oper := opsAt Tryz.f52 [1, 1, 0, 1, 0, 1, 1, 1, 1, 1, 0]
noncomputable def R52_9 : Array Oper := opsAt Tryz.f52 [1, 1, 1, 0]
theorem code52 : Tryz.f52.body = some (.seq (.region 0 R52_0 false) (.seq (.region 1 R52_1 false) (.seq (.seq (.region 2 R52_2 false) (.block 0 (.seq (.region 3 R52_3 false) (.cond (.tmp 8) (.region 4 R52_4 false) (.seq (.region 5 R52_5 false) (.cond (.tmp 16) (.region 6 R52_6 true) (.seq (.region 7 R52_7 false) (.cond (.tmp 29) (.region 8 R52_8 false) .skip)))))))) (.seq (.region 9 R52_9 false) .ret)))) := by kernel_rfl
noncomputable def R53_0 : Array Oper := opsAt Tryz.f53 [0]
noncomputable def R53_1 : Array Oper := opsAt Tryz.f53 [1, 0]
theorem code53 : Tryz.f53.body = some (.seq (.region 0 R53_0 false) (.seq (.region 1 R53_1 false) .ret)) := by kernel_rfl
noncomputable def R54_0 : Array Oper := opsAt Tryz.f54 [0]
noncomputable def R54_1 : Array Oper := opsAt Tryz.f54 [1, 0]
theorem code54 : Tryz.f54.body = some (.seq (.region 0 R54_0 false) (.seq (.region 1 R54_1 false) .ret)) := by kernel_rfl
noncomputable def R55_0 : Array Oper := opsAt Tryz.f55 [0]
noncomputable def R55_1 : Array Oper := opsAt Tryz.f55 [1, 0]
theorem code55 : Tryz.f55.body = some (.seq (.region 0 R55_0 false) (.seq (.region 1 R55_1 true) .ret)) := by kernel_rfl
noncomputable def R56_0 : Array Oper := opsAt Tryz.f56 [0]
noncomputable def R56_1 : Array Oper := opsAt Tryz.f56 [1, 0]
theorem code56 : Tryz.f56.body = some (.seq (.region 0 R56_0 false) (.seq (.region 1 R56_1 false) .ret)) := by kernel_rfl
noncomputable def R57_0 : Array Oper := opsAt Tryz.f57 [0]
noncomputable def R57_1 : Array Oper := opsAt Tryz.f57 [1, 0]
theorem code57 : Tryz.f57.body = some (.seq (.region 0 R57_0 false) (.seq (.region 1 R57_1 false) .ret)) := by kernel_rfl
noncomputable def R58_0 : Array Oper := opsAt Tryz.f58 [0]
noncomputable def R58_1 : Array Oper := opsAt Tryz.f58 [1, 0, 0]
noncomputable def R58_2 : Array Oper := opsAt Tryz.f58 [1, 0, 1, 0, 0]
noncomputable def R58_3 : Array Oper := opsAt Tryz.f58 [1, 1, 0]
theorem code58 : Tryz.f58.body = some (.seq (.region 0 R58_0 false) (.seq (.seq (.region 1 R58_1 false) (.cond (.tmp 10) (.seq (.region 2 R58_2 false) .ret) .skip)) (.seq (.region 3 R58_3 false) .ret))) := by kernel_rfl
noncomputable def R59_0 : Array Oper := opsAt Tryz.f59 [0]
noncomputable def R59_1 : Array Oper := opsAt Tryz.f59 [1, 0]
theorem code59 : Tryz.f59.body = some (.seq (.region 0 R59_0 false) (.seq (.region 1 R59_1 false) .ret)) := by kernel_rfl
noncomputable def R60_0 : Array Oper := opsAt Tryz.f60 [0]
noncomputable def R60_1 : Array Oper := opsAt Tryz.f60 [1, 0]
theorem code60 : Tryz.f60.body = some (.seq (.region 0 R60_0 false) (.seq (.region 1 R60_1 false) .ret)) := by kernel_rfl
noncomputable def R61_0 : Array Oper := opsAt Tryz.f61 [0]
noncomputable def R61_1 : Array Oper := opsAt Tryz.f61 [1, 0]
theorem code61 : Tryz.f61.body = some (.seq (.region 0 R61_0 false) (.seq (.region 1 R61_1 true) .ret)) := by kernel_rfl
noncomputable def R62_0 : Array Oper := opsAt Tryz.f62 [0]
noncomputable def R62_1 : Array Oper := opsAt Tryz.f62 [1, 0]
noncomputable def R62_2 : Array Oper := opsAt Tryz.f62 [1, 1, 0, 0]
noncomputable def R62_3 : Array Oper := opsAt Tryz.f62 [1, 1, 0, 1, 0, 0, 0, 0]
noncomputable def R62_5 : Array Oper := opsAt Tryz.f62 [1, 1, 0, 1, 0, 0, 1, 0, 0]
noncomputable def R62_4 : Array Oper := opsAt Tryz.f62 [1, 1, 0, 1, 0, 0, 1, 1]
noncomputable def L62_0 : Code := .seq (.seq (.region 3 R62_3 false) (.cond (.tmp 16) .skip (.exit 0))) (.seq (.block 1 (.region 5 R62_5 false)) (.region 4 R62_4 false))
theorem lpL62_0 : loops L62_0 = 0 := rfl
noncomputable def R62_6 : Array Oper := opsAt Tryz.f62 [1, 1, 1, 0]
noncomputable def M62_0 : Code := .seq (.region 6 R62_6 false) .ret
theorem lpM62_0 : loops M62_0 = 0 := rfl
theorem code62 : Tryz.f62.body = some (.seq (.region 0 R62_0 false) (.seq (.region 1 R62_1 false) (.seq (.seq (.region 2 R62_2 false) (.block 0 (.loop L62_0))) M62_0))) := by kernel_rfl
noncomputable def R63_0 : Array Oper := opsAt Tryz.f63 [0]
noncomputable def R63_1 : Array Oper := opsAt Tryz.f63 [1, 0]
noncomputable def R63_2 : Array Oper := opsAt Tryz.f63 [1, 1, 0, 0]
noncomputable def R63_3 : Array Oper := opsAt Tryz.f63 [1, 1, 0, 1, 0, 0, 0, 0]
noncomputable def R63_6 : Array Oper := opsAt Tryz.f63 [1, 1, 0, 1, 0, 0, 1, 0, 0, 0, 0]
noncomputable def R63_7 : Array Oper := opsAt Tryz.f63 [1, 1, 0, 1, 0, 0, 1, 0, 0, 0, 1, 1, 0]
noncomputable def R63_8 : Array Oper := opsAt Tryz.f63 [1, 1, 0, 1, 0, 0, 1, 0, 0, 0, 1, 1, 1, 0]
noncomputable def R63_5 : Array Oper := opsAt Tryz.f63 [1, 1, 0, 1, 0, 0, 1, 0, 0, 0, 1, 1, 1, 1]
noncomputable def R63_4 : Array Oper := opsAt Tryz.f63 [1, 1, 0, 1, 0, 0, 1, 1]
noncomputable def L63_0 : Code := .seq (.seq (.region 3 R63_3 false) (.cond (.tmp 13) .skip (.exit 0))) (.seq (.block 1 (.block 2 (.seq (.region 6 R63_6 false) (.cond (.tmp 20) .skip (.seq (.region 7 R63_7 false) (.cond (.tmp 27) (.region 8 R63_8 false) (.region 5 R63_5 false))))))) (.region 4 R63_4 false))
theorem lpL63_0 : loops L63_0 = 0 := rfl
noncomputable def R63_9 : Array Oper := opsAt Tryz.f63 [1, 1, 1, 0]
noncomputable def M63_0 : Code := .seq (.region 9 R63_9 false) .ret
theorem lpM63_0 : loops M63_0 = 0 := rfl
theorem code63 : Tryz.f63.body = some (.seq (.region 0 R63_0 false) (.seq (.region 1 R63_1 false) (.seq (.seq (.region 2 R63_2 false) (.block 0 (.loop L63_0))) M63_0))) := by kernel_rfl
noncomputable def R64_0 : Array Oper := opsAt Tryz.f64 [0]
noncomputable def R64_1 : Array Oper := opsAt Tryz.f64 [1, 0]
noncomputable def R64_2 : Array Oper := opsAt Tryz.f64 [1, 1, 0]
noncomputable def R64_3 : Array Oper := opsAt Tryz.f64 [1, 1, 1, 0, 0]
noncomputable def R64_4 : Array Oper := opsAt Tryz.f64 [1, 1, 1, 0, 1, 0, 0, 0, 0]
noncomputable def R64_6 : Array Oper := opsAt Tryz.f64 [1, 1, 1, 0, 1, 0, 0, 1, 0, 0, 0, 0]
noncomputable def R64_7 : Array Oper := opsAt Tryz.f64 [1, 1, 1, 0, 1, 0, 0, 1, 0, 0, 0, 1, 0, 0]
noncomputable def R64_8 : Array Oper := opsAt Tryz.f64 [1, 1, 1, 0, 1, 0, 0, 1, 0, 0, 1, 0]
noncomputable def R64_9 : Array Oper := opsAt Tryz.f64 [1, 1, 1, 0, 1, 0, 0, 1, 0, 0, 1, 1]
noncomputable def R64_5 : Array Oper := opsAt Tryz.f64 [1, 1, 1, 0, 1, 0, 0, 1, 1]
noncomputable def L64_0 : Code := .seq (.seq (.region 4 R64_4 false) (.cond (.tmp 17) .skip (.exit 0))) (.seq (.block 1 (.seq (.seq (.region 6 R64_6 false) (.cond (.tmp 33) (.seq (.region 7 R64_7 false) (.exit 1)) .skip)) (.seq (.region 8 R64_8 true) (.region 9 R64_9 false)))) (.region 5 R64_5 false))
theorem lpL64_0 : loops L64_0 = 0 := rfl
noncomputable def R64_10 : Array Oper := opsAt Tryz.f64 [1, 1, 1, 1, 0]
noncomputable def M64_0 : Code := .seq (.region 10 R64_10 false) .ret
theorem lpM64_0 : loops M64_0 = 0 := rfl
theorem code64 : Tryz.f64.body = some (.seq (.region 0 R64_0 false) (.seq (.region 1 R64_1 false) (.seq (.region 2 R64_2 false) (.seq (.seq (.region 3 R64_3 false) (.block 0 (.loop L64_0))) M64_0)))) := by kernel_rfl
noncomputable def R69_0 : Array Oper := opsAt Tryz.f69 [0]
noncomputable def R69_1 : Array Oper := opsAt Tryz.f69 [1, 0]
theorem code69 : Tryz.f69.body = some (.seq (.region 0 R69_0 false) (.seq (.region 1 R69_1 false) .ret)) := by kernel_rfl
noncomputable def R70_0 : Array Oper := opsAt Tryz.f70 [0]
noncomputable def R70_1 : Array Oper := opsAt Tryz.f70 [1, 0, 0]
noncomputable def R70_2 : Array Oper := opsAt Tryz.f70 [1, 0, 1, 0, 0]
noncomputable def R70_3 : Array Oper := opsAt Tryz.f70 [1, 0, 1, 0, 1, 0, 0]
noncomputable def R70_4 : Array Oper := opsAt Tryz.f70 [1, 0, 1, 0, 1, 1, 0]
noncomputable def R70_5 : Array Oper := opsAt Tryz.f70 [1, 0, 1, 0, 1, 1, 1, 0, 0]
noncomputable def R70_6 : Array Oper := opsAt Tryz.f70 [1, 0, 1, 0, 1, 1, 1, 1, 0]
noncomputable def R70_7 : Array Oper := opsAt Tryz.f70 [1, 0, 1, 0, 1, 1, 1, 1, 1, 0, 0]
noncomputable def R70_8 : Array Oper := opsAt Tryz.f70 [1, 1, 0]
theorem code70 : Tryz.f70.body = some (.seq (.region 0 R70_0 false) (.seq (.seq (.region 1 R70_1 false) (.block 0 (.seq (.region 2 R70_2 false) (.cond (.tmp 8) (.seq (.region 3 R70_3 false) .ret) (.seq (.region 4 R70_4 false) (.cond (.tmp 13) (.seq (.region 5 R70_5 false) .ret) (.seq (.region 6 R70_6 false) (.cond (.tmp 18) (.seq (.region 7 R70_7 false) .ret) .skip)))))))) (.seq (.region 8 R70_8 false) .ret))) := by kernel_rfl
noncomputable def R72_0 : Array Oper := opsAt Tryz.f72 [0]
noncomputable def R72_1 : Array Oper := opsAt Tryz.f72 [1, 0]
noncomputable def R72_2 : Array Oper := opsAt Tryz.f72 [1, 1, 0]
noncomputable def R72_3 : Array Oper := opsAt Tryz.f72 [1, 1, 1, 0]
noncomputable def R72_4 : Array Oper := opsAt Tryz.f72 [1, 1, 1, 1]
theorem code72 : Tryz.f72.body = some (.seq (.region 0 R72_0 false) (.seq (.region 1 R72_1 false) (.seq (.region 2 R72_2 false) (.seq (.region 3 R72_3 false) (.region 4 R72_4 false))))) := by kernel_rfl
noncomputable def R73_0 : Array Oper := opsAt Tryz.f73 [0]
noncomputable def R73_1 : Array Oper := opsAt Tryz.f73 [1, 0]
theorem code73 : Tryz.f73.body = some (.seq (.region 0 R73_0 false) (.cond (.tmp 7) (.region 1 R73_1 false) .skip)) := by kernel_rfl
noncomputable def R74_0 : Array Oper := opsAt Tryz.f74 [0]
noncomputable def R74_1 : Array Oper := opsAt Tryz.f74 [1, 0]
noncomputable def R74_2 : Array Oper := opsAt Tryz.f74 [1, 1, 0, 0, 0, 0, 0]
noncomputable def R74_3 : Array Oper := opsAt Tryz.f74 [1, 1, 0, 0, 0, 1, 0]
noncomputable def L74_0 : Code := .seq (.seq (.region 2 R74_2 false) (.cond (.tmp 30) .skip (.exit 0))) (.block 1 (.region 3 R74_3 false))
theorem lpL74_0 : loops L74_0 = 0 := rfl
noncomputable def R74_4 : Array Oper := opsAt Tryz.f74 [1, 1, 1, 0]
noncomputable def R74_5 : Array Oper := opsAt Tryz.f74 [1, 1, 1, 1, 0]
noncomputable def R74_6 : Array Oper := opsAt Tryz.f74 [1, 1, 1, 1, 1, 0]
noncomputable def R74_7 : Array Oper := opsAt Tryz.f74 [1, 1, 1, 1, 1, 1, 0]
noncomputable def M74_0 : Code := .seq (.region 4 R74_4 false) (.seq (.region 5 R74_5 false) (.seq (.region 6 R74_6 false) (.seq (.region 7 R74_7 false) .ret)))
theorem lpM74_0 : loops M74_0 = 0 := rfl
theorem code74 : Tryz.f74.body = some (.seq (.region 0 R74_0 false) (.seq (.region 1 R74_1 false) (.seq (.block 0 (.loop L74_0)) M74_0))) := by kernel_rfl
noncomputable def R75_0 : Array Oper := opsAt Tryz.f75 [0]
noncomputable def R75_1 : Array Oper := opsAt Tryz.f75 [1, 0]
theorem code75 : Tryz.f75.body = some (.seq (.region 0 R75_0 false) (.seq (.region 1 R75_1 false) .ret)) := by kernel_rfl
noncomputable def R76_0 : Array Oper := opsAt Tryz.f76 [0]
noncomputable def R76_1 : Array Oper := opsAt Tryz.f76 [1, 0]
noncomputable def R76_2 : Array Oper := opsAt Tryz.f76 [1, 1, 0, 0]
noncomputable def R76_3 : Array Oper := opsAt Tryz.f76 [1, 1, 0, 1, 0]
noncomputable def R76_4 : Array Oper := opsAt Tryz.f76 [1, 1, 1, 0]
noncomputable def R76_5 : Array Oper := opsAt Tryz.f76 [1, 1, 1, 1, 0]
noncomputable def R76_6 : Array Oper := opsAt Tryz.f76 [1, 1, 1, 1, 1, 0, 0]
noncomputable def R76_7 : Array Oper := opsAt Tryz.f76 [1, 1, 1, 1, 1, 0, 1, 0, 0]
noncomputable def R76_8 : Array Oper := opsAt Tryz.f76 [1, 1, 1, 1, 1, 1, 0]
theorem code76 : Tryz.f76.body = some (.seq (.region 0 R76_0 false) (.seq (.region 1 R76_1 false) (.seq (.seq (.region 2 R76_2 true) (.cond (.tmp 13) (.region 3 R76_3 true) .skip)) (.seq (.region 4 R76_4 false) (.seq (.region 5 R76_5 false) (.seq (.seq (.region 6 R76_6 true) (.cond (.tmp 53) (.seq (.region 7 R76_7 false) .ret) .skip)) (.seq (.region 8 R76_8 false) .ret))))))) := by kernel_rfl
noncomputable def R77_0 : Array Oper := opsAt Tryz.f77 [0]
noncomputable def R77_1 : Array Oper := opsAt Tryz.f77 [1, 0]
theorem code77 : Tryz.f77.body = some (.seq (.region 0 R77_0 false) (.seq (.region 1 R77_1 false) .ret)) := by kernel_rfl
noncomputable def R78_0 : Array Oper := opsAt Tryz.f78 [0]
noncomputable def R78_1 : Array Oper := opsAt Tryz.f78 [1, 0]
theorem code78 : Tryz.f78.body = some (.seq (.region 0 R78_0 false) (.seq (.region 1 R78_1 false) .ret)) := by kernel_rfl
noncomputable def R79_0 : Array Oper := opsAt Tryz.f79 [0]
noncomputable def R79_1 : Array Oper := opsAt Tryz.f79 [1, 0]
theorem code79 : Tryz.f79.body = some (.seq (.region 0 R79_0 false) (.seq (.region 1 R79_1 false) .ret)) := by kernel_rfl
noncomputable def R80_0 : Array Oper := opsAt Tryz.f80 [0]
noncomputable def R80_1 : Array Oper := opsAt Tryz.f80 [1, 0, 0]
noncomputable def R80_2 : Array Oper := opsAt Tryz.f80 [1, 0, 1, 0, 0]
noncomputable def R80_3 : Array Oper := opsAt Tryz.f80 [1, 1, 0]
theorem code80 : Tryz.f80.body = some (.seq (.region 0 R80_0 false) (.seq (.seq (.region 1 R80_1 false) (.cond (.tmp 4) (.seq (.region 2 R80_2 false) .ret) .skip)) (.seq (.region 3 R80_3 false) .ret))) := by kernel_rfl
noncomputable def R81_0 : Array Oper := opsAt Tryz.f81 [0]
noncomputable def R81_1 : Array Oper := opsAt Tryz.f81 [1, 0, 0]
noncomputable def R81_2 : Array Oper := opsAt Tryz.f81 [1, 0, 1, 0]
noncomputable def R81_3 : Array Oper := opsAt Tryz.f81 [1, 1, 0]
noncomputable def R81_4 : Array Oper := opsAt Tryz.f81 [1, 1, 1, 0, 0]
noncomputable def R81_5 : Array Oper := opsAt Tryz.f81 [1, 1, 1, 0, 1, 0]
noncomputable def R81_6 : Array Oper := opsAt Tryz.f81 [1, 1, 1, 1, 0]
noncomputable def R81_7 : Array Oper := opsAt Tryz.f81 [1, 1, 1, 1, 1, 0]
noncomputable def R81_8 : Array Oper := opsAt Tryz.f81 [1, 1, 1, 1, 1, 1, 0, 0, 0, 0, 0]
noncomputable def R81_9 : Array Oper := opsAt Tryz.f81 [1, 1, 1, 1, 1, 1, 0, 0, 0, 1, 0]
noncomputable def L81_0 : Code := .seq (.seq (.region 8 R81_8 false) (.cond (.tmp 37) .skip (.exit 0))) (.block 1 (.region 9 R81_9 true))
theorem lpL81_0 : loops L81_0 = 0 := rfl
noncomputable def R81_10 : Array Oper := opsAt Tryz.f81 [1, 1, 1, 1, 1, 1, 1, 0]
noncomputable def M81_0 : Code := .seq (.region 10 R81_10 false) .ret
theorem lpM81_0 : loops M81_0 = 0 := rfl
theorem code81 : Tryz.f81.body = some (.seq (.region 0 R81_0 false) (.seq (.seq (.region 1 R81_1 false) (.cond (.tmp 10) (.region 2 R81_2 false) .skip)) (.seq (.region 3 R81_3 false) (.seq (.seq (.region 4 R81_4 false) (.cond (.tmp 26) (.region 5 R81_5 false) .skip)) (.seq (.region 6 R81_6 false) (.seq (.region 7 R81_7 false) (.seq (.block 0 (.loop L81_0)) M81_0))))))) := by kernel_rfl
noncomputable def R82_0 : Array Oper := opsAt Tryz.f82 [0]
noncomputable def R82_1 : Array Oper := opsAt Tryz.f82 [1, 0, 0]
noncomputable def R82_2 : Array Oper := opsAt Tryz.f82 [1, 0, 1, 0, 0]
noncomputable def R82_3 : Array Oper := opsAt Tryz.f82 [1, 1, 0]
noncomputable def R82_4 : Array Oper := opsAt Tryz.f82 [1, 1, 1, 0, 0]
noncomputable def R82_5 : Array Oper := opsAt Tryz.f82 [1, 1, 1, 0, 1, 0, 0, 0]
noncomputable def R82_6 : Array Oper := opsAt Tryz.f82 [1, 1, 1, 0, 1, 0, 0, 1, 1, 0, 0, 0]
noncomputable def R82_7 : Array Oper := opsAt Tryz.f82 [1, 1, 1, 0, 1, 0, 0, 1, 1, 0, 0, 1, 0]
noncomputable def R82_8 : Array Oper := opsAt Tryz.f82 [1, 1, 1, 0, 1, 0, 0, 1, 1, 0, 0, 1, 1, 0]
noncomputable def R82_9 : Array Oper := opsAt Tryz.f82 [1, 1, 1, 0, 1, 0, 0, 1, 1, 1]
noncomputable def L82_0 : Code := .seq (.region 5 R82_5 false) (.seq (.cond (.tmp 19) .skip (.exit 0)) (.seq (.block 1 (.seq (.region 6 R82_6 false) (.seq (.region 7 R82_7 false) (.cond (.tmp 24) (.region 8 R82_8 true) .skip)))) (.region 9 R82_9 false)))
theorem lpL82_0 : loops L82_0 = 0 := rfl
noncomputable def R82_10 : Array Oper := opsAt Tryz.f82 [1, 1, 1, 1, 0]
noncomputable def M82_0 : Code := .seq (.region 10 R82_10 false) .ret
theorem lpM82_0 : loops M82_0 = 0 := rfl
theorem code82 : Tryz.f82.body = some (.seq (.region 0 R82_0 false) (.seq (.seq (.region 1 R82_1 false) (.cond (.tmp 11) (.seq (.region 2 R82_2 false) .ret) .skip)) (.seq (.region 3 R82_3 false) (.seq (.seq (.region 4 R82_4 false) (.block 0 (.loop L82_0))) M82_0)))) := by kernel_rfl
noncomputable def R83_0 : Array Oper := opsAt Tryz.f83 [0]
noncomputable def R83_1 : Array Oper := opsAt Tryz.f83 [1, 0, 0]
noncomputable def R83_2 : Array Oper := opsAt Tryz.f83 [1, 0, 1, 0, 0]
noncomputable def R83_3 : Array Oper := opsAt Tryz.f83 [1, 1, 0]
theorem code83 : Tryz.f83.body = some (.seq (.region 0 R83_0 false) (.seq (.seq (.region 1 R83_1 false) (.cond (.tmp 6) (.seq (.region 2 R83_2 false) .ret) .skip)) (.seq (.region 3 R83_3 false) .ret))) := by kernel_rfl
noncomputable def R84_0 : Array Oper := opsAt Tryz.f84 [0]
noncomputable def R84_1 : Array Oper := opsAt Tryz.f84 [1, 0, 0]
noncomputable def R84_2 : Array Oper := opsAt Tryz.f84 [1, 0, 1, 0, 0]
noncomputable def R84_3 : Array Oper := opsAt Tryz.f84 [1, 1, 0]
noncomputable def R84_4 : Array Oper := opsAt Tryz.f84 [1, 1, 1, 0, 0]
noncomputable def R84_5 : Array Oper := opsAt Tryz.f84 [1, 1, 1, 0, 1, 0, 0, 0]
noncomputable def R84_6 : Array Oper := opsAt Tryz.f84 [1, 1, 1, 0, 1, 0, 0, 1, 1, 0, 0, 0]
noncomputable def R84_7 : Array Oper := opsAt Tryz.f84 [1, 1, 1, 0, 1, 0, 0, 1, 1, 0, 0, 1]
noncomputable def R84_8 : Array Oper := opsAt Tryz.f84 [1, 1, 1, 0, 1, 0, 0, 1, 1, 1]
noncomputable def L84_0 : Code := .seq (.region 5 R84_5 false) (.seq (.cond (.tmp 23) .skip (.exit 0)) (.seq (.block 1 (.seq (.region 6 R84_6 false) (.region 7 R84_7 true))) (.region 8 R84_8 false)))
theorem lpL84_0 : loops L84_0 = 0 := rfl
noncomputable def R84_9 : Array Oper := opsAt Tryz.f84 [1, 1, 1, 1, 0]
noncomputable def M84_0 : Code := .seq (.region 9 R84_9 false) .ret
theorem lpM84_0 : loops M84_0 = 0 := rfl
theorem code84 : Tryz.f84.body = some (.seq (.region 0 R84_0 false) (.seq (.seq (.region 1 R84_1 false) (.cond (.tmp 15) (.seq (.region 2 R84_2 false) .ret) .skip)) (.seq (.region 3 R84_3 false) (.seq (.seq (.region 4 R84_4 false) (.block 0 (.loop L84_0))) M84_0)))) := by kernel_rfl
noncomputable def R85_0 : Array Oper := opsAt Tryz.f85 [0]
noncomputable def R85_1 : Array Oper := opsAt Tryz.f85 [1, 0, 0, 0]
noncomputable def R85_2 : Array Oper := opsAt Tryz.f85 [1, 0, 0, 1, 0, 0]
noncomputable def R85_3 : Array Oper := opsAt Tryz.f85 [1, 0, 0, 1, 1, 0]
noncomputable def R85_4 : Array Oper := opsAt Tryz.f85 [1, 0, 0, 1, 1, 1, 0, 0]
noncomputable def R85_5 : Array Oper := opsAt Tryz.f85 [1, 0, 0, 1, 1, 1, 1, 0]
noncomputable def R85_6 : Array Oper := opsAt Tryz.f85 [1, 0, 0, 1, 1, 1, 1, 1, 0, 0]
noncomputable def R85_7 : Array Oper := opsAt Tryz.f85 [1, 0, 0, 1, 1, 1, 1, 1, 1, 0]
noncomputable def R85_8 : Array Oper := opsAt Tryz.f85 [1, 0, 0, 1, 1, 1, 1, 1, 1, 1, 0, 0]
noncomputable def R85_9 : Array Oper := opsAt Tryz.f85 [1, 1, 0]
theorem code85 : Tryz.f85.body = some (.seq (.region 0 R85_0 false) (.seq (.block 0 (.seq (.region 1 R85_1 false) (.cond (.tmp 6) (.seq (.region 2 R85_2 false) .ret) (.seq (.region 3 R85_3 false) (.cond (.tmp 13) (.seq (.region 4 R85_4 false) .ret) (.seq (.region 5 R85_5 false) (.cond (.tmp 20) (.seq (.region 6 R85_6 false) .ret) (.seq (.region 7 R85_7 false) (.cond (.tmp 27) (.seq (.region 8 R85_8 false) .ret) .skip))))))))) (.seq (.region 9 R85_9 false) .ret))) := by kernel_rfl
noncomputable def R86_0 : Array Oper := opsAt Tryz.f86 [0]
noncomputable def R86_1 : Array Oper := opsAt Tryz.f86 [1, 0, 0]
noncomputable def R86_2 : Array Oper := opsAt Tryz.f86 [1, 0, 1, 0, 0]
noncomputable def R86_3 : Array Oper := opsAt Tryz.f86 [1, 1, 0]
theorem code86 : Tryz.f86.body = some (.seq (.region 0 R86_0 false) (.seq (.seq (.region 1 R86_1 false) (.cond (.tmp 5) (.seq (.region 2 R86_2 false) .ret) .skip)) (.seq (.region 3 R86_3 false) .ret))) := by kernel_rfl
noncomputable def R87_0 : Array Oper := opsAt Tryz.f87 [0]
noncomputable def R87_1 : Array Oper := opsAt Tryz.f87 [1, 0, 0]
noncomputable def R87_2 : Array Oper := opsAt Tryz.f87 [1, 0, 1, 0, 0]
noncomputable def R87_3 : Array Oper := opsAt Tryz.f87 [1, 1, 0, 0]
noncomputable def R87_4 : Array Oper := opsAt Tryz.f87 [1, 1, 0, 1, 0, 0, 0, 0]
noncomputable def R87_6 : Array Oper := opsAt Tryz.f87 [1, 1, 0, 1, 0, 0, 1, 0, 0, 0]
noncomputable def R87_7 : Array Oper := opsAt Tryz.f87 [1, 1, 0, 1, 0, 0, 1, 0, 0, 1, 0, 0]
noncomputable def R87_5 : Array Oper := opsAt Tryz.f87 [1, 1, 0, 1, 0, 0, 1, 1]
noncomputable def L87_0 : Code := .seq (.seq (.region 4 R87_4 false) (.cond (.tmp 25) .skip (.exit 0))) (.seq (.block 1 (.seq (.region 6 R87_6 false) (.cond (.tmp 34) (.seq (.region 7 R87_7 false) .ret) .skip))) (.region 5 R87_5 false))
theorem lpL87_0 : loops L87_0 = 0 := rfl
noncomputable def R87_8 : Array Oper := opsAt Tryz.f87 [1, 1, 1, 0]
noncomputable def M87_0 : Code := .seq (.region 8 R87_8 false) .ret
theorem lpM87_0 : loops M87_0 = 0 := rfl
theorem code87 : Tryz.f87.body = some (.seq (.region 0 R87_0 false) (.seq (.seq (.region 1 R87_1 false) (.cond (.tmp 20) (.seq (.region 2 R87_2 false) .ret) .skip)) (.seq (.seq (.region 3 R87_3 false) (.block 0 (.loop L87_0))) M87_0))) := by kernel_rfl
noncomputable def R88_0 : Array Oper := opsAt Tryz.f88 [0]
noncomputable def R88_1 : Array Oper := opsAt Tryz.f88 [1, 0]
theorem code88 : Tryz.f88.body = some (.seq (.region 0 R88_0 false) (.seq (.region 1 R88_1 false) .ret)) := by kernel_rfl
noncomputable def R89_0 : Array Oper := opsAt Tryz.f89 [0]
noncomputable def R89_1 : Array Oper := opsAt Tryz.f89 [1, 0, 0]
noncomputable def R89_2 : Array Oper := opsAt Tryz.f89 [1, 0, 1, 0, 0]
noncomputable def R89_3 : Array Oper := opsAt Tryz.f89 [1, 1, 0]
theorem code89 : Tryz.f89.body = some (.seq (.region 0 R89_0 false) (.seq (.seq (.region 1 R89_1 false) (.cond (.tmp 12) (.seq (.region 2 R89_2 false) .ret) .skip)) (.seq (.region 3 R89_3 false) .ret))) := by kernel_rfl
noncomputable def R91_0 : Array Oper := opsAt Tryz.f91 [0]
noncomputable def R91_1 : Array Oper := opsAt Tryz.f91 [1, 0, 0]
noncomputable def R91_2 : Array Oper := opsAt Tryz.f91 [1, 0, 1, 0, 0]
noncomputable def R91_3 : Array Oper := opsAt Tryz.f91 [1, 1, 0]
theorem code91 : Tryz.f91.body = some (.seq (.region 0 R91_0 false) (.seq (.seq (.region 1 R91_1 false) (.cond (.tmp 7) (.seq (.region 2 R91_2 false) .ret) .skip)) (.seq (.region 3 R91_3 false) .ret))) := by kernel_rfl
noncomputable def R92_0 : Array Oper := opsAt Tryz.f92 [0]
noncomputable def R92_1 : Array Oper := opsAt Tryz.f92 [1, 0, 0]
noncomputable def R92_2 : Array Oper := opsAt Tryz.f92 [1, 0, 1, 0, 0]
noncomputable def R92_3 : Array Oper := opsAt Tryz.f92 [1, 1, 0]
theorem code92 : Tryz.f92.body = some (.seq (.region 0 R92_0 false) (.seq (.seq (.region 1 R92_1 false) (.cond (.tmp 7) (.seq (.region 2 R92_2 false) .ret) .skip)) (.seq (.region 3 R92_3 false) .ret))) := by kernel_rfl
noncomputable def R94_0 : Array Oper := opsAt Tryz.f94 [0]
noncomputable def R94_1 : Array Oper := opsAt Tryz.f94 [1, 0]
noncomputable def R94_2 : Array Oper := opsAt Tryz.f94 [1, 1, 0, 0]
noncomputable def R94_3 : Array Oper := opsAt Tryz.f94 [1, 1, 0, 1, 0, 0]
noncomputable def R94_4 : Array Oper := opsAt Tryz.f94 [1, 1, 1, 0]
theorem code94 : Tryz.f94.body = some (.seq (.region 0 R94_0 false) (.seq (.region 1 R94_1 false) (.seq (.seq (.region 2 R94_2 false) (.cond (.tmp 23) (.seq (.region 3 R94_3 false) .ret) .skip)) (.seq (.region 4 R94_4 false) .ret)))) := by kernel_rfl
noncomputable def R95_0 : Array Oper := opsAt Tryz.f95 [0]
noncomputable def R95_1 : Array Oper := opsAt Tryz.f95 [1, 0, 0]
noncomputable def R95_2 : Array Oper := opsAt Tryz.f95 [1, 0, 1, 0, 0]
noncomputable def R95_3 : Array Oper := opsAt Tryz.f95 [1, 1, 0]
theorem code95 : Tryz.f95.body = some (.seq (.region 0 R95_0 false) (.seq (.seq (.region 1 R95_1 false) (.cond (.tmp 9) (.seq (.region 2 R95_2 false) .ret) .skip)) (.seq (.region 3 R95_3 false) .ret))) := by kernel_rfl
noncomputable def R96_0 : Array Oper := opsAt Tryz.f96 [0]
noncomputable def R96_1 : Array Oper := opsAt Tryz.f96 [1, 0, 0]
noncomputable def R96_2 : Array Oper := opsAt Tryz.f96 [1, 0, 1, 0, 0, 0]
noncomputable def R96_3 : Array Oper := opsAt Tryz.f96 [1, 0, 1, 0, 0, 1, 1, 0, 0, 0]
noncomputable def R96_4 : Array Oper := opsAt Tryz.f96 [1, 0, 1, 0, 0, 1, 1, 0, 0, 1, 0]
noncomputable def R96_5 : Array Oper := opsAt Tryz.f96 [1, 0, 1, 0, 0, 1, 1, 0, 0, 1, 1, 0, 0]
noncomputable def R96_6 : Array Oper := opsAt Tryz.f96 [1, 0, 1, 0, 0, 1, 1, 1]
noncomputable def L96_0 : Code := .seq (.region 2 R96_2 false) (.seq (.cond (.tmp 9) .skip (.exit 0)) (.seq (.block 1 (.seq (.region 3 R96_3 false) (.seq (.region 4 R96_4 false) (.cond (.tmp 16) (.seq (.region 5 R96_5 false) .ret) .skip)))) (.region 6 R96_6 false)))
theorem lpL96_0 : loops L96_0 = 0 := rfl
noncomputable def R96_7 : Array Oper := opsAt Tryz.f96 [1, 1, 0]
noncomputable def M96_0 : Code := .seq (.region 7 R96_7 false) .ret
theorem lpM96_0 : loops M96_0 = 0 := rfl
theorem code96 : Tryz.f96.body = some (.seq (.region 0 R96_0 false) (.seq (.seq (.region 1 R96_1 false) (.block 0 (.loop L96_0))) M96_0)) := by kernel_rfl
noncomputable def R97_0 : Array Oper := opsAt Tryz.f97 [0]
noncomputable def R97_1 : Array Oper := opsAt Tryz.f97 [1, 0, 0, 0]
noncomputable def R97_2 : Array Oper := opsAt Tryz.f97 [1, 0, 0, 1, 0]
noncomputable def R97_3 : Array Oper := opsAt Tryz.f97 [1, 1, 0]
noncomputable def R97_4 : Array Oper := opsAt Tryz.f97 [1, 1, 1, 0]
theorem code97 : Tryz.f97.body = some (.seq (.region 0 R97_0 false) (.seq (.cond (.const (.bool false)) (.seq (.region 1 R97_1 false) (.seq (.region 2 R97_2 false) .ret)) .skip) (.seq (.region 3 R97_3 false) (.seq (.region 4 R97_4 false) .ret)))) := by kernel_rfl
noncomputable def R98_0 : Array Oper := opsAt Tryz.f98 [0]
noncomputable def R98_1 : Array Oper := opsAt Tryz.f98 [1, 0, 0]
noncomputable def R98_2 : Array Oper := opsAt Tryz.f98 [1, 0, 1, 0, 0]
noncomputable def R98_3 : Array Oper := opsAt Tryz.f98 [1, 1, 0]
theorem code98 : Tryz.f98.body = some (.seq (.region 0 R98_0 false) (.seq (.seq (.region 1 R98_1 false) (.cond (.tmp 6) (.seq (.region 2 R98_2 false) .ret) .skip)) (.seq (.region 3 R98_3 false) .ret))) := by kernel_rfl
noncomputable def R99_0 : Array Oper := opsAt Tryz.f99 [0]
noncomputable def R99_1 : Array Oper := opsAt Tryz.f99 [1, 0]
theorem code99 : Tryz.f99.body = some (.seq (.region 0 R99_0 false) (.seq (.region 1 R99_1 false) .ret)) := by kernel_rfl
noncomputable def R100_0 : Array Oper := opsAt Tryz.f100 [0]
noncomputable def R100_1 : Array Oper := opsAt Tryz.f100 [1, 0]
theorem code100 : Tryz.f100.body = some (.seq (.region 0 R100_0 false) (.seq (.region 1 R100_1 false) .ret)) := by kernel_rfl
noncomputable def R107_0 : Array Oper := opsAt Tryz.f107 [0]
noncomputable def R107_1 : Array Oper := opsAt Tryz.f107 [1, 0]
theorem code107 : Tryz.f107.body = some (.seq (.region 0 R107_0 false) (.seq (.region 1 R107_1 false) .ret)) := by kernel_rfl
noncomputable def R108_0 : Array Oper := opsAt Tryz.f108 [0]
noncomputable def R108_1 : Array Oper := opsAt Tryz.f108 [1, 0]
noncomputable def R108_2 : Array Oper := opsAt Tryz.f108 [1, 1, 0]
theorem code108 : Tryz.f108.body = some (.seq (.region 0 R108_0 false) (.seq (.region 1 R108_1 false) (.seq (.region 2 R108_2 false) .ret))) := by kernel_rfl
noncomputable def R109_0 : Array Oper := opsAt Tryz.f109 [0]
noncomputable def R109_1 : Array Oper := opsAt Tryz.f109 [1, 0]
noncomputable def R109_2 : Array Oper := opsAt Tryz.f109 [1, 1, 0]
noncomputable def R109_3 : Array Oper := opsAt Tryz.f109 [1, 1, 1, 0]
noncomputable def R109_4 : Array Oper := opsAt Tryz.f109 [1, 1, 1, 1, 0]
noncomputable def R109_5 : Array Oper := opsAt Tryz.f109 [1, 1, 1, 1, 1, 0]
noncomputable def R109_6 : Array Oper := opsAt Tryz.f109 [1, 1, 1, 1, 1, 1, 0]
noncomputable def R109_7 : Array Oper := opsAt Tryz.f109 [1, 1, 1, 1, 1, 1, 1, 0]
noncomputable def R109_8 : Array Oper := opsAt Tryz.f109 [1, 1, 1, 1, 1, 1, 1, 1, 0]
noncomputable def R109_9 : Array Oper := opsAt Tryz.f109 [1, 1, 1, 1, 1, 1, 1, 1, 1, 0]
noncomputable def R109_10 : Array Oper := opsAt Tryz.f109 [1, 1, 1, 1, 1, 1, 1, 1, 1, 1, 0]
noncomputable def R109_11 : Array Oper := opsAt Tryz.f109 [1, 1, 1, 1, 1, 1, 1, 1, 1, 1, 1, 0]
theorem code109 : Tryz.f109.body = some (.seq (.region 0 R109_0 false) (.seq (.region 1 R109_1 false) (.seq (.region 2 R109_2 false) (.seq (.region 3 R109_3 false) (.seq (.region 4 R109_4 false) (.seq (.region 5 R109_5 false) (.seq (.region 6 R109_6 false) (.seq (.region 7 R109_7 false) (.seq (.region 8 R109_8 false) (.seq (.region 9 R109_9 false) (.seq (.region 10 R109_10 false) (.seq (.region 11 R109_11 false) .ret)))))))))))) := by kernel_rfl
def ext40 : List V → Option (V × List Eng.Obj)
  | [.c (.int .i64 n)] => if -9223372036854775808 ≤ n ∧ n ≤ 9223372036854775807 then some (.c (.string ⟨(Lib.itoa n).toArray⟩), []) else none
  | _ => none
theorem ext40_ok : ExtOk Tryz.prog 40 ext40 := by
  refine ⟨ent Tryz.func40 rfl rfl, fun args v objs h w Pf ι vals hr D => ?_⟩
  unfold ext40 at h
  split at h
  case h_2 => cases h
  rename_i n
  split at h
  case isFalse => cases h
  rename_i hn
  cases h
  simp only [Reps, Rep] at hr
  obtain ⟨u, us, rfl, rfl, rfl⟩ := hr
  refine (Tryz.strconv_Itoa n hn.1 hn.2 w (jt_of D.glob.2)).mono ?_
  rintro e w' ⟨rfl, k, os, rfl⟩
  have hp : ∀ g, Pf true g → (Sort.grow (w.drewN k) os).heap[g]? = w.heap[g]? := fun g hg => by
    have := D.lt g hg
    show (w.heap ++ os)[g]? = w.heap[g]?
    rw [Array.getElem?_append_left this]
  refine ⟨_, ι, 1, fun _ => False, rfl, ⟨rfl, rfl, rfl, ?_, hp, fun _ _ _ h => h⟩, by simp only [Rep], ⟨fun id vr o h => ?_, D.fresh, D.fresh', fun id vr o id' vr' o' g t t' h => ?_, fun g hg => ?_, D.sub, D.gl hp⟩⟩
  · show w.heap.size ≤ (w.heap ++ os).size
    rw [Array.size_append]; omega
  · simp [hpOf] at h
  · simp [hpOf] at h
  · have := D.lt g hg
    show g < (w.heap ++ os).size
    rw [Array.size_append]; omega
theorem fwd_of_below {w w' : World} {Pf : Pfs} {ι : Plc} (hlt : ∀ g, Pf true g → g < w.heap.size) (h : Go.RowKit.Below w.heap.size w w') : Fwd Pf w w' ι ι :=
  ⟨h.os, h.tape, h.output, h.size, fun g hg => h.block g (hlt g hg), fun _ _ _ h => h⟩
theorem desc_none {w w' : World} {Pf : Pfs} {ι : Plc} (D : Desc w Pf ι (fun _ => none) 1 (fun _ => False)) (h : Go.RowKit.Below w.heap.size w w') : Desc w' Pf ι (hpOf [] []) 1 (fun _ => False) :=
  ⟨fun id vr o h => by simp [hpOf] at h, D.fresh, D.fresh', fun id vr o id' vr' o' g t t' h => by simp [hpOf] at h, fun g hg => Nat.lt_of_lt_of_le (D.lt g hg) h.size, D.sub, D.gl (fun g hg => h.block g (D.lt g hg))⟩
def ext106 : List V → Option (V × List Eng.Obj)
  | [.c (.string s)] => if s.size ≤ 281474976710656 then (match Lib.atoiAll s.data.toList with
    | .ok v => some (.tp [.c (.int .i64 v), .c .nilIface], [])
    | .«syntax» => some (.tp [.c (.int .i64 0), .er], [])
    | .range => some (.tp [.c (.int .i64 (Lib.atoiSat s.data.toList)), .er], [])) else none
  | _ => none
theorem ext106_ok : ExtOk Tryz.prog 106 ext106 := by
  refine ⟨ent Tryz.func106 rfl rfl, fun args v objs h w Pf ι vals hr D => ?_⟩
  unfold ext106 at h
  split at h
  case h_2 => cases h
  rename_i s
  split at h
  case isFalse => cases h
  rename_i hs
  simp only [Reps, Rep] at hr
  obtain ⟨u, us, rfl, rfl, rfl⟩ := hr
  split at h
  · rename_i n hn
    cases h
    refine (Tryz.strconv_Atoi_ok s (by omega) n hn w).mono ?_
    rintro e w' ⟨rfl, hw⟩
    have hb : Go.RowKit.Below w.heap.size w w' := by
      rcases hw with rfl | ⟨t, rfl⟩
      · exact Go.RowKit.Below.refl _ _
      · exact Lib.bytesWorld_below _ _ _
    exact ⟨_, ι, 1, fun _ => False, rfl, fwd_of_below D.lt hb, by simp only [Rep, Reps]; exact ⟨_, rfl, _, _, rfl, rfl, _, _, rfl, rfl, rfl⟩, desc_none D hb⟩
  · rename_i hn
    cases h
    obtain ⟨ev, h1, h2⟩ := e1_of D.glob.2
    refine (Tryz.strconv_Atoi_syntax s hs hn ev w h1 h2).mono ?_
    rintro e w' ⟨N, rfl, _, _, hb⟩
    exact ⟨_, ι, 1, fun _ => False, rfl, fwd_of_below D.lt hb, by simp only [Rep, Reps]; exact ⟨_, rfl, _, _, rfl, rfl, _, _, rfl, ⟨_, _, rfl⟩, rfl⟩, desc_none D hb⟩
  · rename_i hn
    cases h
    obtain ⟨ev, h1, h2⟩ := e2_of D.glob.2
    refine (Tryz.strconv_Atoi_range s hs hn ev w h1 h2).mono ?_
    rintro e w' ⟨N, rfl, _, _, hb⟩
    exact ⟨_, ι, 1, fun _ => False, rfl, fwd_of_below D.lt hb, by simp only [Rep, Reps]; exact ⟨_, rfl, _, _, rfl, rfl, _, _, rfl, ⟨_, _, rfl⟩, rfl⟩, desc_none D hb⟩
theorem bldRZ (w : World) (n : Nat) : ∃ z, (zeroValue 48).run Tryz.prog w = .ok z w ∧ (Builtin.zeroCells z.cells n).toList.length = n * 2 ∧ ∀ v ∈ (Builtin.zeroCells z.cells n).toList, v.oneCell' = true := by
  obtain ⟨z, h1, h2⟩ := (tabOk _ _ T48).run_zero w
  have hs : z.cells.size = 2 := by rw [← Array.length_toList, h2]; rfl
  refine ⟨z, h1, by rw [Array.length_toList, size_zeroCells, hs], zeroCells_one n (fun v hv => ?_) (by omega)⟩
  rw [h2] at hv
  simp only [List.mem_cons, List.not_mem_nil, or_false] at hv
  rcases hv with rfl | rfl <;> rfl
set_option maxHeartbeats 2000000 in
theorem bldR_end (w : World) (g n i cap cap2 : Nat) (cur : Array Value) (fz : Nat × Nat) (ad : Addr) (xs : List Value) (hg : w.heap[g]? = some (.cells cur 48 fz)) (hfz : fz = (0, 0) ∨ cur.size ≤ fz.1) (h1 : i + 1 < n) (h2 : n ≤ cap) (h3 : cap ≤ maxLen) (h4 : cap * 2 = cur.size)
    (hx : xs.length = 2) (hc : ∀ q v, xs[q]? = some v → w.cell? (ad.add q) = some v) (ho : ∀ v ∈ xs, v.oneCell' = true) :
    Calls Tryz.prog 38 #[.slice (some ⟨g, 0, none⟩) n cap, .int .i64 (i : Int), .int .i64 (n : Int), .slice (some ad) 1 cap2] w fun x w' => x = .returned (.slice (some ⟨g, 0, none⟩) (i + 1) cap) ∧ Same w w' ∧ (∀ k, k ≠ g → w'.heap[k]? = w.heap[k]?) ∧
      ∃ cur', w'.heap[g]? = some (.cells cur' 48 fz) ∧ cur'.size = cur.size ∧ cur'.toList.take ((i + 1) * 2) = cur.toList.take (i * 2) ++ xs := by
  obtain ⟨inf, hi, hisz⟩ := Option.map_eq_some_iff.1 (show (Tryz.prog.info? 48).map (·.size) = some 2 from by kernel_rfl)
  have b1 : ((i : Int) == (n : Int)) = false := by simp; omega
  have b2 : ((n : Int) == (n : Int)) = true := by simp
  have b3 : (0 : Int) ≤ (i : Int) := by omega
  have b4 : (i : Int) ≤ (n : Int) := by omega
  have b5 : (n : Int) ≤ (cap : Int) := by omega
  have b6 : (i : Int) ≤ (cap : Int) := by omega
  have hA := run_append_room_fz Tryz.prog w 24 24 48 inf Tryz.underlying24 hi g 0 i cap cur fz hg hfz ad 1 cap2 xs (by rw [hisz, hx]) hc ho (by omega) (by rw [hisz, hx]; omega)
  rw [hisz, Nat.zero_add] at hA
  have e1 := setRow_heap w g cur (put2 cur (i * 2) xs) _ fz hg
  have s1 : (put2 cur (i * 2) xs).size = cur.size := put2_size (by omega)
  have q1 : (put2 cur (i * 2) xs).toList.take (i * 2 + xs.length) = cur.toList.take (i * 2) ++ xs := put2_end (by omega)
  obtain ⟨d1, hd1⟩ : ∃ d, put2 cur (i * 2) xs = d := ⟨_, rfl⟩
  have hA' : (Builtin.append_ #[24, 24] 24 #[.slice (some ⟨g, 0, none⟩) i cap, .slice (some ad) 1 cap2]).run Tryz.prog w = .ok (.slice (some ⟨g, 0, none⟩) (i + 1) cap) (w.setRow g d1) := by rw [← hd1]; exact hA
  rw [hd1] at e1 s1 q1
  obtain ⟨z, hz, zl, z1⟩ := bldRZ (w.setRow g d1) (n - (i + 1))
  have hC := run_clear_sz Tryz.prog (w.setRow g d1) 24 0 48 z g ((i + 1) * 2) (n - (i + 1)) (cap - (i + 1)) d1 48 fz Tryz.underlying24 hz (by omega) e1 (by rw [s1]; exact hfz) (by rw [s1, zl]; omega) z1
  obtain ⟨zs, hzs⟩ : ∃ zs, (Builtin.zeroCells z.cells (n - (i + 1))).toList = zs := ⟨_, rfl⟩
  rw [hzs] at hC zl
  have e2 := setRow_heap (w.setRow g d1) g d1 (put2 d1 ((i + 1) * 2) zs) _ fz e1
  have s2 : (put2 d1 ((i + 1) * 2) zs).size = d1.size := put2_size (by rw [s1, zl]; omega)
  have q2 : (put2 d1 ((i + 1) * 2) zs).toList.take ((i + 1) * 2) = d1.toList.take ((i + 1) * 2) := put2_le (by rw [s1]; omega) (Nat.le_refl _)
  obtain ⟨d2, hd2⟩ : ∃ d, put2 d1 ((i + 1) * 2) zs = d := ⟨_, rfl⟩
  have hC' : (Builtin.clear_ #[24] 0 #[.slice (some ⟨g, (i + 1) * 2, none⟩) (n - (i + 1)) (cap - (i + 1))]).run Tryz.prog (w.setRow g d1) = .ok (.tuple #[]) ((w.setRow g d1).setRow g d2) := by rw [← hd2]; exact hC
  rw [hd2] at e2 s2 q2
  have hfin : Same w ((w.setRow g d1).setRow g d2) ∧ (∀ k, k ≠ g → ((w.setRow g d1).setRow g d2).heap[k]? = w.heap[k]?) ∧ ∃ cur', ((w.setRow g d1).setRow g d2).heap[g]? = some (.cells cur' 48 fz) ∧ cur'.size = cur.size ∧ cur'.toList.take ((i + 1) * 2) = cur.toList.take (i * 2) ++ xs := by
    refine ⟨(Same.row _ _ _).trans (Same.row _ _ _), fun k hk => ?_, d2, e2, by omega, ?_⟩
    · rw [setRow_other _ g k _ hk, setRow_other _ g k _ hk]
    · rw [q2, ← q1, hx, show (i + 1) * 2 = i * 2 + 2 by omega]
  clear hA hC
  have c2 : (i : Int) + 1 < (n : Int) := by omega
  have c3 : (i : Int) + 1 ≤ (n : Int) := by omega
  have c4 : (0 : Int) ≤ (i : Int) + 1 := by omega
  go_enter Tryz.func38, Tryz.ntmps38
  go_wp2_with (at_builtin; refine wpList_app rfl _ _ 24 24 rfl rfl rfl hA' ?_)
  go_ret
  exact ⟨rfl, hfin⟩
set_option maxHeartbeats 2000000 in
theorem bldR_walk (w W1 W2 W3 : World) (g n i j cap cap2 tot : Nat) (ad : Addr) (h1 : i + 1 < j) (hj : j < n) (h2 : n ≤ cap) (hmx : cap < 9223372036854775808) (htot : i + 1 + (n - j) = tot)
    (hK1 : (Builtin.copy_ #[24, 24] 3 #[.slice (some ⟨g, i * 2, none⟩) (tot - i) (cap - i), .slice (some ad) 1 cap2]).run Tryz.prog w.drew = .ok (.int .i64 1) W1)
    (hK2 : (Builtin.copy_ #[24, 24] 3 #[.slice (some ⟨g, (i + 1) * 2, none⟩) (tot - (i + 1)) (cap - (i + 1)), .slice (some ⟨g, j * 2, none⟩) (n - j) (cap - j)]).run Tryz.prog W1.drew = .ok (.int .i64 ((n - j : Nat) : Int)) W2)
    (hC : (Builtin.clear_ #[24] 0 #[.slice (some ⟨g, tot * 2, none⟩) (n - tot) (cap - tot)]).run Tryz.prog W2 = .ok (.tuple #[]) W3) :
    Calls Tryz.prog 38 #[.slice (some ⟨g, 0, none⟩) n cap, .int .i64 (i : Int), .int .i64 (j : Int), .slice (some ad) 1 cap2] w fun x w' => x = .returned (.slice (some ⟨g, 0, none⟩) tot cap) ∧ w' = W3 := by
  have b1 : ((i : Int) == (j : Int)) = false := by simp; omega
  have b2 : ((j : Int) == (n : Int)) = false := by simp; omega
  have b3 : (0 : Int) ≤ (i : Int) := by omega
  have b4 : (i : Int) ≤ (j : Int) := by omega
  have b5 : (n : Int) ≤ (cap : Int) := by omega
  have b6 : (i : Int) ≤ (cap : Int) := by omega
  have b7 : (j : Int) ≤ (cap : Int) := by omega
  have b8 : (j : Int) ≤ (n : Int) := by omega
  have hw1 : RowKit.wrap64 ((i : Int) + 1) = (i : Int) + 1 := by unfold RowKit.wrap64; omega
  have hw2 : RowKit.wrap64 ((i : Int) + 1 + ((n - j : Nat) : Int)) = (tot : Int) := by unfold RowKit.wrap64; omega
  have c1 : ¬ (cap : Int) < (tot : Int) := by omega
  have c2 : (0 : Int) ≤ (tot : Int) := by omega
  have c3 : (tot : Int) ≤ (cap : Int) := by omega
  have c4 : (i : Int) + 1 ≤ (j : Int) := by omega
  have c5 : (i : Int) ≤ (tot : Int) := by omega
  have c6 : (i : Int) + 1 ≤ (tot : Int) := by omega
  have c7 : (tot : Int) ≤ (n : Int) := by omega
  have c8 : (0 : Int) ≤ (i : Int) + 1 := by omega
  go_enter Tryz.func38, Tryz.ntmps38
  have hw3 : (i : Int) + 1 + ((n - j : Nat) : Int) = (tot : Int) := by omega
  go_wp2
  go_region
  go_wp2
  go_region
  go_wp2
  go_ret
  exact ⟨rfl, rfl⟩
set_option maxHeartbeats 2000000 in
theorem bldR_mid (w : World) (g n i j cap cap2 : Nat) (cur : Array Value) (hcur : ∀ v ∈ cur.toList.take (n * 2), v.oneCell' = true) (fz : Nat × Nat) (ad : Addr) (xs : List Value) (hg : w.heap[g]? = some (.cells cur 48 fz)) (hfz : fz = (0, 0) ∨ cur.size ≤ fz.1) (h1 : i + 1 < j) (hj : j < n) (h2 : n ≤ cap) (h3 : cap ≤ maxLen) (h4 : cap * 2 = cur.size)
    (hx : xs.length = 2) (hc : ∀ q v, xs[q]? = some v → w.cell? (ad.add q) = some v) (ho : ∀ v ∈ xs, v.oneCell' = true) :
    Calls Tryz.prog 38 #[.slice (some ⟨g, 0, none⟩) n cap, .int .i64 (i : Int), .int .i64 (j : Int), .slice (some ad) 1 cap2] w fun x w' => x = .returned (.slice (some ⟨g, 0, none⟩) (i + 1 + (n - j)) cap) ∧ Same w w' ∧ (∀ k, k ≠ g → w'.heap[k]? = w.heap[k]?) ∧
      ∃ cur', w'.heap[g]? = some (.cells cur' 48 fz) ∧ cur'.size = cur.size ∧ cur'.toList.take ((i + 1 + (n - j)) * 2) = cur.toList.take (i * 2) ++ xs ++ (cur.toList.take (n * 2)).drop (j * 2) := by
  obtain ⟨inf, hi, hisz⟩ := Option.map_eq_some_iff.1 (show (Tryz.prog.info? 48).map (·.size) = some 2 from by kernel_rfl)
  obtain ⟨tot, htot⟩ : ∃ tot, i + 1 + (n - j) = tot := ⟨_, rfl⟩
  rw [htot]
  have hmx : cap < 9223372036854775808 := by unfold maxLen at h3; omega
  -- the first copy
  have hg0 : w.drew.heap[g]? = some (.cells cur 48 fz) := hg
  have hc0 : ∀ q v, xs[q]? = some v → w.drew.cell? (ad.add q) = some v := hc
  have hK1 := run_copy_sz Tryz.prog w.drew 24 24 3 48 inf g (i * 2) (tot - i) (cap - i) ad 1 cap2 cur 48 fz xs Tryz.underlying24 hi hg0 hfz (by rw [hisz, hx, show Nat.min 1 (tot - i) = 1 from Nat.min_eq_left (by omega)]) hc0 (by omega) ho
  rw [show Nat.min 1 (tot - i) = 1 from Nat.min_eq_left (by omega)] at hK1
  have e1 := setRow_heap w.drew g cur (put2 cur (i * 2) xs) _ fz hg0
  have s1 : (put2 cur (i * 2) xs).size = cur.size := put2_size (by omega)
  have q1 : (put2 cur (i * 2) xs).toList.take (i * 2 + xs.length) = cur.toList.take (i * 2) ++ xs := put2_end (by omega)
  have p1 : (put2 cur (i * 2) xs).toList.drop (j * 2) = cur.toList.drop (j * 2) := put2_drop (by omega) (by omega)
  obtain ⟨d1, hd1⟩ : ∃ d, put2 cur (i * 2) xs = d := ⟨_, rfl⟩
  have hK1' : (Builtin.copy_ #[24, 24] 3 #[.slice (some ⟨g, i * 2, none⟩) (tot - i) (cap - i), .slice (some ad) 1 cap2]).run Tryz.prog w.drew = .ok (.int .i64 1) (w.drew.setRow g d1) := by rw [← hd1]; exact hK1
  rw [hd1] at e1 s1 q1 p1
  -- the second copy
  obtain ⟨ys, hys⟩ : ∃ ys, (d1.toList.drop (j * 2)).take ((n - j) * 2) = ys := ⟨_, rfl⟩
  have hyl : ys.length = (n - j) * 2 := by rw [← hys, List.length_take, List.length_drop, Array.length_toList]; omega
  have hyc : ys = (cur.toList.take (n * 2)).drop (j * 2) := by
    rw [← hys, p1, List.drop_take]
    congr 1
    omega
  have hy1 : ∀ v ∈ ys, v.oneCell' = true := fun v hv => by
    rw [hyc] at hv
    exact hcur v (List.mem_of_mem_drop hv)
  have hg1 : (w.drew.setRow g d1).drew.heap[g]? = some (.cells d1 48 fz) := e1
  have hc1 : ∀ q v, ys[q]? = some v → (w.drew.setRow g d1).drew.cell? ((⟨g, j * 2, none⟩ : Addr).add q) = some v := fun q v hq => by
    have hql : q < (n - j) * 2 := by rw [← hyl]; exact (List.getElem?_eq_some_iff.1 hq).1
    rw [← hys, List.getElem?_take, if_pos hql, List.getElem?_drop] at hq
    rw [Addr.add_lit]
    simpa [World.cell?, hg1] using hq
  have hK2 := run_copy_sz Tryz.prog (w.drew.setRow g d1).drew 24 24 3 48 inf g ((i + 1) * 2) (tot - (i + 1)) (cap - (i + 1)) ⟨g, j * 2, none⟩ (n - j) (cap - j) d1 48 fz ys Tryz.underlying24 hi hg1 (by rw [s1]; exact hfz) (by rw [hisz, hyl, show Nat.min (n - j) (tot - (i + 1)) = n - j from Nat.min_eq_left (by omega)]) hc1 (by rw [s1, hyl]; omega) hy1
  rw [show Nat.min (n - j) (tot - (i + 1)) = n - j from Nat.min_eq_left (by omega)] at hK2
  have e2 := setRow_heap (w.drew.setRow g d1).drew g d1 (put2 d1 ((i + 1) * 2) ys) _ fz hg1
  have s2 : (put2 d1 ((i + 1) * 2) ys).size = d1.size := put2_size (by rw [s1, hyl]; omega)
  have q2 : (put2 d1 ((i + 1) * 2) ys).toList.take ((i + 1) * 2 + ys.length) = d1.toList.take ((i + 1) * 2) ++ ys := put2_end (by rw [s1]; omega)
  obtain ⟨d2, hd2⟩ : ∃ d, put2 d1 ((i + 1) * 2) ys = d := ⟨_, rfl⟩
  have hK2' : (Builtin.copy_ #[24, 24] 3 #[.slice (some ⟨g, (i + 1) * 2, none⟩) (tot - (i + 1)) (cap - (i + 1)), .slice (some ⟨g, j * 2, none⟩) (n - j) (cap - j)]).run Tryz.prog (w.drew.setRow g d1).drew = .ok (.int .i64 ((n - j : Nat) : Int)) ((w.drew.setRow g d1).drew.setRow g d2) := by rw [← hd2]; exact hK2
  rw [hd2] at e2 s2 q2
  -- what is left over becomes zero
  obtain ⟨z, hz, zl, z1⟩ := bldRZ ((w.drew.setRow g d1).drew.setRow g d2) (n - tot)
  have hC := run_clear_sz Tryz.prog ((w.drew.setRow g d1).drew.setRow g d2) 24 0 48 z g (tot * 2) (n - tot) (cap - tot) d2 48 fz Tryz.underlying24 hz (by omega) e2 (by rw [s2, s1]; exact hfz) (by rw [s2, s1, zl]; omega) z1
  obtain ⟨zs, hzs⟩ : ∃ zs, (Builtin.zeroCells z.cells (n - tot)).toList = zs := ⟨_, rfl⟩
  rw [hzs] at hC zl
  have e3 := setRow_heap ((w.drew.setRow g d1).drew.setRow g d2) g d2 (put2 d2 (tot * 2) zs) _ fz e2
  have s3 : (put2 d2 (tot * 2) zs).size = d2.size := put2_size (by rw [s2, s1, zl]; omega)
  have q3 : (put2 d2 (tot * 2) zs).toList.take (tot * 2) = d2.toList.take (tot * 2) := put2_le (by rw [s2, s1]; omega) (Nat.le_refl _)
  obtain ⟨d3, hd3⟩ : ∃ d, put2 d2 (tot * 2) zs = d := ⟨_, rfl⟩
  have hC' : (Builtin.clear_ #[24] 0 #[.slice (some ⟨g, tot * 2, none⟩) (n - tot) (cap - tot)]).run Tryz.prog ((w.drew.setRow g d1).drew.setRow g d2) = .ok (.tuple #[]) (((w.drew.setRow g d1).drew.setRow g d2).setRow g d3) := by rw [← hd3]; exact hC
  rw [hd3] at e3 s3 q3
  have hfin : Same w (((w.drew.setRow g d1).drew.setRow g d2).setRow g d3) ∧ (∀ k, k ≠ g → (((w.drew.setRow g d1).drew.setRow g d2).setRow g d3).heap[k]? = w.heap[k]?) ∧ ∃ cur', (((w.drew.setRow g d1).drew.setRow g d2).setRow g d3).heap[g]? = some (.cells cur' 48 fz) ∧ cur'.size = cur.size ∧ cur'.toList.take (tot * 2) = cur.toList.take (i * 2) ++ xs ++ (cur.toList.take (n * 2)).drop (j * 2) := by
    refine ⟨(show Same w (w.drew.setRow g d1).drew from ⟨rfl, rfl, rfl, by show w.heap.size ≤ (w.setRow g d1).heap.size; simp⟩).trans ((Same.row _ g d2).trans (Same.row _ g d3)), fun k hk => ?_, d3, e3, by omega, ?_⟩
    · rw [setRow_other _ g k _ hk, setRow_other _ g k _ hk]
      show (w.drew.setRow g d1).heap[k]? = _
      rw [setRow_other _ g k _ hk]
      rfl
    · rw [q3, show tot * 2 = (i + 1) * 2 + ys.length by rw [hyl]; omega, q2, ← hyc, show (i + 1) * 2 = i * 2 + xs.length by rw [hx]; omega, q1]
  refine (bldR_walk w (w.drew.setRow g d1) ((w.drew.setRow g d1).drew.setRow g d2) (((w.drew.setRow g d1).drew.setRow g d2).setRow g d3) g n i j cap cap2 tot ad h1 hj h2 hmx htot hK1' hK2' hC').mono ?_
  rintro e w' ⟨rfl, rfl⟩
  exact ⟨rfl, hfin⟩
theorem bld38_ok : BldOk Tryz.prog 38 (2, 48, 48) := by
  refine ⟨ent Tryz.func38 rfl rfl, fun h => absurd h (by decide), fun h => absurd h (by decide), fun _ => ?_⟩
  intro w g n i j cap cap2 cur fz ad xs hg hfz h1 h2 h3 h4 h5 hcur hx hc ho
  by_cases hj : j = n
  · subst hj
    refine (bldR_end w g j i cap cap2 cur fz ad xs hg hfz h1 h3 h4 h5 hx hc ho).mono ?_
    rintro e w' ⟨rfl, S, hk, cur', g1, g2, g3⟩
    have e1 : i + 1 + (j - j) = i + 1 := by omega
    rw [e1]
    refine ⟨rfl, S, hk, cur', g1, g2, ?_⟩
    rw [g3, List.drop_eq_nil_of_le (by rw [List.length_take]; omega), List.append_nil]
  · exact bldR_mid w g n i j cap cap2 cur hcur fz ad xs hg hfz h1 (by omega) h3 h4 h5 hx hc ho
theorem bld12_ok : BldOk Tryz.prog 12 (9, 0, 0) := ⟨ent Tryz.func12 rfl rfl, fun h => absurd h (by decide), fun h => absurd h (by decide), fun h => absurd h (by decide)⟩
theorem bld29_ok : BldOk Tryz.prog 29 (9, 0, 0) := ⟨ent Tryz.func29 rfl rfl, fun h => absurd h (by decide), fun h => absurd h (by decide), fun h => absurd h (by decide)⟩
def X : FuncId → Option (List V → Option (V × List Eng.Obj))
  | 40 => some ext40
  | 106 => some ext106
  | _ => none
noncomputable def C : Cfg := ⟨T, F, X, WR, OW, K, BL⟩
theorem cT : C.T = T := by unfold C; with_reducible rfl
theorem cF : C.fn = F := by unfold C; with_reducible rfl
theorem cX : C.ext = X := by unfold C; with_reducible rfl
theorem cWR : C.wr = WR := by unfold C; with_reducible rfl
theorem cOW : C.own = OW := by unfold C; with_reducible rfl
theorem cK : C.keep = K := by unfold C; with_reducible rfl
theorem cBL : C.bld = BL := by unfold C; with_reducible rfl
theorem cfgOk : CfgOk Tryz.prog C where
  mixed := by kernel_rfl
  tab := tabOk
  fn := fun f fn h => okF_3 f fn h
  ext := by
    intro f m h
    have h' : X f = some m := h
    unfold X at h'
    split at h'
    · cases h'; exact ext40_ok
    · cases h'; exact ext106_ok
    · cases h'
  bld := by
    intro f k h
    have h' : BL f = some k := h
    unfold BL at h'
    split at h'
    · cases h'; exact bld38_ok
    · cases h'; exact bld12_ok
    · cases h'; exact bld29_ok
    · cases h'
end Go.Proofs.YtbjmfjfnilmhhaaGreatDoor.Eng
