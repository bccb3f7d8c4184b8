/- The types, the functions and the loops' live slots that the laws reach, and that they are what the program has. No conditions. -/
import Derived.Test.YtgegdikmmlinfaaDoorEngTa
namespace Go.Proofs.YtgegdikmmlinfaaDoor.Eng
open Go Go.Proofs
set_option maxRecDepth 100000
noncomputable def R3_0 : Array Oper := opsAt Tryd.f3 [0]
noncomputable def R3_1 : Array Oper := opsAt Tryd.f3 [1, 0]
noncomputable def R3_2 : Array Oper := opsAt Tryd.f3 [1, 1, 0]
noncomputable def R3_3 : Array Oper := opsAt Tryd.f3 [1, 1, 1, 0, 0]
noncomputable def R3_4 : Array Oper := opsAt Tryd.f3 [1, 1, 1, 0, 1, 0, 0]
noncomputable def R3_5 : Array Oper := opsAt Tryd.f3 [1, 1, 1, 1, 0]
noncomputable def R3_6 : Array Oper := opsAt Tryd.f3 [1, 1, 1, 1, 1, 0]
noncomputable def R3_7 : Array Oper := opsAt Tryd.f3 [1, 1, 1, 1, 1, 1, 0]
noncomputable def R3_8 : Array Oper := opsAt Tryd.f3 [1, 1, 1, 1, 1, 1, 1, 0, 0]
noncomputable def R3_9 : Array Oper := opsAt Tryd.f3 [1, 1, 1, 1, 1, 1, 1, 0, 1, 0, 0]
noncomputable def R3_10 : Array Oper := opsAt Tryd.f3 [1, 1, 1, 1, 1, 1, 1, 1, 0, 0]
noncomputable def R3_11 : Array Oper := opsAt Tryd.f3 [1, 1, 1, 1, 1, 1, 1, 1, 0, 1, 0, 0]
noncomputable def R3_12 : Array Oper := opsAt Tryd.f3 [1, 1, 1, 1, 1, 1, 1, 1, 1, 0]
theorem code3 : Tryd.f3.body = some (.seq (.region 0 R3_0 false) (.seq (.region 1 R3_1 false) (.seq (.region 2 R3_2 false) (.seq (.seq (.region 3 R3_3 false) (.cond (.tmp 13) (.seq (.region 4 R3_4 false) .ret) .skip)) (.seq (.region 5 R3_5 false) (.seq (.region 6 R3_6 false) (.seq (.region 7 R3_7 false) (.seq (.seq (.region 8 R3_8 false) (.cond (.tmp 34) (.seq (.region 9 R3_9 false) .ret) .skip)) (.seq (.seq (.region 10 R3_10 false) (.cond (.tmp 39) (.seq (.region 11 R3_11 false) .ret) .skip)) (.seq (.region 12 R3_12 false) .ret)))))))))) := by kernel_rfl
noncomputable def R4_0 : Array Oper := opsAt Tryd.f4 [0]
noncomputable def R4_1 : Array Oper := opsAt Tryd.f4 [1, 0]
noncomputable def R4_2 : Array Oper := opsAt Tryd.f4 [1, 1, 0, 0]
noncomputable def R4_3 : Array Oper := opsAt Tryd.f4 [1, 1, 0, 1, 0, 0]
noncomputable def R4_4 : Array Oper := opsAt Tryd.f4 [1, 1, 1, 0]
theorem code4 : Tryd.f4.body = some (.seq (.region 0 R4_0 false) (.seq (.region 1 R4_1 false) (.seq (.seq (.region 2 R4_2 false) (.cond (.tmp 10) (.seq (.region 3 R4_3 false) .ret) .skip)) (.seq (.region 4 R4_4 false) .ret)))) := by kernel_rfl
noncomputable def R5_0 : Array Oper := opsAt Tryd.f5 [0]
noncomputable def R5_1 : Array Oper := opsAt Tryd.f5 [1, 0, 0]
noncomputable def R5_2 : Array Oper := opsAt Tryd.f5 [1, 0, 1, 0, 0]
noncomputable def R5_3 : Array Oper := opsAt Tryd.f5 [1, 1, 0]
theorem code5 : Tryd.f5.body = some (.seq (.region 0 R5_0 false) (.seq (.seq (.region 1 R5_1 false) (.cond (.tmp 6) (.seq (.region 2 R5_2 false) .ret) .skip)) (.seq (.region 3 R5_3 false) .ret))) := by kernel_rfl
noncomputable def R6_0 : Array Oper := opsAt Tryd.f6 [0]
noncomputable def R6_1 : Array Oper := opsAt Tryd.f6 [1, 0]
noncomputable def R6_2 : Array Oper := opsAt Tryd.f6 [1, 1, 0, 0]
noncomputable def R6_3 : Array Oper := opsAt Tryd.f6 [1, 1, 0, 1, 0, 0, 0, 0]
noncomputable def R6_5 : Array Oper := opsAt Tryd.f6 [1, 1, 0, 1, 0, 0, 1, 0, 0]
noncomputable def R6_4 : Array Oper := opsAt Tryd.f6 [1, 1, 0, 1, 0, 0, 1, 1]
noncomputable def L6_0 : Code := .seq (.seq (.region 3 R6_3 false) (.cond (.tmp 11) .skip (.exit 0))) (.seq (.block 1 (.region 5 R6_5 false)) (.region 4 R6_4 false))
theorem lpL6_0 : loops L6_0 = 0 := rfl
noncomputable def R6_6 : Array Oper := opsAt Tryd.f6 [1, 1, 1, 0]
noncomputable def M6_0 : Code := .seq (.region 6 R6_6 false) .ret
theorem lpM6_0 : loops M6_0 = 0 := rfl
theorem code6 : Tryd.f6.body = some (.seq (.region 0 R6_0 false) (.seq (.region 1 R6_1 false) (.seq (.seq (.region 2 R6_2 false) (.block 0 (.loop L6_0))) M6_0))) := by kernel_rfl
noncomputable def R7_0 : Array Oper := opsAt Tryd.f7 [0]
noncomputable def R7_1 : Array Oper := opsAt Tryd.f7 [1, 0, 0]
noncomputable def R7_2 : Array Oper := opsAt Tryd.f7 [1, 0, 1, 0, 0]
noncomputable def R7_3 : Array Oper := opsAt Tryd.f7 [1, 1, 0]
theorem code7 : Tryd.f7.body = some (.seq (.region 0 R7_0 false) (.seq (.seq (.region 1 R7_1 false) (.cond (.tmp 6) (.seq (.region 2 R7_2 false) .ret) .skip)) (.seq (.region 3 R7_3 false) .ret))) := by kernel_rfl
noncomputable def R8_0 : Array Oper := opsAt Tryd.f8 [0]
noncomputable def R8_1 : Array Oper := opsAt Tryd.f8 [1, 0, 0]
noncomputable def R8_2 : Array Oper := opsAt Tryd.f8 [1, 0, 1, 0, 0]
noncomputable def R8_3 : Array Oper := opsAt Tryd.f8 [1, 1, 0, 0]
noncomputable def R8_4 : Array Oper := opsAt Tryd.f8 [1, 1, 0, 1, 0, 0, 0, 0]
noncomputable def R8_6 : Array Oper := opsAt Tryd.f8 [1, 1, 0, 1, 0, 0, 1, 0, 0, 0]
noncomputable def R8_7 : Array Oper := opsAt Tryd.f8 [1, 1, 0, 1, 0, 0, 1, 0, 0, 1, 0, 0]
noncomputable def R8_5 : Array Oper := opsAt Tryd.f8 [1, 1, 0, 1, 0, 0, 1, 1]
noncomputable def L8_0 : Code := .seq (.seq (.region 4 R8_4 false) (.cond (.tmp 14) .skip (.exit 0))) (.seq (.block 1 (.seq (.region 6 R8_6 true) (.cond (.tmp 26) (.seq (.region 7 R8_7 false) .ret) .skip))) (.region 5 R8_5 false))
theorem lpL8_0 : loops L8_0 = 0 := rfl
noncomputable def R8_8 : Array Oper := opsAt Tryd.f8 [1, 1, 1, 0]
noncomputable def M8_0 : Code := .seq (.region 8 R8_8 false) .ret
theorem lpM8_0 : loops M8_0 = 0 := rfl
theorem code8 : Tryd.f8.body = some (.seq (.region 0 R8_0 false) (.seq (.seq (.region 1 R8_1 false) (.cond (.tmp 10) (.seq (.region 2 R8_2 false) .ret) .skip)) (.seq (.seq (.region 3 R8_3 false) (.block 0 (.loop L8_0))) M8_0))) := by kernel_rfl
noncomputable def R9_0 : Array Oper := opsAt Tryd.f9 [0]
noncomputable def R9_1 : Array Oper := opsAt Tryd.f9 [1, 0]
noncomputable def R9_2 : Array Oper := opsAt Tryd.f9 [1, 1, 0, 0]
noncomputable def R9_3 : Array Oper := opsAt Tryd.f9 [1, 1, 0, 1, 0, 0]
noncomputable def R9_4 : Array Oper := opsAt Tryd.f9 [1, 1, 1, 0, 0]
noncomputable def R9_5 : Array Oper := opsAt Tryd.f9 [1, 1, 1, 0, 1, 0, 0, 0, 0]
noncomputable def R9_7 : Array Oper := opsAt Tryd.f9 [1, 1, 1, 0, 1, 0, 0, 1, 0, 0, 0]
noncomputable def R9_8 : Array Oper := opsAt Tryd.f9 [1, 1, 1, 0, 1, 0, 0, 1, 0, 0, 1, 0, 0]
noncomputable def R9_9 : Array Oper := opsAt Tryd.f9 [1, 1, 1, 0, 1, 0, 0, 1, 0, 0, 1, 0, 1, 0, 0]
noncomputable def R9_10 : Array Oper := opsAt Tryd.f9 [1, 1, 1, 0, 1, 0, 0, 1, 0, 0, 1, 1]
noncomputable def R9_6 : Array Oper := opsAt Tryd.f9 [1, 1, 1, 0, 1, 0, 0, 1, 1]
noncomputable def L9_0 : Code := .seq (.seq (.region 5 R9_5 false) (.cond (.tmp 12) .skip (.exit 0))) (.seq (.block 1 (.seq (.region 7 R9_7 false) (.seq (.seq (.region 8 R9_8 false) (.cond (.tmp 26) (.seq (.region 9 R9_9 false) .ret) .skip)) (.region 10 R9_10 false)))) (.region 6 R9_6 false))
theorem lpL9_0 : loops L9_0 = 0 := rfl
noncomputable def R9_11 : Array Oper := opsAt Tryd.f9 [1, 1, 1, 1, 0]
noncomputable def M9_0 : Code := .seq (.region 11 R9_11 false) .ret
theorem lpM9_0 : loops M9_0 = 0 := rfl
theorem code9 : Tryd.f9.body = some (.seq (.region 0 R9_0 false) (.seq (.region 1 R9_1 false) (.seq (.seq (.region 2 R9_2 false) (.cond (.tmp 8) (.seq (.region 3 R9_3 false) .ret) .skip)) (.seq (.seq (.region 4 R9_4 false) (.block 0 (.loop L9_0))) M9_0)))) := by kernel_rfl
noncomputable def R10_0 : Array Oper := opsAt Tryd.f10 [0]
noncomputable def R10_1 : Array Oper := opsAt Tryd.f10 [1, 0]
noncomputable def R10_2 : Array Oper := opsAt Tryd.f10 [1, 1, 0, 0]
noncomputable def R10_3 : Array Oper := opsAt Tryd.f10 [1, 1, 0, 1, 0, 0]
noncomputable def R10_4 : Array Oper := opsAt Tryd.f10 [1, 1, 0, 1, 0, 1, 0, 0]
noncomputable def R10_5 : Array Oper := opsAt Tryd.f10 [1, 1, 0, 1, 0, 1, 1, 0]
noncomputable def R10_6 : Array Oper := opsAt Tryd.f10 [1, 1, 0, 1, 0, 1, 1, 1, 0, 0]
noncomputable def R10_7 : Array Oper := opsAt Tryd.f10 [1, 1, 0, 1, 0, 1, 1, 1, 1, 0]
noncomputable def R10_8 : Array Oper := opsAt Tryd.f10 [1, 1, 0, 1, 0, 1, 1, 1, 1, 1, 0, 0]
noncomputable def R10_9 : Array Oper := opsAt Tryd.f10 [1, 1, 1, 0]
noncomputable def R10_10 : Array Oper := opsAt Tryd.f10 [1, 1, 1, 1, 0]
noncomputable def R10_11 : Array Oper := opsAt Tryd.f10 [1, 1, 1, 1, 1, 0, 0]
noncomputable def R10_12 : Array Oper := opsAt Tryd.f10 [1, 1, 1, 1, 1, 0, 1, 0, 0]
noncomputable def R10_13 : Array Oper := opsAt Tryd.f10 [1, 1, 1, 1, 1, 0, 1, 0, 1, 0, 0]
noncomputable def R10_14 : Array Oper := opsAt Tryd.f10 [1, 1, 1, 1, 1, 0, 1, 0, 1, 1, 0]
noncomputable def R10_15 : Array Oper := opsAt Tryd.f10 [1, 1, 1, 1, 1, 0, 1, 0, 1, 1, 1, 0, 0]
noncomputable def R10_16 : Array Oper := opsAt Tryd.f10 [1, 1, 1, 1, 1, 1, 0, 0]
noncomputable def R10_17 : Array Oper := opsAt Tryd.f10 [1, 1, 1, 1, 1, 1, 0, 1, 0]
noncomputable def R10_18 : Array Oper := opsAt Tryd.f10 [1, 1, 1, 1, 1, 1, 1, 0, 0]
noncomputable def R10_19 : Array Oper := opsAt Tryd.f10 [1, 1, 1, 1, 1, 1, 1, 0, 1, 0, 0]
noncomputable def R10_20 : Array Oper := opsAt Tryd.f10 [1, 1, 1, 1, 1, 1, 1, 1, 0]
theorem code10 : Tryd.f10.body = some (.seq (.region 0 R10_0 false) (.seq (.region 1 R10_1 false) (.seq (.seq (.region 2 R10_2 false) (.block 0 (.seq (.region 3 R10_3 false) (.cond (.tmp 14) (.seq (.region 4 R10_4 false) .ret) (.seq (.region 5 R10_5 false) (.cond (.tmp 22) (.seq (.region 6 R10_6 false) .ret) (.seq (.region 7 R10_7 false) (.cond (.tmp 27) (.seq (.region 8 R10_8 true) .ret) .skip)))))))) (.seq (.region 9 R10_9 false) (.seq (.region 10 R10_10 false) (.seq (.seq (.region 11 R10_11 false) (.block 1 (.seq (.region 12 R10_12 false) (.cond (.tmp 53) (.seq (.region 13 R10_13 false) .ret) (.seq (.region 14 R10_14 false) (.cond (.tmp 61) (.seq (.region 15 R10_15 false) .ret) .skip)))))) (.seq (.seq (.region 16 R10_16 false) (.cond (.tmp 74) (.region 17 R10_17 false) .skip)) (.seq (.seq (.region 18 R10_18 false) (.cond (.tmp 80) (.seq (.region 19 R10_19 false) .ret) .skip)) (.seq (.region 20 R10_20 false) .ret))))))))) := by kernel_rfl
noncomputable def R11_0 : Array Oper := opsAt Tryd.f11 [0]
noncomputable def R11_1 : Array Oper := opsAt Tryd.f11 [1, 0]
noncomputable def R11_2 : Array Oper := opsAt Tryd.f11 [1, 1, 0]
noncomputable def R11_3 : Array Oper := opsAt Tryd.f11 [1, 1, 1, 0]
noncomputable def R11_4 : Array Oper := opsAt Tryd.f11 [1, 1, 1, 1, 0]
theorem code11 : Tryd.f11.body = some (.seq (.region 0 R11_0 false) (.seq (.region 1 R11_1 false) (.seq (.region 2 R11_2 false) (.seq (.region 3 R11_3 false) (.seq (.region 4 R11_4 false) .ret))))) := by kernel_rfl
noncomputable def R12_0 : Array Oper := opsAt Tryd.f12 [0]
noncomputable def R12_1 : Array Oper := opsAt Tryd.f12 [1, 0, 0]
noncomputable def R12_2 : Array Oper := opsAt Tryd.f12 [1, 0, 1, 0, 0]
noncomputable def R12_3 : Array Oper := opsAt Tryd.f12 [1, 1, 0]
noncomputable def R12_4 : Array Oper := opsAt Tryd.f12 [1, 1, 1, 0, 0]
noncomputable def R12_5 : Array Oper := opsAt Tryd.f12 [1, 1, 1, 0, 1, 0, 0, 0]
noncomputable def R12_6 : Array Oper := opsAt Tryd.f12 [1, 1, 1, 0, 1, 0, 0, 1, 1, 0, 0, 0]
noncomputable def R12_7 : Array Oper := opsAt Tryd.f12 [1, 1, 1, 0, 1, 0, 0, 1, 1, 0, 0, 1, 0]
noncomputable def R12_8 : Array Oper := opsAt Tryd.f12 [1, 1, 1, 0, 1, 0, 0, 1, 1, 0, 0, 1, 1, 0, 0]
noncomputable def R12_9 : Array Oper := opsAt Tryd.f12 [1, 1, 1, 0, 1, 0, 0, 1, 1, 0, 0, 1, 1, 0, 1, 0, 0]
noncomputable def R12_10 : Array Oper := opsAt Tryd.f12 [1, 1, 1, 0, 1, 0, 0, 1, 1, 0, 0, 1, 1, 1]
noncomputable def R12_11 : Array Oper := opsAt Tryd.f12 [1, 1, 1, 0, 1, 0, 0, 1, 1, 1]
noncomputable def L12_0 : Code := .seq (.region 5 R12_5 false) (.seq (.cond (.tmp 12) .skip (.exit 0)) (.seq (.block 1 (.seq (.region 6 R12_6 false) (.seq (.region 7 R12_7 false) (.seq (.seq (.region 8 R12_8 false) (.cond (.tmp 25) (.seq (.region 9 R12_9 false) .ret) .skip)) (.region 10 R12_10 false))))) (.region 11 R12_11 false)))
theorem lpL12_0 : loops L12_0 = 0 := rfl
noncomputable def R12_12 : Array Oper := opsAt Tryd.f12 [1, 1, 1, 1, 0]
noncomputable def M12_0 : Code := .seq (.region 12 R12_12 false) .ret
theorem lpM12_0 : loops M12_0 = 0 := rfl
theorem code12 : Tryd.f12.body = some (.seq (.region 0 R12_0 false) (.seq (.seq (.region 1 R12_1 false) (.cond (.tmp 8) (.seq (.region 2 R12_2 false) .ret) .skip)) (.seq (.region 3 R12_3 false) (.seq (.seq (.region 4 R12_4 false) (.block 0 (.loop L12_0))) M12_0)))) := by kernel_rfl
noncomputable def R13_0 : Array Oper := opsAt Tryd.f13 [0]
noncomputable def R13_1 : Array Oper := opsAt Tryd.f13 [1, 0]
noncomputable def R13_2 : Array Oper := opsAt Tryd.f13 [1, 1, 0]
noncomputable def R13_3 : Array Oper := opsAt Tryd.f13 [1, 1, 1, 0, 0]
noncomputable def R13_4 : Array Oper := opsAt Tryd.f13 [1, 1, 1, 0, 1, 0, 0, 0]
noncomputable def R13_5 : Array Oper := opsAt Tryd.f13 [1, 1, 1, 0, 1, 0, 0, 1, 1, 0, 0, 0]
noncomputable def R13_6 : Array Oper := opsAt Tryd.f13 [1, 1, 1, 0, 1, 0, 0, 1, 1, 0, 0, 1, 0]
noncomputable def R13_7 : Array Oper := opsAt Tryd.f13 [1, 1, 1, 0, 1, 0, 0, 1, 1, 0, 0, 1, 1, 0]
noncomputable def R13_8 : Array Oper := opsAt Tryd.f13 [1, 1, 1, 0, 1, 0, 0, 1, 1, 0, 0, 1, 1, 1, 0]
noncomputable def R13_9 : Array Oper := opsAt Tryd.f13 [1, 1, 1, 0, 1, 0, 0, 1, 1, 0, 0, 1, 1, 1, 1, 0, 0]
noncomputable def R13_10 : Array Oper := opsAt Tryd.f13 [1, 1, 1, 0, 1, 0, 0, 1, 1, 0, 0, 1, 1, 1, 1, 0, 1, 0, 0]
noncomputable def R13_11 : Array Oper := opsAt Tryd.f13 [1, 1, 1, 0, 1, 0, 0, 1, 1, 0, 0, 1, 1, 1, 1, 0, 1, 0, 1, 0]
noncomputable def R13_12 : Array Oper := opsAt Tryd.f13 [1, 1, 1, 0, 1, 0, 0, 1, 1, 0, 0, 1, 1, 1, 1, 0, 1, 0, 1, 1, 0]
noncomputable def R13_13 : Array Oper := opsAt Tryd.f13 [1, 1, 1, 0, 1, 0, 0, 1, 1, 0, 0, 1, 1, 1, 1, 0, 1, 0, 1, 1, 1, 0]
noncomputable def R13_14 : Array Oper := opsAt Tryd.f13 [1, 1, 1, 0, 1, 0, 0, 1, 1, 0, 0, 1, 1, 1, 1, 0, 1, 0, 1, 1, 1, 1, 0, 0]
noncomputable def R13_15 : Array Oper := opsAt Tryd.f13 [1, 1, 1, 0, 1, 0, 0, 1, 1, 0, 0, 1, 1, 1, 1, 0, 1, 0, 1, 1, 1, 1, 0, 1, 1]
noncomputable def R13_16 : Array Oper := opsAt Tryd.f13 [1, 1, 1, 0, 1, 0, 0, 1, 1, 0, 0, 1, 1, 1, 1, 0, 1, 0, 1, 1, 1, 1, 1, 0, 0]
noncomputable def R13_17 : Array Oper := opsAt Tryd.f13 [1, 1, 1, 0, 1, 0, 0, 1, 1, 0, 0, 1, 1, 1, 1, 0, 1, 0, 1, 1, 1, 1, 1, 0, 1, 0, 0]
noncomputable def R13_18 : Array Oper := opsAt Tryd.f13 [1, 1, 1, 0, 1, 0, 0, 1, 1, 0, 0, 1, 1, 1, 1, 0, 1, 0, 1, 1, 1, 1, 1, 0, 1, 0, 1, 0]
noncomputable def R13_19 : Array Oper := opsAt Tryd.f13 [1, 1, 1, 0, 1, 0, 0, 1, 1, 0, 0, 1, 1, 1, 1, 0, 1, 0, 1, 1, 1, 1, 1, 0, 1, 1, 0]
noncomputable def R13_20 : Array Oper := opsAt Tryd.f13 [1, 1, 1, 0, 1, 0, 0, 1, 1, 0, 0, 1, 1, 1, 1, 0, 1, 0, 1, 1, 1, 1, 1, 0, 1, 1, 1, 0, 0]
noncomputable def R13_21 : Array Oper := opsAt Tryd.f13 [1, 1, 1, 0, 1, 0, 0, 1, 1, 0, 0, 1, 1, 1, 1, 0, 1, 0, 1, 1, 1, 1, 1, 0, 1, 1, 1, 0, 1, 0]
noncomputable def R13_22 : Array Oper := opsAt Tryd.f13 [1, 1, 1, 0, 1, 0, 0, 1, 1, 0, 0, 1, 1, 1, 1, 0, 1, 0, 1, 1, 1, 1, 1, 0, 1, 1, 1, 1]
noncomputable def R13_23 : Array Oper := opsAt Tryd.f13 [1, 1, 1, 0, 1, 0, 0, 1, 1, 0, 0, 1, 1, 1, 1, 0, 1, 0, 1, 1, 1, 1, 1, 1, 0]
noncomputable def R13_24 : Array Oper := opsAt Tryd.f13 [1, 1, 1, 0, 1, 0, 0, 1, 1, 0, 0, 1, 1, 1, 1, 0, 1, 0, 1, 1, 1, 1, 1, 1, 1, 0]
noncomputable def R13_25 : Array Oper := opsAt Tryd.f13 [1, 1, 1, 0, 1, 0, 0, 1, 1, 0, 0, 1, 1, 1, 1, 0, 1, 0, 1, 1, 1, 1, 1, 1, 1, 1, 0]
noncomputable def R13_26 : Array Oper := opsAt Tryd.f13 [1, 1, 1, 0, 1, 0, 0, 1, 1, 0, 0, 1, 1, 1, 1, 0, 1, 0, 1, 1, 1, 1, 1, 1, 1, 1, 1, 0]
noncomputable def R13_27 : Array Oper := opsAt Tryd.f13 [1, 1, 1, 0, 1, 0, 0, 1, 1, 0, 0, 1, 1, 1, 1, 0, 1, 0, 1, 1, 1, 1, 1, 1, 1, 1, 1, 1, 0]
noncomputable def R13_28 : Array Oper := opsAt Tryd.f13 [1, 1, 1, 0, 1, 0, 0, 1, 1, 0, 0, 1, 1, 1, 1, 0, 1, 0, 1, 1, 1, 1, 1, 1, 1, 1, 1, 1, 1, 0]
noncomputable def R13_29 : Array Oper := opsAt Tryd.f13 [1, 1, 1, 0, 1, 0, 0, 1, 1, 0, 0, 1, 1, 1, 1, 1]
noncomputable def R13_30 : Array Oper := opsAt Tryd.f13 [1, 1, 1, 0, 1, 0, 0, 1, 1, 1]
noncomputable def L13_0 : Code := .seq (.region 4 R13_4 false) (.seq (.cond (.tmp 16) .skip (.exit 0)) (.seq (.block 1 (.seq (.region 5 R13_5 false) (.seq (.region 6 R13_6 false) (.seq (.region 7 R13_7 true) (.seq (.region 8 R13_8 false) (.seq (.seq (.region 9 R13_9 false) (.block 2 (.seq (.region 10 R13_10 false) (.cond (.tmp 32) (.region 11 R13_11 false) (.seq (.region 12 R13_12 false) (.cond (.tmp 40) (.region 13 R13_13 false) (.seq (.seq (.region 14 R13_14 false) (.cond (.tmp 45) .skip (.region 15 R13_15 false))) (.cond (.tmp 45) (.seq (.region 16 R13_16 false) (.seq (.seq (.region 17 R13_17 false) (.cond (.tmp 50) (.region 18 R13_18 false) .skip)) (.seq (.region 19 R13_19 false) (.seq (.seq (.region 20 R13_20 false) (.cond (.tmp 56) (.region 21 R13_21 false) .skip)) (.region 22 R13_22 false))))) (.seq (.region 23 R13_23 false) (.cond (.tmp 67) (.region 24 R13_24 true) (.seq (.region 25 R13_25 false) (.cond (.tmp 79) (.region 26 R13_26 true) (.seq (.region 27 R13_27 false) (.cond (.tmp 91) (.region 28 R13_28 true) .skip)))))))))))))) (.region 29 R13_29 true))))))) (.region 30 R13_30 false)))
theorem lpL13_0 : loops L13_0 = 0 := rfl
noncomputable def R13_31 : Array Oper := opsAt Tryd.f13 [1, 1, 1, 1, 0]
noncomputable def M13_0 : Code := .seq (.region 31 R13_31 false) .ret
theorem lpM13_0 : loops M13_0 = 0 := rfl
theorem code13 : Tryd.f13.body = some (.seq (.region 0 R13_0 false) (.seq (.region 1 R13_1 false) (.seq (.region 2 R13_2 false) (.seq (.seq (.region 3 R13_3 false) (.block 0 (.loop L13_0))) M13_0)))) := by kernel_rfl
noncomputable def R14_0 : Array Oper := opsAt Tryd.f14 [0]
noncomputable def R14_1 : Array Oper := opsAt Tryd.f14 [1, 0, 0]
noncomputable def R14_2 : Array Oper := opsAt Tryd.f14 [1, 0, 1, 0, 0]
noncomputable def R14_3 : Array Oper := opsAt Tryd.f14 [1, 1, 0, 0]
noncomputable def R14_4 : Array Oper := opsAt Tryd.f14 [1, 1, 0, 1, 0, 0]
noncomputable def R14_5 : Array Oper := opsAt Tryd.f14 [1, 1, 1, 0]
theorem code14 : Tryd.f14.body = some (.seq (.region 0 R14_0 false) (.seq (.seq (.region 1 R14_1 false) (.cond (.tmp 9) (.seq (.region 2 R14_2 false) .ret) .skip)) (.seq (.seq (.region 3 R14_3 false) (.cond (.tmp 14) (.seq (.region 4 R14_4 false) .ret) .skip)) (.seq (.region 5 R14_5 false) .ret)))) := by kernel_rfl
noncomputable def R15_0 : Array Oper := opsAt Tryd.f15 [0]
noncomputable def R15_1 : Array Oper := opsAt Tryd.f15 [1, 0, 0, 0, 0]
noncomputable def R15_2 : Array Oper := opsAt Tryd.f15 [1, 0, 0, 0, 1, 1]
noncomputable def R15_3 : Array Oper := opsAt Tryd.f15 [1, 0, 0, 1, 0, 0]
noncomputable def R15_4 : Array Oper := opsAt Tryd.f15 [1, 0, 0, 1, 1, 0]
noncomputable def R15_5 : Array Oper := opsAt Tryd.f15 [1, 0, 0, 1, 1, 1, 0, 0]
noncomputable def R15_6 : Array Oper := opsAt Tryd.f15 [1, 0, 0, 1, 1, 1, 1, 0]
noncomputable def R15_7 : Array Oper := opsAt Tryd.f15 [1, 0, 0, 1, 1, 1, 1, 1, 0, 0]
noncomputable def R15_8 : Array Oper := opsAt Tryd.f15 [1, 1, 0]
theorem code15 : Tryd.f15.body = some (.seq (.region 0 R15_0 false) (.seq (.block 0 (.seq (.seq (.region 1 R15_1 false) (.cond (.tmp 3) .skip (.region 2 R15_2 false))) (.cond (.tmp 3) (.seq (.region 3 R15_3 false) .ret) (.seq (.region 4 R15_4 false) (.cond (.tmp 20) (.seq (.region 5 R15_5 false) .ret) (.seq (.region 6 R15_6 false) (.cond (.tmp 29) (.seq (.region 7 R15_7 false) .ret) .skip))))))) (.seq (.region 8 R15_8 false) .ret))) := by kernel_rfl
noncomputable def R16_0 : Array Oper := opsAt Tryd.f16 [0]
noncomputable def R16_1 : Array Oper := opsAt Tryd.f16 [1, 0, 0]
noncomputable def R16_2 : Array Oper := opsAt Tryd.f16 [1, 0, 1, 0, 0]
noncomputable def R16_3 : Array Oper := opsAt Tryd.f16 [1, 1, 0, 0]
noncomputable def R16_4 : Array Oper := opsAt Tryd.f16 [1, 1, 0, 1, 0, 0]
noncomputable def R16_5 : Array Oper := opsAt Tryd.f16 [1, 1, 1, 0]
theorem code16 : Tryd.f16.body = some (.seq (.region 0 R16_0 false) (.seq (.seq (.region 1 R16_1 false) (.cond (.tmp 4) (.seq (.region 2 R16_2 false) .ret) .skip)) (.seq (.seq (.region 3 R16_3 false) (.cond (.tmp 10) (.seq (.region 4 R16_4 false) .ret) .skip)) (.seq (.region 5 R16_5 true) .ret)))) := by kernel_rfl
noncomputable def R17_0 : Array Oper := opsAt Tryd.f17 [0]
noncomputable def R17_1 : Array Oper := opsAt Tryd.f17 [1, 0, 0]
noncomputable def R17_2 : Array Oper := opsAt Tryd.f17 [1, 0, 1, 0, 0]
noncomputable def R17_3 : Array Oper := opsAt Tryd.f17 [1, 0, 1, 0, 1, 0, 0]
noncomputable def R17_4 : Array Oper := opsAt Tryd.f17 [1, 0, 1, 0, 1, 1, 0]
noncomputable def R17_5 : Array Oper := opsAt Tryd.f17 [1, 0, 1, 0, 1, 1, 1, 0, 0]
noncomputable def R17_6 : Array Oper := opsAt Tryd.f17 [1, 1, 0]
theorem code17 : Tryd.f17.body = some (.seq (.region 0 R17_0 false) (.seq (.seq (.region 1 R17_1 false) (.block 0 (.seq (.region 2 R17_2 false) (.cond (.tmp 10) (.seq (.region 3 R17_3 false) .ret) (.seq (.region 4 R17_4 false) (.cond (.tmp 13) (.seq (.region 5 R17_5 false) .ret) .skip)))))) (.seq (.region 6 R17_6 false) .ret))) := by kernel_rfl
noncomputable def R18_0 : Array Oper := opsAt Tryd.f18 [0]
noncomputable def R18_1 : Array Oper := opsAt Tryd.f18 [1, 0]
theorem code18 : Tryd.f18.body = some (.seq (.region 0 R18_0 false) (.seq (.region 1 R18_1 false) .ret)) := by kernel_rfl
noncomputable def R19_0 : Array Oper := opsAt Tryd.f19 [0]
noncomputable def R19_1 : Array Oper := opsAt Tryd.f19 [1, 0, 0, 0]
noncomputable def R19_2 : Array Oper := opsAt Tryd.f19 [1, 0, 0, 1, 0, 0]
noncomputable def R19_3 : Array Oper := opsAt Tryd.f19 [1, 0, 0, 1, 1, 0]
noncomputable def R19_4 : Array Oper := opsAt Tryd.f19 [1, 0, 0, 1, 1, 1, 0, 0]
noncomputable def R19_5 : Array Oper := opsAt Tryd.f19 [1, 1, 0]
theorem code19 : Tryd.f19.body = some (.seq (.region 0 R19_0 false) (.seq (.block 0 (.seq (.region 1 R19_1 false) (.cond (.tmp 3) (.seq (.region 2 R19_2 false) .ret) (.seq (.region 3 R19_3 false) (.cond (.tmp 7) (.seq (.region 4 R19_4 false) .ret) .skip))))) (.seq (.region 5 R19_5 false) .ret))) := by kernel_rfl
noncomputable def R20_0 : Array Oper := opsAt Tryd.f20 [0]
noncomputable def R20_1 : Array Oper := opsAt Tryd.f20 [1, 0, 0, 0]
noncomputable def R20_2 : Array Oper := opsAt Tryd.f20 [1, 0, 0, 1, 0, 0]
noncomputable def R20_3 : Array Oper := opsAt Tryd.f20 [1, 0, 0, 1, 1, 0]
noncomputable def R20_4 : Array Oper := opsAt Tryd.f20 [1, 0, 0, 1, 1, 1, 0, 0]
noncomputable def R20_5 : Array Oper := opsAt Tryd.f20 [1, 1, 0]
theorem code20 : Tryd.f20.body = some (.seq (.region 0 R20_0 false) (.seq (.block 0 (.seq (.region 1 R20_1 false) (.cond (.tmp 3) (.seq (.region 2 R20_2 false) .ret) (.seq (.region 3 R20_3 false) (.cond (.tmp 10) (.seq (.region 4 R20_4 false) .ret) .skip))))) (.seq (.region 5 R20_5 false) .ret))) := by kernel_rfl
noncomputable def R22_0 : Array Oper := opsAt Tryd.f22 [0]
noncomputable def R22_1 : Array Oper := opsAt Tryd.f22 [1, 0]
theorem code22 : Tryd.f22.body = some (.seq (.region 0 R22_0 false) (.seq (.region 1 R22_1 false) .ret)) := by kernel_rfl
noncomputable def R23_0 : Array Oper := opsAt Tryd.f23 [0]
noncomputable def R23_1 : Array Oper := opsAt Tryd.f23 [1, 0]
theorem code23 : Tryd.f23.body = some (.seq (.region 0 R23_0 false) (.seq (.region 1 R23_1 false) .ret)) := by kernel_rfl
noncomputable def R24_0 : Array Oper := opsAt Tryd.f24 [0]
noncomputable def R24_1 : Array Oper := opsAt Tryd.f24 [1, 0]
theorem code24 : Tryd.f24.body = some (.seq (.region 0 R24_0 false) (.seq (.region 1 R24_1 false) .ret)) := by kernel_rfl
def ext21 : List V → Option (V × List Eng.Obj)
  | [.c (.int .i64 n)] => if -9223372036854775808 ≤ n ∧ n ≤ 9223372036854775807 then some (.c (.string ⟨(Lib.itoa n).toArray⟩), []) else none
  | _ => none
theorem ext21_ok : ExtOk Tryd.prog 21 ext21 := by
  refine ⟨ent Tryd.func21 rfl rfl, fun args v objs h w Pf ι vals hr D => ?_⟩
  unfold ext21 at h
  split at h
  case h_2 => cases h
  rename_i n
  split at h
  case isFalse => cases h
  rename_i hn
  cases h
  simp only [Reps, Rep] at hr
  obtain ⟨u, us, rfl, rfl, rfl⟩ := hr
  refine (Tryd.strconv_Itoa n hn.1 hn.2 w (jt_of D.glob.2)).mono ?_
  rintro e w' ⟨rfl, k, os, rfl⟩
  have hp : ∀ g, Pf true g → (Sort.grow (w.drewN k) os).heap[g]? = w.heap[g]? := fun g hg => by
    have := D.lt g hg
    show (w.heap ++ os)[g]? = w.heap[g]?
    rw [Array.getElem?_append_left this]
  refine ⟨_, ι, 1, fun _ => False, rfl, ⟨rfl, rfl, rfl, ?_, hp, fun _ _ _ h => h⟩, by simp only [Rep], ⟨fun id vr o h => ?_, D.fresh, D.fresh', fun id vr o id' vr' o' g t t' h => ?_, fun g hg => ?_, D.sub, D.gl hp⟩⟩
  · show w.heap.size ≤ (w.heap ++ os).size
    rw [Array.size_append]; omega
  · simp [hpOf] at h
  · simp [hpOf] at h
  · have := D.lt g hg
    show g < (w.heap ++ os).size
    rw [Array.size_append]; omega
def X : FuncId → Option (List V → Option (V × List Eng.Obj))
  | 21 => some ext21
  | _ => none
noncomputable def C : Cfg := ⟨T, F, X, WR, OW, K⟩
theorem cT : C.T = T := by unfold C; with_reducible rfl
theorem cF : C.fn = F := by unfold C; with_reducible rfl
theorem cX : C.ext = X := by unfold C; with_reducible rfl
theorem cWR : C.wr = WR := by unfold C; with_reducible rfl
theorem cOW : C.own = OW := by unfold C; with_reducible rfl
theorem cK : C.keep = K := by unfold C; with_reducible rfl
theorem cfgOk : CfgOk Tryd.prog C where
  mixed := by kernel_rfl
  tab := tabOk
  fn := fun f fn h => okF_0 f fn h
  ext := by
    intro f m h
    have h' : X f = some m := h
    unfold X at h'
    split at h'
    · cases h'; exact ext21_ok
    · cases h'
end Go.Proofs.YtgegdikmmlinfaaDoor.Eng
