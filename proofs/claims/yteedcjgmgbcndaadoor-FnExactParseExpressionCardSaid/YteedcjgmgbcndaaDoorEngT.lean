/- The types, the functions and the loops' live slots that the laws reach, and that they are what the program has. No conditions. -/
import Derived.Test.YteedcjgmgbcndaaDoorEngTa
namespace Go.Proofs.YteedcjgmgbcndaaDoor.Eng
open Go Go.Proofs
set_option maxRecDepth 100000
noncomputable def R3_0 : Array Oper := opsAt Tryd.f3 [0]
noncomputable def R3_1 : Array Oper := opsAt Tryd.f3 [1, 0, 0]
noncomputable def R3_2 : Array Oper := opsAt Tryd.f3 [1, 0, 1, 0, 0]
noncomputable def R3_3 : Array Oper := opsAt Tryd.f3 [1, 1, 0]
noncomputable def R3_4 : Array Oper := opsAt Tryd.f3 [1, 1, 1, 0]
noncomputable def R3_5 : Array Oper := opsAt Tryd.f3 [1, 1, 1, 1, 0, 0]
noncomputable def R3_6 : Array Oper := opsAt Tryd.f3 [1, 1, 1, 1, 0, 1, 0, 0]
noncomputable def R3_7 : Array Oper := opsAt Tryd.f3 [1, 1, 1, 1, 1, 0]
noncomputable def R3_8 : Array Oper := opsAt Tryd.f3 [1, 1, 1, 1, 1, 1, 0]
noncomputable def R3_9 : Array Oper := opsAt Tryd.f3 [1, 1, 1, 1, 1, 1, 1, 0]
noncomputable def R3_10 : Array Oper := opsAt Tryd.f3 [1, 1, 1, 1, 1, 1, 1, 1, 0]
noncomputable def R3_11 : Array Oper := opsAt Tryd.f3 [1, 1, 1, 1, 1, 1, 1, 1, 1, 0, 0]
noncomputable def R3_12 : Array Oper := opsAt Tryd.f3 [1, 1, 1, 1, 1, 1, 1, 1, 1, 0, 1, 0, 0]
noncomputable def R3_13 : Array Oper := opsAt Tryd.f3 [1, 1, 1, 1, 1, 1, 1, 1, 1, 1, 0, 0]
noncomputable def R3_14 : Array Oper := opsAt Tryd.f3 [1, 1, 1, 1, 1, 1, 1, 1, 1, 1, 0, 1, 0, 0]
noncomputable def R3_15 : Array Oper := opsAt Tryd.f3 [1, 1, 1, 1, 1, 1, 1, 1, 1, 1, 1, 0]
noncomputable def R3_16 : Array Oper := opsAt Tryd.f3 [1, 1, 1, 1, 1, 1, 1, 1, 1, 1, 1, 1, 0, 0]
noncomputable def R3_17 : Array Oper := opsAt Tryd.f3 [1, 1, 1, 1, 1, 1, 1, 1, 1, 1, 1, 1, 0, 1, 0, 0]
noncomputable def R3_18 : Array Oper := opsAt Tryd.f3 [1, 1, 1, 1, 1, 1, 1, 1, 1, 1, 1, 1, 1, 0]
noncomputable def R3_19 : Array Oper := opsAt Tryd.f3 [1, 1, 1, 1, 1, 1, 1, 1, 1, 1, 1, 1, 1, 1, 0]
noncomputable def R3_20 : Array Oper := opsAt Tryd.f3 [1, 1, 1, 1, 1, 1, 1, 1, 1, 1, 1, 1, 1, 1, 1, 0, 0]
noncomputable def R3_21 : Array Oper := opsAt Tryd.f3 [1, 1, 1, 1, 1, 1, 1, 1, 1, 1, 1, 1, 1, 1, 1, 0, 1, 0, 0]
noncomputable def R3_22 : Array Oper := opsAt Tryd.f3 [1, 1, 1, 1, 1, 1, 1, 1, 1, 1, 1, 1, 1, 1, 1, 1, 0, 0]
noncomputable def R3_23 : Array Oper := opsAt Tryd.f3 [1, 1, 1, 1, 1, 1, 1, 1, 1, 1, 1, 1, 1, 1, 1, 1, 0, 1, 0, 0]
noncomputable def R3_24 : Array Oper := opsAt Tryd.f3 [1, 1, 1, 1, 1, 1, 1, 1, 1, 1, 1, 1, 1, 1, 1, 1, 1, 0]
theorem code3 : Tryd.f3.body = some (.seq (.region 0 R3_0 false) (.seq (.seq (.region 1 R3_1 false) (.cond (.tmp 13) (.seq (.region 2 R3_2 false) .ret) .skip)) (.seq (.region 3 R3_3 false) (.seq (.region 4 R3_4 false) (.seq (.seq (.region 5 R3_5 false) (.cond (.tmp 32) (.seq (.region 6 R3_6 false) .ret) .skip)) (.seq (.region 7 R3_7 false) (.seq (.region 8 R3_8 false) (.seq (.region 9 R3_9 false) (.seq (.region 10 R3_10 false) (.seq (.seq (.region 11 R3_11 false) (.cond (.tmp 40) (.seq (.region 12 R3_12 false) .ret) .skip)) (.seq (.seq (.region 13 R3_13 false) (.cond (.tmp 43) (.seq (.region 14 R3_14 false) .ret) .skip)) (.seq (.region 15 R3_15 false) (.seq (.seq (.region 16 R3_16 false) (.cond (.tmp 57) (.seq (.region 17 R3_17 false) .ret) .skip)) (.seq (.region 18 R3_18 false) (.seq (.region 19 R3_19 false) (.seq (.seq (.region 20 R3_20 false) (.cond (.tmp 62) (.seq (.region 21 R3_21 false) .ret) .skip)) (.seq (.seq (.region 22 R3_22 false) (.cond (.tmp 65) (.seq (.region 23 R3_23 false) .ret) .skip)) (.seq (.region 24 R3_24 false) .ret)))))))))))))))))) := by kernel_rfl
noncomputable def R4_0 : Array Oper := opsAt Tryd.f4 [0]
noncomputable def R4_1 : Array Oper := opsAt Tryd.f4 [1, 0]
theorem code4 : Tryd.f4.body = some (.seq (.region 0 R4_0 false) (.seq (.region 1 R4_1 false) .ret)) := by kernel_rfl
noncomputable def R5_0 : Array Oper := opsAt Tryd.f5 [0]
noncomputable def R5_1 : Array Oper := opsAt Tryd.f5 [1, 0, 0]
noncomputable def R5_2 : Array Oper := opsAt Tryd.f5 [1, 0, 1, 0, 0]
noncomputable def R5_3 : Array Oper := opsAt Tryd.f5 [1, 1, 0]
noncomputable def R5_4 : Array Oper := opsAt Tryd.f5 [1, 1, 1, 0]
noncomputable def R5_5 : Array Oper := opsAt Tryd.f5 [1, 1, 1, 1, 0, 0]
noncomputable def R5_6 : Array Oper := opsAt Tryd.f5 [1, 1, 1, 1, 0, 1, 0, 0]
noncomputable def R5_7 : Array Oper := opsAt Tryd.f5 [1, 1, 1, 1, 1, 0]
theorem code5 : Tryd.f5.body = some (.seq (.region 0 R5_0 false) (.seq (.seq (.region 1 R5_1 false) (.cond (.tmp 7) (.seq (.region 2 R5_2 false) .ret) .skip)) (.seq (.region 3 R5_3 false) (.seq (.region 4 R5_4 false) (.seq (.seq (.region 5 R5_5 false) (.cond (.tmp 30) (.seq (.region 6 R5_6 false) .ret) .skip)) (.seq (.region 7 R5_7 false) .ret)))))) := by kernel_rfl
noncomputable def R6_0 : Array Oper := opsAt Tryd.f6 [0]
noncomputable def R6_1 : Array Oper := opsAt Tryd.f6 [1, 0, 0]
noncomputable def R6_2 : Array Oper := opsAt Tryd.f6 [1, 0, 1, 0, 0]
noncomputable def R6_3 : Array Oper := opsAt Tryd.f6 [1, 1, 0, 0]
noncomputable def R6_4 : Array Oper := opsAt Tryd.f6 [1, 1, 0, 1, 0, 0, 0, 0]
noncomputable def R6_6 : Array Oper := opsAt Tryd.f6 [1, 1, 0, 1, 0, 0, 1, 0, 0, 0]
noncomputable def R6_7 : Array Oper := opsAt Tryd.f6 [1, 1, 0, 1, 0, 0, 1, 0, 0, 1, 0, 0]
noncomputable def R6_5 : Array Oper := opsAt Tryd.f6 [1, 1, 0, 1, 0, 0, 1, 1]
noncomputable def L6_0 : Code := .seq (.seq (.region 4 R6_4 false) (.cond (.tmp 14) .skip (.exit 0))) (.seq (.block 1 (.seq (.region 6 R6_6 true) (.cond (.tmp 26) (.seq (.region 7 R6_7 false) .ret) .skip))) (.region 5 R6_5 false))
theorem lpL6_0 : loops L6_0 = 0 := rfl
noncomputable def R6_8 : Array Oper := opsAt Tryd.f6 [1, 1, 1, 0]
noncomputable def M6_0 : Code := .seq (.region 8 R6_8 false) .ret
theorem lpM6_0 : loops M6_0 = 0 := rfl
theorem code6 : Tryd.f6.body = some (.seq (.region 0 R6_0 false) (.seq (.seq (.region 1 R6_1 false) (.cond (.tmp 10) (.seq (.region 2 R6_2 false) .ret) .skip)) (.seq (.seq (.region 3 R6_3 false) (.block 0 (.loop L6_0))) M6_0))) := by kernel_rfl
noncomputable def R7_0 : Array Oper := opsAt Tryd.f7 [0]
noncomputable def R7_1 : Array Oper := opsAt Tryd.f7 [1, 0, 0]
noncomputable def R7_2 : Array Oper := opsAt Tryd.f7 [1, 0, 1, 0, 0, 0, 0]
noncomputable def R7_4 : Array Oper := opsAt Tryd.f7 [1, 0, 1, 0, 0, 1, 0, 0, 0]
noncomputable def R7_5 : Array Oper := opsAt Tryd.f7 [1, 0, 1, 0, 0, 1, 0, 0, 1, 0]
noncomputable def R7_6 : Array Oper := opsAt Tryd.f7 [1, 0, 1, 0, 0, 1, 0, 0, 1, 1, 0]
noncomputable def R7_7 : Array Oper := opsAt Tryd.f7 [1, 0, 1, 0, 0, 1, 0, 0, 1, 1, 1]
noncomputable def R7_3 : Array Oper := opsAt Tryd.f7 [1, 0, 1, 0, 0, 1, 1]
noncomputable def L7_0 : Code := .seq (.seq (.region 2 R7_2 false) (.cond (.tmp 9) .skip (.exit 0))) (.seq (.block 1 (.seq (.region 4 R7_4 false) (.seq (.region 5 R7_5 false) (.seq (.region 6 R7_6 false) (.region 7 R7_7 false))))) (.region 3 R7_3 false))
theorem lpL7_0 : loops L7_0 = 0 := rfl
noncomputable def R7_8 : Array Oper := opsAt Tryd.f7 [1, 1, 0]
noncomputable def M7_0 : Code := .seq (.region 8 R7_8 false) .ret
theorem lpM7_0 : loops M7_0 = 0 := rfl
theorem code7 : Tryd.f7.body = some (.seq (.region 0 R7_0 false) (.seq (.seq (.region 1 R7_1 false) (.block 0 (.loop L7_0))) M7_0)) := by kernel_rfl
noncomputable def R8_0 : Array Oper := opsAt Tryd.f8 [0]
noncomputable def R8_1 : Array Oper := opsAt Tryd.f8 [1, 0, 0]
noncomputable def R8_2 : Array Oper := opsAt Tryd.f8 [1, 0, 1, 0, 0, 0, 0]
noncomputable def R8_4 : Array Oper := opsAt Tryd.f8 [1, 0, 1, 0, 0, 1, 0, 0, 0, 0]
noncomputable def R8_5 : Array Oper := opsAt Tryd.f8 [1, 0, 1, 0, 0, 1, 0, 0, 0, 1, 0, 0]
noncomputable def R8_6 : Array Oper := opsAt Tryd.f8 [1, 0, 1, 0, 0, 1, 0, 0, 1, 0]
noncomputable def R8_7 : Array Oper := opsAt Tryd.f8 [1, 0, 1, 0, 0, 1, 0, 0, 1, 1, 0, 0]
noncomputable def R8_8 : Array Oper := opsAt Tryd.f8 [1, 0, 1, 0, 0, 1, 0, 0, 1, 1, 0, 1, 0, 0]
noncomputable def R8_9 : Array Oper := opsAt Tryd.f8 [1, 0, 1, 0, 0, 1, 0, 0, 1, 1, 1]
noncomputable def R8_3 : Array Oper := opsAt Tryd.f8 [1, 0, 1, 0, 0, 1, 1]
noncomputable def L8_0 : Code := .seq (.seq (.region 2 R8_2 false) (.cond (.tmp 9) .skip (.exit 0))) (.seq (.block 1 (.seq (.seq (.region 4 R8_4 false) (.cond (.tmp 18) (.seq (.region 5 R8_5 false) .ret) .skip)) (.seq (.region 6 R8_6 false) (.seq (.seq (.region 7 R8_7 false) (.cond (.tmp 27) (.seq (.region 8 R8_8 false) .ret) .skip)) (.region 9 R8_9 false))))) (.region 3 R8_3 false))
theorem lpL8_0 : loops L8_0 = 0 := rfl
noncomputable def R8_10 : Array Oper := opsAt Tryd.f8 [1, 1, 0]
noncomputable def M8_0 : Code := .seq (.region 10 R8_10 false) .ret
theorem lpM8_0 : loops M8_0 = 0 := rfl
theorem code8 : Tryd.f8.body = some (.seq (.region 0 R8_0 false) (.seq (.seq (.region 1 R8_1 false) (.block 0 (.loop L8_0))) M8_0)) := by kernel_rfl
noncomputable def R9_0 : Array Oper := opsAt Tryd.f9 [0]
noncomputable def R9_1 : Array Oper := opsAt Tryd.f9 [1, 0, 0]
noncomputable def R9_2 : Array Oper := opsAt Tryd.f9 [1, 0, 1, 0, 0]
noncomputable def R9_3 : Array Oper := opsAt Tryd.f9 [1, 1, 0]
noncomputable def R9_4 : Array Oper := opsAt Tryd.f9 [1, 1, 1, 0]
noncomputable def R9_5 : Array Oper := opsAt Tryd.f9 [1, 1, 1, 1, 0, 0]
noncomputable def R9_6 : Array Oper := opsAt Tryd.f9 [1, 1, 1, 1, 0, 1, 0, 0]
noncomputable def R9_7 : Array Oper := opsAt Tryd.f9 [1, 1, 1, 1, 1, 0]
theorem code9 : Tryd.f9.body = some (.seq (.region 0 R9_0 false) (.seq (.seq (.region 1 R9_1 false) (.cond (.tmp 7) (.seq (.region 2 R9_2 false) .ret) .skip)) (.seq (.region 3 R9_3 false) (.seq (.region 4 R9_4 false) (.seq (.seq (.region 5 R9_5 true) (.cond (.tmp 49) (.seq (.region 6 R9_6 false) .ret) .skip)) (.seq (.region 7 R9_7 false) .ret)))))) := by kernel_rfl
noncomputable def R10_0 : Array Oper := opsAt Tryd.f10 [0]
noncomputable def R10_1 : Array Oper := opsAt Tryd.f10 [1, 0, 0, 0, 0]
noncomputable def R10_2 : Array Oper := opsAt Tryd.f10 [1, 0, 0, 1, 0, 0]
noncomputable def R10_3 : Array Oper := opsAt Tryd.f10 [1, 0, 0, 1, 0, 1, 0, 0, 0]
noncomputable def R10_4 : Array Oper := opsAt Tryd.f10 [1, 0, 0, 1, 0, 1, 0, 0, 1, 0]
noncomputable def R10_5 : Array Oper := opsAt Tryd.f10 [1, 0, 0, 1, 0, 1, 0, 0, 1, 1, 0]
noncomputable def R10_6 : Array Oper := opsAt Tryd.f10 [1, 0, 0, 1, 0, 1, 0, 0, 1, 1, 1, 0]
noncomputable def R10_7 : Array Oper := opsAt Tryd.f10 [1, 0, 0, 1, 0, 1, 1, 0]
noncomputable def R10_8 : Array Oper := opsAt Tryd.f10 [1, 0, 0, 1, 0, 1, 1, 1]
noncomputable def L10_0 : Code := .seq (.seq (.region 1 R10_1 false) (.cond (.tmp 9) .skip (.exit 0))) (.block 1 (.seq (.region 2 R10_2 false) (.seq (.block 2 (.seq (.region 3 R10_3 false) (.cond (.tmp 10) (.region 4 R10_4 false) (.seq (.region 5 R10_5 false) (.cond (.tmp 13) (.region 6 R10_6 false) .ret))))) (.seq (.region 7 R10_7 false) (.region 8 R10_8 false)))))
theorem lpL10_0 : loops L10_0 = 0 := rfl
theorem code10 : Tryd.f10.body = some (.seq (.region 0 R10_0 false) (.block 0 (.loop L10_0))) := by kernel_rfl
noncomputable def R11_0 : Array Oper := opsAt Tryd.f11 [0]
noncomputable def R11_1 : Array Oper := opsAt Tryd.f11 [1, 0, 0]
noncomputable def R11_2 : Array Oper := opsAt Tryd.f11 [1, 0, 1, 0, 0]
noncomputable def R11_3 : Array Oper := opsAt Tryd.f11 [1, 1, 0]
noncomputable def R11_4 : Array Oper := opsAt Tryd.f11 [1, 1, 1, 0, 0]
noncomputable def R11_5 : Array Oper := opsAt Tryd.f11 [1, 1, 1, 0, 1, 0, 0, 0]
noncomputable def R11_6 : Array Oper := opsAt Tryd.f11 [1, 1, 1, 0, 1, 0, 0, 1, 1, 0, 0, 0]
noncomputable def R11_7 : Array Oper := opsAt Tryd.f11 [1, 1, 1, 0, 1, 0, 0, 1, 1, 0, 0, 1, 0]
noncomputable def R11_8 : Array Oper := opsAt Tryd.f11 [1, 1, 1, 0, 1, 0, 0, 1, 1, 0, 0, 1, 1, 0, 0]
noncomputable def R11_9 : Array Oper := opsAt Tryd.f11 [1, 1, 1, 0, 1, 0, 0, 1, 1, 0, 0, 1, 1, 0, 1, 0, 0]
noncomputable def R11_10 : Array Oper := opsAt Tryd.f11 [1, 1, 1, 0, 1, 0, 0, 1, 1, 0, 0, 1, 1, 1]
noncomputable def R11_11 : Array Oper := opsAt Tryd.f11 [1, 1, 1, 0, 1, 0, 0, 1, 1, 1]
noncomputable def L11_0 : Code := .seq (.region 5 R11_5 false) (.seq (.cond (.tmp 12) .skip (.exit 0)) (.seq (.block 1 (.seq (.region 6 R11_6 false) (.seq (.region 7 R11_7 false) (.seq (.seq (.region 8 R11_8 false) (.cond (.tmp 25) (.seq (.region 9 R11_9 false) .ret) .skip)) (.region 10 R11_10 false))))) (.region 11 R11_11 false)))
theorem lpL11_0 : loops L11_0 = 0 := rfl
noncomputable def R11_12 : Array Oper := opsAt Tryd.f11 [1, 1, 1, 1, 0]
noncomputable def M11_0 : Code := .seq (.region 12 R11_12 false) .ret
theorem lpM11_0 : loops M11_0 = 0 := rfl
theorem code11 : Tryd.f11.body = some (.seq (.region 0 R11_0 false) (.seq (.seq (.region 1 R11_1 false) (.cond (.tmp 8) (.seq (.region 2 R11_2 false) .ret) .skip)) (.seq (.region 3 R11_3 false) (.seq (.seq (.region 4 R11_4 false) (.block 0 (.loop L11_0))) M11_0)))) := by kernel_rfl
noncomputable def R12_0 : Array Oper := opsAt Tryd.f12 [0]
noncomputable def R12_1 : Array Oper := opsAt Tryd.f12 [1, 0]
noncomputable def R12_2 : Array Oper := opsAt Tryd.f12 [1, 1, 0]
noncomputable def R12_3 : Array Oper := opsAt Tryd.f12 [1, 1, 1, 0, 0]
noncomputable def R12_4 : Array Oper := opsAt Tryd.f12 [1, 1, 1, 0, 1, 0, 0, 0]
noncomputable def R12_5 : Array Oper := opsAt Tryd.f12 [1, 1, 1, 0, 1, 0, 0, 1, 1, 0, 0, 0]
noncomputable def R12_6 : Array Oper := opsAt Tryd.f12 [1, 1, 1, 0, 1, 0, 0, 1, 1, 0, 0, 1, 0]
noncomputable def R12_7 : Array Oper := opsAt Tryd.f12 [1, 1, 1, 0, 1, 0, 0, 1, 1, 0, 0, 1, 1, 0]
noncomputable def R12_8 : Array Oper := opsAt Tryd.f12 [1, 1, 1, 0, 1, 0, 0, 1, 1, 0, 0, 1, 1, 1, 0]
noncomputable def R12_9 : Array Oper := opsAt Tryd.f12 [1, 1, 1, 0, 1, 0, 0, 1, 1, 0, 0, 1, 1, 1, 1, 0, 0]
noncomputable def R12_10 : Array Oper := opsAt Tryd.f12 [1, 1, 1, 0, 1, 0, 0, 1, 1, 0, 0, 1, 1, 1, 1, 0, 1, 0, 0]
noncomputable def R12_11 : Array Oper := opsAt Tryd.f12 [1, 1, 1, 0, 1, 0, 0, 1, 1, 0, 0, 1, 1, 1, 1, 0, 1, 0, 1, 0]
noncomputable def R12_12 : Array Oper := opsAt Tryd.f12 [1, 1, 1, 0, 1, 0, 0, 1, 1, 0, 0, 1, 1, 1, 1, 0, 1, 0, 1, 1, 0]
noncomputable def R12_13 : Array Oper := opsAt Tryd.f12 [1, 1, 1, 0, 1, 0, 0, 1, 1, 0, 0, 1, 1, 1, 1, 0, 1, 0, 1, 1, 1, 0]
noncomputable def R12_14 : Array Oper := opsAt Tryd.f12 [1, 1, 1, 0, 1, 0, 0, 1, 1, 0, 0, 1, 1, 1, 1, 0, 1, 0, 1, 1, 1, 1, 0, 0]
noncomputable def R12_15 : Array Oper := opsAt Tryd.f12 [1, 1, 1, 0, 1, 0, 0, 1, 1, 0, 0, 1, 1, 1, 1, 0, 1, 0, 1, 1, 1, 1, 0, 1, 1]
noncomputable def R12_16 : Array Oper := opsAt Tryd.f12 [1, 1, 1, 0, 1, 0, 0, 1, 1, 0, 0, 1, 1, 1, 1, 0, 1, 0, 1, 1, 1, 1, 1, 0, 0]
noncomputable def R12_17 : Array Oper := opsAt Tryd.f12 [1, 1, 1, 0, 1, 0, 0, 1, 1, 0, 0, 1, 1, 1, 1, 0, 1, 0, 1, 1, 1, 1, 1, 0, 1, 0, 0]
noncomputable def R12_18 : Array Oper := opsAt Tryd.f12 [1, 1, 1, 0, 1, 0, 0, 1, 1, 0, 0, 1, 1, 1, 1, 0, 1, 0, 1, 1, 1, 1, 1, 0, 1, 0, 1, 0]
noncomputable def R12_19 : Array Oper := opsAt Tryd.f12 [1, 1, 1, 0, 1, 0, 0, 1, 1, 0, 0, 1, 1, 1, 1, 0, 1, 0, 1, 1, 1, 1, 1, 0, 1, 1, 0]
noncomputable def R12_20 : Array Oper := opsAt Tryd.f12 [1, 1, 1, 0, 1, 0, 0, 1, 1, 0, 0, 1, 1, 1, 1, 0, 1, 0, 1, 1, 1, 1, 1, 0, 1, 1, 1, 0, 0]
noncomputable def R12_21 : Array Oper := opsAt Tryd.f12 [1, 1, 1, 0, 1, 0, 0, 1, 1, 0, 0, 1, 1, 1, 1, 0, 1, 0, 1, 1, 1, 1, 1, 0, 1, 1, 1, 0, 1, 0]
noncomputable def R12_22 : Array Oper := opsAt Tryd.f12 [1, 1, 1, 0, 1, 0, 0, 1, 1, 0, 0, 1, 1, 1, 1, 0, 1, 0, 1, 1, 1, 1, 1, 0, 1, 1, 1, 1]
noncomputable def R12_23 : Array Oper := opsAt Tryd.f12 [1, 1, 1, 0, 1, 0, 0, 1, 1, 0, 0, 1, 1, 1, 1, 0, 1, 0, 1, 1, 1, 1, 1, 1, 0]
noncomputable def R12_24 : Array Oper := opsAt Tryd.f12 [1, 1, 1, 0, 1, 0, 0, 1, 1, 0, 0, 1, 1, 1, 1, 0, 1, 0, 1, 1, 1, 1, 1, 1, 1, 0]
noncomputable def R12_25 : Array Oper := opsAt Tryd.f12 [1, 1, 1, 0, 1, 0, 0, 1, 1, 0, 0, 1, 1, 1, 1, 0, 1, 0, 1, 1, 1, 1, 1, 1, 1, 1, 0]
noncomputable def R12_26 : Array Oper := opsAt Tryd.f12 [1, 1, 1, 0, 1, 0, 0, 1, 1, 0, 0, 1, 1, 1, 1, 0, 1, 0, 1, 1, 1, 1, 1, 1, 1, 1, 1, 0]
noncomputable def R12_27 : Array Oper := opsAt Tryd.f12 [1, 1, 1, 0, 1, 0, 0, 1, 1, 0, 0, 1, 1, 1, 1, 0, 1, 0, 1, 1, 1, 1, 1, 1, 1, 1, 1, 1, 0]
noncomputable def R12_28 : Array Oper := opsAt Tryd.f12 [1, 1, 1, 0, 1, 0, 0, 1, 1, 0, 0, 1, 1, 1, 1, 0, 1, 0, 1, 1, 1, 1, 1, 1, 1, 1, 1, 1, 1, 0]
noncomputable def R12_29 : Array Oper := opsAt Tryd.f12 [1, 1, 1, 0, 1, 0, 0, 1, 1, 0, 0, 1, 1, 1, 1, 1]
noncomputable def R12_30 : Array Oper := opsAt Tryd.f12 [1, 1, 1, 0, 1, 0, 0, 1, 1, 1]
noncomputable def L12_0 : Code := .seq (.region 4 R12_4 false) (.seq (.cond (.tmp 16) .skip (.exit 0)) (.seq (.block 1 (.seq (.region 5 R12_5 false) (.seq (.region 6 R12_6 false) (.seq (.region 7 R12_7 true) (.seq (.region 8 R12_8 false) (.seq (.seq (.region 9 R12_9 false) (.block 2 (.seq (.region 10 R12_10 false) (.cond (.tmp 32) (.region 11 R12_11 false) (.seq (.region 12 R12_12 false) (.cond (.tmp 40) (.region 13 R12_13 false) (.seq (.seq (.region 14 R12_14 false) (.cond (.tmp 45) .skip (.region 15 R12_15 false))) (.cond (.tmp 45) (.seq (.region 16 R12_16 false) (.seq (.seq (.region 17 R12_17 false) (.cond (.tmp 50) (.region 18 R12_18 false) .skip)) (.seq (.region 19 R12_19 false) (.seq (.seq (.region 20 R12_20 false) (.cond (.tmp 56) (.region 21 R12_21 false) .skip)) (.region 22 R12_22 false))))) (.seq (.region 23 R12_23 false) (.cond (.tmp 67) (.region 24 R12_24 true) (.seq (.region 25 R12_25 false) (.cond (.tmp 79) (.region 26 R12_26 true) (.seq (.region 27 R12_27 false) (.cond (.tmp 91) (.region 28 R12_28 true) .skip)))))))))))))) (.region 29 R12_29 true))))))) (.region 30 R12_30 false)))
theorem lpL12_0 : loops L12_0 = 0 := rfl
noncomputable def R12_31 : Array Oper := opsAt Tryd.f12 [1, 1, 1, 1, 0]
noncomputable def M12_0 : Code := .seq (.region 31 R12_31 false) .ret
theorem lpM12_0 : loops M12_0 = 0 := rfl
theorem code12 : Tryd.f12.body = some (.seq (.region 0 R12_0 false) (.seq (.region 1 R12_1 false) (.seq (.region 2 R12_2 false) (.seq (.seq (.region 3 R12_3 false) (.block 0 (.loop L12_0))) M12_0)))) := by kernel_rfl
noncomputable def R13_0 : Array Oper := opsAt Tryd.f13 [0]
noncomputable def R13_1 : Array Oper := opsAt Tryd.f13 [1, 0, 0]
noncomputable def R13_2 : Array Oper := opsAt Tryd.f13 [1, 0, 1, 0, 0]
noncomputable def R13_3 : Array Oper := opsAt Tryd.f13 [1, 1, 0, 0]
noncomputable def R13_4 : Array Oper := opsAt Tryd.f13 [1, 1, 0, 1, 0, 0]
noncomputable def R13_5 : Array Oper := opsAt Tryd.f13 [1, 1, 1, 0]
theorem code13 : Tryd.f13.body = some (.seq (.region 0 R13_0 false) (.seq (.seq (.region 1 R13_1 false) (.cond (.tmp 9) (.seq (.region 2 R13_2 false) .ret) .skip)) (.seq (.seq (.region 3 R13_3 false) (.cond (.tmp 14) (.seq (.region 4 R13_4 false) .ret) .skip)) (.seq (.region 5 R13_5 false) .ret)))) := by kernel_rfl
noncomputable def R14_0 : Array Oper := opsAt Tryd.f14 [0]
noncomputable def R14_1 : Array Oper := opsAt Tryd.f14 [1, 0, 0, 0, 0]
noncomputable def R14_2 : Array Oper := opsAt Tryd.f14 [1, 0, 0, 1, 0, 0, 0]
noncomputable def R14_3 : Array Oper := opsAt Tryd.f14 [1, 0, 0, 1, 0, 0, 1, 0, 0]
noncomputable def R14_4 : Array Oper := opsAt Tryd.f14 [1, 0, 0, 1, 0, 0, 1, 0, 1]
noncomputable def R14_5 : Array Oper := opsAt Tryd.f14 [1, 0, 0, 1, 0, 0, 1, 1, 0]
noncomputable def R14_6 : Array Oper := opsAt Tryd.f14 [1, 0, 0, 1, 0, 0, 1, 1, 1, 0, 0]
noncomputable def R14_7 : Array Oper := opsAt Tryd.f14 [1, 0, 0, 1, 0, 0, 1, 1, 1, 0, 1]
noncomputable def L14_0 : Code := .seq (.seq (.region 1 R14_1 false) (.cond (.tmp 8) .skip (.exit 0))) (.block 1 (.block 2 (.seq (.region 2 R14_2 false) (.cond (.tmp 9) (.seq (.region 3 R14_3 false) (.region 4 R14_4 false)) (.seq (.region 5 R14_5 false) (.cond (.tmp 16) (.seq (.region 6 R14_6 false) (.region 7 R14_7 false)) .ret))))))
theorem lpL14_0 : loops L14_0 = 0 := rfl
theorem code14 : Tryd.f14.body = some (.seq (.region 0 R14_0 false) (.block 0 (.loop L14_0))) := by kernel_rfl
noncomputable def R15_0 : Array Oper := opsAt Tryd.f15 [0]
noncomputable def R15_1 : Array Oper := opsAt Tryd.f15 [1, 0]
noncomputable def R15_2 : Array Oper := opsAt Tryd.f15 [1, 1, 0, 0]
noncomputable def R15_3 : Array Oper := opsAt Tryd.f15 [1, 1, 0, 1, 0, 0]
noncomputable def R15_4 : Array Oper := opsAt Tryd.f15 [1, 1, 1, 0, 0]
noncomputable def R15_5 : Array Oper := opsAt Tryd.f15 [1, 1, 1, 0, 1, 0, 0, 0, 0]
noncomputable def R15_7 : Array Oper := opsAt Tryd.f15 [1, 1, 1, 0, 1, 0, 0, 1, 0, 0, 0]
noncomputable def R15_8 : Array Oper := opsAt Tryd.f15 [1, 1, 1, 0, 1, 0, 0, 1, 0, 0, 1, 0, 0]
noncomputable def R15_9 : Array Oper := opsAt Tryd.f15 [1, 1, 1, 0, 1, 0, 0, 1, 0, 0, 1, 0, 1, 0, 0]
noncomputable def R15_10 : Array Oper := opsAt Tryd.f15 [1, 1, 1, 0, 1, 0, 0, 1, 0, 0, 1, 1]
noncomputable def R15_6 : Array Oper := opsAt Tryd.f15 [1, 1, 1, 0, 1, 0, 0, 1, 1]
noncomputable def L15_0 : Code := .seq (.seq (.region 5 R15_5 false) (.cond (.tmp 12) .skip (.exit 0))) (.seq (.block 1 (.seq (.region 7 R15_7 false) (.seq (.seq (.region 8 R15_8 false) (.cond (.tmp 26) (.seq (.region 9 R15_9 false) .ret) .skip)) (.region 10 R15_10 false)))) (.region 6 R15_6 false))
theorem lpL15_0 : loops L15_0 = 0 := rfl
noncomputable def R15_11 : Array Oper := opsAt Tryd.f15 [1, 1, 1, 1, 0]
noncomputable def M15_0 : Code := .seq (.region 11 R15_11 false) .ret
theorem lpM15_0 : loops M15_0 = 0 := rfl
theorem code15 : Tryd.f15.body = some (.seq (.region 0 R15_0 false) (.seq (.region 1 R15_1 false) (.seq (.seq (.region 2 R15_2 false) (.cond (.tmp 8) (.seq (.region 3 R15_3 false) .ret) .skip)) (.seq (.seq (.region 4 R15_4 false) (.block 0 (.loop L15_0))) M15_0)))) := by kernel_rfl
noncomputable def R16_0 : Array Oper := opsAt Tryd.f16 [0]
noncomputable def R16_1 : Array Oper := opsAt Tryd.f16 [1, 0]
noncomputable def R16_2 : Array Oper := opsAt Tryd.f16 [1, 1, 0, 0]
noncomputable def R16_3 : Array Oper := opsAt Tryd.f16 [1, 1, 0, 1, 0, 0]
noncomputable def R16_4 : Array Oper := opsAt Tryd.f16 [1, 1, 0, 1, 0, 1, 0, 0]
noncomputable def R16_5 : Array Oper := opsAt Tryd.f16 [1, 1, 0, 1, 0, 1, 1, 0]
noncomputable def R16_6 : Array Oper := opsAt Tryd.f16 [1, 1, 0, 1, 0, 1, 1, 1, 0, 0]
noncomputable def R16_7 : Array Oper := opsAt Tryd.f16 [1, 1, 0, 1, 0, 1, 1, 1, 1, 0]
noncomputable def R16_8 : Array Oper := opsAt Tryd.f16 [1, 1, 0, 1, 0, 1, 1, 1, 1, 1, 0, 0]
noncomputable def R16_9 : Array Oper := opsAt Tryd.f16 [1, 1, 1, 0]
noncomputable def R16_10 : Array Oper := opsAt Tryd.f16 [1, 1, 1, 1, 0]
noncomputable def R16_11 : Array Oper := opsAt Tryd.f16 [1, 1, 1, 1, 1, 0, 0]
noncomputable def R16_12 : Array Oper := opsAt Tryd.f16 [1, 1, 1, 1, 1, 0, 1, 0, 0]
noncomputable def R16_13 : Array Oper := opsAt Tryd.f16 [1, 1, 1, 1, 1, 0, 1, 0, 1, 0, 0]
noncomputable def R16_14 : Array Oper := opsAt Tryd.f16 [1, 1, 1, 1, 1, 0, 1, 0, 1, 1, 0]
noncomputable def R16_15 : Array Oper := opsAt Tryd.f16 [1, 1, 1, 1, 1, 0, 1, 0, 1, 1, 1, 0, 0]
noncomputable def R16_16 : Array Oper := opsAt Tryd.f16 [1, 1, 1, 1, 1, 1, 0, 0]
noncomputable def R16_17 : Array Oper := opsAt Tryd.f16 [1, 1, 1, 1, 1, 1, 0, 1, 0]
noncomputable def R16_18 : Array Oper := opsAt Tryd.f16 [1, 1, 1, 1, 1, 1, 1, 0, 0]
noncomputable def R16_19 : Array Oper := opsAt Tryd.f16 [1, 1, 1, 1, 1, 1, 1, 0, 1, 0, 0]
noncomputable def R16_20 : Array Oper := opsAt Tryd.f16 [1, 1, 1, 1, 1, 1, 1, 1, 0]
theorem code16 : Tryd.f16.body = some (.seq (.region 0 R16_0 false) (.seq (.region 1 R16_1 false) (.seq (.seq (.region 2 R16_2 false) (.block 0 (.seq (.region 3 R16_3 false) (.cond (.tmp 14) (.seq (.region 4 R16_4 false) .ret) (.seq (.region 5 R16_5 false) (.cond (.tmp 22) (.seq (.region 6 R16_6 false) .ret) (.seq (.region 7 R16_7 false) (.cond (.tmp 27) (.seq (.region 8 R16_8 true) .ret) .skip)))))))) (.seq (.region 9 R16_9 false) (.seq (.region 10 R16_10 false) (.seq (.seq (.region 11 R16_11 false) (.block 1 (.seq (.region 12 R16_12 false) (.cond (.tmp 53) (.seq (.region 13 R16_13 false) .ret) (.seq (.region 14 R16_14 false) (.cond (.tmp 61) (.seq (.region 15 R16_15 false) .ret) .skip)))))) (.seq (.seq (.region 16 R16_16 false) (.cond (.tmp 74) (.region 17 R16_17 false) .skip)) (.seq (.seq (.region 18 R16_18 false) (.cond (.tmp 80) (.seq (.region 19 R16_19 false) .ret) .skip)) (.seq (.region 20 R16_20 false) .ret))))))))) := by kernel_rfl
noncomputable def R17_0 : Array Oper := opsAt Tryd.f17 [0, 0]
noncomputable def R17_1 : Array Oper := opsAt Tryd.f17 [0, 1, 0, 0]
noncomputable def R17_3 : Array Oper := opsAt Tryd.f17 [1, 0, 0]
noncomputable def R17_4 : Array Oper := opsAt Tryd.f17 [1, 0, 1, 0]
noncomputable def R17_5 : Array Oper := opsAt Tryd.f17 [1, 0, 1, 1, 0]
noncomputable def R17_6 : Array Oper := opsAt Tryd.f17 [1, 0, 1, 1, 1, 0]
noncomputable def R17_7 : Array Oper := opsAt Tryd.f17 [1, 0, 1, 1, 1, 1, 0]
noncomputable def R17_8 : Array Oper := opsAt Tryd.f17 [1, 0, 1, 1, 1, 1, 1, 0, 0]
noncomputable def R17_9 : Array Oper := opsAt Tryd.f17 [1, 0, 1, 1, 1, 1, 1, 0, 1, 0]
noncomputable def R17_10 : Array Oper := opsAt Tryd.f17 [1, 0, 1, 1, 1, 1, 1, 0, 1, 1, 0]
noncomputable def R17_11 : Array Oper := opsAt Tryd.f17 [1, 0, 1, 1, 1, 1, 1, 0, 1, 1, 1]
noncomputable def R17_12 : Array Oper := opsAt Tryd.f17 [1, 0, 1, 1, 1, 1, 1, 1, 0]
noncomputable def R17_13 : Array Oper := opsAt Tryd.f17 [1, 0, 1, 1, 1, 1, 1, 1, 1, 0, 0]
noncomputable def R17_14 : Array Oper := opsAt Tryd.f17 [1, 0, 1, 1, 1, 1, 1, 1, 1, 0, 1]
noncomputable def R17_15 : Array Oper := opsAt Tryd.f17 [1, 0, 1, 1, 1, 1, 1, 1, 1, 1, 0]
noncomputable def R17_16 : Array Oper := opsAt Tryd.f17 [1, 0, 1, 1, 1, 1, 1, 1, 1, 1, 1, 0, 0]
noncomputable def R17_17 : Array Oper := opsAt Tryd.f17 [1, 0, 1, 1, 1, 1, 1, 1, 1, 1, 1, 0, 1]
noncomputable def R17_2 : Array Oper := opsAt Tryd.f17 [1, 0, 1, 1, 1, 1, 1, 1, 1, 1, 1, 1]
theorem code17 : Tryd.f17.body = some (.seq (.seq (.region 0 R17_0 false) (.cond (.tmp 12) (.seq (.region 1 R17_1 false) .ret) .skip)) (.block 0 (.seq (.region 3 R17_3 false) (.cond (.tmp 28) (.region 4 R17_4 false) (.seq (.region 5 R17_5 false) (.cond (.tmp 33) (.region 6 R17_6 false) (.seq (.region 7 R17_7 false) (.cond (.tmp 38) (.seq (.region 8 R17_8 false) (.seq (.region 9 R17_9 false) (.seq (.region 10 R17_10 true) (.region 11 R17_11 false)))) (.seq (.region 12 R17_12 false) (.cond (.tmp 59) (.seq (.region 13 R17_13 false) (.region 14 R17_14 false)) (.seq (.region 15 R17_15 false) (.cond (.tmp 66) (.seq (.region 16 R17_16 true) (.region 17 R17_17 false)) (.region 2 R17_2 true))))))))))))) := by kernel_rfl
noncomputable def R18_0 : Array Oper := opsAt Tryd.f18 [0]
noncomputable def R18_1 : Array Oper := opsAt Tryd.f18 [1, 0]
noncomputable def R18_2 : Array Oper := opsAt Tryd.f18 [1, 1, 0]
noncomputable def R18_3 : Array Oper := opsAt Tryd.f18 [1, 1, 1, 0]
theorem code18 : Tryd.f18.body = some (.seq (.region 0 R18_0 false) (.seq (.region 1 R18_1 false) (.seq (.region 2 R18_2 false) (.seq (.region 3 R18_3 false) .ret)))) := by kernel_rfl
noncomputable def R19_0 : Array Oper := opsAt Tryd.f19 [0]
noncomputable def R19_1 : Array Oper := opsAt Tryd.f19 [1, 0, 0, 0]
noncomputable def R19_2 : Array Oper := opsAt Tryd.f19 [1, 0, 0, 1, 0, 0]
noncomputable def R19_3 : Array Oper := opsAt Tryd.f19 [1, 0, 0, 1, 1, 0]
noncomputable def R19_4 : Array Oper := opsAt Tryd.f19 [1, 0, 0, 1, 1, 1, 0, 0]
noncomputable def R19_5 : Array Oper := opsAt Tryd.f19 [1, 1, 0]
theorem code19 : Tryd.f19.body = some (.seq (.region 0 R19_0 false) (.seq (.block 0 (.seq (.region 1 R19_1 false) (.cond (.tmp 3) (.seq (.region 2 R19_2 false) .ret) (.seq (.region 3 R19_3 false) (.cond (.tmp 7) (.seq (.region 4 R19_4 false) .ret) .skip))))) (.seq (.region 5 R19_5 false) .ret))) := by kernel_rfl
noncomputable def R20_0 : Array Oper := opsAt Tryd.f20 [0]
noncomputable def R20_1 : Array Oper := opsAt Tryd.f20 [1, 0, 0, 0]
noncomputable def R20_2 : Array Oper := opsAt Tryd.f20 [1, 0, 0, 1, 0, 0]
noncomputable def R20_3 : Array Oper := opsAt Tryd.f20 [1, 0, 0, 1, 1, 0]
noncomputable def R20_4 : Array Oper := opsAt Tryd.f20 [1, 0, 0, 1, 1, 1, 0, 0]
noncomputable def R20_5 : Array Oper := opsAt Tryd.f20 [1, 1, 0]
theorem code20 : Tryd.f20.body = some (.seq (.region 0 R20_0 false) (.seq (.block 0 (.seq (.region 1 R20_1 false) (.cond (.tmp 3) (.seq (.region 2 R20_2 false) .ret) (.seq (.region 3 R20_3 false) (.cond (.tmp 10) (.seq (.region 4 R20_4 false) .ret) .skip))))) (.seq (.region 5 R20_5 false) .ret))) := by kernel_rfl
noncomputable def R22_0 : Array Oper := opsAt Tryd.f22 [0]
noncomputable def R22_1 : Array Oper := opsAt Tryd.f22 [1, 0]
theorem code22 : Tryd.f22.body = some (.seq (.region 0 R22_0 false) (.seq (.region 1 R22_1 false) .ret)) := by kernel_rfl
noncomputable def R23_1 : Array Oper := opsAt Tryd.f23 [0, 0]
noncomputable def R23_2 : Array Oper := opsAt Tryd.f23 [0, 1, 1, 0]
noncomputable def R23_3 : Array Oper := opsAt Tryd.f23 [0, 1, 1, 1, 0]
noncomputable def R23_4 : Array Oper := opsAt Tryd.f23 [0, 1, 1, 1, 1, 0]
noncomputable def R23_5 : Array Oper := opsAt Tryd.f23 [0, 1, 1, 1, 1, 1, 0]
noncomputable def R23_6 : Array Oper := opsAt Tryd.f23 [0, 1, 1, 1, 1, 1, 1, 0]
noncomputable def R23_7 : Array Oper := opsAt Tryd.f23 [0, 1, 1, 1, 1, 1, 1, 1, 0, 0]
noncomputable def R23_8 : Array Oper := opsAt Tryd.f23 [0, 1, 1, 1, 1, 1, 1, 1, 0, 1, 0]
noncomputable def R23_9 : Array Oper := opsAt Tryd.f23 [0, 1, 1, 1, 1, 1, 1, 1, 0, 1, 1, 0]
noncomputable def R23_10 : Array Oper := opsAt Tryd.f23 [0, 1, 1, 1, 1, 1, 1, 1, 0, 1, 1, 1, 0]
noncomputable def R23_11 : Array Oper := opsAt Tryd.f23 [0, 1, 1, 1, 1, 1, 1, 1, 0, 1, 1, 1, 1]
noncomputable def R23_12 : Array Oper := opsAt Tryd.f23 [0, 1, 1, 1, 1, 1, 1, 1, 1, 0]
noncomputable def R23_13 : Array Oper := opsAt Tryd.f23 [0, 1, 1, 1, 1, 1, 1, 1, 1, 1, 0, 0]
noncomputable def R23_14 : Array Oper := opsAt Tryd.f23 [0, 1, 1, 1, 1, 1, 1, 1, 1, 1, 0, 1]
noncomputable def R23_15 : Array Oper := opsAt Tryd.f23 [0, 1, 1, 1, 1, 1, 1, 1, 1, 1, 1, 0]
noncomputable def R23_16 : Array Oper := opsAt Tryd.f23 [0, 1, 1, 1, 1, 1, 1, 1, 1, 1, 1, 1, 0]
noncomputable def R23_17 : Array Oper := opsAt Tryd.f23 [0, 1, 1, 1, 1, 1, 1, 1, 1, 1, 1, 1, 1, 0]
noncomputable def R23_18 : Array Oper := opsAt Tryd.f23 [0, 1, 1, 1, 1, 1, 1, 1, 1, 1, 1, 1, 1, 1, 0]
noncomputable def R23_19 : Array Oper := opsAt Tryd.f23 [0, 1, 1, 1, 1, 1, 1, 1, 1, 1, 1, 1, 1, 1, 1, 0]
noncomputable def R23_20 : Array Oper := opsAt Tryd.f23 [0, 1, 1, 1, 1, 1, 1, 1, 1, 1, 1, 1, 1, 1, 1, 1, 0]
noncomputable def R23_21 : Array Oper := opsAt Tryd.f23 [0, 1, 1, 1, 1, 1, 1, 1, 1, 1, 1, 1, 1, 1, 1, 1, 1, 0]
noncomputable def R23_22 : Array Oper := opsAt Tryd.f23 [0, 1, 1, 1, 1, 1, 1, 1, 1, 1, 1, 1, 1, 1, 1, 1, 1, 1, 0]
noncomputable def R23_0 : Array Oper := opsAt Tryd.f23 [0, 1, 1, 1, 1, 1, 1, 1, 1, 1, 1, 1, 1, 1, 1, 1, 1, 1, 1]
theorem code23 : Tryd.f23.body = some (.block 0 (.seq (.region 1 R23_1 false) (.cond (.tmp 7) .skip (.seq (.region 2 R23_2 false) (.cond (.tmp 12) (.region 3 R23_3 false) (.seq (.region 4 R23_4 false) (.cond (.tmp 17) (.region 5 R23_5 false) (.seq (.region 6 R23_6 false) (.cond (.tmp 22) (.seq (.region 7 R23_7 false) (.seq (.region 8 R23_8 false) (.seq (.region 9 R23_9 false) (.seq (.region 10 R23_10 false) (.region 11 R23_11 false))))) (.seq (.region 12 R23_12 false) (.cond (.tmp 36) (.seq (.region 13 R23_13 false) (.region 14 R23_14 false)) (.seq (.region 15 R23_15 false) (.cond (.tmp 43) (.region 16 R23_16 false) (.seq (.region 17 R23_17 false) (.cond (.tmp 48) (.region 18 R23_18 false) (.seq (.region 19 R23_19 false) (.cond (.tmp 53) (.region 20 R23_20 false) (.seq (.region 21 R23_21 false) (.cond (.tmp 58) (.region 22 R23_22 false) (.region 0 R23_0 false)))))))))))))))))))) := by kernel_rfl
noncomputable def R24_0 : Array Oper := opsAt Tryd.f24 [0]
noncomputable def R24_1 : Array Oper := opsAt Tryd.f24 [1, 0, 0]
noncomputable def R24_2 : Array Oper := opsAt Tryd.f24 [1, 0, 1, 0, 0]
noncomputable def R24_3 : Array Oper := opsAt Tryd.f24 [1, 1, 0]
noncomputable def R24_4 : Array Oper := opsAt Tryd.f24 [1, 1, 1, 0]
theorem code24 : Tryd.f24.body = some (.seq (.region 0 R24_0 false) (.seq (.seq (.region 1 R24_1 true) (.cond (.tmp 37) (.seq (.region 2 R24_2 false) .ret) .skip)) (.seq (.region 3 R24_3 false) (.seq (.region 4 R24_4 false) .ret)))) := by kernel_rfl
noncomputable def R25_0 : Array Oper := opsAt Tryd.f25 [0]
noncomputable def R25_1 : Array Oper := opsAt Tryd.f25 [1, 0]
noncomputable def R25_2 : Array Oper := opsAt Tryd.f25 [1, 1, 0]
theorem code25 : Tryd.f25.body = some (.seq (.region 0 R25_0 false) (.seq (.region 1 R25_1 false) (.cond (.tmp 23) (.region 2 R25_2 false) .skip))) := by kernel_rfl
noncomputable def R26_0 : Array Oper := opsAt Tryd.f26 [0]
noncomputable def R26_1 : Array Oper := opsAt Tryd.f26 [1, 0, 0, 0, 0]
noncomputable def R26_2 : Array Oper := opsAt Tryd.f26 [1, 0, 0, 0, 1, 1]
noncomputable def R26_3 : Array Oper := opsAt Tryd.f26 [1, 0, 0, 1, 0, 0]
noncomputable def R26_4 : Array Oper := opsAt Tryd.f26 [1, 0, 0, 1, 1, 0]
noncomputable def R26_5 : Array Oper := opsAt Tryd.f26 [1, 0, 0, 1, 1, 1, 0, 0]
noncomputable def R26_6 : Array Oper := opsAt Tryd.f26 [1, 0, 0, 1, 1, 1, 1, 0]
noncomputable def R26_7 : Array Oper := opsAt Tryd.f26 [1, 0, 0, 1, 1, 1, 1, 1, 0, 0]
noncomputable def R26_8 : Array Oper := opsAt Tryd.f26 [1, 1, 0]
theorem code26 : Tryd.f26.body = some (.seq (.region 0 R26_0 false) (.seq (.block 0 (.seq (.seq (.region 1 R26_1 false) (.cond (.tmp 3) .skip (.region 2 R26_2 false))) (.cond (.tmp 3) (.seq (.region 3 R26_3 false) .ret) (.seq (.region 4 R26_4 false) (.cond (.tmp 20) (.seq (.region 5 R26_5 false) .ret) (.seq (.region 6 R26_6 false) (.cond (.tmp 29) (.seq (.region 7 R26_7 false) .ret) .skip))))))) (.seq (.region 8 R26_8 false) .ret))) := by kernel_rfl
noncomputable def R27_0 : Array Oper := opsAt Tryd.f27 [0]
noncomputable def R27_1 : Array Oper := opsAt Tryd.f27 [1, 0, 0]
noncomputable def R27_2 : Array Oper := opsAt Tryd.f27 [1, 0, 1, 0, 0]
noncomputable def R27_3 : Array Oper := opsAt Tryd.f27 [1, 1, 0, 0]
noncomputable def R27_4 : Array Oper := opsAt Tryd.f27 [1, 1, 0, 1, 0, 0]
noncomputable def R27_5 : Array Oper := opsAt Tryd.f27 [1, 1, 1, 0]
theorem code27 : Tryd.f27.body = some (.seq (.region 0 R27_0 false) (.seq (.seq (.region 1 R27_1 false) (.cond (.tmp 4) (.seq (.region 2 R27_2 false) .ret) .skip)) (.seq (.seq (.region 3 R27_3 false) (.cond (.tmp 10) (.seq (.region 4 R27_4 false) .ret) .skip)) (.seq (.region 5 R27_5 true) .ret)))) := by kernel_rfl
noncomputable def R28_0 : Array Oper := opsAt Tryd.f28 [0]
noncomputable def R28_1 : Array Oper := opsAt Tryd.f28 [1, 0, 0]
noncomputable def R28_2 : Array Oper := opsAt Tryd.f28 [1, 0, 1, 0, 0]
noncomputable def R28_3 : Array Oper := opsAt Tryd.f28 [1, 0, 1, 0, 1, 0, 0]
noncomputable def R28_4 : Array Oper := opsAt Tryd.f28 [1, 0, 1, 0, 1, 1, 0]
noncomputable def R28_5 : Array Oper := opsAt Tryd.f28 [1, 0, 1, 0, 1, 1, 1, 0, 0]
noncomputable def R28_6 : Array Oper := opsAt Tryd.f28 [1, 1, 0]
theorem code28 : Tryd.f28.body = some (.seq (.region 0 R28_0 false) (.seq (.seq (.region 1 R28_1 false) (.block 0 (.seq (.region 2 R28_2 false) (.cond (.tmp 10) (.seq (.region 3 R28_3 false) .ret) (.seq (.region 4 R28_4 false) (.cond (.tmp 13) (.seq (.region 5 R28_5 false) .ret) .skip)))))) (.seq (.region 6 R28_6 false) .ret))) := by kernel_rfl
noncomputable def R29_0 : Array Oper := opsAt Tryd.f29 [0]
noncomputable def R29_1 : Array Oper := opsAt Tryd.f29 [1, 0]
theorem code29 : Tryd.f29.body = some (.seq (.region 0 R29_0 false) (.seq (.region 1 R29_1 false) .ret)) := by kernel_rfl
noncomputable def R30_0 : Array Oper := opsAt Tryd.f30 [0]
noncomputable def R30_1 : Array Oper := opsAt Tryd.f30 [1, 0]
noncomputable def R30_2 : Array Oper := opsAt Tryd.f30 [1, 1, 0]
noncomputable def R30_3 : Array Oper := opsAt Tryd.f30 [1, 1, 1, 0]
noncomputable def R30_4 : Array Oper := opsAt Tryd.f30 [1, 1, 1, 1]
theorem code30 : Tryd.f30.body = some (.seq (.region 0 R30_0 false) (.seq (.region 1 R30_1 false) (.seq (.region 2 R30_2 false) (.seq (.region 3 R30_3 false) (.region 4 R30_4 false))))) := by kernel_rfl
noncomputable def R31_0 : Array Oper := opsAt Tryd.f31 [0]
noncomputable def R31_1 : Array Oper := opsAt Tryd.f31 [1, 0]
theorem code31 : Tryd.f31.body = some (.seq (.region 0 R31_0 false) (.cond (.tmp 7) (.region 1 R31_1 false) .skip)) := by kernel_rfl
noncomputable def R32_0 : Array Oper := opsAt Tryd.f32 [0]
noncomputable def R32_1 : Array Oper := opsAt Tryd.f32 [1, 0]
noncomputable def R32_2 : Array Oper := opsAt Tryd.f32 [1, 1, 0, 0, 0, 0, 0]
noncomputable def R32_3 : Array Oper := opsAt Tryd.f32 [1, 1, 0, 0, 0, 1, 0]
noncomputable def L32_0 : Code := .seq (.seq (.region 2 R32_2 false) (.cond (.tmp 30) .skip (.exit 0))) (.block 1 (.region 3 R32_3 false))
theorem lpL32_0 : loops L32_0 = 0 := rfl
noncomputable def R32_4 : Array Oper := opsAt Tryd.f32 [1, 1, 1, 0]
noncomputable def R32_5 : Array Oper := opsAt Tryd.f32 [1, 1, 1, 1, 0]
noncomputable def R32_6 : Array Oper := opsAt Tryd.f32 [1, 1, 1, 1, 1, 0]
noncomputable def R32_7 : Array Oper := opsAt Tryd.f32 [1, 1, 1, 1, 1, 1, 0]
noncomputable def M32_0 : Code := .seq (.region 4 R32_4 false) (.seq (.region 5 R32_5 false) (.seq (.region 6 R32_6 false) (.seq (.region 7 R32_7 false) .ret)))
theorem lpM32_0 : loops M32_0 = 0 := rfl
theorem code32 : Tryd.f32.body = some (.seq (.region 0 R32_0 false) (.seq (.region 1 R32_1 false) (.seq (.block 0 (.loop L32_0)) M32_0))) := by kernel_rfl
noncomputable def R33_0 : Array Oper := opsAt Tryd.f33 [0]
noncomputable def R33_1 : Array Oper := opsAt Tryd.f33 [1, 0]
theorem code33 : Tryd.f33.body = some (.seq (.region 0 R33_0 false) (.seq (.region 1 R33_1 false) .ret)) := by kernel_rfl
noncomputable def R34_0 : Array Oper := opsAt Tryd.f34 [0]
noncomputable def R34_1 : Array Oper := opsAt Tryd.f34 [1, 0]
theorem code34 : Tryd.f34.body = some (.seq (.region 0 R34_0 false) (.seq (.region 1 R34_1 false) .ret)) := by kernel_rfl
noncomputable def R36_0 : Array Oper := opsAt Tryd.f36 [0]
noncomputable def R36_1 : Array Oper := opsAt Tryd.f36 [1, 0]
noncomputable def R36_2 : Array Oper := opsAt Tryd.f36 [1, 1, 0]
noncomputable def R36_3 : Array Oper := opsAt Tryd.f36 [1, 1, 1, 0]
noncomputable def R36_4 : Array Oper := opsAt Tryd.f36 [1, 1, 1, 1]
theorem code36 : Tryd.f36.body = some (.seq (.region 0 R36_0 false) (.seq (.region 1 R36_1 false) (.seq (.region 2 R36_2 false) (.seq (.region 3 R36_3 false) (.region 4 R36_4 false))))) := by kernel_rfl
noncomputable def R37_0 : Array Oper := opsAt Tryd.f37 [0]
noncomputable def R37_1 : Array Oper := opsAt Tryd.f37 [1, 0]
theorem code37 : Tryd.f37.body = some (.seq (.region 0 R37_0 false) (.cond (.tmp 7) (.region 1 R37_1 false) .skip)) := by kernel_rfl
noncomputable def R38_0 : Array Oper := opsAt Tryd.f38 [0]
noncomputable def R38_1 : Array Oper := opsAt Tryd.f38 [1, 0]
noncomputable def R38_2 : Array Oper := opsAt Tryd.f38 [1, 1, 0, 0, 0, 0, 0]
noncomputable def R38_3 : Array Oper := opsAt Tryd.f38 [1, 1, 0, 0, 0, 1, 0]
noncomputable def L38_0 : Code := .seq (.seq (.region 2 R38_2 true) (.cond (.tmp 43) .skip (.exit 0))) (.block 1 (.region 3 R38_3 false))
theorem lpL38_0 : loops L38_0 = 0 := rfl
noncomputable def R38_4 : Array Oper := opsAt Tryd.f38 [1, 1, 1, 0]
noncomputable def R38_5 : Array Oper := opsAt Tryd.f38 [1, 1, 1, 1, 0]
noncomputable def R38_6 : Array Oper := opsAt Tryd.f38 [1, 1, 1, 1, 1, 0]
noncomputable def M38_0 : Code := .seq (.region 4 R38_4 true) (.seq (.region 5 R38_5 false) (.seq (.region 6 R38_6 false) .ret))
theorem lpM38_0 : loops M38_0 = 0 := rfl
theorem code38 : Tryd.f38.body = some (.seq (.region 0 R38_0 false) (.seq (.region 1 R38_1 false) (.seq (.block 0 (.loop L38_0)) M38_0))) := by kernel_rfl
noncomputable def R39_0 : Array Oper := opsAt Tryd.f39 [0]
noncomputable def R39_1 : Array Oper := opsAt Tryd.f39 [1, 0]
theorem code39 : Tryd.f39.body = some (.seq (.region 0 R39_0 false) (.seq (.region 1 R39_1 false) .ret)) := by kernel_rfl
noncomputable def R40_0 : Array Oper := opsAt Tryd.f40 [0]
noncomputable def R40_1 : Array Oper := opsAt Tryd.f40 [1, 0]
noncomputable def R40_2 : Array Oper := opsAt Tryd.f40 [1, 1, 0, 0]
noncomputable def R40_3 : Array Oper := opsAt Tryd.f40 [1, 1, 0, 1, 0, 0]
noncomputable def R40_4 : Array Oper := opsAt Tryd.f40 [1, 1, 1, 0]
theorem code40 : Tryd.f40.body = some (.seq (.region 0 R40_0 false) (.seq (.region 1 R40_1 false) (.seq (.seq (.region 2 R40_2 false) (.cond (.tmp 23) (.seq (.region 3 R40_3 false) .ret) .skip)) (.seq (.region 4 R40_4 false) .ret)))) := by kernel_rfl
noncomputable def R41_0 : Array Oper := opsAt Tryd.f41 [0]
noncomputable def R41_1 : Array Oper := opsAt Tryd.f41 [1, 0, 0]
noncomputable def R41_2 : Array Oper := opsAt Tryd.f41 [1, 0, 1, 0, 0]
noncomputable def R41_3 : Array Oper := opsAt Tryd.f41 [1, 1, 0]
theorem code41 : Tryd.f41.body = some (.seq (.region 0 R41_0 false) (.seq (.seq (.region 1 R41_1 false) (.cond (.tmp 9) (.seq (.region 2 R41_2 false) .ret) .skip)) (.seq (.region 3 R41_3 false) .ret))) := by kernel_rfl
noncomputable def R43_0 : Array Oper := opsAt Tryd.f43 [0]
noncomputable def R43_1 : Array Oper := opsAt Tryd.f43 [1, 0]
noncomputable def R43_2 : Array Oper := opsAt Tryd.f43 [1, 1, 0, 0]
noncomputable def R43_3 : Array Oper := opsAt Tryd.f43 [1, 1, 0, 1, 0]
noncomputable def R43_4 : Array Oper := opsAt Tryd.f43 [1, 1, 1, 0, 0]
noncomputable def R43_5 : Array Oper := opsAt Tryd.f43 [1, 1, 1, 0, 1, 0, 0]
noncomputable def R43_6 : Array Oper := opsAt Tryd.f43 [1, 1, 1, 1, 0]
noncomputable def R43_7 : Array Oper := opsAt Tryd.f43 [1, 1, 1, 1, 1, 0, 0]
noncomputable def R43_8 : Array Oper := opsAt Tryd.f43 [1, 1, 1, 1, 1, 0, 1, 0, 0, 0, 0]
noncomputable def R43_10 : Array Oper := opsAt Tryd.f43 [1, 1, 1, 1, 1, 0, 1, 0, 0, 1, 0, 0, 0, 0]
noncomputable def R43_11 : Array Oper := opsAt Tryd.f43 [1, 1, 1, 1, 1, 0, 1, 0, 0, 1, 0, 0, 0, 1, 0, 0]
noncomputable def R43_12 : Array Oper := opsAt Tryd.f43 [1, 1, 1, 1, 1, 0, 1, 0, 0, 1, 0, 0, 1]
noncomputable def R43_9 : Array Oper := opsAt Tryd.f43 [1, 1, 1, 1, 1, 0, 1, 0, 0, 1, 1]
noncomputable def L43_0 : Code := .seq (.seq (.region 8 R43_8 false) (.cond (.tmp 25) .skip (.exit 0))) (.seq (.block 1 (.seq (.seq (.region 10 R43_10 false) (.cond (.tmp 37) (.seq (.region 11 R43_11 false) .ret) .skip)) (.region 12 R43_12 false))) (.region 9 R43_9 false))
theorem lpL43_0 : loops L43_0 = 0 := rfl
noncomputable def R43_13 : Array Oper := opsAt Tryd.f43 [1, 1, 1, 1, 1, 1, 0, 0]
noncomputable def R43_14 : Array Oper := opsAt Tryd.f43 [1, 1, 1, 1, 1, 1, 0, 1, 0]
noncomputable def R43_15 : Array Oper := opsAt Tryd.f43 [1, 1, 1, 1, 1, 1, 1, 0, 0]
noncomputable def R43_16 : Array Oper := opsAt Tryd.f43 [1, 1, 1, 1, 1, 1, 1, 0, 1, 0, 0]
noncomputable def R43_17 : Array Oper := opsAt Tryd.f43 [1, 1, 1, 1, 1, 1, 1, 1, 0]
noncomputable def M43_0 : Code := .seq (.seq (.region 13 R43_13 false) (.cond (.tmp 50) (.region 14 R43_14 false) .skip)) (.seq (.seq (.region 15 R43_15 false) (.cond (.tmp 56) (.seq (.region 16 R43_16 false) .ret) .skip)) (.seq (.region 17 R43_17 false) .ret))
theorem lpM43_0 : loops M43_0 = 0 := rfl
theorem code43 : Tryd.f43.body = some (.seq (.region 0 R43_0 false) (.seq (.region 1 R43_1 false) (.seq (.seq (.region 2 R43_2 false) (.cond (.tmp 15) (.region 3 R43_3 false) .skip)) (.seq (.seq (.region 4 R43_4 false) (.cond (.tmp 21) (.seq (.region 5 R43_5 false) .ret) .skip)) (.seq (.region 6 R43_6 false) (.seq (.seq (.region 7 R43_7 false) (.block 0 (.loop L43_0))) M43_0)))))) := by kernel_rfl
noncomputable def R45_0 : Array Oper := opsAt Tryd.f45 [0]
noncomputable def R45_1 : Array Oper := opsAt Tryd.f45 [1, 0]
theorem code45 : Tryd.f45.body = some (.seq (.region 0 R45_0 false) (.seq (.region 1 R45_1 false) .ret)) := by kernel_rfl
def ext21 : List V → Option (V × List Eng.Obj)
  | [.c (.int .i64 n)] => if -9223372036854775808 ≤ n ∧ n ≤ 9223372036854775807 then some (.c (.string ⟨(Lib.itoa n).toArray⟩), []) else none
  | _ => none
theorem ext21_ok : ExtOk Tryd.prog 21 ext21 := by
  refine ⟨ent Tryd.func21 rfl rfl, fun args v objs h w Pf ι vals hr D => ?_⟩
  unfold ext21 at h
  split at h
  case h_2 => cases h
  rename_i n
  split at h
  case isFalse => cases h
  rename_i hn
  cases h
  simp only [Reps, Rep] at hr
  obtain ⟨u, us, rfl, rfl, rfl⟩ := hr
  refine (Tryd.strconv_Itoa n hn.1 hn.2 w (jt_of D.glob.2)).mono ?_
  rintro e w' ⟨rfl, k, os, rfl⟩
  have hp : ∀ g, Pf true g → (Sort.grow (w.drewN k) os).heap[g]? = w.heap[g]? := fun g hg => by
    have := D.lt g hg
    show (w.heap ++ os)[g]? = w.heap[g]?
    rw [Array.getElem?_append_left this]
  refine ⟨_, ι, 1, fun _ => False, rfl, ⟨rfl, rfl, rfl, ?_, hp, fun _ _ _ h => h⟩, by simp only [Rep], ⟨fun id vr o h => ?_, D.fresh, D.fresh', fun id vr o id' vr' o' g t t' h => ?_, fun g hg => ?_, D.sub, D.gl hp⟩⟩
  · show w.heap.size ≤ (w.heap ++ os).size
    rw [Array.size_append]; omega
  · simp [hpOf] at h
  · simp [hpOf] at h
  · have := D.lt g hg
    show g < (w.heap ++ os).size
    rw [Array.size_append]; omega
theorem fwd_of_below {w w' : World} {Pf : Pfs} {ι : Plc} (hlt : ∀ g, Pf true g → g < w.heap.size) (h : Go.RowKit.Below w.heap.size w w') : Fwd Pf w w' ι ι :=
  ⟨h.os, h.tape, h.output, h.size, fun g hg => h.block g (hlt g hg), fun _ _ _ h => h⟩
theorem desc_none {w w' : World} {Pf : Pfs} {ι : Plc} (D : Desc w Pf ι (fun _ => none) 1 (fun _ => False)) (h : Go.RowKit.Below w.heap.size w w') : Desc w' Pf ι (hpOf [] []) 1 (fun _ => False) :=
  ⟨fun id vr o h => by simp [hpOf] at h, D.fresh, D.fresh', fun id vr o id' vr' o' g t t' h => by simp [hpOf] at h, fun g hg => Nat.lt_of_lt_of_le (D.lt g hg) h.size, D.sub, D.gl (fun g hg => h.block g (D.lt g hg))⟩
def ext44 : List V → Option (V × List Eng.Obj)
  | [.c (.string s)] => if s.size ≤ 281474976710656 then (match Lib.atoiAll s.data.toList with
    | .ok v => some (.tp [.c (.int .i64 v), .c .nilIface], [])
    | .«syntax» => some (.tp [.c (.int .i64 0), .er], [])
    | .range => some (.tp [.c (.int .i64 (Lib.atoiSat s.data.toList)), .er], [])) else none
  | _ => none
theorem ext44_ok : ExtOk Tryd.prog 44 ext44 := by
  refine ⟨ent Tryd.func44 rfl rfl, fun args v objs h w Pf ι vals hr D => ?_⟩
  unfold ext44 at h
  split at h
  case h_2 => cases h
  rename_i s
  split at h
  case isFalse => cases h
  rename_i hs
  simp only [Reps, Rep] at hr
  obtain ⟨u, us, rfl, rfl, rfl⟩ := hr
  split at h
  · rename_i n hn
    cases h
    refine (Tryd.strconv_Atoi_ok s (by omega) n hn w).mono ?_
    rintro e w' ⟨rfl, hw⟩
    have hb : Go.RowKit.Below w.heap.size w w' := by
      rcases hw with rfl | ⟨t, rfl⟩
      · exact Go.RowKit.Below.refl _ _
      · exact Lib.bytesWorld_below _ _ _
    exact ⟨_, ι, 1, fun _ => False, rfl, fwd_of_below D.lt hb, by simp only [Rep, Reps]; exact ⟨_, rfl, _, _, rfl, rfl, _, _, rfl, rfl, rfl⟩, desc_none D hb⟩
  · rename_i hn
    cases h
    obtain ⟨ev, h1, h2⟩ := e1_of D.glob.2
    refine (Tryd.strconv_Atoi_syntax s hs hn ev w h1 h2).mono ?_
    rintro e w' ⟨N, rfl, _, _, hb⟩
    exact ⟨_, ι, 1, fun _ => False, rfl, fwd_of_below D.lt hb, by simp only [Rep, Reps]; exact ⟨_, rfl, _, _, rfl, rfl, _, _, rfl, ⟨_, _, rfl⟩, rfl⟩, desc_none D hb⟩
  · rename_i hn
    cases h
    obtain ⟨ev, h1, h2⟩ := e2_of D.glob.2
    refine (Tryd.strconv_Atoi_range s hs hn ev w h1 h2).mono ?_
    rintro e w' ⟨N, rfl, _, _, hb⟩
    exact ⟨_, ι, 1, fun _ => False, rfl, fwd_of_below D.lt hb, by simp only [Rep, Reps]; exact ⟨_, rfl, _, _, rfl, rfl, _, _, rfl, ⟨_, _, rfl⟩, rfl⟩, desc_none D hb⟩
def X : FuncId → Option (List V → Option (V × List Eng.Obj))
  | 21 => some ext21
  | 44 => some ext44
  | _ => none
noncomputable def C : Cfg := ⟨T, F, X, WR, OW, K, BL⟩
theorem cT : C.T = T := by unfold C; with_reducible rfl
theorem cF : C.fn = F := by unfold C; with_reducible rfl
theorem cX : C.ext = X := by unfold C; with_reducible rfl
theorem cWR : C.wr = WR := by unfold C; with_reducible rfl
theorem cOW : C.own = OW := by unfold C; with_reducible rfl
theorem cK : C.keep = K := by unfold C; with_reducible rfl
theorem cBL : C.bld = BL := by unfold C; with_reducible rfl
theorem cfgOk : CfgOk Tryd.prog C where
  mixed := by kernel_rfl
  tab := tabOk
  fn := fun f fn h => okF_1 f fn h
  ext := by
    intro f m h
    have h' : X f = some m := h
    unfold X at h'
    split at h'
    · cases h'; exact ext21_ok
    · cases h'; exact ext44_ok
    · cases h'
  bld := by
    intro f k h
    have h' : BL f = some k := h
    unfold BL at h'
    cases h'
end Go.Proofs.YteedcjgmgbcndaaDoor.Eng
