/- The types, the functions and the loops' live slots that the laws reach, and that they are what the program has. No conditions. -/
import Derived.Test.YtllneakafpldjaaEngTa
namespace Go.Proofs.Ytllneakafpldjaa.Eng
open Go Go.Proofs
set_option maxRecDepth 100000
noncomputable def R3_0 : Array Oper := opsAt Try.f3 [0]
noncomputable def R3_1 : Array Oper := opsAt Try.f3 [1, 0]
noncomputable def R3_2 : Array Oper := opsAt Try.f3 [1, 1, 0]
noncomputable def R3_3 : Array Oper := opsAt Try.f3 [1, 1, 1, 0, 0]
noncomputable def R3_4 : Array Oper := opsAt Try.f3 [1, 1, 1, 0, 1, 0, 0]
noncomputable def R3_5 : Array Oper := opsAt Try.f3 [1, 1, 1, 1, 0]
noncomputable def R3_6 : Array Oper := opsAt Try.f3 [1, 1, 1, 1, 1, 0]
noncomputable def R3_7 : Array Oper := opsAt Try.f3 [1, 1, 1, 1, 1, 1, 0]
noncomputable def R3_8 : Array Oper := opsAt Try.f3 [1, 1, 1, 1, 1, 1, 1, 0, 0]
noncomputable def R3_9 : Array Oper := opsAt Try.f3 [1, 1, 1, 1, 1, 1, 1, 0, 1, 0, 0]
noncomputable def R3_10 : Array Oper := opsAt Try.f3 [1, 1, 1, 1, 1, 1, 1, 1, 0, 0]
noncomputable def R3_11 : Array Oper := opsAt Try.f3 [1, 1, 1, 1, 1, 1, 1, 1, 0, 1, 0, 0]
noncomputable def R3_12 : Array Oper := opsAt Try.f3 [1, 1, 1, 1, 1, 1, 1, 1, 1, 0]
noncomputable def R3_13 : Array Oper := opsAt Try.f3 [1, 1, 1, 1, 1, 1, 1, 1, 1, 1, 0]
noncomputable def R3_14 : Array Oper := opsAt Try.f3 [1, 1, 1, 1, 1, 1, 1, 1, 1, 1, 1, 0, 0]
noncomputable def R3_15 : Array Oper := opsAt Try.f3 [1, 1, 1, 1, 1, 1, 1, 1, 1, 1, 1, 0, 1, 0, 0]
noncomputable def R3_16 : Array Oper := opsAt Try.f3 [1, 1, 1, 1, 1, 1, 1, 1, 1, 1, 1, 1, 0]
noncomputable def R3_17 : Array Oper := opsAt Try.f3 [1, 1, 1, 1, 1, 1, 1, 1, 1, 1, 1, 1, 1, 0]
noncomputable def R3_18 : Array Oper := opsAt Try.f3 [1, 1, 1, 1, 1, 1, 1, 1, 1, 1, 1, 1, 1, 1, 0]
noncomputable def R3_19 : Array Oper := opsAt Try.f3 [1, 1, 1, 1, 1, 1, 1, 1, 1, 1, 1, 1, 1, 1, 1, 0]
noncomputable def R3_20 : Array Oper := opsAt Try.f3 [1, 1, 1, 1, 1, 1, 1, 1, 1, 1, 1, 1, 1, 1, 1, 1, 0, 0]
noncomputable def R3_21 : Array Oper := opsAt Try.f3 [1, 1, 1, 1, 1, 1, 1, 1, 1, 1, 1, 1, 1, 1, 1, 1, 0, 1, 0, 0]
noncomputable def R3_22 : Array Oper := opsAt Try.f3 [1, 1, 1, 1, 1, 1, 1, 1, 1, 1, 1, 1, 1, 1, 1, 1, 1, 0, 0]
noncomputable def R3_23 : Array Oper := opsAt Try.f3 [1, 1, 1, 1, 1, 1, 1, 1, 1, 1, 1, 1, 1, 1, 1, 1, 1, 0, 1, 0, 0]
noncomputable def R3_24 : Array Oper := opsAt Try.f3 [1, 1, 1, 1, 1, 1, 1, 1, 1, 1, 1, 1, 1, 1, 1, 1, 1, 1, 0]
noncomputable def R3_25 : Array Oper := opsAt Try.f3 [1, 1, 1, 1, 1, 1, 1, 1, 1, 1, 1, 1, 1, 1, 1, 1, 1, 1, 1, 0, 0]
noncomputable def R3_26 : Array Oper := opsAt Try.f3 [1, 1, 1, 1, 1, 1, 1, 1, 1, 1, 1, 1, 1, 1, 1, 1, 1, 1, 1, 0, 1, 0, 0]
noncomputable def R3_27 : Array Oper := opsAt Try.f3 [1, 1, 1, 1, 1, 1, 1, 1, 1, 1, 1, 1, 1, 1, 1, 1, 1, 1, 1, 1, 0]
noncomputable def R3_28 : Array Oper := opsAt Try.f3 [1, 1, 1, 1, 1, 1, 1, 1, 1, 1, 1, 1, 1, 1, 1, 1, 1, 1, 1, 1, 1, 0]
noncomputable def R3_29 : Array Oper := opsAt Try.f3 [1, 1, 1, 1, 1, 1, 1, 1, 1, 1, 1, 1, 1, 1, 1, 1, 1, 1, 1, 1, 1, 1, 0, 0]
noncomputable def R3_30 : Array Oper := opsAt Try.f3 [1, 1, 1, 1, 1, 1, 1, 1, 1, 1, 1, 1, 1, 1, 1, 1, 1, 1, 1, 1, 1, 1, 0, 1, 0, 0]
noncomputable def R3_31 : Array Oper := opsAt Try.f3 [1, 1, 1, 1, 1, 1, 1, 1, 1, 1, 1, 1, 1, 1, 1, 1, 1, 1, 1, 1, 1, 1, 1, 0, 0]
noncomputable def R3_32 : Array Oper := opsAt Try.f3 [1, 1, 1, 1, 1, 1, 1, 1, 1, 1, 1, 1, 1, 1, 1, 1, 1, 1, 1, 1, 1, 1, 1, 0, 1, 0, 0]
noncomputable def R3_33 : Array Oper := opsAt Try.f3 [1, 1, 1, 1, 1, 1, 1, 1, 1, 1, 1, 1, 1, 1, 1, 1, 1, 1, 1, 1, 1, 1, 1, 1, 0]
theorem code3 : Try.f3.body = some (.seq (.region 0 R3_0 false) (.seq (.region 1 R3_1 false) (.seq (.region 2 R3_2 false) (.seq (.seq (.region 3 R3_3 false) (.cond (.tmp 18) (.seq (.region 4 R3_4 false) .ret) .skip)) (.seq (.region 5 R3_5 false) (.seq (.region 6 R3_6 false) (.seq (.region 7 R3_7 false) (.seq (.seq (.region 8 R3_8 false) (.cond (.tmp 40) (.seq (.region 9 R3_9 false) .ret) .skip)) (.seq (.seq (.region 10 R3_10 false) (.cond (.tmp 45) (.seq (.region 11 R3_11 false) .ret) .skip)) (.seq (.region 12 R3_12 false) (.seq (.region 13 R3_13 false) (.seq (.seq (.region 14 R3_14 false) (.cond (.tmp 61) (.seq (.region 15 R3_15 false) .ret) .skip)) (.seq (.region 16 R3_16 false) (.seq (.region 17 R3_17 false) (.seq (.region 18 R3_18 false) (.seq (.region 19 R3_19 false) (.seq (.seq (.region 20 R3_20 false) (.cond (.tmp 69) (.seq (.region 21 R3_21 false) .ret) .skip)) (.seq (.seq (.region 22 R3_22 false) (.cond (.tmp 72) (.seq (.region 23 R3_23 false) .ret) .skip)) (.seq (.region 24 R3_24 false) (.seq (.seq (.region 25 R3_25 false) (.cond (.tmp 87) (.seq (.region 26 R3_26 false) .ret) .skip)) (.seq (.region 27 R3_27 false) (.seq (.region 28 R3_28 false) (.seq (.seq (.region 29 R3_29 false) (.cond (.tmp 92) (.seq (.region 30 R3_30 false) .ret) .skip)) (.seq (.seq (.region 31 R3_31 false) (.cond (.tmp 95) (.seq (.region 32 R3_32 false) .ret) .skip)) (.seq (.region 33 R3_33 false) .ret))))))))))))))))))))))))) := by kernel_rfl
noncomputable def R4_0 : Array Oper := opsAt Try.f4 [0]
noncomputable def R4_1 : Array Oper := opsAt Try.f4 [1, 0]
noncomputable def R4_2 : Array Oper := opsAt Try.f4 [1, 1, 0, 0]
noncomputable def R4_3 : Array Oper := opsAt Try.f4 [1, 1, 0, 1, 0, 0]
noncomputable def R4_4 : Array Oper := opsAt Try.f4 [1, 1, 1, 0]
theorem code4 : Try.f4.body = some (.seq (.region 0 R4_0 false) (.seq (.region 1 R4_1 false) (.seq (.seq (.region 2 R4_2 false) (.cond (.tmp 10) (.seq (.region 3 R4_3 false) .ret) .skip)) (.seq (.region 4 R4_4 false) .ret)))) := by kernel_rfl
noncomputable def R5_0 : Array Oper := opsAt Try.f5 [0]
noncomputable def R5_1 : Array Oper := opsAt Try.f5 [1, 0, 0]
noncomputable def R5_2 : Array Oper := opsAt Try.f5 [1, 0, 1, 0, 0]
noncomputable def R5_3 : Array Oper := opsAt Try.f5 [1, 1, 0]
noncomputable def R5_4 : Array Oper := opsAt Try.f5 [1, 1, 1, 0, 0]
noncomputable def R5_5 : Array Oper := opsAt Try.f5 [1, 1, 1, 0, 1, 0, 0, 0, 0]
noncomputable def R5_7 : Array Oper := opsAt Try.f5 [1, 1, 1, 0, 1, 0, 0, 1, 0, 0, 0]
noncomputable def R5_8 : Array Oper := opsAt Try.f5 [1, 1, 1, 0, 1, 0, 0, 1, 0, 0, 1, 0, 0]
noncomputable def R5_9 : Array Oper := opsAt Try.f5 [1, 1, 1, 0, 1, 0, 0, 1, 0, 0, 1, 1, 0]
noncomputable def R5_10 : Array Oper := opsAt Try.f5 [1, 1, 1, 0, 1, 0, 0, 1, 0, 0, 1, 1, 1, 0]
noncomputable def R5_11 : Array Oper := opsAt Try.f5 [1, 1, 1, 0, 1, 0, 0, 1, 0, 0, 1, 1, 1, 1, 0]
noncomputable def R5_12 : Array Oper := opsAt Try.f5 [1, 1, 1, 0, 1, 0, 0, 1, 0, 0, 1, 1, 1, 1, 1]
noncomputable def R5_6 : Array Oper := opsAt Try.f5 [1, 1, 1, 0, 1, 0, 0, 1, 1]
noncomputable def L5_0 : Code := .seq (.seq (.region 5 R5_5 false) (.cond (.tmp 19) .skip (.exit 0))) (.seq (.block 1 (.seq (.region 7 R5_7 false) (.seq (.seq (.region 8 R5_8 false) (.cond (.tmp 29) (.exit 1) .skip)) (.seq (.region 9 R5_9 false) (.seq (.region 10 R5_10 false) (.seq (.region 11 R5_11 false) (.region 12 R5_12 false))))))) (.region 6 R5_6 false))
theorem lpL5_0 : loops L5_0 = 0 := rfl
noncomputable def R5_13 : Array Oper := opsAt Try.f5 [1, 1, 1, 1, 0]
noncomputable def M5_0 : Code := .seq (.region 13 R5_13 false) .ret
theorem lpM5_0 : loops M5_0 = 0 := rfl
theorem code5 : Try.f5.body = some (.seq (.region 0 R5_0 false) (.seq (.seq (.region 1 R5_1 false) (.cond (.tmp 11) (.seq (.region 2 R5_2 false) .ret) .skip)) (.seq (.region 3 R5_3 false) (.seq (.seq (.region 4 R5_4 false) (.block 0 (.loop L5_0))) M5_0)))) := by kernel_rfl
noncomputable def R6_0 : Array Oper := opsAt Try.f6 [0]
noncomputable def R6_1 : Array Oper := opsAt Try.f6 [1, 0]
noncomputable def R6_2 : Array Oper := opsAt Try.f6 [1, 1, 0, 0]
noncomputable def R6_3 : Array Oper := opsAt Try.f6 [1, 1, 0, 1, 0, 0, 0, 0]
noncomputable def R6_5 : Array Oper := opsAt Try.f6 [1, 1, 0, 1, 0, 0, 1, 0, 0]
noncomputable def R6_4 : Array Oper := opsAt Try.f6 [1, 1, 0, 1, 0, 0, 1, 1]
noncomputable def L6_0 : Code := .seq (.seq (.region 3 R6_3 false) (.cond (.tmp 11) .skip (.exit 0))) (.seq (.block 1 (.region 5 R6_5 false)) (.region 4 R6_4 false))
theorem lpL6_0 : loops L6_0 = 0 := rfl
noncomputable def R6_6 : Array Oper := opsAt Try.f6 [1, 1, 1, 0]
noncomputable def M6_0 : Code := .seq (.region 6 R6_6 false) .ret
theorem lpM6_0 : loops M6_0 = 0 := rfl
theorem code6 : Try.f6.body = some (.seq (.region 0 R6_0 false) (.seq (.region 1 R6_1 false) (.seq (.seq (.region 2 R6_2 false) (.block 0 (.loop L6_0))) M6_0))) := by kernel_rfl
noncomputable def R7_0 : Array Oper := opsAt Try.f7 [0]
noncomputable def R7_1 : Array Oper := opsAt Try.f7 [1, 0, 0]
noncomputable def R7_2 : Array Oper := opsAt Try.f7 [1, 0, 1, 0, 0]
noncomputable def R7_3 : Array Oper := opsAt Try.f7 [1, 1, 0]
noncomputable def R7_4 : Array Oper := opsAt Try.f7 [1, 1, 1, 0, 0]
noncomputable def R7_5 : Array Oper := opsAt Try.f7 [1, 1, 1, 0, 1, 0, 0, 0, 0]
noncomputable def R7_6 : Array Oper := opsAt Try.f7 [1, 1, 1, 0, 1, 0, 0, 1, 0, 0]
noncomputable def R7_7 : Array Oper := opsAt Try.f7 [1, 1, 1, 0, 1, 0, 0, 1, 0, 1, 0]
noncomputable def R7_8 : Array Oper := opsAt Try.f7 [1, 1, 1, 0, 1, 0, 0, 1, 0, 1, 1, 0, 0, 0]
noncomputable def R7_9 : Array Oper := opsAt Try.f7 [1, 1, 1, 0, 1, 0, 0, 1, 0, 1, 1, 0, 0, 1, 1, 0, 0, 0]
noncomputable def R7_10 : Array Oper := opsAt Try.f7 [1, 1, 1, 0, 1, 0, 0, 1, 0, 1, 1, 0, 0, 1, 1, 0, 0, 1, 0]
noncomputable def R7_11 : Array Oper := opsAt Try.f7 [1, 1, 1, 0, 1, 0, 0, 1, 0, 1, 1, 0, 0, 1, 1, 0, 0, 1, 1, 0]
noncomputable def R7_12 : Array Oper := opsAt Try.f7 [1, 1, 1, 0, 1, 0, 0, 1, 0, 1, 1, 0, 0, 1, 1, 0, 0, 1, 1, 1, 0, 0]
noncomputable def R7_13 : Array Oper := opsAt Try.f7 [1, 1, 1, 0, 1, 0, 0, 1, 0, 1, 1, 0, 0, 1, 1, 0, 0, 1, 1, 1, 0, 1, 0]
noncomputable def R7_14 : Array Oper := opsAt Try.f7 [1, 1, 1, 0, 1, 0, 0, 1, 0, 1, 1, 0, 0, 1, 1, 1]
noncomputable def L7_1 : Code := .seq (.region 8 R7_8 false) (.seq (.cond (.tmp 19) .skip (.exit 2)) (.seq (.block 3 (.seq (.region 9 R7_9 false) (.seq (.region 10 R7_10 true) (.seq (.region 11 R7_11 false) (.cond (.tmp 31) (.seq (.region 12 R7_12 false) (.seq (.region 13 R7_13 false) (.exit 2))) .skip))))) (.region 14 R7_14 false)))
theorem lpL7_1 : loops L7_1 = 0 := rfl
noncomputable def L7_0 : Code := .seq (.seq (.region 5 R7_5 false) (.cond (.tmp 15) .skip (.exit 0))) (.block 1 (.seq (.region 6 R7_6 false) (.seq (.region 7 R7_7 false) (.block 2 (.loop L7_1)))))
theorem lpL7_0 : loops L7_0 = 1 := rfl
noncomputable def R7_15 : Array Oper := opsAt Try.f7 [1, 1, 1, 1, 0]
noncomputable def M7_0 : Code := .seq (.region 15 R7_15 false) .ret
theorem lpM7_0 : loops M7_0 = 0 := rfl
theorem code7 : Try.f7.body = some (.seq (.region 0 R7_0 false) (.seq (.seq (.region 1 R7_1 false) (.cond (.tmp 12) (.seq (.region 2 R7_2 false) .ret) .skip)) (.seq (.region 3 R7_3 false) (.seq (.seq (.region 4 R7_4 false) (.block 0 (.loop L7_0))) M7_0)))) := by kernel_rfl
noncomputable def R8_0 : Array Oper := opsAt Try.f8 [0]
noncomputable def R8_1 : Array Oper := opsAt Try.f8 [1, 0, 0]
noncomputable def R8_2 : Array Oper := opsAt Try.f8 [1, 0, 1, 0, 0]
noncomputable def R8_3 : Array Oper := opsAt Try.f8 [1, 1, 0, 0]
noncomputable def R8_4 : Array Oper := opsAt Try.f8 [1, 1, 0, 1, 0, 0, 0, 0]
noncomputable def R8_6 : Array Oper := opsAt Try.f8 [1, 1, 0, 1, 0, 0, 1, 0, 0, 0]
noncomputable def R8_7 : Array Oper := opsAt Try.f8 [1, 1, 0, 1, 0, 0, 1, 0, 0, 1, 0, 0]
noncomputable def R8_5 : Array Oper := opsAt Try.f8 [1, 1, 0, 1, 0, 0, 1, 1]
noncomputable def L8_0 : Code := .seq (.seq (.region 4 R8_4 false) (.cond (.tmp 14) .skip (.exit 0))) (.seq (.block 1 (.seq (.region 6 R8_6 true) (.cond (.tmp 26) (.seq (.region 7 R8_7 false) .ret) .skip))) (.region 5 R8_5 false))
theorem lpL8_0 : loops L8_0 = 0 := rfl
noncomputable def R8_8 : Array Oper := opsAt Try.f8 [1, 1, 1, 0]
noncomputable def M8_0 : Code := .seq (.region 8 R8_8 false) .ret
theorem lpM8_0 : loops M8_0 = 0 := rfl
theorem code8 : Try.f8.body = some (.seq (.region 0 R8_0 false) (.seq (.seq (.region 1 R8_1 false) (.cond (.tmp 10) (.seq (.region 2 R8_2 false) .ret) .skip)) (.seq (.seq (.region 3 R8_3 false) (.block 0 (.loop L8_0))) M8_0))) := by kernel_rfl
noncomputable def R9_0 : Array Oper := opsAt Try.f9 [0]
noncomputable def R9_1 : Array Oper := opsAt Try.f9 [1, 0, 0]
noncomputable def R9_2 : Array Oper := opsAt Try.f9 [1, 0, 1, 0, 0, 0, 0]
noncomputable def R9_4 : Array Oper := opsAt Try.f9 [1, 0, 1, 0, 0, 1, 0, 0, 0]
noncomputable def R9_5 : Array Oper := opsAt Try.f9 [1, 0, 1, 0, 0, 1, 0, 0, 1, 0]
noncomputable def R9_6 : Array Oper := opsAt Try.f9 [1, 0, 1, 0, 0, 1, 0, 0, 1, 1, 0]
noncomputable def R9_7 : Array Oper := opsAt Try.f9 [1, 0, 1, 0, 0, 1, 0, 0, 1, 1, 1]
noncomputable def R9_3 : Array Oper := opsAt Try.f9 [1, 0, 1, 0, 0, 1, 1]
noncomputable def L9_0 : Code := .seq (.seq (.region 2 R9_2 false) (.cond (.tmp 9) .skip (.exit 0))) (.seq (.block 1 (.seq (.region 4 R9_4 false) (.seq (.region 5 R9_5 false) (.seq (.region 6 R9_6 false) (.region 7 R9_7 false))))) (.region 3 R9_3 false))
theorem lpL9_0 : loops L9_0 = 0 := rfl
noncomputable def R9_8 : Array Oper := opsAt Try.f9 [1, 1, 0]
noncomputable def M9_0 : Code := .seq (.region 8 R9_8 false) .ret
theorem lpM9_0 : loops M9_0 = 0 := rfl
theorem code9 : Try.f9.body = some (.seq (.region 0 R9_0 false) (.seq (.seq (.region 1 R9_1 false) (.block 0 (.loop L9_0))) M9_0)) := by kernel_rfl
noncomputable def R10_0 : Array Oper := opsAt Try.f10 [0]
noncomputable def R10_1 : Array Oper := opsAt Try.f10 [1, 0, 0]
noncomputable def R10_2 : Array Oper := opsAt Try.f10 [1, 0, 1, 0, 0, 0, 0]
noncomputable def R10_4 : Array Oper := opsAt Try.f10 [1, 0, 1, 0, 0, 1, 0, 0, 0, 0]
noncomputable def R10_5 : Array Oper := opsAt Try.f10 [1, 0, 1, 0, 0, 1, 0, 0, 0, 1, 0, 0]
noncomputable def R10_6 : Array Oper := opsAt Try.f10 [1, 0, 1, 0, 0, 1, 0, 0, 1, 0]
noncomputable def R10_7 : Array Oper := opsAt Try.f10 [1, 0, 1, 0, 0, 1, 0, 0, 1, 1, 0, 0]
noncomputable def R10_8 : Array Oper := opsAt Try.f10 [1, 0, 1, 0, 0, 1, 0, 0, 1, 1, 0, 1, 0, 0]
noncomputable def R10_9 : Array Oper := opsAt Try.f10 [1, 0, 1, 0, 0, 1, 0, 0, 1, 1, 1]
noncomputable def R10_3 : Array Oper := opsAt Try.f10 [1, 0, 1, 0, 0, 1, 1]
noncomputable def L10_0 : Code := .seq (.seq (.region 2 R10_2 false) (.cond (.tmp 9) .skip (.exit 0))) (.seq (.block 1 (.seq (.seq (.region 4 R10_4 false) (.cond (.tmp 18) (.seq (.region 5 R10_5 false) .ret) .skip)) (.seq (.region 6 R10_6 false) (.seq (.seq (.region 7 R10_7 false) (.cond (.tmp 27) (.seq (.region 8 R10_8 false) .ret) .skip)) (.region 9 R10_9 false))))) (.region 3 R10_3 false))
theorem lpL10_0 : loops L10_0 = 0 := rfl
noncomputable def R10_10 : Array Oper := opsAt Try.f10 [1, 1, 0]
noncomputable def M10_0 : Code := .seq (.region 10 R10_10 false) .ret
theorem lpM10_0 : loops M10_0 = 0 := rfl
theorem code10 : Try.f10.body = some (.seq (.region 0 R10_0 false) (.seq (.seq (.region 1 R10_1 false) (.block 0 (.loop L10_0))) M10_0)) := by kernel_rfl
noncomputable def R11_0 : Array Oper := opsAt Try.f11 [0]
noncomputable def R11_1 : Array Oper := opsAt Try.f11 [1, 0]
noncomputable def R11_2 : Array Oper := opsAt Try.f11 [1, 1, 0, 0]
noncomputable def R11_3 : Array Oper := opsAt Try.f11 [1, 1, 0, 1, 0, 0]
noncomputable def R11_4 : Array Oper := opsAt Try.f11 [1, 1, 1, 0, 0]
noncomputable def R11_5 : Array Oper := opsAt Try.f11 [1, 1, 1, 0, 1, 0, 0, 0, 0]
noncomputable def R11_7 : Array Oper := opsAt Try.f11 [1, 1, 1, 0, 1, 0, 0, 1, 0, 0, 0]
noncomputable def R11_8 : Array Oper := opsAt Try.f11 [1, 1, 1, 0, 1, 0, 0, 1, 0, 0, 1, 0, 0]
noncomputable def R11_9 : Array Oper := opsAt Try.f11 [1, 1, 1, 0, 1, 0, 0, 1, 0, 0, 1, 0, 1, 0, 0]
noncomputable def R11_10 : Array Oper := opsAt Try.f11 [1, 1, 1, 0, 1, 0, 0, 1, 0, 0, 1, 1]
noncomputable def R11_6 : Array Oper := opsAt Try.f11 [1, 1, 1, 0, 1, 0, 0, 1, 1]
noncomputable def L11_0 : Code := .seq (.seq (.region 5 R11_5 false) (.cond (.tmp 12) .skip (.exit 0))) (.seq (.block 1 (.seq (.region 7 R11_7 false) (.seq (.seq (.region 8 R11_8 false) (.cond (.tmp 26) (.seq (.region 9 R11_9 false) .ret) .skip)) (.region 10 R11_10 false)))) (.region 6 R11_6 false))
theorem lpL11_0 : loops L11_0 = 0 := rfl
noncomputable def R11_11 : Array Oper := opsAt Try.f11 [1, 1, 1, 1, 0]
noncomputable def M11_0 : Code := .seq (.region 11 R11_11 false) .ret
theorem lpM11_0 : loops M11_0 = 0 := rfl
theorem code11 : Try.f11.body = some (.seq (.region 0 R11_0 false) (.seq (.region 1 R11_1 false) (.seq (.seq (.region 2 R11_2 false) (.cond (.tmp 8) (.seq (.region 3 R11_3 false) .ret) .skip)) (.seq (.seq (.region 4 R11_4 false) (.block 0 (.loop L11_0))) M11_0)))) := by kernel_rfl
noncomputable def R12_0 : Array Oper := opsAt Try.f12 [0]
noncomputable def R12_1 : Array Oper := opsAt Try.f12 [1, 0]
noncomputable def R12_2 : Array Oper := opsAt Try.f12 [1, 1, 0, 0, 0]
noncomputable def R12_3 : Array Oper := opsAt Try.f12 [1, 1, 0, 0, 1, 0, 0, 0]
noncomputable def R12_4 : Array Oper := opsAt Try.f12 [1, 1, 0, 0, 1, 0, 0, 1, 0, 0]
noncomputable def R12_5 : Array Oper := opsAt Try.f12 [1, 1, 0, 0, 1, 0, 1, 0]
noncomputable def R12_6 : Array Oper := opsAt Try.f12 [1, 1, 0, 0, 1, 1, 0]
noncomputable def R12_7 : Array Oper := opsAt Try.f12 [1, 1, 0, 0, 1, 1, 1, 0, 0]
noncomputable def R12_8 : Array Oper := opsAt Try.f12 [1, 1, 0, 0, 1, 1, 1, 0, 1, 0]
noncomputable def R12_9 : Array Oper := opsAt Try.f12 [1, 1, 0, 0, 1, 1, 1, 0, 1, 1, 0, 0]
noncomputable def R12_10 : Array Oper := opsAt Try.f12 [1, 1, 1, 0]
theorem code12 : Try.f12.body = some (.seq (.region 0 R12_0 false) (.seq (.region 1 R12_1 false) (.seq (.block 0 (.seq (.region 2 R12_2 false) (.cond (.tmp 12) (.seq (.seq (.region 3 R12_3 true) (.cond (.tmp 32) (.seq (.region 4 R12_4 false) .ret) .skip)) (.seq (.region 5 R12_5 false) .ret)) (.seq (.region 6 R12_6 false) (.cond (.tmp 33) (.seq (.region 7 R12_7 true) (.seq (.region 8 R12_8 false) (.cond (.tmp 71) (.seq (.region 9 R12_9 false) .ret) .skip))) .skip))))) (.seq (.region 10 R12_10 false) .ret)))) := by kernel_rfl
noncomputable def R13_0 : Array Oper := opsAt Try.f13 [0]
noncomputable def R13_1 : Array Oper := opsAt Try.f13 [1, 0]
noncomputable def R13_2 : Array Oper := opsAt Try.f13 [1, 1, 0]
noncomputable def R13_3 : Array Oper := opsAt Try.f13 [1, 1, 1, 0]
noncomputable def R13_4 : Array Oper := opsAt Try.f13 [1, 1, 1, 1, 0]
theorem code13 : Try.f13.body = some (.seq (.region 0 R13_0 false) (.seq (.region 1 R13_1 false) (.seq (.region 2 R13_2 false) (.seq (.region 3 R13_3 false) (.seq (.region 4 R13_4 false) .ret))))) := by kernel_rfl
noncomputable def R14_0 : Array Oper := opsAt Try.f14 [0]
noncomputable def R14_1 : Array Oper := opsAt Try.f14 [1, 0, 0]
noncomputable def R14_2 : Array Oper := opsAt Try.f14 [1, 0, 1, 0, 0]
noncomputable def R14_3 : Array Oper := opsAt Try.f14 [1, 1, 0]
noncomputable def R14_4 : Array Oper := opsAt Try.f14 [1, 1, 1, 0, 0]
noncomputable def R14_5 : Array Oper := opsAt Try.f14 [1, 1, 1, 0, 1, 0, 0, 0]
noncomputable def R14_6 : Array Oper := opsAt Try.f14 [1, 1, 1, 0, 1, 0, 0, 1, 1, 0, 0, 0]
noncomputable def R14_7 : Array Oper := opsAt Try.f14 [1, 1, 1, 0, 1, 0, 0, 1, 1, 0, 0, 1, 0]
noncomputable def R14_8 : Array Oper := opsAt Try.f14 [1, 1, 1, 0, 1, 0, 0, 1, 1, 0, 0, 1, 1, 0, 0]
noncomputable def R14_9 : Array Oper := opsAt Try.f14 [1, 1, 1, 0, 1, 0, 0, 1, 1, 0, 0, 1, 1, 0, 1, 0, 0]
noncomputable def R14_10 : Array Oper := opsAt Try.f14 [1, 1, 1, 0, 1, 0, 0, 1, 1, 0, 0, 1, 1, 1]
noncomputable def R14_11 : Array Oper := opsAt Try.f14 [1, 1, 1, 0, 1, 0, 0, 1, 1, 1]
noncomputable def L14_0 : Code := .seq (.region 5 R14_5 false) (.seq (.cond (.tmp 12) .skip (.exit 0)) (.seq (.block 1 (.seq (.region 6 R14_6 false) (.seq (.region 7 R14_7 false) (.seq (.seq (.region 8 R14_8 false) (.cond (.tmp 25) (.seq (.region 9 R14_9 false) .ret) .skip)) (.region 10 R14_10 false))))) (.region 11 R14_11 false)))
theorem lpL14_0 : loops L14_0 = 0 := rfl
noncomputable def R14_12 : Array Oper := opsAt Try.f14 [1, 1, 1, 1, 0]
noncomputable def M14_0 : Code := .seq (.region 12 R14_12 false) .ret
theorem lpM14_0 : loops M14_0 = 0 := rfl
theorem code14 : Try.f14.body = some (.seq (.region 0 R14_0 false) (.seq (.seq (.region 1 R14_1 false) (.cond (.tmp 8) (.seq (.region 2 R14_2 false) .ret) .skip)) (.seq (.region 3 R14_3 false) (.seq (.seq (.region 4 R14_4 false) (.block 0 (.loop L14_0))) M14_0)))) := by kernel_rfl
noncomputable def R15_0 : Array Oper := opsAt Try.f15 [0]
noncomputable def R15_1 : Array Oper := opsAt Try.f15 [1, 0, 0]
noncomputable def R15_2 : Array Oper := opsAt Try.f15 [1, 0, 1, 0, 0]
noncomputable def R15_3 : Array Oper := opsAt Try.f15 [1, 1, 0]
theorem code15 : Try.f15.body = some (.seq (.region 0 R15_0 false) (.seq (.seq (.region 1 R15_1 false) (.cond (.tmp 4) (.seq (.region 2 R15_2 false) .ret) .skip)) (.seq (.region 3 R15_3 false) .ret))) := by kernel_rfl
noncomputable def R16_0 : Array Oper := opsAt Try.f16 [0]
noncomputable def R16_1 : Array Oper := opsAt Try.f16 [1, 0]
noncomputable def R16_2 : Array Oper := opsAt Try.f16 [1, 1, 0, 0]
noncomputable def R16_3 : Array Oper := opsAt Try.f16 [1, 1, 0, 1, 0, 0]
noncomputable def R16_4 : Array Oper := opsAt Try.f16 [1, 1, 1, 0]
noncomputable def R16_5 : Array Oper := opsAt Try.f16 [1, 1, 1, 1, 0, 0]
noncomputable def R16_6 : Array Oper := opsAt Try.f16 [1, 1, 1, 1, 0, 1, 0, 0, 0]
noncomputable def R16_7 : Array Oper := opsAt Try.f16 [1, 1, 1, 1, 0, 1, 0, 0, 1, 1, 0, 0, 0]
noncomputable def R16_8 : Array Oper := opsAt Try.f16 [1, 1, 1, 1, 0, 1, 0, 0, 1, 1, 0, 0, 1, 0]
noncomputable def R16_9 : Array Oper := opsAt Try.f16 [1, 1, 1, 1, 0, 1, 0, 0, 1, 1, 0, 0, 1, 1, 0, 0]
noncomputable def R16_10 : Array Oper := opsAt Try.f16 [1, 1, 1, 1, 0, 1, 0, 0, 1, 1, 1]
noncomputable def L16_0 : Code := .seq (.region 6 R16_6 false) (.seq (.cond (.tmp 26) .skip (.exit 0)) (.seq (.block 1 (.seq (.region 7 R16_7 false) (.seq (.region 8 R16_8 false) (.cond (.tmp 31) (.seq (.region 9 R16_9 false) .ret) .skip)))) (.region 10 R16_10 false)))
theorem lpL16_0 : loops L16_0 = 0 := rfl
noncomputable def R16_11 : Array Oper := opsAt Try.f16 [1, 1, 1, 1, 1, 0]
noncomputable def R16_12 : Array Oper := opsAt Try.f16 [1, 1, 1, 1, 1, 1, 0, 0]
noncomputable def R16_13 : Array Oper := opsAt Try.f16 [1, 1, 1, 1, 1, 1, 0, 1, 0, 0]
noncomputable def R16_14 : Array Oper := opsAt Try.f16 [1, 1, 1, 1, 1, 1, 0, 1, 0, 1, 0]
noncomputable def R16_15 : Array Oper := opsAt Try.f16 [1, 1, 1, 1, 1, 1, 0, 1, 0, 1, 1, 0]
noncomputable def R16_16 : Array Oper := opsAt Try.f16 [1, 1, 1, 1, 1, 1, 0, 1, 0, 1, 1, 1, 0]
noncomputable def R16_17 : Array Oper := opsAt Try.f16 [1, 1, 1, 1, 1, 1, 0, 1, 0, 1, 1, 1, 1, 0]
noncomputable def R16_18 : Array Oper := opsAt Try.f16 [1, 1, 1, 1, 1, 1, 0, 1, 0, 1, 1, 1, 1, 1, 0]
noncomputable def R16_19 : Array Oper := opsAt Try.f16 [1, 1, 1, 1, 1, 1, 0, 1, 0, 1, 1, 1, 1, 1, 1, 0]
noncomputable def R16_20 : Array Oper := opsAt Try.f16 [1, 1, 1, 1, 1, 1, 0, 1, 0, 1, 1, 1, 1, 1, 1, 1, 0]
noncomputable def R16_21 : Array Oper := opsAt Try.f16 [1, 1, 1, 1, 1, 1, 0, 1, 0, 1, 1, 1, 1, 1, 1, 1, 1, 0]
noncomputable def R16_22 : Array Oper := opsAt Try.f16 [1, 1, 1, 1, 1, 1, 0, 1, 0, 1, 1, 1, 1, 1, 1, 1, 1, 1, 0, 0]
noncomputable def R16_23 : Array Oper := opsAt Try.f16 [1, 1, 1, 1, 1, 1, 0, 1, 0, 1, 1, 1, 1, 1, 1, 1, 1, 1, 0, 1, 0]
noncomputable def R16_24 : Array Oper := opsAt Try.f16 [1, 1, 1, 1, 1, 1, 1, 0]
noncomputable def M16_0 : Code := .seq (.region 11 R16_11 true) (.seq (.seq (.region 12 R16_12 false) (.block 2 (.seq (.region 13 R16_13 false) (.cond (.tmp 45) (.region 14 R16_14 false) (.seq (.region 15 R16_15 false) (.cond (.tmp 50) (.region 16 R16_16 false) (.seq (.region 17 R16_17 false) (.cond (.tmp 55) (.region 18 R16_18 false) (.seq (.region 19 R16_19 false) (.cond (.tmp 60) (.region 20 R16_20 false) (.seq (.region 21 R16_21 false) (.cond (.tmp 65) (.seq (.region 22 R16_22 false) (.cond (.tmp 70) (.region 23 R16_23 false) .skip)) .skip)))))))))))) (.seq (.region 24 R16_24 false) .ret))
theorem lpM16_0 : loops M16_0 = 0 := rfl
theorem code16 : Try.f16.body = some (.seq (.region 0 R16_0 false) (.seq (.region 1 R16_1 false) (.seq (.seq (.region 2 R16_2 false) (.cond (.tmp 16) (.seq (.region 3 R16_3 false) .ret) .skip)) (.seq (.region 4 R16_4 false) (.seq (.seq (.region 5 R16_5 false) (.block 0 (.loop L16_0))) M16_0))))) := by kernel_rfl
noncomputable def R18_0 : Array Oper := opsAt Try.f18 [0]
noncomputable def R18_1 : Array Oper := opsAt Try.f18 [1, 0, 0, 0]
noncomputable def R18_2 : Array Oper := opsAt Try.f18 [1, 0, 0, 1, 0, 0]
noncomputable def R18_3 : Array Oper := opsAt Try.f18 [1, 0, 0, 1, 1, 0]
noncomputable def R18_4 : Array Oper := opsAt Try.f18 [1, 0, 0, 1, 1, 1, 0, 0]
noncomputable def R18_5 : Array Oper := opsAt Try.f18 [1, 1, 0]
theorem code18 : Try.f18.body = some (.seq (.region 0 R18_0 false) (.seq (.block 0 (.seq (.region 1 R18_1 false) (.cond (.tmp 3) (.seq (.region 2 R18_2 false) .ret) (.seq (.region 3 R18_3 false) (.cond (.tmp 7) (.seq (.region 4 R18_4 false) .ret) .skip))))) (.seq (.region 5 R18_5 false) .ret))) := by kernel_rfl
noncomputable def R19_0 : Array Oper := opsAt Try.f19 [0]
noncomputable def R19_1 : Array Oper := opsAt Try.f19 [1, 0, 0]
noncomputable def R19_2 : Array Oper := opsAt Try.f19 [1, 0, 1, 0, 0]
noncomputable def R19_3 : Array Oper := opsAt Try.f19 [1, 1, 0, 0]
noncomputable def R19_4 : Array Oper := opsAt Try.f19 [1, 1, 0, 1, 0, 0]
noncomputable def R19_5 : Array Oper := opsAt Try.f19 [1, 1, 1, 0]
theorem code19 : Try.f19.body = some (.seq (.region 0 R19_0 false) (.seq (.seq (.region 1 R19_1 false) (.cond (.tmp 9) (.seq (.region 2 R19_2 false) .ret) .skip)) (.seq (.seq (.region 3 R19_3 false) (.cond (.tmp 14) (.seq (.region 4 R19_4 false) .ret) .skip)) (.seq (.region 5 R19_5 false) .ret)))) := by kernel_rfl
noncomputable def R20_0 : Array Oper := opsAt Try.f20 [0]
noncomputable def R20_1 : Array Oper := opsAt Try.f20 [1, 0, 0, 0, 0]
noncomputable def R20_2 : Array Oper := opsAt Try.f20 [1, 0, 0, 0, 1, 1]
noncomputable def R20_3 : Array Oper := opsAt Try.f20 [1, 0, 0, 1, 0, 0]
noncomputable def R20_4 : Array Oper := opsAt Try.f20 [1, 0, 0, 1, 1, 0]
noncomputable def R20_5 : Array Oper := opsAt Try.f20 [1, 0, 0, 1, 1, 1, 0, 0]
noncomputable def R20_6 : Array Oper := opsAt Try.f20 [1, 0, 0, 1, 1, 1, 1, 0]
noncomputable def R20_7 : Array Oper := opsAt Try.f20 [1, 0, 0, 1, 1, 1, 1, 1, 0, 0]
noncomputable def R20_8 : Array Oper := opsAt Try.f20 [1, 1, 0]
theorem code20 : Try.f20.body = some (.seq (.region 0 R20_0 false) (.seq (.block 0 (.seq (.seq (.region 1 R20_1 false) (.cond (.tmp 3) .skip (.region 2 R20_2 false))) (.cond (.tmp 3) (.seq (.region 3 R20_3 false) .ret) (.seq (.region 4 R20_4 false) (.cond (.tmp 20) (.seq (.region 5 R20_5 false) .ret) (.seq (.region 6 R20_6 false) (.cond (.tmp 29) (.seq (.region 7 R20_7 false) .ret) .skip))))))) (.seq (.region 8 R20_8 false) .ret))) := by kernel_rfl
noncomputable def R21_0 : Array Oper := opsAt Try.f21 [0]
noncomputable def R21_1 : Array Oper := opsAt Try.f21 [1, 0]
theorem code21 : Try.f21.body = some (.seq (.region 0 R21_0 false) (.seq (.region 1 R21_1 false) .ret)) := by kernel_rfl
noncomputable def R22_0 : Array Oper := opsAt Try.f22 [0]
noncomputable def R22_1 : Array Oper := opsAt Try.f22 [1, 0, 0]
noncomputable def R22_2 : Array Oper := opsAt Try.f22 [1, 0, 1, 0, 0]
noncomputable def R22_3 : Array Oper := opsAt Try.f22 [1, 0, 1, 0, 1, 0, 0]
noncomputable def R22_4 : Array Oper := opsAt Try.f22 [1, 0, 1, 0, 1, 1, 0]
noncomputable def R22_5 : Array Oper := opsAt Try.f22 [1, 0, 1, 0, 1, 1, 1, 0, 0]
noncomputable def R22_6 : Array Oper := opsAt Try.f22 [1, 0, 1, 0, 1, 1, 1, 1, 0]
noncomputable def R22_7 : Array Oper := opsAt Try.f22 [1, 0, 1, 0, 1, 1, 1, 1, 1, 0, 0]
noncomputable def R22_8 : Array Oper := opsAt Try.f22 [1, 1, 0]
theorem code22 : Try.f22.body = some (.seq (.region 0 R22_0 false) (.seq (.seq (.region 1 R22_1 false) (.block 0 (.seq (.region 2 R22_2 false) (.cond (.tmp 8) (.seq (.region 3 R22_3 false) .ret) (.seq (.region 4 R22_4 false) (.cond (.tmp 13) (.seq (.region 5 R22_5 false) .ret) (.seq (.region 6 R22_6 false) (.cond (.tmp 18) (.seq (.region 7 R22_7 false) .ret) .skip)))))))) (.seq (.region 8 R22_8 false) .ret))) := by kernel_rfl
noncomputable def R23_0 : Array Oper := opsAt Try.f23 [0]
noncomputable def R23_1 : Array Oper := opsAt Try.f23 [1, 0]
theorem code23 : Try.f23.body = some (.seq (.region 0 R23_0 false) (.seq (.region 1 R23_1 false) .ret)) := by kernel_rfl
noncomputable def R24_0 : Array Oper := opsAt Try.f24 [0]
noncomputable def R24_1 : Array Oper := opsAt Try.f24 [1, 0, 0, 0]
noncomputable def R24_2 : Array Oper := opsAt Try.f24 [1, 0, 0, 1, 0, 0]
noncomputable def R24_3 : Array Oper := opsAt Try.f24 [1, 0, 0, 1, 1, 0]
noncomputable def R24_4 : Array Oper := opsAt Try.f24 [1, 0, 0, 1, 1, 1, 0, 0]
noncomputable def R24_5 : Array Oper := opsAt Try.f24 [1, 1, 0]
theorem code24 : Try.f24.body = some (.seq (.region 0 R24_0 false) (.seq (.block 0 (.seq (.region 1 R24_1 false) (.cond (.tmp 3) (.seq (.region 2 R24_2 false) .ret) (.seq (.region 3 R24_3 false) (.cond (.tmp 10) (.seq (.region 4 R24_4 false) .ret) .skip))))) (.seq (.region 5 R24_5 false) .ret))) := by kernel_rfl
noncomputable def R25_0 : Array Oper := opsAt Try.f25 [0]
noncomputable def R25_1 : Array Oper := opsAt Try.f25 [1, 0]
theorem code25 : Try.f25.body = some (.seq (.region 0 R25_0 false) (.seq (.region 1 R25_1 false) .ret)) := by kernel_rfl
noncomputable def R30_0 : Array Oper := opsAt Try.f30 [0]
noncomputable def R30_1 : Array Oper := opsAt Try.f30 [1, 0, 0]
noncomputable def R30_2 : Array Oper := opsAt Try.f30 [1, 0, 1, 0, 0]
noncomputable def R30_3 : Array Oper := opsAt Try.f30 [1, 1, 0]
theorem code30 : Try.f30.body = some (.seq (.region 0 R30_0 false) (.seq (.seq (.region 1 R30_1 false) (.cond (.tmp 7) (.seq (.region 2 R30_2 false) .ret) .skip)) (.seq (.region 3 R30_3 false) .ret))) := by kernel_rfl
noncomputable def R31_0 : Array Oper := opsAt Try.f31 [0]
noncomputable def R31_1 : Array Oper := opsAt Try.f31 [1, 0, 0]
noncomputable def R31_2 : Array Oper := opsAt Try.f31 [1, 0, 1, 0, 0]
noncomputable def R31_3 : Array Oper := opsAt Try.f31 [1, 1, 0]
theorem code31 : Try.f31.body = some (.seq (.region 0 R31_0 false) (.seq (.seq (.region 1 R31_1 false) (.cond (.tmp 7) (.seq (.region 2 R31_2 false) .ret) .skip)) (.seq (.region 3 R31_3 false) .ret))) := by kernel_rfl
theorem bldRZ (w : World) (n : Nat) : ∃ z, (zeroValue 35).run Try.prog w = .ok z w ∧ (Builtin.zeroCells z.cells n).toList.length = n * 2 ∧ ∀ v ∈ (Builtin.zeroCells z.cells n).toList, v.oneCell' = true := by
  obtain ⟨z, h1, h2⟩ := (tabOk _ _ T35).run_zero w
  have hs : z.cells.size = 2 := by rw [← Array.length_toList, h2]; rfl
  refine ⟨z, h1, by rw [Array.length_toList, size_zeroCells, hs], zeroCells_one n (fun v hv => ?_) (by omega)⟩
  rw [h2] at hv
  simp only [List.mem_cons, List.not_mem_nil, or_false] at hv
  rcases hv with rfl | rfl <;> rfl
set_option maxHeartbeats 2000000 in
theorem bldR_end (w : World) (g n i cap cap2 : Nat) (cur : Array Value) (fz : Nat × Nat) (ad : Addr) (xs : List Value) (hg : w.heap[g]? = some (.cells cur 35 fz)) (hfz : fz = (0, 0) ∨ cur.size ≤ fz.1) (h1 : i + 1 < n) (h2 : n ≤ cap) (h3 : cap ≤ maxLen) (h4 : cap * 2 = cur.size)
    (hx : xs.length = 2) (hc : ∀ q v, xs[q]? = some v → w.cell? (ad.add q) = some v) (ho : ∀ v ∈ xs, v.oneCell' = true) :
    Calls Try.prog 17 #[.slice (some ⟨g, 0, none⟩) n cap, .int .i64 (i : Int), .int .i64 (n : Int), .slice (some ad) 1 cap2] w fun x w' => x = .returned (.slice (some ⟨g, 0, none⟩) (i + 1) cap) ∧ Same w w' ∧ (∀ k, k ≠ g → w'.heap[k]? = w.heap[k]?) ∧
      ∃ cur', w'.heap[g]? = some (.cells cur' 35 fz) ∧ cur'.size = cur.size ∧ cur'.toList.take ((i + 1) * 2) = cur.toList.take (i * 2) ++ xs := by
  obtain ⟨inf, hi, hisz⟩ := Option.map_eq_some_iff.1 (show (Try.prog.info? 35).map (·.size) = some 2 from by kernel_rfl)
  have b1 : ((i : Int) == (n : Int)) = false := by simp; omega
  have b2 : ((n : Int) == (n : Int)) = true := by simp
  have b3 : (0 : Int) ≤ (i : Int) := by omega
  have b4 : (i : Int) ≤ (n : Int) := by omega
  have b5 : (n : Int) ≤ (cap : Int) := by omega
  have b6 : (i : Int) ≤ (cap : Int) := by omega
  have hA := run_append_room_fz Try.prog w 24 24 35 inf Try.underlying24 hi g 0 i cap cur fz hg hfz ad 1 cap2 xs (by rw [hisz, hx]) hc ho (by omega) (by rw [hisz, hx]; omega)
  rw [hisz, Nat.zero_add] at hA
  have e1 := setRow_heap w g cur (put2 cur (i * 2) xs) _ fz hg
  have s1 : (put2 cur (i * 2) xs).size = cur.size := put2_size (by omega)
  have q1 : (put2 cur (i * 2) xs).toList.take (i * 2 + xs.length) = cur.toList.take (i * 2) ++ xs := put2_end (by omega)
  obtain ⟨d1, hd1⟩ : ∃ d, put2 cur (i * 2) xs = d := ⟨_, rfl⟩
  have hA' : (Builtin.append_ #[24, 24] 24 #[.slice (some ⟨g, 0, none⟩) i cap, .slice (some ad) 1 cap2]).run Try.prog w = .ok (.slice (some ⟨g, 0, none⟩) (i + 1) cap) (w.setRow g d1) := by rw [← hd1]; exact hA
  rw [hd1] at e1 s1 q1
  obtain ⟨z, hz, zl, z1⟩ := bldRZ (w.setRow g d1) (n - (i + 1))
  have hC := run_clear_sz Try.prog (w.setRow g d1) 24 0 35 z g ((i + 1) * 2) (n - (i + 1)) (cap - (i + 1)) d1 35 fz Try.underlying24 hz (by omega) e1 (by rw [s1]; exact hfz) (by rw [s1, zl]; omega) z1
  obtain ⟨zs, hzs⟩ : ∃ zs, (Builtin.zeroCells z.cells (n - (i + 1))).toList = zs := ⟨_, rfl⟩
  rw [hzs] at hC zl
  have e2 := setRow_heap (w.setRow g d1) g d1 (put2 d1 ((i + 1) * 2) zs) _ fz e1
  have s2 : (put2 d1 ((i + 1) * 2) zs).size = d1.size := put2_size (by rw [s1, zl]; omega)
  have q2 : (put2 d1 ((i + 1) * 2) zs).toList.take ((i + 1) * 2) = d1.toList.take ((i + 1) * 2) := put2_le (by rw [s1]; omega) (Nat.le_refl _)
  obtain ⟨d2, hd2⟩ : ∃ d, put2 d1 ((i + 1) * 2) zs = d := ⟨_, rfl⟩
  have hC' : (Builtin.clear_ #[24] 0 #[.slice (some ⟨g, (i + 1) * 2, none⟩) (n - (i + 1)) (cap - (i + 1))]).run Try.prog (w.setRow g d1) = .ok (.tuple #[]) ((w.setRow g d1).setRow g d2) := by rw [← hd2]; exact hC
  rw [hd2] at e2 s2 q2
  have hfin : Same w ((w.setRow g d1).setRow g d2) ∧ (∀ k, k ≠ g → ((w.setRow g d1).setRow g d2).heap[k]? = w.heap[k]?) ∧ ∃ cur', ((w.setRow g d1).setRow g d2).heap[g]? = some (.cells cur' 35 fz) ∧ cur'.size = cur.size ∧ cur'.toList.take ((i + 1) * 2) = cur.toList.take (i * 2) ++ xs := by
    refine ⟨(Same.row _ _ _).trans (Same.row _ _ _), fun k hk => ?_, d2, e2, by omega, ?_⟩
    · rw [setRow_other _ g k _ hk, setRow_other _ g k _ hk]
    · rw [q2, ← q1, hx, show (i + 1) * 2 = i * 2 + 2 by omega]
  clear hA hC
  have c2 : (i : Int) + 1 < (n : Int) := by omega
  have c3 : (i : Int) + 1 ≤ (n : Int) := by omega
  have c4 : (0 : Int) ≤ (i : Int) + 1 := by omega
  go_enter Try.func17, Try.ntmps17
  go_wp2_with (at_builtin; refine wpList_app rfl _ _ 24 24 rfl rfl rfl hA' ?_)
  go_ret
  exact ⟨rfl, hfin⟩
set_option maxHeartbeats 2000000 in
theorem bldR_walk (w W1 W2 W3 : World) (g n i j cap cap2 tot : Nat) (ad : Addr) (h1 : i + 1 < j) (hj : j < n) (h2 : n ≤ cap) (hmx : cap < 9223372036854775808) (htot : i + 1 + (n - j) = tot)
    (hK1 : (Builtin.copy_ #[24, 24] 3 #[.slice (some ⟨g, i * 2, none⟩) (tot - i) (cap - i), .slice (some ad) 1 cap2]).run Try.prog w.drew = .ok (.int .i64 1) W1)
    (hK2 : (Builtin.copy_ #[24, 24] 3 #[.slice (some ⟨g, (i + 1) * 2, none⟩) (tot - (i + 1)) (cap - (i + 1)), .slice (some ⟨g, j * 2, none⟩) (n - j) (cap - j)]).run Try.prog W1.drew = .ok (.int .i64 ((n - j : Nat) : Int)) W2)
    (hC : (Builtin.clear_ #[24] 0 #[.slice (some ⟨g, tot * 2, none⟩) (n - tot) (cap - tot)]).run Try.prog W2 = .ok (.tuple #[]) W3) :
    Calls Try.prog 17 #[.slice (some ⟨g, 0, none⟩) n cap, .int .i64 (i : Int), .int .i64 (j : Int), .slice (some ad) 1 cap2] w fun x w' => x = .returned (.slice (some ⟨g, 0, none⟩) tot cap) ∧ w' = W3 := by
  have b1 : ((i : Int) == (j : Int)) = false := by simp; omega
  have b2 : ((j : Int) == (n : Int)) = false := by simp; omega
  have b3 : (0 : Int) ≤ (i : Int) := by omega
  have b4 : (i : Int) ≤ (j : Int) := by omega
  have b5 : (n : Int) ≤ (cap : Int) := by omega
  have b6 : (i : Int) ≤ (cap : Int) := by omega
  have b7 : (j : Int) ≤ (cap : Int) := by omega
  have b8 : (j : Int) ≤ (n : Int) := by omega
  have hw1 : RowKit.wrap64 ((i : Int) + 1) = (i : Int) + 1 := by unfold RowKit.wrap64; omega
  have hw2 : RowKit.wrap64 ((i : Int) + 1 + ((n - j : Nat) : Int)) = (tot : Int) := by unfold RowKit.wrap64; omega
  have c1 : ¬ (cap : Int) < (tot : Int) := by omega
  have c2 : (0 : Int) ≤ (tot : Int) := by omega
  have c3 : (tot : Int) ≤ (cap : Int) := by omega
  have c4 : (i : Int) + 1 ≤ (j : Int) := by omega
  have c5 : (i : Int) ≤ (tot : Int) := by omega
  have c6 : (i : Int) + 1 ≤ (tot : Int) := by omega
  have c7 : (tot : Int) ≤ (n : Int) := by omega
  have c8 : (0 : Int) ≤ (i : Int) + 1 := by omega
  go_enter Try.func17, Try.ntmps17
  have hw3 : (i : Int) + 1 + ((n - j : Nat) : Int) = (tot : Int) := by omega
  go_wp2
  go_region
  go_wp2
  go_region
  go_wp2
  go_ret
  exact ⟨rfl, rfl⟩
set_option maxHeartbeats 2000000 in
theorem bldR_mid (w : World) (g n i j cap cap2 : Nat) (cur : Array Value) (hcur : ∀ v ∈ cur.toList.take (n * 2), v.oneCell' = true) (fz : Nat × Nat) (ad : Addr) (xs : List Value) (hg : w.heap[g]? = some (.cells cur 35 fz)) (hfz : fz = (0, 0) ∨ cur.size ≤ fz.1) (h1 : i + 1 < j) (hj : j < n) (h2 : n ≤ cap) (h3 : cap ≤ maxLen) (h4 : cap * 2 = cur.size)
    (hx : xs.length = 2) (hc : ∀ q v, xs[q]? = some v → w.cell? (ad.add q) = some v) (ho : ∀ v ∈ xs, v.oneCell' = true) :
    Calls Try.prog 17 #[.slice (some ⟨g, 0, none⟩) n cap, .int .i64 (i : Int), .int .i64 (j : Int), .slice (some ad) 1 cap2] w fun x w' => x = .returned (.slice (some ⟨g, 0, none⟩) (i + 1 + (n - j)) cap) ∧ Same w w' ∧ (∀ k, k ≠ g → w'.heap[k]? = w.heap[k]?) ∧
      ∃ cur', w'.heap[g]? = some (.cells cur' 35 fz) ∧ cur'.size = cur.size ∧ cur'.toList.take ((i + 1 + (n - j)) * 2) = cur.toList.take (i * 2) ++ xs ++ (cur.toList.take (n * 2)).drop (j * 2) := by
  obtain ⟨inf, hi, hisz⟩ := Option.map_eq_some_iff.1 (show (Try.prog.info? 35).map (·.size) = some 2 from by kernel_rfl)
  obtain ⟨tot, htot⟩ : ∃ tot, i + 1 + (n - j) = tot := ⟨_, rfl⟩
  rw [htot]
  have hmx : cap < 9223372036854775808 := by unfold maxLen at h3; omega
  -- the first copy
  have hg0 : w.drew.heap[g]? = some (.cells cur 35 fz) := hg
  have hc0 : ∀ q v, xs[q]? = some v → w.drew.cell? (ad.add q) = some v := hc
  have hK1 := run_copy_sz Try.prog w.drew 24 24 3 35 inf g (i * 2) (tot - i) (cap - i) ad 1 cap2 cur 35 fz xs Try.underlying24 hi hg0 hfz (by rw [hisz, hx, show Nat.min 1 (tot - i) = 1 from Nat.min_eq_left (by omega)]) hc0 (by omega) ho
  rw [show Nat.min 1 (tot - i) = 1 from Nat.min_eq_left (by omega)] at hK1
  have e1 := setRow_heap w.drew g cur (put2 cur (i * 2) xs) _ fz hg0
  have s1 : (put2 cur (i * 2) xs).size = cur.size := put2_size (by omega)
  have q1 : (put2 cur (i * 2) xs).toList.take (i * 2 + xs.length) = cur.toList.take (i * 2) ++ xs := put2_end (by omega)
  have p1 : (put2 cur (i * 2) xs).toList.drop (j * 2) = cur.toList.drop (j * 2) := put2_drop (by omega) (by omega)
  obtain ⟨d1, hd1⟩ : ∃ d, put2 cur (i * 2) xs = d := ⟨_, rfl⟩
  have hK1' : (Builtin.copy_ #[24, 24] 3 #[.slice (some ⟨g, i * 2, none⟩) (tot - i) (cap - i), .slice (some ad) 1 cap2]).run Try.prog w.drew = .ok (.int .i64 1) (w.drew.setRow g d1) := by rw [← hd1]; exact hK1
  rw [hd1] at e1 s1 q1 p1
  -- the second copy
  obtain ⟨ys, hys⟩ : ∃ ys, (d1.toList.drop (j * 2)).take ((n - j) * 2) = ys := ⟨_, rfl⟩
  have hyl : ys.length = (n - j) * 2 := by rw [← hys, List.length_take, List.length_drop, Array.length_toList]; omega
  have hyc : ys = (cur.toList.take (n * 2)).drop (j * 2) := by
    rw [← hys, p1, List.drop_take]
    congr 1
    omega
  have hy1 : ∀ v ∈ ys, v.oneCell' = true := fun v hv => by
    rw [hyc] at hv
    exact hcur v (List.mem_of_mem_drop hv)
  have hg1 : (w.drew.setRow g d1).drew.heap[g]? = some (.cells d1 35 fz) := e1
  have hc1 : ∀ q v, ys[q]? = some v → (w.drew.setRow g d1).drew.cell? ((⟨g, j * 2, none⟩ : Addr).add q) = some v := fun q v hq => by
    have hql : q < (n - j) * 2 := by rw [← hyl]; exact (List.getElem?_eq_some_iff.1 hq).1
    rw [← hys, List.getElem?_take, if_pos hql, List.getElem?_drop] at hq
    rw [Addr.add_lit]
    simpa [World.cell?, hg1] using hq
  have hK2 := run_copy_sz Try.prog (w.drew.setRow g d1).drew 24 24 3 35 inf g ((i + 1) * 2) (tot - (i + 1)) (cap - (i + 1)) ⟨g, j * 2, none⟩ (n - j) (cap - j) d1 35 fz ys Try.underlying24 hi hg1 (by rw [s1]; exact hfz) (by rw [hisz, hyl, show Nat.min (n - j) (tot - (i + 1)) = n - j from Nat.min_eq_left (by omega)]) hc1 (by rw [s1, hyl]; omega) hy1
  rw [show Nat.min (n - j) (tot - (i + 1)) = n - j from Nat.min_eq_left (by omega)] at hK2
  have e2 := setRow_heap (w.drew.setRow g d1).drew g d1 (put2 d1 ((i + 1) * 2) ys) _ fz hg1
  have s2 : (put2 d1 ((i + 1) * 2) ys).size = d1.size := put2_size (by rw [s1, hyl]; omega)
  have q2 : (put2 d1 ((i + 1) * 2) ys).toList.take ((i + 1) * 2 + ys.length) = d1.toList.take ((i + 1) * 2) ++ ys := put2_end (by rw [s1]; omega)
  obtain ⟨d2, hd2⟩ : ∃ d, put2 d1 ((i + 1) * 2) ys = d := ⟨_, rfl⟩
  have hK2' : (Builtin.copy_ #[24, 24] 3 #[.slice (some ⟨g, (i + 1) * 2, none⟩) (tot - (i + 1)) (cap - (i + 1)), .slice (some ⟨g, j * 2, none⟩) (n - j) (cap - j)]).run Try.prog (w.drew.setRow g d1).drew = .ok (.int .i64 ((n - j : Nat) : Int)) ((w.drew.setRow g d1).drew.setRow g d2) := by rw [← hd2]; exact hK2
  rw [hd2] at e2 s2 q2
  -- what is left over becomes zero
  obtain ⟨z, hz, zl, z1⟩ := bldRZ ((w.drew.setRow g d1).drew.setRow g d2) (n - tot)
  have hC := run_clear_sz Try.prog ((w.drew.setRow g d1).drew.setRow g d2) 24 0 35 z g (tot * 2) (n - tot) (cap - tot) d2 35 fz Try.underlying24 hz (by omega) e2 (by rw [s2, s1]; exact hfz) (by rw [s2, s1, zl]; omega) z1
  obtain ⟨zs, hzs⟩ : ∃ zs, (Builtin.zeroCells z.cells (n - tot)).toList = zs := ⟨_, rfl⟩
  rw [hzs] at hC zl
  have e3 := setRow_heap ((w.drew.setRow g d1).drew.setRow g d2) g d2 (put2 d2 (tot * 2) zs) _ fz e2
  have s3 : (put2 d2 (tot * 2) zs).size = d2.size := put2_size (by rw [s2, s1, zl]; omega)
  have q3 : (put2 d2 (tot * 2) zs).toList.take (tot * 2) = d2.toList.take (tot * 2) := put2_le (by rw [s2, s1]; omega) (Nat.le_refl _)
  obtain ⟨d3, hd3⟩ : ∃ d, put2 d2 (tot * 2) zs = d := ⟨_, rfl⟩
  have hC' : (Builtin.clear_ #[24] 0 #[.slice (some ⟨g, tot * 2, none⟩) (n - tot) (cap - tot)]).run Try.prog ((w.drew.setRow g d1).drew.setRow g d2) = .ok (.tuple #[]) (((w.drew.setRow g d1).drew.setRow g d2).setRow g d3) := by rw [← hd3]; exact hC
  rw [hd3] at e3 s3 q3
  have hfin : Same w (((w.drew.setRow g d1).drew.setRow g d2).setRow g d3) ∧ (∀ k, k ≠ g → (((w.drew.setRow g d1).drew.setRow g d2).setRow g d3).heap[k]? = w.heap[k]?) ∧ ∃ cur', (((w.drew.setRow g d1).drew.setRow g d2).setRow g d3).heap[g]? = some (.cells cur' 35 fz) ∧ cur'.size = cur.size ∧ cur'.toList.take (tot * 2) = cur.toList.take (i * 2) ++ xs ++ (cur.toList.take (n * 2)).drop (j * 2) := by
    refine ⟨(show Same w (w.drew.setRow g d1).drew from ⟨rfl, rfl, rfl, by show w.heap.size ≤ (w.setRow g d1).heap.size; simp⟩).trans ((Same.row _ g d2).trans (Same.row _ g d3)), fun k hk => ?_, d3, e3, by omega, ?_⟩
    · rw [setRow_other _ g k _ hk, setRow_other _ g k _ hk]
      show (w.drew.setRow g d1).heap[k]? = _
      rw [setRow_other _ g k _ hk]
      rfl
    · rw [q3, show tot * 2 = (i + 1) * 2 + ys.length by rw [hyl]; omega, q2, ← hyc, show (i + 1) * 2 = i * 2 + xs.length by rw [hx]; omega, q1]
  refine (bldR_walk w (w.drew.setRow g d1) ((w.drew.setRow g d1).drew.setRow g d2) (((w.drew.setRow g d1).drew.setRow g d2).setRow g d3) g n i j cap cap2 tot ad h1 hj h2 hmx htot hK1' hK2' hC').mono ?_
  rintro e w' ⟨rfl, rfl⟩
  exact ⟨rfl, hfin⟩
theorem bld17_ok : BldOk Try.prog 17 (2, 35, 35) := by
  refine ⟨ent Try.func17 rfl rfl, fun h => absurd h (by decide), fun h => absurd h (by decide), fun _ => ?_⟩
  intro w g n i j cap cap2 cur fz ad xs hg hfz h1 h2 h3 h4 h5 hcur hx hc ho
  by_cases hj : j = n
  · subst hj
    refine (bldR_end w g j i cap cap2 cur fz ad xs hg hfz h1 h3 h4 h5 hx hc ho).mono ?_
    rintro e w' ⟨rfl, S, hk, cur', g1, g2, g3⟩
    have e1 : i + 1 + (j - j) = i + 1 := by omega
    rw [e1]
    refine ⟨rfl, S, hk, cur', g1, g2, ?_⟩
    rw [g3, List.drop_eq_nil_of_le (by rw [List.length_take]; omega), List.append_nil]
  · exact bldR_mid w g n i j cap cap2 cur hcur fz ad xs hg hfz h1 (by omega) h3 h4 h5 hx hc ho
def X : FuncId → Option (List V → Option (V × List Eng.Obj))
  | _ => none
noncomputable def C : Cfg := ⟨T, F, X, WR, OW, K, BL⟩
theorem cT : C.T = T := by unfold C; with_reducible rfl
theorem cF : C.fn = F := by unfold C; with_reducible rfl
theorem cX : C.ext = X := by unfold C; with_reducible rfl
theorem cWR : C.wr = WR := by unfold C; with_reducible rfl
theorem cOW : C.own = OW := by unfold C; with_reducible rfl
theorem cK : C.keep = K := by unfold C; with_reducible rfl
theorem cBL : C.bld = BL := by unfold C; with_reducible rfl
theorem cfgOk : CfgOk Try.prog C where
  mixed := by kernel_rfl
  tab := tabOk
  fn := fun f fn h => okF_0 f fn h
  ext := by
    intro f m h
    have h' : X f = some m := h
    unfold X at h'
    cases h'
  bld := by
    intro f k h
    have h' : BL f = some k := h
    unfold BL at h'
    split at h'
    · cases h'; exact bld17_ok
    · cases h'
end Go.Proofs.Ytllneakafpldjaa.Eng
