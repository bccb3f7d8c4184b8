/- The types, the functions and the loops' live slots that the laws reach, and that they are what the program has. No conditions. -/
import Derived.Test.YtemkckldfmpplaaEngTa
namespace Go.Proofs.Ytemkckldfmpplaa.Eng
open Go Go.Proofs
set_option maxRecDepth 100000
noncomputable def R3_0 : Array Oper := opsAt Try.f3 [0]
noncomputable def R3_1 : Array Oper := opsAt Try.f3 [1, 0]
noncomputable def R3_2 : Array Oper := opsAt Try.f3 [1, 1, 0]
noncomputable def R3_3 : Array Oper := opsAt Try.f3 [1, 1, 1, 0, 0]
noncomputable def R3_4 : Array Oper := opsAt Try.f3 [1, 1, 1, 0, 1, 0, 0]
noncomputable def R3_5 : Array Oper := opsAt Try.f3 [1, 1, 1, 1, 0]
noncomputable def R3_6 : Array Oper := opsAt Try.f3 [1, 1, 1, 1, 1, 0]
noncomputable def R3_7 : Array Oper := opsAt Try.f3 [1, 1, 1, 1, 1, 1, 0]
noncomputable def R3_8 : Array Oper := opsAt Try.f3 [1, 1, 1, 1, 1, 1, 1, 0, 0]
noncomputable def R3_9 : Array Oper := opsAt Try.f3 [1, 1, 1, 1, 1, 1, 1, 0, 1, 0, 0]
noncomputable def R3_10 : Array Oper := opsAt Try.f3 [1, 1, 1, 1, 1, 1, 1, 1, 0, 0]
noncomputable def R3_11 : Array Oper := opsAt Try.f3 [1, 1, 1, 1, 1, 1, 1, 1, 0, 1, 0, 0]
noncomputable def R3_12 : Array Oper := opsAt Try.f3 [1, 1, 1, 1, 1, 1, 1, 1, 1, 0]
noncomputable def R3_13 : Array Oper := opsAt Try.f3 [1, 1, 1, 1, 1, 1, 1, 1, 1, 1, 0]
noncomputable def R3_14 : Array Oper := opsAt Try.f3 [1, 1, 1, 1, 1, 1, 1, 1, 1, 1, 1, 0, 0]
noncomputable def R3_15 : Array Oper := opsAt Try.f3 [1, 1, 1, 1, 1, 1, 1, 1, 1, 1, 1, 0, 1, 0, 0]
noncomputable def R3_16 : Array Oper := opsAt Try.f3 [1, 1, 1, 1, 1, 1, 1, 1, 1, 1, 1, 1, 0]
noncomputable def R3_17 : Array Oper := opsAt Try.f3 [1, 1, 1, 1, 1, 1, 1, 1, 1, 1, 1, 1, 1, 0]
noncomputable def R3_18 : Array Oper := opsAt Try.f3 [1, 1, 1, 1, 1, 1, 1, 1, 1, 1, 1, 1, 1, 1, 0]
noncomputable def R3_19 : Array Oper := opsAt Try.f3 [1, 1, 1, 1, 1, 1, 1, 1, 1, 1, 1, 1, 1, 1, 1, 0]
noncomputable def R3_20 : Array Oper := opsAt Try.f3 [1, 1, 1, 1, 1, 1, 1, 1, 1, 1, 1, 1, 1, 1, 1, 1, 0, 0]
noncomputable def R3_21 : Array Oper := opsAt Try.f3 [1, 1, 1, 1, 1, 1, 1, 1, 1, 1, 1, 1, 1, 1, 1, 1, 0, 1, 0, 0]
noncomputable def R3_22 : Array Oper := opsAt Try.f3 [1, 1, 1, 1, 1, 1, 1, 1, 1, 1, 1, 1, 1, 1, 1, 1, 1, 0, 0]
noncomputable def R3_23 : Array Oper := opsAt Try.f3 [1, 1, 1, 1, 1, 1, 1, 1, 1, 1, 1, 1, 1, 1, 1, 1, 1, 0, 1, 0, 0]
noncomputable def R3_24 : Array Oper := opsAt Try.f3 [1, 1, 1, 1, 1, 1, 1, 1, 1, 1, 1, 1, 1, 1, 1, 1, 1, 1, 0]
noncomputable def R3_25 : Array Oper := opsAt Try.f3 [1, 1, 1, 1, 1, 1, 1, 1, 1, 1, 1, 1, 1, 1, 1, 1, 1, 1, 1, 0, 0]
noncomputable def R3_26 : Array Oper := opsAt Try.f3 [1, 1, 1, 1, 1, 1, 1, 1, 1, 1, 1, 1, 1, 1, 1, 1, 1, 1, 1, 0, 1, 0, 0]
noncomputable def R3_27 : Array Oper := opsAt Try.f3 [1, 1, 1, 1, 1, 1, 1, 1, 1, 1, 1, 1, 1, 1, 1, 1, 1, 1, 1, 1, 0]
noncomputable def R3_28 : Array Oper := opsAt Try.f3 [1, 1, 1, 1, 1, 1, 1, 1, 1, 1, 1, 1, 1, 1, 1, 1, 1, 1, 1, 1, 1, 0]
noncomputable def R3_29 : Array Oper := opsAt Try.f3 [1, 1, 1, 1, 1, 1, 1, 1, 1, 1, 1, 1, 1, 1, 1, 1, 1, 1, 1, 1, 1, 1, 0, 0]
noncomputable def R3_30 : Array Oper := opsAt Try.f3 [1, 1, 1, 1, 1, 1, 1, 1, 1, 1, 1, 1, 1, 1, 1, 1, 1, 1, 1, 1, 1, 1, 0, 1, 0, 0]
noncomputable def R3_31 : Array Oper := opsAt Try.f3 [1, 1, 1, 1, 1, 1, 1, 1, 1, 1, 1, 1, 1, 1, 1, 1, 1, 1, 1, 1, 1, 1, 1, 0, 0]
noncomputable def R3_32 : Array Oper := opsAt Try.f3 [1, 1, 1, 1, 1, 1, 1, 1, 1, 1, 1, 1, 1, 1, 1, 1, 1, 1, 1, 1, 1, 1, 1, 0, 1, 0, 0]
noncomputable def R3_33 : Array Oper := opsAt Try.f3 [1, 1, 1, 1, 1, 1, 1, 1, 1, 1, 1, 1, 1, 1, 1, 1, 1, 1, 1, 1, 1, 1, 1, 1, 0]
theorem code3 : Try.f3.body = some (.seq (.region 0 R3_0 false) (.seq (.region 1 R3_1 false) (.seq (.region 2 R3_2 false) (.seq (.seq (.region 3 R3_3 false) (.cond (.tmp 20) (.seq (.region 4 R3_4 false) .ret) .skip)) (.seq (.region 5 R3_5 false) (.seq (.region 6 R3_6 false) (.seq (.region 7 R3_7 false) (.seq (.seq (.region 8 R3_8 false) (.cond (.tmp 44) (.seq (.region 9 R3_9 false) .ret) .skip)) (.seq (.seq (.region 10 R3_10 true) (.cond (.tmp 49) (.seq (.region 11 R3_11 false) .ret) .skip)) (.seq (.region 12 R3_12 false) (.seq (.region 13 R3_13 false) (.seq (.seq (.region 14 R3_14 false) (.cond (.tmp 65) (.seq (.region 15 R3_15 false) .ret) .skip)) (.seq (.region 16 R3_16 false) (.seq (.region 17 R3_17 false) (.seq (.region 18 R3_18 false) (.seq (.region 19 R3_19 false) (.seq (.seq (.region 20 R3_20 false) (.cond (.tmp 73) (.seq (.region 21 R3_21 false) .ret) .skip)) (.seq (.seq (.region 22 R3_22 false) (.cond (.tmp 76) (.seq (.region 23 R3_23 false) .ret) .skip)) (.seq (.region 24 R3_24 false) (.seq (.seq (.region 25 R3_25 false) (.cond (.tmp 92) (.seq (.region 26 R3_26 false) .ret) .skip)) (.seq (.region 27 R3_27 false) (.seq (.region 28 R3_28 false) (.seq (.seq (.region 29 R3_29 false) (.cond (.tmp 97) (.seq (.region 30 R3_30 false) .ret) .skip)) (.seq (.seq (.region 31 R3_31 false) (.cond (.tmp 100) (.seq (.region 32 R3_32 false) .ret) .skip)) (.seq (.region 33 R3_33 false) .ret))))))))))))))))))))))))) := by kernel_rfl
noncomputable def R4_0 : Array Oper := opsAt Try.f4 [0]
noncomputable def R4_1 : Array Oper := opsAt Try.f4 [1, 0]
noncomputable def R4_2 : Array Oper := opsAt Try.f4 [1, 1, 0, 0]
noncomputable def R4_3 : Array Oper := opsAt Try.f4 [1, 1, 0, 1, 0, 0]
noncomputable def R4_4 : Array Oper := opsAt Try.f4 [1, 1, 1, 0]
theorem code4 : Try.f4.body = some (.seq (.region 0 R4_0 false) (.seq (.region 1 R4_1 false) (.seq (.seq (.region 2 R4_2 false) (.cond (.tmp 10) (.seq (.region 3 R4_3 false) .ret) .skip)) (.seq (.region 4 R4_4 false) .ret)))) := by kernel_rfl
noncomputable def R5_0 : Array Oper := opsAt Try.f5 [0]
noncomputable def R5_1 : Array Oper := opsAt Try.f5 [1, 0]
noncomputable def R5_2 : Array Oper := opsAt Try.f5 [1, 1, 0, 0]
noncomputable def R5_3 : Array Oper := opsAt Try.f5 [1, 1, 0, 1, 0, 0]
noncomputable def R5_4 : Array Oper := opsAt Try.f5 [1, 1, 1, 0, 0]
noncomputable def R5_5 : Array Oper := opsAt Try.f5 [1, 1, 1, 0, 1, 0, 0, 0, 0]
noncomputable def R5_7 : Array Oper := opsAt Try.f5 [1, 1, 1, 0, 1, 0, 0, 1, 0, 0, 0]
noncomputable def R5_8 : Array Oper := opsAt Try.f5 [1, 1, 1, 0, 1, 0, 0, 1, 0, 0, 1, 0, 0, 0, 0]
noncomputable def R5_10 : Array Oper := opsAt Try.f5 [1, 1, 1, 0, 1, 0, 0, 1, 0, 0, 1, 0, 0, 1, 0, 0, 0]
noncomputable def R5_11 : Array Oper := opsAt Try.f5 [1, 1, 1, 0, 1, 0, 0, 1, 0, 0, 1, 0, 0, 1, 0, 0, 1, 0]
noncomputable def R5_12 : Array Oper := opsAt Try.f5 [1, 1, 1, 0, 1, 0, 0, 1, 0, 0, 1, 0, 0, 1, 0, 0, 1, 1, 0]
noncomputable def R5_13 : Array Oper := opsAt Try.f5 [1, 1, 1, 0, 1, 0, 0, 1, 0, 0, 1, 0, 0, 1, 0, 0, 1, 1, 1, 0]
noncomputable def R5_9 : Array Oper := opsAt Try.f5 [1, 1, 1, 0, 1, 0, 0, 1, 0, 0, 1, 0, 0, 1, 1]
noncomputable def L5_1 : Code := .seq (.seq (.region 8 R5_8 false) (.cond (.tmp 30) .skip (.exit 2))) (.seq (.block 3 (.seq (.region 10 R5_10 false) (.seq (.region 11 R5_11 false) (.seq (.region 12 R5_12 false) (.cond (.tmp 68) (.region 13 R5_13 false) .skip))))) (.region 9 R5_9 false))
theorem lpL5_1 : loops L5_1 = 0 := rfl
noncomputable def R5_6 : Array Oper := opsAt Try.f5 [1, 1, 1, 0, 1, 0, 0, 1, 1]
noncomputable def M5_0 : Code := .region 6 R5_6 false
theorem lpM5_0 : loops M5_0 = 0 := rfl
noncomputable def L5_0 : Code := .seq (.seq (.region 5 R5_5 false) (.cond (.tmp 24) .skip (.exit 0))) (.seq (.block 1 (.seq (.region 7 R5_7 false) (.block 2 (.loop L5_1)))) M5_0)
theorem lpL5_0 : loops L5_0 = 1 := rfl
noncomputable def R5_14 : Array Oper := opsAt Try.f5 [1, 1, 1, 1, 0]
noncomputable def M5_1 : Code := .seq (.region 14 R5_14 false) .ret
theorem lpM5_1 : loops M5_1 = 0 := rfl
theorem code5 : Try.f5.body = some (.seq (.region 0 R5_0 false) (.seq (.region 1 R5_1 false) (.seq (.seq (.region 2 R5_2 false) (.cond (.tmp 19) (.seq (.region 3 R5_3 false) .ret) .skip)) (.seq (.seq (.region 4 R5_4 false) (.block 0 (.loop L5_0))) M5_1)))) := by kernel_rfl
noncomputable def R6_0 : Array Oper := opsAt Try.f6 [0]
noncomputable def R6_1 : Array Oper := opsAt Try.f6 [1, 0]
noncomputable def R6_2 : Array Oper := opsAt Try.f6 [1, 1, 0]
noncomputable def R6_3 : Array Oper := opsAt Try.f6 [1, 1, 1, 0]
noncomputable def R6_4 : Array Oper := opsAt Try.f6 [1, 1, 1, 1, 0]
noncomputable def R6_5 : Array Oper := opsAt Try.f6 [1, 1, 1, 1, 1, 0]
theorem code6 : Try.f6.body = some (.seq (.region 0 R6_0 false) (.seq (.region 1 R6_1 false) (.seq (.region 2 R6_2 false) (.seq (.region 3 R6_3 false) (.seq (.region 4 R6_4 false) (.seq (.region 5 R6_5 false) .ret)))))) := by kernel_rfl
noncomputable def R7_0 : Array Oper := opsAt Try.f7 [0]
noncomputable def R7_1 : Array Oper := opsAt Try.f7 [1, 0, 0]
noncomputable def R7_2 : Array Oper := opsAt Try.f7 [1, 0, 1, 0, 0]
noncomputable def R7_3 : Array Oper := opsAt Try.f7 [1, 1, 0]
noncomputable def R7_4 : Array Oper := opsAt Try.f7 [1, 1, 1, 0, 0]
noncomputable def R7_5 : Array Oper := opsAt Try.f7 [1, 1, 1, 0, 1, 0, 0, 0]
noncomputable def R7_6 : Array Oper := opsAt Try.f7 [1, 1, 1, 0, 1, 0, 0, 1, 1, 0, 0, 0]
noncomputable def R7_7 : Array Oper := opsAt Try.f7 [1, 1, 1, 0, 1, 0, 0, 1, 1, 0, 0, 1, 0]
noncomputable def R7_8 : Array Oper := opsAt Try.f7 [1, 1, 1, 0, 1, 0, 0, 1, 1, 0, 0, 1, 1, 0]
noncomputable def R7_9 : Array Oper := opsAt Try.f7 [1, 1, 1, 0, 1, 0, 0, 1, 1, 0, 0, 1, 1, 1, 0, 0]
noncomputable def R7_10 : Array Oper := opsAt Try.f7 [1, 1, 1, 0, 1, 0, 0, 1, 1, 0, 0, 1, 1, 1, 0, 1, 0, 0, 0]
noncomputable def R7_11 : Array Oper := opsAt Try.f7 [1, 1, 1, 0, 1, 0, 0, 1, 1, 0, 0, 1, 1, 1, 0, 1, 0, 0, 1, 1, 0, 0, 0]
noncomputable def R7_12 : Array Oper := opsAt Try.f7 [1, 1, 1, 0, 1, 0, 0, 1, 1, 0, 0, 1, 1, 1, 0, 1, 0, 0, 1, 1, 0, 0, 1, 0]
noncomputable def R7_13 : Array Oper := opsAt Try.f7 [1, 1, 1, 0, 1, 0, 0, 1, 1, 0, 0, 1, 1, 1, 0, 1, 0, 0, 1, 1, 0, 0, 1, 1, 0]
noncomputable def R7_14 : Array Oper := opsAt Try.f7 [1, 1, 1, 0, 1, 0, 0, 1, 1, 0, 0, 1, 1, 1, 0, 1, 0, 0, 1, 1, 1]
noncomputable def L7_1 : Code := .seq (.region 10 R7_10 false) (.seq (.cond (.tmp 45) .skip (.exit 2)) (.seq (.block 3 (.seq (.region 11 R7_11 false) (.seq (.region 12 R7_12 false) (.cond (.tmp 50) (.region 13 R7_13 false) .skip)))) (.region 14 R7_14 false)))
theorem lpL7_1 : loops L7_1 = 0 := rfl
noncomputable def R7_15 : Array Oper := opsAt Try.f7 [1, 1, 1, 0, 1, 0, 0, 1, 1, 0, 0, 1, 1, 1, 1, 0]
noncomputable def R7_16 : Array Oper := opsAt Try.f7 [1, 1, 1, 0, 1, 0, 0, 1, 1, 0, 0, 1, 1, 1, 1, 1, 0]
noncomputable def M7_0 : Code := .seq (.region 15 R7_15 false) (.cond (.tmp 59) (.region 16 R7_16 false) .skip)
theorem lpM7_0 : loops M7_0 = 0 := rfl
noncomputable def R7_17 : Array Oper := opsAt Try.f7 [1, 1, 1, 0, 1, 0, 0, 1, 1, 1]
noncomputable def M7_1 : Code := .region 17 R7_17 false
theorem lpM7_1 : loops M7_1 = 0 := rfl
noncomputable def L7_0 : Code := .seq (.region 5 R7_5 false) (.seq (.cond (.tmp 26) .skip (.exit 0)) (.seq (.block 1 (.seq (.region 6 R7_6 false) (.seq (.region 7 R7_7 true) (.seq (.region 8 R7_8 false) (.seq (.seq (.region 9 R7_9 false) (.block 2 (.loop L7_1))) M7_0))))) M7_1))
theorem lpL7_0 : loops L7_0 = 1 := rfl
noncomputable def R7_18 : Array Oper := opsAt Try.f7 [1, 1, 1, 1, 0]
noncomputable def M7_2 : Code := .seq (.region 18 R7_18 false) .ret
theorem lpM7_2 : loops M7_2 = 0 := rfl
theorem code7 : Try.f7.body = some (.seq (.region 0 R7_0 false) (.seq (.seq (.region 1 R7_1 false) (.cond (.tmp 21) (.seq (.region 2 R7_2 false) .ret) .skip)) (.seq (.region 3 R7_3 false) (.seq (.seq (.region 4 R7_4 false) (.block 0 (.loop L7_0))) M7_2)))) := by kernel_rfl
noncomputable def R8_0 : Array Oper := opsAt Try.f8 [0]
noncomputable def R8_1 : Array Oper := opsAt Try.f8 [1, 0, 0]
noncomputable def R8_2 : Array Oper := opsAt Try.f8 [1, 0, 1, 0, 0]
noncomputable def R8_3 : Array Oper := opsAt Try.f8 [1, 1, 0, 0]
noncomputable def R8_4 : Array Oper := opsAt Try.f8 [1, 1, 0, 1, 0, 0, 0, 0]
noncomputable def R8_6 : Array Oper := opsAt Try.f8 [1, 1, 0, 1, 0, 0, 1, 0, 0, 0]
noncomputable def R8_7 : Array Oper := opsAt Try.f8 [1, 1, 0, 1, 0, 0, 1, 0, 0, 1, 0, 0]
noncomputable def R8_5 : Array Oper := opsAt Try.f8 [1, 1, 0, 1, 0, 0, 1, 1]
noncomputable def L8_0 : Code := .seq (.seq (.region 4 R8_4 false) (.cond (.tmp 14) .skip (.exit 0))) (.seq (.block 1 (.seq (.region 6 R8_6 true) (.cond (.tmp 26) (.seq (.region 7 R8_7 false) .ret) .skip))) (.region 5 R8_5 false))
theorem lpL8_0 : loops L8_0 = 0 := rfl
noncomputable def R8_8 : Array Oper := opsAt Try.f8 [1, 1, 1, 0]
noncomputable def M8_0 : Code := .seq (.region 8 R8_8 false) .ret
theorem lpM8_0 : loops M8_0 = 0 := rfl
theorem code8 : Try.f8.body = some (.seq (.region 0 R8_0 false) (.seq (.seq (.region 1 R8_1 false) (.cond (.tmp 10) (.seq (.region 2 R8_2 false) .ret) .skip)) (.seq (.seq (.region 3 R8_3 false) (.block 0 (.loop L8_0))) M8_0))) := by kernel_rfl
noncomputable def R9_0 : Array Oper := opsAt Try.f9 [0]
noncomputable def R9_1 : Array Oper := opsAt Try.f9 [1, 0, 0]
noncomputable def R9_2 : Array Oper := opsAt Try.f9 [1, 0, 1, 0, 0]
noncomputable def R9_3 : Array Oper := opsAt Try.f9 [1, 1, 0, 0]
noncomputable def R9_4 : Array Oper := opsAt Try.f9 [1, 1, 0, 1, 0, 0]
noncomputable def R9_5 : Array Oper := opsAt Try.f9 [1, 1, 1, 0, 0]
noncomputable def R9_6 : Array Oper := opsAt Try.f9 [1, 1, 1, 0, 1, 0, 0]
noncomputable def R9_7 : Array Oper := opsAt Try.f9 [1, 1, 1, 1, 0]
theorem code9 : Try.f9.body = some (.seq (.region 0 R9_0 false) (.seq (.seq (.region 1 R9_1 false) (.cond (.tmp 9) (.seq (.region 2 R9_2 false) .ret) .skip)) (.seq (.seq (.region 3 R9_3 false) (.cond (.tmp 14) (.seq (.region 4 R9_4 false) .ret) .skip)) (.seq (.seq (.region 5 R9_5 false) (.cond (.tmp 20) (.seq (.region 6 R9_6 false) .ret) .skip)) (.seq (.region 7 R9_7 false) .ret))))) := by kernel_rfl
noncomputable def R10_0 : Array Oper := opsAt Try.f10 [0]
noncomputable def R10_1 : Array Oper := opsAt Try.f10 [1, 0]
noncomputable def R10_2 : Array Oper := opsAt Try.f10 [1, 1, 0]
theorem code10 : Try.f10.body = some (.seq (.region 0 R10_0 false) (.seq (.region 1 R10_1 false) (.seq (.region 2 R10_2 false) .ret))) := by kernel_rfl
noncomputable def R11_0 : Array Oper := opsAt Try.f11 [0]
noncomputable def R11_1 : Array Oper := opsAt Try.f11 [1, 0, 0]
noncomputable def R11_2 : Array Oper := opsAt Try.f11 [1, 0, 1, 0, 0, 0, 0]
noncomputable def R11_4 : Array Oper := opsAt Try.f11 [1, 0, 1, 0, 0, 1, 0, 0]
noncomputable def R11_3 : Array Oper := opsAt Try.f11 [1, 0, 1, 0, 0, 1, 1]
noncomputable def L11_0 : Code := .seq (.seq (.region 2 R11_2 false) (.cond (.tmp 9) .skip (.exit 0))) (.seq (.block 1 (.region 4 R11_4 false)) (.region 3 R11_3 false))
theorem lpL11_0 : loops L11_0 = 0 := rfl
noncomputable def R11_5 : Array Oper := opsAt Try.f11 [1, 1, 0]
noncomputable def M11_0 : Code := .seq (.region 5 R11_5 false) .ret
theorem lpM11_0 : loops M11_0 = 0 := rfl
theorem code11 : Try.f11.body = some (.seq (.region 0 R11_0 false) (.seq (.seq (.region 1 R11_1 false) (.block 0 (.loop L11_0))) M11_0)) := by kernel_rfl
noncomputable def R12_0 : Array Oper := opsAt Try.f12 [0]
noncomputable def R12_1 : Array Oper := opsAt Try.f12 [1, 0, 0]
noncomputable def R12_2 : Array Oper := opsAt Try.f12 [1, 0, 1, 0, 0, 0, 0]
noncomputable def R12_4 : Array Oper := opsAt Try.f12 [1, 0, 1, 0, 0, 1, 0, 0, 0]
noncomputable def R12_5 : Array Oper := opsAt Try.f12 [1, 0, 1, 0, 0, 1, 0, 0, 1, 0]
noncomputable def R12_6 : Array Oper := opsAt Try.f12 [1, 0, 1, 0, 0, 1, 0, 0, 1, 1, 0, 0]
noncomputable def R12_3 : Array Oper := opsAt Try.f12 [1, 0, 1, 0, 0, 1, 1]
noncomputable def L12_0 : Code := .seq (.seq (.region 2 R12_2 false) (.cond (.tmp 9) .skip (.exit 0))) (.seq (.block 1 (.seq (.region 4 R12_4 false) (.seq (.region 5 R12_5 false) (.cond (.tmp 19) (.seq (.region 6 R12_6 false) .ret) .skip)))) (.region 3 R12_3 false))
theorem lpL12_0 : loops L12_0 = 0 := rfl
noncomputable def R12_7 : Array Oper := opsAt Try.f12 [1, 1, 0]
noncomputable def M12_0 : Code := .seq (.region 7 R12_7 false) .ret
theorem lpM12_0 : loops M12_0 = 0 := rfl
theorem code12 : Try.f12.body = some (.seq (.region 0 R12_0 false) (.seq (.seq (.region 1 R12_1 false) (.block 0 (.loop L12_0))) M12_0)) := by kernel_rfl
noncomputable def R13_0 : Array Oper := opsAt Try.f13 [0]
noncomputable def R13_1 : Array Oper := opsAt Try.f13 [1, 0]
noncomputable def R13_2 : Array Oper := opsAt Try.f13 [1, 1, 0, 0]
noncomputable def R13_3 : Array Oper := opsAt Try.f13 [1, 1, 0, 1, 0, 0]
noncomputable def R13_4 : Array Oper := opsAt Try.f13 [1, 1, 1, 0]
theorem code13 : Try.f13.body = some (.seq (.region 0 R13_0 false) (.seq (.region 1 R13_1 false) (.seq (.seq (.region 2 R13_2 false) (.cond (.tmp 10) (.seq (.region 3 R13_3 false) .ret) .skip)) (.seq (.region 4 R13_4 false) .ret)))) := by kernel_rfl
noncomputable def R14_0 : Array Oper := opsAt Try.f14 [0]
noncomputable def R14_1 : Array Oper := opsAt Try.f14 [1, 0, 0]
noncomputable def R14_2 : Array Oper := opsAt Try.f14 [1, 0, 1, 0, 0]
noncomputable def R14_3 : Array Oper := opsAt Try.f14 [1, 1, 0, 0]
noncomputable def R14_4 : Array Oper := opsAt Try.f14 [1, 1, 0, 1, 0, 0, 0, 0]
noncomputable def R14_6 : Array Oper := opsAt Try.f14 [1, 1, 0, 1, 0, 0, 1, 0, 0, 0]
noncomputable def R14_7 : Array Oper := opsAt Try.f14 [1, 1, 0, 1, 0, 0, 1, 0, 0, 1, 0, 0]
noncomputable def R14_5 : Array Oper := opsAt Try.f14 [1, 1, 0, 1, 0, 0, 1, 1]
noncomputable def L14_0 : Code := .seq (.seq (.region 4 R14_4 false) (.cond (.tmp 25) .skip (.exit 0))) (.seq (.block 1 (.seq (.region 6 R14_6 false) (.cond (.tmp 34) (.seq (.region 7 R14_7 false) .ret) .skip))) (.region 5 R14_5 false))
theorem lpL14_0 : loops L14_0 = 0 := rfl
noncomputable def R14_8 : Array Oper := opsAt Try.f14 [1, 1, 1, 0]
noncomputable def M14_0 : Code := .seq (.region 8 R14_8 false) .ret
theorem lpM14_0 : loops M14_0 = 0 := rfl
theorem code14 : Try.f14.body = some (.seq (.region 0 R14_0 false) (.seq (.seq (.region 1 R14_1 false) (.cond (.tmp 20) (.seq (.region 2 R14_2 false) .ret) .skip)) (.seq (.seq (.region 3 R14_3 false) (.block 0 (.loop L14_0))) M14_0))) := by kernel_rfl
noncomputable def R15_0 : Array Oper := opsAt Try.f15 [0]
noncomputable def R15_1 : Array Oper := opsAt Try.f15 [1, 0]
theorem code15 : Try.f15.body = some (.seq (.region 0 R15_0 false) (.seq (.region 1 R15_1 false) .ret)) := by kernel_rfl
noncomputable def R16_0 : Array Oper := opsAt Try.f16 [0]
noncomputable def R16_1 : Array Oper := opsAt Try.f16 [1, 0]
theorem code16 : Try.f16.body = some (.seq (.region 0 R16_0 false) (.seq (.region 1 R16_1 false) .ret)) := by kernel_rfl
noncomputable def R17_0 : Array Oper := opsAt Try.f17 [0]
noncomputable def R17_1 : Array Oper := opsAt Try.f17 [1, 0]
noncomputable def R17_2 : Array Oper := opsAt Try.f17 [1, 1, 0, 0]
noncomputable def R17_3 : Array Oper := opsAt Try.f17 [1, 1, 0, 1, 0, 0, 0, 0]
noncomputable def R17_5 : Array Oper := opsAt Try.f17 [1, 1, 0, 1, 0, 0, 1, 0, 0, 0]
noncomputable def R17_6 : Array Oper := opsAt Try.f17 [1, 1, 0, 1, 0, 0, 1, 0, 0, 1, 0, 0, 0, 0]
noncomputable def R17_8 : Array Oper := opsAt Try.f17 [1, 1, 0, 1, 0, 0, 1, 0, 0, 1, 0, 0, 1, 0, 0, 0]
noncomputable def R17_9 : Array Oper := opsAt Try.f17 [1, 1, 0, 1, 0, 0, 1, 0, 0, 1, 0, 0, 1, 0, 0, 1, 0, 0]
noncomputable def R17_10 : Array Oper := opsAt Try.f17 [1, 1, 0, 1, 0, 0, 1, 0, 0, 1, 0, 0, 1, 0, 0, 1, 1, 0]
noncomputable def R17_11 : Array Oper := opsAt Try.f17 [1, 1, 0, 1, 0, 0, 1, 0, 0, 1, 0, 0, 1, 0, 0, 1, 1, 1, 0, 0, 0, 0, 0]
noncomputable def R17_12 : Array Oper := opsAt Try.f17 [1, 1, 0, 1, 0, 0, 1, 0, 0, 1, 0, 0, 1, 0, 0, 1, 1, 1, 0, 0, 0, 1, 0]
noncomputable def L17_2 : Code := .seq (.seq (.region 11 R17_11 false) (.cond (.tmp 64) .skip (.exit 4))) (.block 5 (.region 12 R17_12 false))
theorem lpL17_2 : loops L17_2 = 0 := rfl
noncomputable def R17_13 : Array Oper := opsAt Try.f17 [1, 1, 0, 1, 0, 0, 1, 0, 0, 1, 0, 0, 1, 0, 0, 1, 1, 1, 1, 0]
noncomputable def R17_14 : Array Oper := opsAt Try.f17 [1, 1, 0, 1, 0, 0, 1, 0, 0, 1, 0, 0, 1, 0, 0, 1, 1, 1, 1, 1, 0, 0]
noncomputable def R17_15 : Array Oper := opsAt Try.f17 [1, 1, 0, 1, 0, 0, 1, 0, 0, 1, 0, 0, 1, 0, 0, 1, 1, 1, 1, 1, 0, 1, 0, 0, 0, 0]
noncomputable def R17_17 : Array Oper := opsAt Try.f17 [1, 1, 0, 1, 0, 0, 1, 0, 0, 1, 0, 0, 1, 0, 0, 1, 1, 1, 1, 1, 0, 1, 0, 0, 1, 0, 0]
noncomputable def R17_16 : Array Oper := opsAt Try.f17 [1, 1, 0, 1, 0, 0, 1, 0, 0, 1, 0, 0, 1, 0, 0, 1, 1, 1, 1, 1, 0, 1, 0, 0, 1, 1]
noncomputable def L17_3 : Code := .seq (.seq (.region 15 R17_15 false) (.cond (.tmp 76) .skip (.exit 6))) (.seq (.block 7 (.region 17 R17_17 false)) (.region 16 R17_16 false))
theorem lpL17_3 : loops L17_3 = 0 := rfl
noncomputable def R17_18 : Array Oper := opsAt Try.f17 [1, 1, 0, 1, 0, 0, 1, 0, 0, 1, 0, 0, 1, 0, 0, 1, 1, 1, 1, 1, 1]
noncomputable def M17_1 : Code := .region 18 R17_18 false
theorem lpM17_1 : loops M17_1 = 0 := rfl
noncomputable def M17_0 : Code := .seq (.region 13 R17_13 false) (.seq (.seq (.region 14 R17_14 false) (.block 6 (.loop L17_3))) M17_1)
theorem lpM17_0 : loops M17_0 = 1 := rfl
noncomputable def R17_7 : Array Oper := opsAt Try.f17 [1, 1, 0, 1, 0, 0, 1, 0, 0, 1, 0, 0, 1, 1]
noncomputable def M17_2 : Code := .region 7 R17_7 false
theorem lpM17_2 : loops M17_2 = 0 := rfl
noncomputable def L17_1 : Code := .seq (.seq (.region 6 R17_6 false) (.cond (.tmp 43) .skip (.exit 2))) (.seq (.block 3 (.seq (.region 8 R17_8 false) (.seq (.seq (.region 9 R17_9 false) (.cond (.tmp 51) (.exit 3) .skip)) (.seq (.region 10 R17_10 false) (.seq (.block 4 (.loop L17_2)) M17_0))))) M17_2)
theorem lpL17_1 : loops L17_1 = 2 := rfl
noncomputable def R17_4 : Array Oper := opsAt Try.f17 [1, 1, 0, 1, 0, 0, 1, 1]
noncomputable def M17_3 : Code := .region 4 R17_4 false
theorem lpM17_3 : loops M17_3 = 0 := rfl
noncomputable def L17_0 : Code := .seq (.seq (.region 3 R17_3 false) (.cond (.tmp 28) .skip (.exit 0))) (.seq (.block 1 (.seq (.region 5 R17_5 false) (.block 2 (.loop L17_1)))) M17_3)
theorem lpL17_0 : loops L17_0 = 3 := rfl
noncomputable def R17_19 : Array Oper := opsAt Try.f17 [1, 1, 1, 0]
noncomputable def M17_4 : Code := .seq (.region 19 R17_19 false) .ret
theorem lpM17_4 : loops M17_4 = 0 := rfl
theorem code17 : Try.f17.body = some (.seq (.region 0 R17_0 false) (.seq (.region 1 R17_1 false) (.seq (.seq (.region 2 R17_2 false) (.block 0 (.loop L17_0))) M17_4))) := by kernel_rfl
noncomputable def R18_0 : Array Oper := opsAt Try.f18 [0]
noncomputable def R18_1 : Array Oper := opsAt Try.f18 [1, 0]
noncomputable def R18_2 : Array Oper := opsAt Try.f18 [1, 1, 0, 0]
noncomputable def R18_3 : Array Oper := opsAt Try.f18 [1, 1, 0, 1, 0, 0, 0, 0]
noncomputable def R18_5 : Array Oper := opsAt Try.f18 [1, 1, 0, 1, 0, 0, 1, 0, 0]
noncomputable def R18_4 : Array Oper := opsAt Try.f18 [1, 1, 0, 1, 0, 0, 1, 1]
noncomputable def L18_0 : Code := .seq (.seq (.region 3 R18_3 false) (.cond (.tmp 11) .skip (.exit 0))) (.seq (.block 1 (.region 5 R18_5 false)) (.region 4 R18_4 false))
theorem lpL18_0 : loops L18_0 = 0 := rfl
noncomputable def R18_6 : Array Oper := opsAt Try.f18 [1, 1, 1, 0]
noncomputable def M18_0 : Code := .seq (.region 6 R18_6 false) .ret
theorem lpM18_0 : loops M18_0 = 0 := rfl
theorem code18 : Try.f18.body = some (.seq (.region 0 R18_0 false) (.seq (.region 1 R18_1 false) (.seq (.seq (.region 2 R18_2 false) (.block 0 (.loop L18_0))) M18_0))) := by kernel_rfl
noncomputable def R19_0 : Array Oper := opsAt Try.f19 [0]
noncomputable def R19_1 : Array Oper := opsAt Try.f19 [1, 0]
theorem code19 : Try.f19.body = some (.seq (.region 0 R19_0 false) (.seq (.region 1 R19_1 false) .ret)) := by kernel_rfl
noncomputable def R20_0 : Array Oper := opsAt Try.f20 [0]
noncomputable def R20_1 : Array Oper := opsAt Try.f20 [1, 0]
theorem code20 : Try.f20.body = some (.seq (.region 0 R20_0 false) (.seq (.region 1 R20_1 false) .ret)) := by kernel_rfl
noncomputable def R21_0 : Array Oper := opsAt Try.f21 [0]
noncomputable def R21_1 : Array Oper := opsAt Try.f21 [1, 0]
noncomputable def R21_2 : Array Oper := opsAt Try.f21 [1, 1, 0, 0]
noncomputable def R21_3 : Array Oper := opsAt Try.f21 [1, 1, 0, 1, 0, 0, 0, 0]
noncomputable def R21_5 : Array Oper := opsAt Try.f21 [1, 1, 0, 1, 0, 0, 1, 0, 0, 0]
noncomputable def R21_6 : Array Oper := opsAt Try.f21 [1, 1, 0, 1, 0, 0, 1, 0, 0, 1, 0, 0, 0, 0]
noncomputable def R21_8 : Array Oper := opsAt Try.f21 [1, 1, 0, 1, 0, 0, 1, 0, 0, 1, 0, 0, 1, 0, 0, 0]
noncomputable def R21_9 : Array Oper := opsAt Try.f21 [1, 1, 0, 1, 0, 0, 1, 0, 0, 1, 0, 0, 1, 0, 0, 1, 0]
noncomputable def R21_10 : Array Oper := opsAt Try.f21 [1, 1, 0, 1, 0, 0, 1, 0, 0, 1, 0, 0, 1, 0, 0, 1, 1, 0]
noncomputable def R21_7 : Array Oper := opsAt Try.f21 [1, 1, 0, 1, 0, 0, 1, 0, 0, 1, 0, 0, 1, 1]
noncomputable def L21_1 : Code := .seq (.seq (.region 6 R21_6 false) (.cond (.tmp 40) .skip (.exit 2))) (.seq (.block 3 (.seq (.region 8 R21_8 false) (.seq (.region 9 R21_9 false) (.cond (.tmp 54) (.region 10 R21_10 false) .skip)))) (.region 7 R21_7 false))
theorem lpL21_1 : loops L21_1 = 0 := rfl
noncomputable def R21_4 : Array Oper := opsAt Try.f21 [1, 1, 0, 1, 0, 0, 1, 1]
noncomputable def M21_0 : Code := .region 4 R21_4 false
theorem lpM21_0 : loops M21_0 = 0 := rfl
noncomputable def L21_0 : Code := .seq (.seq (.region 3 R21_3 false) (.cond (.tmp 25) .skip (.exit 0))) (.seq (.block 1 (.seq (.region 5 R21_5 false) (.block 2 (.loop L21_1)))) M21_0)
theorem lpL21_0 : loops L21_0 = 1 := rfl
noncomputable def R21_11 : Array Oper := opsAt Try.f21 [1, 1, 1, 0]
noncomputable def M21_1 : Code := .seq (.region 11 R21_11 false) .ret
theorem lpM21_1 : loops M21_1 = 0 := rfl
theorem code21 : Try.f21.body = some (.seq (.region 0 R21_0 false) (.seq (.region 1 R21_1 false) (.seq (.seq (.region 2 R21_2 false) (.block 0 (.loop L21_0))) M21_1))) := by kernel_rfl
noncomputable def R22_0 : Array Oper := opsAt Try.f22 [0]
noncomputable def R22_1 : Array Oper := opsAt Try.f22 [1, 0, 0]
noncomputable def R22_2 : Array Oper := opsAt Try.f22 [1, 0, 1, 0, 0]
noncomputable def R22_3 : Array Oper := opsAt Try.f22 [1, 1, 0, 0]
noncomputable def R22_4 : Array Oper := opsAt Try.f22 [1, 1, 0, 1, 0, 0, 0, 0]
noncomputable def R22_6 : Array Oper := opsAt Try.f22 [1, 1, 0, 1, 0, 0, 1, 0, 0, 0]
noncomputable def R22_7 : Array Oper := opsAt Try.f22 [1, 1, 0, 1, 0, 0, 1, 0, 0, 1, 0, 0]
noncomputable def R22_5 : Array Oper := opsAt Try.f22 [1, 1, 0, 1, 0, 0, 1, 1]
noncomputable def L22_0 : Code := .seq (.seq (.region 4 R22_4 false) (.cond (.tmp 14) .skip (.exit 0))) (.seq (.block 1 (.seq (.region 6 R22_6 true) (.cond (.tmp 25) (.seq (.region 7 R22_7 false) .ret) .skip))) (.region 5 R22_5 false))
theorem lpL22_0 : loops L22_0 = 0 := rfl
noncomputable def R22_8 : Array Oper := opsAt Try.f22 [1, 1, 1, 0]
noncomputable def M22_0 : Code := .seq (.region 8 R22_8 false) .ret
theorem lpM22_0 : loops M22_0 = 0 := rfl
theorem code22 : Try.f22.body = some (.seq (.region 0 R22_0 false) (.seq (.seq (.region 1 R22_1 false) (.cond (.tmp 10) (.seq (.region 2 R22_2 false) .ret) .skip)) (.seq (.seq (.region 3 R22_3 false) (.block 0 (.loop L22_0))) M22_0))) := by kernel_rfl
noncomputable def R23_0 : Array Oper := opsAt Try.f23 [0]
noncomputable def R23_1 : Array Oper := opsAt Try.f23 [1, 0, 0]
noncomputable def R23_2 : Array Oper := opsAt Try.f23 [1, 0, 1, 0, 0, 0, 0]
noncomputable def R23_4 : Array Oper := opsAt Try.f23 [1, 0, 1, 0, 0, 1, 0, 0, 0]
noncomputable def R23_5 : Array Oper := opsAt Try.f23 [1, 0, 1, 0, 0, 1, 0, 0, 1]
noncomputable def R23_3 : Array Oper := opsAt Try.f23 [1, 0, 1, 0, 0, 1, 1]
noncomputable def L23_0 : Code := .seq (.seq (.region 2 R23_2 false) (.cond (.tmp 9) .skip (.exit 0))) (.seq (.block 1 (.seq (.region 4 R23_4 false) (.region 5 R23_5 false))) (.region 3 R23_3 false))
theorem lpL23_0 : loops L23_0 = 0 := rfl
noncomputable def R23_6 : Array Oper := opsAt Try.f23 [1, 1, 0]
noncomputable def M23_0 : Code := .seq (.region 6 R23_6 false) .ret
theorem lpM23_0 : loops M23_0 = 0 := rfl
theorem code23 : Try.f23.body = some (.seq (.region 0 R23_0 false) (.seq (.seq (.region 1 R23_1 false) (.block 0 (.loop L23_0))) M23_0)) := by kernel_rfl
noncomputable def R24_0 : Array Oper := opsAt Try.f24 [0]
noncomputable def R24_1 : Array Oper := opsAt Try.f24 [1, 0, 0]
noncomputable def R24_2 : Array Oper := opsAt Try.f24 [1, 0, 1, 0, 0, 0, 0]
noncomputable def R24_4 : Array Oper := opsAt Try.f24 [1, 0, 1, 0, 0, 1, 0, 0, 0, 0]
noncomputable def R24_5 : Array Oper := opsAt Try.f24 [1, 0, 1, 0, 0, 1, 0, 0, 0, 1, 0, 0]
noncomputable def R24_6 : Array Oper := opsAt Try.f24 [1, 0, 1, 0, 0, 1, 0, 0, 1]
noncomputable def R24_3 : Array Oper := opsAt Try.f24 [1, 0, 1, 0, 0, 1, 1]
noncomputable def L24_0 : Code := .seq (.seq (.region 2 R24_2 false) (.cond (.tmp 9) .skip (.exit 0))) (.seq (.block 1 (.seq (.seq (.region 4 R24_4 false) (.cond (.tmp 17) (.seq (.region 5 R24_5 false) .ret) .skip)) (.region 6 R24_6 false))) (.region 3 R24_3 false))
theorem lpL24_0 : loops L24_0 = 0 := rfl
noncomputable def R24_7 : Array Oper := opsAt Try.f24 [1, 1, 0]
noncomputable def M24_0 : Code := .seq (.region 7 R24_7 false) .ret
theorem lpM24_0 : loops M24_0 = 0 := rfl
theorem code24 : Try.f24.body = some (.seq (.region 0 R24_0 false) (.seq (.seq (.region 1 R24_1 false) (.block 0 (.loop L24_0))) M24_0)) := by kernel_rfl
noncomputable def R25_0 : Array Oper := opsAt Try.f25 [0]
noncomputable def R25_1 : Array Oper := opsAt Try.f25 [1, 0]
theorem code25 : Try.f25.body = some (.seq (.region 0 R25_0 false) (.seq (.region 1 R25_1 false) .ret)) := by kernel_rfl
noncomputable def R26_0 : Array Oper := opsAt Try.f26 [0]
noncomputable def R26_1 : Array Oper := opsAt Try.f26 [1, 0]
theorem code26 : Try.f26.body = some (.seq (.region 0 R26_0 false) (.seq (.region 1 R26_1 false) .ret)) := by kernel_rfl
noncomputable def R27_0 : Array Oper := opsAt Try.f27 [0]
noncomputable def R27_1 : Array Oper := opsAt Try.f27 [1, 0, 0]
noncomputable def R27_2 : Array Oper := opsAt Try.f27 [1, 0, 1, 0, 0]
noncomputable def R27_3 : Array Oper := opsAt Try.f27 [1, 1, 0]
theorem code27 : Try.f27.body = some (.seq (.region 0 R27_0 false) (.seq (.seq (.region 1 R27_1 false) (.cond (.tmp 7) (.seq (.region 2 R27_2 false) .ret) .skip)) (.seq (.region 3 R27_3 false) .ret))) := by kernel_rfl
noncomputable def R28_0 : Array Oper := opsAt Try.f28 [0]
noncomputable def R28_1 : Array Oper := opsAt Try.f28 [1, 0, 0]
noncomputable def R28_2 : Array Oper := opsAt Try.f28 [1, 0, 1, 0, 0]
noncomputable def R28_3 : Array Oper := opsAt Try.f28 [1, 1, 0]
theorem code28 : Try.f28.body = some (.seq (.region 0 R28_0 false) (.seq (.seq (.region 1 R28_1 false) (.cond (.tmp 7) (.seq (.region 2 R28_2 false) .ret) .skip)) (.seq (.region 3 R28_3 false) .ret))) := by kernel_rfl
noncomputable def R29_0 : Array Oper := opsAt Try.f29 [0]
noncomputable def R29_1 : Array Oper := opsAt Try.f29 [1, 0]
theorem code29 : Try.f29.body = some (.seq (.region 0 R29_0 false) (.seq (.region 1 R29_1 false) .ret)) := by kernel_rfl
noncomputable def R30_0 : Array Oper := opsAt Try.f30 [0]
noncomputable def R30_1 : Array Oper := opsAt Try.f30 [1, 0]
theorem code30 : Try.f30.body = some (.seq (.region 0 R30_0 false) (.seq (.region 1 R30_1 false) .ret)) := by kernel_rfl
noncomputable def R31_0 : Array Oper := opsAt Try.f31 [0]
noncomputable def R31_1 : Array Oper := opsAt Try.f31 [1, 0]
theorem code31 : Try.f31.body = some (.seq (.region 0 R31_0 false) (.seq (.region 1 R31_1 false) .ret)) := by kernel_rfl
noncomputable def R32_0 : Array Oper := opsAt Try.f32 [0]
noncomputable def R32_1 : Array Oper := opsAt Try.f32 [1, 0, 0]
noncomputable def R32_2 : Array Oper := opsAt Try.f32 [1, 0, 1, 0, 0, 0]
noncomputable def R32_3 : Array Oper := opsAt Try.f32 [1, 0, 1, 0, 0, 1, 1, 0, 0, 0]
noncomputable def R32_4 : Array Oper := opsAt Try.f32 [1, 0, 1, 0, 0, 1, 1, 0, 0, 1, 0]
noncomputable def R32_5 : Array Oper := opsAt Try.f32 [1, 0, 1, 0, 0, 1, 1, 0, 0, 1, 1, 0, 0]
noncomputable def R32_6 : Array Oper := opsAt Try.f32 [1, 0, 1, 0, 0, 1, 1, 1]
noncomputable def L32_0 : Code := .seq (.region 2 R32_2 false) (.seq (.cond (.tmp 9) .skip (.exit 0)) (.seq (.block 1 (.seq (.region 3 R32_3 false) (.seq (.region 4 R32_4 false) (.cond (.tmp 16) (.seq (.region 5 R32_5 false) .ret) .skip)))) (.region 6 R32_6 false)))
theorem lpL32_0 : loops L32_0 = 0 := rfl
noncomputable def R32_7 : Array Oper := opsAt Try.f32 [1, 1, 0]
noncomputable def M32_0 : Code := .seq (.region 7 R32_7 false) .ret
theorem lpM32_0 : loops M32_0 = 0 := rfl
theorem code32 : Try.f32.body = some (.seq (.region 0 R32_0 false) (.seq (.seq (.region 1 R32_1 false) (.block 0 (.loop L32_0))) M32_0)) := by kernel_rfl
theorem bld5_ok : BldOk Try.prog 5 (9, 0, 0) := ⟨ent Try.func5 rfl rfl, fun h => absurd h (by decide), fun h => absurd h (by decide), fun h => absurd h (by decide)⟩
theorem bld7_ok : BldOk Try.prog 7 (9, 0, 0) := ⟨ent Try.func7 rfl rfl, fun h => absurd h (by decide), fun h => absurd h (by decide), fun h => absurd h (by decide)⟩
theorem bld11_ok : BldOk Try.prog 11 (9, 0, 0) := ⟨ent Try.func11 rfl rfl, fun h => absurd h (by decide), fun h => absurd h (by decide), fun h => absurd h (by decide)⟩
def X : FuncId → Option (List V → Option (V × List Eng.Obj))
  | _ => none
noncomputable def C : Cfg := ⟨T, F, X, WR, OW, K, BL⟩
theorem cT : C.T = T := by unfold C; with_reducible rfl
theorem cF : C.fn = F := by unfold C; with_reducible rfl
theorem cX : C.ext = X := by unfold C; with_reducible rfl
theorem cWR : C.wr = WR := by unfold C; with_reducible rfl
theorem cOW : C.own = OW := by unfold C; with_reducible rfl
theorem cK : C.keep = K := by unfold C; with_reducible rfl
theorem cBL : C.bld = BL := by unfold C; with_reducible rfl
theorem cfgOk : CfgOk Try.prog C where
  mixed := by kernel_rfl
  tab := tabOk
  fn := fun f fn h => okF_1 f fn h
  ext := by
    intro f m h
    have h' : X f = some m := h
    unfold X at h'
    cases h'
  bld := by
    intro f k h
    have h' : BL f = some k := h
    unfold BL at h'
    split at h'
    · cases h'; exact bld5_ok
    · cases h'; exact bld7_ok
    · cases h'; exact bld11_ok
    · cases h'
end Go.Proofs.Ytemkckldfmpplaa.Eng
