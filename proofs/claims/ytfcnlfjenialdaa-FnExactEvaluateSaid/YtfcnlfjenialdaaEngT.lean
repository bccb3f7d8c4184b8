/- The types, the functions and the loops' live slots that the laws reach, and that they are what the program has. No conditions. -/
import Derived.Test.YtfcnlfjenialdaaEngTa
namespace Go.Proofs.Ytfcnlfjenialdaa.Eng
open Go Go.Proofs
set_option maxRecDepth 100000
noncomputable def R3_0 : Array Oper := opsAt Try.f3 [0]
noncomputable def R3_1 : Array Oper := opsAt Try.f3 [1, 0]
noncomputable def R3_2 : Array Oper := opsAt Try.f3 [1, 1, 0]
noncomputable def R3_3 : Array Oper := opsAt Try.f3 [1, 1, 1, 0, 0]
noncomputable def R3_4 : Array Oper := opsAt Try.f3 [1, 1, 1, 0, 1, 0, 0]
noncomputable def R3_5 : Array Oper := opsAt Try.f3 [1, 1, 1, 1, 0]
noncomputable def R3_6 : Array Oper := opsAt Try.f3 [1, 1, 1, 1, 1, 0, 0]
noncomputable def R3_7 : Array Oper := opsAt Try.f3 [1, 1, 1, 1, 1, 0, 1, 0, 0]
noncomputable def R3_8 : Array Oper := opsAt Try.f3 [1, 1, 1, 1, 1, 1, 0]
noncomputable def R3_9 : Array Oper := opsAt Try.f3 [1, 1, 1, 1, 1, 1, 1, 0]
noncomputable def R3_10 : Array Oper := opsAt Try.f3 [1, 1, 1, 1, 1, 1, 1, 1, 0]
noncomputable def R3_11 : Array Oper := opsAt Try.f3 [1, 1, 1, 1, 1, 1, 1, 1, 1, 0]
noncomputable def R3_12 : Array Oper := opsAt Try.f3 [1, 1, 1, 1, 1, 1, 1, 1, 1, 1, 0, 0]
noncomputable def R3_13 : Array Oper := opsAt Try.f3 [1, 1, 1, 1, 1, 1, 1, 1, 1, 1, 0, 1, 0, 0]
noncomputable def R3_14 : Array Oper := opsAt Try.f3 [1, 1, 1, 1, 1, 1, 1, 1, 1, 1, 1, 0, 0]
noncomputable def R3_15 : Array Oper := opsAt Try.f3 [1, 1, 1, 1, 1, 1, 1, 1, 1, 1, 1, 0, 1, 0, 0]
noncomputable def R3_16 : Array Oper := opsAt Try.f3 [1, 1, 1, 1, 1, 1, 1, 1, 1, 1, 1, 1, 0, 0]
noncomputable def R3_17 : Array Oper := opsAt Try.f3 [1, 1, 1, 1, 1, 1, 1, 1, 1, 1, 1, 1, 0, 1, 0, 0]
noncomputable def R3_18 : Array Oper := opsAt Try.f3 [1, 1, 1, 1, 1, 1, 1, 1, 1, 1, 1, 1, 1, 0]
noncomputable def R3_19 : Array Oper := opsAt Try.f3 [1, 1, 1, 1, 1, 1, 1, 1, 1, 1, 1, 1, 1, 1, 0]
noncomputable def R3_20 : Array Oper := opsAt Try.f3 [1, 1, 1, 1, 1, 1, 1, 1, 1, 1, 1, 1, 1, 1, 1, 0]
noncomputable def R3_21 : Array Oper := opsAt Try.f3 [1, 1, 1, 1, 1, 1, 1, 1, 1, 1, 1, 1, 1, 1, 1, 1, 0, 0]
noncomputable def R3_22 : Array Oper := opsAt Try.f3 [1, 1, 1, 1, 1, 1, 1, 1, 1, 1, 1, 1, 1, 1, 1, 1, 0, 1, 0, 0]
noncomputable def R3_23 : Array Oper := opsAt Try.f3 [1, 1, 1, 1, 1, 1, 1, 1, 1, 1, 1, 1, 1, 1, 1, 1, 1, 0]
noncomputable def R3_24 : Array Oper := opsAt Try.f3 [1, 1, 1, 1, 1, 1, 1, 1, 1, 1, 1, 1, 1, 1, 1, 1, 1, 1, 0]
noncomputable def R3_25 : Array Oper := opsAt Try.f3 [1, 1, 1, 1, 1, 1, 1, 1, 1, 1, 1, 1, 1, 1, 1, 1, 1, 1, 1, 0]
noncomputable def R3_26 : Array Oper := opsAt Try.f3 [1, 1, 1, 1, 1, 1, 1, 1, 1, 1, 1, 1, 1, 1, 1, 1, 1, 1, 1, 1, 0]
noncomputable def R3_27 : Array Oper := opsAt Try.f3 [1, 1, 1, 1, 1, 1, 1, 1, 1, 1, 1, 1, 1, 1, 1, 1, 1, 1, 1, 1, 1, 0, 0]
noncomputable def R3_28 : Array Oper := opsAt Try.f3 [1, 1, 1, 1, 1, 1, 1, 1, 1, 1, 1, 1, 1, 1, 1, 1, 1, 1, 1, 1, 1, 0, 1, 0, 0]
noncomputable def R3_29 : Array Oper := opsAt Try.f3 [1, 1, 1, 1, 1, 1, 1, 1, 1, 1, 1, 1, 1, 1, 1, 1, 1, 1, 1, 1, 1, 1, 0, 0]
noncomputable def R3_30 : Array Oper := opsAt Try.f3 [1, 1, 1, 1, 1, 1, 1, 1, 1, 1, 1, 1, 1, 1, 1, 1, 1, 1, 1, 1, 1, 1, 0, 1, 0, 0]
noncomputable def R3_31 : Array Oper := opsAt Try.f3 [1, 1, 1, 1, 1, 1, 1, 1, 1, 1, 1, 1, 1, 1, 1, 1, 1, 1, 1, 1, 1, 1, 1, 0]
noncomputable def R3_32 : Array Oper := opsAt Try.f3 [1, 1, 1, 1, 1, 1, 1, 1, 1, 1, 1, 1, 1, 1, 1, 1, 1, 1, 1, 1, 1, 1, 1, 1, 0, 0]
noncomputable def R3_33 : Array Oper := opsAt Try.f3 [1, 1, 1, 1, 1, 1, 1, 1, 1, 1, 1, 1, 1, 1, 1, 1, 1, 1, 1, 1, 1, 1, 1, 1, 0, 1, 0, 0]
noncomputable def R3_34 : Array Oper := opsAt Try.f3 [1, 1, 1, 1, 1, 1, 1, 1, 1, 1, 1, 1, 1, 1, 1, 1, 1, 1, 1, 1, 1, 1, 1, 1, 1, 0]
noncomputable def R3_35 : Array Oper := opsAt Try.f3 [1, 1, 1, 1, 1, 1, 1, 1, 1, 1, 1, 1, 1, 1, 1, 1, 1, 1, 1, 1, 1, 1, 1, 1, 1, 1, 0]
noncomputable def R3_36 : Array Oper := opsAt Try.f3 [1, 1, 1, 1, 1, 1, 1, 1, 1, 1, 1, 1, 1, 1, 1, 1, 1, 1, 1, 1, 1, 1, 1, 1, 1, 1, 1, 0, 0]
noncomputable def R3_37 : Array Oper := opsAt Try.f3 [1, 1, 1, 1, 1, 1, 1, 1, 1, 1, 1, 1, 1, 1, 1, 1, 1, 1, 1, 1, 1, 1, 1, 1, 1, 1, 1, 0, 1, 0, 0]
noncomputable def R3_38 : Array Oper := opsAt Try.f3 [1, 1, 1, 1, 1, 1, 1, 1, 1, 1, 1, 1, 1, 1, 1, 1, 1, 1, 1, 1, 1, 1, 1, 1, 1, 1, 1, 1, 0, 0]
noncomputable def R3_39 : Array Oper := opsAt Try.f3 [1, 1, 1, 1, 1, 1, 1, 1, 1, 1, 1, 1, 1, 1, 1, 1, 1, 1, 1, 1, 1, 1, 1, 1, 1, 1, 1, 1, 0, 1, 0, 0]
noncomputable def R3_40 : Array Oper := opsAt Try.f3 [1, 1, 1, 1, 1, 1, 1, 1, 1, 1, 1, 1, 1, 1, 1, 1, 1, 1, 1, 1, 1, 1, 1, 1, 1, 1, 1, 1, 1, 0]
theorem code3 : Try.f3.body = some (.seq (.region 0 R3_0 false) (.seq (.region 1 R3_1 false) (.seq (.region 2 R3_2 false) (.seq (.seq (.region 3 R3_3 false) (.cond (.tmp 21) (.seq (.region 4 R3_4 false) .ret) .skip)) (.seq (.region 5 R3_5 false) (.seq (.seq (.region 6 R3_6 false) (.cond (.tmp 26) (.seq (.region 7 R3_7 false) .ret) .skip)) (.seq (.region 8 R3_8 false) (.seq (.region 9 R3_9 false) (.seq (.region 10 R3_10 false) (.seq (.region 11 R3_11 false) (.seq (.seq (.region 12 R3_12 false) (.cond (.tmp 53) (.seq (.region 13 R3_13 false) .ret) .skip)) (.seq (.seq (.region 14 R3_14 false) (.cond (.tmp 58) (.seq (.region 15 R3_15 false) .ret) .skip)) (.seq (.seq (.region 16 R3_16 false) (.cond (.tmp 63) (.seq (.region 17 R3_17 false) .ret) .skip)) (.seq (.region 18 R3_18 false) (.seq (.region 19 R3_19 false) (.seq (.region 20 R3_20 false) (.seq (.seq (.region 21 R3_21 false) (.cond (.tmp 82) (.seq (.region 22 R3_22 false) .ret) .skip)) (.seq (.region 23 R3_23 false) (.seq (.region 24 R3_24 false) (.seq (.region 25 R3_25 false) (.seq (.region 26 R3_26 false) (.seq (.seq (.region 27 R3_27 false) (.cond (.tmp 90) (.seq (.region 28 R3_28 false) .ret) .skip)) (.seq (.seq (.region 29 R3_29 false) (.cond (.tmp 93) (.seq (.region 30 R3_30 false) .ret) .skip)) (.seq (.region 31 R3_31 false) (.seq (.seq (.region 32 R3_32 false) (.cond (.tmp 110) (.seq (.region 33 R3_33 false) .ret) .skip)) (.seq (.region 34 R3_34 false) (.seq (.region 35 R3_35 false) (.seq (.seq (.region 36 R3_36 false) (.cond (.tmp 115) (.seq (.region 37 R3_37 false) .ret) .skip)) (.seq (.seq (.region 38 R3_38 false) (.cond (.tmp 118) (.seq (.region 39 R3_39 false) .ret) .skip)) (.seq (.region 40 R3_40 false) .ret)))))))))))))))))))))))))))))) := by kernel_rfl
noncomputable def R4_0 : Array Oper := opsAt Try.f4 [0]
noncomputable def R4_1 : Array Oper := opsAt Try.f4 [1, 0]
noncomputable def R4_2 : Array Oper := opsAt Try.f4 [1, 1, 0, 0]
noncomputable def R4_3 : Array Oper := opsAt Try.f4 [1, 1, 0, 1, 0, 0]
noncomputable def R4_4 : Array Oper := opsAt Try.f4 [1, 1, 1, 0]
theorem code4 : Try.f4.body = some (.seq (.region 0 R4_0 false) (.seq (.region 1 R4_1 false) (.seq (.seq (.region 2 R4_2 false) (.cond (.tmp 10) (.seq (.region 3 R4_3 false) .ret) .skip)) (.seq (.region 4 R4_4 false) .ret)))) := by kernel_rfl
noncomputable def R5_0 : Array Oper := opsAt Try.f5 [0]
noncomputable def R5_1 : Array Oper := opsAt Try.f5 [1, 0]
noncomputable def R5_2 : Array Oper := opsAt Try.f5 [1, 1, 0, 0]
noncomputable def R5_3 : Array Oper := opsAt Try.f5 [1, 1, 0, 1, 0, 0]
noncomputable def R5_4 : Array Oper := opsAt Try.f5 [1, 1, 1, 0, 0]
noncomputable def R5_5 : Array Oper := opsAt Try.f5 [1, 1, 1, 0, 1, 0, 0, 0, 0]
noncomputable def R5_7 : Array Oper := opsAt Try.f5 [1, 1, 1, 0, 1, 0, 0, 1, 0, 0, 0]
noncomputable def R5_8 : Array Oper := opsAt Try.f5 [1, 1, 1, 0, 1, 0, 0, 1, 0, 0, 1, 0]
noncomputable def R5_9 : Array Oper := opsAt Try.f5 [1, 1, 1, 0, 1, 0, 0, 1, 0, 0, 1, 1, 0, 0]
noncomputable def R5_6 : Array Oper := opsAt Try.f5 [1, 1, 1, 0, 1, 0, 0, 1, 1]
noncomputable def L5_0 : Code := .seq (.seq (.region 5 R5_5 false) (.cond (.tmp 15) .skip (.exit 0))) (.seq (.block 1 (.seq (.region 7 R5_7 false) (.seq (.region 8 R5_8 false) (.cond (.tmp 25) (.seq (.region 9 R5_9 false) .ret) .skip)))) (.region 6 R5_6 false))
theorem lpL5_0 : loops L5_0 = 0 := rfl
noncomputable def R5_10 : Array Oper := opsAt Try.f5 [1, 1, 1, 1, 0]
noncomputable def M5_0 : Code := .seq (.region 10 R5_10 false) .ret
theorem lpM5_0 : loops M5_0 = 0 := rfl
theorem code5 : Try.f5.body = some (.seq (.region 0 R5_0 false) (.seq (.region 1 R5_1 false) (.seq (.seq (.region 2 R5_2 false) (.cond (.tmp 11) (.seq (.region 3 R5_3 false) .ret) .skip)) (.seq (.seq (.region 4 R5_4 false) (.block 0 (.loop L5_0))) M5_0)))) := by kernel_rfl
noncomputable def R6_0 : Array Oper := opsAt Try.f6 [0]
noncomputable def R6_1 : Array Oper := opsAt Try.f6 [1, 0, 0]
noncomputable def R6_2 : Array Oper := opsAt Try.f6 [1, 0, 1, 0, 0]
noncomputable def R6_3 : Array Oper := opsAt Try.f6 [1, 1, 0]
theorem code6 : Try.f6.body = some (.seq (.region 0 R6_0 false) (.seq (.seq (.region 1 R6_1 false) (.cond (.tmp 13) (.seq (.region 2 R6_2 false) .ret) .skip)) (.seq (.region 3 R6_3 false) .ret))) := by kernel_rfl
noncomputable def R7_0 : Array Oper := opsAt Try.f7 [0]
noncomputable def R7_1 : Array Oper := opsAt Try.f7 [1, 0]
noncomputable def R7_2 : Array Oper := opsAt Try.f7 [1, 1, 0, 0]
noncomputable def R7_3 : Array Oper := opsAt Try.f7 [1, 1, 0, 1, 0, 0, 0, 0]
noncomputable def R7_5 : Array Oper := opsAt Try.f7 [1, 1, 0, 1, 0, 0, 1, 0, 0]
noncomputable def R7_4 : Array Oper := opsAt Try.f7 [1, 1, 0, 1, 0, 0, 1, 1]
noncomputable def L7_0 : Code := .seq (.seq (.region 3 R7_3 false) (.cond (.tmp 11) .skip (.exit 0))) (.seq (.block 1 (.region 5 R7_5 false)) (.region 4 R7_4 false))
theorem lpL7_0 : loops L7_0 = 0 := rfl
noncomputable def R7_6 : Array Oper := opsAt Try.f7 [1, 1, 1, 0]
noncomputable def M7_0 : Code := .seq (.region 6 R7_6 false) .ret
theorem lpM7_0 : loops M7_0 = 0 := rfl
theorem code7 : Try.f7.body = some (.seq (.region 0 R7_0 false) (.seq (.region 1 R7_1 false) (.seq (.seq (.region 2 R7_2 false) (.block 0 (.loop L7_0))) M7_0))) := by kernel_rfl
noncomputable def R8_0 : Array Oper := opsAt Try.f8 [0]
noncomputable def R8_1 : Array Oper := opsAt Try.f8 [1, 0]
noncomputable def R8_2 : Array Oper := opsAt Try.f8 [1, 1, 0, 0]
noncomputable def R8_3 : Array Oper := opsAt Try.f8 [1, 1, 0, 1, 0, 0, 0, 0]
noncomputable def R8_5 : Array Oper := opsAt Try.f8 [1, 1, 0, 1, 0, 0, 1, 0, 0]
noncomputable def R8_4 : Array Oper := opsAt Try.f8 [1, 1, 0, 1, 0, 0, 1, 1]
noncomputable def L8_0 : Code := .seq (.seq (.region 3 R8_3 false) (.cond (.tmp 11) .skip (.exit 0))) (.seq (.block 1 (.region 5 R8_5 false)) (.region 4 R8_4 false))
theorem lpL8_0 : loops L8_0 = 0 := rfl
noncomputable def R8_6 : Array Oper := opsAt Try.f8 [1, 1, 1, 0]
noncomputable def M8_0 : Code := .seq (.region 6 R8_6 false) .ret
theorem lpM8_0 : loops M8_0 = 0 := rfl
theorem code8 : Try.f8.body = some (.seq (.region 0 R8_0 false) (.seq (.region 1 R8_1 false) (.seq (.seq (.region 2 R8_2 false) (.block 0 (.loop L8_0))) M8_0))) := by kernel_rfl
noncomputable def R9_0 : Array Oper := opsAt Try.f9 [0]
noncomputable def R9_1 : Array Oper := opsAt Try.f9 [1, 0, 0]
noncomputable def R9_2 : Array Oper := opsAt Try.f9 [1, 0, 1, 0, 0]
noncomputable def R9_3 : Array Oper := opsAt Try.f9 [1, 1, 0]
noncomputable def R9_4 : Array Oper := opsAt Try.f9 [1, 1, 1, 0, 0]
noncomputable def R9_5 : Array Oper := opsAt Try.f9 [1, 1, 1, 0, 1, 0, 0, 0]
noncomputable def R9_6 : Array Oper := opsAt Try.f9 [1, 1, 1, 0, 1, 0, 0, 1, 1, 0, 0, 0]
noncomputable def R9_7 : Array Oper := opsAt Try.f9 [1, 1, 1, 0, 1, 0, 0, 1, 1, 0, 0, 1, 0]
noncomputable def R9_8 : Array Oper := opsAt Try.f9 [1, 1, 1, 0, 1, 0, 0, 1, 1, 0, 0, 1, 1, 0, 0]
noncomputable def R9_9 : Array Oper := opsAt Try.f9 [1, 1, 1, 0, 1, 0, 0, 1, 1, 0, 0, 1, 1, 0, 1, 0, 0]
noncomputable def R9_10 : Array Oper := opsAt Try.f9 [1, 1, 1, 0, 1, 0, 0, 1, 1, 0, 0, 1, 1, 1]
noncomputable def R9_11 : Array Oper := opsAt Try.f9 [1, 1, 1, 0, 1, 0, 0, 1, 1, 1]
noncomputable def L9_0 : Code := .seq (.region 5 R9_5 false) (.seq (.cond (.tmp 29) .skip (.exit 0)) (.seq (.block 1 (.seq (.region 6 R9_6 false) (.seq (.region 7 R9_7 false) (.seq (.seq (.region 8 R9_8 false) (.cond (.tmp 40) (.seq (.region 9 R9_9 false) .ret) .skip)) (.region 10 R9_10 true))))) (.region 11 R9_11 false)))
theorem lpL9_0 : loops L9_0 = 0 := rfl
noncomputable def R9_12 : Array Oper := opsAt Try.f9 [1, 1, 1, 1, 0]
noncomputable def M9_0 : Code := .seq (.region 12 R9_12 false) .ret
theorem lpM9_0 : loops M9_0 = 0 := rfl
theorem code9 : Try.f9.body = some (.seq (.region 0 R9_0 false) (.seq (.seq (.region 1 R9_1 false) (.cond (.tmp 24) (.seq (.region 2 R9_2 false) .ret) .skip)) (.seq (.region 3 R9_3 false) (.seq (.seq (.region 4 R9_4 false) (.block 0 (.loop L9_0))) M9_0)))) := by kernel_rfl
noncomputable def R10_0 : Array Oper := opsAt Try.f10 [0]
noncomputable def R10_1 : Array Oper := opsAt Try.f10 [1, 0, 0]
noncomputable def R10_2 : Array Oper := opsAt Try.f10 [1, 0, 1, 0, 0]
noncomputable def R10_3 : Array Oper := opsAt Try.f10 [1, 1, 0, 0]
noncomputable def R10_4 : Array Oper := opsAt Try.f10 [1, 1, 0, 1, 0, 0]
noncomputable def R10_5 : Array Oper := opsAt Try.f10 [1, 1, 1, 0, 0]
noncomputable def R10_6 : Array Oper := opsAt Try.f10 [1, 1, 1, 0, 1, 0, 0]
noncomputable def R10_7 : Array Oper := opsAt Try.f10 [1, 1, 1, 1, 0]
theorem code10 : Try.f10.body = some (.seq (.region 0 R10_0 false) (.seq (.seq (.region 1 R10_1 false) (.cond (.tmp 9) (.seq (.region 2 R10_2 false) .ret) .skip)) (.seq (.seq (.region 3 R10_3 false) (.cond (.tmp 14) (.seq (.region 4 R10_4 false) .ret) .skip)) (.seq (.seq (.region 5 R10_5 false) (.cond (.tmp 20) (.seq (.region 6 R10_6 false) .ret) .skip)) (.seq (.region 7 R10_7 false) .ret))))) := by kernel_rfl
noncomputable def R11_0 : Array Oper := opsAt Try.f11 [0]
noncomputable def R11_1 : Array Oper := opsAt Try.f11 [1, 0, 0]
noncomputable def R11_2 : Array Oper := opsAt Try.f11 [1, 0, 1, 0, 0]
noncomputable def R11_3 : Array Oper := opsAt Try.f11 [1, 1, 0, 0]
noncomputable def R11_4 : Array Oper := opsAt Try.f11 [1, 1, 0, 1, 0, 0, 0, 0]
noncomputable def R11_6 : Array Oper := opsAt Try.f11 [1, 1, 0, 1, 0, 0, 1, 0, 0, 0]
noncomputable def R11_7 : Array Oper := opsAt Try.f11 [1, 1, 0, 1, 0, 0, 1, 0, 0, 1, 0, 0]
noncomputable def R11_5 : Array Oper := opsAt Try.f11 [1, 1, 0, 1, 0, 0, 1, 1]
noncomputable def L11_0 : Code := .seq (.seq (.region 4 R11_4 false) (.cond (.tmp 14) .skip (.exit 0))) (.seq (.block 1 (.seq (.region 6 R11_6 true) (.cond (.tmp 26) (.seq (.region 7 R11_7 false) .ret) .skip))) (.region 5 R11_5 false))
theorem lpL11_0 : loops L11_0 = 0 := rfl
noncomputable def R11_8 : Array Oper := opsAt Try.f11 [1, 1, 1, 0]
noncomputable def M11_0 : Code := .seq (.region 8 R11_8 false) .ret
theorem lpM11_0 : loops M11_0 = 0 := rfl
theorem code11 : Try.f11.body = some (.seq (.region 0 R11_0 false) (.seq (.seq (.region 1 R11_1 false) (.cond (.tmp 10) (.seq (.region 2 R11_2 false) .ret) .skip)) (.seq (.seq (.region 3 R11_3 false) (.block 0 (.loop L11_0))) M11_0))) := by kernel_rfl
noncomputable def R12_0 : Array Oper := opsAt Try.f12 [0]
noncomputable def R12_1 : Array Oper := opsAt Try.f12 [1, 0, 0]
noncomputable def R12_2 : Array Oper := opsAt Try.f12 [1, 0, 1, 0, 0]
noncomputable def R12_3 : Array Oper := opsAt Try.f12 [1, 1, 0, 0]
noncomputable def R12_4 : Array Oper := opsAt Try.f12 [1, 1, 0, 1, 0, 0, 0, 0]
noncomputable def R12_6 : Array Oper := opsAt Try.f12 [1, 1, 0, 1, 0, 0, 1, 0, 0, 0]
noncomputable def R12_7 : Array Oper := opsAt Try.f12 [1, 1, 0, 1, 0, 0, 1, 0, 0, 1, 0, 0]
noncomputable def R12_5 : Array Oper := opsAt Try.f12 [1, 1, 0, 1, 0, 0, 1, 1]
noncomputable def L12_0 : Code := .seq (.seq (.region 4 R12_4 false) (.cond (.tmp 14) .skip (.exit 0))) (.seq (.block 1 (.seq (.region 6 R12_6 true) (.cond (.tmp 26) (.seq (.region 7 R12_7 false) .ret) .skip))) (.region 5 R12_5 false))
theorem lpL12_0 : loops L12_0 = 0 := rfl
noncomputable def R12_8 : Array Oper := opsAt Try.f12 [1, 1, 1, 0]
noncomputable def M12_0 : Code := .seq (.region 8 R12_8 false) .ret
theorem lpM12_0 : loops M12_0 = 0 := rfl
theorem code12 : Try.f12.body = some (.seq (.region 0 R12_0 false) (.seq (.seq (.region 1 R12_1 false) (.cond (.tmp 10) (.seq (.region 2 R12_2 false) .ret) .skip)) (.seq (.seq (.region 3 R12_3 false) (.block 0 (.loop L12_0))) M12_0))) := by kernel_rfl
noncomputable def R13_0 : Array Oper := opsAt Try.f13 [0]
noncomputable def R13_1 : Array Oper := opsAt Try.f13 [1, 0, 0]
noncomputable def R13_2 : Array Oper := opsAt Try.f13 [1, 0, 1, 0, 0, 0, 0]
noncomputable def R13_4 : Array Oper := opsAt Try.f13 [1, 0, 1, 0, 0, 1, 0, 0, 0]
noncomputable def R13_5 : Array Oper := opsAt Try.f13 [1, 0, 1, 0, 0, 1, 0, 0, 1, 0]
noncomputable def R13_6 : Array Oper := opsAt Try.f13 [1, 0, 1, 0, 0, 1, 0, 0, 1, 1, 0]
noncomputable def R13_7 : Array Oper := opsAt Try.f13 [1, 0, 1, 0, 0, 1, 0, 0, 1, 1, 1]
noncomputable def R13_3 : Array Oper := opsAt Try.f13 [1, 0, 1, 0, 0, 1, 1]
noncomputable def L13_0 : Code := .seq (.seq (.region 2 R13_2 false) (.cond (.tmp 9) .skip (.exit 0))) (.seq (.block 1 (.seq (.region 4 R13_4 false) (.seq (.region 5 R13_5 false) (.seq (.region 6 R13_6 false) (.region 7 R13_7 false))))) (.region 3 R13_3 false))
theorem lpL13_0 : loops L13_0 = 0 := rfl
noncomputable def R13_8 : Array Oper := opsAt Try.f13 [1, 1, 0]
noncomputable def M13_0 : Code := .seq (.region 8 R13_8 false) .ret
theorem lpM13_0 : loops M13_0 = 0 := rfl
theorem code13 : Try.f13.body = some (.seq (.region 0 R13_0 false) (.seq (.seq (.region 1 R13_1 false) (.block 0 (.loop L13_0))) M13_0)) := by kernel_rfl
noncomputable def R14_0 : Array Oper := opsAt Try.f14 [0]
noncomputable def R14_1 : Array Oper := opsAt Try.f14 [1, 0, 0]
noncomputable def R14_2 : Array Oper := opsAt Try.f14 [1, 0, 1, 0, 0, 0, 0]
noncomputable def R14_4 : Array Oper := opsAt Try.f14 [1, 0, 1, 0, 0, 1, 0, 0, 0]
noncomputable def R14_5 : Array Oper := opsAt Try.f14 [1, 0, 1, 0, 0, 1, 0, 0, 1, 0]
noncomputable def R14_6 : Array Oper := opsAt Try.f14 [1, 0, 1, 0, 0, 1, 0, 0, 1, 1, 0]
noncomputable def R14_7 : Array Oper := opsAt Try.f14 [1, 0, 1, 0, 0, 1, 0, 0, 1, 1, 1, 0]
noncomputable def R14_8 : Array Oper := opsAt Try.f14 [1, 0, 1, 0, 0, 1, 0, 0, 1, 1, 1, 1]
noncomputable def R14_3 : Array Oper := opsAt Try.f14 [1, 0, 1, 0, 0, 1, 1]
noncomputable def L14_0 : Code := .seq (.seq (.region 2 R14_2 false) (.cond (.tmp 9) .skip (.exit 0))) (.seq (.block 1 (.seq (.region 4 R14_4 false) (.seq (.region 5 R14_5 false) (.seq (.region 6 R14_6 false) (.seq (.region 7 R14_7 false) (.region 8 R14_8 false)))))) (.region 3 R14_3 false))
theorem lpL14_0 : loops L14_0 = 0 := rfl
noncomputable def R14_9 : Array Oper := opsAt Try.f14 [1, 1, 0]
noncomputable def M14_0 : Code := .seq (.region 9 R14_9 false) .ret
theorem lpM14_0 : loops M14_0 = 0 := rfl
theorem code14 : Try.f14.body = some (.seq (.region 0 R14_0 false) (.seq (.seq (.region 1 R14_1 false) (.block 0 (.loop L14_0))) M14_0)) := by kernel_rfl
noncomputable def R15_0 : Array Oper := opsAt Try.f15 [0]
noncomputable def R15_1 : Array Oper := opsAt Try.f15 [1, 0]
noncomputable def R15_2 : Array Oper := opsAt Try.f15 [1, 1, 0]
theorem code15 : Try.f15.body = some (.seq (.region 0 R15_0 false) (.seq (.region 1 R15_1 false) (.seq (.region 2 R15_2 false) .ret))) := by kernel_rfl
noncomputable def R16_0 : Array Oper := opsAt Try.f16 [0]
noncomputable def R16_1 : Array Oper := opsAt Try.f16 [1, 0]
noncomputable def R16_2 : Array Oper := opsAt Try.f16 [1, 1, 0, 0]
noncomputable def R16_3 : Array Oper := opsAt Try.f16 [1, 1, 0, 1, 0, 0]
noncomputable def R16_4 : Array Oper := opsAt Try.f16 [1, 1, 1, 0]
theorem code16 : Try.f16.body = some (.seq (.region 0 R16_0 false) (.seq (.region 1 R16_1 false) (.seq (.seq (.region 2 R16_2 false) (.cond (.tmp 10) (.seq (.region 3 R16_3 false) .ret) .skip)) (.seq (.region 4 R16_4 false) .ret)))) := by kernel_rfl
noncomputable def R17_0 : Array Oper := opsAt Try.f17 [0]
noncomputable def R17_1 : Array Oper := opsAt Try.f17 [1, 0]
noncomputable def R17_2 : Array Oper := opsAt Try.f17 [1, 1, 0, 0]
noncomputable def R17_3 : Array Oper := opsAt Try.f17 [1, 1, 0, 1, 0, 0]
noncomputable def R17_4 : Array Oper := opsAt Try.f17 [1, 1, 1, 0]
theorem code17 : Try.f17.body = some (.seq (.region 0 R17_0 false) (.seq (.region 1 R17_1 false) (.seq (.seq (.region 2 R17_2 false) (.cond (.tmp 10) (.seq (.region 3 R17_3 false) .ret) .skip)) (.seq (.region 4 R17_4 false) .ret)))) := by kernel_rfl
noncomputable def R18_0 : Array Oper := opsAt Try.f18 [0]
noncomputable def R18_1 : Array Oper := opsAt Try.f18 [1, 0]
noncomputable def R18_2 : Array Oper := opsAt Try.f18 [1, 1, 0, 0]
noncomputable def R18_3 : Array Oper := opsAt Try.f18 [1, 1, 0, 1, 0, 0]
noncomputable def R18_4 : Array Oper := opsAt Try.f18 [1, 1, 1, 0, 0]
noncomputable def R18_5 : Array Oper := opsAt Try.f18 [1, 1, 1, 0, 1, 0, 0, 0, 0]
noncomputable def R18_7 : Array Oper := opsAt Try.f18 [1, 1, 1, 0, 1, 0, 0, 1, 0, 0, 0]
noncomputable def R18_8 : Array Oper := opsAt Try.f18 [1, 1, 1, 0, 1, 0, 0, 1, 0, 0, 1, 0, 0]
noncomputable def R18_9 : Array Oper := opsAt Try.f18 [1, 1, 1, 0, 1, 0, 0, 1, 0, 0, 1, 0, 1, 0, 0]
noncomputable def R18_10 : Array Oper := opsAt Try.f18 [1, 1, 1, 0, 1, 0, 0, 1, 0, 0, 1, 1]
noncomputable def R18_6 : Array Oper := opsAt Try.f18 [1, 1, 1, 0, 1, 0, 0, 1, 1]
noncomputable def L18_0 : Code := .seq (.seq (.region 5 R18_5 false) (.cond (.tmp 12) .skip (.exit 0))) (.seq (.block 1 (.seq (.region 7 R18_7 false) (.seq (.seq (.region 8 R18_8 false) (.cond (.tmp 26) (.seq (.region 9 R18_9 false) .ret) .skip)) (.region 10 R18_10 false)))) (.region 6 R18_6 false))
theorem lpL18_0 : loops L18_0 = 0 := rfl
noncomputable def R18_11 : Array Oper := opsAt Try.f18 [1, 1, 1, 1, 0]
noncomputable def M18_0 : Code := .seq (.region 11 R18_11 false) .ret
theorem lpM18_0 : loops M18_0 = 0 := rfl
theorem code18 : Try.f18.body = some (.seq (.region 0 R18_0 false) (.seq (.region 1 R18_1 false) (.seq (.seq (.region 2 R18_2 false) (.cond (.tmp 8) (.seq (.region 3 R18_3 false) .ret) .skip)) (.seq (.seq (.region 4 R18_4 false) (.block 0 (.loop L18_0))) M18_0)))) := by kernel_rfl
noncomputable def R19_0 : Array Oper := opsAt Try.f19 [0]
noncomputable def R19_1 : Array Oper := opsAt Try.f19 [1, 0, 0]
noncomputable def R19_2 : Array Oper := opsAt Try.f19 [1, 0, 1, 0, 0, 0, 0]
noncomputable def R19_4 : Array Oper := opsAt Try.f19 [1, 0, 1, 0, 0, 1, 0, 0, 0]
noncomputable def R19_5 : Array Oper := opsAt Try.f19 [1, 0, 1, 0, 0, 1, 0, 0, 1, 0, 0]
noncomputable def R19_3 : Array Oper := opsAt Try.f19 [1, 0, 1, 0, 0, 1, 1]
noncomputable def L19_0 : Code := .seq (.seq (.region 2 R19_2 false) (.cond (.tmp 7) .skip (.exit 0))) (.seq (.block 1 (.seq (.region 4 R19_4 true) (.cond (.tmp 18) (.seq (.region 5 R19_5 false) .ret) .skip))) (.region 3 R19_3 false))
theorem lpL19_0 : loops L19_0 = 0 := rfl
noncomputable def R19_6 : Array Oper := opsAt Try.f19 [1, 1, 0]
noncomputable def M19_0 : Code := .seq (.region 6 R19_6 false) .ret
theorem lpM19_0 : loops M19_0 = 0 := rfl
theorem code19 : Try.f19.body = some (.seq (.region 0 R19_0 false) (.seq (.seq (.region 1 R19_1 false) (.block 0 (.loop L19_0))) M19_0)) := by kernel_rfl
noncomputable def R20_0 : Array Oper := opsAt Try.f20 [0]
noncomputable def R20_1 : Array Oper := opsAt Try.f20 [1, 0]
noncomputable def R20_2 : Array Oper := opsAt Try.f20 [1, 1, 0, 0]
noncomputable def R20_3 : Array Oper := opsAt Try.f20 [1, 1, 0, 1, 0, 0]
noncomputable def R20_4 : Array Oper := opsAt Try.f20 [1, 1, 0, 1, 0, 1, 0, 0, 0]
noncomputable def R20_5 : Array Oper := opsAt Try.f20 [1, 1, 0, 1, 0, 1, 0, 0, 1, 0, 0]
noncomputable def R20_6 : Array Oper := opsAt Try.f20 [1, 1, 0, 1, 0, 1, 0, 1, 0]
noncomputable def R20_7 : Array Oper := opsAt Try.f20 [1, 1, 0, 1, 0, 1, 1, 0]
noncomputable def R20_8 : Array Oper := opsAt Try.f20 [1, 1, 0, 1, 0, 1, 1, 1, 0, 0]
noncomputable def R20_9 : Array Oper := opsAt Try.f20 [1, 1, 0, 1, 0, 1, 1, 1, 1, 0]
noncomputable def R20_10 : Array Oper := opsAt Try.f20 [1, 1, 0, 1, 0, 1, 1, 1, 1, 1, 0, 0]
noncomputable def R20_11 : Array Oper := opsAt Try.f20 [1, 1, 0, 1, 0, 1, 1, 1, 1, 1, 0, 1, 0, 0]
noncomputable def R20_12 : Array Oper := opsAt Try.f20 [1, 1, 0, 1, 0, 1, 1, 1, 1, 1, 0, 1, 0, 1, 0, 0]
noncomputable def R20_13 : Array Oper := opsAt Try.f20 [1, 1, 0, 1, 0, 1, 1, 1, 1, 1, 0, 1, 1, 0]
noncomputable def R20_14 : Array Oper := opsAt Try.f20 [1, 1, 1, 0]
noncomputable def R20_15 : Array Oper := opsAt Try.f20 [1, 1, 1, 1, 0]
noncomputable def R20_16 : Array Oper := opsAt Try.f20 [1, 1, 1, 1, 1, 0, 0]
noncomputable def R20_17 : Array Oper := opsAt Try.f20 [1, 1, 1, 1, 1, 0, 1, 0, 0]
noncomputable def R20_18 : Array Oper := opsAt Try.f20 [1, 1, 1, 1, 1, 1, 0]
theorem code20 : Try.f20.body = some (.seq (.region 0 R20_0 false) (.seq (.region 1 R20_1 false) (.seq (.seq (.region 2 R20_2 false) (.block 0 (.seq (.region 3 R20_3 false) (.cond (.tmp 21) (.seq (.seq (.region 4 R20_4 false) (.cond (.tmp 27) (.seq (.region 5 R20_5 false) .ret) .skip)) (.seq (.region 6 R20_6 false) .ret)) (.seq (.region 7 R20_7 false) (.cond (.tmp 35) (.seq (.region 8 R20_8 true) .ret) (.seq (.region 9 R20_9 false) (.cond (.tmp 48) (.seq (.region 10 R20_10 false) (.seq (.seq (.region 11 R20_11 false) (.cond (.tmp 59) (.seq (.region 12 R20_12 false) .ret) .skip)) (.seq (.region 13 R20_13 false) .ret))) .skip)))))))) (.seq (.region 14 R20_14 false) (.seq (.region 15 R20_15 false) (.seq (.seq (.region 16 R20_16 false) (.cond (.tmp 89) (.seq (.region 17 R20_17 false) .ret) .skip)) (.seq (.region 18 R20_18 false) .ret))))))) := by kernel_rfl
noncomputable def R21_0 : Array Oper := opsAt Try.f21 [0]
noncomputable def R21_1 : Array Oper := opsAt Try.f21 [1, 0]
noncomputable def R21_2 : Array Oper := opsAt Try.f21 [1, 1, 0]
noncomputable def R21_3 : Array Oper := opsAt Try.f21 [1, 1, 1, 0]
noncomputable def R21_4 : Array Oper := opsAt Try.f21 [1, 1, 1, 1, 0]
theorem code21 : Try.f21.body = some (.seq (.region 0 R21_0 false) (.seq (.region 1 R21_1 false) (.seq (.region 2 R21_2 false) (.seq (.region 3 R21_3 false) (.seq (.region 4 R21_4 false) .ret))))) := by kernel_rfl
noncomputable def R22_0 : Array Oper := opsAt Try.f22 [0]
noncomputable def R22_1 : Array Oper := opsAt Try.f22 [1, 0]
noncomputable def R22_2 : Array Oper := opsAt Try.f22 [1, 1, 0]
noncomputable def R22_3 : Array Oper := opsAt Try.f22 [1, 1, 1, 0]
noncomputable def R22_4 : Array Oper := opsAt Try.f22 [1, 1, 1, 1, 0]
noncomputable def R22_5 : Array Oper := opsAt Try.f22 [1, 1, 1, 1, 1, 0]
theorem code22 : Try.f22.body = some (.seq (.region 0 R22_0 false) (.seq (.region 1 R22_1 false) (.seq (.region 2 R22_2 false) (.seq (.region 3 R22_3 false) (.seq (.region 4 R22_4 false) (.seq (.region 5 R22_5 false) .ret)))))) := by kernel_rfl
noncomputable def R23_0 : Array Oper := opsAt Try.f23 [0]
noncomputable def R23_1 : Array Oper := opsAt Try.f23 [1, 0, 0]
noncomputable def R23_2 : Array Oper := opsAt Try.f23 [1, 0, 1, 0, 0]
noncomputable def R23_3 : Array Oper := opsAt Try.f23 [1, 1, 0]
noncomputable def R23_4 : Array Oper := opsAt Try.f23 [1, 1, 1, 0, 0]
noncomputable def R23_5 : Array Oper := opsAt Try.f23 [1, 1, 1, 0, 1, 0, 0, 0]
noncomputable def R23_6 : Array Oper := opsAt Try.f23 [1, 1, 1, 0, 1, 0, 0, 1, 1, 0, 0, 0]
noncomputable def R23_7 : Array Oper := opsAt Try.f23 [1, 1, 1, 0, 1, 0, 0, 1, 1, 0, 0, 1, 0]
noncomputable def R23_8 : Array Oper := opsAt Try.f23 [1, 1, 1, 0, 1, 0, 0, 1, 1, 0, 0, 1, 1, 0, 0]
noncomputable def R23_9 : Array Oper := opsAt Try.f23 [1, 1, 1, 0, 1, 0, 0, 1, 1, 0, 0, 1, 1, 0, 1, 0, 0]
noncomputable def R23_10 : Array Oper := opsAt Try.f23 [1, 1, 1, 0, 1, 0, 0, 1, 1, 0, 0, 1, 1, 1]
noncomputable def R23_11 : Array Oper := opsAt Try.f23 [1, 1, 1, 0, 1, 0, 0, 1, 1, 1]
noncomputable def L23_0 : Code := .seq (.region 5 R23_5 false) (.seq (.cond (.tmp 12) .skip (.exit 0)) (.seq (.block 1 (.seq (.region 6 R23_6 false) (.seq (.region 7 R23_7 false) (.seq (.seq (.region 8 R23_8 false) (.cond (.tmp 25) (.seq (.region 9 R23_9 false) .ret) .skip)) (.region 10 R23_10 false))))) (.region 11 R23_11 false)))
theorem lpL23_0 : loops L23_0 = 0 := rfl
noncomputable def R23_12 : Array Oper := opsAt Try.f23 [1, 1, 1, 1, 0]
noncomputable def M23_0 : Code := .seq (.region 12 R23_12 false) .ret
theorem lpM23_0 : loops M23_0 = 0 := rfl
theorem code23 : Try.f23.body = some (.seq (.region 0 R23_0 false) (.seq (.seq (.region 1 R23_1 false) (.cond (.tmp 8) (.seq (.region 2 R23_2 false) .ret) .skip)) (.seq (.region 3 R23_3 false) (.seq (.seq (.region 4 R23_4 false) (.block 0 (.loop L23_0))) M23_0)))) := by kernel_rfl
noncomputable def R24_0 : Array Oper := opsAt Try.f24 [0]
noncomputable def R24_1 : Array Oper := opsAt Try.f24 [1, 0]
theorem code24 : Try.f24.body = some (.seq (.region 0 R24_0 false) (.seq (.region 1 R24_1 false) .ret)) := by kernel_rfl
noncomputable def R25_0 : Array Oper := opsAt Try.f25 [0]
noncomputable def R25_1 : Array Oper := opsAt Try.f25 [1, 0, 0]
noncomputable def R25_2 : Array Oper := opsAt Try.f25 [1, 0, 1, 0, 0, 0]
noncomputable def R25_3 : Array Oper := opsAt Try.f25 [1, 0, 1, 0, 0, 1, 1, 0, 0, 0]
noncomputable def R25_4 : Array Oper := opsAt Try.f25 [1, 0, 1, 0, 0, 1, 1, 0, 0, 1, 0]
noncomputable def R25_5 : Array Oper := opsAt Try.f25 [1, 0, 1, 0, 0, 1, 1, 0, 0, 1, 1, 0, 0]
noncomputable def R25_6 : Array Oper := opsAt Try.f25 [1, 0, 1, 0, 0, 1, 1, 1]
noncomputable def L25_0 : Code := .seq (.region 2 R25_2 false) (.seq (.cond (.tmp 8) .skip (.exit 0)) (.seq (.block 1 (.seq (.region 3 R25_3 false) (.seq (.region 4 R25_4 true) (.cond (.tmp 21) (.seq (.region 5 R25_5 false) .ret) .skip)))) (.region 6 R25_6 false)))
theorem lpL25_0 : loops L25_0 = 0 := rfl
noncomputable def R25_7 : Array Oper := opsAt Try.f25 [1, 1, 0]
noncomputable def M25_0 : Code := .seq (.region 7 R25_7 false) .ret
theorem lpM25_0 : loops M25_0 = 0 := rfl
theorem code25 : Try.f25.body = some (.seq (.region 0 R25_0 false) (.seq (.seq (.region 1 R25_1 false) (.block 0 (.loop L25_0))) M25_0)) := by kernel_rfl
noncomputable def R26_0 : Array Oper := opsAt Try.f26 [0]
noncomputable def R26_1 : Array Oper := opsAt Try.f26 [1, 0]
noncomputable def R26_2 : Array Oper := opsAt Try.f26 [1, 1, 0, 0]
noncomputable def R26_3 : Array Oper := opsAt Try.f26 [1, 1, 0, 1, 0, 0]
noncomputable def R26_4 : Array Oper := opsAt Try.f26 [1, 1, 0, 1, 0, 1, 0, 0, 0]
noncomputable def R26_5 : Array Oper := opsAt Try.f26 [1, 1, 0, 1, 0, 1, 0, 0, 1, 0, 0]
noncomputable def R26_6 : Array Oper := opsAt Try.f26 [1, 1, 0, 1, 0, 1, 0, 1, 0]
noncomputable def R26_7 : Array Oper := opsAt Try.f26 [1, 1, 0, 1, 0, 1, 1, 0]
noncomputable def R26_8 : Array Oper := opsAt Try.f26 [1, 1, 0, 1, 0, 1, 1, 1, 0, 0]
noncomputable def R26_9 : Array Oper := opsAt Try.f26 [1, 1, 0, 1, 0, 1, 1, 1, 1, 0]
noncomputable def R26_10 : Array Oper := opsAt Try.f26 [1, 1, 0, 1, 0, 1, 1, 1, 1, 1, 0, 0]
noncomputable def R26_11 : Array Oper := opsAt Try.f26 [1, 1, 1, 0]
noncomputable def R26_12 : Array Oper := opsAt Try.f26 [1, 1, 1, 1, 0]
theorem code26 : Try.f26.body = some (.seq (.region 0 R26_0 false) (.seq (.region 1 R26_1 false) (.seq (.seq (.region 2 R26_2 false) (.block 0 (.seq (.region 3 R26_3 false) (.cond (.tmp 14) (.seq (.seq (.region 4 R26_4 false) (.cond (.tmp 20) (.seq (.region 5 R26_5 false) .ret) .skip)) (.seq (.region 6 R26_6 false) .ret)) (.seq (.region 7 R26_7 false) (.cond (.tmp 28) (.seq (.region 8 R26_8 true) .ret) (.seq (.region 9 R26_9 false) (.cond (.tmp 41) (.seq (.region 10 R26_10 true) .ret) .skip)))))))) (.seq (.region 11 R26_11 false) (.seq (.region 12 R26_12 true) .ret))))) := by kernel_rfl
noncomputable def R27_0 : Array Oper := opsAt Try.f27 [0]
noncomputable def R27_1 : Array Oper := opsAt Try.f27 [1, 0, 0, 0]
noncomputable def R27_2 : Array Oper := opsAt Try.f27 [1, 0, 0, 1, 0, 0]
noncomputable def R27_3 : Array Oper := opsAt Try.f27 [1, 0, 0, 1, 1, 0]
noncomputable def R27_4 : Array Oper := opsAt Try.f27 [1, 0, 0, 1, 1, 1, 0, 0]
noncomputable def R27_5 : Array Oper := opsAt Try.f27 [1, 1, 0]
theorem code27 : Try.f27.body = some (.seq (.region 0 R27_0 false) (.seq (.block 0 (.seq (.region 1 R27_1 false) (.cond (.tmp 3) (.seq (.region 2 R27_2 false) .ret) (.seq (.region 3 R27_3 false) (.cond (.tmp 7) (.seq (.region 4 R27_4 false) .ret) .skip))))) (.seq (.region 5 R27_5 false) .ret))) := by kernel_rfl
noncomputable def R28_0 : Array Oper := opsAt Try.f28 [0]
noncomputable def R28_1 : Array Oper := opsAt Try.f28 [1, 0, 0]
noncomputable def R28_2 : Array Oper := opsAt Try.f28 [1, 0, 1, 0, 0]
noncomputable def R28_3 : Array Oper := opsAt Try.f28 [1, 1, 0, 0]
noncomputable def R28_4 : Array Oper := opsAt Try.f28 [1, 1, 0, 1, 0, 0, 0, 0]
noncomputable def R28_6 : Array Oper := opsAt Try.f28 [1, 1, 0, 1, 0, 0, 1, 0, 0, 0]
noncomputable def R28_7 : Array Oper := opsAt Try.f28 [1, 1, 0, 1, 0, 0, 1, 0, 0, 1, 0, 0]
noncomputable def R28_5 : Array Oper := opsAt Try.f28 [1, 1, 0, 1, 0, 0, 1, 1]
noncomputable def L28_0 : Code := .seq (.seq (.region 4 R28_4 false) (.cond (.tmp 14) .skip (.exit 0))) (.seq (.block 1 (.seq (.region 6 R28_6 true) (.cond (.tmp 25) (.seq (.region 7 R28_7 false) .ret) .skip))) (.region 5 R28_5 false))
theorem lpL28_0 : loops L28_0 = 0 := rfl
noncomputable def R28_8 : Array Oper := opsAt Try.f28 [1, 1, 1, 0]
noncomputable def M28_0 : Code := .seq (.region 8 R28_8 false) .ret
theorem lpM28_0 : loops M28_0 = 0 := rfl
theorem code28 : Try.f28.body = some (.seq (.region 0 R28_0 false) (.seq (.seq (.region 1 R28_1 false) (.cond (.tmp 10) (.seq (.region 2 R28_2 false) .ret) .skip)) (.seq (.seq (.region 3 R28_3 false) (.block 0 (.loop L28_0))) M28_0))) := by kernel_rfl
noncomputable def R29_0 : Array Oper := opsAt Try.f29 [0]
noncomputable def R29_1 : Array Oper := opsAt Try.f29 [1, 0, 0]
noncomputable def R29_2 : Array Oper := opsAt Try.f29 [1, 0, 1, 0, 0]
noncomputable def R29_3 : Array Oper := opsAt Try.f29 [1, 1, 0, 0]
noncomputable def R29_4 : Array Oper := opsAt Try.f29 [1, 1, 0, 1, 0, 0]
noncomputable def R29_5 : Array Oper := opsAt Try.f29 [1, 1, 1, 0]
theorem code29 : Try.f29.body = some (.seq (.region 0 R29_0 false) (.seq (.seq (.region 1 R29_1 false) (.cond (.tmp 9) (.seq (.region 2 R29_2 false) .ret) .skip)) (.seq (.seq (.region 3 R29_3 false) (.cond (.tmp 14) (.seq (.region 4 R29_4 false) .ret) .skip)) (.seq (.region 5 R29_5 false) .ret)))) := by kernel_rfl
noncomputable def R30_0 : Array Oper := opsAt Try.f30 [0]
noncomputable def R30_1 : Array Oper := opsAt Try.f30 [1, 0, 0]
noncomputable def R30_2 : Array Oper := opsAt Try.f30 [1, 0, 1, 0, 0, 0, 0]
noncomputable def R30_4 : Array Oper := opsAt Try.f30 [1, 0, 1, 0, 0, 1, 0, 0, 0]
noncomputable def R30_5 : Array Oper := opsAt Try.f30 [1, 0, 1, 0, 0, 1, 0, 0, 1]
noncomputable def R30_3 : Array Oper := opsAt Try.f30 [1, 0, 1, 0, 0, 1, 1]
noncomputable def L30_0 : Code := .seq (.seq (.region 2 R30_2 false) (.cond (.tmp 9) .skip (.exit 0))) (.seq (.block 1 (.seq (.region 4 R30_4 false) (.region 5 R30_5 false))) (.region 3 R30_3 false))
theorem lpL30_0 : loops L30_0 = 0 := rfl
noncomputable def R30_6 : Array Oper := opsAt Try.f30 [1, 1, 0]
noncomputable def M30_0 : Code := .seq (.region 6 R30_6 false) .ret
theorem lpM30_0 : loops M30_0 = 0 := rfl
theorem code30 : Try.f30.body = some (.seq (.region 0 R30_0 false) (.seq (.seq (.region 1 R30_1 false) (.block 0 (.loop L30_0))) M30_0)) := by kernel_rfl
noncomputable def R31_0 : Array Oper := opsAt Try.f31 [0]
noncomputable def R31_1 : Array Oper := opsAt Try.f31 [1, 0, 0]
noncomputable def R31_2 : Array Oper := opsAt Try.f31 [1, 0, 1, 0, 0, 0, 0]
noncomputable def R31_4 : Array Oper := opsAt Try.f31 [1, 0, 1, 0, 0, 1, 0, 0, 0, 0]
noncomputable def R31_5 : Array Oper := opsAt Try.f31 [1, 0, 1, 0, 0, 1, 0, 0, 0, 1, 0, 0]
noncomputable def R31_6 : Array Oper := opsAt Try.f31 [1, 0, 1, 0, 0, 1, 0, 0, 1]
noncomputable def R31_3 : Array Oper := opsAt Try.f31 [1, 0, 1, 0, 0, 1, 1]
noncomputable def L31_0 : Code := .seq (.seq (.region 2 R31_2 false) (.cond (.tmp 9) .skip (.exit 0))) (.seq (.block 1 (.seq (.seq (.region 4 R31_4 false) (.cond (.tmp 17) (.seq (.region 5 R31_5 false) .ret) .skip)) (.region 6 R31_6 false))) (.region 3 R31_3 false))
theorem lpL31_0 : loops L31_0 = 0 := rfl
noncomputable def R31_7 : Array Oper := opsAt Try.f31 [1, 1, 0]
noncomputable def M31_0 : Code := .seq (.region 7 R31_7 false) .ret
theorem lpM31_0 : loops M31_0 = 0 := rfl
theorem code31 : Try.f31.body = some (.seq (.region 0 R31_0 false) (.seq (.seq (.region 1 R31_1 false) (.block 0 (.loop L31_0))) M31_0)) := by kernel_rfl
noncomputable def R32_0 : Array Oper := opsAt Try.f32 [0]
noncomputable def R32_1 : Array Oper := opsAt Try.f32 [1, 0]
noncomputable def R32_2 : Array Oper := opsAt Try.f32 [1, 1, 0, 0]
noncomputable def R32_3 : Array Oper := opsAt Try.f32 [1, 1, 0, 1, 0, 0]
noncomputable def R32_4 : Array Oper := opsAt Try.f32 [1, 1, 1, 0]
theorem code32 : Try.f32.body = some (.seq (.region 0 R32_0 false) (.seq (.region 1 R32_1 false) (.seq (.seq (.region 2 R32_2 false) (.cond (.tmp 10) (.seq (.region 3 R32_3 false) .ret) .skip)) (.seq (.region 4 R32_4 false) .ret)))) := by kernel_rfl
noncomputable def R33_0 : Array Oper := opsAt Try.f33 [0]
noncomputable def R33_1 : Array Oper := opsAt Try.f33 [1, 0, 0, 0, 0]
noncomputable def R33_2 : Array Oper := opsAt Try.f33 [1, 0, 0, 0, 1, 1]
noncomputable def R33_3 : Array Oper := opsAt Try.f33 [1, 0, 0, 1, 0, 0]
noncomputable def R33_4 : Array Oper := opsAt Try.f33 [1, 0, 0, 1, 1, 0]
noncomputable def R33_5 : Array Oper := opsAt Try.f33 [1, 0, 0, 1, 1, 1, 0, 0]
noncomputable def R33_6 : Array Oper := opsAt Try.f33 [1, 0, 0, 1, 1, 1, 1, 0]
noncomputable def R33_7 : Array Oper := opsAt Try.f33 [1, 0, 0, 1, 1, 1, 1, 1, 0, 0]
noncomputable def R33_8 : Array Oper := opsAt Try.f33 [1, 1, 0]
theorem code33 : Try.f33.body = some (.seq (.region 0 R33_0 false) (.seq (.block 0 (.seq (.seq (.region 1 R33_1 false) (.cond (.tmp 3) .skip (.region 2 R33_2 false))) (.cond (.tmp 3) (.seq (.region 3 R33_3 false) .ret) (.seq (.region 4 R33_4 false) (.cond (.tmp 20) (.seq (.region 5 R33_5 false) .ret) (.seq (.region 6 R33_6 false) (.cond (.tmp 29) (.seq (.region 7 R33_7 false) .ret) .skip))))))) (.seq (.region 8 R33_8 false) .ret))) := by kernel_rfl
noncomputable def R34_0 : Array Oper := opsAt Try.f34 [0]
noncomputable def R34_1 : Array Oper := opsAt Try.f34 [1, 0]
theorem code34 : Try.f34.body = some (.seq (.region 0 R34_0 false) (.seq (.region 1 R34_1 false) .ret)) := by kernel_rfl
noncomputable def R35_0 : Array Oper := opsAt Try.f35 [0]
noncomputable def R35_1 : Array Oper := opsAt Try.f35 [1, 0]
theorem code35 : Try.f35.body = some (.seq (.region 0 R35_0 false) (.seq (.region 1 R35_1 false) .ret)) := by kernel_rfl
noncomputable def R36_0 : Array Oper := opsAt Try.f36 [0]
noncomputable def R36_1 : Array Oper := opsAt Try.f36 [1, 0]
theorem code36 : Try.f36.body = some (.seq (.region 0 R36_0 false) (.seq (.region 1 R36_1 true) .ret)) := by kernel_rfl
noncomputable def R37_0 : Array Oper := opsAt Try.f37 [0]
noncomputable def R37_1 : Array Oper := opsAt Try.f37 [1, 0]
noncomputable def R37_2 : Array Oper := opsAt Try.f37 [1, 1, 0, 0]
noncomputable def R37_3 : Array Oper := opsAt Try.f37 [1, 1, 0, 1, 0, 0, 0, 0]
noncomputable def R37_5 : Array Oper := opsAt Try.f37 [1, 1, 0, 1, 0, 0, 1, 0, 0]
noncomputable def R37_4 : Array Oper := opsAt Try.f37 [1, 1, 0, 1, 0, 0, 1, 1]
noncomputable def L37_0 : Code := .seq (.seq (.region 3 R37_3 false) (.cond (.tmp 16) .skip (.exit 0))) (.seq (.block 1 (.region 5 R37_5 false)) (.region 4 R37_4 false))
theorem lpL37_0 : loops L37_0 = 0 := rfl
noncomputable def R37_6 : Array Oper := opsAt Try.f37 [1, 1, 1, 0]
noncomputable def M37_0 : Code := .seq (.region 6 R37_6 false) .ret
theorem lpM37_0 : loops M37_0 = 0 := rfl
theorem code37 : Try.f37.body = some (.seq (.region 0 R37_0 false) (.seq (.region 1 R37_1 false) (.seq (.seq (.region 2 R37_2 false) (.block 0 (.loop L37_0))) M37_0))) := by kernel_rfl
noncomputable def R38_0 : Array Oper := opsAt Try.f38 [0]
noncomputable def R38_1 : Array Oper := opsAt Try.f38 [1, 0]
noncomputable def R38_2 : Array Oper := opsAt Try.f38 [1, 1, 0, 0]
noncomputable def R38_3 : Array Oper := opsAt Try.f38 [1, 1, 0, 1, 0, 0, 0, 0]
noncomputable def R38_6 : Array Oper := opsAt Try.f38 [1, 1, 0, 1, 0, 0, 1, 0, 0, 0, 0]
noncomputable def R38_7 : Array Oper := opsAt Try.f38 [1, 1, 0, 1, 0, 0, 1, 0, 0, 0, 1, 1, 0]
noncomputable def R38_8 : Array Oper := opsAt Try.f38 [1, 1, 0, 1, 0, 0, 1, 0, 0, 0, 1, 1, 1, 0]
noncomputable def R38_5 : Array Oper := opsAt Try.f38 [1, 1, 0, 1, 0, 0, 1, 0, 0, 0, 1, 1, 1, 1]
noncomputable def R38_4 : Array Oper := opsAt Try.f38 [1, 1, 0, 1, 0, 0, 1, 1]
noncomputable def L38_0 : Code := .seq (.seq (.region 3 R38_3 false) (.cond (.tmp 13) .skip (.exit 0))) (.seq (.block 1 (.block 2 (.seq (.region 6 R38_6 false) (.cond (.tmp 20) .skip (.seq (.region 7 R38_7 false) (.cond (.tmp 27) (.region 8 R38_8 false) (.region 5 R38_5 false))))))) (.region 4 R38_4 false))
theorem lpL38_0 : loops L38_0 = 0 := rfl
noncomputable def R38_9 : Array Oper := opsAt Try.f38 [1, 1, 1, 0]
noncomputable def M38_0 : Code := .seq (.region 9 R38_9 false) .ret
theorem lpM38_0 : loops M38_0 = 0 := rfl
theorem code38 : Try.f38.body = some (.seq (.region 0 R38_0 false) (.seq (.region 1 R38_1 false) (.seq (.seq (.region 2 R38_2 false) (.block 0 (.loop L38_0))) M38_0))) := by kernel_rfl
noncomputable def R39_0 : Array Oper := opsAt Try.f39 [0]
noncomputable def R39_1 : Array Oper := opsAt Try.f39 [1, 0, 0]
noncomputable def R39_2 : Array Oper := opsAt Try.f39 [1, 0, 1, 0, 0]
noncomputable def R39_3 : Array Oper := opsAt Try.f39 [1, 0, 1, 0, 1, 0, 0]
noncomputable def R39_4 : Array Oper := opsAt Try.f39 [1, 0, 1, 0, 1, 1, 0]
noncomputable def R39_5 : Array Oper := opsAt Try.f39 [1, 0, 1, 0, 1, 1, 1, 0, 0]
noncomputable def R39_6 : Array Oper := opsAt Try.f39 [1, 1, 0]
theorem code39 : Try.f39.body = some (.seq (.region 0 R39_0 false) (.seq (.seq (.region 1 R39_1 false) (.block 0 (.seq (.region 2 R39_2 false) (.cond (.tmp 10) (.seq (.region 3 R39_3 false) .ret) (.seq (.region 4 R39_4 false) (.cond (.tmp 13) (.seq (.region 5 R39_5 false) .ret) .skip)))))) (.seq (.region 6 R39_6 false) .ret))) := by kernel_rfl
noncomputable def R40_0 : Array Oper := opsAt Try.f40 [0]
noncomputable def R40_1 : Array Oper := opsAt Try.f40 [1, 0]
noncomputable def R40_2 : Array Oper := opsAt Try.f40 [1, 1, 0]
noncomputable def R40_3 : Array Oper := opsAt Try.f40 [1, 1, 1, 0, 0]
noncomputable def R40_4 : Array Oper := opsAt Try.f40 [1, 1, 1, 0, 1, 0, 0, 0, 0]
noncomputable def R40_6 : Array Oper := opsAt Try.f40 [1, 1, 1, 0, 1, 0, 0, 1, 0, 0, 0, 0]
noncomputable def R40_7 : Array Oper := opsAt Try.f40 [1, 1, 1, 0, 1, 0, 0, 1, 0, 0, 0, 1, 0, 0]
noncomputable def R40_8 : Array Oper := opsAt Try.f40 [1, 1, 1, 0, 1, 0, 0, 1, 0, 0, 1, 0]
noncomputable def R40_9 : Array Oper := opsAt Try.f40 [1, 1, 1, 0, 1, 0, 0, 1, 0, 0, 1, 1]
noncomputable def R40_5 : Array Oper := opsAt Try.f40 [1, 1, 1, 0, 1, 0, 0, 1, 1]
noncomputable def L40_0 : Code := .seq (.seq (.region 4 R40_4 false) (.cond (.tmp 17) .skip (.exit 0))) (.seq (.block 1 (.seq (.seq (.region 6 R40_6 false) (.cond (.tmp 33) (.seq (.region 7 R40_7 false) (.exit 1)) .skip)) (.seq (.region 8 R40_8 true) (.region 9 R40_9 false)))) (.region 5 R40_5 false))
theorem lpL40_0 : loops L40_0 = 0 := rfl
noncomputable def R40_10 : Array Oper := opsAt Try.f40 [1, 1, 1, 1, 0]
noncomputable def M40_0 : Code := .seq (.region 10 R40_10 false) .ret
theorem lpM40_0 : loops M40_0 = 0 := rfl
theorem code40 : Try.f40.body = some (.seq (.region 0 R40_0 false) (.seq (.region 1 R40_1 false) (.seq (.region 2 R40_2 false) (.seq (.seq (.region 3 R40_3 false) (.block 0 (.loop L40_0))) M40_0)))) := by kernel_rfl
noncomputable def R41_0 : Array Oper := opsAt Try.f41 [0]
noncomputable def R41_1 : Array Oper := opsAt Try.f41 [1, 0]
noncomputable def R41_2 : Array Oper := opsAt Try.f41 [1, 1, 0, 0]
noncomputable def R41_3 : Array Oper := opsAt Try.f41 [1, 1, 0, 1, 0, 0, 0, 0]
noncomputable def R41_5 : Array Oper := opsAt Try.f41 [1, 1, 0, 1, 0, 0, 1, 0, 0]
noncomputable def R41_4 : Array Oper := opsAt Try.f41 [1, 1, 0, 1, 0, 0, 1, 1]
noncomputable def L41_0 : Code := .seq (.seq (.region 3 R41_3 false) (.cond (.tmp 11) .skip (.exit 0))) (.seq (.block 1 (.region 5 R41_5 false)) (.region 4 R41_4 false))
theorem lpL41_0 : loops L41_0 = 0 := rfl
noncomputable def R41_6 : Array Oper := opsAt Try.f41 [1, 1, 1, 0]
noncomputable def M41_0 : Code := .seq (.region 6 R41_6 false) .ret
theorem lpM41_0 : loops M41_0 = 0 := rfl
theorem code41 : Try.f41.body = some (.seq (.region 0 R41_0 false) (.seq (.region 1 R41_1 false) (.seq (.seq (.region 2 R41_2 false) (.block 0 (.loop L41_0))) M41_0))) := by kernel_rfl
noncomputable def R42_0 : Array Oper := opsAt Try.f42 [0]
noncomputable def R42_1 : Array Oper := opsAt Try.f42 [1, 0, 0, 0]
noncomputable def R42_2 : Array Oper := opsAt Try.f42 [1, 0, 0, 1, 0, 0]
noncomputable def R42_3 : Array Oper := opsAt Try.f42 [1, 0, 0, 1, 1, 0]
noncomputable def R42_4 : Array Oper := opsAt Try.f42 [1, 0, 0, 1, 1, 1, 0, 0]
noncomputable def R42_5 : Array Oper := opsAt Try.f42 [1, 1, 0]
theorem code42 : Try.f42.body = some (.seq (.region 0 R42_0 false) (.seq (.block 0 (.seq (.region 1 R42_1 false) (.cond (.tmp 3) (.seq (.region 2 R42_2 false) .ret) (.seq (.region 3 R42_3 false) (.cond (.tmp 10) (.seq (.region 4 R42_4 false) .ret) .skip))))) (.seq (.region 5 R42_5 false) .ret))) := by kernel_rfl
noncomputable def R43_0 : Array Oper := opsAt Try.f43 [0]
noncomputable def R43_1 : Array Oper := opsAt Try.f43 [1, 0]
theorem code43 : Try.f43.body = some (.seq (.region 0 R43_0 false) (.seq (.region 1 R43_1 false) .ret)) := by kernel_rfl
noncomputable def R44_0 : Array Oper := opsAt Try.f44 [0]
noncomputable def R44_1 : Array Oper := opsAt Try.f44 [1, 0]
theorem code44 : Try.f44.body = some (.seq (.region 0 R44_0 false) (.seq (.region 1 R44_1 false) .ret)) := by kernel_rfl
noncomputable def R45_0 : Array Oper := opsAt Try.f45 [0]
noncomputable def R45_1 : Array Oper := opsAt Try.f45 [1, 0]
theorem code45 : Try.f45.body = some (.seq (.region 0 R45_0 false) (.seq (.region 1 R45_1 true) .ret)) := by kernel_rfl
noncomputable def R46_0 : Array Oper := opsAt Try.f46 [0]
noncomputable def R46_1 : Array Oper := opsAt Try.f46 [1, 0]
theorem code46 : Try.f46.body = some (.seq (.region 0 R46_0 false) (.seq (.region 1 R46_1 false) .ret)) := by kernel_rfl
noncomputable def R47_0 : Array Oper := opsAt Try.f47 [0]
noncomputable def R47_1 : Array Oper := opsAt Try.f47 [1, 0]
theorem code47 : Try.f47.body = some (.seq (.region 0 R47_0 false) (.seq (.region 1 R47_1 false) .ret)) := by kernel_rfl
noncomputable def R48_0 : Array Oper := opsAt Try.f48 [0]
noncomputable def R48_1 : Array Oper := opsAt Try.f48 [1, 0, 0]
noncomputable def R48_2 : Array Oper := opsAt Try.f48 [1, 0, 1, 0, 0]
noncomputable def R48_3 : Array Oper := opsAt Try.f48 [1, 1, 0]
theorem code48 : Try.f48.body = some (.seq (.region 0 R48_0 false) (.seq (.seq (.region 1 R48_1 false) (.cond (.tmp 10) (.seq (.region 2 R48_2 false) .ret) .skip)) (.seq (.region 3 R48_3 false) .ret))) := by kernel_rfl
noncomputable def R49_0 : Array Oper := opsAt Try.f49 [0]
noncomputable def R49_1 : Array Oper := opsAt Try.f49 [1, 0, 0]
noncomputable def R49_2 : Array Oper := opsAt Try.f49 [1, 0, 1, 0, 0]
noncomputable def R49_3 : Array Oper := opsAt Try.f49 [1, 1, 0, 0]
noncomputable def R49_4 : Array Oper := opsAt Try.f49 [1, 1, 0, 1, 0, 0, 0, 0]
noncomputable def R49_6 : Array Oper := opsAt Try.f49 [1, 1, 0, 1, 0, 0, 1, 0, 0, 0]
noncomputable def R49_7 : Array Oper := opsAt Try.f49 [1, 1, 0, 1, 0, 0, 1, 0, 0, 1, 0, 0]
noncomputable def R49_5 : Array Oper := opsAt Try.f49 [1, 1, 0, 1, 0, 0, 1, 1]
noncomputable def L49_0 : Code := .seq (.seq (.region 4 R49_4 false) (.cond (.tmp 25) .skip (.exit 0))) (.seq (.block 1 (.seq (.region 6 R49_6 false) (.cond (.tmp 34) (.seq (.region 7 R49_7 false) .ret) .skip))) (.region 5 R49_5 false))
theorem lpL49_0 : loops L49_0 = 0 := rfl
noncomputable def R49_8 : Array Oper := opsAt Try.f49 [1, 1, 1, 0]
noncomputable def M49_0 : Code := .seq (.region 8 R49_8 false) .ret
theorem lpM49_0 : loops M49_0 = 0 := rfl
theorem code49 : Try.f49.body = some (.seq (.region 0 R49_0 false) (.seq (.seq (.region 1 R49_1 false) (.cond (.tmp 20) (.seq (.region 2 R49_2 false) .ret) .skip)) (.seq (.seq (.region 3 R49_3 false) (.block 0 (.loop L49_0))) M49_0))) := by kernel_rfl
noncomputable def R50_0 : Array Oper := opsAt Try.f50 [0]
noncomputable def R50_1 : Array Oper := opsAt Try.f50 [1, 0]
theorem code50 : Try.f50.body = some (.seq (.region 0 R50_0 false) (.seq (.region 1 R50_1 false) .ret)) := by kernel_rfl
noncomputable def R51_0 : Array Oper := opsAt Try.f51 [0]
noncomputable def R51_1 : Array Oper := opsAt Try.f51 [1, 0, 0]
noncomputable def R51_2 : Array Oper := opsAt Try.f51 [1, 0, 1, 0, 0]
noncomputable def R51_3 : Array Oper := opsAt Try.f51 [1, 0, 1, 0, 1, 0, 0]
noncomputable def R51_4 : Array Oper := opsAt Try.f51 [1, 0, 1, 0, 1, 1, 0]
noncomputable def R51_5 : Array Oper := opsAt Try.f51 [1, 0, 1, 0, 1, 1, 1, 0, 0]
noncomputable def R51_6 : Array Oper := opsAt Try.f51 [1, 0, 1, 0, 1, 1, 1, 1, 0]
noncomputable def R51_7 : Array Oper := opsAt Try.f51 [1, 0, 1, 0, 1, 1, 1, 1, 1, 0, 0]
noncomputable def R51_8 : Array Oper := opsAt Try.f51 [1, 1, 0]
theorem code51 : Try.f51.body = some (.seq (.region 0 R51_0 false) (.seq (.seq (.region 1 R51_1 false) (.block 0 (.seq (.region 2 R51_2 false) (.cond (.tmp 8) (.seq (.region 3 R51_3 false) .ret) (.seq (.region 4 R51_4 false) (.cond (.tmp 13) (.seq (.region 5 R51_5 false) .ret) (.seq (.region 6 R51_6 false) (.cond (.tmp 18) (.seq (.region 7 R51_7 false) .ret) .skip)))))))) (.seq (.region 8 R51_8 false) .ret))) := by kernel_rfl
noncomputable def R52_0 : Array Oper := opsAt Try.f52 [0]
noncomputable def R52_1 : Array Oper := opsAt Try.f52 [1, 0, 0]
noncomputable def R52_2 : Array Oper := opsAt Try.f52 [1, 0, 1, 0, 0]
noncomputable def R52_3 : Array Oper := opsAt Try.f52 [1, 1, 0]
theorem code52 : Try.f52.body = some (.seq (.region 0 R52_0 false) (.seq (.seq (.region 1 R52_1 false) (.cond (.tmp 12) (.seq (.region 2 R52_2 false) .ret) .skip)) (.seq (.region 3 R52_3 false) .ret))) := by kernel_rfl
noncomputable def R53_0 : Array Oper := opsAt Try.f53 [0]
noncomputable def R53_1 : Array Oper := opsAt Try.f53 [1, 0]
theorem code53 : Try.f53.body = some (.seq (.region 0 R53_0 false) (.seq (.region 1 R53_1 false) .ret)) := by kernel_rfl
noncomputable def R54_0 : Array Oper := opsAt Try.f54 [0]
noncomputable def R54_1 : Array Oper := opsAt Try.f54 [1, 0]
theorem code54 : Try.f54.body = some (.seq (.region 0 R54_0 false) (.seq (.region 1 R54_1 false) .ret)) := by kernel_rfl
noncomputable def R55_0 : Array Oper := opsAt Try.f55 [0]
noncomputable def R55_1 : Array Oper := opsAt Try.f55 [1, 0]
theorem code55 : Try.f55.body = some (.seq (.region 0 R55_0 false) (.seq (.region 1 R55_1 false) .ret)) := by kernel_rfl
noncomputable def R56_0 : Array Oper := opsAt Try.f56 [0]
noncomputable def R56_1 : Array Oper := opsAt Try.f56 [1, 0, 0]
noncomputable def R56_2 : Array Oper := opsAt Try.f56 [1, 0, 1, 0, 0]
noncomputable def R56_3 : Array Oper := opsAt Try.f56 [1, 1, 0]
theorem code56 : Try.f56.body = some (.seq (.region 0 R56_0 false) (.seq (.seq (.region 1 R56_1 false) (.cond (.tmp 4) (.seq (.region 2 R56_2 false) .ret) .skip)) (.seq (.region 3 R56_3 false) .ret))) := by kernel_rfl
noncomputable def R57_0 : Array Oper := opsAt Try.f57 [0]
noncomputable def R57_1 : Array Oper := opsAt Try.f57 [1, 0, 0]
noncomputable def R57_2 : Array Oper := opsAt Try.f57 [1, 0, 1, 0]
noncomputable def R57_3 : Array Oper := opsAt Try.f57 [1, 1, 0]
noncomputable def R57_4 : Array Oper := opsAt Try.f57 [1, 1, 1, 0, 0]
noncomputable def R57_5 : Array Oper := opsAt Try.f57 [1, 1, 1, 0, 1, 0]
noncomputable def R57_6 : Array Oper := opsAt Try.f57 [1, 1, 1, 1, 0]
noncomputable def R57_7 : Array Oper := opsAt Try.f57 [1, 1, 1, 1, 1, 0]
noncomputable def R57_8 : Array Oper := opsAt Try.f57 [1, 1, 1, 1, 1, 1, 0, 0, 0, 0, 0]
noncomputable def R57_9 : Array Oper := opsAt Try.f57 [1, 1, 1, 1, 1, 1, 0, 0, 0, 1, 0]
noncomputable def L57_0 : Code := .seq (.seq (.region 8 R57_8 false) (.cond (.tmp 37) .skip (.exit 0))) (.block 1 (.region 9 R57_9 true))
theorem lpL57_0 : loops L57_0 = 0 := rfl
noncomputable def R57_10 : Array Oper := opsAt Try.f57 [1, 1, 1, 1, 1, 1, 1, 0]
noncomputable def M57_0 : Code := .seq (.region 10 R57_10 false) .ret
theorem lpM57_0 : loops M57_0 = 0 := rfl
theorem code57 : Try.f57.body = some (.seq (.region 0 R57_0 false) (.seq (.seq (.region 1 R57_1 false) (.cond (.tmp 10) (.region 2 R57_2 false) .skip)) (.seq (.region 3 R57_3 false) (.seq (.seq (.region 4 R57_4 false) (.cond (.tmp 26) (.region 5 R57_5 false) .skip)) (.seq (.region 6 R57_6 false) (.seq (.region 7 R57_7 false) (.seq (.block 0 (.loop L57_0)) M57_0))))))) := by kernel_rfl
noncomputable def R58_0 : Array Oper := opsAt Try.f58 [0]
noncomputable def R58_1 : Array Oper := opsAt Try.f58 [1, 0, 0]
noncomputable def R58_2 : Array Oper := opsAt Try.f58 [1, 0, 1, 0, 0]
noncomputable def R58_3 : Array Oper := opsAt Try.f58 [1, 1, 0]
noncomputable def R58_4 : Array Oper := opsAt Try.f58 [1, 1, 1, 0, 0]
noncomputable def R58_5 : Array Oper := opsAt Try.f58 [1, 1, 1, 0, 1, 0, 0, 0]
noncomputable def R58_6 : Array Oper := opsAt Try.f58 [1, 1, 1, 0, 1, 0, 0, 1, 1, 0, 0, 0]
noncomputable def R58_7 : Array Oper := opsAt Try.f58 [1, 1, 1, 0, 1, 0, 0, 1, 1, 0, 0, 1, 0]
noncomputable def R58_8 : Array Oper := opsAt Try.f58 [1, 1, 1, 0, 1, 0, 0, 1, 1, 0, 0, 1, 1, 0]
noncomputable def R58_9 : Array Oper := opsAt Try.f58 [1, 1, 1, 0, 1, 0, 0, 1, 1, 1]
noncomputable def L58_0 : Code := .seq (.region 5 R58_5 false) (.seq (.cond (.tmp 19) .skip (.exit 0)) (.seq (.block 1 (.seq (.region 6 R58_6 false) (.seq (.region 7 R58_7 false) (.cond (.tmp 24) (.region 8 R58_8 true) .skip)))) (.region 9 R58_9 false)))
theorem lpL58_0 : loops L58_0 = 0 := rfl
noncomputable def R58_10 : Array Oper := opsAt Try.f58 [1, 1, 1, 1, 0]
noncomputable def M58_0 : Code := .seq (.region 10 R58_10 false) .ret
theorem lpM58_0 : loops M58_0 = 0 := rfl
theorem code58 : Try.f58.body = some (.seq (.region 0 R58_0 false) (.seq (.seq (.region 1 R58_1 false) (.cond (.tmp 11) (.seq (.region 2 R58_2 false) .ret) .skip)) (.seq (.region 3 R58_3 false) (.seq (.seq (.region 4 R58_4 false) (.block 0 (.loop L58_0))) M58_0)))) := by kernel_rfl
noncomputable def R59_0 : Array Oper := opsAt Try.f59 [0]
noncomputable def R59_1 : Array Oper := opsAt Try.f59 [1, 0, 0]
noncomputable def R59_2 : Array Oper := opsAt Try.f59 [1, 0, 1, 0, 0]
noncomputable def R59_3 : Array Oper := opsAt Try.f59 [1, 1, 0]
theorem code59 : Try.f59.body = some (.seq (.region 0 R59_0 false) (.seq (.seq (.region 1 R59_1 false) (.cond (.tmp 6) (.seq (.region 2 R59_2 false) .ret) .skip)) (.seq (.region 3 R59_3 false) .ret))) := by kernel_rfl
noncomputable def R60_0 : Array Oper := opsAt Try.f60 [0]
noncomputable def R60_1 : Array Oper := opsAt Try.f60 [1, 0, 0]
noncomputable def R60_2 : Array Oper := opsAt Try.f60 [1, 0, 1, 0, 0]
noncomputable def R60_3 : Array Oper := opsAt Try.f60 [1, 1, 0]
noncomputable def R60_4 : Array Oper := opsAt Try.f60 [1, 1, 1, 0, 0]
noncomputable def R60_5 : Array Oper := opsAt Try.f60 [1, 1, 1, 0, 1, 0, 0, 0]
noncomputable def R60_6 : Array Oper := opsAt Try.f60 [1, 1, 1, 0, 1, 0, 0, 1, 1, 0, 0, 0]
noncomputable def R60_7 : Array Oper := opsAt Try.f60 [1, 1, 1, 0, 1, 0, 0, 1, 1, 0, 0, 1]
noncomputable def R60_8 : Array Oper := opsAt Try.f60 [1, 1, 1, 0, 1, 0, 0, 1, 1, 1]
noncomputable def L60_0 : Code := .seq (.region 5 R60_5 false) (.seq (.cond (.tmp 23) .skip (.exit 0)) (.seq (.block 1 (.seq (.region 6 R60_6 false) (.region 7 R60_7 true))) (.region 8 R60_8 false)))
theorem lpL60_0 : loops L60_0 = 0 := rfl
noncomputable def R60_9 : Array Oper := opsAt Try.f60 [1, 1, 1, 1, 0]
noncomputable def M60_0 : Code := .seq (.region 9 R60_9 false) .ret
theorem lpM60_0 : loops M60_0 = 0 := rfl
theorem code60 : Try.f60.body = some (.seq (.region 0 R60_0 false) (.seq (.seq (.region 1 R60_1 false) (.cond (.tmp 15) (.seq (.region 2 R60_2 false) .ret) .skip)) (.seq (.region 3 R60_3 false) (.seq (.seq (.region 4 R60_4 false) (.block 0 (.loop L60_0))) M60_0)))) := by kernel_rfl
noncomputable def R61_0 : Array Oper := opsAt Try.f61 [0]
noncomputable def R61_1 : Array Oper := opsAt Try.f61 [1, 0, 0, 0]
noncomputable def R61_2 : Array Oper := opsAt Try.f61 [1, 0, 0, 1, 0, 0]
noncomputable def R61_3 : Array Oper := opsAt Try.f61 [1, 0, 0, 1, 1, 0]
noncomputable def R61_4 : Array Oper := opsAt Try.f61 [1, 0, 0, 1, 1, 1, 0, 0]
noncomputable def R61_5 : Array Oper := opsAt Try.f61 [1, 0, 0, 1, 1, 1, 1, 0]
noncomputable def R61_6 : Array Oper := opsAt Try.f61 [1, 0, 0, 1, 1, 1, 1, 1, 0, 0]
noncomputable def R61_7 : Array Oper := opsAt Try.f61 [1, 0, 0, 1, 1, 1, 1, 1, 1, 0]
noncomputable def R61_8 : Array Oper := opsAt Try.f61 [1, 0, 0, 1, 1, 1, 1, 1, 1, 1, 0, 0]
noncomputable def R61_9 : Array Oper := opsAt Try.f61 [1, 1, 0]
theorem code61 : Try.f61.body = some (.seq (.region 0 R61_0 false) (.seq (.block 0 (.seq (.region 1 R61_1 false) (.cond (.tmp 6) (.seq (.region 2 R61_2 false) .ret) (.seq (.region 3 R61_3 false) (.cond (.tmp 13) (.seq (.region 4 R61_4 false) .ret) (.seq (.region 5 R61_5 false) (.cond (.tmp 20) (.seq (.region 6 R61_6 false) .ret) (.seq (.region 7 R61_7 false) (.cond (.tmp 27) (.seq (.region 8 R61_8 false) .ret) .skip))))))))) (.seq (.region 9 R61_9 false) .ret))) := by kernel_rfl
noncomputable def R62_0 : Array Oper := opsAt Try.f62 [0]
noncomputable def R62_1 : Array Oper := opsAt Try.f62 [1, 0, 0]
noncomputable def R62_2 : Array Oper := opsAt Try.f62 [1, 0, 1, 0, 0]
noncomputable def R62_3 : Array Oper := opsAt Try.f62 [1, 1, 0]
theorem code62 : Try.f62.body = some (.seq (.region 0 R62_0 false) (.seq (.seq (.region 1 R62_1 false) (.cond (.tmp 5) (.seq (.region 2 R62_2 false) .ret) .skip)) (.seq (.region 3 R62_3 false) .ret))) := by kernel_rfl
noncomputable def R63_0 : Array Oper := opsAt Try.f63 [0]
noncomputable def R63_1 : Array Oper := opsAt Try.f63 [1, 0]
theorem code63 : Try.f63.body = some (.seq (.region 0 R63_0 false) (.seq (.region 1 R63_1 false) .ret)) := by kernel_rfl
noncomputable def R64_0 : Array Oper := opsAt Try.f64 [0]
noncomputable def R64_1 : Array Oper := opsAt Try.f64 [1, 0]
theorem code64 : Try.f64.body = some (.seq (.region 0 R64_0 false) (.seq (.region 1 R64_1 false) .ret)) := by kernel_rfl
noncomputable def R65_0 : Array Oper := opsAt Try.f65 [0]
noncomputable def R65_1 : Array Oper := opsAt Try.f65 [1, 0, 0]
noncomputable def R65_2 : Array Oper := opsAt Try.f65 [1, 0, 1, 0, 0]
noncomputable def R65_3 : Array Oper := opsAt Try.f65 [1, 1, 0]
theorem code65 : Try.f65.body = some (.seq (.region 0 R65_0 false) (.seq (.seq (.region 1 R65_1 false) (.cond (.tmp 7) (.seq (.region 2 R65_2 false) .ret) .skip)) (.seq (.region 3 R65_3 false) .ret))) := by kernel_rfl
noncomputable def R66_0 : Array Oper := opsAt Try.f66 [0]
noncomputable def R66_1 : Array Oper := opsAt Try.f66 [1, 0, 0]
noncomputable def R66_2 : Array Oper := opsAt Try.f66 [1, 0, 1, 0, 0]
noncomputable def R66_3 : Array Oper := opsAt Try.f66 [1, 1, 0]
theorem code66 : Try.f66.body = some (.seq (.region 0 R66_0 false) (.seq (.seq (.region 1 R66_1 false) (.cond (.tmp 7) (.seq (.region 2 R66_2 false) .ret) .skip)) (.seq (.region 3 R66_3 false) .ret))) := by kernel_rfl
noncomputable def R67_0 : Array Oper := opsAt Try.f67 [0]
noncomputable def R67_1 : Array Oper := opsAt Try.f67 [1, 0, 0]
noncomputable def R67_2 : Array Oper := opsAt Try.f67 [1, 0, 1, 0, 0, 0]
noncomputable def R67_3 : Array Oper := opsAt Try.f67 [1, 0, 1, 0, 0, 1, 1, 0, 0, 0]
noncomputable def R67_4 : Array Oper := opsAt Try.f67 [1, 0, 1, 0, 0, 1, 1, 0, 0, 1, 0]
noncomputable def R67_5 : Array Oper := opsAt Try.f67 [1, 0, 1, 0, 0, 1, 1, 0, 0, 1, 1, 0, 0]
noncomputable def R67_6 : Array Oper := opsAt Try.f67 [1, 0, 1, 0, 0, 1, 1, 1]
noncomputable def L67_0 : Code := .seq (.region 2 R67_2 false) (.seq (.cond (.tmp 9) .skip (.exit 0)) (.seq (.block 1 (.seq (.region 3 R67_3 false) (.seq (.region 4 R67_4 false) (.cond (.tmp 16) (.seq (.region 5 R67_5 false) .ret) .skip)))) (.region 6 R67_6 false)))
theorem lpL67_0 : loops L67_0 = 0 := rfl
noncomputable def R67_7 : Array Oper := opsAt Try.f67 [1, 1, 0]
noncomputable def M67_0 : Code := .seq (.region 7 R67_7 false) .ret
theorem lpM67_0 : loops M67_0 = 0 := rfl
theorem code67 : Try.f67.body = some (.seq (.region 0 R67_0 false) (.seq (.seq (.region 1 R67_1 false) (.block 0 (.loop L67_0))) M67_0)) := by kernel_rfl
noncomputable def R68_0 : Array Oper := opsAt Try.f68 [0]
noncomputable def R68_1 : Array Oper := opsAt Try.f68 [1, 0, 0, 0]
noncomputable def R68_2 : Array Oper := opsAt Try.f68 [1, 0, 0, 1, 0]
noncomputable def R68_3 : Array Oper := opsAt Try.f68 [1, 1, 0]
noncomputable def R68_4 : Array Oper := opsAt Try.f68 [1, 1, 1, 0]
theorem code68 : Try.f68.body = some (.seq (.region 0 R68_0 false) (.seq (.cond (.const (.bool false)) (.seq (.region 1 R68_1 false) (.seq (.region 2 R68_2 false) .ret)) .skip) (.seq (.region 3 R68_3 false) (.seq (.region 4 R68_4 false) .ret)))) := by kernel_rfl
noncomputable def R69_0 : Array Oper := opsAt Try.f69 [0]
noncomputable def R69_1 : Array Oper := opsAt Try.f69 [1, 0, 0]
noncomputable def R69_2 : Array Oper := opsAt Try.f69 [1, 0, 1, 0, 0]
noncomputable def R69_3 : Array Oper := opsAt Try.f69 [1, 1, 0]
theorem code69 : Try.f69.body = some (.seq (.region 0 R69_0 false) (.seq (.seq (.region 1 R69_1 false) (.cond (.tmp 6) (.seq (.region 2 R69_2 false) .ret) .skip)) (.seq (.region 3 R69_3 false) .ret))) := by kernel_rfl
noncomputable def R70_0 : Array Oper := opsAt Try.f70 [0]
noncomputable def R70_1 : Array Oper := opsAt Try.f70 [1, 0]
noncomputable def R70_2 : Array Oper := opsAt Try.f70 [1, 1, 0]
theorem code70 : Try.f70.body = some (.seq (.region 0 R70_0 false) (.seq (.region 1 R70_1 false) (.seq (.region 2 R70_2 false) .ret))) := by kernel_rfl
noncomputable def R71_0 : Array Oper := opsAt Try.f71 [0]
noncomputable def R71_1 : Array Oper := opsAt Try.f71 [1, 0]
noncomputable def R71_2 : Array Oper := opsAt Try.f71 [1, 1, 0]
noncomputable def R71_3 : Array Oper := opsAt Try.f71 [1, 1, 1, 0]
noncomputable def R71_4 : Array Oper := opsAt Try.f71 [1, 1, 1, 1, 0]
noncomputable def R71_5 : Array Oper := opsAt Try.f71 [1, 1, 1, 1, 1, 0]
noncomputable def R71_6 : Array Oper := opsAt Try.f71 [1, 1, 1, 1, 1, 1, 0]
noncomputable def R71_7 : Array Oper := opsAt Try.f71 [1, 1, 1, 1, 1, 1, 1, 0]
noncomputable def R71_8 : Array Oper := opsAt Try.f71 [1, 1, 1, 1, 1, 1, 1, 1, 0]
noncomputable def R71_9 : Array Oper := opsAt Try.f71 [1, 1, 1, 1, 1, 1, 1, 1, 1, 0]
noncomputable def R71_10 : Array Oper := opsAt Try.f71 [1, 1, 1, 1, 1, 1, 1, 1, 1, 1, 0]
noncomputable def R71_11 : Array Oper := opsAt Try.f71 [1, 1, 1, 1, 1, 1, 1, 1, 1, 1, 1, 0]
theorem code71 : Try.f71.body = some (.seq (.region 0 R71_0 false) (.seq (.region 1 R71_1 false) (.seq (.region 2 R71_2 false) (.seq (.region 3 R71_3 false) (.seq (.region 4 R71_4 false) (.seq (.region 5 R71_5 false) (.seq (.region 6 R71_6 false) (.seq (.region 7 R71_7 false) (.seq (.region 8 R71_8 false) (.seq (.region 9 R71_9 false) (.seq (.region 10 R71_10 false) (.seq (.region 11 R71_11 false) .ret)))))))))))) := by kernel_rfl
theorem bld8_ok : BldOk Try.prog 8 (9, 0, 0) := ⟨ent Try.func8 rfl rfl, fun h => absurd h (by decide), fun h => absurd h (by decide), fun h => absurd h (by decide)⟩
theorem bld14_ok : BldOk Try.prog 14 (9, 0, 0) := ⟨ent Try.func14 rfl rfl, fun h => absurd h (by decide), fun h => absurd h (by decide), fun h => absurd h (by decide)⟩
def X : FuncId → Option (List V → Option (V × List Eng.Obj))
  | _ => none
noncomputable def C : Cfg := ⟨T, F, X, WR, OW, K, BL⟩
theorem cT : C.T = T := by unfold C; with_reducible rfl
theorem cF : C.fn = F := by unfold C; with_reducible rfl
theorem cX : C.ext = X := by unfold C; with_reducible rfl
theorem cWR : C.wr = WR := by unfold C; with_reducible rfl
theorem cOW : C.own = OW := by unfold C; with_reducible rfl
theorem cK : C.keep = K := by unfold C; with_reducible rfl
theorem cBL : C.bld = BL := by unfold C; with_reducible rfl
theorem cfgOk : CfgOk Try.prog C where
  mixed := by kernel_rfl
  tab := tabOk
  fn := fun f fn h => okF_2 f fn h
  ext := by
    intro f m h
    have h' : X f = some m := h
    unfold X at h'
    cases h'
  bld := by
    intro f k h
    have h' : BL f = some k := h
    unfold BL at h'
    split at h'
    · cases h'; exact bld8_ok
    · cases h'; exact bld14_ok
    · cases h'
end Go.Proofs.Ytfcnlfjenialdaa.Eng
