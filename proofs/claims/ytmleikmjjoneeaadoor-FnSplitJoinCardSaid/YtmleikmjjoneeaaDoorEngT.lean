/- The types, the functions and the loops' live slots that the laws reach, and that they are what the program has. No conditions. -/
import Derived.Test.YtmleikmjjoneeaaDoorEngTa
namespace Go.Proofs.YtmleikmjjoneeaaDoor.Eng
open Go Go.Proofs
set_option maxRecDepth 100000
noncomputable def R3_0 : Array Oper := opsAt Tryd.f3 [0]
noncomputable def R3_1 : Array Oper := opsAt Tryd.f3 [1, 0, 0]
noncomputable def R3_2 : Array Oper := opsAt Tryd.f3 [1, 0, 1, 0, 0]
noncomputable def R3_3 : Array Oper := opsAt Tryd.f3 [1, 1, 0, 0]
noncomputable def R3_4 : Array Oper := opsAt Tryd.f3 [1, 1, 0, 1, 0, 0]
noncomputable def R3_5 : Array Oper := opsAt Tryd.f3 [1, 1, 1, 0]
noncomputable def R3_6 : Array Oper := opsAt Tryd.f3 [1, 1, 1, 1, 0]
noncomputable def R3_7 : Array Oper := opsAt Tryd.f3 [1, 1, 1, 1, 1, 0, 0]
noncomputable def R3_8 : Array Oper := opsAt Tryd.f3 [1, 1, 1, 1, 1, 0, 1, 0, 0]
noncomputable def R3_9 : Array Oper := opsAt Tryd.f3 [1, 1, 1, 1, 1, 1, 0]
noncomputable def R3_10 : Array Oper := opsAt Tryd.f3 [1, 1, 1, 1, 1, 1, 1, 0]
noncomputable def R3_11 : Array Oper := opsAt Tryd.f3 [1, 1, 1, 1, 1, 1, 1, 1, 0]
noncomputable def R3_12 : Array Oper := opsAt Tryd.f3 [1, 1, 1, 1, 1, 1, 1, 1, 1, 0]
noncomputable def R3_13 : Array Oper := opsAt Tryd.f3 [1, 1, 1, 1, 1, 1, 1, 1, 1, 1, 0, 0]
noncomputable def R3_14 : Array Oper := opsAt Tryd.f3 [1, 1, 1, 1, 1, 1, 1, 1, 1, 1, 0, 1, 0, 0]
noncomputable def R3_15 : Array Oper := opsAt Tryd.f3 [1, 1, 1, 1, 1, 1, 1, 1, 1, 1, 1, 0, 0]
noncomputable def R3_16 : Array Oper := opsAt Tryd.f3 [1, 1, 1, 1, 1, 1, 1, 1, 1, 1, 1, 0, 1, 0, 0]
noncomputable def R3_17 : Array Oper := opsAt Tryd.f3 [1, 1, 1, 1, 1, 1, 1, 1, 1, 1, 1, 1, 0]
noncomputable def R3_18 : Array Oper := opsAt Tryd.f3 [1, 1, 1, 1, 1, 1, 1, 1, 1, 1, 1, 1, 1, 0, 0]
noncomputable def R3_19 : Array Oper := opsAt Tryd.f3 [1, 1, 1, 1, 1, 1, 1, 1, 1, 1, 1, 1, 1, 0, 1, 0, 0]
noncomputable def R3_20 : Array Oper := opsAt Tryd.f3 [1, 1, 1, 1, 1, 1, 1, 1, 1, 1, 1, 1, 1, 1, 0]
noncomputable def R3_21 : Array Oper := opsAt Tryd.f3 [1, 1, 1, 1, 1, 1, 1, 1, 1, 1, 1, 1, 1, 1, 1, 0]
noncomputable def R3_22 : Array Oper := opsAt Tryd.f3 [1, 1, 1, 1, 1, 1, 1, 1, 1, 1, 1, 1, 1, 1, 1, 1, 0, 0]
noncomputable def R3_23 : Array Oper := opsAt Tryd.f3 [1, 1, 1, 1, 1, 1, 1, 1, 1, 1, 1, 1, 1, 1, 1, 1, 0, 1, 0, 0]
noncomputable def R3_24 : Array Oper := opsAt Tryd.f3 [1, 1, 1, 1, 1, 1, 1, 1, 1, 1, 1, 1, 1, 1, 1, 1, 1, 0, 0]
noncomputable def R3_25 : Array Oper := opsAt Tryd.f3 [1, 1, 1, 1, 1, 1, 1, 1, 1, 1, 1, 1, 1, 1, 1, 1, 1, 0, 1, 0, 0]
noncomputable def R3_26 : Array Oper := opsAt Tryd.f3 [1, 1, 1, 1, 1, 1, 1, 1, 1, 1, 1, 1, 1, 1, 1, 1, 1, 1, 0]
theorem code3 : Tryd.f3.body = some (.seq (.region 0 R3_0 false) (.seq (.seq (.region 1 R3_1 false) (.cond (.tmp 15) (.seq (.region 2 R3_2 false) .ret) .skip)) (.seq (.seq (.region 3 R3_3 false) (.cond (.tmp 18) (.seq (.region 4 R3_4 false) .ret) .skip)) (.seq (.region 5 R3_5 false) (.seq (.region 6 R3_6 false) (.seq (.seq (.region 7 R3_7 false) (.cond (.tmp 39) (.seq (.region 8 R3_8 false) .ret) .skip)) (.seq (.region 9 R3_9 false) (.seq (.region 10 R3_10 false) (.seq (.region 11 R3_11 false) (.seq (.region 12 R3_12 false) (.seq (.seq (.region 13 R3_13 false) (.cond (.tmp 47) (.seq (.region 14 R3_14 false) .ret) .skip)) (.seq (.seq (.region 15 R3_15 false) (.cond (.tmp 50) (.seq (.region 16 R3_16 false) .ret) .skip)) (.seq (.region 17 R3_17 false) (.seq (.seq (.region 18 R3_18 false) (.cond (.tmp 65) (.seq (.region 19 R3_19 false) .ret) .skip)) (.seq (.region 20 R3_20 false) (.seq (.region 21 R3_21 false) (.seq (.seq (.region 22 R3_22 false) (.cond (.tmp 70) (.seq (.region 23 R3_23 false) .ret) .skip)) (.seq (.seq (.region 24 R3_24 false) (.cond (.tmp 73) (.seq (.region 25 R3_25 false) .ret) .skip)) (.seq (.region 26 R3_26 false) .ret))))))))))))))))))) := by kernel_rfl
noncomputable def R4_0 : Array Oper := opsAt Tryd.f4 [0]
noncomputable def R4_1 : Array Oper := opsAt Tryd.f4 [1, 0, 0]
noncomputable def R4_2 : Array Oper := opsAt Tryd.f4 [1, 0, 1, 0, 0]
noncomputable def R4_3 : Array Oper := opsAt Tryd.f4 [1, 1, 0]
noncomputable def R4_4 : Array Oper := opsAt Tryd.f4 [1, 1, 1, 0]
noncomputable def R4_5 : Array Oper := opsAt Tryd.f4 [1, 1, 1, 1, 0]
noncomputable def R4_6 : Array Oper := opsAt Tryd.f4 [1, 1, 1, 1, 1, 0]
noncomputable def R4_7 : Array Oper := opsAt Tryd.f4 [1, 1, 1, 1, 1, 1, 0]
noncomputable def R4_8 : Array Oper := opsAt Tryd.f4 [1, 1, 1, 1, 1, 1, 1, 0]
noncomputable def R4_9 : Array Oper := opsAt Tryd.f4 [1, 1, 1, 1, 1, 1, 1, 1, 0, 0]
noncomputable def R4_10 : Array Oper := opsAt Tryd.f4 [1, 1, 1, 1, 1, 1, 1, 1, 0, 1, 0, 0]
noncomputable def R4_11 : Array Oper := opsAt Tryd.f4 [1, 1, 1, 1, 1, 1, 1, 1, 1, 0, 0]
noncomputable def R4_12 : Array Oper := opsAt Tryd.f4 [1, 1, 1, 1, 1, 1, 1, 1, 1, 0, 1, 0, 0]
noncomputable def R4_13 : Array Oper := opsAt Tryd.f4 [1, 1, 1, 1, 1, 1, 1, 1, 1, 1, 0]
noncomputable def R4_14 : Array Oper := opsAt Tryd.f4 [1, 1, 1, 1, 1, 1, 1, 1, 1, 1, 1, 0]
theorem code4 : Tryd.f4.body = some (.seq (.region 0 R4_0 false) (.seq (.seq (.region 1 R4_1 false) (.cond (.tmp 18) (.seq (.region 2 R4_2 false) .ret) .skip)) (.seq (.region 3 R4_3 false) (.seq (.region 4 R4_4 false) (.seq (.region 5 R4_5 false) (.seq (.region 6 R4_6 false) (.seq (.region 7 R4_7 false) (.seq (.region 8 R4_8 false) (.seq (.seq (.region 9 R4_9 false) (.cond (.tmp 78) (.seq (.region 10 R4_10 false) .ret) .skip)) (.seq (.seq (.region 11 R4_11 false) (.cond (.tmp 81) (.seq (.region 12 R4_12 false) .ret) .skip)) (.seq (.region 13 R4_13 false) (.seq (.region 14 R4_14 false) .ret)))))))))))) := by kernel_rfl
noncomputable def R5_0 : Array Oper := opsAt Tryd.f5 [0]
noncomputable def R5_1 : Array Oper := opsAt Tryd.f5 [1, 0, 0]
noncomputable def R5_2 : Array Oper := opsAt Tryd.f5 [1, 0, 1, 0, 0]
noncomputable def R5_3 : Array Oper := opsAt Tryd.f5 [1, 1, 0]
theorem code5 : Tryd.f5.body = some (.seq (.region 0 R5_0 false) (.seq (.seq (.region 1 R5_1 false) (.cond (.tmp 13) (.seq (.region 2 R5_2 false) .ret) .skip)) (.seq (.region 3 R5_3 false) .ret))) := by kernel_rfl
noncomputable def R6_0 : Array Oper := opsAt Tryd.f6 [0]
noncomputable def R6_1 : Array Oper := opsAt Tryd.f6 [1, 0, 0]
noncomputable def R6_2 : Array Oper := opsAt Tryd.f6 [1, 0, 1, 0, 0]
noncomputable def R6_3 : Array Oper := opsAt Tryd.f6 [1, 1, 0]
theorem code6 : Tryd.f6.body = some (.seq (.region 0 R6_0 false) (.seq (.seq (.region 1 R6_1 false) (.cond (.tmp 13) (.seq (.region 2 R6_2 false) .ret) .skip)) (.seq (.region 3 R6_3 false) .ret))) := by kernel_rfl
noncomputable def R7_0 : Array Oper := opsAt Tryd.f7 [0]
noncomputable def R7_1 : Array Oper := opsAt Tryd.f7 [1, 0, 0]
noncomputable def R7_2 : Array Oper := opsAt Tryd.f7 [1, 0, 1, 0, 0]
noncomputable def R7_3 : Array Oper := opsAt Tryd.f7 [1, 1, 0, 0]
noncomputable def R7_4 : Array Oper := opsAt Tryd.f7 [1, 1, 0, 1, 0, 0, 0, 0]
noncomputable def R7_6 : Array Oper := opsAt Tryd.f7 [1, 1, 0, 1, 0, 0, 1, 0, 0, 0]
noncomputable def R7_7 : Array Oper := opsAt Tryd.f7 [1, 1, 0, 1, 0, 0, 1, 0, 0, 1, 0, 0]
noncomputable def R7_5 : Array Oper := opsAt Tryd.f7 [1, 1, 0, 1, 0, 0, 1, 1]
noncomputable def L7_0 : Code := .seq (.seq (.region 4 R7_4 false) (.cond (.tmp 14) .skip (.exit 0))) (.seq (.block 1 (.seq (.region 6 R7_6 true) (.cond (.tmp 25) (.seq (.region 7 R7_7 false) .ret) .skip))) (.region 5 R7_5 false))
theorem lpL7_0 : loops L7_0 = 0 := rfl
noncomputable def R7_8 : Array Oper := opsAt Tryd.f7 [1, 1, 1, 0]
noncomputable def M7_0 : Code := .seq (.region 8 R7_8 false) .ret
theorem lpM7_0 : loops M7_0 = 0 := rfl
theorem code7 : Tryd.f7.body = some (.seq (.region 0 R7_0 false) (.seq (.seq (.region 1 R7_1 false) (.cond (.tmp 10) (.seq (.region 2 R7_2 false) .ret) .skip)) (.seq (.seq (.region 3 R7_3 false) (.block 0 (.loop L7_0))) M7_0))) := by kernel_rfl
noncomputable def R8_0 : Array Oper := opsAt Tryd.f8 [0]
noncomputable def R8_1 : Array Oper := opsAt Tryd.f8 [1, 0, 0]
noncomputable def R8_2 : Array Oper := opsAt Tryd.f8 [1, 0, 1, 0, 0, 0, 0]
noncomputable def R8_4 : Array Oper := opsAt Tryd.f8 [1, 0, 1, 0, 0, 1, 0, 0, 0]
noncomputable def R8_5 : Array Oper := opsAt Tryd.f8 [1, 0, 1, 0, 0, 1, 0, 0, 1]
noncomputable def R8_3 : Array Oper := opsAt Tryd.f8 [1, 0, 1, 0, 0, 1, 1]
noncomputable def L8_0 : Code := .seq (.seq (.region 2 R8_2 false) (.cond (.tmp 9) .skip (.exit 0))) (.seq (.block 1 (.seq (.region 4 R8_4 false) (.region 5 R8_5 false))) (.region 3 R8_3 false))
theorem lpL8_0 : loops L8_0 = 0 := rfl
noncomputable def R8_6 : Array Oper := opsAt Tryd.f8 [1, 1, 0]
noncomputable def M8_0 : Code := .seq (.region 6 R8_6 false) .ret
theorem lpM8_0 : loops M8_0 = 0 := rfl
theorem code8 : Tryd.f8.body = some (.seq (.region 0 R8_0 false) (.seq (.seq (.region 1 R8_1 false) (.block 0 (.loop L8_0))) M8_0)) := by kernel_rfl
noncomputable def R9_0 : Array Oper := opsAt Tryd.f9 [0]
noncomputable def R9_1 : Array Oper := opsAt Tryd.f9 [1, 0, 0]
noncomputable def R9_2 : Array Oper := opsAt Tryd.f9 [1, 0, 1, 0, 0, 0, 0]
noncomputable def R9_4 : Array Oper := opsAt Tryd.f9 [1, 0, 1, 0, 0, 1, 0, 0, 0, 0]
noncomputable def R9_5 : Array Oper := opsAt Tryd.f9 [1, 0, 1, 0, 0, 1, 0, 0, 0, 1, 0, 0]
noncomputable def R9_6 : Array Oper := opsAt Tryd.f9 [1, 0, 1, 0, 0, 1, 0, 0, 1]
noncomputable def R9_3 : Array Oper := opsAt Tryd.f9 [1, 0, 1, 0, 0, 1, 1]
noncomputable def L9_0 : Code := .seq (.seq (.region 2 R9_2 false) (.cond (.tmp 9) .skip (.exit 0))) (.seq (.block 1 (.seq (.seq (.region 4 R9_4 true) (.cond (.tmp 18) (.seq (.region 5 R9_5 false) .ret) .skip)) (.region 6 R9_6 false))) (.region 3 R9_3 false))
theorem lpL9_0 : loops L9_0 = 0 := rfl
noncomputable def R9_7 : Array Oper := opsAt Tryd.f9 [1, 1, 0]
noncomputable def M9_0 : Code := .seq (.region 7 R9_7 false) .ret
theorem lpM9_0 : loops M9_0 = 0 := rfl
theorem code9 : Tryd.f9.body = some (.seq (.region 0 R9_0 false) (.seq (.seq (.region 1 R9_1 false) (.block 0 (.loop L9_0))) M9_0)) := by kernel_rfl
noncomputable def R10_0 : Array Oper := opsAt Tryd.f10 [0]
noncomputable def R10_1 : Array Oper := opsAt Tryd.f10 [1, 0]
theorem code10 : Tryd.f10.body = some (.seq (.region 0 R10_0 false) (.seq (.region 1 R10_1 false) .ret)) := by kernel_rfl
noncomputable def R11_0 : Array Oper := opsAt Tryd.f11 [0]
noncomputable def R11_1 : Array Oper := opsAt Tryd.f11 [1, 0]
noncomputable def R11_2 : Array Oper := opsAt Tryd.f11 [1, 1, 0]
noncomputable def R11_3 : Array Oper := opsAt Tryd.f11 [1, 1, 1, 0]
theorem code11 : Tryd.f11.body = some (.seq (.region 0 R11_0 false) (.seq (.region 1 R11_1 false) (.seq (.region 2 R11_2 false) (.seq (.region 3 R11_3 false) .ret)))) := by kernel_rfl
noncomputable def R12_0 : Array Oper := opsAt Tryd.f12 [0]
noncomputable def R12_1 : Array Oper := opsAt Tryd.f12 [1, 0]
noncomputable def R12_2 : Array Oper := opsAt Tryd.f12 [1, 1, 0]
noncomputable def R12_3 : Array Oper := opsAt Tryd.f12 [1, 1, 1, 0]
noncomputable def R12_4 : Array Oper := opsAt Tryd.f12 [1, 1, 1, 1, 0, 0]
noncomputable def R12_5 : Array Oper := opsAt Tryd.f12 [1, 1, 1, 1, 0, 1, 0, 0, 0, 0]
noncomputable def R12_7 : Array Oper := opsAt Tryd.f12 [1, 1, 1, 1, 0, 1, 0, 0, 1, 0, 0]
noncomputable def R12_6 : Array Oper := opsAt Tryd.f12 [1, 1, 1, 1, 0, 1, 0, 0, 1, 1]
noncomputable def L12_0 : Code := .seq (.seq (.region 5 R12_5 false) (.cond (.tmp 16) .skip (.exit 0))) (.seq (.block 1 (.region 7 R12_7 false)) (.region 6 R12_6 false))
theorem lpL12_0 : loops L12_0 = 0 := rfl
noncomputable def R12_8 : Array Oper := opsAt Tryd.f12 [1, 1, 1, 1, 1, 0, 0]
noncomputable def R12_9 : Array Oper := opsAt Tryd.f12 [1, 1, 1, 1, 1, 0, 1, 0]
noncomputable def R12_10 : Array Oper := opsAt Tryd.f12 [1, 1, 1, 1, 1, 1, 0]
noncomputable def M12_0 : Code := .seq (.seq (.region 8 R12_8 false) (.cond (.tmp 25) (.region 9 R12_9 false) .skip)) (.seq (.region 10 R12_10 false) .ret)
theorem lpM12_0 : loops M12_0 = 0 := rfl
theorem code12 : Tryd.f12.body = some (.seq (.region 0 R12_0 false) (.seq (.region 1 R12_1 false) (.seq (.region 2 R12_2 false) (.seq (.region 3 R12_3 false) (.seq (.seq (.region 4 R12_4 false) (.block 0 (.loop L12_0))) M12_0))))) := by kernel_rfl
noncomputable def R13_0 : Array Oper := opsAt Tryd.f13 [0]
noncomputable def R13_1 : Array Oper := opsAt Tryd.f13 [1, 0, 0]
noncomputable def R13_2 : Array Oper := opsAt Tryd.f13 [1, 0, 1, 0, 0]
noncomputable def R13_3 : Array Oper := opsAt Tryd.f13 [1, 1, 0]
noncomputable def R13_4 : Array Oper := opsAt Tryd.f13 [1, 1, 1, 0, 0]
noncomputable def R13_5 : Array Oper := opsAt Tryd.f13 [1, 1, 1, 0, 1, 0, 0, 0]
noncomputable def R13_6 : Array Oper := opsAt Tryd.f13 [1, 1, 1, 0, 1, 0, 0, 1, 1, 0, 0, 0]
noncomputable def R13_7 : Array Oper := opsAt Tryd.f13 [1, 1, 1, 0, 1, 0, 0, 1, 1, 0, 0, 1, 0]
noncomputable def R13_8 : Array Oper := opsAt Tryd.f13 [1, 1, 1, 0, 1, 0, 0, 1, 1, 0, 0, 1, 1, 0]
noncomputable def R13_9 : Array Oper := opsAt Tryd.f13 [1, 1, 1, 0, 1, 0, 0, 1, 1, 0, 0, 1, 1, 1, 0, 0]
noncomputable def R13_10 : Array Oper := opsAt Tryd.f13 [1, 1, 1, 0, 1, 0, 0, 1, 1, 1]
noncomputable def L13_0 : Code := .seq (.region 5 R13_5 false) (.seq (.cond (.tmp 23) .skip (.exit 0)) (.seq (.block 1 (.seq (.region 6 R13_6 false) (.seq (.region 7 R13_7 false) (.seq (.region 8 R13_8 false) (.cond (.tmp 36) (.seq (.region 9 R13_9 false) .ret) .skip))))) (.region 10 R13_10 false)))
theorem lpL13_0 : loops L13_0 = 0 := rfl
noncomputable def R13_11 : Array Oper := opsAt Tryd.f13 [1, 1, 1, 1, 0]
noncomputable def M13_0 : Code := .seq (.region 11 R13_11 false) .ret
theorem lpM13_0 : loops M13_0 = 0 := rfl
theorem code13 : Tryd.f13.body = some (.seq (.region 0 R13_0 false) (.seq (.seq (.region 1 R13_1 false) (.cond (.tmp 16) (.seq (.region 2 R13_2 false) .ret) .skip)) (.seq (.region 3 R13_3 false) (.seq (.seq (.region 4 R13_4 false) (.block 0 (.loop L13_0))) M13_0)))) := by kernel_rfl
noncomputable def R14_0 : Array Oper := opsAt Tryd.f14 [0]
noncomputable def R14_1 : Array Oper := opsAt Tryd.f14 [1, 0, 0]
noncomputable def R14_2 : Array Oper := opsAt Tryd.f14 [1, 0, 1, 0, 0]
noncomputable def R14_3 : Array Oper := opsAt Tryd.f14 [1, 1, 0]
noncomputable def R14_4 : Array Oper := opsAt Tryd.f14 [1, 1, 1, 0, 0]
noncomputable def R14_5 : Array Oper := opsAt Tryd.f14 [1, 1, 1, 0, 1, 0, 0, 0, 0]
noncomputable def R14_7 : Array Oper := opsAt Tryd.f14 [1, 1, 1, 0, 1, 0, 0, 1, 0, 0, 0, 0]
noncomputable def R14_8 : Array Oper := opsAt Tryd.f14 [1, 1, 1, 0, 1, 0, 0, 1, 0, 0, 0, 1, 0, 0]
noncomputable def R14_9 : Array Oper := opsAt Tryd.f14 [1, 1, 1, 0, 1, 0, 0, 1, 0, 0, 1, 0, 0]
noncomputable def R14_10 : Array Oper := opsAt Tryd.f14 [1, 1, 1, 0, 1, 0, 0, 1, 0, 0, 1, 0, 1, 0]
noncomputable def R14_11 : Array Oper := opsAt Tryd.f14 [1, 1, 1, 0, 1, 0, 0, 1, 0, 0, 1, 1, 0]
noncomputable def R14_12 : Array Oper := opsAt Tryd.f14 [1, 1, 1, 0, 1, 0, 0, 1, 0, 0, 1, 1, 1, 0]
noncomputable def R14_13 : Array Oper := opsAt Tryd.f14 [1, 1, 1, 0, 1, 0, 0, 1, 0, 0, 1, 1, 1, 1, 0, 0]
noncomputable def R14_6 : Array Oper := opsAt Tryd.f14 [1, 1, 1, 0, 1, 0, 0, 1, 1]
noncomputable def L14_0 : Code := .seq (.seq (.region 5 R14_5 false) (.cond (.tmp 19) .skip (.exit 0))) (.seq (.block 1 (.seq (.seq (.region 7 R14_7 true) (.cond (.tmp 28) (.seq (.region 8 R14_8 false) .ret) .skip)) (.seq (.seq (.region 9 R14_9 false) (.cond (.tmp 30) (.region 10 R14_10 false) .skip)) (.seq (.region 11 R14_11 false) (.seq (.region 12 R14_12 false) (.cond (.tmp 42) (.seq (.region 13 R14_13 false) .ret) .skip)))))) (.region 6 R14_6 false))
theorem lpL14_0 : loops L14_0 = 0 := rfl
noncomputable def R14_14 : Array Oper := opsAt Tryd.f14 [1, 1, 1, 1, 0]
noncomputable def M14_0 : Code := .seq (.region 14 R14_14 false) .ret
theorem lpM14_0 : loops M14_0 = 0 := rfl
theorem code14 : Tryd.f14.body = some (.seq (.region 0 R14_0 false) (.seq (.seq (.region 1 R14_1 false) (.cond (.tmp 15) (.seq (.region 2 R14_2 false) .ret) .skip)) (.seq (.region 3 R14_3 false) (.seq (.seq (.region 4 R14_4 false) (.block 0 (.loop L14_0))) M14_0)))) := by kernel_rfl
noncomputable def R15_0 : Array Oper := opsAt Tryd.f15 [0]
noncomputable def R15_1 : Array Oper := opsAt Tryd.f15 [1, 0]
noncomputable def R15_2 : Array Oper := opsAt Tryd.f15 [1, 1, 0]
noncomputable def R15_3 : Array Oper := opsAt Tryd.f15 [1, 1, 1, 0]
theorem code15 : Tryd.f15.body = some (.seq (.region 0 R15_0 false) (.seq (.region 1 R15_1 false) (.seq (.region 2 R15_2 false) (.seq (.region 3 R15_3 false) .ret)))) := by kernel_rfl
noncomputable def R16_0 : Array Oper := opsAt Tryd.f16 [0]
noncomputable def R16_1 : Array Oper := opsAt Tryd.f16 [1, 0]
theorem code16 : Tryd.f16.body = some (.seq (.region 0 R16_0 false) (.seq (.region 1 R16_1 false) .ret)) := by kernel_rfl
noncomputable def R17_0 : Array Oper := opsAt Tryd.f17 [0]
noncomputable def R17_1 : Array Oper := opsAt Tryd.f17 [1, 0]
theorem code17 : Tryd.f17.body = some (.seq (.region 0 R17_0 false) (.seq (.region 1 R17_1 false) .ret)) := by kernel_rfl
noncomputable def R18_0 : Array Oper := opsAt Tryd.f18 [0]
noncomputable def R18_1 : Array Oper := opsAt Tryd.f18 [1, 0]
noncomputable def R18_2 : Array Oper := opsAt Tryd.f18 [1, 1, 0]
noncomputable def R18_3 : Array Oper := opsAt Tryd.f18 [1, 1, 1, 0, 0]
noncomputable def R18_4 : Array Oper := opsAt Tryd.f18 [1, 1, 1, 0, 1, 0, 0, 0, 0]
noncomputable def R18_6 : Array Oper := opsAt Tryd.f18 [1, 1, 1, 0, 1, 0, 0, 1, 0, 0, 0]
noncomputable def R18_7 : Array Oper := opsAt Tryd.f18 [1, 1, 1, 0, 1, 0, 0, 1, 0, 0, 1, 0, 0]
noncomputable def R18_8 : Array Oper := opsAt Tryd.f18 [1, 1, 1, 0, 1, 0, 0, 1, 0, 0, 1, 0, 1]
noncomputable def R18_5 : Array Oper := opsAt Tryd.f18 [1, 1, 1, 0, 1, 0, 0, 1, 1]
noncomputable def L18_0 : Code := .seq (.seq (.region 4 R18_4 false) (.cond (.tmp 12) .skip (.exit 0))) (.seq (.block 1 (.seq (.region 6 R18_6 false) (.cond (.tmp 19) (.seq (.region 7 R18_7 false) (.region 8 R18_8 false)) .skip))) (.region 5 R18_5 false))
theorem lpL18_0 : loops L18_0 = 0 := rfl
noncomputable def R18_9 : Array Oper := opsAt Tryd.f18 [1, 1, 1, 1, 0]
noncomputable def M18_0 : Code := .seq (.region 9 R18_9 false) .ret
theorem lpM18_0 : loops M18_0 = 0 := rfl
theorem code18 : Tryd.f18.body = some (.seq (.region 0 R18_0 false) (.seq (.region 1 R18_1 false) (.seq (.region 2 R18_2 false) (.seq (.seq (.region 3 R18_3 false) (.block 0 (.loop L18_0))) M18_0)))) := by kernel_rfl
noncomputable def R20_0 : Array Oper := opsAt Tryd.f20 [0]
noncomputable def R20_1 : Array Oper := opsAt Tryd.f20 [1, 0, 0]
noncomputable def R20_2 : Array Oper := opsAt Tryd.f20 [1, 0, 1, 0, 0]
noncomputable def R20_3 : Array Oper := opsAt Tryd.f20 [1, 1, 0]
noncomputable def R20_4 : Array Oper := opsAt Tryd.f20 [1, 1, 1, 0, 0, 0, 0, 0]
noncomputable def R20_5 : Array Oper := opsAt Tryd.f20 [1, 1, 1, 0, 0, 0, 1, 0, 0]
noncomputable def R20_6 : Array Oper := opsAt Tryd.f20 [1, 1, 1, 0, 0, 0, 1, 0, 1]
noncomputable def L20_0 : Code := .seq (.seq (.region 4 R20_4 false) (.cond (.tmp 7) .skip (.exit 0))) (.block 1 (.seq (.region 5 R20_5 false) (.region 6 R20_6 false)))
theorem lpL20_0 : loops L20_0 = 0 := rfl
noncomputable def R20_7 : Array Oper := opsAt Tryd.f20 [1, 1, 1, 1, 0]
noncomputable def M20_0 : Code := .seq (.region 7 R20_7 false) .ret
theorem lpM20_0 : loops M20_0 = 0 := rfl
theorem code20 : Tryd.f20.body = some (.seq (.region 0 R20_0 false) (.seq (.seq (.region 1 R20_1 false) (.cond (.tmp 5) (.seq (.region 2 R20_2 false) .ret) .skip)) (.seq (.region 3 R20_3 false) (.seq (.block 0 (.loop L20_0)) M20_0)))) := by kernel_rfl
noncomputable def R21_0 : Array Oper := opsAt Tryd.f21 [0]
noncomputable def R21_1 : Array Oper := opsAt Tryd.f21 [1, 0]
theorem code21 : Tryd.f21.body = some (.seq (.region 0 R21_0 false) (.seq (.region 1 R21_1 false) .ret)) := by kernel_rfl
noncomputable def R22_0 : Array Oper := opsAt Tryd.f22 [0]
noncomputable def R22_1 : Array Oper := opsAt Tryd.f22 [1, 0]
theorem code22 : Tryd.f22.body = some (.seq (.region 0 R22_0 false) (.seq (.region 1 R22_1 false) .ret)) := by kernel_rfl
noncomputable def R23_0 : Array Oper := opsAt Tryd.f23 [0]
noncomputable def R23_1 : Array Oper := opsAt Tryd.f23 [1, 0, 0]
noncomputable def R23_2 : Array Oper := opsAt Tryd.f23 [1, 0, 1, 0, 0]
noncomputable def R23_3 : Array Oper := opsAt Tryd.f23 [1, 1, 0]
noncomputable def R23_4 : Array Oper := opsAt Tryd.f23 [1, 1, 1, 0, 0]
noncomputable def R23_5 : Array Oper := opsAt Tryd.f23 [1, 1, 1, 0, 1, 0]
noncomputable def R23_6 : Array Oper := opsAt Tryd.f23 [1, 1, 1, 1, 0]
theorem code23 : Tryd.f23.body = some (.seq (.region 0 R23_0 false) (.seq (.seq (.region 1 R23_1 false) (.cond (.tmp 7) (.seq (.region 2 R23_2 false) .ret) .skip)) (.seq (.region 3 R23_3 false) (.seq (.seq (.region 4 R23_4 false) (.cond (.tmp 11) (.region 5 R23_5 false) .skip)) (.seq (.region 6 R23_6 false) .ret))))) := by kernel_rfl
noncomputable def R24_0 : Array Oper := opsAt Tryd.f24 [0]
noncomputable def R24_1 : Array Oper := opsAt Tryd.f24 [1, 0]
theorem code24 : Tryd.f24.body = some (.seq (.region 0 R24_0 false) (.seq (.region 1 R24_1 false) .ret)) := by kernel_rfl
noncomputable def R25_0 : Array Oper := opsAt Tryd.f25 [0]
noncomputable def R25_1 : Array Oper := opsAt Tryd.f25 [1, 0]
theorem code25 : Tryd.f25.body = some (.seq (.region 0 R25_0 false) (.seq (.region 1 R25_1 false) .ret)) := by kernel_rfl
noncomputable def R27_0 : Array Oper := opsAt Tryd.f27 [0]
noncomputable def R27_1 : Array Oper := opsAt Tryd.f27 [1, 0, 0]
noncomputable def R27_2 : Array Oper := opsAt Tryd.f27 [1, 0, 1, 0, 0, 0, 0]
noncomputable def R27_4 : Array Oper := opsAt Tryd.f27 [1, 0, 1, 0, 0, 1, 0, 0, 0]
noncomputable def R27_5 : Array Oper := opsAt Tryd.f27 [1, 0, 1, 0, 0, 1, 0, 0, 1, 0, 0]
noncomputable def R27_3 : Array Oper := opsAt Tryd.f27 [1, 0, 1, 0, 0, 1, 1]
noncomputable def L27_0 : Code := .seq (.seq (.region 2 R27_2 false) (.cond (.tmp 9) .skip (.exit 0))) (.seq (.block 1 (.seq (.region 4 R27_4 false) (.cond (.tmp 16) (.seq (.region 5 R27_5 false) .ret) .skip))) (.region 3 R27_3 false))
theorem lpL27_0 : loops L27_0 = 0 := rfl
noncomputable def R27_6 : Array Oper := opsAt Tryd.f27 [1, 1, 0]
noncomputable def M27_0 : Code := .seq (.region 6 R27_6 false) .ret
theorem lpM27_0 : loops M27_0 = 0 := rfl
theorem code27 : Tryd.f27.body = some (.seq (.region 0 R27_0 false) (.seq (.seq (.region 1 R27_1 false) (.block 0 (.loop L27_0))) M27_0)) := by kernel_rfl
noncomputable def R29_0 : Array Oper := opsAt Tryd.f29 [0]
noncomputable def R29_1 : Array Oper := opsAt Tryd.f29 [1, 0]
noncomputable def R29_2 : Array Oper := opsAt Tryd.f29 [1, 1, 0, 0]
noncomputable def R29_3 : Array Oper := opsAt Tryd.f29 [1, 1, 0, 1, 0]
noncomputable def R29_4 : Array Oper := opsAt Tryd.f29 [1, 1, 1, 0]
noncomputable def R29_5 : Array Oper := opsAt Tryd.f29 [1, 1, 1, 1, 0]
noncomputable def R29_6 : Array Oper := opsAt Tryd.f29 [1, 1, 1, 1, 1, 0, 0]
noncomputable def R29_7 : Array Oper := opsAt Tryd.f29 [1, 1, 1, 1, 1, 0, 1, 0, 0]
noncomputable def R29_8 : Array Oper := opsAt Tryd.f29 [1, 1, 1, 1, 1, 1, 0]
theorem code29 : Tryd.f29.body = some (.seq (.region 0 R29_0 false) (.seq (.region 1 R29_1 false) (.seq (.seq (.region 2 R29_2 true) (.cond (.tmp 13) (.region 3 R29_3 true) .skip)) (.seq (.region 4 R29_4 false) (.seq (.region 5 R29_5 false) (.seq (.seq (.region 6 R29_6 true) (.cond (.tmp 53) (.seq (.region 7 R29_7 false) .ret) .skip)) (.seq (.region 8 R29_8 false) .ret))))))) := by kernel_rfl
def ext19 : List V → Option (V × List Eng.Obj)
  | [.c (.string s), .c (.string t)] => if t.size = 1 ∧ s.size ≤ 1048576 then some (.s 0 2 1 0 (Lib.countB s t + 1), [⟨9, 1, true, (Lib.splitB t 0 (Lib.countB s t) s).map fun x => [.c (.string x)]⟩]) else none
  | _ => none
theorem ext19_ok : ExtOk Tryd.prog 19 ext19 := by
  refine ⟨ent Tryd.func19 rfl rfl, fun args v objs h w Pf ι vals hr D => ?_⟩
  unfold ext19 at h
  split at h
  case h_2 => cases h
  rename_i s t
  split at h
  case isFalse => cases h
  rename_i hc
  obtain ⟨ht1, hs20⟩ := hc
  cases h
  simp only [Reps, Rep] at hr
  obtain ⟨u, us, rfl, rfl, u2, us2, rfl, rfl, rfl⟩ := hr
  obtain ⟨m, hm⟩ := mx_of D.glob.2
  have hle := Lib.countB_le t (by omega) s.size s (Nat.le_refl _)
  have hlen := Lib.splitB_all t (by omega) 0 _ s rfl
  refine (Tryd.strings_Split s t m w (by omega) hm (by omega)).mono ?_
  rintro e w' ⟨rfl, rfl⟩
  have D2 : Desc w Pf ι (fun _ => none) 2 (fun _ => False) := ⟨D.own, fun id vr h => D.fresh id vr (by omega), fun id _ => D.fresh id 2 (by omega), D.inj, D.lt, D.sub, D.glob⟩
  obtain ⟨xs, hxs⟩ : ∃ xs, Lib.splitB t 0 (Lib.countB s t) s = xs := ⟨_, rfl⟩
  obtain ⟨n, hn⟩ : ∃ n, Lib.countB s t + 1 = n := ⟨_, rfl⟩
  rw [hxs, hn] at hlen
  rw [hxs, hn]
  have hfl : ((xs.map fun x => [V.c (.string x)]).flatten : List V) = (xs.map Value.string).map V.c := by
    clear hlen hxs
    induction xs with
    | nil => rfl
    | cons x r ih => simp [ih]
  have hnew := new_sound (w' := w.alloc (.cells (xs.map Value.string).toArray 9)) (g := w.heap.size) (site := 0) (id := 0)
    (o := ⟨9, 1, true, xs.map fun x => [.c (.string x)]⟩) (cs := (xs.map Value.string).toArray) (xs := xs.map Value.string) D2 (fun h => h) rfl
    (by simp [okObj, V.one, V.isC, Value.oneCell']) rfl rfl rfl (by show w.heap.size ≤ (w.heap.push _).size; simp)
    (fun k hk _ => Go.heap_alloc_old w _ hk) (heap_alloc_new w _) (fun h => Nat.lt_irrefl _ (D.lt _ h))
    (H' := hpOf [] [⟨9, 1, true, xs.map fun x => [.c (.string x)]⟩])
    (fun i x hx => by
      cases i with
      | zero => simp [hpOf] at hx; exact .inl ⟨rfl, hx.symm⟩
      | succ i => simp [hpOf] at hx)
    (fun i vr o' t hi hx hh => by
      cases i with
      | zero => exact hi rfl
      | succ i => simp [hpOf] at hx)
    (by rw [hfl]; exact Reps.consts _) (List.take_of_length_le (by simp))
  refine ⟨_, _, 2, _, rfl, hnew.1, ?_, hnew.2⟩
  simp only [Rep]
  refine ⟨_, _, _, _, by first | exact if_pos ⟨trivial, trivial⟩ | exact if_pos ⟨rfl, rfl⟩, rfl, Nat.le_refl _, by unfold maxLen; omega, fun _ => by simp, fun _ => ⟨by trivial, ?_⟩⟩
  simp
  omega
def sc26 : List (List V) → Option (List ByteArray)
  | [] => some []
  | [.c (.string s)] :: l => match sc26 l with
    | some r => some (s :: r)
    | none => none
  | _ => none
theorem sc26_ok {w : World} {Pf : Pfs} {ι : Plc} : ∀ (l : List (List V)) (xs : List ByteArray) (a : Addr), sc26 l = some xs → RepE w Pf ι 1 l a → xs.length = l.length ∧ ∀ (j : Nat) x, xs[j]? = some x → w.cell? (a.add j) = some (.string x)
  | [], xs, a, h, _ => by
    simp only [sc26] at h
    cases h
    exact ⟨rfl, fun j x hj => by simp at hj⟩
  | e :: l, xs, a, h, hr => by
    unfold sc26 at h
    split at h
    · rename_i h'; cases h'
    · rename_i s l' he
      cases he
      split at h
      case h_2 => cases h
      rename_i r hr'
      cases h
      simp only [RepE, RepC, Rep] at hr
      obtain ⟨_, ⟨⟨u, hu, rfl⟩, _⟩, h2⟩ := hr
      obtain ⟨h3, h4⟩ := sc26_ok l r (a.add 1) hr' h2
      refine ⟨by simp [h3], fun j x hj => ?_⟩
      cases j with
      | zero =>
        simp at hj
        subst hj
        simpa [Addr.add] using hu
      | succ j =>
        have := h4 j x (by simpa using hj)
        have e : (a.add 1).add j = a.add (j + 1) := by
          unfold Addr.add
          by_cases h0 : j = 0
          · subst h0; simp
          · simp [h0, Nat.add_assoc, Nat.add_comm 1 j]
        rw [← e]; exact this
    · cases h
def ext26 : List V → Option (V × List Eng.Obj)
  | [.sq _ _ 1 l, .c (.string t)] => match sc26 l with
    | some xs => if l ≠ [] ∧ xs.length ≤ 140737488355328 ∧ (Lib.join (xs.map (·.data.toList)) t.data.toList).length ≤ 140737488355328 then some (.c (.string ⟨(Lib.join (xs.map (·.data.toList)) t.data.toList).toArray⟩), []) else none
    | none => none
  | _ => none
theorem ext26_ok : ExtOk Tryd.prog 26 ext26 := by
  refine ⟨ent Tryd.func26 rfl rfl, fun args v objs h w Pf ι vals hr D => ?_⟩
  unfold ext26 at h
  split at h
  case h_2 => cases h
  rename_i b fl l t
  split at h
  case h_2 => cases h
  rename_i xs hxs
  split at h
  case isFalse => cases h
  rename_i hc
  obtain ⟨hne, hN, hlen⟩ := hc
  cases h
  simp only [Reps, Rep] at hr
  obtain ⟨u, us, rfl, ⟨A, cap, rfl, hcap, _, _, _, hA⟩, u2, us2, rfl, rfl, rfl⟩ := hr
  obtain ⟨a, rfl, hE⟩ := hA.resolve_left hne
  obtain ⟨hl, hcell⟩ := sc26_ok l xs a hxs hE
  have hpos : 0 < xs.length := by
    rw [hl]; exact List.length_pos_iff.2 hne
  have h0 := hcell 0 xs[0] (by simp)
  have hsp : a.spot = none := by
    have : w.cell? a = some (.string xs[0]) := by simpa [Addr.add] using h0
    unfold World.cell? at this
    split at this
    · split at this
      · cases this
      · rename_i hs; simpa using hs
    · cases this
  have hblk : a.block < w.heap.size := World.block_lt_of_cell? w a (by simpa [Addr.add] using h0)
  have ha : ∀ j, (⟨a.block, a.off + j, none⟩ : Addr) = a.add j := by
    intro j
    obtain ⟨bk, o, sp⟩ := a
    simp only at hsp
    subst hsp
    unfold Addr.add
    by_cases h0 : j = 0
    · subst h0; simp
    · simp [h0]
  have hS := Tryd.strings_Join a.block a.off cap xs t w (fun j x hj => by rw [ha]; exact hcell j x hj) hblk hN (by omega) hlen
  have ea : (⟨a.block, a.off, none⟩ : Addr) = a := by have := ha 0; simpa [Addr.add] using this
  rw [hl, ea] at hS
  refine hS.mono ?_
  rintro e w' ⟨rfl, hb⟩
  have hp : ∀ g, Pf true g → w'.heap[g]? = w.heap[g]? := fun g hg => hb.block g (D.lt g hg)
  refine ⟨_, ι, 1, fun _ => False, rfl, ⟨hb.os, hb.tape, hb.output, hb.size, hp, fun _ _ _ h => h⟩, by simp only [Rep], ⟨fun id vr o h => ?_, D.fresh, D.fresh', fun id vr o id' vr' o' g t t' h => ?_, fun g hg => ?_, D.sub, D.gl hp⟩⟩
  · simp [hpOf] at h
  · simp [hpOf] at h
  · have := D.lt g hg
    have := hb.size
    omega
def ext30 : List V → Option (V × List Eng.Obj)
  | [.c (.string s), .c (.string t)] => match t.data.toList with
    | [c] => some (.c (.int .i64 (Lib.indexByte s.data.toList c)), [])
    | _ => none
  | _ => none
theorem ext30_ok : ExtOk Tryd.prog 30 ext30 := by
  refine ⟨ent Tryd.func30 rfl rfl, fun args v objs h w Pf ι vals hr D => ?_⟩
  unfold ext30 at h
  split at h
  case h_2 => cases h
  rename_i s t
  split at h
  case h_2 => cases h
  rename_i c hc
  cases h
  have ht : t = ⟨#[c]⟩ := by
    obtain ⟨a⟩ := t
    have : a = #[c] := by
      apply Array.ext'
      simpa using hc
    rw [this]
  subst ht
  simp only [Reps, Rep] at hr
  obtain ⟨u, us, rfl, rfl, u2, us2, rfl, rfl, rfl⟩ := hr
  refine (Tryd.strings_Index_one s c w).mono ?_
  rintro e w' ⟨rfl, rfl⟩
  refine ⟨_, ι, 1, fun _ => False, rfl, Fwd.refl _ _ _, by simp only [Rep], ⟨fun id vr o h => ?_, D.fresh, D.fresh', fun id vr o id' vr' o' g t t' h => ?_, D.lt, D.sub, D.glob⟩⟩
  · simp [hpOf] at h
  · simp [hpOf] at h
def X : FuncId → Option (List V → Option (V × List Eng.Obj))
  | 19 => some ext19
  | 26 => some ext26
  | 30 => some ext30
  | _ => none
noncomputable def C : Cfg := ⟨T, F, X, WR, OW, K⟩
theorem cT : C.T = T := by unfold C; with_reducible rfl
theorem cF : C.fn = F := by unfold C; with_reducible rfl
theorem cX : C.ext = X := by unfold C; with_reducible rfl
theorem cWR : C.wr = WR := by unfold C; with_reducible rfl
theorem cOW : C.own = OW := by unfold C; with_reducible rfl
theorem cK : C.keep = K := by unfold C; with_reducible rfl
theorem cfgOk : CfgOk Tryd.prog C where
  mixed := by kernel_rfl
  tab := tabOk
  fn := fun f fn h => okF_0 f fn h
  ext := by
    intro f m h
    have h' : X f = some m := h
    unfold X at h'
    split at h'
    · cases h'; exact ext19_ok
    · cases h'; exact ext26_ok
    · cases h'; exact ext30_ok
    · cases h'
end Go.Proofs.YtmleikmjjoneeaaDoor.Eng
