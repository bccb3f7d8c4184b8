/- The types, the functions and the loops' live slots that the laws reach, and that they are what the program has. No conditions. -/
import Derived.Test.YthbekdccfleaoaaDoorEngTa
namespace Go.Proofs.YthbekdccfleaoaaDoor.Eng
open Go Go.Proofs
set_option maxRecDepth 100000
noncomputable def R7_0 : Array Oper := opsAt Tryd.f7 [0]
noncomputable def R7_1 : Array Oper := opsAt Tryd.f7 [1, 0, 0]
noncomputable def R7_2 : Array Oper := opsAt Tryd.f7 [1, 0, 1, 0, 0]
noncomputable def R7_3 : Array Oper := opsAt Tryd.f7 [1, 1, 0]
noncomputable def R7_4 : Array Oper := opsAt Tryd.f7 [1, 1, 1, 0]
noncomputable def R7_5 : Array Oper := opsAt Tryd.f7 [1, 1, 1, 1, 0, 0]
noncomputable def R7_6 : Array Oper := opsAt Tryd.f7 [1, 1, 1, 1, 0, 1, 0, 0]
noncomputable def R7_7 : Array Oper := opsAt Tryd.f7 [1, 1, 1, 1, 1, 0]
theorem code7 : Tryd.f7.body = some (.seq (.region 0 R7_0 false) (.seq (.seq (.region 1 R7_1 false) (.cond (.tmp 9) (.seq (.region 2 R7_2 false) .ret) .skip)) (.seq (.region 3 R7_3 false) (.seq (.region 4 R7_4 false) (.seq (.seq (.region 5 R7_5 false) (.cond (.tmp 27) (.seq (.region 6 R7_6 false) .ret) .skip)) (.seq (.region 7 R7_7 false) .ret)))))) := by kernel_rfl
noncomputable def R8_0 : Array Oper := opsAt Tryd.f8 [0]
noncomputable def R8_1 : Array Oper := opsAt Tryd.f8 [1, 0, 0]
noncomputable def R8_2 : Array Oper := opsAt Tryd.f8 [1, 0, 1, 0, 0]
noncomputable def R8_3 : Array Oper := opsAt Tryd.f8 [1, 1, 0]
noncomputable def R8_4 : Array Oper := opsAt Tryd.f8 [1, 1, 1, 0]
noncomputable def R8_5 : Array Oper := opsAt Tryd.f8 [1, 1, 1, 1, 0]
noncomputable def R8_6 : Array Oper := opsAt Tryd.f8 [1, 1, 1, 1, 1, 0]
noncomputable def R8_7 : Array Oper := opsAt Tryd.f8 [1, 1, 1, 1, 1, 1, 0]
noncomputable def R8_8 : Array Oper := opsAt Tryd.f8 [1, 1, 1, 1, 1, 1, 1, 0]
noncomputable def R8_9 : Array Oper := opsAt Tryd.f8 [1, 1, 1, 1, 1, 1, 1, 1, 0]
noncomputable def R8_10 : Array Oper := opsAt Tryd.f8 [1, 1, 1, 1, 1, 1, 1, 1, 1, 0]
noncomputable def R8_11 : Array Oper := opsAt Tryd.f8 [1, 1, 1, 1, 1, 1, 1, 1, 1, 1, 0]
noncomputable def R8_12 : Array Oper := opsAt Tryd.f8 [1, 1, 1, 1, 1, 1, 1, 1, 1, 1, 1, 0, 0]
noncomputable def R8_13 : Array Oper := opsAt Tryd.f8 [1, 1, 1, 1, 1, 1, 1, 1, 1, 1, 1, 0, 1, 0, 0]
noncomputable def R8_14 : Array Oper := opsAt Tryd.f8 [1, 1, 1, 1, 1, 1, 1, 1, 1, 1, 1, 1, 0, 0]
noncomputable def R8_15 : Array Oper := opsAt Tryd.f8 [1, 1, 1, 1, 1, 1, 1, 1, 1, 1, 1, 1, 0, 1, 0]
noncomputable def R8_16 : Array Oper := opsAt Tryd.f8 [1, 1, 1, 1, 1, 1, 1, 1, 1, 1, 1, 1, 0, 1, 1, 0, 0]
noncomputable def R8_17 : Array Oper := opsAt Tryd.f8 [1, 1, 1, 1, 1, 1, 1, 1, 1, 1, 1, 1, 1, 0, 0]
noncomputable def R8_18 : Array Oper := opsAt Tryd.f8 [1, 1, 1, 1, 1, 1, 1, 1, 1, 1, 1, 1, 1, 0, 1, 0, 0]
noncomputable def R8_19 : Array Oper := opsAt Tryd.f8 [1, 1, 1, 1, 1, 1, 1, 1, 1, 1, 1, 1, 1, 1, 0]
noncomputable def R8_20 : Array Oper := opsAt Tryd.f8 [1, 1, 1, 1, 1, 1, 1, 1, 1, 1, 1, 1, 1, 1, 1, 0]
noncomputable def R8_21 : Array Oper := opsAt Tryd.f8 [1, 1, 1, 1, 1, 1, 1, 1, 1, 1, 1, 1, 1, 1, 1, 1, 0]
noncomputable def R8_22 : Array Oper := opsAt Tryd.f8 [1, 1, 1, 1, 1, 1, 1, 1, 1, 1, 1, 1, 1, 1, 1, 1, 1, 0]
noncomputable def R8_23 : Array Oper := opsAt Tryd.f8 [1, 1, 1, 1, 1, 1, 1, 1, 1, 1, 1, 1, 1, 1, 1, 1, 1, 1, 0]
noncomputable def R8_24 : Array Oper := opsAt Tryd.f8 [1, 1, 1, 1, 1, 1, 1, 1, 1, 1, 1, 1, 1, 1, 1, 1, 1, 1, 1, 0]
theorem code8 : Tryd.f8.body = some (.seq (.region 0 R8_0 false) (.seq (.seq (.region 1 R8_1 false) (.cond (.tmp 27) (.seq (.region 2 R8_2 false) .ret) .skip)) (.seq (.region 3 R8_3 false) (.seq (.region 4 R8_4 false) (.seq (.region 5 R8_5 false) (.seq (.region 6 R8_6 false) (.seq (.region 7 R8_7 false) (.seq (.region 8 R8_8 false) (.seq (.region 9 R8_9 false) (.seq (.region 10 R8_10 false) (.seq (.region 11 R8_11 false) (.seq (.seq (.region 12 R8_12 false) (.cond (.tmp 91) (.seq (.region 13 R8_13 false) .ret) .skip)) (.seq (.seq (.region 14 R8_14 false) (.seq (.region 15 R8_15 false) (.cond (.tmp 106) (.seq (.region 16 R8_16 false) .ret) .skip))) (.seq (.seq (.region 17 R8_17 false) (.cond (.tmp 108) (.seq (.region 18 R8_18 false) .ret) .skip)) (.seq (.region 19 R8_19 false) (.seq (.region 20 R8_20 false) (.seq (.region 21 R8_21 false) (.seq (.region 22 R8_22 true) (.seq (.region 23 R8_23 false) (.seq (.region 24 R8_24 false) .ret)))))))))))))))))))) := by kernel_rfl
noncomputable def R9_0 : Array Oper := opsAt Tryd.f9 [0]
noncomputable def R9_1 : Array Oper := opsAt Tryd.f9 [1, 0, 0]
noncomputable def R9_2 : Array Oper := opsAt Tryd.f9 [1, 0, 1, 0, 0]
noncomputable def R9_3 : Array Oper := opsAt Tryd.f9 [1, 1, 0]
noncomputable def R9_4 : Array Oper := opsAt Tryd.f9 [1, 1, 1, 0]
noncomputable def R9_5 : Array Oper := opsAt Tryd.f9 [1, 1, 1, 1, 0, 0]
noncomputable def R9_6 : Array Oper := opsAt Tryd.f9 [1, 1, 1, 1, 0, 1, 0, 0]
noncomputable def R9_7 : Array Oper := opsAt Tryd.f9 [1, 1, 1, 1, 1, 0]
theorem code9 : Tryd.f9.body = some (.seq (.region 0 R9_0 false) (.seq (.seq (.region 1 R9_1 false) (.cond (.tmp 11) (.seq (.region 2 R9_2 false) .ret) .skip)) (.seq (.region 3 R9_3 false) (.seq (.region 4 R9_4 false) (.seq (.seq (.region 5 R9_5 false) (.cond (.tmp 36) (.seq (.region 6 R9_6 false) .ret) .skip)) (.seq (.region 7 R9_7 false) .ret)))))) := by kernel_rfl
noncomputable def R10_0 : Array Oper := opsAt Tryd.f10 [0]
noncomputable def R10_1 : Array Oper := opsAt Tryd.f10 [1, 0, 0]
noncomputable def R10_2 : Array Oper := opsAt Tryd.f10 [1, 0, 1, 0, 0]
noncomputable def R10_3 : Array Oper := opsAt Tryd.f10 [1, 1, 0]
noncomputable def R10_4 : Array Oper := opsAt Tryd.f10 [1, 1, 1, 0]
noncomputable def R10_5 : Array Oper := opsAt Tryd.f10 [1, 1, 1, 1, 0, 0]
noncomputable def R10_6 : Array Oper := opsAt Tryd.f10 [1, 1, 1, 1, 0, 1, 0]
noncomputable def R10_7 : Array Oper := opsAt Tryd.f10 [1, 1, 1, 1, 0, 1, 1, 0, 0]
noncomputable def R10_8 : Array Oper := opsAt Tryd.f10 [1, 1, 1, 1, 1, 0, 0]
noncomputable def R10_9 : Array Oper := opsAt Tryd.f10 [1, 1, 1, 1, 1, 0, 1, 0, 0]
noncomputable def R10_10 : Array Oper := opsAt Tryd.f10 [1, 1, 1, 1, 1, 0, 1, 0, 1, 0]
noncomputable def R10_11 : Array Oper := opsAt Tryd.f10 [1, 1, 1, 1, 1, 0, 1, 0, 1, 1, 0]
noncomputable def R10_12 : Array Oper := opsAt Tryd.f10 [1, 1, 1, 1, 1, 0, 1, 0, 1, 1, 1, 0]
noncomputable def R10_13 : Array Oper := opsAt Tryd.f10 [1, 1, 1, 1, 1, 0, 1, 0, 1, 1, 1, 1, 0]
noncomputable def R10_14 : Array Oper := opsAt Tryd.f10 [1, 1, 1, 1, 1, 0, 1, 0, 1, 1, 1, 1, 1, 0, 0]
noncomputable def R10_15 : Array Oper := opsAt Tryd.f10 [1, 1, 1, 1, 1, 1, 0]
noncomputable def R10_16 : Array Oper := opsAt Tryd.f10 [1, 1, 1, 1, 1, 1, 1, 0]
noncomputable def R10_17 : Array Oper := opsAt Tryd.f10 [1, 1, 1, 1, 1, 1, 1, 1, 0, 0]
noncomputable def R10_18 : Array Oper := opsAt Tryd.f10 [1, 1, 1, 1, 1, 1, 1, 1, 0, 1, 0]
noncomputable def R10_19 : Array Oper := opsAt Tryd.f10 [1, 1, 1, 1, 1, 1, 1, 1, 0, 1, 1, 0, 0]
noncomputable def R10_20 : Array Oper := opsAt Tryd.f10 [1, 1, 1, 1, 1, 1, 1, 1, 1, 0]
noncomputable def R10_21 : Array Oper := opsAt Tryd.f10 [1, 1, 1, 1, 1, 1, 1, 1, 1, 1, 0]
noncomputable def R10_22 : Array Oper := opsAt Tryd.f10 [1, 1, 1, 1, 1, 1, 1, 1, 1, 1, 1, 0]
noncomputable def R10_23 : Array Oper := opsAt Tryd.f10 [1, 1, 1, 1, 1, 1, 1, 1, 1, 1, 1, 1, 0]
theorem code10 : Tryd.f10.body = some (.seq (.region 0 R10_0 false) (.seq (.seq (.region 1 R10_1 false) (.cond (.tmp 32) (.seq (.region 2 R10_2 false) .ret) .skip)) (.seq (.region 3 R10_3 false) (.seq (.region 4 R10_4 false) (.seq (.seq (.region 5 R10_5 false) (.seq (.region 6 R10_6 false) (.cond (.tmp 57) (.seq (.region 7 R10_7 false) .ret) .skip))) (.seq (.seq (.region 8 R10_8 false) (.cond (.tmp 58) (.seq (.region 9 R10_9 false) (.seq (.region 10 R10_10 false) (.seq (.region 11 R10_11 false) (.seq (.region 12 R10_12 false) (.seq (.region 13 R10_13 false) (.cond (.tmp 115) (.seq (.region 14 R10_14 false) .ret) .skip)))))) .skip)) (.seq (.region 15 R10_15 false) (.seq (.region 16 R10_16 false) (.seq (.seq (.region 17 R10_17 false) (.seq (.region 18 R10_18 false) (.cond (.tmp 142) (.seq (.region 19 R10_19 false) .ret) .skip))) (.seq (.region 20 R10_20 false) (.seq (.region 21 R10_21 false) (.seq (.region 22 R10_22 false) (.seq (.region 23 R10_23 false) .ret))))))))))))) := by kernel_rfl
noncomputable def R11_0 : Array Oper := opsAt Tryd.f11 [0]
noncomputable def R11_1 : Array Oper := opsAt Tryd.f11 [1, 0, 0]
noncomputable def R11_2 : Array Oper := opsAt Tryd.f11 [1, 0, 1, 0, 0]
noncomputable def R11_3 : Array Oper := opsAt Tryd.f11 [1, 1, 0]
noncomputable def R11_4 : Array Oper := opsAt Tryd.f11 [1, 1, 1, 0]
noncomputable def R11_5 : Array Oper := opsAt Tryd.f11 [1, 1, 1, 1, 0, 0]
noncomputable def R11_6 : Array Oper := opsAt Tryd.f11 [1, 1, 1, 1, 0, 1, 0, 0]
noncomputable def R11_7 : Array Oper := opsAt Tryd.f11 [1, 1, 1, 1, 1, 0]
noncomputable def R11_8 : Array Oper := opsAt Tryd.f11 [1, 1, 1, 1, 1, 1, 0]
noncomputable def R11_9 : Array Oper := opsAt Tryd.f11 [1, 1, 1, 1, 1, 1, 1, 0]
noncomputable def R11_10 : Array Oper := opsAt Tryd.f11 [1, 1, 1, 1, 1, 1, 1, 1, 0]
noncomputable def R11_11 : Array Oper := opsAt Tryd.f11 [1, 1, 1, 1, 1, 1, 1, 1, 1, 0, 0]
noncomputable def R11_12 : Array Oper := opsAt Tryd.f11 [1, 1, 1, 1, 1, 1, 1, 1, 1, 0, 1, 0, 0]
noncomputable def R11_13 : Array Oper := opsAt Tryd.f11 [1, 1, 1, 1, 1, 1, 1, 1, 1, 1, 0, 0]
noncomputable def R11_14 : Array Oper := opsAt Tryd.f11 [1, 1, 1, 1, 1, 1, 1, 1, 1, 1, 0, 1, 0, 0]
noncomputable def R11_15 : Array Oper := opsAt Tryd.f11 [1, 1, 1, 1, 1, 1, 1, 1, 1, 1, 1, 0]
noncomputable def R11_16 : Array Oper := opsAt Tryd.f11 [1, 1, 1, 1, 1, 1, 1, 1, 1, 1, 1, 1, 0, 0]
noncomputable def R11_17 : Array Oper := opsAt Tryd.f11 [1, 1, 1, 1, 1, 1, 1, 1, 1, 1, 1, 1, 0, 1, 0, 0]
noncomputable def R11_18 : Array Oper := opsAt Tryd.f11 [1, 1, 1, 1, 1, 1, 1, 1, 1, 1, 1, 1, 1, 0]
noncomputable def R11_19 : Array Oper := opsAt Tryd.f11 [1, 1, 1, 1, 1, 1, 1, 1, 1, 1, 1, 1, 1, 1, 0]
noncomputable def R11_20 : Array Oper := opsAt Tryd.f11 [1, 1, 1, 1, 1, 1, 1, 1, 1, 1, 1, 1, 1, 1, 1, 0, 0]
noncomputable def R11_21 : Array Oper := opsAt Tryd.f11 [1, 1, 1, 1, 1, 1, 1, 1, 1, 1, 1, 1, 1, 1, 1, 0, 1, 0, 0]
noncomputable def R11_22 : Array Oper := opsAt Tryd.f11 [1, 1, 1, 1, 1, 1, 1, 1, 1, 1, 1, 1, 1, 1, 1, 1, 0, 0]
noncomputable def R11_23 : Array Oper := opsAt Tryd.f11 [1, 1, 1, 1, 1, 1, 1, 1, 1, 1, 1, 1, 1, 1, 1, 1, 0, 1, 0, 0]
noncomputable def R11_24 : Array Oper := opsAt Tryd.f11 [1, 1, 1, 1, 1, 1, 1, 1, 1, 1, 1, 1, 1, 1, 1, 1, 1, 0]
theorem code11 : Tryd.f11.body = some (.seq (.region 0 R11_0 false) (.seq (.seq (.region 1 R11_1 false) (.cond (.tmp 13) (.seq (.region 2 R11_2 false) .ret) .skip)) (.seq (.region 3 R11_3 false) (.seq (.region 4 R11_4 false) (.seq (.seq (.region 5 R11_5 false) (.cond (.tmp 32) (.seq (.region 6 R11_6 false) .ret) .skip)) (.seq (.region 7 R11_7 false) (.seq (.region 8 R11_8 false) (.seq (.region 9 R11_9 false) (.seq (.region 10 R11_10 false) (.seq (.seq (.region 11 R11_11 false) (.cond (.tmp 40) (.seq (.region 12 R11_12 false) .ret) .skip)) (.seq (.seq (.region 13 R11_13 false) (.cond (.tmp 43) (.seq (.region 14 R11_14 false) .ret) .skip)) (.seq (.region 15 R11_15 false) (.seq (.seq (.region 16 R11_16 false) (.cond (.tmp 57) (.seq (.region 17 R11_17 false) .ret) .skip)) (.seq (.region 18 R11_18 false) (.seq (.region 19 R11_19 false) (.seq (.seq (.region 20 R11_20 false) (.cond (.tmp 62) (.seq (.region 21 R11_21 false) .ret) .skip)) (.seq (.seq (.region 22 R11_22 false) (.cond (.tmp 65) (.seq (.region 23 R11_23 false) .ret) .skip)) (.seq (.region 24 R11_24 false) .ret)))))))))))))))))) := by kernel_rfl
noncomputable def R28_0 : Array Oper := opsAt Tryd.f28 [0]
noncomputable def R28_1 : Array Oper := opsAt Tryd.f28 [1, 0, 0]
noncomputable def R28_2 : Array Oper := opsAt Tryd.f28 [1, 0, 1, 0, 0]
noncomputable def R28_3 : Array Oper := opsAt Tryd.f28 [1, 1, 0, 0]
noncomputable def R28_4 : Array Oper := opsAt Tryd.f28 [1, 1, 0, 1, 0, 0, 0, 0]
noncomputable def R28_6 : Array Oper := opsAt Tryd.f28 [1, 1, 0, 1, 0, 0, 1, 0, 0, 0]
noncomputable def R28_7 : Array Oper := opsAt Tryd.f28 [1, 1, 0, 1, 0, 0, 1, 0, 0, 1, 0, 0]
noncomputable def R28_5 : Array Oper := opsAt Tryd.f28 [1, 1, 0, 1, 0, 0, 1, 1]
noncomputable def L28_0 : Code := .seq (.seq (.region 4 R28_4 false) (.cond (.tmp 14) .skip (.exit 0))) (.seq (.block 1 (.seq (.region 6 R28_6 true) (.cond (.tmp 26) (.seq (.region 7 R28_7 false) .ret) .skip))) (.region 5 R28_5 false))
theorem lpL28_0 : loops L28_0 = 0 := rfl
noncomputable def R28_8 : Array Oper := opsAt Tryd.f28 [1, 1, 1, 0]
noncomputable def M28_0 : Code := .seq (.region 8 R28_8 false) .ret
theorem lpM28_0 : loops M28_0 = 0 := rfl
theorem code28 : Tryd.f28.body = some (.seq (.region 0 R28_0 false) (.seq (.seq (.region 1 R28_1 false) (.cond (.tmp 10) (.seq (.region 2 R28_2 false) .ret) .skip)) (.seq (.seq (.region 3 R28_3 false) (.block 0 (.loop L28_0))) M28_0))) := by kernel_rfl
noncomputable def R29_0 : Array Oper := opsAt Tryd.f29 [0]
noncomputable def R29_1 : Array Oper := opsAt Tryd.f29 [1, 0]
theorem code29 : Tryd.f29.body = some (.seq (.region 0 R29_0 false) (.seq (.region 1 R29_1 false) .ret)) := by kernel_rfl
noncomputable def R37_0 : Array Oper := opsAt Tryd.f37 [0]
noncomputable def R37_1 : Array Oper := opsAt Tryd.f37 [1, 0]
theorem code37 : Tryd.f37.body = some (.seq (.region 0 R37_0 false) (.seq (.region 1 R37_1 false) .ret)) := by kernel_rfl
noncomputable def R38_0 : Array Oper := opsAt Tryd.f38 [0]
noncomputable def R38_1 : Array Oper := opsAt Tryd.f38 [1, 0]
noncomputable def R38_2 : Array Oper := opsAt Tryd.f38 [1, 1, 0, 0]
noncomputable def R38_3 : Array Oper := opsAt Tryd.f38 [1, 1, 0, 1, 0, 0]
noncomputable def R38_4 : Array Oper := opsAt Tryd.f38 [1, 1, 1, 0]
theorem code38 : Tryd.f38.body = some (.seq (.region 0 R38_0 false) (.seq (.region 1 R38_1 false) (.seq (.seq (.region 2 R38_2 false) (.cond (.tmp 23) (.seq (.region 3 R38_3 false) .ret) .skip)) (.seq (.region 4 R38_4 false) .ret)))) := by kernel_rfl
noncomputable def R39_0 : Array Oper := opsAt Tryd.f39 [0]
noncomputable def R39_1 : Array Oper := opsAt Tryd.f39 [1, 0]
noncomputable def R39_2 : Array Oper := opsAt Tryd.f39 [1, 1, 0]
theorem code39 : Tryd.f39.body = some (.seq (.region 0 R39_0 false) (.seq (.region 1 R39_1 false) (.seq (.region 2 R39_2 false) .ret))) := by kernel_rfl
noncomputable def R40_0 : Array Oper := opsAt Tryd.f40 [0]
noncomputable def R40_1 : Array Oper := opsAt Tryd.f40 [1, 0, 0]
noncomputable def R40_2 : Array Oper := opsAt Tryd.f40 [1, 0, 1, 0, 0]
noncomputable def R40_3 : Array Oper := opsAt Tryd.f40 [1, 1, 0]
theorem code40 : Tryd.f40.body = some (.seq (.region 0 R40_0 false) (.seq (.seq (.region 1 R40_1 false) (.cond (.tmp 6) (.seq (.region 2 R40_2 false) .ret) .skip)) (.seq (.region 3 R40_3 false) .ret))) := by kernel_rfl
noncomputable def R41_0 : Array Oper := opsAt Tryd.f41 [0]
noncomputable def R41_1 : Array Oper := opsAt Tryd.f41 [1, 0, 0]
noncomputable def R41_2 : Array Oper := opsAt Tryd.f41 [1, 0, 1, 0, 0]
noncomputable def R41_3 : Array Oper := opsAt Tryd.f41 [1, 1, 0]
theorem code41 : Tryd.f41.body = some (.seq (.region 0 R41_0 false) (.seq (.seq (.region 1 R41_1 false) (.cond (.tmp 6) (.seq (.region 2 R41_2 false) .ret) .skip)) (.seq (.region 3 R41_3 false) .ret))) := by kernel_rfl
noncomputable def R42_0 : Array Oper := opsAt Tryd.f42 [0]
noncomputable def R42_1 : Array Oper := opsAt Tryd.f42 [1, 0]
noncomputable def R42_2 : Array Oper := opsAt Tryd.f42 [1, 1, 0, 0]
noncomputable def R42_3 : Array Oper := opsAt Tryd.f42 [1, 1, 0, 1, 0, 0]
noncomputable def R42_4 : Array Oper := opsAt Tryd.f42 [1, 1, 1, 0]
theorem code42 : Tryd.f42.body = some (.seq (.region 0 R42_0 false) (.seq (.region 1 R42_1 false) (.seq (.seq (.region 2 R42_2 false) (.cond (.tmp 8) (.seq (.region 3 R42_3 false) .ret) .skip)) (.seq (.region 4 R42_4 false) .ret)))) := by kernel_rfl
noncomputable def R43_0 : Array Oper := opsAt Tryd.f43 [0]
noncomputable def R43_1 : Array Oper := opsAt Tryd.f43 [1, 0]
noncomputable def R43_2 : Array Oper := opsAt Tryd.f43 [1, 1, 0, 0]
noncomputable def R43_3 : Array Oper := opsAt Tryd.f43 [1, 1, 0, 1, 0, 0]
noncomputable def R43_4 : Array Oper := opsAt Tryd.f43 [1, 1, 1, 0]
theorem code43 : Tryd.f43.body = some (.seq (.region 0 R43_0 false) (.seq (.region 1 R43_1 false) (.seq (.seq (.region 2 R43_2 false) (.cond (.tmp 8) (.seq (.region 3 R43_3 false) .ret) .skip)) (.seq (.region 4 R43_4 false) .ret)))) := by kernel_rfl
noncomputable def R44_0 : Array Oper := opsAt Tryd.f44 [0]
noncomputable def R44_1 : Array Oper := opsAt Tryd.f44 [1, 0, 0]
noncomputable def R44_2 : Array Oper := opsAt Tryd.f44 [1, 0, 1, 0, 0]
noncomputable def R44_3 : Array Oper := opsAt Tryd.f44 [1, 1, 0]
noncomputable def R44_4 : Array Oper := opsAt Tryd.f44 [1, 1, 1, 0, 0]
noncomputable def R44_5 : Array Oper := opsAt Tryd.f44 [1, 1, 1, 0, 1, 0, 0]
noncomputable def R44_6 : Array Oper := opsAt Tryd.f44 [1, 1, 1, 1, 0]
theorem code44 : Tryd.f44.body = some (.seq (.region 0 R44_0 false) (.seq (.seq (.region 1 R44_1 false) (.cond (.tmp 11) (.seq (.region 2 R44_2 false) .ret) .skip)) (.seq (.region 3 R44_3 false) (.seq (.seq (.region 4 R44_4 false) (.cond (.tmp 20) (.seq (.region 5 R44_5 false) .ret) .skip)) (.seq (.region 6 R44_6 false) .ret))))) := by kernel_rfl
noncomputable def R45_0 : Array Oper := opsAt Tryd.f45 [0]
noncomputable def R45_1 : Array Oper := opsAt Tryd.f45 [1, 0, 0]
noncomputable def R45_2 : Array Oper := opsAt Tryd.f45 [1, 0, 1, 0, 0]
noncomputable def R45_3 : Array Oper := opsAt Tryd.f45 [1, 1, 0]
theorem code45 : Tryd.f45.body = some (.seq (.region 0 R45_0 false) (.seq (.seq (.region 1 R45_1 false) (.cond (.tmp 16) (.seq (.region 2 R45_2 false) .ret) .skip)) (.seq (.region 3 R45_3 false) .ret))) := by kernel_rfl
noncomputable def R46_0 : Array Oper := opsAt Tryd.f46 [0]
noncomputable def R46_1 : Array Oper := opsAt Tryd.f46 [1, 0]
noncomputable def R46_2 : Array Oper := opsAt Tryd.f46 [1, 1, 0]
noncomputable def R46_3 : Array Oper := opsAt Tryd.f46 [1, 1, 1, 0, 0]
noncomputable def R46_4 : Array Oper := opsAt Tryd.f46 [1, 1, 1, 0, 1, 0, 0]
noncomputable def R46_5 : Array Oper := opsAt Tryd.f46 [1, 1, 1, 1, 0]
theorem code46 : Tryd.f46.body = some (.seq (.region 0 R46_0 false) (.seq (.region 1 R46_1 false) (.seq (.region 2 R46_2 false) (.seq (.seq (.region 3 R46_3 false) (.cond (.tmp 30) (.seq (.region 4 R46_4 false) .ret) .skip)) (.seq (.region 5 R46_5 false) .ret))))) := by kernel_rfl
noncomputable def R47_0 : Array Oper := opsAt Tryd.f47 [0]
noncomputable def R47_1 : Array Oper := opsAt Tryd.f47 [1, 0, 0]
noncomputable def R47_2 : Array Oper := opsAt Tryd.f47 [1, 0, 1, 0, 0]
noncomputable def R47_3 : Array Oper := opsAt Tryd.f47 [1, 1, 0]
theorem code47 : Tryd.f47.body = some (.seq (.region 0 R47_0 false) (.seq (.seq (.region 1 R47_1 false) (.cond (.tmp 8) (.seq (.region 2 R47_2 false) .ret) .skip)) (.seq (.region 3 R47_3 false) .ret))) := by kernel_rfl
noncomputable def R48_0 : Array Oper := opsAt Tryd.f48 [0]
noncomputable def R48_1 : Array Oper := opsAt Tryd.f48 [1, 0, 0]
noncomputable def R48_2 : Array Oper := opsAt Tryd.f48 [1, 0, 1, 0, 0]
noncomputable def R48_3 : Array Oper := opsAt Tryd.f48 [1, 1, 0]
noncomputable def R48_4 : Array Oper := opsAt Tryd.f48 [1, 1, 1, 0, 0]
noncomputable def R48_5 : Array Oper := opsAt Tryd.f48 [1, 1, 1, 0, 1, 0, 0]
noncomputable def R48_6 : Array Oper := opsAt Tryd.f48 [1, 1, 1, 1, 0]
noncomputable def R48_7 : Array Oper := opsAt Tryd.f48 [1, 1, 1, 1, 1, 0]
noncomputable def R48_8 : Array Oper := opsAt Tryd.f48 [1, 1, 1, 1, 1, 1, 0]
noncomputable def R48_9 : Array Oper := opsAt Tryd.f48 [1, 1, 1, 1, 1, 1, 1, 0, 0]
noncomputable def R48_10 : Array Oper := opsAt Tryd.f48 [1, 1, 1, 1, 1, 1, 1, 0, 1, 0, 0]
noncomputable def R48_11 : Array Oper := opsAt Tryd.f48 [1, 1, 1, 1, 1, 1, 1, 0, 1, 0, 1]
noncomputable def R48_12 : Array Oper := opsAt Tryd.f48 [1, 1, 1, 1, 1, 1, 1, 1, 0]
noncomputable def R48_13 : Array Oper := opsAt Tryd.f48 [1, 1, 1, 1, 1, 1, 1, 1, 1, 0, 0]
noncomputable def R48_14 : Array Oper := opsAt Tryd.f48 [1, 1, 1, 1, 1, 1, 1, 1, 1, 0, 1, 0, 0]
noncomputable def R48_15 : Array Oper := opsAt Tryd.f48 [1, 1, 1, 1, 1, 1, 1, 1, 1, 1, 0]
noncomputable def R48_16 : Array Oper := opsAt Tryd.f48 [1, 1, 1, 1, 1, 1, 1, 1, 1, 1, 1, 0]
noncomputable def R48_17 : Array Oper := opsAt Tryd.f48 [1, 1, 1, 1, 1, 1, 1, 1, 1, 1, 1, 1, 0]
noncomputable def R48_18 : Array Oper := opsAt Tryd.f48 [1, 1, 1, 1, 1, 1, 1, 1, 1, 1, 1, 1, 1, 0, 0]
noncomputable def R48_19 : Array Oper := opsAt Tryd.f48 [1, 1, 1, 1, 1, 1, 1, 1, 1, 1, 1, 1, 1, 0, 1, 0]
noncomputable def R48_20 : Array Oper := opsAt Tryd.f48 [1, 1, 1, 1, 1, 1, 1, 1, 1, 1, 1, 1, 1, 0, 1, 1, 0, 0]
noncomputable def R48_21 : Array Oper := opsAt Tryd.f48 [1, 1, 1, 1, 1, 1, 1, 1, 1, 1, 1, 1, 1, 1, 0]
theorem code48 : Tryd.f48.body = some (.seq (.region 0 R48_0 false) (.seq (.seq (.region 1 R48_1 false) (.cond (.tmp 20) (.seq (.region 2 R48_2 false) .ret) .skip)) (.seq (.region 3 R48_3 false) (.seq (.seq (.region 4 R48_4 false) (.cond (.tmp 25) (.seq (.region 5 R48_5 false) .ret) .skip)) (.seq (.region 6 R48_6 false) (.seq (.region 7 R48_7 false) (.seq (.region 8 R48_8 false) (.seq (.seq (.region 9 R48_9 false) (.cond (.tmp 43) (.seq (.region 10 R48_10 false) (.region 11 R48_11 false)) .skip)) (.seq (.region 12 R48_12 false) (.seq (.seq (.region 13 R48_13 false) (.cond (.tmp 54) (.seq (.region 14 R48_14 false) .ret) .skip)) (.seq (.region 15 R48_15 false) (.seq (.region 16 R48_16 false) (.seq (.region 17 R48_17 false) (.seq (.seq (.region 18 R48_18 false) (.seq (.region 19 R48_19 false) (.cond (.tmp 95) (.seq (.region 20 R48_20 false) .ret) .skip))) (.seq (.region 21 R48_21 false) .ret))))))))))))))) := by kernel_rfl
noncomputable def R49_0 : Array Oper := opsAt Tryd.f49 [0]
noncomputable def R49_1 : Array Oper := opsAt Tryd.f49 [1, 0]
noncomputable def R49_2 : Array Oper := opsAt Tryd.f49 [1, 1, 0]
noncomputable def R49_3 : Array Oper := opsAt Tryd.f49 [1, 1, 1, 0]
noncomputable def R49_4 : Array Oper := opsAt Tryd.f49 [1, 1, 1, 1, 0]
noncomputable def R49_5 : Array Oper := opsAt Tryd.f49 [1, 1, 1, 1, 1, 0, 0]
noncomputable def R49_6 : Array Oper := opsAt Tryd.f49 [1, 1, 1, 1, 1, 0, 1, 0, 0]
noncomputable def R49_7 : Array Oper := opsAt Tryd.f49 [1, 1, 1, 1, 1, 1, 0, 0]
noncomputable def R49_8 : Array Oper := opsAt Tryd.f49 [1, 1, 1, 1, 1, 1, 0, 1, 0]
noncomputable def R49_9 : Array Oper := opsAt Tryd.f49 [1, 1, 1, 1, 1, 1, 1, 0, 0]
noncomputable def R49_10 : Array Oper := opsAt Tryd.f49 [1, 1, 1, 1, 1, 1, 1, 0, 1, 0]
noncomputable def R49_11 : Array Oper := opsAt Tryd.f49 [1, 1, 1, 1, 1, 1, 1, 0, 1, 1, 0, 0]
noncomputable def R49_12 : Array Oper := opsAt Tryd.f49 [1, 1, 1, 1, 1, 1, 1, 1, 0]
theorem code49 : Tryd.f49.body = some (.seq (.region 0 R49_0 false) (.seq (.region 1 R49_1 false) (.seq (.region 2 R49_2 false) (.seq (.region 3 R49_3 false) (.seq (.region 4 R49_4 false) (.seq (.seq (.region 5 R49_5 false) (.cond (.tmp 47) (.seq (.region 6 R49_6 false) .ret) .skip)) (.seq (.seq (.region 7 R49_7 false) (.cond (.tmp 49) (.region 8 R49_8 false) .skip)) (.seq (.seq (.region 9 R49_9 false) (.seq (.region 10 R49_10 false) (.cond (.tmp 60) (.seq (.region 11 R49_11 false) .ret) .skip))) (.seq (.region 12 R49_12 false) .ret))))))))) := by kernel_rfl
noncomputable def R50_0 : Array Oper := opsAt Tryd.f50 [0]
noncomputable def R50_1 : Array Oper := opsAt Tryd.f50 [1, 0]
theorem code50 : Tryd.f50.body = some (.seq (.region 0 R50_0 false) (.seq (.region 1 R50_1 false) .ret)) := by kernel_rfl
noncomputable def R51_0 : Array Oper := opsAt Tryd.f51 [0]
noncomputable def R51_1 : Array Oper := opsAt Tryd.f51 [1, 0]
noncomputable def R51_2 : Array Oper := opsAt Tryd.f51 [1, 1, 0]
theorem code51 : Tryd.f51.body = some (.seq (.region 0 R51_0 false) (.seq (.region 1 R51_1 false) (.seq (.region 2 R51_2 false) .ret))) := by kernel_rfl
noncomputable def R52_0 : Array Oper := opsAt Tryd.f52 [0]
noncomputable def R52_1 : Array Oper := opsAt Tryd.f52 [1, 0]
noncomputable def R52_2 : Array Oper := opsAt Tryd.f52 [1, 1, 0, 0]
noncomputable def R52_3 : Array Oper := opsAt Tryd.f52 [1, 1, 0, 1, 0, 0]
noncomputable def R52_4 : Array Oper := opsAt Tryd.f52 [1, 1, 1, 0]
noncomputable def R52_5 : Array Oper := opsAt Tryd.f52 [1, 1, 1, 1, 0, 0]
noncomputable def R52_6 : Array Oper := opsAt Tryd.f52 [1, 1, 1, 1, 0, 1, 0]
noncomputable def R52_7 : Array Oper := opsAt Tryd.f52 [1, 1, 1, 1, 1, 0]
theorem code52 : Tryd.f52.body = some (.seq (.region 0 R52_0 false) (.seq (.region 1 R52_1 false) (.seq (.seq (.region 2 R52_2 false) (.cond (.tmp 20) (.seq (.region 3 R52_3 false) .ret) .skip)) (.seq (.region 4 R52_4 false) (.seq (.seq (.region 5 R52_5 false) (.cond (.tmp 22) (.region 6 R52_6 false) .skip)) (.seq (.region 7 R52_7 true) .ret)))))) := by kernel_rfl
noncomputable def R53_0 : Array Oper := opsAt Tryd.f53 [0]
noncomputable def R53_1 : Array Oper := opsAt Tryd.f53 [1, 0, 0]
noncomputable def R53_2 : Array Oper := opsAt Tryd.f53 [1, 0, 1, 0, 0]
noncomputable def R53_3 : Array Oper := opsAt Tryd.f53 [1, 1, 0]
theorem code53 : Tryd.f53.body = some (.seq (.region 0 R53_0 false) (.seq (.seq (.region 1 R53_1 false) (.cond (.tmp 13) (.seq (.region 2 R53_2 false) .ret) .skip)) (.seq (.region 3 R53_3 false) .ret))) := by kernel_rfl
noncomputable def R54_0 : Array Oper := opsAt Tryd.f54 [0]
noncomputable def R54_1 : Array Oper := opsAt Tryd.f54 [1, 0]
noncomputable def R54_2 : Array Oper := opsAt Tryd.f54 [1, 1, 0]
noncomputable def R54_3 : Array Oper := opsAt Tryd.f54 [1, 1, 1, 0, 0]
noncomputable def R54_4 : Array Oper := opsAt Tryd.f54 [1, 1, 1, 0, 1, 0, 0]
noncomputable def R54_5 : Array Oper := opsAt Tryd.f54 [1, 1, 1, 1, 0]
noncomputable def R54_6 : Array Oper := opsAt Tryd.f54 [1, 1, 1, 1, 1, 0, 0]
noncomputable def R54_7 : Array Oper := opsAt Tryd.f54 [1, 1, 1, 1, 1, 0, 1, 0, 0]
noncomputable def R54_8 : Array Oper := opsAt Tryd.f54 [1, 1, 1, 1, 1, 1, 0]
theorem code54 : Tryd.f54.body = some (.seq (.region 0 R54_0 false) (.seq (.region 1 R54_1 false) (.seq (.region 2 R54_2 false) (.seq (.seq (.region 3 R54_3 false) (.cond (.tmp 40) (.seq (.region 4 R54_4 false) .ret) .skip)) (.seq (.region 5 R54_5 false) (.seq (.seq (.region 6 R54_6 false) (.cond (.tmp 65) (.seq (.region 7 R54_7 false) .ret) .skip)) (.seq (.region 8 R54_8 false) .ret))))))) := by kernel_rfl
noncomputable def R55_0 : Array Oper := opsAt Tryd.f55 [0]
noncomputable def R55_1 : Array Oper := opsAt Tryd.f55 [1, 0]
noncomputable def R55_2 : Array Oper := opsAt Tryd.f55 [1, 1, 0]
theorem code55 : Tryd.f55.body = some (.seq (.region 0 R55_0 false) (.seq (.region 1 R55_1 false) (.seq (.region 2 R55_2 false) .ret))) := by kernel_rfl
noncomputable def R56_0 : Array Oper := opsAt Tryd.f56 [0]
noncomputable def R56_1 : Array Oper := opsAt Tryd.f56 [1, 0, 0]
noncomputable def R56_2 : Array Oper := opsAt Tryd.f56 [1, 0, 1, 0, 0, 0, 0]
noncomputable def R56_4 : Array Oper := opsAt Tryd.f56 [1, 0, 1, 0, 0, 1, 0, 0, 0]
noncomputable def R56_5 : Array Oper := opsAt Tryd.f56 [1, 0, 1, 0, 0, 1, 0, 0, 1, 0]
noncomputable def R56_6 : Array Oper := opsAt Tryd.f56 [1, 0, 1, 0, 0, 1, 0, 0, 1, 1, 0, 0]
noncomputable def R56_3 : Array Oper := opsAt Tryd.f56 [1, 0, 1, 0, 0, 1, 1]
noncomputable def L56_0 : Code := .seq (.seq (.region 2 R56_2 false) (.cond (.tmp 8) .skip (.exit 0))) (.seq (.block 1 (.seq (.region 4 R56_4 false) (.seq (.region 5 R56_5 false) (.cond (.tmp 19) (.seq (.region 6 R56_6 false) .ret) .skip)))) (.region 3 R56_3 false))
theorem lpL56_0 : loops L56_0 = 0 := rfl
noncomputable def R56_7 : Array Oper := opsAt Tryd.f56 [1, 1, 0]
noncomputable def M56_0 : Code := .seq (.region 7 R56_7 false) .ret
theorem lpM56_0 : loops M56_0 = 0 := rfl
theorem code56 : Tryd.f56.body = some (.seq (.region 0 R56_0 false) (.seq (.seq (.region 1 R56_1 false) (.block 0 (.loop L56_0))) M56_0)) := by kernel_rfl
noncomputable def R57_0 : Array Oper := opsAt Tryd.f57 [0]
noncomputable def R57_1 : Array Oper := opsAt Tryd.f57 [1, 0]
noncomputable def R57_2 : Array Oper := opsAt Tryd.f57 [1, 1, 0]
noncomputable def R57_3 : Array Oper := opsAt Tryd.f57 [1, 1, 1, 0, 0]
noncomputable def R57_4 : Array Oper := opsAt Tryd.f57 [1, 1, 1, 0, 1, 0]
noncomputable def R57_5 : Array Oper := opsAt Tryd.f57 [1, 1, 1, 1, 0]
theorem code57 : Tryd.f57.body = some (.seq (.region 0 R57_0 false) (.seq (.region 1 R57_1 false) (.seq (.region 2 R57_2 false) (.seq (.seq (.region 3 R57_3 false) (.cond (.tmp 18) (.region 4 R57_4 false) .skip)) (.seq (.region 5 R57_5 false) .ret))))) := by kernel_rfl
noncomputable def R58_0 : Array Oper := opsAt Tryd.f58 [0]
noncomputable def R58_1 : Array Oper := opsAt Tryd.f58 [1, 0]
noncomputable def R58_2 : Array Oper := opsAt Tryd.f58 [1, 1, 0]
theorem code58 : Tryd.f58.body = some (.seq (.region 0 R58_0 false) (.seq (.region 1 R58_1 false) (.seq (.region 2 R58_2 false) .ret))) := by kernel_rfl
noncomputable def R59_0 : Array Oper := opsAt Tryd.f59 [0]
noncomputable def R59_1 : Array Oper := opsAt Tryd.f59 [1, 0]
noncomputable def R59_2 : Array Oper := opsAt Tryd.f59 [1, 1, 0]
noncomputable def R59_3 : Array Oper := opsAt Tryd.f59 [1, 1, 1, 0, 0]
noncomputable def R59_4 : Array Oper := opsAt Tryd.f59 [1, 1, 1, 0, 1, 0, 0]
noncomputable def R59_5 : Array Oper := opsAt Tryd.f59 [1, 1, 1, 1, 0]
theorem code59 : Tryd.f59.body = some (.seq (.region 0 R59_0 false) (.seq (.region 1 R59_1 false) (.seq (.region 2 R59_2 false) (.seq (.seq (.region 3 R59_3 false) (.cond (.tmp 25) (.seq (.region 4 R59_4 false) .ret) .skip)) (.seq (.region 5 R59_5 false) .ret))))) := by kernel_rfl
noncomputable def R60_0 : Array Oper := opsAt Tryd.f60 [0]
noncomputable def R60_1 : Array Oper := opsAt Tryd.f60 [1, 0, 0]
noncomputable def R60_2 : Array Oper := opsAt Tryd.f60 [1, 0, 1, 0, 0]
noncomputable def R60_3 : Array Oper := opsAt Tryd.f60 [1, 1, 0]
theorem code60 : Tryd.f60.body = some (.seq (.region 0 R60_0 false) (.seq (.seq (.region 1 R60_1 false) (.cond (.tmp 13) (.seq (.region 2 R60_2 false) .ret) .skip)) (.seq (.region 3 R60_3 false) .ret))) := by kernel_rfl
noncomputable def R61_0 : Array Oper := opsAt Tryd.f61 [0]
noncomputable def R61_1 : Array Oper := opsAt Tryd.f61 [1, 0]
theorem code61 : Tryd.f61.body = some (.seq (.region 0 R61_0 false) (.seq (.region 1 R61_1 false) .ret)) := by kernel_rfl
noncomputable def R62_0 : Array Oper := opsAt Tryd.f62 [0]
noncomputable def R62_1 : Array Oper := opsAt Tryd.f62 [1, 0, 0]
noncomputable def R62_2 : Array Oper := opsAt Tryd.f62 [1, 0, 1, 0, 0]
noncomputable def R62_3 : Array Oper := opsAt Tryd.f62 [1, 1, 0]
noncomputable def R62_4 : Array Oper := opsAt Tryd.f62 [1, 1, 1, 0]
noncomputable def R62_5 : Array Oper := opsAt Tryd.f62 [1, 1, 1, 1, 0, 0]
noncomputable def R62_6 : Array Oper := opsAt Tryd.f62 [1, 1, 1, 1, 0, 1, 0, 0]
noncomputable def R62_7 : Array Oper := opsAt Tryd.f62 [1, 1, 1, 1, 1, 0]
theorem code62 : Tryd.f62.body = some (.seq (.region 0 R62_0 false) (.seq (.seq (.region 1 R62_1 false) (.cond (.tmp 7) (.seq (.region 2 R62_2 false) .ret) .skip)) (.seq (.region 3 R62_3 false) (.seq (.region 4 R62_4 false) (.seq (.seq (.region 5 R62_5 false) (.cond (.tmp 30) (.seq (.region 6 R62_6 false) .ret) .skip)) (.seq (.region 7 R62_7 false) .ret)))))) := by kernel_rfl
noncomputable def R63_0 : Array Oper := opsAt Tryd.f63 [0]
noncomputable def R63_1 : Array Oper := opsAt Tryd.f63 [1, 0, 0]
noncomputable def R63_2 : Array Oper := opsAt Tryd.f63 [1, 0, 1, 0, 0, 0, 0]
noncomputable def R63_4 : Array Oper := opsAt Tryd.f63 [1, 0, 1, 0, 0, 1, 0, 0, 0]
noncomputable def R63_5 : Array Oper := opsAt Tryd.f63 [1, 0, 1, 0, 0, 1, 0, 0, 1, 0]
noncomputable def R63_6 : Array Oper := opsAt Tryd.f63 [1, 0, 1, 0, 0, 1, 0, 0, 1, 1, 0]
noncomputable def R63_7 : Array Oper := opsAt Tryd.f63 [1, 0, 1, 0, 0, 1, 0, 0, 1, 1, 1]
noncomputable def R63_3 : Array Oper := opsAt Tryd.f63 [1, 0, 1, 0, 0, 1, 1]
noncomputable def L63_0 : Code := .seq (.seq (.region 2 R63_2 false) (.cond (.tmp 9) .skip (.exit 0))) (.seq (.block 1 (.seq (.region 4 R63_4 false) (.seq (.region 5 R63_5 false) (.seq (.region 6 R63_6 false) (.region 7 R63_7 false))))) (.region 3 R63_3 false))
theorem lpL63_0 : loops L63_0 = 0 := rfl
noncomputable def R63_8 : Array Oper := opsAt Tryd.f63 [1, 1, 0]
noncomputable def M63_0 : Code := .seq (.region 8 R63_8 false) .ret
theorem lpM63_0 : loops M63_0 = 0 := rfl
theorem code63 : Tryd.f63.body = some (.seq (.region 0 R63_0 false) (.seq (.seq (.region 1 R63_1 false) (.block 0 (.loop L63_0))) M63_0)) := by kernel_rfl
noncomputable def R64_0 : Array Oper := opsAt Tryd.f64 [0]
noncomputable def R64_1 : Array Oper := opsAt Tryd.f64 [1, 0, 0]
noncomputable def R64_2 : Array Oper := opsAt Tryd.f64 [1, 0, 1, 0, 0, 0, 0]
noncomputable def R64_4 : Array Oper := opsAt Tryd.f64 [1, 0, 1, 0, 0, 1, 0, 0, 0, 0]
noncomputable def R64_5 : Array Oper := opsAt Tryd.f64 [1, 0, 1, 0, 0, 1, 0, 0, 0, 1, 0, 0]
noncomputable def R64_6 : Array Oper := opsAt Tryd.f64 [1, 0, 1, 0, 0, 1, 0, 0, 1, 0]
noncomputable def R64_7 : Array Oper := opsAt Tryd.f64 [1, 0, 1, 0, 0, 1, 0, 0, 1, 1, 0, 0]
noncomputable def R64_8 : Array Oper := opsAt Tryd.f64 [1, 0, 1, 0, 0, 1, 0, 0, 1, 1, 0, 1, 0, 0]
noncomputable def R64_9 : Array Oper := opsAt Tryd.f64 [1, 0, 1, 0, 0, 1, 0, 0, 1, 1, 1]
noncomputable def R64_3 : Array Oper := opsAt Tryd.f64 [1, 0, 1, 0, 0, 1, 1]
noncomputable def L64_0 : Code := .seq (.seq (.region 2 R64_2 false) (.cond (.tmp 9) .skip (.exit 0))) (.seq (.block 1 (.seq (.seq (.region 4 R64_4 false) (.cond (.tmp 18) (.seq (.region 5 R64_5 false) .ret) .skip)) (.seq (.region 6 R64_6 false) (.seq (.seq (.region 7 R64_7 false) (.cond (.tmp 27) (.seq (.region 8 R64_8 false) .ret) .skip)) (.region 9 R64_9 false))))) (.region 3 R64_3 false))
theorem lpL64_0 : loops L64_0 = 0 := rfl
noncomputable def R64_10 : Array Oper := opsAt Tryd.f64 [1, 1, 0]
noncomputable def M64_0 : Code := .seq (.region 10 R64_10 false) .ret
theorem lpM64_0 : loops M64_0 = 0 := rfl
theorem code64 : Tryd.f64.body = some (.seq (.region 0 R64_0 false) (.seq (.seq (.region 1 R64_1 false) (.block 0 (.loop L64_0))) M64_0)) := by kernel_rfl
noncomputable def R77_0 : Array Oper := opsAt Tryd.f77 [0]
noncomputable def R77_1 : Array Oper := opsAt Tryd.f77 [1, 0]
noncomputable def R77_2 : Array Oper := opsAt Tryd.f77 [1, 1, 0]
noncomputable def R77_3 : Array Oper := opsAt Tryd.f77 [1, 1, 1, 0, 0]
noncomputable def R77_4 : Array Oper := opsAt Tryd.f77 [1, 1, 1, 0, 1, 0, 0, 0, 0]
noncomputable def R77_6 : Array Oper := opsAt Tryd.f77 [1, 1, 1, 0, 1, 0, 0, 1, 0, 0, 0]
noncomputable def R77_7 : Array Oper := opsAt Tryd.f77 [1, 1, 1, 0, 1, 0, 0, 1, 0, 0, 1, 0, 0]
noncomputable def R77_8 : Array Oper := opsAt Tryd.f77 [1, 1, 1, 0, 1, 0, 0, 1, 0, 0, 1, 0, 1]
noncomputable def R77_5 : Array Oper := opsAt Tryd.f77 [1, 1, 1, 0, 1, 0, 0, 1, 1]
noncomputable def L77_0 : Code := .seq (.seq (.region 4 R77_4 false) (.cond (.tmp 12) .skip (.exit 0))) (.seq (.block 1 (.seq (.region 6 R77_6 false) (.cond (.tmp 19) (.seq (.region 7 R77_7 false) (.region 8 R77_8 false)) .skip))) (.region 5 R77_5 false))
theorem lpL77_0 : loops L77_0 = 0 := rfl
noncomputable def R77_9 : Array Oper := opsAt Tryd.f77 [1, 1, 1, 1, 0]
noncomputable def M77_0 : Code := .seq (.region 9 R77_9 false) .ret
theorem lpM77_0 : loops M77_0 = 0 := rfl
theorem code77 : Tryd.f77.body = some (.seq (.region 0 R77_0 false) (.seq (.region 1 R77_1 false) (.seq (.region 2 R77_2 false) (.seq (.seq (.region 3 R77_3 false) (.block 0 (.loop L77_0))) M77_0)))) := by kernel_rfl
noncomputable def R88_0 : Array Oper := opsAt Tryd.f88 [0]
noncomputable def R88_1 : Array Oper := opsAt Tryd.f88 [1, 0]
noncomputable def R88_2 : Array Oper := opsAt Tryd.f88 [1, 1, 0, 0]
noncomputable def R88_3 : Array Oper := opsAt Tryd.f88 [1, 1, 0, 1, 0, 0]
noncomputable def R88_4 : Array Oper := opsAt Tryd.f88 [1, 1, 1, 0, 0]
noncomputable def R88_5 : Array Oper := opsAt Tryd.f88 [1, 1, 1, 0, 1, 0, 0, 0, 0]
noncomputable def R88_7 : Array Oper := opsAt Tryd.f88 [1, 1, 1, 0, 1, 0, 0, 1, 0, 0, 0]
noncomputable def R88_8 : Array Oper := opsAt Tryd.f88 [1, 1, 1, 0, 1, 0, 0, 1, 0, 0, 1, 0, 0]
noncomputable def R88_9 : Array Oper := opsAt Tryd.f88 [1, 1, 1, 0, 1, 0, 0, 1, 0, 0, 1, 0, 1, 0, 0]
noncomputable def R88_10 : Array Oper := opsAt Tryd.f88 [1, 1, 1, 0, 1, 0, 0, 1, 0, 0, 1, 1]
noncomputable def R88_6 : Array Oper := opsAt Tryd.f88 [1, 1, 1, 0, 1, 0, 0, 1, 1]
noncomputable def L88_0 : Code := .seq (.seq (.region 5 R88_5 false) (.cond (.tmp 12) .skip (.exit 0))) (.seq (.block 1 (.seq (.region 7 R88_7 false) (.seq (.seq (.region 8 R88_8 false) (.cond (.tmp 26) (.seq (.region 9 R88_9 false) .ret) .skip)) (.region 10 R88_10 false)))) (.region 6 R88_6 false))
theorem lpL88_0 : loops L88_0 = 0 := rfl
noncomputable def R88_11 : Array Oper := opsAt Tryd.f88 [1, 1, 1, 1, 0]
noncomputable def M88_0 : Code := .seq (.region 11 R88_11 false) .ret
theorem lpM88_0 : loops M88_0 = 0 := rfl
theorem code88 : Tryd.f88.body = some (.seq (.region 0 R88_0 false) (.seq (.region 1 R88_1 false) (.seq (.seq (.region 2 R88_2 false) (.cond (.tmp 8) (.seq (.region 3 R88_3 false) .ret) .skip)) (.seq (.seq (.region 4 R88_4 false) (.block 0 (.loop L88_0))) M88_0)))) := by kernel_rfl
noncomputable def R89_0 : Array Oper := opsAt Tryd.f89 [0]
noncomputable def R89_1 : Array Oper := opsAt Tryd.f89 [1, 0]
noncomputable def R89_2 : Array Oper := opsAt Tryd.f89 [1, 1, 0, 0]
noncomputable def R89_3 : Array Oper := opsAt Tryd.f89 [1, 1, 0, 1, 0, 0]
noncomputable def R89_4 : Array Oper := opsAt Tryd.f89 [1, 1, 0, 1, 0, 1, 0, 0]
noncomputable def R89_5 : Array Oper := opsAt Tryd.f89 [1, 1, 0, 1, 0, 1, 1, 0]
noncomputable def R89_6 : Array Oper := opsAt Tryd.f89 [1, 1, 0, 1, 0, 1, 1, 1, 0, 0]
noncomputable def R89_7 : Array Oper := opsAt Tryd.f89 [1, 1, 0, 1, 0, 1, 1, 1, 1, 0]
noncomputable def R89_8 : Array Oper := opsAt Tryd.f89 [1, 1, 0, 1, 0, 1, 1, 1, 1, 1, 0, 0]
noncomputable def R89_9 : Array Oper := opsAt Tryd.f89 [1, 1, 1, 0]
noncomputable def R89_10 : Array Oper := opsAt Tryd.f89 [1, 1, 1, 1, 0]
noncomputable def R89_11 : Array Oper := opsAt Tryd.f89 [1, 1, 1, 1, 1, 0, 0]
noncomputable def R89_12 : Array Oper := opsAt Tryd.f89 [1, 1, 1, 1, 1, 0, 1, 0, 0]
noncomputable def R89_13 : Array Oper := opsAt Tryd.f89 [1, 1, 1, 1, 1, 0, 1, 0, 1, 0, 0]
noncomputable def R89_14 : Array Oper := opsAt Tryd.f89 [1, 1, 1, 1, 1, 0, 1, 0, 1, 1, 0]
noncomputable def R89_15 : Array Oper := opsAt Tryd.f89 [1, 1, 1, 1, 1, 0, 1, 0, 1, 1, 1, 0, 0]
noncomputable def R89_16 : Array Oper := opsAt Tryd.f89 [1, 1, 1, 1, 1, 1, 0, 0]
noncomputable def R89_17 : Array Oper := opsAt Tryd.f89 [1, 1, 1, 1, 1, 1, 0, 1, 0]
noncomputable def R89_18 : Array Oper := opsAt Tryd.f89 [1, 1, 1, 1, 1, 1, 1, 0, 0]
noncomputable def R89_19 : Array Oper := opsAt Tryd.f89 [1, 1, 1, 1, 1, 1, 1, 0, 1, 0, 0]
noncomputable def R89_20 : Array Oper := opsAt Tryd.f89 [1, 1, 1, 1, 1, 1, 1, 1, 0]
theorem code89 : Tryd.f89.body = some (.seq (.region 0 R89_0 false) (.seq (.region 1 R89_1 false) (.seq (.seq (.region 2 R89_2 false) (.block 0 (.seq (.region 3 R89_3 false) (.cond (.tmp 14) (.seq (.region 4 R89_4 false) .ret) (.seq (.region 5 R89_5 false) (.cond (.tmp 22) (.seq (.region 6 R89_6 false) .ret) (.seq (.region 7 R89_7 false) (.cond (.tmp 27) (.seq (.region 8 R89_8 true) .ret) .skip)))))))) (.seq (.region 9 R89_9 false) (.seq (.region 10 R89_10 false) (.seq (.seq (.region 11 R89_11 false) (.block 1 (.seq (.region 12 R89_12 false) (.cond (.tmp 53) (.seq (.region 13 R89_13 false) .ret) (.seq (.region 14 R89_14 false) (.cond (.tmp 61) (.seq (.region 15 R89_15 false) .ret) .skip)))))) (.seq (.seq (.region 16 R89_16 false) (.cond (.tmp 74) (.region 17 R89_17 false) .skip)) (.seq (.seq (.region 18 R89_18 false) (.cond (.tmp 80) (.seq (.region 19 R89_19 false) .ret) .skip)) (.seq (.region 20 R89_20 false) .ret))))))))) := by kernel_rfl
noncomputable def R91_0 : Array Oper := opsAt Tryd.f91 [0]
noncomputable def R91_1 : Array Oper := opsAt Tryd.f91 [1, 0, 0]
noncomputable def R91_2 : Array Oper := opsAt Tryd.f91 [1, 0, 1, 0, 0]
noncomputable def R91_3 : Array Oper := opsAt Tryd.f91 [1, 1, 0]
noncomputable def R91_4 : Array Oper := opsAt Tryd.f91 [1, 1, 1, 0, 0]
noncomputable def R91_5 : Array Oper := opsAt Tryd.f91 [1, 1, 1, 0, 1, 0, 0, 0]
noncomputable def R91_6 : Array Oper := opsAt Tryd.f91 [1, 1, 1, 0, 1, 0, 0, 1, 1, 0, 0, 0]
noncomputable def R91_7 : Array Oper := opsAt Tryd.f91 [1, 1, 1, 0, 1, 0, 0, 1, 1, 0, 0, 1, 0]
noncomputable def R91_8 : Array Oper := opsAt Tryd.f91 [1, 1, 1, 0, 1, 0, 0, 1, 1, 0, 0, 1, 1, 0, 0]
noncomputable def R91_9 : Array Oper := opsAt Tryd.f91 [1, 1, 1, 0, 1, 0, 0, 1, 1, 0, 0, 1, 1, 0, 1, 0, 0]
noncomputable def R91_10 : Array Oper := opsAt Tryd.f91 [1, 1, 1, 0, 1, 0, 0, 1, 1, 0, 0, 1, 1, 1]
noncomputable def R91_11 : Array Oper := opsAt Tryd.f91 [1, 1, 1, 0, 1, 0, 0, 1, 1, 1]
noncomputable def L91_0 : Code := .seq (.region 5 R91_5 false) (.seq (.cond (.tmp 12) .skip (.exit 0)) (.seq (.block 1 (.seq (.region 6 R91_6 false) (.seq (.region 7 R91_7 false) (.seq (.seq (.region 8 R91_8 false) (.cond (.tmp 25) (.seq (.region 9 R91_9 false) .ret) .skip)) (.region 10 R91_10 false))))) (.region 11 R91_11 false)))
theorem lpL91_0 : loops L91_0 = 0 := rfl
noncomputable def R91_12 : Array Oper := opsAt Tryd.f91 [1, 1, 1, 1, 0]
noncomputable def M91_0 : Code := .seq (.region 12 R91_12 false) .ret
theorem lpM91_0 : loops M91_0 = 0 := rfl
theorem code91 : Tryd.f91.body = some (.seq (.region 0 R91_0 false) (.seq (.seq (.region 1 R91_1 false) (.cond (.tmp 8) (.seq (.region 2 R91_2 false) .ret) .skip)) (.seq (.region 3 R91_3 false) (.seq (.seq (.region 4 R91_4 false) (.block 0 (.loop L91_0))) M91_0)))) := by kernel_rfl
noncomputable def R92_0 : Array Oper := opsAt Tryd.f92 [0]
noncomputable def R92_1 : Array Oper := opsAt Tryd.f92 [1, 0]
noncomputable def R92_2 : Array Oper := opsAt Tryd.f92 [1, 1, 0]
noncomputable def R92_3 : Array Oper := opsAt Tryd.f92 [1, 1, 1, 0, 0]
noncomputable def R92_4 : Array Oper := opsAt Tryd.f92 [1, 1, 1, 0, 1, 0, 0, 0]
noncomputable def R92_5 : Array Oper := opsAt Tryd.f92 [1, 1, 1, 0, 1, 0, 0, 1, 1, 0, 0, 0]
noncomputable def R92_6 : Array Oper := opsAt Tryd.f92 [1, 1, 1, 0, 1, 0, 0, 1, 1, 0, 0, 1, 0]
noncomputable def R92_7 : Array Oper := opsAt Tryd.f92 [1, 1, 1, 0, 1, 0, 0, 1, 1, 0, 0, 1, 1, 0]
noncomputable def R92_8 : Array Oper := opsAt Tryd.f92 [1, 1, 1, 0, 1, 0, 0, 1, 1, 0, 0, 1, 1, 1, 0]
noncomputable def R92_9 : Array Oper := opsAt Tryd.f92 [1, 1, 1, 0, 1, 0, 0, 1, 1, 0, 0, 1, 1, 1, 1, 0, 0]
noncomputable def R92_10 : Array Oper := opsAt Tryd.f92 [1, 1, 1, 0, 1, 0, 0, 1, 1, 0, 0, 1, 1, 1, 1, 0, 1, 0, 0]
noncomputable def R92_11 : Array Oper := opsAt Tryd.f92 [1, 1, 1, 0, 1, 0, 0, 1, 1, 0, 0, 1, 1, 1, 1, 0, 1, 0, 1, 0]
noncomputable def R92_12 : Array Oper := opsAt Tryd.f92 [1, 1, 1, 0, 1, 0, 0, 1, 1, 0, 0, 1, 1, 1, 1, 0, 1, 0, 1, 1, 0]
noncomputable def R92_13 : Array Oper := opsAt Tryd.f92 [1, 1, 1, 0, 1, 0, 0, 1, 1, 0, 0, 1, 1, 1, 1, 0, 1, 0, 1, 1, 1, 0]
noncomputable def R92_14 : Array Oper := opsAt Tryd.f92 [1, 1, 1, 0, 1, 0, 0, 1, 1, 0, 0, 1, 1, 1, 1, 0, 1, 0, 1, 1, 1, 1, 0, 0]
noncomputable def R92_15 : Array Oper := opsAt Tryd.f92 [1, 1, 1, 0, 1, 0, 0, 1, 1, 0, 0, 1, 1, 1, 1, 0, 1, 0, 1, 1, 1, 1, 0, 1, 1]
noncomputable def R92_16 : Array Oper := opsAt Tryd.f92 [1, 1, 1, 0, 1, 0, 0, 1, 1, 0, 0, 1, 1, 1, 1, 0, 1, 0, 1, 1, 1, 1, 1, 0, 0]
noncomputable def R92_17 : Array Oper := opsAt Tryd.f92 [1, 1, 1, 0, 1, 0, 0, 1, 1, 0, 0, 1, 1, 1, 1, 0, 1, 0, 1, 1, 1, 1, 1, 0, 1, 0, 0]
noncomputable def R92_18 : Array Oper := opsAt Tryd.f92 [1, 1, 1, 0, 1, 0, 0, 1, 1, 0, 0, 1, 1, 1, 1, 0, 1, 0, 1, 1, 1, 1, 1, 0, 1, 0, 1, 0]
noncomputable def R92_19 : Array Oper := opsAt Tryd.f92 [1, 1, 1, 0, 1, 0, 0, 1, 1, 0, 0, 1, 1, 1, 1, 0, 1, 0, 1, 1, 1, 1, 1, 0, 1, 1, 0]
noncomputable def R92_20 : Array Oper := opsAt Tryd.f92 [1, 1, 1, 0, 1, 0, 0, 1, 1, 0, 0, 1, 1, 1, 1, 0, 1, 0, 1, 1, 1, 1, 1, 0, 1, 1, 1, 0, 0]
noncomputable def R92_21 : Array Oper := opsAt Tryd.f92 [1, 1, 1, 0, 1, 0, 0, 1, 1, 0, 0, 1, 1, 1, 1, 0, 1, 0, 1, 1, 1, 1, 1, 0, 1, 1, 1, 0, 1, 0]
noncomputable def R92_22 : Array Oper := opsAt Tryd.f92 [1, 1, 1, 0, 1, 0, 0, 1, 1, 0, 0, 1, 1, 1, 1, 0, 1, 0, 1, 1, 1, 1, 1, 0, 1, 1, 1, 1]
noncomputable def R92_23 : Array Oper := opsAt Tryd.f92 [1, 1, 1, 0, 1, 0, 0, 1, 1, 0, 0, 1, 1, 1, 1, 0, 1, 0, 1, 1, 1, 1, 1, 1, 0]
noncomputable def R92_24 : Array Oper := opsAt Tryd.f92 [1, 1, 1, 0, 1, 0, 0, 1, 1, 0, 0, 1, 1, 1, 1, 0, 1, 0, 1, 1, 1, 1, 1, 1, 1, 0]
noncomputable def R92_25 : Array Oper := opsAt Tryd.f92 [1, 1, 1, 0, 1, 0, 0, 1, 1, 0, 0, 1, 1, 1, 1, 0, 1, 0, 1, 1, 1, 1, 1, 1, 1, 1, 0]
noncomputable def R92_26 : Array Oper := opsAt Tryd.f92 [1, 1, 1, 0, 1, 0, 0, 1, 1, 0, 0, 1, 1, 1, 1, 0, 1, 0, 1, 1, 1, 1, 1, 1, 1, 1, 1, 0]
noncomputable def R92_27 : Array Oper := opsAt Tryd.f92 [1, 1, 1, 0, 1, 0, 0, 1, 1, 0, 0, 1, 1, 1, 1, 0, 1, 0, 1, 1, 1, 1, 1, 1, 1, 1, 1, 1, 0]
noncomputable def R92_28 : Array Oper := opsAt Tryd.f92 [1, 1, 1, 0, 1, 0, 0, 1, 1, 0, 0, 1, 1, 1, 1, 0, 1, 0, 1, 1, 1, 1, 1, 1, 1, 1, 1, 1, 1, 0]
noncomputable def R92_29 : Array Oper := opsAt Tryd.f92 [1, 1, 1, 0, 1, 0, 0, 1, 1, 0, 0, 1, 1, 1, 1, 1]
noncomputable def R92_30 : Array Oper := opsAt Tryd.f92 [1, 1, 1, 0, 1, 0, 0, 1, 1, 1]
noncomputable def L92_0 : Code := .seq (.region 4 R92_4 false) (.seq (.cond (.tmp 16) .skip (.exit 0)) (.seq (.block 1 (.seq (.region 5 R92_5 false) (.seq (.region 6 R92_6 false) (.seq (.region 7 R92_7 true) (.seq (.region 8 R92_8 false) (.seq (.seq (.region 9 R92_9 false) (.block 2 (.seq (.region 10 R92_10 false) (.cond (.tmp 32) (.region 11 R92_11 false) (.seq (.region 12 R92_12 false) (.cond (.tmp 40) (.region 13 R92_13 false) (.seq (.seq (.region 14 R92_14 false) (.cond (.tmp 45) .skip (.region 15 R92_15 false))) (.cond (.tmp 45) (.seq (.region 16 R92_16 false) (.seq (.seq (.region 17 R92_17 false) (.cond (.tmp 50) (.region 18 R92_18 false) .skip)) (.seq (.region 19 R92_19 false) (.seq (.seq (.region 20 R92_20 false) (.cond (.tmp 56) (.region 21 R92_21 false) .skip)) (.region 22 R92_22 false))))) (.seq (.region 23 R92_23 false) (.cond (.tmp 67) (.region 24 R92_24 true) (.seq (.region 25 R92_25 false) (.cond (.tmp 79) (.region 26 R92_26 true) (.seq (.region 27 R92_27 false) (.cond (.tmp 91) (.region 28 R92_28 true) .skip)))))))))))))) (.region 29 R92_29 true))))))) (.region 30 R92_30 false)))
theorem lpL92_0 : loops L92_0 = 0 := rfl
noncomputable def R92_31 : Array Oper := opsAt Tryd.f92 [1, 1, 1, 1, 0]
noncomputable def M92_0 : Code := .seq (.region 31 R92_31 false) .ret
theorem lpM92_0 : loops M92_0 = 0 := rfl
theorem code92 : Tryd.f92.body = some (.seq (.region 0 R92_0 false) (.seq (.region 1 R92_1 false) (.seq (.region 2 R92_2 false) (.seq (.seq (.region 3 R92_3 false) (.block 0 (.loop L92_0))) M92_0)))) := by kernel_rfl
noncomputable def R93_0 : Array Oper := opsAt Tryd.f93 [0]
noncomputable def R93_1 : Array Oper := opsAt Tryd.f93 [1, 0, 0]
noncomputable def R93_2 : Array Oper := opsAt Tryd.f93 [1, 0, 1, 0, 0]
noncomputable def R93_3 : Array Oper := opsAt Tryd.f93 [1, 1, 0, 0]
noncomputable def R93_4 : Array Oper := opsAt Tryd.f93 [1, 1, 0, 1, 0, 0]
noncomputable def R93_5 : Array Oper := opsAt Tryd.f93 [1, 1, 1, 0]
theorem code93 : Tryd.f93.body = some (.seq (.region 0 R93_0 false) (.seq (.seq (.region 1 R93_1 false) (.cond (.tmp 9) (.seq (.region 2 R93_2 false) .ret) .skip)) (.seq (.seq (.region 3 R93_3 false) (.cond (.tmp 14) (.seq (.region 4 R93_4 false) .ret) .skip)) (.seq (.region 5 R93_5 false) .ret)))) := by kernel_rfl
noncomputable def R94_0 : Array Oper := opsAt Tryd.f94 [0]
noncomputable def R94_1 : Array Oper := opsAt Tryd.f94 [1, 0]
theorem code94 : Tryd.f94.body = some (.seq (.region 0 R94_0 false) (.seq (.region 1 R94_1 false) .ret)) := by kernel_rfl
noncomputable def R95_0 : Array Oper := opsAt Tryd.f95 [0]
noncomputable def R95_1 : Array Oper := opsAt Tryd.f95 [1, 0]
theorem code95 : Tryd.f95.body = some (.seq (.region 0 R95_0 false) (.seq (.region 1 R95_1 false) .ret)) := by kernel_rfl
noncomputable def R96_0 : Array Oper := opsAt Tryd.f96 [0]
noncomputable def R96_1 : Array Oper := opsAt Tryd.f96 [1, 0, 0]
noncomputable def R96_2 : Array Oper := opsAt Tryd.f96 [1, 0, 1, 0, 0]
noncomputable def R96_3 : Array Oper := opsAt Tryd.f96 [1, 1, 0]
noncomputable def R96_4 : Array Oper := opsAt Tryd.f96 [1, 1, 1, 0, 0]
noncomputable def R96_5 : Array Oper := opsAt Tryd.f96 [1, 1, 1, 0, 1, 0]
noncomputable def R96_6 : Array Oper := opsAt Tryd.f96 [1, 1, 1, 1, 0]
theorem code96 : Tryd.f96.body = some (.seq (.region 0 R96_0 false) (.seq (.seq (.region 1 R96_1 false) (.cond (.tmp 7) (.seq (.region 2 R96_2 false) .ret) .skip)) (.seq (.region 3 R96_3 false) (.seq (.seq (.region 4 R96_4 false) (.cond (.tmp 11) (.region 5 R96_5 false) .skip)) (.seq (.region 6 R96_6 false) .ret))))) := by kernel_rfl
noncomputable def R97_0 : Array Oper := opsAt Tryd.f97 [0]
noncomputable def R97_1 : Array Oper := opsAt Tryd.f97 [1, 0]
theorem code97 : Tryd.f97.body = some (.seq (.region 0 R97_0 false) (.seq (.region 1 R97_1 false) .ret)) := by kernel_rfl
noncomputable def R98_0 : Array Oper := opsAt Tryd.f98 [0]
noncomputable def R98_1 : Array Oper := opsAt Tryd.f98 [1, 0]
theorem code98 : Tryd.f98.body = some (.seq (.region 0 R98_0 false) (.seq (.region 1 R98_1 false) .ret)) := by kernel_rfl
noncomputable def R100_0 : Array Oper := opsAt Tryd.f100 [0]
noncomputable def R100_1 : Array Oper := opsAt Tryd.f100 [1, 0, 0]
noncomputable def R100_2 : Array Oper := opsAt Tryd.f100 [1, 0, 1, 0, 0, 0, 0]
noncomputable def R100_4 : Array Oper := opsAt Tryd.f100 [1, 0, 1, 0, 0, 1, 0, 0, 0]
noncomputable def R100_5 : Array Oper := opsAt Tryd.f100 [1, 0, 1, 0, 0, 1, 0, 0, 1, 0, 0]
noncomputable def R100_3 : Array Oper := opsAt Tryd.f100 [1, 0, 1, 0, 0, 1, 1]
noncomputable def L100_0 : Code := .seq (.seq (.region 2 R100_2 false) (.cond (.tmp 9) .skip (.exit 0))) (.seq (.block 1 (.seq (.region 4 R100_4 false) (.cond (.tmp 16) (.seq (.region 5 R100_5 false) .ret) .skip))) (.region 3 R100_3 false))
theorem lpL100_0 : loops L100_0 = 0 := rfl
noncomputable def R100_6 : Array Oper := opsAt Tryd.f100 [1, 1, 0]
noncomputable def M100_0 : Code := .seq (.region 6 R100_6 false) .ret
theorem lpM100_0 : loops M100_0 = 0 := rfl
theorem code100 : Tryd.f100.body = some (.seq (.region 0 R100_0 false) (.seq (.seq (.region 1 R100_1 false) (.block 0 (.loop L100_0))) M100_0)) := by kernel_rfl
noncomputable def R101_0 : Array Oper := opsAt Tryd.f101 [0]
noncomputable def R101_1 : Array Oper := opsAt Tryd.f101 [1, 0]
noncomputable def R101_2 : Array Oper := opsAt Tryd.f101 [1, 1, 0, 0]
noncomputable def R101_3 : Array Oper := opsAt Tryd.f101 [1, 1, 0, 1, 0]
noncomputable def R101_4 : Array Oper := opsAt Tryd.f101 [1, 1, 1, 0, 0]
noncomputable def R101_5 : Array Oper := opsAt Tryd.f101 [1, 1, 1, 0, 1, 0, 0]
noncomputable def R101_6 : Array Oper := opsAt Tryd.f101 [1, 1, 1, 1, 0]
noncomputable def R101_7 : Array Oper := opsAt Tryd.f101 [1, 1, 1, 1, 1, 0, 0]
noncomputable def R101_8 : Array Oper := opsAt Tryd.f101 [1, 1, 1, 1, 1, 0, 1, 0, 0, 0, 0]
noncomputable def R101_10 : Array Oper := opsAt Tryd.f101 [1, 1, 1, 1, 1, 0, 1, 0, 0, 1, 0, 0, 0, 0]
noncomputable def R101_11 : Array Oper := opsAt Tryd.f101 [1, 1, 1, 1, 1, 0, 1, 0, 0, 1, 0, 0, 0, 1, 0, 0]
noncomputable def R101_12 : Array Oper := opsAt Tryd.f101 [1, 1, 1, 1, 1, 0, 1, 0, 0, 1, 0, 0, 1]
noncomputable def R101_9 : Array Oper := opsAt Tryd.f101 [1, 1, 1, 1, 1, 0, 1, 0, 0, 1, 1]
noncomputable def L101_0 : Code := .seq (.seq (.region 8 R101_8 false) (.cond (.tmp 25) .skip (.exit 0))) (.seq (.block 1 (.seq (.seq (.region 10 R101_10 false) (.cond (.tmp 37) (.seq (.region 11 R101_11 false) .ret) .skip)) (.region 12 R101_12 false))) (.region 9 R101_9 false))
theorem lpL101_0 : loops L101_0 = 0 := rfl
noncomputable def R101_13 : Array Oper := opsAt Tryd.f101 [1, 1, 1, 1, 1, 1, 0, 0]
noncomputable def R101_14 : Array Oper := opsAt Tryd.f101 [1, 1, 1, 1, 1, 1, 0, 1, 0]
noncomputable def R101_15 : Array Oper := opsAt Tryd.f101 [1, 1, 1, 1, 1, 1, 1, 0, 0]
noncomputable def R101_16 : Array Oper := opsAt Tryd.f101 [1, 1, 1, 1, 1, 1, 1, 0, 1, 0, 0]
noncomputable def R101_17 : Array Oper := opsAt Tryd.f101 [1, 1, 1, 1, 1, 1, 1, 1, 0]
noncomputable def M101_0 : Code := .seq (.seq (.region 13 R101_13 false) (.cond (.tmp 50) (.region 14 R101_14 false) .skip)) (.seq (.seq (.region 15 R101_15 false) (.cond (.tmp 56) (.seq (.region 16 R101_16 false) .ret) .skip)) (.seq (.region 17 R101_17 false) .ret))
theorem lpM101_0 : loops M101_0 = 0 := rfl
theorem code101 : Tryd.f101.body = some (.seq (.region 0 R101_0 false) (.seq (.region 1 R101_1 false) (.seq (.seq (.region 2 R101_2 false) (.cond (.tmp 15) (.region 3 R101_3 false) .skip)) (.seq (.seq (.region 4 R101_4 false) (.cond (.tmp 21) (.seq (.region 5 R101_5 false) .ret) .skip)) (.seq (.region 6 R101_6 false) (.seq (.seq (.region 7 R101_7 false) (.block 0 (.loop L101_0))) M101_0)))))) := by kernel_rfl
noncomputable def R103_0 : Array Oper := opsAt Tryd.f103 [0]
noncomputable def R103_1 : Array Oper := opsAt Tryd.f103 [1, 0]
theorem code103 : Tryd.f103.body = some (.seq (.region 0 R103_0 false) (.seq (.region 1 R103_1 false) .ret)) := by kernel_rfl
noncomputable def R104_0 : Array Oper := opsAt Tryd.f104 [0]
noncomputable def R104_1 : Array Oper := opsAt Tryd.f104 [1, 0]
theorem code104 : Tryd.f104.body = some (.seq (.region 0 R104_0 false) (.seq (.region 1 R104_1 false) .ret)) := by kernel_rfl
noncomputable def R105_0 : Array Oper := opsAt Tryd.f105 [0]
noncomputable def R105_1 : Array Oper := opsAt Tryd.f105 [1, 0]
theorem code105 : Tryd.f105.body = some (.seq (.region 0 R105_0 false) (.seq (.region 1 R105_1 false) .ret)) := by kernel_rfl
noncomputable def R106_0 : Array Oper := opsAt Tryd.f106 [0]
noncomputable def R106_1 : Array Oper := opsAt Tryd.f106 [1, 0, 0]
noncomputable def R106_2 : Array Oper := opsAt Tryd.f106 [1, 0, 1, 0, 0]
noncomputable def R106_3 : Array Oper := opsAt Tryd.f106 [1, 1, 0, 0]
noncomputable def R106_4 : Array Oper := opsAt Tryd.f106 [1, 1, 0, 1, 0, 0]
noncomputable def R106_5 : Array Oper := opsAt Tryd.f106 [1, 1, 1, 0]
theorem code106 : Tryd.f106.body = some (.seq (.region 0 R106_0 false) (.seq (.seq (.region 1 R106_1 false) (.cond (.tmp 4) (.seq (.region 2 R106_2 false) .ret) .skip)) (.seq (.seq (.region 3 R106_3 false) (.cond (.tmp 10) (.seq (.region 4 R106_4 false) .ret) .skip)) (.seq (.region 5 R106_5 true) .ret)))) := by kernel_rfl
noncomputable def R107_0 : Array Oper := opsAt Tryd.f107 [0]
noncomputable def R107_1 : Array Oper := opsAt Tryd.f107 [1, 0]
noncomputable def R107_2 : Array Oper := opsAt Tryd.f107 [1, 1, 0, 0]
noncomputable def R107_3 : Array Oper := opsAt Tryd.f107 [1, 1, 0, 1, 0, 0, 0, 0]
noncomputable def R107_5 : Array Oper := opsAt Tryd.f107 [1, 1, 0, 1, 0, 0, 1, 0, 0]
noncomputable def R107_4 : Array Oper := opsAt Tryd.f107 [1, 1, 0, 1, 0, 0, 1, 1]
noncomputable def L107_0 : Code := .seq (.seq (.region 3 R107_3 false) (.cond (.tmp 8) .skip (.exit 0))) (.seq (.block 1 (.region 5 R107_5 false)) (.region 4 R107_4 false))
theorem lpL107_0 : loops L107_0 = 0 := rfl
noncomputable def R107_6 : Array Oper := opsAt Tryd.f107 [1, 1, 1, 0]
noncomputable def M107_0 : Code := .seq (.region 6 R107_6 false) .ret
theorem lpM107_0 : loops M107_0 = 0 := rfl
theorem code107 : Tryd.f107.body = some (.seq (.region 0 R107_0 false) (.seq (.region 1 R107_1 false) (.seq (.seq (.region 2 R107_2 false) (.block 0 (.loop L107_0))) M107_0))) := by kernel_rfl
noncomputable def R108_0 : Array Oper := opsAt Tryd.f108 [0]
noncomputable def R108_1 : Array Oper := opsAt Tryd.f108 [1, 0]
theorem code108 : Tryd.f108.body = some (.seq (.region 0 R108_0 false) (.seq (.region 1 R108_1 false) .ret)) := by kernel_rfl
noncomputable def R109_0 : Array Oper := opsAt Tryd.f109 [0]
noncomputable def R109_1 : Array Oper := opsAt Tryd.f109 [1, 0]
theorem code109 : Tryd.f109.body = some (.seq (.region 0 R109_0 false) (.seq (.region 1 R109_1 false) .ret)) := by kernel_rfl
noncomputable def R110_0 : Array Oper := opsAt Tryd.f110 [0]
noncomputable def R110_1 : Array Oper := opsAt Tryd.f110 [1, 0, 0]
noncomputable def R110_2 : Array Oper := opsAt Tryd.f110 [1, 0, 1, 0, 0, 0, 0]
noncomputable def R110_4 : Array Oper := opsAt Tryd.f110 [1, 0, 1, 0, 0, 1, 0, 0, 0]
noncomputable def R110_5 : Array Oper := opsAt Tryd.f110 [1, 0, 1, 0, 0, 1, 0, 0, 1, 0, 0]
noncomputable def R110_3 : Array Oper := opsAt Tryd.f110 [1, 0, 1, 0, 0, 1, 1]
noncomputable def L110_0 : Code := .seq (.seq (.region 2 R110_2 false) (.cond (.tmp 6) .skip (.exit 0))) (.seq (.block 1 (.seq (.region 4 R110_4 false) (.cond (.tmp 14) (.seq (.region 5 R110_5 false) .ret) .skip))) (.region 3 R110_3 false))
theorem lpL110_0 : loops L110_0 = 0 := rfl
noncomputable def R110_6 : Array Oper := opsAt Tryd.f110 [1, 1, 0]
noncomputable def M110_0 : Code := .seq (.region 6 R110_6 false) .ret
theorem lpM110_0 : loops M110_0 = 0 := rfl
theorem code110 : Tryd.f110.body = some (.seq (.region 0 R110_0 false) (.seq (.seq (.region 1 R110_1 false) (.block 0 (.loop L110_0))) M110_0)) := by kernel_rfl
noncomputable def R111_0 : Array Oper := opsAt Tryd.f111 [0]
noncomputable def R111_1 : Array Oper := opsAt Tryd.f111 [1, 0]
theorem code111 : Tryd.f111.body = some (.seq (.region 0 R111_0 false) (.seq (.region 1 R111_1 false) .ret)) := by kernel_rfl
noncomputable def R112_0 : Array Oper := opsAt Tryd.f112 [0]
noncomputable def R112_1 : Array Oper := opsAt Tryd.f112 [1, 0]
theorem code112 : Tryd.f112.body = some (.seq (.region 0 R112_0 false) (.seq (.region 1 R112_1 false) .ret)) := by kernel_rfl
noncomputable def R113_0 : Array Oper := opsAt Tryd.f113 [0]
noncomputable def R113_1 : Array Oper := opsAt Tryd.f113 [1, 0]
theorem code113 : Tryd.f113.body = some (.seq (.region 0 R113_0 false) (.seq (.region 1 R113_1 false) .ret)) := by kernel_rfl
noncomputable def R114_0 : Array Oper := opsAt Tryd.f114 [0]
noncomputable def R114_1 : Array Oper := opsAt Tryd.f114 [1, 0, 0]
noncomputable def R114_2 : Array Oper := opsAt Tryd.f114 [1, 0, 1, 0, 0]
noncomputable def R114_3 : Array Oper := opsAt Tryd.f114 [1, 1, 0]
theorem code114 : Tryd.f114.body = some (.seq (.region 0 R114_0 false) (.seq (.seq (.region 1 R114_1 false) (.cond (.tmp 4) (.seq (.region 2 R114_2 false) .ret) .skip)) (.seq (.region 3 R114_3 false) .ret))) := by kernel_rfl
noncomputable def R115_0 : Array Oper := opsAt Tryd.f115 [0]
noncomputable def R115_1 : Array Oper := opsAt Tryd.f115 [1, 0, 0]
noncomputable def R115_2 : Array Oper := opsAt Tryd.f115 [1, 0, 1, 0, 0]
noncomputable def R115_3 : Array Oper := opsAt Tryd.f115 [1, 0, 1, 0, 1, 0, 0]
noncomputable def R115_4 : Array Oper := opsAt Tryd.f115 [1, 0, 1, 0, 1, 1, 0]
noncomputable def R115_5 : Array Oper := opsAt Tryd.f115 [1, 0, 1, 0, 1, 1, 1, 0, 0]
noncomputable def R115_6 : Array Oper := opsAt Tryd.f115 [1, 0, 1, 0, 1, 1, 1, 1, 0]
noncomputable def R115_7 : Array Oper := opsAt Tryd.f115 [1, 0, 1, 0, 1, 1, 1, 1, 1, 0, 0]
noncomputable def R115_8 : Array Oper := opsAt Tryd.f115 [1, 0, 1, 0, 1, 1, 1, 1, 1, 1, 0]
noncomputable def R115_9 : Array Oper := opsAt Tryd.f115 [1, 0, 1, 0, 1, 1, 1, 1, 1, 1, 1, 0, 0]
noncomputable def R115_10 : Array Oper := opsAt Tryd.f115 [1, 0, 1, 0, 1, 1, 1, 1, 1, 1, 1, 1, 0]
noncomputable def R115_11 : Array Oper := opsAt Tryd.f115 [1, 0, 1, 0, 1, 1, 1, 1, 1, 1, 1, 1, 1, 0, 0]
noncomputable def R115_12 : Array Oper := opsAt Tryd.f115 [1, 0, 1, 0, 1, 1, 1, 1, 1, 1, 1, 1, 1, 1, 0]
noncomputable def R115_13 : Array Oper := opsAt Tryd.f115 [1, 0, 1, 0, 1, 1, 1, 1, 1, 1, 1, 1, 1, 1, 1, 0, 0]
noncomputable def R115_14 : Array Oper := opsAt Tryd.f115 [1, 0, 1, 0, 1, 1, 1, 1, 1, 1, 1, 1, 1, 1, 1, 1, 0]
noncomputable def R115_15 : Array Oper := opsAt Tryd.f115 [1, 0, 1, 0, 1, 1, 1, 1, 1, 1, 1, 1, 1, 1, 1, 1, 1, 0, 0]
noncomputable def R115_16 : Array Oper := opsAt Tryd.f115 [1, 0, 1, 0, 1, 1, 1, 1, 1, 1, 1, 1, 1, 1, 1, 1, 1, 1, 0]
noncomputable def R115_17 : Array Oper := opsAt Tryd.f115 [1, 0, 1, 0, 1, 1, 1, 1, 1, 1, 1, 1, 1, 1, 1, 1, 1, 1, 1, 0, 0]
noncomputable def R115_18 : Array Oper := opsAt Tryd.f115 [1, 1, 0]
theorem code115 : Tryd.f115.body = some (.seq (.region 0 R115_0 false) (.seq (.seq (.region 1 R115_1 false) (.block 0 (.seq (.region 2 R115_2 false) (.cond (.tmp 5) (.seq (.region 3 R115_3 false) .ret) (.seq (.region 4 R115_4 false) (.cond (.tmp 8) (.seq (.region 5 R115_5 false) .ret) (.seq (.region 6 R115_6 false) (.cond (.tmp 11) (.seq (.region 7 R115_7 false) .ret) (.seq (.region 8 R115_8 false) (.cond (.tmp 14) (.seq (.region 9 R115_9 false) .ret) (.seq (.region 10 R115_10 false) (.cond (.tmp 17) (.seq (.region 11 R115_11 false) .ret) (.seq (.region 12 R115_12 false) (.cond (.tmp 20) (.seq (.region 13 R115_13 false) .ret) (.seq (.region 14 R115_14 false) (.cond (.tmp 23) (.seq (.region 15 R115_15 false) .ret) (.seq (.region 16 R115_16 false) (.cond (.tmp 26) (.seq (.region 17 R115_17 false) .ret) .skip)))))))))))))))))) (.seq (.region 18 R115_18 false) .ret))) := by kernel_rfl
noncomputable def R116_0 : Array Oper := opsAt Tryd.f116 [0]
noncomputable def R116_1 : Array Oper := opsAt Tryd.f116 [1, 0]
theorem code116 : Tryd.f116.body = some (.seq (.region 0 R116_0 false) (.seq (.region 1 R116_1 false) .ret)) := by kernel_rfl
noncomputable def R117_0 : Array Oper := opsAt Tryd.f117 [0]
noncomputable def R117_1 : Array Oper := opsAt Tryd.f117 [1, 0, 0]
noncomputable def R117_2 : Array Oper := opsAt Tryd.f117 [1, 0, 1, 0, 0]
noncomputable def R117_3 : Array Oper := opsAt Tryd.f117 [1, 1, 0]
theorem code117 : Tryd.f117.body = some (.seq (.region 0 R117_0 false) (.seq (.seq (.region 1 R117_1 false) (.cond (.tmp 4) (.seq (.region 2 R117_2 false) .ret) .skip)) (.seq (.region 3 R117_3 false) .ret))) := by kernel_rfl
noncomputable def R118_0 : Array Oper := opsAt Tryd.f118 [0]
noncomputable def R118_1 : Array Oper := opsAt Tryd.f118 [1, 0]
theorem code118 : Tryd.f118.body = some (.seq (.region 0 R118_0 false) (.seq (.region 1 R118_1 false) .ret)) := by kernel_rfl
noncomputable def R119_0 : Array Oper := opsAt Tryd.f119 [0]
noncomputable def R119_1 : Array Oper := opsAt Tryd.f119 [1, 0]
theorem code119 : Tryd.f119.body = some (.seq (.region 0 R119_0 false) (.seq (.region 1 R119_1 false) .ret)) := by kernel_rfl
noncomputable def R120_0 : Array Oper := opsAt Tryd.f120 [0]
noncomputable def R120_1 : Array Oper := opsAt Tryd.f120 [1, 0]
noncomputable def R120_2 : Array Oper := opsAt Tryd.f120 [1, 1, 0, 0]
noncomputable def R120_3 : Array Oper := opsAt Tryd.f120 [1, 1, 0, 1, 0, 0]
noncomputable def R120_4 : Array Oper := opsAt Tryd.f120 [1, 1, 0, 1, 0, 1]
noncomputable def R120_5 : Array Oper := opsAt Tryd.f120 [1, 1, 1, 0]
theorem code120 : Tryd.f120.body = some (.seq (.region 0 R120_0 false) (.seq (.region 1 R120_1 false) (.seq (.seq (.region 2 R120_2 false) (.cond (.tmp 5) (.seq (.region 3 R120_3 false) (.region 4 R120_4 false)) .skip)) (.seq (.region 5 R120_5 false) .ret)))) := by kernel_rfl
noncomputable def R121_0 : Array Oper := opsAt Tryd.f121 [0]
noncomputable def R121_1 : Array Oper := opsAt Tryd.f121 [1, 0]
theorem code121 : Tryd.f121.body = some (.seq (.region 0 R121_0 false) (.seq (.region 1 R121_1 false) .ret)) := by kernel_rfl
noncomputable def R122_0 : Array Oper := opsAt Tryd.f122 [0]
noncomputable def R122_1 : Array Oper := opsAt Tryd.f122 [1, 0, 0]
noncomputable def R122_2 : Array Oper := opsAt Tryd.f122 [1, 0, 1, 0, 0]
noncomputable def R122_3 : Array Oper := opsAt Tryd.f122 [1, 1, 0]
theorem code122 : Tryd.f122.body = some (.seq (.region 0 R122_0 false) (.seq (.seq (.region 1 R122_1 false) (.cond (.tmp 6) (.seq (.region 2 R122_2 false) .ret) .skip)) (.seq (.region 3 R122_3 false) .ret))) := by kernel_rfl
noncomputable def R123_0 : Array Oper := opsAt Tryd.f123 [0]
noncomputable def R123_1 : Array Oper := opsAt Tryd.f123 [1, 0, 0]
noncomputable def R123_2 : Array Oper := opsAt Tryd.f123 [1, 0, 1, 0, 0]
noncomputable def R123_3 : Array Oper := opsAt Tryd.f123 [1, 1, 0]
noncomputable def R123_4 : Array Oper := opsAt Tryd.f123 [1, 1, 1, 0]
noncomputable def R123_5 : Array Oper := opsAt Tryd.f123 [1, 1, 1, 1, 0, 0]
noncomputable def R123_6 : Array Oper := opsAt Tryd.f123 [1, 1, 1, 1, 0, 1, 0, 0]
noncomputable def R123_7 : Array Oper := opsAt Tryd.f123 [1, 1, 1, 1, 0, 1, 0, 1, 0, 0]
noncomputable def R123_8 : Array Oper := opsAt Tryd.f123 [1, 1, 1, 1, 0, 1, 0, 1, 1, 0]
noncomputable def R123_9 : Array Oper := opsAt Tryd.f123 [1, 1, 1, 1, 0, 1, 0, 1, 1, 1, 0, 0]
noncomputable def R123_10 : Array Oper := opsAt Tryd.f123 [1, 1, 1, 1, 1, 0]
theorem code123 : Tryd.f123.body = some (.seq (.region 0 R123_0 false) (.seq (.seq (.region 1 R123_1 false) (.cond (.tmp 10) (.seq (.region 2 R123_2 false) .ret) .skip)) (.seq (.region 3 R123_3 false) (.seq (.region 4 R123_4 false) (.seq (.seq (.region 5 R123_5 false) (.block 0 (.seq (.region 6 R123_6 false) (.cond (.tmp 26) (.seq (.region 7 R123_7 true) .ret) (.seq (.region 8 R123_8 false) (.cond (.tmp 37) (.seq (.region 9 R123_9 true) .ret) .skip)))))) (.seq (.region 10 R123_10 true) .ret)))))) := by kernel_rfl
noncomputable def R124_0 : Array Oper := opsAt Tryd.f124 [0]
noncomputable def R124_1 : Array Oper := opsAt Tryd.f124 [1, 0, 0, 0]
noncomputable def R124_2 : Array Oper := opsAt Tryd.f124 [1, 0, 0, 1, 0, 0]
noncomputable def R124_3 : Array Oper := opsAt Tryd.f124 [1, 0, 0, 1, 1, 0]
noncomputable def R124_4 : Array Oper := opsAt Tryd.f124 [1, 0, 0, 1, 1, 1, 0, 0]
noncomputable def R124_5 : Array Oper := opsAt Tryd.f124 [1, 1, 0]
theorem code124 : Tryd.f124.body = some (.seq (.region 0 R124_0 false) (.seq (.block 0 (.seq (.region 1 R124_1 false) (.cond (.tmp 3) (.seq (.region 2 R124_2 false) .ret) (.seq (.region 3 R124_3 false) (.cond (.tmp 6) (.seq (.region 4 R124_4 false) .ret) .skip))))) (.seq (.region 5 R124_5 false) .ret))) := by kernel_rfl
noncomputable def R125_0 : Array Oper := opsAt Tryd.f125 [0]
noncomputable def R125_1 : Array Oper := opsAt Tryd.f125 [1, 0, 0]
noncomputable def R125_2 : Array Oper := opsAt Tryd.f125 [1, 0, 1, 0, 0]
noncomputable def R125_3 : Array Oper := opsAt Tryd.f125 [1, 1, 0]
noncomputable def R125_4 : Array Oper := opsAt Tryd.f125 [1, 1, 1, 0]
noncomputable def R125_5 : Array Oper := opsAt Tryd.f125 [1, 1, 1, 1, 0, 0]
noncomputable def R125_6 : Array Oper := opsAt Tryd.f125 [1, 1, 1, 1, 0, 1, 0, 0]
noncomputable def R125_7 : Array Oper := opsAt Tryd.f125 [1, 1, 1, 1, 1, 0]
theorem code125 : Tryd.f125.body = some (.seq (.region 0 R125_0 false) (.seq (.seq (.region 1 R125_1 false) (.cond (.tmp 7) (.seq (.region 2 R125_2 false) .ret) .skip)) (.seq (.region 3 R125_3 false) (.seq (.region 4 R125_4 false) (.seq (.seq (.region 5 R125_5 true) (.cond (.tmp 49) (.seq (.region 6 R125_6 false) .ret) .skip)) (.seq (.region 7 R125_7 false) .ret)))))) := by kernel_rfl
noncomputable def R126_0 : Array Oper := opsAt Tryd.f126 [0]
noncomputable def R126_1 : Array Oper := opsAt Tryd.f126 [1, 0, 0, 0, 0]
noncomputable def R126_2 : Array Oper := opsAt Tryd.f126 [1, 0, 0, 1, 0, 0]
noncomputable def R126_3 : Array Oper := opsAt Tryd.f126 [1, 0, 0, 1, 0, 1, 0, 0, 0]
noncomputable def R126_4 : Array Oper := opsAt Tryd.f126 [1, 0, 0, 1, 0, 1, 0, 0, 1, 0]
noncomputable def R126_5 : Array Oper := opsAt Tryd.f126 [1, 0, 0, 1, 0, 1, 0, 0, 1, 1, 0]
noncomputable def R126_6 : Array Oper := opsAt Tryd.f126 [1, 0, 0, 1, 0, 1, 0, 0, 1, 1, 1, 0]
noncomputable def R126_7 : Array Oper := opsAt Tryd.f126 [1, 0, 0, 1, 0, 1, 1, 0]
noncomputable def R126_8 : Array Oper := opsAt Tryd.f126 [1, 0, 0, 1, 0, 1, 1, 1]
noncomputable def L126_0 : Code := .seq (.seq (.region 1 R126_1 false) (.cond (.tmp 9) .skip (.exit 0))) (.block 1 (.seq (.region 2 R126_2 false) (.seq (.block 2 (.seq (.region 3 R126_3 false) (.cond (.tmp 10) (.region 4 R126_4 false) (.seq (.region 5 R126_5 false) (.cond (.tmp 13) (.region 6 R126_6 false) .ret))))) (.seq (.region 7 R126_7 false) (.region 8 R126_8 false)))))
theorem lpL126_0 : loops L126_0 = 0 := rfl
theorem code126 : Tryd.f126.body = some (.seq (.region 0 R126_0 false) (.block 0 (.loop L126_0))) := by kernel_rfl
noncomputable def R148_0 : Array Oper := opsAt Tryd.f148 [0]
noncomputable def R148_1 : Array Oper := opsAt Tryd.f148 [1, 0, 0, 0, 0]
noncomputable def R148_2 : Array Oper := opsAt Tryd.f148 [1, 0, 0, 0, 1, 1]
noncomputable def R148_3 : Array Oper := opsAt Tryd.f148 [1, 0, 0, 1, 0, 0]
noncomputable def R148_4 : Array Oper := opsAt Tryd.f148 [1, 0, 0, 1, 1, 0]
noncomputable def R148_5 : Array Oper := opsAt Tryd.f148 [1, 0, 0, 1, 1, 1, 0, 0]
noncomputable def R148_6 : Array Oper := opsAt Tryd.f148 [1, 0, 0, 1, 1, 1, 1, 0]
noncomputable def R148_7 : Array Oper := opsAt Tryd.f148 [1, 0, 0, 1, 1, 1, 1, 1, 0, 0]
noncomputable def R148_8 : Array Oper := opsAt Tryd.f148 [1, 1, 0]
theorem code148 : Tryd.f148.body = some (.seq (.region 0 R148_0 false) (.seq (.block 0 (.seq (.seq (.region 1 R148_1 false) (.cond (.tmp 3) .skip (.region 2 R148_2 false))) (.cond (.tmp 3) (.seq (.region 3 R148_3 false) .ret) (.seq (.region 4 R148_4 false) (.cond (.tmp 20) (.seq (.region 5 R148_5 false) .ret) (.seq (.region 6 R148_6 false) (.cond (.tmp 29) (.seq (.region 7 R148_7 false) .ret) .skip))))))) (.seq (.region 8 R148_8 false) .ret))) := by kernel_rfl
noncomputable def R149_0 : Array Oper := opsAt Tryd.f149 [0]
noncomputable def R149_1 : Array Oper := opsAt Tryd.f149 [1, 0, 0]
noncomputable def R149_2 : Array Oper := opsAt Tryd.f149 [1, 0, 1, 0, 0]
noncomputable def R149_3 : Array Oper := opsAt Tryd.f149 [1, 0, 1, 0, 1, 0, 0]
noncomputable def R149_4 : Array Oper := opsAt Tryd.f149 [1, 0, 1, 0, 1, 1, 0]
noncomputable def R149_5 : Array Oper := opsAt Tryd.f149 [1, 0, 1, 0, 1, 1, 1, 0, 0]
noncomputable def R149_6 : Array Oper := opsAt Tryd.f149 [1, 1, 0]
theorem code149 : Tryd.f149.body = some (.seq (.region 0 R149_0 false) (.seq (.seq (.region 1 R149_1 false) (.block 0 (.seq (.region 2 R149_2 false) (.cond (.tmp 10) (.seq (.region 3 R149_3 false) .ret) (.seq (.region 4 R149_4 false) (.cond (.tmp 13) (.seq (.region 5 R149_5 false) .ret) .skip)))))) (.seq (.region 6 R149_6 false) .ret))) := by kernel_rfl
noncomputable def R150_0 : Array Oper := opsAt Tryd.f150 [0]
noncomputable def R150_1 : Array Oper := opsAt Tryd.f150 [1, 0]
theorem code150 : Tryd.f150.body = some (.seq (.region 0 R150_0 false) (.seq (.region 1 R150_1 false) .ret)) := by kernel_rfl
noncomputable def R151_0 : Array Oper := opsAt Tryd.f151 [0]
noncomputable def R151_1 : Array Oper := opsAt Tryd.f151 [1, 0, 0, 0]
noncomputable def R151_2 : Array Oper := opsAt Tryd.f151 [1, 0, 0, 1, 0, 0]
noncomputable def R151_3 : Array Oper := opsAt Tryd.f151 [1, 0, 0, 1, 1, 0]
noncomputable def R151_4 : Array Oper := opsAt Tryd.f151 [1, 0, 0, 1, 1, 1, 0, 0]
noncomputable def R151_5 : Array Oper := opsAt Tryd.f151 [1, 1, 0]
theorem code151 : Tryd.f151.body = some (.seq (.region 0 R151_0 false) (.seq (.block 0 (.seq (.region 1 R151_1 false) (.cond (.tmp 3) (.seq (.region 2 R151_2 false) .ret) (.seq (.region 3 R151_3 false) (.cond (.tmp 7) (.seq (.region 4 R151_4 false) .ret) .skip))))) (.seq (.region 5 R151_5 false) .ret))) := by kernel_rfl
noncomputable def R152_0 : Array Oper := opsAt Tryd.f152 [0]
noncomputable def R152_1 : Array Oper := opsAt Tryd.f152 [1, 0, 0, 0]
noncomputable def R152_2 : Array Oper := opsAt Tryd.f152 [1, 0, 0, 1, 0, 0]
noncomputable def R152_3 : Array Oper := opsAt Tryd.f152 [1, 0, 0, 1, 1, 0]
noncomputable def R152_4 : Array Oper := opsAt Tryd.f152 [1, 0, 0, 1, 1, 1, 0, 0]
noncomputable def R152_5 : Array Oper := opsAt Tryd.f152 [1, 1, 0]
theorem code152 : Tryd.f152.body = some (.seq (.region 0 R152_0 false) (.seq (.block 0 (.seq (.region 1 R152_1 false) (.cond (.tmp 3) (.seq (.region 2 R152_2 false) .ret) (.seq (.region 3 R152_3 false) (.cond (.tmp 10) (.seq (.region 4 R152_4 false) .ret) .skip))))) (.seq (.region 5 R152_5 false) .ret))) := by kernel_rfl
noncomputable def R153_0 : Array Oper := opsAt Tryd.f153 [0]
noncomputable def R153_1 : Array Oper := opsAt Tryd.f153 [1, 0]
theorem code153 : Tryd.f153.body = some (.seq (.region 0 R153_0 false) (.seq (.region 1 R153_1 false) .ret)) := by kernel_rfl
noncomputable def R154_0 : Array Oper := opsAt Tryd.f154 [0]
noncomputable def R154_1 : Array Oper := opsAt Tryd.f154 [1, 0]
noncomputable def R154_2 : Array Oper := opsAt Tryd.f154 [1, 1, 0, 0]
noncomputable def R154_3 : Array Oper := opsAt Tryd.f154 [1, 1, 0, 1, 0]
noncomputable def R154_4 : Array Oper := opsAt Tryd.f154 [1, 1, 1, 0]
noncomputable def R154_5 : Array Oper := opsAt Tryd.f154 [1, 1, 1, 1, 0]
noncomputable def R154_6 : Array Oper := opsAt Tryd.f154 [1, 1, 1, 1, 1, 0, 0]
noncomputable def R154_7 : Array Oper := opsAt Tryd.f154 [1, 1, 1, 1, 1, 0, 1, 0, 0]
noncomputable def R154_8 : Array Oper := opsAt Tryd.f154 [1, 1, 1, 1, 1, 1, 0]
theorem code154 : Tryd.f154.body = some (.seq (.region 0 R154_0 false) (.seq (.region 1 R154_1 false) (.seq (.seq (.region 2 R154_2 true) (.cond (.tmp 13) (.region 3 R154_3 true) .skip)) (.seq (.region 4 R154_4 false) (.seq (.region 5 R154_5 false) (.seq (.seq (.region 6 R154_6 true) (.cond (.tmp 53) (.seq (.region 7 R154_7 false) .ret) .skip)) (.seq (.region 8 R154_8 false) .ret))))))) := by kernel_rfl
noncomputable def R159_0 : Array Oper := opsAt Tryd.f159 [0]
noncomputable def R159_1 : Array Oper := opsAt Tryd.f159 [1, 0]
noncomputable def R159_2 : Array Oper := opsAt Tryd.f159 [1, 1, 0, 0]
noncomputable def R159_3 : Array Oper := opsAt Tryd.f159 [1, 1, 0, 1, 0, 0, 0, 0]
noncomputable def R159_5 : Array Oper := opsAt Tryd.f159 [1, 1, 0, 1, 0, 0, 1, 0, 0]
noncomputable def R159_4 : Array Oper := opsAt Tryd.f159 [1, 1, 0, 1, 0, 0, 1, 1]
noncomputable def L159_0 : Code := .seq (.seq (.region 3 R159_3 false) (.cond (.tmp 8) .skip (.exit 0))) (.seq (.block 1 (.region 5 R159_5 false)) (.region 4 R159_4 false))
theorem lpL159_0 : loops L159_0 = 0 := rfl
noncomputable def R159_6 : Array Oper := opsAt Tryd.f159 [1, 1, 1, 0]
noncomputable def M159_0 : Code := .seq (.region 6 R159_6 false) .ret
theorem lpM159_0 : loops M159_0 = 0 := rfl
theorem code159 : Tryd.f159.body = some (.seq (.region 0 R159_0 false) (.seq (.region 1 R159_1 false) (.seq (.seq (.region 2 R159_2 false) (.block 0 (.loop L159_0))) M159_0))) := by kernel_rfl
noncomputable def R160_0 : Array Oper := opsAt Tryd.f160 [0]
noncomputable def R160_1 : Array Oper := opsAt Tryd.f160 [1, 0, 0]
noncomputable def R160_2 : Array Oper := opsAt Tryd.f160 [1, 0, 1, 0]
noncomputable def R160_3 : Array Oper := opsAt Tryd.f160 [1, 0, 1, 1, 0, 0]
noncomputable def R160_4 : Array Oper := opsAt Tryd.f160 [1, 1, 0]
theorem code160 : Tryd.f160.body = some (.seq (.region 0 R160_0 false) (.seq (.seq (.region 1 R160_1 false) (.seq (.region 2 R160_2 false) (.cond (.tmp 12) (.seq (.region 3 R160_3 true) .ret) .skip))) (.seq (.region 4 R160_4 false) .ret))) := by kernel_rfl
noncomputable def R161_0 : Array Oper := opsAt Tryd.f161 [0]
noncomputable def R161_1 : Array Oper := opsAt Tryd.f161 [1, 0, 0]
noncomputable def R161_2 : Array Oper := opsAt Tryd.f161 [1, 0, 1, 0, 0]
noncomputable def R161_3 : Array Oper := opsAt Tryd.f161 [1, 1, 0]
theorem code161 : Tryd.f161.body = some (.seq (.region 0 R161_0 false) (.seq (.seq (.region 1 R161_1 false) (.cond (.tmp 7) (.seq (.region 2 R161_2 false) .ret) .skip)) (.seq (.region 3 R161_3 false) .ret))) := by kernel_rfl
noncomputable def R162_0 : Array Oper := opsAt Tryd.f162 [0]
noncomputable def R162_1 : Array Oper := opsAt Tryd.f162 [1, 0]
theorem code162 : Tryd.f162.body = some (.seq (.region 0 R162_0 false) (.seq (.region 1 R162_1 false) .ret)) := by kernel_rfl
noncomputable def R163_0 : Array Oper := opsAt Tryd.f163 [0]
noncomputable def R163_1 : Array Oper := opsAt Tryd.f163 [1, 0, 0, 0, 0]
noncomputable def R163_2 : Array Oper := opsAt Tryd.f163 [1, 0, 0, 1, 0, 0, 0]
noncomputable def R163_3 : Array Oper := opsAt Tryd.f163 [1, 0, 0, 1, 0, 0, 1, 0, 0]
noncomputable def R163_4 : Array Oper := opsAt Tryd.f163 [1, 0, 0, 1, 0, 0, 1, 0, 1]
noncomputable def R163_5 : Array Oper := opsAt Tryd.f163 [1, 0, 0, 1, 0, 0, 1, 1, 0]
noncomputable def R163_6 : Array Oper := opsAt Tryd.f163 [1, 0, 0, 1, 0, 0, 1, 1, 1, 0, 0]
noncomputable def R163_7 : Array Oper := opsAt Tryd.f163 [1, 0, 0, 1, 0, 0, 1, 1, 1, 0, 1]
noncomputable def L163_0 : Code := .seq (.seq (.region 1 R163_1 false) (.cond (.tmp 8) .skip (.exit 0))) (.block 1 (.block 2 (.seq (.region 2 R163_2 false) (.cond (.tmp 9) (.seq (.region 3 R163_3 false) (.region 4 R163_4 false)) (.seq (.region 5 R163_5 false) (.cond (.tmp 16) (.seq (.region 6 R163_6 false) (.region 7 R163_7 false)) .ret))))))
theorem lpL163_0 : loops L163_0 = 0 := rfl
theorem code163 : Tryd.f163.body = some (.seq (.region 0 R163_0 false) (.block 0 (.loop L163_0))) := by kernel_rfl
noncomputable def R164_0 : Array Oper := opsAt Tryd.f164 [0, 0]
noncomputable def R164_1 : Array Oper := opsAt Tryd.f164 [0, 1, 0, 0]
noncomputable def R164_3 : Array Oper := opsAt Tryd.f164 [1, 0, 0]
noncomputable def R164_4 : Array Oper := opsAt Tryd.f164 [1, 0, 1, 0]
noncomputable def R164_5 : Array Oper := opsAt Tryd.f164 [1, 0, 1, 1, 0]
noncomputable def R164_6 : Array Oper := opsAt Tryd.f164 [1, 0, 1, 1, 1, 0]
noncomputable def R164_7 : Array Oper := opsAt Tryd.f164 [1, 0, 1, 1, 1, 1, 0]
noncomputable def R164_8 : Array Oper := opsAt Tryd.f164 [1, 0, 1, 1, 1, 1, 1, 0, 0]
noncomputable def R164_9 : Array Oper := opsAt Tryd.f164 [1, 0, 1, 1, 1, 1, 1, 0, 1, 0]
noncomputable def R164_10 : Array Oper := opsAt Tryd.f164 [1, 0, 1, 1, 1, 1, 1, 0, 1, 1, 0]
noncomputable def R164_11 : Array Oper := opsAt Tryd.f164 [1, 0, 1, 1, 1, 1, 1, 0, 1, 1, 1]
noncomputable def R164_12 : Array Oper := opsAt Tryd.f164 [1, 0, 1, 1, 1, 1, 1, 1, 0]
noncomputable def R164_13 : Array Oper := opsAt Tryd.f164 [1, 0, 1, 1, 1, 1, 1, 1, 1, 0, 0]
noncomputable def R164_14 : Array Oper := opsAt Tryd.f164 [1, 0, 1, 1, 1, 1, 1, 1, 1, 0, 1]
noncomputable def R164_15 : Array Oper := opsAt Tryd.f164 [1, 0, 1, 1, 1, 1, 1, 1, 1, 1, 0]
noncomputable def R164_16 : Array Oper := opsAt Tryd.f164 [1, 0, 1, 1, 1, 1, 1, 1, 1, 1, 1, 0, 0]
noncomputable def R164_17 : Array Oper := opsAt Tryd.f164 [1, 0, 1, 1, 1, 1, 1, 1, 1, 1, 1, 0, 1]
noncomputable def R164_2 : Array Oper := opsAt Tryd.f164 [1, 0, 1, 1, 1, 1, 1, 1, 1, 1, 1, 1]
theorem code164 : Tryd.f164.body = some (.seq (.seq (.region 0 R164_0 false) (.cond (.tmp 12) (.seq (.region 1 R164_1 false) .ret) .skip)) (.block 0 (.seq (.region 3 R164_3 false) (.cond (.tmp 28) (.region 4 R164_4 false) (.seq (.region 5 R164_5 false) (.cond (.tmp 33) (.region 6 R164_6 false) (.seq (.region 7 R164_7 false) (.cond (.tmp 38) (.seq (.region 8 R164_8 false) (.seq (.region 9 R164_9 false) (.seq (.region 10 R164_10 true) (.region 11 R164_11 false)))) (.seq (.region 12 R164_12 false) (.cond (.tmp 59) (.seq (.region 13 R164_13 false) (.region 14 R164_14 false)) (.seq (.region 15 R164_15 false) (.cond (.tmp 66) (.seq (.region 16 R164_16 true) (.region 17 R164_17 false)) (.region 2 R164_2 true))))))))))))) := by kernel_rfl
noncomputable def R165_0 : Array Oper := opsAt Tryd.f165 [0]
noncomputable def R165_1 : Array Oper := opsAt Tryd.f165 [1, 0]
noncomputable def R165_2 : Array Oper := opsAt Tryd.f165 [1, 1, 0]
noncomputable def R165_3 : Array Oper := opsAt Tryd.f165 [1, 1, 1, 0]
theorem code165 : Tryd.f165.body = some (.seq (.region 0 R165_0 false) (.seq (.region 1 R165_1 false) (.seq (.region 2 R165_2 false) (.seq (.region 3 R165_3 false) .ret)))) := by kernel_rfl
noncomputable def R183_1 : Array Oper := opsAt Tryd.f183 [0, 0]
noncomputable def R183_2 : Array Oper := opsAt Tryd.f183 [0, 1, 1, 0]
noncomputable def R183_3 : Array Oper := opsAt Tryd.f183 [0, 1, 1, 1, 0]
noncomputable def R183_4 : Array Oper := opsAt Tryd.f183 [0, 1, 1, 1, 1, 0]
noncomputable def R183_5 : Array Oper := opsAt Tryd.f183 [0, 1, 1, 1, 1, 1, 0]
noncomputable def R183_6 : Array Oper := opsAt Tryd.f183 [0, 1, 1, 1, 1, 1, 1, 0]
noncomputable def R183_7 : Array Oper := opsAt Tryd.f183 [0, 1, 1, 1, 1, 1, 1, 1, 0, 0]
noncomputable def R183_8 : Array Oper := opsAt Tryd.f183 [0, 1, 1, 1, 1, 1, 1, 1, 0, 1, 0]
noncomputable def R183_9 : Array Oper := opsAt Tryd.f183 [0, 1, 1, 1, 1, 1, 1, 1, 0, 1, 1, 0]
noncomputable def R183_10 : Array Oper := opsAt Tryd.f183 [0, 1, 1, 1, 1, 1, 1, 1, 0, 1, 1, 1, 0]
noncomputable def R183_11 : Array Oper := opsAt Tryd.f183 [0, 1, 1, 1, 1, 1, 1, 1, 0, 1, 1, 1, 1]
noncomputable def R183_12 : Array Oper := opsAt Tryd.f183 [0, 1, 1, 1, 1, 1, 1, 1, 1, 0]
noncomputable def R183_13 : Array Oper := opsAt Tryd.f183 [0, 1, 1, 1, 1, 1, 1, 1, 1, 1, 0, 0]
noncomputable def R183_14 : Array Oper := opsAt Tryd.f183 [0, 1, 1, 1, 1, 1, 1, 1, 1, 1, 0, 1]
noncomputable def R183_15 : Array Oper := opsAt Tryd.f183 [0, 1, 1, 1, 1, 1, 1, 1, 1, 1, 1, 0]
noncomputable def R183_16 : Array Oper := opsAt Tryd.f183 [0, 1, 1, 1, 1, 1, 1, 1, 1, 1, 1, 1, 0]
noncomputable def R183_17 : Array Oper := opsAt Tryd.f183 [0, 1, 1, 1, 1, 1, 1, 1, 1, 1, 1, 1, 1, 0]
noncomputable def R183_18 : Array Oper := opsAt Tryd.f183 [0, 1, 1, 1, 1, 1, 1, 1, 1, 1, 1, 1, 1, 1, 0]
noncomputable def R183_19 : Array Oper := opsAt Tryd.f183 [0, 1, 1, 1, 1, 1, 1, 1, 1, 1, 1, 1, 1, 1, 1, 0]
noncomputable def R183_20 : Array Oper := opsAt Tryd.f183 [0, 1, 1, 1, 1, 1, 1, 1, 1, 1, 1, 1, 1, 1, 1, 1, 0]
noncomputable def R183_21 : Array Oper := opsAt Tryd.f183 [0, 1, 1, 1, 1, 1, 1, 1, 1, 1, 1, 1, 1, 1, 1, 1, 1, 0]
noncomputable def R183_22 : Array Oper := opsAt Tryd.f183 [0, 1, 1, 1, 1, 1, 1, 1, 1, 1, 1, 1, 1, 1, 1, 1, 1, 1, 0]
noncomputable def R183_0 : Array Oper := opsAt Tryd.f183 [0, 1, 1, 1, 1, 1, 1, 1, 1, 1, 1, 1, 1, 1, 1, 1, 1, 1, 1]
theorem code183 : Tryd.f183.body = some (.block 0 (.seq (.region 1 R183_1 false) (.cond (.tmp 7) .skip (.seq (.region 2 R183_2 false) (.cond (.tmp 12) (.region 3 R183_3 false) (.seq (.region 4 R183_4 false) (.cond (.tmp 17) (.region 5 R183_5 false) (.seq (.region 6 R183_6 false) (.cond (.tmp 22) (.seq (.region 7 R183_7 false) (.seq (.region 8 R183_8 false) (.seq (.region 9 R183_9 false) (.seq (.region 10 R183_10 false) (.region 11 R183_11 false))))) (.seq (.region 12 R183_12 false) (.cond (.tmp 36) (.seq (.region 13 R183_13 false) (.region 14 R183_14 false)) (.seq (.region 15 R183_15 false) (.cond (.tmp 43) (.region 16 R183_16 false) (.seq (.region 17 R183_17 false) (.cond (.tmp 48) (.region 18 R183_18 false) (.seq (.region 19 R183_19 false) (.cond (.tmp 53) (.region 20 R183_20 false) (.seq (.region 21 R183_21 false) (.cond (.tmp 58) (.region 22 R183_22 false) (.region 0 R183_0 false)))))))))))))))))))) := by kernel_rfl
noncomputable def R184_0 : Array Oper := opsAt Tryd.f184 [0]
noncomputable def R184_1 : Array Oper := opsAt Tryd.f184 [1, 0, 0]
noncomputable def R184_2 : Array Oper := opsAt Tryd.f184 [1, 0, 1, 0, 0]
noncomputable def R184_3 : Array Oper := opsAt Tryd.f184 [1, 1, 0]
noncomputable def R184_4 : Array Oper := opsAt Tryd.f184 [1, 1, 1, 0]
theorem code184 : Tryd.f184.body = some (.seq (.region 0 R184_0 false) (.seq (.seq (.region 1 R184_1 true) (.cond (.tmp 37) (.seq (.region 2 R184_2 false) .ret) .skip)) (.seq (.region 3 R184_3 false) (.seq (.region 4 R184_4 false) .ret)))) := by kernel_rfl
noncomputable def R185_0 : Array Oper := opsAt Tryd.f185 [0]
noncomputable def R185_1 : Array Oper := opsAt Tryd.f185 [1, 0]
noncomputable def R185_2 : Array Oper := opsAt Tryd.f185 [1, 1, 0]
theorem code185 : Tryd.f185.body = some (.seq (.region 0 R185_0 false) (.seq (.region 1 R185_1 false) (.cond (.tmp 23) (.region 2 R185_2 false) .skip))) := by kernel_rfl
noncomputable def R186_0 : Array Oper := opsAt Tryd.f186 [0]
noncomputable def R186_1 : Array Oper := opsAt Tryd.f186 [1, 0]
noncomputable def R186_2 : Array Oper := opsAt Tryd.f186 [1, 1, 0]
noncomputable def R186_3 : Array Oper := opsAt Tryd.f186 [1, 1, 1, 0]
noncomputable def R186_4 : Array Oper := opsAt Tryd.f186 [1, 1, 1, 1]
theorem code186 : Tryd.f186.body = some (.seq (.region 0 R186_0 false) (.seq (.region 1 R186_1 false) (.seq (.region 2 R186_2 false) (.seq (.region 3 R186_3 false) (.region 4 R186_4 false))))) := by kernel_rfl
noncomputable def R187_0 : Array Oper := opsAt Tryd.f187 [0]
noncomputable def R187_1 : Array Oper := opsAt Tryd.f187 [1, 0]
theorem code187 : Tryd.f187.body = some (.seq (.region 0 R187_0 false) (.cond (.tmp 7) (.region 1 R187_1 false) .skip)) := by kernel_rfl
noncomputable def R188_0 : Array Oper := opsAt Tryd.f188 [0]
noncomputable def R188_1 : Array Oper := opsAt Tryd.f188 [1, 0]
noncomputable def R188_2 : Array Oper := opsAt Tryd.f188 [1, 1, 0, 0, 0, 0, 0]
noncomputable def R188_3 : Array Oper := opsAt Tryd.f188 [1, 1, 0, 0, 0, 1, 0]
noncomputable def L188_0 : Code := .seq (.seq (.region 2 R188_2 false) (.cond (.tmp 30) .skip (.exit 0))) (.block 1 (.region 3 R188_3 false))
theorem lpL188_0 : loops L188_0 = 0 := rfl
noncomputable def R188_4 : Array Oper := opsAt Tryd.f188 [1, 1, 1, 0]
noncomputable def R188_5 : Array Oper := opsAt Tryd.f188 [1, 1, 1, 1, 0]
noncomputable def R188_6 : Array Oper := opsAt Tryd.f188 [1, 1, 1, 1, 1, 0]
noncomputable def R188_7 : Array Oper := opsAt Tryd.f188 [1, 1, 1, 1, 1, 1, 0]
noncomputable def M188_0 : Code := .seq (.region 4 R188_4 false) (.seq (.region 5 R188_5 false) (.seq (.region 6 R188_6 false) (.seq (.region 7 R188_7 false) .ret)))
theorem lpM188_0 : loops M188_0 = 0 := rfl
theorem code188 : Tryd.f188.body = some (.seq (.region 0 R188_0 false) (.seq (.region 1 R188_1 false) (.seq (.block 0 (.loop L188_0)) M188_0))) := by kernel_rfl
noncomputable def R189_0 : Array Oper := opsAt Tryd.f189 [0]
noncomputable def R189_1 : Array Oper := opsAt Tryd.f189 [1, 0]
theorem code189 : Tryd.f189.body = some (.seq (.region 0 R189_0 false) (.seq (.region 1 R189_1 false) .ret)) := by kernel_rfl
noncomputable def R205_0 : Array Oper := opsAt Tryd.f205 [0]
noncomputable def R205_1 : Array Oper := opsAt Tryd.f205 [1, 0]
noncomputable def R205_2 : Array Oper := opsAt Tryd.f205 [1, 1, 0]
noncomputable def R205_3 : Array Oper := opsAt Tryd.f205 [1, 1, 1, 0]
noncomputable def R205_4 : Array Oper := opsAt Tryd.f205 [1, 1, 1, 1]
theorem code205 : Tryd.f205.body = some (.seq (.region 0 R205_0 false) (.seq (.region 1 R205_1 false) (.seq (.region 2 R205_2 false) (.seq (.region 3 R205_3 false) (.region 4 R205_4 false))))) := by kernel_rfl
noncomputable def R206_0 : Array Oper := opsAt Tryd.f206 [0]
noncomputable def R206_1 : Array Oper := opsAt Tryd.f206 [1, 0]
theorem code206 : Tryd.f206.body = some (.seq (.region 0 R206_0 false) (.cond (.tmp 7) (.region 1 R206_1 false) .skip)) := by kernel_rfl
noncomputable def R207_0 : Array Oper := opsAt Tryd.f207 [0]
noncomputable def R207_1 : Array Oper := opsAt Tryd.f207 [1, 0]
noncomputable def R207_2 : Array Oper := opsAt Tryd.f207 [1, 1, 0, 0, 0, 0, 0]
noncomputable def R207_3 : Array Oper := opsAt Tryd.f207 [1, 1, 0, 0, 0, 1, 0]
noncomputable def L207_0 : Code := .seq (.seq (.region 2 R207_2 true) (.cond (.tmp 43) .skip (.exit 0))) (.block 1 (.region 3 R207_3 false))
theorem lpL207_0 : loops L207_0 = 0 := rfl
noncomputable def R207_4 : Array Oper := opsAt Tryd.f207 [1, 1, 1, 0]
noncomputable def R207_5 : Array Oper := opsAt Tryd.f207 [1, 1, 1, 1, 0]
noncomputable def R207_6 : Array Oper := opsAt Tryd.f207 [1, 1, 1, 1, 1, 0]
noncomputable def M207_0 : Code := .seq (.region 4 R207_4 true) (.seq (.region 5 R207_5 false) (.seq (.region 6 R207_6 false) .ret))
theorem lpM207_0 : loops M207_0 = 0 := rfl
theorem code207 : Tryd.f207.body = some (.seq (.region 0 R207_0 false) (.seq (.region 1 R207_1 false) (.seq (.block 0 (.loop L207_0)) M207_0))) := by kernel_rfl
noncomputable def R208_0 : Array Oper := opsAt Tryd.f208 [0]
noncomputable def R208_1 : Array Oper := opsAt Tryd.f208 [1, 0, 0]
noncomputable def R208_2 : Array Oper := opsAt Tryd.f208 [1, 0, 1, 0, 0]
noncomputable def R208_3 : Array Oper := opsAt Tryd.f208 [1, 1, 0]
theorem code208 : Tryd.f208.body = some (.seq (.region 0 R208_0 false) (.seq (.seq (.region 1 R208_1 false) (.cond (.tmp 9) (.seq (.region 2 R208_2 false) .ret) .skip)) (.seq (.region 3 R208_3 false) .ret))) := by kernel_rfl
def ext85 : List V → Option (V × List Eng.Obj)
  | [.c (.int .i64 n)] => if -9223372036854775808 ≤ n ∧ n ≤ 9223372036854775807 then some (.c (.string ⟨(Lib.itoa n).toArray⟩), []) else none
  | _ => none
theorem ext85_ok : ExtOk Tryd.prog 85 ext85 := by
  refine ⟨ent Tryd.func85 rfl rfl, fun args v objs h w Pf ι vals hr D => ?_⟩
  unfold ext85 at h
  split at h
  case h_2 => cases h
  rename_i n
  split at h
  case isFalse => cases h
  rename_i hn
  cases h
  simp only [Reps, Rep] at hr
  obtain ⟨u, us, rfl, rfl, rfl⟩ := hr
  refine (Tryd.strconv_Itoa n hn.1 hn.2 w (jt_of D.glob.2)).mono ?_
  rintro e w' ⟨rfl, k, os, rfl⟩
  have hp : ∀ g, Pf true g → (Sort.grow (w.drewN k) os).heap[g]? = w.heap[g]? := fun g hg => by
    have := D.lt g hg
    show (w.heap ++ os)[g]? = w.heap[g]?
    rw [Array.getElem?_append_left this]
  refine ⟨_, ι, 1, fun _ => False, rfl, ⟨rfl, rfl, rfl, ?_, hp, fun _ _ _ h => h⟩, by simp only [Rep], ⟨fun id vr o h => ?_, D.fresh, D.fresh', fun id vr o id' vr' o' g t t' h => ?_, fun g hg => ?_, D.sub, D.gl hp⟩⟩
  · show w.heap.size ≤ (w.heap ++ os).size
    rw [Array.size_append]; omega
  · simp [hpOf] at h
  · simp [hpOf] at h
  · have := D.lt g hg
    show g < (w.heap ++ os).size
    rw [Array.size_append]; omega
theorem fwd_of_below {w w' : World} {Pf : Pfs} {ι : Plc} (hlt : ∀ g, Pf true g → g < w.heap.size) (h : Go.RowKit.Below w.heap.size w w') : Fwd Pf w w' ι ι :=
  ⟨h.os, h.tape, h.output, h.size, fun g hg => h.block g (hlt g hg), fun _ _ _ h => h⟩
theorem desc_none {w w' : World} {Pf : Pfs} {ι : Plc} (D : Desc w Pf ι (fun _ => none) 1 (fun _ => False)) (h : Go.RowKit.Below w.heap.size w w') : Desc w' Pf ι (hpOf [] []) 1 (fun _ => False) :=
  ⟨fun id vr o h => by simp [hpOf] at h, D.fresh, D.fresh', fun id vr o id' vr' o' g t t' h => by simp [hpOf] at h, fun g hg => Nat.lt_of_lt_of_le (D.lt g hg) h.size, D.sub, D.gl (fun g hg => h.block g (D.lt g hg))⟩
def ext102 : List V → Option (V × List Eng.Obj)
  | [.c (.string s)] => if s.size ≤ 281474976710656 then (match Lib.atoiAll s.data.toList with
    | .ok v => some (.tp [.c (.int .i64 v), .c .nilIface], [])
    | .«syntax» => some (.tp [.c (.int .i64 0), .er], [])
    | .range => some (.tp [.c (.int .i64 (Lib.atoiSat s.data.toList)), .er], [])) else none
  | _ => none
theorem ext102_ok : ExtOk Tryd.prog 102 ext102 := by
  refine ⟨ent Tryd.func102 rfl rfl, fun args v objs h w Pf ι vals hr D => ?_⟩
  unfold ext102 at h
  split at h
  case h_2 => cases h
  rename_i s
  split at h
  case isFalse => cases h
  rename_i hs
  simp only [Reps, Rep] at hr
  obtain ⟨u, us, rfl, rfl, rfl⟩ := hr
  split at h
  · rename_i n hn
    cases h
    refine (Tryd.strconv_Atoi_ok s (by omega) n hn w).mono ?_
    rintro e w' ⟨rfl, hw⟩
    have hb : Go.RowKit.Below w.heap.size w w' := by
      rcases hw with rfl | ⟨t, rfl⟩
      · exact Go.RowKit.Below.refl _ _
      · exact Lib.bytesWorld_below _ _ _
    exact ⟨_, ι, 1, fun _ => False, rfl, fwd_of_below D.lt hb, by simp only [Rep, Reps]; exact ⟨_, rfl, _, _, rfl, rfl, _, _, rfl, rfl, rfl⟩, desc_none D hb⟩
  · rename_i hn
    cases h
    obtain ⟨ev, h1, h2⟩ := e1_of D.glob.2
    refine (Tryd.strconv_Atoi_syntax s hs hn ev w h1 h2).mono ?_
    rintro e w' ⟨N, rfl, _, _, hb⟩
    exact ⟨_, ι, 1, fun _ => False, rfl, fwd_of_below D.lt hb, by simp only [Rep, Reps]; exact ⟨_, rfl, _, _, rfl, rfl, _, _, rfl, ⟨_, _, rfl⟩, rfl⟩, desc_none D hb⟩
  · rename_i hn
    cases h
    obtain ⟨ev, h1, h2⟩ := e2_of D.glob.2
    refine (Tryd.strconv_Atoi_range s hs hn ev w h1 h2).mono ?_
    rintro e w' ⟨N, rfl, _, _, hb⟩
    exact ⟨_, ι, 1, fun _ => False, rfl, fwd_of_below D.lt hb, by simp only [Rep, Reps]; exact ⟨_, rfl, _, _, rfl, rfl, _, _, rfl, ⟨_, _, rfl⟩, rfl⟩, desc_none D hb⟩
def ext155 : List V → Option (V × List Eng.Obj)
  | [.c (.string s), .c (.string t)] => match t.data.toList with
    | [c] => some (.c (.int .i64 (Lib.indexByte s.data.toList c)), [])
    | _ => none
  | _ => none
theorem ext155_ok : ExtOk Tryd.prog 155 ext155 := by
  refine ⟨ent Tryd.func155 rfl rfl, fun args v objs h w Pf ι vals hr D => ?_⟩
  unfold ext155 at h
  split at h
  case h_2 => cases h
  rename_i s t
  split at h
  case h_2 => cases h
  rename_i c hc
  cases h
  have ht : t = ⟨#[c]⟩ := by
    obtain ⟨a⟩ := t
    have : a = #[c] := by
      apply Array.ext'
      simpa using hc
    rw [this]
  subst ht
  simp only [Reps, Rep] at hr
  obtain ⟨u, us, rfl, rfl, u2, us2, rfl, rfl, rfl⟩ := hr
  refine (Tryd.strings_Index_one s c w).mono ?_
  rintro e w' ⟨rfl, rfl⟩
  refine ⟨_, ι, 1, fun _ => False, rfl, Fwd.refl _ _ _, by simp only [Rep], ⟨fun id vr o h => ?_, D.fresh, D.fresh', fun id vr o id' vr' o' g t t' h => ?_, D.lt, D.sub, D.glob⟩⟩
  · simp [hpOf] at h
  · simp [hpOf] at h
def ext176 : List V → Option (V × List Eng.Obj)
  | [.c (.string s), .c (.string t)] => match t.data.toList with
    | [c] => some (.c (.int .i64 (Lib.indexByte s.data.toList c)), [])
    | _ => none
  | _ => none
theorem ext176_ok : ExtOk Tryd.prog 176 ext176 := by
  refine ⟨ent Tryd.func176 rfl rfl, fun args v objs h w Pf ι vals hr D => ?_⟩
  unfold ext176 at h
  split at h
  case h_2 => cases h
  rename_i s t
  split at h
  case h_2 => cases h
  rename_i c hc
  cases h
  have ht : t = ⟨#[c]⟩ := by
    obtain ⟨a⟩ := t
    have : a = #[c] := by
      apply Array.ext'
      simpa using hc
    rw [this]
  subst ht
  simp only [Reps, Rep] at hr
  obtain ⟨u, us, rfl, rfl, u2, us2, rfl, rfl, rfl⟩ := hr
  refine (Tryd.stringslite_Index_one s c w).mono ?_
  rintro e w' ⟨rfl, rfl⟩
  refine ⟨_, ι, 1, fun _ => False, rfl, Fwd.refl _ _ _, by simp only [Rep], ⟨fun id vr o h => ?_, D.fresh, D.fresh', fun id vr o id' vr' o' g t t' h => ?_, D.lt, D.sub, D.glob⟩⟩
  · simp [hpOf] at h
  · simp [hpOf] at h
def X : FuncId → Option (List V → Option (V × List Eng.Obj))
  | 85 => some ext85
  | 102 => some ext102
  | 155 => some ext155
  | 176 => some ext176
  | _ => none
noncomputable def C : Cfg := ⟨T, F, X, WR, OW, K⟩
theorem cT : C.T = T := by unfold C; with_reducible rfl
theorem cF : C.fn = F := by unfold C; with_reducible rfl
theorem cX : C.ext = X := by unfold C; with_reducible rfl
theorem cWR : C.wr = WR := by unfold C; with_reducible rfl
theorem cOW : C.own = OW := by unfold C; with_reducible rfl
theorem cK : C.keep = K := by unfold C; with_reducible rfl
theorem cfgOk : CfgOk Tryd.prog C where
  mixed := by kernel_rfl
  tab := tabOk
  fn := fun f fn h => okF_4 f fn h
  ext := by
    intro f m h
    have h' : X f = some m := h
    unfold X at h'
    split at h'
    · cases h'; exact ext85_ok
    · cases h'; exact ext102_ok
    · cases h'; exact ext155_ok
    · cases h'; exact ext176_ok
    · cases h'
end Go.Proofs.YthbekdccfleaoaaDoor.Eng
