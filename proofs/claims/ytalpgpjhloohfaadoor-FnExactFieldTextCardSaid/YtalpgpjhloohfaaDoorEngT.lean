/- The types, the functions and the loops' live slots that the laws reach, and that they are what the program has. No conditions. -/
import Derived.Test.YtalpgpjhloohfaaDoorEngTa
namespace Go.Proofs.YtalpgpjhloohfaaDoor.Eng
open Go Go.Proofs
set_option maxRecDepth 100000
noncomputable def R3_0 : Array Oper := opsAt Tryd.f3 [0]
noncomputable def R3_1 : Array Oper := opsAt Tryd.f3 [1, 0]
noncomputable def R3_2 : Array Oper := opsAt Tryd.f3 [1, 1, 0]
noncomputable def R3_3 : Array Oper := opsAt Tryd.f3 [1, 1, 1, 0, 0]
noncomputable def R3_4 : Array Oper := opsAt Tryd.f3 [1, 1, 1, 0, 1, 0, 0]
noncomputable def R3_5 : Array Oper := opsAt Tryd.f3 [1, 1, 1, 1, 0]
noncomputable def R3_6 : Array Oper := opsAt Tryd.f3 [1, 1, 1, 1, 1, 0]
noncomputable def R3_7 : Array Oper := opsAt Tryd.f3 [1, 1, 1, 1, 1, 1, 0]
noncomputable def R3_8 : Array Oper := opsAt Tryd.f3 [1, 1, 1, 1, 1, 1, 1, 0, 0]
noncomputable def R3_9 : Array Oper := opsAt Tryd.f3 [1, 1, 1, 1, 1, 1, 1, 0, 1, 0, 0]
noncomputable def R3_10 : Array Oper := opsAt Tryd.f3 [1, 1, 1, 1, 1, 1, 1, 1, 0, 0]
noncomputable def R3_11 : Array Oper := opsAt Tryd.f3 [1, 1, 1, 1, 1, 1, 1, 1, 0, 1, 0, 0]
noncomputable def R3_12 : Array Oper := opsAt Tryd.f3 [1, 1, 1, 1, 1, 1, 1, 1, 1, 0]
theorem code3 : Tryd.f3.body = some (.seq (.region 0 R3_0 false) (.seq (.region 1 R3_1 false) (.seq (.region 2 R3_2 false) (.seq (.seq (.region 3 R3_3 false) (.cond (.tmp 13) (.seq (.region 4 R3_4 false) .ret) .skip)) (.seq (.region 5 R3_5 false) (.seq (.region 6 R3_6 false) (.seq (.region 7 R3_7 false) (.seq (.seq (.region 8 R3_8 false) (.cond (.tmp 34) (.seq (.region 9 R3_9 false) .ret) .skip)) (.seq (.seq (.region 10 R3_10 true) (.cond (.tmp 39) (.seq (.region 11 R3_11 false) .ret) .skip)) (.seq (.region 12 R3_12 false) .ret)))))))))) := by kernel_rfl
noncomputable def R7_0 : Array Oper := opsAt Tryd.f7 [0]
noncomputable def R7_1 : Array Oper := opsAt Tryd.f7 [1, 0]
noncomputable def R7_2 : Array Oper := opsAt Tryd.f7 [1, 1, 0, 0]
noncomputable def R7_3 : Array Oper := opsAt Tryd.f7 [1, 1, 0, 1, 0, 0]
noncomputable def R7_4 : Array Oper := opsAt Tryd.f7 [1, 1, 1, 0]
theorem code7 : Tryd.f7.body = some (.seq (.region 0 R7_0 false) (.seq (.region 1 R7_1 false) (.seq (.seq (.region 2 R7_2 false) (.cond (.tmp 10) (.seq (.region 3 R7_3 false) .ret) .skip)) (.seq (.region 4 R7_4 false) .ret)))) := by kernel_rfl
noncomputable def R8_0 : Array Oper := opsAt Tryd.f8 [0]
noncomputable def R8_1 : Array Oper := opsAt Tryd.f8 [1, 0, 0]
noncomputable def R8_2 : Array Oper := opsAt Tryd.f8 [1, 0, 1, 0, 0]
noncomputable def R8_3 : Array Oper := opsAt Tryd.f8 [1, 1, 0]
theorem code8 : Tryd.f8.body = some (.seq (.region 0 R8_0 false) (.seq (.seq (.region 1 R8_1 false) (.cond (.tmp 6) (.seq (.region 2 R8_2 false) .ret) .skip)) (.seq (.region 3 R8_3 false) .ret))) := by kernel_rfl
noncomputable def R9_0 : Array Oper := opsAt Tryd.f9 [0]
noncomputable def R9_1 : Array Oper := opsAt Tryd.f9 [1, 0]
noncomputable def R9_2 : Array Oper := opsAt Tryd.f9 [1, 1, 0]
noncomputable def R9_3 : Array Oper := opsAt Tryd.f9 [1, 1, 1, 0]
noncomputable def R9_4 : Array Oper := opsAt Tryd.f9 [1, 1, 1, 1, 0]
noncomputable def R9_5 : Array Oper := opsAt Tryd.f9 [1, 1, 1, 1, 1, 0]
theorem code9 : Tryd.f9.body = some (.seq (.region 0 R9_0 false) (.seq (.region 1 R9_1 false) (.seq (.region 2 R9_2 false) (.seq (.region 3 R9_3 false) (.seq (.region 4 R9_4 false) (.seq (.region 5 R9_5 false) .ret)))))) := by kernel_rfl
noncomputable def R10_0 : Array Oper := opsAt Tryd.f10 [0]
noncomputable def R10_1 : Array Oper := opsAt Tryd.f10 [1, 0, 0]
noncomputable def R10_2 : Array Oper := opsAt Tryd.f10 [1, 0, 1, 0, 0]
noncomputable def R10_3 : Array Oper := opsAt Tryd.f10 [1, 1, 0]
noncomputable def R10_4 : Array Oper := opsAt Tryd.f10 [1, 1, 1, 0, 0]
noncomputable def R10_5 : Array Oper := opsAt Tryd.f10 [1, 1, 1, 0, 1, 0, 0, 0]
noncomputable def R10_6 : Array Oper := opsAt Tryd.f10 [1, 1, 1, 0, 1, 0, 0, 1, 1, 0, 0, 0]
noncomputable def R10_7 : Array Oper := opsAt Tryd.f10 [1, 1, 1, 0, 1, 0, 0, 1, 1, 0, 0, 1, 0, 0]
noncomputable def R10_8 : Array Oper := opsAt Tryd.f10 [1, 1, 1, 0, 1, 0, 0, 1, 1, 0, 0, 1, 0, 1, 0]
noncomputable def R10_9 : Array Oper := opsAt Tryd.f10 [1, 1, 1, 0, 1, 0, 0, 1, 1, 0, 0, 1, 0, 1, 1]
noncomputable def R10_10 : Array Oper := opsAt Tryd.f10 [1, 1, 1, 0, 1, 0, 0, 1, 1, 0, 0, 1, 1, 0]
noncomputable def R10_11 : Array Oper := opsAt Tryd.f10 [1, 1, 1, 0, 1, 0, 0, 1, 1, 0, 0, 1, 1, 1, 0]
noncomputable def R10_12 : Array Oper := opsAt Tryd.f10 [1, 1, 1, 0, 1, 0, 0, 1, 1, 0, 0, 1, 1, 1, 1]
noncomputable def R10_13 : Array Oper := opsAt Tryd.f10 [1, 1, 1, 0, 1, 0, 0, 1, 1, 1]
noncomputable def L10_0 : Code := .seq (.region 5 R10_5 false) (.seq (.cond (.tmp 14) .skip (.exit 0)) (.seq (.block 1 (.seq (.region 6 R10_6 false) (.seq (.seq (.region 7 R10_7 false) (.cond (.tmp 19) (.region 8 R10_8 false) (.region 9 R10_9 false))) (.seq (.region 10 R10_10 false) (.cond (.tmp 29) (.region 11 R10_11 false) (.region 12 R10_12 false)))))) (.region 13 R10_13 false)))
theorem lpL10_0 : loops L10_0 = 0 := rfl
noncomputable def R10_14 : Array Oper := opsAt Tryd.f10 [1, 1, 1, 1, 0]
noncomputable def M10_0 : Code := .seq (.region 14 R10_14 false) .ret
theorem lpM10_0 : loops M10_0 = 0 := rfl
theorem code10 : Tryd.f10.body = some (.seq (.region 0 R10_0 false) (.seq (.seq (.region 1 R10_1 false) (.cond (.tmp 9) (.seq (.region 2 R10_2 false) .ret) .skip)) (.seq (.region 3 R10_3 false) (.seq (.seq (.region 4 R10_4 false) (.block 0 (.loop L10_0))) M10_0)))) := by kernel_rfl
noncomputable def R11_0 : Array Oper := opsAt Tryd.f11 [0]
noncomputable def R11_1 : Array Oper := opsAt Tryd.f11 [1, 0, 0]
noncomputable def R11_2 : Array Oper := opsAt Tryd.f11 [1, 0, 1, 0, 0]
noncomputable def R11_3 : Array Oper := opsAt Tryd.f11 [1, 1, 0, 0]
noncomputable def R11_4 : Array Oper := opsAt Tryd.f11 [1, 1, 0, 1, 0, 0]
noncomputable def R11_5 : Array Oper := opsAt Tryd.f11 [1, 1, 1, 0, 0]
noncomputable def R11_6 : Array Oper := opsAt Tryd.f11 [1, 1, 1, 0, 1, 0, 0]
noncomputable def R11_7 : Array Oper := opsAt Tryd.f11 [1, 1, 1, 1, 0]
theorem code11 : Tryd.f11.body = some (.seq (.region 0 R11_0 false) (.seq (.seq (.region 1 R11_1 false) (.cond (.tmp 9) (.seq (.region 2 R11_2 false) .ret) .skip)) (.seq (.seq (.region 3 R11_3 false) (.cond (.tmp 14) (.seq (.region 4 R11_4 false) .ret) .skip)) (.seq (.seq (.region 5 R11_5 false) (.cond (.tmp 20) (.seq (.region 6 R11_6 false) .ret) .skip)) (.seq (.region 7 R11_7 false) .ret))))) := by kernel_rfl
noncomputable def R32_0 : Array Oper := opsAt Tryd.f32 [0]
noncomputable def R32_1 : Array Oper := opsAt Tryd.f32 [1, 0]
theorem code32 : Tryd.f32.body = some (.seq (.region 0 R32_0 false) (.seq (.region 1 R32_1 false) .ret)) := by kernel_rfl
noncomputable def R36_0 : Array Oper := opsAt Tryd.f36 [0]
noncomputable def R36_1 : Array Oper := opsAt Tryd.f36 [1, 0]
noncomputable def R36_2 : Array Oper := opsAt Tryd.f36 [1, 1, 0, 0]
noncomputable def R36_3 : Array Oper := opsAt Tryd.f36 [1, 1, 0, 1, 0, 0]
noncomputable def R36_4 : Array Oper := opsAt Tryd.f36 [1, 1, 1, 0]
theorem code36 : Tryd.f36.body = some (.seq (.region 0 R36_0 false) (.seq (.region 1 R36_1 false) (.seq (.seq (.region 2 R36_2 false) (.cond (.tmp 10) (.seq (.region 3 R36_3 false) .ret) .skip)) (.seq (.region 4 R36_4 false) .ret)))) := by kernel_rfl
noncomputable def R37_0 : Array Oper := opsAt Tryd.f37 [0]
noncomputable def R37_1 : Array Oper := opsAt Tryd.f37 [1, 0, 0]
noncomputable def R37_2 : Array Oper := opsAt Tryd.f37 [1, 0, 1, 0, 0]
noncomputable def R37_3 : Array Oper := opsAt Tryd.f37 [1, 1, 0, 0]
noncomputable def R37_4 : Array Oper := opsAt Tryd.f37 [1, 1, 0, 1, 0, 0, 0, 0]
noncomputable def R37_6 : Array Oper := opsAt Tryd.f37 [1, 1, 0, 1, 0, 0, 1, 0, 0, 0]
noncomputable def R37_7 : Array Oper := opsAt Tryd.f37 [1, 1, 0, 1, 0, 0, 1, 0, 0, 1, 0, 0]
noncomputable def R37_5 : Array Oper := opsAt Tryd.f37 [1, 1, 0, 1, 0, 0, 1, 1]
noncomputable def L37_0 : Code := .seq (.seq (.region 4 R37_4 false) (.cond (.tmp 25) .skip (.exit 0))) (.seq (.block 1 (.seq (.region 6 R37_6 false) (.cond (.tmp 34) (.seq (.region 7 R37_7 false) .ret) .skip))) (.region 5 R37_5 false))
theorem lpL37_0 : loops L37_0 = 0 := rfl
noncomputable def R37_8 : Array Oper := opsAt Tryd.f37 [1, 1, 1, 0]
noncomputable def M37_0 : Code := .seq (.region 8 R37_8 false) .ret
theorem lpM37_0 : loops M37_0 = 0 := rfl
theorem code37 : Tryd.f37.body = some (.seq (.region 0 R37_0 false) (.seq (.seq (.region 1 R37_1 false) (.cond (.tmp 20) (.seq (.region 2 R37_2 false) .ret) .skip)) (.seq (.seq (.region 3 R37_3 false) (.block 0 (.loop L37_0))) M37_0))) := by kernel_rfl
noncomputable def R38_0 : Array Oper := opsAt Tryd.f38 [0]
noncomputable def R38_1 : Array Oper := opsAt Tryd.f38 [1, 0]
noncomputable def R38_2 : Array Oper := opsAt Tryd.f38 [1, 1, 0, 0]
noncomputable def R38_3 : Array Oper := opsAt Tryd.f38 [1, 1, 0, 1, 0, 0, 0, 0]
noncomputable def R38_5 : Array Oper := opsAt Tryd.f38 [1, 1, 0, 1, 0, 0, 1, 0, 0, 0, 0]
noncomputable def R38_6 : Array Oper := opsAt Tryd.f38 [1, 1, 0, 1, 0, 0, 1, 0, 0, 0, 1, 0, 0, 0, 0]
noncomputable def R38_8 : Array Oper := opsAt Tryd.f38 [1, 1, 0, 1, 0, 0, 1, 0, 0, 0, 1, 0, 0, 1, 0, 0, 0, 0]
noncomputable def R38_9 : Array Oper := opsAt Tryd.f38 [1, 1, 0, 1, 0, 0, 1, 0, 0, 0, 1, 0, 0, 1, 0, 0, 0, 1, 0]
noncomputable def R38_10 : Array Oper := opsAt Tryd.f38 [1, 1, 0, 1, 0, 0, 1, 0, 0, 0, 1, 0, 0, 1, 0, 0, 1, 0]
noncomputable def R38_11 : Array Oper := opsAt Tryd.f38 [1, 1, 0, 1, 0, 0, 1, 0, 0, 0, 1, 0, 0, 1, 0, 0, 1, 1, 0]
noncomputable def R38_12 : Array Oper := opsAt Tryd.f38 [1, 1, 0, 1, 0, 0, 1, 0, 0, 0, 1, 0, 0, 1, 0, 0, 1, 1, 1, 0]
noncomputable def R38_13 : Array Oper := opsAt Tryd.f38 [1, 1, 0, 1, 0, 0, 1, 0, 0, 0, 1, 0, 0, 1, 0, 0, 1, 1, 1, 1]
noncomputable def R38_7 : Array Oper := opsAt Tryd.f38 [1, 1, 0, 1, 0, 0, 1, 0, 0, 0, 1, 0, 0, 1, 1]
noncomputable def L38_1 : Code := .seq (.seq (.region 6 R38_6 false) (.cond (.tmp 16) .skip (.exit 2))) (.seq (.block 3 (.seq (.seq (.region 8 R38_8 false) (.cond (.tmp 20) (.region 9 R38_9 false) .skip)) (.seq (.region 10 R38_10 false) (.seq (.region 11 R38_11 false) (.cond (.tmp 28) (.region 12 R38_12 false) (.region 13 R38_13 false)))))) (.region 7 R38_7 false))
theorem lpL38_1 : loops L38_1 = 0 := rfl
noncomputable def R38_14 : Array Oper := opsAt Tryd.f38 [1, 1, 0, 1, 0, 0, 1, 0, 0, 1]
noncomputable def M38_0 : Code := .region 14 R38_14 false
theorem lpM38_0 : loops M38_0 = 0 := rfl
noncomputable def R38_4 : Array Oper := opsAt Tryd.f38 [1, 1, 0, 1, 0, 0, 1, 1]
noncomputable def M38_1 : Code := .region 4 R38_4 false
theorem lpM38_1 : loops M38_1 = 0 := rfl
noncomputable def L38_0 : Code := .seq (.seq (.region 3 R38_3 false) (.cond (.tmp 10) .skip (.exit 0))) (.seq (.block 1 (.seq (.seq (.region 5 R38_5 false) (.block 2 (.loop L38_1))) M38_0)) M38_1)
theorem lpL38_0 : loops L38_0 = 1 := rfl
noncomputable def R38_15 : Array Oper := opsAt Tryd.f38 [1, 1, 1, 0]
noncomputable def M38_2 : Code := .seq (.region 15 R38_15 false) .ret
theorem lpM38_2 : loops M38_2 = 0 := rfl
theorem code38 : Tryd.f38.body = some (.seq (.region 0 R38_0 false) (.seq (.region 1 R38_1 false) (.seq (.seq (.region 2 R38_2 false) (.block 0 (.loop L38_0))) M38_2))) := by kernel_rfl
noncomputable def R39_0 : Array Oper := opsAt Tryd.f39 [0]
noncomputable def R39_1 : Array Oper := opsAt Tryd.f39 [1, 0]
noncomputable def R39_2 : Array Oper := opsAt Tryd.f39 [1, 1, 0, 0]
noncomputable def R39_3 : Array Oper := opsAt Tryd.f39 [1, 1, 0, 1, 0, 0, 0, 0]
noncomputable def R39_5 : Array Oper := opsAt Tryd.f39 [1, 1, 0, 1, 0, 0, 1, 0, 0]
noncomputable def R39_4 : Array Oper := opsAt Tryd.f39 [1, 1, 0, 1, 0, 0, 1, 1]
noncomputable def L39_0 : Code := .seq (.seq (.region 3 R39_3 false) (.cond (.tmp 11) .skip (.exit 0))) (.seq (.block 1 (.region 5 R39_5 false)) (.region 4 R39_4 false))
theorem lpL39_0 : loops L39_0 = 0 := rfl
noncomputable def R39_6 : Array Oper := opsAt Tryd.f39 [1, 1, 1, 0]
noncomputable def M39_0 : Code := .seq (.region 6 R39_6 false) .ret
theorem lpM39_0 : loops M39_0 = 0 := rfl
theorem code39 : Tryd.f39.body = some (.seq (.region 0 R39_0 false) (.seq (.region 1 R39_1 false) (.seq (.seq (.region 2 R39_2 false) (.block 0 (.loop L39_0))) M39_0))) := by kernel_rfl
noncomputable def R43_0 : Array Oper := opsAt Tryd.f43 [0]
noncomputable def R43_1 : Array Oper := opsAt Tryd.f43 [1, 0, 0]
noncomputable def R43_2 : Array Oper := opsAt Tryd.f43 [1, 0, 1, 0, 0]
noncomputable def R43_3 : Array Oper := opsAt Tryd.f43 [1, 1, 0, 0]
noncomputable def R43_4 : Array Oper := opsAt Tryd.f43 [1, 1, 0, 1, 0, 0, 0, 0]
noncomputable def R43_6 : Array Oper := opsAt Tryd.f43 [1, 1, 0, 1, 0, 0, 1, 0, 0, 0]
noncomputable def R43_7 : Array Oper := opsAt Tryd.f43 [1, 1, 0, 1, 0, 0, 1, 0, 0, 1, 0, 0]
noncomputable def R43_5 : Array Oper := opsAt Tryd.f43 [1, 1, 0, 1, 0, 0, 1, 1]
noncomputable def L43_0 : Code := .seq (.seq (.region 4 R43_4 false) (.cond (.tmp 14) .skip (.exit 0))) (.seq (.block 1 (.seq (.region 6 R43_6 true) (.cond (.tmp 25) (.seq (.region 7 R43_7 false) .ret) .skip))) (.region 5 R43_5 false))
theorem lpL43_0 : loops L43_0 = 0 := rfl
noncomputable def R43_8 : Array Oper := opsAt Tryd.f43 [1, 1, 1, 0]
noncomputable def M43_0 : Code := .seq (.region 8 R43_8 false) .ret
theorem lpM43_0 : loops M43_0 = 0 := rfl
theorem code43 : Tryd.f43.body = some (.seq (.region 0 R43_0 false) (.seq (.seq (.region 1 R43_1 false) (.cond (.tmp 10) (.seq (.region 2 R43_2 false) .ret) .skip)) (.seq (.seq (.region 3 R43_3 false) (.block 0 (.loop L43_0))) M43_0))) := by kernel_rfl
noncomputable def R46_0 : Array Oper := opsAt Tryd.f46 [0]
noncomputable def R46_1 : Array Oper := opsAt Tryd.f46 [1, 0]
theorem code46 : Tryd.f46.body = some (.seq (.region 0 R46_0 false) (.seq (.region 1 R46_1 false) .ret)) := by kernel_rfl
noncomputable def R47_0 : Array Oper := opsAt Tryd.f47 [0]
noncomputable def R47_1 : Array Oper := opsAt Tryd.f47 [1, 0]
theorem code47 : Tryd.f47.body = some (.seq (.region 0 R47_0 false) (.seq (.region 1 R47_1 false) .ret)) := by kernel_rfl
noncomputable def R48_0 : Array Oper := opsAt Tryd.f48 [0]
noncomputable def R48_1 : Array Oper := opsAt Tryd.f48 [1, 0, 0]
noncomputable def R48_2 : Array Oper := opsAt Tryd.f48 [1, 0, 1, 0, 0]
noncomputable def R48_3 : Array Oper := opsAt Tryd.f48 [1, 1, 0, 0]
noncomputable def R48_4 : Array Oper := opsAt Tryd.f48 [1, 1, 0, 1, 0, 0]
noncomputable def R48_5 : Array Oper := opsAt Tryd.f48 [1, 1, 1, 0]
theorem code48 : Tryd.f48.body = some (.seq (.region 0 R48_0 false) (.seq (.seq (.region 1 R48_1 false) (.cond (.tmp 4) (.seq (.region 2 R48_2 false) .ret) .skip)) (.seq (.seq (.region 3 R48_3 false) (.cond (.tmp 10) (.seq (.region 4 R48_4 false) .ret) .skip)) (.seq (.region 5 R48_5 true) .ret)))) := by kernel_rfl
noncomputable def R67_0 : Array Oper := opsAt Tryd.f67 [0]
noncomputable def R67_1 : Array Oper := opsAt Tryd.f67 [1, 0]
theorem code67 : Tryd.f67.body = some (.seq (.region 0 R67_0 false) (.seq (.region 1 R67_1 false) .ret)) := by kernel_rfl
noncomputable def R70_0 : Array Oper := opsAt Tryd.f70 [0]
noncomputable def R70_1 : Array Oper := opsAt Tryd.f70 [1, 0]
theorem code70 : Tryd.f70.body = some (.seq (.region 0 R70_0 false) (.seq (.region 1 R70_1 false) .ret)) := by kernel_rfl
noncomputable def R73_0 : Array Oper := opsAt Tryd.f73 [0]
noncomputable def R73_1 : Array Oper := opsAt Tryd.f73 [1, 0]
theorem code73 : Tryd.f73.body = some (.seq (.region 0 R73_0 false) (.seq (.region 1 R73_1 false) .ret)) := by kernel_rfl
noncomputable def R74_0 : Array Oper := opsAt Tryd.f74 [0]
noncomputable def R74_1 : Array Oper := opsAt Tryd.f74 [1, 0]
theorem code74 : Tryd.f74.body = some (.seq (.region 0 R74_0 false) (.seq (.region 1 R74_1 false) .ret)) := by kernel_rfl
noncomputable def R77_0 : Array Oper := opsAt Tryd.f77 [0]
noncomputable def R77_1 : Array Oper := opsAt Tryd.f77 [1, 0]
theorem code77 : Tryd.f77.body = some (.seq (.region 0 R77_0 false) (.seq (.region 1 R77_1 false) .ret)) := by kernel_rfl
noncomputable def R78_0 : Array Oper := opsAt Tryd.f78 [0]
noncomputable def R78_1 : Array Oper := opsAt Tryd.f78 [1, 0]
theorem code78 : Tryd.f78.body = some (.seq (.region 0 R78_0 false) (.seq (.region 1 R78_1 false) .ret)) := by kernel_rfl
noncomputable def R93_0 : Array Oper := opsAt Tryd.f93 [0]
noncomputable def R93_1 : Array Oper := opsAt Tryd.f93 [1, 0, 0]
noncomputable def R93_2 : Array Oper := opsAt Tryd.f93 [1, 0, 1, 0, 0, 0]
noncomputable def R93_3 : Array Oper := opsAt Tryd.f93 [1, 0, 1, 0, 0, 1, 1, 0, 0, 0]
noncomputable def R93_4 : Array Oper := opsAt Tryd.f93 [1, 0, 1, 0, 0, 1, 1, 0, 0, 1, 0]
noncomputable def R93_5 : Array Oper := opsAt Tryd.f93 [1, 0, 1, 0, 0, 1, 1, 0, 0, 1, 1, 0, 0]
noncomputable def R93_6 : Array Oper := opsAt Tryd.f93 [1, 0, 1, 0, 0, 1, 1, 1]
noncomputable def L93_0 : Code := .seq (.region 2 R93_2 false) (.seq (.cond (.tmp 9) .skip (.exit 0)) (.seq (.block 1 (.seq (.region 3 R93_3 false) (.seq (.region 4 R93_4 false) (.cond (.tmp 16) (.seq (.region 5 R93_5 false) .ret) .skip)))) (.region 6 R93_6 false)))
theorem lpL93_0 : loops L93_0 = 0 := rfl
noncomputable def R93_7 : Array Oper := opsAt Tryd.f93 [1, 1, 0]
noncomputable def M93_0 : Code := .seq (.region 7 R93_7 false) .ret
theorem lpM93_0 : loops M93_0 = 0 := rfl
theorem code93 : Tryd.f93.body = some (.seq (.region 0 R93_0 false) (.seq (.seq (.region 1 R93_1 false) (.block 0 (.loop L93_0))) M93_0)) := by kernel_rfl
def ext41 : List V → Option (V × List Eng.Obj)
  | [.c (.int .i64 n)] => if -9223372036854775808 ≤ n ∧ n ≤ 9223372036854775807 then some (.c (.string ⟨(Lib.itoa n).toArray⟩), []) else none
  | _ => none
theorem ext41_ok : ExtOk Tryd.prog 41 ext41 := by
  refine ⟨ent Tryd.func41 rfl rfl, fun args v objs h w Pf ι vals hr D => ?_⟩
  unfold ext41 at h
  split at h
  case h_2 => cases h
  rename_i n
  split at h
  case isFalse => cases h
  rename_i hn
  cases h
  simp only [Reps, Rep] at hr
  obtain ⟨u, us, rfl, rfl, rfl⟩ := hr
  refine (Tryd.strconv_Itoa n hn.1 hn.2 w (jt_of D.glob.2)).mono ?_
  rintro e w' ⟨rfl, k, os, rfl⟩
  have hp : ∀ g, Pf true g → (Sort.grow (w.drewN k) os).heap[g]? = w.heap[g]? := fun g hg => by
    have := D.lt g hg
    show (w.heap ++ os)[g]? = w.heap[g]?
    rw [Array.getElem?_append_left this]
  refine ⟨_, ι, 1, fun _ => False, rfl, ⟨rfl, rfl, rfl, ?_, hp, fun _ _ _ h => h⟩, by simp only [Rep], ⟨fun id vr o h => ?_, D.fresh, D.fresh', fun id vr o id' vr' o' g t t' h => ?_, fun g hg => ?_, D.sub, D.gl hp⟩⟩
  · show w.heap.size ≤ (w.heap ++ os).size
    rw [Array.size_append]; omega
  · simp [hpOf] at h
  · simp [hpOf] at h
  · have := D.lt g hg
    show g < (w.heap ++ os).size
    rw [Array.size_append]; omega
def Chkd (T : TypeId) (w w' : World) (b : Nat) (cur : Array Value) (fz : Nat × Nat) : Prop :=
  Same w w' ∧ (∀ k, k ≠ b → w'.heap[k]? = w.heap[k]?) ∧ w'.heap[b]? = some (.cells (cur.setIfInBounds 0 (.pointer (some ⟨b, 0, none⟩))) T fz)
theorem bldSize : (Tryd.prog.info? 55).map (·.size) = some 2 := by kernel_rfl
theorem bldInfo : (Tryd.prog.info? 5).map (fun i => (i.zero, i.size, i.bytes)) = some (some (.int .u8 0), 1, 1) := by kernel_rfl
theorem bldCells : Tryd.prog.cellsOf 55 = 2 := by kernel_rfl
theorem bldLies (c : Nat) (hc : 2 ≤ c) : liesAt Tryd.prog Tryd.prog.depth 55 (c / Tryd.prog.cellsOf 55) 0 55 1 = true := lies_self bldCells (by kernel_rfl) (Nat.succ_ne_zero _) hc
set_option maxHeartbeats 1000000 in
theorem bldCheck_used (b : Nat) (w : World) (h0 : w.cell? ⟨b, 0, none⟩ = some (.pointer (some ⟨b, 0, none⟩))) :
    Calls Tryd.prog 79 #[.pointer (some ⟨b, 0, none⟩)] w fun e w' => e = .returned (.tuple #[]) ∧ w' = w := by
  obtain ⟨j, hj, _⟩ := Option.map_eq_some_iff.1 bldSize
  go_enter Tryd.func79, Tryd.ntmps79
  go_wp2
  rw [Lib.run_neq_ptr_same w _ Tryd.underlying53 hj]
  go_wp2
  go_end0
  exact ⟨rfl, rfl⟩
set_option maxHeartbeats 1000000 in
theorem bldCheck_fresh (b c : Nat) (w : World) (hc : 2 ≤ c) (h0 : w.cell? ⟨b, 0, none⟩ = some (.pointer none)) (hsh : w.shape? b = some (55, c)) (hfz : w.frozen? ⟨b, 0, none⟩ = false) :
    Calls Tryd.prog 79 #[.pointer (some ⟨b, 0, none⟩)] w fun e w' => e = .returned (.tuple #[]) ∧ w' = w.setCell ⟨b, 0, none⟩ (.pointer (some ⟨b, 0, none⟩)) := by
  obtain ⟨j, hj, hjs⟩ := Option.map_eq_some_iff.1 bldSize
  have hlies := bldLies c hc
  go_enter Tryd.func79, Tryd.ntmps79
  go_wp2
  rw [Lib.run_to_unsafe w ⟨b, 0, none⟩ Tryd.underlying53 Tryd.underlying95 hj (by rw [hjs]; decide) hsh (by show 0 < c; omega)]
  simp only [Result.andThen]
  rw [Oper.upon_value]
  go_wp2
  rw [run_callFunc_extern Tryd.func95 (by kernel_rfl) (by kernel_rfl) (by kernel_rfl) (e := Extern.AbiNoEscape.same) (by kernel_rfl)]
  rw [Lib.run_noEscape]
  simp only [Result.andThen]
  rw [Oper.upon_value]
  go_wp2
  rw [Lib.run_from_unsafe w ⟨b, 0, none⟩ Tryd.underlying95 Tryd.underlying53 hj hsh hlies]
  simp only [Result.andThen]
  rw [Oper.upon_value]
  go_wp2
  go_end0
  exact ⟨rfl, rfl⟩
theorem bldCheck (b : Nat) (w : World) (cur : Array Value) (fz : Nat × Nat) (p v : Value) (hb : w.heap[b]? = some (.cells cur 55 fz)) (hfz : fz = (0, 0) ∨ cur.size ≤ fz.1) (hc : cur.toList.take 2 = [p, v])
    (hp : p = .pointer none ∨ p = .pointer (some ⟨b, 0, none⟩)) :
    Calls Tryd.prog 79 #[.pointer (some ⟨b, 0, none⟩)] w fun e w' => e = .returned (.tuple #[]) ∧ Chkd 55 w w' b cur fz := by
  obtain ⟨l, rfl⟩ := take2 hc
  rcases hp with rfl | rfl
  · refine (bldCheck_fresh b (l.length + 2) w (by omega) (by simp [World.cell?, hb]) (by simp [World.shape?, hb]) ?_).mono ?_
    · obtain ⟨lo, hi⟩ := fz
      simp only [World.frozen?, hb]
      rcases hfz with h | h
      · cases h; simp
      · simp at h; simp; omega
    · rintro e w' ⟨rfl, rfl⟩
      refine ⟨rfl, ⟨rfl, rfl, rfl, by simp [World.setCell]⟩, fun k hk => ?_, ?_⟩
      · simp only [World.setCell, Array.getElem?_modify]
        rw [if_neg (fun e => hk e.symm)]
      · simp [World.setCell, Array.getElem?_modify, hb]
  · refine (bldCheck_used b w (by simp [World.cell?, hb])).mono ?_
    rintro e w' ⟨rfl, rfl⟩
    exact ⟨rfl, Same.refl _, fun _ _ => rfl, by simp [hb]⟩
set_option maxHeartbeats 2000000 in
theorem bld40_ok : BldOk Tryd.prog 40 (true, 55, 5) := by
  refine ⟨ent Tryd.func40 rfl rfl, ?_⟩
  simp only [if_true]
  intro w b n cur fz p v xs ob s hb hfz hc hp hrow hob hs0 hlen
  obtain ⟨i0, hi, hz0, hz1, hz2⟩ := info_parts bldInfo
  go_enter Tryd.func40, Tryd.ntmps40
  go_wp2_with fail
  refine (bldCheck b w _ fz p v hb hfz hc hp).mono ?_
  rintro e w1 ⟨rfl, S1, k1, e1⟩
  obtain ⟨l, rfl⟩ := take2 hc
  have c1 : w1.cell? ⟨b, 1, none⟩ = some v := by simp [World.cell?, e1]
  have hrow1 : RowV w1 5 v n xs ob := by
    rcases hrow with h | ⟨g, cur, h1, ⟨fz', h2, h2'⟩, h3⟩
    · exact .inl h
    · refine .inr ⟨g, cur, h1, ⟨fz', ?_, h2'⟩, h3⟩
      rw [k1 g (fun e => hob (by rw [h3.2.2.2.2, e]))]
      exact h2
  obtain ⟨g', cur', w2, hrun, S2, k2, B2, l1, l2, t2, o2⟩ := app_str Tryd.prog w1 32 9 32 5 i0 Tryd.underlying32 Tryd.underlying9 hi hz0 hz1 hz2 hrow1 s hs0 hlen
  have hbl : b < w1.heap.size := by
    rcases Nat.lt_or_ge b w1.heap.size with h' | h'
    · exact h'
    · simp [Array.getElem?_eq_none h'] at e1
  have hbg : b ≠ g' := by
    rcases o2 with h | h
    · exact fun e => hob (by rw [h, e])
    · omega
  have hb2 := (k2 b hbl hbg).trans e1
  have d1 : w2.cell? ⟨b, 1, none⟩ = some v := by simp [World.cell?, hb2]
  have f1 : w2.frozen? ⟨b, 1, none⟩ = false := by
    obtain ⟨lo, hi⟩ := fz
    simp only [World.frozen?, hb2]
    rcases hfz with h | h
    · cases h; simp
    · simp at h; simp; omega
  go_wp2_with (at_builtin; refine wpList_app rfl _ _ 32 9 rfl rfl rfl hrun ?_)
  go_wp2
  go_ret2
  refine ⟨rfl, w1, w2, g', cur', S1, k1, e1, S2, k2, B2, l1, l2, t2, o2, ⟨rfl, rfl, rfl, by simp [World.setCell]⟩, fun k hk => ?_, ?_⟩
  · simp only [World.setCell, Array.getElem?_modify]
    rw [if_neg (fun e => hk e.symm)]
  · simp [World.setCell, Array.getElem?_modify, hb2]
set_option maxHeartbeats 2000000 in
theorem bld42_ok : BldOk Tryd.prog 42 (false, 55, 5) := by
  refine ⟨ent Tryd.func42 rfl rfl, ?_⟩
  simp only [Bool.false_eq_true, if_false]
  intro w b g cur cur2 fz p l hb hc hg hgb hl0 hl1 hl2 hcs
  obtain ⟨l', rfl⟩ := take2 hc
  obtain ⟨fz2, hg, _⟩ := hg
  have hl : l.length ≠ 0 := by simpa using hl0
  have c1 : w.drew.cell? ⟨b, 1, none⟩ = some (.slice (some ⟨g, 0, none⟩) l.length cur2.size) := by
    have hb' : w.drew.heap[b]? = some (.cells ⟨p :: .slice (some ⟨g, 0, none⟩) l.length cur2.size :: l'⟩ 55 fz) := hb
    simp [World.cell?, hb']
  have hSD : (Builtin.unsafeSliceData_ #[32] 87 #[.slice (some ⟨g, 0, none⟩) l.length cur2.size]).run Tryd.prog w.drew = .ok (.pointer (some ⟨g, 0, none⟩)) w.drew :=
    Lib.run_unsafeSliceData_row _ _ _ _ _ _ (by omega)
  have hUS : (Builtin.unsafeString_ #[87, 3] 9 #[.pointer (some ⟨g, 0, none⟩), .int .i64 l.length]).run Tryd.prog w.drew = .ok (.string ⟨l.toArray⟩) (w.drew.freeze ⟨g, 0, none⟩ l.length) := by
    have hg' : w.drew.heap[g]? = some (.cells cur2 5 fz2) := hg
    refine Lib.run_unsafeString_row w.drew 87 3 9 5 Tryd.underlying87 (by kernel_rfl) g cur2.size (by simp [World.shape?, hg']) l hl0 (by omega) (by unfold maxLen at hl2; omega) ?_
    intro j x hx
    have hj : j < l.length := (List.getElem?_eq_some_iff.1 hx).1
    have h2 : (cur2.toList.take l.length)[j]? = some (.int .u8 (x.toNat : Int)) := by rw [hcs]; simp [hx]
    rw [List.getElem?_take, if_pos hj] at h2
    rw [Addr.add_lit, Nat.zero_add]
    simpa [World.cell?, hg'] using h2
  have hfin : Same w (w.drew.freeze ⟨g, 0, none⟩ l.length) ∧ ∀ k, k ≠ g → (w.drew.freeze ⟨g, 0, none⟩ l.length).heap[k]? = w.heap[k]? := by
    unfold World.freeze
    rw [if_neg hl]
    refine ⟨⟨rfl, rfl, rfl, by rw [Array.size_modify]; exact Nat.le_refl _⟩, fun k hk => ?_⟩
    simp only [Array.getElem?_modify]
    rw [if_neg (fun e => hk e.symm)]
    rfl
  go_enter Tryd.func42, Tryd.ntmps42
  go_wp2
  go_region
  all_goals (go_wp2; go_ret; exact ⟨rfl, hfin⟩)
def X : FuncId → Option (List V → Option (V × List Eng.Obj))
  | 41 => some ext41
  | _ => none
noncomputable def C : Cfg := ⟨T, F, X, WR, OW, K, BL⟩
theorem cT : C.T = T := by unfold C; with_reducible rfl
theorem cF : C.fn = F := by unfold C; with_reducible rfl
theorem cX : C.ext = X := by unfold C; with_reducible rfl
theorem cWR : C.wr = WR := by unfold C; with_reducible rfl
theorem cOW : C.own = OW := by unfold C; with_reducible rfl
theorem cK : C.keep = K := by unfold C; with_reducible rfl
theorem cBL : C.bld = BL := by unfold C; with_reducible rfl
theorem cfgOk : CfgOk Tryd.prog C where
  mixed := by kernel_rfl
  tab := tabOk
  fn := fun f fn h => okF_0 f fn h
  ext := by
    intro f m h
    have h' : X f = some m := h
    unfold X at h'
    split at h'
    · cases h'; exact ext41_ok
    · cases h'
  bld := by
    intro f k h
    have h' : BL f = some k := h
    unfold BL at h'
    split at h'
    · cases h'; exact bld40_ok
    · cases h'; exact bld42_ok
    · cases h'
end Go.Proofs.YtalpgpjhloohfaaDoor.Eng
