/- The types, the functions and the loops' live slots that the laws reach, and that they are what the program has. No conditions. -/
import Derived.Test.YtalpgpjhloohfaaDoorEngTa
namespace Go.Proofs.YtalpgpjhloohfaaDoor.Eng
open Go Go.Proofs
set_option maxRecDepth 100000
noncomputable def R5_0 : Array Oper := opsAt Tryd.f5 [0]
noncomputable def R5_1 : Array Oper := opsAt Tryd.f5 [1, 0, 0]
noncomputable def R5_2 : Array Oper := opsAt Tryd.f5 [1, 0, 1, 0, 0]
noncomputable def R5_3 : Array Oper := opsAt Tryd.f5 [1, 1, 0]
noncomputable def R5_4 : Array Oper := opsAt Tryd.f5 [1, 1, 1, 0]
noncomputable def R5_5 : Array Oper := opsAt Tryd.f5 [1, 1, 1, 1, 0, 0]
noncomputable def R5_6 : Array Oper := opsAt Tryd.f5 [1, 1, 1, 1, 0, 1, 0, 0]
noncomputable def R5_7 : Array Oper := opsAt Tryd.f5 [1, 1, 1, 1, 1, 0]
noncomputable def R5_8 : Array Oper := opsAt Tryd.f5 [1, 1, 1, 1, 1, 1, 0]
noncomputable def R5_9 : Array Oper := opsAt Tryd.f5 [1, 1, 1, 1, 1, 1, 1, 0]
noncomputable def R5_10 : Array Oper := opsAt Tryd.f5 [1, 1, 1, 1, 1, 1, 1, 1, 0]
noncomputable def R5_11 : Array Oper := opsAt Tryd.f5 [1, 1, 1, 1, 1, 1, 1, 1, 1, 0, 0]
noncomputable def R5_12 : Array Oper := opsAt Tryd.f5 [1, 1, 1, 1, 1, 1, 1, 1, 1, 0, 1, 0, 0]
noncomputable def R5_13 : Array Oper := opsAt Tryd.f5 [1, 1, 1, 1, 1, 1, 1, 1, 1, 1, 0, 0]
noncomputable def R5_14 : Array Oper := opsAt Tryd.f5 [1, 1, 1, 1, 1, 1, 1, 1, 1, 1, 0, 1, 0, 0]
noncomputable def R5_15 : Array Oper := opsAt Tryd.f5 [1, 1, 1, 1, 1, 1, 1, 1, 1, 1, 1, 0]
noncomputable def R5_16 : Array Oper := opsAt Tryd.f5 [1, 1, 1, 1, 1, 1, 1, 1, 1, 1, 1, 1, 0, 0]
noncomputable def R5_17 : Array Oper := opsAt Tryd.f5 [1, 1, 1, 1, 1, 1, 1, 1, 1, 1, 1, 1, 0, 1, 0, 0]
noncomputable def R5_18 : Array Oper := opsAt Tryd.f5 [1, 1, 1, 1, 1, 1, 1, 1, 1, 1, 1, 1, 1, 0]
noncomputable def R5_19 : Array Oper := opsAt Tryd.f5 [1, 1, 1, 1, 1, 1, 1, 1, 1, 1, 1, 1, 1, 1, 0]
noncomputable def R5_20 : Array Oper := opsAt Tryd.f5 [1, 1, 1, 1, 1, 1, 1, 1, 1, 1, 1, 1, 1, 1, 1, 0, 0]
noncomputable def R5_21 : Array Oper := opsAt Tryd.f5 [1, 1, 1, 1, 1, 1, 1, 1, 1, 1, 1, 1, 1, 1, 1, 0, 1, 0, 0]
noncomputable def R5_22 : Array Oper := opsAt Tryd.f5 [1, 1, 1, 1, 1, 1, 1, 1, 1, 1, 1, 1, 1, 1, 1, 1, 0, 0]
noncomputable def R5_23 : Array Oper := opsAt Tryd.f5 [1, 1, 1, 1, 1, 1, 1, 1, 1, 1, 1, 1, 1, 1, 1, 1, 0, 1, 0, 0]
noncomputable def R5_24 : Array Oper := opsAt Tryd.f5 [1, 1, 1, 1, 1, 1, 1, 1, 1, 1, 1, 1, 1, 1, 1, 1, 1, 0]
theorem code5 : Tryd.f5.body = some (.seq (.region 0 R5_0 false) (.seq (.seq (.region 1 R5_1 false) (.cond (.tmp 13) (.seq (.region 2 R5_2 false) .ret) .skip)) (.seq (.region 3 R5_3 false) (.seq (.region 4 R5_4 false) (.seq (.seq (.region 5 R5_5 false) (.cond (.tmp 32) (.seq (.region 6 R5_6 false) .ret) .skip)) (.seq (.region 7 R5_7 false) (.seq (.region 8 R5_8 false) (.seq (.region 9 R5_9 false) (.seq (.region 10 R5_10 false) (.seq (.seq (.region 11 R5_11 false) (.cond (.tmp 40) (.seq (.region 12 R5_12 false) .ret) .skip)) (.seq (.seq (.region 13 R5_13 false) (.cond (.tmp 43) (.seq (.region 14 R5_14 false) .ret) .skip)) (.seq (.region 15 R5_15 false) (.seq (.seq (.region 16 R5_16 false) (.cond (.tmp 57) (.seq (.region 17 R5_17 false) .ret) .skip)) (.seq (.region 18 R5_18 false) (.seq (.region 19 R5_19 false) (.seq (.seq (.region 20 R5_20 false) (.cond (.tmp 62) (.seq (.region 21 R5_21 false) .ret) .skip)) (.seq (.seq (.region 22 R5_22 false) (.cond (.tmp 65) (.seq (.region 23 R5_23 false) .ret) .skip)) (.seq (.region 24 R5_24 false) .ret)))))))))))))))))) := by kernel_rfl
noncomputable def R11_0 : Array Oper := opsAt Tryd.f11 [0]
noncomputable def R11_1 : Array Oper := opsAt Tryd.f11 [1, 0, 0]
noncomputable def R11_2 : Array Oper := opsAt Tryd.f11 [1, 0, 1, 0, 0]
noncomputable def R11_3 : Array Oper := opsAt Tryd.f11 [1, 1, 0, 0]
noncomputable def R11_4 : Array Oper := opsAt Tryd.f11 [1, 1, 0, 1, 0, 0]
noncomputable def R11_5 : Array Oper := opsAt Tryd.f11 [1, 1, 1, 0, 0]
noncomputable def R11_6 : Array Oper := opsAt Tryd.f11 [1, 1, 1, 0, 1, 0, 0]
noncomputable def R11_7 : Array Oper := opsAt Tryd.f11 [1, 1, 1, 1, 0]
theorem code11 : Tryd.f11.body = some (.seq (.region 0 R11_0 false) (.seq (.seq (.region 1 R11_1 false) (.cond (.tmp 9) (.seq (.region 2 R11_2 false) .ret) .skip)) (.seq (.seq (.region 3 R11_3 false) (.cond (.tmp 14) (.seq (.region 4 R11_4 false) .ret) .skip)) (.seq (.seq (.region 5 R11_5 false) (.cond (.tmp 20) (.seq (.region 6 R11_6 false) .ret) .skip)) (.seq (.region 7 R11_7 false) .ret))))) := by kernel_rfl
noncomputable def R17_0 : Array Oper := opsAt Tryd.f17 [0]
noncomputable def R17_1 : Array Oper := opsAt Tryd.f17 [1, 0]
noncomputable def R17_2 : Array Oper := opsAt Tryd.f17 [1, 1, 0, 0]
noncomputable def R17_3 : Array Oper := opsAt Tryd.f17 [1, 1, 0, 1, 0, 0]
noncomputable def R17_4 : Array Oper := opsAt Tryd.f17 [1, 1, 1, 0]
theorem code17 : Tryd.f17.body = some (.seq (.region 0 R17_0 false) (.seq (.region 1 R17_1 false) (.seq (.seq (.region 2 R17_2 false) (.cond (.tmp 23) (.seq (.region 3 R17_3 false) .ret) .skip)) (.seq (.region 4 R17_4 false) .ret)))) := by kernel_rfl
noncomputable def R24_0 : Array Oper := opsAt Tryd.f24 [0]
noncomputable def R24_1 : Array Oper := opsAt Tryd.f24 [1, 0]
theorem code24 : Tryd.f24.body = some (.seq (.region 0 R24_0 false) (.seq (.region 1 R24_1 false) .ret)) := by kernel_rfl
noncomputable def R25_0 : Array Oper := opsAt Tryd.f25 [0]
noncomputable def R25_1 : Array Oper := opsAt Tryd.f25 [1, 0, 0]
noncomputable def R25_2 : Array Oper := opsAt Tryd.f25 [1, 0, 1, 0, 0]
noncomputable def R25_3 : Array Oper := opsAt Tryd.f25 [1, 1, 0]
noncomputable def R25_4 : Array Oper := opsAt Tryd.f25 [1, 1, 1, 0]
noncomputable def R25_5 : Array Oper := opsAt Tryd.f25 [1, 1, 1, 1, 0, 0]
noncomputable def R25_6 : Array Oper := opsAt Tryd.f25 [1, 1, 1, 1, 0, 1, 0, 0, 0]
noncomputable def R25_7 : Array Oper := opsAt Tryd.f25 [1, 1, 1, 1, 0, 1, 0, 0, 1, 1, 0, 0, 0]
noncomputable def R25_8 : Array Oper := opsAt Tryd.f25 [1, 1, 1, 1, 0, 1, 0, 0, 1, 1, 0, 0, 1, 0]
noncomputable def R25_9 : Array Oper := opsAt Tryd.f25 [1, 1, 1, 1, 0, 1, 0, 0, 1, 1, 0, 0, 1, 1, 0, 0]
noncomputable def R25_10 : Array Oper := opsAt Tryd.f25 [1, 1, 1, 1, 0, 1, 0, 0, 1, 1, 0, 0, 1, 1, 0, 1, 0, 0]
noncomputable def R25_11 : Array Oper := opsAt Tryd.f25 [1, 1, 1, 1, 0, 1, 0, 0, 1, 1, 0, 0, 1, 1, 1, 0]
noncomputable def R25_12 : Array Oper := opsAt Tryd.f25 [1, 1, 1, 1, 0, 1, 0, 0, 1, 1, 0, 0, 1, 1, 1, 1, 0]
noncomputable def R25_13 : Array Oper := opsAt Tryd.f25 [1, 1, 1, 1, 0, 1, 0, 0, 1, 1, 0, 0, 1, 1, 1, 1, 1, 0, 0, 0]
noncomputable def R25_14 : Array Oper := opsAt Tryd.f25 [1, 1, 1, 1, 0, 1, 0, 0, 1, 1, 0, 0, 1, 1, 1, 1, 1, 0, 0, 1, 1, 0, 0, 0]
noncomputable def R25_15 : Array Oper := opsAt Tryd.f25 [1, 1, 1, 1, 0, 1, 0, 0, 1, 1, 0, 0, 1, 1, 1, 1, 1, 0, 0, 1, 1, 0, 0, 1, 0]
noncomputable def R25_16 : Array Oper := opsAt Tryd.f25 [1, 1, 1, 1, 0, 1, 0, 0, 1, 1, 0, 0, 1, 1, 1, 1, 1, 0, 0, 1, 1, 0, 0, 1, 1, 0, 0]
noncomputable def R25_17 : Array Oper := opsAt Tryd.f25 [1, 1, 1, 1, 0, 1, 0, 0, 1, 1, 0, 0, 1, 1, 1, 1, 1, 0, 0, 1, 1, 0, 0, 1, 1, 0, 1, 0]
noncomputable def R25_18 : Array Oper := opsAt Tryd.f25 [1, 1, 1, 1, 0, 1, 0, 0, 1, 1, 0, 0, 1, 1, 1, 1, 1, 0, 0, 1, 1, 0, 0, 1, 1, 0, 1, 1, 0]
noncomputable def R25_19 : Array Oper := opsAt Tryd.f25 [1, 1, 1, 1, 0, 1, 0, 0, 1, 1, 0, 0, 1, 1, 1, 1, 1, 0, 0, 1, 1, 0, 0, 1, 1, 0, 1, 1, 1, 0]
noncomputable def R25_20 : Array Oper := opsAt Tryd.f25 [1, 1, 1, 1, 0, 1, 0, 0, 1, 1, 0, 0, 1, 1, 1, 1, 1, 0, 0, 1, 1, 0, 0, 1, 1, 1, 0, 0]
noncomputable def R25_21 : Array Oper := opsAt Tryd.f25 [1, 1, 1, 1, 0, 1, 0, 0, 1, 1, 0, 0, 1, 1, 1, 1, 1, 0, 0, 1, 1, 0, 0, 1, 1, 1, 0, 1, 0, 0]
noncomputable def R25_22 : Array Oper := opsAt Tryd.f25 [1, 1, 1, 1, 0, 1, 0, 0, 1, 1, 0, 0, 1, 1, 1, 1, 1, 0, 0, 1, 1, 0, 0, 1, 1, 1, 1]
noncomputable def R25_23 : Array Oper := opsAt Tryd.f25 [1, 1, 1, 1, 0, 1, 0, 0, 1, 1, 0, 0, 1, 1, 1, 1, 1, 0, 0, 1, 1, 1]
noncomputable def L25_1 : Code := .seq (.region 13 R25_13 false) (.seq (.cond (.tmp 53) .skip (.exit 2)) (.seq (.block 3 (.seq (.region 14 R25_14 false) (.seq (.region 15 R25_15 false) (.seq (.seq (.region 16 R25_16 false) (.cond (.tmp 62) (.region 17 R25_17 false) (.seq (.region 18 R25_18 false) (.cond (.tmp 64) (.region 19 R25_19 false) .skip)))) (.seq (.seq (.region 20 R25_20 false) (.cond (.tmp 66) (.seq (.region 21 R25_21 false) .ret) .skip)) (.region 22 R25_22 false)))))) (.region 23 R25_23 false)))
theorem lpL25_1 : loops L25_1 = 0 := rfl
noncomputable def R25_24 : Array Oper := opsAt Tryd.f25 [1, 1, 1, 1, 0, 1, 0, 0, 1, 1, 1]
noncomputable def M25_0 : Code := .region 24 R25_24 false
theorem lpM25_0 : loops M25_0 = 0 := rfl
noncomputable def L25_0 : Code := .seq (.region 6 R25_6 false) (.seq (.cond (.tmp 31) .skip (.exit 0)) (.seq (.block 1 (.seq (.region 7 R25_7 false) (.seq (.region 8 R25_8 false) (.seq (.seq (.region 9 R25_9 false) (.cond (.tmp 45) (.seq (.region 10 R25_10 false) .ret) .skip)) (.seq (.region 11 R25_11 false) (.seq (.region 12 R25_12 false) (.block 2 (.loop L25_1)))))))) M25_0))
theorem lpL25_0 : loops L25_0 = 1 := rfl
noncomputable def R25_25 : Array Oper := opsAt Tryd.f25 [1, 1, 1, 1, 1, 0, 0]
noncomputable def R25_26 : Array Oper := opsAt Tryd.f25 [1, 1, 1, 1, 1, 0, 1, 0, 0]
noncomputable def R25_27 : Array Oper := opsAt Tryd.f25 [1, 1, 1, 1, 1, 1, 0]
noncomputable def M25_1 : Code := .seq (.seq (.region 25 R25_25 false) (.cond (.tmp 78) (.seq (.region 26 R25_26 false) .ret) .skip)) (.seq (.region 27 R25_27 false) .ret)
theorem lpM25_1 : loops M25_1 = 0 := rfl
theorem code25 : Tryd.f25.body = some (.seq (.region 0 R25_0 false) (.seq (.seq (.region 1 R25_1 false) (.cond (.tmp 20) (.seq (.region 2 R25_2 false) .ret) .skip)) (.seq (.region 3 R25_3 false) (.seq (.region 4 R25_4 false) (.seq (.seq (.region 5 R25_5 false) (.block 0 (.loop L25_0))) M25_1))))) := by kernel_rfl
noncomputable def R26_0 : Array Oper := opsAt Tryd.f26 [0]
noncomputable def R26_1 : Array Oper := opsAt Tryd.f26 [1, 0]
noncomputable def R26_2 : Array Oper := opsAt Tryd.f26 [1, 1, 0]
theorem code26 : Tryd.f26.body = some (.seq (.region 0 R26_0 false) (.seq (.region 1 R26_1 false) (.seq (.region 2 R26_2 false) .ret))) := by kernel_rfl
noncomputable def R27_0 : Array Oper := opsAt Tryd.f27 [0]
noncomputable def R27_1 : Array Oper := opsAt Tryd.f27 [1, 0]
noncomputable def R27_2 : Array Oper := opsAt Tryd.f27 [1, 1, 0, 0]
noncomputable def R27_3 : Array Oper := opsAt Tryd.f27 [1, 1, 0, 1, 0, 0]
noncomputable def R27_4 : Array Oper := opsAt Tryd.f27 [1, 1, 1, 0]
theorem code27 : Tryd.f27.body = some (.seq (.region 0 R27_0 false) (.seq (.region 1 R27_1 false) (.seq (.seq (.region 2 R27_2 false) (.cond (.tmp 10) (.seq (.region 3 R27_3 false) .ret) .skip)) (.seq (.region 4 R27_4 false) .ret)))) := by kernel_rfl
noncomputable def R32_0 : Array Oper := opsAt Tryd.f32 [0]
noncomputable def R32_1 : Array Oper := opsAt Tryd.f32 [1, 0]
theorem code32 : Tryd.f32.body = some (.seq (.region 0 R32_0 false) (.seq (.region 1 R32_1 false) .ret)) := by kernel_rfl
noncomputable def R37_0 : Array Oper := opsAt Tryd.f37 [0]
noncomputable def R37_1 : Array Oper := opsAt Tryd.f37 [1, 0, 0]
noncomputable def R37_2 : Array Oper := opsAt Tryd.f37 [1, 0, 1, 0, 0]
noncomputable def R37_3 : Array Oper := opsAt Tryd.f37 [1, 1, 0, 0]
noncomputable def R37_4 : Array Oper := opsAt Tryd.f37 [1, 1, 0, 1, 0, 0, 0, 0]
noncomputable def R37_6 : Array Oper := opsAt Tryd.f37 [1, 1, 0, 1, 0, 0, 1, 0, 0, 0]
noncomputable def R37_7 : Array Oper := opsAt Tryd.f37 [1, 1, 0, 1, 0, 0, 1, 0, 0, 1, 0, 0]
noncomputable def R37_5 : Array Oper := opsAt Tryd.f37 [1, 1, 0, 1, 0, 0, 1, 1]
noncomputable def L37_0 : Code := .seq (.seq (.region 4 R37_4 false) (.cond (.tmp 25) .skip (.exit 0))) (.seq (.block 1 (.seq (.region 6 R37_6 false) (.cond (.tmp 34) (.seq (.region 7 R37_7 false) .ret) .skip))) (.region 5 R37_5 false))
theorem lpL37_0 : loops L37_0 = 0 := rfl
noncomputable def R37_8 : Array Oper := opsAt Tryd.f37 [1, 1, 1, 0]
noncomputable def M37_0 : Code := .seq (.region 8 R37_8 false) .ret
theorem lpM37_0 : loops M37_0 = 0 := rfl
theorem code37 : Tryd.f37.body = some (.seq (.region 0 R37_0 false) (.seq (.seq (.region 1 R37_1 false) (.cond (.tmp 20) (.seq (.region 2 R37_2 false) .ret) .skip)) (.seq (.seq (.region 3 R37_3 false) (.block 0 (.loop L37_0))) M37_0))) := by kernel_rfl
noncomputable def R38_0 : Array Oper := opsAt Tryd.f38 [0]
noncomputable def R38_1 : Array Oper := opsAt Tryd.f38 [1, 0]
noncomputable def R38_2 : Array Oper := opsAt Tryd.f38 [1, 1, 0, 0]
noncomputable def R38_3 : Array Oper := opsAt Tryd.f38 [1, 1, 0, 1, 0, 0, 0, 0]
noncomputable def R38_5 : Array Oper := opsAt Tryd.f38 [1, 1, 0, 1, 0, 0, 1, 0, 0, 0, 0]
noncomputable def R38_6 : Array Oper := opsAt Tryd.f38 [1, 1, 0, 1, 0, 0, 1, 0, 0, 0, 1, 0, 0, 0, 0]
noncomputable def R38_8 : Array Oper := opsAt Tryd.f38 [1, 1, 0, 1, 0, 0, 1, 0, 0, 0, 1, 0, 0, 1, 0, 0, 0, 0]
noncomputable def R38_9 : Array Oper := opsAt Tryd.f38 [1, 1, 0, 1, 0, 0, 1, 0, 0, 0, 1, 0, 0, 1, 0, 0, 0, 1, 0]
noncomputable def R38_10 : Array Oper := opsAt Tryd.f38 [1, 1, 0, 1, 0, 0, 1, 0, 0, 0, 1, 0, 0, 1, 0, 0, 1, 0]
noncomputable def R38_11 : Array Oper := opsAt Tryd.f38 [1, 1, 0, 1, 0, 0, 1, 0, 0, 0, 1, 0, 0, 1, 0, 0, 1, 1, 0]
noncomputable def R38_12 : Array Oper := opsAt Tryd.f38 [1, 1, 0, 1, 0, 0, 1, 0, 0, 0, 1, 0, 0, 1, 0, 0, 1, 1, 1, 0]
noncomputable def R38_13 : Array Oper := opsAt Tryd.f38 [1, 1, 0, 1, 0, 0, 1, 0, 0, 0, 1, 0, 0, 1, 0, 0, 1, 1, 1, 1]
noncomputable def R38_7 : Array Oper := opsAt Tryd.f38 [1, 1, 0, 1, 0, 0, 1, 0, 0, 0, 1, 0, 0, 1, 1]
noncomputable def L38_1 : Code := .seq (.seq (.region 6 R38_6 false) (.cond (.tmp 16) .skip (.exit 2))) (.seq (.block 3 (.seq (.seq (.region 8 R38_8 false) (.cond (.tmp 20) (.region 9 R38_9 false) .skip)) (.seq (.region 10 R38_10 false) (.seq (.region 11 R38_11 false) (.cond (.tmp 28) (.region 12 R38_12 false) (.region 13 R38_13 false)))))) (.region 7 R38_7 false))
theorem lpL38_1 : loops L38_1 = 0 := rfl
noncomputable def R38_14 : Array Oper := opsAt Tryd.f38 [1, 1, 0, 1, 0, 0, 1, 0, 0, 1]
noncomputable def M38_0 : Code := .region 14 R38_14 false
theorem lpM38_0 : loops M38_0 = 0 := rfl
noncomputable def R38_4 : Array Oper := opsAt Tryd.f38 [1, 1, 0, 1, 0, 0, 1, 1]
noncomputable def M38_1 : Code := .region 4 R38_4 false
theorem lpM38_1 : loops M38_1 = 0 := rfl
noncomputable def L38_0 : Code := .seq (.seq (.region 3 R38_3 false) (.cond (.tmp 10) .skip (.exit 0))) (.seq (.block 1 (.seq (.seq (.region 5 R38_5 false) (.block 2 (.loop L38_1))) M38_0)) M38_1)
theorem lpL38_0 : loops L38_0 = 1 := rfl
noncomputable def R38_15 : Array Oper := opsAt Tryd.f38 [1, 1, 1, 0]
noncomputable def M38_2 : Code := .seq (.region 15 R38_15 false) .ret
theorem lpM38_2 : loops M38_2 = 0 := rfl
theorem code38 : Tryd.f38.body = some (.seq (.region 0 R38_0 false) (.seq (.region 1 R38_1 false) (.seq (.seq (.region 2 R38_2 false) (.block 0 (.loop L38_0))) M38_2))) := by kernel_rfl
noncomputable def R43_0 : Array Oper := opsAt Tryd.f43 [0]
noncomputable def R43_1 : Array Oper := opsAt Tryd.f43 [1, 0, 0]
noncomputable def R43_2 : Array Oper := opsAt Tryd.f43 [1, 0, 1, 0, 0]
noncomputable def R43_3 : Array Oper := opsAt Tryd.f43 [1, 1, 0, 0]
noncomputable def R43_4 : Array Oper := opsAt Tryd.f43 [1, 1, 0, 1, 0, 0, 0, 0]
noncomputable def R43_6 : Array Oper := opsAt Tryd.f43 [1, 1, 0, 1, 0, 0, 1, 0, 0, 0]
noncomputable def R43_7 : Array Oper := opsAt Tryd.f43 [1, 1, 0, 1, 0, 0, 1, 0, 0, 1, 0, 0]
noncomputable def R43_5 : Array Oper := opsAt Tryd.f43 [1, 1, 0, 1, 0, 0, 1, 1]
noncomputable def L43_0 : Code := .seq (.seq (.region 4 R43_4 false) (.cond (.tmp 14) .skip (.exit 0))) (.seq (.block 1 (.seq (.region 6 R43_6 true) (.cond (.tmp 25) (.seq (.region 7 R43_7 false) .ret) .skip))) (.region 5 R43_5 false))
theorem lpL43_0 : loops L43_0 = 0 := rfl
noncomputable def R43_8 : Array Oper := opsAt Tryd.f43 [1, 1, 1, 0]
noncomputable def M43_0 : Code := .seq (.region 8 R43_8 false) .ret
theorem lpM43_0 : loops M43_0 = 0 := rfl
theorem code43 : Tryd.f43.body = some (.seq (.region 0 R43_0 false) (.seq (.seq (.region 1 R43_1 false) (.cond (.tmp 10) (.seq (.region 2 R43_2 false) .ret) .skip)) (.seq (.seq (.region 3 R43_3 false) (.block 0 (.loop L43_0))) M43_0))) := by kernel_rfl
noncomputable def R46_0 : Array Oper := opsAt Tryd.f46 [0]
noncomputable def R46_1 : Array Oper := opsAt Tryd.f46 [1, 0]
theorem code46 : Tryd.f46.body = some (.seq (.region 0 R46_0 false) (.seq (.region 1 R46_1 false) .ret)) := by kernel_rfl
noncomputable def R47_0 : Array Oper := opsAt Tryd.f47 [0]
noncomputable def R47_1 : Array Oper := opsAt Tryd.f47 [1, 0]
theorem code47 : Tryd.f47.body = some (.seq (.region 0 R47_0 false) (.seq (.region 1 R47_1 false) .ret)) := by kernel_rfl
noncomputable def R48_0 : Array Oper := opsAt Tryd.f48 [0]
noncomputable def R48_1 : Array Oper := opsAt Tryd.f48 [1, 0, 0]
noncomputable def R48_2 : Array Oper := opsAt Tryd.f48 [1, 0, 1, 0, 0]
noncomputable def R48_3 : Array Oper := opsAt Tryd.f48 [1, 1, 0, 0]
noncomputable def R48_4 : Array Oper := opsAt Tryd.f48 [1, 1, 0, 1, 0, 0]
noncomputable def R48_5 : Array Oper := opsAt Tryd.f48 [1, 1, 1, 0]
theorem code48 : Tryd.f48.body = some (.seq (.region 0 R48_0 false) (.seq (.seq (.region 1 R48_1 false) (.cond (.tmp 4) (.seq (.region 2 R48_2 false) .ret) .skip)) (.seq (.seq (.region 3 R48_3 false) (.cond (.tmp 10) (.seq (.region 4 R48_4 false) .ret) .skip)) (.seq (.region 5 R48_5 true) .ret)))) := by kernel_rfl
noncomputable def R52_0 : Array Oper := opsAt Tryd.f52 [0]
noncomputable def R52_1 : Array Oper := opsAt Tryd.f52 [1, 0]
noncomputable def R52_2 : Array Oper := opsAt Tryd.f52 [1, 1, 0, 0]
noncomputable def R52_3 : Array Oper := opsAt Tryd.f52 [1, 1, 0, 1, 0]
noncomputable def R52_4 : Array Oper := opsAt Tryd.f52 [1, 1, 1, 0, 0]
noncomputable def R52_5 : Array Oper := opsAt Tryd.f52 [1, 1, 1, 0, 1, 0, 0]
noncomputable def R52_6 : Array Oper := opsAt Tryd.f52 [1, 1, 1, 1, 0]
noncomputable def R52_7 : Array Oper := opsAt Tryd.f52 [1, 1, 1, 1, 1, 0, 0]
noncomputable def R52_8 : Array Oper := opsAt Tryd.f52 [1, 1, 1, 1, 1, 0, 1, 0, 0, 0, 0]
noncomputable def R52_10 : Array Oper := opsAt Tryd.f52 [1, 1, 1, 1, 1, 0, 1, 0, 0, 1, 0, 0, 0, 0]
noncomputable def R52_11 : Array Oper := opsAt Tryd.f52 [1, 1, 1, 1, 1, 0, 1, 0, 0, 1, 0, 0, 0, 1, 0, 0]
noncomputable def R52_12 : Array Oper := opsAt Tryd.f52 [1, 1, 1, 1, 1, 0, 1, 0, 0, 1, 0, 0, 1]
noncomputable def R52_9 : Array Oper := opsAt Tryd.f52 [1, 1, 1, 1, 1, 0, 1, 0, 0, 1, 1]
noncomputable def L52_0 : Code := .seq (.seq (.region 8 R52_8 false) (.cond (.tmp 25) .skip (.exit 0))) (.seq (.block 1 (.seq (.seq (.region 10 R52_10 false) (.cond (.tmp 37) (.seq (.region 11 R52_11 false) .ret) .skip)) (.region 12 R52_12 false))) (.region 9 R52_9 false))
theorem lpL52_0 : loops L52_0 = 0 := rfl
noncomputable def R52_13 : Array Oper := opsAt Tryd.f52 [1, 1, 1, 1, 1, 1, 0, 0]
noncomputable def R52_14 : Array Oper := opsAt Tryd.f52 [1, 1, 1, 1, 1, 1, 0, 1, 0]
noncomputable def R52_15 : Array Oper := opsAt Tryd.f52 [1, 1, 1, 1, 1, 1, 1, 0, 0]
noncomputable def R52_16 : Array Oper := opsAt Tryd.f52 [1, 1, 1, 1, 1, 1, 1, 0, 1, 0, 0]
noncomputable def R52_17 : Array Oper := opsAt Tryd.f52 [1, 1, 1, 1, 1, 1, 1, 1, 0]
noncomputable def M52_0 : Code := .seq (.seq (.region 13 R52_13 false) (.cond (.tmp 50) (.region 14 R52_14 false) .skip)) (.seq (.seq (.region 15 R52_15 false) (.cond (.tmp 56) (.seq (.region 16 R52_16 false) .ret) .skip)) (.seq (.region 17 R52_17 false) .ret))
theorem lpM52_0 : loops M52_0 = 0 := rfl
theorem code52 : Tryd.f52.body = some (.seq (.region 0 R52_0 false) (.seq (.region 1 R52_1 false) (.seq (.seq (.region 2 R52_2 false) (.cond (.tmp 15) (.region 3 R52_3 false) .skip)) (.seq (.seq (.region 4 R52_4 false) (.cond (.tmp 21) (.seq (.region 5 R52_5 false) .ret) .skip)) (.seq (.region 6 R52_6 false) (.seq (.seq (.region 7 R52_7 false) (.block 0 (.loop L52_0))) M52_0)))))) := by kernel_rfl
noncomputable def R59_0 : Array Oper := opsAt Tryd.f59 [0]
noncomputable def R59_1 : Array Oper := opsAt Tryd.f59 [1, 0]
noncomputable def R59_2 : Array Oper := opsAt Tryd.f59 [1, 1, 0]
noncomputable def R59_3 : Array Oper := opsAt Tryd.f59 [1, 1, 1, 0]
noncomputable def R59_4 : Array Oper := opsAt Tryd.f59 [1, 1, 1, 1, 0, 0]
noncomputable def R59_5 : Array Oper := opsAt Tryd.f59 [1, 1, 1, 1, 0, 1, 0, 0]
noncomputable def R59_6 : Array Oper := opsAt Tryd.f59 [1, 1, 1, 1, 1, 0, 0]
noncomputable def R59_7 : Array Oper := opsAt Tryd.f59 [1, 1, 1, 1, 1, 0, 1, 0, 0, 0, 0]
noncomputable def R59_9 : Array Oper := opsAt Tryd.f59 [1, 1, 1, 1, 1, 0, 1, 0, 0, 1, 0, 0, 0]
noncomputable def R59_10 : Array Oper := opsAt Tryd.f59 [1, 1, 1, 1, 1, 0, 1, 0, 0, 1, 0, 0, 1, 0]
noncomputable def R59_11 : Array Oper := opsAt Tryd.f59 [1, 1, 1, 1, 1, 0, 1, 0, 0, 1, 0, 0, 1, 1, 0]
noncomputable def R59_12 : Array Oper := opsAt Tryd.f59 [1, 1, 1, 1, 1, 0, 1, 0, 0, 1, 0, 0, 1, 1, 1, 0, 0, 0, 0]
noncomputable def R59_14 : Array Oper := opsAt Tryd.f59 [1, 1, 1, 1, 1, 0, 1, 0, 0, 1, 0, 0, 1, 1, 1, 0, 0, 1, 0, 0, 0]
noncomputable def R59_15 : Array Oper := opsAt Tryd.f59 [1, 1, 1, 1, 1, 0, 1, 0, 0, 1, 0, 0, 1, 1, 1, 0, 0, 1, 0, 0, 1, 0, 0]
noncomputable def R59_16 : Array Oper := opsAt Tryd.f59 [1, 1, 1, 1, 1, 0, 1, 0, 0, 1, 0, 0, 1, 1, 1, 0, 0, 1, 0, 0, 1, 0, 1, 0, 0]
noncomputable def R59_17 : Array Oper := opsAt Tryd.f59 [1, 1, 1, 1, 1, 0, 1, 0, 0, 1, 0, 0, 1, 1, 1, 0, 0, 1, 0, 0, 1, 0, 1, 0, 1]
noncomputable def R59_18 : Array Oper := opsAt Tryd.f59 [1, 1, 1, 1, 1, 0, 1, 0, 0, 1, 0, 0, 1, 1, 1, 0, 0, 1, 0, 0, 1, 0, 1, 1, 0]
noncomputable def R59_19 : Array Oper := opsAt Tryd.f59 [1, 1, 1, 1, 1, 0, 1, 0, 0, 1, 0, 0, 1, 1, 1, 0, 0, 1, 0, 0, 1, 0, 1, 1, 1, 0]
noncomputable def R59_20 : Array Oper := opsAt Tryd.f59 [1, 1, 1, 1, 1, 0, 1, 0, 0, 1, 0, 0, 1, 1, 1, 0, 0, 1, 0, 0, 1, 1, 0, 0]
noncomputable def R59_21 : Array Oper := opsAt Tryd.f59 [1, 1, 1, 1, 1, 0, 1, 0, 0, 1, 0, 0, 1, 1, 1, 0, 0, 1, 0, 0, 1, 1, 0, 1, 0, 0]
noncomputable def R59_22 : Array Oper := opsAt Tryd.f59 [1, 1, 1, 1, 1, 0, 1, 0, 0, 1, 0, 0, 1, 1, 1, 0, 0, 1, 0, 0, 1, 1, 1]
noncomputable def R59_13 : Array Oper := opsAt Tryd.f59 [1, 1, 1, 1, 1, 0, 1, 0, 0, 1, 0, 0, 1, 1, 1, 0, 0, 1, 1]
noncomputable def L59_1 : Code := .seq (.seq (.region 12 R59_12 false) (.cond (.tmp 46) .skip (.exit 2))) (.seq (.block 3 (.seq (.region 14 R59_14 false) (.seq (.seq (.region 15 R59_15 false) (.cond (.tmp 61) (.seq (.region 16 R59_16 false) (.region 17 R59_17 false)) (.seq (.region 18 R59_18 false) (.cond (.tmp 63) (.region 19 R59_19 false) .skip)))) (.seq (.seq (.region 20 R59_20 false) (.cond (.tmp 65) (.seq (.region 21 R59_21 false) .ret) .skip)) (.region 22 R59_22 false))))) (.region 13 R59_13 false))
theorem lpL59_1 : loops L59_1 = 0 := rfl
noncomputable def R59_8 : Array Oper := opsAt Tryd.f59 [1, 1, 1, 1, 1, 0, 1, 0, 0, 1, 1]
noncomputable def M59_0 : Code := .region 8 R59_8 false
theorem lpM59_0 : loops M59_0 = 0 := rfl
noncomputable def L59_0 : Code := .seq (.seq (.region 7 R59_7 false) (.cond (.tmp 32) .skip (.exit 0))) (.seq (.block 1 (.seq (.region 9 R59_9 false) (.seq (.region 10 R59_10 false) (.seq (.region 11 R59_11 false) (.block 2 (.loop L59_1)))))) M59_0)
theorem lpL59_0 : loops L59_0 = 1 := rfl
noncomputable def R59_23 : Array Oper := opsAt Tryd.f59 [1, 1, 1, 1, 1, 1, 0, 0]
noncomputable def R59_24 : Array Oper := opsAt Tryd.f59 [1, 1, 1, 1, 1, 1, 0, 1, 0, 0]
noncomputable def R59_25 : Array Oper := opsAt Tryd.f59 [1, 1, 1, 1, 1, 1, 1, 0]
noncomputable def M59_1 : Code := .seq (.seq (.region 23 R59_23 false) (.cond (.tmp 81) (.seq (.region 24 R59_24 false) .ret) .skip)) (.seq (.region 25 R59_25 false) .ret)
theorem lpM59_1 : loops M59_1 = 0 := rfl
theorem code59 : Tryd.f59.body = some (.seq (.region 0 R59_0 false) (.seq (.region 1 R59_1 false) (.seq (.region 2 R59_2 false) (.seq (.region 3 R59_3 false) (.seq (.seq (.region 4 R59_4 false) (.cond (.tmp 27) (.seq (.region 5 R59_5 false) .ret) .skip)) (.seq (.seq (.region 6 R59_6 false) (.block 0 (.loop L59_0))) M59_1)))))) := by kernel_rfl
noncomputable def R60_0 : Array Oper := opsAt Tryd.f60 [0]
noncomputable def R60_1 : Array Oper := opsAt Tryd.f60 [1, 0]
theorem code60 : Tryd.f60.body = some (.seq (.region 0 R60_0 false) (.seq (.region 1 R60_1 false) .ret)) := by kernel_rfl
noncomputable def R62_0 : Array Oper := opsAt Tryd.f62 [0]
noncomputable def R62_1 : Array Oper := opsAt Tryd.f62 [1, 0]
theorem code62 : Tryd.f62.body = some (.seq (.region 0 R62_0 false) (.seq (.region 1 R62_1 false) .ret)) := by kernel_rfl
noncomputable def R63_0 : Array Oper := opsAt Tryd.f63 [0]
noncomputable def R63_1 : Array Oper := opsAt Tryd.f63 [1, 0, 0]
noncomputable def R63_2 : Array Oper := opsAt Tryd.f63 [1, 0, 1, 0, 0, 0, 0]
noncomputable def R63_4 : Array Oper := opsAt Tryd.f63 [1, 0, 1, 0, 0, 1, 0, 0, 0]
noncomputable def R63_5 : Array Oper := opsAt Tryd.f63 [1, 0, 1, 0, 0, 1, 0, 0, 1]
noncomputable def R63_3 : Array Oper := opsAt Tryd.f63 [1, 0, 1, 0, 0, 1, 1]
noncomputable def L63_0 : Code := .seq (.seq (.region 2 R63_2 false) (.cond (.tmp 9) .skip (.exit 0))) (.seq (.block 1 (.seq (.region 4 R63_4 false) (.region 5 R63_5 false))) (.region 3 R63_3 false))
theorem lpL63_0 : loops L63_0 = 0 := rfl
noncomputable def R63_6 : Array Oper := opsAt Tryd.f63 [1, 1, 0]
noncomputable def M63_0 : Code := .seq (.region 6 R63_6 false) .ret
theorem lpM63_0 : loops M63_0 = 0 := rfl
theorem code63 : Tryd.f63.body = some (.seq (.region 0 R63_0 false) (.seq (.seq (.region 1 R63_1 false) (.block 0 (.loop L63_0))) M63_0)) := by kernel_rfl
noncomputable def R64_0 : Array Oper := opsAt Tryd.f64 [0]
noncomputable def R64_1 : Array Oper := opsAt Tryd.f64 [1, 0, 0]
noncomputable def R64_2 : Array Oper := opsAt Tryd.f64 [1, 0, 1, 0, 0, 0, 0]
noncomputable def R64_4 : Array Oper := opsAt Tryd.f64 [1, 0, 1, 0, 0, 1, 0, 0, 0, 0]
noncomputable def R64_5 : Array Oper := opsAt Tryd.f64 [1, 0, 1, 0, 0, 1, 0, 0, 0, 1, 0, 0]
noncomputable def R64_6 : Array Oper := opsAt Tryd.f64 [1, 0, 1, 0, 0, 1, 0, 0, 1]
noncomputable def R64_3 : Array Oper := opsAt Tryd.f64 [1, 0, 1, 0, 0, 1, 1]
noncomputable def L64_0 : Code := .seq (.seq (.region 2 R64_2 false) (.cond (.tmp 9) .skip (.exit 0))) (.seq (.block 1 (.seq (.seq (.region 4 R64_4 false) (.cond (.tmp 17) (.seq (.region 5 R64_5 false) .ret) .skip)) (.region 6 R64_6 false))) (.region 3 R64_3 false))
theorem lpL64_0 : loops L64_0 = 0 := rfl
noncomputable def R64_7 : Array Oper := opsAt Tryd.f64 [1, 1, 0]
noncomputable def M64_0 : Code := .seq (.region 7 R64_7 false) .ret
theorem lpM64_0 : loops M64_0 = 0 := rfl
theorem code64 : Tryd.f64.body = some (.seq (.region 0 R64_0 false) (.seq (.seq (.region 1 R64_1 false) (.block 0 (.loop L64_0))) M64_0)) := by kernel_rfl
noncomputable def R67_0 : Array Oper := opsAt Tryd.f67 [0]
noncomputable def R67_1 : Array Oper := opsAt Tryd.f67 [1, 0]
theorem code67 : Tryd.f67.body = some (.seq (.region 0 R67_0 false) (.seq (.region 1 R67_1 false) .ret)) := by kernel_rfl
noncomputable def R70_0 : Array Oper := opsAt Tryd.f70 [0]
noncomputable def R70_1 : Array Oper := opsAt Tryd.f70 [1, 0]
theorem code70 : Tryd.f70.body = some (.seq (.region 0 R70_0 false) (.seq (.region 1 R70_1 false) .ret)) := by kernel_rfl
noncomputable def R73_0 : Array Oper := opsAt Tryd.f73 [0]
noncomputable def R73_1 : Array Oper := opsAt Tryd.f73 [1, 0]
theorem code73 : Tryd.f73.body = some (.seq (.region 0 R73_0 false) (.seq (.region 1 R73_1 false) .ret)) := by kernel_rfl
noncomputable def R74_0 : Array Oper := opsAt Tryd.f74 [0]
noncomputable def R74_1 : Array Oper := opsAt Tryd.f74 [1, 0]
theorem code74 : Tryd.f74.body = some (.seq (.region 0 R74_0 false) (.seq (.region 1 R74_1 false) .ret)) := by kernel_rfl
noncomputable def R77_0 : Array Oper := opsAt Tryd.f77 [0]
noncomputable def R77_1 : Array Oper := opsAt Tryd.f77 [1, 0]
theorem code77 : Tryd.f77.body = some (.seq (.region 0 R77_0 false) (.seq (.region 1 R77_1 false) .ret)) := by kernel_rfl
noncomputable def R78_0 : Array Oper := opsAt Tryd.f78 [0]
noncomputable def R78_1 : Array Oper := opsAt Tryd.f78 [1, 0]
theorem code78 : Tryd.f78.body = some (.seq (.region 0 R78_0 false) (.seq (.region 1 R78_1 false) .ret)) := by kernel_rfl
noncomputable def R87_0 : Array Oper := opsAt Tryd.f87 [0]
noncomputable def R87_1 : Array Oper := opsAt Tryd.f87 [1, 0]
noncomputable def R87_2 : Array Oper := opsAt Tryd.f87 [1, 1, 0]
noncomputable def R87_3 : Array Oper := opsAt Tryd.f87 [1, 1, 1, 0, 0]
noncomputable def R87_4 : Array Oper := opsAt Tryd.f87 [1, 1, 1, 0, 1, 0, 0, 0, 0]
noncomputable def R87_6 : Array Oper := opsAt Tryd.f87 [1, 1, 1, 0, 1, 0, 0, 1, 0, 0, 0]
noncomputable def R87_7 : Array Oper := opsAt Tryd.f87 [1, 1, 1, 0, 1, 0, 0, 1, 0, 0, 1, 0, 0]
noncomputable def R87_8 : Array Oper := opsAt Tryd.f87 [1, 1, 1, 0, 1, 0, 0, 1, 0, 0, 1, 0, 1]
noncomputable def R87_5 : Array Oper := opsAt Tryd.f87 [1, 1, 1, 0, 1, 0, 0, 1, 1]
noncomputable def L87_0 : Code := .seq (.seq (.region 4 R87_4 false) (.cond (.tmp 12) .skip (.exit 0))) (.seq (.block 1 (.seq (.region 6 R87_6 false) (.cond (.tmp 19) (.seq (.region 7 R87_7 false) (.region 8 R87_8 false)) .skip))) (.region 5 R87_5 false))
theorem lpL87_0 : loops L87_0 = 0 := rfl
noncomputable def R87_9 : Array Oper := opsAt Tryd.f87 [1, 1, 1, 1, 0]
noncomputable def M87_0 : Code := .seq (.region 9 R87_9 false) .ret
theorem lpM87_0 : loops M87_0 = 0 := rfl
theorem code87 : Tryd.f87.body = some (.seq (.region 0 R87_0 false) (.seq (.region 1 R87_1 false) (.seq (.region 2 R87_2 false) (.seq (.seq (.region 3 R87_3 false) (.block 0 (.loop L87_0))) M87_0)))) := by kernel_rfl
noncomputable def R88_0 : Array Oper := opsAt Tryd.f88 [0]
noncomputable def R88_1 : Array Oper := opsAt Tryd.f88 [1, 0]
theorem code88 : Tryd.f88.body = some (.seq (.region 0 R88_0 false) (.seq (.region 1 R88_1 false) .ret)) := by kernel_rfl
noncomputable def R90_0 : Array Oper := opsAt Tryd.f90 [0]
noncomputable def R90_1 : Array Oper := opsAt Tryd.f90 [1, 0, 0]
noncomputable def R90_2 : Array Oper := opsAt Tryd.f90 [1, 0, 1, 0, 0]
noncomputable def R90_3 : Array Oper := opsAt Tryd.f90 [1, 1, 0]
theorem code90 : Tryd.f90.body = some (.seq (.region 0 R90_0 false) (.seq (.seq (.region 1 R90_1 false) (.cond (.tmp 7) (.seq (.region 2 R90_2 false) .ret) .skip)) (.seq (.region 3 R90_3 false) .ret))) := by kernel_rfl
noncomputable def R93_0 : Array Oper := opsAt Tryd.f93 [0]
noncomputable def R93_1 : Array Oper := opsAt Tryd.f93 [1, 0, 0]
noncomputable def R93_2 : Array Oper := opsAt Tryd.f93 [1, 0, 1, 0, 0, 0]
noncomputable def R93_3 : Array Oper := opsAt Tryd.f93 [1, 0, 1, 0, 0, 1, 1, 0, 0, 0]
noncomputable def R93_4 : Array Oper := opsAt Tryd.f93 [1, 0, 1, 0, 0, 1, 1, 0, 0, 1, 0]
noncomputable def R93_5 : Array Oper := opsAt Tryd.f93 [1, 0, 1, 0, 0, 1, 1, 0, 0, 1, 1, 0, 0]
noncomputable def R93_6 : Array Oper := opsAt Tryd.f93 [1, 0, 1, 0, 0, 1, 1, 1]
noncomputable def L93_0 : Code := .seq (.region 2 R93_2 false) (.seq (.cond (.tmp 9) .skip (.exit 0)) (.seq (.block 1 (.seq (.region 3 R93_3 false) (.seq (.region 4 R93_4 false) (.cond (.tmp 16) (.seq (.region 5 R93_5 false) .ret) .skip)))) (.region 6 R93_6 false)))
theorem lpL93_0 : loops L93_0 = 0 := rfl
noncomputable def R93_7 : Array Oper := opsAt Tryd.f93 [1, 1, 0]
noncomputable def M93_0 : Code := .seq (.region 7 R93_7 false) .ret
theorem lpM93_0 : loops M93_0 = 0 := rfl
theorem code93 : Tryd.f93.body = some (.seq (.region 0 R93_0 false) (.seq (.seq (.region 1 R93_1 false) (.block 0 (.loop L93_0))) M93_0)) := by kernel_rfl
def ext41 : List V → Option (V × List Eng.Obj)
  | [.c (.int .i64 n)] => if -9223372036854775808 ≤ n ∧ n ≤ 9223372036854775807 then some (.c (.string ⟨(Lib.itoa n).toArray⟩), []) else none
  | _ => none
theorem ext41_ok : ExtOk Tryd.prog 41 ext41 := by
  refine ⟨ent Tryd.func41 rfl rfl, fun args v objs h w Pf ι vals hr D => ?_⟩
  unfold ext41 at h
  split at h
  case h_2 => cases h
  rename_i n
  split at h
  case isFalse => cases h
  rename_i hn
  cases h
  simp only [Reps, Rep] at hr
  obtain ⟨u, us, rfl, rfl, rfl⟩ := hr
  refine (Tryd.strconv_Itoa n hn.1 hn.2 w (jt_of D.glob.2)).mono ?_
  rintro e w' ⟨rfl, k, os, rfl⟩
  have hp : ∀ g, Pf true g → (Sort.grow (w.drewN k) os).heap[g]? = w.heap[g]? := fun g hg => by
    have := D.lt g hg
    show (w.heap ++ os)[g]? = w.heap[g]?
    rw [Array.getElem?_append_left this]
  refine ⟨_, ι, 1, fun _ => False, rfl, ⟨rfl, rfl, rfl, ?_, hp, fun _ _ _ h => h⟩, by simp only [Rep], ⟨fun id vr o h => ?_, D.fresh, D.fresh', fun id vr o id' vr' o' g t t' h => ?_, fun g hg => ?_, D.sub, D.gl hp⟩⟩
  · show w.heap.size ≤ (w.heap ++ os).size
    rw [Array.size_append]; omega
  · simp [hpOf] at h
  · simp [hpOf] at h
  · have := D.lt g hg
    show g < (w.heap ++ os).size
    rw [Array.size_append]; omega
theorem fwd_of_below {w w' : World} {Pf : Pfs} {ι : Plc} (hlt : ∀ g, Pf true g → g < w.heap.size) (h : Go.RowKit.Below w.heap.size w w') : Fwd Pf w w' ι ι :=
  ⟨h.os, h.tape, h.output, h.size, fun g hg => h.block g (hlt g hg), fun _ _ _ h => h⟩
theorem desc_none {w w' : World} {Pf : Pfs} {ι : Plc} (D : Desc w Pf ι (fun _ => none) 1 (fun _ => False)) (h : Go.RowKit.Below w.heap.size w w') : Desc w' Pf ι (hpOf [] []) 1 (fun _ => False) :=
  ⟨fun id vr o h => by simp [hpOf] at h, D.fresh, D.fresh', fun id vr o id' vr' o' g t t' h => by simp [hpOf] at h, fun g hg => Nat.lt_of_lt_of_le (D.lt g hg) h.size, D.sub, D.gl (fun g hg => h.block g (D.lt g hg))⟩
def ext51 : List V → Option (V × List Eng.Obj)
  | [.c (.string s)] => if s.size ≤ 281474976710656 then (match Lib.atoiAll s.data.toList with
    | .ok v => some (.tp [.c (.int .i64 v), .c .nilIface], [])
    | .«syntax» => some (.tp [.c (.int .i64 0), .er], [])
    | .range => some (.tp [.c (.int .i64 (Lib.atoiSat s.data.toList)), .er], [])) else none
  | _ => none
theorem ext51_ok : ExtOk Tryd.prog 51 ext51 := by
  refine ⟨ent Tryd.func51 rfl rfl, fun args v objs h w Pf ι vals hr D => ?_⟩
  unfold ext51 at h
  split at h
  case h_2 => cases h
  rename_i s
  split at h
  case isFalse => cases h
  rename_i hs
  simp only [Reps, Rep] at hr
  obtain ⟨u, us, rfl, rfl, rfl⟩ := hr
  split at h
  · rename_i n hn
    cases h
    refine (Tryd.strconv_Atoi_ok s (by omega) n hn w).mono ?_
    rintro e w' ⟨rfl, hw⟩
    have hb : Go.RowKit.Below w.heap.size w w' := by
      rcases hw with rfl | ⟨t, rfl⟩
      · exact Go.RowKit.Below.refl _ _
      · exact Lib.bytesWorld_below _ _ _
    exact ⟨_, ι, 1, fun _ => False, rfl, fwd_of_below D.lt hb, by simp only [Rep, Reps]; exact ⟨_, rfl, _, _, rfl, rfl, _, _, rfl, rfl, rfl⟩, desc_none D hb⟩
  · rename_i hn
    cases h
    obtain ⟨ev, h1, h2⟩ := e1_of D.glob.2
    refine (Tryd.strconv_Atoi_syntax s hs hn ev w h1 h2).mono ?_
    rintro e w' ⟨N, rfl, _, _, hb⟩
    exact ⟨_, ι, 1, fun _ => False, rfl, fwd_of_below D.lt hb, by simp only [Rep, Reps]; exact ⟨_, rfl, _, _, rfl, rfl, _, _, rfl, ⟨_, _, rfl⟩, rfl⟩, desc_none D hb⟩
  · rename_i hn
    cases h
    obtain ⟨ev, h1, h2⟩ := e2_of D.glob.2
    refine (Tryd.strconv_Atoi_range s hs hn ev w h1 h2).mono ?_
    rintro e w' ⟨N, rfl, _, _, hb⟩
    exact ⟨_, ι, 1, fun _ => False, rfl, fwd_of_below D.lt hb, by simp only [Rep, Reps]; exact ⟨_, rfl, _, _, rfl, rfl, _, _, rfl, ⟨_, _, rfl⟩, rfl⟩, desc_none D hb⟩
def ext61 : List V → Option (V × List Eng.Obj)
  | [.c (.string s), .c (.string t)] => if t.size = 1 ∧ s.size ≤ 1048576 then some (.s 0 2 1 0 (Lib.countB s t + 1), [⟨9, 1, true, (Lib.splitB t 0 (Lib.countB s t) s).map fun x => [.c (.string x)]⟩]) else none
  | _ => none
theorem ext61_ok : ExtOk Tryd.prog 61 ext61 := by
  refine ⟨ent Tryd.func61 rfl rfl, fun args v objs h w Pf ι vals hr D => ?_⟩
  unfold ext61 at h
  split at h
  case h_2 => cases h
  rename_i s t
  split at h
  case isFalse => cases h
  rename_i hc
  obtain ⟨ht1, hs20⟩ := hc
  cases h
  simp only [Reps, Rep] at hr
  obtain ⟨u, us, rfl, rfl, u2, us2, rfl, rfl, rfl⟩ := hr
  obtain ⟨m, hm⟩ := mx_of D.glob.2
  have hle := Lib.countB_le t (by omega) s.size s (Nat.le_refl _)
  have hlen := Lib.splitB_all t (by omega) 0 _ s rfl
  refine (Tryd.strings_Split s t m w (by omega) hm (by omega)).mono ?_
  rintro e w' ⟨rfl, rfl⟩
  have D2 : Desc w Pf ι (fun _ => none) 2 (fun _ => False) := ⟨D.own, fun id vr h => D.fresh id vr (by omega), fun id _ => D.fresh id 2 (by omega), D.inj, D.lt, D.sub, D.glob⟩
  obtain ⟨xs, hxs⟩ : ∃ xs, Lib.splitB t 0 (Lib.countB s t) s = xs := ⟨_, rfl⟩
  obtain ⟨n, hn⟩ : ∃ n, Lib.countB s t + 1 = n := ⟨_, rfl⟩
  rw [hxs, hn] at hlen
  rw [hxs, hn]
  have hfl : ((xs.map fun x => [V.c (.string x)]).flatten : List V) = (xs.map Value.string).map V.c := by
    clear hlen hxs
    induction xs with
    | nil => rfl
    | cons x r ih => simp [ih]
  have hnew := new_sound (w' := w.alloc (.cells (xs.map Value.string).toArray 9)) (g := w.heap.size) (site := 0) (id := 0)
    (o := ⟨9, 1, true, xs.map fun x => [.c (.string x)]⟩) (cs := (xs.map Value.string).toArray) (xs := xs.map Value.string) D2 (fun h => h) rfl
    (by simp [okObj, V.one, V.isC, Value.oneCell']) rfl rfl rfl (by show w.heap.size ≤ (w.heap.push _).size; simp)
    (fun k hk _ => Go.heap_alloc_old w _ hk) (heap_alloc_new w _) (fun h => Nat.lt_irrefl _ (D.lt _ h))
    (H' := hpOf [] [⟨9, 1, true, xs.map fun x => [.c (.string x)]⟩])
    (fun i x hx => by
      cases i with
      | zero => simp [hpOf] at hx; exact .inl ⟨rfl, hx.symm⟩
      | succ i => simp [hpOf] at hx)
    (fun i vr o' t hi hx hh => by
      cases i with
      | zero => exact hi rfl
      | succ i => simp [hpOf] at hx)
    (by rw [hfl]; exact Reps.consts _) (List.take_of_length_le (by simp))
  refine ⟨_, _, 2, _, rfl, hnew.1, ?_, hnew.2⟩
  simp only [Rep]
  refine ⟨_, _, _, _, by first | exact if_pos ⟨trivial, trivial⟩ | exact if_pos ⟨rfl, rfl⟩, rfl, Nat.le_refl _, by unfold maxLen; omega, fun _ => by simp, fun _ => ⟨by trivial, ?_⟩⟩
  simp
  omega
def X : FuncId → Option (List V → Option (V × List Eng.Obj))
  | 41 => some ext41
  | 51 => some ext51
  | 61 => some ext61
  | _ => none
noncomputable def C : Cfg := ⟨T, F, X, WR, OW, K⟩
theorem cT : C.T = T := by unfold C; with_reducible rfl
theorem cF : C.fn = F := by unfold C; with_reducible rfl
theorem cX : C.ext = X := by unfold C; with_reducible rfl
theorem cWR : C.wr = WR := by unfold C; with_reducible rfl
theorem cOW : C.own = OW := by unfold C; with_reducible rfl
theorem cK : C.keep = K := by unfold C; with_reducible rfl
theorem cfgOk : CfgOk Tryd.prog C where
  mixed := by kernel_rfl
  tab := tabOk
  fn := fun f fn h => okF_1 f fn h
  ext := by
    intro f m h
    have h' : X f = some m := h
    unfold X at h'
    split at h'
    · cases h'; exact ext41_ok
    · cases h'; exact ext51_ok
    · cases h'; exact ext61_ok
    · cases h'
end Go.Proofs.YtalpgpjhloohfaaDoor.Eng
