/- The types, the functions and the loops' live slots that the laws reach, and that they are what the program has. No conditions. -/
import Derived.Test.YtalpgpjhloohfaaDoorEngTa
namespace Go.Proofs.YtalpgpjhloohfaaDoor.Eng
open Go Go.Proofs
set_option maxRecDepth 100000
noncomputable def R6_0 : Array Oper := opsAt Tryd.f6 [0]
noncomputable def R6_1 : Array Oper := opsAt Tryd.f6 [1, 0, 0]
noncomputable def R6_2 : Array Oper := opsAt Tryd.f6 [1, 0, 1, 0, 0]
noncomputable def R6_3 : Array Oper := opsAt Tryd.f6 [1, 1, 0]
noncomputable def R6_4 : Array Oper := opsAt Tryd.f6 [1, 1, 1, 0]
noncomputable def R6_5 : Array Oper := opsAt Tryd.f6 [1, 1, 1, 1, 0, 0]
noncomputable def R6_6 : Array Oper := opsAt Tryd.f6 [1, 1, 1, 1, 0, 1, 0]
noncomputable def R6_7 : Array Oper := opsAt Tryd.f6 [1, 1, 1, 1, 0, 1, 1, 0, 0]
noncomputable def R6_8 : Array Oper := opsAt Tryd.f6 [1, 1, 1, 1, 1, 0, 0]
noncomputable def R6_9 : Array Oper := opsAt Tryd.f6 [1, 1, 1, 1, 1, 0, 1, 0, 0]
noncomputable def R6_10 : Array Oper := opsAt Tryd.f6 [1, 1, 1, 1, 1, 0, 1, 0, 1, 0]
noncomputable def R6_11 : Array Oper := opsAt Tryd.f6 [1, 1, 1, 1, 1, 0, 1, 0, 1, 1, 0]
noncomputable def R6_12 : Array Oper := opsAt Tryd.f6 [1, 1, 1, 1, 1, 0, 1, 0, 1, 1, 1, 0]
noncomputable def R6_13 : Array Oper := opsAt Tryd.f6 [1, 1, 1, 1, 1, 0, 1, 0, 1, 1, 1, 1, 0, 0]
noncomputable def R6_14 : Array Oper := opsAt Tryd.f6 [1, 1, 1, 1, 1, 1, 0]
noncomputable def R6_15 : Array Oper := opsAt Tryd.f6 [1, 1, 1, 1, 1, 1, 1, 0]
noncomputable def R6_16 : Array Oper := opsAt Tryd.f6 [1, 1, 1, 1, 1, 1, 1, 1, 0, 0]
noncomputable def R6_17 : Array Oper := opsAt Tryd.f6 [1, 1, 1, 1, 1, 1, 1, 1, 0, 1, 0, 0]
noncomputable def R6_18 : Array Oper := opsAt Tryd.f6 [1, 1, 1, 1, 1, 1, 1, 1, 1, 0]
noncomputable def R6_19 : Array Oper := opsAt Tryd.f6 [1, 1, 1, 1, 1, 1, 1, 1, 1, 1, 0]
noncomputable def R6_20 : Array Oper := opsAt Tryd.f6 [1, 1, 1, 1, 1, 1, 1, 1, 1, 1, 1, 0]
noncomputable def R6_21 : Array Oper := opsAt Tryd.f6 [1, 1, 1, 1, 1, 1, 1, 1, 1, 1, 1, 1, 0]
theorem code6 : Tryd.f6.body = some (.seq (.region 0 R6_0 false) (.seq (.seq (.region 1 R6_1 false) (.cond (.tmp 27) (.seq (.region 2 R6_2 false) .ret) .skip)) (.seq (.region 3 R6_3 false) (.seq (.region 4 R6_4 false) (.seq (.seq (.region 5 R6_5 false) (.seq (.region 6 R6_6 true) (.cond (.tmp 66) (.seq (.region 7 R6_7 false) .ret) .skip))) (.seq (.seq (.region 8 R6_8 false) (.cond (.tmp 67) (.seq (.region 9 R6_9 false) (.seq (.region 10 R6_10 false) (.seq (.region 11 R6_11 false) (.seq (.region 12 R6_12 false) (.cond (.tmp 110) (.seq (.region 13 R6_13 false) .ret) .skip))))) .skip)) (.seq (.region 14 R6_14 false) (.seq (.region 15 R6_15 false) (.seq (.seq (.region 16 R6_16 false) (.cond (.tmp 137) (.seq (.region 17 R6_17 false) .ret) .skip)) (.seq (.region 18 R6_18 false) (.seq (.region 19 R6_19 false) (.seq (.region 20 R6_20 false) (.seq (.region 21 R6_21 false) .ret))))))))))))) := by kernel_rfl
noncomputable def R10_0 : Array Oper := opsAt Tryd.f10 [0]
noncomputable def R10_1 : Array Oper := opsAt Tryd.f10 [1, 0, 0]
noncomputable def R10_2 : Array Oper := opsAt Tryd.f10 [1, 0, 1, 0, 0]
noncomputable def R10_3 : Array Oper := opsAt Tryd.f10 [1, 1, 0]
noncomputable def R10_4 : Array Oper := opsAt Tryd.f10 [1, 1, 1, 0, 0]
noncomputable def R10_5 : Array Oper := opsAt Tryd.f10 [1, 1, 1, 0, 1, 0, 0, 0]
noncomputable def R10_6 : Array Oper := opsAt Tryd.f10 [1, 1, 1, 0, 1, 0, 0, 1, 1, 0, 0, 0]
noncomputable def R10_7 : Array Oper := opsAt Tryd.f10 [1, 1, 1, 0, 1, 0, 0, 1, 1, 0, 0, 1, 0, 0]
noncomputable def R10_8 : Array Oper := opsAt Tryd.f10 [1, 1, 1, 0, 1, 0, 0, 1, 1, 0, 0, 1, 0, 1, 0]
noncomputable def R10_9 : Array Oper := opsAt Tryd.f10 [1, 1, 1, 0, 1, 0, 0, 1, 1, 0, 0, 1, 0, 1, 1]
noncomputable def R10_10 : Array Oper := opsAt Tryd.f10 [1, 1, 1, 0, 1, 0, 0, 1, 1, 0, 0, 1, 1, 0]
noncomputable def R10_11 : Array Oper := opsAt Tryd.f10 [1, 1, 1, 0, 1, 0, 0, 1, 1, 0, 0, 1, 1, 1, 0]
noncomputable def R10_12 : Array Oper := opsAt Tryd.f10 [1, 1, 1, 0, 1, 0, 0, 1, 1, 0, 0, 1, 1, 1, 1]
noncomputable def R10_13 : Array Oper := opsAt Tryd.f10 [1, 1, 1, 0, 1, 0, 0, 1, 1, 1]
noncomputable def L10_0 : Code := .seq (.region 5 R10_5 false) (.seq (.cond (.tmp 14) .skip (.exit 0)) (.seq (.block 1 (.seq (.region 6 R10_6 false) (.seq (.seq (.region 7 R10_7 false) (.cond (.tmp 19) (.region 8 R10_8 false) (.region 9 R10_9 false))) (.seq (.region 10 R10_10 false) (.cond (.tmp 29) (.region 11 R10_11 false) (.region 12 R10_12 false)))))) (.region 13 R10_13 false)))
theorem lpL10_0 : loops L10_0 = 0 := rfl
noncomputable def R10_14 : Array Oper := opsAt Tryd.f10 [1, 1, 1, 1, 0]
noncomputable def M10_0 : Code := .seq (.region 14 R10_14 false) .ret
theorem lpM10_0 : loops M10_0 = 0 := rfl
theorem code10 : Tryd.f10.body = some (.seq (.region 0 R10_0 false) (.seq (.seq (.region 1 R10_1 false) (.cond (.tmp 9) (.seq (.region 2 R10_2 false) .ret) .skip)) (.seq (.region 3 R10_3 false) (.seq (.seq (.region 4 R10_4 false) (.block 0 (.loop L10_0))) M10_0)))) := by kernel_rfl
noncomputable def R12_0 : Array Oper := opsAt Tryd.f12 [0]
noncomputable def R12_1 : Array Oper := opsAt Tryd.f12 [1, 0]
theorem code12 : Tryd.f12.body = some (.seq (.region 0 R12_0 false) (.seq (.region 1 R12_1 false) .ret)) := by kernel_rfl
noncomputable def R17_0 : Array Oper := opsAt Tryd.f17 [0]
noncomputable def R17_1 : Array Oper := opsAt Tryd.f17 [1, 0]
noncomputable def R17_2 : Array Oper := opsAt Tryd.f17 [1, 1, 0, 0]
noncomputable def R17_3 : Array Oper := opsAt Tryd.f17 [1, 1, 0, 1, 0, 0]
noncomputable def R17_4 : Array Oper := opsAt Tryd.f17 [1, 1, 1, 0]
theorem code17 : Tryd.f17.body = some (.seq (.region 0 R17_0 false) (.seq (.region 1 R17_1 false) (.seq (.seq (.region 2 R17_2 false) (.cond (.tmp 23) (.seq (.region 3 R17_3 false) .ret) .skip)) (.seq (.region 4 R17_4 false) .ret)))) := by kernel_rfl
noncomputable def R25_0 : Array Oper := opsAt Tryd.f25 [0]
noncomputable def R25_1 : Array Oper := opsAt Tryd.f25 [1, 0, 0]
noncomputable def R25_2 : Array Oper := opsAt Tryd.f25 [1, 0, 1, 0, 0]
noncomputable def R25_3 : Array Oper := opsAt Tryd.f25 [1, 1, 0]
noncomputable def R25_4 : Array Oper := opsAt Tryd.f25 [1, 1, 1, 0]
noncomputable def R25_5 : Array Oper := opsAt Tryd.f25 [1, 1, 1, 1, 0, 0]
noncomputable def R25_6 : Array Oper := opsAt Tryd.f25 [1, 1, 1, 1, 0, 1, 0, 0, 0]
noncomputable def R25_7 : Array Oper := opsAt Tryd.f25 [1, 1, 1, 1, 0, 1, 0, 0, 1, 1, 0, 0, 0]
noncomputable def R25_8 : Array Oper := opsAt Tryd.f25 [1, 1, 1, 1, 0, 1, 0, 0, 1, 1, 0, 0, 1, 0]
noncomputable def R25_9 : Array Oper := opsAt Tryd.f25 [1, 1, 1, 1, 0, 1, 0, 0, 1, 1, 0, 0, 1, 1, 0, 0]
noncomputable def R25_10 : Array Oper := opsAt Tryd.f25 [1, 1, 1, 1, 0, 1, 0, 0, 1, 1, 0, 0, 1, 1, 0, 1, 0, 0]
noncomputable def R25_11 : Array Oper := opsAt Tryd.f25 [1, 1, 1, 1, 0, 1, 0, 0, 1, 1, 0, 0, 1, 1, 1, 0]
noncomputable def R25_12 : Array Oper := opsAt Tryd.f25 [1, 1, 1, 1, 0, 1, 0, 0, 1, 1, 0, 0, 1, 1, 1, 1, 0]
noncomputable def R25_13 : Array Oper := opsAt Tryd.f25 [1, 1, 1, 1, 0, 1, 0, 0, 1, 1, 0, 0, 1, 1, 1, 1, 1, 0, 0, 0]
noncomputable def R25_14 : Array Oper := opsAt Tryd.f25 [1, 1, 1, 1, 0, 1, 0, 0, 1, 1, 0, 0, 1, 1, 1, 1, 1, 0, 0, 1, 1, 0, 0, 0]
noncomputable def R25_15 : Array Oper := opsAt Tryd.f25 [1, 1, 1, 1, 0, 1, 0, 0, 1, 1, 0, 0, 1, 1, 1, 1, 1, 0, 0, 1, 1, 0, 0, 1, 0]
noncomputable def R25_16 : Array Oper := opsAt Tryd.f25 [1, 1, 1, 1, 0, 1, 0, 0, 1, 1, 0, 0, 1, 1, 1, 1, 1, 0, 0, 1, 1, 0, 0, 1, 1, 0, 0]
noncomputable def R25_17 : Array Oper := opsAt Tryd.f25 [1, 1, 1, 1, 0, 1, 0, 0, 1, 1, 0, 0, 1, 1, 1, 1, 1, 0, 0, 1, 1, 0, 0, 1, 1, 0, 1, 0]
noncomputable def R25_18 : Array Oper := opsAt Tryd.f25 [1, 1, 1, 1, 0, 1, 0, 0, 1, 1, 0, 0, 1, 1, 1, 1, 1, 0, 0, 1, 1, 0, 0, 1, 1, 0, 1, 1, 0]
noncomputable def R25_19 : Array Oper := opsAt Tryd.f25 [1, 1, 1, 1, 0, 1, 0, 0, 1, 1, 0, 0, 1, 1, 1, 1, 1, 0, 0, 1, 1, 0, 0, 1, 1, 0, 1, 1, 1, 0]
noncomputable def R25_20 : Array Oper := opsAt Tryd.f25 [1, 1, 1, 1, 0, 1, 0, 0, 1, 1, 0, 0, 1, 1, 1, 1, 1, 0, 0, 1, 1, 0, 0, 1, 1, 1, 0, 0]
noncomputable def R25_21 : Array Oper := opsAt Tryd.f25 [1, 1, 1, 1, 0, 1, 0, 0, 1, 1, 0, 0, 1, 1, 1, 1, 1, 0, 0, 1, 1, 0, 0, 1, 1, 1, 0, 1, 0, 0]
noncomputable def R25_22 : Array Oper := opsAt Tryd.f25 [1, 1, 1, 1, 0, 1, 0, 0, 1, 1, 0, 0, 1, 1, 1, 1, 1, 0, 0, 1, 1, 0, 0, 1, 1, 1, 1]
noncomputable def R25_23 : Array Oper := opsAt Tryd.f25 [1, 1, 1, 1, 0, 1, 0, 0, 1, 1, 0, 0, 1, 1, 1, 1, 1, 0, 0, 1, 1, 1]
noncomputable def L25_1 : Code := .seq (.region 13 R25_13 false) (.seq (.cond (.tmp 53) .skip (.exit 2)) (.seq (.block 3 (.seq (.region 14 R25_14 false) (.seq (.region 15 R25_15 false) (.seq (.seq (.region 16 R25_16 false) (.cond (.tmp 62) (.region 17 R25_17 false) (.seq (.region 18 R25_18 false) (.cond (.tmp 64) (.region 19 R25_19 false) .skip)))) (.seq (.seq (.region 20 R25_20 false) (.cond (.tmp 66) (.seq (.region 21 R25_21 false) .ret) .skip)) (.region 22 R25_22 false)))))) (.region 23 R25_23 false)))
theorem lpL25_1 : loops L25_1 = 0 := rfl
noncomputable def R25_24 : Array Oper := opsAt Tryd.f25 [1, 1, 1, 1, 0, 1, 0, 0, 1, 1, 1]
noncomputable def M25_0 : Code := .region 24 R25_24 false
theorem lpM25_0 : loops M25_0 = 0 := rfl
noncomputable def L25_0 : Code := .seq (.region 6 R25_6 false) (.seq (.cond (.tmp 31) .skip (.exit 0)) (.seq (.block 1 (.seq (.region 7 R25_7 false) (.seq (.region 8 R25_8 false) (.seq (.seq (.region 9 R25_9 false) (.cond (.tmp 45) (.seq (.region 10 R25_10 false) .ret) .skip)) (.seq (.region 11 R25_11 false) (.seq (.region 12 R25_12 false) (.block 2 (.loop L25_1)))))))) M25_0))
theorem lpL25_0 : loops L25_0 = 1 := rfl
noncomputable def R25_25 : Array Oper := opsAt Tryd.f25 [1, 1, 1, 1, 1, 0, 0]
noncomputable def R25_26 : Array Oper := opsAt Tryd.f25 [1, 1, 1, 1, 1, 0, 1, 0, 0]
noncomputable def R25_27 : Array Oper := opsAt Tryd.f25 [1, 1, 1, 1, 1, 1, 0]
noncomputable def M25_1 : Code := .seq (.seq (.region 25 R25_25 false) (.cond (.tmp 78) (.seq (.region 26 R25_26 false) .ret) .skip)) (.seq (.region 27 R25_27 false) .ret)
theorem lpM25_1 : loops M25_1 = 0 := rfl
theorem code25 : Tryd.f25.body = some (.seq (.region 0 R25_0 false) (.seq (.seq (.region 1 R25_1 false) (.cond (.tmp 20) (.seq (.region 2 R25_2 false) .ret) .skip)) (.seq (.region 3 R25_3 false) (.seq (.region 4 R25_4 false) (.seq (.seq (.region 5 R25_5 false) (.block 0 (.loop L25_0))) M25_1))))) := by kernel_rfl
noncomputable def R28_0 : Array Oper := opsAt Tryd.f28 [0]
noncomputable def R28_1 : Array Oper := opsAt Tryd.f28 [1, 0]
noncomputable def R28_2 : Array Oper := opsAt Tryd.f28 [1, 1, 0]
theorem code28 : Tryd.f28.body = some (.seq (.region 0 R28_0 false) (.seq (.region 1 R28_1 false) (.seq (.region 2 R28_2 false) .ret))) := by kernel_rfl
noncomputable def R29_0 : Array Oper := opsAt Tryd.f29 [0]
noncomputable def R29_1 : Array Oper := opsAt Tryd.f29 [1, 0, 0]
noncomputable def R29_2 : Array Oper := opsAt Tryd.f29 [1, 0, 1, 0, 0]
noncomputable def R29_3 : Array Oper := opsAt Tryd.f29 [1, 1, 0]
noncomputable def R29_4 : Array Oper := opsAt Tryd.f29 [1, 1, 1, 0]
noncomputable def R29_5 : Array Oper := opsAt Tryd.f29 [1, 1, 1, 1, 0]
theorem code29 : Tryd.f29.body = some (.seq (.region 0 R29_0 false) (.seq (.seq (.region 1 R29_1 false) (.cond (.tmp 25) (.seq (.region 2 R29_2 false) .ret) .skip)) (.seq (.region 3 R29_3 false) (.seq (.region 4 R29_4 false) (.seq (.region 5 R29_5 false) .ret))))) := by kernel_rfl
noncomputable def R30_0 : Array Oper := opsAt Tryd.f30 [0]
noncomputable def R30_1 : Array Oper := opsAt Tryd.f30 [1, 0, 0]
noncomputable def R30_2 : Array Oper := opsAt Tryd.f30 [1, 0, 1, 0, 0]
noncomputable def R30_3 : Array Oper := opsAt Tryd.f30 [1, 1, 0]
noncomputable def R30_4 : Array Oper := opsAt Tryd.f30 [1, 1, 1, 0]
noncomputable def R30_5 : Array Oper := opsAt Tryd.f30 [1, 1, 1, 1, 0]
theorem code30 : Tryd.f30.body = some (.seq (.region 0 R30_0 false) (.seq (.seq (.region 1 R30_1 false) (.cond (.tmp 25) (.seq (.region 2 R30_2 false) .ret) .skip)) (.seq (.region 3 R30_3 false) (.seq (.region 4 R30_4 false) (.seq (.region 5 R30_5 false) .ret))))) := by kernel_rfl
noncomputable def R31_0 : Array Oper := opsAt Tryd.f31 [0]
noncomputable def R31_1 : Array Oper := opsAt Tryd.f31 [1, 0]
theorem code31 : Tryd.f31.body = some (.seq (.region 0 R31_0 false) (.seq (.region 1 R31_1 false) .ret)) := by kernel_rfl
noncomputable def R32_0 : Array Oper := opsAt Tryd.f32 [0]
noncomputable def R32_1 : Array Oper := opsAt Tryd.f32 [1, 0]
theorem code32 : Tryd.f32.body = some (.seq (.region 0 R32_0 false) (.seq (.region 1 R32_1 false) .ret)) := by kernel_rfl
noncomputable def R33_0 : Array Oper := opsAt Tryd.f33 [0]
noncomputable def R33_1 : Array Oper := opsAt Tryd.f33 [1, 0]
theorem code33 : Tryd.f33.body = some (.seq (.region 0 R33_0 false) (.seq (.region 1 R33_1 false) .ret)) := by kernel_rfl
noncomputable def R34_0 : Array Oper := opsAt Tryd.f34 [0]
noncomputable def R34_1 : Array Oper := opsAt Tryd.f34 [1, 0, 0]
noncomputable def R34_2 : Array Oper := opsAt Tryd.f34 [1, 0, 1, 0, 0]
noncomputable def R34_3 : Array Oper := opsAt Tryd.f34 [1, 1, 0]
theorem code34 : Tryd.f34.body = some (.seq (.region 0 R34_0 false) (.seq (.seq (.region 1 R34_1 false) (.cond (.tmp 17) (.seq (.region 2 R34_2 false) .ret) .skip)) (.seq (.region 3 R34_3 false) .ret))) := by kernel_rfl
noncomputable def R35_0 : Array Oper := opsAt Tryd.f35 [0]
noncomputable def R35_1 : Array Oper := opsAt Tryd.f35 [1, 0]
noncomputable def R35_2 : Array Oper := opsAt Tryd.f35 [1, 1, 0]
noncomputable def R35_3 : Array Oper := opsAt Tryd.f35 [1, 1, 1, 0, 0]
noncomputable def R35_4 : Array Oper := opsAt Tryd.f35 [1, 1, 1, 0, 1, 0]
noncomputable def R35_5 : Array Oper := opsAt Tryd.f35 [1, 1, 1, 1, 0]
theorem code35 : Tryd.f35.body = some (.seq (.region 0 R35_0 false) (.seq (.region 1 R35_1 false) (.seq (.region 2 R35_2 false) (.seq (.seq (.region 3 R35_3 false) (.cond (.tmp 12) (.region 4 R35_4 false) .skip)) (.seq (.region 5 R35_5 false) .ret))))) := by kernel_rfl
noncomputable def R37_0 : Array Oper := opsAt Tryd.f37 [0]
noncomputable def R37_1 : Array Oper := opsAt Tryd.f37 [1, 0, 0]
noncomputable def R37_2 : Array Oper := opsAt Tryd.f37 [1, 0, 1, 0, 0]
noncomputable def R37_3 : Array Oper := opsAt Tryd.f37 [1, 1, 0, 0]
noncomputable def R37_4 : Array Oper := opsAt Tryd.f37 [1, 1, 0, 1, 0, 0, 0, 0]
noncomputable def R37_6 : Array Oper := opsAt Tryd.f37 [1, 1, 0, 1, 0, 0, 1, 0, 0, 0]
noncomputable def R37_7 : Array Oper := opsAt Tryd.f37 [1, 1, 0, 1, 0, 0, 1, 0, 0, 1, 0, 0]
noncomputable def R37_5 : Array Oper := opsAt Tryd.f37 [1, 1, 0, 1, 0, 0, 1, 1]
noncomputable def L37_0 : Code := .seq (.seq (.region 4 R37_4 false) (.cond (.tmp 25) .skip (.exit 0))) (.seq (.block 1 (.seq (.region 6 R37_6 false) (.cond (.tmp 34) (.seq (.region 7 R37_7 false) .ret) .skip))) (.region 5 R37_5 false))
theorem lpL37_0 : loops L37_0 = 0 := rfl
noncomputable def R37_8 : Array Oper := opsAt Tryd.f37 [1, 1, 1, 0]
noncomputable def M37_0 : Code := .seq (.region 8 R37_8 false) .ret
theorem lpM37_0 : loops M37_0 = 0 := rfl
theorem code37 : Tryd.f37.body = some (.seq (.region 0 R37_0 false) (.seq (.seq (.region 1 R37_1 false) (.cond (.tmp 20) (.seq (.region 2 R37_2 false) .ret) .skip)) (.seq (.seq (.region 3 R37_3 false) (.block 0 (.loop L37_0))) M37_0))) := by kernel_rfl
noncomputable def R38_0 : Array Oper := opsAt Tryd.f38 [0]
noncomputable def R38_1 : Array Oper := opsAt Tryd.f38 [1, 0]
noncomputable def R38_2 : Array Oper := opsAt Tryd.f38 [1, 1, 0, 0]
noncomputable def R38_3 : Array Oper := opsAt Tryd.f38 [1, 1, 0, 1, 0, 0, 0, 0]
noncomputable def R38_5 : Array Oper := opsAt Tryd.f38 [1, 1, 0, 1, 0, 0, 1, 0, 0, 0, 0]
noncomputable def R38_6 : Array Oper := opsAt Tryd.f38 [1, 1, 0, 1, 0, 0, 1, 0, 0, 0, 1, 0, 0, 0, 0]
noncomputable def R38_8 : Array Oper := opsAt Tryd.f38 [1, 1, 0, 1, 0, 0, 1, 0, 0, 0, 1, 0, 0, 1, 0, 0, 0, 0]
noncomputable def R38_9 : Array Oper := opsAt Tryd.f38 [1, 1, 0, 1, 0, 0, 1, 0, 0, 0, 1, 0, 0, 1, 0, 0, 0, 1, 0]
noncomputable def R38_10 : Array Oper := opsAt Tryd.f38 [1, 1, 0, 1, 0, 0, 1, 0, 0, 0, 1, 0, 0, 1, 0, 0, 1, 0]
noncomputable def R38_11 : Array Oper := opsAt Tryd.f38 [1, 1, 0, 1, 0, 0, 1, 0, 0, 0, 1, 0, 0, 1, 0, 0, 1, 1, 0]
noncomputable def R38_12 : Array Oper := opsAt Tryd.f38 [1, 1, 0, 1, 0, 0, 1, 0, 0, 0, 1, 0, 0, 1, 0, 0, 1, 1, 1, 0]
noncomputable def R38_13 : Array Oper := opsAt Tryd.f38 [1, 1, 0, 1, 0, 0, 1, 0, 0, 0, 1, 0, 0, 1, 0, 0, 1, 1, 1, 1]
noncomputable def R38_7 : Array Oper := opsAt Tryd.f38 [1, 1, 0, 1, 0, 0, 1, 0, 0, 0, 1, 0, 0, 1, 1]
noncomputable def L38_1 : Code := .seq (.seq (.region 6 R38_6 false) (.cond (.tmp 16) .skip (.exit 2))) (.seq (.block 3 (.seq (.seq (.region 8 R38_8 false) (.cond (.tmp 20) (.region 9 R38_9 false) .skip)) (.seq (.region 10 R38_10 false) (.seq (.region 11 R38_11 false) (.cond (.tmp 28) (.region 12 R38_12 false) (.region 13 R38_13 false)))))) (.region 7 R38_7 false))
theorem lpL38_1 : loops L38_1 = 0 := rfl
noncomputable def R38_14 : Array Oper := opsAt Tryd.f38 [1, 1, 0, 1, 0, 0, 1, 0, 0, 1]
noncomputable def M38_0 : Code := .region 14 R38_14 false
theorem lpM38_0 : loops M38_0 = 0 := rfl
noncomputable def R38_4 : Array Oper := opsAt Tryd.f38 [1, 1, 0, 1, 0, 0, 1, 1]
noncomputable def M38_1 : Code := .region 4 R38_4 false
theorem lpM38_1 : loops M38_1 = 0 := rfl
noncomputable def L38_0 : Code := .seq (.seq (.region 3 R38_3 false) (.cond (.tmp 10) .skip (.exit 0))) (.seq (.block 1 (.seq (.seq (.region 5 R38_5 false) (.block 2 (.loop L38_1))) M38_0)) M38_1)
theorem lpL38_0 : loops L38_0 = 1 := rfl
noncomputable def R38_15 : Array Oper := opsAt Tryd.f38 [1, 1, 1, 0]
noncomputable def M38_2 : Code := .seq (.region 15 R38_15 false) .ret
theorem lpM38_2 : loops M38_2 = 0 := rfl
theorem code38 : Tryd.f38.body = some (.seq (.region 0 R38_0 false) (.seq (.region 1 R38_1 false) (.seq (.seq (.region 2 R38_2 false) (.block 0 (.loop L38_0))) M38_2))) := by kernel_rfl
noncomputable def R44_0 : Array Oper := opsAt Tryd.f44 [0]
noncomputable def R44_1 : Array Oper := opsAt Tryd.f44 [1, 0]
theorem code44 : Tryd.f44.body = some (.seq (.region 0 R44_0 false) (.seq (.region 1 R44_1 false) .ret)) := by kernel_rfl
noncomputable def R45_0 : Array Oper := opsAt Tryd.f45 [0]
noncomputable def R45_1 : Array Oper := opsAt Tryd.f45 [1, 0, 0]
noncomputable def R45_2 : Array Oper := opsAt Tryd.f45 [1, 0, 1, 0, 0]
noncomputable def R45_3 : Array Oper := opsAt Tryd.f45 [1, 1, 0]
noncomputable def R45_4 : Array Oper := opsAt Tryd.f45 [1, 1, 1, 0, 0]
noncomputable def R45_5 : Array Oper := opsAt Tryd.f45 [1, 1, 1, 0, 1, 0]
noncomputable def R45_6 : Array Oper := opsAt Tryd.f45 [1, 1, 1, 1, 0]
theorem code45 : Tryd.f45.body = some (.seq (.region 0 R45_0 false) (.seq (.seq (.region 1 R45_1 false) (.cond (.tmp 7) (.seq (.region 2 R45_2 false) .ret) .skip)) (.seq (.region 3 R45_3 false) (.seq (.seq (.region 4 R45_4 false) (.cond (.tmp 11) (.region 5 R45_5 false) .skip)) (.seq (.region 6 R45_6 false) .ret))))) := by kernel_rfl
noncomputable def R46_0 : Array Oper := opsAt Tryd.f46 [0]
noncomputable def R46_1 : Array Oper := opsAt Tryd.f46 [1, 0]
theorem code46 : Tryd.f46.body = some (.seq (.region 0 R46_0 false) (.seq (.region 1 R46_1 false) .ret)) := by kernel_rfl
noncomputable def R47_0 : Array Oper := opsAt Tryd.f47 [0]
noncomputable def R47_1 : Array Oper := opsAt Tryd.f47 [1, 0]
theorem code47 : Tryd.f47.body = some (.seq (.region 0 R47_0 false) (.seq (.region 1 R47_1 false) .ret)) := by kernel_rfl
noncomputable def R48_0 : Array Oper := opsAt Tryd.f48 [0]
noncomputable def R48_1 : Array Oper := opsAt Tryd.f48 [1, 0, 0]
noncomputable def R48_2 : Array Oper := opsAt Tryd.f48 [1, 0, 1, 0, 0]
noncomputable def R48_3 : Array Oper := opsAt Tryd.f48 [1, 1, 0, 0]
noncomputable def R48_4 : Array Oper := opsAt Tryd.f48 [1, 1, 0, 1, 0, 0]
noncomputable def R48_5 : Array Oper := opsAt Tryd.f48 [1, 1, 1, 0]
theorem code48 : Tryd.f48.body = some (.seq (.region 0 R48_0 false) (.seq (.seq (.region 1 R48_1 false) (.cond (.tmp 4) (.seq (.region 2 R48_2 false) .ret) .skip)) (.seq (.seq (.region 3 R48_3 false) (.cond (.tmp 10) (.seq (.region 4 R48_4 false) .ret) .skip)) (.seq (.region 5 R48_5 true) .ret)))) := by kernel_rfl
noncomputable def R49_0 : Array Oper := opsAt Tryd.f49 [0]
noncomputable def R49_1 : Array Oper := opsAt Tryd.f49 [1, 0]
theorem code49 : Tryd.f49.body = some (.seq (.region 0 R49_0 false) (.seq (.region 1 R49_1 false) .ret)) := by kernel_rfl
noncomputable def R60_0 : Array Oper := opsAt Tryd.f60 [0]
noncomputable def R60_1 : Array Oper := opsAt Tryd.f60 [1, 0]
theorem code60 : Tryd.f60.body = some (.seq (.region 0 R60_0 false) (.seq (.region 1 R60_1 false) .ret)) := by kernel_rfl
noncomputable def R62_0 : Array Oper := opsAt Tryd.f62 [0]
noncomputable def R62_1 : Array Oper := opsAt Tryd.f62 [1, 0]
theorem code62 : Tryd.f62.body = some (.seq (.region 0 R62_0 false) (.seq (.region 1 R62_1 false) .ret)) := by kernel_rfl
noncomputable def R65_0 : Array Oper := opsAt Tryd.f65 [0]
noncomputable def R65_1 : Array Oper := opsAt Tryd.f65 [1, 0]
noncomputable def R65_2 : Array Oper := opsAt Tryd.f65 [1, 1, 0, 0]
noncomputable def R65_3 : Array Oper := opsAt Tryd.f65 [1, 1, 0, 1, 0, 0]
noncomputable def R65_4 : Array Oper := opsAt Tryd.f65 [1, 1, 0, 1, 0, 1, 0]
noncomputable def R65_5 : Array Oper := opsAt Tryd.f65 [1, 1, 0, 1, 0, 1, 1, 0]
noncomputable def R65_6 : Array Oper := opsAt Tryd.f65 [1, 1, 0, 1, 0, 1, 1, 1, 0]
noncomputable def R65_7 : Array Oper := opsAt Tryd.f65 [1, 1, 0, 1, 0, 1, 1, 1, 1, 0]
noncomputable def R65_8 : Array Oper := opsAt Tryd.f65 [1, 1, 0, 1, 0, 1, 1, 1, 1, 1, 0]
noncomputable def R65_9 : Array Oper := opsAt Tryd.f65 [1, 1, 1, 0]
theorem code65 : Tryd.f65.body = some (.seq (.region 0 R65_0 false) (.seq (.region 1 R65_1 false) (.seq (.seq (.region 2 R65_2 false) (.block 0 (.seq (.region 3 R65_3 false) (.cond (.tmp 8) (.region 4 R65_4 false) (.seq (.region 5 R65_5 false) (.cond (.tmp 16) (.region 6 R65_6 true) (.seq (.region 7 R65_7 false) (.cond (.tmp 29) (.region 8 R65_8 false) .skip)))))))) (.seq (.region 9 R65_9 false) .ret)))) := by kernel_rfl
noncomputable def R66_0 : Array Oper := opsAt Tryd.f66 [0]
noncomputable def R66_1 : Array Oper := opsAt Tryd.f66 [1, 0]
theorem code66 : Tryd.f66.body = some (.seq (.region 0 R66_0 false) (.seq (.region 1 R66_1 false) .ret)) := by kernel_rfl
noncomputable def R67_0 : Array Oper := opsAt Tryd.f67 [0]
noncomputable def R67_1 : Array Oper := opsAt Tryd.f67 [1, 0]
theorem code67 : Tryd.f67.body = some (.seq (.region 0 R67_0 false) (.seq (.region 1 R67_1 false) .ret)) := by kernel_rfl
noncomputable def R68_0 : Array Oper := opsAt Tryd.f68 [0]
noncomputable def R68_1 : Array Oper := opsAt Tryd.f68 [1, 0]
theorem code68 : Tryd.f68.body = some (.seq (.region 0 R68_0 false) (.seq (.region 1 R68_1 true) .ret)) := by kernel_rfl
noncomputable def R69_0 : Array Oper := opsAt Tryd.f69 [0]
noncomputable def R69_1 : Array Oper := opsAt Tryd.f69 [1, 0]
theorem code69 : Tryd.f69.body = some (.seq (.region 0 R69_0 false) (.seq (.region 1 R69_1 false) .ret)) := by kernel_rfl
noncomputable def R70_0 : Array Oper := opsAt Tryd.f70 [0]
noncomputable def R70_1 : Array Oper := opsAt Tryd.f70 [1, 0]
theorem code70 : Tryd.f70.body = some (.seq (.region 0 R70_0 false) (.seq (.region 1 R70_1 false) .ret)) := by kernel_rfl
noncomputable def R71_0 : Array Oper := opsAt Tryd.f71 [0]
noncomputable def R71_1 : Array Oper := opsAt Tryd.f71 [1, 0]
theorem code71 : Tryd.f71.body = some (.seq (.region 0 R71_0 false) (.seq (.region 1 R71_1 true) .ret)) := by kernel_rfl
noncomputable def R72_0 : Array Oper := opsAt Tryd.f72 [0]
noncomputable def R72_1 : Array Oper := opsAt Tryd.f72 [1, 0, 0]
noncomputable def R72_2 : Array Oper := opsAt Tryd.f72 [1, 0, 1, 0, 0]
noncomputable def R72_3 : Array Oper := opsAt Tryd.f72 [1, 1, 0, 0]
noncomputable def R72_4 : Array Oper := opsAt Tryd.f72 [1, 1, 0, 1, 0, 0, 0, 0]
noncomputable def R72_6 : Array Oper := opsAt Tryd.f72 [1, 1, 0, 1, 0, 0, 1, 0, 0, 0]
noncomputable def R72_7 : Array Oper := opsAt Tryd.f72 [1, 1, 0, 1, 0, 0, 1, 0, 0, 1, 0, 0]
noncomputable def R72_5 : Array Oper := opsAt Tryd.f72 [1, 1, 0, 1, 0, 0, 1, 1]
noncomputable def L72_0 : Code := .seq (.seq (.region 4 R72_4 false) (.cond (.tmp 14) .skip (.exit 0))) (.seq (.block 1 (.seq (.region 6 R72_6 true) (.cond (.tmp 25) (.seq (.region 7 R72_7 false) .ret) .skip))) (.region 5 R72_5 false))
theorem lpL72_0 : loops L72_0 = 0 := rfl
noncomputable def R72_8 : Array Oper := opsAt Tryd.f72 [1, 1, 1, 0]
noncomputable def M72_0 : Code := .seq (.region 8 R72_8 false) .ret
theorem lpM72_0 : loops M72_0 = 0 := rfl
theorem code72 : Tryd.f72.body = some (.seq (.region 0 R72_0 false) (.seq (.seq (.region 1 R72_1 false) (.cond (.tmp 10) (.seq (.region 2 R72_2 false) .ret) .skip)) (.seq (.seq (.region 3 R72_3 false) (.block 0 (.loop L72_0))) M72_0))) := by kernel_rfl
noncomputable def R73_0 : Array Oper := opsAt Tryd.f73 [0]
noncomputable def R73_1 : Array Oper := opsAt Tryd.f73 [1, 0]
theorem code73 : Tryd.f73.body = some (.seq (.region 0 R73_0 false) (.seq (.region 1 R73_1 false) .ret)) := by kernel_rfl
noncomputable def R74_0 : Array Oper := opsAt Tryd.f74 [0]
noncomputable def R74_1 : Array Oper := opsAt Tryd.f74 [1, 0]
theorem code74 : Tryd.f74.body = some (.seq (.region 0 R74_0 false) (.seq (.region 1 R74_1 false) .ret)) := by kernel_rfl
noncomputable def R75_0 : Array Oper := opsAt Tryd.f75 [0]
noncomputable def R75_1 : Array Oper := opsAt Tryd.f75 [1, 0]
noncomputable def R75_2 : Array Oper := opsAt Tryd.f75 [1, 1, 0]
noncomputable def R75_3 : Array Oper := opsAt Tryd.f75 [1, 1, 1, 0, 0]
noncomputable def R75_4 : Array Oper := opsAt Tryd.f75 [1, 1, 1, 0, 1, 0, 0, 0, 0]
noncomputable def R75_6 : Array Oper := opsAt Tryd.f75 [1, 1, 1, 0, 1, 0, 0, 1, 0, 0, 0]
noncomputable def R75_7 : Array Oper := opsAt Tryd.f75 [1, 1, 1, 0, 1, 0, 0, 1, 0, 0, 1, 0, 0]
noncomputable def R75_8 : Array Oper := opsAt Tryd.f75 [1, 1, 1, 0, 1, 0, 0, 1, 0, 0, 1, 0, 1, 0]
noncomputable def R75_9 : Array Oper := opsAt Tryd.f75 [1, 1, 1, 0, 1, 0, 0, 1, 0, 0, 1, 1]
noncomputable def R75_5 : Array Oper := opsAt Tryd.f75 [1, 1, 1, 0, 1, 0, 0, 1, 1]
noncomputable def L75_0 : Code := .seq (.seq (.region 4 R75_4 false) (.cond (.tmp 23) .skip (.exit 0))) (.seq (.block 1 (.seq (.region 6 R75_6 false) (.seq (.seq (.region 7 R75_7 false) (.cond (.tmp 31) (.region 8 R75_8 false) .skip)) (.region 9 R75_9 false)))) (.region 5 R75_5 false))
theorem lpL75_0 : loops L75_0 = 0 := rfl
noncomputable def R75_10 : Array Oper := opsAt Tryd.f75 [1, 1, 1, 1, 0, 0]
noncomputable def R75_11 : Array Oper := opsAt Tryd.f75 [1, 1, 1, 1, 0, 1, 0]
noncomputable def R75_12 : Array Oper := opsAt Tryd.f75 [1, 1, 1, 1, 1, 0, 0]
noncomputable def R75_13 : Array Oper := opsAt Tryd.f75 [1, 1, 1, 1, 1, 0, 1, 0]
noncomputable def R75_14 : Array Oper := opsAt Tryd.f75 [1, 1, 1, 1, 1, 1, 0]
noncomputable def M75_0 : Code := .seq (.seq (.region 10 R75_10 false) (.cond (.tmp 39) (.region 11 R75_11 true) .skip)) (.seq (.seq (.region 12 R75_12 false) (.cond (.tmp 52) (.region 13 R75_13 false) .skip)) (.seq (.region 14 R75_14 false) .ret))
theorem lpM75_0 : loops M75_0 = 0 := rfl
theorem code75 : Tryd.f75.body = some (.seq (.region 0 R75_0 false) (.seq (.region 1 R75_1 false) (.seq (.region 2 R75_2 false) (.seq (.seq (.region 3 R75_3 false) (.block 0 (.loop L75_0))) M75_0)))) := by kernel_rfl
noncomputable def R76_0 : Array Oper := opsAt Tryd.f76 [0]
noncomputable def R76_1 : Array Oper := opsAt Tryd.f76 [1, 0, 0]
noncomputable def R76_2 : Array Oper := opsAt Tryd.f76 [1, 0, 1, 0, 0]
noncomputable def R76_3 : Array Oper := opsAt Tryd.f76 [1, 1, 0]
noncomputable def R76_4 : Array Oper := opsAt Tryd.f76 [1, 1, 1, 0]
noncomputable def R76_5 : Array Oper := opsAt Tryd.f76 [1, 1, 1, 1, 0, 0]
noncomputable def R76_6 : Array Oper := opsAt Tryd.f76 [1, 1, 1, 1, 0, 1, 0, 0]
noncomputable def R76_7 : Array Oper := opsAt Tryd.f76 [1, 1, 1, 1, 0, 1, 0, 1, 0, 0]
noncomputable def R76_8 : Array Oper := opsAt Tryd.f76 [1, 1, 1, 1, 0, 1, 0, 1, 1, 0]
noncomputable def R76_9 : Array Oper := opsAt Tryd.f76 [1, 1, 1, 1, 0, 1, 0, 1, 1, 1, 0, 0]
noncomputable def R76_10 : Array Oper := opsAt Tryd.f76 [1, 1, 1, 1, 1, 0]
theorem code76 : Tryd.f76.body = some (.seq (.region 0 R76_0 false) (.seq (.seq (.region 1 R76_1 false) (.cond (.tmp 10) (.seq (.region 2 R76_2 false) .ret) .skip)) (.seq (.region 3 R76_3 false) (.seq (.region 4 R76_4 false) (.seq (.seq (.region 5 R76_5 false) (.block 0 (.seq (.region 6 R76_6 false) (.cond (.tmp 26) (.seq (.region 7 R76_7 true) .ret) (.seq (.region 8 R76_8 false) (.cond (.tmp 37) (.seq (.region 9 R76_9 true) .ret) .skip)))))) (.seq (.region 10 R76_10 true) .ret)))))) := by kernel_rfl
noncomputable def R77_0 : Array Oper := opsAt Tryd.f77 [0]
noncomputable def R77_1 : Array Oper := opsAt Tryd.f77 [1, 0]
theorem code77 : Tryd.f77.body = some (.seq (.region 0 R77_0 false) (.seq (.region 1 R77_1 false) .ret)) := by kernel_rfl
noncomputable def R78_0 : Array Oper := opsAt Tryd.f78 [0]
noncomputable def R78_1 : Array Oper := opsAt Tryd.f78 [1, 0]
theorem code78 : Tryd.f78.body = some (.seq (.region 0 R78_0 false) (.seq (.region 1 R78_1 false) .ret)) := by kernel_rfl
noncomputable def R81_0 : Array Oper := opsAt Tryd.f81 [0]
noncomputable def R81_1 : Array Oper := opsAt Tryd.f81 [1, 0]
noncomputable def R81_2 : Array Oper := opsAt Tryd.f81 [1, 1, 0, 0]
noncomputable def R81_3 : Array Oper := opsAt Tryd.f81 [1, 1, 0, 1, 0]
noncomputable def R81_4 : Array Oper := opsAt Tryd.f81 [1, 1, 1, 0]
noncomputable def R81_5 : Array Oper := opsAt Tryd.f81 [1, 1, 1, 1, 0]
noncomputable def R81_6 : Array Oper := opsAt Tryd.f81 [1, 1, 1, 1, 1, 0, 0]
noncomputable def R81_7 : Array Oper := opsAt Tryd.f81 [1, 1, 1, 1, 1, 0, 1, 0, 0]
noncomputable def R81_8 : Array Oper := opsAt Tryd.f81 [1, 1, 1, 1, 1, 1, 0]
theorem code81 : Tryd.f81.body = some (.seq (.region 0 R81_0 false) (.seq (.region 1 R81_1 false) (.seq (.seq (.region 2 R81_2 true) (.cond (.tmp 13) (.region 3 R81_3 true) .skip)) (.seq (.region 4 R81_4 false) (.seq (.region 5 R81_5 false) (.seq (.seq (.region 6 R81_6 true) (.cond (.tmp 53) (.seq (.region 7 R81_7 false) .ret) .skip)) (.seq (.region 8 R81_8 false) .ret))))))) := by kernel_rfl
noncomputable def R88_0 : Array Oper := opsAt Tryd.f88 [0]
noncomputable def R88_1 : Array Oper := opsAt Tryd.f88 [1, 0]
theorem code88 : Tryd.f88.body = some (.seq (.region 0 R88_0 false) (.seq (.region 1 R88_1 false) .ret)) := by kernel_rfl
noncomputable def R90_0 : Array Oper := opsAt Tryd.f90 [0]
noncomputable def R90_1 : Array Oper := opsAt Tryd.f90 [1, 0, 0]
noncomputable def R90_2 : Array Oper := opsAt Tryd.f90 [1, 0, 1, 0, 0]
noncomputable def R90_3 : Array Oper := opsAt Tryd.f90 [1, 1, 0]
theorem code90 : Tryd.f90.body = some (.seq (.region 0 R90_0 false) (.seq (.seq (.region 1 R90_1 false) (.cond (.tmp 7) (.seq (.region 2 R90_2 false) .ret) .skip)) (.seq (.region 3 R90_3 false) .ret))) := by kernel_rfl
noncomputable def R91_0 : Array Oper := opsAt Tryd.f91 [0]
noncomputable def R91_1 : Array Oper := opsAt Tryd.f91 [1, 0, 0]
noncomputable def R91_2 : Array Oper := opsAt Tryd.f91 [1, 0, 1, 0, 0]
noncomputable def R91_3 : Array Oper := opsAt Tryd.f91 [1, 1, 0]
theorem code91 : Tryd.f91.body = some (.seq (.region 0 R91_0 false) (.seq (.seq (.region 1 R91_1 false) (.cond (.tmp 4) (.seq (.region 2 R91_2 false) .ret) .skip)) (.seq (.region 3 R91_3 false) .ret))) := by kernel_rfl
noncomputable def R92_0 : Array Oper := opsAt Tryd.f92 [0]
noncomputable def R92_1 : Array Oper := opsAt Tryd.f92 [1, 0]
theorem code92 : Tryd.f92.body = some (.seq (.region 0 R92_0 false) (.seq (.region 1 R92_1 false) .ret)) := by kernel_rfl
noncomputable def R93_0 : Array Oper := opsAt Tryd.f93 [0]
noncomputable def R93_1 : Array Oper := opsAt Tryd.f93 [1, 0, 0]
noncomputable def R93_2 : Array Oper := opsAt Tryd.f93 [1, 0, 1, 0, 0, 0]
noncomputable def R93_3 : Array Oper := opsAt Tryd.f93 [1, 0, 1, 0, 0, 1, 1, 0, 0, 0]
noncomputable def R93_4 : Array Oper := opsAt Tryd.f93 [1, 0, 1, 0, 0, 1, 1, 0, 0, 1, 0]
noncomputable def R93_5 : Array Oper := opsAt Tryd.f93 [1, 0, 1, 0, 0, 1, 1, 0, 0, 1, 1, 0, 0]
noncomputable def R93_6 : Array Oper := opsAt Tryd.f93 [1, 0, 1, 0, 0, 1, 1, 1]
noncomputable def L93_0 : Code := .seq (.region 2 R93_2 false) (.seq (.cond (.tmp 9) .skip (.exit 0)) (.seq (.block 1 (.seq (.region 3 R93_3 false) (.seq (.region 4 R93_4 false) (.cond (.tmp 16) (.seq (.region 5 R93_5 false) .ret) .skip)))) (.region 6 R93_6 false)))
theorem lpL93_0 : loops L93_0 = 0 := rfl
noncomputable def R93_7 : Array Oper := opsAt Tryd.f93 [1, 1, 0]
noncomputable def M93_0 : Code := .seq (.region 7 R93_7 false) .ret
theorem lpM93_0 : loops M93_0 = 0 := rfl
theorem code93 : Tryd.f93.body = some (.seq (.region 0 R93_0 false) (.seq (.seq (.region 1 R93_1 false) (.block 0 (.loop L93_0))) M93_0)) := by kernel_rfl
noncomputable def R94_0 : Array Oper := opsAt Tryd.f94 [0]
noncomputable def R94_1 : Array Oper := opsAt Tryd.f94 [1, 0]
noncomputable def R94_2 : Array Oper := opsAt Tryd.f94 [1, 1, 0, 0]
noncomputable def R94_3 : Array Oper := opsAt Tryd.f94 [1, 1, 0, 1, 0, 0, 0, 0]
noncomputable def R94_5 : Array Oper := opsAt Tryd.f94 [1, 1, 0, 1, 0, 0, 1, 0, 0]
noncomputable def R94_4 : Array Oper := opsAt Tryd.f94 [1, 1, 0, 1, 0, 0, 1, 1]
noncomputable def L94_0 : Code := .seq (.seq (.region 3 R94_3 false) (.cond (.tmp 16) .skip (.exit 0))) (.seq (.block 1 (.region 5 R94_5 false)) (.region 4 R94_4 false))
theorem lpL94_0 : loops L94_0 = 0 := rfl
noncomputable def R94_6 : Array Oper := opsAt Tryd.f94 [1, 1, 1, 0]
noncomputable def M94_0 : Code := .seq (.region 6 R94_6 false) .ret
theorem lpM94_0 : loops M94_0 = 0 := rfl
theorem code94 : Tryd.f94.body = some (.seq (.region 0 R94_0 false) (.seq (.region 1 R94_1 false) (.seq (.seq (.region 2 R94_2 false) (.block 0 (.loop L94_0))) M94_0))) := by kernel_rfl
def ext41 : List V → Option (V × List Eng.Obj)
  | [.c (.int .i64 n)] => if -9223372036854775808 ≤ n ∧ n ≤ 9223372036854775807 then some (.c (.string ⟨(Lib.itoa n).toArray⟩), []) else none
  | _ => none
theorem ext41_ok : ExtOk Tryd.prog 41 ext41 := by
  refine ⟨ent Tryd.func41 rfl rfl, fun args v objs h w Pf ι vals hr D => ?_⟩
  unfold ext41 at h
  split at h
  case h_2 => cases h
  rename_i n
  split at h
  case isFalse => cases h
  rename_i hn
  cases h
  simp only [Reps, Rep] at hr
  obtain ⟨u, us, rfl, rfl, rfl⟩ := hr
  refine (Tryd.strconv_Itoa n hn.1 hn.2 w (jt_of D.glob.2)).mono ?_
  rintro e w' ⟨rfl, k, os, rfl⟩
  have hp : ∀ g, Pf true g → (Sort.grow (w.drewN k) os).heap[g]? = w.heap[g]? := fun g hg => by
    have := D.lt g hg
    show (w.heap ++ os)[g]? = w.heap[g]?
    rw [Array.getElem?_append_left this]
  refine ⟨_, ι, 1, fun _ => False, rfl, ⟨rfl, rfl, rfl, ?_, hp, fun _ _ _ h => h⟩, by simp only [Rep], ⟨fun id vr o h => ?_, D.fresh, D.fresh', fun id vr o id' vr' o' g t t' h => ?_, fun g hg => ?_, D.sub, D.gl hp⟩⟩
  · show w.heap.size ≤ (w.heap ++ os).size
    rw [Array.size_append]; omega
  · simp [hpOf] at h
  · simp [hpOf] at h
  · have := D.lt g hg
    show g < (w.heap ++ os).size
    rw [Array.size_append]; omega
theorem fwd_of_below {w w' : World} {Pf : Pfs} {ι : Plc} (hlt : ∀ g, Pf true g → g < w.heap.size) (h : Go.RowKit.Below w.heap.size w w') : Fwd Pf w w' ι ι :=
  ⟨h.os, h.tape, h.output, h.size, fun g hg => h.block g (hlt g hg), fun _ _ _ h => h⟩
theorem desc_none {w w' : World} {Pf : Pfs} {ι : Plc} (D : Desc w Pf ι (fun _ => none) 1 (fun _ => False)) (h : Go.RowKit.Below w.heap.size w w') : Desc w' Pf ι (hpOf [] []) 1 (fun _ => False) :=
  ⟨fun id vr o h => by simp [hpOf] at h, D.fresh, D.fresh', fun id vr o id' vr' o' g t t' h => by simp [hpOf] at h, fun g hg => Nat.lt_of_lt_of_le (D.lt g hg) h.size, D.sub, D.gl (fun g hg => h.block g (D.lt g hg))⟩
def ext51 : List V → Option (V × List Eng.Obj)
  | [.c (.string s)] => if s.size ≤ 281474976710656 then (match Lib.atoiAll s.data.toList with
    | .ok v => some (.tp [.c (.int .i64 v), .c .nilIface], [])
    | .«syntax» => some (.tp [.c (.int .i64 0), .er], [])
    | .range => some (.tp [.c (.int .i64 (Lib.atoiSat s.data.toList)), .er], [])) else none
  | _ => none
theorem ext51_ok : ExtOk Tryd.prog 51 ext51 := by
  refine ⟨ent Tryd.func51 rfl rfl, fun args v objs h w Pf ι vals hr D => ?_⟩
  unfold ext51 at h
  split at h
  case h_2 => cases h
  rename_i s
  split at h
  case isFalse => cases h
  rename_i hs
  simp only [Reps, Rep] at hr
  obtain ⟨u, us, rfl, rfl, rfl⟩ := hr
  split at h
  · rename_i n hn
    cases h
    refine (Tryd.strconv_Atoi_ok s (by omega) n hn w).mono ?_
    rintro e w' ⟨rfl, hw⟩
    have hb : Go.RowKit.Below w.heap.size w w' := by
      rcases hw with rfl | ⟨t, rfl⟩
      · exact Go.RowKit.Below.refl _ _
      · exact Lib.bytesWorld_below _ _ _
    exact ⟨_, ι, 1, fun _ => False, rfl, fwd_of_below D.lt hb, by simp only [Rep, Reps]; exact ⟨_, rfl, _, _, rfl, rfl, _, _, rfl, rfl, rfl⟩, desc_none D hb⟩
  · rename_i hn
    cases h
    obtain ⟨ev, h1, h2⟩ := e1_of D.glob.2
    refine (Tryd.strconv_Atoi_syntax s hs hn ev w h1 h2).mono ?_
    rintro e w' ⟨N, rfl, _, _, hb⟩
    exact ⟨_, ι, 1, fun _ => False, rfl, fwd_of_below D.lt hb, by simp only [Rep, Reps]; exact ⟨_, rfl, _, _, rfl, rfl, _, _, rfl, ⟨_, _, rfl⟩, rfl⟩, desc_none D hb⟩
  · rename_i hn
    cases h
    obtain ⟨ev, h1, h2⟩ := e2_of D.glob.2
    refine (Tryd.strconv_Atoi_range s hs hn ev w h1 h2).mono ?_
    rintro e w' ⟨N, rfl, _, _, hb⟩
    exact ⟨_, ι, 1, fun _ => False, rfl, fwd_of_below D.lt hb, by simp only [Rep, Reps]; exact ⟨_, rfl, _, _, rfl, rfl, _, _, rfl, ⟨_, _, rfl⟩, rfl⟩, desc_none D hb⟩
def ext61 : List V → Option (V × List Eng.Obj)
  | [.c (.string s), .c (.string t)] => if t.size = 1 ∧ s.size ≤ 1048576 then some (.s 0 2 1 0 (Lib.countB s t + 1), [⟨9, 1, true, (Lib.splitB t 0 (Lib.countB s t) s).map fun x => [.c (.string x)]⟩]) else none
  | _ => none
theorem ext61_ok : ExtOk Tryd.prog 61 ext61 := by
  refine ⟨ent Tryd.func61 rfl rfl, fun args v objs h w Pf ι vals hr D => ?_⟩
  unfold ext61 at h
  split at h
  case h_2 => cases h
  rename_i s t
  split at h
  case isFalse => cases h
  rename_i hc
  obtain ⟨ht1, hs20⟩ := hc
  cases h
  simp only [Reps, Rep] at hr
  obtain ⟨u, us, rfl, rfl, u2, us2, rfl, rfl, rfl⟩ := hr
  obtain ⟨m, hm⟩ := mx_of D.glob.2
  have hle := Lib.countB_le t (by omega) s.size s (Nat.le_refl _)
  have hlen := Lib.splitB_all t (by omega) 0 _ s rfl
  refine (Tryd.strings_Split s t m w (by omega) hm (by omega)).mono ?_
  rintro e w' ⟨rfl, rfl⟩
  have D2 : Desc w Pf ι (fun _ => none) 2 (fun _ => False) := ⟨D.own, fun id vr h => D.fresh id vr (by omega), fun id _ => D.fresh id 2 (by omega), D.inj, D.lt, D.sub, D.glob⟩
  obtain ⟨xs, hxs⟩ : ∃ xs, Lib.splitB t 0 (Lib.countB s t) s = xs := ⟨_, rfl⟩
  obtain ⟨n, hn⟩ : ∃ n, Lib.countB s t + 1 = n := ⟨_, rfl⟩
  rw [hxs, hn] at hlen
  rw [hxs, hn]
  have hfl : ((xs.map fun x => [V.c (.string x)]).flatten : List V) = (xs.map Value.string).map V.c := by
    clear hlen hxs
    induction xs with
    | nil => rfl
    | cons x r ih => simp [ih]
  have hnew := new_sound (w' := w.alloc (.cells (xs.map Value.string).toArray 9)) (g := w.heap.size) (site := 0) (id := 0)
    (o := ⟨9, 1, true, xs.map fun x => [.c (.string x)]⟩) (cs := (xs.map Value.string).toArray) (xs := xs.map Value.string) D2 (fun h => h) rfl
    (by simp [okObj, V.one, V.isC, Value.oneCell']) rfl rfl rfl (by show w.heap.size ≤ (w.heap.push _).size; simp)
    (fun k hk _ => Go.heap_alloc_old w _ hk) ⟨_, heap_alloc_new w _, .inl rfl⟩ (fun h => Nat.lt_irrefl _ (D.lt _ h))
    (H' := hpOf [] [⟨9, 1, true, xs.map fun x => [.c (.string x)]⟩])
    (fun i x hx => by
      cases i with
      | zero => simp [hpOf] at hx; exact .inl ⟨rfl, hx.symm⟩
      | succ i => simp [hpOf] at hx)
    (fun i vr o' t hi hx hh => by
      cases i with
      | zero => exact hi rfl
      | succ i => simp [hpOf] at hx)
    (by rw [hfl]; exact Reps.consts _) (List.take_of_length_le (by simp))
  refine ⟨_, _, 2, _, rfl, hnew.1, ?_, hnew.2⟩
  simp only [Rep]
  refine ⟨_, _, _, _, by first | exact if_pos ⟨trivial, trivial⟩ | exact if_pos ⟨rfl, rfl⟩, rfl, Nat.le_refl _, by unfold maxLen; omega, fun _ => by simp, fun _ => ⟨by trivial, ?_⟩⟩
  simp
  omega
def Chkd (T : TypeId) (w w' : World) (b : Nat) (cur : Array Value) (fz : Nat × Nat) : Prop :=
  Same w w' ∧ (∀ k, k ≠ b → w'.heap[k]? = w.heap[k]?) ∧ w'.heap[b]? = some (.cells (cur.setIfInBounds 0 (.pointer (some ⟨b, 0, none⟩))) T fz)
theorem bldSize : (Tryd.prog.info? 55).map (·.size) = some 2 := by kernel_rfl
theorem bldInfo : (Tryd.prog.info? 5).map (fun i => (i.zero, i.size, i.bytes)) = some (some (.int .u8 0), 1, 1) := by kernel_rfl
theorem bldCells : Tryd.prog.cellsOf 55 = 2 := by kernel_rfl
theorem bldLies (c : Nat) (hc : 2 ≤ c) : liesAt Tryd.prog Tryd.prog.depth 55 (c / Tryd.prog.cellsOf 55) 0 55 1 = true := lies_self bldCells (by kernel_rfl) (Nat.succ_ne_zero _) hc
set_option maxHeartbeats 1000000 in
theorem bldCheck_used (b : Nat) (w : World) (h0 : w.cell? ⟨b, 0, none⟩ = some (.pointer (some ⟨b, 0, none⟩))) :
    Calls Tryd.prog 79 #[.pointer (some ⟨b, 0, none⟩)] w fun e w' => e = .returned (.tuple #[]) ∧ w' = w := by
  obtain ⟨j, hj, _⟩ := Option.map_eq_some_iff.1 bldSize
  go_enter Tryd.func79, Tryd.ntmps79
  go_wp2
  rw [Lib.run_neq_ptr_same w _ Tryd.underlying53 hj]
  go_wp2
  go_end0
  exact ⟨rfl, rfl⟩
set_option maxHeartbeats 1000000 in
theorem bldCheck_fresh (b c : Nat) (w : World) (hc : 2 ≤ c) (h0 : w.cell? ⟨b, 0, none⟩ = some (.pointer none)) (hsh : w.shape? b = some (55, c)) (hfz : w.frozen? ⟨b, 0, none⟩ = false) :
    Calls Tryd.prog 79 #[.pointer (some ⟨b, 0, none⟩)] w fun e w' => e = .returned (.tuple #[]) ∧ w' = w.setCell ⟨b, 0, none⟩ (.pointer (some ⟨b, 0, none⟩)) := by
  obtain ⟨j, hj, hjs⟩ := Option.map_eq_some_iff.1 bldSize
  have hlies := bldLies c hc
  go_enter Tryd.func79, Tryd.ntmps79
  go_wp2
  rw [Lib.run_to_unsafe w ⟨b, 0, none⟩ Tryd.underlying53 Tryd.underlying95 hj (by rw [hjs]; decide) hsh (by show 0 < c; omega)]
  simp only [Result.andThen]
  rw [Oper.upon_value]
  go_wp2
  rw [run_callFunc_extern Tryd.func95 (by kernel_rfl) (by kernel_rfl) (by kernel_rfl) (e := Extern.AbiNoEscape.same) (by kernel_rfl)]
  rw [Lib.run_noEscape]
  simp only [Result.andThen]
  rw [Oper.upon_value]
  go_wp2
  rw [Lib.run_from_unsafe w ⟨b, 0, none⟩ Tryd.underlying95 Tryd.underlying53 hj hsh hlies]
  simp only [Result.andThen]
  rw [Oper.upon_value]
  go_wp2
  go_end0
  exact ⟨rfl, rfl⟩
theorem bldCheck (b : Nat) (w : World) (cur : Array Value) (fz : Nat × Nat) (p v : Value) (hb : w.heap[b]? = some (.cells cur 55 fz)) (hfz : fz = (0, 0) ∨ cur.size ≤ fz.1) (hc : cur.toList.take 2 = [p, v])
    (hp : p = .pointer none ∨ p = .pointer (some ⟨b, 0, none⟩)) :
    Calls Tryd.prog 79 #[.pointer (some ⟨b, 0, none⟩)] w fun e w' => e = .returned (.tuple #[]) ∧ Chkd 55 w w' b cur fz := by
  obtain ⟨l, rfl⟩ := take2 hc
  rcases hp with rfl | rfl
  · refine (bldCheck_fresh b (l.length + 2) w (by omega) (by simp [World.cell?, hb]) (by simp [World.shape?, hb]) ?_).mono ?_
    · obtain ⟨lo, hi⟩ := fz
      simp only [World.frozen?, hb]
      rcases hfz with h | h
      · cases h; simp
      · simp at h; simp; omega
    · rintro e w' ⟨rfl, rfl⟩
      refine ⟨rfl, ⟨rfl, rfl, rfl, by simp [World.setCell]⟩, fun k hk => ?_, ?_⟩
      · simp only [World.setCell, Array.getElem?_modify]
        rw [if_neg (fun e => hk e.symm)]
      · simp [World.setCell, Array.getElem?_modify, hb]
  · refine (bldCheck_used b w (by simp [World.cell?, hb])).mono ?_
    rintro e w' ⟨rfl, rfl⟩
    exact ⟨rfl, Same.refl _, fun _ _ => rfl, by simp [hb]⟩
set_option maxHeartbeats 2000000 in
theorem bld40_ok : BldOk Tryd.prog 40 (true, 55, 5) := by
  refine ⟨ent Tryd.func40 rfl rfl, ?_⟩
  simp only [if_true]
  intro w b n cur fz p v xs ob s hb hfz hc hp hrow hob hs0 hlen
  obtain ⟨i0, hi, hz0, hz1, hz2⟩ := info_parts bldInfo
  go_enter Tryd.func40, Tryd.ntmps40
  go_wp2_with fail
  refine (bldCheck b w _ fz p v hb hfz hc hp).mono ?_
  rintro e w1 ⟨rfl, S1, k1, e1⟩
  obtain ⟨l, rfl⟩ := take2 hc
  have c1 : w1.cell? ⟨b, 1, none⟩ = some v := by simp [World.cell?, e1]
  have hrow1 : RowV w1 5 v n xs ob := by
    rcases hrow with h | ⟨g, cur, h1, ⟨fz', h2, h2'⟩, h3⟩
    · exact .inl h
    · refine .inr ⟨g, cur, h1, ⟨fz', ?_, h2'⟩, h3⟩
      rw [k1 g (fun e => hob (by rw [h3.2.2.2.2, e]))]
      exact h2
  obtain ⟨g', cur', w2, hrun, S2, k2, B2, l1, l2, t2, o2⟩ := app_str Tryd.prog w1 32 9 32 5 i0 Tryd.underlying32 Tryd.underlying9 hi hz0 hz1 hz2 hrow1 s hs0 hlen
  have hbl : b < w1.heap.size := by
    rcases Nat.lt_or_ge b w1.heap.size with h' | h'
    · exact h'
    · simp [Array.getElem?_eq_none h'] at e1
  have hbg : b ≠ g' := by
    rcases o2 with h | h
    · exact fun e => hob (by rw [h, e])
    · omega
  have hb2 := (k2 b hbl hbg).trans e1
  have d1 : w2.cell? ⟨b, 1, none⟩ = some v := by simp [World.cell?, hb2]
  have f1 : w2.frozen? ⟨b, 1, none⟩ = false := by
    obtain ⟨lo, hi⟩ := fz
    simp only [World.frozen?, hb2]
    rcases hfz with h | h
    · cases h; simp
    · simp at h; simp; omega
  go_wp2_with (at_builtin; refine wpList_app rfl _ _ 32 9 rfl rfl rfl hrun ?_)
  go_wp2
  go_ret2
  refine ⟨rfl, w1, w2, g', cur', S1, k1, e1, S2, k2, B2, l1, l2, t2, o2, ⟨rfl, rfl, rfl, by simp [World.setCell]⟩, fun k hk => ?_, ?_⟩
  · simp only [World.setCell, Array.getElem?_modify]
    rw [if_neg (fun e => hk e.symm)]
  · simp [World.setCell, Array.getElem?_modify, hb2]
set_option maxHeartbeats 2000000 in
theorem bld42_ok : BldOk Tryd.prog 42 (false, 55, 5) := by
  refine ⟨ent Tryd.func42 rfl rfl, ?_⟩
  simp only [Bool.false_eq_true, if_false]
  intro w b g cur cur2 fz p l hb hc hg hgb hl0 hl1 hl2 hcs
  obtain ⟨l', rfl⟩ := take2 hc
  obtain ⟨fz2, hg, _⟩ := hg
  have hl : l.length ≠ 0 := by simpa using hl0
  have c1 : w.drew.cell? ⟨b, 1, none⟩ = some (.slice (some ⟨g, 0, none⟩) l.length cur2.size) := by
    have hb' : w.drew.heap[b]? = some (.cells ⟨p :: .slice (some ⟨g, 0, none⟩) l.length cur2.size :: l'⟩ 55 fz) := hb
    simp [World.cell?, hb']
  have hSD : (Builtin.unsafeSliceData_ #[32] 87 #[.slice (some ⟨g, 0, none⟩) l.length cur2.size]).run Tryd.prog w.drew = .ok (.pointer (some ⟨g, 0, none⟩)) w.drew :=
    Lib.run_unsafeSliceData_row _ _ _ _ _ _ (by omega)
  have hUS : (Builtin.unsafeString_ #[87, 3] 9 #[.pointer (some ⟨g, 0, none⟩), .int .i64 l.length]).run Tryd.prog w.drew = .ok (.string ⟨l.toArray⟩) (w.drew.freeze ⟨g, 0, none⟩ l.length) := by
    have hg' : w.drew.heap[g]? = some (.cells cur2 5 fz2) := hg
    refine Lib.run_unsafeString_row w.drew 87 3 9 5 Tryd.underlying87 (by kernel_rfl) g cur2.size (by simp [World.shape?, hg']) l hl0 (by omega) (by unfold maxLen at hl2; omega) ?_
    intro j x hx
    have hj : j < l.length := (List.getElem?_eq_some_iff.1 hx).1
    have h2 : (cur2.toList.take l.length)[j]? = some (.int .u8 (x.toNat : Int)) := by rw [hcs]; simp [hx]
    rw [List.getElem?_take, if_pos hj] at h2
    rw [Addr.add_lit, Nat.zero_add]
    simpa [World.cell?, hg'] using h2
  have hfin : Same w (w.drew.freeze ⟨g, 0, none⟩ l.length) ∧ ∀ k, k ≠ g → (w.drew.freeze ⟨g, 0, none⟩ l.length).heap[k]? = w.heap[k]? := by
    unfold World.freeze
    rw [if_neg hl]
    refine ⟨⟨rfl, rfl, rfl, by rw [Array.size_modify]; exact Nat.le_refl _⟩, fun k hk => ?_⟩
    simp only [Array.getElem?_modify]
    rw [if_neg (fun e => hk e.symm)]
    rfl
  go_enter Tryd.func42, Tryd.ntmps42
  go_wp2
  go_region
  all_goals (go_wp2; go_ret; exact ⟨rfl, hfin⟩)
def X : FuncId → Option (List V → Option (V × List Eng.Obj))
  | 41 => some ext41
  | 51 => some ext51
  | 61 => some ext61
  | _ => none
noncomputable def C : Cfg := ⟨T, F, X, WR, OW, K, BL⟩
theorem cT : C.T = T := by unfold C; with_reducible rfl
theorem cF : C.fn = F := by unfold C; with_reducible rfl
theorem cX : C.ext = X := by unfold C; with_reducible rfl
theorem cWR : C.wr = WR := by unfold C; with_reducible rfl
theorem cOW : C.own = OW := by unfold C; with_reducible rfl
theorem cK : C.keep = K := by unfold C; with_reducible rfl
theorem cBL : C.bld = BL := by unfold C; with_reducible rfl
theorem cfgOk : CfgOk Tryd.prog C where
  mixed := by kernel_rfl
  tab := tabOk
  fn := fun f fn h => okF_1 f fn h
  ext := by
    intro f m h
    have h' : X f = some m := h
    unfold X at h'
    split at h'
    · cases h'; exact ext41_ok
    · cases h'; exact ext51_ok
    · cases h'; exact ext61_ok
    · cases h'
  bld := by
    intro f k h
    have h' : BL f = some k := h
    unfold BL at h'
    split at h'
    · cases h'; exact bld40_ok
    · cases h'; exact bld42_ok
    · cases h'
end Go.Proofs.YtalpgpjhloohfaaDoor.Eng
