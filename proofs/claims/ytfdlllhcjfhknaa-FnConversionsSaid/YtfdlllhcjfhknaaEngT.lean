/- The types, the functions and the loops' live slots that the laws reach, and that they are what the program has. No conditions. -/
import Derived.Test.YtfdlllhcjfhknaaEngTa
namespace Go.Proofs.Ytfdlllhcjfhknaa.Eng
open Go Go.Proofs
set_option maxRecDepth 100000
noncomputable def R3_0 : Array Oper := opsAt Try.f3 [0]
noncomputable def R3_1 : Array Oper := opsAt Try.f3 [1, 0]
noncomputable def R3_2 : Array Oper := opsAt Try.f3 [1, 1, 0]
noncomputable def R3_3 : Array Oper := opsAt Try.f3 [1, 1, 1, 0, 0]
noncomputable def R3_4 : Array Oper := opsAt Try.f3 [1, 1, 1, 0, 1, 0, 0]
noncomputable def R3_5 : Array Oper := opsAt Try.f3 [1, 1, 1, 1, 0]
noncomputable def R3_6 : Array Oper := opsAt Try.f3 [1, 1, 1, 1, 1, 0]
noncomputable def R3_7 : Array Oper := opsAt Try.f3 [1, 1, 1, 1, 1, 1, 0]
noncomputable def R3_8 : Array Oper := opsAt Try.f3 [1, 1, 1, 1, 1, 1, 1, 0, 0]
noncomputable def R3_9 : Array Oper := opsAt Try.f3 [1, 1, 1, 1, 1, 1, 1, 0, 1, 0, 0]
noncomputable def R3_10 : Array Oper := opsAt Try.f3 [1, 1, 1, 1, 1, 1, 1, 1, 0, 0]
noncomputable def R3_11 : Array Oper := opsAt Try.f3 [1, 1, 1, 1, 1, 1, 1, 1, 0, 1, 0, 0]
noncomputable def R3_12 : Array Oper := opsAt Try.f3 [1, 1, 1, 1, 1, 1, 1, 1, 1, 0]
noncomputable def R3_13 : Array Oper := opsAt Try.f3 [1, 1, 1, 1, 1, 1, 1, 1, 1, 1, 0]
noncomputable def R3_14 : Array Oper := opsAt Try.f3 [1, 1, 1, 1, 1, 1, 1, 1, 1, 1, 1, 0, 0]
noncomputable def R3_15 : Array Oper := opsAt Try.f3 [1, 1, 1, 1, 1, 1, 1, 1, 1, 1, 1, 0, 1, 0, 0]
noncomputable def R3_16 : Array Oper := opsAt Try.f3 [1, 1, 1, 1, 1, 1, 1, 1, 1, 1, 1, 1, 0]
noncomputable def R3_17 : Array Oper := opsAt Try.f3 [1, 1, 1, 1, 1, 1, 1, 1, 1, 1, 1, 1, 1, 0]
noncomputable def R3_18 : Array Oper := opsAt Try.f3 [1, 1, 1, 1, 1, 1, 1, 1, 1, 1, 1, 1, 1, 1, 0]
noncomputable def R3_19 : Array Oper := opsAt Try.f3 [1, 1, 1, 1, 1, 1, 1, 1, 1, 1, 1, 1, 1, 1, 1, 0]
noncomputable def R3_20 : Array Oper := opsAt Try.f3 [1, 1, 1, 1, 1, 1, 1, 1, 1, 1, 1, 1, 1, 1, 1, 1, 0, 0]
noncomputable def R3_21 : Array Oper := opsAt Try.f3 [1, 1, 1, 1, 1, 1, 1, 1, 1, 1, 1, 1, 1, 1, 1, 1, 0, 1, 0, 0]
noncomputable def R3_22 : Array Oper := opsAt Try.f3 [1, 1, 1, 1, 1, 1, 1, 1, 1, 1, 1, 1, 1, 1, 1, 1, 1, 0, 0]
noncomputable def R3_23 : Array Oper := opsAt Try.f3 [1, 1, 1, 1, 1, 1, 1, 1, 1, 1, 1, 1, 1, 1, 1, 1, 1, 0, 1, 0, 0]
noncomputable def R3_24 : Array Oper := opsAt Try.f3 [1, 1, 1, 1, 1, 1, 1, 1, 1, 1, 1, 1, 1, 1, 1, 1, 1, 1, 0]
noncomputable def R3_25 : Array Oper := opsAt Try.f3 [1, 1, 1, 1, 1, 1, 1, 1, 1, 1, 1, 1, 1, 1, 1, 1, 1, 1, 1, 0, 0]
noncomputable def R3_26 : Array Oper := opsAt Try.f3 [1, 1, 1, 1, 1, 1, 1, 1, 1, 1, 1, 1, 1, 1, 1, 1, 1, 1, 1, 0, 1, 0, 0]
noncomputable def R3_27 : Array Oper := opsAt Try.f3 [1, 1, 1, 1, 1, 1, 1, 1, 1, 1, 1, 1, 1, 1, 1, 1, 1, 1, 1, 1, 0]
noncomputable def R3_28 : Array Oper := opsAt Try.f3 [1, 1, 1, 1, 1, 1, 1, 1, 1, 1, 1, 1, 1, 1, 1, 1, 1, 1, 1, 1, 1, 0]
noncomputable def R3_29 : Array Oper := opsAt Try.f3 [1, 1, 1, 1, 1, 1, 1, 1, 1, 1, 1, 1, 1, 1, 1, 1, 1, 1, 1, 1, 1, 1, 0, 0]
noncomputable def R3_30 : Array Oper := opsAt Try.f3 [1, 1, 1, 1, 1, 1, 1, 1, 1, 1, 1, 1, 1, 1, 1, 1, 1, 1, 1, 1, 1, 1, 0, 1, 0, 0]
noncomputable def R3_31 : Array Oper := opsAt Try.f3 [1, 1, 1, 1, 1, 1, 1, 1, 1, 1, 1, 1, 1, 1, 1, 1, 1, 1, 1, 1, 1, 1, 1, 0, 0]
noncomputable def R3_32 : Array Oper := opsAt Try.f3 [1, 1, 1, 1, 1, 1, 1, 1, 1, 1, 1, 1, 1, 1, 1, 1, 1, 1, 1, 1, 1, 1, 1, 0, 1, 0, 0]
noncomputable def R3_33 : Array Oper := opsAt Try.f3 [1, 1, 1, 1, 1, 1, 1, 1, 1, 1, 1, 1, 1, 1, 1, 1, 1, 1, 1, 1, 1, 1, 1, 1, 0]
theorem code3 : Try.f3.body = some (.seq (.region 0 R3_0 false) (.seq (.region 1 R3_1 false) (.seq (.region 2 R3_2 false) (.seq (.seq (.region 3 R3_3 false) (.cond (.tmp 20) (.seq (.region 4 R3_4 false) .ret) .skip)) (.seq (.region 5 R3_5 false) (.seq (.region 6 R3_6 false) (.seq (.region 7 R3_7 false) (.seq (.seq (.region 8 R3_8 false) (.cond (.tmp 44) (.seq (.region 9 R3_9 false) .ret) .skip)) (.seq (.seq (.region 10 R3_10 true) (.cond (.tmp 49) (.seq (.region 11 R3_11 false) .ret) .skip)) (.seq (.region 12 R3_12 false) (.seq (.region 13 R3_13 false) (.seq (.seq (.region 14 R3_14 false) (.cond (.tmp 65) (.seq (.region 15 R3_15 false) .ret) .skip)) (.seq (.region 16 R3_16 false) (.seq (.region 17 R3_17 false) (.seq (.region 18 R3_18 false) (.seq (.region 19 R3_19 false) (.seq (.seq (.region 20 R3_20 false) (.cond (.tmp 73) (.seq (.region 21 R3_21 false) .ret) .skip)) (.seq (.seq (.region 22 R3_22 false) (.cond (.tmp 76) (.seq (.region 23 R3_23 false) .ret) .skip)) (.seq (.region 24 R3_24 false) (.seq (.seq (.region 25 R3_25 false) (.cond (.tmp 92) (.seq (.region 26 R3_26 false) .ret) .skip)) (.seq (.region 27 R3_27 false) (.seq (.region 28 R3_28 false) (.seq (.seq (.region 29 R3_29 false) (.cond (.tmp 97) (.seq (.region 30 R3_30 false) .ret) .skip)) (.seq (.seq (.region 31 R3_31 false) (.cond (.tmp 100) (.seq (.region 32 R3_32 false) .ret) .skip)) (.seq (.region 33 R3_33 false) .ret))))))))))))))))))))))))) := by kernel_rfl
noncomputable def R4_0 : Array Oper := opsAt Try.f4 [0]
noncomputable def R4_1 : Array Oper := opsAt Try.f4 [1, 0, 0]
noncomputable def R4_2 : Array Oper := opsAt Try.f4 [1, 0, 1, 0, 0]
noncomputable def R4_3 : Array Oper := opsAt Try.f4 [1, 1, 0]
noncomputable def R4_4 : Array Oper := opsAt Try.f4 [1, 1, 1, 0]
noncomputable def R4_5 : Array Oper := opsAt Try.f4 [1, 1, 1, 1, 0, 0]
noncomputable def R4_6 : Array Oper := opsAt Try.f4 [1, 1, 1, 1, 0, 1, 0]
noncomputable def R4_7 : Array Oper := opsAt Try.f4 [1, 1, 1, 1, 0, 1, 1, 0, 0]
noncomputable def R4_8 : Array Oper := opsAt Try.f4 [1, 1, 1, 1, 1, 0, 0]
noncomputable def R4_9 : Array Oper := opsAt Try.f4 [1, 1, 1, 1, 1, 0, 1, 0, 0]
noncomputable def R4_10 : Array Oper := opsAt Try.f4 [1, 1, 1, 1, 1, 0, 1, 0, 1, 0]
noncomputable def R4_11 : Array Oper := opsAt Try.f4 [1, 1, 1, 1, 1, 0, 1, 0, 1, 1, 0, 0]
noncomputable def R4_12 : Array Oper := opsAt Try.f4 [1, 1, 1, 1, 1, 1, 0]
noncomputable def R4_13 : Array Oper := opsAt Try.f4 [1, 1, 1, 1, 1, 1, 1, 0]
noncomputable def R4_14 : Array Oper := opsAt Try.f4 [1, 1, 1, 1, 1, 1, 1, 1, 0, 0]
noncomputable def R4_15 : Array Oper := opsAt Try.f4 [1, 1, 1, 1, 1, 1, 1, 1, 0, 1, 0]
noncomputable def R4_16 : Array Oper := opsAt Try.f4 [1, 1, 1, 1, 1, 1, 1, 1, 0, 1, 1, 0, 0]
noncomputable def R4_17 : Array Oper := opsAt Try.f4 [1, 1, 1, 1, 1, 1, 1, 1, 1, 0, 0]
noncomputable def R4_18 : Array Oper := opsAt Try.f4 [1, 1, 1, 1, 1, 1, 1, 1, 1, 0, 1, 0, 0]
noncomputable def R4_19 : Array Oper := opsAt Try.f4 [1, 1, 1, 1, 1, 1, 1, 1, 1, 0, 1, 0, 1, 0, 0]
noncomputable def R4_20 : Array Oper := opsAt Try.f4 [1, 1, 1, 1, 1, 1, 1, 1, 1, 0, 1, 0, 1, 0, 1, 0, 0]
noncomputable def R4_21 : Array Oper := opsAt Try.f4 [1, 1, 1, 1, 1, 1, 1, 1, 1, 0, 1, 0, 1, 1, 0]
noncomputable def R4_22 : Array Oper := opsAt Try.f4 [1, 1, 1, 1, 1, 1, 1, 1, 1, 0, 1, 0, 1, 1, 1, 0]
noncomputable def R4_23 : Array Oper := opsAt Try.f4 [1, 1, 1, 1, 1, 1, 1, 1, 1, 0, 1, 0, 1, 1, 1, 1, 0, 0]
noncomputable def R4_24 : Array Oper := opsAt Try.f4 [1, 1, 1, 1, 1, 1, 1, 1, 1, 1, 0]
noncomputable def R4_25 : Array Oper := opsAt Try.f4 [1, 1, 1, 1, 1, 1, 1, 1, 1, 1, 1, 0]
noncomputable def R4_26 : Array Oper := opsAt Try.f4 [1, 1, 1, 1, 1, 1, 1, 1, 1, 1, 1, 1, 0, 0]
noncomputable def R4_27 : Array Oper := opsAt Try.f4 [1, 1, 1, 1, 1, 1, 1, 1, 1, 1, 1, 1, 0, 1, 0]
noncomputable def R4_28 : Array Oper := opsAt Try.f4 [1, 1, 1, 1, 1, 1, 1, 1, 1, 1, 1, 1, 0, 1, 1, 0, 0]
noncomputable def R4_29 : Array Oper := opsAt Try.f4 [1, 1, 1, 1, 1, 1, 1, 1, 1, 1, 1, 1, 1, 0, 0]
noncomputable def R4_30 : Array Oper := opsAt Try.f4 [1, 1, 1, 1, 1, 1, 1, 1, 1, 1, 1, 1, 1, 0, 1, 0]
noncomputable def R4_31 : Array Oper := opsAt Try.f4 [1, 1, 1, 1, 1, 1, 1, 1, 1, 1, 1, 1, 1, 0, 1, 1, 0, 0]
noncomputable def R4_32 : Array Oper := opsAt Try.f4 [1, 1, 1, 1, 1, 1, 1, 1, 1, 1, 1, 1, 1, 1, 0]
noncomputable def R4_33 : Array Oper := opsAt Try.f4 [1, 1, 1, 1, 1, 1, 1, 1, 1, 1, 1, 1, 1, 1, 1, 0]
noncomputable def R4_34 : Array Oper := opsAt Try.f4 [1, 1, 1, 1, 1, 1, 1, 1, 1, 1, 1, 1, 1, 1, 1, 1, 0]
noncomputable def R4_35 : Array Oper := opsAt Try.f4 [1, 1, 1, 1, 1, 1, 1, 1, 1, 1, 1, 1, 1, 1, 1, 1, 1, 0]
theorem code4 : Try.f4.body = some (.seq (.region 0 R4_0 false) (.seq (.seq (.region 1 R4_1 false) (.cond (.tmp 39) (.seq (.region 2 R4_2 false) .ret) .skip)) (.seq (.region 3 R4_3 false) (.seq (.region 4 R4_4 false) (.seq (.seq (.region 5 R4_5 false) (.seq (.region 6 R4_6 false) (.cond (.tmp 67) (.seq (.region 7 R4_7 false) .ret) .skip))) (.seq (.seq (.region 8 R4_8 false) (.cond (.tmp 68) (.seq (.region 9 R4_9 false) (.seq (.region 10 R4_10 false) (.cond (.tmp 82) (.seq (.region 11 R4_11 false) .ret) .skip))) .skip)) (.seq (.region 12 R4_12 false) (.seq (.region 13 R4_13 false) (.seq (.seq (.region 14 R4_14 false) (.seq (.region 15 R4_15 false) (.cond (.tmp 113) (.seq (.region 16 R4_16 false) .ret) .skip))) (.seq (.seq (.region 17 R4_17 false) (.cond (.tmp 114) (.seq (.region 18 R4_18 false) (.seq (.seq (.region 19 R4_19 false) (.cond (.tmp 130) (.seq (.region 20 R4_20 false) .ret) .skip)) (.seq (.region 21 R4_21 false) (.seq (.region 22 R4_22 false) (.cond (.tmp 146) (.seq (.region 23 R4_23 false) .ret) .skip))))) .skip)) (.seq (.region 24 R4_24 false) (.seq (.region 25 R4_25 false) (.seq (.seq (.region 26 R4_26 false) (.seq (.region 27 R4_27 false) (.cond (.tmp 182) (.seq (.region 28 R4_28 false) .ret) .skip))) (.seq (.seq (.region 29 R4_29 false) (.seq (.region 30 R4_30 false) (.cond (.tmp 198) (.seq (.region 31 R4_31 false) .ret) .skip))) (.seq (.region 32 R4_32 false) (.seq (.region 33 R4_33 false) (.seq (.region 34 R4_34 false) (.seq (.region 35 R4_35 false) .ret)))))))))))))))))) := by kernel_rfl
noncomputable def R5_0 : Array Oper := opsAt Try.f5 [0]
noncomputable def R5_1 : Array Oper := opsAt Try.f5 [1, 0, 0]
noncomputable def R5_2 : Array Oper := opsAt Try.f5 [1, 0, 1, 0, 0]
noncomputable def R5_3 : Array Oper := opsAt Try.f5 [1, 1, 0]
noncomputable def R5_4 : Array Oper := opsAt Try.f5 [1, 1, 1, 0]
noncomputable def R5_5 : Array Oper := opsAt Try.f5 [1, 1, 1, 1, 0, 0]
noncomputable def R5_6 : Array Oper := opsAt Try.f5 [1, 1, 1, 1, 0, 1, 0]
noncomputable def R5_7 : Array Oper := opsAt Try.f5 [1, 1, 1, 1, 0, 1, 1, 0, 0]
noncomputable def R5_8 : Array Oper := opsAt Try.f5 [1, 1, 1, 1, 1, 0]
noncomputable def R5_9 : Array Oper := opsAt Try.f5 [1, 1, 1, 1, 1, 1, 0]
noncomputable def R5_10 : Array Oper := opsAt Try.f5 [1, 1, 1, 1, 1, 1, 1, 0, 0]
noncomputable def R5_11 : Array Oper := opsAt Try.f5 [1, 1, 1, 1, 1, 1, 1, 0, 1, 0, 0]
noncomputable def R5_12 : Array Oper := opsAt Try.f5 [1, 1, 1, 1, 1, 1, 1, 1, 0]
noncomputable def R5_13 : Array Oper := opsAt Try.f5 [1, 1, 1, 1, 1, 1, 1, 1, 1, 0, 0]
noncomputable def R5_14 : Array Oper := opsAt Try.f5 [1, 1, 1, 1, 1, 1, 1, 1, 1, 0, 1, 0, 0]
noncomputable def R5_15 : Array Oper := opsAt Try.f5 [1, 1, 1, 1, 1, 1, 1, 1, 1, 1, 0]
noncomputable def R5_16 : Array Oper := opsAt Try.f5 [1, 1, 1, 1, 1, 1, 1, 1, 1, 1, 1, 0]
noncomputable def R5_17 : Array Oper := opsAt Try.f5 [1, 1, 1, 1, 1, 1, 1, 1, 1, 1, 1, 1, 0, 0]
noncomputable def R5_18 : Array Oper := opsAt Try.f5 [1, 1, 1, 1, 1, 1, 1, 1, 1, 1, 1, 1, 0, 1, 0]
noncomputable def R5_19 : Array Oper := opsAt Try.f5 [1, 1, 1, 1, 1, 1, 1, 1, 1, 1, 1, 1, 0, 1, 1, 0, 0]
noncomputable def R5_20 : Array Oper := opsAt Try.f5 [1, 1, 1, 1, 1, 1, 1, 1, 1, 1, 1, 1, 1, 0, 0]
noncomputable def R5_21 : Array Oper := opsAt Try.f5 [1, 1, 1, 1, 1, 1, 1, 1, 1, 1, 1, 1, 1, 0, 1, 0, 0]
noncomputable def R5_22 : Array Oper := opsAt Try.f5 [1, 1, 1, 1, 1, 1, 1, 1, 1, 1, 1, 1, 1, 1, 0]
noncomputable def R5_23 : Array Oper := opsAt Try.f5 [1, 1, 1, 1, 1, 1, 1, 1, 1, 1, 1, 1, 1, 1, 1, 0]
noncomputable def R5_24 : Array Oper := opsAt Try.f5 [1, 1, 1, 1, 1, 1, 1, 1, 1, 1, 1, 1, 1, 1, 1, 1, 0]
theorem code5 : Try.f5.body = some (.seq (.region 0 R5_0 false) (.seq (.seq (.region 1 R5_1 false) (.cond (.tmp 29) (.seq (.region 2 R5_2 false) .ret) .skip)) (.seq (.region 3 R5_3 false) (.seq (.region 4 R5_4 false) (.seq (.seq (.region 5 R5_5 false) (.seq (.region 6 R5_6 false) (.cond (.tmp 56) (.seq (.region 7 R5_7 false) .ret) .skip))) (.seq (.region 8 R5_8 false) (.seq (.region 9 R5_9 false) (.seq (.seq (.region 10 R5_10 false) (.cond (.tmp 75) (.seq (.region 11 R5_11 false) .ret) .skip)) (.seq (.region 12 R5_12 false) (.seq (.seq (.region 13 R5_13 false) (.cond (.tmp 114) (.seq (.region 14 R5_14 false) .ret) .skip)) (.seq (.region 15 R5_15 false) (.seq (.region 16 R5_16 false) (.seq (.seq (.region 17 R5_17 false) (.seq (.region 18 R5_18 false) (.cond (.tmp 149) (.seq (.region 19 R5_19 false) .ret) .skip))) (.seq (.seq (.region 20 R5_20 false) (.cond (.tmp 151) (.seq (.region 21 R5_21 false) .ret) .skip)) (.seq (.region 22 R5_22 false) (.seq (.region 23 R5_23 false) (.seq (.region 24 R5_24 false) .ret))))))))))))))))) := by kernel_rfl
noncomputable def R6_0 : Array Oper := opsAt Try.f6 [0]
noncomputable def R6_1 : Array Oper := opsAt Try.f6 [1, 0, 0]
noncomputable def R6_2 : Array Oper := opsAt Try.f6 [1, 0, 1, 0, 0]
noncomputable def R6_3 : Array Oper := opsAt Try.f6 [1, 1, 0]
noncomputable def R6_4 : Array Oper := opsAt Try.f6 [1, 1, 1, 0]
noncomputable def R6_5 : Array Oper := opsAt Try.f6 [1, 1, 1, 1, 0, 0]
noncomputable def R6_6 : Array Oper := opsAt Try.f6 [1, 1, 1, 1, 0, 1, 0]
noncomputable def R6_7 : Array Oper := opsAt Try.f6 [1, 1, 1, 1, 0, 1, 1, 0, 0]
noncomputable def R6_8 : Array Oper := opsAt Try.f6 [1, 1, 1, 1, 1, 0, 0]
noncomputable def R6_9 : Array Oper := opsAt Try.f6 [1, 1, 1, 1, 1, 0, 1, 0, 0]
noncomputable def R6_10 : Array Oper := opsAt Try.f6 [1, 1, 1, 1, 1, 0, 1, 0, 1, 0]
noncomputable def R6_11 : Array Oper := opsAt Try.f6 [1, 1, 1, 1, 1, 0, 1, 0, 1, 1, 0, 0]
noncomputable def R6_12 : Array Oper := opsAt Try.f6 [1, 1, 1, 1, 1, 0, 1, 0, 1, 1, 0, 1, 0, 0]
noncomputable def R6_13 : Array Oper := opsAt Try.f6 [1, 1, 1, 1, 1, 0, 1, 0, 1, 1, 1, 0]
noncomputable def R6_14 : Array Oper := opsAt Try.f6 [1, 1, 1, 1, 1, 0, 1, 0, 1, 1, 1, 1, 0, 0, 0, 0]
noncomputable def R6_16 : Array Oper := opsAt Try.f6 [1, 1, 1, 1, 1, 0, 1, 0, 1, 1, 1, 1, 0, 0, 1, 0, 0, 0]
noncomputable def R6_17 : Array Oper := opsAt Try.f6 [1, 1, 1, 1, 1, 0, 1, 0, 1, 1, 1, 1, 0, 0, 1, 0, 0, 1, 0, 0]
noncomputable def R6_15 : Array Oper := opsAt Try.f6 [1, 1, 1, 1, 1, 0, 1, 0, 1, 1, 1, 1, 0, 0, 1, 1]
noncomputable def L6_0 : Code := .seq (.seq (.region 14 R6_14 false) (.cond (.tmp 94) .skip (.exit 0))) (.seq (.block 1 (.seq (.region 16 R6_16 true) (.cond (.tmp 130) (.seq (.region 17 R6_17 false) .ret) .skip))) (.region 15 R6_15 false))
theorem lpL6_0 : loops L6_0 = 0 := rfl
noncomputable def R6_18 : Array Oper := opsAt Try.f6 [1, 1, 1, 1, 1, 1, 0]
noncomputable def R6_19 : Array Oper := opsAt Try.f6 [1, 1, 1, 1, 1, 1, 1, 0]
noncomputable def R6_20 : Array Oper := opsAt Try.f6 [1, 1, 1, 1, 1, 1, 1, 1, 0, 0]
noncomputable def R6_21 : Array Oper := opsAt Try.f6 [1, 1, 1, 1, 1, 1, 1, 1, 0, 1, 0, 0]
noncomputable def R6_22 : Array Oper := opsAt Try.f6 [1, 1, 1, 1, 1, 1, 1, 1, 1, 0, 0]
noncomputable def R6_23 : Array Oper := opsAt Try.f6 [1, 1, 1, 1, 1, 1, 1, 1, 1, 0, 1, 0, 0, 0, 0]
noncomputable def R6_25 : Array Oper := opsAt Try.f6 [1, 1, 1, 1, 1, 1, 1, 1, 1, 0, 1, 0, 0, 1, 0, 0, 0]
noncomputable def R6_26 : Array Oper := opsAt Try.f6 [1, 1, 1, 1, 1, 1, 1, 1, 1, 0, 1, 0, 0, 1, 0, 0, 1, 0, 0]
noncomputable def R6_24 : Array Oper := opsAt Try.f6 [1, 1, 1, 1, 1, 1, 1, 1, 1, 0, 1, 0, 0, 1, 1]
noncomputable def L6_1 : Code := .seq (.seq (.region 23 R6_23 false) (.cond (.tmp 153) .skip (.exit 2))) (.seq (.block 3 (.seq (.region 25 R6_25 true) (.cond (.tmp 186) (.seq (.region 26 R6_26 false) .ret) .skip))) (.region 24 R6_24 false))
theorem lpL6_1 : loops L6_1 = 0 := rfl
noncomputable def R6_27 : Array Oper := opsAt Try.f6 [1, 1, 1, 1, 1, 1, 1, 1, 1, 1, 0]
noncomputable def R6_28 : Array Oper := opsAt Try.f6 [1, 1, 1, 1, 1, 1, 1, 1, 1, 1, 1, 0]
noncomputable def R6_29 : Array Oper := opsAt Try.f6 [1, 1, 1, 1, 1, 1, 1, 1, 1, 1, 1, 1, 0]
noncomputable def R6_30 : Array Oper := opsAt Try.f6 [1, 1, 1, 1, 1, 1, 1, 1, 1, 1, 1, 1, 1, 0]
noncomputable def M6_1 : Code := .seq (.region 27 R6_27 false) (.seq (.region 28 R6_28 false) (.seq (.region 29 R6_29 false) (.seq (.region 30 R6_30 false) .ret)))
theorem lpM6_1 : loops M6_1 = 0 := rfl
noncomputable def M6_0 : Code := .seq (.region 18 R6_18 false) (.seq (.region 19 R6_19 false) (.seq (.seq (.region 20 R6_20 false) (.cond (.tmp 145) (.seq (.region 21 R6_21 false) .ret) .skip)) (.seq (.seq (.region 22 R6_22 false) (.block 2 (.loop L6_1))) M6_1)))
theorem lpM6_0 : loops M6_0 = 1 := rfl
theorem code6 : Try.f6.body = some (.seq (.region 0 R6_0 false) (.seq (.seq (.region 1 R6_1 false) (.cond (.tmp 28) (.seq (.region 2 R6_2 false) .ret) .skip)) (.seq (.region 3 R6_3 false) (.seq (.region 4 R6_4 false) (.seq (.seq (.region 5 R6_5 false) (.seq (.region 6 R6_6 false) (.cond (.tmp 57) (.seq (.region 7 R6_7 false) .ret) .skip))) (.seq (.seq (.region 8 R6_8 false) (.cond (.tmp 62) (.seq (.region 9 R6_9 false) (.seq (.region 10 R6_10 false) (.seq (.seq (.region 11 R6_11 false) (.cond (.tmp 89) (.seq (.region 12 R6_12 false) .ret) .skip)) (.seq (.region 13 R6_13 false) (.block 0 (.loop L6_0)))))) .skip)) M6_0)))))) := by kernel_rfl
noncomputable def R7_0 : Array Oper := opsAt Try.f7 [0]
noncomputable def R7_1 : Array Oper := opsAt Try.f7 [1, 0, 0]
noncomputable def R7_2 : Array Oper := opsAt Try.f7 [1, 0, 1, 0, 0]
noncomputable def R7_3 : Array Oper := opsAt Try.f7 [1, 1, 0]
noncomputable def R7_4 : Array Oper := opsAt Try.f7 [1, 1, 1, 0]
noncomputable def R7_5 : Array Oper := opsAt Try.f7 [1, 1, 1, 1, 0, 0]
noncomputable def R7_6 : Array Oper := opsAt Try.f7 [1, 1, 1, 1, 0, 1, 0]
noncomputable def R7_7 : Array Oper := opsAt Try.f7 [1, 1, 1, 1, 0, 1, 1, 0, 0]
noncomputable def R7_8 : Array Oper := opsAt Try.f7 [1, 1, 1, 1, 1, 0, 0]
noncomputable def R7_9 : Array Oper := opsAt Try.f7 [1, 1, 1, 1, 1, 0, 1, 0, 0]
noncomputable def R7_10 : Array Oper := opsAt Try.f7 [1, 1, 1, 1, 1, 0, 1, 0, 1, 0]
noncomputable def R7_11 : Array Oper := opsAt Try.f7 [1, 1, 1, 1, 1, 0, 1, 0, 1, 1, 0]
noncomputable def R7_12 : Array Oper := opsAt Try.f7 [1, 1, 1, 1, 1, 0, 1, 0, 1, 1, 1, 0, 0]
noncomputable def R7_13 : Array Oper := opsAt Try.f7 [1, 1, 1, 1, 1, 1, 0]
noncomputable def R7_14 : Array Oper := opsAt Try.f7 [1, 1, 1, 1, 1, 1, 1, 0]
noncomputable def R7_15 : Array Oper := opsAt Try.f7 [1, 1, 1, 1, 1, 1, 1, 1, 0, 0]
noncomputable def R7_16 : Array Oper := opsAt Try.f7 [1, 1, 1, 1, 1, 1, 1, 1, 0, 1, 0]
noncomputable def R7_17 : Array Oper := opsAt Try.f7 [1, 1, 1, 1, 1, 1, 1, 1, 0, 1, 1, 0, 0]
noncomputable def R7_18 : Array Oper := opsAt Try.f7 [1, 1, 1, 1, 1, 1, 1, 1, 1, 0, 0]
noncomputable def R7_19 : Array Oper := opsAt Try.f7 [1, 1, 1, 1, 1, 1, 1, 1, 1, 0, 1, 0, 0, 0, 0]
noncomputable def R7_21 : Array Oper := opsAt Try.f7 [1, 1, 1, 1, 1, 1, 1, 1, 1, 0, 1, 0, 0, 1, 0, 0, 0]
noncomputable def R7_22 : Array Oper := opsAt Try.f7 [1, 1, 1, 1, 1, 1, 1, 1, 1, 0, 1, 0, 0, 1, 0, 0, 1, 0, 0]
noncomputable def R7_20 : Array Oper := opsAt Try.f7 [1, 1, 1, 1, 1, 1, 1, 1, 1, 0, 1, 0, 0, 1, 1]
noncomputable def L7_0 : Code := .seq (.seq (.region 19 R7_19 false) (.cond (.tmp 120) .skip (.exit 0))) (.seq (.block 1 (.seq (.region 21 R7_21 true) (.cond (.tmp 154) (.seq (.region 22 R7_22 false) .ret) .skip))) (.region 20 R7_20 false))
theorem lpL7_0 : loops L7_0 = 0 := rfl
noncomputable def R7_23 : Array Oper := opsAt Try.f7 [1, 1, 1, 1, 1, 1, 1, 1, 1, 1, 0]
noncomputable def R7_24 : Array Oper := opsAt Try.f7 [1, 1, 1, 1, 1, 1, 1, 1, 1, 1, 1, 0]
noncomputable def R7_25 : Array Oper := opsAt Try.f7 [1, 1, 1, 1, 1, 1, 1, 1, 1, 1, 1, 1, 0, 0]
noncomputable def R7_26 : Array Oper := opsAt Try.f7 [1, 1, 1, 1, 1, 1, 1, 1, 1, 1, 1, 1, 0, 1, 0]
noncomputable def R7_27 : Array Oper := opsAt Try.f7 [1, 1, 1, 1, 1, 1, 1, 1, 1, 1, 1, 1, 0, 1, 1, 0, 0]
noncomputable def R7_28 : Array Oper := opsAt Try.f7 [1, 1, 1, 1, 1, 1, 1, 1, 1, 1, 1, 1, 1, 0, 0]
noncomputable def R7_29 : Array Oper := opsAt Try.f7 [1, 1, 1, 1, 1, 1, 1, 1, 1, 1, 1, 1, 1, 0, 1, 0, 0]
noncomputable def R7_30 : Array Oper := opsAt Try.f7 [1, 1, 1, 1, 1, 1, 1, 1, 1, 1, 1, 1, 1, 0, 1, 0, 1, 0]
noncomputable def R7_31 : Array Oper := opsAt Try.f7 [1, 1, 1, 1, 1, 1, 1, 1, 1, 1, 1, 1, 1, 0, 1, 0, 1, 1, 0, 0]
noncomputable def R7_32 : Array Oper := opsAt Try.f7 [1, 1, 1, 1, 1, 1, 1, 1, 1, 1, 1, 1, 1, 1, 0]
noncomputable def R7_33 : Array Oper := opsAt Try.f7 [1, 1, 1, 1, 1, 1, 1, 1, 1, 1, 1, 1, 1, 1, 1, 0]
noncomputable def R7_34 : Array Oper := opsAt Try.f7 [1, 1, 1, 1, 1, 1, 1, 1, 1, 1, 1, 1, 1, 1, 1, 1, 0]
noncomputable def R7_35 : Array Oper := opsAt Try.f7 [1, 1, 1, 1, 1, 1, 1, 1, 1, 1, 1, 1, 1, 1, 1, 1, 1, 0]
noncomputable def M7_0 : Code := .seq (.region 23 R7_23 false) (.seq (.region 24 R7_24 false) (.seq (.seq (.region 25 R7_25 false) (.seq (.region 26 R7_26 false) (.cond (.tmp 183) (.seq (.region 27 R7_27 false) .ret) .skip))) (.seq (.seq (.region 28 R7_28 false) (.cond (.tmp 184) (.seq (.region 29 R7_29 false) (.seq (.region 30 R7_30 false) (.cond (.tmp 201) (.seq (.region 31 R7_31 false) .ret) .skip))) .skip)) (.seq (.region 32 R7_32 false) (.seq (.region 33 R7_33 false) (.seq (.region 34 R7_34 false) (.seq (.region 35 R7_35 false) .ret)))))))
theorem lpM7_0 : loops M7_0 = 0 := rfl
theorem code7 : Try.f7.body = some (.seq (.region 0 R7_0 false) (.seq (.seq (.region 1 R7_1 false) (.cond (.tmp 37) (.seq (.region 2 R7_2 false) .ret) .skip)) (.seq (.region 3 R7_3 false) (.seq (.region 4 R7_4 false) (.seq (.seq (.region 5 R7_5 false) (.seq (.region 6 R7_6 false) (.cond (.tmp 63) (.seq (.region 7 R7_7 false) .ret) .skip))) (.seq (.seq (.region 8 R7_8 false) (.cond (.tmp 64) (.seq (.region 9 R7_9 false) (.seq (.region 10 R7_10 false) (.seq (.region 11 R7_11 false) (.cond (.tmp 86) (.seq (.region 12 R7_12 false) .ret) .skip)))) .skip)) (.seq (.region 13 R7_13 false) (.seq (.region 14 R7_14 false) (.seq (.seq (.region 15 R7_15 false) (.seq (.region 16 R7_16 false) (.cond (.tmp 115) (.seq (.region 17 R7_17 false) .ret) .skip))) (.seq (.seq (.region 18 R7_18 false) (.block 0 (.loop L7_0))) M7_0)))))))))) := by kernel_rfl
noncomputable def R8_0 : Array Oper := opsAt Try.f8 [0]
noncomputable def R8_1 : Array Oper := opsAt Try.f8 [1, 0]
noncomputable def R8_2 : Array Oper := opsAt Try.f8 [1, 1, 0]
noncomputable def R8_3 : Array Oper := opsAt Try.f8 [1, 1, 1, 0, 0]
noncomputable def R8_4 : Array Oper := opsAt Try.f8 [1, 1, 1, 0, 1, 0, 0]
noncomputable def R8_5 : Array Oper := opsAt Try.f8 [1, 1, 1, 1, 0]
noncomputable def R8_6 : Array Oper := opsAt Try.f8 [1, 1, 1, 1, 1, 0]
noncomputable def R8_7 : Array Oper := opsAt Try.f8 [1, 1, 1, 1, 1, 1, 0]
noncomputable def R8_8 : Array Oper := opsAt Try.f8 [1, 1, 1, 1, 1, 1, 1, 0, 0]
noncomputable def R8_9 : Array Oper := opsAt Try.f8 [1, 1, 1, 1, 1, 1, 1, 0, 1, 0, 0]
noncomputable def R8_10 : Array Oper := opsAt Try.f8 [1, 1, 1, 1, 1, 1, 1, 1, 0, 0]
noncomputable def R8_11 : Array Oper := opsAt Try.f8 [1, 1, 1, 1, 1, 1, 1, 1, 0, 1, 0, 0]
noncomputable def R8_12 : Array Oper := opsAt Try.f8 [1, 1, 1, 1, 1, 1, 1, 1, 1, 0]
noncomputable def R8_13 : Array Oper := opsAt Try.f8 [1, 1, 1, 1, 1, 1, 1, 1, 1, 1, 0]
noncomputable def R8_14 : Array Oper := opsAt Try.f8 [1, 1, 1, 1, 1, 1, 1, 1, 1, 1, 1, 0, 0]
noncomputable def R8_15 : Array Oper := opsAt Try.f8 [1, 1, 1, 1, 1, 1, 1, 1, 1, 1, 1, 0, 1, 0, 0]
noncomputable def R8_16 : Array Oper := opsAt Try.f8 [1, 1, 1, 1, 1, 1, 1, 1, 1, 1, 1, 1, 0]
noncomputable def R8_17 : Array Oper := opsAt Try.f8 [1, 1, 1, 1, 1, 1, 1, 1, 1, 1, 1, 1, 1, 0]
noncomputable def R8_18 : Array Oper := opsAt Try.f8 [1, 1, 1, 1, 1, 1, 1, 1, 1, 1, 1, 1, 1, 1, 0]
noncomputable def R8_19 : Array Oper := opsAt Try.f8 [1, 1, 1, 1, 1, 1, 1, 1, 1, 1, 1, 1, 1, 1, 1, 0]
noncomputable def R8_20 : Array Oper := opsAt Try.f8 [1, 1, 1, 1, 1, 1, 1, 1, 1, 1, 1, 1, 1, 1, 1, 1, 0, 0]
noncomputable def R8_21 : Array Oper := opsAt Try.f8 [1, 1, 1, 1, 1, 1, 1, 1, 1, 1, 1, 1, 1, 1, 1, 1, 0, 1, 0, 0]
noncomputable def R8_22 : Array Oper := opsAt Try.f8 [1, 1, 1, 1, 1, 1, 1, 1, 1, 1, 1, 1, 1, 1, 1, 1, 1, 0, 0]
noncomputable def R8_23 : Array Oper := opsAt Try.f8 [1, 1, 1, 1, 1, 1, 1, 1, 1, 1, 1, 1, 1, 1, 1, 1, 1, 0, 1, 0, 0]
noncomputable def R8_24 : Array Oper := opsAt Try.f8 [1, 1, 1, 1, 1, 1, 1, 1, 1, 1, 1, 1, 1, 1, 1, 1, 1, 1, 0]
noncomputable def R8_25 : Array Oper := opsAt Try.f8 [1, 1, 1, 1, 1, 1, 1, 1, 1, 1, 1, 1, 1, 1, 1, 1, 1, 1, 1, 0, 0]
noncomputable def R8_26 : Array Oper := opsAt Try.f8 [1, 1, 1, 1, 1, 1, 1, 1, 1, 1, 1, 1, 1, 1, 1, 1, 1, 1, 1, 0, 1, 0, 0]
noncomputable def R8_27 : Array Oper := opsAt Try.f8 [1, 1, 1, 1, 1, 1, 1, 1, 1, 1, 1, 1, 1, 1, 1, 1, 1, 1, 1, 1, 0]
noncomputable def R8_28 : Array Oper := opsAt Try.f8 [1, 1, 1, 1, 1, 1, 1, 1, 1, 1, 1, 1, 1, 1, 1, 1, 1, 1, 1, 1, 1, 0]
noncomputable def R8_29 : Array Oper := opsAt Try.f8 [1, 1, 1, 1, 1, 1, 1, 1, 1, 1, 1, 1, 1, 1, 1, 1, 1, 1, 1, 1, 1, 1, 0, 0]
noncomputable def R8_30 : Array Oper := opsAt Try.f8 [1, 1, 1, 1, 1, 1, 1, 1, 1, 1, 1, 1, 1, 1, 1, 1, 1, 1, 1, 1, 1, 1, 0, 1, 0, 0]
noncomputable def R8_31 : Array Oper := opsAt Try.f8 [1, 1, 1, 1, 1, 1, 1, 1, 1, 1, 1, 1, 1, 1, 1, 1, 1, 1, 1, 1, 1, 1, 1, 0, 0]
noncomputable def R8_32 : Array Oper := opsAt Try.f8 [1, 1, 1, 1, 1, 1, 1, 1, 1, 1, 1, 1, 1, 1, 1, 1, 1, 1, 1, 1, 1, 1, 1, 0, 1, 0, 0]
noncomputable def R8_33 : Array Oper := opsAt Try.f8 [1, 1, 1, 1, 1, 1, 1, 1, 1, 1, 1, 1, 1, 1, 1, 1, 1, 1, 1, 1, 1, 1, 1, 1, 0]
theorem code8 : Try.f8.body = some (.seq (.region 0 R8_0 false) (.seq (.region 1 R8_1 false) (.seq (.region 2 R8_2 false) (.seq (.seq (.region 3 R8_3 false) (.cond (.tmp 18) (.seq (.region 4 R8_4 false) .ret) .skip)) (.seq (.region 5 R8_5 false) (.seq (.region 6 R8_6 false) (.seq (.region 7 R8_7 false) (.seq (.seq (.region 8 R8_8 false) (.cond (.tmp 40) (.seq (.region 9 R8_9 false) .ret) .skip)) (.seq (.seq (.region 10 R8_10 false) (.cond (.tmp 45) (.seq (.region 11 R8_11 false) .ret) .skip)) (.seq (.region 12 R8_12 false) (.seq (.region 13 R8_13 false) (.seq (.seq (.region 14 R8_14 false) (.cond (.tmp 61) (.seq (.region 15 R8_15 false) .ret) .skip)) (.seq (.region 16 R8_16 false) (.seq (.region 17 R8_17 false) (.seq (.region 18 R8_18 false) (.seq (.region 19 R8_19 false) (.seq (.seq (.region 20 R8_20 false) (.cond (.tmp 69) (.seq (.region 21 R8_21 false) .ret) .skip)) (.seq (.seq (.region 22 R8_22 false) (.cond (.tmp 72) (.seq (.region 23 R8_23 false) .ret) .skip)) (.seq (.region 24 R8_24 false) (.seq (.seq (.region 25 R8_25 false) (.cond (.tmp 87) (.seq (.region 26 R8_26 false) .ret) .skip)) (.seq (.region 27 R8_27 false) (.seq (.region 28 R8_28 false) (.seq (.seq (.region 29 R8_29 false) (.cond (.tmp 92) (.seq (.region 30 R8_30 false) .ret) .skip)) (.seq (.seq (.region 31 R8_31 false) (.cond (.tmp 95) (.seq (.region 32 R8_32 false) .ret) .skip)) (.seq (.region 33 R8_33 false) .ret))))))))))))))))))))))))) := by kernel_rfl
noncomputable def R9_0 : Array Oper := opsAt Try.f9 [0]
noncomputable def R9_1 : Array Oper := opsAt Try.f9 [1, 0]
noncomputable def R9_2 : Array Oper := opsAt Try.f9 [1, 1, 0]
noncomputable def R9_3 : Array Oper := opsAt Try.f9 [1, 1, 1, 0, 0]
noncomputable def R9_4 : Array Oper := opsAt Try.f9 [1, 1, 1, 0, 1, 0, 0]
noncomputable def R9_5 : Array Oper := opsAt Try.f9 [1, 1, 1, 1, 0]
noncomputable def R9_6 : Array Oper := opsAt Try.f9 [1, 1, 1, 1, 1, 0]
noncomputable def R9_7 : Array Oper := opsAt Try.f9 [1, 1, 1, 1, 1, 1, 0]
noncomputable def R9_8 : Array Oper := opsAt Try.f9 [1, 1, 1, 1, 1, 1, 1, 0, 0]
noncomputable def R9_9 : Array Oper := opsAt Try.f9 [1, 1, 1, 1, 1, 1, 1, 0, 1, 0, 0]
noncomputable def R9_10 : Array Oper := opsAt Try.f9 [1, 1, 1, 1, 1, 1, 1, 1, 0, 0]
noncomputable def R9_11 : Array Oper := opsAt Try.f9 [1, 1, 1, 1, 1, 1, 1, 1, 0, 1, 0, 0]
noncomputable def R9_12 : Array Oper := opsAt Try.f9 [1, 1, 1, 1, 1, 1, 1, 1, 1, 0]
noncomputable def R9_13 : Array Oper := opsAt Try.f9 [1, 1, 1, 1, 1, 1, 1, 1, 1, 1, 0]
noncomputable def R9_14 : Array Oper := opsAt Try.f9 [1, 1, 1, 1, 1, 1, 1, 1, 1, 1, 1, 0, 0]
noncomputable def R9_15 : Array Oper := opsAt Try.f9 [1, 1, 1, 1, 1, 1, 1, 1, 1, 1, 1, 0, 1, 0, 0]
noncomputable def R9_16 : Array Oper := opsAt Try.f9 [1, 1, 1, 1, 1, 1, 1, 1, 1, 1, 1, 1, 0]
noncomputable def R9_17 : Array Oper := opsAt Try.f9 [1, 1, 1, 1, 1, 1, 1, 1, 1, 1, 1, 1, 1, 0]
noncomputable def R9_18 : Array Oper := opsAt Try.f9 [1, 1, 1, 1, 1, 1, 1, 1, 1, 1, 1, 1, 1, 1, 0]
noncomputable def R9_19 : Array Oper := opsAt Try.f9 [1, 1, 1, 1, 1, 1, 1, 1, 1, 1, 1, 1, 1, 1, 1, 0]
noncomputable def R9_20 : Array Oper := opsAt Try.f9 [1, 1, 1, 1, 1, 1, 1, 1, 1, 1, 1, 1, 1, 1, 1, 1, 0, 0]
noncomputable def R9_21 : Array Oper := opsAt Try.f9 [1, 1, 1, 1, 1, 1, 1, 1, 1, 1, 1, 1, 1, 1, 1, 1, 0, 1, 0, 0]
noncomputable def R9_22 : Array Oper := opsAt Try.f9 [1, 1, 1, 1, 1, 1, 1, 1, 1, 1, 1, 1, 1, 1, 1, 1, 1, 0, 0]
noncomputable def R9_23 : Array Oper := opsAt Try.f9 [1, 1, 1, 1, 1, 1, 1, 1, 1, 1, 1, 1, 1, 1, 1, 1, 1, 0, 1, 0, 0]
noncomputable def R9_24 : Array Oper := opsAt Try.f9 [1, 1, 1, 1, 1, 1, 1, 1, 1, 1, 1, 1, 1, 1, 1, 1, 1, 1, 0]
noncomputable def R9_25 : Array Oper := opsAt Try.f9 [1, 1, 1, 1, 1, 1, 1, 1, 1, 1, 1, 1, 1, 1, 1, 1, 1, 1, 1, 0, 0]
noncomputable def R9_26 : Array Oper := opsAt Try.f9 [1, 1, 1, 1, 1, 1, 1, 1, 1, 1, 1, 1, 1, 1, 1, 1, 1, 1, 1, 0, 1, 0, 0]
noncomputable def R9_27 : Array Oper := opsAt Try.f9 [1, 1, 1, 1, 1, 1, 1, 1, 1, 1, 1, 1, 1, 1, 1, 1, 1, 1, 1, 1, 0]
noncomputable def R9_28 : Array Oper := opsAt Try.f9 [1, 1, 1, 1, 1, 1, 1, 1, 1, 1, 1, 1, 1, 1, 1, 1, 1, 1, 1, 1, 1, 0]
noncomputable def R9_29 : Array Oper := opsAt Try.f9 [1, 1, 1, 1, 1, 1, 1, 1, 1, 1, 1, 1, 1, 1, 1, 1, 1, 1, 1, 1, 1, 1, 0, 0]
noncomputable def R9_30 : Array Oper := opsAt Try.f9 [1, 1, 1, 1, 1, 1, 1, 1, 1, 1, 1, 1, 1, 1, 1, 1, 1, 1, 1, 1, 1, 1, 0, 1, 0, 0]
noncomputable def R9_31 : Array Oper := opsAt Try.f9 [1, 1, 1, 1, 1, 1, 1, 1, 1, 1, 1, 1, 1, 1, 1, 1, 1, 1, 1, 1, 1, 1, 1, 0, 0]
noncomputable def R9_32 : Array Oper := opsAt Try.f9 [1, 1, 1, 1, 1, 1, 1, 1, 1, 1, 1, 1, 1, 1, 1, 1, 1, 1, 1, 1, 1, 1, 1, 0, 1, 0, 0]
noncomputable def R9_33 : Array Oper := opsAt Try.f9 [1, 1, 1, 1, 1, 1, 1, 1, 1, 1, 1, 1, 1, 1, 1, 1, 1, 1, 1, 1, 1, 1, 1, 1, 0]
theorem code9 : Try.f9.body = some (.seq (.region 0 R9_0 false) (.seq (.region 1 R9_1 false) (.seq (.region 2 R9_2 false) (.seq (.seq (.region 3 R9_3 false) (.cond (.tmp 18) (.seq (.region 4 R9_4 false) .ret) .skip)) (.seq (.region 5 R9_5 false) (.seq (.region 6 R9_6 false) (.seq (.region 7 R9_7 false) (.seq (.seq (.region 8 R9_8 false) (.cond (.tmp 40) (.seq (.region 9 R9_9 false) .ret) .skip)) (.seq (.seq (.region 10 R9_10 false) (.cond (.tmp 45) (.seq (.region 11 R9_11 false) .ret) .skip)) (.seq (.region 12 R9_12 false) (.seq (.region 13 R9_13 false) (.seq (.seq (.region 14 R9_14 false) (.cond (.tmp 61) (.seq (.region 15 R9_15 false) .ret) .skip)) (.seq (.region 16 R9_16 false) (.seq (.region 17 R9_17 false) (.seq (.region 18 R9_18 false) (.seq (.region 19 R9_19 false) (.seq (.seq (.region 20 R9_20 false) (.cond (.tmp 69) (.seq (.region 21 R9_21 false) .ret) .skip)) (.seq (.seq (.region 22 R9_22 false) (.cond (.tmp 72) (.seq (.region 23 R9_23 false) .ret) .skip)) (.seq (.region 24 R9_24 false) (.seq (.seq (.region 25 R9_25 false) (.cond (.tmp 87) (.seq (.region 26 R9_26 false) .ret) .skip)) (.seq (.region 27 R9_27 false) (.seq (.region 28 R9_28 false) (.seq (.seq (.region 29 R9_29 false) (.cond (.tmp 92) (.seq (.region 30 R9_30 false) .ret) .skip)) (.seq (.seq (.region 31 R9_31 false) (.cond (.tmp 95) (.seq (.region 32 R9_32 false) .ret) .skip)) (.seq (.region 33 R9_33 false) .ret))))))))))))))))))))))))) := by kernel_rfl
noncomputable def R10_0 : Array Oper := opsAt Try.f10 [0]
noncomputable def R10_1 : Array Oper := opsAt Try.f10 [1, 0]
noncomputable def R10_2 : Array Oper := opsAt Try.f10 [1, 1, 0]
noncomputable def R10_3 : Array Oper := opsAt Try.f10 [1, 1, 1, 0, 0]
noncomputable def R10_4 : Array Oper := opsAt Try.f10 [1, 1, 1, 0, 1, 0, 0]
noncomputable def R10_5 : Array Oper := opsAt Try.f10 [1, 1, 1, 1, 0]
noncomputable def R10_6 : Array Oper := opsAt Try.f10 [1, 1, 1, 1, 1, 0, 0]
noncomputable def R10_7 : Array Oper := opsAt Try.f10 [1, 1, 1, 1, 1, 0, 1, 0, 0]
noncomputable def R10_8 : Array Oper := opsAt Try.f10 [1, 1, 1, 1, 1, 1, 0]
noncomputable def R10_9 : Array Oper := opsAt Try.f10 [1, 1, 1, 1, 1, 1, 1, 0]
noncomputable def R10_10 : Array Oper := opsAt Try.f10 [1, 1, 1, 1, 1, 1, 1, 1, 0]
noncomputable def R10_11 : Array Oper := opsAt Try.f10 [1, 1, 1, 1, 1, 1, 1, 1, 1, 0]
noncomputable def R10_12 : Array Oper := opsAt Try.f10 [1, 1, 1, 1, 1, 1, 1, 1, 1, 1, 0, 0]
noncomputable def R10_13 : Array Oper := opsAt Try.f10 [1, 1, 1, 1, 1, 1, 1, 1, 1, 1, 0, 1, 0, 0]
noncomputable def R10_14 : Array Oper := opsAt Try.f10 [1, 1, 1, 1, 1, 1, 1, 1, 1, 1, 1, 0, 0]
noncomputable def R10_15 : Array Oper := opsAt Try.f10 [1, 1, 1, 1, 1, 1, 1, 1, 1, 1, 1, 0, 1, 0, 0]
noncomputable def R10_16 : Array Oper := opsAt Try.f10 [1, 1, 1, 1, 1, 1, 1, 1, 1, 1, 1, 1, 0, 0]
noncomputable def R10_17 : Array Oper := opsAt Try.f10 [1, 1, 1, 1, 1, 1, 1, 1, 1, 1, 1, 1, 0, 1, 0, 0]
noncomputable def R10_18 : Array Oper := opsAt Try.f10 [1, 1, 1, 1, 1, 1, 1, 1, 1, 1, 1, 1, 1, 0]
noncomputable def R10_19 : Array Oper := opsAt Try.f10 [1, 1, 1, 1, 1, 1, 1, 1, 1, 1, 1, 1, 1, 1, 0]
noncomputable def R10_20 : Array Oper := opsAt Try.f10 [1, 1, 1, 1, 1, 1, 1, 1, 1, 1, 1, 1, 1, 1, 1, 0]
noncomputable def R10_21 : Array Oper := opsAt Try.f10 [1, 1, 1, 1, 1, 1, 1, 1, 1, 1, 1, 1, 1, 1, 1, 1, 0, 0]
noncomputable def R10_22 : Array Oper := opsAt Try.f10 [1, 1, 1, 1, 1, 1, 1, 1, 1, 1, 1, 1, 1, 1, 1, 1, 0, 1, 0, 0]
noncomputable def R10_23 : Array Oper := opsAt Try.f10 [1, 1, 1, 1, 1, 1, 1, 1, 1, 1, 1, 1, 1, 1, 1, 1, 1, 0]
noncomputable def R10_24 : Array Oper := opsAt Try.f10 [1, 1, 1, 1, 1, 1, 1, 1, 1, 1, 1, 1, 1, 1, 1, 1, 1, 1, 0]
noncomputable def R10_25 : Array Oper := opsAt Try.f10 [1, 1, 1, 1, 1, 1, 1, 1, 1, 1, 1, 1, 1, 1, 1, 1, 1, 1, 1, 0]
noncomputable def R10_26 : Array Oper := opsAt Try.f10 [1, 1, 1, 1, 1, 1, 1, 1, 1, 1, 1, 1, 1, 1, 1, 1, 1, 1, 1, 1, 0]
noncomputable def R10_27 : Array Oper := opsAt Try.f10 [1, 1, 1, 1, 1, 1, 1, 1, 1, 1, 1, 1, 1, 1, 1, 1, 1, 1, 1, 1, 1, 0, 0]
noncomputable def R10_28 : Array Oper := opsAt Try.f10 [1, 1, 1, 1, 1, 1, 1, 1, 1, 1, 1, 1, 1, 1, 1, 1, 1, 1, 1, 1, 1, 0, 1, 0, 0]
noncomputable def R10_29 : Array Oper := opsAt Try.f10 [1, 1, 1, 1, 1, 1, 1, 1, 1, 1, 1, 1, 1, 1, 1, 1, 1, 1, 1, 1, 1, 1, 0, 0]
noncomputable def R10_30 : Array Oper := opsAt Try.f10 [1, 1, 1, 1, 1, 1, 1, 1, 1, 1, 1, 1, 1, 1, 1, 1, 1, 1, 1, 1, 1, 1, 0, 1, 0, 0]
noncomputable def R10_31 : Array Oper := opsAt Try.f10 [1, 1, 1, 1, 1, 1, 1, 1, 1, 1, 1, 1, 1, 1, 1, 1, 1, 1, 1, 1, 1, 1, 1, 0]
noncomputable def R10_32 : Array Oper := opsAt Try.f10 [1, 1, 1, 1, 1, 1, 1, 1, 1, 1, 1, 1, 1, 1, 1, 1, 1, 1, 1, 1, 1, 1, 1, 1, 0, 0]
noncomputable def R10_33 : Array Oper := opsAt Try.f10 [1, 1, 1, 1, 1, 1, 1, 1, 1, 1, 1, 1, 1, 1, 1, 1, 1, 1, 1, 1, 1, 1, 1, 1, 0, 1, 0, 0]
noncomputable def R10_34 : Array Oper := opsAt Try.f10 [1, 1, 1, 1, 1, 1, 1, 1, 1, 1, 1, 1, 1, 1, 1, 1, 1, 1, 1, 1, 1, 1, 1, 1, 1, 0]
noncomputable def R10_35 : Array Oper := opsAt Try.f10 [1, 1, 1, 1, 1, 1, 1, 1, 1, 1, 1, 1, 1, 1, 1, 1, 1, 1, 1, 1, 1, 1, 1, 1, 1, 1, 0]
noncomputable def R10_36 : Array Oper := opsAt Try.f10 [1, 1, 1, 1, 1, 1, 1, 1, 1, 1, 1, 1, 1, 1, 1, 1, 1, 1, 1, 1, 1, 1, 1, 1, 1, 1, 1, 0, 0]
noncomputable def R10_37 : Array Oper := opsAt Try.f10 [1, 1, 1, 1, 1, 1, 1, 1, 1, 1, 1, 1, 1, 1, 1, 1, 1, 1, 1, 1, 1, 1, 1, 1, 1, 1, 1, 0, 1, 0, 0]
noncomputable def R10_38 : Array Oper := opsAt Try.f10 [1, 1, 1, 1, 1, 1, 1, 1, 1, 1, 1, 1, 1, 1, 1, 1, 1, 1, 1, 1, 1, 1, 1, 1, 1, 1, 1, 1, 0, 0]
noncomputable def R10_39 : Array Oper := opsAt Try.f10 [1, 1, 1, 1, 1, 1, 1, 1, 1, 1, 1, 1, 1, 1, 1, 1, 1, 1, 1, 1, 1, 1, 1, 1, 1, 1, 1, 1, 0, 1, 0, 0]
noncomputable def R10_40 : Array Oper := opsAt Try.f10 [1, 1, 1, 1, 1, 1, 1, 1, 1, 1, 1, 1, 1, 1, 1, 1, 1, 1, 1, 1, 1, 1, 1, 1, 1, 1, 1, 1, 1, 0]
theorem code10 : Try.f10.body = some (.seq (.region 0 R10_0 false) (.seq (.region 1 R10_1 false) (.seq (.region 2 R10_2 false) (.seq (.seq (.region 3 R10_3 false) (.cond (.tmp 21) (.seq (.region 4 R10_4 false) .ret) .skip)) (.seq (.region 5 R10_5 false) (.seq (.seq (.region 6 R10_6 false) (.cond (.tmp 26) (.seq (.region 7 R10_7 false) .ret) .skip)) (.seq (.region 8 R10_8 false) (.seq (.region 9 R10_9 false) (.seq (.region 10 R10_10 false) (.seq (.region 11 R10_11 false) (.seq (.seq (.region 12 R10_12 false) (.cond (.tmp 53) (.seq (.region 13 R10_13 false) .ret) .skip)) (.seq (.seq (.region 14 R10_14 false) (.cond (.tmp 58) (.seq (.region 15 R10_15 false) .ret) .skip)) (.seq (.seq (.region 16 R10_16 false) (.cond (.tmp 63) (.seq (.region 17 R10_17 false) .ret) .skip)) (.seq (.region 18 R10_18 false) (.seq (.region 19 R10_19 false) (.seq (.region 20 R10_20 false) (.seq (.seq (.region 21 R10_21 false) (.cond (.tmp 82) (.seq (.region 22 R10_22 false) .ret) .skip)) (.seq (.region 23 R10_23 false) (.seq (.region 24 R10_24 false) (.seq (.region 25 R10_25 false) (.seq (.region 26 R10_26 false) (.seq (.seq (.region 27 R10_27 false) (.cond (.tmp 90) (.seq (.region 28 R10_28 false) .ret) .skip)) (.seq (.seq (.region 29 R10_29 false) (.cond (.tmp 93) (.seq (.region 30 R10_30 false) .ret) .skip)) (.seq (.region 31 R10_31 false) (.seq (.seq (.region 32 R10_32 false) (.cond (.tmp 110) (.seq (.region 33 R10_33 false) .ret) .skip)) (.seq (.region 34 R10_34 false) (.seq (.region 35 R10_35 false) (.seq (.seq (.region 36 R10_36 false) (.cond (.tmp 115) (.seq (.region 37 R10_37 false) .ret) .skip)) (.seq (.seq (.region 38 R10_38 false) (.cond (.tmp 118) (.seq (.region 39 R10_39 false) .ret) .skip)) (.seq (.region 40 R10_40 false) .ret)))))))))))))))))))))))))))))) := by kernel_rfl
noncomputable def R11_0 : Array Oper := opsAt Try.f11 [0]
noncomputable def R11_1 : Array Oper := opsAt Try.f11 [1, 0, 0]
noncomputable def R11_2 : Array Oper := opsAt Try.f11 [1, 0, 1, 0, 0]
noncomputable def R11_3 : Array Oper := opsAt Try.f11 [1, 1, 0]
noncomputable def R11_4 : Array Oper := opsAt Try.f11 [1, 1, 1, 0]
noncomputable def R11_5 : Array Oper := opsAt Try.f11 [1, 1, 1, 1, 0, 0]
noncomputable def R11_6 : Array Oper := opsAt Try.f11 [1, 1, 1, 1, 0, 1, 0]
noncomputable def R11_7 : Array Oper := opsAt Try.f11 [1, 1, 1, 1, 0, 1, 1, 0, 0]
noncomputable def R11_8 : Array Oper := opsAt Try.f11 [1, 1, 1, 1, 1, 0]
noncomputable def R11_9 : Array Oper := opsAt Try.f11 [1, 1, 1, 1, 1, 1, 0, 0]
noncomputable def R11_10 : Array Oper := opsAt Try.f11 [1, 1, 1, 1, 1, 1, 0, 1, 0]
noncomputable def R11_11 : Array Oper := opsAt Try.f11 [1, 1, 1, 1, 1, 1, 0, 1, 1, 0, 0]
noncomputable def R11_12 : Array Oper := opsAt Try.f11 [1, 1, 1, 1, 1, 1, 1, 0, 0]
noncomputable def R11_13 : Array Oper := opsAt Try.f11 [1, 1, 1, 1, 1, 1, 1, 0, 1, 0, 0]
noncomputable def R11_14 : Array Oper := opsAt Try.f11 [1, 1, 1, 1, 1, 1, 1, 1, 0]
noncomputable def R11_15 : Array Oper := opsAt Try.f11 [1, 1, 1, 1, 1, 1, 1, 1, 1, 0]
noncomputable def R11_16 : Array Oper := opsAt Try.f11 [1, 1, 1, 1, 1, 1, 1, 1, 1, 1, 0]
noncomputable def R11_17 : Array Oper := opsAt Try.f11 [1, 1, 1, 1, 1, 1, 1, 1, 1, 1, 1, 0]
noncomputable def R11_18 : Array Oper := opsAt Try.f11 [1, 1, 1, 1, 1, 1, 1, 1, 1, 1, 1, 1, 0, 0]
noncomputable def R11_19 : Array Oper := opsAt Try.f11 [1, 1, 1, 1, 1, 1, 1, 1, 1, 1, 1, 1, 0, 1, 0, 0]
noncomputable def R11_20 : Array Oper := opsAt Try.f11 [1, 1, 1, 1, 1, 1, 1, 1, 1, 1, 1, 1, 1, 0, 0]
noncomputable def R11_21 : Array Oper := opsAt Try.f11 [1, 1, 1, 1, 1, 1, 1, 1, 1, 1, 1, 1, 1, 0, 1, 0, 0, 0, 0]
noncomputable def R11_23 : Array Oper := opsAt Try.f11 [1, 1, 1, 1, 1, 1, 1, 1, 1, 1, 1, 1, 1, 0, 1, 0, 0, 1, 0, 0, 0]
noncomputable def R11_24 : Array Oper := opsAt Try.f11 [1, 1, 1, 1, 1, 1, 1, 1, 1, 1, 1, 1, 1, 0, 1, 0, 0, 1, 0, 0, 1, 0]
noncomputable def R11_25 : Array Oper := opsAt Try.f11 [1, 1, 1, 1, 1, 1, 1, 1, 1, 1, 1, 1, 1, 0, 1, 0, 0, 1, 0, 0, 1, 1, 0, 0]
noncomputable def R11_22 : Array Oper := opsAt Try.f11 [1, 1, 1, 1, 1, 1, 1, 1, 1, 1, 1, 1, 1, 0, 1, 0, 0, 1, 1]
noncomputable def L11_0 : Code := .seq (.seq (.region 21 R11_21 false) (.cond (.tmp 118) .skip (.exit 0))) (.seq (.block 1 (.seq (.region 23 R11_23 false) (.seq (.region 24 R11_24 false) (.cond (.tmp 143) (.seq (.region 25 R11_25 false) .ret) .skip)))) (.region 22 R11_22 false))
theorem lpL11_0 : loops L11_0 = 0 := rfl
noncomputable def R11_26 : Array Oper := opsAt Try.f11 [1, 1, 1, 1, 1, 1, 1, 1, 1, 1, 1, 1, 1, 1, 0]
noncomputable def M11_0 : Code := .seq (.region 26 R11_26 false) .ret
theorem lpM11_0 : loops M11_0 = 0 := rfl
theorem code11 : Try.f11.body = some (.seq (.region 0 R11_0 false) (.seq (.seq (.region 1 R11_1 false) (.cond (.tmp 25) (.seq (.region 2 R11_2 false) .ret) .skip)) (.seq (.region 3 R11_3 false) (.seq (.region 4 R11_4 false) (.seq (.seq (.region 5 R11_5 false) (.seq (.region 6 R11_6 false) (.cond (.tmp 54) (.seq (.region 7 R11_7 false) .ret) .skip))) (.seq (.region 8 R11_8 false) (.seq (.seq (.region 9 R11_9 false) (.seq (.region 10 R11_10 false) (.cond (.tmp 72) (.seq (.region 11 R11_11 false) .ret) .skip))) (.seq (.seq (.region 12 R11_12 false) (.cond (.tmp 74) (.seq (.region 13 R11_13 false) .ret) .skip)) (.seq (.region 14 R11_14 false) (.seq (.region 15 R11_15 false) (.seq (.region 16 R11_16 false) (.seq (.region 17 R11_17 false) (.seq (.seq (.region 18 R11_18 false) (.cond (.tmp 116) (.seq (.region 19 R11_19 false) .ret) .skip)) (.seq (.seq (.region 20 R11_20 false) (.block 0 (.loop L11_0))) M11_0)))))))))))))) := by kernel_rfl
noncomputable def R12_0 : Array Oper := opsAt Try.f12 [0]
noncomputable def R12_1 : Array Oper := opsAt Try.f12 [1, 0]
noncomputable def R12_2 : Array Oper := opsAt Try.f12 [1, 1, 0, 0]
noncomputable def R12_3 : Array Oper := opsAt Try.f12 [1, 1, 0, 1, 0, 0]
noncomputable def R12_4 : Array Oper := opsAt Try.f12 [1, 1, 1, 0]
theorem code12 : Try.f12.body = some (.seq (.region 0 R12_0 false) (.seq (.region 1 R12_1 false) (.seq (.seq (.region 2 R12_2 false) (.cond (.tmp 10) (.seq (.region 3 R12_3 false) .ret) .skip)) (.seq (.region 4 R12_4 false) .ret)))) := by kernel_rfl
noncomputable def R13_0 : Array Oper := opsAt Try.f13 [0]
noncomputable def R13_1 : Array Oper := opsAt Try.f13 [1, 0]
noncomputable def R13_2 : Array Oper := opsAt Try.f13 [1, 1, 0, 0]
noncomputable def R13_3 : Array Oper := opsAt Try.f13 [1, 1, 0, 1, 0, 0]
noncomputable def R13_4 : Array Oper := opsAt Try.f13 [1, 1, 1, 0, 0]
noncomputable def R13_5 : Array Oper := opsAt Try.f13 [1, 1, 1, 0, 1, 0, 0, 0, 0]
noncomputable def R13_7 : Array Oper := opsAt Try.f13 [1, 1, 1, 0, 1, 0, 0, 1, 0, 0, 0]
noncomputable def R13_8 : Array Oper := opsAt Try.f13 [1, 1, 1, 0, 1, 0, 0, 1, 0, 0, 1, 0, 0, 0, 0]
noncomputable def R13_10 : Array Oper := opsAt Try.f13 [1, 1, 1, 0, 1, 0, 0, 1, 0, 0, 1, 0, 0, 1, 0, 0, 0]
noncomputable def R13_11 : Array Oper := opsAt Try.f13 [1, 1, 1, 0, 1, 0, 0, 1, 0, 0, 1, 0, 0, 1, 0, 0, 1, 0]
noncomputable def R13_12 : Array Oper := opsAt Try.f13 [1, 1, 1, 0, 1, 0, 0, 1, 0, 0, 1, 0, 0, 1, 0, 0, 1, 1, 0]
noncomputable def R13_13 : Array Oper := opsAt Try.f13 [1, 1, 1, 0, 1, 0, 0, 1, 0, 0, 1, 0, 0, 1, 0, 0, 1, 1, 1, 0]
noncomputable def R13_9 : Array Oper := opsAt Try.f13 [1, 1, 1, 0, 1, 0, 0, 1, 0, 0, 1, 0, 0, 1, 1]
noncomputable def L13_1 : Code := .seq (.seq (.region 8 R13_8 false) (.cond (.tmp 30) .skip (.exit 2))) (.seq (.block 3 (.seq (.region 10 R13_10 false) (.seq (.region 11 R13_11 false) (.seq (.region 12 R13_12 false) (.cond (.tmp 68) (.region 13 R13_13 false) .skip))))) (.region 9 R13_9 false))
theorem lpL13_1 : loops L13_1 = 0 := rfl
noncomputable def R13_6 : Array Oper := opsAt Try.f13 [1, 1, 1, 0, 1, 0, 0, 1, 1]
noncomputable def M13_0 : Code := .region 6 R13_6 false
theorem lpM13_0 : loops M13_0 = 0 := rfl
noncomputable def L13_0 : Code := .seq (.seq (.region 5 R13_5 false) (.cond (.tmp 24) .skip (.exit 0))) (.seq (.block 1 (.seq (.region 7 R13_7 false) (.block 2 (.loop L13_1)))) M13_0)
theorem lpL13_0 : loops L13_0 = 1 := rfl
noncomputable def R13_14 : Array Oper := opsAt Try.f13 [1, 1, 1, 1, 0]
noncomputable def M13_1 : Code := .seq (.region 14 R13_14 false) .ret
theorem lpM13_1 : loops M13_1 = 0 := rfl
theorem code13 : Try.f13.body = some (.seq (.region 0 R13_0 false) (.seq (.region 1 R13_1 false) (.seq (.seq (.region 2 R13_2 false) (.cond (.tmp 19) (.seq (.region 3 R13_3 false) .ret) .skip)) (.seq (.seq (.region 4 R13_4 false) (.block 0 (.loop L13_0))) M13_1)))) := by kernel_rfl
noncomputable def R14_0 : Array Oper := opsAt Try.f14 [0]
noncomputable def R14_1 : Array Oper := opsAt Try.f14 [1, 0]
noncomputable def R14_2 : Array Oper := opsAt Try.f14 [1, 1, 0]
noncomputable def R14_3 : Array Oper := opsAt Try.f14 [1, 1, 1, 0]
noncomputable def R14_4 : Array Oper := opsAt Try.f14 [1, 1, 1, 1, 0]
noncomputable def R14_5 : Array Oper := opsAt Try.f14 [1, 1, 1, 1, 1, 0]
theorem code14 : Try.f14.body = some (.seq (.region 0 R14_0 false) (.seq (.region 1 R14_1 false) (.seq (.region 2 R14_2 false) (.seq (.region 3 R14_3 false) (.seq (.region 4 R14_4 false) (.seq (.region 5 R14_5 false) .ret)))))) := by kernel_rfl
noncomputable def R15_0 : Array Oper := opsAt Try.f15 [0]
noncomputable def R15_1 : Array Oper := opsAt Try.f15 [1, 0, 0]
noncomputable def R15_2 : Array Oper := opsAt Try.f15 [1, 0, 1, 0, 0]
noncomputable def R15_3 : Array Oper := opsAt Try.f15 [1, 1, 0]
noncomputable def R15_4 : Array Oper := opsAt Try.f15 [1, 1, 1, 0, 0]
noncomputable def R15_5 : Array Oper := opsAt Try.f15 [1, 1, 1, 0, 1, 0, 0, 0]
noncomputable def R15_6 : Array Oper := opsAt Try.f15 [1, 1, 1, 0, 1, 0, 0, 1, 1, 0, 0, 0]
noncomputable def R15_7 : Array Oper := opsAt Try.f15 [1, 1, 1, 0, 1, 0, 0, 1, 1, 0, 0, 1, 0]
noncomputable def R15_8 : Array Oper := opsAt Try.f15 [1, 1, 1, 0, 1, 0, 0, 1, 1, 0, 0, 1, 1, 0]
noncomputable def R15_9 : Array Oper := opsAt Try.f15 [1, 1, 1, 0, 1, 0, 0, 1, 1, 0, 0, 1, 1, 1, 0, 0]
noncomputable def R15_10 : Array Oper := opsAt Try.f15 [1, 1, 1, 0, 1, 0, 0, 1, 1, 0, 0, 1, 1, 1, 0, 1, 0, 0, 0]
noncomputable def R15_11 : Array Oper := opsAt Try.f15 [1, 1, 1, 0, 1, 0, 0, 1, 1, 0, 0, 1, 1, 1, 0, 1, 0, 0, 1, 1, 0, 0, 0]
noncomputable def R15_12 : Array Oper := opsAt Try.f15 [1, 1, 1, 0, 1, 0, 0, 1, 1, 0, 0, 1, 1, 1, 0, 1, 0, 0, 1, 1, 0, 0, 1, 0]
noncomputable def R15_13 : Array Oper := opsAt Try.f15 [1, 1, 1, 0, 1, 0, 0, 1, 1, 0, 0, 1, 1, 1, 0, 1, 0, 0, 1, 1, 0, 0, 1, 1, 0]
noncomputable def R15_14 : Array Oper := opsAt Try.f15 [1, 1, 1, 0, 1, 0, 0, 1, 1, 0, 0, 1, 1, 1, 0, 1, 0, 0, 1, 1, 1]
noncomputable def L15_1 : Code := .seq (.region 10 R15_10 false) (.seq (.cond (.tmp 45) .skip (.exit 2)) (.seq (.block 3 (.seq (.region 11 R15_11 false) (.seq (.region 12 R15_12 false) (.cond (.tmp 50) (.region 13 R15_13 false) .skip)))) (.region 14 R15_14 false)))
theorem lpL15_1 : loops L15_1 = 0 := rfl
noncomputable def R15_15 : Array Oper := opsAt Try.f15 [1, 1, 1, 0, 1, 0, 0, 1, 1, 0, 0, 1, 1, 1, 1, 0]
noncomputable def R15_16 : Array Oper := opsAt Try.f15 [1, 1, 1, 0, 1, 0, 0, 1, 1, 0, 0, 1, 1, 1, 1, 1, 0]
noncomputable def M15_0 : Code := .seq (.region 15 R15_15 false) (.cond (.tmp 59) (.region 16 R15_16 false) .skip)
theorem lpM15_0 : loops M15_0 = 0 := rfl
noncomputable def R15_17 : Array Oper := opsAt Try.f15 [1, 1, 1, 0, 1, 0, 0, 1, 1, 1]
noncomputable def M15_1 : Code := .region 17 R15_17 false
theorem lpM15_1 : loops M15_1 = 0 := rfl
noncomputable def L15_0 : Code := .seq (.region 5 R15_5 false) (.seq (.cond (.tmp 26) .skip (.exit 0)) (.seq (.block 1 (.seq (.region 6 R15_6 false) (.seq (.region 7 R15_7 true) (.seq (.region 8 R15_8 false) (.seq (.seq (.region 9 R15_9 false) (.block 2 (.loop L15_1))) M15_0))))) M15_1))
theorem lpL15_0 : loops L15_0 = 1 := rfl
noncomputable def R15_18 : Array Oper := opsAt Try.f15 [1, 1, 1, 1, 0]
noncomputable def M15_2 : Code := .seq (.region 18 R15_18 false) .ret
theorem lpM15_2 : loops M15_2 = 0 := rfl
theorem code15 : Try.f15.body = some (.seq (.region 0 R15_0 false) (.seq (.seq (.region 1 R15_1 false) (.cond (.tmp 21) (.seq (.region 2 R15_2 false) .ret) .skip)) (.seq (.region 3 R15_3 false) (.seq (.seq (.region 4 R15_4 false) (.block 0 (.loop L15_0))) M15_2)))) := by kernel_rfl
noncomputable def R16_0 : Array Oper := opsAt Try.f16 [0]
noncomputable def R16_1 : Array Oper := opsAt Try.f16 [1, 0, 0]
noncomputable def R16_2 : Array Oper := opsAt Try.f16 [1, 0, 1, 0, 0]
noncomputable def R16_3 : Array Oper := opsAt Try.f16 [1, 1, 0, 0]
noncomputable def R16_4 : Array Oper := opsAt Try.f16 [1, 1, 0, 1, 0, 0, 0, 0]
noncomputable def R16_6 : Array Oper := opsAt Try.f16 [1, 1, 0, 1, 0, 0, 1, 0, 0, 0]
noncomputable def R16_7 : Array Oper := opsAt Try.f16 [1, 1, 0, 1, 0, 0, 1, 0, 0, 1, 0, 0]
noncomputable def R16_5 : Array Oper := opsAt Try.f16 [1, 1, 0, 1, 0, 0, 1, 1]
noncomputable def L16_0 : Code := .seq (.seq (.region 4 R16_4 false) (.cond (.tmp 14) .skip (.exit 0))) (.seq (.block 1 (.seq (.region 6 R16_6 true) (.cond (.tmp 26) (.seq (.region 7 R16_7 false) .ret) .skip))) (.region 5 R16_5 false))
theorem lpL16_0 : loops L16_0 = 0 := rfl
noncomputable def R16_8 : Array Oper := opsAt Try.f16 [1, 1, 1, 0]
noncomputable def M16_0 : Code := .seq (.region 8 R16_8 false) .ret
theorem lpM16_0 : loops M16_0 = 0 := rfl
theorem code16 : Try.f16.body = some (.seq (.region 0 R16_0 false) (.seq (.seq (.region 1 R16_1 false) (.cond (.tmp 10) (.seq (.region 2 R16_2 false) .ret) .skip)) (.seq (.seq (.region 3 R16_3 false) (.block 0 (.loop L16_0))) M16_0))) := by kernel_rfl
noncomputable def R17_0 : Array Oper := opsAt Try.f17 [0]
noncomputable def R17_1 : Array Oper := opsAt Try.f17 [1, 0, 0]
noncomputable def R17_2 : Array Oper := opsAt Try.f17 [1, 0, 1, 0, 0]
noncomputable def R17_3 : Array Oper := opsAt Try.f17 [1, 1, 0, 0]
noncomputable def R17_4 : Array Oper := opsAt Try.f17 [1, 1, 0, 1, 0, 0]
noncomputable def R17_5 : Array Oper := opsAt Try.f17 [1, 1, 1, 0, 0]
noncomputable def R17_6 : Array Oper := opsAt Try.f17 [1, 1, 1, 0, 1, 0, 0]
noncomputable def R17_7 : Array Oper := opsAt Try.f17 [1, 1, 1, 1, 0]
theorem code17 : Try.f17.body = some (.seq (.region 0 R17_0 false) (.seq (.seq (.region 1 R17_1 false) (.cond (.tmp 9) (.seq (.region 2 R17_2 false) .ret) .skip)) (.seq (.seq (.region 3 R17_3 false) (.cond (.tmp 14) (.seq (.region 4 R17_4 false) .ret) .skip)) (.seq (.seq (.region 5 R17_5 false) (.cond (.tmp 20) (.seq (.region 6 R17_6 false) .ret) .skip)) (.seq (.region 7 R17_7 false) .ret))))) := by kernel_rfl
noncomputable def R18_0 : Array Oper := opsAt Try.f18 [0]
noncomputable def R18_1 : Array Oper := opsAt Try.f18 [1, 0]
noncomputable def R18_2 : Array Oper := opsAt Try.f18 [1, 1, 0]
theorem code18 : Try.f18.body = some (.seq (.region 0 R18_0 false) (.seq (.region 1 R18_1 false) (.seq (.region 2 R18_2 false) .ret))) := by kernel_rfl
noncomputable def R19_0 : Array Oper := opsAt Try.f19 [0]
noncomputable def R19_1 : Array Oper := opsAt Try.f19 [1, 0, 0]
noncomputable def R19_2 : Array Oper := opsAt Try.f19 [1, 0, 1, 0, 0, 0, 0]
noncomputable def R19_4 : Array Oper := opsAt Try.f19 [1, 0, 1, 0, 0, 1, 0, 0]
noncomputable def R19_3 : Array Oper := opsAt Try.f19 [1, 0, 1, 0, 0, 1, 1]
noncomputable def L19_0 : Code := .seq (.seq (.region 2 R19_2 false) (.cond (.tmp 9) .skip (.exit 0))) (.seq (.block 1 (.region 4 R19_4 false)) (.region 3 R19_3 false))
theorem lpL19_0 : loops L19_0 = 0 := rfl
noncomputable def R19_5 : Array Oper := opsAt Try.f19 [1, 1, 0]
noncomputable def M19_0 : Code := .seq (.region 5 R19_5 false) .ret
theorem lpM19_0 : loops M19_0 = 0 := rfl
theorem code19 : Try.f19.body = some (.seq (.region 0 R19_0 false) (.seq (.seq (.region 1 R19_1 false) (.block 0 (.loop L19_0))) M19_0)) := by kernel_rfl
noncomputable def R20_0 : Array Oper := opsAt Try.f20 [0]
noncomputable def R20_1 : Array Oper := opsAt Try.f20 [1, 0, 0]
noncomputable def R20_2 : Array Oper := opsAt Try.f20 [1, 0, 1, 0, 0, 0, 0]
noncomputable def R20_4 : Array Oper := opsAt Try.f20 [1, 0, 1, 0, 0, 1, 0, 0, 0]
noncomputable def R20_5 : Array Oper := opsAt Try.f20 [1, 0, 1, 0, 0, 1, 0, 0, 1, 0]
noncomputable def R20_6 : Array Oper := opsAt Try.f20 [1, 0, 1, 0, 0, 1, 0, 0, 1, 1, 0, 0]
noncomputable def R20_3 : Array Oper := opsAt Try.f20 [1, 0, 1, 0, 0, 1, 1]
noncomputable def L20_0 : Code := .seq (.seq (.region 2 R20_2 false) (.cond (.tmp 9) .skip (.exit 0))) (.seq (.block 1 (.seq (.region 4 R20_4 false) (.seq (.region 5 R20_5 false) (.cond (.tmp 19) (.seq (.region 6 R20_6 false) .ret) .skip)))) (.region 3 R20_3 false))
theorem lpL20_0 : loops L20_0 = 0 := rfl
noncomputable def R20_7 : Array Oper := opsAt Try.f20 [1, 1, 0]
noncomputable def M20_0 : Code := .seq (.region 7 R20_7 false) .ret
theorem lpM20_0 : loops M20_0 = 0 := rfl
theorem code20 : Try.f20.body = some (.seq (.region 0 R20_0 false) (.seq (.seq (.region 1 R20_1 false) (.block 0 (.loop L20_0))) M20_0)) := by kernel_rfl
noncomputable def R21_0 : Array Oper := opsAt Try.f21 [0]
noncomputable def R21_1 : Array Oper := opsAt Try.f21 [1, 0]
theorem code21 : Try.f21.body = some (.seq (.region 0 R21_0 false) (.seq (.region 1 R21_1 false) .ret)) := by kernel_rfl
noncomputable def R22_0 : Array Oper := opsAt Try.f22 [0]
noncomputable def R22_1 : Array Oper := opsAt Try.f22 [1, 0]
noncomputable def R22_2 : Array Oper := opsAt Try.f22 [1, 1, 0]
noncomputable def R22_3 : Array Oper := opsAt Try.f22 [1, 1, 1, 0]
noncomputable def R22_4 : Array Oper := opsAt Try.f22 [1, 1, 1, 1, 0, 0]
noncomputable def R22_5 : Array Oper := opsAt Try.f22 [1, 1, 1, 1, 0, 1, 0, 0, 0, 0]
noncomputable def R22_7 : Array Oper := opsAt Try.f22 [1, 1, 1, 1, 0, 1, 0, 0, 1, 0, 0]
noncomputable def R22_6 : Array Oper := opsAt Try.f22 [1, 1, 1, 1, 0, 1, 0, 0, 1, 1]
noncomputable def L22_0 : Code := .seq (.seq (.region 5 R22_5 false) (.cond (.tmp 37) .skip (.exit 0))) (.seq (.block 1 (.region 7 R22_7 false)) (.region 6 R22_6 false))
theorem lpL22_0 : loops L22_0 = 0 := rfl
noncomputable def R22_8 : Array Oper := opsAt Try.f22 [1, 1, 1, 1, 1, 0]
noncomputable def M22_0 : Code := .seq (.region 8 R22_8 false) .ret
theorem lpM22_0 : loops M22_0 = 0 := rfl
theorem code22 : Try.f22.body = some (.seq (.region 0 R22_0 false) (.seq (.region 1 R22_1 false) (.seq (.region 2 R22_2 false) (.seq (.region 3 R22_3 false) (.seq (.seq (.region 4 R22_4 false) (.block 0 (.loop L22_0))) M22_0))))) := by kernel_rfl
noncomputable def R23_0 : Array Oper := opsAt Try.f23 [0]
noncomputable def R23_1 : Array Oper := opsAt Try.f23 [1, 0]
noncomputable def R23_2 : Array Oper := opsAt Try.f23 [1, 1, 0]
noncomputable def R23_3 : Array Oper := opsAt Try.f23 [1, 1, 1, 0, 0]
noncomputable def R23_4 : Array Oper := opsAt Try.f23 [1, 1, 1, 0, 1, 0, 0]
noncomputable def R23_5 : Array Oper := opsAt Try.f23 [1, 1, 1, 1, 0]
noncomputable def R23_6 : Array Oper := opsAt Try.f23 [1, 1, 1, 1, 1, 0, 0]
noncomputable def R23_7 : Array Oper := opsAt Try.f23 [1, 1, 1, 1, 1, 0, 1, 0, 0]
noncomputable def R23_8 : Array Oper := opsAt Try.f23 [1, 1, 1, 1, 1, 1, 0]
theorem code23 : Try.f23.body = some (.seq (.region 0 R23_0 false) (.seq (.region 1 R23_1 false) (.seq (.region 2 R23_2 false) (.seq (.seq (.region 3 R23_3 false) (.cond (.tmp 40) (.seq (.region 4 R23_4 false) .ret) .skip)) (.seq (.region 5 R23_5 false) (.seq (.seq (.region 6 R23_6 false) (.cond (.tmp 65) (.seq (.region 7 R23_7 false) .ret) .skip)) (.seq (.region 8 R23_8 false) .ret))))))) := by kernel_rfl
noncomputable def R24_0 : Array Oper := opsAt Try.f24 [0]
noncomputable def R24_1 : Array Oper := opsAt Try.f24 [1, 0, 0]
noncomputable def R24_2 : Array Oper := opsAt Try.f24 [1, 0, 1, 0, 0]
noncomputable def R24_3 : Array Oper := opsAt Try.f24 [1, 1, 0]
noncomputable def R24_4 : Array Oper := opsAt Try.f24 [1, 1, 1, 0, 0]
noncomputable def R24_5 : Array Oper := opsAt Try.f24 [1, 1, 1, 0, 1, 0, 0]
noncomputable def R24_6 : Array Oper := opsAt Try.f24 [1, 1, 1, 1, 0]
theorem code24 : Try.f24.body = some (.seq (.region 0 R24_0 false) (.seq (.seq (.region 1 R24_1 false) (.cond (.tmp 28) (.seq (.region 2 R24_2 false) .ret) .skip)) (.seq (.region 3 R24_3 false) (.seq (.seq (.region 4 R24_4 false) (.cond (.tmp 35) (.seq (.region 5 R24_5 false) .ret) .skip)) (.seq (.region 6 R24_6 false) .ret))))) := by kernel_rfl
noncomputable def R25_0 : Array Oper := opsAt Try.f25 [0]
noncomputable def R25_1 : Array Oper := opsAt Try.f25 [1, 0]
noncomputable def R25_2 : Array Oper := opsAt Try.f25 [1, 1, 0]
noncomputable def R25_3 : Array Oper := opsAt Try.f25 [1, 1, 1, 0]
noncomputable def R25_4 : Array Oper := opsAt Try.f25 [1, 1, 1, 1, 0, 0]
noncomputable def R25_5 : Array Oper := opsAt Try.f25 [1, 1, 1, 1, 0, 1, 0]
noncomputable def R25_6 : Array Oper := opsAt Try.f25 [1, 1, 1, 1, 1, 0]
theorem code25 : Try.f25.body = some (.seq (.region 0 R25_0 false) (.seq (.region 1 R25_1 false) (.seq (.region 2 R25_2 false) (.seq (.region 3 R25_3 false) (.seq (.seq (.region 4 R25_4 false) (.cond (.tmp 47) (.region 5 R25_5 false) .skip)) (.seq (.region 6 R25_6 false) .ret)))))) := by kernel_rfl
noncomputable def R26_0 : Array Oper := opsAt Try.f26 [0]
noncomputable def R26_1 : Array Oper := opsAt Try.f26 [1, 0]
noncomputable def R26_2 : Array Oper := opsAt Try.f26 [1, 1, 0]
noncomputable def R26_3 : Array Oper := opsAt Try.f26 [1, 1, 1, 0, 0]
noncomputable def R26_4 : Array Oper := opsAt Try.f26 [1, 1, 1, 0, 1, 0, 0]
noncomputable def R26_5 : Array Oper := opsAt Try.f26 [1, 1, 1, 1, 0]
theorem code26 : Try.f26.body = some (.seq (.region 0 R26_0 false) (.seq (.region 1 R26_1 false) (.seq (.region 2 R26_2 false) (.seq (.seq (.region 3 R26_3 false) (.cond (.tmp 49) (.seq (.region 4 R26_4 false) .ret) .skip)) (.seq (.region 5 R26_5 false) .ret))))) := by kernel_rfl
noncomputable def R27_0 : Array Oper := opsAt Try.f27 [0]
noncomputable def R27_1 : Array Oper := opsAt Try.f27 [1, 0, 0]
noncomputable def R27_2 : Array Oper := opsAt Try.f27 [1, 0, 1, 0, 0]
noncomputable def R27_3 : Array Oper := opsAt Try.f27 [1, 1, 0]
noncomputable def R27_4 : Array Oper := opsAt Try.f27 [1, 1, 1, 0]
noncomputable def R27_5 : Array Oper := opsAt Try.f27 [1, 1, 1, 1, 0]
theorem code27 : Try.f27.body = some (.seq (.region 0 R27_0 false) (.seq (.seq (.region 1 R27_1 false) (.cond (.tmp 41) (.seq (.region 2 R27_2 false) .ret) .skip)) (.seq (.region 3 R27_3 false) (.seq (.region 4 R27_4 false) (.seq (.region 5 R27_5 false) .ret))))) := by kernel_rfl
noncomputable def R28_0 : Array Oper := opsAt Try.f28 [0]
noncomputable def R28_1 : Array Oper := opsAt Try.f28 [1, 0]
noncomputable def R28_2 : Array Oper := opsAt Try.f28 [1, 1, 0]
noncomputable def R28_3 : Array Oper := opsAt Try.f28 [1, 1, 1, 0]
noncomputable def R28_4 : Array Oper := opsAt Try.f28 [1, 1, 1, 1, 0]
noncomputable def R28_5 : Array Oper := opsAt Try.f28 [1, 1, 1, 1, 1, 0, 0]
noncomputable def R28_6 : Array Oper := opsAt Try.f28 [1, 1, 1, 1, 1, 0, 1, 0]
noncomputable def R28_7 : Array Oper := opsAt Try.f28 [1, 1, 1, 1, 1, 1, 0]
theorem code28 : Try.f28.body = some (.seq (.region 0 R28_0 false) (.seq (.region 1 R28_1 false) (.seq (.region 2 R28_2 false) (.seq (.region 3 R28_3 false) (.seq (.region 4 R28_4 true) (.seq (.seq (.region 5 R28_5 false) (.cond (.tmp 28) (.region 6 R28_6 false) .skip)) (.seq (.region 7 R28_7 false) .ret))))))) := by kernel_rfl
noncomputable def R29_0 : Array Oper := opsAt Try.f29 [0]
noncomputable def R29_1 : Array Oper := opsAt Try.f29 [1, 0]
noncomputable def R29_2 : Array Oper := opsAt Try.f29 [1, 1, 0, 0]
noncomputable def R29_3 : Array Oper := opsAt Try.f29 [1, 1, 0, 1, 0, 0]
noncomputable def R29_4 : Array Oper := opsAt Try.f29 [1, 1, 1, 0]
noncomputable def R29_5 : Array Oper := opsAt Try.f29 [1, 1, 1, 1, 0, 0]
noncomputable def R29_6 : Array Oper := opsAt Try.f29 [1, 1, 1, 1, 0, 1, 0, 0, 0]
noncomputable def R29_7 : Array Oper := opsAt Try.f29 [1, 1, 1, 1, 0, 1, 0, 0, 1, 1, 0, 0, 0]
noncomputable def R29_8 : Array Oper := opsAt Try.f29 [1, 1, 1, 1, 0, 1, 0, 0, 1, 1, 0, 0, 1, 0]
noncomputable def R29_9 : Array Oper := opsAt Try.f29 [1, 1, 1, 1, 0, 1, 0, 0, 1, 1, 0, 0, 1, 1, 0]
noncomputable def R29_10 : Array Oper := opsAt Try.f29 [1, 1, 1, 1, 0, 1, 0, 0, 1, 1, 1]
noncomputable def L29_0 : Code := .seq (.region 6 R29_6 false) (.seq (.cond (.tmp 30) .skip (.exit 0)) (.seq (.block 1 (.seq (.region 7 R29_7 false) (.seq (.region 8 R29_8 false) (.cond (.tmp 41) (.region 9 R29_9 false) .skip)))) (.region 10 R29_10 false)))
theorem lpL29_0 : loops L29_0 = 0 := rfl
noncomputable def R29_11 : Array Oper := opsAt Try.f29 [1, 1, 1, 1, 1, 0]
noncomputable def M29_0 : Code := .seq (.region 11 R29_11 false) .ret
theorem lpM29_0 : loops M29_0 = 0 := rfl
theorem code29 : Try.f29.body = some (.seq (.region 0 R29_0 false) (.seq (.region 1 R29_1 false) (.seq (.seq (.region 2 R29_2 false) (.cond (.tmp 27) (.seq (.region 3 R29_3 false) .ret) .skip)) (.seq (.region 4 R29_4 false) (.seq (.seq (.region 5 R29_5 false) (.block 0 (.loop L29_0))) M29_0))))) := by kernel_rfl
noncomputable def R30_0 : Array Oper := opsAt Try.f30 [0]
noncomputable def R30_1 : Array Oper := opsAt Try.f30 [1, 0, 0]
noncomputable def R30_2 : Array Oper := opsAt Try.f30 [1, 0, 1, 0, 0]
noncomputable def R30_3 : Array Oper := opsAt Try.f30 [1, 1, 0]
noncomputable def R30_4 : Array Oper := opsAt Try.f30 [1, 1, 1, 0]
noncomputable def R30_5 : Array Oper := opsAt Try.f30 [1, 1, 1, 1, 0]
noncomputable def R30_6 : Array Oper := opsAt Try.f30 [1, 1, 1, 1, 1, 0, 0]
noncomputable def R30_7 : Array Oper := opsAt Try.f30 [1, 1, 1, 1, 1, 0, 1, 0, 0, 0, 0]
noncomputable def R30_9 : Array Oper := opsAt Try.f30 [1, 1, 1, 1, 1, 0, 1, 0, 0, 1, 0, 0, 0]
noncomputable def R30_10 : Array Oper := opsAt Try.f30 [1, 1, 1, 1, 1, 0, 1, 0, 0, 1, 0, 0, 1, 0]
noncomputable def R30_8 : Array Oper := opsAt Try.f30 [1, 1, 1, 1, 1, 0, 1, 0, 0, 1, 1]
noncomputable def L30_0 : Code := .seq (.seq (.region 7 R30_7 false) (.cond (.tmp 32) .skip (.exit 0))) (.seq (.block 1 (.seq (.region 9 R30_9 false) (.cond (.tmp 42) (.region 10 R30_10 false) .skip))) (.region 8 R30_8 false))
theorem lpL30_0 : loops L30_0 = 0 := rfl
noncomputable def R30_11 : Array Oper := opsAt Try.f30 [1, 1, 1, 1, 1, 1, 0]
noncomputable def M30_0 : Code := .seq (.region 11 R30_11 false) .ret
theorem lpM30_0 : loops M30_0 = 0 := rfl
theorem code30 : Try.f30.body = some (.seq (.region 0 R30_0 false) (.seq (.seq (.region 1 R30_1 false) (.cond (.tmp 23) (.seq (.region 2 R30_2 false) .ret) .skip)) (.seq (.region 3 R30_3 false) (.seq (.region 4 R30_4 false) (.seq (.region 5 R30_5 false) (.seq (.seq (.region 6 R30_6 false) (.block 0 (.loop L30_0))) M30_0)))))) := by kernel_rfl
noncomputable def R31_0 : Array Oper := opsAt Try.f31 [0]
noncomputable def R31_1 : Array Oper := opsAt Try.f31 [1, 0]
noncomputable def R31_2 : Array Oper := opsAt Try.f31 [1, 1, 0]
theorem code31 : Try.f31.body = some (.seq (.region 0 R31_0 false) (.seq (.region 1 R31_1 false) (.seq (.region 2 R31_2 false) .ret))) := by kernel_rfl
noncomputable def R32_0 : Array Oper := opsAt Try.f32 [0]
noncomputable def R32_1 : Array Oper := opsAt Try.f32 [1, 0, 0]
noncomputable def R32_2 : Array Oper := opsAt Try.f32 [1, 0, 1, 0, 0]
noncomputable def R32_3 : Array Oper := opsAt Try.f32 [1, 1, 0]
noncomputable def R32_4 : Array Oper := opsAt Try.f32 [1, 1, 1, 0, 0]
noncomputable def R32_5 : Array Oper := opsAt Try.f32 [1, 1, 1, 0, 1, 0, 0]
noncomputable def R32_6 : Array Oper := opsAt Try.f32 [1, 1, 1, 1, 0]
theorem code32 : Try.f32.body = some (.seq (.region 0 R32_0 false) (.seq (.seq (.region 1 R32_1 false) (.cond (.tmp 14) (.seq (.region 2 R32_2 false) .ret) .skip)) (.seq (.region 3 R32_3 false) (.seq (.seq (.region 4 R32_4 false) (.cond (.tmp 22) (.seq (.region 5 R32_5 false) .ret) .skip)) (.seq (.region 6 R32_6 false) .ret))))) := by kernel_rfl
noncomputable def R33_0 : Array Oper := opsAt Try.f33 [0]
noncomputable def R33_1 : Array Oper := opsAt Try.f33 [1, 0, 0]
noncomputable def R33_2 : Array Oper := opsAt Try.f33 [1, 0, 1, 0, 0]
noncomputable def R33_3 : Array Oper := opsAt Try.f33 [1, 1, 0]
noncomputable def R33_4 : Array Oper := opsAt Try.f33 [1, 1, 1, 0, 0]
noncomputable def R33_5 : Array Oper := opsAt Try.f33 [1, 1, 1, 0, 1, 0, 0]
noncomputable def R33_6 : Array Oper := opsAt Try.f33 [1, 1, 1, 1, 0]
theorem code33 : Try.f33.body = some (.seq (.region 0 R33_0 false) (.seq (.seq (.region 1 R33_1 false) (.cond (.tmp 14) (.seq (.region 2 R33_2 false) .ret) .skip)) (.seq (.region 3 R33_3 false) (.seq (.seq (.region 4 R33_4 false) (.cond (.tmp 22) (.seq (.region 5 R33_5 false) .ret) .skip)) (.seq (.region 6 R33_6 false) .ret))))) := by kernel_rfl
noncomputable def R34_0 : Array Oper := opsAt Try.f34 [0]
noncomputable def R34_1 : Array Oper := opsAt Try.f34 [1, 0]
theorem code34 : Try.f34.body = some (.seq (.region 0 R34_0 false) (.seq (.region 1 R34_1 false) .ret)) := by kernel_rfl
noncomputable def R35_0 : Array Oper := opsAt Try.f35 [0]
noncomputable def R35_1 : Array Oper := opsAt Try.f35 [1, 0]
noncomputable def R35_2 : Array Oper := opsAt Try.f35 [1, 1, 0]
noncomputable def R35_3 : Array Oper := opsAt Try.f35 [1, 1, 1, 0, 0]
noncomputable def R35_4 : Array Oper := opsAt Try.f35 [1, 1, 1, 0, 1, 0, 0]
noncomputable def R35_5 : Array Oper := opsAt Try.f35 [1, 1, 1, 1, 0]
theorem code35 : Try.f35.body = some (.seq (.region 0 R35_0 false) (.seq (.region 1 R35_1 false) (.seq (.region 2 R35_2 false) (.seq (.seq (.region 3 R35_3 false) (.cond (.tmp 11) (.seq (.region 4 R35_4 false) .ret) .skip)) (.seq (.region 5 R35_5 false) .ret))))) := by kernel_rfl
noncomputable def R36_0 : Array Oper := opsAt Try.f36 [0]
noncomputable def R36_1 : Array Oper := opsAt Try.f36 [1, 0, 0]
noncomputable def R36_2 : Array Oper := opsAt Try.f36 [1, 0, 1, 0, 0]
noncomputable def R36_3 : Array Oper := opsAt Try.f36 [1, 1, 0]
noncomputable def R36_4 : Array Oper := opsAt Try.f36 [1, 1, 1, 0, 0]
noncomputable def R36_5 : Array Oper := opsAt Try.f36 [1, 1, 1, 0, 1, 0, 0]
noncomputable def R36_6 : Array Oper := opsAt Try.f36 [1, 1, 1, 1, 0]
theorem code36 : Try.f36.body = some (.seq (.region 0 R36_0 false) (.seq (.seq (.region 1 R36_1 false) (.cond (.tmp 8) (.seq (.region 2 R36_2 false) .ret) .skip)) (.seq (.region 3 R36_3 false) (.seq (.seq (.region 4 R36_4 false) (.cond (.tmp 13) (.seq (.region 5 R36_5 false) .ret) .skip)) (.seq (.region 6 R36_6 false) .ret))))) := by kernel_rfl
noncomputable def R37_0 : Array Oper := opsAt Try.f37 [0]
noncomputable def R37_1 : Array Oper := opsAt Try.f37 [1, 0, 0]
noncomputable def R37_2 : Array Oper := opsAt Try.f37 [1, 0, 1, 0, 0]
noncomputable def R37_3 : Array Oper := opsAt Try.f37 [1, 1, 0]
noncomputable def R37_4 : Array Oper := opsAt Try.f37 [1, 1, 1, 0, 0]
noncomputable def R37_5 : Array Oper := opsAt Try.f37 [1, 1, 1, 0, 1, 0, 0, 0, 0]
noncomputable def R37_7 : Array Oper := opsAt Try.f37 [1, 1, 1, 0, 1, 0, 0, 1, 0, 0, 0]
noncomputable def R37_8 : Array Oper := opsAt Try.f37 [1, 1, 1, 0, 1, 0, 0, 1, 0, 0, 1, 0, 0]
noncomputable def R37_9 : Array Oper := opsAt Try.f37 [1, 1, 1, 0, 1, 0, 0, 1, 0, 0, 1, 1, 0, 0]
noncomputable def R37_10 : Array Oper := opsAt Try.f37 [1, 1, 1, 0, 1, 0, 0, 1, 0, 0, 1, 1, 0, 1, 0]
noncomputable def R37_11 : Array Oper := opsAt Try.f37 [1, 1, 1, 0, 1, 0, 0, 1, 0, 0, 1, 1, 1, 0, 0]
noncomputable def R37_12 : Array Oper := opsAt Try.f37 [1, 1, 1, 0, 1, 0, 0, 1, 0, 0, 1, 1, 1, 0, 1, 0]
noncomputable def R37_13 : Array Oper := opsAt Try.f37 [1, 1, 1, 0, 1, 0, 0, 1, 0, 0, 1, 1, 1, 1]
noncomputable def R37_6 : Array Oper := opsAt Try.f37 [1, 1, 1, 0, 1, 0, 0, 1, 1]
noncomputable def L37_0 : Code := .seq (.seq (.region 5 R37_5 false) (.cond (.tmp 17) .skip (.exit 0))) (.seq (.block 1 (.seq (.region 7 R37_7 false) (.seq (.seq (.region 8 R37_8 false) (.cond (.tmp 26) (.exit 1) .skip)) (.seq (.seq (.region 9 R37_9 false) (.cond (.tmp 33) (.region 10 R37_10 false) .skip)) (.seq (.seq (.region 11 R37_11 false) (.cond (.tmp 41) (.region 12 R37_12 false) .skip)) (.region 13 R37_13 false)))))) (.region 6 R37_6 false))
theorem lpL37_0 : loops L37_0 = 0 := rfl
noncomputable def R37_14 : Array Oper := opsAt Try.f37 [1, 1, 1, 1, 0]
noncomputable def M37_0 : Code := .seq (.region 14 R37_14 false) .ret
theorem lpM37_0 : loops M37_0 = 0 := rfl
theorem code37 : Try.f37.body = some (.seq (.region 0 R37_0 false) (.seq (.seq (.region 1 R37_1 false) (.cond (.tmp 12) (.seq (.region 2 R37_2 false) .ret) .skip)) (.seq (.region 3 R37_3 false) (.seq (.seq (.region 4 R37_4 false) (.block 0 (.loop L37_0))) M37_0)))) := by kernel_rfl
noncomputable def R38_0 : Array Oper := opsAt Try.f38 [0]
noncomputable def R38_1 : Array Oper := opsAt Try.f38 [1, 0, 0]
noncomputable def R38_2 : Array Oper := opsAt Try.f38 [1, 0, 1, 0, 0]
noncomputable def R38_3 : Array Oper := opsAt Try.f38 [1, 1, 0]
theorem code38 : Try.f38.body = some (.seq (.region 0 R38_0 false) (.seq (.seq (.region 1 R38_1 false) (.cond (.tmp 6) (.seq (.region 2 R38_2 false) .ret) .skip)) (.seq (.region 3 R38_3 false) .ret))) := by kernel_rfl
noncomputable def R39_0 : Array Oper := opsAt Try.f39 [0]
noncomputable def R39_1 : Array Oper := opsAt Try.f39 [1, 0, 0]
noncomputable def R39_2 : Array Oper := opsAt Try.f39 [1, 0, 1, 0, 0]
noncomputable def R39_3 : Array Oper := opsAt Try.f39 [1, 1, 0]
theorem code39 : Try.f39.body = some (.seq (.region 0 R39_0 false) (.seq (.seq (.region 1 R39_1 false) (.cond (.tmp 6) (.seq (.region 2 R39_2 false) .ret) .skip)) (.seq (.region 3 R39_3 true) .ret))) := by kernel_rfl
noncomputable def R40_0 : Array Oper := opsAt Try.f40 [0]
noncomputable def R40_1 : Array Oper := opsAt Try.f40 [1, 0]
theorem code40 : Try.f40.body = some (.seq (.region 0 R40_0 false) (.seq (.region 1 R40_1 false) .ret)) := by kernel_rfl
noncomputable def R41_0 : Array Oper := opsAt Try.f41 [0]
noncomputable def R41_1 : Array Oper := opsAt Try.f41 [1, 0]
noncomputable def R41_2 : Array Oper := opsAt Try.f41 [1, 1, 0]
theorem code41 : Try.f41.body = some (.seq (.region 0 R41_0 false) (.seq (.region 1 R41_1 false) (.seq (.region 2 R41_2 false) .ret))) := by kernel_rfl
noncomputable def R42_0 : Array Oper := opsAt Try.f42 [0]
noncomputable def R42_1 : Array Oper := opsAt Try.f42 [1, 0, 0]
noncomputable def R42_2 : Array Oper := opsAt Try.f42 [1, 0, 1, 0, 0]
noncomputable def R42_3 : Array Oper := opsAt Try.f42 [1, 1, 0]
theorem code42 : Try.f42.body = some (.seq (.region 0 R42_0 false) (.seq (.seq (.region 1 R42_1 false) (.cond (.tmp 43) (.seq (.region 2 R42_2 false) .ret) .skip)) (.seq (.region 3 R42_3 false) .ret))) := by kernel_rfl
noncomputable def R43_0 : Array Oper := opsAt Try.f43 [0]
noncomputable def R43_1 : Array Oper := opsAt Try.f43 [1, 0, 0]
noncomputable def R43_2 : Array Oper := opsAt Try.f43 [1, 0, 1, 0, 0]
noncomputable def R43_3 : Array Oper := opsAt Try.f43 [1, 1, 0]
noncomputable def R43_4 : Array Oper := opsAt Try.f43 [1, 1, 1, 0, 0]
noncomputable def R43_5 : Array Oper := opsAt Try.f43 [1, 1, 1, 0, 1, 0, 0, 0, 0]
noncomputable def R43_7 : Array Oper := opsAt Try.f43 [1, 1, 1, 0, 1, 0, 0, 1, 0, 0, 0]
noncomputable def R43_8 : Array Oper := opsAt Try.f43 [1, 1, 1, 0, 1, 0, 0, 1, 0, 0, 1, 0, 0, 0, 0]
noncomputable def R43_10 : Array Oper := opsAt Try.f43 [1, 1, 1, 0, 1, 0, 0, 1, 0, 0, 1, 0, 0, 1, 0, 0]
noncomputable def R43_9 : Array Oper := opsAt Try.f43 [1, 1, 1, 0, 1, 0, 0, 1, 0, 0, 1, 0, 0, 1, 1]
noncomputable def L43_1 : Code := .seq (.seq (.region 8 R43_8 false) (.cond (.tmp 55) .skip (.exit 2))) (.seq (.block 3 (.region 10 R43_10 true)) (.region 9 R43_9 false))
theorem lpL43_1 : loops L43_1 = 0 := rfl
noncomputable def R43_6 : Array Oper := opsAt Try.f43 [1, 1, 1, 0, 1, 0, 0, 1, 1]
noncomputable def M43_0 : Code := .region 6 R43_6 false
theorem lpM43_0 : loops M43_0 = 0 := rfl
noncomputable def L43_0 : Code := .seq (.seq (.region 5 R43_5 false) (.cond (.tmp 50) .skip (.exit 0))) (.seq (.block 1 (.seq (.region 7 R43_7 false) (.block 2 (.loop L43_1)))) M43_0)
theorem lpL43_0 : loops L43_0 = 1 := rfl
noncomputable def R43_11 : Array Oper := opsAt Try.f43 [1, 1, 1, 1, 0]
noncomputable def M43_1 : Code := .seq (.region 11 R43_11 false) .ret
theorem lpM43_1 : loops M43_1 = 0 := rfl
theorem code43 : Try.f43.body = some (.seq (.region 0 R43_0 false) (.seq (.seq (.region 1 R43_1 false) (.cond (.tmp 43) (.seq (.region 2 R43_2 false) .ret) .skip)) (.seq (.region 3 R43_3 false) (.seq (.seq (.region 4 R43_4 false) (.block 0 (.loop L43_0))) M43_1)))) := by kernel_rfl
noncomputable def R44_0 : Array Oper := opsAt Try.f44 [0]
noncomputable def R44_1 : Array Oper := opsAt Try.f44 [1, 0]
theorem code44 : Try.f44.body = some (.seq (.region 0 R44_0 false) (.seq (.region 1 R44_1 false) .ret)) := by kernel_rfl
noncomputable def R45_0 : Array Oper := opsAt Try.f45 [0]
noncomputable def R45_1 : Array Oper := opsAt Try.f45 [1, 0, 0]
noncomputable def R45_2 : Array Oper := opsAt Try.f45 [1, 0, 1, 0, 0]
noncomputable def R45_3 : Array Oper := opsAt Try.f45 [1, 1, 0]
theorem code45 : Try.f45.body = some (.seq (.region 0 R45_0 false) (.seq (.seq (.region 1 R45_1 false) (.cond (.tmp 17) (.seq (.region 2 R45_2 false) .ret) .skip)) (.seq (.region 3 R45_3 false) .ret))) := by kernel_rfl
noncomputable def R46_0 : Array Oper := opsAt Try.f46 [0]
noncomputable def R46_1 : Array Oper := opsAt Try.f46 [1, 0]
noncomputable def R46_2 : Array Oper := opsAt Try.f46 [1, 1, 0]
noncomputable def R46_3 : Array Oper := opsAt Try.f46 [1, 1, 1, 0, 0]
noncomputable def R46_4 : Array Oper := opsAt Try.f46 [1, 1, 1, 0, 1, 0]
noncomputable def R46_5 : Array Oper := opsAt Try.f46 [1, 1, 1, 1, 0]
noncomputable def R46_6 : Array Oper := opsAt Try.f46 [1, 1, 1, 1, 1, 0]
theorem code46 : Try.f46.body = some (.seq (.region 0 R46_0 false) (.seq (.region 1 R46_1 false) (.seq (.region 2 R46_2 false) (.seq (.seq (.region 3 R46_3 false) (.cond (.tmp 15) (.region 4 R46_4 false) .skip)) (.seq (.region 5 R46_5 false) (.seq (.region 6 R46_6 true) .ret)))))) := by kernel_rfl
noncomputable def R47_0 : Array Oper := opsAt Try.f47 [0]
noncomputable def R47_1 : Array Oper := opsAt Try.f47 [1, 0, 0]
noncomputable def R47_2 : Array Oper := opsAt Try.f47 [1, 0, 1, 0, 0]
noncomputable def R47_3 : Array Oper := opsAt Try.f47 [1, 1, 0]
theorem code47 : Try.f47.body = some (.seq (.region 0 R47_0 false) (.seq (.seq (.region 1 R47_1 false) (.cond (.tmp 10) (.seq (.region 2 R47_2 false) .ret) .skip)) (.seq (.region 3 R47_3 false) .ret))) := by kernel_rfl
noncomputable def R48_0 : Array Oper := opsAt Try.f48 [0]
noncomputable def R48_1 : Array Oper := opsAt Try.f48 [1, 0, 0]
noncomputable def R48_2 : Array Oper := opsAt Try.f48 [1, 0, 1, 0, 0]
noncomputable def R48_3 : Array Oper := opsAt Try.f48 [1, 1, 0]
theorem code48 : Try.f48.body = some (.seq (.region 0 R48_0 false) (.seq (.seq (.region 1 R48_1 false) (.cond (.tmp 16) (.seq (.region 2 R48_2 false) .ret) .skip)) (.seq (.region 3 R48_3 false) .ret))) := by kernel_rfl
noncomputable def R49_0 : Array Oper := opsAt Try.f49 [0]
noncomputable def R49_1 : Array Oper := opsAt Try.f49 [1, 0]
noncomputable def R49_2 : Array Oper := opsAt Try.f49 [1, 1, 0]
theorem code49 : Try.f49.body = some (.seq (.region 0 R49_0 false) (.seq (.region 1 R49_1 false) (.seq (.region 2 R49_2 false) .ret))) := by kernel_rfl
noncomputable def R50_0 : Array Oper := opsAt Try.f50 [0]
noncomputable def R50_1 : Array Oper := opsAt Try.f50 [1, 0, 0]
noncomputable def R50_2 : Array Oper := opsAt Try.f50 [1, 0, 1, 0, 0]
noncomputable def R50_3 : Array Oper := opsAt Try.f50 [1, 1, 0]
theorem code50 : Try.f50.body = some (.seq (.region 0 R50_0 false) (.seq (.seq (.region 1 R50_1 false) (.cond (.tmp 15) (.seq (.region 2 R50_2 false) .ret) .skip)) (.seq (.region 3 R50_3 false) .ret))) := by kernel_rfl
noncomputable def R51_0 : Array Oper := opsAt Try.f51 [0]
noncomputable def R51_1 : Array Oper := opsAt Try.f51 [1, 0, 0]
noncomputable def R51_2 : Array Oper := opsAt Try.f51 [1, 0, 1, 0, 0]
noncomputable def R51_3 : Array Oper := opsAt Try.f51 [1, 1, 0]
theorem code51 : Try.f51.body = some (.seq (.region 0 R51_0 false) (.seq (.seq (.region 1 R51_1 false) (.cond (.tmp 20) (.seq (.region 2 R51_2 false) .ret) .skip)) (.seq (.region 3 R51_3 false) .ret))) := by kernel_rfl
noncomputable def R52_0 : Array Oper := opsAt Try.f52 [0]
noncomputable def R52_1 : Array Oper := opsAt Try.f52 [1, 0]
noncomputable def R52_2 : Array Oper := opsAt Try.f52 [1, 1, 0]
noncomputable def R52_3 : Array Oper := opsAt Try.f52 [1, 1, 1, 0]
noncomputable def R52_4 : Array Oper := opsAt Try.f52 [1, 1, 1, 1, 0, 0]
noncomputable def R52_5 : Array Oper := opsAt Try.f52 [1, 1, 1, 1, 0, 1, 0]
noncomputable def R52_6 : Array Oper := opsAt Try.f52 [1, 1, 1, 1, 1, 0]
theorem code52 : Try.f52.body = some (.seq (.region 0 R52_0 false) (.seq (.region 1 R52_1 false) (.seq (.region 2 R52_2 false) (.seq (.region 3 R52_3 false) (.seq (.seq (.region 4 R52_4 false) (.cond (.tmp 20) (.region 5 R52_5 false) .skip)) (.seq (.region 6 R52_6 true) .ret)))))) := by kernel_rfl
noncomputable def R53_0 : Array Oper := opsAt Try.f53 [0]
noncomputable def R53_1 : Array Oper := opsAt Try.f53 [1, 0]
theorem code53 : Try.f53.body = some (.seq (.region 0 R53_0 false) (.seq (.region 1 R53_1 false) .ret)) := by kernel_rfl
noncomputable def R54_0 : Array Oper := opsAt Try.f54 [0]
noncomputable def R54_1 : Array Oper := opsAt Try.f54 [1, 0, 0]
noncomputable def R54_2 : Array Oper := opsAt Try.f54 [1, 0, 1, 0, 0]
noncomputable def R54_3 : Array Oper := opsAt Try.f54 [1, 1, 0]
noncomputable def R54_4 : Array Oper := opsAt Try.f54 [1, 1, 1, 0, 0]
noncomputable def R54_5 : Array Oper := opsAt Try.f54 [1, 1, 1, 0, 1, 0, 0, 0, 0]
noncomputable def R54_7 : Array Oper := opsAt Try.f54 [1, 1, 1, 0, 1, 0, 0, 1, 0, 0, 0]
noncomputable def R54_8 : Array Oper := opsAt Try.f54 [1, 1, 1, 0, 1, 0, 0, 1, 0, 0, 1, 0]
noncomputable def R54_6 : Array Oper := opsAt Try.f54 [1, 1, 1, 0, 1, 0, 0, 1, 1]
noncomputable def L54_0 : Code := .seq (.seq (.region 5 R54_5 false) (.cond (.tmp 19) .skip (.exit 0))) (.seq (.block 1 (.seq (.region 7 R54_7 false) (.cond (.tmp 35) (.region 8 R54_8 false) .skip))) (.region 6 R54_6 false))
theorem lpL54_0 : loops L54_0 = 0 := rfl
noncomputable def R54_9 : Array Oper := opsAt Try.f54 [1, 1, 1, 1, 0]
noncomputable def M54_0 : Code := .seq (.region 9 R54_9 false) .ret
theorem lpM54_0 : loops M54_0 = 0 := rfl
theorem code54 : Try.f54.body = some (.seq (.region 0 R54_0 false) (.seq (.seq (.region 1 R54_1 false) (.cond (.tmp 11) (.seq (.region 2 R54_2 false) .ret) .skip)) (.seq (.region 3 R54_3 false) (.seq (.seq (.region 4 R54_4 false) (.block 0 (.loop L54_0))) M54_0)))) := by kernel_rfl
noncomputable def R55_0 : Array Oper := opsAt Try.f55 [0]
noncomputable def R55_1 : Array Oper := opsAt Try.f55 [1, 0]
theorem code55 : Try.f55.body = some (.seq (.region 0 R55_0 false) (.seq (.region 1 R55_1 false) .ret)) := by kernel_rfl
noncomputable def R56_0 : Array Oper := opsAt Try.f56 [0]
noncomputable def R56_1 : Array Oper := opsAt Try.f56 [1, 0, 0]
noncomputable def R56_2 : Array Oper := opsAt Try.f56 [1, 0, 1, 0, 0]
noncomputable def R56_3 : Array Oper := opsAt Try.f56 [1, 1, 0]
noncomputable def R56_4 : Array Oper := opsAt Try.f56 [1, 1, 1, 0, 0]
noncomputable def R56_5 : Array Oper := opsAt Try.f56 [1, 1, 1, 0, 1, 0, 0, 0]
noncomputable def R56_6 : Array Oper := opsAt Try.f56 [1, 1, 1, 0, 1, 0, 0, 1, 1, 0, 0, 0]
noncomputable def R56_7 : Array Oper := opsAt Try.f56 [1, 1, 1, 0, 1, 0, 0, 1, 1, 0, 0, 1, 0]
noncomputable def R56_8 : Array Oper := opsAt Try.f56 [1, 1, 1, 0, 1, 0, 0, 1, 1, 0, 0, 1, 1, 0]
noncomputable def R56_9 : Array Oper := opsAt Try.f56 [1, 1, 1, 0, 1, 0, 0, 1, 1, 1]
noncomputable def L56_0 : Code := .seq (.region 5 R56_5 false) (.seq (.cond (.tmp 18) .skip (.exit 0)) (.seq (.block 1 (.seq (.region 6 R56_6 false) (.seq (.region 7 R56_7 false) (.cond (.tmp 28) (.region 8 R56_8 false) .skip)))) (.region 9 R56_9 false)))
theorem lpL56_0 : loops L56_0 = 0 := rfl
noncomputable def R56_10 : Array Oper := opsAt Try.f56 [1, 1, 1, 1, 0]
noncomputable def M56_0 : Code := .seq (.region 10 R56_10 false) .ret
theorem lpM56_0 : loops M56_0 = 0 := rfl
theorem code56 : Try.f56.body = some (.seq (.region 0 R56_0 false) (.seq (.seq (.region 1 R56_1 false) (.cond (.tmp 13) (.seq (.region 2 R56_2 false) .ret) .skip)) (.seq (.region 3 R56_3 false) (.seq (.seq (.region 4 R56_4 false) (.block 0 (.loop L56_0))) M56_0)))) := by kernel_rfl
noncomputable def R57_0 : Array Oper := opsAt Try.f57 [0]
noncomputable def R57_1 : Array Oper := opsAt Try.f57 [1, 0]
noncomputable def R57_2 : Array Oper := opsAt Try.f57 [1, 1, 0]
noncomputable def R57_3 : Array Oper := opsAt Try.f57 [1, 1, 1, 0]
noncomputable def R57_4 : Array Oper := opsAt Try.f57 [1, 1, 1, 1, 0, 0]
noncomputable def R57_5 : Array Oper := opsAt Try.f57 [1, 1, 1, 1, 0, 1, 0]
noncomputable def R57_6 : Array Oper := opsAt Try.f57 [1, 1, 1, 1, 1, 0]
theorem code57 : Try.f57.body = some (.seq (.region 0 R57_0 false) (.seq (.region 1 R57_1 false) (.seq (.region 2 R57_2 false) (.seq (.region 3 R57_3 false) (.seq (.seq (.region 4 R57_4 false) (.cond (.tmp 17) (.region 5 R57_5 false) .skip)) (.seq (.region 6 R57_6 true) .ret)))))) := by kernel_rfl
noncomputable def R58_0 : Array Oper := opsAt Try.f58 [0]
noncomputable def R58_1 : Array Oper := opsAt Try.f58 [1, 0, 0]
noncomputable def R58_2 : Array Oper := opsAt Try.f58 [1, 0, 1, 0, 0]
noncomputable def R58_3 : Array Oper := opsAt Try.f58 [1, 1, 0]
noncomputable def R58_4 : Array Oper := opsAt Try.f58 [1, 1, 1, 0, 0]
noncomputable def R58_5 : Array Oper := opsAt Try.f58 [1, 1, 1, 0, 1, 0, 0, 0]
noncomputable def R58_6 : Array Oper := opsAt Try.f58 [1, 1, 1, 0, 1, 0, 0, 1, 1, 0, 0, 0]
noncomputable def R58_8 : Array Oper := opsAt Try.f58 [1, 1, 1, 0, 1, 0, 0, 1, 1, 0, 0, 1, 0, 0]
noncomputable def R58_9 : Array Oper := opsAt Try.f58 [1, 1, 1, 0, 1, 0, 0, 1, 1, 0, 0, 1, 0, 1, 1, 0]
noncomputable def R58_10 : Array Oper := opsAt Try.f58 [1, 1, 1, 0, 1, 0, 0, 1, 1, 0, 0, 1, 0, 1, 1, 1, 0]
noncomputable def R58_7 : Array Oper := opsAt Try.f58 [1, 1, 1, 0, 1, 0, 0, 1, 1, 0, 0, 1, 0, 1, 1, 1, 1]
noncomputable def R58_11 : Array Oper := opsAt Try.f58 [1, 1, 1, 0, 1, 0, 0, 1, 1, 1]
noncomputable def L58_0 : Code := .seq (.region 5 R58_5 false) (.seq (.cond (.tmp 24) .skip (.exit 0)) (.seq (.block 1 (.seq (.region 6 R58_6 false) (.block 2 (.seq (.region 8 R58_8 false) (.cond (.tmp 37) .skip (.seq (.region 9 R58_9 false) (.cond (.tmp 40) (.region 10 R58_10 true) (.region 7 R58_7 true)))))))) (.region 11 R58_11 false)))
theorem lpL58_0 : loops L58_0 = 0 := rfl
noncomputable def R58_12 : Array Oper := opsAt Try.f58 [1, 1, 1, 1, 0]
noncomputable def M58_0 : Code := .seq (.region 12 R58_12 false) .ret
theorem lpM58_0 : loops M58_0 = 0 := rfl
theorem code58 : Try.f58.body = some (.seq (.region 0 R58_0 false) (.seq (.seq (.region 1 R58_1 false) (.cond (.tmp 16) (.seq (.region 2 R58_2 false) .ret) .skip)) (.seq (.region 3 R58_3 false) (.seq (.seq (.region 4 R58_4 false) (.block 0 (.loop L58_0))) M58_0)))) := by kernel_rfl
noncomputable def R59_0 : Array Oper := opsAt Try.f59 [0]
noncomputable def R59_1 : Array Oper := opsAt Try.f59 [1, 0, 0]
noncomputable def R59_2 : Array Oper := opsAt Try.f59 [1, 0, 1, 0, 0]
noncomputable def R59_3 : Array Oper := opsAt Try.f59 [1, 1, 0]
noncomputable def R59_4 : Array Oper := opsAt Try.f59 [1, 1, 1, 0, 0]
noncomputable def R59_5 : Array Oper := opsAt Try.f59 [1, 1, 1, 0, 1, 0, 0, 0, 0]
noncomputable def R59_8 : Array Oper := opsAt Try.f59 [1, 1, 1, 0, 1, 0, 0, 1, 0, 0, 0, 0]
noncomputable def R59_9 : Array Oper := opsAt Try.f59 [1, 1, 1, 0, 1, 0, 0, 1, 0, 0, 0, 1, 1, 0]
noncomputable def R59_10 : Array Oper := opsAt Try.f59 [1, 1, 1, 0, 1, 0, 0, 1, 0, 0, 0, 1, 1, 1, 0]
noncomputable def R59_7 : Array Oper := opsAt Try.f59 [1, 1, 1, 0, 1, 0, 0, 1, 0, 0, 0, 1, 1, 1, 1]
noncomputable def R59_6 : Array Oper := opsAt Try.f59 [1, 1, 1, 0, 1, 0, 0, 1, 1]
noncomputable def L59_0 : Code := .seq (.seq (.region 5 R59_5 false) (.cond (.tmp 27) .skip (.exit 0))) (.seq (.block 1 (.block 2 (.seq (.region 8 R59_8 false) (.cond (.tmp 39) .skip (.seq (.region 9 R59_9 false) (.cond (.tmp 46) (.region 10 R59_10 true) (.region 7 R59_7 true))))))) (.region 6 R59_6 false))
theorem lpL59_0 : loops L59_0 = 0 := rfl
noncomputable def R59_11 : Array Oper := opsAt Try.f59 [1, 1, 1, 1, 0]
noncomputable def M59_0 : Code := .seq (.region 11 R59_11 false) .ret
theorem lpM59_0 : loops M59_0 = 0 := rfl
theorem code59 : Try.f59.body = some (.seq (.region 0 R59_0 false) (.seq (.seq (.region 1 R59_1 false) (.cond (.tmp 19) (.seq (.region 2 R59_2 false) .ret) .skip)) (.seq (.region 3 R59_3 false) (.seq (.seq (.region 4 R59_4 false) (.block 0 (.loop L59_0))) M59_0)))) := by kernel_rfl
noncomputable def R60_0 : Array Oper := opsAt Try.f60 [0]
noncomputable def R60_1 : Array Oper := opsAt Try.f60 [1, 0]
noncomputable def R60_2 : Array Oper := opsAt Try.f60 [1, 1, 0]
noncomputable def R60_3 : Array Oper := opsAt Try.f60 [1, 1, 1, 0]
theorem code60 : Try.f60.body = some (.seq (.region 0 R60_0 false) (.seq (.region 1 R60_1 false) (.seq (.region 2 R60_2 false) (.seq (.region 3 R60_3 false) .ret)))) := by kernel_rfl
noncomputable def R61_0 : Array Oper := opsAt Try.f61 [0]
noncomputable def R61_1 : Array Oper := opsAt Try.f61 [1, 0, 0]
noncomputable def R61_2 : Array Oper := opsAt Try.f61 [1, 0, 1, 0, 0]
noncomputable def R61_3 : Array Oper := opsAt Try.f61 [1, 1, 0]
theorem code61 : Try.f61.body = some (.seq (.region 0 R61_0 false) (.seq (.seq (.region 1 R61_1 false) (.cond (.tmp 20) (.seq (.region 2 R61_2 false) .ret) .skip)) (.seq (.region 3 R61_3 false) .ret))) := by kernel_rfl
noncomputable def R62_0 : Array Oper := opsAt Try.f62 [0]
noncomputable def R62_1 : Array Oper := opsAt Try.f62 [1, 0, 0]
noncomputable def R62_2 : Array Oper := opsAt Try.f62 [1, 0, 1, 0, 0]
noncomputable def R62_3 : Array Oper := opsAt Try.f62 [1, 1, 0]
noncomputable def R62_4 : Array Oper := opsAt Try.f62 [1, 1, 1, 0, 0]
noncomputable def R62_5 : Array Oper := opsAt Try.f62 [1, 1, 1, 0, 1, 0, 0, 0, 0]
noncomputable def R62_7 : Array Oper := opsAt Try.f62 [1, 1, 1, 0, 1, 0, 0, 1, 0, 0, 0]
noncomputable def R62_8 : Array Oper := opsAt Try.f62 [1, 1, 1, 0, 1, 0, 0, 1, 0, 0, 1, 0]
noncomputable def R62_6 : Array Oper := opsAt Try.f62 [1, 1, 1, 0, 1, 0, 0, 1, 1]
noncomputable def L62_0 : Code := .seq (.seq (.region 5 R62_5 false) (.cond (.tmp 35) .skip (.exit 0))) (.seq (.block 1 (.seq (.region 7 R62_7 false) (.cond (.tmp 43) (.region 8 R62_8 true) .skip))) (.region 6 R62_6 false))
theorem lpL62_0 : loops L62_0 = 0 := rfl
noncomputable def R62_9 : Array Oper := opsAt Try.f62 [1, 1, 1, 1, 0]
noncomputable def M62_0 : Code := .seq (.region 9 R62_9 false) .ret
theorem lpM62_0 : loops M62_0 = 0 := rfl
theorem code62 : Try.f62.body = some (.seq (.region 0 R62_0 false) (.seq (.seq (.region 1 R62_1 false) (.cond (.tmp 27) (.seq (.region 2 R62_2 false) .ret) .skip)) (.seq (.region 3 R62_3 false) (.seq (.seq (.region 4 R62_4 false) (.block 0 (.loop L62_0))) M62_0)))) := by kernel_rfl
noncomputable def R63_0 : Array Oper := opsAt Try.f63 [0]
noncomputable def R63_1 : Array Oper := opsAt Try.f63 [1, 0]
theorem code63 : Try.f63.body = some (.seq (.region 0 R63_0 false) (.seq (.region 1 R63_1 false) .ret)) := by kernel_rfl
noncomputable def R64_0 : Array Oper := opsAt Try.f64 [0]
noncomputable def R64_1 : Array Oper := opsAt Try.f64 [1, 0]
theorem code64 : Try.f64.body = some (.seq (.region 0 R64_0 false) (.seq (.region 1 R64_1 false) .ret)) := by kernel_rfl
noncomputable def R65_0 : Array Oper := opsAt Try.f65 [0]
noncomputable def R65_1 : Array Oper := opsAt Try.f65 [1, 0, 0]
noncomputable def R65_2 : Array Oper := opsAt Try.f65 [1, 0, 1, 0, 0]
noncomputable def R65_3 : Array Oper := opsAt Try.f65 [1, 1, 0]
noncomputable def R65_4 : Array Oper := opsAt Try.f65 [1, 1, 1, 0, 0]
noncomputable def R65_5 : Array Oper := opsAt Try.f65 [1, 1, 1, 0, 1, 0, 0, 0, 0]
noncomputable def R65_7 : Array Oper := opsAt Try.f65 [1, 1, 1, 0, 1, 0, 0, 1, 0, 0, 0]
noncomputable def R65_8 : Array Oper := opsAt Try.f65 [1, 1, 1, 0, 1, 0, 0, 1, 0, 0, 1, 0]
noncomputable def R65_6 : Array Oper := opsAt Try.f65 [1, 1, 1, 0, 1, 0, 0, 1, 1]
noncomputable def L65_0 : Code := .seq (.seq (.region 5 R65_5 false) (.cond (.tmp 16) .skip (.exit 0))) (.seq (.block 1 (.seq (.region 7 R65_7 false) (.cond (.tmp 24) (.region 8 R65_8 true) .skip))) (.region 6 R65_6 false))
theorem lpL65_0 : loops L65_0 = 0 := rfl
noncomputable def R65_9 : Array Oper := opsAt Try.f65 [1, 1, 1, 1, 0]
noncomputable def M65_0 : Code := .seq (.region 9 R65_9 false) .ret
theorem lpM65_0 : loops M65_0 = 0 := rfl
theorem code65 : Try.f65.body = some (.seq (.region 0 R65_0 false) (.seq (.seq (.region 1 R65_1 false) (.cond (.tmp 8) (.seq (.region 2 R65_2 false) .ret) .skip)) (.seq (.region 3 R65_3 false) (.seq (.seq (.region 4 R65_4 false) (.block 0 (.loop L65_0))) M65_0)))) := by kernel_rfl
noncomputable def R66_0 : Array Oper := opsAt Try.f66 [0]
noncomputable def R66_1 : Array Oper := opsAt Try.f66 [1, 0]
noncomputable def R66_2 : Array Oper := opsAt Try.f66 [1, 1, 0, 0]
noncomputable def R66_3 : Array Oper := opsAt Try.f66 [1, 1, 0, 1, 0, 0]
noncomputable def R66_4 : Array Oper := opsAt Try.f66 [1, 1, 1, 0]
theorem code66 : Try.f66.body = some (.seq (.region 0 R66_0 false) (.seq (.region 1 R66_1 false) (.seq (.seq (.region 2 R66_2 false) (.cond (.tmp 10) (.seq (.region 3 R66_3 false) .ret) .skip)) (.seq (.region 4 R66_4 false) .ret)))) := by kernel_rfl
noncomputable def R67_0 : Array Oper := opsAt Try.f67 [0]
noncomputable def R67_1 : Array Oper := opsAt Try.f67 [1, 0, 0]
noncomputable def R67_2 : Array Oper := opsAt Try.f67 [1, 0, 1, 0, 0]
noncomputable def R67_3 : Array Oper := opsAt Try.f67 [1, 1, 0]
noncomputable def R67_4 : Array Oper := opsAt Try.f67 [1, 1, 1, 0, 0]
noncomputable def R67_5 : Array Oper := opsAt Try.f67 [1, 1, 1, 0, 1, 0, 0, 0, 0]
noncomputable def R67_7 : Array Oper := opsAt Try.f67 [1, 1, 1, 0, 1, 0, 0, 1, 0, 0, 0]
noncomputable def R67_8 : Array Oper := opsAt Try.f67 [1, 1, 1, 0, 1, 0, 0, 1, 0, 0, 1, 0, 0]
noncomputable def R67_9 : Array Oper := opsAt Try.f67 [1, 1, 1, 0, 1, 0, 0, 1, 0, 0, 1, 1, 0]
noncomputable def R67_10 : Array Oper := opsAt Try.f67 [1, 1, 1, 0, 1, 0, 0, 1, 0, 0, 1, 1, 1, 0]
noncomputable def R67_11 : Array Oper := opsAt Try.f67 [1, 1, 1, 0, 1, 0, 0, 1, 0, 0, 1, 1, 1, 1, 0]
noncomputable def R67_12 : Array Oper := opsAt Try.f67 [1, 1, 1, 0, 1, 0, 0, 1, 0, 0, 1, 1, 1, 1, 1]
noncomputable def R67_6 : Array Oper := opsAt Try.f67 [1, 1, 1, 0, 1, 0, 0, 1, 1]
noncomputable def L67_0 : Code := .seq (.seq (.region 5 R67_5 false) (.cond (.tmp 19) .skip (.exit 0))) (.seq (.block 1 (.seq (.region 7 R67_7 false) (.seq (.seq (.region 8 R67_8 false) (.cond (.tmp 29) (.exit 1) .skip)) (.seq (.region 9 R67_9 false) (.seq (.region 10 R67_10 false) (.seq (.region 11 R67_11 false) (.region 12 R67_12 false))))))) (.region 6 R67_6 false))
theorem lpL67_0 : loops L67_0 = 0 := rfl
noncomputable def R67_13 : Array Oper := opsAt Try.f67 [1, 1, 1, 1, 0]
noncomputable def M67_0 : Code := .seq (.region 13 R67_13 false) .ret
theorem lpM67_0 : loops M67_0 = 0 := rfl
theorem code67 : Try.f67.body = some (.seq (.region 0 R67_0 false) (.seq (.seq (.region 1 R67_1 false) (.cond (.tmp 11) (.seq (.region 2 R67_2 false) .ret) .skip)) (.seq (.region 3 R67_3 false) (.seq (.seq (.region 4 R67_4 false) (.block 0 (.loop L67_0))) M67_0)))) := by kernel_rfl
noncomputable def R68_0 : Array Oper := opsAt Try.f68 [0]
noncomputable def R68_1 : Array Oper := opsAt Try.f68 [1, 0]
noncomputable def R68_2 : Array Oper := opsAt Try.f68 [1, 1, 0, 0]
noncomputable def R68_3 : Array Oper := opsAt Try.f68 [1, 1, 0, 1, 0, 0, 0, 0]
noncomputable def R68_5 : Array Oper := opsAt Try.f68 [1, 1, 0, 1, 0, 0, 1, 0, 0]
noncomputable def R68_4 : Array Oper := opsAt Try.f68 [1, 1, 0, 1, 0, 0, 1, 1]
noncomputable def L68_0 : Code := .seq (.seq (.region 3 R68_3 false) (.cond (.tmp 11) .skip (.exit 0))) (.seq (.block 1 (.region 5 R68_5 false)) (.region 4 R68_4 false))
theorem lpL68_0 : loops L68_0 = 0 := rfl
noncomputable def R68_6 : Array Oper := opsAt Try.f68 [1, 1, 1, 0]
noncomputable def M68_0 : Code := .seq (.region 6 R68_6 false) .ret
theorem lpM68_0 : loops M68_0 = 0 := rfl
theorem code68 : Try.f68.body = some (.seq (.region 0 R68_0 false) (.seq (.region 1 R68_1 false) (.seq (.seq (.region 2 R68_2 false) (.block 0 (.loop L68_0))) M68_0))) := by kernel_rfl
noncomputable def R69_0 : Array Oper := opsAt Try.f69 [0]
noncomputable def R69_1 : Array Oper := opsAt Try.f69 [1, 0, 0]
noncomputable def R69_2 : Array Oper := opsAt Try.f69 [1, 0, 1, 0, 0]
noncomputable def R69_3 : Array Oper := opsAt Try.f69 [1, 1, 0]
noncomputable def R69_4 : Array Oper := opsAt Try.f69 [1, 1, 1, 0, 0]
noncomputable def R69_5 : Array Oper := opsAt Try.f69 [1, 1, 1, 0, 1, 0, 0, 0, 0]
noncomputable def R69_6 : Array Oper := opsAt Try.f69 [1, 1, 1, 0, 1, 0, 0, 1, 0, 0]
noncomputable def R69_7 : Array Oper := opsAt Try.f69 [1, 1, 1, 0, 1, 0, 0, 1, 0, 1, 0]
noncomputable def R69_8 : Array Oper := opsAt Try.f69 [1, 1, 1, 0, 1, 0, 0, 1, 0, 1, 1, 0, 0, 0]
noncomputable def R69_9 : Array Oper := opsAt Try.f69 [1, 1, 1, 0, 1, 0, 0, 1, 0, 1, 1, 0, 0, 1, 1, 0, 0, 0]
noncomputable def R69_10 : Array Oper := opsAt Try.f69 [1, 1, 1, 0, 1, 0, 0, 1, 0, 1, 1, 0, 0, 1, 1, 0, 0, 1, 0]
noncomputable def R69_11 : Array Oper := opsAt Try.f69 [1, 1, 1, 0, 1, 0, 0, 1, 0, 1, 1, 0, 0, 1, 1, 0, 0, 1, 1, 0]
noncomputable def R69_12 : Array Oper := opsAt Try.f69 [1, 1, 1, 0, 1, 0, 0, 1, 0, 1, 1, 0, 0, 1, 1, 0, 0, 1, 1, 1, 0, 0]
noncomputable def R69_13 : Array Oper := opsAt Try.f69 [1, 1, 1, 0, 1, 0, 0, 1, 0, 1, 1, 0, 0, 1, 1, 0, 0, 1, 1, 1, 0, 1, 0]
noncomputable def R69_14 : Array Oper := opsAt Try.f69 [1, 1, 1, 0, 1, 0, 0, 1, 0, 1, 1, 0, 0, 1, 1, 1]
noncomputable def L69_1 : Code := .seq (.region 8 R69_8 false) (.seq (.cond (.tmp 19) .skip (.exit 2)) (.seq (.block 3 (.seq (.region 9 R69_9 false) (.seq (.region 10 R69_10 true) (.seq (.region 11 R69_11 false) (.cond (.tmp 31) (.seq (.region 12 R69_12 false) (.seq (.region 13 R69_13 false) (.exit 2))) .skip))))) (.region 14 R69_14 false)))
theorem lpL69_1 : loops L69_1 = 0 := rfl
noncomputable def L69_0 : Code := .seq (.seq (.region 5 R69_5 false) (.cond (.tmp 15) .skip (.exit 0))) (.block 1 (.seq (.region 6 R69_6 false) (.seq (.region 7 R69_7 false) (.block 2 (.loop L69_1)))))
theorem lpL69_0 : loops L69_0 = 1 := rfl
noncomputable def R69_15 : Array Oper := opsAt Try.f69 [1, 1, 1, 1, 0]
noncomputable def M69_0 : Code := .seq (.region 15 R69_15 false) .ret
theorem lpM69_0 : loops M69_0 = 0 := rfl
theorem code69 : Try.f69.body = some (.seq (.region 0 R69_0 false) (.seq (.seq (.region 1 R69_1 false) (.cond (.tmp 12) (.seq (.region 2 R69_2 false) .ret) .skip)) (.seq (.region 3 R69_3 false) (.seq (.seq (.region 4 R69_4 false) (.block 0 (.loop L69_0))) M69_0)))) := by kernel_rfl
noncomputable def R70_0 : Array Oper := opsAt Try.f70 [0]
noncomputable def R70_1 : Array Oper := opsAt Try.f70 [1, 0, 0]
noncomputable def R70_2 : Array Oper := opsAt Try.f70 [1, 0, 1, 0, 0]
noncomputable def R70_3 : Array Oper := opsAt Try.f70 [1, 1, 0, 0]
noncomputable def R70_4 : Array Oper := opsAt Try.f70 [1, 1, 0, 1, 0, 0, 0, 0]
noncomputable def R70_6 : Array Oper := opsAt Try.f70 [1, 1, 0, 1, 0, 0, 1, 0, 0, 0]
noncomputable def R70_7 : Array Oper := opsAt Try.f70 [1, 1, 0, 1, 0, 0, 1, 0, 0, 1, 0, 0]
noncomputable def R70_5 : Array Oper := opsAt Try.f70 [1, 1, 0, 1, 0, 0, 1, 1]
noncomputable def L70_0 : Code := .seq (.seq (.region 4 R70_4 false) (.cond (.tmp 14) .skip (.exit 0))) (.seq (.block 1 (.seq (.region 6 R70_6 true) (.cond (.tmp 26) (.seq (.region 7 R70_7 false) .ret) .skip))) (.region 5 R70_5 false))
theorem lpL70_0 : loops L70_0 = 0 := rfl
noncomputable def R70_8 : Array Oper := opsAt Try.f70 [1, 1, 1, 0]
noncomputable def M70_0 : Code := .seq (.region 8 R70_8 false) .ret
theorem lpM70_0 : loops M70_0 = 0 := rfl
theorem code70 : Try.f70.body = some (.seq (.region 0 R70_0 false) (.seq (.seq (.region 1 R70_1 false) (.cond (.tmp 10) (.seq (.region 2 R70_2 false) .ret) .skip)) (.seq (.seq (.region 3 R70_3 false) (.block 0 (.loop L70_0))) M70_0))) := by kernel_rfl
noncomputable def R71_0 : Array Oper := opsAt Try.f71 [0]
noncomputable def R71_1 : Array Oper := opsAt Try.f71 [1, 0, 0]
noncomputable def R71_2 : Array Oper := opsAt Try.f71 [1, 0, 1, 0, 0, 0, 0]
noncomputable def R71_4 : Array Oper := opsAt Try.f71 [1, 0, 1, 0, 0, 1, 0, 0, 0]
noncomputable def R71_5 : Array Oper := opsAt Try.f71 [1, 0, 1, 0, 0, 1, 0, 0, 1, 0]
noncomputable def R71_6 : Array Oper := opsAt Try.f71 [1, 0, 1, 0, 0, 1, 0, 0, 1, 1, 0]
noncomputable def R71_7 : Array Oper := opsAt Try.f71 [1, 0, 1, 0, 0, 1, 0, 0, 1, 1, 1]
noncomputable def R71_3 : Array Oper := opsAt Try.f71 [1, 0, 1, 0, 0, 1, 1]
noncomputable def L71_0 : Code := .seq (.seq (.region 2 R71_2 false) (.cond (.tmp 9) .skip (.exit 0))) (.seq (.block 1 (.seq (.region 4 R71_4 false) (.seq (.region 5 R71_5 false) (.seq (.region 6 R71_6 false) (.region 7 R71_7 false))))) (.region 3 R71_3 false))
theorem lpL71_0 : loops L71_0 = 0 := rfl
noncomputable def R71_8 : Array Oper := opsAt Try.f71 [1, 1, 0]
noncomputable def M71_0 : Code := .seq (.region 8 R71_8 false) .ret
theorem lpM71_0 : loops M71_0 = 0 := rfl
theorem code71 : Try.f71.body = some (.seq (.region 0 R71_0 false) (.seq (.seq (.region 1 R71_1 false) (.block 0 (.loop L71_0))) M71_0)) := by kernel_rfl
noncomputable def R72_0 : Array Oper := opsAt Try.f72 [0]
noncomputable def R72_1 : Array Oper := opsAt Try.f72 [1, 0, 0]
noncomputable def R72_2 : Array Oper := opsAt Try.f72 [1, 0, 1, 0, 0, 0, 0]
noncomputable def R72_4 : Array Oper := opsAt Try.f72 [1, 0, 1, 0, 0, 1, 0, 0, 0, 0]
noncomputable def R72_5 : Array Oper := opsAt Try.f72 [1, 0, 1, 0, 0, 1, 0, 0, 0, 1, 0, 0]
noncomputable def R72_6 : Array Oper := opsAt Try.f72 [1, 0, 1, 0, 0, 1, 0, 0, 1, 0]
noncomputable def R72_7 : Array Oper := opsAt Try.f72 [1, 0, 1, 0, 0, 1, 0, 0, 1, 1, 0, 0]
noncomputable def R72_8 : Array Oper := opsAt Try.f72 [1, 0, 1, 0, 0, 1, 0, 0, 1, 1, 0, 1, 0, 0]
noncomputable def R72_9 : Array Oper := opsAt Try.f72 [1, 0, 1, 0, 0, 1, 0, 0, 1, 1, 1]
noncomputable def R72_3 : Array Oper := opsAt Try.f72 [1, 0, 1, 0, 0, 1, 1]
noncomputable def L72_0 : Code := .seq (.seq (.region 2 R72_2 false) (.cond (.tmp 9) .skip (.exit 0))) (.seq (.block 1 (.seq (.seq (.region 4 R72_4 false) (.cond (.tmp 18) (.seq (.region 5 R72_5 false) .ret) .skip)) (.seq (.region 6 R72_6 false) (.seq (.seq (.region 7 R72_7 false) (.cond (.tmp 27) (.seq (.region 8 R72_8 false) .ret) .skip)) (.region 9 R72_9 false))))) (.region 3 R72_3 false))
theorem lpL72_0 : loops L72_0 = 0 := rfl
noncomputable def R72_10 : Array Oper := opsAt Try.f72 [1, 1, 0]
noncomputable def M72_0 : Code := .seq (.region 10 R72_10 false) .ret
theorem lpM72_0 : loops M72_0 = 0 := rfl
theorem code72 : Try.f72.body = some (.seq (.region 0 R72_0 false) (.seq (.seq (.region 1 R72_1 false) (.block 0 (.loop L72_0))) M72_0)) := by kernel_rfl
noncomputable def R73_0 : Array Oper := opsAt Try.f73 [0]
noncomputable def R73_1 : Array Oper := opsAt Try.f73 [1, 0]
noncomputable def R73_2 : Array Oper := opsAt Try.f73 [1, 1, 0, 0]
noncomputable def R73_3 : Array Oper := opsAt Try.f73 [1, 1, 0, 1, 0, 0]
noncomputable def R73_4 : Array Oper := opsAt Try.f73 [1, 1, 1, 0, 0]
noncomputable def R73_5 : Array Oper := opsAt Try.f73 [1, 1, 1, 0, 1, 0, 0, 0, 0]
noncomputable def R73_7 : Array Oper := opsAt Try.f73 [1, 1, 1, 0, 1, 0, 0, 1, 0, 0, 0]
noncomputable def R73_8 : Array Oper := opsAt Try.f73 [1, 1, 1, 0, 1, 0, 0, 1, 0, 0, 1, 0]
noncomputable def R73_6 : Array Oper := opsAt Try.f73 [1, 1, 1, 0, 1, 0, 0, 1, 1]
noncomputable def L73_0 : Code := .seq (.seq (.region 5 R73_5 false) (.cond (.tmp 14) .skip (.exit 0))) (.seq (.block 1 (.seq (.region 7 R73_7 false) (.cond (.tmp 22) (.region 8 R73_8 false) .skip))) (.region 6 R73_6 false))
theorem lpL73_0 : loops L73_0 = 0 := rfl
noncomputable def R73_9 : Array Oper := opsAt Try.f73 [1, 1, 1, 1, 0]
noncomputable def M73_0 : Code := .seq (.region 9 R73_9 false) .ret
theorem lpM73_0 : loops M73_0 = 0 := rfl
theorem code73 : Try.f73.body = some (.seq (.region 0 R73_0 false) (.seq (.region 1 R73_1 false) (.seq (.seq (.region 2 R73_2 false) (.cond (.tmp 9) (.seq (.region 3 R73_3 false) .ret) .skip)) (.seq (.seq (.region 4 R73_4 false) (.block 0 (.loop L73_0))) M73_0)))) := by kernel_rfl
noncomputable def R74_0 : Array Oper := opsAt Try.f74 [0]
noncomputable def R74_1 : Array Oper := opsAt Try.f74 [1, 0, 0]
noncomputable def R74_2 : Array Oper := opsAt Try.f74 [1, 0, 1, 0, 0]
noncomputable def R74_3 : Array Oper := opsAt Try.f74 [1, 1, 0]
noncomputable def R74_4 : Array Oper := opsAt Try.f74 [1, 1, 1, 0, 0]
noncomputable def R74_5 : Array Oper := opsAt Try.f74 [1, 1, 1, 0, 1, 0, 0, 0]
noncomputable def R74_6 : Array Oper := opsAt Try.f74 [1, 1, 1, 0, 1, 0, 0, 1, 1, 0, 0, 0]
noncomputable def R74_7 : Array Oper := opsAt Try.f74 [1, 1, 1, 0, 1, 0, 0, 1, 1, 0, 0, 1, 0]
noncomputable def R74_8 : Array Oper := opsAt Try.f74 [1, 1, 1, 0, 1, 0, 0, 1, 1, 0, 0, 1, 1, 0]
noncomputable def R74_9 : Array Oper := opsAt Try.f74 [1, 1, 1, 0, 1, 0, 0, 1, 1, 1]
noncomputable def L74_0 : Code := .seq (.region 5 R74_5 false) (.seq (.cond (.tmp 13) .skip (.exit 0)) (.seq (.block 1 (.seq (.region 6 R74_6 false) (.seq (.region 7 R74_7 false) (.cond (.tmp 18) (.region 8 R74_8 false) .skip)))) (.region 9 R74_9 false)))
theorem lpL74_0 : loops L74_0 = 0 := rfl
noncomputable def R74_10 : Array Oper := opsAt Try.f74 [1, 1, 1, 1, 0]
noncomputable def R74_11 : Array Oper := opsAt Try.f74 [1, 1, 1, 1, 1, 0]
noncomputable def M74_0 : Code := .seq (.region 10 R74_10 false) (.seq (.region 11 R74_11 false) .ret)
theorem lpM74_0 : loops M74_0 = 0 := rfl
theorem code74 : Try.f74.body = some (.seq (.region 0 R74_0 false) (.seq (.seq (.region 1 R74_1 false) (.cond (.tmp 9) (.seq (.region 2 R74_2 false) .ret) .skip)) (.seq (.region 3 R74_3 false) (.seq (.seq (.region 4 R74_4 false) (.block 0 (.loop L74_0))) M74_0)))) := by kernel_rfl
noncomputable def R75_0 : Array Oper := opsAt Try.f75 [0]
noncomputable def R75_1 : Array Oper := opsAt Try.f75 [1, 0, 0]
noncomputable def R75_2 : Array Oper := opsAt Try.f75 [1, 0, 1, 0, 0]
noncomputable def R75_3 : Array Oper := opsAt Try.f75 [1, 1, 0, 0]
noncomputable def R75_4 : Array Oper := opsAt Try.f75 [1, 1, 0, 1, 0, 0, 0, 0]
noncomputable def R75_6 : Array Oper := opsAt Try.f75 [1, 1, 0, 1, 0, 0, 1, 0, 0, 0]
noncomputable def R75_7 : Array Oper := opsAt Try.f75 [1, 1, 0, 1, 0, 0, 1, 0, 0, 1, 0, 0]
noncomputable def R75_5 : Array Oper := opsAt Try.f75 [1, 1, 0, 1, 0, 0, 1, 1]
noncomputable def L75_0 : Code := .seq (.seq (.region 4 R75_4 false) (.cond (.tmp 14) .skip (.exit 0))) (.seq (.block 1 (.seq (.region 6 R75_6 true) (.cond (.tmp 25) (.seq (.region 7 R75_7 false) .ret) .skip))) (.region 5 R75_5 false))
theorem lpL75_0 : loops L75_0 = 0 := rfl
noncomputable def R75_8 : Array Oper := opsAt Try.f75 [1, 1, 1, 0]
noncomputable def M75_0 : Code := .seq (.region 8 R75_8 false) .ret
theorem lpM75_0 : loops M75_0 = 0 := rfl
theorem code75 : Try.f75.body = some (.seq (.region 0 R75_0 false) (.seq (.seq (.region 1 R75_1 false) (.cond (.tmp 10) (.seq (.region 2 R75_2 false) .ret) .skip)) (.seq (.seq (.region 3 R75_3 false) (.block 0 (.loop L75_0))) M75_0))) := by kernel_rfl
noncomputable def R76_0 : Array Oper := opsAt Try.f76 [0]
noncomputable def R76_1 : Array Oper := opsAt Try.f76 [1, 0, 0]
noncomputable def R76_2 : Array Oper := opsAt Try.f76 [1, 0, 1, 0, 0, 0, 0]
noncomputable def R76_4 : Array Oper := opsAt Try.f76 [1, 0, 1, 0, 0, 1, 0, 0, 0]
noncomputable def R76_5 : Array Oper := opsAt Try.f76 [1, 0, 1, 0, 0, 1, 0, 0, 1]
noncomputable def R76_3 : Array Oper := opsAt Try.f76 [1, 0, 1, 0, 0, 1, 1]
noncomputable def L76_0 : Code := .seq (.seq (.region 2 R76_2 false) (.cond (.tmp 9) .skip (.exit 0))) (.seq (.block 1 (.seq (.region 4 R76_4 false) (.region 5 R76_5 false))) (.region 3 R76_3 false))
theorem lpL76_0 : loops L76_0 = 0 := rfl
noncomputable def R76_6 : Array Oper := opsAt Try.f76 [1, 1, 0]
noncomputable def M76_0 : Code := .seq (.region 6 R76_6 false) .ret
theorem lpM76_0 : loops M76_0 = 0 := rfl
theorem code76 : Try.f76.body = some (.seq (.region 0 R76_0 false) (.seq (.seq (.region 1 R76_1 false) (.block 0 (.loop L76_0))) M76_0)) := by kernel_rfl
noncomputable def R77_0 : Array Oper := opsAt Try.f77 [0]
noncomputable def R77_1 : Array Oper := opsAt Try.f77 [1, 0, 0]
noncomputable def R77_2 : Array Oper := opsAt Try.f77 [1, 0, 1, 0, 0, 0, 0]
noncomputable def R77_4 : Array Oper := opsAt Try.f77 [1, 0, 1, 0, 0, 1, 0, 0, 0, 0]
noncomputable def R77_5 : Array Oper := opsAt Try.f77 [1, 0, 1, 0, 0, 1, 0, 0, 0, 1, 0, 0]
noncomputable def R77_6 : Array Oper := opsAt Try.f77 [1, 0, 1, 0, 0, 1, 0, 0, 1]
noncomputable def R77_3 : Array Oper := opsAt Try.f77 [1, 0, 1, 0, 0, 1, 1]
noncomputable def L77_0 : Code := .seq (.seq (.region 2 R77_2 false) (.cond (.tmp 9) .skip (.exit 0))) (.seq (.block 1 (.seq (.seq (.region 4 R77_4 false) (.cond (.tmp 17) (.seq (.region 5 R77_5 false) .ret) .skip)) (.region 6 R77_6 false))) (.region 3 R77_3 false))
theorem lpL77_0 : loops L77_0 = 0 := rfl
noncomputable def R77_7 : Array Oper := opsAt Try.f77 [1, 1, 0]
noncomputable def M77_0 : Code := .seq (.region 7 R77_7 false) .ret
theorem lpM77_0 : loops M77_0 = 0 := rfl
theorem code77 : Try.f77.body = some (.seq (.region 0 R77_0 false) (.seq (.seq (.region 1 R77_1 false) (.block 0 (.loop L77_0))) M77_0)) := by kernel_rfl
noncomputable def R78_0 : Array Oper := opsAt Try.f78 [0]
noncomputable def R78_1 : Array Oper := opsAt Try.f78 [1, 0]
noncomputable def R78_2 : Array Oper := opsAt Try.f78 [1, 1, 0, 0]
noncomputable def R78_3 : Array Oper := opsAt Try.f78 [1, 1, 0, 1, 0, 0]
noncomputable def R78_4 : Array Oper := opsAt Try.f78 [1, 1, 1, 0, 0]
noncomputable def R78_5 : Array Oper := opsAt Try.f78 [1, 1, 1, 0, 1, 0, 0, 0, 0]
noncomputable def R78_7 : Array Oper := opsAt Try.f78 [1, 1, 1, 0, 1, 0, 0, 1, 0, 0, 0]
noncomputable def R78_8 : Array Oper := opsAt Try.f78 [1, 1, 1, 0, 1, 0, 0, 1, 0, 0, 1, 0]
noncomputable def R78_9 : Array Oper := opsAt Try.f78 [1, 1, 1, 0, 1, 0, 0, 1, 0, 0, 1, 1, 0, 0]
noncomputable def R78_6 : Array Oper := opsAt Try.f78 [1, 1, 1, 0, 1, 0, 0, 1, 1]
noncomputable def L78_0 : Code := .seq (.seq (.region 5 R78_5 false) (.cond (.tmp 15) .skip (.exit 0))) (.seq (.block 1 (.seq (.region 7 R78_7 false) (.seq (.region 8 R78_8 false) (.cond (.tmp 25) (.seq (.region 9 R78_9 false) .ret) .skip)))) (.region 6 R78_6 false))
theorem lpL78_0 : loops L78_0 = 0 := rfl
noncomputable def R78_10 : Array Oper := opsAt Try.f78 [1, 1, 1, 1, 0]
noncomputable def M78_0 : Code := .seq (.region 10 R78_10 false) .ret
theorem lpM78_0 : loops M78_0 = 0 := rfl
theorem code78 : Try.f78.body = some (.seq (.region 0 R78_0 false) (.seq (.region 1 R78_1 false) (.seq (.seq (.region 2 R78_2 false) (.cond (.tmp 11) (.seq (.region 3 R78_3 false) .ret) .skip)) (.seq (.seq (.region 4 R78_4 false) (.block 0 (.loop L78_0))) M78_0)))) := by kernel_rfl
noncomputable def R79_0 : Array Oper := opsAt Try.f79 [0]
noncomputable def R79_1 : Array Oper := opsAt Try.f79 [1, 0, 0]
noncomputable def R79_2 : Array Oper := opsAt Try.f79 [1, 0, 1, 0, 0]
noncomputable def R79_3 : Array Oper := opsAt Try.f79 [1, 1, 0]
theorem code79 : Try.f79.body = some (.seq (.region 0 R79_0 false) (.seq (.seq (.region 1 R79_1 false) (.cond (.tmp 13) (.seq (.region 2 R79_2 false) .ret) .skip)) (.seq (.region 3 R79_3 false) .ret))) := by kernel_rfl
noncomputable def R80_0 : Array Oper := opsAt Try.f80 [0]
noncomputable def R80_1 : Array Oper := opsAt Try.f80 [1, 0]
noncomputable def R80_2 : Array Oper := opsAt Try.f80 [1, 1, 0, 0]
noncomputable def R80_3 : Array Oper := opsAt Try.f80 [1, 1, 0, 1, 0, 0, 0, 0]
noncomputable def R80_5 : Array Oper := opsAt Try.f80 [1, 1, 0, 1, 0, 0, 1, 0, 0]
noncomputable def R80_4 : Array Oper := opsAt Try.f80 [1, 1, 0, 1, 0, 0, 1, 1]
noncomputable def L80_0 : Code := .seq (.seq (.region 3 R80_3 false) (.cond (.tmp 11) .skip (.exit 0))) (.seq (.block 1 (.region 5 R80_5 false)) (.region 4 R80_4 false))
theorem lpL80_0 : loops L80_0 = 0 := rfl
noncomputable def R80_6 : Array Oper := opsAt Try.f80 [1, 1, 1, 0]
noncomputable def M80_0 : Code := .seq (.region 6 R80_6 false) .ret
theorem lpM80_0 : loops M80_0 = 0 := rfl
theorem code80 : Try.f80.body = some (.seq (.region 0 R80_0 false) (.seq (.region 1 R80_1 false) (.seq (.seq (.region 2 R80_2 false) (.block 0 (.loop L80_0))) M80_0))) := by kernel_rfl
noncomputable def R81_0 : Array Oper := opsAt Try.f81 [0]
noncomputable def R81_1 : Array Oper := opsAt Try.f81 [1, 0, 0]
noncomputable def R81_2 : Array Oper := opsAt Try.f81 [1, 0, 1, 0, 0]
noncomputable def R81_3 : Array Oper := opsAt Try.f81 [1, 1, 0]
noncomputable def R81_4 : Array Oper := opsAt Try.f81 [1, 1, 1, 0, 0]
noncomputable def R81_5 : Array Oper := opsAt Try.f81 [1, 1, 1, 0, 1, 0, 0, 0]
noncomputable def R81_6 : Array Oper := opsAt Try.f81 [1, 1, 1, 0, 1, 0, 0, 1, 1, 0, 0, 0]
noncomputable def R81_7 : Array Oper := opsAt Try.f81 [1, 1, 1, 0, 1, 0, 0, 1, 1, 0, 0, 1, 0]
noncomputable def R81_8 : Array Oper := opsAt Try.f81 [1, 1, 1, 0, 1, 0, 0, 1, 1, 0, 0, 1, 1, 0, 0]
noncomputable def R81_9 : Array Oper := opsAt Try.f81 [1, 1, 1, 0, 1, 0, 0, 1, 1, 0, 0, 1, 1, 0, 1, 0, 0]
noncomputable def R81_10 : Array Oper := opsAt Try.f81 [1, 1, 1, 0, 1, 0, 0, 1, 1, 0, 0, 1, 1, 1]
noncomputable def R81_11 : Array Oper := opsAt Try.f81 [1, 1, 1, 0, 1, 0, 0, 1, 1, 1]
noncomputable def L81_0 : Code := .seq (.region 5 R81_5 false) (.seq (.cond (.tmp 29) .skip (.exit 0)) (.seq (.block 1 (.seq (.region 6 R81_6 false) (.seq (.region 7 R81_7 false) (.seq (.seq (.region 8 R81_8 false) (.cond (.tmp 40) (.seq (.region 9 R81_9 false) .ret) .skip)) (.region 10 R81_10 true))))) (.region 11 R81_11 false)))
theorem lpL81_0 : loops L81_0 = 0 := rfl
noncomputable def R81_12 : Array Oper := opsAt Try.f81 [1, 1, 1, 1, 0]
noncomputable def M81_0 : Code := .seq (.region 12 R81_12 false) .ret
theorem lpM81_0 : loops M81_0 = 0 := rfl
theorem code81 : Try.f81.body = some (.seq (.region 0 R81_0 false) (.seq (.seq (.region 1 R81_1 false) (.cond (.tmp 24) (.seq (.region 2 R81_2 false) .ret) .skip)) (.seq (.region 3 R81_3 false) (.seq (.seq (.region 4 R81_4 false) (.block 0 (.loop L81_0))) M81_0)))) := by kernel_rfl
noncomputable def R82_0 : Array Oper := opsAt Try.f82 [0]
noncomputable def R82_1 : Array Oper := opsAt Try.f82 [1, 0, 0]
noncomputable def R82_2 : Array Oper := opsAt Try.f82 [1, 0, 1, 0, 0]
noncomputable def R82_3 : Array Oper := opsAt Try.f82 [1, 1, 0, 0]
noncomputable def R82_4 : Array Oper := opsAt Try.f82 [1, 1, 0, 1, 0, 0, 0, 0]
noncomputable def R82_6 : Array Oper := opsAt Try.f82 [1, 1, 0, 1, 0, 0, 1, 0, 0, 0]
noncomputable def R82_7 : Array Oper := opsAt Try.f82 [1, 1, 0, 1, 0, 0, 1, 0, 0, 1, 0, 0]
noncomputable def R82_5 : Array Oper := opsAt Try.f82 [1, 1, 0, 1, 0, 0, 1, 1]
noncomputable def L82_0 : Code := .seq (.seq (.region 4 R82_4 false) (.cond (.tmp 14) .skip (.exit 0))) (.seq (.block 1 (.seq (.region 6 R82_6 true) (.cond (.tmp 26) (.seq (.region 7 R82_7 false) .ret) .skip))) (.region 5 R82_5 false))
theorem lpL82_0 : loops L82_0 = 0 := rfl
noncomputable def R82_8 : Array Oper := opsAt Try.f82 [1, 1, 1, 0]
noncomputable def M82_0 : Code := .seq (.region 8 R82_8 false) .ret
theorem lpM82_0 : loops M82_0 = 0 := rfl
theorem code82 : Try.f82.body = some (.seq (.region 0 R82_0 false) (.seq (.seq (.region 1 R82_1 false) (.cond (.tmp 10) (.seq (.region 2 R82_2 false) .ret) .skip)) (.seq (.seq (.region 3 R82_3 false) (.block 0 (.loop L82_0))) M82_0))) := by kernel_rfl
noncomputable def R83_0 : Array Oper := opsAt Try.f83 [0]
noncomputable def R83_1 : Array Oper := opsAt Try.f83 [1, 0, 0]
noncomputable def R83_2 : Array Oper := opsAt Try.f83 [1, 0, 1, 0, 0, 0, 0]
noncomputable def R83_4 : Array Oper := opsAt Try.f83 [1, 0, 1, 0, 0, 1, 0, 0, 0]
noncomputable def R83_5 : Array Oper := opsAt Try.f83 [1, 0, 1, 0, 0, 1, 0, 0, 1, 0]
noncomputable def R83_6 : Array Oper := opsAt Try.f83 [1, 0, 1, 0, 0, 1, 0, 0, 1, 1, 0]
noncomputable def R83_7 : Array Oper := opsAt Try.f83 [1, 0, 1, 0, 0, 1, 0, 0, 1, 1, 1, 0]
noncomputable def R83_8 : Array Oper := opsAt Try.f83 [1, 0, 1, 0, 0, 1, 0, 0, 1, 1, 1, 1]
noncomputable def R83_3 : Array Oper := opsAt Try.f83 [1, 0, 1, 0, 0, 1, 1]
noncomputable def L83_0 : Code := .seq (.seq (.region 2 R83_2 false) (.cond (.tmp 9) .skip (.exit 0))) (.seq (.block 1 (.seq (.region 4 R83_4 false) (.seq (.region 5 R83_5 false) (.seq (.region 6 R83_6 false) (.seq (.region 7 R83_7 false) (.region 8 R83_8 false)))))) (.region 3 R83_3 false))
theorem lpL83_0 : loops L83_0 = 0 := rfl
noncomputable def R83_9 : Array Oper := opsAt Try.f83 [1, 1, 0]
noncomputable def M83_0 : Code := .seq (.region 9 R83_9 false) .ret
theorem lpM83_0 : loops M83_0 = 0 := rfl
theorem code83 : Try.f83.body = some (.seq (.region 0 R83_0 false) (.seq (.seq (.region 1 R83_1 false) (.block 0 (.loop L83_0))) M83_0)) := by kernel_rfl
noncomputable def R84_0 : Array Oper := opsAt Try.f84 [0]
noncomputable def R84_1 : Array Oper := opsAt Try.f84 [1, 0]
noncomputable def R84_2 : Array Oper := opsAt Try.f84 [1, 1, 0, 0]
noncomputable def R84_3 : Array Oper := opsAt Try.f84 [1, 1, 0, 1, 0, 0]
noncomputable def R84_4 : Array Oper := opsAt Try.f84 [1, 1, 1, 0]
theorem code84 : Try.f84.body = some (.seq (.region 0 R84_0 false) (.seq (.region 1 R84_1 false) (.seq (.seq (.region 2 R84_2 false) (.cond (.tmp 10) (.seq (.region 3 R84_3 false) .ret) .skip)) (.seq (.region 4 R84_4 false) .ret)))) := by kernel_rfl
noncomputable def R85_0 : Array Oper := opsAt Try.f85 [0]
noncomputable def R85_1 : Array Oper := opsAt Try.f85 [1, 0]
noncomputable def R85_2 : Array Oper := opsAt Try.f85 [1, 1, 0]
noncomputable def R85_3 : Array Oper := opsAt Try.f85 [1, 1, 1, 0]
noncomputable def R85_4 : Array Oper := opsAt Try.f85 [1, 1, 1, 1, 0, 0]
noncomputable def R85_5 : Array Oper := opsAt Try.f85 [1, 1, 1, 1, 0, 1, 0]
noncomputable def R85_6 : Array Oper := opsAt Try.f85 [1, 1, 1, 1, 1, 0]
theorem code85 : Try.f85.body = some (.seq (.region 0 R85_0 false) (.seq (.region 1 R85_1 false) (.seq (.region 2 R85_2 false) (.seq (.region 3 R85_3 false) (.seq (.seq (.region 4 R85_4 false) (.cond (.tmp 16) (.region 5 R85_5 false) .skip)) (.seq (.region 6 R85_6 false) .ret)))))) := by kernel_rfl
noncomputable def R86_0 : Array Oper := opsAt Try.f86 [0]
noncomputable def R86_1 : Array Oper := opsAt Try.f86 [1, 0, 0]
noncomputable def R86_2 : Array Oper := opsAt Try.f86 [1, 0, 1, 0, 0]
noncomputable def R86_3 : Array Oper := opsAt Try.f86 [1, 1, 0]
noncomputable def R86_4 : Array Oper := opsAt Try.f86 [1, 1, 1, 0, 0]
noncomputable def R86_5 : Array Oper := opsAt Try.f86 [1, 1, 1, 0, 1, 0, 0, 0]
noncomputable def R86_6 : Array Oper := opsAt Try.f86 [1, 1, 1, 0, 1, 0, 0, 1, 1, 0, 0, 0]
noncomputable def R86_7 : Array Oper := opsAt Try.f86 [1, 1, 1, 0, 1, 0, 0, 1, 1, 0, 0, 1, 0]
noncomputable def R86_8 : Array Oper := opsAt Try.f86 [1, 1, 1, 0, 1, 0, 0, 1, 1, 0, 0, 1, 1, 0]
noncomputable def R86_9 : Array Oper := opsAt Try.f86 [1, 1, 1, 0, 1, 0, 0, 1, 1, 0, 0, 1, 1, 1]
noncomputable def R86_10 : Array Oper := opsAt Try.f86 [1, 1, 1, 0, 1, 0, 0, 1, 1, 1]
noncomputable def L86_0 : Code := .seq (.region 5 R86_5 false) (.seq (.cond (.tmp 27) .skip (.exit 0)) (.seq (.block 1 (.seq (.region 6 R86_6 false) (.seq (.region 7 R86_7 false) (.cond (.tmp 33) (.region 8 R86_8 false) (.region 9 R86_9 false))))) (.region 10 R86_10 false)))
theorem lpL86_0 : loops L86_0 = 0 := rfl
noncomputable def R86_11 : Array Oper := opsAt Try.f86 [1, 1, 1, 1, 0, 0]
noncomputable def R86_12 : Array Oper := opsAt Try.f86 [1, 1, 1, 1, 0, 1, 0, 0]
noncomputable def R86_13 : Array Oper := opsAt Try.f86 [1, 1, 1, 1, 1, 0]
noncomputable def M86_0 : Code := .seq (.seq (.region 11 R86_11 false) (.cond (.tmp 44) (.seq (.region 12 R86_12 false) .ret) .skip)) (.seq (.region 13 R86_13 false) .ret)
theorem lpM86_0 : loops M86_0 = 0 := rfl
theorem code86 : Try.f86.body = some (.seq (.region 0 R86_0 false) (.seq (.seq (.region 1 R86_1 false) (.cond (.tmp 23) (.seq (.region 2 R86_2 false) .ret) .skip)) (.seq (.region 3 R86_3 false) (.seq (.seq (.region 4 R86_4 false) (.block 0 (.loop L86_0))) M86_0)))) := by kernel_rfl
noncomputable def R87_0 : Array Oper := opsAt Try.f87 [0]
noncomputable def R87_1 : Array Oper := opsAt Try.f87 [1, 0]
noncomputable def R87_2 : Array Oper := opsAt Try.f87 [1, 1, 0, 0]
noncomputable def R87_3 : Array Oper := opsAt Try.f87 [1, 1, 0, 1, 0, 0]
noncomputable def R87_4 : Array Oper := opsAt Try.f87 [1, 1, 1, 0, 0]
noncomputable def R87_5 : Array Oper := opsAt Try.f87 [1, 1, 1, 0, 1, 0, 0, 0, 0]
noncomputable def R87_7 : Array Oper := opsAt Try.f87 [1, 1, 1, 0, 1, 0, 0, 1, 0, 0, 0]
noncomputable def R87_8 : Array Oper := opsAt Try.f87 [1, 1, 1, 0, 1, 0, 0, 1, 0, 0, 1, 0]
noncomputable def R87_9 : Array Oper := opsAt Try.f87 [1, 1, 1, 0, 1, 0, 0, 1, 0, 0, 1, 1]
noncomputable def R87_6 : Array Oper := opsAt Try.f87 [1, 1, 1, 0, 1, 0, 0, 1, 1]
noncomputable def L87_0 : Code := .seq (.seq (.region 5 R87_5 false) (.cond (.tmp 28) .skip (.exit 0))) (.seq (.block 1 (.seq (.region 7 R87_7 false) (.cond (.tmp 45) (.region 8 R87_8 false) (.region 9 R87_9 false)))) (.region 6 R87_6 false))
theorem lpL87_0 : loops L87_0 = 0 := rfl
noncomputable def R87_10 : Array Oper := opsAt Try.f87 [1, 1, 1, 1, 0, 0]
noncomputable def R87_11 : Array Oper := opsAt Try.f87 [1, 1, 1, 1, 0, 1, 0, 0]
noncomputable def R87_12 : Array Oper := opsAt Try.f87 [1, 1, 1, 1, 1, 0]
noncomputable def M87_0 : Code := .seq (.seq (.region 10 R87_10 false) (.cond (.tmp 58) (.seq (.region 11 R87_11 false) .ret) .skip)) (.seq (.region 12 R87_12 false) .ret)
theorem lpM87_0 : loops M87_0 = 0 := rfl
theorem code87 : Try.f87.body = some (.seq (.region 0 R87_0 false) (.seq (.region 1 R87_1 false) (.seq (.seq (.region 2 R87_2 false) (.cond (.tmp 23) (.seq (.region 3 R87_3 false) .ret) .skip)) (.seq (.seq (.region 4 R87_4 false) (.block 0 (.loop L87_0))) M87_0)))) := by kernel_rfl
noncomputable def R88_0 : Array Oper := opsAt Try.f88 [0]
noncomputable def R88_1 : Array Oper := opsAt Try.f88 [1, 0, 0]
noncomputable def R88_2 : Array Oper := opsAt Try.f88 [1, 0, 1, 0, 0]
noncomputable def R88_3 : Array Oper := opsAt Try.f88 [1, 1, 0, 0]
noncomputable def R88_4 : Array Oper := opsAt Try.f88 [1, 1, 0, 1, 0, 0, 0, 0]
noncomputable def R88_6 : Array Oper := opsAt Try.f88 [1, 1, 0, 1, 0, 0, 1, 0, 0, 0]
noncomputable def R88_7 : Array Oper := opsAt Try.f88 [1, 1, 0, 1, 0, 0, 1, 0, 0, 1, 0, 0]
noncomputable def R88_5 : Array Oper := opsAt Try.f88 [1, 1, 0, 1, 0, 0, 1, 1]
noncomputable def L88_0 : Code := .seq (.seq (.region 4 R88_4 false) (.cond (.tmp 14) .skip (.exit 0))) (.seq (.block 1 (.seq (.region 6 R88_6 true) (.cond (.tmp 25) (.seq (.region 7 R88_7 false) .ret) .skip))) (.region 5 R88_5 false))
theorem lpL88_0 : loops L88_0 = 0 := rfl
noncomputable def R88_8 : Array Oper := opsAt Try.f88 [1, 1, 1, 0]
noncomputable def M88_0 : Code := .seq (.region 8 R88_8 false) .ret
theorem lpM88_0 : loops M88_0 = 0 := rfl
theorem code88 : Try.f88.body = some (.seq (.region 0 R88_0 false) (.seq (.seq (.region 1 R88_1 false) (.cond (.tmp 10) (.seq (.region 2 R88_2 false) .ret) .skip)) (.seq (.seq (.region 3 R88_3 false) (.block 0 (.loop L88_0))) M88_0))) := by kernel_rfl
noncomputable def R89_0 : Array Oper := opsAt Try.f89 [0]
noncomputable def R89_1 : Array Oper := opsAt Try.f89 [1, 0, 0]
noncomputable def R89_2 : Array Oper := opsAt Try.f89 [1, 0, 1, 0, 0]
noncomputable def R89_3 : Array Oper := opsAt Try.f89 [1, 1, 0]
noncomputable def R89_4 : Array Oper := opsAt Try.f89 [1, 1, 1, 0, 0]
noncomputable def R89_5 : Array Oper := opsAt Try.f89 [1, 1, 1, 0, 1, 0, 0, 0]
noncomputable def R89_6 : Array Oper := opsAt Try.f89 [1, 1, 1, 0, 1, 0, 0, 1, 1, 0, 0, 0]
noncomputable def R89_7 : Array Oper := opsAt Try.f89 [1, 1, 1, 0, 1, 0, 0, 1, 1, 0, 0, 1, 0]
noncomputable def R89_8 : Array Oper := opsAt Try.f89 [1, 1, 1, 0, 1, 0, 0, 1, 1, 0, 0, 1, 1, 0]
noncomputable def R89_9 : Array Oper := opsAt Try.f89 [1, 1, 1, 0, 1, 0, 0, 1, 1, 0, 0, 1, 1, 1, 0, 0]
noncomputable def R89_10 : Array Oper := opsAt Try.f89 [1, 1, 1, 0, 1, 0, 0, 1, 1, 0, 0, 1, 1, 1, 0, 1, 0, 0, 0]
noncomputable def R89_11 : Array Oper := opsAt Try.f89 [1, 1, 1, 0, 1, 0, 0, 1, 1, 0, 0, 1, 1, 1, 0, 1, 0, 0, 1, 1, 0, 0, 0]
noncomputable def R89_12 : Array Oper := opsAt Try.f89 [1, 1, 1, 0, 1, 0, 0, 1, 1, 0, 0, 1, 1, 1, 0, 1, 0, 0, 1, 1, 0, 0, 1]
noncomputable def R89_13 : Array Oper := opsAt Try.f89 [1, 1, 1, 0, 1, 0, 0, 1, 1, 0, 0, 1, 1, 1, 0, 1, 0, 0, 1, 1, 1]
noncomputable def L89_1 : Code := .seq (.region 10 R89_10 false) (.seq (.cond (.tmp 30) .skip (.exit 2)) (.seq (.block 3 (.seq (.region 11 R89_11 false) (.region 12 R89_12 false))) (.region 13 R89_13 false)))
theorem lpL89_1 : loops L89_1 = 0 := rfl
noncomputable def R89_14 : Array Oper := opsAt Try.f89 [1, 1, 1, 0, 1, 0, 0, 1, 1, 0, 0, 1, 1, 1, 1]
noncomputable def M89_0 : Code := .region 14 R89_14 false
theorem lpM89_0 : loops M89_0 = 0 := rfl
noncomputable def R89_15 : Array Oper := opsAt Try.f89 [1, 1, 1, 0, 1, 0, 0, 1, 1, 1]
noncomputable def M89_1 : Code := .region 15 R89_15 false
theorem lpM89_1 : loops M89_1 = 0 := rfl
noncomputable def L89_0 : Code := .seq (.region 5 R89_5 false) (.seq (.cond (.tmp 17) .skip (.exit 0)) (.seq (.block 1 (.seq (.region 6 R89_6 false) (.seq (.region 7 R89_7 false) (.seq (.region 8 R89_8 false) (.seq (.seq (.region 9 R89_9 false) (.block 2 (.loop L89_1))) M89_0))))) M89_1))
theorem lpL89_0 : loops L89_0 = 1 := rfl
noncomputable def R89_16 : Array Oper := opsAt Try.f89 [1, 1, 1, 1, 0]
noncomputable def M89_2 : Code := .seq (.region 16 R89_16 false) .ret
theorem lpM89_2 : loops M89_2 = 0 := rfl
theorem code89 : Try.f89.body = some (.seq (.region 0 R89_0 false) (.seq (.seq (.region 1 R89_1 false) (.cond (.tmp 13) (.seq (.region 2 R89_2 false) .ret) .skip)) (.seq (.region 3 R89_3 false) (.seq (.seq (.region 4 R89_4 false) (.block 0 (.loop L89_0))) M89_2)))) := by kernel_rfl
noncomputable def R90_0 : Array Oper := opsAt Try.f90 [0]
noncomputable def R90_1 : Array Oper := opsAt Try.f90 [1, 0, 0]
noncomputable def R90_2 : Array Oper := opsAt Try.f90 [1, 0, 1, 0, 0]
noncomputable def R90_3 : Array Oper := opsAt Try.f90 [1, 1, 0]
theorem code90 : Try.f90.body = some (.seq (.region 0 R90_0 false) (.seq (.seq (.region 1 R90_1 false) (.cond (.tmp 6) (.seq (.region 2 R90_2 false) .ret) .skip)) (.seq (.region 3 R90_3 false) .ret))) := by kernel_rfl
noncomputable def R91_0 : Array Oper := opsAt Try.f91 [0]
noncomputable def R91_1 : Array Oper := opsAt Try.f91 [1, 0, 0]
noncomputable def R91_2 : Array Oper := opsAt Try.f91 [1, 0, 1, 0, 0, 0, 0]
noncomputable def R91_4 : Array Oper := opsAt Try.f91 [1, 0, 1, 0, 0, 1, 0, 0, 0]
noncomputable def R91_5 : Array Oper := opsAt Try.f91 [1, 0, 1, 0, 0, 1, 0, 0, 1, 0, 0]
noncomputable def R91_3 : Array Oper := opsAt Try.f91 [1, 0, 1, 0, 0, 1, 1]
noncomputable def L91_0 : Code := .seq (.seq (.region 2 R91_2 false) (.cond (.tmp 9) .skip (.exit 0))) (.seq (.block 1 (.seq (.region 4 R91_4 false) (.cond (.tmp 17) (.seq (.region 5 R91_5 false) .ret) .skip))) (.region 3 R91_3 false))
theorem lpL91_0 : loops L91_0 = 0 := rfl
noncomputable def R91_6 : Array Oper := opsAt Try.f91 [1, 1, 0]
noncomputable def M91_0 : Code := .seq (.region 6 R91_6 false) .ret
theorem lpM91_0 : loops M91_0 = 0 := rfl
theorem code91 : Try.f91.body = some (.seq (.region 0 R91_0 false) (.seq (.seq (.region 1 R91_1 false) (.block 0 (.loop L91_0))) M91_0)) := by kernel_rfl
noncomputable def R92_0 : Array Oper := opsAt Try.f92 [0]
noncomputable def R92_1 : Array Oper := opsAt Try.f92 [1, 0]
noncomputable def R92_2 : Array Oper := opsAt Try.f92 [1, 1, 0, 0]
noncomputable def R92_3 : Array Oper := opsAt Try.f92 [1, 1, 0, 1, 0, 0]
noncomputable def R92_4 : Array Oper := opsAt Try.f92 [1, 1, 1, 0]
theorem code92 : Try.f92.body = some (.seq (.region 0 R92_0 false) (.seq (.region 1 R92_1 false) (.seq (.seq (.region 2 R92_2 false) (.cond (.tmp 10) (.seq (.region 3 R92_3 false) .ret) .skip)) (.seq (.region 4 R92_4 false) .ret)))) := by kernel_rfl
noncomputable def R93_0 : Array Oper := opsAt Try.f93 [0]
noncomputable def R93_1 : Array Oper := opsAt Try.f93 [1, 0, 0]
noncomputable def R93_2 : Array Oper := opsAt Try.f93 [1, 0, 1, 0, 0]
noncomputable def R93_3 : Array Oper := opsAt Try.f93 [1, 1, 0, 0]
noncomputable def R93_4 : Array Oper := opsAt Try.f93 [1, 1, 0, 1, 0, 0, 0, 0]
noncomputable def R93_6 : Array Oper := opsAt Try.f93 [1, 1, 0, 1, 0, 0, 1, 0, 0, 0]
noncomputable def R93_7 : Array Oper := opsAt Try.f93 [1, 1, 0, 1, 0, 0, 1, 0, 0, 1, 0, 0]
noncomputable def R93_5 : Array Oper := opsAt Try.f93 [1, 1, 0, 1, 0, 0, 1, 1]
noncomputable def L93_0 : Code := .seq (.seq (.region 4 R93_4 false) (.cond (.tmp 25) .skip (.exit 0))) (.seq (.block 1 (.seq (.region 6 R93_6 false) (.cond (.tmp 34) (.seq (.region 7 R93_7 false) .ret) .skip))) (.region 5 R93_5 false))
theorem lpL93_0 : loops L93_0 = 0 := rfl
noncomputable def R93_8 : Array Oper := opsAt Try.f93 [1, 1, 1, 0]
noncomputable def M93_0 : Code := .seq (.region 8 R93_8 false) .ret
theorem lpM93_0 : loops M93_0 = 0 := rfl
theorem code93 : Try.f93.body = some (.seq (.region 0 R93_0 false) (.seq (.seq (.region 1 R93_1 false) (.cond (.tmp 20) (.seq (.region 2 R93_2 false) .ret) .skip)) (.seq (.seq (.region 3 R93_3 false) (.block 0 (.loop L93_0))) M93_0))) := by kernel_rfl
noncomputable def R94_0 : Array Oper := opsAt Try.f94 [0]
noncomputable def R94_1 : Array Oper := opsAt Try.f94 [1, 0]
theorem code94 : Try.f94.body = some (.seq (.region 0 R94_0 false) (.seq (.region 1 R94_1 false) .ret)) := by kernel_rfl
noncomputable def R95_0 : Array Oper := opsAt Try.f95 [0]
noncomputable def R95_1 : Array Oper := opsAt Try.f95 [1, 0]
theorem code95 : Try.f95.body = some (.seq (.region 0 R95_0 false) (.seq (.region 1 R95_1 false) .ret)) := by kernel_rfl
noncomputable def R96_0 : Array Oper := opsAt Try.f96 [0]
noncomputable def R96_1 : Array Oper := opsAt Try.f96 [1, 0]
noncomputable def R96_2 : Array Oper := opsAt Try.f96 [1, 1, 0, 0]
noncomputable def R96_3 : Array Oper := opsAt Try.f96 [1, 1, 0, 1, 0, 0, 0, 0]
noncomputable def R96_5 : Array Oper := opsAt Try.f96 [1, 1, 0, 1, 0, 0, 1, 0, 0, 0]
noncomputable def R96_6 : Array Oper := opsAt Try.f96 [1, 1, 0, 1, 0, 0, 1, 0, 0, 1, 0, 0, 0, 0]
noncomputable def R96_8 : Array Oper := opsAt Try.f96 [1, 1, 0, 1, 0, 0, 1, 0, 0, 1, 0, 0, 1, 0, 0, 0]
noncomputable def R96_9 : Array Oper := opsAt Try.f96 [1, 1, 0, 1, 0, 0, 1, 0, 0, 1, 0, 0, 1, 0, 0, 1, 0, 0]
noncomputable def R96_10 : Array Oper := opsAt Try.f96 [1, 1, 0, 1, 0, 0, 1, 0, 0, 1, 0, 0, 1, 0, 0, 1, 1, 0]
noncomputable def R96_11 : Array Oper := opsAt Try.f96 [1, 1, 0, 1, 0, 0, 1, 0, 0, 1, 0, 0, 1, 0, 0, 1, 1, 1, 0, 0, 0, 0, 0]
noncomputable def R96_12 : Array Oper := opsAt Try.f96 [1, 1, 0, 1, 0, 0, 1, 0, 0, 1, 0, 0, 1, 0, 0, 1, 1, 1, 0, 0, 0, 1, 0]
noncomputable def L96_2 : Code := .seq (.seq (.region 11 R96_11 false) (.cond (.tmp 64) .skip (.exit 4))) (.block 5 (.region 12 R96_12 false))
theorem lpL96_2 : loops L96_2 = 0 := rfl
noncomputable def R96_13 : Array Oper := opsAt Try.f96 [1, 1, 0, 1, 0, 0, 1, 0, 0, 1, 0, 0, 1, 0, 0, 1, 1, 1, 1, 0]
noncomputable def R96_14 : Array Oper := opsAt Try.f96 [1, 1, 0, 1, 0, 0, 1, 0, 0, 1, 0, 0, 1, 0, 0, 1, 1, 1, 1, 1, 0, 0]
noncomputable def R96_15 : Array Oper := opsAt Try.f96 [1, 1, 0, 1, 0, 0, 1, 0, 0, 1, 0, 0, 1, 0, 0, 1, 1, 1, 1, 1, 0, 1, 0, 0, 0, 0]
noncomputable def R96_17 : Array Oper := opsAt Try.f96 [1, 1, 0, 1, 0, 0, 1, 0, 0, 1, 0, 0, 1, 0, 0, 1, 1, 1, 1, 1, 0, 1, 0, 0, 1, 0, 0]
noncomputable def R96_16 : Array Oper := opsAt Try.f96 [1, 1, 0, 1, 0, 0, 1, 0, 0, 1, 0, 0, 1, 0, 0, 1, 1, 1, 1, 1, 0, 1, 0, 0, 1, 1]
noncomputable def L96_3 : Code := .seq (.seq (.region 15 R96_15 false) (.cond (.tmp 76) .skip (.exit 6))) (.seq (.block 7 (.region 17 R96_17 false)) (.region 16 R96_16 false))
theorem lpL96_3 : loops L96_3 = 0 := rfl
noncomputable def R96_18 : Array Oper := opsAt Try.f96 [1, 1, 0, 1, 0, 0, 1, 0, 0, 1, 0, 0, 1, 0, 0, 1, 1, 1, 1, 1, 1]
noncomputable def M96_1 : Code := .region 18 R96_18 false
theorem lpM96_1 : loops M96_1 = 0 := rfl
noncomputable def M96_0 : Code := .seq (.region 13 R96_13 false) (.seq (.seq (.region 14 R96_14 false) (.block 6 (.loop L96_3))) M96_1)
theorem lpM96_0 : loops M96_0 = 1 := rfl
noncomputable def R96_7 : Array Oper := opsAt Try.f96 [1, 1, 0, 1, 0, 0, 1, 0, 0, 1, 0, 0, 1, 1]
noncomputable def M96_2 : Code := .region 7 R96_7 false
theorem lpM96_2 : loops M96_2 = 0 := rfl
noncomputable def L96_1 : Code := .seq (.seq (.region 6 R96_6 false) (.cond (.tmp 43) .skip (.exit 2))) (.seq (.block 3 (.seq (.region 8 R96_8 false) (.seq (.seq (.region 9 R96_9 false) (.cond (.tmp 51) (.exit 3) .skip)) (.seq (.region 10 R96_10 false) (.seq (.block 4 (.loop L96_2)) M96_0))))) M96_2)
theorem lpL96_1 : loops L96_1 = 2 := rfl
noncomputable def R96_4 : Array Oper := opsAt Try.f96 [1, 1, 0, 1, 0, 0, 1, 1]
noncomputable def M96_3 : Code := .region 4 R96_4 false
theorem lpM96_3 : loops M96_3 = 0 := rfl
noncomputable def L96_0 : Code := .seq (.seq (.region 3 R96_3 false) (.cond (.tmp 28) .skip (.exit 0))) (.seq (.block 1 (.seq (.region 5 R96_5 false) (.block 2 (.loop L96_1)))) M96_3)
theorem lpL96_0 : loops L96_0 = 3 := rfl
noncomputable def R96_19 : Array Oper := opsAt Try.f96 [1, 1, 1, 0]
noncomputable def M96_4 : Code := .seq (.region 19 R96_19 false) .ret
theorem lpM96_4 : loops M96_4 = 0 := rfl
theorem code96 : Try.f96.body = some (.seq (.region 0 R96_0 false) (.seq (.region 1 R96_1 false) (.seq (.seq (.region 2 R96_2 false) (.block 0 (.loop L96_0))) M96_4))) := by kernel_rfl
noncomputable def R97_0 : Array Oper := opsAt Try.f97 [0]
noncomputable def R97_1 : Array Oper := opsAt Try.f97 [1, 0]
noncomputable def R97_2 : Array Oper := opsAt Try.f97 [1, 1, 0, 0]
noncomputable def R97_3 : Array Oper := opsAt Try.f97 [1, 1, 0, 1, 0, 0, 0, 0]
noncomputable def R97_5 : Array Oper := opsAt Try.f97 [1, 1, 0, 1, 0, 0, 1, 0, 0]
noncomputable def R97_4 : Array Oper := opsAt Try.f97 [1, 1, 0, 1, 0, 0, 1, 1]
noncomputable def L97_0 : Code := .seq (.seq (.region 3 R97_3 false) (.cond (.tmp 11) .skip (.exit 0))) (.seq (.block 1 (.region 5 R97_5 false)) (.region 4 R97_4 false))
theorem lpL97_0 : loops L97_0 = 0 := rfl
noncomputable def R97_6 : Array Oper := opsAt Try.f97 [1, 1, 1, 0]
noncomputable def M97_0 : Code := .seq (.region 6 R97_6 false) .ret
theorem lpM97_0 : loops M97_0 = 0 := rfl
theorem code97 : Try.f97.body = some (.seq (.region 0 R97_0 false) (.seq (.region 1 R97_1 false) (.seq (.seq (.region 2 R97_2 false) (.block 0 (.loop L97_0))) M97_0))) := by kernel_rfl
noncomputable def R98_0 : Array Oper := opsAt Try.f98 [0]
noncomputable def R98_1 : Array Oper := opsAt Try.f98 [1, 0]
theorem code98 : Try.f98.body = some (.seq (.region 0 R98_0 false) (.seq (.region 1 R98_1 false) .ret)) := by kernel_rfl
noncomputable def R99_0 : Array Oper := opsAt Try.f99 [0]
noncomputable def R99_1 : Array Oper := opsAt Try.f99 [1, 0]
noncomputable def R99_2 : Array Oper := opsAt Try.f99 [1, 1, 0, 0]
noncomputable def R99_3 : Array Oper := opsAt Try.f99 [1, 1, 0, 1, 0, 0, 0, 0]
noncomputable def R99_5 : Array Oper := opsAt Try.f99 [1, 1, 0, 1, 0, 0, 1, 0, 0, 0]
noncomputable def R99_6 : Array Oper := opsAt Try.f99 [1, 1, 0, 1, 0, 0, 1, 0, 0, 1, 0, 0, 0, 0]
noncomputable def R99_8 : Array Oper := opsAt Try.f99 [1, 1, 0, 1, 0, 0, 1, 0, 0, 1, 0, 0, 1, 0, 0, 0]
noncomputable def R99_9 : Array Oper := opsAt Try.f99 [1, 1, 0, 1, 0, 0, 1, 0, 0, 1, 0, 0, 1, 0, 0, 1, 0]
noncomputable def R99_10 : Array Oper := opsAt Try.f99 [1, 1, 0, 1, 0, 0, 1, 0, 0, 1, 0, 0, 1, 0, 0, 1, 1, 0]
noncomputable def R99_7 : Array Oper := opsAt Try.f99 [1, 1, 0, 1, 0, 0, 1, 0, 0, 1, 0, 0, 1, 1]
noncomputable def L99_1 : Code := .seq (.seq (.region 6 R99_6 false) (.cond (.tmp 40) .skip (.exit 2))) (.seq (.block 3 (.seq (.region 8 R99_8 false) (.seq (.region 9 R99_9 false) (.cond (.tmp 54) (.region 10 R99_10 false) .skip)))) (.region 7 R99_7 false))
theorem lpL99_1 : loops L99_1 = 0 := rfl
noncomputable def R99_4 : Array Oper := opsAt Try.f99 [1, 1, 0, 1, 0, 0, 1, 1]
noncomputable def M99_0 : Code := .region 4 R99_4 false
theorem lpM99_0 : loops M99_0 = 0 := rfl
noncomputable def L99_0 : Code := .seq (.seq (.region 3 R99_3 false) (.cond (.tmp 25) .skip (.exit 0))) (.seq (.block 1 (.seq (.region 5 R99_5 false) (.block 2 (.loop L99_1)))) M99_0)
theorem lpL99_0 : loops L99_0 = 1 := rfl
noncomputable def R99_11 : Array Oper := opsAt Try.f99 [1, 1, 1, 0]
noncomputable def M99_1 : Code := .seq (.region 11 R99_11 false) .ret
theorem lpM99_1 : loops M99_1 = 0 := rfl
theorem code99 : Try.f99.body = some (.seq (.region 0 R99_0 false) (.seq (.region 1 R99_1 false) (.seq (.seq (.region 2 R99_2 false) (.block 0 (.loop L99_0))) M99_1))) := by kernel_rfl
noncomputable def R100_0 : Array Oper := opsAt Try.f100 [0]
noncomputable def R100_1 : Array Oper := opsAt Try.f100 [1, 0, 0]
noncomputable def R100_2 : Array Oper := opsAt Try.f100 [1, 0, 1, 0, 0]
noncomputable def R100_3 : Array Oper := opsAt Try.f100 [1, 1, 0]
theorem code100 : Try.f100.body = some (.seq (.region 0 R100_0 false) (.seq (.seq (.region 1 R100_1 false) (.cond (.tmp 4) (.seq (.region 2 R100_2 false) .ret) .skip)) (.seq (.region 3 R100_3 false) .ret))) := by kernel_rfl
noncomputable def R101_0 : Array Oper := opsAt Try.f101 [0]
noncomputable def R101_1 : Array Oper := opsAt Try.f101 [1, 0]
theorem code101 : Try.f101.body = some (.seq (.region 0 R101_0 false) (.seq (.region 1 R101_1 false) .ret)) := by kernel_rfl
noncomputable def R102_0 : Array Oper := opsAt Try.f102 [0]
noncomputable def R102_1 : Array Oper := opsAt Try.f102 [1, 0, 0, 0]
noncomputable def R102_2 : Array Oper := opsAt Try.f102 [1, 0, 0, 1, 0, 0]
noncomputable def R102_3 : Array Oper := opsAt Try.f102 [1, 0, 0, 1, 1, 0]
noncomputable def R102_4 : Array Oper := opsAt Try.f102 [1, 0, 0, 1, 1, 1, 0, 0]
noncomputable def R102_5 : Array Oper := opsAt Try.f102 [1, 1, 0]
theorem code102 : Try.f102.body = some (.seq (.region 0 R102_0 false) (.seq (.block 0 (.seq (.region 1 R102_1 false) (.cond (.tmp 3) (.seq (.region 2 R102_2 false) .ret) (.seq (.region 3 R102_3 false) (.cond (.tmp 6) (.seq (.region 4 R102_4 false) .ret) .skip))))) (.seq (.region 5 R102_5 false) .ret))) := by kernel_rfl
noncomputable def R103_0 : Array Oper := opsAt Try.f103 [0]
noncomputable def R103_1 : Array Oper := opsAt Try.f103 [1, 0]
theorem code103 : Try.f103.body = some (.seq (.region 0 R103_0 false) (.seq (.region 1 R103_1 false) .ret)) := by kernel_rfl
noncomputable def R104_0 : Array Oper := opsAt Try.f104 [0]
noncomputable def R104_1 : Array Oper := opsAt Try.f104 [1, 0, 0]
noncomputable def R104_2 : Array Oper := opsAt Try.f104 [1, 0, 1, 0, 0]
noncomputable def R104_3 : Array Oper := opsAt Try.f104 [1, 1, 0]
noncomputable def R104_4 : Array Oper := opsAt Try.f104 [1, 1, 1, 0, 0]
noncomputable def R104_5 : Array Oper := opsAt Try.f104 [1, 1, 1, 0, 1, 0]
noncomputable def R104_6 : Array Oper := opsAt Try.f104 [1, 1, 1, 1, 0]
theorem code104 : Try.f104.body = some (.seq (.region 0 R104_0 false) (.seq (.seq (.region 1 R104_1 false) (.cond (.tmp 7) (.seq (.region 2 R104_2 false) .ret) .skip)) (.seq (.region 3 R104_3 false) (.seq (.seq (.region 4 R104_4 false) (.cond (.tmp 11) (.region 5 R104_5 false) .skip)) (.seq (.region 6 R104_6 false) .ret))))) := by kernel_rfl
noncomputable def R105_0 : Array Oper := opsAt Try.f105 [0]
noncomputable def R105_1 : Array Oper := opsAt Try.f105 [1, 0]
theorem code105 : Try.f105.body = some (.seq (.region 0 R105_0 false) (.seq (.region 1 R105_1 false) .ret)) := by kernel_rfl
noncomputable def R106_0 : Array Oper := opsAt Try.f106 [0]
noncomputable def R106_1 : Array Oper := opsAt Try.f106 [1, 0, 0]
noncomputable def R106_2 : Array Oper := opsAt Try.f106 [1, 0, 1, 0, 0]
noncomputable def R106_3 : Array Oper := opsAt Try.f106 [1, 0, 1, 0, 1, 0, 0]
noncomputable def R106_4 : Array Oper := opsAt Try.f106 [1, 0, 1, 0, 1, 1, 0]
noncomputable def R106_5 : Array Oper := opsAt Try.f106 [1, 0, 1, 0, 1, 1, 1, 0, 0]
noncomputable def R106_6 : Array Oper := opsAt Try.f106 [1, 0, 1, 0, 1, 1, 1, 1, 0]
noncomputable def R106_7 : Array Oper := opsAt Try.f106 [1, 0, 1, 0, 1, 1, 1, 1, 1, 0, 0]
noncomputable def R106_8 : Array Oper := opsAt Try.f106 [1, 0, 1, 0, 1, 1, 1, 1, 1, 1, 0]
noncomputable def R106_9 : Array Oper := opsAt Try.f106 [1, 0, 1, 0, 1, 1, 1, 1, 1, 1, 1, 0, 0]
noncomputable def R106_10 : Array Oper := opsAt Try.f106 [1, 0, 1, 0, 1, 1, 1, 1, 1, 1, 1, 1, 0]
noncomputable def R106_11 : Array Oper := opsAt Try.f106 [1, 0, 1, 0, 1, 1, 1, 1, 1, 1, 1, 1, 1, 0, 0]
noncomputable def R106_12 : Array Oper := opsAt Try.f106 [1, 0, 1, 0, 1, 1, 1, 1, 1, 1, 1, 1, 1, 1, 0]
noncomputable def R106_13 : Array Oper := opsAt Try.f106 [1, 0, 1, 0, 1, 1, 1, 1, 1, 1, 1, 1, 1, 1, 1, 0, 0]
noncomputable def R106_14 : Array Oper := opsAt Try.f106 [1, 0, 1, 0, 1, 1, 1, 1, 1, 1, 1, 1, 1, 1, 1, 1, 0]
noncomputable def R106_15 : Array Oper := opsAt Try.f106 [1, 0, 1, 0, 1, 1, 1, 1, 1, 1, 1, 1, 1, 1, 1, 1, 1, 0, 0]
noncomputable def R106_16 : Array Oper := opsAt Try.f106 [1, 0, 1, 0, 1, 1, 1, 1, 1, 1, 1, 1, 1, 1, 1, 1, 1, 1, 0]
noncomputable def R106_17 : Array Oper := opsAt Try.f106 [1, 0, 1, 0, 1, 1, 1, 1, 1, 1, 1, 1, 1, 1, 1, 1, 1, 1, 1, 0, 0]
noncomputable def R106_18 : Array Oper := opsAt Try.f106 [1, 1, 0]
theorem code106 : Try.f106.body = some (.seq (.region 0 R106_0 false) (.seq (.seq (.region 1 R106_1 false) (.block 0 (.seq (.region 2 R106_2 false) (.cond (.tmp 5) (.seq (.region 3 R106_3 false) .ret) (.seq (.region 4 R106_4 false) (.cond (.tmp 8) (.seq (.region 5 R106_5 false) .ret) (.seq (.region 6 R106_6 false) (.cond (.tmp 11) (.seq (.region 7 R106_7 false) .ret) (.seq (.region 8 R106_8 false) (.cond (.tmp 14) (.seq (.region 9 R106_9 false) .ret) (.seq (.region 10 R106_10 false) (.cond (.tmp 17) (.seq (.region 11 R106_11 false) .ret) (.seq (.region 12 R106_12 false) (.cond (.tmp 20) (.seq (.region 13 R106_13 false) .ret) (.seq (.region 14 R106_14 false) (.cond (.tmp 23) (.seq (.region 15 R106_15 false) .ret) (.seq (.region 16 R106_16 false) (.cond (.tmp 26) (.seq (.region 17 R106_17 false) .ret) .skip)))))))))))))))))) (.seq (.region 18 R106_18 false) .ret))) := by kernel_rfl
noncomputable def R107_0 : Array Oper := opsAt Try.f107 [0]
noncomputable def R107_1 : Array Oper := opsAt Try.f107 [1, 0]
theorem code107 : Try.f107.body = some (.seq (.region 0 R107_0 false) (.seq (.region 1 R107_1 false) .ret)) := by kernel_rfl
noncomputable def R108_0 : Array Oper := opsAt Try.f108 [0]
noncomputable def R108_1 : Array Oper := opsAt Try.f108 [1, 0, 0]
noncomputable def R108_2 : Array Oper := opsAt Try.f108 [1, 0, 1, 0, 0]
noncomputable def R108_3 : Array Oper := opsAt Try.f108 [1, 1, 0]
theorem code108 : Try.f108.body = some (.seq (.region 0 R108_0 false) (.seq (.seq (.region 1 R108_1 false) (.cond (.tmp 6) (.seq (.region 2 R108_2 false) .ret) .skip)) (.seq (.region 3 R108_3 false) .ret))) := by kernel_rfl
noncomputable def R109_0 : Array Oper := opsAt Try.f109 [0]
noncomputable def R109_1 : Array Oper := opsAt Try.f109 [1, 0]
theorem code109 : Try.f109.body = some (.seq (.region 0 R109_0 false) (.seq (.region 1 R109_1 false) .ret)) := by kernel_rfl
noncomputable def R110_0 : Array Oper := opsAt Try.f110 [0]
noncomputable def R110_1 : Array Oper := opsAt Try.f110 [1, 0]
noncomputable def R110_2 : Array Oper := opsAt Try.f110 [1, 1, 0, 0]
noncomputable def R110_3 : Array Oper := opsAt Try.f110 [1, 1, 0, 1, 0, 0]
noncomputable def R110_4 : Array Oper := opsAt Try.f110 [1, 1, 0, 1, 0, 1, 0, 0]
noncomputable def R110_5 : Array Oper := opsAt Try.f110 [1, 1, 0, 1, 0, 1, 1, 0]
noncomputable def R110_6 : Array Oper := opsAt Try.f110 [1, 1, 0, 1, 0, 1, 1, 1, 0, 0]
noncomputable def R110_7 : Array Oper := opsAt Try.f110 [1, 1, 0, 1, 0, 1, 1, 1, 1, 0]
noncomputable def R110_8 : Array Oper := opsAt Try.f110 [1, 1, 0, 1, 0, 1, 1, 1, 1, 1, 0, 0]
noncomputable def R110_9 : Array Oper := opsAt Try.f110 [1, 1, 0, 1, 0, 1, 1, 1, 1, 1, 1, 0]
noncomputable def R110_10 : Array Oper := opsAt Try.f110 [1, 1, 0, 1, 0, 1, 1, 1, 1, 1, 1, 1, 0, 0]
noncomputable def R110_11 : Array Oper := opsAt Try.f110 [1, 1, 0, 1, 0, 1, 1, 1, 1, 1, 1, 1, 1, 0]
noncomputable def R110_12 : Array Oper := opsAt Try.f110 [1, 1, 0, 1, 0, 1, 1, 1, 1, 1, 1, 1, 1, 1, 0, 0]
noncomputable def R110_13 : Array Oper := opsAt Try.f110 [1, 1, 1, 0]
theorem code110 : Try.f110.body = some (.seq (.region 0 R110_0 false) (.seq (.region 1 R110_1 false) (.seq (.seq (.region 2 R110_2 false) (.block 0 (.seq (.region 3 R110_3 false) (.cond (.tmp 16) (.seq (.region 4 R110_4 false) .ret) (.seq (.region 5 R110_5 false) (.cond (.tmp 26) (.seq (.region 6 R110_6 false) .ret) (.seq (.region 7 R110_7 false) (.cond (.tmp 36) (.seq (.region 8 R110_8 false) .ret) (.seq (.region 9 R110_9 false) (.cond (.tmp 43) (.seq (.region 10 R110_10 false) .ret) (.seq (.region 11 R110_11 false) (.cond (.tmp 50) (.seq (.region 12 R110_12 false) .ret) .skip)))))))))))) (.seq (.region 13 R110_13 false) .ret)))) := by kernel_rfl
noncomputable def R111_0 : Array Oper := opsAt Try.f111 [0]
noncomputable def R111_1 : Array Oper := opsAt Try.f111 [1, 0]
theorem code111 : Try.f111.body = some (.seq (.region 0 R111_0 false) (.seq (.region 1 R111_1 false) .ret)) := by kernel_rfl
noncomputable def R112_0 : Array Oper := opsAt Try.f112 [0]
noncomputable def R112_1 : Array Oper := opsAt Try.f112 [1, 0, 0]
noncomputable def R112_2 : Array Oper := opsAt Try.f112 [1, 0, 1, 0, 0]
noncomputable def R112_3 : Array Oper := opsAt Try.f112 [1, 0, 1, 0, 1, 0, 0]
noncomputable def R112_4 : Array Oper := opsAt Try.f112 [1, 0, 1, 0, 1, 1, 0]
noncomputable def R112_5 : Array Oper := opsAt Try.f112 [1, 0, 1, 0, 1, 1, 1, 0, 0]
noncomputable def R112_6 : Array Oper := opsAt Try.f112 [1, 0, 1, 0, 1, 1, 1, 1, 0]
noncomputable def R112_7 : Array Oper := opsAt Try.f112 [1, 0, 1, 0, 1, 1, 1, 1, 1, 0, 0]
noncomputable def R112_8 : Array Oper := opsAt Try.f112 [1, 0, 1, 0, 1, 1, 1, 1, 1, 1, 0]
noncomputable def R112_9 : Array Oper := opsAt Try.f112 [1, 0, 1, 0, 1, 1, 1, 1, 1, 1, 1, 0, 0]
noncomputable def R112_10 : Array Oper := opsAt Try.f112 [1, 0, 1, 0, 1, 1, 1, 1, 1, 1, 1, 1, 0]
noncomputable def R112_11 : Array Oper := opsAt Try.f112 [1, 0, 1, 0, 1, 1, 1, 1, 1, 1, 1, 1, 1, 0, 0]
noncomputable def R112_12 : Array Oper := opsAt Try.f112 [1, 1, 0]
theorem code112 : Try.f112.body = some (.seq (.region 0 R112_0 false) (.seq (.seq (.region 1 R112_1 false) (.block 0 (.seq (.region 2 R112_2 false) (.cond (.tmp 7) (.seq (.region 3 R112_3 false) .ret) (.seq (.region 4 R112_4 false) (.cond (.tmp 12) (.seq (.region 5 R112_5 false) .ret) (.seq (.region 6 R112_6 false) (.cond (.tmp 17) (.seq (.region 7 R112_7 false) .ret) (.seq (.region 8 R112_8 false) (.cond (.tmp 21) (.seq (.region 9 R112_9 false) .ret) (.seq (.region 10 R112_10 false) (.cond (.tmp 25) (.seq (.region 11 R112_11 false) .ret) .skip)))))))))))) (.seq (.region 12 R112_12 false) .ret))) := by kernel_rfl
noncomputable def R113_0 : Array Oper := opsAt Try.f113 [0]
noncomputable def R113_1 : Array Oper := opsAt Try.f113 [1, 0, 0]
noncomputable def R113_2 : Array Oper := opsAt Try.f113 [1, 0, 1, 0, 0]
noncomputable def R113_3 : Array Oper := opsAt Try.f113 [1, 1, 0]
theorem code113 : Try.f113.body = some (.seq (.region 0 R113_0 false) (.seq (.seq (.region 1 R113_1 false) (.cond (.tmp 6) (.seq (.region 2 R113_2 false) .ret) .skip)) (.seq (.region 3 R113_3 false) .ret))) := by kernel_rfl
noncomputable def R114_0 : Array Oper := opsAt Try.f114 [0]
noncomputable def R114_1 : Array Oper := opsAt Try.f114 [1, 0]
noncomputable def R114_2 : Array Oper := opsAt Try.f114 [1, 1, 0, 0]
noncomputable def R114_3 : Array Oper := opsAt Try.f114 [1, 1, 0, 1, 0, 0]
noncomputable def R114_4 : Array Oper := opsAt Try.f114 [1, 1, 0, 1, 0, 1, 0]
noncomputable def R114_5 : Array Oper := opsAt Try.f114 [1, 1, 0, 1, 0, 1, 1, 0]
noncomputable def R114_6 : Array Oper := opsAt Try.f114 [1, 1, 0, 1, 0, 1, 1, 1, 0]
noncomputable def R114_7 : Array Oper := opsAt Try.f114 [1, 1, 0, 1, 0, 1, 1, 1, 1, 0]
noncomputable def R114_8 : Array Oper := opsAt Try.f114 [1, 1, 0, 1, 0, 1, 1, 1, 1, 1, 0]
noncomputable def R114_9 : Array Oper := opsAt Try.f114 [1, 1, 1, 0]
theorem code114 : Try.f114.body = some (.seq (.region 0 R114_0 false) (.seq (.region 1 R114_1 false) (.seq (.seq (.region 2 R114_2 false) (.block 0 (.seq (.region 3 R114_3 false) (.cond (.tmp 8) (.region 4 R114_4 false) (.seq (.region 5 R114_5 false) (.cond (.tmp 16) (.region 6 R114_6 true) (.seq (.region 7 R114_7 false) (.cond (.tmp 29) (.region 8 R114_8 false) .skip)))))))) (.seq (.region 9 R114_9 false) .ret)))) := by kernel_rfl
noncomputable def R115_0 : Array Oper := opsAt Try.f115 [0]
noncomputable def R115_1 : Array Oper := opsAt Try.f115 [1, 0]
noncomputable def R115_2 : Array Oper := opsAt Try.f115 [1, 1, 0, 0]
noncomputable def R115_3 : Array Oper := opsAt Try.f115 [1, 1, 0, 1, 0, 0, 0, 0]
noncomputable def R115_5 : Array Oper := opsAt Try.f115 [1, 1, 0, 1, 0, 0, 1, 0, 0]
noncomputable def R115_4 : Array Oper := opsAt Try.f115 [1, 1, 0, 1, 0, 0, 1, 1]
noncomputable def L115_0 : Code := .seq (.seq (.region 3 R115_3 false) (.cond (.tmp 16) .skip (.exit 0))) (.seq (.block 1 (.region 5 R115_5 false)) (.region 4 R115_4 false))
theorem lpL115_0 : loops L115_0 = 0 := rfl
noncomputable def R115_6 : Array Oper := opsAt Try.f115 [1, 1, 1, 0]
noncomputable def M115_0 : Code := .seq (.region 6 R115_6 false) .ret
theorem lpM115_0 : loops M115_0 = 0 := rfl
theorem code115 : Try.f115.body = some (.seq (.region 0 R115_0 false) (.seq (.region 1 R115_1 false) (.seq (.seq (.region 2 R115_2 false) (.block 0 (.loop L115_0))) M115_0))) := by kernel_rfl
noncomputable def R116_0 : Array Oper := opsAt Try.f116 [0]
noncomputable def R116_1 : Array Oper := opsAt Try.f116 [1, 0]
theorem code116 : Try.f116.body = some (.seq (.region 0 R116_0 false) (.seq (.region 1 R116_1 false) .ret)) := by kernel_rfl
noncomputable def R117_0 : Array Oper := opsAt Try.f117 [0]
noncomputable def R117_1 : Array Oper := opsAt Try.f117 [1, 0, 0]
noncomputable def R117_2 : Array Oper := opsAt Try.f117 [1, 0, 1, 0]
noncomputable def R117_3 : Array Oper := opsAt Try.f117 [1, 1, 0]
noncomputable def R117_4 : Array Oper := opsAt Try.f117 [1, 1, 1, 0, 0]
noncomputable def R117_5 : Array Oper := opsAt Try.f117 [1, 1, 1, 0, 1, 0, 0, 0, 0]
noncomputable def R117_7 : Array Oper := opsAt Try.f117 [1, 1, 1, 0, 1, 0, 0, 1, 0, 0]
noncomputable def R117_6 : Array Oper := opsAt Try.f117 [1, 1, 1, 0, 1, 0, 0, 1, 1]
noncomputable def L117_0 : Code := .seq (.seq (.region 5 R117_5 false) (.cond (.tmp 15) .skip (.exit 0))) (.seq (.block 1 (.region 7 R117_7 false)) (.region 6 R117_6 false))
theorem lpL117_0 : loops L117_0 = 0 := rfl
noncomputable def R117_8 : Array Oper := opsAt Try.f117 [1, 1, 1, 1, 0]
noncomputable def M117_0 : Code := .seq (.region 8 R117_8 false) .ret
theorem lpM117_0 : loops M117_0 = 0 := rfl
theorem code117 : Try.f117.body = some (.seq (.region 0 R117_0 false) (.seq (.seq (.region 1 R117_1 false) (.cond (.tmp 7) (.region 2 R117_2 false) .skip)) (.seq (.region 3 R117_3 false) (.seq (.seq (.region 4 R117_4 false) (.block 0 (.loop L117_0))) M117_0)))) := by kernel_rfl
noncomputable def R118_0 : Array Oper := opsAt Try.f118 [0]
noncomputable def R118_1 : Array Oper := opsAt Try.f118 [1, 0, 0]
noncomputable def R118_2 : Array Oper := opsAt Try.f118 [1, 0, 1, 0]
noncomputable def R118_3 : Array Oper := opsAt Try.f118 [1, 1, 0]
noncomputable def R118_4 : Array Oper := opsAt Try.f118 [1, 1, 1, 0, 0]
noncomputable def R118_5 : Array Oper := opsAt Try.f118 [1, 1, 1, 0, 1, 0, 0, 0, 0]
noncomputable def R118_7 : Array Oper := opsAt Try.f118 [1, 1, 1, 0, 1, 0, 0, 1, 0, 0]
noncomputable def R118_6 : Array Oper := opsAt Try.f118 [1, 1, 1, 0, 1, 0, 0, 1, 1]
noncomputable def L118_0 : Code := .seq (.seq (.region 5 R118_5 false) (.cond (.tmp 15) .skip (.exit 0))) (.seq (.block 1 (.region 7 R118_7 false)) (.region 6 R118_6 false))
theorem lpL118_0 : loops L118_0 = 0 := rfl
noncomputable def R118_8 : Array Oper := opsAt Try.f118 [1, 1, 1, 1, 0]
noncomputable def M118_0 : Code := .seq (.region 8 R118_8 false) .ret
theorem lpM118_0 : loops M118_0 = 0 := rfl
theorem code118 : Try.f118.body = some (.seq (.region 0 R118_0 false) (.seq (.seq (.region 1 R118_1 false) (.cond (.tmp 7) (.region 2 R118_2 false) .skip)) (.seq (.region 3 R118_3 false) (.seq (.seq (.region 4 R118_4 false) (.block 0 (.loop L118_0))) M118_0)))) := by kernel_rfl
noncomputable def R119_0 : Array Oper := opsAt Try.f119 [0]
noncomputable def R119_1 : Array Oper := opsAt Try.f119 [1, 0]
noncomputable def R119_2 : Array Oper := opsAt Try.f119 [1, 1, 0, 0]
noncomputable def R119_3 : Array Oper := opsAt Try.f119 [1, 1, 0, 1, 0, 0, 0]
noncomputable def R119_4 : Array Oper := opsAt Try.f119 [1, 1, 0, 1, 0, 0, 1, 1, 0, 0, 0]
noncomputable def R119_5 : Array Oper := opsAt Try.f119 [1, 1, 0, 1, 0, 0, 1, 1, 0, 0, 1]
noncomputable def R119_6 : Array Oper := opsAt Try.f119 [1, 1, 0, 1, 0, 0, 1, 1, 1]
noncomputable def L119_0 : Code := .seq (.region 3 R119_3 false) (.seq (.cond (.tmp 9) .skip (.exit 0)) (.seq (.block 1 (.seq (.region 4 R119_4 false) (.region 5 R119_5 false))) (.region 6 R119_6 false)))
theorem lpL119_0 : loops L119_0 = 0 := rfl
noncomputable def R119_7 : Array Oper := opsAt Try.f119 [1, 1, 1, 0]
noncomputable def M119_0 : Code := .seq (.region 7 R119_7 false) .ret
theorem lpM119_0 : loops M119_0 = 0 := rfl
theorem code119 : Try.f119.body = some (.seq (.region 0 R119_0 false) (.seq (.region 1 R119_1 false) (.seq (.seq (.region 2 R119_2 false) (.block 0 (.loop L119_0))) M119_0))) := by kernel_rfl
noncomputable def R120_0 : Array Oper := opsAt Try.f120 [0]
noncomputable def R120_1 : Array Oper := opsAt Try.f120 [1, 0]
theorem code120 : Try.f120.body = some (.seq (.region 0 R120_0 false) (.seq (.region 1 R120_1 false) .ret)) := by kernel_rfl
noncomputable def R121_0 : Array Oper := opsAt Try.f121 [0]
noncomputable def R121_1 : Array Oper := opsAt Try.f121 [1, 0]
theorem code121 : Try.f121.body = some (.seq (.region 0 R121_0 false) (.seq (.region 1 R121_1 false) .ret)) := by kernel_rfl
noncomputable def R122_0 : Array Oper := opsAt Try.f122 [0]
noncomputable def R122_1 : Array Oper := opsAt Try.f122 [1, 0]
theorem code122 : Try.f122.body = some (.seq (.region 0 R122_0 false) (.seq (.region 1 R122_1 false) .ret)) := by kernel_rfl
noncomputable def R123_0 : Array Oper := opsAt Try.f123 [0]
noncomputable def R123_1 : Array Oper := opsAt Try.f123 [1, 0]
theorem code123 : Try.f123.body = some (.seq (.region 0 R123_0 false) (.seq (.region 1 R123_1 false) .ret)) := by kernel_rfl
noncomputable def R124_0 : Array Oper := opsAt Try.f124 [0]
noncomputable def R124_1 : Array Oper := opsAt Try.f124 [1, 0]
theorem code124 : Try.f124.body = some (.seq (.region 0 R124_0 false) (.seq (.region 1 R124_1 false) .ret)) := by kernel_rfl
noncomputable def R125_0 : Array Oper := opsAt Try.f125 [0]
noncomputable def R125_1 : Array Oper := opsAt Try.f125 [1, 0]
noncomputable def R125_2 : Array Oper := opsAt Try.f125 [1, 1, 0, 0]
noncomputable def R125_3 : Array Oper := opsAt Try.f125 [1, 1, 0, 1, 0, 0, 0]
noncomputable def R125_4 : Array Oper := opsAt Try.f125 [1, 1, 0, 1, 0, 0, 1, 1, 0, 0, 0]
noncomputable def R125_5 : Array Oper := opsAt Try.f125 [1, 1, 0, 1, 0, 0, 1, 1, 0, 0, 1]
noncomputable def R125_6 : Array Oper := opsAt Try.f125 [1, 1, 0, 1, 0, 0, 1, 1, 1]
noncomputable def L125_0 : Code := .seq (.region 3 R125_3 false) (.seq (.cond (.tmp 16) .skip (.exit 0)) (.seq (.block 1 (.seq (.region 4 R125_4 false) (.region 5 R125_5 true))) (.region 6 R125_6 false)))
theorem lpL125_0 : loops L125_0 = 0 := rfl
noncomputable def R125_7 : Array Oper := opsAt Try.f125 [1, 1, 1, 0]
noncomputable def M125_0 : Code := .seq (.region 7 R125_7 false) .ret
theorem lpM125_0 : loops M125_0 = 0 := rfl
theorem code125 : Try.f125.body = some (.seq (.region 0 R125_0 false) (.seq (.region 1 R125_1 false) (.seq (.seq (.region 2 R125_2 false) (.block 0 (.loop L125_0))) M125_0))) := by kernel_rfl
noncomputable def R126_0 : Array Oper := opsAt Try.f126 [0]
noncomputable def R126_1 : Array Oper := opsAt Try.f126 [1, 0]
theorem code126 : Try.f126.body = some (.seq (.region 0 R126_0 false) (.seq (.region 1 R126_1 false) .ret)) := by kernel_rfl
noncomputable def R127_0 : Array Oper := opsAt Try.f127 [0]
noncomputable def R127_1 : Array Oper := opsAt Try.f127 [1, 0]
theorem code127 : Try.f127.body = some (.seq (.region 0 R127_0 false) (.seq (.region 1 R127_1 false) .ret)) := by kernel_rfl
noncomputable def R128_0 : Array Oper := opsAt Try.f128 [0]
noncomputable def R128_1 : Array Oper := opsAt Try.f128 [1, 0]
theorem code128 : Try.f128.body = some (.seq (.region 0 R128_0 false) (.seq (.region 1 R128_1 false) .ret)) := by kernel_rfl
noncomputable def R129_0 : Array Oper := opsAt Try.f129 [0]
noncomputable def R129_1 : Array Oper := opsAt Try.f129 [1, 0, 0]
noncomputable def R129_2 : Array Oper := opsAt Try.f129 [1, 0, 1, 0, 0]
noncomputable def R129_3 : Array Oper := opsAt Try.f129 [1, 1, 0, 0]
noncomputable def R129_4 : Array Oper := opsAt Try.f129 [1, 1, 0, 1, 0, 0, 0, 0]
noncomputable def R129_6 : Array Oper := opsAt Try.f129 [1, 1, 0, 1, 0, 0, 1, 0, 0, 0]
noncomputable def R129_7 : Array Oper := opsAt Try.f129 [1, 1, 0, 1, 0, 0, 1, 0, 0, 1, 0, 0]
noncomputable def R129_5 : Array Oper := opsAt Try.f129 [1, 1, 0, 1, 0, 0, 1, 1]
noncomputable def L129_0 : Code := .seq (.seq (.region 4 R129_4 false) (.cond (.tmp 14) .skip (.exit 0))) (.seq (.block 1 (.seq (.region 6 R129_6 true) (.cond (.tmp 25) (.seq (.region 7 R129_7 false) .ret) .skip))) (.region 5 R129_5 false))
theorem lpL129_0 : loops L129_0 = 0 := rfl
noncomputable def R129_8 : Array Oper := opsAt Try.f129 [1, 1, 1, 0]
noncomputable def M129_0 : Code := .seq (.region 8 R129_8 false) .ret
theorem lpM129_0 : loops M129_0 = 0 := rfl
theorem code129 : Try.f129.body = some (.seq (.region 0 R129_0 false) (.seq (.seq (.region 1 R129_1 false) (.cond (.tmp 10) (.seq (.region 2 R129_2 false) .ret) .skip)) (.seq (.seq (.region 3 R129_3 false) (.block 0 (.loop L129_0))) M129_0))) := by kernel_rfl
noncomputable def R130_0 : Array Oper := opsAt Try.f130 [0]
noncomputable def R130_1 : Array Oper := opsAt Try.f130 [1, 0]
noncomputable def R130_2 : Array Oper := opsAt Try.f130 [1, 1, 0, 0]
noncomputable def R130_3 : Array Oper := opsAt Try.f130 [1, 1, 0, 1, 0, 0, 0, 0]
noncomputable def R130_5 : Array Oper := opsAt Try.f130 [1, 1, 0, 1, 0, 0, 1, 0, 0, 0]
noncomputable def R130_6 : Array Oper := opsAt Try.f130 [1, 1, 0, 1, 0, 0, 1, 0, 0, 1, 0, 0]
noncomputable def R130_7 : Array Oper := opsAt Try.f130 [1, 1, 0, 1, 0, 0, 1, 0, 0, 1, 0, 1, 0]
noncomputable def R130_8 : Array Oper := opsAt Try.f130 [1, 1, 0, 1, 0, 0, 1, 0, 0, 1, 0, 1, 1, 0]
noncomputable def R130_9 : Array Oper := opsAt Try.f130 [1, 1, 0, 1, 0, 0, 1, 0, 0, 1, 0, 1, 1, 1, 0, 0]
noncomputable def R130_10 : Array Oper := opsAt Try.f130 [1, 1, 0, 1, 0, 0, 1, 0, 0, 1, 0, 1, 1, 1, 0, 1, 0]
noncomputable def R130_4 : Array Oper := opsAt Try.f130 [1, 1, 0, 1, 0, 0, 1, 1]
noncomputable def L130_0 : Code := .seq (.seq (.region 3 R130_3 false) (.cond (.tmp 13) .skip (.exit 0))) (.seq (.block 1 (.seq (.region 5 R130_5 false) (.block 2 (.seq (.region 6 R130_6 false) (.cond (.tmp 18) (.region 7 R130_7 true) (.seq (.region 8 R130_8 false) (.cond (.tmp 26) (.seq (.region 9 R130_9 false) (.cond (.tmp 29) (.region 10 R130_10 false) .skip)) .skip))))))) (.region 4 R130_4 false))
theorem lpL130_0 : loops L130_0 = 0 := rfl
noncomputable def R130_11 : Array Oper := opsAt Try.f130 [1, 1, 1, 0, 0]
noncomputable def R130_12 : Array Oper := opsAt Try.f130 [1, 1, 1, 0, 1, 0]
noncomputable def R130_13 : Array Oper := opsAt Try.f130 [1, 1, 1, 1, 0]
noncomputable def M130_0 : Code := .seq (.seq (.region 11 R130_11 false) (.cond (.tmp 35) (.region 12 R130_12 false) .skip)) (.seq (.region 13 R130_13 false) .ret)
theorem lpM130_0 : loops M130_0 = 0 := rfl
theorem code130 : Try.f130.body = some (.seq (.region 0 R130_0 false) (.seq (.region 1 R130_1 false) (.seq (.seq (.region 2 R130_2 false) (.block 0 (.loop L130_0))) M130_0))) := by kernel_rfl
noncomputable def R131_0 : Array Oper := opsAt Try.f131 [0]
noncomputable def R131_1 : Array Oper := opsAt Try.f131 [1, 0, 0]
noncomputable def R131_2 : Array Oper := opsAt Try.f131 [1, 0, 1, 0, 0]
noncomputable def R131_3 : Array Oper := opsAt Try.f131 [1, 1, 0]
noncomputable def R131_4 : Array Oper := opsAt Try.f131 [1, 1, 1, 0, 0]
noncomputable def R131_5 : Array Oper := opsAt Try.f131 [1, 1, 1, 0, 1, 0, 0, 0]
noncomputable def R131_6 : Array Oper := opsAt Try.f131 [1, 1, 1, 0, 1, 0, 0, 1, 1, 0, 0, 0]
noncomputable def R131_7 : Array Oper := opsAt Try.f131 [1, 1, 1, 0, 1, 0, 0, 1, 1, 0, 0, 1]
noncomputable def R131_8 : Array Oper := opsAt Try.f131 [1, 1, 1, 0, 1, 0, 0, 1, 1, 1]
noncomputable def L131_0 : Code := .seq (.region 5 R131_5 false) (.seq (.cond (.tmp 23) .skip (.exit 0)) (.seq (.block 1 (.seq (.region 6 R131_6 false) (.region 7 R131_7 true))) (.region 8 R131_8 false)))
theorem lpL131_0 : loops L131_0 = 0 := rfl
noncomputable def R131_9 : Array Oper := opsAt Try.f131 [1, 1, 1, 1, 0]
noncomputable def M131_0 : Code := .seq (.region 9 R131_9 false) .ret
theorem lpM131_0 : loops M131_0 = 0 := rfl
theorem code131 : Try.f131.body = some (.seq (.region 0 R131_0 false) (.seq (.seq (.region 1 R131_1 false) (.cond (.tmp 15) (.seq (.region 2 R131_2 false) .ret) .skip)) (.seq (.region 3 R131_3 false) (.seq (.seq (.region 4 R131_4 false) (.block 0 (.loop L131_0))) M131_0)))) := by kernel_rfl
noncomputable def R132_0 : Array Oper := opsAt Try.f132 [0]
noncomputable def R132_1 : Array Oper := opsAt Try.f132 [1, 0, 0, 0]
noncomputable def R132_2 : Array Oper := opsAt Try.f132 [1, 0, 0, 1, 0, 0]
noncomputable def R132_3 : Array Oper := opsAt Try.f132 [1, 0, 0, 1, 1, 0]
noncomputable def R132_4 : Array Oper := opsAt Try.f132 [1, 0, 0, 1, 1, 1, 0, 0]
noncomputable def R132_5 : Array Oper := opsAt Try.f132 [1, 0, 0, 1, 1, 1, 1, 0]
noncomputable def R132_6 : Array Oper := opsAt Try.f132 [1, 0, 0, 1, 1, 1, 1, 1, 0, 0]
noncomputable def R132_7 : Array Oper := opsAt Try.f132 [1, 0, 0, 1, 1, 1, 1, 1, 1, 0]
noncomputable def R132_8 : Array Oper := opsAt Try.f132 [1, 0, 0, 1, 1, 1, 1, 1, 1, 1, 0, 0]
noncomputable def R132_9 : Array Oper := opsAt Try.f132 [1, 1, 0]
theorem code132 : Try.f132.body = some (.seq (.region 0 R132_0 false) (.seq (.block 0 (.seq (.region 1 R132_1 false) (.cond (.tmp 6) (.seq (.region 2 R132_2 false) .ret) (.seq (.region 3 R132_3 false) (.cond (.tmp 13) (.seq (.region 4 R132_4 false) .ret) (.seq (.region 5 R132_5 false) (.cond (.tmp 20) (.seq (.region 6 R132_6 false) .ret) (.seq (.region 7 R132_7 false) (.cond (.tmp 27) (.seq (.region 8 R132_8 false) .ret) .skip))))))))) (.seq (.region 9 R132_9 false) .ret))) := by kernel_rfl
noncomputable def R133_0 : Array Oper := opsAt Try.f133 [0]
noncomputable def R133_1 : Array Oper := opsAt Try.f133 [1, 0, 0]
noncomputable def R133_2 : Array Oper := opsAt Try.f133 [1, 0, 1, 0, 0]
noncomputable def R133_3 : Array Oper := opsAt Try.f133 [1, 1, 0]
theorem code133 : Try.f133.body = some (.seq (.region 0 R133_0 false) (.seq (.seq (.region 1 R133_1 false) (.cond (.tmp 5) (.seq (.region 2 R133_2 false) .ret) .skip)) (.seq (.region 3 R133_3 false) .ret))) := by kernel_rfl
noncomputable def R134_0 : Array Oper := opsAt Try.f134 [0]
noncomputable def R134_1 : Array Oper := opsAt Try.f134 [1, 0]
theorem code134 : Try.f134.body = some (.seq (.region 0 R134_0 false) (.seq (.region 1 R134_1 false) .ret)) := by kernel_rfl
noncomputable def R135_0 : Array Oper := opsAt Try.f135 [0]
noncomputable def R135_1 : Array Oper := opsAt Try.f135 [1, 0]
noncomputable def R135_2 : Array Oper := opsAt Try.f135 [1, 1, 0]
noncomputable def R135_3 : Array Oper := opsAt Try.f135 [1, 1, 1, 0, 0]
noncomputable def R135_4 : Array Oper := opsAt Try.f135 [1, 1, 1, 0, 1, 0, 0, 0, 0]
noncomputable def R135_6 : Array Oper := opsAt Try.f135 [1, 1, 1, 0, 1, 0, 0, 1, 0, 0, 0, 0]
noncomputable def R135_7 : Array Oper := opsAt Try.f135 [1, 1, 1, 0, 1, 0, 0, 1, 0, 0, 0, 1, 0, 0]
noncomputable def R135_8 : Array Oper := opsAt Try.f135 [1, 1, 1, 0, 1, 0, 0, 1, 0, 0, 1, 0]
noncomputable def R135_9 : Array Oper := opsAt Try.f135 [1, 1, 1, 0, 1, 0, 0, 1, 0, 0, 1, 1]
noncomputable def R135_5 : Array Oper := opsAt Try.f135 [1, 1, 1, 0, 1, 0, 0, 1, 1]
noncomputable def L135_0 : Code := .seq (.seq (.region 4 R135_4 false) (.cond (.tmp 17) .skip (.exit 0))) (.seq (.block 1 (.seq (.seq (.region 6 R135_6 false) (.cond (.tmp 33) (.seq (.region 7 R135_7 false) (.exit 1)) .skip)) (.seq (.region 8 R135_8 true) (.region 9 R135_9 false)))) (.region 5 R135_5 false))
theorem lpL135_0 : loops L135_0 = 0 := rfl
noncomputable def R135_10 : Array Oper := opsAt Try.f135 [1, 1, 1, 1, 0]
noncomputable def M135_0 : Code := .seq (.region 10 R135_10 false) .ret
theorem lpM135_0 : loops M135_0 = 0 := rfl
theorem code135 : Try.f135.body = some (.seq (.region 0 R135_0 false) (.seq (.region 1 R135_1 false) (.seq (.region 2 R135_2 false) (.seq (.seq (.region 3 R135_3 false) (.block 0 (.loop L135_0))) M135_0)))) := by kernel_rfl
noncomputable def R136_0 : Array Oper := opsAt Try.f136 [0]
noncomputable def R136_1 : Array Oper := opsAt Try.f136 [1, 0, 0]
noncomputable def R136_2 : Array Oper := opsAt Try.f136 [1, 0, 1, 0, 0]
noncomputable def R136_3 : Array Oper := opsAt Try.f136 [1, 1, 0]
noncomputable def R136_4 : Array Oper := opsAt Try.f136 [1, 1, 1, 0, 0]
noncomputable def R136_5 : Array Oper := opsAt Try.f136 [1, 1, 1, 0, 1, 0, 0, 0]
noncomputable def R136_6 : Array Oper := opsAt Try.f136 [1, 1, 1, 0, 1, 0, 0, 1, 1, 0, 0, 0]
noncomputable def R136_7 : Array Oper := opsAt Try.f136 [1, 1, 1, 0, 1, 0, 0, 1, 1, 0, 0, 1, 0]
noncomputable def R136_8 : Array Oper := opsAt Try.f136 [1, 1, 1, 0, 1, 0, 0, 1, 1, 0, 0, 1, 1, 0]
noncomputable def R136_9 : Array Oper := opsAt Try.f136 [1, 1, 1, 0, 1, 0, 0, 1, 1, 1]
noncomputable def L136_0 : Code := .seq (.region 5 R136_5 false) (.seq (.cond (.tmp 19) .skip (.exit 0)) (.seq (.block 1 (.seq (.region 6 R136_6 false) (.seq (.region 7 R136_7 false) (.cond (.tmp 24) (.region 8 R136_8 true) .skip)))) (.region 9 R136_9 false)))
theorem lpL136_0 : loops L136_0 = 0 := rfl
noncomputable def R136_10 : Array Oper := opsAt Try.f136 [1, 1, 1, 1, 0]
noncomputable def M136_0 : Code := .seq (.region 10 R136_10 false) .ret
theorem lpM136_0 : loops M136_0 = 0 := rfl
theorem code136 : Try.f136.body = some (.seq (.region 0 R136_0 false) (.seq (.seq (.region 1 R136_1 false) (.cond (.tmp 11) (.seq (.region 2 R136_2 false) .ret) .skip)) (.seq (.region 3 R136_3 false) (.seq (.seq (.region 4 R136_4 false) (.block 0 (.loop L136_0))) M136_0)))) := by kernel_rfl
noncomputable def R137_0 : Array Oper := opsAt Try.f137 [0]
noncomputable def R137_1 : Array Oper := opsAt Try.f137 [1, 0]
theorem code137 : Try.f137.body = some (.seq (.region 0 R137_0 false) (.seq (.region 1 R137_1 false) .ret)) := by kernel_rfl
noncomputable def R138_0 : Array Oper := opsAt Try.f138 [0]
noncomputable def R138_1 : Array Oper := opsAt Try.f138 [1, 0]
noncomputable def R138_2 : Array Oper := opsAt Try.f138 [1, 1, 0, 0]
noncomputable def R138_3 : Array Oper := opsAt Try.f138 [1, 1, 0, 1, 0]
noncomputable def R138_4 : Array Oper := opsAt Try.f138 [1, 1, 1, 0]
theorem code138 : Try.f138.body = some (.seq (.region 0 R138_0 false) (.seq (.region 1 R138_1 false) (.seq (.seq (.region 2 R138_2 false) (.cond (.tmp 12) (.region 3 R138_3 false) .skip)) (.seq (.region 4 R138_4 false) .ret)))) := by kernel_rfl
noncomputable def R139_0 : Array Oper := opsAt Try.f139 [0]
noncomputable def R139_1 : Array Oper := opsAt Try.f139 [1, 0]
noncomputable def R139_2 : Array Oper := opsAt Try.f139 [1, 1, 0]
noncomputable def R139_3 : Array Oper := opsAt Try.f139 [1, 1, 1, 0, 0]
noncomputable def R139_4 : Array Oper := opsAt Try.f139 [1, 1, 1, 0, 1, 0, 0, 0, 0]
noncomputable def R139_6 : Array Oper := opsAt Try.f139 [1, 1, 1, 0, 1, 0, 0, 1, 0, 0, 0, 0]
noncomputable def R139_7 : Array Oper := opsAt Try.f139 [1, 1, 1, 0, 1, 0, 0, 1, 0, 0, 1, 0]
noncomputable def R139_8 : Array Oper := opsAt Try.f139 [1, 1, 1, 0, 1, 0, 0, 1, 0, 0, 1, 1]
noncomputable def R139_5 : Array Oper := opsAt Try.f139 [1, 1, 1, 0, 1, 0, 0, 1, 1]
noncomputable def L139_0 : Code := .seq (.seq (.region 4 R139_4 false) (.cond (.tmp 17) .skip (.exit 0))) (.seq (.block 1 (.seq (.seq (.region 6 R139_6 false) (.cond (.tmp 25) (.exit 1) .skip)) (.seq (.region 7 R139_7 true) (.region 8 R139_8 false)))) (.region 5 R139_5 false))
theorem lpL139_0 : loops L139_0 = 0 := rfl
noncomputable def R139_9 : Array Oper := opsAt Try.f139 [1, 1, 1, 1, 0]
noncomputable def M139_0 : Code := .seq (.region 9 R139_9 false) .ret
theorem lpM139_0 : loops M139_0 = 0 := rfl
theorem code139 : Try.f139.body = some (.seq (.region 0 R139_0 false) (.seq (.region 1 R139_1 false) (.seq (.region 2 R139_2 false) (.seq (.seq (.region 3 R139_3 false) (.block 0 (.loop L139_0))) M139_0)))) := by kernel_rfl
noncomputable def R140_0 : Array Oper := opsAt Try.f140 [0]
noncomputable def R140_1 : Array Oper := opsAt Try.f140 [1, 0]
noncomputable def R140_2 : Array Oper := opsAt Try.f140 [1, 1, 0, 0]
noncomputable def R140_3 : Array Oper := opsAt Try.f140 [1, 1, 0, 1, 0, 0, 0, 0]
noncomputable def R140_6 : Array Oper := opsAt Try.f140 [1, 1, 0, 1, 0, 0, 1, 0, 0, 0, 0]
noncomputable def R140_7 : Array Oper := opsAt Try.f140 [1, 1, 0, 1, 0, 0, 1, 0, 0, 0, 1, 1, 0]
noncomputable def R140_8 : Array Oper := opsAt Try.f140 [1, 1, 0, 1, 0, 0, 1, 0, 0, 0, 1, 1, 1, 0]
noncomputable def R140_5 : Array Oper := opsAt Try.f140 [1, 1, 0, 1, 0, 0, 1, 0, 0, 0, 1, 1, 1, 1]
noncomputable def R140_4 : Array Oper := opsAt Try.f140 [1, 1, 0, 1, 0, 0, 1, 1]
noncomputable def L140_0 : Code := .seq (.seq (.region 3 R140_3 false) (.cond (.tmp 13) .skip (.exit 0))) (.seq (.block 1 (.block 2 (.seq (.region 6 R140_6 false) (.cond (.tmp 20) .skip (.seq (.region 7 R140_7 false) (.cond (.tmp 27) (.region 8 R140_8 false) (.region 5 R140_5 false))))))) (.region 4 R140_4 false))
theorem lpL140_0 : loops L140_0 = 0 := rfl
noncomputable def R140_9 : Array Oper := opsAt Try.f140 [1, 1, 1, 0]
noncomputable def M140_0 : Code := .seq (.region 9 R140_9 false) .ret
theorem lpM140_0 : loops M140_0 = 0 := rfl
theorem code140 : Try.f140.body = some (.seq (.region 0 R140_0 false) (.seq (.region 1 R140_1 false) (.seq (.seq (.region 2 R140_2 false) (.block 0 (.loop L140_0))) M140_0))) := by kernel_rfl
noncomputable def R141_0 : Array Oper := opsAt Try.f141 [0]
noncomputable def R141_1 : Array Oper := opsAt Try.f141 [1, 0, 0]
noncomputable def R141_2 : Array Oper := opsAt Try.f141 [1, 0, 1, 0, 0]
noncomputable def R141_3 : Array Oper := opsAt Try.f141 [1, 1, 0]
theorem code141 : Try.f141.body = some (.seq (.region 0 R141_0 false) (.seq (.seq (.region 1 R141_1 false) (.cond (.tmp 10) (.seq (.region 2 R141_2 false) .ret) .skip)) (.seq (.region 3 R141_3 false) .ret))) := by kernel_rfl
noncomputable def R142_0 : Array Oper := opsAt Try.f142 [0]
noncomputable def R142_1 : Array Oper := opsAt Try.f142 [1, 0]
theorem code142 : Try.f142.body = some (.seq (.region 0 R142_0 false) (.seq (.region 1 R142_1 true) .ret)) := by kernel_rfl
noncomputable def R143_0 : Array Oper := opsAt Try.f143 [0]
noncomputable def R143_1 : Array Oper := opsAt Try.f143 [1, 0, 0]
noncomputable def R143_2 : Array Oper := opsAt Try.f143 [1, 0, 1, 0, 0]
noncomputable def R143_3 : Array Oper := opsAt Try.f143 [1, 1, 0]
theorem code143 : Try.f143.body = some (.seq (.region 0 R143_0 false) (.seq (.seq (.region 1 R143_1 false) (.cond (.tmp 6) (.seq (.region 2 R143_2 false) .ret) .skip)) (.seq (.region 3 R143_3 false) .ret))) := by kernel_rfl
noncomputable def R144_0 : Array Oper := opsAt Try.f144 [0]
noncomputable def R144_1 : Array Oper := opsAt Try.f144 [1, 0, 0]
noncomputable def R144_2 : Array Oper := opsAt Try.f144 [1, 0, 1, 0, 0, 0]
noncomputable def R144_3 : Array Oper := opsAt Try.f144 [1, 0, 1, 0, 0, 1, 1, 0, 0, 0]
noncomputable def R144_4 : Array Oper := opsAt Try.f144 [1, 0, 1, 0, 0, 1, 1, 0, 0, 1, 0]
noncomputable def R144_5 : Array Oper := opsAt Try.f144 [1, 0, 1, 0, 0, 1, 1, 0, 0, 1, 1, 0, 0]
noncomputable def R144_6 : Array Oper := opsAt Try.f144 [1, 0, 1, 0, 0, 1, 1, 1]
noncomputable def L144_0 : Code := .seq (.region 2 R144_2 false) (.seq (.cond (.tmp 8) .skip (.exit 0)) (.seq (.block 1 (.seq (.region 3 R144_3 false) (.seq (.region 4 R144_4 true) (.cond (.tmp 21) (.seq (.region 5 R144_5 false) .ret) .skip)))) (.region 6 R144_6 false)))
theorem lpL144_0 : loops L144_0 = 0 := rfl
noncomputable def R144_7 : Array Oper := opsAt Try.f144 [1, 1, 0]
noncomputable def M144_0 : Code := .seq (.region 7 R144_7 false) .ret
theorem lpM144_0 : loops M144_0 = 0 := rfl
theorem code144 : Try.f144.body = some (.seq (.region 0 R144_0 false) (.seq (.seq (.region 1 R144_1 false) (.block 0 (.loop L144_0))) M144_0)) := by kernel_rfl
noncomputable def R145_0 : Array Oper := opsAt Try.f145 [0]
noncomputable def R145_1 : Array Oper := opsAt Try.f145 [1, 0]
theorem code145 : Try.f145.body = some (.seq (.region 0 R145_0 false) (.seq (.region 1 R145_1 true) .ret)) := by kernel_rfl
noncomputable def R146_0 : Array Oper := opsAt Try.f146 [0]
noncomputable def R146_1 : Array Oper := opsAt Try.f146 [1, 0]
theorem code146 : Try.f146.body = some (.seq (.region 0 R146_0 false) (.seq (.region 1 R146_1 false) .ret)) := by kernel_rfl
noncomputable def R147_0 : Array Oper := opsAt Try.f147 [0]
noncomputable def R147_1 : Array Oper := opsAt Try.f147 [1, 0, 0]
noncomputable def R147_2 : Array Oper := opsAt Try.f147 [1, 0, 1, 0, 0]
noncomputable def R147_3 : Array Oper := opsAt Try.f147 [1, 1, 0]
theorem code147 : Try.f147.body = some (.seq (.region 0 R147_0 false) (.seq (.seq (.region 1 R147_1 false) (.cond (.tmp 7) (.seq (.region 2 R147_2 false) .ret) .skip)) (.seq (.region 3 R147_3 false) .ret))) := by kernel_rfl
noncomputable def R148_0 : Array Oper := opsAt Try.f148 [0]
noncomputable def R148_1 : Array Oper := opsAt Try.f148 [1, 0, 0]
noncomputable def R148_2 : Array Oper := opsAt Try.f148 [1, 0, 1, 0, 0]
noncomputable def R148_3 : Array Oper := opsAt Try.f148 [1, 1, 0]
theorem code148 : Try.f148.body = some (.seq (.region 0 R148_0 false) (.seq (.seq (.region 1 R148_1 false) (.cond (.tmp 7) (.seq (.region 2 R148_2 false) .ret) .skip)) (.seq (.region 3 R148_3 false) .ret))) := by kernel_rfl
noncomputable def R149_0 : Array Oper := opsAt Try.f149 [0]
noncomputable def R149_1 : Array Oper := opsAt Try.f149 [1, 0]
noncomputable def R149_2 : Array Oper := opsAt Try.f149 [1, 1, 0]
theorem code149 : Try.f149.body = some (.seq (.region 0 R149_0 false) (.seq (.region 1 R149_1 false) (.seq (.region 2 R149_2 false) .ret))) := by kernel_rfl
noncomputable def R150_0 : Array Oper := opsAt Try.f150 [0]
noncomputable def R150_1 : Array Oper := opsAt Try.f150 [1, 0, 0]
noncomputable def R150_2 : Array Oper := opsAt Try.f150 [1, 0, 1, 0, 0]
noncomputable def R150_3 : Array Oper := opsAt Try.f150 [1, 1, 0]
theorem code150 : Try.f150.body = some (.seq (.region 0 R150_0 false) (.seq (.seq (.region 1 R150_1 false) (.cond (.tmp 4) (.seq (.region 2 R150_2 false) .ret) .skip)) (.seq (.region 3 R150_3 false) .ret))) := by kernel_rfl
noncomputable def R151_0 : Array Oper := opsAt Try.f151 [0]
noncomputable def R151_1 : Array Oper := opsAt Try.f151 [1, 0]
noncomputable def R151_2 : Array Oper := opsAt Try.f151 [1, 1, 0, 0]
noncomputable def R151_3 : Array Oper := opsAt Try.f151 [1, 1, 0, 1, 0, 0]
noncomputable def R151_4 : Array Oper := opsAt Try.f151 [1, 1, 1, 0, 0]
noncomputable def R151_5 : Array Oper := opsAt Try.f151 [1, 1, 1, 0, 1, 0, 0, 0, 0]
noncomputable def R151_7 : Array Oper := opsAt Try.f151 [1, 1, 1, 0, 1, 0, 0, 1, 0, 0, 0]
noncomputable def R151_8 : Array Oper := opsAt Try.f151 [1, 1, 1, 0, 1, 0, 0, 1, 0, 0, 1, 0, 0]
noncomputable def R151_9 : Array Oper := opsAt Try.f151 [1, 1, 1, 0, 1, 0, 0, 1, 0, 0, 1, 0, 1, 0, 0]
noncomputable def R151_10 : Array Oper := opsAt Try.f151 [1, 1, 1, 0, 1, 0, 0, 1, 0, 0, 1, 1]
noncomputable def R151_6 : Array Oper := opsAt Try.f151 [1, 1, 1, 0, 1, 0, 0, 1, 1]
noncomputable def L151_0 : Code := .seq (.seq (.region 5 R151_5 false) (.cond (.tmp 12) .skip (.exit 0))) (.seq (.block 1 (.seq (.region 7 R151_7 false) (.seq (.seq (.region 8 R151_8 false) (.cond (.tmp 26) (.seq (.region 9 R151_9 false) .ret) .skip)) (.region 10 R151_10 false)))) (.region 6 R151_6 false))
theorem lpL151_0 : loops L151_0 = 0 := rfl
noncomputable def R151_11 : Array Oper := opsAt Try.f151 [1, 1, 1, 1, 0]
noncomputable def M151_0 : Code := .seq (.region 11 R151_11 false) .ret
theorem lpM151_0 : loops M151_0 = 0 := rfl
theorem code151 : Try.f151.body = some (.seq (.region 0 R151_0 false) (.seq (.region 1 R151_1 false) (.seq (.seq (.region 2 R151_2 false) (.cond (.tmp 8) (.seq (.region 3 R151_3 false) .ret) .skip)) (.seq (.seq (.region 4 R151_4 false) (.block 0 (.loop L151_0))) M151_0)))) := by kernel_rfl
noncomputable def R152_0 : Array Oper := opsAt Try.f152 [0]
noncomputable def R152_1 : Array Oper := opsAt Try.f152 [1, 0]
noncomputable def R152_2 : Array Oper := opsAt Try.f152 [1, 1, 0, 0, 0]
noncomputable def R152_3 : Array Oper := opsAt Try.f152 [1, 1, 0, 0, 1, 0, 0, 0]
noncomputable def R152_4 : Array Oper := opsAt Try.f152 [1, 1, 0, 0, 1, 0, 0, 1, 0, 0]
noncomputable def R152_5 : Array Oper := opsAt Try.f152 [1, 1, 0, 0, 1, 0, 1, 0]
noncomputable def R152_6 : Array Oper := opsAt Try.f152 [1, 1, 0, 0, 1, 1, 0]
noncomputable def R152_7 : Array Oper := opsAt Try.f152 [1, 1, 0, 0, 1, 1, 1, 0, 0]
noncomputable def R152_8 : Array Oper := opsAt Try.f152 [1, 1, 0, 0, 1, 1, 1, 0, 1, 0]
noncomputable def R152_9 : Array Oper := opsAt Try.f152 [1, 1, 0, 0, 1, 1, 1, 0, 1, 1, 0, 0]
noncomputable def R152_10 : Array Oper := opsAt Try.f152 [1, 1, 1, 0]
theorem code152 : Try.f152.body = some (.seq (.region 0 R152_0 false) (.seq (.region 1 R152_1 false) (.seq (.block 0 (.seq (.region 2 R152_2 false) (.cond (.tmp 12) (.seq (.seq (.region 3 R152_3 true) (.cond (.tmp 32) (.seq (.region 4 R152_4 false) .ret) .skip)) (.seq (.region 5 R152_5 false) .ret)) (.seq (.region 6 R152_6 false) (.cond (.tmp 33) (.seq (.region 7 R152_7 true) (.seq (.region 8 R152_8 false) (.cond (.tmp 71) (.seq (.region 9 R152_9 false) .ret) .skip))) .skip))))) (.seq (.region 10 R152_10 false) .ret)))) := by kernel_rfl
noncomputable def R153_0 : Array Oper := opsAt Try.f153 [0]
noncomputable def R153_1 : Array Oper := opsAt Try.f153 [1, 0]
noncomputable def R153_2 : Array Oper := opsAt Try.f153 [1, 1, 0]
noncomputable def R153_3 : Array Oper := opsAt Try.f153 [1, 1, 1, 0]
noncomputable def R153_4 : Array Oper := opsAt Try.f153 [1, 1, 1, 1, 0]
theorem code153 : Try.f153.body = some (.seq (.region 0 R153_0 false) (.seq (.region 1 R153_1 false) (.seq (.region 2 R153_2 false) (.seq (.region 3 R153_3 false) (.seq (.region 4 R153_4 false) .ret))))) := by kernel_rfl
noncomputable def R154_0 : Array Oper := opsAt Try.f154 [0]
noncomputable def R154_1 : Array Oper := opsAt Try.f154 [1, 0, 0]
noncomputable def R154_2 : Array Oper := opsAt Try.f154 [1, 0, 1, 0, 0]
noncomputable def R154_3 : Array Oper := opsAt Try.f154 [1, 1, 0]
noncomputable def R154_4 : Array Oper := opsAt Try.f154 [1, 1, 1, 0, 0]
noncomputable def R154_5 : Array Oper := opsAt Try.f154 [1, 1, 1, 0, 1, 0, 0, 0]
noncomputable def R154_6 : Array Oper := opsAt Try.f154 [1, 1, 1, 0, 1, 0, 0, 1, 1, 0, 0, 0]
noncomputable def R154_7 : Array Oper := opsAt Try.f154 [1, 1, 1, 0, 1, 0, 0, 1, 1, 0, 0, 1, 0]
noncomputable def R154_8 : Array Oper := opsAt Try.f154 [1, 1, 1, 0, 1, 0, 0, 1, 1, 0, 0, 1, 1, 0, 0]
noncomputable def R154_9 : Array Oper := opsAt Try.f154 [1, 1, 1, 0, 1, 0, 0, 1, 1, 0, 0, 1, 1, 0, 1, 0, 0]
noncomputable def R154_10 : Array Oper := opsAt Try.f154 [1, 1, 1, 0, 1, 0, 0, 1, 1, 0, 0, 1, 1, 1]
noncomputable def R154_11 : Array Oper := opsAt Try.f154 [1, 1, 1, 0, 1, 0, 0, 1, 1, 1]
noncomputable def L154_0 : Code := .seq (.region 5 R154_5 false) (.seq (.cond (.tmp 12) .skip (.exit 0)) (.seq (.block 1 (.seq (.region 6 R154_6 false) (.seq (.region 7 R154_7 false) (.seq (.seq (.region 8 R154_8 false) (.cond (.tmp 25) (.seq (.region 9 R154_9 false) .ret) .skip)) (.region 10 R154_10 false))))) (.region 11 R154_11 false)))
theorem lpL154_0 : loops L154_0 = 0 := rfl
noncomputable def R154_12 : Array Oper := opsAt Try.f154 [1, 1, 1, 1, 0]
noncomputable def M154_0 : Code := .seq (.region 12 R154_12 false) .ret
theorem lpM154_0 : loops M154_0 = 0 := rfl
theorem code154 : Try.f154.body = some (.seq (.region 0 R154_0 false) (.seq (.seq (.region 1 R154_1 false) (.cond (.tmp 8) (.seq (.region 2 R154_2 false) .ret) .skip)) (.seq (.region 3 R154_3 false) (.seq (.seq (.region 4 R154_4 false) (.block 0 (.loop L154_0))) M154_0)))) := by kernel_rfl
noncomputable def R155_0 : Array Oper := opsAt Try.f155 [0]
noncomputable def R155_1 : Array Oper := opsAt Try.f155 [1, 0, 0]
noncomputable def R155_2 : Array Oper := opsAt Try.f155 [1, 0, 1, 0, 0]
noncomputable def R155_3 : Array Oper := opsAt Try.f155 [1, 1, 0]
theorem code155 : Try.f155.body = some (.seq (.region 0 R155_0 false) (.seq (.seq (.region 1 R155_1 false) (.cond (.tmp 4) (.seq (.region 2 R155_2 false) .ret) .skip)) (.seq (.region 3 R155_3 false) .ret))) := by kernel_rfl
noncomputable def R156_0 : Array Oper := opsAt Try.f156 [0]
noncomputable def R156_1 : Array Oper := opsAt Try.f156 [1, 0]
noncomputable def R156_2 : Array Oper := opsAt Try.f156 [1, 1, 0, 0]
noncomputable def R156_3 : Array Oper := opsAt Try.f156 [1, 1, 0, 1, 0, 0]
noncomputable def R156_4 : Array Oper := opsAt Try.f156 [1, 1, 1, 0]
noncomputable def R156_5 : Array Oper := opsAt Try.f156 [1, 1, 1, 1, 0, 0]
noncomputable def R156_6 : Array Oper := opsAt Try.f156 [1, 1, 1, 1, 0, 1, 0, 0, 0]
noncomputable def R156_7 : Array Oper := opsAt Try.f156 [1, 1, 1, 1, 0, 1, 0, 0, 1, 1, 0, 0, 0]
noncomputable def R156_8 : Array Oper := opsAt Try.f156 [1, 1, 1, 1, 0, 1, 0, 0, 1, 1, 0, 0, 1, 0]
noncomputable def R156_9 : Array Oper := opsAt Try.f156 [1, 1, 1, 1, 0, 1, 0, 0, 1, 1, 0, 0, 1, 1, 0, 0]
noncomputable def R156_10 : Array Oper := opsAt Try.f156 [1, 1, 1, 1, 0, 1, 0, 0, 1, 1, 1]
noncomputable def L156_0 : Code := .seq (.region 6 R156_6 false) (.seq (.cond (.tmp 26) .skip (.exit 0)) (.seq (.block 1 (.seq (.region 7 R156_7 false) (.seq (.region 8 R156_8 false) (.cond (.tmp 31) (.seq (.region 9 R156_9 false) .ret) .skip)))) (.region 10 R156_10 false)))
theorem lpL156_0 : loops L156_0 = 0 := rfl
noncomputable def R156_11 : Array Oper := opsAt Try.f156 [1, 1, 1, 1, 1, 0]
noncomputable def R156_12 : Array Oper := opsAt Try.f156 [1, 1, 1, 1, 1, 1, 0, 0]
noncomputable def R156_13 : Array Oper := opsAt Try.f156 [1, 1, 1, 1, 1, 1, 0, 1, 0, 0]
noncomputable def R156_14 : Array Oper := opsAt Try.f156 [1, 1, 1, 1, 1, 1, 0, 1, 0, 1, 0]
noncomputable def R156_15 : Array Oper := opsAt Try.f156 [1, 1, 1, 1, 1, 1, 0, 1, 0, 1, 1, 0]
noncomputable def R156_16 : Array Oper := opsAt Try.f156 [1, 1, 1, 1, 1, 1, 0, 1, 0, 1, 1, 1, 0]
noncomputable def R156_17 : Array Oper := opsAt Try.f156 [1, 1, 1, 1, 1, 1, 0, 1, 0, 1, 1, 1, 1, 0]
noncomputable def R156_18 : Array Oper := opsAt Try.f156 [1, 1, 1, 1, 1, 1, 0, 1, 0, 1, 1, 1, 1, 1, 0]
noncomputable def R156_19 : Array Oper := opsAt Try.f156 [1, 1, 1, 1, 1, 1, 0, 1, 0, 1, 1, 1, 1, 1, 1, 0]
noncomputable def R156_20 : Array Oper := opsAt Try.f156 [1, 1, 1, 1, 1, 1, 0, 1, 0, 1, 1, 1, 1, 1, 1, 1, 0]
noncomputable def R156_21 : Array Oper := opsAt Try.f156 [1, 1, 1, 1, 1, 1, 0, 1, 0, 1, 1, 1, 1, 1, 1, 1, 1, 0]
noncomputable def R156_22 : Array Oper := opsAt Try.f156 [1, 1, 1, 1, 1, 1, 0, 1, 0, 1, 1, 1, 1, 1, 1, 1, 1, 1, 0, 0]
noncomputable def R156_23 : Array Oper := opsAt Try.f156 [1, 1, 1, 1, 1, 1, 0, 1, 0, 1, 1, 1, 1, 1, 1, 1, 1, 1, 0, 1, 0]
noncomputable def R156_24 : Array Oper := opsAt Try.f156 [1, 1, 1, 1, 1, 1, 1, 0]
noncomputable def M156_0 : Code := .seq (.region 11 R156_11 true) (.seq (.seq (.region 12 R156_12 false) (.block 2 (.seq (.region 13 R156_13 false) (.cond (.tmp 45) (.region 14 R156_14 false) (.seq (.region 15 R156_15 false) (.cond (.tmp 50) (.region 16 R156_16 false) (.seq (.region 17 R156_17 false) (.cond (.tmp 55) (.region 18 R156_18 false) (.seq (.region 19 R156_19 false) (.cond (.tmp 60) (.region 20 R156_20 false) (.seq (.region 21 R156_21 false) (.cond (.tmp 65) (.seq (.region 22 R156_22 false) (.cond (.tmp 70) (.region 23 R156_23 false) .skip)) .skip)))))))))))) (.seq (.region 24 R156_24 false) .ret))
theorem lpM156_0 : loops M156_0 = 0 := rfl
theorem code156 : Try.f156.body = some (.seq (.region 0 R156_0 false) (.seq (.region 1 R156_1 false) (.seq (.seq (.region 2 R156_2 false) (.cond (.tmp 16) (.seq (.region 3 R156_3 false) .ret) .skip)) (.seq (.region 4 R156_4 false) (.seq (.seq (.region 5 R156_5 false) (.block 0 (.loop L156_0))) M156_0))))) := by kernel_rfl
noncomputable def R157_0 : Array Oper := opsAt Try.f157 [0]
noncomputable def R157_1 : Array Oper := opsAt Try.f157 [1, 0]
noncomputable def R157_2 : Array Oper := opsAt Try.f157 [1, 1, 0, 0]
noncomputable def R157_3 : Array Oper := opsAt Try.f157 [1, 1, 0, 1, 0, 0]
noncomputable def R157_4 : Array Oper := opsAt Try.f157 [1, 1, 1, 0, 0]
noncomputable def R157_5 : Array Oper := opsAt Try.f157 [1, 1, 1, 0, 1, 0, 0]
noncomputable def R157_6 : Array Oper := opsAt Try.f157 [1, 1, 1, 0, 1, 0, 1, 0, 0]
noncomputable def R157_7 : Array Oper := opsAt Try.f157 [1, 1, 1, 0, 1, 0, 1, 0, 1, 0]
noncomputable def R157_8 : Array Oper := opsAt Try.f157 [1, 1, 1, 0, 1, 0, 1, 1, 0]
noncomputable def R157_9 : Array Oper := opsAt Try.f157 [1, 1, 1, 1, 0]
noncomputable def R157_10 : Array Oper := opsAt Try.f157 [1, 1, 1, 1, 1, 0, 0]
noncomputable def R157_11 : Array Oper := opsAt Try.f157 [1, 1, 1, 1, 1, 0, 1, 0, 0]
noncomputable def R157_12 : Array Oper := opsAt Try.f157 [1, 1, 1, 1, 1, 0, 1, 0, 1, 0]
noncomputable def R157_13 : Array Oper := opsAt Try.f157 [1, 1, 1, 1, 1, 0, 1, 0, 1, 1, 0]
noncomputable def R157_14 : Array Oper := opsAt Try.f157 [1, 1, 1, 1, 1, 0, 1, 0, 1, 1, 1, 0]
noncomputable def R157_15 : Array Oper := opsAt Try.f157 [1, 1, 1, 1, 1, 1, 0]
noncomputable def R157_16 : Array Oper := opsAt Try.f157 [1, 1, 1, 1, 1, 1, 1, 0, 0]
noncomputable def R157_17 : Array Oper := opsAt Try.f157 [1, 1, 1, 1, 1, 1, 1, 0, 1, 0, 0]
noncomputable def R157_18 : Array Oper := opsAt Try.f157 [1, 1, 1, 1, 1, 1, 1, 0, 1, 0, 1, 0]
noncomputable def R157_19 : Array Oper := opsAt Try.f157 [1, 1, 1, 1, 1, 1, 1, 0, 1, 0, 1, 1, 0]
noncomputable def R157_20 : Array Oper := opsAt Try.f157 [1, 1, 1, 1, 1, 1, 1, 0, 1, 0, 1, 1, 1, 0]
noncomputable def R157_21 : Array Oper := opsAt Try.f157 [1, 1, 1, 1, 1, 1, 1, 1, 0, 0]
noncomputable def R157_22 : Array Oper := opsAt Try.f157 [1, 1, 1, 1, 1, 1, 1, 1, 0, 1, 0, 0]
noncomputable def R157_23 : Array Oper := opsAt Try.f157 [1, 1, 1, 1, 1, 1, 1, 1, 0, 1, 0, 1, 0]
noncomputable def R157_24 : Array Oper := opsAt Try.f157 [1, 1, 1, 1, 1, 1, 1, 1, 0, 1, 0, 1, 1, 0]
noncomputable def R157_25 : Array Oper := opsAt Try.f157 [1, 1, 1, 1, 1, 1, 1, 1, 1, 0]
noncomputable def R157_26 : Array Oper := opsAt Try.f157 [1, 1, 1, 1, 1, 1, 1, 1, 1, 1, 0, 0]
noncomputable def R157_27 : Array Oper := opsAt Try.f157 [1, 1, 1, 1, 1, 1, 1, 1, 1, 1, 0, 1, 0, 0]
noncomputable def R157_28 : Array Oper := opsAt Try.f157 [1, 1, 1, 1, 1, 1, 1, 1, 1, 1, 0, 1, 0, 1, 0]
noncomputable def R157_29 : Array Oper := opsAt Try.f157 [1, 1, 1, 1, 1, 1, 1, 1, 1, 1, 0, 1, 0, 1, 1, 0]
noncomputable def R157_30 : Array Oper := opsAt Try.f157 [1, 1, 1, 1, 1, 1, 1, 1, 1, 1, 0, 1, 0, 1, 1, 1, 0]
noncomputable def R157_31 : Array Oper := opsAt Try.f157 [1, 1, 1, 1, 1, 1, 1, 1, 1, 1, 1, 0, 0]
noncomputable def R157_32 : Array Oper := opsAt Try.f157 [1, 1, 1, 1, 1, 1, 1, 1, 1, 1, 1, 0, 1, 0, 0]
noncomputable def R157_33 : Array Oper := opsAt Try.f157 [1, 1, 1, 1, 1, 1, 1, 1, 1, 1, 1, 0, 1, 0, 1, 0]
noncomputable def R157_34 : Array Oper := opsAt Try.f157 [1, 1, 1, 1, 1, 1, 1, 1, 1, 1, 1, 0, 1, 0, 1, 1, 0]
noncomputable def R157_35 : Array Oper := opsAt Try.f157 [1, 1, 1, 1, 1, 1, 1, 1, 1, 1, 1, 0, 1, 0, 1, 1, 1, 0]
noncomputable def R157_36 : Array Oper := opsAt Try.f157 [1, 1, 1, 1, 1, 1, 1, 1, 1, 1, 1, 1, 0]
noncomputable def R157_37 : Array Oper := opsAt Try.f157 [1, 1, 1, 1, 1, 1, 1, 1, 1, 1, 1, 1, 1, 0]
noncomputable def R157_38 : Array Oper := opsAt Try.f157 [1, 1, 1, 1, 1, 1, 1, 1, 1, 1, 1, 1, 1, 1, 0]
noncomputable def R157_39 : Array Oper := opsAt Try.f157 [1, 1, 1, 1, 1, 1, 1, 1, 1, 1, 1, 1, 1, 1, 1, 0]
theorem code157 : Try.f157.body = some (.seq (.region 0 R157_0 false) (.seq (.region 1 R157_1 false) (.seq (.seq (.region 2 R157_2 false) (.cond (.tmp 21) (.seq (.region 3 R157_3 false) .ret) .skip)) (.seq (.seq (.region 4 R157_4 false) (.cond (.tmp 29) (.seq (.region 5 R157_5 false) (.seq (.seq (.region 6 R157_6 false) (.cond (.tmp 39) (.region 7 R157_7 false) .skip)) (.seq (.region 8 R157_8 false) .ret))) .skip)) (.seq (.region 9 R157_9 true) (.seq (.seq (.region 10 R157_10 false) (.cond (.tmp 60) (.seq (.region 11 R157_11 false) (.seq (.region 12 R157_12 false) (.seq (.region 13 R157_13 true) (.seq (.region 14 R157_14 false) .ret)))) .skip)) (.seq (.region 15 R157_15 false) (.seq (.seq (.region 16 R157_16 false) (.cond (.tmp 92) (.seq (.region 17 R157_17 false) (.seq (.region 18 R157_18 true) (.seq (.region 19 R157_19 false) (.seq (.region 20 R157_20 false) .ret)))) .skip)) (.seq (.seq (.region 21 R157_21 false) (.cond (.tmp 120) (.seq (.region 22 R157_22 true) (.seq (.region 23 R157_23 false) (.seq (.region 24 R157_24 false) .ret))) .skip)) (.seq (.region 25 R157_25 false) (.seq (.seq (.region 26 R157_26 false) (.cond (.tmp 149) (.seq (.region 27 R157_27 true) (.seq (.region 28 R157_28 true) (.seq (.region 29 R157_29 false) (.seq (.region 30 R157_30 false) .ret)))) .skip)) (.seq (.seq (.region 31 R157_31 false) (.cond (.tmp 178) (.seq (.region 32 R157_32 true) (.seq (.region 33 R157_33 true) (.seq (.region 34 R157_34 false) (.seq (.region 35 R157_35 false) .ret)))) .skip)) (.seq (.region 36 R157_36 false) (.seq (.region 37 R157_37 false) (.seq (.region 38 R157_38 true) (.seq (.region 39 R157_39 false) .ret)))))))))))))))) := by kernel_rfl
noncomputable def R158_0 : Array Oper := opsAt Try.f158 [0]
noncomputable def R158_1 : Array Oper := opsAt Try.f158 [1, 0, 0, 0]
noncomputable def R158_2 : Array Oper := opsAt Try.f158 [1, 0, 0, 1, 0, 0]
noncomputable def R158_3 : Array Oper := opsAt Try.f158 [1, 0, 0, 1, 1, 0]
noncomputable def R158_4 : Array Oper := opsAt Try.f158 [1, 0, 0, 1, 1, 1, 0, 0]
noncomputable def R158_5 : Array Oper := opsAt Try.f158 [1, 1, 0]
theorem code158 : Try.f158.body = some (.seq (.region 0 R158_0 false) (.seq (.block 0 (.seq (.region 1 R158_1 false) (.cond (.tmp 3) (.seq (.region 2 R158_2 false) .ret) (.seq (.region 3 R158_3 false) (.cond (.tmp 7) (.seq (.region 4 R158_4 false) .ret) .skip))))) (.seq (.region 5 R158_5 false) .ret))) := by kernel_rfl
noncomputable def R159_0 : Array Oper := opsAt Try.f159 [0]
noncomputable def R159_1 : Array Oper := opsAt Try.f159 [1, 0, 0]
noncomputable def R159_2 : Array Oper := opsAt Try.f159 [1, 0, 1, 0, 0]
noncomputable def R159_3 : Array Oper := opsAt Try.f159 [1, 1, 0, 0]
noncomputable def R159_4 : Array Oper := opsAt Try.f159 [1, 1, 0, 1, 0, 0]
noncomputable def R159_5 : Array Oper := opsAt Try.f159 [1, 1, 1, 0]
theorem code159 : Try.f159.body = some (.seq (.region 0 R159_0 false) (.seq (.seq (.region 1 R159_1 false) (.cond (.tmp 9) (.seq (.region 2 R159_2 false) .ret) .skip)) (.seq (.seq (.region 3 R159_3 false) (.cond (.tmp 14) (.seq (.region 4 R159_4 false) .ret) .skip)) (.seq (.region 5 R159_5 false) .ret)))) := by kernel_rfl
noncomputable def R160_0 : Array Oper := opsAt Try.f160 [0]
noncomputable def R160_1 : Array Oper := opsAt Try.f160 [1, 0]
noncomputable def R160_2 : Array Oper := opsAt Try.f160 [1, 1, 0, 0, 0, 0, 0]
noncomputable def R160_3 : Array Oper := opsAt Try.f160 [1, 1, 0, 0, 0, 1, 0]
noncomputable def L160_0 : Code := .seq (.seq (.region 2 R160_2 false) (.cond (.tmp 17) .skip (.exit 0))) (.block 1 (.region 3 R160_3 false))
theorem lpL160_0 : loops L160_0 = 0 := rfl
noncomputable def R160_4 : Array Oper := opsAt Try.f160 [1, 1, 1, 0, 0]
noncomputable def R160_5 : Array Oper := opsAt Try.f160 [1, 1, 1, 0, 1, 0, 0]
noncomputable def R160_6 : Array Oper := opsAt Try.f160 [1, 1, 1, 1, 0]
noncomputable def M160_0 : Code := .seq (.seq (.region 4 R160_4 false) (.cond (.tmp 31) (.seq (.region 5 R160_5 false) .ret) .skip)) (.seq (.region 6 R160_6 true) .ret)
theorem lpM160_0 : loops M160_0 = 0 := rfl
theorem code160 : Try.f160.body = some (.seq (.region 0 R160_0 false) (.seq (.region 1 R160_1 false) (.seq (.block 0 (.loop L160_0)) M160_0))) := by kernel_rfl
noncomputable def R161_0 : Array Oper := opsAt Try.f161 [0]
noncomputable def R161_1 : Array Oper := opsAt Try.f161 [1]
theorem code161 : Try.f161.body = some (.seq (.region 0 R161_0 false) (.region 1 R161_1 false)) := by kernel_rfl
noncomputable def R162_0 : Array Oper := opsAt Try.f162 [0]
noncomputable def R162_1 : Array Oper := opsAt Try.f162 [1, 0, 0]
noncomputable def R162_2 : Array Oper := opsAt Try.f162 [1, 0, 1, 0, 0]
noncomputable def R162_3 : Array Oper := opsAt Try.f162 [1, 1, 0, 0]
noncomputable def R162_4 : Array Oper := opsAt Try.f162 [1, 1, 0, 1, 0, 0, 0, 0]
noncomputable def R162_6 : Array Oper := opsAt Try.f162 [1, 1, 0, 1, 0, 0, 1, 0, 0, 0]
noncomputable def R162_7 : Array Oper := opsAt Try.f162 [1, 1, 0, 1, 0, 0, 1, 0, 0, 1, 0, 0]
noncomputable def R162_8 : Array Oper := opsAt Try.f162 [1, 1, 0, 1, 0, 0, 1, 0, 0, 1, 0, 1, 0, 0]
noncomputable def R162_9 : Array Oper := opsAt Try.f162 [1, 1, 0, 1, 0, 0, 1, 0, 0, 1, 0, 1, 0, 1, 0, 0, 0, 0]
noncomputable def R162_11 : Array Oper := opsAt Try.f162 [1, 1, 0, 1, 0, 0, 1, 0, 0, 1, 0, 1, 0, 1, 0, 0, 1, 0, 0, 0]
noncomputable def R162_12 : Array Oper := opsAt Try.f162 [1, 1, 0, 1, 0, 0, 1, 0, 0, 1, 0, 1, 0, 1, 0, 0, 1, 0, 0, 1, 0, 0]
noncomputable def R162_13 : Array Oper := opsAt Try.f162 [1, 1, 0, 1, 0, 0, 1, 0, 0, 1, 0, 1, 0, 1, 0, 0, 1, 0, 0, 1, 0, 1]
noncomputable def R162_10 : Array Oper := opsAt Try.f162 [1, 1, 0, 1, 0, 0, 1, 0, 0, 1, 0, 1, 0, 1, 0, 0, 1, 1]
noncomputable def L162_1 : Code := .seq (.seq (.region 9 R162_9 false) (.cond (.tmp 32) .skip (.exit 2))) (.seq (.block 3 (.seq (.region 11 R162_11 true) (.cond (.tmp 44) (.seq (.region 12 R162_12 false) (.region 13 R162_13 false)) .skip))) (.region 10 R162_10 false))
theorem lpL162_1 : loops L162_1 = 0 := rfl
noncomputable def R162_14 : Array Oper := opsAt Try.f162 [1, 1, 0, 1, 0, 0, 1, 0, 0, 1, 0, 1, 1, 0]
noncomputable def R162_15 : Array Oper := opsAt Try.f162 [1, 1, 0, 1, 0, 0, 1, 0, 0, 1, 0, 1, 1, 1, 0]
noncomputable def M162_0 : Code := .seq (.region 14 R162_14 false) (.seq (.region 15 R162_15 false) .ret)
theorem lpM162_0 : loops M162_0 = 0 := rfl
noncomputable def R162_5 : Array Oper := opsAt Try.f162 [1, 1, 0, 1, 0, 0, 1, 1]
noncomputable def M162_1 : Code := .region 5 R162_5 false
theorem lpM162_1 : loops M162_1 = 0 := rfl
noncomputable def L162_0 : Code := .seq (.seq (.region 4 R162_4 false) (.cond (.tmp 13) .skip (.exit 0))) (.seq (.block 1 (.seq (.region 6 R162_6 true) (.cond (.tmp 25) (.seq (.region 7 R162_7 false) (.seq (.seq (.region 8 R162_8 false) (.block 2 (.loop L162_1))) M162_0)) .skip))) M162_1)
theorem lpL162_0 : loops L162_0 = 1 := rfl
noncomputable def R162_16 : Array Oper := opsAt Try.f162 [1, 1, 1, 0]
noncomputable def M162_2 : Code := .seq (.region 16 R162_16 false) .ret
theorem lpM162_2 : loops M162_2 = 0 := rfl
theorem code162 : Try.f162.body = some (.seq (.region 0 R162_0 false) (.seq (.seq (.region 1 R162_1 false) (.cond (.tmp 8) (.seq (.region 2 R162_2 false) .ret) .skip)) (.seq (.seq (.region 3 R162_3 false) (.block 0 (.loop L162_0))) M162_2))) := by kernel_rfl
noncomputable def R163_0 : Array Oper := opsAt Try.f163 [0]
noncomputable def R163_1 : Array Oper := opsAt Try.f163 [1, 0, 0]
noncomputable def R163_2 : Array Oper := opsAt Try.f163 [1, 0, 1, 0, 0, 0, 0]
noncomputable def R163_4 : Array Oper := opsAt Try.f163 [1, 0, 1, 0, 0, 1, 0, 0, 0]
noncomputable def R163_5 : Array Oper := opsAt Try.f163 [1, 0, 1, 0, 0, 1, 0, 0, 1, 0, 0]
noncomputable def R163_3 : Array Oper := opsAt Try.f163 [1, 0, 1, 0, 0, 1, 1]
noncomputable def L163_0 : Code := .seq (.seq (.region 2 R163_2 false) (.cond (.tmp 7) .skip (.exit 0))) (.seq (.block 1 (.seq (.region 4 R163_4 true) (.cond (.tmp 18) (.seq (.region 5 R163_5 false) .ret) .skip))) (.region 3 R163_3 false))
theorem lpL163_0 : loops L163_0 = 0 := rfl
noncomputable def R163_6 : Array Oper := opsAt Try.f163 [1, 1, 0]
noncomputable def M163_0 : Code := .seq (.region 6 R163_6 false) .ret
theorem lpM163_0 : loops M163_0 = 0 := rfl
theorem code163 : Try.f163.body = some (.seq (.region 0 R163_0 false) (.seq (.seq (.region 1 R163_1 false) (.block 0 (.loop L163_0))) M163_0)) := by kernel_rfl
noncomputable def R164_0 : Array Oper := opsAt Try.f164 [0]
noncomputable def R164_1 : Array Oper := opsAt Try.f164 [1, 0]
noncomputable def R164_2 : Array Oper := opsAt Try.f164 [1, 1, 0, 0]
noncomputable def R164_3 : Array Oper := opsAt Try.f164 [1, 1, 0, 1, 0, 0]
noncomputable def R164_4 : Array Oper := opsAt Try.f164 [1, 1, 0, 1, 0, 1, 0, 0, 0]
noncomputable def R164_5 : Array Oper := opsAt Try.f164 [1, 1, 0, 1, 0, 1, 0, 0, 1, 0, 0]
noncomputable def R164_6 : Array Oper := opsAt Try.f164 [1, 1, 0, 1, 0, 1, 0, 1, 0]
noncomputable def R164_7 : Array Oper := opsAt Try.f164 [1, 1, 0, 1, 0, 1, 1, 0]
noncomputable def R164_8 : Array Oper := opsAt Try.f164 [1, 1, 0, 1, 0, 1, 1, 1, 0, 0]
noncomputable def R164_9 : Array Oper := opsAt Try.f164 [1, 1, 0, 1, 0, 1, 1, 1, 1, 0]
noncomputable def R164_10 : Array Oper := opsAt Try.f164 [1, 1, 0, 1, 0, 1, 1, 1, 1, 1, 0, 0]
noncomputable def R164_11 : Array Oper := opsAt Try.f164 [1, 1, 0, 1, 0, 1, 1, 1, 1, 1, 0, 1, 0, 0]
noncomputable def R164_12 : Array Oper := opsAt Try.f164 [1, 1, 0, 1, 0, 1, 1, 1, 1, 1, 0, 1, 0, 1, 0, 0]
noncomputable def R164_13 : Array Oper := opsAt Try.f164 [1, 1, 0, 1, 0, 1, 1, 1, 1, 1, 0, 1, 1, 0]
noncomputable def R164_14 : Array Oper := opsAt Try.f164 [1, 1, 1, 0]
noncomputable def R164_15 : Array Oper := opsAt Try.f164 [1, 1, 1, 1, 0]
noncomputable def R164_16 : Array Oper := opsAt Try.f164 [1, 1, 1, 1, 1, 0, 0]
noncomputable def R164_17 : Array Oper := opsAt Try.f164 [1, 1, 1, 1, 1, 0, 1, 0, 0]
noncomputable def R164_18 : Array Oper := opsAt Try.f164 [1, 1, 1, 1, 1, 1, 0]
theorem code164 : Try.f164.body = some (.seq (.region 0 R164_0 false) (.seq (.region 1 R164_1 false) (.seq (.seq (.region 2 R164_2 false) (.block 0 (.seq (.region 3 R164_3 false) (.cond (.tmp 21) (.seq (.seq (.region 4 R164_4 false) (.cond (.tmp 27) (.seq (.region 5 R164_5 false) .ret) .skip)) (.seq (.region 6 R164_6 false) .ret)) (.seq (.region 7 R164_7 false) (.cond (.tmp 35) (.seq (.region 8 R164_8 true) .ret) (.seq (.region 9 R164_9 false) (.cond (.tmp 48) (.seq (.region 10 R164_10 false) (.seq (.seq (.region 11 R164_11 false) (.cond (.tmp 59) (.seq (.region 12 R164_12 false) .ret) .skip)) (.seq (.region 13 R164_13 false) .ret))) .skip)))))))) (.seq (.region 14 R164_14 false) (.seq (.region 15 R164_15 false) (.seq (.seq (.region 16 R164_16 false) (.cond (.tmp 89) (.seq (.region 17 R164_17 false) .ret) .skip)) (.seq (.region 18 R164_18 false) .ret))))))) := by kernel_rfl
noncomputable def R165_0 : Array Oper := opsAt Try.f165 [0]
noncomputable def R165_1 : Array Oper := opsAt Try.f165 [1, 0]
noncomputable def R165_2 : Array Oper := opsAt Try.f165 [1, 1, 0, 0]
noncomputable def R165_3 : Array Oper := opsAt Try.f165 [1, 1, 0, 1, 0, 0]
noncomputable def R165_4 : Array Oper := opsAt Try.f165 [1, 1, 0, 1, 0, 1, 0, 0, 0]
noncomputable def R165_5 : Array Oper := opsAt Try.f165 [1, 1, 0, 1, 0, 1, 0, 0, 1, 0, 0]
noncomputable def R165_6 : Array Oper := opsAt Try.f165 [1, 1, 0, 1, 0, 1, 0, 1, 0]
noncomputable def R165_7 : Array Oper := opsAt Try.f165 [1, 1, 0, 1, 0, 1, 1, 0]
noncomputable def R165_8 : Array Oper := opsAt Try.f165 [1, 1, 0, 1, 0, 1, 1, 1, 0, 0]
noncomputable def R165_9 : Array Oper := opsAt Try.f165 [1, 1, 0, 1, 0, 1, 1, 1, 1, 0]
noncomputable def R165_10 : Array Oper := opsAt Try.f165 [1, 1, 0, 1, 0, 1, 1, 1, 1, 1, 0, 0]
noncomputable def R165_11 : Array Oper := opsAt Try.f165 [1, 1, 1, 0]
noncomputable def R165_12 : Array Oper := opsAt Try.f165 [1, 1, 1, 1, 0]
theorem code165 : Try.f165.body = some (.seq (.region 0 R165_0 false) (.seq (.region 1 R165_1 false) (.seq (.seq (.region 2 R165_2 false) (.block 0 (.seq (.region 3 R165_3 false) (.cond (.tmp 14) (.seq (.seq (.region 4 R165_4 false) (.cond (.tmp 20) (.seq (.region 5 R165_5 false) .ret) .skip)) (.seq (.region 6 R165_6 false) .ret)) (.seq (.region 7 R165_7 false) (.cond (.tmp 28) (.seq (.region 8 R165_8 true) .ret) (.seq (.region 9 R165_9 false) (.cond (.tmp 41) (.seq (.region 10 R165_10 true) .ret) .skip)))))))) (.seq (.region 11 R165_11 false) (.seq (.region 12 R165_12 true) .ret))))) := by kernel_rfl
noncomputable def R166_0 : Array Oper := opsAt Try.f166 [0]
noncomputable def R166_1 : Array Oper := opsAt Try.f166 [1, 0]
noncomputable def R166_2 : Array Oper := opsAt Try.f166 [1, 1, 0, 0]
noncomputable def R166_3 : Array Oper := opsAt Try.f166 [1, 1, 0, 1, 0, 0]
noncomputable def R166_4 : Array Oper := opsAt Try.f166 [1, 1, 0, 1, 0, 1, 0]
noncomputable def R166_5 : Array Oper := opsAt Try.f166 [1, 1, 0, 1, 0, 1, 1, 0]
noncomputable def R166_6 : Array Oper := opsAt Try.f166 [1, 1, 0, 1, 0, 1, 1, 1, 0, 0]
noncomputable def R166_7 : Array Oper := opsAt Try.f166 [1, 1, 0, 1, 0, 1, 1, 1, 0, 1, 0]
noncomputable def R166_8 : Array Oper := opsAt Try.f166 [1, 1, 0, 1, 0, 1, 1, 1, 1, 0]
noncomputable def R166_9 : Array Oper := opsAt Try.f166 [1, 1, 0, 1, 0, 1, 1, 1, 1, 1, 0]
noncomputable def R166_10 : Array Oper := opsAt Try.f166 [1, 1, 1, 0]
theorem code166 : Try.f166.body = some (.seq (.region 0 R166_0 false) (.seq (.region 1 R166_1 false) (.seq (.seq (.region 2 R166_2 false) (.block 0 (.seq (.region 3 R166_3 false) (.cond (.tmp 8) (.region 4 R166_4 false) (.seq (.region 5 R166_5 false) (.cond (.tmp 18) (.seq (.region 6 R166_6 false) (.cond (.tmp 22) (.region 7 R166_7 false) .skip)) (.seq (.region 8 R166_8 false) (.cond (.tmp 35) (.region 9 R166_9 false) .skip)))))))) (.seq (.region 10 R166_10 false) .ret)))) := by kernel_rfl
noncomputable def R167_0 : Array Oper := opsAt Try.f167 [0]
noncomputable def R167_1 : Array Oper := opsAt Try.f167 [1, 0, 0]
noncomputable def R167_2 : Array Oper := opsAt Try.f167 [1, 0, 1, 0, 0]
noncomputable def R167_3 : Array Oper := opsAt Try.f167 [1, 0, 1, 0, 1, 0, 0]
noncomputable def R167_4 : Array Oper := opsAt Try.f167 [1, 0, 1, 0, 1, 1, 0]
noncomputable def R167_5 : Array Oper := opsAt Try.f167 [1, 0, 1, 0, 1, 1, 1, 0, 0]
noncomputable def R167_6 : Array Oper := opsAt Try.f167 [1, 1, 0]
theorem code167 : Try.f167.body = some (.seq (.region 0 R167_0 false) (.seq (.seq (.region 1 R167_1 false) (.block 0 (.seq (.region 2 R167_2 false) (.cond (.tmp 10) (.seq (.region 3 R167_3 false) .ret) (.seq (.region 4 R167_4 false) (.cond (.tmp 12) (.seq (.region 5 R167_5 false) .ret) .skip)))))) (.seq (.region 6 R167_6 false) .ret))) := by kernel_rfl
noncomputable def R168_0 : Array Oper := opsAt Try.f168 [0]
noncomputable def R168_1 : Array Oper := opsAt Try.f168 [1, 0]
theorem code168 : Try.f168.body = some (.seq (.region 0 R168_0 false) (.seq (.region 1 R168_1 false) .ret)) := by kernel_rfl
noncomputable def R169_0 : Array Oper := opsAt Try.f169 [0]
noncomputable def R169_1 : Array Oper := opsAt Try.f169 [1, 0]
noncomputable def R169_2 : Array Oper := opsAt Try.f169 [1, 1, 0, 0]
noncomputable def R169_3 : Array Oper := opsAt Try.f169 [1, 1, 0, 1, 0]
noncomputable def R169_4 : Array Oper := opsAt Try.f169 [1, 1, 1, 0]
noncomputable def R169_5 : Array Oper := opsAt Try.f169 [1, 1, 1, 1, 0]
noncomputable def R169_6 : Array Oper := opsAt Try.f169 [1, 1, 1, 1, 1, 0, 0]
noncomputable def R169_7 : Array Oper := opsAt Try.f169 [1, 1, 1, 1, 1, 0, 1, 0, 0]
noncomputable def R169_8 : Array Oper := opsAt Try.f169 [1, 1, 1, 1, 1, 1, 0]
theorem code169 : Try.f169.body = some (.seq (.region 0 R169_0 false) (.seq (.region 1 R169_1 false) (.seq (.seq (.region 2 R169_2 true) (.cond (.tmp 13) (.region 3 R169_3 true) .skip)) (.seq (.region 4 R169_4 false) (.seq (.region 5 R169_5 false) (.seq (.seq (.region 6 R169_6 true) (.cond (.tmp 53) (.seq (.region 7 R169_7 false) .ret) .skip)) (.seq (.region 8 R169_8 false) .ret))))))) := by kernel_rfl
noncomputable def R170_0 : Array Oper := opsAt Try.f170 [0]
noncomputable def R170_1 : Array Oper := opsAt Try.f170 [1, 0]
noncomputable def R170_2 : Array Oper := opsAt Try.f170 [1, 1, 0]
noncomputable def R170_3 : Array Oper := opsAt Try.f170 [1, 1, 1, 0, 0]
noncomputable def R170_4 : Array Oper := opsAt Try.f170 [1, 1, 1, 0, 1, 0, 0, 0, 0]
noncomputable def R170_6 : Array Oper := opsAt Try.f170 [1, 1, 1, 0, 1, 0, 0, 1, 0, 0, 0]
noncomputable def R170_7 : Array Oper := opsAt Try.f170 [1, 1, 1, 0, 1, 0, 0, 1, 0, 0, 1, 0, 0]
noncomputable def R170_8 : Array Oper := opsAt Try.f170 [1, 1, 1, 0, 1, 0, 0, 1, 0, 0, 1, 0, 1, 0]
noncomputable def R170_9 : Array Oper := opsAt Try.f170 [1, 1, 1, 0, 1, 0, 0, 1, 0, 0, 1, 1]
noncomputable def R170_5 : Array Oper := opsAt Try.f170 [1, 1, 1, 0, 1, 0, 0, 1, 1]
noncomputable def L170_0 : Code := .seq (.seq (.region 4 R170_4 false) (.cond (.tmp 23) .skip (.exit 0))) (.seq (.block 1 (.seq (.region 6 R170_6 false) (.seq (.seq (.region 7 R170_7 false) (.cond (.tmp 31) (.region 8 R170_8 false) .skip)) (.region 9 R170_9 false)))) (.region 5 R170_5 false))
theorem lpL170_0 : loops L170_0 = 0 := rfl
noncomputable def R170_10 : Array Oper := opsAt Try.f170 [1, 1, 1, 1, 0, 0]
noncomputable def R170_11 : Array Oper := opsAt Try.f170 [1, 1, 1, 1, 0, 1, 0]
noncomputable def R170_12 : Array Oper := opsAt Try.f170 [1, 1, 1, 1, 1, 0, 0]
noncomputable def R170_13 : Array Oper := opsAt Try.f170 [1, 1, 1, 1, 1, 0, 1, 0]
noncomputable def R170_14 : Array Oper := opsAt Try.f170 [1, 1, 1, 1, 1, 1, 0]
noncomputable def M170_0 : Code := .seq (.seq (.region 10 R170_10 false) (.cond (.tmp 39) (.region 11 R170_11 true) .skip)) (.seq (.seq (.region 12 R170_12 false) (.cond (.tmp 52) (.region 13 R170_13 false) .skip)) (.seq (.region 14 R170_14 false) .ret))
theorem lpM170_0 : loops M170_0 = 0 := rfl
theorem code170 : Try.f170.body = some (.seq (.region 0 R170_0 false) (.seq (.region 1 R170_1 false) (.seq (.region 2 R170_2 false) (.seq (.seq (.region 3 R170_3 false) (.block 0 (.loop L170_0))) M170_0)))) := by kernel_rfl
noncomputable def R171_0 : Array Oper := opsAt Try.f171 [0]
noncomputable def R171_1 : Array Oper := opsAt Try.f171 [1, 0]
noncomputable def R171_2 : Array Oper := opsAt Try.f171 [1, 1, 0, 0]
noncomputable def R171_3 : Array Oper := opsAt Try.f171 [1, 1, 0, 1, 0, 0]
noncomputable def R171_4 : Array Oper := opsAt Try.f171 [1, 1, 1, 0, 0]
noncomputable def R171_5 : Array Oper := opsAt Try.f171 [1, 1, 1, 0, 1, 0, 0, 0, 0]
noncomputable def R171_7 : Array Oper := opsAt Try.f171 [1, 1, 1, 0, 1, 0, 0, 1, 0, 0, 0]
noncomputable def R171_8 : Array Oper := opsAt Try.f171 [1, 1, 1, 0, 1, 0, 0, 1, 0, 0, 1, 0]
noncomputable def R171_9 : Array Oper := opsAt Try.f171 [1, 1, 1, 0, 1, 0, 0, 1, 0, 0, 1, 1, 0, 0]
noncomputable def R171_10 : Array Oper := opsAt Try.f171 [1, 1, 1, 0, 1, 0, 0, 1, 0, 0, 1, 1, 0, 1]
noncomputable def R171_6 : Array Oper := opsAt Try.f171 [1, 1, 1, 0, 1, 0, 0, 1, 1]
noncomputable def L171_0 : Code := .seq (.seq (.region 5 R171_5 false) (.cond (.tmp 19) .skip (.exit 0))) (.seq (.block 1 (.seq (.region 7 R171_7 false) (.seq (.region 8 R171_8 false) (.cond (.tmp 29) (.seq (.region 9 R171_9 false) (.region 10 R171_10 false)) .skip)))) (.region 6 R171_6 false))
theorem lpL171_0 : loops L171_0 = 0 := rfl
noncomputable def R171_11 : Array Oper := opsAt Try.f171 [1, 1, 1, 1, 0]
noncomputable def R171_12 : Array Oper := opsAt Try.f171 [1, 1, 1, 1, 1, 0]
noncomputable def M171_0 : Code := .seq (.region 11 R171_11 false) (.seq (.region 12 R171_12 false) .ret)
theorem lpM171_0 : loops M171_0 = 0 := rfl
theorem code171 : Try.f171.body = some (.seq (.region 0 R171_0 false) (.seq (.region 1 R171_1 false) (.seq (.seq (.region 2 R171_2 false) (.cond (.tmp 12) (.seq (.region 3 R171_3 false) .ret) .skip)) (.seq (.seq (.region 4 R171_4 false) (.block 0 (.loop L171_0))) M171_0)))) := by kernel_rfl
noncomputable def R172_0 : Array Oper := opsAt Try.f172 [0]
noncomputable def R172_1 : Array Oper := opsAt Try.f172 [1, 0, 0]
noncomputable def R172_2 : Array Oper := opsAt Try.f172 [1, 0, 1, 0, 0]
noncomputable def R172_3 : Array Oper := opsAt Try.f172 [1, 1, 0]
theorem code172 : Try.f172.body = some (.seq (.region 0 R172_0 false) (.seq (.seq (.region 1 R172_1 false) (.cond (.tmp 4) (.seq (.region 2 R172_2 false) .ret) .skip)) (.seq (.region 3 R172_3 false) .ret))) := by kernel_rfl
noncomputable def R173_0 : Array Oper := opsAt Try.f173 [0]
noncomputable def R173_1 : Array Oper := opsAt Try.f173 [1, 0]
theorem code173 : Try.f173.body = some (.seq (.region 0 R173_0 false) (.seq (.region 1 R173_1 false) .ret)) := by kernel_rfl
noncomputable def R174_0 : Array Oper := opsAt Try.f174 [0]
noncomputable def R174_1 : Array Oper := opsAt Try.f174 [1, 0, 0]
noncomputable def R174_2 : Array Oper := opsAt Try.f174 [1, 0, 1, 0, 0, 0]
noncomputable def R174_3 : Array Oper := opsAt Try.f174 [1, 0, 1, 0, 0, 1, 1, 0, 0, 0]
noncomputable def R174_4 : Array Oper := opsAt Try.f174 [1, 0, 1, 0, 0, 1, 1, 0, 0, 1, 0]
noncomputable def R174_5 : Array Oper := opsAt Try.f174 [1, 0, 1, 0, 0, 1, 1, 0, 0, 1, 1, 0, 0]
noncomputable def R174_6 : Array Oper := opsAt Try.f174 [1, 0, 1, 0, 0, 1, 1, 1]
noncomputable def L174_0 : Code := .seq (.region 2 R174_2 false) (.seq (.cond (.tmp 9) .skip (.exit 0)) (.seq (.block 1 (.seq (.region 3 R174_3 false) (.seq (.region 4 R174_4 false) (.cond (.tmp 16) (.seq (.region 5 R174_5 false) .ret) .skip)))) (.region 6 R174_6 false)))
theorem lpL174_0 : loops L174_0 = 0 := rfl
noncomputable def R174_7 : Array Oper := opsAt Try.f174 [1, 1, 0]
noncomputable def M174_0 : Code := .seq (.region 7 R174_7 false) .ret
theorem lpM174_0 : loops M174_0 = 0 := rfl
theorem code174 : Try.f174.body = some (.seq (.region 0 R174_0 false) (.seq (.seq (.region 1 R174_1 false) (.block 0 (.loop L174_0))) M174_0)) := by kernel_rfl
noncomputable def R175_0 : Array Oper := opsAt Try.f175 [0]
noncomputable def R175_1 : Array Oper := opsAt Try.f175 [1, 0]
theorem code175 : Try.f175.body = some (.seq (.region 0 R175_0 false) (.seq (.region 1 R175_1 false) .ret)) := by kernel_rfl
noncomputable def R176_0 : Array Oper := opsAt Try.f176 [0]
noncomputable def R176_1 : Array Oper := opsAt Try.f176 [1, 0, 0]
noncomputable def R176_2 : Array Oper := opsAt Try.f176 [1, 0, 1, 0, 0]
noncomputable def R176_3 : Array Oper := opsAt Try.f176 [1, 1, 0]
theorem code176 : Try.f176.body = some (.seq (.region 0 R176_0 false) (.seq (.seq (.region 1 R176_1 false) (.cond (.tmp 6) (.seq (.region 2 R176_2 false) .ret) .skip)) (.seq (.region 3 R176_3 false) .ret))) := by kernel_rfl
noncomputable def R177_0 : Array Oper := opsAt Try.f177 [0]
noncomputable def R177_1 : Array Oper := opsAt Try.f177 [1, 0, 0]
noncomputable def R177_2 : Array Oper := opsAt Try.f177 [1, 0, 1, 0, 0]
noncomputable def R177_3 : Array Oper := opsAt Try.f177 [1, 0, 1, 0, 1, 0, 0]
noncomputable def R177_4 : Array Oper := opsAt Try.f177 [1, 0, 1, 0, 1, 1, 0]
noncomputable def R177_5 : Array Oper := opsAt Try.f177 [1, 0, 1, 0, 1, 1, 1, 0, 0]
noncomputable def R177_6 : Array Oper := opsAt Try.f177 [1, 0, 1, 0, 1, 1, 1, 1, 0]
noncomputable def R177_7 : Array Oper := opsAt Try.f177 [1, 0, 1, 0, 1, 1, 1, 1, 1, 0, 0]
noncomputable def R177_8 : Array Oper := opsAt Try.f177 [1, 1, 0]
theorem code177 : Try.f177.body = some (.seq (.region 0 R177_0 false) (.seq (.seq (.region 1 R177_1 false) (.block 0 (.seq (.region 2 R177_2 false) (.cond (.tmp 8) (.seq (.region 3 R177_3 false) .ret) (.seq (.region 4 R177_4 false) (.cond (.tmp 13) (.seq (.region 5 R177_5 false) .ret) (.seq (.region 6 R177_6 false) (.cond (.tmp 18) (.seq (.region 7 R177_7 false) .ret) .skip)))))))) (.seq (.region 8 R177_8 false) .ret))) := by kernel_rfl
noncomputable def R178_0 : Array Oper := opsAt Try.f178 [0]
noncomputable def R178_1 : Array Oper := opsAt Try.f178 [1, 0, 0]
noncomputable def R178_2 : Array Oper := opsAt Try.f178 [1, 0, 1, 0, 0]
noncomputable def R178_3 : Array Oper := opsAt Try.f178 [1, 1, 0]
theorem code178 : Try.f178.body = some (.seq (.region 0 R178_0 false) (.seq (.seq (.region 1 R178_1 false) (.cond (.tmp 12) (.seq (.region 2 R178_2 false) .ret) .skip)) (.seq (.region 3 R178_3 false) .ret))) := by kernel_rfl
noncomputable def R179_0 : Array Oper := opsAt Try.f179 [0]
noncomputable def R179_1 : Array Oper := opsAt Try.f179 [1, 0, 0]
noncomputable def R179_2 : Array Oper := opsAt Try.f179 [1, 0, 1, 0, 0]
noncomputable def R179_3 : Array Oper := opsAt Try.f179 [1, 1, 0]
theorem code179 : Try.f179.body = some (.seq (.region 0 R179_0 false) (.seq (.seq (.region 1 R179_1 false) (.cond (.tmp 6) (.seq (.region 2 R179_2 false) .ret) .skip)) (.seq (.region 3 R179_3 false) .ret))) := by kernel_rfl
noncomputable def R180_0 : Array Oper := opsAt Try.f180 [0]
noncomputable def R180_1 : Array Oper := opsAt Try.f180 [1, 0]
theorem code180 : Try.f180.body = some (.seq (.region 0 R180_0 false) (.seq (.region 1 R180_1 false) .ret)) := by kernel_rfl
noncomputable def R181_0 : Array Oper := opsAt Try.f181 [0]
noncomputable def R181_1 : Array Oper := opsAt Try.f181 [1, 0]
theorem code181 : Try.f181.body = some (.seq (.region 0 R181_0 false) (.seq (.region 1 R181_1 false) .ret)) := by kernel_rfl
noncomputable def R182_0 : Array Oper := opsAt Try.f182 [0]
noncomputable def R182_1 : Array Oper := opsAt Try.f182 [1, 0, 0, 0, 0]
noncomputable def R182_2 : Array Oper := opsAt Try.f182 [1, 0, 0, 0, 1, 1]
noncomputable def R182_3 : Array Oper := opsAt Try.f182 [1, 0, 0, 1, 0, 0]
noncomputable def R182_4 : Array Oper := opsAt Try.f182 [1, 0, 0, 1, 1, 0]
noncomputable def R182_5 : Array Oper := opsAt Try.f182 [1, 0, 0, 1, 1, 1, 0, 0]
noncomputable def R182_6 : Array Oper := opsAt Try.f182 [1, 0, 0, 1, 1, 1, 1, 0]
noncomputable def R182_7 : Array Oper := opsAt Try.f182 [1, 0, 0, 1, 1, 1, 1, 1, 0, 0]
noncomputable def R182_8 : Array Oper := opsAt Try.f182 [1, 1, 0]
theorem code182 : Try.f182.body = some (.seq (.region 0 R182_0 false) (.seq (.block 0 (.seq (.seq (.region 1 R182_1 false) (.cond (.tmp 3) .skip (.region 2 R182_2 false))) (.cond (.tmp 3) (.seq (.region 3 R182_3 false) .ret) (.seq (.region 4 R182_4 false) (.cond (.tmp 20) (.seq (.region 5 R182_5 false) .ret) (.seq (.region 6 R182_6 false) (.cond (.tmp 29) (.seq (.region 7 R182_7 false) .ret) .skip))))))) (.seq (.region 8 R182_8 false) .ret))) := by kernel_rfl
noncomputable def R183_0 : Array Oper := opsAt Try.f183 [0]
noncomputable def R183_1 : Array Oper := opsAt Try.f183 [1, 0]
theorem code183 : Try.f183.body = some (.seq (.region 0 R183_0 false) (.seq (.region 1 R183_1 false) .ret)) := by kernel_rfl
noncomputable def R184_0 : Array Oper := opsAt Try.f184 [0]
noncomputable def R184_1 : Array Oper := opsAt Try.f184 [1, 0, 0, 0]
noncomputable def R184_2 : Array Oper := opsAt Try.f184 [1, 0, 0, 1, 0, 0]
noncomputable def R184_3 : Array Oper := opsAt Try.f184 [1, 0, 0, 1, 1, 0]
noncomputable def R184_4 : Array Oper := opsAt Try.f184 [1, 0, 0, 1, 1, 1, 0, 0]
noncomputable def R184_5 : Array Oper := opsAt Try.f184 [1, 1, 0]
theorem code184 : Try.f184.body = some (.seq (.region 0 R184_0 false) (.seq (.block 0 (.seq (.region 1 R184_1 false) (.cond (.tmp 3) (.seq (.region 2 R184_2 false) .ret) (.seq (.region 3 R184_3 false) (.cond (.tmp 10) (.seq (.region 4 R184_4 false) .ret) .skip))))) (.seq (.region 5 R184_5 false) .ret))) := by kernel_rfl
noncomputable def R189_0 : Array Oper := opsAt Try.f189 [0]
noncomputable def R189_1 : Array Oper := opsAt Try.f189 [1, 0]
noncomputable def R189_2 : Array Oper := opsAt Try.f189 [1, 1, 0, 0, 0, 0]
noncomputable def R189_3 : Array Oper := opsAt Try.f189 [1, 1, 0, 0, 0, 1, 0, 0]
noncomputable def R189_4 : Array Oper := opsAt Try.f189 [1, 1, 0, 0, 0, 1, 0, 1, 0, 0]
noncomputable def R189_5 : Array Oper := opsAt Try.f189 [1, 1, 0, 0, 0, 1, 1, 0, 0]
noncomputable def R189_6 : Array Oper := opsAt Try.f189 [1, 1, 0, 0, 0, 1, 1, 0, 1, 0, 0]
noncomputable def R189_7 : Array Oper := opsAt Try.f189 [1, 1, 0, 0, 0, 1, 1, 1, 0, 0]
noncomputable def R189_8 : Array Oper := opsAt Try.f189 [1, 1, 0, 0, 0, 1, 1, 1, 0, 1, 0, 0]
noncomputable def R189_9 : Array Oper := opsAt Try.f189 [1, 1, 0, 0, 0, 1, 1, 1, 0, 1, 0, 1]
noncomputable def R189_10 : Array Oper := opsAt Try.f189 [1, 1, 0, 0, 0, 1, 1, 1, 1, 0]
noncomputable def R189_11 : Array Oper := opsAt Try.f189 [1, 1, 0, 0, 0, 1, 1, 1, 1, 1, 0, 0]
noncomputable def R189_12 : Array Oper := opsAt Try.f189 [1, 1, 0, 0, 0, 1, 1, 1, 1, 1, 0, 1, 0, 0]
noncomputable def R189_13 : Array Oper := opsAt Try.f189 [1, 1, 0, 0, 0, 1, 1, 1, 1, 1, 0, 1, 0, 1, 0]
noncomputable def R189_14 : Array Oper := opsAt Try.f189 [1, 1, 0, 0, 0, 1, 1, 1, 1, 1, 0, 1, 0, 1, 1]
noncomputable def R189_15 : Array Oper := opsAt Try.f189 [1, 1, 0, 0, 0, 1, 1, 1, 1, 1, 1, 0, 0]
noncomputable def R189_16 : Array Oper := opsAt Try.f189 [1, 1, 0, 0, 0, 1, 1, 1, 1, 1, 1, 0, 1, 0, 0]
noncomputable def R189_17 : Array Oper := opsAt Try.f189 [1, 1, 0, 0, 0, 1, 1, 1, 1, 1, 1, 1, 0, 0]
noncomputable def R189_18 : Array Oper := opsAt Try.f189 [1, 1, 0, 0, 0, 1, 1, 1, 1, 1, 1, 1, 0, 1, 0, 0]
noncomputable def R189_19 : Array Oper := opsAt Try.f189 [1, 1, 0, 0, 0, 1, 1, 1, 1, 1, 1, 1, 0, 1, 0, 1, 0]
noncomputable def R189_20 : Array Oper := opsAt Try.f189 [1, 1, 0, 0, 0, 1, 1, 1, 1, 1, 1, 1, 1, 0]
noncomputable def R189_21 : Array Oper := opsAt Try.f189 [1, 1, 0, 0, 0, 1, 1, 1, 1, 1, 1, 1, 1, 1, 0]
noncomputable def R189_22 : Array Oper := opsAt Try.f189 [1, 1, 0, 0, 0, 1, 1, 1, 1, 1, 1, 1, 1, 1, 1, 0]
noncomputable def R189_23 : Array Oper := opsAt Try.f189 [1, 1, 0, 0, 0, 1, 1, 1, 1, 1, 1, 1, 1, 1, 1, 1, 0]
noncomputable def R189_24 : Array Oper := opsAt Try.f189 [1, 1, 0, 0, 0, 1, 1, 1, 1, 1, 1, 1, 1, 1, 1, 1, 1, 0]
noncomputable def R189_25 : Array Oper := opsAt Try.f189 [1, 1, 0, 0, 0, 1, 1, 1, 1, 1, 1, 1, 1, 1, 1, 1, 1, 1, 0, 0]
noncomputable def R189_26 : Array Oper := opsAt Try.f189 [1, 1, 0, 0, 0, 1, 1, 1, 1, 1, 1, 1, 1, 1, 1, 1, 1, 1, 0, 1, 0]
noncomputable def R189_27 : Array Oper := opsAt Try.f189 [1, 1, 0, 0, 0, 1, 1, 1, 1, 1, 1, 1, 1, 1, 1, 1, 1, 1, 0, 1, 1]
noncomputable def R189_28 : Array Oper := opsAt Try.f189 [1, 1, 0, 0, 0, 1, 1, 1, 1, 1, 1, 1, 1, 1, 1, 1, 1, 1, 1, 0]
noncomputable def R189_29 : Array Oper := opsAt Try.f189 [1, 1, 0, 0, 0, 1, 1, 1, 1, 1, 1, 1, 1, 1, 1, 1, 1, 1, 1, 1, 0]
noncomputable def R189_30 : Array Oper := opsAt Try.f189 [1, 1, 0, 0, 0, 1, 1, 1, 1, 1, 1, 1, 1, 1, 1, 1, 1, 1, 1, 1, 1]
noncomputable def L189_0 : Code := .block 1 (.seq (.region 2 R189_2 false) (.seq (.seq (.region 3 R189_3 false) (.cond (.tmp 23) (.seq (.region 4 R189_4 false) .ret) .skip)) (.seq (.seq (.region 5 R189_5 false) (.cond (.tmp 29) (.seq (.region 6 R189_6 false) .ret) .skip)) (.seq (.seq (.region 7 R189_7 false) (.cond (.tmp 35) (.seq (.region 8 R189_8 false) (.region 9 R189_9 false)) .skip)) (.seq (.region 10 R189_10 false) (.seq (.seq (.region 11 R189_11 false) (.cond (.tmp 50) (.seq (.region 12 R189_12 false) (.seq (.region 13 R189_13 false) (.region 14 R189_14 false))) .skip)) (.seq (.seq (.region 15 R189_15 false) (.cond (.tmp 68) (.seq (.region 16 R189_16 false) (.cond (.tmp 72) .ret .skip)) .skip)) (.seq (.seq (.region 17 R189_17 true) (.cond (.tmp 87) (.seq (.region 18 R189_18 false) (.seq (.region 19 R189_19 false) (.exit 1))) .skip)) (.seq (.region 20 R189_20 false) (.seq (.region 21 R189_21 false) (.seq (.region 22 R189_22 false) (.seq (.region 23 R189_23 false) (.seq (.region 24 R189_24 false) (.cond (.tmp 113) (.seq (.region 25 R189_25 false) (.seq (.region 26 R189_26 false) (.region 27 R189_27 false))) (.seq (.region 28 R189_28 false) (.seq (.region 29 R189_29 false) (.region 30 R189_30 false)))))))))))))))))
theorem lpL189_0 : loops L189_0 = 0 := rfl
theorem code189 : Try.f189.body = some (.seq (.region 0 R189_0 false) (.seq (.region 1 R189_1 false) (.block 0 (.loop L189_0)))) := by kernel_rfl
noncomputable def R190_0 : Array Oper := opsAt Try.f190 [0]
noncomputable def R190_1 : Array Oper := opsAt Try.f190 [1, 0, 0, 0]
noncomputable def R190_2 : Array Oper := opsAt Try.f190 [1, 1, 0]
theorem code190 : Try.f190.body = some (.seq (.region 0 R190_0 false) (.seq (.cond (.const (.bool false)) (.seq (.region 1 R190_1 false) .ret) .skip) (.seq (.region 2 R190_2 false) .ret))) := by kernel_rfl
noncomputable def R191_0 : Array Oper := opsAt Try.f191 [0]
noncomputable def R191_1 : Array Oper := opsAt Try.f191 [1, 0, 0]
noncomputable def R191_2 : Array Oper := opsAt Try.f191 [1, 0, 1, 0, 0]
noncomputable def R191_3 : Array Oper := opsAt Try.f191 [1, 0, 1, 0, 1, 0, 0]
noncomputable def R191_4 : Array Oper := opsAt Try.f191 [1, 0, 1, 0, 1, 1, 0]
noncomputable def R191_5 : Array Oper := opsAt Try.f191 [1, 0, 1, 0, 1, 1, 1, 0, 0]
noncomputable def R191_6 : Array Oper := opsAt Try.f191 [1, 1, 0]
theorem code191 : Try.f191.body = some (.seq (.region 0 R191_0 false) (.seq (.seq (.region 1 R191_1 false) (.block 0 (.seq (.region 2 R191_2 false) (.cond (.tmp 10) (.seq (.region 3 R191_3 false) .ret) (.seq (.region 4 R191_4 false) (.cond (.tmp 13) (.seq (.region 5 R191_5 false) .ret) .skip)))))) (.seq (.region 6 R191_6 false) .ret))) := by kernel_rfl
noncomputable def R192_0 : Array Oper := opsAt Try.f192 [0]
noncomputable def R192_1 : Array Oper := opsAt Try.f192 [1, 0]
theorem code192 : Try.f192.body = some (.seq (.region 0 R192_0 false) (.seq (.region 1 R192_1 false) .ret)) := by kernel_rfl
noncomputable def R193_0 : Array Oper := opsAt Try.f193 [0]
noncomputable def R193_1 : Array Oper := opsAt Try.f193 [1, 0]
noncomputable def R193_2 : Array Oper := opsAt Try.f193 [1, 1, 0]
noncomputable def R193_3 : Array Oper := opsAt Try.f193 [1, 1, 1, 0, 0]
noncomputable def R193_4 : Array Oper := opsAt Try.f193 [1, 1, 1, 0, 1, 0, 0, 0, 0]
noncomputable def R193_8 : Array Oper := opsAt Try.f193 [1, 1, 1, 0, 1, 0, 0, 1, 0, 0, 0, 0]
noncomputable def R193_9 : Array Oper := opsAt Try.f193 [1, 1, 1, 0, 1, 0, 0, 1, 0, 0, 0, 1, 0, 0]
noncomputable def R193_10 : Array Oper := opsAt Try.f193 [1, 1, 1, 0, 1, 0, 0, 1, 0, 0, 0, 1, 0, 1]
noncomputable def R193_11 : Array Oper := opsAt Try.f193 [1, 1, 1, 0, 1, 0, 0, 1, 0, 0, 0, 1, 1, 0]
noncomputable def R193_12 : Array Oper := opsAt Try.f193 [1, 1, 1, 0, 1, 0, 0, 1, 0, 0, 0, 1, 1, 1, 0]
noncomputable def R193_13 : Array Oper := opsAt Try.f193 [1, 1, 1, 0, 1, 0, 0, 1, 0, 0, 0, 1, 1, 1, 1, 0]
noncomputable def R193_14 : Array Oper := opsAt Try.f193 [1, 1, 1, 0, 1, 0, 0, 1, 0, 0, 0, 1, 1, 1, 1, 1, 0, 0]
noncomputable def R193_15 : Array Oper := opsAt Try.f193 [1, 1, 1, 0, 1, 0, 0, 1, 0, 0, 0, 1, 1, 1, 1, 1, 0, 1]
noncomputable def R193_6 : Array Oper := opsAt Try.f193 [1, 1, 1, 0, 1, 0, 0, 1, 0, 0, 0, 1, 1, 1, 1, 1, 1, 0]
noncomputable def R193_7 : Array Oper := opsAt Try.f193 [1, 1, 1, 0, 1, 0, 0, 1, 0, 0, 0, 1, 1, 1, 1, 1, 1, 1]
noncomputable def R193_5 : Array Oper := opsAt Try.f193 [1, 1, 1, 0, 1, 0, 0, 1, 1]
noncomputable def L193_0 : Code := .seq (.seq (.region 4 R193_4 false) (.cond (.tmp 11) .skip (.exit 0))) (.seq (.block 1 (.block 2 (.seq (.region 8 R193_8 false) (.cond (.tmp 22) (.seq (.region 9 R193_9 false) (.region 10 R193_10 false)) (.seq (.region 11 R193_11 false) (.cond (.tmp 38) (.region 12 R193_12 false) (.seq (.region 13 R193_13 false) (.cond (.tmp 51) (.seq (.region 14 R193_14 false) (.region 15 R193_15 false)) (.seq (.region 6 R193_6 false) (.region 7 R193_7 false)))))))))) (.region 5 R193_5 false))
theorem lpL193_0 : loops L193_0 = 0 := rfl
noncomputable def R193_16 : Array Oper := opsAt Try.f193 [1, 1, 1, 1, 0, 0, 0, 0, 0]
noncomputable def R193_17 : Array Oper := opsAt Try.f193 [1, 1, 1, 1, 0, 0, 0, 1, 0, 0]
noncomputable def R193_18 : Array Oper := opsAt Try.f193 [1, 1, 1, 1, 0, 0, 0, 1, 0, 1]
noncomputable def L193_1 : Code := .seq (.seq (.region 16 R193_16 false) (.cond (.tmp 64) .skip (.exit 3))) (.block 4 (.seq (.region 17 R193_17 false) (.region 18 R193_18 false)))
theorem lpL193_1 : loops L193_1 = 0 := rfl
noncomputable def R193_19 : Array Oper := opsAt Try.f193 [1, 1, 1, 1, 1, 0]
noncomputable def M193_1 : Code := .seq (.region 19 R193_19 false) .ret
theorem lpM193_1 : loops M193_1 = 0 := rfl
noncomputable def M193_0 : Code := .seq (.block 3 (.loop L193_1)) M193_1
theorem lpM193_0 : loops M193_0 = 1 := rfl
theorem code193 : Try.f193.body = some (.seq (.region 0 R193_0 false) (.seq (.region 1 R193_1 false) (.seq (.region 2 R193_2 false) (.seq (.seq (.region 3 R193_3 false) (.block 0 (.loop L193_0))) M193_0)))) := by kernel_rfl
noncomputable def R194_0 : Array Oper := opsAt Try.f194 [0]
noncomputable def R194_1 : Array Oper := opsAt Try.f194 [1, 0, 0]
noncomputable def R194_2 : Array Oper := opsAt Try.f194 [1, 0, 1, 0]
noncomputable def R194_3 : Array Oper := opsAt Try.f194 [1, 1, 0]
noncomputable def R194_4 : Array Oper := opsAt Try.f194 [1, 1, 1, 0, 0]
noncomputable def R194_5 : Array Oper := opsAt Try.f194 [1, 1, 1, 0, 1, 0]
noncomputable def R194_6 : Array Oper := opsAt Try.f194 [1, 1, 1, 1, 0]
noncomputable def R194_7 : Array Oper := opsAt Try.f194 [1, 1, 1, 1, 1, 0]
noncomputable def R194_8 : Array Oper := opsAt Try.f194 [1, 1, 1, 1, 1, 1, 0, 0, 0, 0, 0]
noncomputable def R194_9 : Array Oper := opsAt Try.f194 [1, 1, 1, 1, 1, 1, 0, 0, 0, 1, 0]
noncomputable def L194_0 : Code := .seq (.seq (.region 8 R194_8 false) (.cond (.tmp 37) .skip (.exit 0))) (.block 1 (.region 9 R194_9 true))
theorem lpL194_0 : loops L194_0 = 0 := rfl
noncomputable def R194_10 : Array Oper := opsAt Try.f194 [1, 1, 1, 1, 1, 1, 1, 0]
noncomputable def M194_0 : Code := .seq (.region 10 R194_10 false) .ret
theorem lpM194_0 : loops M194_0 = 0 := rfl
theorem code194 : Try.f194.body = some (.seq (.region 0 R194_0 false) (.seq (.seq (.region 1 R194_1 false) (.cond (.tmp 10) (.region 2 R194_2 false) .skip)) (.seq (.region 3 R194_3 false) (.seq (.seq (.region 4 R194_4 false) (.cond (.tmp 26) (.region 5 R194_5 false) .skip)) (.seq (.region 6 R194_6 false) (.seq (.region 7 R194_7 false) (.seq (.block 0 (.loop L194_0)) M194_0))))))) := by kernel_rfl
noncomputable def R196_0 : Array Oper := opsAt Try.f196 [0]
noncomputable def R196_1 : Array Oper := opsAt Try.f196 [1, 0, 0, 0, 0]
noncomputable def R196_3 : Array Oper := opsAt Try.f196 [1, 0, 0, 1, 0, 0, 0]
noncomputable def R196_4 : Array Oper := opsAt Try.f196 [1, 0, 0, 1, 0, 0, 1, 0, 0, 0, 0]
noncomputable def R196_6 : Array Oper := opsAt Try.f196 [1, 0, 0, 1, 0, 0, 1, 0, 0, 1, 0, 0]
noncomputable def R196_5 : Array Oper := opsAt Try.f196 [1, 0, 0, 1, 0, 0, 1, 0, 0, 1, 1]
noncomputable def L196_1 : Code := .seq (.seq (.region 4 R196_4 true) (.cond (.tmp 30) .skip (.exit 2))) (.seq (.block 3 (.region 6 R196_6 true)) (.region 5 R196_5 false))
theorem lpL196_1 : loops L196_1 = 0 := rfl
noncomputable def R196_2 : Array Oper := opsAt Try.f196 [1, 0, 0, 1, 1]
noncomputable def M196_0 : Code := .region 2 R196_2 false
theorem lpM196_0 : loops M196_0 = 0 := rfl
noncomputable def L196_0 : Code := .seq (.seq (.region 1 R196_1 false) (.cond (.tmp 12) .skip (.exit 0))) (.seq (.block 1 (.seq (.region 3 R196_3 false) (.block 2 (.loop L196_1)))) M196_0)
theorem lpL196_0 : loops L196_0 = 1 := rfl
theorem code196 : Try.f196.body = some (.seq (.region 0 R196_0 false) (.block 0 (.loop L196_0))) := by kernel_rfl
noncomputable def R202_0 : Array Oper := opsAt Try.f202 [0]
noncomputable def R202_1 : Array Oper := opsAt Try.f202 [1, 0]
theorem code202 : Try.f202.body = some (.seq (.region 0 R202_0 false) (.seq (.region 1 R202_1 false) .ret)) := by kernel_rfl
noncomputable def R205_0 : Array Oper := opsAt Try.f205 [0]
noncomputable def R205_1 : Array Oper := opsAt Try.f205 [1, 0, 0]
noncomputable def R205_2 : Array Oper := opsAt Try.f205 [1, 0, 1, 0, 0]
noncomputable def R205_3 : Array Oper := opsAt Try.f205 [1, 0, 1, 0, 1]
noncomputable def R205_4 : Array Oper := opsAt Try.f205 [1, 1, 0, 0]
noncomputable def R205_5 : Array Oper := opsAt Try.f205 [1, 1, 0, 1, 0, 0]
noncomputable def R205_6 : Array Oper := opsAt Try.f205 [1, 1, 0, 1, 0, 1]
noncomputable def R205_7 : Array Oper := opsAt Try.f205 [1, 1, 1, 0]
theorem code205 : Try.f205.body = some (.seq (.region 0 R205_0 false) (.seq (.seq (.region 1 R205_1 false) (.cond (.tmp 4) (.seq (.region 2 R205_2 false) (.region 3 R205_3 false)) .skip)) (.seq (.seq (.region 4 R205_4 false) (.cond (.tmp 8) (.seq (.region 5 R205_5 false) (.region 6 R205_6 false)) .skip)) (.seq (.region 7 R205_7 false) .ret)))) := by kernel_rfl
noncomputable def R206_0 : Array Oper := opsAt Try.f206 [0]
noncomputable def R206_1 : Array Oper := opsAt Try.f206 [1, 0, 0]
noncomputable def R206_2 : Array Oper := opsAt Try.f206 [1, 0, 1, 0, 0]
noncomputable def R206_3 : Array Oper := opsAt Try.f206 [1, 0, 1, 0, 1]
noncomputable def R206_4 : Array Oper := opsAt Try.f206 [1, 1, 0, 0]
noncomputable def R206_5 : Array Oper := opsAt Try.f206 [1, 1, 0, 1, 0, 0]
noncomputable def R206_6 : Array Oper := opsAt Try.f206 [1, 1, 0, 1, 0, 1]
noncomputable def R206_7 : Array Oper := opsAt Try.f206 [1, 1, 1, 0, 0]
noncomputable def R206_8 : Array Oper := opsAt Try.f206 [1, 1, 1, 0, 1, 0, 0]
noncomputable def R206_9 : Array Oper := opsAt Try.f206 [1, 1, 1, 0, 1, 0, 1]
noncomputable def R206_10 : Array Oper := opsAt Try.f206 [1, 1, 1, 1, 0]
theorem code206 : Try.f206.body = some (.seq (.region 0 R206_0 false) (.seq (.seq (.region 1 R206_1 false) (.cond (.tmp 4) (.seq (.region 2 R206_2 false) (.region 3 R206_3 false)) .skip)) (.seq (.seq (.region 4 R206_4 false) (.cond (.tmp 8) (.seq (.region 5 R206_5 false) (.region 6 R206_6 false)) .skip)) (.seq (.seq (.region 7 R206_7 false) (.cond (.tmp 14) (.seq (.region 8 R206_8 false) (.region 9 R206_9 false)) .skip)) (.seq (.region 10 R206_10 false) .ret))))) := by kernel_rfl
noncomputable def R207_0 : Array Oper := opsAt Try.f207 [0]
noncomputable def R207_1 : Array Oper := opsAt Try.f207 [1, 0, 0]
noncomputable def R207_2 : Array Oper := opsAt Try.f207 [1, 0, 1, 0, 0]
noncomputable def R207_3 : Array Oper := opsAt Try.f207 [1, 1, 0]
theorem code207 : Try.f207.body = some (.seq (.region 0 R207_0 false) (.seq (.seq (.region 1 R207_1 false) (.cond (.tmp 6) (.seq (.region 2 R207_2 false) .ret) .skip)) (.seq (.region 3 R207_3 false) .ret))) := by kernel_rfl
noncomputable def R208_0 : Array Oper := opsAt Try.f208 [0]
noncomputable def R208_1 : Array Oper := opsAt Try.f208 [1, 0, 0, 0]
noncomputable def R208_2 : Array Oper := opsAt Try.f208 [1, 0, 0, 1, 0]
noncomputable def R208_3 : Array Oper := opsAt Try.f208 [1, 1, 0]
noncomputable def R208_4 : Array Oper := opsAt Try.f208 [1, 1, 1, 0]
theorem code208 : Try.f208.body = some (.seq (.region 0 R208_0 false) (.seq (.cond (.const (.bool false)) (.seq (.region 1 R208_1 false) (.seq (.region 2 R208_2 false) .ret)) .skip) (.seq (.region 3 R208_3 false) (.seq (.region 4 R208_4 false) .ret)))) := by kernel_rfl
noncomputable def R215_0 : Array Oper := opsAt Try.f215 [0]
noncomputable def R215_1 : Array Oper := opsAt Try.f215 [1, 0]
theorem code215 : Try.f215.body = some (.seq (.region 0 R215_0 false) (.seq (.region 1 R215_1 false) .ret)) := by kernel_rfl
noncomputable def R216_0 : Array Oper := opsAt Try.f216 [0]
noncomputable def R216_1 : Array Oper := opsAt Try.f216 [1, 0]
noncomputable def R216_2 : Array Oper := opsAt Try.f216 [1, 1, 0]
theorem code216 : Try.f216.body = some (.seq (.region 0 R216_0 false) (.seq (.region 1 R216_1 false) (.seq (.region 2 R216_2 false) .ret))) := by kernel_rfl
noncomputable def R217_0 : Array Oper := opsAt Try.f217 [0]
noncomputable def R217_1 : Array Oper := opsAt Try.f217 [1, 0]
noncomputable def R217_2 : Array Oper := opsAt Try.f217 [1, 1, 0]
noncomputable def R217_3 : Array Oper := opsAt Try.f217 [1, 1, 1, 0]
noncomputable def R217_4 : Array Oper := opsAt Try.f217 [1, 1, 1, 1, 0]
noncomputable def R217_5 : Array Oper := opsAt Try.f217 [1, 1, 1, 1, 1, 0]
noncomputable def R217_6 : Array Oper := opsAt Try.f217 [1, 1, 1, 1, 1, 1, 0]
noncomputable def R217_7 : Array Oper := opsAt Try.f217 [1, 1, 1, 1, 1, 1, 1, 0]
noncomputable def R217_8 : Array Oper := opsAt Try.f217 [1, 1, 1, 1, 1, 1, 1, 1, 0]
noncomputable def R217_9 : Array Oper := opsAt Try.f217 [1, 1, 1, 1, 1, 1, 1, 1, 1, 0]
noncomputable def R217_10 : Array Oper := opsAt Try.f217 [1, 1, 1, 1, 1, 1, 1, 1, 1, 1, 0]
noncomputable def R217_11 : Array Oper := opsAt Try.f217 [1, 1, 1, 1, 1, 1, 1, 1, 1, 1, 1, 0]
theorem code217 : Try.f217.body = some (.seq (.region 0 R217_0 false) (.seq (.region 1 R217_1 false) (.seq (.region 2 R217_2 false) (.seq (.region 3 R217_3 false) (.seq (.region 4 R217_4 false) (.seq (.region 5 R217_5 false) (.seq (.region 6 R217_6 false) (.seq (.region 7 R217_7 false) (.seq (.region 8 R217_8 false) (.seq (.region 9 R217_9 false) (.seq (.region 10 R217_10 false) (.seq (.region 11 R217_11 false) .ret)))))))))))) := by kernel_rfl
def X : FuncId → Option (List V → Option (V × List Eng.Obj))
  | _ => none
noncomputable def C : Cfg := ⟨T, F, X, WR, OW, K⟩
theorem cT : C.T = T := by unfold C; with_reducible rfl
theorem cF : C.fn = F := by unfold C; with_reducible rfl
theorem cX : C.ext = X := by unfold C; with_reducible rfl
theorem cWR : C.wr = WR := by unfold C; with_reducible rfl
theorem cOW : C.own = OW := by unfold C; with_reducible rfl
theorem cK : C.keep = K := by unfold C; with_reducible rfl
theorem cfgOk : CfgOk Try.prog C where
  mixed := by kernel_rfl
  tab := tabOk
  fn := fun f fn h => okF_8 f fn h
  ext := by
    intro f m h
    have h' : X f = some m := h
    unfold X at h'
    cases h'
end Go.Proofs.Ytfdlllhcjfhknaa.Eng
