/- The types, the functions and the loops' live slots that the laws reach, and that they are what the program has. No conditions. -/
import Derived.Test.YtfdlllhcjfhknaaEngTa
namespace Go.Proofs.Ytfdlllhcjfhknaa.Eng
open Go Go.Proofs
set_option maxRecDepth 100000
noncomputable def R9_0 : Array Oper := opsAt Try.f9 [0]
noncomputable def R9_1 : Array Oper := opsAt Try.f9 [1, 0]
noncomputable def R9_2 : Array Oper := opsAt Try.f9 [1, 1, 0]
noncomputable def R9_3 : Array Oper := opsAt Try.f9 [1, 1, 1, 0, 0]
noncomputable def R9_4 : Array Oper := opsAt Try.f9 [1, 1, 1, 0, 1, 0, 0]
noncomputable def R9_5 : Array Oper := opsAt Try.f9 [1, 1, 1, 1, 0]
noncomputable def R9_6 : Array Oper := opsAt Try.f9 [1, 1, 1, 1, 1, 0]
noncomputable def R9_7 : Array Oper := opsAt Try.f9 [1, 1, 1, 1, 1, 1, 0]
noncomputable def R9_8 : Array Oper := opsAt Try.f9 [1, 1, 1, 1, 1, 1, 1, 0, 0]
noncomputable def R9_9 : Array Oper := opsAt Try.f9 [1, 1, 1, 1, 1, 1, 1, 0, 1, 0, 0]
noncomputable def R9_10 : Array Oper := opsAt Try.f9 [1, 1, 1, 1, 1, 1, 1, 1, 0, 0]
noncomputable def R9_11 : Array Oper := opsAt Try.f9 [1, 1, 1, 1, 1, 1, 1, 1, 0, 1, 0, 0]
noncomputable def R9_12 : Array Oper := opsAt Try.f9 [1, 1, 1, 1, 1, 1, 1, 1, 1, 0]
noncomputable def R9_13 : Array Oper := opsAt Try.f9 [1, 1, 1, 1, 1, 1, 1, 1, 1, 1, 0]
noncomputable def R9_14 : Array Oper := opsAt Try.f9 [1, 1, 1, 1, 1, 1, 1, 1, 1, 1, 1, 0, 0]
noncomputable def R9_15 : Array Oper := opsAt Try.f9 [1, 1, 1, 1, 1, 1, 1, 1, 1, 1, 1, 0, 1, 0, 0]
noncomputable def R9_16 : Array Oper := opsAt Try.f9 [1, 1, 1, 1, 1, 1, 1, 1, 1, 1, 1, 1, 0]
noncomputable def R9_17 : Array Oper := opsAt Try.f9 [1, 1, 1, 1, 1, 1, 1, 1, 1, 1, 1, 1, 1, 0]
noncomputable def R9_18 : Array Oper := opsAt Try.f9 [1, 1, 1, 1, 1, 1, 1, 1, 1, 1, 1, 1, 1, 1, 0]
noncomputable def R9_19 : Array Oper := opsAt Try.f9 [1, 1, 1, 1, 1, 1, 1, 1, 1, 1, 1, 1, 1, 1, 1, 0]
noncomputable def R9_20 : Array Oper := opsAt Try.f9 [1, 1, 1, 1, 1, 1, 1, 1, 1, 1, 1, 1, 1, 1, 1, 1, 0, 0]
noncomputable def R9_21 : Array Oper := opsAt Try.f9 [1, 1, 1, 1, 1, 1, 1, 1, 1, 1, 1, 1, 1, 1, 1, 1, 0, 1, 0, 0]
noncomputable def R9_22 : Array Oper := opsAt Try.f9 [1, 1, 1, 1, 1, 1, 1, 1, 1, 1, 1, 1, 1, 1, 1, 1, 1, 0, 0]
noncomputable def R9_23 : Array Oper := opsAt Try.f9 [1, 1, 1, 1, 1, 1, 1, 1, 1, 1, 1, 1, 1, 1, 1, 1, 1, 0, 1, 0, 0]
noncomputable def R9_24 : Array Oper := opsAt Try.f9 [1, 1, 1, 1, 1, 1, 1, 1, 1, 1, 1, 1, 1, 1, 1, 1, 1, 1, 0]
noncomputable def R9_25 : Array Oper := opsAt Try.f9 [1, 1, 1, 1, 1, 1, 1, 1, 1, 1, 1, 1, 1, 1, 1, 1, 1, 1, 1, 0, 0]
noncomputable def R9_26 : Array Oper := opsAt Try.f9 [1, 1, 1, 1, 1, 1, 1, 1, 1, 1, 1, 1, 1, 1, 1, 1, 1, 1, 1, 0, 1, 0, 0]
noncomputable def R9_27 : Array Oper := opsAt Try.f9 [1, 1, 1, 1, 1, 1, 1, 1, 1, 1, 1, 1, 1, 1, 1, 1, 1, 1, 1, 1, 0]
noncomputable def R9_28 : Array Oper := opsAt Try.f9 [1, 1, 1, 1, 1, 1, 1, 1, 1, 1, 1, 1, 1, 1, 1, 1, 1, 1, 1, 1, 1, 0]
noncomputable def R9_29 : Array Oper := opsAt Try.f9 [1, 1, 1, 1, 1, 1, 1, 1, 1, 1, 1, 1, 1, 1, 1, 1, 1, 1, 1, 1, 1, 1, 0, 0]
noncomputable def R9_30 : Array Oper := opsAt Try.f9 [1, 1, 1, 1, 1, 1, 1, 1, 1, 1, 1, 1, 1, 1, 1, 1, 1, 1, 1, 1, 1, 1, 0, 1, 0, 0]
noncomputable def R9_31 : Array Oper := opsAt Try.f9 [1, 1, 1, 1, 1, 1, 1, 1, 1, 1, 1, 1, 1, 1, 1, 1, 1, 1, 1, 1, 1, 1, 1, 0, 0]
noncomputable def R9_32 : Array Oper := opsAt Try.f9 [1, 1, 1, 1, 1, 1, 1, 1, 1, 1, 1, 1, 1, 1, 1, 1, 1, 1, 1, 1, 1, 1, 1, 0, 1, 0, 0]
noncomputable def R9_33 : Array Oper := opsAt Try.f9 [1, 1, 1, 1, 1, 1, 1, 1, 1, 1, 1, 1, 1, 1, 1, 1, 1, 1, 1, 1, 1, 1, 1, 1, 0]
theorem code9 : Try.f9.body = some (.seq (.region 0 R9_0 false) (.seq (.region 1 R9_1 false) (.seq (.region 2 R9_2 false) (.seq (.seq (.region 3 R9_3 false) (.cond (.tmp 18) (.seq (.region 4 R9_4 false) .ret) .skip)) (.seq (.region 5 R9_5 false) (.seq (.region 6 R9_6 false) (.seq (.region 7 R9_7 false) (.seq (.seq (.region 8 R9_8 false) (.cond (.tmp 40) (.seq (.region 9 R9_9 false) .ret) .skip)) (.seq (.seq (.region 10 R9_10 false) (.cond (.tmp 45) (.seq (.region 11 R9_11 false) .ret) .skip)) (.seq (.region 12 R9_12 false) (.seq (.region 13 R9_13 false) (.seq (.seq (.region 14 R9_14 false) (.cond (.tmp 61) (.seq (.region 15 R9_15 false) .ret) .skip)) (.seq (.region 16 R9_16 false) (.seq (.region 17 R9_17 false) (.seq (.region 18 R9_18 false) (.seq (.region 19 R9_19 false) (.seq (.seq (.region 20 R9_20 false) (.cond (.tmp 69) (.seq (.region 21 R9_21 false) .ret) .skip)) (.seq (.seq (.region 22 R9_22 false) (.cond (.tmp 72) (.seq (.region 23 R9_23 false) .ret) .skip)) (.seq (.region 24 R9_24 false) (.seq (.seq (.region 25 R9_25 false) (.cond (.tmp 87) (.seq (.region 26 R9_26 false) .ret) .skip)) (.seq (.region 27 R9_27 false) (.seq (.region 28 R9_28 false) (.seq (.seq (.region 29 R9_29 false) (.cond (.tmp 92) (.seq (.region 30 R9_30 false) .ret) .skip)) (.seq (.seq (.region 31 R9_31 false) (.cond (.tmp 95) (.seq (.region 32 R9_32 false) .ret) .skip)) (.seq (.region 33 R9_33 false) .ret))))))))))))))))))))))))) := by kernel_rfl
noncomputable def R10_0 : Array Oper := opsAt Try.f10 [0]
noncomputable def R10_1 : Array Oper := opsAt Try.f10 [1, 0]
noncomputable def R10_2 : Array Oper := opsAt Try.f10 [1, 1, 0]
noncomputable def R10_3 : Array Oper := opsAt Try.f10 [1, 1, 1, 0, 0]
noncomputable def R10_4 : Array Oper := opsAt Try.f10 [1, 1, 1, 0, 1, 0, 0]
noncomputable def R10_5 : Array Oper := opsAt Try.f10 [1, 1, 1, 1, 0]
noncomputable def R10_6 : Array Oper := opsAt Try.f10 [1, 1, 1, 1, 1, 0, 0]
noncomputable def R10_7 : Array Oper := opsAt Try.f10 [1, 1, 1, 1, 1, 0, 1, 0, 0]
noncomputable def R10_8 : Array Oper := opsAt Try.f10 [1, 1, 1, 1, 1, 1, 0]
noncomputable def R10_9 : Array Oper := opsAt Try.f10 [1, 1, 1, 1, 1, 1, 1, 0]
noncomputable def R10_10 : Array Oper := opsAt Try.f10 [1, 1, 1, 1, 1, 1, 1, 1, 0]
noncomputable def R10_11 : Array Oper := opsAt Try.f10 [1, 1, 1, 1, 1, 1, 1, 1, 1, 0]
noncomputable def R10_12 : Array Oper := opsAt Try.f10 [1, 1, 1, 1, 1, 1, 1, 1, 1, 1, 0, 0]
noncomputable def R10_13 : Array Oper := opsAt Try.f10 [1, 1, 1, 1, 1, 1, 1, 1, 1, 1, 0, 1, 0, 0]
noncomputable def R10_14 : Array Oper := opsAt Try.f10 [1, 1, 1, 1, 1, 1, 1, 1, 1, 1, 1, 0, 0]
noncomputable def R10_15 : Array Oper := opsAt Try.f10 [1, 1, 1, 1, 1, 1, 1, 1, 1, 1, 1, 0, 1, 0, 0]
noncomputable def R10_16 : Array Oper := opsAt Try.f10 [1, 1, 1, 1, 1, 1, 1, 1, 1, 1, 1, 1, 0, 0]
noncomputable def R10_17 : Array Oper := opsAt Try.f10 [1, 1, 1, 1, 1, 1, 1, 1, 1, 1, 1, 1, 0, 1, 0, 0]
noncomputable def R10_18 : Array Oper := opsAt Try.f10 [1, 1, 1, 1, 1, 1, 1, 1, 1, 1, 1, 1, 1, 0]
noncomputable def R10_19 : Array Oper := opsAt Try.f10 [1, 1, 1, 1, 1, 1, 1, 1, 1, 1, 1, 1, 1, 1, 0]
noncomputable def R10_20 : Array Oper := opsAt Try.f10 [1, 1, 1, 1, 1, 1, 1, 1, 1, 1, 1, 1, 1, 1, 1, 0]
noncomputable def R10_21 : Array Oper := opsAt Try.f10 [1, 1, 1, 1, 1, 1, 1, 1, 1, 1, 1, 1, 1, 1, 1, 1, 0, 0]
noncomputable def R10_22 : Array Oper := opsAt Try.f10 [1, 1, 1, 1, 1, 1, 1, 1, 1, 1, 1, 1, 1, 1, 1, 1, 0, 1, 0, 0]
noncomputable def R10_23 : Array Oper := opsAt Try.f10 [1, 1, 1, 1, 1, 1, 1, 1, 1, 1, 1, 1, 1, 1, 1, 1, 1, 0]
noncomputable def R10_24 : Array Oper := opsAt Try.f10 [1, 1, 1, 1, 1, 1, 1, 1, 1, 1, 1, 1, 1, 1, 1, 1, 1, 1, 0]
noncomputable def R10_25 : Array Oper := opsAt Try.f10 [1, 1, 1, 1, 1, 1, 1, 1, 1, 1, 1, 1, 1, 1, 1, 1, 1, 1, 1, 0]
noncomputable def R10_26 : Array Oper := opsAt Try.f10 [1, 1, 1, 1, 1, 1, 1, 1, 1, 1, 1, 1, 1, 1, 1, 1, 1, 1, 1, 1, 0]
noncomputable def R10_27 : Array Oper := opsAt Try.f10 [1, 1, 1, 1, 1, 1, 1, 1, 1, 1, 1, 1, 1, 1, 1, 1, 1, 1, 1, 1, 1, 0, 0]
noncomputable def R10_28 : Array Oper := opsAt Try.f10 [1, 1, 1, 1, 1, 1, 1, 1, 1, 1, 1, 1, 1, 1, 1, 1, 1, 1, 1, 1, 1, 0, 1, 0, 0]
noncomputable def R10_29 : Array Oper := opsAt Try.f10 [1, 1, 1, 1, 1, 1, 1, 1, 1, 1, 1, 1, 1, 1, 1, 1, 1, 1, 1, 1, 1, 1, 0, 0]
noncomputable def R10_30 : Array Oper := opsAt Try.f10 [1, 1, 1, 1, 1, 1, 1, 1, 1, 1, 1, 1, 1, 1, 1, 1, 1, 1, 1, 1, 1, 1, 0, 1, 0, 0]
noncomputable def R10_31 : Array Oper := opsAt Try.f10 [1, 1, 1, 1, 1, 1, 1, 1, 1, 1, 1, 1, 1, 1, 1, 1, 1, 1, 1, 1, 1, 1, 1, 0]
noncomputable def R10_32 : Array Oper := opsAt Try.f10 [1, 1, 1, 1, 1, 1, 1, 1, 1, 1, 1, 1, 1, 1, 1, 1, 1, 1, 1, 1, 1, 1, 1, 1, 0, 0]
noncomputable def R10_33 : Array Oper := opsAt Try.f10 [1, 1, 1, 1, 1, 1, 1, 1, 1, 1, 1, 1, 1, 1, 1, 1, 1, 1, 1, 1, 1, 1, 1, 1, 0, 1, 0, 0]
noncomputable def R10_34 : Array Oper := opsAt Try.f10 [1, 1, 1, 1, 1, 1, 1, 1, 1, 1, 1, 1, 1, 1, 1, 1, 1, 1, 1, 1, 1, 1, 1, 1, 1, 0]
noncomputable def R10_35 : Array Oper := opsAt Try.f10 [1, 1, 1, 1, 1, 1, 1, 1, 1, 1, 1, 1, 1, 1, 1, 1, 1, 1, 1, 1, 1, 1, 1, 1, 1, 1, 0]
noncomputable def R10_36 : Array Oper := opsAt Try.f10 [1, 1, 1, 1, 1, 1, 1, 1, 1, 1, 1, 1, 1, 1, 1, 1, 1, 1, 1, 1, 1, 1, 1, 1, 1, 1, 1, 0, 0]
noncomputable def R10_37 : Array Oper := opsAt Try.f10 [1, 1, 1, 1, 1, 1, 1, 1, 1, 1, 1, 1, 1, 1, 1, 1, 1, 1, 1, 1, 1, 1, 1, 1, 1, 1, 1, 0, 1, 0, 0]
noncomputable def R10_38 : Array Oper := opsAt Try.f10 [1, 1, 1, 1, 1, 1, 1, 1, 1, 1, 1, 1, 1, 1, 1, 1, 1, 1, 1, 1, 1, 1, 1, 1, 1, 1, 1, 1, 0, 0]
noncomputable def R10_39 : Array Oper := opsAt Try.f10 [1, 1, 1, 1, 1, 1, 1, 1, 1, 1, 1, 1, 1, 1, 1, 1, 1, 1, 1, 1, 1, 1, 1, 1, 1, 1, 1, 1, 0, 1, 0, 0]
noncomputable def R10_40 : Array Oper := opsAt Try.f10 [1, 1, 1, 1, 1, 1, 1, 1, 1, 1, 1, 1, 1, 1, 1, 1, 1, 1, 1, 1, 1, 1, 1, 1, 1, 1, 1, 1, 1, 0]
theorem code10 : Try.f10.body = some (.seq (.region 0 R10_0 false) (.seq (.region 1 R10_1 false) (.seq (.region 2 R10_2 false) (.seq (.seq (.region 3 R10_3 false) (.cond (.tmp 21) (.seq (.region 4 R10_4 false) .ret) .skip)) (.seq (.region 5 R10_5 false) (.seq (.seq (.region 6 R10_6 false) (.cond (.tmp 26) (.seq (.region 7 R10_7 false) .ret) .skip)) (.seq (.region 8 R10_8 false) (.seq (.region 9 R10_9 false) (.seq (.region 10 R10_10 false) (.seq (.region 11 R10_11 false) (.seq (.seq (.region 12 R10_12 false) (.cond (.tmp 53) (.seq (.region 13 R10_13 false) .ret) .skip)) (.seq (.seq (.region 14 R10_14 false) (.cond (.tmp 58) (.seq (.region 15 R10_15 false) .ret) .skip)) (.seq (.seq (.region 16 R10_16 false) (.cond (.tmp 63) (.seq (.region 17 R10_17 false) .ret) .skip)) (.seq (.region 18 R10_18 false) (.seq (.region 19 R10_19 false) (.seq (.region 20 R10_20 false) (.seq (.seq (.region 21 R10_21 false) (.cond (.tmp 82) (.seq (.region 22 R10_22 false) .ret) .skip)) (.seq (.region 23 R10_23 false) (.seq (.region 24 R10_24 false) (.seq (.region 25 R10_25 false) (.seq (.region 26 R10_26 false) (.seq (.seq (.region 27 R10_27 false) (.cond (.tmp 90) (.seq (.region 28 R10_28 false) .ret) .skip)) (.seq (.seq (.region 29 R10_29 false) (.cond (.tmp 93) (.seq (.region 30 R10_30 false) .ret) .skip)) (.seq (.region 31 R10_31 false) (.seq (.seq (.region 32 R10_32 false) (.cond (.tmp 110) (.seq (.region 33 R10_33 false) .ret) .skip)) (.seq (.region 34 R10_34 false) (.seq (.region 35 R10_35 false) (.seq (.seq (.region 36 R10_36 false) (.cond (.tmp 115) (.seq (.region 37 R10_37 false) .ret) .skip)) (.seq (.seq (.region 38 R10_38 false) (.cond (.tmp 118) (.seq (.region 39 R10_39 false) .ret) .skip)) (.seq (.region 40 R10_40 false) .ret)))))))))))))))))))))))))))))) := by kernel_rfl
noncomputable def R11_0 : Array Oper := opsAt Try.f11 [0]
noncomputable def R11_1 : Array Oper := opsAt Try.f11 [1, 0, 0]
noncomputable def R11_2 : Array Oper := opsAt Try.f11 [1, 0, 1, 0, 0]
noncomputable def R11_3 : Array Oper := opsAt Try.f11 [1, 1, 0]
noncomputable def R11_4 : Array Oper := opsAt Try.f11 [1, 1, 1, 0]
noncomputable def R11_5 : Array Oper := opsAt Try.f11 [1, 1, 1, 1, 0, 0]
noncomputable def R11_6 : Array Oper := opsAt Try.f11 [1, 1, 1, 1, 0, 1, 0]
noncomputable def R11_7 : Array Oper := opsAt Try.f11 [1, 1, 1, 1, 0, 1, 1, 0, 0]
noncomputable def R11_8 : Array Oper := opsAt Try.f11 [1, 1, 1, 1, 1, 0]
noncomputable def R11_9 : Array Oper := opsAt Try.f11 [1, 1, 1, 1, 1, 1, 0, 0]
noncomputable def R11_10 : Array Oper := opsAt Try.f11 [1, 1, 1, 1, 1, 1, 0, 1, 0]
noncomputable def R11_11 : Array Oper := opsAt Try.f11 [1, 1, 1, 1, 1, 1, 0, 1, 1, 0, 0]
noncomputable def R11_12 : Array Oper := opsAt Try.f11 [1, 1, 1, 1, 1, 1, 1, 0, 0]
noncomputable def R11_13 : Array Oper := opsAt Try.f11 [1, 1, 1, 1, 1, 1, 1, 0, 1, 0, 0]
noncomputable def R11_14 : Array Oper := opsAt Try.f11 [1, 1, 1, 1, 1, 1, 1, 1, 0]
noncomputable def R11_15 : Array Oper := opsAt Try.f11 [1, 1, 1, 1, 1, 1, 1, 1, 1, 0]
noncomputable def R11_16 : Array Oper := opsAt Try.f11 [1, 1, 1, 1, 1, 1, 1, 1, 1, 1, 0]
noncomputable def R11_17 : Array Oper := opsAt Try.f11 [1, 1, 1, 1, 1, 1, 1, 1, 1, 1, 1, 0]
noncomputable def R11_18 : Array Oper := opsAt Try.f11 [1, 1, 1, 1, 1, 1, 1, 1, 1, 1, 1, 1, 0, 0]
noncomputable def R11_19 : Array Oper := opsAt Try.f11 [1, 1, 1, 1, 1, 1, 1, 1, 1, 1, 1, 1, 0, 1, 0, 0]
noncomputable def R11_20 : Array Oper := opsAt Try.f11 [1, 1, 1, 1, 1, 1, 1, 1, 1, 1, 1, 1, 1, 0, 0]
noncomputable def R11_21 : Array Oper := opsAt Try.f11 [1, 1, 1, 1, 1, 1, 1, 1, 1, 1, 1, 1, 1, 0, 1, 0, 0, 0, 0]
noncomputable def R11_23 : Array Oper := opsAt Try.f11 [1, 1, 1, 1, 1, 1, 1, 1, 1, 1, 1, 1, 1, 0, 1, 0, 0, 1, 0, 0, 0]
noncomputable def R11_24 : Array Oper := opsAt Try.f11 [1, 1, 1, 1, 1, 1, 1, 1, 1, 1, 1, 1, 1, 0, 1, 0, 0, 1, 0, 0, 1, 0]
noncomputable def R11_25 : Array Oper := opsAt Try.f11 [1, 1, 1, 1, 1, 1, 1, 1, 1, 1, 1, 1, 1, 0, 1, 0, 0, 1, 0, 0, 1, 1, 0, 0]
noncomputable def R11_22 : Array Oper := opsAt Try.f11 [1, 1, 1, 1, 1, 1, 1, 1, 1, 1, 1, 1, 1, 0, 1, 0, 0, 1, 1]
noncomputable def L11_0 : Code := .seq (.seq (.region 21 R11_21 false) (.cond (.tmp 118) .skip (.exit 0))) (.seq (.block 1 (.seq (.region 23 R11_23 false) (.seq (.region 24 R11_24 false) (.cond (.tmp 143) (.seq (.region 25 R11_25 false) .ret) .skip)))) (.region 22 R11_22 false))
theorem lpL11_0 : loops L11_0 = 0 := rfl
noncomputable def R11_26 : Array Oper := opsAt Try.f11 [1, 1, 1, 1, 1, 1, 1, 1, 1, 1, 1, 1, 1, 1, 0]
noncomputable def M11_0 : Code := .seq (.region 26 R11_26 false) .ret
theorem lpM11_0 : loops M11_0 = 0 := rfl
theorem code11 : Try.f11.body = some (.seq (.region 0 R11_0 false) (.seq (.seq (.region 1 R11_1 false) (.cond (.tmp 25) (.seq (.region 2 R11_2 false) .ret) .skip)) (.seq (.region 3 R11_3 false) (.seq (.region 4 R11_4 false) (.seq (.seq (.region 5 R11_5 false) (.seq (.region 6 R11_6 false) (.cond (.tmp 54) (.seq (.region 7 R11_7 false) .ret) .skip))) (.seq (.region 8 R11_8 false) (.seq (.seq (.region 9 R11_9 false) (.seq (.region 10 R11_10 false) (.cond (.tmp 72) (.seq (.region 11 R11_11 false) .ret) .skip))) (.seq (.seq (.region 12 R11_12 false) (.cond (.tmp 74) (.seq (.region 13 R11_13 false) .ret) .skip)) (.seq (.region 14 R11_14 false) (.seq (.region 15 R11_15 false) (.seq (.region 16 R11_16 false) (.seq (.region 17 R11_17 false) (.seq (.seq (.region 18 R11_18 false) (.cond (.tmp 116) (.seq (.region 19 R11_19 false) .ret) .skip)) (.seq (.seq (.region 20 R11_20 false) (.block 0 (.loop L11_0))) M11_0)))))))))))))) := by kernel_rfl
noncomputable def R12_0 : Array Oper := opsAt Try.f12 [0]
noncomputable def R12_1 : Array Oper := opsAt Try.f12 [1, 0]
noncomputable def R12_2 : Array Oper := opsAt Try.f12 [1, 1, 0, 0]
noncomputable def R12_3 : Array Oper := opsAt Try.f12 [1, 1, 0, 1, 0, 0]
noncomputable def R12_4 : Array Oper := opsAt Try.f12 [1, 1, 1, 0]
theorem code12 : Try.f12.body = some (.seq (.region 0 R12_0 false) (.seq (.region 1 R12_1 false) (.seq (.seq (.region 2 R12_2 false) (.cond (.tmp 10) (.seq (.region 3 R12_3 false) .ret) .skip)) (.seq (.region 4 R12_4 false) .ret)))) := by kernel_rfl
noncomputable def R14_0 : Array Oper := opsAt Try.f14 [0]
noncomputable def R14_1 : Array Oper := opsAt Try.f14 [1, 0]
noncomputable def R14_2 : Array Oper := opsAt Try.f14 [1, 1, 0]
noncomputable def R14_3 : Array Oper := opsAt Try.f14 [1, 1, 1, 0]
noncomputable def R14_4 : Array Oper := opsAt Try.f14 [1, 1, 1, 1, 0]
noncomputable def R14_5 : Array Oper := opsAt Try.f14 [1, 1, 1, 1, 1, 0]
theorem code14 : Try.f14.body = some (.seq (.region 0 R14_0 false) (.seq (.region 1 R14_1 false) (.seq (.region 2 R14_2 false) (.seq (.region 3 R14_3 false) (.seq (.region 4 R14_4 false) (.seq (.region 5 R14_5 false) .ret)))))) := by kernel_rfl
noncomputable def R17_0 : Array Oper := opsAt Try.f17 [0]
noncomputable def R17_1 : Array Oper := opsAt Try.f17 [1, 0, 0]
noncomputable def R17_2 : Array Oper := opsAt Try.f17 [1, 0, 1, 0, 0]
noncomputable def R17_3 : Array Oper := opsAt Try.f17 [1, 1, 0, 0]
noncomputable def R17_4 : Array Oper := opsAt Try.f17 [1, 1, 0, 1, 0, 0]
noncomputable def R17_5 : Array Oper := opsAt Try.f17 [1, 1, 1, 0, 0]
noncomputable def R17_6 : Array Oper := opsAt Try.f17 [1, 1, 1, 0, 1, 0, 0]
noncomputable def R17_7 : Array Oper := opsAt Try.f17 [1, 1, 1, 1, 0]
theorem code17 : Try.f17.body = some (.seq (.region 0 R17_0 false) (.seq (.seq (.region 1 R17_1 false) (.cond (.tmp 9) (.seq (.region 2 R17_2 false) .ret) .skip)) (.seq (.seq (.region 3 R17_3 false) (.cond (.tmp 14) (.seq (.region 4 R17_4 false) .ret) .skip)) (.seq (.seq (.region 5 R17_5 false) (.cond (.tmp 20) (.seq (.region 6 R17_6 false) .ret) .skip)) (.seq (.region 7 R17_7 false) .ret))))) := by kernel_rfl
noncomputable def R18_0 : Array Oper := opsAt Try.f18 [0]
noncomputable def R18_1 : Array Oper := opsAt Try.f18 [1, 0]
noncomputable def R18_2 : Array Oper := opsAt Try.f18 [1, 1, 0]
theorem code18 : Try.f18.body = some (.seq (.region 0 R18_0 false) (.seq (.region 1 R18_1 false) (.seq (.region 2 R18_2 false) .ret))) := by kernel_rfl
noncomputable def R34_0 : Array Oper := opsAt Try.f34 [0]
noncomputable def R34_1 : Array Oper := opsAt Try.f34 [1, 0]
theorem code34 : Try.f34.body = some (.seq (.region 0 R34_0 false) (.seq (.region 1 R34_1 false) .ret)) := by kernel_rfl
noncomputable def R40_0 : Array Oper := opsAt Try.f40 [0]
noncomputable def R40_1 : Array Oper := opsAt Try.f40 [1, 0]
theorem code40 : Try.f40.body = some (.seq (.region 0 R40_0 false) (.seq (.region 1 R40_1 false) .ret)) := by kernel_rfl
noncomputable def R47_0 : Array Oper := opsAt Try.f47 [0]
noncomputable def R47_1 : Array Oper := opsAt Try.f47 [1, 0, 0]
noncomputable def R47_2 : Array Oper := opsAt Try.f47 [1, 0, 1, 0, 0]
noncomputable def R47_3 : Array Oper := opsAt Try.f47 [1, 1, 0]
theorem code47 : Try.f47.body = some (.seq (.region 0 R47_0 false) (.seq (.seq (.region 1 R47_1 false) (.cond (.tmp 10) (.seq (.region 2 R47_2 false) .ret) .skip)) (.seq (.region 3 R47_3 false) .ret))) := by kernel_rfl
noncomputable def R66_0 : Array Oper := opsAt Try.f66 [0]
noncomputable def R66_1 : Array Oper := opsAt Try.f66 [1, 0]
noncomputable def R66_2 : Array Oper := opsAt Try.f66 [1, 1, 0, 0]
noncomputable def R66_3 : Array Oper := opsAt Try.f66 [1, 1, 0, 1, 0, 0]
noncomputable def R66_4 : Array Oper := opsAt Try.f66 [1, 1, 1, 0]
theorem code66 : Try.f66.body = some (.seq (.region 0 R66_0 false) (.seq (.region 1 R66_1 false) (.seq (.seq (.region 2 R66_2 false) (.cond (.tmp 10) (.seq (.region 3 R66_3 false) .ret) .skip)) (.seq (.region 4 R66_4 false) .ret)))) := by kernel_rfl
noncomputable def R68_0 : Array Oper := opsAt Try.f68 [0]
noncomputable def R68_1 : Array Oper := opsAt Try.f68 [1, 0]
noncomputable def R68_2 : Array Oper := opsAt Try.f68 [1, 1, 0, 0]
noncomputable def R68_3 : Array Oper := opsAt Try.f68 [1, 1, 0, 1, 0, 0, 0, 0]
noncomputable def R68_5 : Array Oper := opsAt Try.f68 [1, 1, 0, 1, 0, 0, 1, 0, 0]
noncomputable def R68_4 : Array Oper := opsAt Try.f68 [1, 1, 0, 1, 0, 0, 1, 1]
noncomputable def L68_0 : Code := .seq (.seq (.region 3 R68_3 false) (.cond (.tmp 11) .skip (.exit 0))) (.seq (.block 1 (.region 5 R68_5 false)) (.region 4 R68_4 false))
theorem lpL68_0 : loops L68_0 = 0 := rfl
noncomputable def R68_6 : Array Oper := opsAt Try.f68 [1, 1, 1, 0]
noncomputable def M68_0 : Code := .seq (.region 6 R68_6 false) .ret
theorem lpM68_0 : loops M68_0 = 0 := rfl
theorem code68 : Try.f68.body = some (.seq (.region 0 R68_0 false) (.seq (.region 1 R68_1 false) (.seq (.seq (.region 2 R68_2 false) (.block 0 (.loop L68_0))) M68_0))) := by kernel_rfl
noncomputable def R70_0 : Array Oper := opsAt Try.f70 [0]
noncomputable def R70_1 : Array Oper := opsAt Try.f70 [1, 0, 0]
noncomputable def R70_2 : Array Oper := opsAt Try.f70 [1, 0, 1, 0, 0]
noncomputable def R70_3 : Array Oper := opsAt Try.f70 [1, 1, 0, 0]
noncomputable def R70_4 : Array Oper := opsAt Try.f70 [1, 1, 0, 1, 0, 0, 0, 0]
noncomputable def R70_6 : Array Oper := opsAt Try.f70 [1, 1, 0, 1, 0, 0, 1, 0, 0, 0]
noncomputable def R70_7 : Array Oper := opsAt Try.f70 [1, 1, 0, 1, 0, 0, 1, 0, 0, 1, 0, 0]
noncomputable def R70_5 : Array Oper := opsAt Try.f70 [1, 1, 0, 1, 0, 0, 1, 1]
noncomputable def L70_0 : Code := .seq (.seq (.region 4 R70_4 false) (.cond (.tmp 14) .skip (.exit 0))) (.seq (.block 1 (.seq (.region 6 R70_6 true) (.cond (.tmp 26) (.seq (.region 7 R70_7 false) .ret) .skip))) (.region 5 R70_5 false))
theorem lpL70_0 : loops L70_0 = 0 := rfl
noncomputable def R70_8 : Array Oper := opsAt Try.f70 [1, 1, 1, 0]
noncomputable def M70_0 : Code := .seq (.region 8 R70_8 false) .ret
theorem lpM70_0 : loops M70_0 = 0 := rfl
theorem code70 : Try.f70.body = some (.seq (.region 0 R70_0 false) (.seq (.seq (.region 1 R70_1 false) (.cond (.tmp 10) (.seq (.region 2 R70_2 false) .ret) .skip)) (.seq (.seq (.region 3 R70_3 false) (.block 0 (.loop L70_0))) M70_0))) := by kernel_rfl
noncomputable def R71_0 : Array Oper := opsAt Try.f71 [0]
noncomputable def R71_1 : Array Oper := opsAt Try.f71 [1, 0, 0]
noncomputable def R71_2 : Array Oper := opsAt Try.f71 [1, 0, 1, 0, 0, 0, 0]
noncomputable def R71_4 : Array Oper := opsAt Try.f71 [1, 0, 1, 0, 0, 1, 0, 0, 0]
noncomputable def R71_5 : Array Oper := opsAt Try.f71 [1, 0, 1, 0, 0, 1, 0, 0, 1, 0]
noncomputable def R71_6 : Array Oper := opsAt Try.f71 [1, 0, 1, 0, 0, 1, 0, 0, 1, 1, 0]
noncomputable def R71_7 : Array Oper := opsAt Try.f71 [1, 0, 1, 0, 0, 1, 0, 0, 1, 1, 1]
noncomputable def R71_3 : Array Oper := opsAt Try.f71 [1, 0, 1, 0, 0, 1, 1]
noncomputable def L71_0 : Code := .seq (.seq (.region 2 R71_2 false) (.cond (.tmp 9) .skip (.exit 0))) (.seq (.block 1 (.seq (.region 4 R71_4 false) (.seq (.region 5 R71_5 false) (.seq (.region 6 R71_6 false) (.region 7 R71_7 false))))) (.region 3 R71_3 false))
theorem lpL71_0 : loops L71_0 = 0 := rfl
noncomputable def R71_8 : Array Oper := opsAt Try.f71 [1, 1, 0]
noncomputable def M71_0 : Code := .seq (.region 8 R71_8 false) .ret
theorem lpM71_0 : loops M71_0 = 0 := rfl
theorem code71 : Try.f71.body = some (.seq (.region 0 R71_0 false) (.seq (.seq (.region 1 R71_1 false) (.block 0 (.loop L71_0))) M71_0)) := by kernel_rfl
noncomputable def R73_0 : Array Oper := opsAt Try.f73 [0]
noncomputable def R73_1 : Array Oper := opsAt Try.f73 [1, 0]
noncomputable def R73_2 : Array Oper := opsAt Try.f73 [1, 1, 0, 0]
noncomputable def R73_3 : Array Oper := opsAt Try.f73 [1, 1, 0, 1, 0, 0]
noncomputable def R73_4 : Array Oper := opsAt Try.f73 [1, 1, 1, 0, 0]
noncomputable def R73_5 : Array Oper := opsAt Try.f73 [1, 1, 1, 0, 1, 0, 0, 0, 0]
noncomputable def R73_7 : Array Oper := opsAt Try.f73 [1, 1, 1, 0, 1, 0, 0, 1, 0, 0, 0]
noncomputable def R73_8 : Array Oper := opsAt Try.f73 [1, 1, 1, 0, 1, 0, 0, 1, 0, 0, 1, 0]
noncomputable def R73_6 : Array Oper := opsAt Try.f73 [1, 1, 1, 0, 1, 0, 0, 1, 1]
noncomputable def L73_0 : Code := .seq (.seq (.region 5 R73_5 false) (.cond (.tmp 14) .skip (.exit 0))) (.seq (.block 1 (.seq (.region 7 R73_7 false) (.cond (.tmp 22) (.region 8 R73_8 false) .skip))) (.region 6 R73_6 false))
theorem lpL73_0 : loops L73_0 = 0 := rfl
noncomputable def R73_9 : Array Oper := opsAt Try.f73 [1, 1, 1, 1, 0]
noncomputable def M73_0 : Code := .seq (.region 9 R73_9 false) .ret
theorem lpM73_0 : loops M73_0 = 0 := rfl
theorem code73 : Try.f73.body = some (.seq (.region 0 R73_0 false) (.seq (.region 1 R73_1 false) (.seq (.seq (.region 2 R73_2 false) (.cond (.tmp 9) (.seq (.region 3 R73_3 false) .ret) .skip)) (.seq (.seq (.region 4 R73_4 false) (.block 0 (.loop L73_0))) M73_0)))) := by kernel_rfl
noncomputable def R74_0 : Array Oper := opsAt Try.f74 [0]
noncomputable def R74_1 : Array Oper := opsAt Try.f74 [1, 0, 0]
noncomputable def R74_2 : Array Oper := opsAt Try.f74 [1, 0, 1, 0, 0]
noncomputable def R74_3 : Array Oper := opsAt Try.f74 [1, 1, 0]
noncomputable def R74_4 : Array Oper := opsAt Try.f74 [1, 1, 1, 0, 0]
noncomputable def R74_5 : Array Oper := opsAt Try.f74 [1, 1, 1, 0, 1, 0, 0, 0]
noncomputable def R74_6 : Array Oper := opsAt Try.f74 [1, 1, 1, 0, 1, 0, 0, 1, 1, 0, 0, 0]
noncomputable def R74_7 : Array Oper := opsAt Try.f74 [1, 1, 1, 0, 1, 0, 0, 1, 1, 0, 0, 1, 0]
noncomputable def R74_8 : Array Oper := opsAt Try.f74 [1, 1, 1, 0, 1, 0, 0, 1, 1, 0, 0, 1, 1, 0]
noncomputable def R74_9 : Array Oper := opsAt Try.f74 [1, 1, 1, 0, 1, 0, 0, 1, 1, 1]
noncomputable def L74_0 : Code := .seq (.region 5 R74_5 false) (.seq (.cond (.tmp 13) .skip (.exit 0)) (.seq (.block 1 (.seq (.region 6 R74_6 false) (.seq (.region 7 R74_7 false) (.cond (.tmp 18) (.region 8 R74_8 false) .skip)))) (.region 9 R74_9 false)))
theorem lpL74_0 : loops L74_0 = 0 := rfl
noncomputable def R74_10 : Array Oper := opsAt Try.f74 [1, 1, 1, 1, 0]
noncomputable def R74_11 : Array Oper := opsAt Try.f74 [1, 1, 1, 1, 1, 0]
noncomputable def M74_0 : Code := .seq (.region 10 R74_10 false) (.seq (.region 11 R74_11 false) .ret)
theorem lpM74_0 : loops M74_0 = 0 := rfl
theorem code74 : Try.f74.body = some (.seq (.region 0 R74_0 false) (.seq (.seq (.region 1 R74_1 false) (.cond (.tmp 9) (.seq (.region 2 R74_2 false) .ret) .skip)) (.seq (.region 3 R74_3 false) (.seq (.seq (.region 4 R74_4 false) (.block 0 (.loop L74_0))) M74_0)))) := by kernel_rfl
noncomputable def R75_0 : Array Oper := opsAt Try.f75 [0]
noncomputable def R75_1 : Array Oper := opsAt Try.f75 [1, 0, 0]
noncomputable def R75_2 : Array Oper := opsAt Try.f75 [1, 0, 1, 0, 0]
noncomputable def R75_3 : Array Oper := opsAt Try.f75 [1, 1, 0, 0]
noncomputable def R75_4 : Array Oper := opsAt Try.f75 [1, 1, 0, 1, 0, 0, 0, 0]
noncomputable def R75_6 : Array Oper := opsAt Try.f75 [1, 1, 0, 1, 0, 0, 1, 0, 0, 0]
noncomputable def R75_7 : Array Oper := opsAt Try.f75 [1, 1, 0, 1, 0, 0, 1, 0, 0, 1, 0, 0]
noncomputable def R75_5 : Array Oper := opsAt Try.f75 [1, 1, 0, 1, 0, 0, 1, 1]
noncomputable def L75_0 : Code := .seq (.seq (.region 4 R75_4 false) (.cond (.tmp 14) .skip (.exit 0))) (.seq (.block 1 (.seq (.region 6 R75_6 true) (.cond (.tmp 25) (.seq (.region 7 R75_7 false) .ret) .skip))) (.region 5 R75_5 false))
theorem lpL75_0 : loops L75_0 = 0 := rfl
noncomputable def R75_8 : Array Oper := opsAt Try.f75 [1, 1, 1, 0]
noncomputable def M75_0 : Code := .seq (.region 8 R75_8 false) .ret
theorem lpM75_0 : loops M75_0 = 0 := rfl
theorem code75 : Try.f75.body = some (.seq (.region 0 R75_0 false) (.seq (.seq (.region 1 R75_1 false) (.cond (.tmp 10) (.seq (.region 2 R75_2 false) .ret) .skip)) (.seq (.seq (.region 3 R75_3 false) (.block 0 (.loop L75_0))) M75_0))) := by kernel_rfl
noncomputable def R76_0 : Array Oper := opsAt Try.f76 [0]
noncomputable def R76_1 : Array Oper := opsAt Try.f76 [1, 0, 0]
noncomputable def R76_2 : Array Oper := opsAt Try.f76 [1, 0, 1, 0, 0, 0, 0]
noncomputable def R76_4 : Array Oper := opsAt Try.f76 [1, 0, 1, 0, 0, 1, 0, 0, 0]
noncomputable def R76_5 : Array Oper := opsAt Try.f76 [1, 0, 1, 0, 0, 1, 0, 0, 1]
noncomputable def R76_3 : Array Oper := opsAt Try.f76 [1, 0, 1, 0, 0, 1, 1]
noncomputable def L76_0 : Code := .seq (.seq (.region 2 R76_2 false) (.cond (.tmp 9) .skip (.exit 0))) (.seq (.block 1 (.seq (.region 4 R76_4 false) (.region 5 R76_5 false))) (.region 3 R76_3 false))
theorem lpL76_0 : loops L76_0 = 0 := rfl
noncomputable def R76_6 : Array Oper := opsAt Try.f76 [1, 1, 0]
noncomputable def M76_0 : Code := .seq (.region 6 R76_6 false) .ret
theorem lpM76_0 : loops M76_0 = 0 := rfl
theorem code76 : Try.f76.body = some (.seq (.region 0 R76_0 false) (.seq (.seq (.region 1 R76_1 false) (.block 0 (.loop L76_0))) M76_0)) := by kernel_rfl
noncomputable def R77_0 : Array Oper := opsAt Try.f77 [0]
noncomputable def R77_1 : Array Oper := opsAt Try.f77 [1, 0, 0]
noncomputable def R77_2 : Array Oper := opsAt Try.f77 [1, 0, 1, 0, 0, 0, 0]
noncomputable def R77_4 : Array Oper := opsAt Try.f77 [1, 0, 1, 0, 0, 1, 0, 0, 0, 0]
noncomputable def R77_5 : Array Oper := opsAt Try.f77 [1, 0, 1, 0, 0, 1, 0, 0, 0, 1, 0, 0]
noncomputable def R77_6 : Array Oper := opsAt Try.f77 [1, 0, 1, 0, 0, 1, 0, 0, 1]
noncomputable def R77_3 : Array Oper := opsAt Try.f77 [1, 0, 1, 0, 0, 1, 1]
noncomputable def L77_0 : Code := .seq (.seq (.region 2 R77_2 false) (.cond (.tmp 9) .skip (.exit 0))) (.seq (.block 1 (.seq (.seq (.region 4 R77_4 false) (.cond (.tmp 17) (.seq (.region 5 R77_5 false) .ret) .skip)) (.region 6 R77_6 false))) (.region 3 R77_3 false))
theorem lpL77_0 : loops L77_0 = 0 := rfl
noncomputable def R77_7 : Array Oper := opsAt Try.f77 [1, 1, 0]
noncomputable def M77_0 : Code := .seq (.region 7 R77_7 false) .ret
theorem lpM77_0 : loops M77_0 = 0 := rfl
theorem code77 : Try.f77.body = some (.seq (.region 0 R77_0 false) (.seq (.seq (.region 1 R77_1 false) (.block 0 (.loop L77_0))) M77_0)) := by kernel_rfl
noncomputable def R78_0 : Array Oper := opsAt Try.f78 [0]
noncomputable def R78_1 : Array Oper := opsAt Try.f78 [1, 0]
noncomputable def R78_2 : Array Oper := opsAt Try.f78 [1, 1, 0, 0]
noncomputable def R78_3 : Array Oper := opsAt Try.f78 [1, 1, 0, 1, 0, 0]
noncomputable def R78_4 : Array Oper := opsAt Try.f78 [1, 1, 1, 0, 0]
noncomputable def R78_5 : Array Oper := opsAt Try.f78 [1, 1, 1, 0, 1, 0, 0, 0, 0]
noncomputable def R78_7 : Array Oper := opsAt Try.f78 [1, 1, 1, 0, 1, 0, 0, 1, 0, 0, 0]
noncomputable def R78_8 : Array Oper := opsAt Try.f78 [1, 1, 1, 0, 1, 0, 0, 1, 0, 0, 1, 0]
noncomputable def R78_9 : Array Oper := opsAt Try.f78 [1, 1, 1, 0, 1, 0, 0, 1, 0, 0, 1, 1, 0, 0]
noncomputable def R78_6 : Array Oper := opsAt Try.f78 [1, 1, 1, 0, 1, 0, 0, 1, 1]
noncomputable def L78_0 : Code := .seq (.seq (.region 5 R78_5 false) (.cond (.tmp 15) .skip (.exit 0))) (.seq (.block 1 (.seq (.region 7 R78_7 false) (.seq (.region 8 R78_8 false) (.cond (.tmp 25) (.seq (.region 9 R78_9 false) .ret) .skip)))) (.region 6 R78_6 false))
theorem lpL78_0 : loops L78_0 = 0 := rfl
noncomputable def R78_10 : Array Oper := opsAt Try.f78 [1, 1, 1, 1, 0]
noncomputable def M78_0 : Code := .seq (.region 10 R78_10 false) .ret
theorem lpM78_0 : loops M78_0 = 0 := rfl
theorem code78 : Try.f78.body = some (.seq (.region 0 R78_0 false) (.seq (.region 1 R78_1 false) (.seq (.seq (.region 2 R78_2 false) (.cond (.tmp 11) (.seq (.region 3 R78_3 false) .ret) .skip)) (.seq (.seq (.region 4 R78_4 false) (.block 0 (.loop L78_0))) M78_0)))) := by kernel_rfl
noncomputable def R79_0 : Array Oper := opsAt Try.f79 [0]
noncomputable def R79_1 : Array Oper := opsAt Try.f79 [1, 0, 0]
noncomputable def R79_2 : Array Oper := opsAt Try.f79 [1, 0, 1, 0, 0]
noncomputable def R79_3 : Array Oper := opsAt Try.f79 [1, 1, 0]
theorem code79 : Try.f79.body = some (.seq (.region 0 R79_0 false) (.seq (.seq (.region 1 R79_1 false) (.cond (.tmp 13) (.seq (.region 2 R79_2 false) .ret) .skip)) (.seq (.region 3 R79_3 false) .ret))) := by kernel_rfl
noncomputable def R80_0 : Array Oper := opsAt Try.f80 [0]
noncomputable def R80_1 : Array Oper := opsAt Try.f80 [1, 0]
noncomputable def R80_2 : Array Oper := opsAt Try.f80 [1, 1, 0, 0]
noncomputable def R80_3 : Array Oper := opsAt Try.f80 [1, 1, 0, 1, 0, 0, 0, 0]
noncomputable def R80_5 : Array Oper := opsAt Try.f80 [1, 1, 0, 1, 0, 0, 1, 0, 0]
noncomputable def R80_4 : Array Oper := opsAt Try.f80 [1, 1, 0, 1, 0, 0, 1, 1]
noncomputable def L80_0 : Code := .seq (.seq (.region 3 R80_3 false) (.cond (.tmp 11) .skip (.exit 0))) (.seq (.block 1 (.region 5 R80_5 false)) (.region 4 R80_4 false))
theorem lpL80_0 : loops L80_0 = 0 := rfl
noncomputable def R80_6 : Array Oper := opsAt Try.f80 [1, 1, 1, 0]
noncomputable def M80_0 : Code := .seq (.region 6 R80_6 false) .ret
theorem lpM80_0 : loops M80_0 = 0 := rfl
theorem code80 : Try.f80.body = some (.seq (.region 0 R80_0 false) (.seq (.region 1 R80_1 false) (.seq (.seq (.region 2 R80_2 false) (.block 0 (.loop L80_0))) M80_0))) := by kernel_rfl
noncomputable def R81_0 : Array Oper := opsAt Try.f81 [0]
noncomputable def R81_1 : Array Oper := opsAt Try.f81 [1, 0, 0]
noncomputable def R81_2 : Array Oper := opsAt Try.f81 [1, 0, 1, 0, 0]
noncomputable def R81_3 : Array Oper := opsAt Try.f81 [1, 1, 0]
noncomputable def R81_4 : Array Oper := opsAt Try.f81 [1, 1, 1, 0, 0]
noncomputable def R81_5 : Array Oper := opsAt Try.f81 [1, 1, 1, 0, 1, 0, 0, 0]
noncomputable def R81_6 : Array Oper := opsAt Try.f81 [1, 1, 1, 0, 1, 0, 0, 1, 1, 0, 0, 0]
noncomputable def R81_7 : Array Oper := opsAt Try.f81 [1, 1, 1, 0, 1, 0, 0, 1, 1, 0, 0, 1, 0]
noncomputable def R81_8 : Array Oper := opsAt Try.f81 [1, 1, 1, 0, 1, 0, 0, 1, 1, 0, 0, 1, 1, 0, 0]
noncomputable def R81_9 : Array Oper := opsAt Try.f81 [1, 1, 1, 0, 1, 0, 0, 1, 1, 0, 0, 1, 1, 0, 1, 0, 0]
noncomputable def R81_10 : Array Oper := opsAt Try.f81 [1, 1, 1, 0, 1, 0, 0, 1, 1, 0, 0, 1, 1, 1]
noncomputable def R81_11 : Array Oper := opsAt Try.f81 [1, 1, 1, 0, 1, 0, 0, 1, 1, 1]
noncomputable def L81_0 : Code := .seq (.region 5 R81_5 false) (.seq (.cond (.tmp 29) .skip (.exit 0)) (.seq (.block 1 (.seq (.region 6 R81_6 false) (.seq (.region 7 R81_7 false) (.seq (.seq (.region 8 R81_8 false) (.cond (.tmp 40) (.seq (.region 9 R81_9 false) .ret) .skip)) (.region 10 R81_10 true))))) (.region 11 R81_11 false)))
theorem lpL81_0 : loops L81_0 = 0 := rfl
noncomputable def R81_12 : Array Oper := opsAt Try.f81 [1, 1, 1, 1, 0]
noncomputable def M81_0 : Code := .seq (.region 12 R81_12 false) .ret
theorem lpM81_0 : loops M81_0 = 0 := rfl
theorem code81 : Try.f81.body = some (.seq (.region 0 R81_0 false) (.seq (.seq (.region 1 R81_1 false) (.cond (.tmp 24) (.seq (.region 2 R81_2 false) .ret) .skip)) (.seq (.region 3 R81_3 false) (.seq (.seq (.region 4 R81_4 false) (.block 0 (.loop L81_0))) M81_0)))) := by kernel_rfl
noncomputable def R82_0 : Array Oper := opsAt Try.f82 [0]
noncomputable def R82_1 : Array Oper := opsAt Try.f82 [1, 0, 0]
noncomputable def R82_2 : Array Oper := opsAt Try.f82 [1, 0, 1, 0, 0]
noncomputable def R82_3 : Array Oper := opsAt Try.f82 [1, 1, 0, 0]
noncomputable def R82_4 : Array Oper := opsAt Try.f82 [1, 1, 0, 1, 0, 0, 0, 0]
noncomputable def R82_6 : Array Oper := opsAt Try.f82 [1, 1, 0, 1, 0, 0, 1, 0, 0, 0]
noncomputable def R82_7 : Array Oper := opsAt Try.f82 [1, 1, 0, 1, 0, 0, 1, 0, 0, 1, 0, 0]
noncomputable def R82_5 : Array Oper := opsAt Try.f82 [1, 1, 0, 1, 0, 0, 1, 1]
noncomputable def L82_0 : Code := .seq (.seq (.region 4 R82_4 false) (.cond (.tmp 14) .skip (.exit 0))) (.seq (.block 1 (.seq (.region 6 R82_6 true) (.cond (.tmp 26) (.seq (.region 7 R82_7 false) .ret) .skip))) (.region 5 R82_5 false))
theorem lpL82_0 : loops L82_0 = 0 := rfl
noncomputable def R82_8 : Array Oper := opsAt Try.f82 [1, 1, 1, 0]
noncomputable def M82_0 : Code := .seq (.region 8 R82_8 false) .ret
theorem lpM82_0 : loops M82_0 = 0 := rfl
theorem code82 : Try.f82.body = some (.seq (.region 0 R82_0 false) (.seq (.seq (.region 1 R82_1 false) (.cond (.tmp 10) (.seq (.region 2 R82_2 false) .ret) .skip)) (.seq (.seq (.region 3 R82_3 false) (.block 0 (.loop L82_0))) M82_0))) := by kernel_rfl
noncomputable def R83_0 : Array Oper := opsAt Try.f83 [0]
noncomputable def R83_1 : Array Oper := opsAt Try.f83 [1, 0, 0]
noncomputable def R83_2 : Array Oper := opsAt Try.f83 [1, 0, 1, 0, 0, 0, 0]
noncomputable def R83_4 : Array Oper := opsAt Try.f83 [1, 0, 1, 0, 0, 1, 0, 0, 0]
noncomputable def R83_5 : Array Oper := opsAt Try.f83 [1, 0, 1, 0, 0, 1, 0, 0, 1, 0]
noncomputable def R83_6 : Array Oper := opsAt Try.f83 [1, 0, 1, 0, 0, 1, 0, 0, 1, 1, 0]
noncomputable def R83_7 : Array Oper := opsAt Try.f83 [1, 0, 1, 0, 0, 1, 0, 0, 1, 1, 1, 0]
noncomputable def R83_8 : Array Oper := opsAt Try.f83 [1, 0, 1, 0, 0, 1, 0, 0, 1, 1, 1, 1]
noncomputable def R83_3 : Array Oper := opsAt Try.f83 [1, 0, 1, 0, 0, 1, 1]
noncomputable def L83_0 : Code := .seq (.seq (.region 2 R83_2 false) (.cond (.tmp 9) .skip (.exit 0))) (.seq (.block 1 (.seq (.region 4 R83_4 false) (.seq (.region 5 R83_5 false) (.seq (.region 6 R83_6 false) (.seq (.region 7 R83_7 false) (.region 8 R83_8 false)))))) (.region 3 R83_3 false))
theorem lpL83_0 : loops L83_0 = 0 := rfl
noncomputable def R83_9 : Array Oper := opsAt Try.f83 [1, 1, 0]
noncomputable def M83_0 : Code := .seq (.region 9 R83_9 false) .ret
theorem lpM83_0 : loops M83_0 = 0 := rfl
theorem code83 : Try.f83.body = some (.seq (.region 0 R83_0 false) (.seq (.seq (.region 1 R83_1 false) (.block 0 (.loop L83_0))) M83_0)) := by kernel_rfl
noncomputable def R84_0 : Array Oper := opsAt Try.f84 [0]
noncomputable def R84_1 : Array Oper := opsAt Try.f84 [1, 0]
noncomputable def R84_2 : Array Oper := opsAt Try.f84 [1, 1, 0, 0]
noncomputable def R84_3 : Array Oper := opsAt Try.f84 [1, 1, 0, 1, 0, 0]
noncomputable def R84_4 : Array Oper := opsAt Try.f84 [1, 1, 1, 0]
theorem code84 : Try.f84.body = some (.seq (.region 0 R84_0 false) (.seq (.region 1 R84_1 false) (.seq (.seq (.region 2 R84_2 false) (.cond (.tmp 10) (.seq (.region 3 R84_3 false) .ret) .skip)) (.seq (.region 4 R84_4 false) .ret)))) := by kernel_rfl
noncomputable def R85_0 : Array Oper := opsAt Try.f85 [0]
noncomputable def R85_1 : Array Oper := opsAt Try.f85 [1, 0]
noncomputable def R85_2 : Array Oper := opsAt Try.f85 [1, 1, 0]
noncomputable def R85_3 : Array Oper := opsAt Try.f85 [1, 1, 1, 0]
noncomputable def R85_4 : Array Oper := opsAt Try.f85 [1, 1, 1, 1, 0, 0]
noncomputable def R85_5 : Array Oper := opsAt Try.f85 [1, 1, 1, 1, 0, 1, 0]
noncomputable def R85_6 : Array Oper := opsAt Try.f85 [1, 1, 1, 1, 1, 0]
theorem code85 : Try.f85.body = some (.seq (.region 0 R85_0 false) (.seq (.region 1 R85_1 false) (.seq (.region 2 R85_2 false) (.seq (.region 3 R85_3 false) (.seq (.seq (.region 4 R85_4 false) (.cond (.tmp 16) (.region 5 R85_5 false) .skip)) (.seq (.region 6 R85_6 false) .ret)))))) := by kernel_rfl
noncomputable def R86_0 : Array Oper := opsAt Try.f86 [0]
noncomputable def R86_1 : Array Oper := opsAt Try.f86 [1, 0, 0]
noncomputable def R86_2 : Array Oper := opsAt Try.f86 [1, 0, 1, 0, 0]
noncomputable def R86_3 : Array Oper := opsAt Try.f86 [1, 1, 0]
noncomputable def R86_4 : Array Oper := opsAt Try.f86 [1, 1, 1, 0, 0]
noncomputable def R86_5 : Array Oper := opsAt Try.f86 [1, 1, 1, 0, 1, 0, 0, 0]
noncomputable def R86_6 : Array Oper := opsAt Try.f86 [1, 1, 1, 0, 1, 0, 0, 1, 1, 0, 0, 0]
noncomputable def R86_7 : Array Oper := opsAt Try.f86 [1, 1, 1, 0, 1, 0, 0, 1, 1, 0, 0, 1, 0]
noncomputable def R86_8 : Array Oper := opsAt Try.f86 [1, 1, 1, 0, 1, 0, 0, 1, 1, 0, 0, 1, 1, 0]
noncomputable def R86_9 : Array Oper := opsAt Try.f86 [1, 1, 1, 0, 1, 0, 0, 1, 1, 0, 0, 1, 1, 1]
noncomputable def R86_10 : Array Oper := opsAt Try.f86 [1, 1, 1, 0, 1, 0, 0, 1, 1, 1]
noncomputable def L86_0 : Code := .seq (.region 5 R86_5 false) (.seq (.cond (.tmp 27) .skip (.exit 0)) (.seq (.block 1 (.seq (.region 6 R86_6 false) (.seq (.region 7 R86_7 false) (.cond (.tmp 33) (.region 8 R86_8 false) (.region 9 R86_9 false))))) (.region 10 R86_10 false)))
theorem lpL86_0 : loops L86_0 = 0 := rfl
noncomputable def R86_11 : Array Oper := opsAt Try.f86 [1, 1, 1, 1, 0, 0]
noncomputable def R86_12 : Array Oper := opsAt Try.f86 [1, 1, 1, 1, 0, 1, 0, 0]
noncomputable def R86_13 : Array Oper := opsAt Try.f86 [1, 1, 1, 1, 1, 0]
noncomputable def M86_0 : Code := .seq (.seq (.region 11 R86_11 false) (.cond (.tmp 44) (.seq (.region 12 R86_12 false) .ret) .skip)) (.seq (.region 13 R86_13 false) .ret)
theorem lpM86_0 : loops M86_0 = 0 := rfl
theorem code86 : Try.f86.body = some (.seq (.region 0 R86_0 false) (.seq (.seq (.region 1 R86_1 false) (.cond (.tmp 23) (.seq (.region 2 R86_2 false) .ret) .skip)) (.seq (.region 3 R86_3 false) (.seq (.seq (.region 4 R86_4 false) (.block 0 (.loop L86_0))) M86_0)))) := by kernel_rfl
noncomputable def R87_0 : Array Oper := opsAt Try.f87 [0]
noncomputable def R87_1 : Array Oper := opsAt Try.f87 [1, 0]
noncomputable def R87_2 : Array Oper := opsAt Try.f87 [1, 1, 0, 0]
noncomputable def R87_3 : Array Oper := opsAt Try.f87 [1, 1, 0, 1, 0, 0]
noncomputable def R87_4 : Array Oper := opsAt Try.f87 [1, 1, 1, 0, 0]
noncomputable def R87_5 : Array Oper := opsAt Try.f87 [1, 1, 1, 0, 1, 0, 0, 0, 0]
noncomputable def R87_7 : Array Oper := opsAt Try.f87 [1, 1, 1, 0, 1, 0, 0, 1, 0, 0, 0]
noncomputable def R87_8 : Array Oper := opsAt Try.f87 [1, 1, 1, 0, 1, 0, 0, 1, 0, 0, 1, 0]
noncomputable def R87_9 : Array Oper := opsAt Try.f87 [1, 1, 1, 0, 1, 0, 0, 1, 0, 0, 1, 1]
noncomputable def R87_6 : Array Oper := opsAt Try.f87 [1, 1, 1, 0, 1, 0, 0, 1, 1]
noncomputable def L87_0 : Code := .seq (.seq (.region 5 R87_5 false) (.cond (.tmp 28) .skip (.exit 0))) (.seq (.block 1 (.seq (.region 7 R87_7 false) (.cond (.tmp 45) (.region 8 R87_8 false) (.region 9 R87_9 false)))) (.region 6 R87_6 false))
theorem lpL87_0 : loops L87_0 = 0 := rfl
noncomputable def R87_10 : Array Oper := opsAt Try.f87 [1, 1, 1, 1, 0, 0]
noncomputable def R87_11 : Array Oper := opsAt Try.f87 [1, 1, 1, 1, 0, 1, 0, 0]
noncomputable def R87_12 : Array Oper := opsAt Try.f87 [1, 1, 1, 1, 1, 0]
noncomputable def M87_0 : Code := .seq (.seq (.region 10 R87_10 false) (.cond (.tmp 58) (.seq (.region 11 R87_11 false) .ret) .skip)) (.seq (.region 12 R87_12 false) .ret)
theorem lpM87_0 : loops M87_0 = 0 := rfl
theorem code87 : Try.f87.body = some (.seq (.region 0 R87_0 false) (.seq (.region 1 R87_1 false) (.seq (.seq (.region 2 R87_2 false) (.cond (.tmp 23) (.seq (.region 3 R87_3 false) .ret) .skip)) (.seq (.seq (.region 4 R87_4 false) (.block 0 (.loop L87_0))) M87_0)))) := by kernel_rfl
noncomputable def R88_0 : Array Oper := opsAt Try.f88 [0]
noncomputable def R88_1 : Array Oper := opsAt Try.f88 [1, 0, 0]
noncomputable def R88_2 : Array Oper := opsAt Try.f88 [1, 0, 1, 0, 0]
noncomputable def R88_3 : Array Oper := opsAt Try.f88 [1, 1, 0, 0]
noncomputable def R88_4 : Array Oper := opsAt Try.f88 [1, 1, 0, 1, 0, 0, 0, 0]
noncomputable def R88_6 : Array Oper := opsAt Try.f88 [1, 1, 0, 1, 0, 0, 1, 0, 0, 0]
noncomputable def R88_7 : Array Oper := opsAt Try.f88 [1, 1, 0, 1, 0, 0, 1, 0, 0, 1, 0, 0]
noncomputable def R88_5 : Array Oper := opsAt Try.f88 [1, 1, 0, 1, 0, 0, 1, 1]
noncomputable def L88_0 : Code := .seq (.seq (.region 4 R88_4 false) (.cond (.tmp 14) .skip (.exit 0))) (.seq (.block 1 (.seq (.region 6 R88_6 true) (.cond (.tmp 25) (.seq (.region 7 R88_7 false) .ret) .skip))) (.region 5 R88_5 false))
theorem lpL88_0 : loops L88_0 = 0 := rfl
noncomputable def R88_8 : Array Oper := opsAt Try.f88 [1, 1, 1, 0]
noncomputable def M88_0 : Code := .seq (.region 8 R88_8 false) .ret
theorem lpM88_0 : loops M88_0 = 0 := rfl
theorem code88 : Try.f88.body = some (.seq (.region 0 R88_0 false) (.seq (.seq (.region 1 R88_1 false) (.cond (.tmp 10) (.seq (.region 2 R88_2 false) .ret) .skip)) (.seq (.seq (.region 3 R88_3 false) (.block 0 (.loop L88_0))) M88_0))) := by kernel_rfl
noncomputable def R89_0 : Array Oper := opsAt Try.f89 [0]
noncomputable def R89_1 : Array Oper := opsAt Try.f89 [1, 0, 0]
noncomputable def R89_2 : Array Oper := opsAt Try.f89 [1, 0, 1, 0, 0]
noncomputable def R89_3 : Array Oper := opsAt Try.f89 [1, 1, 0]
noncomputable def R89_4 : Array Oper := opsAt Try.f89 [1, 1, 1, 0, 0]
noncomputable def R89_5 : Array Oper := opsAt Try.f89 [1, 1, 1, 0, 1, 0, 0, 0]
noncomputable def R89_6 : Array Oper := opsAt Try.f89 [1, 1, 1, 0, 1, 0, 0, 1, 1, 0, 0, 0]
noncomputable def R89_7 : Array Oper := opsAt Try.f89 [1, 1, 1, 0, 1, 0, 0, 1, 1, 0, 0, 1, 0]
noncomputable def R89_8 : Array Oper := opsAt Try.f89 [1, 1, 1, 0, 1, 0, 0, 1, 1, 0, 0, 1, 1, 0]
noncomputable def R89_9 : Array Oper := opsAt Try.f89 [1, 1, 1, 0, 1, 0, 0, 1, 1, 0, 0, 1, 1, 1, 0, 0]
noncomputable def R89_10 : Array Oper := opsAt Try.f89 [1, 1, 1, 0, 1, 0, 0, 1, 1, 0, 0, 1, 1, 1, 0, 1, 0, 0, 0]
noncomputable def R89_11 : Array Oper := opsAt Try.f89 [1, 1, 1, 0, 1, 0, 0, 1, 1, 0, 0, 1, 1, 1, 0, 1, 0, 0, 1, 1, 0, 0, 0]
noncomputable def R89_12 : Array Oper := opsAt Try.f89 [1, 1, 1, 0, 1, 0, 0, 1, 1, 0, 0, 1, 1, 1, 0, 1, 0, 0, 1, 1, 0, 0, 1]
noncomputable def R89_13 : Array Oper := opsAt Try.f89 [1, 1, 1, 0, 1, 0, 0, 1, 1, 0, 0, 1, 1, 1, 0, 1, 0, 0, 1, 1, 1]
noncomputable def L89_1 : Code := .seq (.region 10 R89_10 false) (.seq (.cond (.tmp 30) .skip (.exit 2)) (.seq (.block 3 (.seq (.region 11 R89_11 false) (.region 12 R89_12 false))) (.region 13 R89_13 false)))
theorem lpL89_1 : loops L89_1 = 0 := rfl
noncomputable def R89_14 : Array Oper := opsAt Try.f89 [1, 1, 1, 0, 1, 0, 0, 1, 1, 0, 0, 1, 1, 1, 1]
noncomputable def M89_0 : Code := .region 14 R89_14 false
theorem lpM89_0 : loops M89_0 = 0 := rfl
noncomputable def R89_15 : Array Oper := opsAt Try.f89 [1, 1, 1, 0, 1, 0, 0, 1, 1, 1]
noncomputable def M89_1 : Code := .region 15 R89_15 false
theorem lpM89_1 : loops M89_1 = 0 := rfl
noncomputable def L89_0 : Code := .seq (.region 5 R89_5 false) (.seq (.cond (.tmp 17) .skip (.exit 0)) (.seq (.block 1 (.seq (.region 6 R89_6 false) (.seq (.region 7 R89_7 false) (.seq (.region 8 R89_8 false) (.seq (.seq (.region 9 R89_9 false) (.block 2 (.loop L89_1))) M89_0))))) M89_1))
theorem lpL89_0 : loops L89_0 = 1 := rfl
noncomputable def R89_16 : Array Oper := opsAt Try.f89 [1, 1, 1, 1, 0]
noncomputable def M89_2 : Code := .seq (.region 16 R89_16 false) .ret
theorem lpM89_2 : loops M89_2 = 0 := rfl
theorem code89 : Try.f89.body = some (.seq (.region 0 R89_0 false) (.seq (.seq (.region 1 R89_1 false) (.cond (.tmp 13) (.seq (.region 2 R89_2 false) .ret) .skip)) (.seq (.region 3 R89_3 false) (.seq (.seq (.region 4 R89_4 false) (.block 0 (.loop L89_0))) M89_2)))) := by kernel_rfl
noncomputable def R90_0 : Array Oper := opsAt Try.f90 [0]
noncomputable def R90_1 : Array Oper := opsAt Try.f90 [1, 0, 0]
noncomputable def R90_2 : Array Oper := opsAt Try.f90 [1, 0, 1, 0, 0]
noncomputable def R90_3 : Array Oper := opsAt Try.f90 [1, 1, 0]
theorem code90 : Try.f90.body = some (.seq (.region 0 R90_0 false) (.seq (.seq (.region 1 R90_1 false) (.cond (.tmp 6) (.seq (.region 2 R90_2 false) .ret) .skip)) (.seq (.region 3 R90_3 false) .ret))) := by kernel_rfl
noncomputable def R91_0 : Array Oper := opsAt Try.f91 [0]
noncomputable def R91_1 : Array Oper := opsAt Try.f91 [1, 0, 0]
noncomputable def R91_2 : Array Oper := opsAt Try.f91 [1, 0, 1, 0, 0, 0, 0]
noncomputable def R91_4 : Array Oper := opsAt Try.f91 [1, 0, 1, 0, 0, 1, 0, 0, 0]
noncomputable def R91_5 : Array Oper := opsAt Try.f91 [1, 0, 1, 0, 0, 1, 0, 0, 1, 0, 0]
noncomputable def R91_3 : Array Oper := opsAt Try.f91 [1, 0, 1, 0, 0, 1, 1]
noncomputable def L91_0 : Code := .seq (.seq (.region 2 R91_2 false) (.cond (.tmp 9) .skip (.exit 0))) (.seq (.block 1 (.seq (.region 4 R91_4 false) (.cond (.tmp 17) (.seq (.region 5 R91_5 false) .ret) .skip))) (.region 3 R91_3 false))
theorem lpL91_0 : loops L91_0 = 0 := rfl
noncomputable def R91_6 : Array Oper := opsAt Try.f91 [1, 1, 0]
noncomputable def M91_0 : Code := .seq (.region 6 R91_6 false) .ret
theorem lpM91_0 : loops M91_0 = 0 := rfl
theorem code91 : Try.f91.body = some (.seq (.region 0 R91_0 false) (.seq (.seq (.region 1 R91_1 false) (.block 0 (.loop L91_0))) M91_0)) := by kernel_rfl
noncomputable def R92_0 : Array Oper := opsAt Try.f92 [0]
noncomputable def R92_1 : Array Oper := opsAt Try.f92 [1, 0]
noncomputable def R92_2 : Array Oper := opsAt Try.f92 [1, 1, 0, 0]
noncomputable def R92_3 : Array Oper := opsAt Try.f92 [1, 1, 0, 1, 0, 0]
noncomputable def R92_4 : Array Oper := opsAt Try.f92 [1, 1, 1, 0]
theorem code92 : Try.f92.body = some (.seq (.region 0 R92_0 false) (.seq (.region 1 R92_1 false) (.seq (.seq (.region 2 R92_2 false) (.cond (.tmp 10) (.seq (.region 3 R92_3 false) .ret) .skip)) (.seq (.region 4 R92_4 false) .ret)))) := by kernel_rfl
noncomputable def R93_0 : Array Oper := opsAt Try.f93 [0]
noncomputable def R93_1 : Array Oper := opsAt Try.f93 [1, 0, 0]
noncomputable def R93_2 : Array Oper := opsAt Try.f93 [1, 0, 1, 0, 0]
noncomputable def R93_3 : Array Oper := opsAt Try.f93 [1, 1, 0, 0]
noncomputable def R93_4 : Array Oper := opsAt Try.f93 [1, 1, 0, 1, 0, 0, 0, 0]
noncomputable def R93_6 : Array Oper := opsAt Try.f93 [1, 1, 0, 1, 0, 0, 1, 0, 0, 0]
noncomputable def R93_7 : Array Oper := opsAt Try.f93 [1, 1, 0, 1, 0, 0, 1, 0, 0, 1, 0, 0]
noncomputable def R93_5 : Array Oper := opsAt Try.f93 [1, 1, 0, 1, 0, 0, 1, 1]
noncomputable def L93_0 : Code := .seq (.seq (.region 4 R93_4 false) (.cond (.tmp 25) .skip (.exit 0))) (.seq (.block 1 (.seq (.region 6 R93_6 false) (.cond (.tmp 34) (.seq (.region 7 R93_7 false) .ret) .skip))) (.region 5 R93_5 false))
theorem lpL93_0 : loops L93_0 = 0 := rfl
noncomputable def R93_8 : Array Oper := opsAt Try.f93 [1, 1, 1, 0]
noncomputable def M93_0 : Code := .seq (.region 8 R93_8 false) .ret
theorem lpM93_0 : loops M93_0 = 0 := rfl
theorem code93 : Try.f93.body = some (.seq (.region 0 R93_0 false) (.seq (.seq (.region 1 R93_1 false) (.cond (.tmp 20) (.seq (.region 2 R93_2 false) .ret) .skip)) (.seq (.seq (.region 3 R93_3 false) (.block 0 (.loop L93_0))) M93_0))) := by kernel_rfl
noncomputable def R94_0 : Array Oper := opsAt Try.f94 [0]
noncomputable def R94_1 : Array Oper := opsAt Try.f94 [1, 0]
theorem code94 : Try.f94.body = some (.seq (.region 0 R94_0 false) (.seq (.region 1 R94_1 false) .ret)) := by kernel_rfl
noncomputable def R97_0 : Array Oper := opsAt Try.f97 [0]
noncomputable def R97_1 : Array Oper := opsAt Try.f97 [1, 0]
noncomputable def R97_2 : Array Oper := opsAt Try.f97 [1, 1, 0, 0]
noncomputable def R97_3 : Array Oper := opsAt Try.f97 [1, 1, 0, 1, 0, 0, 0, 0]
noncomputable def R97_5 : Array Oper := opsAt Try.f97 [1, 1, 0, 1, 0, 0, 1, 0, 0]
noncomputable def R97_4 : Array Oper := opsAt Try.f97 [1, 1, 0, 1, 0, 0, 1, 1]
noncomputable def L97_0 : Code := .seq (.seq (.region 3 R97_3 false) (.cond (.tmp 11) .skip (.exit 0))) (.seq (.block 1 (.region 5 R97_5 false)) (.region 4 R97_4 false))
theorem lpL97_0 : loops L97_0 = 0 := rfl
noncomputable def R97_6 : Array Oper := opsAt Try.f97 [1, 1, 1, 0]
noncomputable def M97_0 : Code := .seq (.region 6 R97_6 false) .ret
theorem lpM97_0 : loops M97_0 = 0 := rfl
theorem code97 : Try.f97.body = some (.seq (.region 0 R97_0 false) (.seq (.region 1 R97_1 false) (.seq (.seq (.region 2 R97_2 false) (.block 0 (.loop L97_0))) M97_0))) := by kernel_rfl
noncomputable def R98_0 : Array Oper := opsAt Try.f98 [0]
noncomputable def R98_1 : Array Oper := opsAt Try.f98 [1, 0]
theorem code98 : Try.f98.body = some (.seq (.region 0 R98_0 false) (.seq (.region 1 R98_1 false) .ret)) := by kernel_rfl
noncomputable def R103_0 : Array Oper := opsAt Try.f103 [0]
noncomputable def R103_1 : Array Oper := opsAt Try.f103 [1, 0]
theorem code103 : Try.f103.body = some (.seq (.region 0 R103_0 false) (.seq (.region 1 R103_1 false) .ret)) := by kernel_rfl
noncomputable def R104_0 : Array Oper := opsAt Try.f104 [0]
noncomputable def R104_1 : Array Oper := opsAt Try.f104 [1, 0, 0]
noncomputable def R104_2 : Array Oper := opsAt Try.f104 [1, 0, 1, 0, 0]
noncomputable def R104_3 : Array Oper := opsAt Try.f104 [1, 1, 0]
noncomputable def R104_4 : Array Oper := opsAt Try.f104 [1, 1, 1, 0, 0]
noncomputable def R104_5 : Array Oper := opsAt Try.f104 [1, 1, 1, 0, 1, 0]
noncomputable def R104_6 : Array Oper := opsAt Try.f104 [1, 1, 1, 1, 0]
theorem code104 : Try.f104.body = some (.seq (.region 0 R104_0 false) (.seq (.seq (.region 1 R104_1 false) (.cond (.tmp 7) (.seq (.region 2 R104_2 false) .ret) .skip)) (.seq (.region 3 R104_3 false) (.seq (.seq (.region 4 R104_4 false) (.cond (.tmp 11) (.region 5 R104_5 false) .skip)) (.seq (.region 6 R104_6 false) .ret))))) := by kernel_rfl
noncomputable def R111_0 : Array Oper := opsAt Try.f111 [0]
noncomputable def R111_1 : Array Oper := opsAt Try.f111 [1, 0]
theorem code111 : Try.f111.body = some (.seq (.region 0 R111_0 false) (.seq (.region 1 R111_1 false) .ret)) := by kernel_rfl
noncomputable def R115_0 : Array Oper := opsAt Try.f115 [0]
noncomputable def R115_1 : Array Oper := opsAt Try.f115 [1, 0]
noncomputable def R115_2 : Array Oper := opsAt Try.f115 [1, 1, 0, 0]
noncomputable def R115_3 : Array Oper := opsAt Try.f115 [1, 1, 0, 1, 0, 0, 0, 0]
noncomputable def R115_5 : Array Oper := opsAt Try.f115 [1, 1, 0, 1, 0, 0, 1, 0, 0]
noncomputable def R115_4 : Array Oper := opsAt Try.f115 [1, 1, 0, 1, 0, 0, 1, 1]
noncomputable def L115_0 : Code := .seq (.seq (.region 3 R115_3 false) (.cond (.tmp 16) .skip (.exit 0))) (.seq (.block 1 (.region 5 R115_5 false)) (.region 4 R115_4 false))
theorem lpL115_0 : loops L115_0 = 0 := rfl
noncomputable def R115_6 : Array Oper := opsAt Try.f115 [1, 1, 1, 0]
noncomputable def M115_0 : Code := .seq (.region 6 R115_6 false) .ret
theorem lpM115_0 : loops M115_0 = 0 := rfl
theorem code115 : Try.f115.body = some (.seq (.region 0 R115_0 false) (.seq (.region 1 R115_1 false) (.seq (.seq (.region 2 R115_2 false) (.block 0 (.loop L115_0))) M115_0))) := by kernel_rfl
noncomputable def R120_0 : Array Oper := opsAt Try.f120 [0]
noncomputable def R120_1 : Array Oper := opsAt Try.f120 [1, 0]
theorem code120 : Try.f120.body = some (.seq (.region 0 R120_0 false) (.seq (.region 1 R120_1 false) .ret)) := by kernel_rfl
noncomputable def R121_0 : Array Oper := opsAt Try.f121 [0]
noncomputable def R121_1 : Array Oper := opsAt Try.f121 [1, 0]
theorem code121 : Try.f121.body = some (.seq (.region 0 R121_0 false) (.seq (.region 1 R121_1 false) .ret)) := by kernel_rfl
noncomputable def R122_0 : Array Oper := opsAt Try.f122 [0]
noncomputable def R122_1 : Array Oper := opsAt Try.f122 [1, 0]
theorem code122 : Try.f122.body = some (.seq (.region 0 R122_0 false) (.seq (.region 1 R122_1 false) .ret)) := by kernel_rfl
noncomputable def R128_0 : Array Oper := opsAt Try.f128 [0]
noncomputable def R128_1 : Array Oper := opsAt Try.f128 [1, 0]
theorem code128 : Try.f128.body = some (.seq (.region 0 R128_0 false) (.seq (.region 1 R128_1 false) .ret)) := by kernel_rfl
noncomputable def R131_0 : Array Oper := opsAt Try.f131 [0]
noncomputable def R131_1 : Array Oper := opsAt Try.f131 [1, 0, 0]
noncomputable def R131_2 : Array Oper := opsAt Try.f131 [1, 0, 1, 0, 0]
noncomputable def R131_3 : Array Oper := opsAt Try.f131 [1, 1, 0]
noncomputable def R131_4 : Array Oper := opsAt Try.f131 [1, 1, 1, 0, 0]
noncomputable def R131_5 : Array Oper := opsAt Try.f131 [1, 1, 1, 0, 1, 0, 0, 0]
noncomputable def R131_6 : Array Oper := opsAt Try.f131 [1, 1, 1, 0, 1, 0, 0, 1, 1, 0, 0, 0]
noncomputable def R131_7 : Array Oper := opsAt Try.f131 [1, 1, 1, 0, 1, 0, 0, 1, 1, 0, 0, 1]
noncomputable def R131_8 : Array Oper := opsAt Try.f131 [1, 1, 1, 0, 1, 0, 0, 1, 1, 1]
noncomputable def L131_0 : Code := .seq (.region 5 R131_5 false) (.seq (.cond (.tmp 23) .skip (.exit 0)) (.seq (.block 1 (.seq (.region 6 R131_6 false) (.region 7 R131_7 true))) (.region 8 R131_8 false)))
theorem lpL131_0 : loops L131_0 = 0 := rfl
noncomputable def R131_9 : Array Oper := opsAt Try.f131 [1, 1, 1, 1, 0]
noncomputable def M131_0 : Code := .seq (.region 9 R131_9 false) .ret
theorem lpM131_0 : loops M131_0 = 0 := rfl
theorem code131 : Try.f131.body = some (.seq (.region 0 R131_0 false) (.seq (.seq (.region 1 R131_1 false) (.cond (.tmp 15) (.seq (.region 2 R131_2 false) .ret) .skip)) (.seq (.region 3 R131_3 false) (.seq (.seq (.region 4 R131_4 false) (.block 0 (.loop L131_0))) M131_0)))) := by kernel_rfl
noncomputable def R132_0 : Array Oper := opsAt Try.f132 [0]
noncomputable def R132_1 : Array Oper := opsAt Try.f132 [1, 0, 0, 0]
noncomputable def R132_2 : Array Oper := opsAt Try.f132 [1, 0, 0, 1, 0, 0]
noncomputable def R132_3 : Array Oper := opsAt Try.f132 [1, 0, 0, 1, 1, 0]
noncomputable def R132_4 : Array Oper := opsAt Try.f132 [1, 0, 0, 1, 1, 1, 0, 0]
noncomputable def R132_5 : Array Oper := opsAt Try.f132 [1, 0, 0, 1, 1, 1, 1, 0]
noncomputable def R132_6 : Array Oper := opsAt Try.f132 [1, 0, 0, 1, 1, 1, 1, 1, 0, 0]
noncomputable def R132_7 : Array Oper := opsAt Try.f132 [1, 0, 0, 1, 1, 1, 1, 1, 1, 0]
noncomputable def R132_8 : Array Oper := opsAt Try.f132 [1, 0, 0, 1, 1, 1, 1, 1, 1, 1, 0, 0]
noncomputable def R132_9 : Array Oper := opsAt Try.f132 [1, 1, 0]
theorem code132 : Try.f132.body = some (.seq (.region 0 R132_0 false) (.seq (.block 0 (.seq (.region 1 R132_1 false) (.cond (.tmp 6) (.seq (.region 2 R132_2 false) .ret) (.seq (.region 3 R132_3 false) (.cond (.tmp 13) (.seq (.region 4 R132_4 false) .ret) (.seq (.region 5 R132_5 false) (.cond (.tmp 20) (.seq (.region 6 R132_6 false) .ret) (.seq (.region 7 R132_7 false) (.cond (.tmp 27) (.seq (.region 8 R132_8 false) .ret) .skip))))))))) (.seq (.region 9 R132_9 false) .ret))) := by kernel_rfl
noncomputable def R133_0 : Array Oper := opsAt Try.f133 [0]
noncomputable def R133_1 : Array Oper := opsAt Try.f133 [1, 0, 0]
noncomputable def R133_2 : Array Oper := opsAt Try.f133 [1, 0, 1, 0, 0]
noncomputable def R133_3 : Array Oper := opsAt Try.f133 [1, 1, 0]
theorem code133 : Try.f133.body = some (.seq (.region 0 R133_0 false) (.seq (.seq (.region 1 R133_1 false) (.cond (.tmp 5) (.seq (.region 2 R133_2 false) .ret) .skip)) (.seq (.region 3 R133_3 false) .ret))) := by kernel_rfl
noncomputable def R134_0 : Array Oper := opsAt Try.f134 [0]
noncomputable def R134_1 : Array Oper := opsAt Try.f134 [1, 0]
theorem code134 : Try.f134.body = some (.seq (.region 0 R134_0 false) (.seq (.region 1 R134_1 false) .ret)) := by kernel_rfl
noncomputable def R135_0 : Array Oper := opsAt Try.f135 [0]
noncomputable def R135_1 : Array Oper := opsAt Try.f135 [1, 0]
noncomputable def R135_2 : Array Oper := opsAt Try.f135 [1, 1, 0]
noncomputable def R135_3 : Array Oper := opsAt Try.f135 [1, 1, 1, 0, 0]
noncomputable def R135_4 : Array Oper := opsAt Try.f135 [1, 1, 1, 0, 1, 0, 0, 0, 0]
noncomputable def R135_6 : Array Oper := opsAt Try.f135 [1, 1, 1, 0, 1, 0, 0, 1, 0, 0, 0, 0]
noncomputable def R135_7 : Array Oper := opsAt Try.f135 [1, 1, 1, 0, 1, 0, 0, 1, 0, 0, 0, 1, 0, 0]
noncomputable def R135_8 : Array Oper := opsAt Try.f135 [1, 1, 1, 0, 1, 0, 0, 1, 0, 0, 1, 0]
noncomputable def R135_9 : Array Oper := opsAt Try.f135 [1, 1, 1, 0, 1, 0, 0, 1, 0, 0, 1, 1]
noncomputable def R135_5 : Array Oper := opsAt Try.f135 [1, 1, 1, 0, 1, 0, 0, 1, 1]
noncomputable def L135_0 : Code := .seq (.seq (.region 4 R135_4 false) (.cond (.tmp 17) .skip (.exit 0))) (.seq (.block 1 (.seq (.seq (.region 6 R135_6 false) (.cond (.tmp 33) (.seq (.region 7 R135_7 false) (.exit 1)) .skip)) (.seq (.region 8 R135_8 true) (.region 9 R135_9 false)))) (.region 5 R135_5 false))
theorem lpL135_0 : loops L135_0 = 0 := rfl
noncomputable def R135_10 : Array Oper := opsAt Try.f135 [1, 1, 1, 1, 0]
noncomputable def M135_0 : Code := .seq (.region 10 R135_10 false) .ret
theorem lpM135_0 : loops M135_0 = 0 := rfl
theorem code135 : Try.f135.body = some (.seq (.region 0 R135_0 false) (.seq (.region 1 R135_1 false) (.seq (.region 2 R135_2 false) (.seq (.seq (.region 3 R135_3 false) (.block 0 (.loop L135_0))) M135_0)))) := by kernel_rfl
noncomputable def R136_0 : Array Oper := opsAt Try.f136 [0]
noncomputable def R136_1 : Array Oper := opsAt Try.f136 [1, 0, 0]
noncomputable def R136_2 : Array Oper := opsAt Try.f136 [1, 0, 1, 0, 0]
noncomputable def R136_3 : Array Oper := opsAt Try.f136 [1, 1, 0]
noncomputable def R136_4 : Array Oper := opsAt Try.f136 [1, 1, 1, 0, 0]
noncomputable def R136_5 : Array Oper := opsAt Try.f136 [1, 1, 1, 0, 1, 0, 0, 0]
noncomputable def R136_6 : Array Oper := opsAt Try.f136 [1, 1, 1, 0, 1, 0, 0, 1, 1, 0, 0, 0]
noncomputable def R136_7 : Array Oper := opsAt Try.f136 [1, 1, 1, 0, 1, 0, 0, 1, 1, 0, 0, 1, 0]
noncomputable def R136_8 : Array Oper := opsAt Try.f136 [1, 1, 1, 0, 1, 0, 0, 1, 1, 0, 0, 1, 1, 0]
noncomputable def R136_9 : Array Oper := opsAt Try.f136 [1, 1, 1, 0, 1, 0, 0, 1, 1, 1]
noncomputable def L136_0 : Code := .seq (.region 5 R136_5 false) (.seq (.cond (.tmp 19) .skip (.exit 0)) (.seq (.block 1 (.seq (.region 6 R136_6 false) (.seq (.region 7 R136_7 false) (.cond (.tmp 24) (.region 8 R136_8 true) .skip)))) (.region 9 R136_9 false)))
theorem lpL136_0 : loops L136_0 = 0 := rfl
noncomputable def R136_10 : Array Oper := opsAt Try.f136 [1, 1, 1, 1, 0]
noncomputable def M136_0 : Code := .seq (.region 10 R136_10 false) .ret
theorem lpM136_0 : loops M136_0 = 0 := rfl
theorem code136 : Try.f136.body = some (.seq (.region 0 R136_0 false) (.seq (.seq (.region 1 R136_1 false) (.cond (.tmp 11) (.seq (.region 2 R136_2 false) .ret) .skip)) (.seq (.region 3 R136_3 false) (.seq (.seq (.region 4 R136_4 false) (.block 0 (.loop L136_0))) M136_0)))) := by kernel_rfl
noncomputable def R140_0 : Array Oper := opsAt Try.f140 [0]
noncomputable def R140_1 : Array Oper := opsAt Try.f140 [1, 0]
noncomputable def R140_2 : Array Oper := opsAt Try.f140 [1, 1, 0, 0]
noncomputable def R140_3 : Array Oper := opsAt Try.f140 [1, 1, 0, 1, 0, 0, 0, 0]
noncomputable def R140_6 : Array Oper := opsAt Try.f140 [1, 1, 0, 1, 0, 0, 1, 0, 0, 0, 0]
noncomputable def R140_7 : Array Oper := opsAt Try.f140 [1, 1, 0, 1, 0, 0, 1, 0, 0, 0, 1, 1, 0]
noncomputable def R140_8 : Array Oper := opsAt Try.f140 [1, 1, 0, 1, 0, 0, 1, 0, 0, 0, 1, 1, 1, 0]
noncomputable def R140_5 : Array Oper := opsAt Try.f140 [1, 1, 0, 1, 0, 0, 1, 0, 0, 0, 1, 1, 1, 1]
noncomputable def R140_4 : Array Oper := opsAt Try.f140 [1, 1, 0, 1, 0, 0, 1, 1]
noncomputable def L140_0 : Code := .seq (.seq (.region 3 R140_3 false) (.cond (.tmp 13) .skip (.exit 0))) (.seq (.block 1 (.block 2 (.seq (.region 6 R140_6 false) (.cond (.tmp 20) .skip (.seq (.region 7 R140_7 false) (.cond (.tmp 27) (.region 8 R140_8 false) (.region 5 R140_5 false))))))) (.region 4 R140_4 false))
theorem lpL140_0 : loops L140_0 = 0 := rfl
noncomputable def R140_9 : Array Oper := opsAt Try.f140 [1, 1, 1, 0]
noncomputable def M140_0 : Code := .seq (.region 9 R140_9 false) .ret
theorem lpM140_0 : loops M140_0 = 0 := rfl
theorem code140 : Try.f140.body = some (.seq (.region 0 R140_0 false) (.seq (.region 1 R140_1 false) (.seq (.seq (.region 2 R140_2 false) (.block 0 (.loop L140_0))) M140_0))) := by kernel_rfl
noncomputable def R142_0 : Array Oper := opsAt Try.f142 [0]
noncomputable def R142_1 : Array Oper := opsAt Try.f142 [1, 0]
theorem code142 : Try.f142.body = some (.seq (.region 0 R142_0 false) (.seq (.region 1 R142_1 true) .ret)) := by kernel_rfl
noncomputable def R144_0 : Array Oper := opsAt Try.f144 [0]
noncomputable def R144_1 : Array Oper := opsAt Try.f144 [1, 0, 0]
noncomputable def R144_2 : Array Oper := opsAt Try.f144 [1, 0, 1, 0, 0, 0]
noncomputable def R144_3 : Array Oper := opsAt Try.f144 [1, 0, 1, 0, 0, 1, 1, 0, 0, 0]
noncomputable def R144_4 : Array Oper := opsAt Try.f144 [1, 0, 1, 0, 0, 1, 1, 0, 0, 1, 0]
noncomputable def R144_5 : Array Oper := opsAt Try.f144 [1, 0, 1, 0, 0, 1, 1, 0, 0, 1, 1, 0, 0]
noncomputable def R144_6 : Array Oper := opsAt Try.f144 [1, 0, 1, 0, 0, 1, 1, 1]
noncomputable def L144_0 : Code := .seq (.region 2 R144_2 false) (.seq (.cond (.tmp 8) .skip (.exit 0)) (.seq (.block 1 (.seq (.region 3 R144_3 false) (.seq (.region 4 R144_4 true) (.cond (.tmp 21) (.seq (.region 5 R144_5 false) .ret) .skip)))) (.region 6 R144_6 false)))
theorem lpL144_0 : loops L144_0 = 0 := rfl
noncomputable def R144_7 : Array Oper := opsAt Try.f144 [1, 1, 0]
noncomputable def M144_0 : Code := .seq (.region 7 R144_7 false) .ret
theorem lpM144_0 : loops M144_0 = 0 := rfl
theorem code144 : Try.f144.body = some (.seq (.region 0 R144_0 false) (.seq (.seq (.region 1 R144_1 false) (.block 0 (.loop L144_0))) M144_0)) := by kernel_rfl
noncomputable def R145_0 : Array Oper := opsAt Try.f145 [0]
noncomputable def R145_1 : Array Oper := opsAt Try.f145 [1, 0]
theorem code145 : Try.f145.body = some (.seq (.region 0 R145_0 false) (.seq (.region 1 R145_1 true) .ret)) := by kernel_rfl
noncomputable def R147_0 : Array Oper := opsAt Try.f147 [0]
noncomputable def R147_1 : Array Oper := opsAt Try.f147 [1, 0, 0]
noncomputable def R147_2 : Array Oper := opsAt Try.f147 [1, 0, 1, 0, 0]
noncomputable def R147_3 : Array Oper := opsAt Try.f147 [1, 1, 0]
theorem code147 : Try.f147.body = some (.seq (.region 0 R147_0 false) (.seq (.seq (.region 1 R147_1 false) (.cond (.tmp 7) (.seq (.region 2 R147_2 false) .ret) .skip)) (.seq (.region 3 R147_3 false) .ret))) := by kernel_rfl
noncomputable def R148_0 : Array Oper := opsAt Try.f148 [0]
noncomputable def R148_1 : Array Oper := opsAt Try.f148 [1, 0, 0]
noncomputable def R148_2 : Array Oper := opsAt Try.f148 [1, 0, 1, 0, 0]
noncomputable def R148_3 : Array Oper := opsAt Try.f148 [1, 1, 0]
theorem code148 : Try.f148.body = some (.seq (.region 0 R148_0 false) (.seq (.seq (.region 1 R148_1 false) (.cond (.tmp 7) (.seq (.region 2 R148_2 false) .ret) .skip)) (.seq (.region 3 R148_3 false) .ret))) := by kernel_rfl
noncomputable def R151_0 : Array Oper := opsAt Try.f151 [0]
noncomputable def R151_1 : Array Oper := opsAt Try.f151 [1, 0]
noncomputable def R151_2 : Array Oper := opsAt Try.f151 [1, 1, 0, 0]
noncomputable def R151_3 : Array Oper := opsAt Try.f151 [1, 1, 0, 1, 0, 0]
noncomputable def R151_4 : Array Oper := opsAt Try.f151 [1, 1, 1, 0, 0]
noncomputable def R151_5 : Array Oper := opsAt Try.f151 [1, 1, 1, 0, 1, 0, 0, 0, 0]
noncomputable def R151_7 : Array Oper := opsAt Try.f151 [1, 1, 1, 0, 1, 0, 0, 1, 0, 0, 0]
noncomputable def R151_8 : Array Oper := opsAt Try.f151 [1, 1, 1, 0, 1, 0, 0, 1, 0, 0, 1, 0, 0]
noncomputable def R151_9 : Array Oper := opsAt Try.f151 [1, 1, 1, 0, 1, 0, 0, 1, 0, 0, 1, 0, 1, 0, 0]
noncomputable def R151_10 : Array Oper := opsAt Try.f151 [1, 1, 1, 0, 1, 0, 0, 1, 0, 0, 1, 1]
noncomputable def R151_6 : Array Oper := opsAt Try.f151 [1, 1, 1, 0, 1, 0, 0, 1, 1]
noncomputable def L151_0 : Code := .seq (.seq (.region 5 R151_5 false) (.cond (.tmp 12) .skip (.exit 0))) (.seq (.block 1 (.seq (.region 7 R151_7 false) (.seq (.seq (.region 8 R151_8 false) (.cond (.tmp 26) (.seq (.region 9 R151_9 false) .ret) .skip)) (.region 10 R151_10 false)))) (.region 6 R151_6 false))
theorem lpL151_0 : loops L151_0 = 0 := rfl
noncomputable def R151_11 : Array Oper := opsAt Try.f151 [1, 1, 1, 1, 0]
noncomputable def M151_0 : Code := .seq (.region 11 R151_11 false) .ret
theorem lpM151_0 : loops M151_0 = 0 := rfl
theorem code151 : Try.f151.body = some (.seq (.region 0 R151_0 false) (.seq (.region 1 R151_1 false) (.seq (.seq (.region 2 R151_2 false) (.cond (.tmp 8) (.seq (.region 3 R151_3 false) .ret) .skip)) (.seq (.seq (.region 4 R151_4 false) (.block 0 (.loop L151_0))) M151_0)))) := by kernel_rfl
noncomputable def R153_0 : Array Oper := opsAt Try.f153 [0]
noncomputable def R153_1 : Array Oper := opsAt Try.f153 [1, 0]
noncomputable def R153_2 : Array Oper := opsAt Try.f153 [1, 1, 0]
noncomputable def R153_3 : Array Oper := opsAt Try.f153 [1, 1, 1, 0]
noncomputable def R153_4 : Array Oper := opsAt Try.f153 [1, 1, 1, 1, 0]
theorem code153 : Try.f153.body = some (.seq (.region 0 R153_0 false) (.seq (.region 1 R153_1 false) (.seq (.region 2 R153_2 false) (.seq (.region 3 R153_3 false) (.seq (.region 4 R153_4 false) .ret))))) := by kernel_rfl
noncomputable def R154_0 : Array Oper := opsAt Try.f154 [0]
noncomputable def R154_1 : Array Oper := opsAt Try.f154 [1, 0, 0]
noncomputable def R154_2 : Array Oper := opsAt Try.f154 [1, 0, 1, 0, 0]
noncomputable def R154_3 : Array Oper := opsAt Try.f154 [1, 1, 0]
noncomputable def R154_4 : Array Oper := opsAt Try.f154 [1, 1, 1, 0, 0]
noncomputable def R154_5 : Array Oper := opsAt Try.f154 [1, 1, 1, 0, 1, 0, 0, 0]
noncomputable def R154_6 : Array Oper := opsAt Try.f154 [1, 1, 1, 0, 1, 0, 0, 1, 1, 0, 0, 0]
noncomputable def R154_7 : Array Oper := opsAt Try.f154 [1, 1, 1, 0, 1, 0, 0, 1, 1, 0, 0, 1, 0]
noncomputable def R154_8 : Array Oper := opsAt Try.f154 [1, 1, 1, 0, 1, 0, 0, 1, 1, 0, 0, 1, 1, 0, 0]
noncomputable def R154_9 : Array Oper := opsAt Try.f154 [1, 1, 1, 0, 1, 0, 0, 1, 1, 0, 0, 1, 1, 0, 1, 0, 0]
noncomputable def R154_10 : Array Oper := opsAt Try.f154 [1, 1, 1, 0, 1, 0, 0, 1, 1, 0, 0, 1, 1, 1]
noncomputable def R154_11 : Array Oper := opsAt Try.f154 [1, 1, 1, 0, 1, 0, 0, 1, 1, 1]
noncomputable def L154_0 : Code := .seq (.region 5 R154_5 false) (.seq (.cond (.tmp 12) .skip (.exit 0)) (.seq (.block 1 (.seq (.region 6 R154_6 false) (.seq (.region 7 R154_7 false) (.seq (.seq (.region 8 R154_8 false) (.cond (.tmp 25) (.seq (.region 9 R154_9 false) .ret) .skip)) (.region 10 R154_10 false))))) (.region 11 R154_11 false)))
theorem lpL154_0 : loops L154_0 = 0 := rfl
noncomputable def R154_12 : Array Oper := opsAt Try.f154 [1, 1, 1, 1, 0]
noncomputable def M154_0 : Code := .seq (.region 12 R154_12 false) .ret
theorem lpM154_0 : loops M154_0 = 0 := rfl
theorem code154 : Try.f154.body = some (.seq (.region 0 R154_0 false) (.seq (.seq (.region 1 R154_1 false) (.cond (.tmp 8) (.seq (.region 2 R154_2 false) .ret) .skip)) (.seq (.region 3 R154_3 false) (.seq (.seq (.region 4 R154_4 false) (.block 0 (.loop L154_0))) M154_0)))) := by kernel_rfl
noncomputable def R158_0 : Array Oper := opsAt Try.f158 [0]
noncomputable def R158_1 : Array Oper := opsAt Try.f158 [1, 0, 0, 0]
noncomputable def R158_2 : Array Oper := opsAt Try.f158 [1, 0, 0, 1, 0, 0]
noncomputable def R158_3 : Array Oper := opsAt Try.f158 [1, 0, 0, 1, 1, 0]
noncomputable def R158_4 : Array Oper := opsAt Try.f158 [1, 0, 0, 1, 1, 1, 0, 0]
noncomputable def R158_5 : Array Oper := opsAt Try.f158 [1, 1, 0]
theorem code158 : Try.f158.body = some (.seq (.region 0 R158_0 false) (.seq (.block 0 (.seq (.region 1 R158_1 false) (.cond (.tmp 3) (.seq (.region 2 R158_2 false) .ret) (.seq (.region 3 R158_3 false) (.cond (.tmp 7) (.seq (.region 4 R158_4 false) .ret) .skip))))) (.seq (.region 5 R158_5 false) .ret))) := by kernel_rfl
noncomputable def R159_0 : Array Oper := opsAt Try.f159 [0]
noncomputable def R159_1 : Array Oper := opsAt Try.f159 [1, 0, 0]
noncomputable def R159_2 : Array Oper := opsAt Try.f159 [1, 0, 1, 0, 0]
noncomputable def R159_3 : Array Oper := opsAt Try.f159 [1, 1, 0, 0]
noncomputable def R159_4 : Array Oper := opsAt Try.f159 [1, 1, 0, 1, 0, 0]
noncomputable def R159_5 : Array Oper := opsAt Try.f159 [1, 1, 1, 0]
theorem code159 : Try.f159.body = some (.seq (.region 0 R159_0 false) (.seq (.seq (.region 1 R159_1 false) (.cond (.tmp 9) (.seq (.region 2 R159_2 false) .ret) .skip)) (.seq (.seq (.region 3 R159_3 false) (.cond (.tmp 14) (.seq (.region 4 R159_4 false) .ret) .skip)) (.seq (.region 5 R159_5 false) .ret)))) := by kernel_rfl
noncomputable def R160_0 : Array Oper := opsAt Try.f160 [0]
noncomputable def R160_1 : Array Oper := opsAt Try.f160 [1, 0]
noncomputable def R160_2 : Array Oper := opsAt Try.f160 [1, 1, 0, 0, 0, 0, 0]
noncomputable def R160_3 : Array Oper := opsAt Try.f160 [1, 1, 0, 0, 0, 1, 0]
noncomputable def L160_0 : Code := .seq (.seq (.region 2 R160_2 false) (.cond (.tmp 17) .skip (.exit 0))) (.block 1 (.region 3 R160_3 false))
theorem lpL160_0 : loops L160_0 = 0 := rfl
noncomputable def R160_4 : Array Oper := opsAt Try.f160 [1, 1, 1, 0, 0]
noncomputable def R160_5 : Array Oper := opsAt Try.f160 [1, 1, 1, 0, 1, 0, 0]
noncomputable def R160_6 : Array Oper := opsAt Try.f160 [1, 1, 1, 1, 0]
noncomputable def M160_0 : Code := .seq (.seq (.region 4 R160_4 false) (.cond (.tmp 31) (.seq (.region 5 R160_5 false) .ret) .skip)) (.seq (.region 6 R160_6 true) .ret)
theorem lpM160_0 : loops M160_0 = 0 := rfl
theorem code160 : Try.f160.body = some (.seq (.region 0 R160_0 false) (.seq (.region 1 R160_1 false) (.seq (.block 0 (.loop L160_0)) M160_0))) := by kernel_rfl
noncomputable def R161_0 : Array Oper := opsAt Try.f161 [0]
noncomputable def R161_1 : Array Oper := opsAt Try.f161 [1]
theorem code161 : Try.f161.body = some (.seq (.region 0 R161_0 false) (.region 1 R161_1 false)) := by kernel_rfl
noncomputable def R162_0 : Array Oper := opsAt Try.f162 [0]
noncomputable def R162_1 : Array Oper := opsAt Try.f162 [1, 0, 0]
noncomputable def R162_2 : Array Oper := opsAt Try.f162 [1, 0, 1, 0, 0]
noncomputable def R162_3 : Array Oper := opsAt Try.f162 [1, 1, 0, 0]
noncomputable def R162_4 : Array Oper := opsAt Try.f162 [1, 1, 0, 1, 0, 0, 0, 0]
noncomputable def R162_6 : Array Oper := opsAt Try.f162 [1, 1, 0, 1, 0, 0, 1, 0, 0, 0]
noncomputable def R162_7 : Array Oper := opsAt Try.f162 [1, 1, 0, 1, 0, 0, 1, 0, 0, 1, 0, 0]
noncomputable def R162_8 : Array Oper := opsAt Try.f162 [1, 1, 0, 1, 0, 0, 1, 0, 0, 1, 0, 1, 0, 0]
noncomputable def R162_9 : Array Oper := opsAt Try.f162 [1, 1, 0, 1, 0, 0, 1, 0, 0, 1, 0, 1, 0, 1, 0, 0, 0, 0]
noncomputable def R162_11 : Array Oper := opsAt Try.f162 [1, 1, 0, 1, 0, 0, 1, 0, 0, 1, 0, 1, 0, 1, 0, 0, 1, 0, 0, 0]
noncomputable def R162_12 : Array Oper := opsAt Try.f162 [1, 1, 0, 1, 0, 0, 1, 0, 0, 1, 0, 1, 0, 1, 0, 0, 1, 0, 0, 1, 0, 0]
noncomputable def R162_13 : Array Oper := opsAt Try.f162 [1, 1, 0, 1, 0, 0, 1, 0, 0, 1, 0, 1, 0, 1, 0, 0, 1, 0, 0, 1, 0, 1]
noncomputable def R162_10 : Array Oper := opsAt Try.f162 [1, 1, 0, 1, 0, 0, 1, 0, 0, 1, 0, 1, 0, 1, 0, 0, 1, 1]
noncomputable def L162_1 : Code := .seq (.seq (.region 9 R162_9 false) (.cond (.tmp 32) .skip (.exit 2))) (.seq (.block 3 (.seq (.region 11 R162_11 true) (.cond (.tmp 44) (.seq (.region 12 R162_12 false) (.region 13 R162_13 false)) .skip))) (.region 10 R162_10 false))
theorem lpL162_1 : loops L162_1 = 0 := rfl
noncomputable def R162_14 : Array Oper := opsAt Try.f162 [1, 1, 0, 1, 0, 0, 1, 0, 0, 1, 0, 1, 1, 0]
noncomputable def R162_15 : Array Oper := opsAt Try.f162 [1, 1, 0, 1, 0, 0, 1, 0, 0, 1, 0, 1, 1, 1, 0]
noncomputable def M162_0 : Code := .seq (.region 14 R162_14 false) (.seq (.region 15 R162_15 false) .ret)
theorem lpM162_0 : loops M162_0 = 0 := rfl
noncomputable def R162_5 : Array Oper := opsAt Try.f162 [1, 1, 0, 1, 0, 0, 1, 1]
noncomputable def M162_1 : Code := .region 5 R162_5 false
theorem lpM162_1 : loops M162_1 = 0 := rfl
noncomputable def L162_0 : Code := .seq (.seq (.region 4 R162_4 false) (.cond (.tmp 13) .skip (.exit 0))) (.seq (.block 1 (.seq (.region 6 R162_6 true) (.cond (.tmp 25) (.seq (.region 7 R162_7 false) (.seq (.seq (.region 8 R162_8 false) (.block 2 (.loop L162_1))) M162_0)) .skip))) M162_1)
theorem lpL162_0 : loops L162_0 = 1 := rfl
noncomputable def R162_16 : Array Oper := opsAt Try.f162 [1, 1, 1, 0]
noncomputable def M162_2 : Code := .seq (.region 16 R162_16 false) .ret
theorem lpM162_2 : loops M162_2 = 0 := rfl
theorem code162 : Try.f162.body = some (.seq (.region 0 R162_0 false) (.seq (.seq (.region 1 R162_1 false) (.cond (.tmp 8) (.seq (.region 2 R162_2 false) .ret) .skip)) (.seq (.seq (.region 3 R162_3 false) (.block 0 (.loop L162_0))) M162_2))) := by kernel_rfl
noncomputable def R163_0 : Array Oper := opsAt Try.f163 [0]
noncomputable def R163_1 : Array Oper := opsAt Try.f163 [1, 0, 0]
noncomputable def R163_2 : Array Oper := opsAt Try.f163 [1, 0, 1, 0, 0, 0, 0]
noncomputable def R163_4 : Array Oper := opsAt Try.f163 [1, 0, 1, 0, 0, 1, 0, 0, 0]
noncomputable def R163_5 : Array Oper := opsAt Try.f163 [1, 0, 1, 0, 0, 1, 0, 0, 1, 0, 0]
noncomputable def R163_3 : Array Oper := opsAt Try.f163 [1, 0, 1, 0, 0, 1, 1]
noncomputable def L163_0 : Code := .seq (.seq (.region 2 R163_2 false) (.cond (.tmp 7) .skip (.exit 0))) (.seq (.block 1 (.seq (.region 4 R163_4 true) (.cond (.tmp 18) (.seq (.region 5 R163_5 false) .ret) .skip))) (.region 3 R163_3 false))
theorem lpL163_0 : loops L163_0 = 0 := rfl
noncomputable def R163_6 : Array Oper := opsAt Try.f163 [1, 1, 0]
noncomputable def M163_0 : Code := .seq (.region 6 R163_6 false) .ret
theorem lpM163_0 : loops M163_0 = 0 := rfl
theorem code163 : Try.f163.body = some (.seq (.region 0 R163_0 false) (.seq (.seq (.region 1 R163_1 false) (.block 0 (.loop L163_0))) M163_0)) := by kernel_rfl
noncomputable def R164_0 : Array Oper := opsAt Try.f164 [0]
noncomputable def R164_1 : Array Oper := opsAt Try.f164 [1, 0]
noncomputable def R164_2 : Array Oper := opsAt Try.f164 [1, 1, 0, 0]
noncomputable def R164_3 : Array Oper := opsAt Try.f164 [1, 1, 0, 1, 0, 0]
noncomputable def R164_4 : Array Oper := opsAt Try.f164 [1, 1, 0, 1, 0, 1, 0, 0, 0]
noncomputable def R164_5 : Array Oper := opsAt Try.f164 [1, 1, 0, 1, 0, 1, 0, 0, 1, 0, 0]
noncomputable def R164_6 : Array Oper := opsAt Try.f164 [1, 1, 0, 1, 0, 1, 0, 1, 0]
noncomputable def R164_7 : Array Oper := opsAt Try.f164 [1, 1, 0, 1, 0, 1, 1, 0]
noncomputable def R164_8 : Array Oper := opsAt Try.f164 [1, 1, 0, 1, 0, 1, 1, 1, 0, 0]
noncomputable def R164_9 : Array Oper := opsAt Try.f164 [1, 1, 0, 1, 0, 1, 1, 1, 1, 0]
noncomputable def R164_10 : Array Oper := opsAt Try.f164 [1, 1, 0, 1, 0, 1, 1, 1, 1, 1, 0, 0]
noncomputable def R164_11 : Array Oper := opsAt Try.f164 [1, 1, 0, 1, 0, 1, 1, 1, 1, 1, 0, 1, 0, 0]
noncomputable def R164_12 : Array Oper := opsAt Try.f164 [1, 1, 0, 1, 0, 1, 1, 1, 1, 1, 0, 1, 0, 1, 0, 0]
noncomputable def R164_13 : Array Oper := opsAt Try.f164 [1, 1, 0, 1, 0, 1, 1, 1, 1, 1, 0, 1, 1, 0]
noncomputable def R164_14 : Array Oper := opsAt Try.f164 [1, 1, 1, 0]
noncomputable def R164_15 : Array Oper := opsAt Try.f164 [1, 1, 1, 1, 0]
noncomputable def R164_16 : Array Oper := opsAt Try.f164 [1, 1, 1, 1, 1, 0, 0]
noncomputable def R164_17 : Array Oper := opsAt Try.f164 [1, 1, 1, 1, 1, 0, 1, 0, 0]
noncomputable def R164_18 : Array Oper := opsAt Try.f164 [1, 1, 1, 1, 1, 1, 0]
theorem code164 : Try.f164.body = some (.seq (.region 0 R164_0 false) (.seq (.region 1 R164_1 false) (.seq (.seq (.region 2 R164_2 false) (.block 0 (.seq (.region 3 R164_3 false) (.cond (.tmp 21) (.seq (.seq (.region 4 R164_4 false) (.cond (.tmp 27) (.seq (.region 5 R164_5 false) .ret) .skip)) (.seq (.region 6 R164_6 false) .ret)) (.seq (.region 7 R164_7 false) (.cond (.tmp 35) (.seq (.region 8 R164_8 true) .ret) (.seq (.region 9 R164_9 false) (.cond (.tmp 48) (.seq (.region 10 R164_10 false) (.seq (.seq (.region 11 R164_11 false) (.cond (.tmp 59) (.seq (.region 12 R164_12 false) .ret) .skip)) (.seq (.region 13 R164_13 false) .ret))) .skip)))))))) (.seq (.region 14 R164_14 false) (.seq (.region 15 R164_15 false) (.seq (.seq (.region 16 R164_16 false) (.cond (.tmp 89) (.seq (.region 17 R164_17 false) .ret) .skip)) (.seq (.region 18 R164_18 false) .ret))))))) := by kernel_rfl
noncomputable def R165_0 : Array Oper := opsAt Try.f165 [0]
noncomputable def R165_1 : Array Oper := opsAt Try.f165 [1, 0]
noncomputable def R165_2 : Array Oper := opsAt Try.f165 [1, 1, 0, 0]
noncomputable def R165_3 : Array Oper := opsAt Try.f165 [1, 1, 0, 1, 0, 0]
noncomputable def R165_4 : Array Oper := opsAt Try.f165 [1, 1, 0, 1, 0, 1, 0, 0, 0]
noncomputable def R165_5 : Array Oper := opsAt Try.f165 [1, 1, 0, 1, 0, 1, 0, 0, 1, 0, 0]
noncomputable def R165_6 : Array Oper := opsAt Try.f165 [1, 1, 0, 1, 0, 1, 0, 1, 0]
noncomputable def R165_7 : Array Oper := opsAt Try.f165 [1, 1, 0, 1, 0, 1, 1, 0]
noncomputable def R165_8 : Array Oper := opsAt Try.f165 [1, 1, 0, 1, 0, 1, 1, 1, 0, 0]
noncomputable def R165_9 : Array Oper := opsAt Try.f165 [1, 1, 0, 1, 0, 1, 1, 1, 1, 0]
noncomputable def R165_10 : Array Oper := opsAt Try.f165 [1, 1, 0, 1, 0, 1, 1, 1, 1, 1, 0, 0]
noncomputable def R165_11 : Array Oper := opsAt Try.f165 [1, 1, 1, 0]
noncomputable def R165_12 : Array Oper := opsAt Try.f165 [1, 1, 1, 1, 0]
theorem code165 : Try.f165.body = some (.seq (.region 0 R165_0 false) (.seq (.region 1 R165_1 false) (.seq (.seq (.region 2 R165_2 false) (.block 0 (.seq (.region 3 R165_3 false) (.cond (.tmp 14) (.seq (.seq (.region 4 R165_4 false) (.cond (.tmp 20) (.seq (.region 5 R165_5 false) .ret) .skip)) (.seq (.region 6 R165_6 false) .ret)) (.seq (.region 7 R165_7 false) (.cond (.tmp 28) (.seq (.region 8 R165_8 true) .ret) (.seq (.region 9 R165_9 false) (.cond (.tmp 41) (.seq (.region 10 R165_10 true) .ret) .skip)))))))) (.seq (.region 11 R165_11 false) (.seq (.region 12 R165_12 true) .ret))))) := by kernel_rfl
noncomputable def R166_0 : Array Oper := opsAt Try.f166 [0]
noncomputable def R166_1 : Array Oper := opsAt Try.f166 [1, 0]
noncomputable def R166_2 : Array Oper := opsAt Try.f166 [1, 1, 0, 0]
noncomputable def R166_3 : Array Oper := opsAt Try.f166 [1, 1, 0, 1, 0, 0]
noncomputable def R166_4 : Array Oper := opsAt Try.f166 [1, 1, 0, 1, 0, 1, 0]
noncomputable def R166_5 : Array Oper := opsAt Try.f166 [1, 1, 0, 1, 0, 1, 1, 0]
noncomputable def R166_6 : Array Oper := opsAt Try.f166 [1, 1, 0, 1, 0, 1, 1, 1, 0, 0]
noncomputable def R166_7 : Array Oper := opsAt Try.f166 [1, 1, 0, 1, 0, 1, 1, 1, 0, 1, 0]
noncomputable def R166_8 : Array Oper := opsAt Try.f166 [1, 1, 0, 1, 0, 1, 1, 1, 1, 0]
noncomputable def R166_9 : Array Oper := opsAt Try.f166 [1, 1, 0, 1, 0, 1, 1, 1, 1, 1, 0]
noncomputable def R166_10 : Array Oper := opsAt Try.f166 [1, 1, 1, 0]
theorem code166 : Try.f166.body = some (.seq (.region 0 R166_0 false) (.seq (.region 1 R166_1 false) (.seq (.seq (.region 2 R166_2 false) (.block 0 (.seq (.region 3 R166_3 false) (.cond (.tmp 8) (.region 4 R166_4 false) (.seq (.region 5 R166_5 false) (.cond (.tmp 18) (.seq (.region 6 R166_6 false) (.cond (.tmp 22) (.region 7 R166_7 false) .skip)) (.seq (.region 8 R166_8 false) (.cond (.tmp 35) (.region 9 R166_9 false) .skip)))))))) (.seq (.region 10 R166_10 false) .ret)))) := by kernel_rfl
noncomputable def R167_0 : Array Oper := opsAt Try.f167 [0]
noncomputable def R167_1 : Array Oper := opsAt Try.f167 [1, 0, 0]
noncomputable def R167_2 : Array Oper := opsAt Try.f167 [1, 0, 1, 0, 0]
noncomputable def R167_3 : Array Oper := opsAt Try.f167 [1, 0, 1, 0, 1, 0, 0]
noncomputable def R167_4 : Array Oper := opsAt Try.f167 [1, 0, 1, 0, 1, 1, 0]
noncomputable def R167_5 : Array Oper := opsAt Try.f167 [1, 0, 1, 0, 1, 1, 1, 0, 0]
noncomputable def R167_6 : Array Oper := opsAt Try.f167 [1, 1, 0]
theorem code167 : Try.f167.body = some (.seq (.region 0 R167_0 false) (.seq (.seq (.region 1 R167_1 false) (.block 0 (.seq (.region 2 R167_2 false) (.cond (.tmp 10) (.seq (.region 3 R167_3 false) .ret) (.seq (.region 4 R167_4 false) (.cond (.tmp 12) (.seq (.region 5 R167_5 false) .ret) .skip)))))) (.seq (.region 6 R167_6 false) .ret))) := by kernel_rfl
noncomputable def R168_0 : Array Oper := opsAt Try.f168 [0]
noncomputable def R168_1 : Array Oper := opsAt Try.f168 [1, 0]
theorem code168 : Try.f168.body = some (.seq (.region 0 R168_0 false) (.seq (.region 1 R168_1 false) .ret)) := by kernel_rfl
noncomputable def R169_0 : Array Oper := opsAt Try.f169 [0]
noncomputable def R169_1 : Array Oper := opsAt Try.f169 [1, 0]
noncomputable def R169_2 : Array Oper := opsAt Try.f169 [1, 1, 0, 0]
noncomputable def R169_3 : Array Oper := opsAt Try.f169 [1, 1, 0, 1, 0]
noncomputable def R169_4 : Array Oper := opsAt Try.f169 [1, 1, 1, 0]
noncomputable def R169_5 : Array Oper := opsAt Try.f169 [1, 1, 1, 1, 0]
noncomputable def R169_6 : Array Oper := opsAt Try.f169 [1, 1, 1, 1, 1, 0, 0]
noncomputable def R169_7 : Array Oper := opsAt Try.f169 [1, 1, 1, 1, 1, 0, 1, 0, 0]
noncomputable def R169_8 : Array Oper := opsAt Try.f169 [1, 1, 1, 1, 1, 1, 0]
theorem code169 : Try.f169.body = some (.seq (.region 0 R169_0 false) (.seq (.region 1 R169_1 false) (.seq (.seq (.region 2 R169_2 true) (.cond (.tmp 13) (.region 3 R169_3 true) .skip)) (.seq (.region 4 R169_4 false) (.seq (.region 5 R169_5 false) (.seq (.seq (.region 6 R169_6 true) (.cond (.tmp 53) (.seq (.region 7 R169_7 false) .ret) .skip)) (.seq (.region 8 R169_8 false) .ret))))))) := by kernel_rfl
noncomputable def R172_0 : Array Oper := opsAt Try.f172 [0]
noncomputable def R172_1 : Array Oper := opsAt Try.f172 [1, 0, 0]
noncomputable def R172_2 : Array Oper := opsAt Try.f172 [1, 0, 1, 0, 0]
noncomputable def R172_3 : Array Oper := opsAt Try.f172 [1, 1, 0]
theorem code172 : Try.f172.body = some (.seq (.region 0 R172_0 false) (.seq (.seq (.region 1 R172_1 false) (.cond (.tmp 4) (.seq (.region 2 R172_2 false) .ret) .skip)) (.seq (.region 3 R172_3 false) .ret))) := by kernel_rfl
noncomputable def R174_0 : Array Oper := opsAt Try.f174 [0]
noncomputable def R174_1 : Array Oper := opsAt Try.f174 [1, 0, 0]
noncomputable def R174_2 : Array Oper := opsAt Try.f174 [1, 0, 1, 0, 0, 0]
noncomputable def R174_3 : Array Oper := opsAt Try.f174 [1, 0, 1, 0, 0, 1, 1, 0, 0, 0]
noncomputable def R174_4 : Array Oper := opsAt Try.f174 [1, 0, 1, 0, 0, 1, 1, 0, 0, 1, 0]
noncomputable def R174_5 : Array Oper := opsAt Try.f174 [1, 0, 1, 0, 0, 1, 1, 0, 0, 1, 1, 0, 0]
noncomputable def R174_6 : Array Oper := opsAt Try.f174 [1, 0, 1, 0, 0, 1, 1, 1]
noncomputable def L174_0 : Code := .seq (.region 2 R174_2 false) (.seq (.cond (.tmp 9) .skip (.exit 0)) (.seq (.block 1 (.seq (.region 3 R174_3 false) (.seq (.region 4 R174_4 false) (.cond (.tmp 16) (.seq (.region 5 R174_5 false) .ret) .skip)))) (.region 6 R174_6 false)))
theorem lpL174_0 : loops L174_0 = 0 := rfl
noncomputable def R174_7 : Array Oper := opsAt Try.f174 [1, 1, 0]
noncomputable def M174_0 : Code := .seq (.region 7 R174_7 false) .ret
theorem lpM174_0 : loops M174_0 = 0 := rfl
theorem code174 : Try.f174.body = some (.seq (.region 0 R174_0 false) (.seq (.seq (.region 1 R174_1 false) (.block 0 (.loop L174_0))) M174_0)) := by kernel_rfl
noncomputable def R175_0 : Array Oper := opsAt Try.f175 [0]
noncomputable def R175_1 : Array Oper := opsAt Try.f175 [1, 0]
theorem code175 : Try.f175.body = some (.seq (.region 0 R175_0 false) (.seq (.region 1 R175_1 false) .ret)) := by kernel_rfl
noncomputable def R176_0 : Array Oper := opsAt Try.f176 [0]
noncomputable def R176_1 : Array Oper := opsAt Try.f176 [1, 0, 0]
noncomputable def R176_2 : Array Oper := opsAt Try.f176 [1, 0, 1, 0, 0]
noncomputable def R176_3 : Array Oper := opsAt Try.f176 [1, 1, 0]
theorem code176 : Try.f176.body = some (.seq (.region 0 R176_0 false) (.seq (.seq (.region 1 R176_1 false) (.cond (.tmp 6) (.seq (.region 2 R176_2 false) .ret) .skip)) (.seq (.region 3 R176_3 false) .ret))) := by kernel_rfl
noncomputable def R177_0 : Array Oper := opsAt Try.f177 [0]
noncomputable def R177_1 : Array Oper := opsAt Try.f177 [1, 0, 0]
noncomputable def R177_2 : Array Oper := opsAt Try.f177 [1, 0, 1, 0, 0]
noncomputable def R177_3 : Array Oper := opsAt Try.f177 [1, 0, 1, 0, 1, 0, 0]
noncomputable def R177_4 : Array Oper := opsAt Try.f177 [1, 0, 1, 0, 1, 1, 0]
noncomputable def R177_5 : Array Oper := opsAt Try.f177 [1, 0, 1, 0, 1, 1, 1, 0, 0]
noncomputable def R177_6 : Array Oper := opsAt Try.f177 [1, 0, 1, 0, 1, 1, 1, 1, 0]
noncomputable def R177_7 : Array Oper := opsAt Try.f177 [1, 0, 1, 0, 1, 1, 1, 1, 1, 0, 0]
noncomputable def R177_8 : Array Oper := opsAt Try.f177 [1, 1, 0]
theorem code177 : Try.f177.body = some (.seq (.region 0 R177_0 false) (.seq (.seq (.region 1 R177_1 false) (.block 0 (.seq (.region 2 R177_2 false) (.cond (.tmp 8) (.seq (.region 3 R177_3 false) .ret) (.seq (.region 4 R177_4 false) (.cond (.tmp 13) (.seq (.region 5 R177_5 false) .ret) (.seq (.region 6 R177_6 false) (.cond (.tmp 18) (.seq (.region 7 R177_7 false) .ret) .skip)))))))) (.seq (.region 8 R177_8 false) .ret))) := by kernel_rfl
noncomputable def R178_0 : Array Oper := opsAt Try.f178 [0]
noncomputable def R178_1 : Array Oper := opsAt Try.f178 [1, 0, 0]
noncomputable def R178_2 : Array Oper := opsAt Try.f178 [1, 0, 1, 0, 0]
noncomputable def R178_3 : Array Oper := opsAt Try.f178 [1, 1, 0]
theorem code178 : Try.f178.body = some (.seq (.region 0 R178_0 false) (.seq (.seq (.region 1 R178_1 false) (.cond (.tmp 12) (.seq (.region 2 R178_2 false) .ret) .skip)) (.seq (.region 3 R178_3 false) .ret))) := by kernel_rfl
noncomputable def R180_0 : Array Oper := opsAt Try.f180 [0]
noncomputable def R180_1 : Array Oper := opsAt Try.f180 [1, 0]
theorem code180 : Try.f180.body = some (.seq (.region 0 R180_0 false) (.seq (.region 1 R180_1 false) .ret)) := by kernel_rfl
noncomputable def R181_0 : Array Oper := opsAt Try.f181 [0]
noncomputable def R181_1 : Array Oper := opsAt Try.f181 [1, 0]
theorem code181 : Try.f181.body = some (.seq (.region 0 R181_0 false) (.seq (.region 1 R181_1 false) .ret)) := by kernel_rfl
noncomputable def R182_0 : Array Oper := opsAt Try.f182 [0]
noncomputable def R182_1 : Array Oper := opsAt Try.f182 [1, 0, 0, 0, 0]
noncomputable def R182_2 : Array Oper := opsAt Try.f182 [1, 0, 0, 0, 1, 1]
noncomputable def R182_3 : Array Oper := opsAt Try.f182 [1, 0, 0, 1, 0, 0]
noncomputable def R182_4 : Array Oper := opsAt Try.f182 [1, 0, 0, 1, 1, 0]
noncomputable def R182_5 : Array Oper := opsAt Try.f182 [1, 0, 0, 1, 1, 1, 0, 0]
noncomputable def R182_6 : Array Oper := opsAt Try.f182 [1, 0, 0, 1, 1, 1, 1, 0]
noncomputable def R182_7 : Array Oper := opsAt Try.f182 [1, 0, 0, 1, 1, 1, 1, 1, 0, 0]
noncomputable def R182_8 : Array Oper := opsAt Try.f182 [1, 1, 0]
theorem code182 : Try.f182.body = some (.seq (.region 0 R182_0 false) (.seq (.block 0 (.seq (.seq (.region 1 R182_1 false) (.cond (.tmp 3) .skip (.region 2 R182_2 false))) (.cond (.tmp 3) (.seq (.region 3 R182_3 false) .ret) (.seq (.region 4 R182_4 false) (.cond (.tmp 20) (.seq (.region 5 R182_5 false) .ret) (.seq (.region 6 R182_6 false) (.cond (.tmp 29) (.seq (.region 7 R182_7 false) .ret) .skip))))))) (.seq (.region 8 R182_8 false) .ret))) := by kernel_rfl
noncomputable def R184_0 : Array Oper := opsAt Try.f184 [0]
noncomputable def R184_1 : Array Oper := opsAt Try.f184 [1, 0, 0, 0]
noncomputable def R184_2 : Array Oper := opsAt Try.f184 [1, 0, 0, 1, 0, 0]
noncomputable def R184_3 : Array Oper := opsAt Try.f184 [1, 0, 0, 1, 1, 0]
noncomputable def R184_4 : Array Oper := opsAt Try.f184 [1, 0, 0, 1, 1, 1, 0, 0]
noncomputable def R184_5 : Array Oper := opsAt Try.f184 [1, 1, 0]
theorem code184 : Try.f184.body = some (.seq (.region 0 R184_0 false) (.seq (.block 0 (.seq (.region 1 R184_1 false) (.cond (.tmp 3) (.seq (.region 2 R184_2 false) .ret) (.seq (.region 3 R184_3 false) (.cond (.tmp 10) (.seq (.region 4 R184_4 false) .ret) .skip))))) (.seq (.region 5 R184_5 false) .ret))) := by kernel_rfl
noncomputable def R189_0 : Array Oper := opsAt Try.f189 [0]
noncomputable def R189_1 : Array Oper := opsAt Try.f189 [1, 0]
noncomputable def R189_2 : Array Oper := opsAt Try.f189 [1, 1, 0, 0, 0, 0]
noncomputable def R189_3 : Array Oper := opsAt Try.f189 [1, 1, 0, 0, 0, 1, 0, 0]
noncomputable def R189_4 : Array Oper := opsAt Try.f189 [1, 1, 0, 0, 0, 1, 0, 1, 0, 0]
noncomputable def R189_5 : Array Oper := opsAt Try.f189 [1, 1, 0, 0, 0, 1, 1, 0, 0]
noncomputable def R189_6 : Array Oper := opsAt Try.f189 [1, 1, 0, 0, 0, 1, 1, 0, 1, 0, 0]
noncomputable def R189_7 : Array Oper := opsAt Try.f189 [1, 1, 0, 0, 0, 1, 1, 1, 0, 0]
noncomputable def R189_8 : Array Oper := opsAt Try.f189 [1, 1, 0, 0, 0, 1, 1, 1, 0, 1, 0, 0]
noncomputable def R189_9 : Array Oper := opsAt Try.f189 [1, 1, 0, 0, 0, 1, 1, 1, 0, 1, 0, 1]
noncomputable def R189_10 : Array Oper := opsAt Try.f189 [1, 1, 0, 0, 0, 1, 1, 1, 1, 0]
noncomputable def R189_11 : Array Oper := opsAt Try.f189 [1, 1, 0, 0, 0, 1, 1, 1, 1, 1, 0, 0]
noncomputable def R189_12 : Array Oper := opsAt Try.f189 [1, 1, 0, 0, 0, 1, 1, 1, 1, 1, 0, 1, 0, 0]
noncomputable def R189_13 : Array Oper := opsAt Try.f189 [1, 1, 0, 0, 0, 1, 1, 1, 1, 1, 0, 1, 0, 1, 0]
noncomputable def R189_14 : Array Oper := opsAt Try.f189 [1, 1, 0, 0, 0, 1, 1, 1, 1, 1, 0, 1, 0, 1, 1]
noncomputable def R189_15 : Array Oper := opsAt Try.f189 [1, 1, 0, 0, 0, 1, 1, 1, 1, 1, 1, 0, 0]
noncomputable def R189_16 : Array Oper := opsAt Try.f189 [1, 1, 0, 0, 0, 1, 1, 1, 1, 1, 1, 0, 1, 0, 0]
noncomputable def R189_17 : Array Oper := opsAt Try.f189 [1, 1, 0, 0, 0, 1, 1, 1, 1, 1, 1, 1, 0, 0]
noncomputable def R189_18 : Array Oper := opsAt Try.f189 [1, 1, 0, 0, 0, 1, 1, 1, 1, 1, 1, 1, 0, 1, 0, 0]
noncomputable def R189_19 : Array Oper := opsAt Try.f189 [1, 1, 0, 0, 0, 1, 1, 1, 1, 1, 1, 1, 0, 1, 0, 1, 0]
noncomputable def R189_20 : Array Oper := opsAt Try.f189 [1, 1, 0, 0, 0, 1, 1, 1, 1, 1, 1, 1, 1, 0]
noncomputable def R189_21 : Array Oper := opsAt Try.f189 [1, 1, 0, 0, 0, 1, 1, 1, 1, 1, 1, 1, 1, 1, 0]
noncomputable def R189_22 : Array Oper := opsAt Try.f189 [1, 1, 0, 0, 0, 1, 1, 1, 1, 1, 1, 1, 1, 1, 1, 0]
noncomputable def R189_23 : Array Oper := opsAt Try.f189 [1, 1, 0, 0, 0, 1, 1, 1, 1, 1, 1, 1, 1, 1, 1, 1, 0]
noncomputable def R189_24 : Array Oper := opsAt Try.f189 [1, 1, 0, 0, 0, 1, 1, 1, 1, 1, 1, 1, 1, 1, 1, 1, 1, 0]
noncomputable def R189_25 : Array Oper := opsAt Try.f189 [1, 1, 0, 0, 0, 1, 1, 1, 1, 1, 1, 1, 1, 1, 1, 1, 1, 1, 0, 0]
noncomputable def R189_26 : Array Oper := opsAt Try.f189 [1, 1, 0, 0, 0, 1, 1, 1, 1, 1, 1, 1, 1, 1, 1, 1, 1, 1, 0, 1, 0]
noncomputable def R189_27 : Array Oper := opsAt Try.f189 [1, 1, 0, 0, 0, 1, 1, 1, 1, 1, 1, 1, 1, 1, 1, 1, 1, 1, 0, 1, 1]
noncomputable def R189_28 : Array Oper := opsAt Try.f189 [1, 1, 0, 0, 0, 1, 1, 1, 1, 1, 1, 1, 1, 1, 1, 1, 1, 1, 1, 0]
noncomputable def R189_29 : Array Oper := opsAt Try.f189 [1, 1, 0, 0, 0, 1, 1, 1, 1, 1, 1, 1, 1, 1, 1, 1, 1, 1, 1, 1, 0]
noncomputable def R189_30 : Array Oper := opsAt Try.f189 [1, 1, 0, 0, 0, 1, 1, 1, 1, 1, 1, 1, 1, 1, 1, 1, 1, 1, 1, 1, 1]
noncomputable def L189_0 : Code := .block 1 (.seq (.region 2 R189_2 false) (.seq (.seq (.region 3 R189_3 false) (.cond (.tmp 23) (.seq (.region 4 R189_4 false) .ret) .skip)) (.seq (.seq (.region 5 R189_5 false) (.cond (.tmp 29) (.seq (.region 6 R189_6 false) .ret) .skip)) (.seq (.seq (.region 7 R189_7 false) (.cond (.tmp 35) (.seq (.region 8 R189_8 false) (.region 9 R189_9 false)) .skip)) (.seq (.region 10 R189_10 false) (.seq (.seq (.region 11 R189_11 false) (.cond (.tmp 50) (.seq (.region 12 R189_12 false) (.seq (.region 13 R189_13 false) (.region 14 R189_14 false))) .skip)) (.seq (.seq (.region 15 R189_15 false) (.cond (.tmp 68) (.seq (.region 16 R189_16 false) (.cond (.tmp 72) .ret .skip)) .skip)) (.seq (.seq (.region 17 R189_17 true) (.cond (.tmp 87) (.seq (.region 18 R189_18 false) (.seq (.region 19 R189_19 false) (.exit 1))) .skip)) (.seq (.region 20 R189_20 false) (.seq (.region 21 R189_21 false) (.seq (.region 22 R189_22 false) (.seq (.region 23 R189_23 false) (.seq (.region 24 R189_24 false) (.cond (.tmp 113) (.seq (.region 25 R189_25 false) (.seq (.region 26 R189_26 false) (.region 27 R189_27 false))) (.seq (.region 28 R189_28 false) (.seq (.region 29 R189_29 false) (.region 30 R189_30 false)))))))))))))))))
theorem lpL189_0 : loops L189_0 = 0 := rfl
theorem code189 : Try.f189.body = some (.seq (.region 0 R189_0 false) (.seq (.region 1 R189_1 false) (.block 0 (.loop L189_0)))) := by kernel_rfl
noncomputable def R190_0 : Array Oper := opsAt Try.f190 [0]
noncomputable def R190_1 : Array Oper := opsAt Try.f190 [1, 0, 0, 0]
noncomputable def R190_2 : Array Oper := opsAt Try.f190 [1, 1, 0]
theorem code190 : Try.f190.body = some (.seq (.region 0 R190_0 false) (.seq (.cond (.const (.bool false)) (.seq (.region 1 R190_1 false) .ret) .skip) (.seq (.region 2 R190_2 false) .ret))) := by kernel_rfl
noncomputable def R191_0 : Array Oper := opsAt Try.f191 [0]
noncomputable def R191_1 : Array Oper := opsAt Try.f191 [1, 0, 0]
noncomputable def R191_2 : Array Oper := opsAt Try.f191 [1, 0, 1, 0, 0]
noncomputable def R191_3 : Array Oper := opsAt Try.f191 [1, 0, 1, 0, 1, 0, 0]
noncomputable def R191_4 : Array Oper := opsAt Try.f191 [1, 0, 1, 0, 1, 1, 0]
noncomputable def R191_5 : Array Oper := opsAt Try.f191 [1, 0, 1, 0, 1, 1, 1, 0, 0]
noncomputable def R191_6 : Array Oper := opsAt Try.f191 [1, 1, 0]
theorem code191 : Try.f191.body = some (.seq (.region 0 R191_0 false) (.seq (.seq (.region 1 R191_1 false) (.block 0 (.seq (.region 2 R191_2 false) (.cond (.tmp 10) (.seq (.region 3 R191_3 false) .ret) (.seq (.region 4 R191_4 false) (.cond (.tmp 13) (.seq (.region 5 R191_5 false) .ret) .skip)))))) (.seq (.region 6 R191_6 false) .ret))) := by kernel_rfl
noncomputable def R192_0 : Array Oper := opsAt Try.f192 [0]
noncomputable def R192_1 : Array Oper := opsAt Try.f192 [1, 0]
theorem code192 : Try.f192.body = some (.seq (.region 0 R192_0 false) (.seq (.region 1 R192_1 false) .ret)) := by kernel_rfl
noncomputable def R193_0 : Array Oper := opsAt Try.f193 [0]
noncomputable def R193_1 : Array Oper := opsAt Try.f193 [1, 0]
noncomputable def R193_2 : Array Oper := opsAt Try.f193 [1, 1, 0]
noncomputable def R193_3 : Array Oper := opsAt Try.f193 [1, 1, 1, 0, 0]
noncomputable def R193_4 : Array Oper := opsAt Try.f193 [1, 1, 1, 0, 1, 0, 0, 0, 0]
noncomputable def R193_8 : Array Oper := opsAt Try.f193 [1, 1, 1, 0, 1, 0, 0, 1, 0, 0, 0, 0]
noncomputable def R193_9 : Array Oper := opsAt Try.f193 [1, 1, 1, 0, 1, 0, 0, 1, 0, 0, 0, 1, 0, 0]
noncomputable def R193_10 : Array Oper := opsAt Try.f193 [1, 1, 1, 0, 1, 0, 0, 1, 0, 0, 0, 1, 0, 1]
noncomputable def R193_11 : Array Oper := opsAt Try.f193 [1, 1, 1, 0, 1, 0, 0, 1, 0, 0, 0, 1, 1, 0]
noncomputable def R193_12 : Array Oper := opsAt Try.f193 [1, 1, 1, 0, 1, 0, 0, 1, 0, 0, 0, 1, 1, 1, 0]
noncomputable def R193_13 : Array Oper := opsAt Try.f193 [1, 1, 1, 0, 1, 0, 0, 1, 0, 0, 0, 1, 1, 1, 1, 0]
noncomputable def R193_14 : Array Oper := opsAt Try.f193 [1, 1, 1, 0, 1, 0, 0, 1, 0, 0, 0, 1, 1, 1, 1, 1, 0, 0]
noncomputable def R193_15 : Array Oper := opsAt Try.f193 [1, 1, 1, 0, 1, 0, 0, 1, 0, 0, 0, 1, 1, 1, 1, 1, 0, 1]
noncomputable def R193_6 : Array Oper := opsAt Try.f193 [1, 1, 1, 0, 1, 0, 0, 1, 0, 0, 0, 1, 1, 1, 1, 1, 1, 0]
noncomputable def R193_7 : Array Oper := opsAt Try.f193 [1, 1, 1, 0, 1, 0, 0, 1, 0, 0, 0, 1, 1, 1, 1, 1, 1, 1]
noncomputable def R193_5 : Array Oper := opsAt Try.f193 [1, 1, 1, 0, 1, 0, 0, 1, 1]
noncomputable def L193_0 : Code := .seq (.seq (.region 4 R193_4 false) (.cond (.tmp 11) .skip (.exit 0))) (.seq (.block 1 (.block 2 (.seq (.region 8 R193_8 false) (.cond (.tmp 22) (.seq (.region 9 R193_9 false) (.region 10 R193_10 false)) (.seq (.region 11 R193_11 false) (.cond (.tmp 38) (.region 12 R193_12 false) (.seq (.region 13 R193_13 false) (.cond (.tmp 51) (.seq (.region 14 R193_14 false) (.region 15 R193_15 false)) (.seq (.region 6 R193_6 false) (.region 7 R193_7 false)))))))))) (.region 5 R193_5 false))
theorem lpL193_0 : loops L193_0 = 0 := rfl
noncomputable def R193_16 : Array Oper := opsAt Try.f193 [1, 1, 1, 1, 0, 0, 0, 0, 0]
noncomputable def R193_17 : Array Oper := opsAt Try.f193 [1, 1, 1, 1, 0, 0, 0, 1, 0, 0]
noncomputable def R193_18 : Array Oper := opsAt Try.f193 [1, 1, 1, 1, 0, 0, 0, 1, 0, 1]
noncomputable def L193_1 : Code := .seq (.seq (.region 16 R193_16 false) (.cond (.tmp 64) .skip (.exit 3))) (.block 4 (.seq (.region 17 R193_17 false) (.region 18 R193_18 false)))
theorem lpL193_1 : loops L193_1 = 0 := rfl
noncomputable def R193_19 : Array Oper := opsAt Try.f193 [1, 1, 1, 1, 1, 0]
noncomputable def M193_1 : Code := .seq (.region 19 R193_19 false) .ret
theorem lpM193_1 : loops M193_1 = 0 := rfl
noncomputable def M193_0 : Code := .seq (.block 3 (.loop L193_1)) M193_1
theorem lpM193_0 : loops M193_0 = 1 := rfl
theorem code193 : Try.f193.body = some (.seq (.region 0 R193_0 false) (.seq (.region 1 R193_1 false) (.seq (.region 2 R193_2 false) (.seq (.seq (.region 3 R193_3 false) (.block 0 (.loop L193_0))) M193_0)))) := by kernel_rfl
noncomputable def R194_0 : Array Oper := opsAt Try.f194 [0]
noncomputable def R194_1 : Array Oper := opsAt Try.f194 [1, 0, 0]
noncomputable def R194_2 : Array Oper := opsAt Try.f194 [1, 0, 1, 0]
noncomputable def R194_3 : Array Oper := opsAt Try.f194 [1, 1, 0]
noncomputable def R194_4 : Array Oper := opsAt Try.f194 [1, 1, 1, 0, 0]
noncomputable def R194_5 : Array Oper := opsAt Try.f194 [1, 1, 1, 0, 1, 0]
noncomputable def R194_6 : Array Oper := opsAt Try.f194 [1, 1, 1, 1, 0]
noncomputable def R194_7 : Array Oper := opsAt Try.f194 [1, 1, 1, 1, 1, 0]
noncomputable def R194_8 : Array Oper := opsAt Try.f194 [1, 1, 1, 1, 1, 1, 0, 0, 0, 0, 0]
noncomputable def R194_9 : Array Oper := opsAt Try.f194 [1, 1, 1, 1, 1, 1, 0, 0, 0, 1, 0]
noncomputable def L194_0 : Code := .seq (.seq (.region 8 R194_8 false) (.cond (.tmp 37) .skip (.exit 0))) (.block 1 (.region 9 R194_9 true))
theorem lpL194_0 : loops L194_0 = 0 := rfl
noncomputable def R194_10 : Array Oper := opsAt Try.f194 [1, 1, 1, 1, 1, 1, 1, 0]
noncomputable def M194_0 : Code := .seq (.region 10 R194_10 false) .ret
theorem lpM194_0 : loops M194_0 = 0 := rfl
theorem code194 : Try.f194.body = some (.seq (.region 0 R194_0 false) (.seq (.seq (.region 1 R194_1 false) (.cond (.tmp 10) (.region 2 R194_2 false) .skip)) (.seq (.region 3 R194_3 false) (.seq (.seq (.region 4 R194_4 false) (.cond (.tmp 26) (.region 5 R194_5 false) .skip)) (.seq (.region 6 R194_6 false) (.seq (.region 7 R194_7 false) (.seq (.block 0 (.loop L194_0)) M194_0))))))) := by kernel_rfl
noncomputable def R196_0 : Array Oper := opsAt Try.f196 [0]
noncomputable def R196_1 : Array Oper := opsAt Try.f196 [1, 0, 0, 0, 0]
noncomputable def R196_3 : Array Oper := opsAt Try.f196 [1, 0, 0, 1, 0, 0, 0]
noncomputable def R196_4 : Array Oper := opsAt Try.f196 [1, 0, 0, 1, 0, 0, 1, 0, 0, 0, 0]
noncomputable def R196_6 : Array Oper := opsAt Try.f196 [1, 0, 0, 1, 0, 0, 1, 0, 0, 1, 0, 0]
noncomputable def R196_5 : Array Oper := opsAt Try.f196 [1, 0, 0, 1, 0, 0, 1, 0, 0, 1, 1]
noncomputable def L196_1 : Code := .seq (.seq (.region 4 R196_4 true) (.cond (.tmp 30) .skip (.exit 2))) (.seq (.block 3 (.region 6 R196_6 true)) (.region 5 R196_5 false))
theorem lpL196_1 : loops L196_1 = 0 := rfl
noncomputable def R196_2 : Array Oper := opsAt Try.f196 [1, 0, 0, 1, 1]
noncomputable def M196_0 : Code := .region 2 R196_2 false
theorem lpM196_0 : loops M196_0 = 0 := rfl
noncomputable def L196_0 : Code := .seq (.seq (.region 1 R196_1 false) (.cond (.tmp 12) .skip (.exit 0))) (.seq (.block 1 (.seq (.region 3 R196_3 false) (.block 2 (.loop L196_1)))) M196_0)
theorem lpL196_0 : loops L196_0 = 1 := rfl
theorem code196 : Try.f196.body = some (.seq (.region 0 R196_0 false) (.block 0 (.loop L196_0))) := by kernel_rfl
noncomputable def R202_0 : Array Oper := opsAt Try.f202 [0]
noncomputable def R202_1 : Array Oper := opsAt Try.f202 [1, 0]
theorem code202 : Try.f202.body = some (.seq (.region 0 R202_0 false) (.seq (.region 1 R202_1 false) .ret)) := by kernel_rfl
noncomputable def R205_0 : Array Oper := opsAt Try.f205 [0]
noncomputable def R205_1 : Array Oper := opsAt Try.f205 [1, 0, 0]
noncomputable def R205_2 : Array Oper := opsAt Try.f205 [1, 0, 1, 0, 0]
noncomputable def R205_3 : Array Oper := opsAt Try.f205 [1, 0, 1, 0, 1]
noncomputable def R205_4 : Array Oper := opsAt Try.f205 [1, 1, 0, 0]
noncomputable def R205_5 : Array Oper := opsAt Try.f205 [1, 1, 0, 1, 0, 0]
noncomputable def R205_6 : Array Oper := opsAt Try.f205 [1, 1, 0, 1, 0, 1]
noncomputable def R205_7 : Array Oper := opsAt Try.f205 [1, 1, 1, 0]
theorem code205 : Try.f205.body = some (.seq (.region 0 R205_0 false) (.seq (.seq (.region 1 R205_1 false) (.cond (.tmp 4) (.seq (.region 2 R205_2 false) (.region 3 R205_3 false)) .skip)) (.seq (.seq (.region 4 R205_4 false) (.cond (.tmp 8) (.seq (.region 5 R205_5 false) (.region 6 R205_6 false)) .skip)) (.seq (.region 7 R205_7 false) .ret)))) := by kernel_rfl
noncomputable def R206_0 : Array Oper := opsAt Try.f206 [0]
noncomputable def R206_1 : Array Oper := opsAt Try.f206 [1, 0, 0]
noncomputable def R206_2 : Array Oper := opsAt Try.f206 [1, 0, 1, 0, 0]
noncomputable def R206_3 : Array Oper := opsAt Try.f206 [1, 0, 1, 0, 1]
noncomputable def R206_4 : Array Oper := opsAt Try.f206 [1, 1, 0, 0]
noncomputable def R206_5 : Array Oper := opsAt Try.f206 [1, 1, 0, 1, 0, 0]
noncomputable def R206_6 : Array Oper := opsAt Try.f206 [1, 1, 0, 1, 0, 1]
noncomputable def R206_7 : Array Oper := opsAt Try.f206 [1, 1, 1, 0, 0]
noncomputable def R206_8 : Array Oper := opsAt Try.f206 [1, 1, 1, 0, 1, 0, 0]
noncomputable def R206_9 : Array Oper := opsAt Try.f206 [1, 1, 1, 0, 1, 0, 1]
noncomputable def R206_10 : Array Oper := opsAt Try.f206 [1, 1, 1, 1, 0]
theorem code206 : Try.f206.body = some (.seq (.region 0 R206_0 false) (.seq (.seq (.region 1 R206_1 false) (.cond (.tmp 4) (.seq (.region 2 R206_2 false) (.region 3 R206_3 false)) .skip)) (.seq (.seq (.region 4 R206_4 false) (.cond (.tmp 8) (.seq (.region 5 R206_5 false) (.region 6 R206_6 false)) .skip)) (.seq (.seq (.region 7 R206_7 false) (.cond (.tmp 14) (.seq (.region 8 R206_8 false) (.region 9 R206_9 false)) .skip)) (.seq (.region 10 R206_10 false) .ret))))) := by kernel_rfl
noncomputable def R207_0 : Array Oper := opsAt Try.f207 [0]
noncomputable def R207_1 : Array Oper := opsAt Try.f207 [1, 0, 0]
noncomputable def R207_2 : Array Oper := opsAt Try.f207 [1, 0, 1, 0, 0]
noncomputable def R207_3 : Array Oper := opsAt Try.f207 [1, 1, 0]
theorem code207 : Try.f207.body = some (.seq (.region 0 R207_0 false) (.seq (.seq (.region 1 R207_1 false) (.cond (.tmp 6) (.seq (.region 2 R207_2 false) .ret) .skip)) (.seq (.region 3 R207_3 false) .ret))) := by kernel_rfl
noncomputable def R208_0 : Array Oper := opsAt Try.f208 [0]
noncomputable def R208_1 : Array Oper := opsAt Try.f208 [1, 0, 0, 0]
noncomputable def R208_2 : Array Oper := opsAt Try.f208 [1, 0, 0, 1, 0]
noncomputable def R208_3 : Array Oper := opsAt Try.f208 [1, 1, 0]
noncomputable def R208_4 : Array Oper := opsAt Try.f208 [1, 1, 1, 0]
theorem code208 : Try.f208.body = some (.seq (.region 0 R208_0 false) (.seq (.cond (.const (.bool false)) (.seq (.region 1 R208_1 false) (.seq (.region 2 R208_2 false) .ret)) .skip) (.seq (.region 3 R208_3 false) (.seq (.region 4 R208_4 false) .ret)))) := by kernel_rfl
noncomputable def R215_0 : Array Oper := opsAt Try.f215 [0]
noncomputable def R215_1 : Array Oper := opsAt Try.f215 [1, 0]
theorem code215 : Try.f215.body = some (.seq (.region 0 R215_0 false) (.seq (.region 1 R215_1 false) .ret)) := by kernel_rfl
noncomputable def R216_0 : Array Oper := opsAt Try.f216 [0]
noncomputable def R216_1 : Array Oper := opsAt Try.f216 [1, 0]
noncomputable def R216_2 : Array Oper := opsAt Try.f216 [1, 1, 0]
theorem code216 : Try.f216.body = some (.seq (.region 0 R216_0 false) (.seq (.region 1 R216_1 false) (.seq (.region 2 R216_2 false) .ret))) := by kernel_rfl
noncomputable def R217_0 : Array Oper := opsAt Try.f217 [0]
noncomputable def R217_1 : Array Oper := opsAt Try.f217 [1, 0]
noncomputable def R217_2 : Array Oper := opsAt Try.f217 [1, 1, 0]
noncomputable def R217_3 : Array Oper := opsAt Try.f217 [1, 1, 1, 0]
noncomputable def R217_4 : Array Oper := opsAt Try.f217 [1, 1, 1, 1, 0]
noncomputable def R217_5 : Array Oper := opsAt Try.f217 [1, 1, 1, 1, 1, 0]
noncomputable def R217_6 : Array Oper := opsAt Try.f217 [1, 1, 1, 1, 1, 1, 0]
noncomputable def R217_7 : Array Oper := opsAt Try.f217 [1, 1, 1, 1, 1, 1, 1, 0]
noncomputable def R217_8 : Array Oper := opsAt Try.f217 [1, 1, 1, 1, 1, 1, 1, 1, 0]
noncomputable def R217_9 : Array Oper := opsAt Try.f217 [1, 1, 1, 1, 1, 1, 1, 1, 1, 0]
noncomputable def R217_10 : Array Oper := opsAt Try.f217 [1, 1, 1, 1, 1, 1, 1, 1, 1, 1, 0]
noncomputable def R217_11 : Array Oper := opsAt Try.f217 [1, 1, 1, 1, 1, 1, 1, 1, 1, 1, 1, 0]
theorem code217 : Try.f217.body = some (.seq (.region 0 R217_0 false) (.seq (.region 1 R217_1 false) (.seq (.region 2 R217_2 false) (.seq (.region 3 R217_3 false) (.seq (.region 4 R217_4 false) (.seq (.region 5 R217_5 false) (.seq (.region 6 R217_6 false) (.seq (.region 7 R217_7 false) (.seq (.region 8 R217_8 false) (.seq (.region 9 R217_9 false) (.seq (.region 10 R217_10 false) (.seq (.region 11 R217_11 false) .ret)))))))))))) := by kernel_rfl
def X : FuncId → Option (List V → Option (V × List Eng.Obj))
  | _ => none
noncomputable def C : Cfg := ⟨T, F, X, WR, OW, K⟩
theorem cT : C.T = T := by unfold C; with_reducible rfl
theorem cF : C.fn = F := by unfold C; with_reducible rfl
theorem cX : C.ext = X := by unfold C; with_reducible rfl
theorem cWR : C.wr = WR := by unfold C; with_reducible rfl
theorem cOW : C.own = OW := by unfold C; with_reducible rfl
theorem cK : C.keep = K := by unfold C; with_reducible rfl
theorem cfgOk : CfgOk Try.prog C where
  mixed := by kernel_rfl
  tab := tabOk
  fn := fun f fn h => okF_4 f fn h
  ext := by
    intro f m h
    have h' : X f = some m := h
    unfold X at h'
    cases h'
end Go.Proofs.Ytfdlllhcjfhknaa.Eng
