/- The types, the functions and the loops' live slots that the laws reach, and that they are what the program has. No conditions. -/
import Derived.Test.YtalpgpjhloohfaaDoorEngTa
namespace Go.Proofs.YtalpgpjhloohfaaDoor.Eng
open Go Go.Proofs
set_option maxRecDepth 100000
noncomputable def R4_0 : Array Oper := opsAt Tryd.f4 [0]
noncomputable def R4_1 : Array Oper := opsAt Tryd.f4 [1, 0, 0]
noncomputable def R4_2 : Array Oper := opsAt Tryd.f4 [1, 0, 1, 0, 0]
noncomputable def R4_3 : Array Oper := opsAt Tryd.f4 [1, 1, 0]
noncomputable def R4_4 : Array Oper := opsAt Tryd.f4 [1, 1, 1, 0]
noncomputable def R4_5 : Array Oper := opsAt Tryd.f4 [1, 1, 1, 1, 0]
noncomputable def R4_6 : Array Oper := opsAt Tryd.f4 [1, 1, 1, 1, 1, 0]
noncomputable def R4_7 : Array Oper := opsAt Tryd.f4 [1, 1, 1, 1, 1, 1, 0]
noncomputable def R4_8 : Array Oper := opsAt Tryd.f4 [1, 1, 1, 1, 1, 1, 1, 0]
noncomputable def R4_9 : Array Oper := opsAt Tryd.f4 [1, 1, 1, 1, 1, 1, 1, 1, 0]
noncomputable def R4_10 : Array Oper := opsAt Tryd.f4 [1, 1, 1, 1, 1, 1, 1, 1, 1, 0]
noncomputable def R4_11 : Array Oper := opsAt Tryd.f4 [1, 1, 1, 1, 1, 1, 1, 1, 1, 1, 0]
noncomputable def R4_12 : Array Oper := opsAt Tryd.f4 [1, 1, 1, 1, 1, 1, 1, 1, 1, 1, 1, 0, 0]
noncomputable def R4_13 : Array Oper := opsAt Tryd.f4 [1, 1, 1, 1, 1, 1, 1, 1, 1, 1, 1, 0, 1, 0, 0]
noncomputable def R4_14 : Array Oper := opsAt Tryd.f4 [1, 1, 1, 1, 1, 1, 1, 1, 1, 1, 1, 1, 0, 0]
noncomputable def R4_15 : Array Oper := opsAt Tryd.f4 [1, 1, 1, 1, 1, 1, 1, 1, 1, 1, 1, 1, 0, 1, 0]
noncomputable def R4_16 : Array Oper := opsAt Tryd.f4 [1, 1, 1, 1, 1, 1, 1, 1, 1, 1, 1, 1, 0, 1, 1, 0, 0]
noncomputable def R4_17 : Array Oper := opsAt Tryd.f4 [1, 1, 1, 1, 1, 1, 1, 1, 1, 1, 1, 1, 1, 0, 0]
noncomputable def R4_18 : Array Oper := opsAt Tryd.f4 [1, 1, 1, 1, 1, 1, 1, 1, 1, 1, 1, 1, 1, 0, 1, 0, 0]
noncomputable def R4_19 : Array Oper := opsAt Tryd.f4 [1, 1, 1, 1, 1, 1, 1, 1, 1, 1, 1, 1, 1, 1, 0]
noncomputable def R4_20 : Array Oper := opsAt Tryd.f4 [1, 1, 1, 1, 1, 1, 1, 1, 1, 1, 1, 1, 1, 1, 1, 0]
noncomputable def R4_21 : Array Oper := opsAt Tryd.f4 [1, 1, 1, 1, 1, 1, 1, 1, 1, 1, 1, 1, 1, 1, 1, 1, 0]
noncomputable def R4_22 : Array Oper := opsAt Tryd.f4 [1, 1, 1, 1, 1, 1, 1, 1, 1, 1, 1, 1, 1, 1, 1, 1, 1, 0]
noncomputable def R4_23 : Array Oper := opsAt Tryd.f4 [1, 1, 1, 1, 1, 1, 1, 1, 1, 1, 1, 1, 1, 1, 1, 1, 1, 1, 0]
noncomputable def R4_24 : Array Oper := opsAt Tryd.f4 [1, 1, 1, 1, 1, 1, 1, 1, 1, 1, 1, 1, 1, 1, 1, 1, 1, 1, 1, 0]
theorem code4 : Tryd.f4.body = some (.seq (.region 0 R4_0 false) (.seq (.seq (.region 1 R4_1 false) (.cond (.tmp 27) (.seq (.region 2 R4_2 false) .ret) .skip)) (.seq (.region 3 R4_3 false) (.seq (.region 4 R4_4 false) (.seq (.region 5 R4_5 false) (.seq (.region 6 R4_6 false) (.seq (.region 7 R4_7 false) (.seq (.region 8 R4_8 false) (.seq (.region 9 R4_9 false) (.seq (.region 10 R4_10 false) (.seq (.region 11 R4_11 false) (.seq (.seq (.region 12 R4_12 false) (.cond (.tmp 91) (.seq (.region 13 R4_13 false) .ret) .skip)) (.seq (.seq (.region 14 R4_14 false) (.seq (.region 15 R4_15 false) (.cond (.tmp 106) (.seq (.region 16 R4_16 false) .ret) .skip))) (.seq (.seq (.region 17 R4_17 false) (.cond (.tmp 108) (.seq (.region 18 R4_18 false) .ret) .skip)) (.seq (.region 19 R4_19 false) (.seq (.region 20 R4_20 false) (.seq (.region 21 R4_21 false) (.seq (.region 22 R4_22 true) (.seq (.region 23 R4_23 false) (.seq (.region 24 R4_24 false) .ret)))))))))))))))))))) := by kernel_rfl
noncomputable def R12_0 : Array Oper := opsAt Tryd.f12 [0]
noncomputable def R12_1 : Array Oper := opsAt Tryd.f12 [1, 0]
theorem code12 : Tryd.f12.body = some (.seq (.region 0 R12_0 false) (.seq (.region 1 R12_1 false) .ret)) := by kernel_rfl
noncomputable def R13_0 : Array Oper := opsAt Tryd.f13 [0]
noncomputable def R13_1 : Array Oper := opsAt Tryd.f13 [1, 0]
noncomputable def R13_2 : Array Oper := opsAt Tryd.f13 [1, 1, 0]
theorem code13 : Tryd.f13.body = some (.seq (.region 0 R13_0 false) (.seq (.region 1 R13_1 false) (.seq (.region 2 R13_2 false) .ret))) := by kernel_rfl
noncomputable def R14_0 : Array Oper := opsAt Tryd.f14 [0]
noncomputable def R14_1 : Array Oper := opsAt Tryd.f14 [1, 0, 0]
noncomputable def R14_2 : Array Oper := opsAt Tryd.f14 [1, 0, 1, 0, 0]
noncomputable def R14_3 : Array Oper := opsAt Tryd.f14 [1, 1, 0]
theorem code14 : Tryd.f14.body = some (.seq (.region 0 R14_0 false) (.seq (.seq (.region 1 R14_1 false) (.cond (.tmp 6) (.seq (.region 2 R14_2 false) .ret) .skip)) (.seq (.region 3 R14_3 false) .ret))) := by kernel_rfl
noncomputable def R15_0 : Array Oper := opsAt Tryd.f15 [0]
noncomputable def R15_1 : Array Oper := opsAt Tryd.f15 [1, 0, 0]
noncomputable def R15_2 : Array Oper := opsAt Tryd.f15 [1, 0, 1, 0, 0]
noncomputable def R15_3 : Array Oper := opsAt Tryd.f15 [1, 1, 0]
theorem code15 : Tryd.f15.body = some (.seq (.region 0 R15_0 false) (.seq (.seq (.region 1 R15_1 false) (.cond (.tmp 6) (.seq (.region 2 R15_2 false) .ret) .skip)) (.seq (.region 3 R15_3 false) .ret))) := by kernel_rfl
noncomputable def R16_0 : Array Oper := opsAt Tryd.f16 [0]
noncomputable def R16_1 : Array Oper := opsAt Tryd.f16 [1, 0]
noncomputable def R16_2 : Array Oper := opsAt Tryd.f16 [1, 1, 0, 0]
noncomputable def R16_3 : Array Oper := opsAt Tryd.f16 [1, 1, 0, 1, 0, 0]
noncomputable def R16_4 : Array Oper := opsAt Tryd.f16 [1, 1, 1, 0]
theorem code16 : Tryd.f16.body = some (.seq (.region 0 R16_0 false) (.seq (.region 1 R16_1 false) (.seq (.seq (.region 2 R16_2 false) (.cond (.tmp 8) (.seq (.region 3 R16_3 false) .ret) .skip)) (.seq (.region 4 R16_4 false) .ret)))) := by kernel_rfl
noncomputable def R17_0 : Array Oper := opsAt Tryd.f17 [0]
noncomputable def R17_1 : Array Oper := opsAt Tryd.f17 [1, 0]
noncomputable def R17_2 : Array Oper := opsAt Tryd.f17 [1, 1, 0, 0]
noncomputable def R17_3 : Array Oper := opsAt Tryd.f17 [1, 1, 0, 1, 0, 0]
noncomputable def R17_4 : Array Oper := opsAt Tryd.f17 [1, 1, 1, 0]
theorem code17 : Tryd.f17.body = some (.seq (.region 0 R17_0 false) (.seq (.region 1 R17_1 false) (.seq (.seq (.region 2 R17_2 false) (.cond (.tmp 23) (.seq (.region 3 R17_3 false) .ret) .skip)) (.seq (.region 4 R17_4 false) .ret)))) := by kernel_rfl
noncomputable def R18_0 : Array Oper := opsAt Tryd.f18 [0]
noncomputable def R18_1 : Array Oper := opsAt Tryd.f18 [1, 0]
theorem code18 : Tryd.f18.body = some (.seq (.region 0 R18_0 false) (.seq (.region 1 R18_1 false) .ret)) := by kernel_rfl
noncomputable def R19_0 : Array Oper := opsAt Tryd.f19 [0]
noncomputable def R19_1 : Array Oper := opsAt Tryd.f19 [1, 0]
noncomputable def R19_2 : Array Oper := opsAt Tryd.f19 [1, 1, 0, 0]
noncomputable def R19_3 : Array Oper := opsAt Tryd.f19 [1, 1, 0, 1, 0, 0]
noncomputable def R19_4 : Array Oper := opsAt Tryd.f19 [1, 1, 1, 0]
theorem code19 : Tryd.f19.body = some (.seq (.region 0 R19_0 false) (.seq (.region 1 R19_1 false) (.seq (.seq (.region 2 R19_2 false) (.cond (.tmp 8) (.seq (.region 3 R19_3 false) .ret) .skip)) (.seq (.region 4 R19_4 false) .ret)))) := by kernel_rfl
noncomputable def R20_0 : Array Oper := opsAt Tryd.f20 [0]
noncomputable def R20_1 : Array Oper := opsAt Tryd.f20 [1, 0, 0]
noncomputable def R20_2 : Array Oper := opsAt Tryd.f20 [1, 0, 1, 0, 0]
noncomputable def R20_3 : Array Oper := opsAt Tryd.f20 [1, 1, 0]
noncomputable def R20_4 : Array Oper := opsAt Tryd.f20 [1, 1, 1, 0, 0]
noncomputable def R20_5 : Array Oper := opsAt Tryd.f20 [1, 1, 1, 0, 1, 0, 0]
noncomputable def R20_6 : Array Oper := opsAt Tryd.f20 [1, 1, 1, 1, 0]
theorem code20 : Tryd.f20.body = some (.seq (.region 0 R20_0 false) (.seq (.seq (.region 1 R20_1 false) (.cond (.tmp 11) (.seq (.region 2 R20_2 false) .ret) .skip)) (.seq (.region 3 R20_3 false) (.seq (.seq (.region 4 R20_4 false) (.cond (.tmp 20) (.seq (.region 5 R20_5 false) .ret) .skip)) (.seq (.region 6 R20_6 false) .ret))))) := by kernel_rfl
noncomputable def R21_0 : Array Oper := opsAt Tryd.f21 [0]
noncomputable def R21_1 : Array Oper := opsAt Tryd.f21 [1, 0, 0]
noncomputable def R21_2 : Array Oper := opsAt Tryd.f21 [1, 0, 1, 0, 0]
noncomputable def R21_3 : Array Oper := opsAt Tryd.f21 [1, 1, 0]
theorem code21 : Tryd.f21.body = some (.seq (.region 0 R21_0 false) (.seq (.seq (.region 1 R21_1 false) (.cond (.tmp 16) (.seq (.region 2 R21_2 false) .ret) .skip)) (.seq (.region 3 R21_3 false) .ret))) := by kernel_rfl
noncomputable def R22_0 : Array Oper := opsAt Tryd.f22 [0]
noncomputable def R22_1 : Array Oper := opsAt Tryd.f22 [1, 0]
noncomputable def R22_2 : Array Oper := opsAt Tryd.f22 [1, 1, 0]
noncomputable def R22_3 : Array Oper := opsAt Tryd.f22 [1, 1, 1, 0, 0]
noncomputable def R22_4 : Array Oper := opsAt Tryd.f22 [1, 1, 1, 0, 1, 0, 0]
noncomputable def R22_5 : Array Oper := opsAt Tryd.f22 [1, 1, 1, 1, 0]
theorem code22 : Tryd.f22.body = some (.seq (.region 0 R22_0 false) (.seq (.region 1 R22_1 false) (.seq (.region 2 R22_2 false) (.seq (.seq (.region 3 R22_3 false) (.cond (.tmp 30) (.seq (.region 4 R22_4 false) .ret) .skip)) (.seq (.region 5 R22_5 false) .ret))))) := by kernel_rfl
noncomputable def R23_0 : Array Oper := opsAt Tryd.f23 [0]
noncomputable def R23_1 : Array Oper := opsAt Tryd.f23 [1, 0, 0]
noncomputable def R23_2 : Array Oper := opsAt Tryd.f23 [1, 0, 1, 0, 0]
noncomputable def R23_3 : Array Oper := opsAt Tryd.f23 [1, 1, 0]
theorem code23 : Tryd.f23.body = some (.seq (.region 0 R23_0 false) (.seq (.seq (.region 1 R23_1 false) (.cond (.tmp 8) (.seq (.region 2 R23_2 false) .ret) .skip)) (.seq (.region 3 R23_3 false) .ret))) := by kernel_rfl
noncomputable def R44_0 : Array Oper := opsAt Tryd.f44 [0]
noncomputable def R44_1 : Array Oper := opsAt Tryd.f44 [1, 0]
theorem code44 : Tryd.f44.body = some (.seq (.region 0 R44_0 false) (.seq (.region 1 R44_1 false) .ret)) := by kernel_rfl
noncomputable def R45_0 : Array Oper := opsAt Tryd.f45 [0]
noncomputable def R45_1 : Array Oper := opsAt Tryd.f45 [1, 0, 0]
noncomputable def R45_2 : Array Oper := opsAt Tryd.f45 [1, 0, 1, 0, 0]
noncomputable def R45_3 : Array Oper := opsAt Tryd.f45 [1, 1, 0]
noncomputable def R45_4 : Array Oper := opsAt Tryd.f45 [1, 1, 1, 0, 0]
noncomputable def R45_5 : Array Oper := opsAt Tryd.f45 [1, 1, 1, 0, 1, 0]
noncomputable def R45_6 : Array Oper := opsAt Tryd.f45 [1, 1, 1, 1, 0]
theorem code45 : Tryd.f45.body = some (.seq (.region 0 R45_0 false) (.seq (.seq (.region 1 R45_1 false) (.cond (.tmp 7) (.seq (.region 2 R45_2 false) .ret) .skip)) (.seq (.region 3 R45_3 false) (.seq (.seq (.region 4 R45_4 false) (.cond (.tmp 11) (.region 5 R45_5 false) .skip)) (.seq (.region 6 R45_6 false) .ret))))) := by kernel_rfl
noncomputable def R46_0 : Array Oper := opsAt Tryd.f46 [0]
noncomputable def R46_1 : Array Oper := opsAt Tryd.f46 [1, 0]
theorem code46 : Tryd.f46.body = some (.seq (.region 0 R46_0 false) (.seq (.region 1 R46_1 false) .ret)) := by kernel_rfl
noncomputable def R47_0 : Array Oper := opsAt Tryd.f47 [0]
noncomputable def R47_1 : Array Oper := opsAt Tryd.f47 [1, 0]
theorem code47 : Tryd.f47.body = some (.seq (.region 0 R47_0 false) (.seq (.region 1 R47_1 false) .ret)) := by kernel_rfl
noncomputable def R48_0 : Array Oper := opsAt Tryd.f48 [0]
noncomputable def R48_1 : Array Oper := opsAt Tryd.f48 [1, 0, 0]
noncomputable def R48_2 : Array Oper := opsAt Tryd.f48 [1, 0, 1, 0, 0]
noncomputable def R48_3 : Array Oper := opsAt Tryd.f48 [1, 1, 0, 0]
noncomputable def R48_4 : Array Oper := opsAt Tryd.f48 [1, 1, 0, 1, 0, 0]
noncomputable def R48_5 : Array Oper := opsAt Tryd.f48 [1, 1, 1, 0]
theorem code48 : Tryd.f48.body = some (.seq (.region 0 R48_0 false) (.seq (.seq (.region 1 R48_1 false) (.cond (.tmp 4) (.seq (.region 2 R48_2 false) .ret) .skip)) (.seq (.seq (.region 3 R48_3 false) (.cond (.tmp 10) (.seq (.region 4 R48_4 false) .ret) .skip)) (.seq (.region 5 R48_5 true) .ret)))) := by kernel_rfl
noncomputable def R49_0 : Array Oper := opsAt Tryd.f49 [0]
noncomputable def R49_1 : Array Oper := opsAt Tryd.f49 [1, 0]
theorem code49 : Tryd.f49.body = some (.seq (.region 0 R49_0 false) (.seq (.region 1 R49_1 false) .ret)) := by kernel_rfl
noncomputable def R50_0 : Array Oper := opsAt Tryd.f50 [0]
noncomputable def R50_1 : Array Oper := opsAt Tryd.f50 [1, 0]
theorem code50 : Tryd.f50.body = some (.seq (.region 0 R50_0 false) (.seq (.region 1 R50_1 false) .ret)) := by kernel_rfl
noncomputable def R52_0 : Array Oper := opsAt Tryd.f52 [0]
noncomputable def R52_1 : Array Oper := opsAt Tryd.f52 [1, 0]
noncomputable def R52_2 : Array Oper := opsAt Tryd.f52 [1, 1, 0, 0]
noncomputable def R52_3 : Array Oper := opsAt Tryd.f52 [1, 1, 0, 1, 0]
noncomputable def R52_4 : Array Oper := opsAt Tryd.f52 [1, 1, 1, 0, 0]
noncomputable def R52_5 : Array Oper := opsAt Tryd.f52 [1, 1, 1, 0, 1, 0, 0]
noncomputable def R52_6 : Array Oper := opsAt Tryd.f52 [1, 1, 1, 1, 0]
noncomputable def R52_7 : Array Oper := opsAt Tryd.f52 [1, 1, 1, 1, 1, 0, 0]
noncomputable def R52_8 : Array Oper := opsAt Tryd.f52 [1, 1, 1, 1, 1, 0, 1, 0, 0, 0, 0]
noncomputable def R52_10 : Array Oper := opsAt Tryd.f52 [1, 1, 1, 1, 1, 0, 1, 0, 0, 1, 0, 0, 0, 0]
noncomputable def R52_11 : Array Oper := opsAt Tryd.f52 [1, 1, 1, 1, 1, 0, 1, 0, 0, 1, 0, 0, 0, 1, 0, 0]
noncomputable def R52_12 : Array Oper := opsAt Tryd.f52 [1, 1, 1, 1, 1, 0, 1, 0, 0, 1, 0, 0, 1]
noncomputable def R52_9 : Array Oper := opsAt Tryd.f52 [1, 1, 1, 1, 1, 0, 1, 0, 0, 1, 1]
noncomputable def L52_0 : Code := .seq (.seq (.region 8 R52_8 false) (.cond (.tmp 25) .skip (.exit 0))) (.seq (.block 1 (.seq (.seq (.region 10 R52_10 false) (.cond (.tmp 37) (.seq (.region 11 R52_11 false) .ret) .skip)) (.region 12 R52_12 false))) (.region 9 R52_9 false))
theorem lpL52_0 : loops L52_0 = 0 := rfl
noncomputable def R52_13 : Array Oper := opsAt Tryd.f52 [1, 1, 1, 1, 1, 1, 0, 0]
noncomputable def R52_14 : Array Oper := opsAt Tryd.f52 [1, 1, 1, 1, 1, 1, 0, 1, 0]
noncomputable def R52_15 : Array Oper := opsAt Tryd.f52 [1, 1, 1, 1, 1, 1, 1, 0, 0]
noncomputable def R52_16 : Array Oper := opsAt Tryd.f52 [1, 1, 1, 1, 1, 1, 1, 0, 1, 0, 0]
noncomputable def R52_17 : Array Oper := opsAt Tryd.f52 [1, 1, 1, 1, 1, 1, 1, 1, 0]
noncomputable def M52_0 : Code := .seq (.seq (.region 13 R52_13 false) (.cond (.tmp 50) (.region 14 R52_14 false) .skip)) (.seq (.seq (.region 15 R52_15 false) (.cond (.tmp 56) (.seq (.region 16 R52_16 false) .ret) .skip)) (.seq (.region 17 R52_17 false) .ret))
theorem lpM52_0 : loops M52_0 = 0 := rfl
theorem code52 : Tryd.f52.body = some (.seq (.region 0 R52_0 false) (.seq (.region 1 R52_1 false) (.seq (.seq (.region 2 R52_2 false) (.cond (.tmp 15) (.region 3 R52_3 false) .skip)) (.seq (.seq (.region 4 R52_4 false) (.cond (.tmp 21) (.seq (.region 5 R52_5 false) .ret) .skip)) (.seq (.region 6 R52_6 false) (.seq (.seq (.region 7 R52_7 false) (.block 0 (.loop L52_0))) M52_0)))))) := by kernel_rfl
noncomputable def R53_0 : Array Oper := opsAt Tryd.f53 [0]
noncomputable def R53_1 : Array Oper := opsAt Tryd.f53 [1, 0]
theorem code53 : Tryd.f53.body = some (.seq (.region 0 R53_0 false) (.seq (.region 1 R53_1 false) .ret)) := by kernel_rfl
noncomputable def R54_0 : Array Oper := opsAt Tryd.f54 [0]
noncomputable def R54_1 : Array Oper := opsAt Tryd.f54 [1, 0]
theorem code54 : Tryd.f54.body = some (.seq (.region 0 R54_0 false) (.seq (.region 1 R54_1 false) .ret)) := by kernel_rfl
noncomputable def R55_0 : Array Oper := opsAt Tryd.f55 [0]
noncomputable def R55_1 : Array Oper := opsAt Tryd.f55 [1, 0]
noncomputable def R55_2 : Array Oper := opsAt Tryd.f55 [1, 1, 0, 0]
noncomputable def R55_3 : Array Oper := opsAt Tryd.f55 [1, 1, 0, 1, 0, 0, 0, 0]
noncomputable def R55_5 : Array Oper := opsAt Tryd.f55 [1, 1, 0, 1, 0, 0, 1, 0, 0]
noncomputable def R55_4 : Array Oper := opsAt Tryd.f55 [1, 1, 0, 1, 0, 0, 1, 1]
noncomputable def L55_0 : Code := .seq (.seq (.region 3 R55_3 false) (.cond (.tmp 8) .skip (.exit 0))) (.seq (.block 1 (.region 5 R55_5 false)) (.region 4 R55_4 false))
theorem lpL55_0 : loops L55_0 = 0 := rfl
noncomputable def R55_6 : Array Oper := opsAt Tryd.f55 [1, 1, 1, 0]
noncomputable def M55_0 : Code := .seq (.region 6 R55_6 false) .ret
theorem lpM55_0 : loops M55_0 = 0 := rfl
theorem code55 : Tryd.f55.body = some (.seq (.region 0 R55_0 false) (.seq (.region 1 R55_1 false) (.seq (.seq (.region 2 R55_2 false) (.block 0 (.loop L55_0))) M55_0))) := by kernel_rfl
noncomputable def R56_0 : Array Oper := opsAt Tryd.f56 [0]
noncomputable def R56_1 : Array Oper := opsAt Tryd.f56 [1, 0, 0]
noncomputable def R56_2 : Array Oper := opsAt Tryd.f56 [1, 0, 1, 0, 0, 0, 0]
noncomputable def R56_4 : Array Oper := opsAt Tryd.f56 [1, 0, 1, 0, 0, 1, 0, 0, 0]
noncomputable def R56_5 : Array Oper := opsAt Tryd.f56 [1, 0, 1, 0, 0, 1, 0, 0, 1, 0, 0]
noncomputable def R56_3 : Array Oper := opsAt Tryd.f56 [1, 0, 1, 0, 0, 1, 1]
noncomputable def L56_0 : Code := .seq (.seq (.region 2 R56_2 false) (.cond (.tmp 9) .skip (.exit 0))) (.seq (.block 1 (.seq (.region 4 R56_4 false) (.cond (.tmp 16) (.seq (.region 5 R56_5 false) .ret) .skip))) (.region 3 R56_3 false))
theorem lpL56_0 : loops L56_0 = 0 := rfl
noncomputable def R56_6 : Array Oper := opsAt Tryd.f56 [1, 1, 0]
noncomputable def M56_0 : Code := .seq (.region 6 R56_6 false) .ret
theorem lpM56_0 : loops M56_0 = 0 := rfl
theorem code56 : Tryd.f56.body = some (.seq (.region 0 R56_0 false) (.seq (.seq (.region 1 R56_1 false) (.block 0 (.loop L56_0))) M56_0)) := by kernel_rfl
noncomputable def R57_0 : Array Oper := opsAt Tryd.f57 [0]
noncomputable def R57_1 : Array Oper := opsAt Tryd.f57 [1, 0]
theorem code57 : Tryd.f57.body = some (.seq (.region 0 R57_0 false) (.seq (.region 1 R57_1 false) .ret)) := by kernel_rfl
noncomputable def R58_0 : Array Oper := opsAt Tryd.f58 [0]
noncomputable def R58_1 : Array Oper := opsAt Tryd.f58 [1, 0]
theorem code58 : Tryd.f58.body = some (.seq (.region 0 R58_0 false) (.seq (.region 1 R58_1 false) .ret)) := by kernel_rfl
noncomputable def R81_0 : Array Oper := opsAt Tryd.f81 [0]
noncomputable def R81_1 : Array Oper := opsAt Tryd.f81 [1, 0]
noncomputable def R81_2 : Array Oper := opsAt Tryd.f81 [1, 1, 0, 0]
noncomputable def R81_3 : Array Oper := opsAt Tryd.f81 [1, 1, 0, 1, 0]
noncomputable def R81_4 : Array Oper := opsAt Tryd.f81 [1, 1, 1, 0]
noncomputable def R81_5 : Array Oper := opsAt Tryd.f81 [1, 1, 1, 1, 0]
noncomputable def R81_6 : Array Oper := opsAt Tryd.f81 [1, 1, 1, 1, 1, 0, 0]
noncomputable def R81_7 : Array Oper := opsAt Tryd.f81 [1, 1, 1, 1, 1, 0, 1, 0, 0]
noncomputable def R81_8 : Array Oper := opsAt Tryd.f81 [1, 1, 1, 1, 1, 1, 0]
theorem code81 : Tryd.f81.body = some (.seq (.region 0 R81_0 false) (.seq (.region 1 R81_1 false) (.seq (.seq (.region 2 R81_2 true) (.cond (.tmp 13) (.region 3 R81_3 true) .skip)) (.seq (.region 4 R81_4 false) (.seq (.region 5 R81_5 false) (.seq (.seq (.region 6 R81_6 true) (.cond (.tmp 53) (.seq (.region 7 R81_7 false) .ret) .skip)) (.seq (.region 8 R81_8 false) .ret))))))) := by kernel_rfl
noncomputable def R85_0 : Array Oper := opsAt Tryd.f85 [0]
noncomputable def R85_1 : Array Oper := opsAt Tryd.f85 [1, 0]
noncomputable def R85_2 : Array Oper := opsAt Tryd.f85 [1, 1, 0, 0]
noncomputable def R85_3 : Array Oper := opsAt Tryd.f85 [1, 1, 0, 1, 0, 0, 0, 0]
noncomputable def R85_5 : Array Oper := opsAt Tryd.f85 [1, 1, 0, 1, 0, 0, 1, 0, 0]
noncomputable def R85_4 : Array Oper := opsAt Tryd.f85 [1, 1, 0, 1, 0, 0, 1, 1]
noncomputable def L85_0 : Code := .seq (.seq (.region 3 R85_3 false) (.cond (.tmp 8) .skip (.exit 0))) (.seq (.block 1 (.region 5 R85_5 false)) (.region 4 R85_4 false))
theorem lpL85_0 : loops L85_0 = 0 := rfl
noncomputable def R85_6 : Array Oper := opsAt Tryd.f85 [1, 1, 1, 0]
noncomputable def M85_0 : Code := .seq (.region 6 R85_6 false) .ret
theorem lpM85_0 : loops M85_0 = 0 := rfl
theorem code85 : Tryd.f85.body = some (.seq (.region 0 R85_0 false) (.seq (.region 1 R85_1 false) (.seq (.seq (.region 2 R85_2 false) (.block 0 (.loop L85_0))) M85_0))) := by kernel_rfl
noncomputable def R86_0 : Array Oper := opsAt Tryd.f86 [0]
noncomputable def R86_1 : Array Oper := opsAt Tryd.f86 [1, 0, 0]
noncomputable def R86_2 : Array Oper := opsAt Tryd.f86 [1, 0, 1, 0]
noncomputable def R86_3 : Array Oper := opsAt Tryd.f86 [1, 0, 1, 1, 0, 0]
noncomputable def R86_4 : Array Oper := opsAt Tryd.f86 [1, 1, 0]
theorem code86 : Tryd.f86.body = some (.seq (.region 0 R86_0 false) (.seq (.seq (.region 1 R86_1 false) (.seq (.region 2 R86_2 false) (.cond (.tmp 12) (.seq (.region 3 R86_3 true) .ret) .skip))) (.seq (.region 4 R86_4 false) .ret))) := by kernel_rfl
def ext41 : List V → Option (V × List Eng.Obj)
  | [.c (.int .i64 n)] => if -9223372036854775808 ≤ n ∧ n ≤ 9223372036854775807 then some (.c (.string ⟨(Lib.itoa n).toArray⟩), []) else none
  | _ => none
theorem ext41_ok : ExtOk Tryd.prog 41 ext41 := by
  refine ⟨ent Tryd.func41 rfl rfl, fun args v objs h w Pf ι vals hr D => ?_⟩
  unfold ext41 at h
  split at h
  case h_2 => cases h
  rename_i n
  split at h
  case isFalse => cases h
  rename_i hn
  cases h
  simp only [Reps, Rep] at hr
  obtain ⟨u, us, rfl, rfl, rfl⟩ := hr
  refine (Tryd.strconv_Itoa n hn.1 hn.2 w (jt_of D.glob.2)).mono ?_
  rintro e w' ⟨rfl, k, os, rfl⟩
  have hp : ∀ g, Pf true g → (Sort.grow (w.drewN k) os).heap[g]? = w.heap[g]? := fun g hg => by
    have := D.lt g hg
    show (w.heap ++ os)[g]? = w.heap[g]?
    rw [Array.getElem?_append_left this]
  refine ⟨_, ι, 1, fun _ => False, rfl, ⟨rfl, rfl, rfl, ?_, hp, fun _ _ _ h => h⟩, by simp only [Rep], ⟨fun id vr o h => ?_, D.fresh, D.fresh', fun id vr o id' vr' o' g t t' h => ?_, fun g hg => ?_, D.sub, D.gl hp⟩⟩
  · show w.heap.size ≤ (w.heap ++ os).size
    rw [Array.size_append]; omega
  · simp [hpOf] at h
  · simp [hpOf] at h
  · have := D.lt g hg
    show g < (w.heap ++ os).size
    rw [Array.size_append]; omega
theorem fwd_of_below {w w' : World} {Pf : Pfs} {ι : Plc} (hlt : ∀ g, Pf true g → g < w.heap.size) (h : Go.RowKit.Below w.heap.size w w') : Fwd Pf w w' ι ι :=
  ⟨h.os, h.tape, h.output, h.size, fun g hg => h.block g (hlt g hg), fun _ _ _ h => h⟩
theorem desc_none {w w' : World} {Pf : Pfs} {ι : Plc} (D : Desc w Pf ι (fun _ => none) 1 (fun _ => False)) (h : Go.RowKit.Below w.heap.size w w') : Desc w' Pf ι (hpOf [] []) 1 (fun _ => False) :=
  ⟨fun id vr o h => by simp [hpOf] at h, D.fresh, D.fresh', fun id vr o id' vr' o' g t t' h => by simp [hpOf] at h, fun g hg => Nat.lt_of_lt_of_le (D.lt g hg) h.size, D.sub, D.gl (fun g hg => h.block g (D.lt g hg))⟩
def ext51 : List V → Option (V × List Eng.Obj)
  | [.c (.string s)] => if s.size ≤ 281474976710656 then (match Lib.atoiAll s.data.toList with
    | .ok v => some (.tp [.c (.int .i64 v), .c .nilIface], [])
    | .«syntax» => some (.tp [.c (.int .i64 0), .er], [])
    | .range => some (.tp [.c (.int .i64 (Lib.atoiSat s.data.toList)), .er], [])) else none
  | _ => none
theorem ext51_ok : ExtOk Tryd.prog 51 ext51 := by
  refine ⟨ent Tryd.func51 rfl rfl, fun args v objs h w Pf ι vals hr D => ?_⟩
  unfold ext51 at h
  split at h
  case h_2 => cases h
  rename_i s
  split at h
  case isFalse => cases h
  rename_i hs
  simp only [Reps, Rep] at hr
  obtain ⟨u, us, rfl, rfl, rfl⟩ := hr
  split at h
  · rename_i n hn
    cases h
    refine (Tryd.strconv_Atoi_ok s (by omega) n hn w).mono ?_
    rintro e w' ⟨rfl, hw⟩
    have hb : Go.RowKit.Below w.heap.size w w' := by
      rcases hw with rfl | ⟨t, rfl⟩
      · exact Go.RowKit.Below.refl _ _
      · exact Lib.bytesWorld_below _ _ _
    exact ⟨_, ι, 1, fun _ => False, rfl, fwd_of_below D.lt hb, by simp only [Rep, Reps]; exact ⟨_, rfl, _, _, rfl, rfl, _, _, rfl, rfl, rfl⟩, desc_none D hb⟩
  · rename_i hn
    cases h
    obtain ⟨ev, h1, h2⟩ := e1_of D.glob.2
    refine (Tryd.strconv_Atoi_syntax s hs hn ev w h1 h2).mono ?_
    rintro e w' ⟨N, rfl, _, _, hb⟩
    exact ⟨_, ι, 1, fun _ => False, rfl, fwd_of_below D.lt hb, by simp only [Rep, Reps]; exact ⟨_, rfl, _, _, rfl, rfl, _, _, rfl, ⟨_, _, rfl⟩, rfl⟩, desc_none D hb⟩
  · rename_i hn
    cases h
    obtain ⟨ev, h1, h2⟩ := e2_of D.glob.2
    refine (Tryd.strconv_Atoi_range s hs hn ev w h1 h2).mono ?_
    rintro e w' ⟨N, rfl, _, _, hb⟩
    exact ⟨_, ι, 1, fun _ => False, rfl, fwd_of_below D.lt hb, by simp only [Rep, Reps]; exact ⟨_, rfl, _, _, rfl, rfl, _, _, rfl, ⟨_, _, rfl⟩, rfl⟩, desc_none D hb⟩
def ext84 : List V → Option (V × List Eng.Obj)
  | [.c (.string s), .c (.string t)] => match t.data.toList with
    | [c] => some (.c (.int .i64 (Lib.indexByte s.data.toList c)), [])
    | _ => none
  | _ => none
theorem ext84_ok : ExtOk Tryd.prog 84 ext84 := by
  refine ⟨ent Tryd.func84 rfl rfl, fun args v objs h w Pf ι vals hr D => ?_⟩
  unfold ext84 at h
  split at h
  case h_2 => cases h
  rename_i s t
  split at h
  case h_2 => cases h
  rename_i c hc
  cases h
  have ht : t = ⟨#[c]⟩ := by
    obtain ⟨a⟩ := t
    have : a = #[c] := by
      apply Array.ext'
      simpa using hc
    rw [this]
  subst ht
  simp only [Reps, Rep] at hr
  obtain ⟨u, us, rfl, rfl, u2, us2, rfl, rfl, rfl⟩ := hr
  refine (Tryd.strings_Index_one s c w).mono ?_
  rintro e w' ⟨rfl, rfl⟩
  refine ⟨_, ι, 1, fun _ => False, rfl, Fwd.refl _ _ _, by simp only [Rep], ⟨fun id vr o h => ?_, D.fresh, D.fresh', fun id vr o id' vr' o' g t t' h => ?_, D.lt, D.sub, D.glob⟩⟩
  · simp [hpOf] at h
  · simp [hpOf] at h
def ext102 : List V → Option (V × List Eng.Obj)
  | [.c (.string s), .c (.string t)] => match t.data.toList with
    | [c] => some (.c (.int .i64 (Lib.indexByte s.data.toList c)), [])
    | _ => none
  | _ => none
theorem ext102_ok : ExtOk Tryd.prog 102 ext102 := by
  refine ⟨ent Tryd.func102 rfl rfl, fun args v objs h w Pf ι vals hr D => ?_⟩
  unfold ext102 at h
  split at h
  case h_2 => cases h
  rename_i s t
  split at h
  case h_2 => cases h
  rename_i c hc
  cases h
  have ht : t = ⟨#[c]⟩ := by
    obtain ⟨a⟩ := t
    have : a = #[c] := by
      apply Array.ext'
      simpa using hc
    rw [this]
  subst ht
  simp only [Reps, Rep] at hr
  obtain ⟨u, us, rfl, rfl, u2, us2, rfl, rfl, rfl⟩ := hr
  refine (Tryd.stringslite_Index_one s c w).mono ?_
  rintro e w' ⟨rfl, rfl⟩
  refine ⟨_, ι, 1, fun _ => False, rfl, Fwd.refl _ _ _, by simp only [Rep], ⟨fun id vr o h => ?_, D.fresh, D.fresh', fun id vr o id' vr' o' g t t' h => ?_, D.lt, D.sub, D.glob⟩⟩
  · simp [hpOf] at h
  · simp [hpOf] at h
def X : FuncId → Option (List V → Option (V × List Eng.Obj))
  | 41 => some ext41
  | 51 => some ext51
  | 84 => some ext84
  | 102 => some ext102
  | _ => none
noncomputable def C : Cfg := ⟨T, F, X, WR, OW, K⟩
theorem cT : C.T = T := by unfold C; with_reducible rfl
theorem cF : C.fn = F := by unfold C; with_reducible rfl
theorem cX : C.ext = X := by unfold C; with_reducible rfl
theorem cWR : C.wr = WR := by unfold C; with_reducible rfl
theorem cOW : C.own = OW := by unfold C; with_reducible rfl
theorem cK : C.keep = K := by unfold C; with_reducible rfl
theorem cfgOk : CfgOk Tryd.prog C where
  mixed := by kernel_rfl
  tab := tabOk
  fn := fun f fn h => okF_1 f fn h
  ext := by
    intro f m h
    have h' : X f = some m := h
    unfold X at h'
    split at h'
    · cases h'; exact ext41_ok
    · cases h'; exact ext51_ok
    · cases h'; exact ext84_ok
    · cases h'; exact ext102_ok
    · cases h'
end Go.Proofs.YtalpgpjhloohfaaDoor.Eng
