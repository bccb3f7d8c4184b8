/- The types, the functions and the loops' live slots that the laws reach, and that they are what the program has. No conditions. -/
import Derived.Test.YtmbjhcdmnjhnoaaDoorEngS
import Derived.Test.YtmbjhcdmnjhnoaaDoorProg
import Derived.KernelRfl
import Derived.Test.YtmbjhcdmnjhnoaaDoorShelf
namespace Go.Proofs.YtmbjhcdmnjhnoaaDoor.Eng
open Go Go.Proofs
set_option maxRecDepth 100000
def T : Tab
  | 3 => some ⟨.int .i64, 1, 8, [.int .i64 0], true⟩
  | 4 => some ⟨.bool, 1, 1, [.bool false], true⟩
  | 9 => some ⟨.str, 1, 16, [.string ByteArray.empty], true⟩
  | 27 => some ⟨(.slice 9), 1, 24, [.slice none 0 0], false⟩
  | 37 => some ⟨(.struct [(0, 1, false), (1, 1, false), (2, 1, false), (3, 1, false), (4, 1, false)]), 5, 48, [.int .i64 0, .string ByteArray.empty, .int .i64 0, .int .i64 0, .int .i64 0], true⟩
  | _ => none
theorem T3 : T 3 = some ⟨.int .i64, 1, 8, [.int .i64 0], true⟩ := rfl
theorem ok3 : TiOk Tryd.prog 3 ⟨.int .i64, 1, 8, [.int .i64 0], true⟩ := ⟨(by kernel_rfl : Tryd.prog.underlying 3 = _), (TiOk.of_info (z := (.int .i64 0)) (by kernel_rfl) rfl), rfl, by decide⟩
theorem T4 : T 4 = some ⟨.bool, 1, 1, [.bool false], true⟩ := rfl
theorem ok4 : TiOk Tryd.prog 4 ⟨.bool, 1, 1, [.bool false], true⟩ := ⟨(by kernel_rfl : Tryd.prog.underlying 4 = _), (TiOk.of_info (z := (.bool false)) (by kernel_rfl) rfl), rfl, by decide⟩
theorem T9 : T 9 = some ⟨.str, 1, 16, [.string ByteArray.empty], true⟩ := rfl
theorem ok9 : TiOk Tryd.prog 9 ⟨.str, 1, 16, [.string ByteArray.empty], true⟩ := ⟨(by kernel_rfl : Tryd.prog.underlying 9 = _), (TiOk.of_info (z := (.string ByteArray.empty)) (by kernel_rfl) rfl), rfl, by decide⟩
theorem T27 : T 27 = some ⟨(.slice 9), 1, 24, [.slice none 0 0], false⟩ := rfl
theorem ok27 : TiOk Tryd.prog 27 ⟨(.slice 9), 1, 24, [.slice none 0 0], false⟩ := ⟨(by kernel_rfl : Tryd.prog.underlying 27 = _), (TiOk.of_info (z := (.slice none 0 0)) (by kernel_rfl) rfl), rfl, by decide⟩
theorem T37 : T 37 = some ⟨(.struct [(0, 1, false), (1, 1, false), (2, 1, false), (3, 1, false), (4, 1, false)]), 5, 48, [.int .i64 0, .string ByteArray.empty, .int .i64 0, .int .i64 0, .int .i64 0], true⟩ := rfl
theorem ok37 : TiOk Tryd.prog 37 ⟨(.struct [(0, 1, false), (1, 1, false), (2, 1, false), (3, 1, false), (4, 1, false)]), 5, 48, [.int .i64 0, .string ByteArray.empty, .int .i64 0, .int .i64 0, .int .i64 0], true⟩ := ⟨TiOk.of_struct Tryd.underlying37 (by kernel_rfl), (TiOk.of_info (z := (.agg #[.int .i64 0, .string ByteArray.empty, .int .i64 0, .int .i64 0, .int .i64 0])) (by kernel_rfl) rfl), rfl, by decide⟩
theorem tabOk : TabOk Tryd.prog T := by
  intro t i h
  unfold T at h
  split at h
  · cases h; exact ok3
  · cases h; exact ok4
  · cases h; exact ok9
  · cases h; exact ok27
  · cases h; exact ok37
  · cases h
set_option maxHeartbeats 1000000
def WR (f : FuncId) : Bool := f == 999999
def OW (f : FuncId) : Bool := f == 999999
noncomputable def F : FuncId → Option Func
  | 3 => some Tryd.f3
  | 4 => some Tryd.f4
  | 6 => some Tryd.f6
  | 7 => some Tryd.f7
  | 8 => some Tryd.f8
  | 9 => some Tryd.f9
  | 15 => some Tryd.f15
  | 16 => some Tryd.f16
  | 17 => some Tryd.f17
  | 19 => some Tryd.f19
  | 20 => some Tryd.f20
  | 21 => some Tryd.f21
  | 22 => some Tryd.f22
  | 23 => some Tryd.f23
  | 24 => some Tryd.f24
  | 25 => some Tryd.f25
  | _ => none
theorem F3 : F 3 = some Tryd.f3 := rfl
theorem chk3 : ∀ c, Tryd.f3.body = some c → chk WR Tryd.f3.ntmps c = true := by intro c h; cases h; decide +kernel
theorem F4 : F 4 = some Tryd.f4 := rfl
theorem chk4 : ∀ c, Tryd.f4.body = some c → chk WR Tryd.f4.ntmps c = true := by intro c h; cases h; decide +kernel
theorem F6 : F 6 = some Tryd.f6 := rfl
theorem chk6 : ∀ c, Tryd.f6.body = some c → chk WR Tryd.f6.ntmps c = true := by intro c h; cases h; decide +kernel
theorem F7 : F 7 = some Tryd.f7 := rfl
theorem chk7 : ∀ c, Tryd.f7.body = some c → chk WR Tryd.f7.ntmps c = true := by intro c h; cases h; decide +kernel
theorem F8 : F 8 = some Tryd.f8 := rfl
theorem chk8 : ∀ c, Tryd.f8.body = some c → chk WR Tryd.f8.ntmps c = true := by intro c h; cases h; decide +kernel
theorem F9 : F 9 = some Tryd.f9 := rfl
theorem chk9 : ∀ c, Tryd.f9.body = some c → chk WR Tryd.f9.ntmps c = true := by intro c h; cases h; decide +kernel
theorem F15 : F 15 = some Tryd.f15 := rfl
theorem chk15 : ∀ c, Tryd.f15.body = some c → chk WR Tryd.f15.ntmps c = true := by intro c h; cases h; decide +kernel
theorem F16 : F 16 = some Tryd.f16 := rfl
theorem chk16 : ∀ c, Tryd.f16.body = some c → chk WR Tryd.f16.ntmps c = true := by intro c h; cases h; decide +kernel
theorem F17 : F 17 = some Tryd.f17 := rfl
theorem chk17 : ∀ c, Tryd.f17.body = some c → chk WR Tryd.f17.ntmps c = true := by intro c h; cases h; decide +kernel
theorem F19 : F 19 = some Tryd.f19 := rfl
theorem chk19 : ∀ c, Tryd.f19.body = some c → chk WR Tryd.f19.ntmps c = true := by intro c h; cases h; decide +kernel
theorem F20 : F 20 = some Tryd.f20 := rfl
theorem chk20 : ∀ c, Tryd.f20.body = some c → chk WR Tryd.f20.ntmps c = true := by intro c h; cases h; decide +kernel
theorem F21 : F 21 = some Tryd.f21 := rfl
theorem chk21 : ∀ c, Tryd.f21.body = some c → chk WR Tryd.f21.ntmps c = true := by intro c h; cases h; decide +kernel
theorem F22 : F 22 = some Tryd.f22 := rfl
theorem chk22 : ∀ c, Tryd.f22.body = some c → chk WR Tryd.f22.ntmps c = true := by intro c h; cases h; decide +kernel
theorem F23 : F 23 = some Tryd.f23 := rfl
theorem chk23 : ∀ c, Tryd.f23.body = some c → chk WR Tryd.f23.ntmps c = true := by intro c h; cases h; decide +kernel
theorem F24 : F 24 = some Tryd.f24 := rfl
theorem chk24 : ∀ c, Tryd.f24.body = some c → chk WR Tryd.f24.ntmps c = true := by intro c h; cases h; decide +kernel
theorem F25 : F 25 = some Tryd.f25 := rfl
theorem chk25 : ∀ c, Tryd.f25.body = some c → chk WR Tryd.f25.ntmps c = true := by intro c h; cases h; decide +kernel
noncomputable def R3_0 : Array Oper := opsAt Tryd.f3 [0]
noncomputable def R3_1 : Array Oper := opsAt Tryd.f3 [1, 0]
noncomputable def R3_2 : Array Oper := opsAt Tryd.f3 [1, 1, 0]
noncomputable def R3_3 : Array Oper := opsAt Tryd.f3 [1, 1, 1, 0, 0]
noncomputable def R3_4 : Array Oper := opsAt Tryd.f3 [1, 1, 1, 0, 1, 0, 0]
noncomputable def R3_5 : Array Oper := opsAt Tryd.f3 [1, 1, 1, 1, 0]
theorem code3 : Tryd.f3.body = some (.seq (.region 0 R3_0 false) (.seq (.region 1 R3_1 false) (.seq (.region 2 R3_2 false) (.seq (.seq (.region 3 R3_3 false) (.cond (.tmp 24) (.seq (.region 4 R3_4 false) .ret) .skip)) (.seq (.region 5 R3_5 false) .ret))))) := by kernel_rfl
noncomputable def R4_0 : Array Oper := opsAt Tryd.f4 [0]
noncomputable def R4_1 : Array Oper := opsAt Tryd.f4 [1, 0]
noncomputable def R4_2 : Array Oper := opsAt Tryd.f4 [1, 1, 0]
noncomputable def R4_3 : Array Oper := opsAt Tryd.f4 [1, 1, 1, 0, 0]
noncomputable def R4_4 : Array Oper := opsAt Tryd.f4 [1, 1, 1, 0, 1, 0, 0]
noncomputable def R4_5 : Array Oper := opsAt Tryd.f4 [1, 1, 1, 1, 0]
theorem code4 : Tryd.f4.body = some (.seq (.region 0 R4_0 false) (.seq (.region 1 R4_1 false) (.seq (.region 2 R4_2 false) (.seq (.seq (.region 3 R4_3 false) (.cond (.tmp 28) (.seq (.region 4 R4_4 false) .ret) .skip)) (.seq (.region 5 R4_5 false) .ret))))) := by kernel_rfl
noncomputable def R6_0 : Array Oper := opsAt Tryd.f6 [0]
noncomputable def R6_1 : Array Oper := opsAt Tryd.f6 [1, 0, 0]
noncomputable def R6_2 : Array Oper := opsAt Tryd.f6 [1, 0, 1, 0, 0]
noncomputable def R6_3 : Array Oper := opsAt Tryd.f6 [1, 1, 0]
theorem code6 : Tryd.f6.body = some (.seq (.region 0 R6_0 false) (.seq (.seq (.region 1 R6_1 false) (.cond (.tmp 6) (.seq (.region 2 R6_2 false) .ret) .skip)) (.seq (.region 3 R6_3 false) .ret))) := by kernel_rfl
noncomputable def R7_0 : Array Oper := opsAt Tryd.f7 [0]
noncomputable def R7_1 : Array Oper := opsAt Tryd.f7 [1, 0, 0]
noncomputable def R7_2 : Array Oper := opsAt Tryd.f7 [1, 0, 1, 0, 0]
noncomputable def R7_3 : Array Oper := opsAt Tryd.f7 [1, 1, 0]
theorem code7 : Tryd.f7.body = some (.seq (.region 0 R7_0 false) (.seq (.seq (.region 1 R7_1 false) (.cond (.tmp 6) (.seq (.region 2 R7_2 false) .ret) .skip)) (.seq (.region 3 R7_3 false) .ret))) := by kernel_rfl
noncomputable def R8_0 : Array Oper := opsAt Tryd.f8 [0]
noncomputable def R8_1 : Array Oper := opsAt Tryd.f8 [1, 0, 0]
noncomputable def R8_2 : Array Oper := opsAt Tryd.f8 [1, 0, 1, 0, 0]
noncomputable def R8_3 : Array Oper := opsAt Tryd.f8 [1, 1, 0]
theorem code8 : Tryd.f8.body = some (.seq (.region 0 R8_0 false) (.seq (.seq (.region 1 R8_1 false) (.cond (.tmp 13) (.seq (.region 2 R8_2 false) .ret) .skip)) (.seq (.region 3 R8_3 false) .ret))) := by kernel_rfl
noncomputable def R9_0 : Array Oper := opsAt Tryd.f9 [0]
noncomputable def R9_1 : Array Oper := opsAt Tryd.f9 [1, 0]
noncomputable def R9_2 : Array Oper := opsAt Tryd.f9 [1, 1, 0, 0]
noncomputable def R9_3 : Array Oper := opsAt Tryd.f9 [1, 1, 0, 1, 0, 0]
noncomputable def R9_4 : Array Oper := opsAt Tryd.f9 [1, 1, 1, 0]
noncomputable def R9_5 : Array Oper := opsAt Tryd.f9 [1, 1, 1, 1, 0, 0]
noncomputable def R9_6 : Array Oper := opsAt Tryd.f9 [1, 1, 1, 1, 0, 1, 0]
noncomputable def R9_7 : Array Oper := opsAt Tryd.f9 [1, 1, 1, 1, 1, 0]
theorem code9 : Tryd.f9.body = some (.seq (.region 0 R9_0 false) (.seq (.region 1 R9_1 false) (.seq (.seq (.region 2 R9_2 false) (.cond (.tmp 20) (.seq (.region 3 R9_3 false) .ret) .skip)) (.seq (.region 4 R9_4 false) (.seq (.seq (.region 5 R9_5 false) (.cond (.tmp 22) (.region 6 R9_6 false) .skip)) (.seq (.region 7 R9_7 true) .ret)))))) := by kernel_rfl
noncomputable def R15_0 : Array Oper := opsAt Tryd.f15 [0]
noncomputable def R15_1 : Array Oper := opsAt Tryd.f15 [1, 0]
theorem code15 : Tryd.f15.body = some (.seq (.region 0 R15_0 false) (.seq (.region 1 R15_1 false) .ret)) := by kernel_rfl
noncomputable def R16_0 : Array Oper := opsAt Tryd.f16 [0]
noncomputable def R16_1 : Array Oper := opsAt Tryd.f16 [1, 0, 0]
noncomputable def R16_2 : Array Oper := opsAt Tryd.f16 [1, 0, 1, 0, 0]
noncomputable def R16_3 : Array Oper := opsAt Tryd.f16 [1, 1, 0, 0]
noncomputable def R16_4 : Array Oper := opsAt Tryd.f16 [1, 1, 0, 1, 0, 0]
noncomputable def R16_5 : Array Oper := opsAt Tryd.f16 [1, 1, 1, 0]
theorem code16 : Tryd.f16.body = some (.seq (.region 0 R16_0 false) (.seq (.seq (.region 1 R16_1 false) (.cond (.tmp 4) (.seq (.region 2 R16_2 false) .ret) .skip)) (.seq (.seq (.region 3 R16_3 false) (.cond (.tmp 10) (.seq (.region 4 R16_4 false) .ret) .skip)) (.seq (.region 5 R16_5 true) .ret)))) := by kernel_rfl
noncomputable def R17_0 : Array Oper := opsAt Tryd.f17 [0]
noncomputable def R17_1 : Array Oper := opsAt Tryd.f17 [1, 0]
theorem code17 : Tryd.f17.body = some (.seq (.region 0 R17_0 false) (.seq (.region 1 R17_1 false) .ret)) := by kernel_rfl
noncomputable def R19_0 : Array Oper := opsAt Tryd.f19 [0]
noncomputable def R19_1 : Array Oper := opsAt Tryd.f19 [1, 0]
theorem code19 : Tryd.f19.body = some (.seq (.region 0 R19_0 false) (.seq (.region 1 R19_1 false) .ret)) := by kernel_rfl
noncomputable def R20_0 : Array Oper := opsAt Tryd.f20 [0]
noncomputable def R20_1 : Array Oper := opsAt Tryd.f20 [1, 0]
theorem code20 : Tryd.f20.body = some (.seq (.region 0 R20_0 false) (.seq (.region 1 R20_1 false) .ret)) := by kernel_rfl
noncomputable def R21_0 : Array Oper := opsAt Tryd.f21 [0]
noncomputable def R21_1 : Array Oper := opsAt Tryd.f21 [1, 0]
noncomputable def R21_2 : Array Oper := opsAt Tryd.f21 [1, 1, 0, 0]
noncomputable def R21_3 : Array Oper := opsAt Tryd.f21 [1, 1, 0, 1, 0, 0]
noncomputable def R21_4 : Array Oper := opsAt Tryd.f21 [1, 1, 0, 1, 0, 1]
noncomputable def R21_5 : Array Oper := opsAt Tryd.f21 [1, 1, 1, 0]
theorem code21 : Tryd.f21.body = some (.seq (.region 0 R21_0 false) (.seq (.region 1 R21_1 false) (.seq (.seq (.region 2 R21_2 false) (.cond (.tmp 5) (.seq (.region 3 R21_3 false) (.region 4 R21_4 false)) .skip)) (.seq (.region 5 R21_5 false) .ret)))) := by kernel_rfl
noncomputable def R22_0 : Array Oper := opsAt Tryd.f22 [0]
noncomputable def R22_1 : Array Oper := opsAt Tryd.f22 [1, 0]
theorem code22 : Tryd.f22.body = some (.seq (.region 0 R22_0 false) (.seq (.region 1 R22_1 false) .ret)) := by kernel_rfl
noncomputable def R23_0 : Array Oper := opsAt Tryd.f23 [0]
noncomputable def R23_1 : Array Oper := opsAt Tryd.f23 [1, 0, 0]
noncomputable def R23_2 : Array Oper := opsAt Tryd.f23 [1, 0, 1, 0, 0]
noncomputable def R23_3 : Array Oper := opsAt Tryd.f23 [1, 0, 1, 0, 1, 0, 0]
noncomputable def R23_4 : Array Oper := opsAt Tryd.f23 [1, 0, 1, 0, 1, 1, 0]
noncomputable def R23_5 : Array Oper := opsAt Tryd.f23 [1, 0, 1, 0, 1, 1, 1, 0, 0]
noncomputable def R23_6 : Array Oper := opsAt Tryd.f23 [1, 0, 1, 0, 1, 1, 1, 1, 0]
noncomputable def R23_7 : Array Oper := opsAt Tryd.f23 [1, 0, 1, 0, 1, 1, 1, 1, 1, 0, 0]
noncomputable def R23_8 : Array Oper := opsAt Tryd.f23 [1, 0, 1, 0, 1, 1, 1, 1, 1, 1, 0]
noncomputable def R23_9 : Array Oper := opsAt Tryd.f23 [1, 0, 1, 0, 1, 1, 1, 1, 1, 1, 1, 0, 0]
noncomputable def R23_10 : Array Oper := opsAt Tryd.f23 [1, 0, 1, 0, 1, 1, 1, 1, 1, 1, 1, 1, 0]
noncomputable def R23_11 : Array Oper := opsAt Tryd.f23 [1, 0, 1, 0, 1, 1, 1, 1, 1, 1, 1, 1, 1, 0, 0]
noncomputable def R23_12 : Array Oper := opsAt Tryd.f23 [1, 0, 1, 0, 1, 1, 1, 1, 1, 1, 1, 1, 1, 1, 0]
noncomputable def R23_13 : Array Oper := opsAt Tryd.f23 [1, 0, 1, 0, 1, 1, 1, 1, 1, 1, 1, 1, 1, 1, 1, 0, 0]
noncomputable def R23_14 : Array Oper := opsAt Tryd.f23 [1, 0, 1, 0, 1, 1, 1, 1, 1, 1, 1, 1, 1, 1, 1, 1, 0]
noncomputable def R23_15 : Array Oper := opsAt Tryd.f23 [1, 0, 1, 0, 1, 1, 1, 1, 1, 1, 1, 1, 1, 1, 1, 1, 1, 0, 0]
noncomputable def R23_16 : Array Oper := opsAt Tryd.f23 [1, 0, 1, 0, 1, 1, 1, 1, 1, 1, 1, 1, 1, 1, 1, 1, 1, 1, 0]
noncomputable def R23_17 : Array Oper := opsAt Tryd.f23 [1, 0, 1, 0, 1, 1, 1, 1, 1, 1, 1, 1, 1, 1, 1, 1, 1, 1, 1, 0, 0]
noncomputable def R23_18 : Array Oper := opsAt Tryd.f23 [1, 1, 0]
theorem code23 : Tryd.f23.body = some (.seq (.region 0 R23_0 false) (.seq (.seq (.region 1 R23_1 false) (.block 0 (.seq (.region 2 R23_2 false) (.cond (.tmp 5) (.seq (.region 3 R23_3 false) .ret) (.seq (.region 4 R23_4 false) (.cond (.tmp 8) (.seq (.region 5 R23_5 false) .ret) (.seq (.region 6 R23_6 false) (.cond (.tmp 11) (.seq (.region 7 R23_7 false) .ret) (.seq (.region 8 R23_8 false) (.cond (.tmp 14) (.seq (.region 9 R23_9 false) .ret) (.seq (.region 10 R23_10 false) (.cond (.tmp 17) (.seq (.region 11 R23_11 false) .ret) (.seq (.region 12 R23_12 false) (.cond (.tmp 20) (.seq (.region 13 R23_13 false) .ret) (.seq (.region 14 R23_14 false) (.cond (.tmp 23) (.seq (.region 15 R23_15 false) .ret) (.seq (.region 16 R23_16 false) (.cond (.tmp 26) (.seq (.region 17 R23_17 false) .ret) .skip)))))))))))))))))) (.seq (.region 18 R23_18 false) .ret))) := by kernel_rfl
noncomputable def R24_0 : Array Oper := opsAt Tryd.f24 [0]
noncomputable def R24_1 : Array Oper := opsAt Tryd.f24 [1, 0]
theorem code24 : Tryd.f24.body = some (.seq (.region 0 R24_0 false) (.seq (.region 1 R24_1 false) .ret)) := by kernel_rfl
noncomputable def R25_0 : Array Oper := opsAt Tryd.f25 [0]
noncomputable def R25_1 : Array Oper := opsAt Tryd.f25 [1, 0, 0]
noncomputable def R25_2 : Array Oper := opsAt Tryd.f25 [1, 0, 1, 0, 0]
noncomputable def R25_3 : Array Oper := opsAt Tryd.f25 [1, 1, 0]
theorem code25 : Tryd.f25.body = some (.seq (.region 0 R25_0 false) (.seq (.seq (.region 1 R25_1 false) (.cond (.tmp 4) (.seq (.region 2 R25_2 false) .ret) .skip)) (.seq (.region 3 R25_3 false) .ret))) := by kernel_rfl
def K : FuncId → Nat → List Nat
  | _, _ => []
theorem ent {f : FuncId} {fn : Func} (h : Tryd.prog.funcs[f]? = some fn) (hb : fn.body.isSome = true) (hn : (fn.name == "runtime.NumGoroutine") = false) : Enters Tryd.prog f := enters_mk h hb hn
def ext18 : List V → Option (V × List Eng.Obj)
  | [.c (.int .i64 n)] => if -9223372036854775808 ≤ n ∧ n ≤ 9223372036854775807 then some (.c (.string ⟨(Lib.itoa n).toArray⟩), []) else none
  | _ => none
theorem ext18_ok : ExtOk Tryd.prog 18 ext18 := by
  refine ⟨ent Tryd.func18 rfl rfl, fun args v objs h w Pf ι vals hr D => ?_⟩
  unfold ext18 at h
  split at h
  case h_2 => cases h
  rename_i n
  split at h
  case isFalse => cases h
  rename_i hn
  cases h
  simp only [Reps, Rep] at hr
  obtain ⟨u, us, rfl, rfl, rfl⟩ := hr
  refine (Tryd.strconv_Itoa n hn.1 hn.2 w D.glob.2).mono ?_
  rintro e w' ⟨rfl, k, os, rfl⟩
  have hp : ∀ g, Pf true g → (Sort.grow (w.drewN k) os).heap[g]? = w.heap[g]? := fun g hg => by
    have := D.lt g hg
    show (w.heap ++ os)[g]? = w.heap[g]?
    rw [Array.getElem?_append_left this]
  refine ⟨_, ι, 1, fun _ => False, rfl, ⟨rfl, rfl, rfl, ?_, hp, fun _ _ _ h => h⟩, by simp only [Rep], ⟨fun id vr o h => ?_, D.fresh, D.fresh', fun id vr o id' vr' o' g t t' h => ?_, fun g hg => ?_, D.sub, D.gl hp⟩⟩
  · show w.heap.size ≤ (w.heap ++ os).size
    rw [Array.size_append]; omega
  · simp [hpOf] at h
  · simp [hpOf] at h
  · have := D.lt g hg
    show g < (w.heap ++ os).size
    rw [Array.size_append]; omega
def X : FuncId → Option (List V → Option (V × List Eng.Obj))
  | 18 => some ext18
  | _ => none
noncomputable def C : Cfg := ⟨T, F, X, WR, OW, K⟩
theorem cT : C.T = T := rfl
theorem cF : C.fn = F := rfl
theorem cX : C.ext = X := rfl
theorem cWR : C.wr = WR := rfl
theorem cOW : C.own = OW := rfl
theorem cK : C.keep = K := rfl
theorem cfgOk : CfgOk Tryd.prog C where
  mixed := by kernel_rfl
  tab := tabOk
  fn := by
    intro f fn h
    show Tryd.prog.funcs[f]? = some fn ∧ _
    have h' : F f = some fn := h
    unfold F at h'
    split at h'
    · cases h'; exact ⟨Tryd.func3, ent Tryd.func3 rfl rfl, chk3⟩
    · cases h'; exact ⟨Tryd.func4, ent Tryd.func4 rfl rfl, chk4⟩
    · cases h'; exact ⟨Tryd.func6, ent Tryd.func6 rfl rfl, chk6⟩
    · cases h'; exact ⟨Tryd.func7, ent Tryd.func7 rfl rfl, chk7⟩
    · cases h'; exact ⟨Tryd.func8, ent Tryd.func8 rfl rfl, chk8⟩
    · cases h'; exact ⟨Tryd.func9, ent Tryd.func9 rfl rfl, chk9⟩
    · cases h'; exact ⟨Tryd.func15, ent Tryd.func15 rfl rfl, chk15⟩
    · cases h'; exact ⟨Tryd.func16, ent Tryd.func16 rfl rfl, chk16⟩
    · cases h'; exact ⟨Tryd.func17, ent Tryd.func17 rfl rfl, chk17⟩
    · cases h'; exact ⟨Tryd.func19, ent Tryd.func19 rfl rfl, chk19⟩
    · cases h'; exact ⟨Tryd.func20, ent Tryd.func20 rfl rfl, chk20⟩
    · cases h'; exact ⟨Tryd.func21, ent Tryd.func21 rfl rfl, chk21⟩
    · cases h'; exact ⟨Tryd.func22, ent Tryd.func22 rfl rfl, chk22⟩
    · cases h'; exact ⟨Tryd.func23, ent Tryd.func23 rfl rfl, chk23⟩
    · cases h'; exact ⟨Tryd.func24, ent Tryd.func24 rfl rfl, chk24⟩
    · cases h'; exact ⟨Tryd.func25, ent Tryd.func25 rfl rfl, chk25⟩
    · cases h'
  ext := by
    intro f m h
    have h' : X f = some m := h
    unfold X at h'
    split at h'
    · cases h'; exact ext18_ok
    · cases h'
end Go.Proofs.YtmbjhcdmnjhnoaaDoor.Eng
