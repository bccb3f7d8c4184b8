/- The types, the functions and the loops' live slots that the laws reach, and that they are what the program has. No conditions. -/
import Derived.Test.YtfgoljfggkkpnaaDoorEngS
import Derived.Test.YtfgoljfggkkpnaaDoorProg
import Derived.KernelRfl
import Derived.Test.YtfgoljfggkkpnaaDoorShelf
namespace Go.Proofs.YtfgoljfggkkpnaaDoor.Eng
open Go Go.Proofs
set_option maxRecDepth 100000
def T : Tab
  | 3 => some ⟨.int .i64, 1, 8, [.int .i64 0], true⟩
  | 4 => some ⟨.bool, 1, 1, [.bool false], true⟩
  | 5 => some ⟨.int .u8, 1, 1, [.int .u8 0], true⟩
  | 9 => some ⟨.str, 1, 16, [.string ByteArray.empty], true⟩
  | 45 => some ⟨(.slice 9), 1, 24, [.slice none 0 0], false⟩
  | _ => none
theorem T3 : T 3 = some ⟨.int .i64, 1, 8, [.int .i64 0], true⟩ := rfl
theorem ok3 : TiOk Tryd.prog 3 ⟨.int .i64, 1, 8, [.int .i64 0], true⟩ := ⟨(by kernel_rfl : Tryd.prog.underlying 3 = _), (TiOk.of_info (z := (.int .i64 0)) (by kernel_rfl) rfl), rfl, by decide⟩
theorem T4 : T 4 = some ⟨.bool, 1, 1, [.bool false], true⟩ := rfl
theorem ok4 : TiOk Tryd.prog 4 ⟨.bool, 1, 1, [.bool false], true⟩ := ⟨(by kernel_rfl : Tryd.prog.underlying 4 = _), (TiOk.of_info (z := (.bool false)) (by kernel_rfl) rfl), rfl, by decide⟩
theorem T5 : T 5 = some ⟨.int .u8, 1, 1, [.int .u8 0], true⟩ := rfl
theorem ok5 : TiOk Tryd.prog 5 ⟨.int .u8, 1, 1, [.int .u8 0], true⟩ := ⟨(by kernel_rfl : Tryd.prog.underlying 5 = _), (TiOk.of_info (z := (.int .u8 0)) (by kernel_rfl) rfl), rfl, by decide⟩
theorem T9 : T 9 = some ⟨.str, 1, 16, [.string ByteArray.empty], true⟩ := rfl
theorem ok9 : TiOk Tryd.prog 9 ⟨.str, 1, 16, [.string ByteArray.empty], true⟩ := ⟨(by kernel_rfl : Tryd.prog.underlying 9 = _), (TiOk.of_info (z := (.string ByteArray.empty)) (by kernel_rfl) rfl), rfl, by decide⟩
theorem T45 : T 45 = some ⟨(.slice 9), 1, 24, [.slice none 0 0], false⟩ := rfl
theorem ok45 : TiOk Tryd.prog 45 ⟨(.slice 9), 1, 24, [.slice none 0 0], false⟩ := ⟨(by kernel_rfl : Tryd.prog.underlying 45 = _), (TiOk.of_info (z := (.slice none 0 0)) (by kernel_rfl) rfl), rfl, by decide⟩
theorem tabOk : TabOk Tryd.prog T := by
  intro t i h
  unfold T at h
  split at h
  · cases h; exact ok3
  · cases h; exact ok4
  · cases h; exact ok5
  · cases h; exact ok9
  · cases h; exact ok45
  · cases h
set_option maxHeartbeats 1000000
def WR (f : FuncId) : Bool := f == 999999
def OW (f : FuncId) : Bool := f == 999999
noncomputable def F : FuncId → Option Func
  | 3 => some Tryd.f3
  | 5 => some Tryd.f5
  | 8 => some Tryd.f8
  | 9 => some Tryd.f9
  | 15 => some Tryd.f15
  | 16 => some Tryd.f16
  | 31 => some Tryd.f31
  | 32 => some Tryd.f32
  | 33 => some Tryd.f33
  | 35 => some Tryd.f35
  | 44 => some Tryd.f44
  | 45 => some Tryd.f45
  | 58 => some Tryd.f58
  | 59 => some Tryd.f59
  | 70 => some Tryd.f70
  | _ => none
theorem F3 : F 3 = some Tryd.f3 := rfl
theorem chk3 : ∀ c, Tryd.f3.body = some c → chk WR Tryd.f3.ntmps c = true := by intro c h; cases h; decide +kernel
theorem F5 : F 5 = some Tryd.f5 := rfl
theorem chk5 : ∀ c, Tryd.f5.body = some c → chk WR Tryd.f5.ntmps c = true := by intro c h; cases h; decide +kernel
theorem F8 : F 8 = some Tryd.f8 := rfl
theorem chk8 : ∀ c, Tryd.f8.body = some c → chk WR Tryd.f8.ntmps c = true := by intro c h; cases h; decide +kernel
theorem F9 : F 9 = some Tryd.f9 := rfl
theorem chk9 : ∀ c, Tryd.f9.body = some c → chk WR Tryd.f9.ntmps c = true := by intro c h; cases h; decide +kernel
theorem F15 : F 15 = some Tryd.f15 := rfl
theorem chk15 : ∀ c, Tryd.f15.body = some c → chk WR Tryd.f15.ntmps c = true := by intro c h; cases h; decide +kernel
theorem F16 : F 16 = some Tryd.f16 := rfl
theorem chk16 : ∀ c, Tryd.f16.body = some c → chk WR Tryd.f16.ntmps c = true := by intro c h; cases h; decide +kernel
theorem F31 : F 31 = some Tryd.f31 := rfl
theorem chk31 : ∀ c, Tryd.f31.body = some c → chk WR Tryd.f31.ntmps c = true := by intro c h; cases h; decide +kernel
theorem F32 : F 32 = some Tryd.f32 := rfl
theorem chk32 : ∀ c, Tryd.f32.body = some c → chk WR Tryd.f32.ntmps c = true := by intro c h; cases h; decide +kernel
theorem F33 : F 33 = some Tryd.f33 := rfl
theorem chk33 : ∀ c, Tryd.f33.body = some c → chk WR Tryd.f33.ntmps c = true := by intro c h; cases h; decide +kernel
theorem F35 : F 35 = some Tryd.f35 := rfl
theorem chk35 : ∀ c, Tryd.f35.body = some c → chk WR Tryd.f35.ntmps c = true := by intro c h; cases h; decide +kernel
theorem F44 : F 44 = some Tryd.f44 := rfl
theorem chk44 : ∀ c, Tryd.f44.body = some c → chk WR Tryd.f44.ntmps c = true := by intro c h; cases h; decide +kernel
theorem F45 : F 45 = some Tryd.f45 := rfl
theorem chk45 : ∀ c, Tryd.f45.body = some c → chk WR Tryd.f45.ntmps c = true := by intro c h; cases h; decide +kernel
theorem F58 : F 58 = some Tryd.f58 := rfl
theorem chk58 : ∀ c, Tryd.f58.body = some c → chk WR Tryd.f58.ntmps c = true := by intro c h; cases h; decide +kernel
theorem F59 : F 59 = some Tryd.f59 := rfl
theorem chk59 : ∀ c, Tryd.f59.body = some c → chk WR Tryd.f59.ntmps c = true := by intro c h; cases h; decide +kernel
theorem F70 : F 70 = some Tryd.f70 := rfl
theorem chk70 : ∀ c, Tryd.f70.body = some c → chk WR Tryd.f70.ntmps c = true := by intro c h; cases h; decide +kernel
noncomputable def R3_0 : Array Oper := opsAt Tryd.f3 [0]
noncomputable def R3_1 : Array Oper := opsAt Tryd.f3 [1, 0, 0]
noncomputable def R3_2 : Array Oper := opsAt Tryd.f3 [1, 0, 1, 0, 0]
noncomputable def R3_3 : Array Oper := opsAt Tryd.f3 [1, 1, 0]
noncomputable def R3_4 : Array Oper := opsAt Tryd.f3 [1, 1, 1, 0]
noncomputable def R3_5 : Array Oper := opsAt Tryd.f3 [1, 1, 1, 1, 0, 0]
noncomputable def R3_6 : Array Oper := opsAt Tryd.f3 [1, 1, 1, 1, 0, 1, 0, 0]
noncomputable def R3_7 : Array Oper := opsAt Tryd.f3 [1, 1, 1, 1, 1, 0]
theorem code3 : Tryd.f3.body = some (.seq (.region 0 R3_0 false) (.seq (.seq (.region 1 R3_1 false) (.cond (.tmp 9) (.seq (.region 2 R3_2 false) .ret) .skip)) (.seq (.region 3 R3_3 false) (.seq (.region 4 R3_4 false) (.seq (.seq (.region 5 R3_5 false) (.cond (.tmp 27) (.seq (.region 6 R3_6 false) .ret) .skip)) (.seq (.region 7 R3_7 false) .ret)))))) := by kernel_rfl
noncomputable def R5_0 : Array Oper := opsAt Tryd.f5 [0]
noncomputable def R5_1 : Array Oper := opsAt Tryd.f5 [1, 0, 0]
noncomputable def R5_2 : Array Oper := opsAt Tryd.f5 [1, 0, 1, 0, 0]
noncomputable def R5_3 : Array Oper := opsAt Tryd.f5 [1, 1, 0]
noncomputable def R5_4 : Array Oper := opsAt Tryd.f5 [1, 1, 1, 0]
noncomputable def R5_5 : Array Oper := opsAt Tryd.f5 [1, 1, 1, 1, 0, 0]
noncomputable def R5_6 : Array Oper := opsAt Tryd.f5 [1, 1, 1, 1, 0, 1, 0, 0]
noncomputable def R5_7 : Array Oper := opsAt Tryd.f5 [1, 1, 1, 1, 1, 0]
theorem code5 : Tryd.f5.body = some (.seq (.region 0 R5_0 false) (.seq (.seq (.region 1 R5_1 false) (.cond (.tmp 9) (.seq (.region 2 R5_2 false) .ret) .skip)) (.seq (.region 3 R5_3 false) (.seq (.region 4 R5_4 false) (.seq (.seq (.region 5 R5_5 false) (.cond (.tmp 27) (.seq (.region 6 R5_6 false) .ret) .skip)) (.seq (.region 7 R5_7 false) .ret)))))) := by kernel_rfl
noncomputable def R8_0 : Array Oper := opsAt Tryd.f8 [0]
noncomputable def R8_1 : Array Oper := opsAt Tryd.f8 [1, 0, 0]
noncomputable def R8_2 : Array Oper := opsAt Tryd.f8 [1, 0, 1, 0, 0]
noncomputable def R8_3 : Array Oper := opsAt Tryd.f8 [1, 1, 0]
theorem code8 : Tryd.f8.body = some (.seq (.region 0 R8_0 false) (.seq (.seq (.region 1 R8_1 false) (.cond (.tmp 16) (.seq (.region 2 R8_2 false) .ret) .skip)) (.seq (.region 3 R8_3 false) .ret))) := by kernel_rfl
noncomputable def R9_0 : Array Oper := opsAt Tryd.f9 [0]
noncomputable def R9_1 : Array Oper := opsAt Tryd.f9 [1, 0, 0]
noncomputable def R9_2 : Array Oper := opsAt Tryd.f9 [1, 0, 1, 0, 0]
noncomputable def R9_3 : Array Oper := opsAt Tryd.f9 [1, 1, 0]
noncomputable def R9_4 : Array Oper := opsAt Tryd.f9 [1, 1, 1, 0, 0]
noncomputable def R9_5 : Array Oper := opsAt Tryd.f9 [1, 1, 1, 0, 1, 0, 0]
noncomputable def R9_6 : Array Oper := opsAt Tryd.f9 [1, 1, 1, 1, 0]
theorem code9 : Tryd.f9.body = some (.seq (.region 0 R9_0 false) (.seq (.seq (.region 1 R9_1 false) (.cond (.tmp 11) (.seq (.region 2 R9_2 false) .ret) .skip)) (.seq (.region 3 R9_3 false) (.seq (.seq (.region 4 R9_4 false) (.cond (.tmp 20) (.seq (.region 5 R9_5 false) .ret) .skip)) (.seq (.region 6 R9_6 false) .ret))))) := by kernel_rfl
noncomputable def R15_0 : Array Oper := opsAt Tryd.f15 [0]
noncomputable def R15_1 : Array Oper := opsAt Tryd.f15 [1, 0, 0]
noncomputable def R15_2 : Array Oper := opsAt Tryd.f15 [1, 0, 1, 0, 0]
noncomputable def R15_3 : Array Oper := opsAt Tryd.f15 [1, 1, 0]
noncomputable def R15_4 : Array Oper := opsAt Tryd.f15 [1, 1, 1, 0, 0]
noncomputable def R15_5 : Array Oper := opsAt Tryd.f15 [1, 1, 1, 0, 1, 0, 0]
noncomputable def R15_6 : Array Oper := opsAt Tryd.f15 [1, 1, 1, 1, 0]
theorem code15 : Tryd.f15.body = some (.seq (.region 0 R15_0 false) (.seq (.seq (.region 1 R15_1 false) (.cond (.tmp 7) (.seq (.region 2 R15_2 false) .ret) .skip)) (.seq (.region 3 R15_3 false) (.seq (.seq (.region 4 R15_4 false) (.cond (.tmp 15) (.seq (.region 5 R15_5 false) .ret) .skip)) (.seq (.region 6 R15_6 false) .ret))))) := by kernel_rfl
noncomputable def R16_0 : Array Oper := opsAt Tryd.f16 [0]
noncomputable def R16_1 : Array Oper := opsAt Tryd.f16 [1, 0]
noncomputable def R16_2 : Array Oper := opsAt Tryd.f16 [1, 1, 0]
noncomputable def R16_3 : Array Oper := opsAt Tryd.f16 [1, 1, 1, 0, 0]
noncomputable def R16_4 : Array Oper := opsAt Tryd.f16 [1, 1, 1, 0, 1, 0, 0]
noncomputable def R16_5 : Array Oper := opsAt Tryd.f16 [1, 1, 1, 1, 0]
theorem code16 : Tryd.f16.body = some (.seq (.region 0 R16_0 false) (.seq (.region 1 R16_1 false) (.seq (.region 2 R16_2 false) (.seq (.seq (.region 3 R16_3 false) (.cond (.tmp 30) (.seq (.region 4 R16_4 false) .ret) .skip)) (.seq (.region 5 R16_5 false) .ret))))) := by kernel_rfl
noncomputable def R31_0 : Array Oper := opsAt Tryd.f31 [0]
noncomputable def R31_1 : Array Oper := opsAt Tryd.f31 [1, 0, 0]
noncomputable def R31_2 : Array Oper := opsAt Tryd.f31 [1, 0, 1, 0, 0, 0, 0]
noncomputable def R31_4 : Array Oper := opsAt Tryd.f31 [1, 0, 1, 0, 0, 1, 0, 0, 0]
noncomputable def R31_5 : Array Oper := opsAt Tryd.f31 [1, 0, 1, 0, 0, 1, 0, 0, 1, 0, 0]
noncomputable def R31_3 : Array Oper := opsAt Tryd.f31 [1, 0, 1, 0, 0, 1, 1]
noncomputable def L31_0 : Code := .seq (.seq (.region 2 R31_2 false) (.cond (.tmp 9) .skip (.exit 0))) (.seq (.block 1 (.seq (.region 4 R31_4 false) (.cond (.tmp 16) (.seq (.region 5 R31_5 false) .ret) .skip))) (.region 3 R31_3 false))
theorem lpL31_0 : loops L31_0 = 0 := rfl
noncomputable def R31_6 : Array Oper := opsAt Tryd.f31 [1, 1, 0]
noncomputable def M31_0 : Code := .seq (.region 6 R31_6 false) .ret
theorem lpM31_0 : loops M31_0 = 0 := rfl
theorem code31 : Tryd.f31.body = some (.seq (.region 0 R31_0 false) (.seq (.seq (.region 1 R31_1 false) (.block 0 (.loop L31_0))) M31_0)) := by kernel_rfl
noncomputable def R32_0 : Array Oper := opsAt Tryd.f32 [0]
noncomputable def R32_1 : Array Oper := opsAt Tryd.f32 [1, 0]
theorem code32 : Tryd.f32.body = some (.seq (.region 0 R32_0 false) (.seq (.region 1 R32_1 false) .ret)) := by kernel_rfl
noncomputable def R33_0 : Array Oper := opsAt Tryd.f33 [0]
noncomputable def R33_1 : Array Oper := opsAt Tryd.f33 [1, 0]
theorem code33 : Tryd.f33.body = some (.seq (.region 0 R33_0 false) (.seq (.region 1 R33_1 false) .ret)) := by kernel_rfl
noncomputable def R35_0 : Array Oper := opsAt Tryd.f35 [0]
noncomputable def R35_1 : Array Oper := opsAt Tryd.f35 [1, 0]
noncomputable def R35_2 : Array Oper := opsAt Tryd.f35 [1, 1, 0, 0]
noncomputable def R35_3 : Array Oper := opsAt Tryd.f35 [1, 1, 0, 1, 0, 0, 0, 0]
noncomputable def R35_5 : Array Oper := opsAt Tryd.f35 [1, 1, 0, 1, 0, 0, 1, 0, 0]
noncomputable def R35_4 : Array Oper := opsAt Tryd.f35 [1, 1, 0, 1, 0, 0, 1, 1]
noncomputable def L35_0 : Code := .seq (.seq (.region 3 R35_3 false) (.cond (.tmp 8) .skip (.exit 0))) (.seq (.block 1 (.region 5 R35_5 false)) (.region 4 R35_4 false))
theorem lpL35_0 : loops L35_0 = 0 := rfl
noncomputable def R35_6 : Array Oper := opsAt Tryd.f35 [1, 1, 1, 0]
noncomputable def M35_0 : Code := .seq (.region 6 R35_6 false) .ret
theorem lpM35_0 : loops M35_0 = 0 := rfl
theorem code35 : Tryd.f35.body = some (.seq (.region 0 R35_0 false) (.seq (.region 1 R35_1 false) (.seq (.seq (.region 2 R35_2 false) (.block 0 (.loop L35_0))) M35_0))) := by kernel_rfl
noncomputable def R44_0 : Array Oper := opsAt Tryd.f44 [0]
noncomputable def R44_1 : Array Oper := opsAt Tryd.f44 [1, 0]
noncomputable def R44_2 : Array Oper := opsAt Tryd.f44 [1, 1, 0]
noncomputable def R44_3 : Array Oper := opsAt Tryd.f44 [1, 1, 1, 0, 0]
noncomputable def R44_4 : Array Oper := opsAt Tryd.f44 [1, 1, 1, 0, 1, 0, 0, 0, 0]
noncomputable def R44_6 : Array Oper := opsAt Tryd.f44 [1, 1, 1, 0, 1, 0, 0, 1, 0, 0, 0]
noncomputable def R44_7 : Array Oper := opsAt Tryd.f44 [1, 1, 1, 0, 1, 0, 0, 1, 0, 0, 1, 0, 0]
noncomputable def R44_8 : Array Oper := opsAt Tryd.f44 [1, 1, 1, 0, 1, 0, 0, 1, 0, 0, 1, 0, 1]
noncomputable def R44_5 : Array Oper := opsAt Tryd.f44 [1, 1, 1, 0, 1, 0, 0, 1, 1]
noncomputable def L44_0 : Code := .seq (.seq (.region 4 R44_4 false) (.cond (.tmp 12) .skip (.exit 0))) (.seq (.block 1 (.seq (.region 6 R44_6 false) (.cond (.tmp 19) (.seq (.region 7 R44_7 false) (.region 8 R44_8 false)) .skip))) (.region 5 R44_5 false))
theorem lpL44_0 : loops L44_0 = 0 := rfl
noncomputable def R44_9 : Array Oper := opsAt Tryd.f44 [1, 1, 1, 1, 0]
noncomputable def M44_0 : Code := .seq (.region 9 R44_9 false) .ret
theorem lpM44_0 : loops M44_0 = 0 := rfl
theorem code44 : Tryd.f44.body = some (.seq (.region 0 R44_0 false) (.seq (.region 1 R44_1 false) (.seq (.region 2 R44_2 false) (.seq (.seq (.region 3 R44_3 false) (.block 0 (.loop L44_0))) M44_0)))) := by kernel_rfl
noncomputable def R45_0 : Array Oper := opsAt Tryd.f45 [0]
noncomputable def R45_1 : Array Oper := opsAt Tryd.f45 [1, 0]
theorem code45 : Tryd.f45.body = some (.seq (.region 0 R45_0 false) (.seq (.region 1 R45_1 false) .ret)) := by kernel_rfl
noncomputable def R58_0 : Array Oper := opsAt Tryd.f58 [0]
noncomputable def R58_1 : Array Oper := opsAt Tryd.f58 [1, 0, 0]
noncomputable def R58_2 : Array Oper := opsAt Tryd.f58 [1, 0, 1, 0, 0]
noncomputable def R58_3 : Array Oper := opsAt Tryd.f58 [1, 1, 0, 0]
noncomputable def R58_4 : Array Oper := opsAt Tryd.f58 [1, 1, 0, 1, 0, 0]
noncomputable def R58_5 : Array Oper := opsAt Tryd.f58 [1, 1, 1, 0]
theorem code58 : Tryd.f58.body = some (.seq (.region 0 R58_0 false) (.seq (.seq (.region 1 R58_1 false) (.cond (.tmp 4) (.seq (.region 2 R58_2 false) .ret) .skip)) (.seq (.seq (.region 3 R58_3 false) (.cond (.tmp 10) (.seq (.region 4 R58_4 false) .ret) .skip)) (.seq (.region 5 R58_5 true) .ret)))) := by kernel_rfl
noncomputable def R59_0 : Array Oper := opsAt Tryd.f59 [0]
noncomputable def R59_1 : Array Oper := opsAt Tryd.f59 [1, 0]
noncomputable def R59_2 : Array Oper := opsAt Tryd.f59 [1, 1, 0, 0]
noncomputable def R59_3 : Array Oper := opsAt Tryd.f59 [1, 1, 0, 1, 0, 0, 0, 0]
noncomputable def R59_5 : Array Oper := opsAt Tryd.f59 [1, 1, 0, 1, 0, 0, 1, 0, 0]
noncomputable def R59_4 : Array Oper := opsAt Tryd.f59 [1, 1, 0, 1, 0, 0, 1, 1]
noncomputable def L59_0 : Code := .seq (.seq (.region 3 R59_3 false) (.cond (.tmp 8) .skip (.exit 0))) (.seq (.block 1 (.region 5 R59_5 false)) (.region 4 R59_4 false))
theorem lpL59_0 : loops L59_0 = 0 := rfl
noncomputable def R59_6 : Array Oper := opsAt Tryd.f59 [1, 1, 1, 0]
noncomputable def M59_0 : Code := .seq (.region 6 R59_6 false) .ret
theorem lpM59_0 : loops M59_0 = 0 := rfl
theorem code59 : Tryd.f59.body = some (.seq (.region 0 R59_0 false) (.seq (.region 1 R59_1 false) (.seq (.seq (.region 2 R59_2 false) (.block 0 (.loop L59_0))) M59_0))) := by kernel_rfl
noncomputable def R70_0 : Array Oper := opsAt Tryd.f70 [0]
noncomputable def R70_1 : Array Oper := opsAt Tryd.f70 [1, 0, 0]
noncomputable def R70_2 : Array Oper := opsAt Tryd.f70 [1, 0, 1, 0]
noncomputable def R70_3 : Array Oper := opsAt Tryd.f70 [1, 0, 1, 1, 0, 0]
noncomputable def R70_4 : Array Oper := opsAt Tryd.f70 [1, 1, 0]
theorem code70 : Tryd.f70.body = some (.seq (.region 0 R70_0 false) (.seq (.seq (.region 1 R70_1 false) (.seq (.region 2 R70_2 false) (.cond (.tmp 12) (.seq (.region 3 R70_3 true) .ret) .skip))) (.seq (.region 4 R70_4 false) .ret))) := by kernel_rfl
def K : FuncId → Nat → List Nat
  | 31, 0 => [0, 1, 5]
  | 35, 0 => [0, 3, 4]
  | 44, 0 => [0, 1, 5, 6, 7]
  | 59, 0 => [0, 3, 4]
  | _, _ => []
theorem ent {f : FuncId} {fn : Func} (h : Tryd.prog.funcs[f]? = some fn) (hb : fn.body.isSome = true) (hn : (fn.name == "runtime.NumGoroutine") = false) : Enters Tryd.prog f := enters_mk h hb hn
def ext34 : List V → Option (V × List Eng.Obj)
  | [.c (.int .i64 n)] => if -9223372036854775808 ≤ n ∧ n ≤ 9223372036854775807 then some (.c (.string ⟨(Lib.itoa n).toArray⟩), []) else none
  | _ => none
theorem ext34_ok : ExtOk Tryd.prog 34 ext34 := by
  refine ⟨ent Tryd.func34 rfl rfl, fun args v objs h w Pf ι vals hr D => ?_⟩
  unfold ext34 at h
  split at h
  case h_2 => cases h
  rename_i n
  split at h
  case isFalse => cases h
  rename_i hn
  cases h
  simp only [Reps, Rep] at hr
  obtain ⟨u, us, rfl, rfl, rfl⟩ := hr
  refine (Tryd.strconv_Itoa n hn.1 hn.2 w D.glob.2).mono ?_
  rintro e w' ⟨rfl, k, os, rfl⟩
  have hp : ∀ g, Pf true g → (Sort.grow (w.drewN k) os).heap[g]? = w.heap[g]? := fun g hg => by
    have := D.lt g hg
    show (w.heap ++ os)[g]? = w.heap[g]?
    rw [Array.getElem?_append_left this]
  refine ⟨_, ι, 1, fun _ => False, rfl, ⟨rfl, rfl, rfl, ?_, hp, fun _ _ _ h => h⟩, by simp only [Rep], ⟨fun id vr o h => ?_, D.fresh, D.fresh', fun id vr o id' vr' o' g t t' h => ?_, fun g hg => ?_, D.sub, D.gl hp⟩⟩
  · show w.heap.size ≤ (w.heap ++ os).size
    rw [Array.size_append]; omega
  · simp [hpOf] at h
  · simp [hpOf] at h
  · have := D.lt g hg
    show g < (w.heap ++ os).size
    rw [Array.size_append]; omega
def ext60 : List V → Option (V × List Eng.Obj)
  | [.c (.string s), .c (.string t)] => match t.data.toList with
    | [c] => some (.c (.int .i64 (Lib.indexByte s.data.toList c)), [])
    | _ => none
  | _ => none
theorem ext60_ok : ExtOk Tryd.prog 60 ext60 := by
  refine ⟨ent Tryd.func60 rfl rfl, fun args v objs h w Pf ι vals hr D => ?_⟩
  unfold ext60 at h
  split at h
  case h_2 => cases h
  rename_i s t
  split at h
  case h_2 => cases h
  rename_i c hc
  cases h
  have ht : t = ⟨#[c]⟩ := by
    obtain ⟨a⟩ := t
    have : a = #[c] := by
      apply Array.ext'
      simpa using hc
    rw [this]
  subst ht
  simp only [Reps, Rep] at hr
  obtain ⟨u, us, rfl, rfl, u2, us2, rfl, rfl, rfl⟩ := hr
  refine (Tryd.strings_Index_one s c w).mono ?_
  rintro e w' ⟨rfl, rfl⟩
  refine ⟨_, ι, 1, fun _ => False, rfl, Fwd.refl _ _ _, by simp only [Rep], ⟨fun id vr o h => ?_, D.fresh, D.fresh', fun id vr o id' vr' o' g t t' h => ?_, D.lt, D.sub, D.glob⟩⟩
  · simp [hpOf] at h
  · simp [hpOf] at h
def ext80 : List V → Option (V × List Eng.Obj)
  | [.c (.string s), .c (.string t)] => match t.data.toList with
    | [c] => some (.c (.int .i64 (Lib.indexByte s.data.toList c)), [])
    | _ => none
  | _ => none
theorem ext80_ok : ExtOk Tryd.prog 80 ext80 := by
  refine ⟨ent Tryd.func80 rfl rfl, fun args v objs h w Pf ι vals hr D => ?_⟩
  unfold ext80 at h
  split at h
  case h_2 => cases h
  rename_i s t
  split at h
  case h_2 => cases h
  rename_i c hc
  cases h
  have ht : t = ⟨#[c]⟩ := by
    obtain ⟨a⟩ := t
    have : a = #[c] := by
      apply Array.ext'
      simpa using hc
    rw [this]
  subst ht
  simp only [Reps, Rep] at hr
  obtain ⟨u, us, rfl, rfl, u2, us2, rfl, rfl, rfl⟩ := hr
  refine (Tryd.stringslite_Index_one s c w).mono ?_
  rintro e w' ⟨rfl, rfl⟩
  refine ⟨_, ι, 1, fun _ => False, rfl, Fwd.refl _ _ _, by simp only [Rep], ⟨fun id vr o h => ?_, D.fresh, D.fresh', fun id vr o id' vr' o' g t t' h => ?_, D.lt, D.sub, D.glob⟩⟩
  · simp [hpOf] at h
  · simp [hpOf] at h
def X : FuncId → Option (List V → Option (V × List Eng.Obj))
  | 34 => some ext34
  | 60 => some ext60
  | 80 => some ext80
  | _ => none
noncomputable def C : Cfg := ⟨T, F, X, WR, OW, K⟩
theorem cT : C.T = T := rfl
theorem cF : C.fn = F := rfl
theorem cX : C.ext = X := rfl
theorem cWR : C.wr = WR := rfl
theorem cOW : C.own = OW := rfl
theorem cK : C.keep = K := rfl
theorem cfgOk : CfgOk Tryd.prog C where
  mixed := by kernel_rfl
  tab := tabOk
  fn := by
    intro f fn h
    show Tryd.prog.funcs[f]? = some fn ∧ _
    have h' : F f = some fn := h
    unfold F at h'
    split at h'
    · cases h'; exact ⟨Tryd.func3, ent Tryd.func3 rfl rfl, chk3⟩
    · cases h'; exact ⟨Tryd.func5, ent Tryd.func5 rfl rfl, chk5⟩
    · cases h'; exact ⟨Tryd.func8, ent Tryd.func8 rfl rfl, chk8⟩
    · cases h'; exact ⟨Tryd.func9, ent Tryd.func9 rfl rfl, chk9⟩
    · cases h'; exact ⟨Tryd.func15, ent Tryd.func15 rfl rfl, chk15⟩
    · cases h'; exact ⟨Tryd.func16, ent Tryd.func16 rfl rfl, chk16⟩
    · cases h'; exact ⟨Tryd.func31, ent Tryd.func31 rfl rfl, chk31⟩
    · cases h'; exact ⟨Tryd.func32, ent Tryd.func32 rfl rfl, chk32⟩
    · cases h'; exact ⟨Tryd.func33, ent Tryd.func33 rfl rfl, chk33⟩
    · cases h'; exact ⟨Tryd.func35, ent Tryd.func35 rfl rfl, chk35⟩
    · cases h'; exact ⟨Tryd.func44, ent Tryd.func44 rfl rfl, chk44⟩
    · cases h'; exact ⟨Tryd.func45, ent Tryd.func45 rfl rfl, chk45⟩
    · cases h'; exact ⟨Tryd.func58, ent Tryd.func58 rfl rfl, chk58⟩
    · cases h'; exact ⟨Tryd.func59, ent Tryd.func59 rfl rfl, chk59⟩
    · cases h'; exact ⟨Tryd.func70, ent Tryd.func70 rfl rfl, chk70⟩
    · cases h'
  ext := by
    intro f m h
    have h' : X f = some m := h
    unfold X at h'
    split at h'
    · cases h'; exact ext34_ok
    · cases h'; exact ext60_ok
    · cases h'; exact ext80_ok
    · cases h'
end Go.Proofs.YtfgoljfggkkpnaaDoor.Eng
