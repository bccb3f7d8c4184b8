/- The types, the functions and the loops' live slots that the laws reach, and that they are what the program has. No conditions. -/
import Derived.Test.YtfgoljfggkkpnaaEngS
import Derived.Test.YtfgoljfggkkpnaaProg
import Derived.KernelRfl
import Derived.WalkKit
namespace Go.Proofs.Ytfgoljfggkkpnaa.Eng
open Go Go.Proofs
set_option maxRecDepth 100000
def T : Tab
  | 3 => some ⟨.int .i64, 1, 8, [.int .i64 0], true⟩
  | 4 => some ⟨.bool, 1, 1, [.bool false], true⟩
  | 22 => some ⟨(.slice 3), 1, 24, [.slice none 0 0], false⟩
  | 24 => some ⟨(.struct [(0, 1, false), (1, 1, false), (2, 1, false)]), 3, 40, [.int .i64 0, .int .i64 0, .slice none 0 0], false⟩
  | 26 => some ⟨(.struct [(0, 1, false), (1, 1, false), (2, 1, false)]), 3, 40, [.int .i64 0, .int .i64 0, .slice none 0 0], false⟩
  | 57 => some ⟨.oth, 1, 8, [.nilFunc], false⟩
  | 59 => some ⟨.oth, 1, 8, [.nilFunc], false⟩
  | 63 => some ⟨.int .u64, 1, 8, [.int .u64 0], true⟩
  | 67 => some ⟨.oth, 1, 8, [.nilFunc], false⟩
  | 87 => some ⟨.int .u64, 1, 8, [.int .u64 0], true⟩
  | 92 => some ⟨.int .u32, 1, 4, [.int .u32 0], true⟩
  | _ => none
theorem T3 : T 3 = some ⟨.int .i64, 1, 8, [.int .i64 0], true⟩ := rfl
theorem ok3 : TiOk Try.prog 3 ⟨.int .i64, 1, 8, [.int .i64 0], true⟩ := ⟨(by kernel_rfl : Try.prog.underlying 3 = _), (TiOk.of_info (z := (.int .i64 0)) (by kernel_rfl) rfl), rfl, by decide⟩
theorem T4 : T 4 = some ⟨.bool, 1, 1, [.bool false], true⟩ := rfl
theorem ok4 : TiOk Try.prog 4 ⟨.bool, 1, 1, [.bool false], true⟩ := ⟨(by kernel_rfl : Try.prog.underlying 4 = _), (TiOk.of_info (z := (.bool false)) (by kernel_rfl) rfl), rfl, by decide⟩
theorem T22 : T 22 = some ⟨(.slice 3), 1, 24, [.slice none 0 0], false⟩ := rfl
theorem ok22 : TiOk Try.prog 22 ⟨(.slice 3), 1, 24, [.slice none 0 0], false⟩ := ⟨(by kernel_rfl : Try.prog.underlying 22 = _), (TiOk.of_info (z := (.slice none 0 0)) (by kernel_rfl) rfl), rfl, by decide⟩
theorem T24 : T 24 = some ⟨(.struct [(0, 1, false), (1, 1, false), (2, 1, false)]), 3, 40, [.int .i64 0, .int .i64 0, .slice none 0 0], false⟩ := rfl
theorem ok24 : TiOk Try.prog 24 ⟨(.struct [(0, 1, false), (1, 1, false), (2, 1, false)]), 3, 40, [.int .i64 0, .int .i64 0, .slice none 0 0], false⟩ := ⟨TiOk.of_struct Try.underlying24 (by kernel_rfl), (TiOk.of_info (z := (.agg #[.int .i64 0, .int .i64 0, .slice none 0 0])) (by kernel_rfl) rfl), rfl, by decide⟩
theorem T26 : T 26 = some ⟨(.struct [(0, 1, false), (1, 1, false), (2, 1, false)]), 3, 40, [.int .i64 0, .int .i64 0, .slice none 0 0], false⟩ := rfl
theorem ok26 : TiOk Try.prog 26 ⟨(.struct [(0, 1, false), (1, 1, false), (2, 1, false)]), 3, 40, [.int .i64 0, .int .i64 0, .slice none 0 0], false⟩ := ⟨TiOk.of_struct Try.underlying26 (by kernel_rfl), (TiOk.of_info (z := (.agg #[.int .i64 0, .int .i64 0, .slice none 0 0])) (by kernel_rfl) rfl), rfl, by decide⟩
theorem T57 : T 57 = some ⟨.oth, 1, 8, [.nilFunc], false⟩ := rfl
theorem ok57 : TiOk Try.prog 57 ⟨.oth, 1, 8, [.nilFunc], false⟩ := ⟨⟨_, Try.underlying57, rfl⟩, (TiOk.of_info (z := (.nilFunc)) (by kernel_rfl) rfl), rfl, by decide⟩
theorem T59 : T 59 = some ⟨.oth, 1, 8, [.nilFunc], false⟩ := rfl
theorem ok59 : TiOk Try.prog 59 ⟨.oth, 1, 8, [.nilFunc], false⟩ := ⟨⟨_, Try.underlying59, rfl⟩, (TiOk.of_info (z := (.nilFunc)) (by kernel_rfl) rfl), rfl, by decide⟩
theorem T63 : T 63 = some ⟨.int .u64, 1, 8, [.int .u64 0], true⟩ := rfl
theorem ok63 : TiOk Try.prog 63 ⟨.int .u64, 1, 8, [.int .u64 0], true⟩ := ⟨(by kernel_rfl : Try.prog.underlying 63 = _), (TiOk.of_info (z := (.int .u64 0)) (by kernel_rfl) rfl), rfl, by decide⟩
theorem T67 : T 67 = some ⟨.oth, 1, 8, [.nilFunc], false⟩ := rfl
theorem ok67 : TiOk Try.prog 67 ⟨.oth, 1, 8, [.nilFunc], false⟩ := ⟨⟨_, Try.underlying67, rfl⟩, (TiOk.of_info (z := (.nilFunc)) (by kernel_rfl) rfl), rfl, by decide⟩
theorem T87 : T 87 = some ⟨.int .u64, 1, 8, [.int .u64 0], true⟩ := rfl
theorem ok87 : TiOk Try.prog 87 ⟨.int .u64, 1, 8, [.int .u64 0], true⟩ := ⟨(by kernel_rfl : Try.prog.underlying 87 = _), (TiOk.of_info (z := (.int .u64 0)) (by kernel_rfl) rfl), rfl, by decide⟩
theorem T92 : T 92 = some ⟨.int .u32, 1, 4, [.int .u32 0], true⟩ := rfl
theorem ok92 : TiOk Try.prog 92 ⟨.int .u32, 1, 4, [.int .u32 0], true⟩ := ⟨(by kernel_rfl : Try.prog.underlying 92 = _), (TiOk.of_info (z := (.int .u32 0)) (by kernel_rfl) rfl), rfl, by decide⟩
theorem tabOk : TabOk Try.prog T := by
  intro t i h
  unfold T at h
  split at h
  · cases h; exact ok3
  · cases h; exact ok4
  · cases h; exact ok22
  · cases h; exact ok24
  · cases h; exact ok26
  · cases h; exact ok57
  · cases h; exact ok59
  · cases h; exact ok63
  · cases h; exact ok67
  · cases h; exact ok87
  · cases h; exact ok92
  · cases h
set_option maxHeartbeats 1000000
def WR (f : FuncId) : Bool := f == 15 || f == 49
def OW (f : FuncId) : Bool := f == 15 || f == 49
noncomputable def F : FuncId → Option Func
  | 3 => some Try.f3
  | 4 => some Try.f4
  | 5 => some Try.f5
  | 6 => some Try.f6
  | 7 => some Try.f7
  | 10 => some Try.f10
  | 11 => some Try.f11
  | 12 => some Try.f12
  | 13 => some Try.f13
  | 14 => some Try.f14
  | 15 => some Try.f15
  | 16 => some Try.f16
  | 17 => some Try.f17
  | 18 => some Try.f18
  | 19 => some Try.f19
  | 20 => some Try.f20
  | 21 => some Try.f21
  | 22 => some Try.f22
  | 23 => some Try.f23
  | 24 => some Try.f24
  | 31 => some Try.f31
  | 43 => some Try.f43
  | 44 => some Try.f44
  | 45 => some Try.f45
  | 46 => some Try.f46
  | 47 => some Try.f47
  | 48 => some Try.f48
  | 49 => some Try.f49
  | 50 => some Try.f50
  | 51 => some Try.f51
  | 52 => some Try.f52
  | 53 => some Try.f53
  | 54 => some Try.f54
  | 55 => some Try.f55
  | 56 => some Try.f56
  | 57 => some Try.f57
  | 58 => some Try.f58
  | 63 => some Try.f63
  | 64 => some Try.f64
  | 65 => some Try.f65
  | 66 => some Try.f66
  | 67 => some Try.f67
  | 71 => some Try.f71
  | 74 => some Try.f74
  | 75 => some Try.f75
  | 88 => some Try.f88
  | 89 => some Try.f89
  | 90 => some Try.f90
  | 91 => some Try.f91
  | 96 => some Try.f96
  | 97 => some Try.f97
  | 99 => some Try.f99
  | 107 => some Try.f107
  | 108 => some Try.f108
  | 109 => some Try.f109
  | 112 => some Try.f112
  | 113 => some Try.f113
  | 114 => some Try.f114
  | _ => none
theorem F3 : F 3 = some Try.f3 := rfl
theorem chk3 : ∀ c, Try.f3.body = some c → chk WR Try.f3.ntmps c = true := by intro c h; cases h; decide +kernel
theorem F4 : F 4 = some Try.f4 := rfl
theorem chk4 : ∀ c, Try.f4.body = some c → chk WR Try.f4.ntmps c = true := by intro c h; cases h; decide +kernel
theorem F5 : F 5 = some Try.f5 := rfl
theorem chk5 : ∀ c, Try.f5.body = some c → chk WR Try.f5.ntmps c = true := by intro c h; cases h; decide +kernel
theorem F6 : F 6 = some Try.f6 := rfl
theorem chk6 : ∀ c, Try.f6.body = some c → chk WR Try.f6.ntmps c = true := by intro c h; cases h; decide +kernel
theorem F7 : F 7 = some Try.f7 := rfl
theorem chk7 : ∀ c, Try.f7.body = some c → chk WR Try.f7.ntmps c = true := by intro c h; cases h; decide +kernel
theorem F10 : F 10 = some Try.f10 := rfl
theorem chk10 : ∀ c, Try.f10.body = some c → chk WR Try.f10.ntmps c = true := by intro c h; cases h; decide +kernel
theorem F11 : F 11 = some Try.f11 := rfl
theorem chk11 : ∀ c, Try.f11.body = some c → chk WR Try.f11.ntmps c = true := by intro c h; cases h; decide +kernel
theorem F12 : F 12 = some Try.f12 := rfl
theorem chk12 : ∀ c, Try.f12.body = some c → chk WR Try.f12.ntmps c = true := by intro c h; cases h; decide +kernel
theorem F13 : F 13 = some Try.f13 := rfl
theorem chk13 : ∀ c, Try.f13.body = some c → chk WR Try.f13.ntmps c = true := by intro c h; cases h; decide +kernel
theorem F14 : F 14 = some Try.f14 := rfl
theorem chk14 : ∀ c, Try.f14.body = some c → chk WR Try.f14.ntmps c = true := by intro c h; cases h; decide +kernel
theorem F15 : F 15 = some Try.f15 := rfl
theorem chk15 : ∀ c, Try.f15.body = some c → chk WR Try.f15.ntmps c = true := by intro c h; cases h; decide +kernel
theorem F16 : F 16 = some Try.f16 := rfl
theorem chk16 : ∀ c, Try.f16.body = some c → chk WR Try.f16.ntmps c = true := by intro c h; cases h; decide +kernel
theorem F17 : F 17 = some Try.f17 := rfl
theorem chk17 : ∀ c, Try.f17.body = some c → chk WR Try.f17.ntmps c = true := by intro c h; cases h; decide +kernel
theorem F18 : F 18 = some Try.f18 := rfl
theorem chk18 : ∀ c, Try.f18.body = some c → chk WR Try.f18.ntmps c = true := by intro c h; cases h; decide +kernel
theorem F19 : F 19 = some Try.f19 := rfl
theorem chk19 : ∀ c, Try.f19.body = some c → chk WR Try.f19.ntmps c = true := by intro c h; cases h; decide +kernel
theorem F20 : F 20 = some Try.f20 := rfl
theorem chk20 : ∀ c, Try.f20.body = some c → chk WR Try.f20.ntmps c = true := by intro c h; cases h; decide +kernel
theorem F21 : F 21 = some Try.f21 := rfl
theorem chk21 : ∀ c, Try.f21.body = some c → chk WR Try.f21.ntmps c = true := by intro c h; cases h; decide +kernel
theorem F22 : F 22 = some Try.f22 := rfl
theorem chk22 : ∀ c, Try.f22.body = some c → chk WR Try.f22.ntmps c = true := by intro c h; cases h; decide +kernel
theorem F23 : F 23 = some Try.f23 := rfl
theorem chk23 : ∀ c, Try.f23.body = some c → chk WR Try.f23.ntmps c = true := by intro c h; cases h; decide +kernel
theorem F24 : F 24 = some Try.f24 := rfl
theorem chk24 : ∀ c, Try.f24.body = some c → chk WR Try.f24.ntmps c = true := by intro c h; cases h; decide +kernel
theorem F31 : F 31 = some Try.f31 := rfl
theorem chk31 : ∀ c, Try.f31.body = some c → chk WR Try.f31.ntmps c = true := by intro c h; cases h; decide +kernel
theorem F43 : F 43 = some Try.f43 := rfl
theorem chk43 : ∀ c, Try.f43.body = some c → chk WR Try.f43.ntmps c = true := by intro c h; cases h; decide +kernel
theorem F44 : F 44 = some Try.f44 := rfl
theorem chk44 : ∀ c, Try.f44.body = some c → chk WR Try.f44.ntmps c = true := by intro c h; cases h; decide +kernel
theorem F45 : F 45 = some Try.f45 := rfl
theorem chk45 : ∀ c, Try.f45.body = some c → chk WR Try.f45.ntmps c = true := by intro c h; cases h; decide +kernel
theorem F46 : F 46 = some Try.f46 := rfl
theorem chk46 : ∀ c, Try.f46.body = some c → chk WR Try.f46.ntmps c = true := by intro c h; cases h; decide +kernel
theorem F47 : F 47 = some Try.f47 := rfl
theorem chk47 : ∀ c, Try.f47.body = some c → chk WR Try.f47.ntmps c = true := by intro c h; cases h; decide +kernel
theorem F48 : F 48 = some Try.f48 := rfl
theorem chk48 : ∀ c, Try.f48.body = some c → chk WR Try.f48.ntmps c = true := by intro c h; cases h; decide +kernel
theorem F49 : F 49 = some Try.f49 := rfl
theorem chk49 : ∀ c, Try.f49.body = some c → chk WR Try.f49.ntmps c = true := by intro c h; cases h; decide +kernel
theorem F50 : F 50 = some Try.f50 := rfl
theorem chk50 : ∀ c, Try.f50.body = some c → chk WR Try.f50.ntmps c = true := by intro c h; cases h; decide +kernel
theorem F51 : F 51 = some Try.f51 := rfl
theorem chk51 : ∀ c, Try.f51.body = some c → chk WR Try.f51.ntmps c = true := by intro c h; cases h; decide +kernel
theorem F52 : F 52 = some Try.f52 := rfl
theorem chk52 : ∀ c, Try.f52.body = some c → chk WR Try.f52.ntmps c = true := by intro c h; cases h; decide +kernel
theorem F53 : F 53 = some Try.f53 := rfl
theorem chk53 : ∀ c, Try.f53.body = some c → chk WR Try.f53.ntmps c = true := by intro c h; cases h; decide +kernel
theorem F54 : F 54 = some Try.f54 := rfl
theorem chk54 : ∀ c, Try.f54.body = some c → chk WR Try.f54.ntmps c = true := by intro c h; cases h; decide +kernel
theorem F55 : F 55 = some Try.f55 := rfl
theorem chk55 : ∀ c, Try.f55.body = some c → chk WR Try.f55.ntmps c = true := by intro c h; cases h; decide +kernel
theorem F56 : F 56 = some Try.f56 := rfl
theorem chk56 : ∀ c, Try.f56.body = some c → chk WR Try.f56.ntmps c = true := by intro c h; cases h; decide +kernel
theorem F57 : F 57 = some Try.f57 := rfl
theorem chk57 : ∀ c, Try.f57.body = some c → chk WR Try.f57.ntmps c = true := by intro c h; cases h; decide +kernel
theorem F58 : F 58 = some Try.f58 := rfl
theorem chk58 : ∀ c, Try.f58.body = some c → chk WR Try.f58.ntmps c = true := by intro c h; cases h; decide +kernel
theorem F63 : F 63 = some Try.f63 := rfl
theorem chk63 : ∀ c, Try.f63.body = some c → chk WR Try.f63.ntmps c = true := by intro c h; cases h; decide +kernel
theorem F64 : F 64 = some Try.f64 := rfl
theorem chk64 : ∀ c, Try.f64.body = some c → chk WR Try.f64.ntmps c = true := by intro c h; cases h; decide +kernel
theorem F65 : F 65 = some Try.f65 := rfl
theorem chk65 : ∀ c, Try.f65.body = some c → chk WR Try.f65.ntmps c = true := by intro c h; cases h; decide +kernel
theorem F66 : F 66 = some Try.f66 := rfl
theorem chk66 : ∀ c, Try.f66.body = some c → chk WR Try.f66.ntmps c = true := by intro c h; cases h; decide +kernel
theorem F67 : F 67 = some Try.f67 := rfl
theorem chk67 : ∀ c, Try.f67.body = some c → chk WR Try.f67.ntmps c = true := by intro c h; cases h; decide +kernel
theorem F71 : F 71 = some Try.f71 := rfl
theorem chk71 : ∀ c, Try.f71.body = some c → chk WR Try.f71.ntmps c = true := by intro c h; cases h; decide +kernel
theorem F74 : F 74 = some Try.f74 := rfl
theorem chk74 : ∀ c, Try.f74.body = some c → chk WR Try.f74.ntmps c = true := by intro c h; cases h; decide +kernel
theorem F75 : F 75 = some Try.f75 := rfl
theorem chk75 : ∀ c, Try.f75.body = some c → chk WR Try.f75.ntmps c = true := by intro c h; cases h; decide +kernel
theorem F88 : F 88 = some Try.f88 := rfl
theorem chk88 : ∀ c, Try.f88.body = some c → chk WR Try.f88.ntmps c = true := by intro c h; cases h; decide +kernel
theorem F89 : F 89 = some Try.f89 := rfl
theorem chk89 : ∀ c, Try.f89.body = some c → chk WR Try.f89.ntmps c = true := by intro c h; cases h; decide +kernel
theorem F90 : F 90 = some Try.f90 := rfl
theorem chk90 : ∀ c, Try.f90.body = some c → chk WR Try.f90.ntmps c = true := by intro c h; cases h; decide +kernel
theorem F91 : F 91 = some Try.f91 := rfl
theorem chk91 : ∀ c, Try.f91.body = some c → chk WR Try.f91.ntmps c = true := by intro c h; cases h; decide +kernel
theorem F96 : F 96 = some Try.f96 := rfl
theorem chk96 : ∀ c, Try.f96.body = some c → chk WR Try.f96.ntmps c = true := by intro c h; cases h; decide +kernel
theorem F97 : F 97 = some Try.f97 := rfl
theorem chk97 : ∀ c, Try.f97.body = some c → chk WR Try.f97.ntmps c = true := by intro c h; cases h; decide +kernel
theorem F99 : F 99 = some Try.f99 := rfl
theorem chk99 : ∀ c, Try.f99.body = some c → chk WR Try.f99.ntmps c = true := by intro c h; cases h; decide +kernel
theorem F107 : F 107 = some Try.f107 := rfl
theorem chk107 : ∀ c, Try.f107.body = some c → chk WR Try.f107.ntmps c = true := by intro c h; cases h; decide +kernel
theorem F108 : F 108 = some Try.f108 := rfl
theorem chk108 : ∀ c, Try.f108.body = some c → chk WR Try.f108.ntmps c = true := by intro c h; cases h; decide +kernel
theorem F109 : F 109 = some Try.f109 := rfl
theorem chk109 : ∀ c, Try.f109.body = some c → chk WR Try.f109.ntmps c = true := by intro c h; cases h; decide +kernel
theorem F112 : F 112 = some Try.f112 := rfl
theorem chk112 : ∀ c, Try.f112.body = some c → chk WR Try.f112.ntmps c = true := by intro c h; cases h; decide +kernel
theorem F113 : F 113 = some Try.f113 := rfl
theorem chk113 : ∀ c, Try.f113.body = some c → chk WR Try.f113.ntmps c = true := by intro c h; cases h; decide +kernel
theorem F114 : F 114 = some Try.f114 := rfl
theorem chk114 : ∀ c, Try.f114.body = some c → chk WR Try.f114.ntmps c = true := by intro c h; cases h; decide +kernel
noncomputable def R3_0 : Array Oper := opsAt Try.f3 [0]
noncomputable def R3_1 : Array Oper := opsAt Try.f3 [1, 0]
noncomputable def R3_2 : Array Oper := opsAt Try.f3 [1, 1, 0]
noncomputable def R3_3 : Array Oper := opsAt Try.f3 [1, 1, 1, 0, 0]
noncomputable def R3_4 : Array Oper := opsAt Try.f3 [1, 1, 1, 0, 1, 0, 0]
noncomputable def R3_5 : Array Oper := opsAt Try.f3 [1, 1, 1, 1, 0]
noncomputable def R3_6 : Array Oper := opsAt Try.f3 [1, 1, 1, 1, 1, 0]
noncomputable def R3_7 : Array Oper := opsAt Try.f3 [1, 1, 1, 1, 1, 1, 0]
noncomputable def R3_8 : Array Oper := opsAt Try.f3 [1, 1, 1, 1, 1, 1, 1, 0, 0]
noncomputable def R3_9 : Array Oper := opsAt Try.f3 [1, 1, 1, 1, 1, 1, 1, 0, 1, 0, 0]
noncomputable def R3_10 : Array Oper := opsAt Try.f3 [1, 1, 1, 1, 1, 1, 1, 1, 0, 0]
noncomputable def R3_11 : Array Oper := opsAt Try.f3 [1, 1, 1, 1, 1, 1, 1, 1, 0, 1, 0, 0]
noncomputable def R3_12 : Array Oper := opsAt Try.f3 [1, 1, 1, 1, 1, 1, 1, 1, 1, 0]
noncomputable def R3_13 : Array Oper := opsAt Try.f3 [1, 1, 1, 1, 1, 1, 1, 1, 1, 1, 0]
noncomputable def R3_14 : Array Oper := opsAt Try.f3 [1, 1, 1, 1, 1, 1, 1, 1, 1, 1, 1, 0, 0]
noncomputable def R3_15 : Array Oper := opsAt Try.f3 [1, 1, 1, 1, 1, 1, 1, 1, 1, 1, 1, 0, 1, 0, 0]
noncomputable def R3_16 : Array Oper := opsAt Try.f3 [1, 1, 1, 1, 1, 1, 1, 1, 1, 1, 1, 1, 0]
noncomputable def R3_17 : Array Oper := opsAt Try.f3 [1, 1, 1, 1, 1, 1, 1, 1, 1, 1, 1, 1, 1, 0]
noncomputable def R3_18 : Array Oper := opsAt Try.f3 [1, 1, 1, 1, 1, 1, 1, 1, 1, 1, 1, 1, 1, 1, 0]
noncomputable def R3_19 : Array Oper := opsAt Try.f3 [1, 1, 1, 1, 1, 1, 1, 1, 1, 1, 1, 1, 1, 1, 1, 0]
noncomputable def R3_20 : Array Oper := opsAt Try.f3 [1, 1, 1, 1, 1, 1, 1, 1, 1, 1, 1, 1, 1, 1, 1, 1, 0, 0]
noncomputable def R3_21 : Array Oper := opsAt Try.f3 [1, 1, 1, 1, 1, 1, 1, 1, 1, 1, 1, 1, 1, 1, 1, 1, 0, 1, 0, 0]
noncomputable def R3_22 : Array Oper := opsAt Try.f3 [1, 1, 1, 1, 1, 1, 1, 1, 1, 1, 1, 1, 1, 1, 1, 1, 1, 0, 0]
noncomputable def R3_23 : Array Oper := opsAt Try.f3 [1, 1, 1, 1, 1, 1, 1, 1, 1, 1, 1, 1, 1, 1, 1, 1, 1, 0, 1, 0, 0]
noncomputable def R3_24 : Array Oper := opsAt Try.f3 [1, 1, 1, 1, 1, 1, 1, 1, 1, 1, 1, 1, 1, 1, 1, 1, 1, 1, 0]
noncomputable def R3_25 : Array Oper := opsAt Try.f3 [1, 1, 1, 1, 1, 1, 1, 1, 1, 1, 1, 1, 1, 1, 1, 1, 1, 1, 1, 0, 0]
noncomputable def R3_26 : Array Oper := opsAt Try.f3 [1, 1, 1, 1, 1, 1, 1, 1, 1, 1, 1, 1, 1, 1, 1, 1, 1, 1, 1, 0, 1, 0, 0]
noncomputable def R3_27 : Array Oper := opsAt Try.f3 [1, 1, 1, 1, 1, 1, 1, 1, 1, 1, 1, 1, 1, 1, 1, 1, 1, 1, 1, 1, 0]
noncomputable def R3_28 : Array Oper := opsAt Try.f3 [1, 1, 1, 1, 1, 1, 1, 1, 1, 1, 1, 1, 1, 1, 1, 1, 1, 1, 1, 1, 1, 0]
noncomputable def R3_29 : Array Oper := opsAt Try.f3 [1, 1, 1, 1, 1, 1, 1, 1, 1, 1, 1, 1, 1, 1, 1, 1, 1, 1, 1, 1, 1, 1, 0, 0]
noncomputable def R3_30 : Array Oper := opsAt Try.f3 [1, 1, 1, 1, 1, 1, 1, 1, 1, 1, 1, 1, 1, 1, 1, 1, 1, 1, 1, 1, 1, 1, 0, 1, 0, 0]
noncomputable def R3_31 : Array Oper := opsAt Try.f3 [1, 1, 1, 1, 1, 1, 1, 1, 1, 1, 1, 1, 1, 1, 1, 1, 1, 1, 1, 1, 1, 1, 1, 0, 0]
noncomputable def R3_32 : Array Oper := opsAt Try.f3 [1, 1, 1, 1, 1, 1, 1, 1, 1, 1, 1, 1, 1, 1, 1, 1, 1, 1, 1, 1, 1, 1, 1, 0, 1, 0, 0]
noncomputable def R3_33 : Array Oper := opsAt Try.f3 [1, 1, 1, 1, 1, 1, 1, 1, 1, 1, 1, 1, 1, 1, 1, 1, 1, 1, 1, 1, 1, 1, 1, 1, 0]
theorem code3 : Try.f3.body = some (.seq (.region 0 R3_0 false) (.seq (.region 1 R3_1 false) (.seq (.region 2 R3_2 false) (.seq (.seq (.region 3 R3_3 false) (.cond (.tmp 20) (.seq (.region 4 R3_4 false) .ret) .skip)) (.seq (.region 5 R3_5 false) (.seq (.region 6 R3_6 false) (.seq (.region 7 R3_7 false) (.seq (.seq (.region 8 R3_8 false) (.cond (.tmp 44) (.seq (.region 9 R3_9 false) .ret) .skip)) (.seq (.seq (.region 10 R3_10 true) (.cond (.tmp 49) (.seq (.region 11 R3_11 false) .ret) .skip)) (.seq (.region 12 R3_12 false) (.seq (.region 13 R3_13 false) (.seq (.seq (.region 14 R3_14 false) (.cond (.tmp 65) (.seq (.region 15 R3_15 false) .ret) .skip)) (.seq (.region 16 R3_16 false) (.seq (.region 17 R3_17 false) (.seq (.region 18 R3_18 false) (.seq (.region 19 R3_19 false) (.seq (.seq (.region 20 R3_20 false) (.cond (.tmp 73) (.seq (.region 21 R3_21 false) .ret) .skip)) (.seq (.seq (.region 22 R3_22 false) (.cond (.tmp 76) (.seq (.region 23 R3_23 false) .ret) .skip)) (.seq (.region 24 R3_24 false) (.seq (.seq (.region 25 R3_25 false) (.cond (.tmp 92) (.seq (.region 26 R3_26 false) .ret) .skip)) (.seq (.region 27 R3_27 false) (.seq (.region 28 R3_28 false) (.seq (.seq (.region 29 R3_29 false) (.cond (.tmp 97) (.seq (.region 30 R3_30 false) .ret) .skip)) (.seq (.seq (.region 31 R3_31 false) (.cond (.tmp 100) (.seq (.region 32 R3_32 false) .ret) .skip)) (.seq (.region 33 R3_33 false) .ret))))))))))))))))))))))))) := by kernel_rfl
noncomputable def R4_0 : Array Oper := opsAt Try.f4 [0]
noncomputable def R4_1 : Array Oper := opsAt Try.f4 [1, 0]
noncomputable def R4_2 : Array Oper := opsAt Try.f4 [1, 1, 0]
noncomputable def R4_3 : Array Oper := opsAt Try.f4 [1, 1, 1, 0, 0]
noncomputable def R4_4 : Array Oper := opsAt Try.f4 [1, 1, 1, 0, 1, 0, 0]
noncomputable def R4_5 : Array Oper := opsAt Try.f4 [1, 1, 1, 1, 0]
noncomputable def R4_6 : Array Oper := opsAt Try.f4 [1, 1, 1, 1, 1, 0]
noncomputable def R4_7 : Array Oper := opsAt Try.f4 [1, 1, 1, 1, 1, 1, 0]
noncomputable def R4_8 : Array Oper := opsAt Try.f4 [1, 1, 1, 1, 1, 1, 1, 0, 0]
noncomputable def R4_9 : Array Oper := opsAt Try.f4 [1, 1, 1, 1, 1, 1, 1, 0, 1, 0, 0]
noncomputable def R4_10 : Array Oper := opsAt Try.f4 [1, 1, 1, 1, 1, 1, 1, 1, 0, 0]
noncomputable def R4_11 : Array Oper := opsAt Try.f4 [1, 1, 1, 1, 1, 1, 1, 1, 0, 1, 0, 0]
noncomputable def R4_12 : Array Oper := opsAt Try.f4 [1, 1, 1, 1, 1, 1, 1, 1, 1, 0]
noncomputable def R4_13 : Array Oper := opsAt Try.f4 [1, 1, 1, 1, 1, 1, 1, 1, 1, 1, 0]
noncomputable def R4_14 : Array Oper := opsAt Try.f4 [1, 1, 1, 1, 1, 1, 1, 1, 1, 1, 1, 0, 0]
noncomputable def R4_15 : Array Oper := opsAt Try.f4 [1, 1, 1, 1, 1, 1, 1, 1, 1, 1, 1, 0, 1, 0, 0]
noncomputable def R4_16 : Array Oper := opsAt Try.f4 [1, 1, 1, 1, 1, 1, 1, 1, 1, 1, 1, 1, 0]
noncomputable def R4_17 : Array Oper := opsAt Try.f4 [1, 1, 1, 1, 1, 1, 1, 1, 1, 1, 1, 1, 1, 0]
noncomputable def R4_18 : Array Oper := opsAt Try.f4 [1, 1, 1, 1, 1, 1, 1, 1, 1, 1, 1, 1, 1, 1, 0]
noncomputable def R4_19 : Array Oper := opsAt Try.f4 [1, 1, 1, 1, 1, 1, 1, 1, 1, 1, 1, 1, 1, 1, 1, 0]
noncomputable def R4_20 : Array Oper := opsAt Try.f4 [1, 1, 1, 1, 1, 1, 1, 1, 1, 1, 1, 1, 1, 1, 1, 1, 0, 0]
noncomputable def R4_21 : Array Oper := opsAt Try.f4 [1, 1, 1, 1, 1, 1, 1, 1, 1, 1, 1, 1, 1, 1, 1, 1, 0, 1, 0, 0]
noncomputable def R4_22 : Array Oper := opsAt Try.f4 [1, 1, 1, 1, 1, 1, 1, 1, 1, 1, 1, 1, 1, 1, 1, 1, 1, 0, 0]
noncomputable def R4_23 : Array Oper := opsAt Try.f4 [1, 1, 1, 1, 1, 1, 1, 1, 1, 1, 1, 1, 1, 1, 1, 1, 1, 0, 1, 0, 0]
noncomputable def R4_24 : Array Oper := opsAt Try.f4 [1, 1, 1, 1, 1, 1, 1, 1, 1, 1, 1, 1, 1, 1, 1, 1, 1, 1, 0]
noncomputable def R4_25 : Array Oper := opsAt Try.f4 [1, 1, 1, 1, 1, 1, 1, 1, 1, 1, 1, 1, 1, 1, 1, 1, 1, 1, 1, 0, 0]
noncomputable def R4_26 : Array Oper := opsAt Try.f4 [1, 1, 1, 1, 1, 1, 1, 1, 1, 1, 1, 1, 1, 1, 1, 1, 1, 1, 1, 0, 1, 0, 0]
noncomputable def R4_27 : Array Oper := opsAt Try.f4 [1, 1, 1, 1, 1, 1, 1, 1, 1, 1, 1, 1, 1, 1, 1, 1, 1, 1, 1, 1, 0]
noncomputable def R4_28 : Array Oper := opsAt Try.f4 [1, 1, 1, 1, 1, 1, 1, 1, 1, 1, 1, 1, 1, 1, 1, 1, 1, 1, 1, 1, 1, 0]
noncomputable def R4_29 : Array Oper := opsAt Try.f4 [1, 1, 1, 1, 1, 1, 1, 1, 1, 1, 1, 1, 1, 1, 1, 1, 1, 1, 1, 1, 1, 1, 0, 0]
noncomputable def R4_30 : Array Oper := opsAt Try.f4 [1, 1, 1, 1, 1, 1, 1, 1, 1, 1, 1, 1, 1, 1, 1, 1, 1, 1, 1, 1, 1, 1, 0, 1, 0, 0]
noncomputable def R4_31 : Array Oper := opsAt Try.f4 [1, 1, 1, 1, 1, 1, 1, 1, 1, 1, 1, 1, 1, 1, 1, 1, 1, 1, 1, 1, 1, 1, 1, 0, 0]
noncomputable def R4_32 : Array Oper := opsAt Try.f4 [1, 1, 1, 1, 1, 1, 1, 1, 1, 1, 1, 1, 1, 1, 1, 1, 1, 1, 1, 1, 1, 1, 1, 0, 1, 0, 0]
noncomputable def R4_33 : Array Oper := opsAt Try.f4 [1, 1, 1, 1, 1, 1, 1, 1, 1, 1, 1, 1, 1, 1, 1, 1, 1, 1, 1, 1, 1, 1, 1, 1, 0]
theorem code4 : Try.f4.body = some (.seq (.region 0 R4_0 false) (.seq (.region 1 R4_1 false) (.seq (.region 2 R4_2 false) (.seq (.seq (.region 3 R4_3 false) (.cond (.tmp 20) (.seq (.region 4 R4_4 false) .ret) .skip)) (.seq (.region 5 R4_5 false) (.seq (.region 6 R4_6 false) (.seq (.region 7 R4_7 false) (.seq (.seq (.region 8 R4_8 false) (.cond (.tmp 44) (.seq (.region 9 R4_9 false) .ret) .skip)) (.seq (.seq (.region 10 R4_10 true) (.cond (.tmp 49) (.seq (.region 11 R4_11 false) .ret) .skip)) (.seq (.region 12 R4_12 false) (.seq (.region 13 R4_13 false) (.seq (.seq (.region 14 R4_14 false) (.cond (.tmp 65) (.seq (.region 15 R4_15 false) .ret) .skip)) (.seq (.region 16 R4_16 false) (.seq (.region 17 R4_17 false) (.seq (.region 18 R4_18 false) (.seq (.region 19 R4_19 false) (.seq (.seq (.region 20 R4_20 false) (.cond (.tmp 73) (.seq (.region 21 R4_21 false) .ret) .skip)) (.seq (.seq (.region 22 R4_22 false) (.cond (.tmp 76) (.seq (.region 23 R4_23 false) .ret) .skip)) (.seq (.region 24 R4_24 false) (.seq (.seq (.region 25 R4_25 false) (.cond (.tmp 92) (.seq (.region 26 R4_26 false) .ret) .skip)) (.seq (.region 27 R4_27 false) (.seq (.region 28 R4_28 false) (.seq (.seq (.region 29 R4_29 false) (.cond (.tmp 97) (.seq (.region 30 R4_30 false) .ret) .skip)) (.seq (.seq (.region 31 R4_31 false) (.cond (.tmp 100) (.seq (.region 32 R4_32 false) .ret) .skip)) (.seq (.region 33 R4_33 false) .ret))))))))))))))))))))))))) := by kernel_rfl
noncomputable def R5_0 : Array Oper := opsAt Try.f5 [0]
noncomputable def R5_1 : Array Oper := opsAt Try.f5 [1, 0]
noncomputable def R5_2 : Array Oper := opsAt Try.f5 [1, 1, 0]
noncomputable def R5_3 : Array Oper := opsAt Try.f5 [1, 1, 1, 0, 0]
noncomputable def R5_4 : Array Oper := opsAt Try.f5 [1, 1, 1, 0, 1, 0, 0]
noncomputable def R5_5 : Array Oper := opsAt Try.f5 [1, 1, 1, 1, 0]
noncomputable def R5_6 : Array Oper := opsAt Try.f5 [1, 1, 1, 1, 1, 0]
noncomputable def R5_7 : Array Oper := opsAt Try.f5 [1, 1, 1, 1, 1, 1, 0]
noncomputable def R5_8 : Array Oper := opsAt Try.f5 [1, 1, 1, 1, 1, 1, 1, 0, 0]
noncomputable def R5_9 : Array Oper := opsAt Try.f5 [1, 1, 1, 1, 1, 1, 1, 0, 1, 0, 0]
noncomputable def R5_10 : Array Oper := opsAt Try.f5 [1, 1, 1, 1, 1, 1, 1, 1, 0, 0]
noncomputable def R5_11 : Array Oper := opsAt Try.f5 [1, 1, 1, 1, 1, 1, 1, 1, 0, 1, 0, 0]
noncomputable def R5_12 : Array Oper := opsAt Try.f5 [1, 1, 1, 1, 1, 1, 1, 1, 1, 0]
noncomputable def R5_13 : Array Oper := opsAt Try.f5 [1, 1, 1, 1, 1, 1, 1, 1, 1, 1, 0]
noncomputable def R5_14 : Array Oper := opsAt Try.f5 [1, 1, 1, 1, 1, 1, 1, 1, 1, 1, 1, 0, 0]
noncomputable def R5_15 : Array Oper := opsAt Try.f5 [1, 1, 1, 1, 1, 1, 1, 1, 1, 1, 1, 0, 1, 0, 0]
noncomputable def R5_16 : Array Oper := opsAt Try.f5 [1, 1, 1, 1, 1, 1, 1, 1, 1, 1, 1, 1, 0]
noncomputable def R5_17 : Array Oper := opsAt Try.f5 [1, 1, 1, 1, 1, 1, 1, 1, 1, 1, 1, 1, 1, 0]
noncomputable def R5_18 : Array Oper := opsAt Try.f5 [1, 1, 1, 1, 1, 1, 1, 1, 1, 1, 1, 1, 1, 1, 0]
noncomputable def R5_19 : Array Oper := opsAt Try.f5 [1, 1, 1, 1, 1, 1, 1, 1, 1, 1, 1, 1, 1, 1, 1, 0]
noncomputable def R5_20 : Array Oper := opsAt Try.f5 [1, 1, 1, 1, 1, 1, 1, 1, 1, 1, 1, 1, 1, 1, 1, 1, 0, 0]
noncomputable def R5_21 : Array Oper := opsAt Try.f5 [1, 1, 1, 1, 1, 1, 1, 1, 1, 1, 1, 1, 1, 1, 1, 1, 0, 1, 0, 0]
noncomputable def R5_22 : Array Oper := opsAt Try.f5 [1, 1, 1, 1, 1, 1, 1, 1, 1, 1, 1, 1, 1, 1, 1, 1, 1, 0, 0]
noncomputable def R5_23 : Array Oper := opsAt Try.f5 [1, 1, 1, 1, 1, 1, 1, 1, 1, 1, 1, 1, 1, 1, 1, 1, 1, 0, 1, 0, 0]
noncomputable def R5_24 : Array Oper := opsAt Try.f5 [1, 1, 1, 1, 1, 1, 1, 1, 1, 1, 1, 1, 1, 1, 1, 1, 1, 1, 0]
noncomputable def R5_25 : Array Oper := opsAt Try.f5 [1, 1, 1, 1, 1, 1, 1, 1, 1, 1, 1, 1, 1, 1, 1, 1, 1, 1, 1, 0, 0]
noncomputable def R5_26 : Array Oper := opsAt Try.f5 [1, 1, 1, 1, 1, 1, 1, 1, 1, 1, 1, 1, 1, 1, 1, 1, 1, 1, 1, 0, 1, 0, 0]
noncomputable def R5_27 : Array Oper := opsAt Try.f5 [1, 1, 1, 1, 1, 1, 1, 1, 1, 1, 1, 1, 1, 1, 1, 1, 1, 1, 1, 1, 0]
noncomputable def R5_28 : Array Oper := opsAt Try.f5 [1, 1, 1, 1, 1, 1, 1, 1, 1, 1, 1, 1, 1, 1, 1, 1, 1, 1, 1, 1, 1, 0]
noncomputable def R5_29 : Array Oper := opsAt Try.f5 [1, 1, 1, 1, 1, 1, 1, 1, 1, 1, 1, 1, 1, 1, 1, 1, 1, 1, 1, 1, 1, 1, 0, 0]
noncomputable def R5_30 : Array Oper := opsAt Try.f5 [1, 1, 1, 1, 1, 1, 1, 1, 1, 1, 1, 1, 1, 1, 1, 1, 1, 1, 1, 1, 1, 1, 0, 1, 0, 0]
noncomputable def R5_31 : Array Oper := opsAt Try.f5 [1, 1, 1, 1, 1, 1, 1, 1, 1, 1, 1, 1, 1, 1, 1, 1, 1, 1, 1, 1, 1, 1, 1, 0, 0]
noncomputable def R5_32 : Array Oper := opsAt Try.f5 [1, 1, 1, 1, 1, 1, 1, 1, 1, 1, 1, 1, 1, 1, 1, 1, 1, 1, 1, 1, 1, 1, 1, 0, 1, 0, 0]
noncomputable def R5_33 : Array Oper := opsAt Try.f5 [1, 1, 1, 1, 1, 1, 1, 1, 1, 1, 1, 1, 1, 1, 1, 1, 1, 1, 1, 1, 1, 1, 1, 1, 0]
theorem code5 : Try.f5.body = some (.seq (.region 0 R5_0 false) (.seq (.region 1 R5_1 false) (.seq (.region 2 R5_2 false) (.seq (.seq (.region 3 R5_3 false) (.cond (.tmp 20) (.seq (.region 4 R5_4 false) .ret) .skip)) (.seq (.region 5 R5_5 false) (.seq (.region 6 R5_6 false) (.seq (.region 7 R5_7 false) (.seq (.seq (.region 8 R5_8 false) (.cond (.tmp 44) (.seq (.region 9 R5_9 false) .ret) .skip)) (.seq (.seq (.region 10 R5_10 true) (.cond (.tmp 49) (.seq (.region 11 R5_11 false) .ret) .skip)) (.seq (.region 12 R5_12 false) (.seq (.region 13 R5_13 false) (.seq (.seq (.region 14 R5_14 false) (.cond (.tmp 65) (.seq (.region 15 R5_15 false) .ret) .skip)) (.seq (.region 16 R5_16 false) (.seq (.region 17 R5_17 false) (.seq (.region 18 R5_18 false) (.seq (.region 19 R5_19 false) (.seq (.seq (.region 20 R5_20 false) (.cond (.tmp 73) (.seq (.region 21 R5_21 false) .ret) .skip)) (.seq (.seq (.region 22 R5_22 false) (.cond (.tmp 76) (.seq (.region 23 R5_23 false) .ret) .skip)) (.seq (.region 24 R5_24 false) (.seq (.seq (.region 25 R5_25 false) (.cond (.tmp 92) (.seq (.region 26 R5_26 false) .ret) .skip)) (.seq (.region 27 R5_27 false) (.seq (.region 28 R5_28 false) (.seq (.seq (.region 29 R5_29 false) (.cond (.tmp 97) (.seq (.region 30 R5_30 false) .ret) .skip)) (.seq (.seq (.region 31 R5_31 false) (.cond (.tmp 100) (.seq (.region 32 R5_32 false) .ret) .skip)) (.seq (.region 33 R5_33 false) .ret))))))))))))))))))))))))) := by kernel_rfl
noncomputable def R6_0 : Array Oper := opsAt Try.f6 [0]
noncomputable def R6_1 : Array Oper := opsAt Try.f6 [1, 0]
noncomputable def R6_2 : Array Oper := opsAt Try.f6 [1, 1, 0]
noncomputable def R6_3 : Array Oper := opsAt Try.f6 [1, 1, 1, 0, 0]
noncomputable def R6_4 : Array Oper := opsAt Try.f6 [1, 1, 1, 0, 1, 0, 0]
noncomputable def R6_5 : Array Oper := opsAt Try.f6 [1, 1, 1, 1, 0]
noncomputable def R6_6 : Array Oper := opsAt Try.f6 [1, 1, 1, 1, 1, 0]
noncomputable def R6_7 : Array Oper := opsAt Try.f6 [1, 1, 1, 1, 1, 1, 0]
noncomputable def R6_8 : Array Oper := opsAt Try.f6 [1, 1, 1, 1, 1, 1, 1, 0, 0]
noncomputable def R6_9 : Array Oper := opsAt Try.f6 [1, 1, 1, 1, 1, 1, 1, 0, 1, 0, 0]
noncomputable def R6_10 : Array Oper := opsAt Try.f6 [1, 1, 1, 1, 1, 1, 1, 1, 0, 0]
noncomputable def R6_11 : Array Oper := opsAt Try.f6 [1, 1, 1, 1, 1, 1, 1, 1, 0, 1, 0, 0]
noncomputable def R6_12 : Array Oper := opsAt Try.f6 [1, 1, 1, 1, 1, 1, 1, 1, 1, 0]
theorem code6 : Try.f6.body = some (.seq (.region 0 R6_0 false) (.seq (.region 1 R6_1 false) (.seq (.region 2 R6_2 false) (.seq (.seq (.region 3 R6_3 false) (.cond (.tmp 15) (.seq (.region 4 R6_4 false) .ret) .skip)) (.seq (.region 5 R6_5 false) (.seq (.region 6 R6_6 false) (.seq (.region 7 R6_7 false) (.seq (.seq (.region 8 R6_8 false) (.cond (.tmp 38) (.seq (.region 9 R6_9 false) .ret) .skip)) (.seq (.seq (.region 10 R6_10 true) (.cond (.tmp 43) (.seq (.region 11 R6_11 false) .ret) .skip)) (.seq (.region 12 R6_12 false) .ret)))))))))) := by kernel_rfl
noncomputable def R7_0 : Array Oper := opsAt Try.f7 [0]
noncomputable def R7_1 : Array Oper := opsAt Try.f7 [1, 0]
noncomputable def R7_2 : Array Oper := opsAt Try.f7 [1, 1, 0]
noncomputable def R7_3 : Array Oper := opsAt Try.f7 [1, 1, 1, 0, 0]
noncomputable def R7_4 : Array Oper := opsAt Try.f7 [1, 1, 1, 0, 1, 0, 0]
noncomputable def R7_5 : Array Oper := opsAt Try.f7 [1, 1, 1, 1, 0]
noncomputable def R7_6 : Array Oper := opsAt Try.f7 [1, 1, 1, 1, 1, 0]
noncomputable def R7_7 : Array Oper := opsAt Try.f7 [1, 1, 1, 1, 1, 1, 0]
noncomputable def R7_8 : Array Oper := opsAt Try.f7 [1, 1, 1, 1, 1, 1, 1, 0, 0]
noncomputable def R7_9 : Array Oper := opsAt Try.f7 [1, 1, 1, 1, 1, 1, 1, 0, 1, 0, 0]
noncomputable def R7_10 : Array Oper := opsAt Try.f7 [1, 1, 1, 1, 1, 1, 1, 1, 0, 0]
noncomputable def R7_11 : Array Oper := opsAt Try.f7 [1, 1, 1, 1, 1, 1, 1, 1, 0, 1, 0, 0]
noncomputable def R7_12 : Array Oper := opsAt Try.f7 [1, 1, 1, 1, 1, 1, 1, 1, 1, 0]
noncomputable def R7_13 : Array Oper := opsAt Try.f7 [1, 1, 1, 1, 1, 1, 1, 1, 1, 1, 0]
noncomputable def R7_14 : Array Oper := opsAt Try.f7 [1, 1, 1, 1, 1, 1, 1, 1, 1, 1, 1, 0, 0]
noncomputable def R7_15 : Array Oper := opsAt Try.f7 [1, 1, 1, 1, 1, 1, 1, 1, 1, 1, 1, 0, 1, 0, 0]
noncomputable def R7_16 : Array Oper := opsAt Try.f7 [1, 1, 1, 1, 1, 1, 1, 1, 1, 1, 1, 1, 0]
noncomputable def R7_17 : Array Oper := opsAt Try.f7 [1, 1, 1, 1, 1, 1, 1, 1, 1, 1, 1, 1, 1, 0]
noncomputable def R7_18 : Array Oper := opsAt Try.f7 [1, 1, 1, 1, 1, 1, 1, 1, 1, 1, 1, 1, 1, 1, 0]
noncomputable def R7_19 : Array Oper := opsAt Try.f7 [1, 1, 1, 1, 1, 1, 1, 1, 1, 1, 1, 1, 1, 1, 1, 0]
noncomputable def R7_20 : Array Oper := opsAt Try.f7 [1, 1, 1, 1, 1, 1, 1, 1, 1, 1, 1, 1, 1, 1, 1, 1, 0, 0]
noncomputable def R7_21 : Array Oper := opsAt Try.f7 [1, 1, 1, 1, 1, 1, 1, 1, 1, 1, 1, 1, 1, 1, 1, 1, 0, 1, 0, 0]
noncomputable def R7_22 : Array Oper := opsAt Try.f7 [1, 1, 1, 1, 1, 1, 1, 1, 1, 1, 1, 1, 1, 1, 1, 1, 1, 0, 0]
noncomputable def R7_23 : Array Oper := opsAt Try.f7 [1, 1, 1, 1, 1, 1, 1, 1, 1, 1, 1, 1, 1, 1, 1, 1, 1, 0, 1, 0, 0]
noncomputable def R7_24 : Array Oper := opsAt Try.f7 [1, 1, 1, 1, 1, 1, 1, 1, 1, 1, 1, 1, 1, 1, 1, 1, 1, 1, 0]
noncomputable def R7_25 : Array Oper := opsAt Try.f7 [1, 1, 1, 1, 1, 1, 1, 1, 1, 1, 1, 1, 1, 1, 1, 1, 1, 1, 1, 0, 0]
noncomputable def R7_26 : Array Oper := opsAt Try.f7 [1, 1, 1, 1, 1, 1, 1, 1, 1, 1, 1, 1, 1, 1, 1, 1, 1, 1, 1, 0, 1, 0, 0]
noncomputable def R7_27 : Array Oper := opsAt Try.f7 [1, 1, 1, 1, 1, 1, 1, 1, 1, 1, 1, 1, 1, 1, 1, 1, 1, 1, 1, 1, 0]
noncomputable def R7_28 : Array Oper := opsAt Try.f7 [1, 1, 1, 1, 1, 1, 1, 1, 1, 1, 1, 1, 1, 1, 1, 1, 1, 1, 1, 1, 1, 0]
noncomputable def R7_29 : Array Oper := opsAt Try.f7 [1, 1, 1, 1, 1, 1, 1, 1, 1, 1, 1, 1, 1, 1, 1, 1, 1, 1, 1, 1, 1, 1, 0, 0]
noncomputable def R7_30 : Array Oper := opsAt Try.f7 [1, 1, 1, 1, 1, 1, 1, 1, 1, 1, 1, 1, 1, 1, 1, 1, 1, 1, 1, 1, 1, 1, 0, 1, 0, 0]
noncomputable def R7_31 : Array Oper := opsAt Try.f7 [1, 1, 1, 1, 1, 1, 1, 1, 1, 1, 1, 1, 1, 1, 1, 1, 1, 1, 1, 1, 1, 1, 1, 0, 0]
noncomputable def R7_32 : Array Oper := opsAt Try.f7 [1, 1, 1, 1, 1, 1, 1, 1, 1, 1, 1, 1, 1, 1, 1, 1, 1, 1, 1, 1, 1, 1, 1, 0, 1, 0, 0]
noncomputable def R7_33 : Array Oper := opsAt Try.f7 [1, 1, 1, 1, 1, 1, 1, 1, 1, 1, 1, 1, 1, 1, 1, 1, 1, 1, 1, 1, 1, 1, 1, 1, 0]
theorem code7 : Try.f7.body = some (.seq (.region 0 R7_0 false) (.seq (.region 1 R7_1 false) (.seq (.region 2 R7_2 false) (.seq (.seq (.region 3 R7_3 false) (.cond (.tmp 22) (.seq (.region 4 R7_4 false) .ret) .skip)) (.seq (.region 5 R7_5 false) (.seq (.region 6 R7_6 false) (.seq (.region 7 R7_7 false) (.seq (.seq (.region 8 R7_8 false) (.cond (.tmp 48) (.seq (.region 9 R7_9 false) .ret) .skip)) (.seq (.seq (.region 10 R7_10 true) (.cond (.tmp 53) (.seq (.region 11 R7_11 false) .ret) .skip)) (.seq (.region 12 R7_12 false) (.seq (.region 13 R7_13 false) (.seq (.seq (.region 14 R7_14 false) (.cond (.tmp 69) (.seq (.region 15 R7_15 false) .ret) .skip)) (.seq (.region 16 R7_16 false) (.seq (.region 17 R7_17 false) (.seq (.region 18 R7_18 false) (.seq (.region 19 R7_19 false) (.seq (.seq (.region 20 R7_20 false) (.cond (.tmp 77) (.seq (.region 21 R7_21 false) .ret) .skip)) (.seq (.seq (.region 22 R7_22 false) (.cond (.tmp 80) (.seq (.region 23 R7_23 false) .ret) .skip)) (.seq (.region 24 R7_24 false) (.seq (.seq (.region 25 R7_25 false) (.cond (.tmp 97) (.seq (.region 26 R7_26 false) .ret) .skip)) (.seq (.region 27 R7_27 false) (.seq (.region 28 R7_28 false) (.seq (.seq (.region 29 R7_29 false) (.cond (.tmp 102) (.seq (.region 30 R7_30 false) .ret) .skip)) (.seq (.seq (.region 31 R7_31 false) (.cond (.tmp 105) (.seq (.region 32 R7_32 false) .ret) .skip)) (.seq (.region 33 R7_33 false) .ret))))))))))))))))))))))))) := by kernel_rfl
noncomputable def R10_0 : Array Oper := opsAt Try.f10 [0]
noncomputable def R10_1 : Array Oper := opsAt Try.f10 [1, 0]
noncomputable def R10_2 : Array Oper := opsAt Try.f10 [1, 1, 0, 0]
noncomputable def R10_3 : Array Oper := opsAt Try.f10 [1, 1, 0, 1, 0, 0]
noncomputable def R10_4 : Array Oper := opsAt Try.f10 [1, 1, 1, 0]
theorem code10 : Try.f10.body = some (.seq (.region 0 R10_0 false) (.seq (.region 1 R10_1 false) (.seq (.seq (.region 2 R10_2 false) (.cond (.tmp 10) (.seq (.region 3 R10_3 false) .ret) .skip)) (.seq (.region 4 R10_4 false) .ret)))) := by kernel_rfl
noncomputable def R11_0 : Array Oper := opsAt Try.f11 [0]
noncomputable def R11_1 : Array Oper := opsAt Try.f11 [1, 0]
theorem code11 : Try.f11.body = some (.seq (.region 0 R11_0 false) (.seq (.region 1 R11_1 false) .ret)) := by kernel_rfl
noncomputable def R12_0 : Array Oper := opsAt Try.f12 [0]
noncomputable def R12_1 : Array Oper := opsAt Try.f12 [1, 0]
noncomputable def R12_2 : Array Oper := opsAt Try.f12 [1, 1, 0]
noncomputable def R12_3 : Array Oper := opsAt Try.f12 [1, 1, 1, 0]
noncomputable def R12_4 : Array Oper := opsAt Try.f12 [1, 1, 1, 1, 0]
noncomputable def R12_5 : Array Oper := opsAt Try.f12 [1, 1, 1, 1, 1, 0]
theorem code12 : Try.f12.body = some (.seq (.region 0 R12_0 false) (.seq (.region 1 R12_1 false) (.seq (.region 2 R12_2 false) (.seq (.region 3 R12_3 false) (.seq (.region 4 R12_4 false) (.seq (.region 5 R12_5 false) .ret)))))) := by kernel_rfl
noncomputable def R13_0 : Array Oper := opsAt Try.f13 [0]
noncomputable def R13_1 : Array Oper := opsAt Try.f13 [1, 0]
theorem code13 : Try.f13.body = some (.seq (.region 0 R13_0 false) (.seq (.region 1 R13_1 false) .ret)) := by kernel_rfl
noncomputable def R14_0 : Array Oper := opsAt Try.f14 [0]
noncomputable def R14_1 : Array Oper := opsAt Try.f14 [1, 0, 0]
noncomputable def R14_2 : Array Oper := opsAt Try.f14 [1, 0, 1, 0, 0]
noncomputable def R14_3 : Array Oper := opsAt Try.f14 [1, 1, 0, 0]
noncomputable def R14_4 : Array Oper := opsAt Try.f14 [1, 1, 0, 1, 0, 0]
noncomputable def R14_5 : Array Oper := opsAt Try.f14 [1, 1, 1, 0, 0]
noncomputable def R14_6 : Array Oper := opsAt Try.f14 [1, 1, 1, 0, 1, 0, 0]
noncomputable def R14_7 : Array Oper := opsAt Try.f14 [1, 1, 1, 1, 0]
theorem code14 : Try.f14.body = some (.seq (.region 0 R14_0 false) (.seq (.seq (.region 1 R14_1 false) (.cond (.tmp 9) (.seq (.region 2 R14_2 false) .ret) .skip)) (.seq (.seq (.region 3 R14_3 false) (.cond (.tmp 14) (.seq (.region 4 R14_4 false) .ret) .skip)) (.seq (.seq (.region 5 R14_5 false) (.cond (.tmp 20) (.seq (.region 6 R14_6 false) .ret) .skip)) (.seq (.region 7 R14_7 false) .ret))))) := by kernel_rfl
noncomputable def R15_0 : Array Oper := opsAt Try.f15 [0]
noncomputable def R15_1 : Array Oper := opsAt Try.f15 [1, 0]
noncomputable def R15_2 : Array Oper := opsAt Try.f15 [1, 1, 0]
theorem code15 : Try.f15.body = some (.seq (.region 0 R15_0 false) (.seq (.region 1 R15_1 false) (.seq (.region 2 R15_2 false) .ret))) := by kernel_rfl
noncomputable def R16_0 : Array Oper := opsAt Try.f16 [0]
noncomputable def R16_1 : Array Oper := opsAt Try.f16 [1, 0]
noncomputable def R16_2 : Array Oper := opsAt Try.f16 [1, 1, 0, 0]
noncomputable def R16_3 : Array Oper := opsAt Try.f16 [1, 1, 0, 1, 0, 0]
noncomputable def R16_4 : Array Oper := opsAt Try.f16 [1, 1, 1, 0]
theorem code16 : Try.f16.body = some (.seq (.region 0 R16_0 false) (.seq (.region 1 R16_1 false) (.seq (.seq (.region 2 R16_2 false) (.cond (.tmp 10) (.seq (.region 3 R16_3 false) .ret) .skip)) (.seq (.region 4 R16_4 false) .ret)))) := by kernel_rfl
noncomputable def R17_0 : Array Oper := opsAt Try.f17 [0]
noncomputable def R17_1 : Array Oper := opsAt Try.f17 [1, 0]
theorem code17 : Try.f17.body = some (.seq (.region 0 R17_0 false) (.seq (.region 1 R17_1 false) .ret)) := by kernel_rfl
noncomputable def R18_0 : Array Oper := opsAt Try.f18 [0]
noncomputable def R18_1 : Array Oper := opsAt Try.f18 [1, 0]
theorem code18 : Try.f18.body = some (.seq (.region 0 R18_0 false) (.seq (.region 1 R18_1 false) .ret)) := by kernel_rfl
noncomputable def R19_0 : Array Oper := opsAt Try.f19 [0]
noncomputable def R19_1 : Array Oper := opsAt Try.f19 [1, 0]
theorem code19 : Try.f19.body = some (.seq (.region 0 R19_0 false) (.seq (.region 1 R19_1 false) .ret)) := by kernel_rfl
noncomputable def R20_0 : Array Oper := opsAt Try.f20 [0]
noncomputable def R20_1 : Array Oper := opsAt Try.f20 [1, 0]
theorem code20 : Try.f20.body = some (.seq (.region 0 R20_0 false) (.seq (.region 1 R20_1 false) .ret)) := by kernel_rfl
noncomputable def R21_0 : Array Oper := opsAt Try.f21 [0]
noncomputable def R21_1 : Array Oper := opsAt Try.f21 [1, 0]
noncomputable def R21_2 : Array Oper := opsAt Try.f21 [1, 1, 0, 0]
noncomputable def R21_3 : Array Oper := opsAt Try.f21 [1, 1, 0, 1, 0, 0]
noncomputable def R21_4 : Array Oper := opsAt Try.f21 [1, 1, 1, 0]
noncomputable def R21_5 : Array Oper := opsAt Try.f21 [1, 1, 1, 1, 0, 0]
noncomputable def R21_6 : Array Oper := opsAt Try.f21 [1, 1, 1, 1, 0, 1, 0, 0, 0, 0]
noncomputable def R21_8 : Array Oper := opsAt Try.f21 [1, 1, 1, 1, 0, 1, 0, 0, 1, 0, 0, 0]
noncomputable def R21_9 : Array Oper := opsAt Try.f21 [1, 1, 1, 1, 0, 1, 0, 0, 1, 0, 0, 1, 0, 0]
noncomputable def R21_10 : Array Oper := opsAt Try.f21 [1, 1, 1, 1, 0, 1, 0, 0, 1, 0, 0, 1, 0, 1]
noncomputable def R21_7 : Array Oper := opsAt Try.f21 [1, 1, 1, 1, 0, 1, 0, 0, 1, 1]
noncomputable def L21_0 : Code := .seq (.seq (.region 6 R21_6 false) (.cond (.tmp 23) .skip (.exit 0))) (.seq (.block 1 (.seq (.region 8 R21_8 false) (.cond (.tmp 31) (.seq (.region 9 R21_9 true) (.region 10 R21_10 false)) .skip))) (.region 7 R21_7 false))
theorem lpL21_0 : loops L21_0 = 0 := rfl
noncomputable def R21_11 : Array Oper := opsAt Try.f21 [1, 1, 1, 1, 1, 0]
noncomputable def M21_0 : Code := .seq (.region 11 R21_11 false) .ret
theorem lpM21_0 : loops M21_0 = 0 := rfl
theorem code21 : Try.f21.body = some (.seq (.region 0 R21_0 false) (.seq (.region 1 R21_1 false) (.seq (.seq (.region 2 R21_2 false) (.cond (.tmp 18) (.seq (.region 3 R21_3 false) .ret) .skip)) (.seq (.region 4 R21_4 false) (.seq (.seq (.region 5 R21_5 false) (.block 0 (.loop L21_0))) M21_0))))) := by kernel_rfl
noncomputable def R22_0 : Array Oper := opsAt Try.f22 [0]
noncomputable def R22_1 : Array Oper := opsAt Try.f22 [1, 0]
noncomputable def R22_2 : Array Oper := opsAt Try.f22 [1, 1, 0, 0]
noncomputable def R22_3 : Array Oper := opsAt Try.f22 [1, 1, 0, 1, 0, 0]
noncomputable def R22_4 : Array Oper := opsAt Try.f22 [1, 1, 1, 0]
noncomputable def R22_5 : Array Oper := opsAt Try.f22 [1, 1, 1, 1, 0, 0]
noncomputable def R22_6 : Array Oper := opsAt Try.f22 [1, 1, 1, 1, 0, 1, 0, 0, 0]
noncomputable def R22_7 : Array Oper := opsAt Try.f22 [1, 1, 1, 1, 0, 1, 0, 0, 1, 1, 0, 0, 0]
noncomputable def R22_8 : Array Oper := opsAt Try.f22 [1, 1, 1, 1, 0, 1, 0, 0, 1, 1, 0, 0, 1, 0]
noncomputable def R22_9 : Array Oper := opsAt Try.f22 [1, 1, 1, 1, 0, 1, 0, 0, 1, 1, 0, 0, 1, 1, 0]
noncomputable def R22_10 : Array Oper := opsAt Try.f22 [1, 1, 1, 1, 0, 1, 0, 0, 1, 1, 1]
noncomputable def L22_0 : Code := .seq (.region 6 R22_6 false) (.seq (.cond (.tmp 23) .skip (.exit 0)) (.seq (.block 1 (.seq (.region 7 R22_7 false) (.seq (.region 8 R22_8 false) (.cond (.tmp 28) (.region 9 R22_9 false) .skip)))) (.region 10 R22_10 false)))
theorem lpL22_0 : loops L22_0 = 0 := rfl
noncomputable def R22_11 : Array Oper := opsAt Try.f22 [1, 1, 1, 1, 1, 0]
noncomputable def M22_0 : Code := .seq (.region 11 R22_11 false) .ret
theorem lpM22_0 : loops M22_0 = 0 := rfl
theorem code22 : Try.f22.body = some (.seq (.region 0 R22_0 false) (.seq (.region 1 R22_1 false) (.seq (.seq (.region 2 R22_2 false) (.cond (.tmp 18) (.seq (.region 3 R22_3 false) .ret) .skip)) (.seq (.region 4 R22_4 false) (.seq (.seq (.region 5 R22_5 false) (.block 0 (.loop L22_0))) M22_0))))) := by kernel_rfl
noncomputable def R23_0 : Array Oper := opsAt Try.f23 [0]
noncomputable def R23_1 : Array Oper := opsAt Try.f23 [1, 0, 0]
noncomputable def R23_2 : Array Oper := opsAt Try.f23 [1, 0, 1, 0, 0]
noncomputable def R23_3 : Array Oper := opsAt Try.f23 [1, 1, 0]
theorem code23 : Try.f23.body = some (.seq (.region 0 R23_0 false) (.seq (.seq (.region 1 R23_1 false) (.cond (.tmp 10) (.seq (.region 2 R23_2 false) .ret) .skip)) (.seq (.region 3 R23_3 false) .ret))) := by kernel_rfl
noncomputable def R24_0 : Array Oper := opsAt Try.f24 [0]
noncomputable def R24_1 : Array Oper := opsAt Try.f24 [1, 0, 0]
noncomputable def R24_2 : Array Oper := opsAt Try.f24 [1, 0, 1, 0, 0]
noncomputable def R24_3 : Array Oper := opsAt Try.f24 [1, 1, 0]
theorem code24 : Try.f24.body = some (.seq (.region 0 R24_0 false) (.seq (.seq (.region 1 R24_1 false) (.cond (.tmp 10) (.seq (.region 2 R24_2 false) .ret) .skip)) (.seq (.region 3 R24_3 false) .ret))) := by kernel_rfl
noncomputable def R31_0 : Array Oper := opsAt Try.f31 [0]
noncomputable def R31_1 : Array Oper := opsAt Try.f31 [1, 0]
theorem code31 : Try.f31.body = some (.seq (.region 0 R31_0 false) (.seq (.region 1 R31_1 false) .ret)) := by kernel_rfl
noncomputable def R43_0 : Array Oper := opsAt Try.f43 [0]
noncomputable def R43_1 : Array Oper := opsAt Try.f43 [1, 0]
noncomputable def R43_2 : Array Oper := opsAt Try.f43 [1, 1, 0, 0]
noncomputable def R43_3 : Array Oper := opsAt Try.f43 [1, 1, 0, 1, 0, 0]
noncomputable def R43_4 : Array Oper := opsAt Try.f43 [1, 1, 1, 0]
theorem code43 : Try.f43.body = some (.seq (.region 0 R43_0 false) (.seq (.region 1 R43_1 false) (.seq (.seq (.region 2 R43_2 false) (.cond (.tmp 10) (.seq (.region 3 R43_3 false) .ret) .skip)) (.seq (.region 4 R43_4 false) .ret)))) := by kernel_rfl
noncomputable def R44_0 : Array Oper := opsAt Try.f44 [0]
noncomputable def R44_1 : Array Oper := opsAt Try.f44 [1, 0, 0]
noncomputable def R44_2 : Array Oper := opsAt Try.f44 [1, 0, 1, 0, 0]
noncomputable def R44_3 : Array Oper := opsAt Try.f44 [1, 1, 0]
noncomputable def R44_4 : Array Oper := opsAt Try.f44 [1, 1, 1, 0, 0]
noncomputable def R44_5 : Array Oper := opsAt Try.f44 [1, 1, 1, 0, 1, 0, 0, 0, 0]
noncomputable def R44_7 : Array Oper := opsAt Try.f44 [1, 1, 1, 0, 1, 0, 0, 1, 0, 0, 0]
noncomputable def R44_8 : Array Oper := opsAt Try.f44 [1, 1, 1, 0, 1, 0, 0, 1, 0, 0, 1, 0, 0, 0, 0]
noncomputable def R44_10 : Array Oper := opsAt Try.f44 [1, 1, 1, 0, 1, 0, 0, 1, 0, 0, 1, 0, 0, 1, 0, 0]
noncomputable def R44_9 : Array Oper := opsAt Try.f44 [1, 1, 1, 0, 1, 0, 0, 1, 0, 0, 1, 0, 0, 1, 1]
noncomputable def L44_1 : Code := .seq (.seq (.region 8 R44_8 false) (.cond (.tmp 37) .skip (.exit 2))) (.seq (.block 3 (.region 10 R44_10 true)) (.region 9 R44_9 false))
theorem lpL44_1 : loops L44_1 = 0 := rfl
noncomputable def R44_6 : Array Oper := opsAt Try.f44 [1, 1, 1, 0, 1, 0, 0, 1, 1]
noncomputable def M44_0 : Code := .region 6 R44_6 false
theorem lpM44_0 : loops M44_0 = 0 := rfl
noncomputable def L44_0 : Code := .seq (.seq (.region 5 R44_5 false) (.cond (.tmp 31) .skip (.exit 0))) (.seq (.block 1 (.seq (.region 7 R44_7 false) (.block 2 (.loop L44_1)))) M44_0)
theorem lpL44_0 : loops L44_0 = 1 := rfl
noncomputable def R44_11 : Array Oper := opsAt Try.f44 [1, 1, 1, 1, 0]
noncomputable def M44_1 : Code := .seq (.region 11 R44_11 false) .ret
theorem lpM44_1 : loops M44_1 = 0 := rfl
theorem code44 : Try.f44.body = some (.seq (.region 0 R44_0 false) (.seq (.seq (.region 1 R44_1 false) (.cond (.tmp 20) (.seq (.region 2 R44_2 false) .ret) .skip)) (.seq (.region 3 R44_3 false) (.seq (.seq (.region 4 R44_4 false) (.block 0 (.loop L44_0))) M44_1)))) := by kernel_rfl
noncomputable def R45_0 : Array Oper := opsAt Try.f45 [0]
noncomputable def R45_1 : Array Oper := opsAt Try.f45 [1, 0]
noncomputable def R45_2 : Array Oper := opsAt Try.f45 [1, 1, 0, 0]
noncomputable def R45_3 : Array Oper := opsAt Try.f45 [1, 1, 0, 1, 0, 0, 0, 0]
noncomputable def R45_5 : Array Oper := opsAt Try.f45 [1, 1, 0, 1, 0, 0, 1, 0, 0]
noncomputable def R45_4 : Array Oper := opsAt Try.f45 [1, 1, 0, 1, 0, 0, 1, 1]
noncomputable def L45_0 : Code := .seq (.seq (.region 3 R45_3 false) (.cond (.tmp 11) .skip (.exit 0))) (.seq (.block 1 (.region 5 R45_5 false)) (.region 4 R45_4 false))
theorem lpL45_0 : loops L45_0 = 0 := rfl
noncomputable def R45_6 : Array Oper := opsAt Try.f45 [1, 1, 1, 0]
noncomputable def M45_0 : Code := .seq (.region 6 R45_6 false) .ret
theorem lpM45_0 : loops M45_0 = 0 := rfl
theorem code45 : Try.f45.body = some (.seq (.region 0 R45_0 false) (.seq (.region 1 R45_1 false) (.seq (.seq (.region 2 R45_2 false) (.block 0 (.loop L45_0))) M45_0))) := by kernel_rfl
noncomputable def R46_0 : Array Oper := opsAt Try.f46 [0]
noncomputable def R46_1 : Array Oper := opsAt Try.f46 [1, 0, 0]
noncomputable def R46_2 : Array Oper := opsAt Try.f46 [1, 0, 1, 0, 0]
noncomputable def R46_3 : Array Oper := opsAt Try.f46 [1, 1, 0]
theorem code46 : Try.f46.body = some (.seq (.region 0 R46_0 false) (.seq (.seq (.region 1 R46_1 false) (.cond (.tmp 15) (.seq (.region 2 R46_2 false) .ret) .skip)) (.seq (.region 3 R46_3 false) .ret))) := by kernel_rfl
noncomputable def R47_0 : Array Oper := opsAt Try.f47 [0]
noncomputable def R47_1 : Array Oper := opsAt Try.f47 [1, 0, 0]
noncomputable def R47_2 : Array Oper := opsAt Try.f47 [1, 0, 1, 0]
noncomputable def R47_3 : Array Oper := opsAt Try.f47 [1, 1, 0]
noncomputable def R47_4 : Array Oper := opsAt Try.f47 [1, 1, 1, 0, 0]
noncomputable def R47_5 : Array Oper := opsAt Try.f47 [1, 1, 1, 0, 1, 0, 0, 0, 0]
noncomputable def R47_7 : Array Oper := opsAt Try.f47 [1, 1, 1, 0, 1, 0, 0, 1, 0, 0]
noncomputable def R47_6 : Array Oper := opsAt Try.f47 [1, 1, 1, 0, 1, 0, 0, 1, 1]
noncomputable def L47_0 : Code := .seq (.seq (.region 5 R47_5 false) (.cond (.tmp 15) .skip (.exit 0))) (.seq (.block 1 (.region 7 R47_7 false)) (.region 6 R47_6 false))
theorem lpL47_0 : loops L47_0 = 0 := rfl
noncomputable def R47_8 : Array Oper := opsAt Try.f47 [1, 1, 1, 1, 0]
noncomputable def M47_0 : Code := .seq (.region 8 R47_8 false) .ret
theorem lpM47_0 : loops M47_0 = 0 := rfl
theorem code47 : Try.f47.body = some (.seq (.region 0 R47_0 false) (.seq (.seq (.region 1 R47_1 false) (.cond (.tmp 7) (.region 2 R47_2 false) .skip)) (.seq (.region 3 R47_3 false) (.seq (.seq (.region 4 R47_4 false) (.block 0 (.loop L47_0))) M47_0)))) := by kernel_rfl
noncomputable def R48_0 : Array Oper := opsAt Try.f48 [0]
noncomputable def R48_1 : Array Oper := opsAt Try.f48 [1, 0, 0]
noncomputable def R48_2 : Array Oper := opsAt Try.f48 [1, 0, 1, 0, 0]
noncomputable def R48_3 : Array Oper := opsAt Try.f48 [1, 1, 0, 0]
noncomputable def R48_4 : Array Oper := opsAt Try.f48 [1, 1, 0, 1, 0, 0, 0, 0]
noncomputable def R48_6 : Array Oper := opsAt Try.f48 [1, 1, 0, 1, 0, 0, 1, 0, 0, 0]
noncomputable def R48_7 : Array Oper := opsAt Try.f48 [1, 1, 0, 1, 0, 0, 1, 0, 0, 1, 0, 0]
noncomputable def R48_5 : Array Oper := opsAt Try.f48 [1, 1, 0, 1, 0, 0, 1, 1]
noncomputable def L48_0 : Code := .seq (.seq (.region 4 R48_4 false) (.cond (.tmp 14) .skip (.exit 0))) (.seq (.block 1 (.seq (.region 6 R48_6 true) (.cond (.tmp 25) (.seq (.region 7 R48_7 false) .ret) .skip))) (.region 5 R48_5 false))
theorem lpL48_0 : loops L48_0 = 0 := rfl
noncomputable def R48_8 : Array Oper := opsAt Try.f48 [1, 1, 1, 0]
noncomputable def M48_0 : Code := .seq (.region 8 R48_8 false) .ret
theorem lpM48_0 : loops M48_0 = 0 := rfl
theorem code48 : Try.f48.body = some (.seq (.region 0 R48_0 false) (.seq (.seq (.region 1 R48_1 false) (.cond (.tmp 10) (.seq (.region 2 R48_2 false) .ret) .skip)) (.seq (.seq (.region 3 R48_3 false) (.block 0 (.loop L48_0))) M48_0))) := by kernel_rfl
noncomputable def R49_0 : Array Oper := opsAt Try.f49 [0]
noncomputable def R49_1 : Array Oper := opsAt Try.f49 [1, 0, 0]
noncomputable def R49_2 : Array Oper := opsAt Try.f49 [1, 0, 1, 0, 0, 0, 0]
noncomputable def R49_4 : Array Oper := opsAt Try.f49 [1, 0, 1, 0, 0, 1, 0, 0, 0]
noncomputable def R49_5 : Array Oper := opsAt Try.f49 [1, 0, 1, 0, 0, 1, 0, 0, 1]
noncomputable def R49_3 : Array Oper := opsAt Try.f49 [1, 0, 1, 0, 0, 1, 1]
noncomputable def L49_0 : Code := .seq (.seq (.region 2 R49_2 false) (.cond (.tmp 9) .skip (.exit 0))) (.seq (.block 1 (.seq (.region 4 R49_4 false) (.region 5 R49_5 false))) (.region 3 R49_3 false))
theorem lpL49_0 : loops L49_0 = 0 := rfl
noncomputable def R49_6 : Array Oper := opsAt Try.f49 [1, 1, 0]
noncomputable def M49_0 : Code := .seq (.region 6 R49_6 false) .ret
theorem lpM49_0 : loops M49_0 = 0 := rfl
theorem code49 : Try.f49.body = some (.seq (.region 0 R49_0 false) (.seq (.seq (.region 1 R49_1 false) (.block 0 (.loop L49_0))) M49_0)) := by kernel_rfl
noncomputable def R50_0 : Array Oper := opsAt Try.f50 [0]
noncomputable def R50_1 : Array Oper := opsAt Try.f50 [1, 0, 0]
noncomputable def R50_2 : Array Oper := opsAt Try.f50 [1, 0, 1, 0, 0, 0, 0]
noncomputable def R50_4 : Array Oper := opsAt Try.f50 [1, 0, 1, 0, 0, 1, 0, 0, 0, 0]
noncomputable def R50_5 : Array Oper := opsAt Try.f50 [1, 0, 1, 0, 0, 1, 0, 0, 0, 1, 0, 0]
noncomputable def R50_6 : Array Oper := opsAt Try.f50 [1, 0, 1, 0, 0, 1, 0, 0, 1]
noncomputable def R50_3 : Array Oper := opsAt Try.f50 [1, 0, 1, 0, 0, 1, 1]
noncomputable def L50_0 : Code := .seq (.seq (.region 2 R50_2 false) (.cond (.tmp 9) .skip (.exit 0))) (.seq (.block 1 (.seq (.seq (.region 4 R50_4 false) (.cond (.tmp 17) (.seq (.region 5 R50_5 false) .ret) .skip)) (.region 6 R50_6 false))) (.region 3 R50_3 false))
theorem lpL50_0 : loops L50_0 = 0 := rfl
noncomputable def R50_7 : Array Oper := opsAt Try.f50 [1, 1, 0]
noncomputable def M50_0 : Code := .seq (.region 7 R50_7 false) .ret
theorem lpM50_0 : loops M50_0 = 0 := rfl
theorem code50 : Try.f50.body = some (.seq (.region 0 R50_0 false) (.seq (.seq (.region 1 R50_1 false) (.block 0 (.loop L50_0))) M50_0)) := by kernel_rfl
noncomputable def R51_0 : Array Oper := opsAt Try.f51 [0]
noncomputable def R51_1 : Array Oper := opsAt Try.f51 [1, 0, 0]
noncomputable def R51_2 : Array Oper := opsAt Try.f51 [1, 0, 1, 0]
noncomputable def R51_3 : Array Oper := opsAt Try.f51 [1, 1, 0]
noncomputable def R51_4 : Array Oper := opsAt Try.f51 [1, 1, 1, 0, 0]
noncomputable def R51_5 : Array Oper := opsAt Try.f51 [1, 1, 1, 0, 1, 0, 0, 0, 0]
noncomputable def R51_7 : Array Oper := opsAt Try.f51 [1, 1, 1, 0, 1, 0, 0, 1, 0, 0]
noncomputable def R51_6 : Array Oper := opsAt Try.f51 [1, 1, 1, 0, 1, 0, 0, 1, 1]
noncomputable def L51_0 : Code := .seq (.seq (.region 5 R51_5 false) (.cond (.tmp 15) .skip (.exit 0))) (.seq (.block 1 (.region 7 R51_7 false)) (.region 6 R51_6 false))
theorem lpL51_0 : loops L51_0 = 0 := rfl
noncomputable def R51_8 : Array Oper := opsAt Try.f51 [1, 1, 1, 1, 0]
noncomputable def M51_0 : Code := .seq (.region 8 R51_8 false) .ret
theorem lpM51_0 : loops M51_0 = 0 := rfl
theorem code51 : Try.f51.body = some (.seq (.region 0 R51_0 false) (.seq (.seq (.region 1 R51_1 false) (.cond (.tmp 7) (.region 2 R51_2 false) .skip)) (.seq (.region 3 R51_3 false) (.seq (.seq (.region 4 R51_4 false) (.block 0 (.loop L51_0))) M51_0)))) := by kernel_rfl
noncomputable def R52_0 : Array Oper := opsAt Try.f52 [0]
noncomputable def R52_1 : Array Oper := opsAt Try.f52 [1, 0]
theorem code52 : Try.f52.body = some (.seq (.region 0 R52_0 false) (.seq (.region 1 R52_1 false) .ret)) := by kernel_rfl
noncomputable def R53_0 : Array Oper := opsAt Try.f53 [0]
noncomputable def R53_1 : Array Oper := opsAt Try.f53 [1, 0, 0]
noncomputable def R53_2 : Array Oper := opsAt Try.f53 [1, 0, 1, 0, 0]
noncomputable def R53_3 : Array Oper := opsAt Try.f53 [1, 1, 0]
theorem code53 : Try.f53.body = some (.seq (.region 0 R53_0 false) (.seq (.seq (.region 1 R53_1 false) (.cond (.tmp 7) (.seq (.region 2 R53_2 false) .ret) .skip)) (.seq (.region 3 R53_3 false) .ret))) := by kernel_rfl
noncomputable def R54_0 : Array Oper := opsAt Try.f54 [0]
noncomputable def R54_1 : Array Oper := opsAt Try.f54 [1, 0, 0]
noncomputable def R54_2 : Array Oper := opsAt Try.f54 [1, 0, 1, 0, 0]
noncomputable def R54_3 : Array Oper := opsAt Try.f54 [1, 1, 0]
theorem code54 : Try.f54.body = some (.seq (.region 0 R54_0 false) (.seq (.seq (.region 1 R54_1 false) (.cond (.tmp 4) (.seq (.region 2 R54_2 false) .ret) .skip)) (.seq (.region 3 R54_3 false) .ret))) := by kernel_rfl
noncomputable def R55_0 : Array Oper := opsAt Try.f55 [0]
noncomputable def R55_1 : Array Oper := opsAt Try.f55 [1, 0]
theorem code55 : Try.f55.body = some (.seq (.region 0 R55_0 false) (.seq (.region 1 R55_1 false) .ret)) := by kernel_rfl
noncomputable def R56_0 : Array Oper := opsAt Try.f56 [0]
noncomputable def R56_1 : Array Oper := opsAt Try.f56 [1, 0]
theorem code56 : Try.f56.body = some (.seq (.region 0 R56_0 false) (.seq (.region 1 R56_1 false) .ret)) := by kernel_rfl
noncomputable def R57_0 : Array Oper := opsAt Try.f57 [0]
noncomputable def R57_1 : Array Oper := opsAt Try.f57 [1, 0]
noncomputable def R57_2 : Array Oper := opsAt Try.f57 [1, 1, 0, 0]
noncomputable def R57_3 : Array Oper := opsAt Try.f57 [1, 1, 0, 1, 0, 0, 0]
noncomputable def R57_4 : Array Oper := opsAt Try.f57 [1, 1, 0, 1, 0, 0, 1, 1, 0, 0, 0]
noncomputable def R57_5 : Array Oper := opsAt Try.f57 [1, 1, 0, 1, 0, 0, 1, 1, 0, 0, 1, 0]
noncomputable def R57_6 : Array Oper := opsAt Try.f57 [1, 1, 0, 1, 0, 0, 1, 1, 0, 0, 1, 1, 0]
noncomputable def R57_7 : Array Oper := opsAt Try.f57 [1, 1, 0, 1, 0, 0, 1, 1, 1]
noncomputable def L57_0 : Code := .seq (.region 3 R57_3 false) (.seq (.cond (.tmp 10) .skip (.exit 0)) (.seq (.block 1 (.seq (.region 4 R57_4 false) (.seq (.region 5 R57_5 false) (.cond (.tmp 15) (.region 6 R57_6 false) .skip)))) (.region 7 R57_7 false)))
theorem lpL57_0 : loops L57_0 = 0 := rfl
noncomputable def R57_8 : Array Oper := opsAt Try.f57 [1, 1, 1, 0]
noncomputable def M57_0 : Code := .seq (.region 8 R57_8 false) .ret
theorem lpM57_0 : loops M57_0 = 0 := rfl
theorem code57 : Try.f57.body = some (.seq (.region 0 R57_0 false) (.seq (.region 1 R57_1 false) (.seq (.seq (.region 2 R57_2 false) (.block 0 (.loop L57_0))) M57_0))) := by kernel_rfl
noncomputable def R58_0 : Array Oper := opsAt Try.f58 [0]
noncomputable def R58_1 : Array Oper := opsAt Try.f58 [1, 0, 0]
noncomputable def R58_2 : Array Oper := opsAt Try.f58 [1, 0, 1, 0, 0]
noncomputable def R58_3 : Array Oper := opsAt Try.f58 [1, 1, 0]
theorem code58 : Try.f58.body = some (.seq (.region 0 R58_0 false) (.seq (.seq (.region 1 R58_1 false) (.cond (.tmp 6) (.seq (.region 2 R58_2 false) .ret) .skip)) (.seq (.region 3 R58_3 false) .ret))) := by kernel_rfl
noncomputable def R63_0 : Array Oper := opsAt Try.f63 [0]
noncomputable def R63_1 : Array Oper := opsAt Try.f63 [1, 0, 0]
noncomputable def R63_2 : Array Oper := opsAt Try.f63 [1, 0, 1, 0, 0]
noncomputable def R63_3 : Array Oper := opsAt Try.f63 [1, 1, 0, 0]
noncomputable def R63_4 : Array Oper := opsAt Try.f63 [1, 1, 0, 1, 0, 0, 0, 0]
noncomputable def R63_6 : Array Oper := opsAt Try.f63 [1, 1, 0, 1, 0, 0, 1, 0, 0, 0]
noncomputable def R63_7 : Array Oper := opsAt Try.f63 [1, 1, 0, 1, 0, 0, 1, 0, 0, 1, 0, 0]
noncomputable def R63_5 : Array Oper := opsAt Try.f63 [1, 1, 0, 1, 0, 0, 1, 1]
noncomputable def L63_0 : Code := .seq (.seq (.region 4 R63_4 false) (.cond (.tmp 25) .skip (.exit 0))) (.seq (.block 1 (.seq (.region 6 R63_6 false) (.cond (.tmp 34) (.seq (.region 7 R63_7 false) .ret) .skip))) (.region 5 R63_5 false))
theorem lpL63_0 : loops L63_0 = 0 := rfl
noncomputable def R63_8 : Array Oper := opsAt Try.f63 [1, 1, 1, 0]
noncomputable def M63_0 : Code := .seq (.region 8 R63_8 false) .ret
theorem lpM63_0 : loops M63_0 = 0 := rfl
theorem code63 : Try.f63.body = some (.seq (.region 0 R63_0 false) (.seq (.seq (.region 1 R63_1 false) (.cond (.tmp 20) (.seq (.region 2 R63_2 false) .ret) .skip)) (.seq (.seq (.region 3 R63_3 false) (.block 0 (.loop L63_0))) M63_0))) := by kernel_rfl
noncomputable def R64_0 : Array Oper := opsAt Try.f64 [0]
noncomputable def R64_1 : Array Oper := opsAt Try.f64 [1, 0]
noncomputable def R64_2 : Array Oper := opsAt Try.f64 [1, 1, 0, 0]
noncomputable def R64_3 : Array Oper := opsAt Try.f64 [1, 1, 0, 1, 0, 0, 0]
noncomputable def R64_4 : Array Oper := opsAt Try.f64 [1, 1, 0, 1, 0, 0, 1, 1, 0, 0, 0]
noncomputable def R64_5 : Array Oper := opsAt Try.f64 [1, 1, 0, 1, 0, 0, 1, 1, 0, 0, 1]
noncomputable def R64_6 : Array Oper := opsAt Try.f64 [1, 1, 0, 1, 0, 0, 1, 1, 1]
noncomputable def L64_0 : Code := .seq (.region 3 R64_3 false) (.seq (.cond (.tmp 9) .skip (.exit 0)) (.seq (.block 1 (.seq (.region 4 R64_4 false) (.region 5 R64_5 false))) (.region 6 R64_6 false)))
theorem lpL64_0 : loops L64_0 = 0 := rfl
noncomputable def R64_7 : Array Oper := opsAt Try.f64 [1, 1, 1, 0]
noncomputable def M64_0 : Code := .seq (.region 7 R64_7 false) .ret
theorem lpM64_0 : loops M64_0 = 0 := rfl
theorem code64 : Try.f64.body = some (.seq (.region 0 R64_0 false) (.seq (.region 1 R64_1 false) (.seq (.seq (.region 2 R64_2 false) (.block 0 (.loop L64_0))) M64_0))) := by kernel_rfl
noncomputable def R65_0 : Array Oper := opsAt Try.f65 [0]
noncomputable def R65_1 : Array Oper := opsAt Try.f65 [1, 0]
theorem code65 : Try.f65.body = some (.seq (.region 0 R65_0 false) (.seq (.region 1 R65_1 false) .ret)) := by kernel_rfl
noncomputable def R66_0 : Array Oper := opsAt Try.f66 [0]
noncomputable def R66_1 : Array Oper := opsAt Try.f66 [1, 0]
theorem code66 : Try.f66.body = some (.seq (.region 0 R66_0 false) (.seq (.region 1 R66_1 false) .ret)) := by kernel_rfl
noncomputable def R67_0 : Array Oper := opsAt Try.f67 [0]
noncomputable def R67_1 : Array Oper := opsAt Try.f67 [1, 0]
theorem code67 : Try.f67.body = some (.seq (.region 0 R67_0 false) (.seq (.region 1 R67_1 false) .ret)) := by kernel_rfl
noncomputable def R71_0 : Array Oper := opsAt Try.f71 [0]
noncomputable def R71_1 : Array Oper := opsAt Try.f71 [1, 0]
noncomputable def R71_2 : Array Oper := opsAt Try.f71 [1, 1, 0, 0]
noncomputable def R71_3 : Array Oper := opsAt Try.f71 [1, 1, 0, 1, 0, 0, 0]
noncomputable def R71_4 : Array Oper := opsAt Try.f71 [1, 1, 0, 1, 0, 0, 1, 1, 0, 0, 0]
noncomputable def R71_5 : Array Oper := opsAt Try.f71 [1, 1, 0, 1, 0, 0, 1, 1, 0, 0, 1]
noncomputable def R71_6 : Array Oper := opsAt Try.f71 [1, 1, 0, 1, 0, 0, 1, 1, 1]
noncomputable def L71_0 : Code := .seq (.region 3 R71_3 false) (.seq (.cond (.tmp 16) .skip (.exit 0)) (.seq (.block 1 (.seq (.region 4 R71_4 false) (.region 5 R71_5 true))) (.region 6 R71_6 false)))
theorem lpL71_0 : loops L71_0 = 0 := rfl
noncomputable def R71_7 : Array Oper := opsAt Try.f71 [1, 1, 1, 0]
noncomputable def M71_0 : Code := .seq (.region 7 R71_7 false) .ret
theorem lpM71_0 : loops M71_0 = 0 := rfl
theorem code71 : Try.f71.body = some (.seq (.region 0 R71_0 false) (.seq (.region 1 R71_1 false) (.seq (.seq (.region 2 R71_2 false) (.block 0 (.loop L71_0))) M71_0))) := by kernel_rfl
noncomputable def R74_0 : Array Oper := opsAt Try.f74 [0]
noncomputable def R74_1 : Array Oper := opsAt Try.f74 [1, 0]
theorem code74 : Try.f74.body = some (.seq (.region 0 R74_0 false) (.seq (.region 1 R74_1 false) .ret)) := by kernel_rfl
noncomputable def R75_0 : Array Oper := opsAt Try.f75 [0]
noncomputable def R75_1 : Array Oper := opsAt Try.f75 [1, 0]
theorem code75 : Try.f75.body = some (.seq (.region 0 R75_0 false) (.seq (.region 1 R75_1 false) .ret)) := by kernel_rfl
noncomputable def R88_0 : Array Oper := opsAt Try.f88 [0]
noncomputable def R88_1 : Array Oper := opsAt Try.f88 [1, 0]
noncomputable def R88_2 : Array Oper := opsAt Try.f88 [1, 1, 0, 0]
noncomputable def R88_3 : Array Oper := opsAt Try.f88 [1, 1, 0, 1, 0, 0]
noncomputable def R88_4 : Array Oper := opsAt Try.f88 [1, 1, 1, 0, 0]
noncomputable def R88_5 : Array Oper := opsAt Try.f88 [1, 1, 1, 0, 1, 0, 0]
noncomputable def R88_6 : Array Oper := opsAt Try.f88 [1, 1, 1, 0, 1, 0, 1, 0, 0]
noncomputable def R88_7 : Array Oper := opsAt Try.f88 [1, 1, 1, 0, 1, 0, 1, 1, 0]
noncomputable def R88_8 : Array Oper := opsAt Try.f88 [1, 1, 1, 0, 1, 0, 1, 1, 1, 0, 0]
noncomputable def R88_9 : Array Oper := opsAt Try.f88 [1, 1, 1, 0, 1, 0, 1, 1, 1, 1, 0]
noncomputable def R88_10 : Array Oper := opsAt Try.f88 [1, 1, 1, 0, 1, 0, 1, 1, 1, 1, 1, 0, 0]
noncomputable def R88_11 : Array Oper := opsAt Try.f88 [1, 1, 1, 1, 0]
noncomputable def R88_12 : Array Oper := opsAt Try.f88 [1, 1, 1, 1, 1, 0, 0]
noncomputable def R88_13 : Array Oper := opsAt Try.f88 [1, 1, 1, 1, 1, 0, 1, 0, 0, 0, 0]
noncomputable def R88_15 : Array Oper := opsAt Try.f88 [1, 1, 1, 1, 1, 0, 1, 0, 0, 1, 0, 0, 0]
noncomputable def R88_16 : Array Oper := opsAt Try.f88 [1, 1, 1, 1, 1, 0, 1, 0, 0, 1, 0, 0, 1, 0]
noncomputable def R88_17 : Array Oper := opsAt Try.f88 [1, 1, 1, 1, 1, 0, 1, 0, 0, 1, 0, 0, 1, 1, 0]
noncomputable def R88_14 : Array Oper := opsAt Try.f88 [1, 1, 1, 1, 1, 0, 1, 0, 0, 1, 1]
noncomputable def L88_0 : Code := .seq (.seq (.region 13 R88_13 false) (.cond (.tmp 38) .skip (.exit 1))) (.seq (.block 2 (.seq (.region 15 R88_15 false) (.seq (.region 16 R88_16 false) (.cond (.tmp 52) (.region 17 R88_17 false) .skip)))) (.region 14 R88_14 false))
theorem lpL88_0 : loops L88_0 = 0 := rfl
noncomputable def R88_18 : Array Oper := opsAt Try.f88 [1, 1, 1, 1, 1, 1, 0, 0]
noncomputable def R88_19 : Array Oper := opsAt Try.f88 [1, 1, 1, 1, 1, 1, 0, 1, 0, 0]
noncomputable def R88_20 : Array Oper := opsAt Try.f88 [1, 1, 1, 1, 1, 1, 1, 0]
noncomputable def M88_0 : Code := .seq (.seq (.region 18 R88_18 false) (.cond (.tmp 56) (.seq (.region 19 R88_19 false) .ret) .skip)) (.seq (.region 20 R88_20 false) .ret)
theorem lpM88_0 : loops M88_0 = 0 := rfl
theorem code88 : Try.f88.body = some (.seq (.region 0 R88_0 false) (.seq (.region 1 R88_1 false) (.seq (.seq (.region 2 R88_2 false) (.cond (.tmp 14) (.seq (.region 3 R88_3 false) .ret) .skip)) (.seq (.seq (.region 4 R88_4 false) (.block 0 (.seq (.region 5 R88_5 false) (.cond (.tmp 16) (.seq (.region 6 R88_6 false) .ret) (.seq (.region 7 R88_7 false) (.cond (.tmp 23) (.seq (.region 8 R88_8 false) .ret) (.seq (.region 9 R88_9 false) (.cond (.tmp 28) (.seq (.region 10 R88_10 false) .ret) .skip)))))))) (.seq (.region 11 R88_11 false) (.seq (.seq (.region 12 R88_12 false) (.block 1 (.loop L88_0))) M88_0)))))) := by kernel_rfl
noncomputable def R89_0 : Array Oper := opsAt Try.f89 [0]
noncomputable def R89_1 : Array Oper := opsAt Try.f89 [1, 0]
noncomputable def R89_2 : Array Oper := opsAt Try.f89 [1, 1, 0, 0]
noncomputable def R89_3 : Array Oper := opsAt Try.f89 [1, 1, 0, 1, 0, 0, 0, 0]
noncomputable def R89_5 : Array Oper := opsAt Try.f89 [1, 1, 0, 1, 0, 0, 1, 0, 0, 0]
noncomputable def R89_6 : Array Oper := opsAt Try.f89 [1, 1, 0, 1, 0, 0, 1, 0, 0, 1, 0, 0, 0, 0]
noncomputable def R89_8 : Array Oper := opsAt Try.f89 [1, 1, 0, 1, 0, 0, 1, 0, 0, 1, 0, 0, 1, 0, 0, 0]
noncomputable def R89_9 : Array Oper := opsAt Try.f89 [1, 1, 0, 1, 0, 0, 1, 0, 0, 1, 0, 0, 1, 0, 0, 1, 0, 0]
noncomputable def R89_10 : Array Oper := opsAt Try.f89 [1, 1, 0, 1, 0, 0, 1, 0, 0, 1, 0, 0, 1, 0, 0, 1, 1, 0]
noncomputable def R89_11 : Array Oper := opsAt Try.f89 [1, 1, 0, 1, 0, 0, 1, 0, 0, 1, 0, 0, 1, 0, 0, 1, 1, 1, 0, 0, 0, 0, 0]
noncomputable def R89_12 : Array Oper := opsAt Try.f89 [1, 1, 0, 1, 0, 0, 1, 0, 0, 1, 0, 0, 1, 0, 0, 1, 1, 1, 0, 0, 0, 1, 0]
noncomputable def L89_2 : Code := .seq (.seq (.region 11 R89_11 false) (.cond (.tmp 64) .skip (.exit 4))) (.block 5 (.region 12 R89_12 false))
theorem lpL89_2 : loops L89_2 = 0 := rfl
noncomputable def R89_13 : Array Oper := opsAt Try.f89 [1, 1, 0, 1, 0, 0, 1, 0, 0, 1, 0, 0, 1, 0, 0, 1, 1, 1, 1, 0]
noncomputable def R89_14 : Array Oper := opsAt Try.f89 [1, 1, 0, 1, 0, 0, 1, 0, 0, 1, 0, 0, 1, 0, 0, 1, 1, 1, 1, 1, 0, 0]
noncomputable def R89_15 : Array Oper := opsAt Try.f89 [1, 1, 0, 1, 0, 0, 1, 0, 0, 1, 0, 0, 1, 0, 0, 1, 1, 1, 1, 1, 0, 1, 0, 0, 0, 0]
noncomputable def R89_17 : Array Oper := opsAt Try.f89 [1, 1, 0, 1, 0, 0, 1, 0, 0, 1, 0, 0, 1, 0, 0, 1, 1, 1, 1, 1, 0, 1, 0, 0, 1, 0, 0]
noncomputable def R89_16 : Array Oper := opsAt Try.f89 [1, 1, 0, 1, 0, 0, 1, 0, 0, 1, 0, 0, 1, 0, 0, 1, 1, 1, 1, 1, 0, 1, 0, 0, 1, 1]
noncomputable def L89_3 : Code := .seq (.seq (.region 15 R89_15 false) (.cond (.tmp 76) .skip (.exit 6))) (.seq (.block 7 (.region 17 R89_17 false)) (.region 16 R89_16 false))
theorem lpL89_3 : loops L89_3 = 0 := rfl
noncomputable def R89_18 : Array Oper := opsAt Try.f89 [1, 1, 0, 1, 0, 0, 1, 0, 0, 1, 0, 0, 1, 0, 0, 1, 1, 1, 1, 1, 1]
noncomputable def M89_1 : Code := .region 18 R89_18 false
theorem lpM89_1 : loops M89_1 = 0 := rfl
noncomputable def M89_0 : Code := .seq (.region 13 R89_13 false) (.seq (.seq (.region 14 R89_14 false) (.block 6 (.loop L89_3))) M89_1)
theorem lpM89_0 : loops M89_0 = 1 := rfl
noncomputable def R89_7 : Array Oper := opsAt Try.f89 [1, 1, 0, 1, 0, 0, 1, 0, 0, 1, 0, 0, 1, 1]
noncomputable def M89_2 : Code := .region 7 R89_7 false
theorem lpM89_2 : loops M89_2 = 0 := rfl
noncomputable def L89_1 : Code := .seq (.seq (.region 6 R89_6 false) (.cond (.tmp 43) .skip (.exit 2))) (.seq (.block 3 (.seq (.region 8 R89_8 false) (.seq (.seq (.region 9 R89_9 false) (.cond (.tmp 51) (.exit 3) .skip)) (.seq (.region 10 R89_10 false) (.seq (.block 4 (.loop L89_2)) M89_0))))) M89_2)
theorem lpL89_1 : loops L89_1 = 2 := rfl
noncomputable def R89_4 : Array Oper := opsAt Try.f89 [1, 1, 0, 1, 0, 0, 1, 1]
noncomputable def M89_3 : Code := .region 4 R89_4 false
theorem lpM89_3 : loops M89_3 = 0 := rfl
noncomputable def L89_0 : Code := .seq (.seq (.region 3 R89_3 false) (.cond (.tmp 28) .skip (.exit 0))) (.seq (.block 1 (.seq (.region 5 R89_5 false) (.block 2 (.loop L89_1)))) M89_3)
theorem lpL89_0 : loops L89_0 = 3 := rfl
noncomputable def R89_19 : Array Oper := opsAt Try.f89 [1, 1, 1, 0]
noncomputable def M89_4 : Code := .seq (.region 19 R89_19 false) .ret
theorem lpM89_4 : loops M89_4 = 0 := rfl
theorem code89 : Try.f89.body = some (.seq (.region 0 R89_0 false) (.seq (.region 1 R89_1 false) (.seq (.seq (.region 2 R89_2 false) (.block 0 (.loop L89_0))) M89_4))) := by kernel_rfl
noncomputable def R90_0 : Array Oper := opsAt Try.f90 [0]
noncomputable def R90_1 : Array Oper := opsAt Try.f90 [1, 0]
noncomputable def R90_2 : Array Oper := opsAt Try.f90 [1, 1, 0, 0]
noncomputable def R90_3 : Array Oper := opsAt Try.f90 [1, 1, 0, 1, 0, 0]
noncomputable def R90_4 : Array Oper := opsAt Try.f90 [1, 1, 1, 0]
theorem code90 : Try.f90.body = some (.seq (.region 0 R90_0 false) (.seq (.region 1 R90_1 false) (.seq (.seq (.region 2 R90_2 false) (.cond (.tmp 16) (.seq (.region 3 R90_3 false) .ret) .skip)) (.seq (.region 4 R90_4 false) .ret)))) := by kernel_rfl
noncomputable def R91_0 : Array Oper := opsAt Try.f91 [0]
noncomputable def R91_1 : Array Oper := opsAt Try.f91 [1, 0]
noncomputable def R91_2 : Array Oper := opsAt Try.f91 [1, 1, 0, 0]
noncomputable def R91_3 : Array Oper := opsAt Try.f91 [1, 1, 0, 1, 0, 0, 0, 0]
noncomputable def R91_5 : Array Oper := opsAt Try.f91 [1, 1, 0, 1, 0, 0, 1, 0, 0, 0]
noncomputable def R91_6 : Array Oper := opsAt Try.f91 [1, 1, 0, 1, 0, 0, 1, 0, 0, 1, 0, 0, 0, 0]
noncomputable def R91_8 : Array Oper := opsAt Try.f91 [1, 1, 0, 1, 0, 0, 1, 0, 0, 1, 0, 0, 1, 0, 0, 0]
noncomputable def R91_9 : Array Oper := opsAt Try.f91 [1, 1, 0, 1, 0, 0, 1, 0, 0, 1, 0, 0, 1, 0, 0, 1, 0]
noncomputable def R91_10 : Array Oper := opsAt Try.f91 [1, 1, 0, 1, 0, 0, 1, 0, 0, 1, 0, 0, 1, 0, 0, 1, 1, 0]
noncomputable def R91_7 : Array Oper := opsAt Try.f91 [1, 1, 0, 1, 0, 0, 1, 0, 0, 1, 0, 0, 1, 1]
noncomputable def L91_1 : Code := .seq (.seq (.region 6 R91_6 false) (.cond (.tmp 40) .skip (.exit 2))) (.seq (.block 3 (.seq (.region 8 R91_8 false) (.seq (.region 9 R91_9 false) (.cond (.tmp 54) (.region 10 R91_10 false) .skip)))) (.region 7 R91_7 false))
theorem lpL91_1 : loops L91_1 = 0 := rfl
noncomputable def R91_4 : Array Oper := opsAt Try.f91 [1, 1, 0, 1, 0, 0, 1, 1]
noncomputable def M91_0 : Code := .region 4 R91_4 false
theorem lpM91_0 : loops M91_0 = 0 := rfl
noncomputable def L91_0 : Code := .seq (.seq (.region 3 R91_3 false) (.cond (.tmp 25) .skip (.exit 0))) (.seq (.block 1 (.seq (.region 5 R91_5 false) (.block 2 (.loop L91_1)))) M91_0)
theorem lpL91_0 : loops L91_0 = 1 := rfl
noncomputable def R91_11 : Array Oper := opsAt Try.f91 [1, 1, 1, 0]
noncomputable def M91_1 : Code := .seq (.region 11 R91_11 false) .ret
theorem lpM91_1 : loops M91_1 = 0 := rfl
theorem code91 : Try.f91.body = some (.seq (.region 0 R91_0 false) (.seq (.region 1 R91_1 false) (.seq (.seq (.region 2 R91_2 false) (.block 0 (.loop L91_0))) M91_1))) := by kernel_rfl
noncomputable def R96_0 : Array Oper := opsAt Try.f96 [0]
noncomputable def R96_1 : Array Oper := opsAt Try.f96 [1, 0]
theorem code96 : Try.f96.body = some (.seq (.region 0 R96_0 false) (.seq (.region 1 R96_1 false) .ret)) := by kernel_rfl
noncomputable def R97_0 : Array Oper := opsAt Try.f97 [0]
noncomputable def R97_1 : Array Oper := opsAt Try.f97 [1, 0, 0]
noncomputable def R97_2 : Array Oper := opsAt Try.f97 [1, 0, 1, 0, 0, 0]
noncomputable def R97_3 : Array Oper := opsAt Try.f97 [1, 0, 1, 0, 0, 1, 1, 0, 0, 0]
noncomputable def R97_4 : Array Oper := opsAt Try.f97 [1, 0, 1, 0, 0, 1, 1, 0, 0, 1, 0]
noncomputable def R97_5 : Array Oper := opsAt Try.f97 [1, 0, 1, 0, 0, 1, 1, 0, 0, 1, 1, 0, 0]
noncomputable def R97_6 : Array Oper := opsAt Try.f97 [1, 0, 1, 0, 0, 1, 1, 1]
noncomputable def L97_0 : Code := .seq (.region 2 R97_2 false) (.seq (.cond (.tmp 9) .skip (.exit 0)) (.seq (.block 1 (.seq (.region 3 R97_3 false) (.seq (.region 4 R97_4 false) (.cond (.tmp 16) (.seq (.region 5 R97_5 false) .ret) .skip)))) (.region 6 R97_6 false)))
theorem lpL97_0 : loops L97_0 = 0 := rfl
noncomputable def R97_7 : Array Oper := opsAt Try.f97 [1, 1, 0]
noncomputable def M97_0 : Code := .seq (.region 7 R97_7 false) .ret
theorem lpM97_0 : loops M97_0 = 0 := rfl
theorem code97 : Try.f97.body = some (.seq (.region 0 R97_0 false) (.seq (.seq (.region 1 R97_1 false) (.block 0 (.loop L97_0))) M97_0)) := by kernel_rfl
noncomputable def R99_0 : Array Oper := opsAt Try.f99 [0]
noncomputable def R99_1 : Array Oper := opsAt Try.f99 [1, 0]
theorem code99 : Try.f99.body = some (.seq (.region 0 R99_0 false) (.seq (.region 1 R99_1 false) .ret)) := by kernel_rfl
noncomputable def R107_0 : Array Oper := opsAt Try.f107 [0]
noncomputable def R107_1 : Array Oper := opsAt Try.f107 [1, 0, 0]
noncomputable def R107_2 : Array Oper := opsAt Try.f107 [1, 0, 1, 0, 0]
noncomputable def R107_3 : Array Oper := opsAt Try.f107 [1, 1, 0]
theorem code107 : Try.f107.body = some (.seq (.region 0 R107_0 false) (.seq (.seq (.region 1 R107_1 false) (.cond (.tmp 6) (.seq (.region 2 R107_2 false) .ret) .skip)) (.seq (.region 3 R107_3 false) .ret))) := by kernel_rfl
noncomputable def R108_0 : Array Oper := opsAt Try.f108 [0]
noncomputable def R108_1 : Array Oper := opsAt Try.f108 [1, 0, 0]
noncomputable def R108_2 : Array Oper := opsAt Try.f108 [1, 0, 1, 0, 0]
noncomputable def R108_3 : Array Oper := opsAt Try.f108 [1, 1, 0]
theorem code108 : Try.f108.body = some (.seq (.region 0 R108_0 false) (.seq (.seq (.region 1 R108_1 false) (.cond (.tmp 7) (.seq (.region 2 R108_2 false) .ret) .skip)) (.seq (.region 3 R108_3 false) .ret))) := by kernel_rfl
noncomputable def R109_0 : Array Oper := opsAt Try.f109 [0]
noncomputable def R109_1 : Array Oper := opsAt Try.f109 [1, 0, 0]
noncomputable def R109_2 : Array Oper := opsAt Try.f109 [1, 0, 1, 0]
noncomputable def R109_3 : Array Oper := opsAt Try.f109 [1, 1, 0]
noncomputable def R109_4 : Array Oper := opsAt Try.f109 [1, 1, 1, 0, 0]
noncomputable def R109_5 : Array Oper := opsAt Try.f109 [1, 1, 1, 0, 1, 0]
noncomputable def R109_6 : Array Oper := opsAt Try.f109 [1, 1, 1, 1, 0]
noncomputable def R109_7 : Array Oper := opsAt Try.f109 [1, 1, 1, 1, 1, 0]
noncomputable def R109_8 : Array Oper := opsAt Try.f109 [1, 1, 1, 1, 1, 1, 0, 0, 0, 0, 0]
noncomputable def R109_9 : Array Oper := opsAt Try.f109 [1, 1, 1, 1, 1, 1, 0, 0, 0, 1, 0]
noncomputable def L109_0 : Code := .seq (.seq (.region 8 R109_8 false) (.cond (.tmp 37) .skip (.exit 0))) (.block 1 (.region 9 R109_9 true))
theorem lpL109_0 : loops L109_0 = 0 := rfl
noncomputable def R109_10 : Array Oper := opsAt Try.f109 [1, 1, 1, 1, 1, 1, 1, 0]
noncomputable def M109_0 : Code := .seq (.region 10 R109_10 false) .ret
theorem lpM109_0 : loops M109_0 = 0 := rfl
theorem code109 : Try.f109.body = some (.seq (.region 0 R109_0 false) (.seq (.seq (.region 1 R109_1 false) (.cond (.tmp 10) (.region 2 R109_2 false) .skip)) (.seq (.region 3 R109_3 false) (.seq (.seq (.region 4 R109_4 false) (.cond (.tmp 26) (.region 5 R109_5 false) .skip)) (.seq (.region 6 R109_6 false) (.seq (.region 7 R109_7 false) (.seq (.block 0 (.loop L109_0)) M109_0))))))) := by kernel_rfl
noncomputable def R112_0 : Array Oper := opsAt Try.f112 [0]
noncomputable def R112_1 : Array Oper := opsAt Try.f112 [1, 0, 0, 0]
noncomputable def R112_2 : Array Oper := opsAt Try.f112 [1, 0, 0, 1, 0]
noncomputable def R112_3 : Array Oper := opsAt Try.f112 [1, 1, 0]
noncomputable def R112_4 : Array Oper := opsAt Try.f112 [1, 1, 1, 0]
theorem code112 : Try.f112.body = some (.seq (.region 0 R112_0 false) (.seq (.cond (.const (.bool false)) (.seq (.region 1 R112_1 false) (.seq (.region 2 R112_2 false) .ret)) .skip) (.seq (.region 3 R112_3 false) (.seq (.region 4 R112_4 false) .ret)))) := by kernel_rfl
noncomputable def R113_0 : Array Oper := opsAt Try.f113 [0]
noncomputable def R113_1 : Array Oper := opsAt Try.f113 [1, 0]
noncomputable def R113_2 : Array Oper := opsAt Try.f113 [1, 1, 0]
theorem code113 : Try.f113.body = some (.seq (.region 0 R113_0 false) (.seq (.region 1 R113_1 false) (.seq (.region 2 R113_2 false) .ret))) := by kernel_rfl
noncomputable def R114_0 : Array Oper := opsAt Try.f114 [0]
noncomputable def R114_1 : Array Oper := opsAt Try.f114 [1, 0]
noncomputable def R114_2 : Array Oper := opsAt Try.f114 [1, 1, 0]
noncomputable def R114_3 : Array Oper := opsAt Try.f114 [1, 1, 1, 0]
noncomputable def R114_4 : Array Oper := opsAt Try.f114 [1, 1, 1, 1, 0]
noncomputable def R114_5 : Array Oper := opsAt Try.f114 [1, 1, 1, 1, 1, 0]
noncomputable def R114_6 : Array Oper := opsAt Try.f114 [1, 1, 1, 1, 1, 1, 0]
noncomputable def R114_7 : Array Oper := opsAt Try.f114 [1, 1, 1, 1, 1, 1, 1, 0]
noncomputable def R114_8 : Array Oper := opsAt Try.f114 [1, 1, 1, 1, 1, 1, 1, 1, 0]
noncomputable def R114_9 : Array Oper := opsAt Try.f114 [1, 1, 1, 1, 1, 1, 1, 1, 1, 0]
noncomputable def R114_10 : Array Oper := opsAt Try.f114 [1, 1, 1, 1, 1, 1, 1, 1, 1, 1, 0]
noncomputable def R114_11 : Array Oper := opsAt Try.f114 [1, 1, 1, 1, 1, 1, 1, 1, 1, 1, 1, 0]
theorem code114 : Try.f114.body = some (.seq (.region 0 R114_0 false) (.seq (.region 1 R114_1 false) (.seq (.region 2 R114_2 false) (.seq (.region 3 R114_3 false) (.seq (.region 4 R114_4 false) (.seq (.region 5 R114_5 false) (.seq (.region 6 R114_6 false) (.seq (.region 7 R114_7 false) (.seq (.region 8 R114_8 false) (.seq (.region 9 R114_9 false) (.seq (.region 10 R114_10 false) (.seq (.region 11 R114_11 false) .ret)))))))))))) := by kernel_rfl
def K : FuncId → Nat → List Nat
  | 21, 0 => [2, 6, 8, 9]
  | 22, 0 => [6, 8, 20, 21, 22]
  | 44, 0 => [1, 2, 3, 4, 8, 10, 11]
  | 44, 1 => [1, 2, 3, 4, 8, 10, 11, 12]
  | 45, 0 => [0, 3, 4]
  | 47, 0 => [0, 3, 4]
  | 48, 0 => [0, 1, 5]
  | 49, 0 => [0, 1, 5]
  | 50, 0 => [0, 1, 5]
  | 51, 0 => [0, 3, 4]
  | 57, 0 => [0, 1, 4, 7, 8, 9]
  | 63, 0 => [1, 3]
  | 64, 0 => [3, 6, 7, 8]
  | 71, 0 => [0, 2, 6, 7, 14, 15]
  | 88, 0 => [0, 1, 2, 7, 8, 9, 10]
  | 89, 0 => [1, 2, 3, 4, 9, 10, 57, 58, 59, 60, 61, 62, 63]
  | 89, 1 => [1, 2, 3, 4, 9, 10, 11, 57, 58, 59, 60, 61, 62, 63]
  | 89, 2 => [1, 2, 3, 4, 9, 10, 11, 12, 13, 57, 58, 59, 60, 61, 62, 63]
  | 89, 3 => [1, 2, 3, 4, 9, 10, 11, 12, 13, 14, 57, 58, 59, 60, 61, 62, 63]
  | 91, 0 => [1, 2, 3, 4, 9, 10]
  | 91, 1 => [1, 2, 3, 4, 9, 10, 11]
  | 97, 0 => [0, 1, 7, 8]
  | 109, 0 => [7, 8]
  | _, _ => []
def X : FuncId → Option (List V → Option (V × List Eng.Obj))
  | _ => none
noncomputable def C : Cfg := ⟨T, F, X, WR, OW, K⟩
theorem cT : C.T = T := rfl
theorem cF : C.fn = F := rfl
theorem cX : C.ext = X := rfl
theorem cWR : C.wr = WR := rfl
theorem cOW : C.own = OW := rfl
theorem cK : C.keep = K := rfl
theorem ent {f : FuncId} {fn : Func} (h : Try.prog.funcs[f]? = some fn) (hb : fn.body.isSome = true) (hn : (fn.name == "runtime.NumGoroutine") = false) : Enters Try.prog f := enters_mk h hb hn
theorem cfgOk : CfgOk Try.prog C where
  mixed := by kernel_rfl
  tab := tabOk
  fn := by
    intro f fn h
    show Try.prog.funcs[f]? = some fn ∧ _
    have h' : F f = some fn := h
    unfold F at h'
    split at h'
    · cases h'; exact ⟨Try.func3, ent Try.func3 rfl rfl, chk3⟩
    · cases h'; exact ⟨Try.func4, ent Try.func4 rfl rfl, chk4⟩
    · cases h'; exact ⟨Try.func5, ent Try.func5 rfl rfl, chk5⟩
    · cases h'; exact ⟨Try.func6, ent Try.func6 rfl rfl, chk6⟩
    · cases h'; exact ⟨Try.func7, ent Try.func7 rfl rfl, chk7⟩
    · cases h'; exact ⟨Try.func10, ent Try.func10 rfl rfl, chk10⟩
    · cases h'; exact ⟨Try.func11, ent Try.func11 rfl rfl, chk11⟩
    · cases h'; exact ⟨Try.func12, ent Try.func12 rfl rfl, chk12⟩
    · cases h'; exact ⟨Try.func13, ent Try.func13 rfl rfl, chk13⟩
    · cases h'; exact ⟨Try.func14, ent Try.func14 rfl rfl, chk14⟩
    · cases h'; exact ⟨Try.func15, ent Try.func15 rfl rfl, chk15⟩
    · cases h'; exact ⟨Try.func16, ent Try.func16 rfl rfl, chk16⟩
    · cases h'; exact ⟨Try.func17, ent Try.func17 rfl rfl, chk17⟩
    · cases h'; exact ⟨Try.func18, ent Try.func18 rfl rfl, chk18⟩
    · cases h'; exact ⟨Try.func19, ent Try.func19 rfl rfl, chk19⟩
    · cases h'; exact ⟨Try.func20, ent Try.func20 rfl rfl, chk20⟩
    · cases h'; exact ⟨Try.func21, ent Try.func21 rfl rfl, chk21⟩
    · cases h'; exact ⟨Try.func22, ent Try.func22 rfl rfl, chk22⟩
    · cases h'; exact ⟨Try.func23, ent Try.func23 rfl rfl, chk23⟩
    · cases h'; exact ⟨Try.func24, ent Try.func24 rfl rfl, chk24⟩
    · cases h'; exact ⟨Try.func31, ent Try.func31 rfl rfl, chk31⟩
    · cases h'; exact ⟨Try.func43, ent Try.func43 rfl rfl, chk43⟩
    · cases h'; exact ⟨Try.func44, ent Try.func44 rfl rfl, chk44⟩
    · cases h'; exact ⟨Try.func45, ent Try.func45 rfl rfl, chk45⟩
    · cases h'; exact ⟨Try.func46, ent Try.func46 rfl rfl, chk46⟩
    · cases h'; exact ⟨Try.func47, ent Try.func47 rfl rfl, chk47⟩
    · cases h'; exact ⟨Try.func48, ent Try.func48 rfl rfl, chk48⟩
    · cases h'; exact ⟨Try.func49, ent Try.func49 rfl rfl, chk49⟩
    · cases h'; exact ⟨Try.func50, ent Try.func50 rfl rfl, chk50⟩
    · cases h'; exact ⟨Try.func51, ent Try.func51 rfl rfl, chk51⟩
    · cases h'; exact ⟨Try.func52, ent Try.func52 rfl rfl, chk52⟩
    · cases h'; exact ⟨Try.func53, ent Try.func53 rfl rfl, chk53⟩
    · cases h'; exact ⟨Try.func54, ent Try.func54 rfl rfl, chk54⟩
    · cases h'; exact ⟨Try.func55, ent Try.func55 rfl rfl, chk55⟩
    · cases h'; exact ⟨Try.func56, ent Try.func56 rfl rfl, chk56⟩
    · cases h'; exact ⟨Try.func57, ent Try.func57 rfl rfl, chk57⟩
    · cases h'; exact ⟨Try.func58, ent Try.func58 rfl rfl, chk58⟩
    · cases h'; exact ⟨Try.func63, ent Try.func63 rfl rfl, chk63⟩
    · cases h'; exact ⟨Try.func64, ent Try.func64 rfl rfl, chk64⟩
    · cases h'; exact ⟨Try.func65, ent Try.func65 rfl rfl, chk65⟩
    · cases h'; exact ⟨Try.func66, ent Try.func66 rfl rfl, chk66⟩
    · cases h'; exact ⟨Try.func67, ent Try.func67 rfl rfl, chk67⟩
    · cases h'; exact ⟨Try.func71, ent Try.func71 rfl rfl, chk71⟩
    · cases h'; exact ⟨Try.func74, ent Try.func74 rfl rfl, chk74⟩
    · cases h'; exact ⟨Try.func75, ent Try.func75 rfl rfl, chk75⟩
    · cases h'; exact ⟨Try.func88, ent Try.func88 rfl rfl, chk88⟩
    · cases h'; exact ⟨Try.func89, ent Try.func89 rfl rfl, chk89⟩
    · cases h'; exact ⟨Try.func90, ent Try.func90 rfl rfl, chk90⟩
    · cases h'; exact ⟨Try.func91, ent Try.func91 rfl rfl, chk91⟩
    · cases h'; exact ⟨Try.func96, ent Try.func96 rfl rfl, chk96⟩
    · cases h'; exact ⟨Try.func97, ent Try.func97 rfl rfl, chk97⟩
    · cases h'; exact ⟨Try.func99, ent Try.func99 rfl rfl, chk99⟩
    · cases h'; exact ⟨Try.func107, ent Try.func107 rfl rfl, chk107⟩
    · cases h'; exact ⟨Try.func108, ent Try.func108 rfl rfl, chk108⟩
    · cases h'; exact ⟨Try.func109, ent Try.func109 rfl rfl, chk109⟩
    · cases h'; exact ⟨Try.func112, ent Try.func112 rfl rfl, chk112⟩
    · cases h'; exact ⟨Try.func113, ent Try.func113 rfl rfl, chk113⟩
    · cases h'; exact ⟨Try.func114, ent Try.func114 rfl rfl, chk114⟩
    · cases h'
  ext := by
    intro f m h
    have h' : X f = some m := h
    unfold X at h'
    cases h'
end Go.Proofs.Ytfgoljfggkkpnaa.Eng
