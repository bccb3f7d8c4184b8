/- The types, the functions and the loops' live slots that the laws reach, and that they are what the program has. No conditions. -/
import Derived.Test.YtngbdlkcpkkeoaaEngS
import Derived.Test.YtngbdlkcpkkeoaaProg
import Derived.KernelRfl
import Derived.WalkKit
namespace Go.Proofs.Ytngbdlkcpkkeoaa.Eng
open Go Go.Proofs
set_option maxRecDepth 100000
def T : Tab
  | 3 => some ⟨.int .i64, 1, 8, [.int .i64 0], true⟩
  | 4 => some ⟨.bool, 1, 1, [.bool false], true⟩
  | 22 => some ⟨(.slice 62), 1, 24, [.slice none 0 0], false⟩
  | 25 => some ⟨(.slice 60), 1, 24, [.slice none 0 0], false⟩
  | 29 => some ⟨(.slice 3), 1, 24, [.slice none 0 0], false⟩
  | 31 => some ⟨(.struct [(0, 1, false), (1, 1, false), (2, 1, false)]), 3, 40, [.int .i64 0, .int .i64 0, .slice none 0 0], false⟩
  | 35 => some ⟨(.struct [(0, 1, false), (1, 1, false), (2, 1, false)]), 3, 40, [.int .i64 0, .int .i64 0, .slice none 0 0], false⟩
  | 60 => some ⟨(.struct [(0, 1, false), (1, 1, false)]), 2, 16, [.int .i64 0, .int .i64 0], true⟩
  | 62 => some ⟨(.struct [(0, 1, false), (1, 1, false)]), 2, 16, [.int .i64 0, .int .i64 0], true⟩
  | 71 => some ⟨.oth, 1, 8, [.nilFunc], false⟩
  | 83 => some ⟨(.slice 35), 1, 24, [.slice none 0 0], false⟩
  | _ => none
theorem T3 : T 3 = some ⟨.int .i64, 1, 8, [.int .i64 0], true⟩ := rfl
theorem ok3 : TiOk Try.prog 3 ⟨.int .i64, 1, 8, [.int .i64 0], true⟩ := ⟨(by kernel_rfl : Try.prog.underlying 3 = _), (TiOk.of_info (z := (.int .i64 0)) (by kernel_rfl) rfl), rfl, by decide⟩
theorem T4 : T 4 = some ⟨.bool, 1, 1, [.bool false], true⟩ := rfl
theorem ok4 : TiOk Try.prog 4 ⟨.bool, 1, 1, [.bool false], true⟩ := ⟨(by kernel_rfl : Try.prog.underlying 4 = _), (TiOk.of_info (z := (.bool false)) (by kernel_rfl) rfl), rfl, by decide⟩
theorem T22 : T 22 = some ⟨(.slice 62), 1, 24, [.slice none 0 0], false⟩ := rfl
theorem ok22 : TiOk Try.prog 22 ⟨(.slice 62), 1, 24, [.slice none 0 0], false⟩ := ⟨(by kernel_rfl : Try.prog.underlying 22 = _), (TiOk.of_info (z := (.slice none 0 0)) (by kernel_rfl) rfl), rfl, by decide⟩
theorem T25 : T 25 = some ⟨(.slice 60), 1, 24, [.slice none 0 0], false⟩ := rfl
theorem ok25 : TiOk Try.prog 25 ⟨(.slice 60), 1, 24, [.slice none 0 0], false⟩ := ⟨(by kernel_rfl : Try.prog.underlying 25 = _), (TiOk.of_info (z := (.slice none 0 0)) (by kernel_rfl) rfl), rfl, by decide⟩
theorem T29 : T 29 = some ⟨(.slice 3), 1, 24, [.slice none 0 0], false⟩ := rfl
theorem ok29 : TiOk Try.prog 29 ⟨(.slice 3), 1, 24, [.slice none 0 0], false⟩ := ⟨(by kernel_rfl : Try.prog.underlying 29 = _), (TiOk.of_info (z := (.slice none 0 0)) (by kernel_rfl) rfl), rfl, by decide⟩
theorem T31 : T 31 = some ⟨(.struct [(0, 1, false), (1, 1, false), (2, 1, false)]), 3, 40, [.int .i64 0, .int .i64 0, .slice none 0 0], false⟩ := rfl
theorem ok31 : TiOk Try.prog 31 ⟨(.struct [(0, 1, false), (1, 1, false), (2, 1, false)]), 3, 40, [.int .i64 0, .int .i64 0, .slice none 0 0], false⟩ := ⟨TiOk.of_struct Try.underlying31 (by kernel_rfl), (TiOk.of_info (z := (.agg #[.int .i64 0, .int .i64 0, .slice none 0 0])) (by kernel_rfl) rfl), rfl, by decide⟩
theorem T35 : T 35 = some ⟨(.struct [(0, 1, false), (1, 1, false), (2, 1, false)]), 3, 40, [.int .i64 0, .int .i64 0, .slice none 0 0], false⟩ := rfl
theorem ok35 : TiOk Try.prog 35 ⟨(.struct [(0, 1, false), (1, 1, false), (2, 1, false)]), 3, 40, [.int .i64 0, .int .i64 0, .slice none 0 0], false⟩ := ⟨TiOk.of_struct Try.underlying35 (by kernel_rfl), (TiOk.of_info (z := (.agg #[.int .i64 0, .int .i64 0, .slice none 0 0])) (by kernel_rfl) rfl), rfl, by decide⟩
theorem T60 : T 60 = some ⟨(.struct [(0, 1, false), (1, 1, false)]), 2, 16, [.int .i64 0, .int .i64 0], true⟩ := rfl
theorem ok60 : TiOk Try.prog 60 ⟨(.struct [(0, 1, false), (1, 1, false)]), 2, 16, [.int .i64 0, .int .i64 0], true⟩ := ⟨TiOk.of_struct Try.underlying60 (by kernel_rfl), (TiOk.of_info (z := (.agg #[.int .i64 0, .int .i64 0])) (by kernel_rfl) rfl), rfl, by decide⟩
theorem T62 : T 62 = some ⟨(.struct [(0, 1, false), (1, 1, false)]), 2, 16, [.int .i64 0, .int .i64 0], true⟩ := rfl
theorem ok62 : TiOk Try.prog 62 ⟨(.struct [(0, 1, false), (1, 1, false)]), 2, 16, [.int .i64 0, .int .i64 0], true⟩ := ⟨TiOk.of_struct Try.underlying62 (by kernel_rfl), (TiOk.of_info (z := (.agg #[.int .i64 0, .int .i64 0])) (by kernel_rfl) rfl), rfl, by decide⟩
theorem T71 : T 71 = some ⟨.oth, 1, 8, [.nilFunc], false⟩ := rfl
theorem ok71 : TiOk Try.prog 71 ⟨.oth, 1, 8, [.nilFunc], false⟩ := ⟨⟨_, Try.underlying71, rfl⟩, (TiOk.of_info (z := (.nilFunc)) (by kernel_rfl) rfl), rfl, by decide⟩
theorem T83 : T 83 = some ⟨(.slice 35), 1, 24, [.slice none 0 0], false⟩ := rfl
theorem ok83 : TiOk Try.prog 83 ⟨(.slice 35), 1, 24, [.slice none 0 0], false⟩ := ⟨(by kernel_rfl : Try.prog.underlying 83 = _), (TiOk.of_info (z := (.slice none 0 0)) (by kernel_rfl) rfl), rfl, by decide⟩
theorem tabOk : TabOk Try.prog T := by
  intro t i h
  unfold T at h
  split at h
  · cases h; exact ok3
  · cases h; exact ok4
  · cases h; exact ok22
  · cases h; exact ok25
  · cases h; exact ok29
  · cases h; exact ok31
  · cases h; exact ok35
  · cases h; exact ok60
  · cases h; exact ok62
  · cases h; exact ok71
  · cases h; exact ok83
  · cases h
set_option maxHeartbeats 1000000
def WR (f : FuncId) : Bool := f == 27 || f == 65
def OW (f : FuncId) : Bool := f == 27 || f == 65
noncomputable def F : FuncId → Option Func
  | 9 => some Try.f9
  | 12 => some Try.f12
  | 15 => some Try.f15
  | 17 => some Try.f17
  | 18 => some Try.f18
  | 19 => some Try.f19
  | 20 => some Try.f20
  | 22 => some Try.f22
  | 24 => some Try.f24
  | 27 => some Try.f27
  | 28 => some Try.f28
  | 35 => some Try.f35
  | 36 => some Try.f36
  | 43 => some Try.f43
  | 44 => some Try.f44
  | 49 => some Try.f49
  | 50 => some Try.f50
  | 51 => some Try.f51
  | 52 => some Try.f52
  | 53 => some Try.f53
  | 54 => some Try.f54
  | 55 => some Try.f55
  | 56 => some Try.f56
  | 57 => some Try.f57
  | 58 => some Try.f58
  | 59 => some Try.f59
  | 60 => some Try.f60
  | 63 => some Try.f63
  | 65 => some Try.f65
  | 66 => some Try.f66
  | 67 => some Try.f67
  | 68 => some Try.f68
  | 73 => some Try.f73
  | 75 => some Try.f75
  | 76 => some Try.f76
  | 77 => some Try.f77
  | 78 => some Try.f78
  | 84 => some Try.f84
  | 86 => some Try.f86
  | 87 => some Try.f87
  | 89 => some Try.f89
  | 90 => some Try.f90
  | 92 => some Try.f92
  | 94 => some Try.f94
  | 95 => some Try.f95
  | 98 => some Try.f98
  | _ => none
theorem F9 : F 9 = some Try.f9 := rfl
theorem chk9 : ∀ c, Try.f9.body = some c → chk WR Try.f9.ntmps c = true := by intro c h; cases h; decide +kernel
theorem F12 : F 12 = some Try.f12 := rfl
theorem chk12 : ∀ c, Try.f12.body = some c → chk WR Try.f12.ntmps c = true := by intro c h; cases h; decide +kernel
theorem F15 : F 15 = some Try.f15 := rfl
theorem chk15 : ∀ c, Try.f15.body = some c → chk WR Try.f15.ntmps c = true := by intro c h; cases h; decide +kernel
theorem F17 : F 17 = some Try.f17 := rfl
theorem chk17 : ∀ c, Try.f17.body = some c → chk WR Try.f17.ntmps c = true := by intro c h; cases h; decide +kernel
theorem F18 : F 18 = some Try.f18 := rfl
theorem chk18 : ∀ c, Try.f18.body = some c → chk WR Try.f18.ntmps c = true := by intro c h; cases h; decide +kernel
theorem F19 : F 19 = some Try.f19 := rfl
theorem chk19 : ∀ c, Try.f19.body = some c → chk WR Try.f19.ntmps c = true := by intro c h; cases h; decide +kernel
theorem F20 : F 20 = some Try.f20 := rfl
theorem chk20 : ∀ c, Try.f20.body = some c → chk WR Try.f20.ntmps c = true := by intro c h; cases h; decide +kernel
theorem F22 : F 22 = some Try.f22 := rfl
theorem chk22 : ∀ c, Try.f22.body = some c → chk WR Try.f22.ntmps c = true := by intro c h; cases h; decide +kernel
theorem F24 : F 24 = some Try.f24 := rfl
theorem chk24 : ∀ c, Try.f24.body = some c → chk WR Try.f24.ntmps c = true := by intro c h; cases h; decide +kernel
theorem F27 : F 27 = some Try.f27 := rfl
theorem chk27 : ∀ c, Try.f27.body = some c → chk WR Try.f27.ntmps c = true := by intro c h; cases h; decide +kernel
theorem F28 : F 28 = some Try.f28 := rfl
theorem chk28 : ∀ c, Try.f28.body = some c → chk WR Try.f28.ntmps c = true := by intro c h; cases h; decide +kernel
theorem F35 : F 35 = some Try.f35 := rfl
theorem chk35 : ∀ c, Try.f35.body = some c → chk WR Try.f35.ntmps c = true := by intro c h; cases h; decide +kernel
theorem F36 : F 36 = some Try.f36 := rfl
theorem chk36 : ∀ c, Try.f36.body = some c → chk WR Try.f36.ntmps c = true := by intro c h; cases h; decide +kernel
theorem F43 : F 43 = some Try.f43 := rfl
theorem chk43 : ∀ c, Try.f43.body = some c → chk WR Try.f43.ntmps c = true := by intro c h; cases h; decide +kernel
theorem F44 : F 44 = some Try.f44 := rfl
theorem chk44 : ∀ c, Try.f44.body = some c → chk WR Try.f44.ntmps c = true := by intro c h; cases h; decide +kernel
theorem F49 : F 49 = some Try.f49 := rfl
theorem chk49 : ∀ c, Try.f49.body = some c → chk WR Try.f49.ntmps c = true := by intro c h; cases h; decide +kernel
theorem F50 : F 50 = some Try.f50 := rfl
theorem chk50 : ∀ c, Try.f50.body = some c → chk WR Try.f50.ntmps c = true := by intro c h; cases h; decide +kernel
theorem F51 : F 51 = some Try.f51 := rfl
theorem chk51 : ∀ c, Try.f51.body = some c → chk WR Try.f51.ntmps c = true := by intro c h; cases h; decide +kernel
theorem F52 : F 52 = some Try.f52 := rfl
theorem chk52 : ∀ c, Try.f52.body = some c → chk WR Try.f52.ntmps c = true := by intro c h; cases h; decide +kernel
theorem F53 : F 53 = some Try.f53 := rfl
theorem chk53 : ∀ c, Try.f53.body = some c → chk WR Try.f53.ntmps c = true := by intro c h; cases h; decide +kernel
theorem F54 : F 54 = some Try.f54 := rfl
theorem chk54 : ∀ c, Try.f54.body = some c → chk WR Try.f54.ntmps c = true := by intro c h; cases h; decide +kernel
theorem F55 : F 55 = some Try.f55 := rfl
theorem chk55 : ∀ c, Try.f55.body = some c → chk WR Try.f55.ntmps c = true := by intro c h; cases h; decide +kernel
theorem F56 : F 56 = some Try.f56 := rfl
theorem chk56 : ∀ c, Try.f56.body = some c → chk WR Try.f56.ntmps c = true := by intro c h; cases h; decide +kernel
theorem F57 : F 57 = some Try.f57 := rfl
theorem chk57 : ∀ c, Try.f57.body = some c → chk WR Try.f57.ntmps c = true := by intro c h; cases h; decide +kernel
theorem F58 : F 58 = some Try.f58 := rfl
theorem chk58 : ∀ c, Try.f58.body = some c → chk WR Try.f58.ntmps c = true := by intro c h; cases h; decide +kernel
theorem F59 : F 59 = some Try.f59 := rfl
theorem chk59 : ∀ c, Try.f59.body = some c → chk WR Try.f59.ntmps c = true := by intro c h; cases h; decide +kernel
theorem F60 : F 60 = some Try.f60 := rfl
theorem chk60 : ∀ c, Try.f60.body = some c → chk WR Try.f60.ntmps c = true := by intro c h; cases h; decide +kernel
theorem F63 : F 63 = some Try.f63 := rfl
theorem chk63 : ∀ c, Try.f63.body = some c → chk WR Try.f63.ntmps c = true := by intro c h; cases h; decide +kernel
theorem F65 : F 65 = some Try.f65 := rfl
theorem chk65 : ∀ c, Try.f65.body = some c → chk WR Try.f65.ntmps c = true := by intro c h; cases h; decide +kernel
theorem F66 : F 66 = some Try.f66 := rfl
theorem chk66 : ∀ c, Try.f66.body = some c → chk WR Try.f66.ntmps c = true := by intro c h; cases h; decide +kernel
theorem F67 : F 67 = some Try.f67 := rfl
theorem chk67 : ∀ c, Try.f67.body = some c → chk WR Try.f67.ntmps c = true := by intro c h; cases h; decide +kernel
theorem F68 : F 68 = some Try.f68 := rfl
theorem chk68 : ∀ c, Try.f68.body = some c → chk WR Try.f68.ntmps c = true := by intro c h; cases h; decide +kernel
theorem F73 : F 73 = some Try.f73 := rfl
theorem chk73 : ∀ c, Try.f73.body = some c → chk WR Try.f73.ntmps c = true := by intro c h; cases h; decide +kernel
theorem F75 : F 75 = some Try.f75 := rfl
theorem chk75 : ∀ c, Try.f75.body = some c → chk WR Try.f75.ntmps c = true := by intro c h; cases h; decide +kernel
theorem F76 : F 76 = some Try.f76 := rfl
theorem chk76 : ∀ c, Try.f76.body = some c → chk WR Try.f76.ntmps c = true := by intro c h; cases h; decide +kernel
theorem F77 : F 77 = some Try.f77 := rfl
theorem chk77 : ∀ c, Try.f77.body = some c → chk WR Try.f77.ntmps c = true := by intro c h; cases h; decide +kernel
theorem F78 : F 78 = some Try.f78 := rfl
theorem chk78 : ∀ c, Try.f78.body = some c → chk WR Try.f78.ntmps c = true := by intro c h; cases h; decide +kernel
theorem F84 : F 84 = some Try.f84 := rfl
theorem chk84 : ∀ c, Try.f84.body = some c → chk WR Try.f84.ntmps c = true := by intro c h; cases h; decide +kernel
theorem F86 : F 86 = some Try.f86 := rfl
theorem chk86 : ∀ c, Try.f86.body = some c → chk WR Try.f86.ntmps c = true := by intro c h; cases h; decide +kernel
theorem F87 : F 87 = some Try.f87 := rfl
theorem chk87 : ∀ c, Try.f87.body = some c → chk WR Try.f87.ntmps c = true := by intro c h; cases h; decide +kernel
theorem F89 : F 89 = some Try.f89 := rfl
theorem chk89 : ∀ c, Try.f89.body = some c → chk WR Try.f89.ntmps c = true := by intro c h; cases h; decide +kernel
theorem F90 : F 90 = some Try.f90 := rfl
theorem chk90 : ∀ c, Try.f90.body = some c → chk WR Try.f90.ntmps c = true := by intro c h; cases h; decide +kernel
theorem F92 : F 92 = some Try.f92 := rfl
theorem chk92 : ∀ c, Try.f92.body = some c → chk WR Try.f92.ntmps c = true := by intro c h; cases h; decide +kernel
theorem F94 : F 94 = some Try.f94 := rfl
theorem chk94 : ∀ c, Try.f94.body = some c → chk WR Try.f94.ntmps c = true := by intro c h; cases h; decide +kernel
theorem F95 : F 95 = some Try.f95 := rfl
theorem chk95 : ∀ c, Try.f95.body = some c → chk WR Try.f95.ntmps c = true := by intro c h; cases h; decide +kernel
theorem F98 : F 98 = some Try.f98 := rfl
theorem chk98 : ∀ c, Try.f98.body = some c → chk WR Try.f98.ntmps c = true := by intro c h; cases h; decide +kernel
noncomputable def R9_0 : Array Oper := opsAt Try.f9 [0]
noncomputable def R9_1 : Array Oper := opsAt Try.f9 [1, 0]
noncomputable def R9_2 : Array Oper := opsAt Try.f9 [1, 1, 0]
noncomputable def R9_3 : Array Oper := opsAt Try.f9 [1, 1, 1, 0, 0]
noncomputable def R9_4 : Array Oper := opsAt Try.f9 [1, 1, 1, 0, 1, 0, 0]
noncomputable def R9_5 : Array Oper := opsAt Try.f9 [1, 1, 1, 1, 0]
noncomputable def R9_6 : Array Oper := opsAt Try.f9 [1, 1, 1, 1, 1, 0]
noncomputable def R9_7 : Array Oper := opsAt Try.f9 [1, 1, 1, 1, 1, 1, 0]
noncomputable def R9_8 : Array Oper := opsAt Try.f9 [1, 1, 1, 1, 1, 1, 1, 0, 0]
noncomputable def R9_9 : Array Oper := opsAt Try.f9 [1, 1, 1, 1, 1, 1, 1, 0, 1, 0, 0]
noncomputable def R9_10 : Array Oper := opsAt Try.f9 [1, 1, 1, 1, 1, 1, 1, 1, 0, 0]
noncomputable def R9_11 : Array Oper := opsAt Try.f9 [1, 1, 1, 1, 1, 1, 1, 1, 0, 1, 0, 0]
noncomputable def R9_12 : Array Oper := opsAt Try.f9 [1, 1, 1, 1, 1, 1, 1, 1, 1, 0]
theorem code9 : Try.f9.body = some (.seq (.region 0 R9_0 false) (.seq (.region 1 R9_1 false) (.seq (.region 2 R9_2 false) (.seq (.seq (.region 3 R9_3 false) (.cond (.tmp 13) (.seq (.region 4 R9_4 false) .ret) .skip)) (.seq (.region 5 R9_5 false) (.seq (.region 6 R9_6 false) (.seq (.region 7 R9_7 false) (.seq (.seq (.region 8 R9_8 false) (.cond (.tmp 34) (.seq (.region 9 R9_9 false) .ret) .skip)) (.seq (.seq (.region 10 R9_10 false) (.cond (.tmp 39) (.seq (.region 11 R9_11 false) .ret) .skip)) (.seq (.region 12 R9_12 false) .ret)))))))))) := by kernel_rfl
noncomputable def R12_0 : Array Oper := opsAt Try.f12 [0]
noncomputable def R12_1 : Array Oper := opsAt Try.f12 [1, 0]
noncomputable def R12_2 : Array Oper := opsAt Try.f12 [1, 1, 0]
noncomputable def R12_3 : Array Oper := opsAt Try.f12 [1, 1, 1, 0, 0]
noncomputable def R12_4 : Array Oper := opsAt Try.f12 [1, 1, 1, 0, 1, 0, 0]
noncomputable def R12_5 : Array Oper := opsAt Try.f12 [1, 1, 1, 1, 0]
noncomputable def R12_6 : Array Oper := opsAt Try.f12 [1, 1, 1, 1, 1, 0, 0]
noncomputable def R12_7 : Array Oper := opsAt Try.f12 [1, 1, 1, 1, 1, 0, 1, 0, 0]
noncomputable def R12_8 : Array Oper := opsAt Try.f12 [1, 1, 1, 1, 1, 1, 0]
noncomputable def R12_9 : Array Oper := opsAt Try.f12 [1, 1, 1, 1, 1, 1, 1, 0, 0]
noncomputable def R12_10 : Array Oper := opsAt Try.f12 [1, 1, 1, 1, 1, 1, 1, 0, 1, 0, 0]
noncomputable def R12_11 : Array Oper := opsAt Try.f12 [1, 1, 1, 1, 1, 1, 1, 1, 0]
noncomputable def R12_12 : Array Oper := opsAt Try.f12 [1, 1, 1, 1, 1, 1, 1, 1, 1, 0]
noncomputable def R12_13 : Array Oper := opsAt Try.f12 [1, 1, 1, 1, 1, 1, 1, 1, 1, 1, 0]
noncomputable def R12_14 : Array Oper := opsAt Try.f12 [1, 1, 1, 1, 1, 1, 1, 1, 1, 1, 1, 0]
noncomputable def R12_15 : Array Oper := opsAt Try.f12 [1, 1, 1, 1, 1, 1, 1, 1, 1, 1, 1, 1, 0]
noncomputable def R12_16 : Array Oper := opsAt Try.f12 [1, 1, 1, 1, 1, 1, 1, 1, 1, 1, 1, 1, 1, 0, 0]
noncomputable def R12_17 : Array Oper := opsAt Try.f12 [1, 1, 1, 1, 1, 1, 1, 1, 1, 1, 1, 1, 1, 0, 1, 0, 0]
noncomputable def R12_18 : Array Oper := opsAt Try.f12 [1, 1, 1, 1, 1, 1, 1, 1, 1, 1, 1, 1, 1, 1, 0, 0]
noncomputable def R12_19 : Array Oper := opsAt Try.f12 [1, 1, 1, 1, 1, 1, 1, 1, 1, 1, 1, 1, 1, 1, 0, 1, 0, 0]
noncomputable def R12_20 : Array Oper := opsAt Try.f12 [1, 1, 1, 1, 1, 1, 1, 1, 1, 1, 1, 1, 1, 1, 1, 0, 0]
noncomputable def R12_21 : Array Oper := opsAt Try.f12 [1, 1, 1, 1, 1, 1, 1, 1, 1, 1, 1, 1, 1, 1, 1, 0, 1, 0, 0]
noncomputable def R12_22 : Array Oper := opsAt Try.f12 [1, 1, 1, 1, 1, 1, 1, 1, 1, 1, 1, 1, 1, 1, 1, 1, 0, 0]
noncomputable def R12_23 : Array Oper := opsAt Try.f12 [1, 1, 1, 1, 1, 1, 1, 1, 1, 1, 1, 1, 1, 1, 1, 1, 0, 1, 0, 0]
noncomputable def R12_24 : Array Oper := opsAt Try.f12 [1, 1, 1, 1, 1, 1, 1, 1, 1, 1, 1, 1, 1, 1, 1, 1, 1, 0]
noncomputable def R12_25 : Array Oper := opsAt Try.f12 [1, 1, 1, 1, 1, 1, 1, 1, 1, 1, 1, 1, 1, 1, 1, 1, 1, 1, 0]
noncomputable def R12_26 : Array Oper := opsAt Try.f12 [1, 1, 1, 1, 1, 1, 1, 1, 1, 1, 1, 1, 1, 1, 1, 1, 1, 1, 1, 0]
noncomputable def R12_27 : Array Oper := opsAt Try.f12 [1, 1, 1, 1, 1, 1, 1, 1, 1, 1, 1, 1, 1, 1, 1, 1, 1, 1, 1, 1, 0]
noncomputable def R12_28 : Array Oper := opsAt Try.f12 [1, 1, 1, 1, 1, 1, 1, 1, 1, 1, 1, 1, 1, 1, 1, 1, 1, 1, 1, 1, 1, 0, 0]
noncomputable def R12_29 : Array Oper := opsAt Try.f12 [1, 1, 1, 1, 1, 1, 1, 1, 1, 1, 1, 1, 1, 1, 1, 1, 1, 1, 1, 1, 1, 0, 1, 0, 0]
noncomputable def R12_30 : Array Oper := opsAt Try.f12 [1, 1, 1, 1, 1, 1, 1, 1, 1, 1, 1, 1, 1, 1, 1, 1, 1, 1, 1, 1, 1, 1, 0]
noncomputable def R12_31 : Array Oper := opsAt Try.f12 [1, 1, 1, 1, 1, 1, 1, 1, 1, 1, 1, 1, 1, 1, 1, 1, 1, 1, 1, 1, 1, 1, 1, 0]
noncomputable def R12_32 : Array Oper := opsAt Try.f12 [1, 1, 1, 1, 1, 1, 1, 1, 1, 1, 1, 1, 1, 1, 1, 1, 1, 1, 1, 1, 1, 1, 1, 1, 0]
noncomputable def R12_33 : Array Oper := opsAt Try.f12 [1, 1, 1, 1, 1, 1, 1, 1, 1, 1, 1, 1, 1, 1, 1, 1, 1, 1, 1, 1, 1, 1, 1, 1, 1, 0]
noncomputable def R12_34 : Array Oper := opsAt Try.f12 [1, 1, 1, 1, 1, 1, 1, 1, 1, 1, 1, 1, 1, 1, 1, 1, 1, 1, 1, 1, 1, 1, 1, 1, 1, 1, 0, 0]
noncomputable def R12_35 : Array Oper := opsAt Try.f12 [1, 1, 1, 1, 1, 1, 1, 1, 1, 1, 1, 1, 1, 1, 1, 1, 1, 1, 1, 1, 1, 1, 1, 1, 1, 1, 0, 1, 0, 0]
noncomputable def R12_36 : Array Oper := opsAt Try.f12 [1, 1, 1, 1, 1, 1, 1, 1, 1, 1, 1, 1, 1, 1, 1, 1, 1, 1, 1, 1, 1, 1, 1, 1, 1, 1, 1, 0, 0]
noncomputable def R12_37 : Array Oper := opsAt Try.f12 [1, 1, 1, 1, 1, 1, 1, 1, 1, 1, 1, 1, 1, 1, 1, 1, 1, 1, 1, 1, 1, 1, 1, 1, 1, 1, 1, 0, 1, 0, 0]
noncomputable def R12_38 : Array Oper := opsAt Try.f12 [1, 1, 1, 1, 1, 1, 1, 1, 1, 1, 1, 1, 1, 1, 1, 1, 1, 1, 1, 1, 1, 1, 1, 1, 1, 1, 1, 1, 0]
noncomputable def R12_39 : Array Oper := opsAt Try.f12 [1, 1, 1, 1, 1, 1, 1, 1, 1, 1, 1, 1, 1, 1, 1, 1, 1, 1, 1, 1, 1, 1, 1, 1, 1, 1, 1, 1, 1, 0, 0]
noncomputable def R12_40 : Array Oper := opsAt Try.f12 [1, 1, 1, 1, 1, 1, 1, 1, 1, 1, 1, 1, 1, 1, 1, 1, 1, 1, 1, 1, 1, 1, 1, 1, 1, 1, 1, 1, 1, 0, 1, 0, 0]
noncomputable def R12_41 : Array Oper := opsAt Try.f12 [1, 1, 1, 1, 1, 1, 1, 1, 1, 1, 1, 1, 1, 1, 1, 1, 1, 1, 1, 1, 1, 1, 1, 1, 1, 1, 1, 1, 1, 1, 0]
noncomputable def R12_42 : Array Oper := opsAt Try.f12 [1, 1, 1, 1, 1, 1, 1, 1, 1, 1, 1, 1, 1, 1, 1, 1, 1, 1, 1, 1, 1, 1, 1, 1, 1, 1, 1, 1, 1, 1, 1, 0]
noncomputable def R12_43 : Array Oper := opsAt Try.f12 [1, 1, 1, 1, 1, 1, 1, 1, 1, 1, 1, 1, 1, 1, 1, 1, 1, 1, 1, 1, 1, 1, 1, 1, 1, 1, 1, 1, 1, 1, 1, 1, 0, 0]
noncomputable def R12_44 : Array Oper := opsAt Try.f12 [1, 1, 1, 1, 1, 1, 1, 1, 1, 1, 1, 1, 1, 1, 1, 1, 1, 1, 1, 1, 1, 1, 1, 1, 1, 1, 1, 1, 1, 1, 1, 1, 0, 1, 0, 0]
noncomputable def R12_45 : Array Oper := opsAt Try.f12 [1, 1, 1, 1, 1, 1, 1, 1, 1, 1, 1, 1, 1, 1, 1, 1, 1, 1, 1, 1, 1, 1, 1, 1, 1, 1, 1, 1, 1, 1, 1, 1, 1, 0, 0]
noncomputable def R12_46 : Array Oper := opsAt Try.f12 [1, 1, 1, 1, 1, 1, 1, 1, 1, 1, 1, 1, 1, 1, 1, 1, 1, 1, 1, 1, 1, 1, 1, 1, 1, 1, 1, 1, 1, 1, 1, 1, 1, 0, 1, 0, 0]
noncomputable def R12_47 : Array Oper := opsAt Try.f12 [1, 1, 1, 1, 1, 1, 1, 1, 1, 1, 1, 1, 1, 1, 1, 1, 1, 1, 1, 1, 1, 1, 1, 1, 1, 1, 1, 1, 1, 1, 1, 1, 1, 1, 0]
theorem code12 : Try.f12.body = some (.seq (.region 0 R12_0 false) (.seq (.region 1 R12_1 false) (.seq (.region 2 R12_2 false) (.seq (.seq (.region 3 R12_3 false) (.cond (.tmp 24) (.seq (.region 4 R12_4 false) .ret) .skip)) (.seq (.region 5 R12_5 false) (.seq (.seq (.region 6 R12_6 false) (.cond (.tmp 29) (.seq (.region 7 R12_7 false) .ret) .skip)) (.seq (.region 8 R12_8 false) (.seq (.seq (.region 9 R12_9 false) (.cond (.tmp 34) (.seq (.region 10 R12_10 false) .ret) .skip)) (.seq (.region 11 R12_11 true) (.seq (.region 12 R12_12 false) (.seq (.region 13 R12_13 false) (.seq (.region 14 R12_14 false) (.seq (.region 15 R12_15 false) (.seq (.seq (.region 16 R12_16 false) (.cond (.tmp 66) (.seq (.region 17 R12_17 false) .ret) .skip)) (.seq (.seq (.region 18 R12_18 true) (.cond (.tmp 71) (.seq (.region 19 R12_19 false) .ret) .skip)) (.seq (.seq (.region 20 R12_20 true) (.cond (.tmp 76) (.seq (.region 21 R12_21 false) .ret) .skip)) (.seq (.seq (.region 22 R12_22 true) (.cond (.tmp 81) (.seq (.region 23 R12_23 false) .ret) .skip)) (.seq (.region 24 R12_24 false) (.seq (.region 25 R12_25 false) (.seq (.region 26 R12_26 false) (.seq (.region 27 R12_27 false) (.seq (.seq (.region 28 R12_28 false) (.cond (.tmp 103) (.seq (.region 29 R12_29 false) .ret) .skip)) (.seq (.region 30 R12_30 false) (.seq (.region 31 R12_31 false) (.seq (.region 32 R12_32 false) (.seq (.region 33 R12_33 false) (.seq (.seq (.region 34 R12_34 false) (.cond (.tmp 111) (.seq (.region 35 R12_35 false) .ret) .skip)) (.seq (.seq (.region 36 R12_36 false) (.cond (.tmp 114) (.seq (.region 37 R12_37 false) .ret) .skip)) (.seq (.region 38 R12_38 true) (.seq (.seq (.region 39 R12_39 false) (.cond (.tmp 133) (.seq (.region 40 R12_40 false) .ret) .skip)) (.seq (.region 41 R12_41 false) (.seq (.region 42 R12_42 false) (.seq (.seq (.region 43 R12_43 false) (.cond (.tmp 138) (.seq (.region 44 R12_44 false) .ret) .skip)) (.seq (.seq (.region 45 R12_45 false) (.cond (.tmp 141) (.seq (.region 46 R12_46 false) .ret) .skip)) (.seq (.region 47 R12_47 false) .ret))))))))))))))))))))))))))))))))))) := by kernel_rfl
noncomputable def R15_0 : Array Oper := opsAt Try.f15 [0]
noncomputable def R15_1 : Array Oper := opsAt Try.f15 [1, 0]
noncomputable def R15_2 : Array Oper := opsAt Try.f15 [1, 1, 0, 0]
noncomputable def R15_3 : Array Oper := opsAt Try.f15 [1, 1, 0, 1, 0, 0]
noncomputable def R15_4 : Array Oper := opsAt Try.f15 [1, 1, 1, 0]
theorem code15 : Try.f15.body = some (.seq (.region 0 R15_0 false) (.seq (.region 1 R15_1 false) (.seq (.seq (.region 2 R15_2 false) (.cond (.tmp 10) (.seq (.region 3 R15_3 false) .ret) .skip)) (.seq (.region 4 R15_4 false) .ret)))) := by kernel_rfl
noncomputable def R17_0 : Array Oper := opsAt Try.f17 [0]
noncomputable def R17_1 : Array Oper := opsAt Try.f17 [1, 0]
noncomputable def R17_2 : Array Oper := opsAt Try.f17 [1, 1, 0, 0]
noncomputable def R17_3 : Array Oper := opsAt Try.f17 [1, 1, 0, 1, 0, 0, 0, 0]
noncomputable def R17_5 : Array Oper := opsAt Try.f17 [1, 1, 0, 1, 0, 0, 1, 0, 0]
noncomputable def R17_4 : Array Oper := opsAt Try.f17 [1, 1, 0, 1, 0, 0, 1, 1]
noncomputable def L17_0 : Code := .seq (.seq (.region 3 R17_3 false) (.cond (.tmp 11) .skip (.exit 0))) (.seq (.block 1 (.region 5 R17_5 false)) (.region 4 R17_4 false))
theorem lpL17_0 : loops L17_0 = 0 := rfl
noncomputable def R17_6 : Array Oper := opsAt Try.f17 [1, 1, 1, 0]
noncomputable def M17_0 : Code := .seq (.region 6 R17_6 false) .ret
theorem lpM17_0 : loops M17_0 = 0 := rfl
theorem code17 : Try.f17.body = some (.seq (.region 0 R17_0 false) (.seq (.region 1 R17_1 false) (.seq (.seq (.region 2 R17_2 false) (.block 0 (.loop L17_0))) M17_0))) := by kernel_rfl
noncomputable def R18_0 : Array Oper := opsAt Try.f18 [0]
noncomputable def R18_1 : Array Oper := opsAt Try.f18 [1, 0, 0]
noncomputable def R18_2 : Array Oper := opsAt Try.f18 [1, 0, 1, 0, 0]
noncomputable def R18_3 : Array Oper := opsAt Try.f18 [1, 1, 0]
noncomputable def R18_4 : Array Oper := opsAt Try.f18 [1, 1, 1, 0, 0]
noncomputable def R18_5 : Array Oper := opsAt Try.f18 [1, 1, 1, 0, 1, 0, 0, 0]
noncomputable def R18_6 : Array Oper := opsAt Try.f18 [1, 1, 1, 0, 1, 0, 0, 1, 1, 0, 0, 0]
noncomputable def R18_7 : Array Oper := opsAt Try.f18 [1, 1, 1, 0, 1, 0, 0, 1, 1, 0, 0, 1, 0]
noncomputable def R18_8 : Array Oper := opsAt Try.f18 [1, 1, 1, 0, 1, 0, 0, 1, 1, 0, 0, 1, 1, 0, 0]
noncomputable def R18_9 : Array Oper := opsAt Try.f18 [1, 1, 1, 0, 1, 0, 0, 1, 1, 0, 0, 1, 1, 0, 1, 0, 0]
noncomputable def R18_10 : Array Oper := opsAt Try.f18 [1, 1, 1, 0, 1, 0, 0, 1, 1, 0, 0, 1, 1, 1]
noncomputable def R18_11 : Array Oper := opsAt Try.f18 [1, 1, 1, 0, 1, 0, 0, 1, 1, 1]
noncomputable def L18_0 : Code := .seq (.region 5 R18_5 false) (.seq (.cond (.tmp 12) .skip (.exit 0)) (.seq (.block 1 (.seq (.region 6 R18_6 false) (.seq (.region 7 R18_7 false) (.seq (.seq (.region 8 R18_8 false) (.cond (.tmp 25) (.seq (.region 9 R18_9 false) .ret) .skip)) (.region 10 R18_10 false))))) (.region 11 R18_11 false)))
theorem lpL18_0 : loops L18_0 = 0 := rfl
noncomputable def R18_12 : Array Oper := opsAt Try.f18 [1, 1, 1, 1, 0]
noncomputable def M18_0 : Code := .seq (.region 12 R18_12 false) .ret
theorem lpM18_0 : loops M18_0 = 0 := rfl
theorem code18 : Try.f18.body = some (.seq (.region 0 R18_0 false) (.seq (.seq (.region 1 R18_1 false) (.cond (.tmp 8) (.seq (.region 2 R18_2 false) .ret) .skip)) (.seq (.region 3 R18_3 false) (.seq (.seq (.region 4 R18_4 false) (.block 0 (.loop L18_0))) M18_0)))) := by kernel_rfl
noncomputable def R19_0 : Array Oper := opsAt Try.f19 [0]
noncomputable def R19_1 : Array Oper := opsAt Try.f19 [1, 0, 0]
noncomputable def R19_2 : Array Oper := opsAt Try.f19 [1, 0, 1, 0, 0]
noncomputable def R19_3 : Array Oper := opsAt Try.f19 [1, 1, 0, 0]
noncomputable def R19_4 : Array Oper := opsAt Try.f19 [1, 1, 0, 1, 0, 0, 0, 0]
noncomputable def R19_6 : Array Oper := opsAt Try.f19 [1, 1, 0, 1, 0, 0, 1, 0, 0, 0]
noncomputable def R19_7 : Array Oper := opsAt Try.f19 [1, 1, 0, 1, 0, 0, 1, 0, 0, 1, 0, 0]
noncomputable def R19_5 : Array Oper := opsAt Try.f19 [1, 1, 0, 1, 0, 0, 1, 1]
noncomputable def L19_0 : Code := .seq (.seq (.region 4 R19_4 false) (.cond (.tmp 14) .skip (.exit 0))) (.seq (.block 1 (.seq (.region 6 R19_6 true) (.cond (.tmp 26) (.seq (.region 7 R19_7 false) .ret) .skip))) (.region 5 R19_5 false))
theorem lpL19_0 : loops L19_0 = 0 := rfl
noncomputable def R19_8 : Array Oper := opsAt Try.f19 [1, 1, 1, 0]
noncomputable def M19_0 : Code := .seq (.region 8 R19_8 false) .ret
theorem lpM19_0 : loops M19_0 = 0 := rfl
theorem code19 : Try.f19.body = some (.seq (.region 0 R19_0 false) (.seq (.seq (.region 1 R19_1 false) (.cond (.tmp 10) (.seq (.region 2 R19_2 false) .ret) .skip)) (.seq (.seq (.region 3 R19_3 false) (.block 0 (.loop L19_0))) M19_0))) := by kernel_rfl
noncomputable def R20_0 : Array Oper := opsAt Try.f20 [0]
noncomputable def R20_1 : Array Oper := opsAt Try.f20 [1, 0]
noncomputable def R20_2 : Array Oper := opsAt Try.f20 [1, 1, 0, 0]
noncomputable def R20_3 : Array Oper := opsAt Try.f20 [1, 1, 0, 1, 0, 0]
noncomputable def R20_4 : Array Oper := opsAt Try.f20 [1, 1, 1, 0]
theorem code20 : Try.f20.body = some (.seq (.region 0 R20_0 false) (.seq (.region 1 R20_1 false) (.seq (.seq (.region 2 R20_2 false) (.cond (.tmp 10) (.seq (.region 3 R20_3 false) .ret) .skip)) (.seq (.region 4 R20_4 false) .ret)))) := by kernel_rfl
noncomputable def R22_0 : Array Oper := opsAt Try.f22 [0]
noncomputable def R22_1 : Array Oper := opsAt Try.f22 [1, 0]
noncomputable def R22_2 : Array Oper := opsAt Try.f22 [1, 1, 0]
noncomputable def R22_3 : Array Oper := opsAt Try.f22 [1, 1, 1, 0]
noncomputable def R22_4 : Array Oper := opsAt Try.f22 [1, 1, 1, 1, 0]
noncomputable def R22_5 : Array Oper := opsAt Try.f22 [1, 1, 1, 1, 1, 0]
theorem code22 : Try.f22.body = some (.seq (.region 0 R22_0 false) (.seq (.region 1 R22_1 false) (.seq (.region 2 R22_2 false) (.seq (.region 3 R22_3 false) (.seq (.region 4 R22_4 false) (.seq (.region 5 R22_5 false) .ret)))))) := by kernel_rfl
noncomputable def R24_0 : Array Oper := opsAt Try.f24 [0]
noncomputable def R24_1 : Array Oper := opsAt Try.f24 [1, 0, 0]
noncomputable def R24_2 : Array Oper := opsAt Try.f24 [1, 0, 1, 0, 0]
noncomputable def R24_3 : Array Oper := opsAt Try.f24 [1, 1, 0, 0]
noncomputable def R24_4 : Array Oper := opsAt Try.f24 [1, 1, 0, 1, 0, 0]
noncomputable def R24_5 : Array Oper := opsAt Try.f24 [1, 1, 1, 0, 0]
noncomputable def R24_6 : Array Oper := opsAt Try.f24 [1, 1, 1, 0, 1, 0, 0]
noncomputable def R24_7 : Array Oper := opsAt Try.f24 [1, 1, 1, 1, 0]
theorem code24 : Try.f24.body = some (.seq (.region 0 R24_0 false) (.seq (.seq (.region 1 R24_1 false) (.cond (.tmp 9) (.seq (.region 2 R24_2 false) .ret) .skip)) (.seq (.seq (.region 3 R24_3 false) (.cond (.tmp 14) (.seq (.region 4 R24_4 false) .ret) .skip)) (.seq (.seq (.region 5 R24_5 false) (.cond (.tmp 20) (.seq (.region 6 R24_6 false) .ret) .skip)) (.seq (.region 7 R24_7 false) .ret))))) := by kernel_rfl
noncomputable def R27_0 : Array Oper := opsAt Try.f27 [0]
noncomputable def R27_1 : Array Oper := opsAt Try.f27 [1, 0]
noncomputable def R27_2 : Array Oper := opsAt Try.f27 [1, 1, 0]
theorem code27 : Try.f27.body = some (.seq (.region 0 R27_0 false) (.seq (.region 1 R27_1 false) (.seq (.region 2 R27_2 false) .ret))) := by kernel_rfl
noncomputable def R28_0 : Array Oper := opsAt Try.f28 [0]
noncomputable def R28_1 : Array Oper := opsAt Try.f28 [1, 0]
noncomputable def R28_2 : Array Oper := opsAt Try.f28 [1, 1, 0, 0]
noncomputable def R28_3 : Array Oper := opsAt Try.f28 [1, 1, 0, 1, 0, 0]
noncomputable def R28_4 : Array Oper := opsAt Try.f28 [1, 1, 1, 0]
theorem code28 : Try.f28.body = some (.seq (.region 0 R28_0 false) (.seq (.region 1 R28_1 false) (.seq (.seq (.region 2 R28_2 false) (.cond (.tmp 10) (.seq (.region 3 R28_3 false) .ret) .skip)) (.seq (.region 4 R28_4 false) .ret)))) := by kernel_rfl
noncomputable def R35_0 : Array Oper := opsAt Try.f35 [0]
noncomputable def R35_1 : Array Oper := opsAt Try.f35 [1, 0, 0]
noncomputable def R35_2 : Array Oper := opsAt Try.f35 [1, 0, 1, 0, 0]
noncomputable def R35_3 : Array Oper := opsAt Try.f35 [1, 1, 0]
theorem code35 : Try.f35.body = some (.seq (.region 0 R35_0 false) (.seq (.seq (.region 1 R35_1 false) (.cond (.tmp 6) (.seq (.region 2 R35_2 false) .ret) .skip)) (.seq (.region 3 R35_3 false) .ret))) := by kernel_rfl
noncomputable def R36_0 : Array Oper := opsAt Try.f36 [0]
noncomputable def R36_1 : Array Oper := opsAt Try.f36 [1, 0, 0]
noncomputable def R36_2 : Array Oper := opsAt Try.f36 [1, 0, 1, 0, 0]
noncomputable def R36_3 : Array Oper := opsAt Try.f36 [1, 1, 0]
noncomputable def R36_4 : Array Oper := opsAt Try.f36 [1, 1, 1, 0, 0]
noncomputable def R36_5 : Array Oper := opsAt Try.f36 [1, 1, 1, 0, 1, 0, 0, 0]
noncomputable def R36_6 : Array Oper := opsAt Try.f36 [1, 1, 1, 0, 1, 0, 0, 1, 1, 0, 0, 0]
noncomputable def R36_7 : Array Oper := opsAt Try.f36 [1, 1, 1, 0, 1, 0, 0, 1, 1, 0, 0, 1, 0]
noncomputable def R36_8 : Array Oper := opsAt Try.f36 [1, 1, 1, 0, 1, 0, 0, 1, 1, 0, 0, 1, 1, 0]
noncomputable def R36_9 : Array Oper := opsAt Try.f36 [1, 1, 1, 0, 1, 0, 0, 1, 1, 0, 0, 1, 1, 1, 0, 0]
noncomputable def R36_10 : Array Oper := opsAt Try.f36 [1, 1, 1, 0, 1, 0, 0, 1, 1, 0, 0, 1, 1, 1, 0, 1, 0, 0, 0]
noncomputable def R36_11 : Array Oper := opsAt Try.f36 [1, 1, 1, 0, 1, 0, 0, 1, 1, 0, 0, 1, 1, 1, 0, 1, 0, 0, 1, 1, 0, 0, 0]
noncomputable def R36_12 : Array Oper := opsAt Try.f36 [1, 1, 1, 0, 1, 0, 0, 1, 1, 0, 0, 1, 1, 1, 0, 1, 0, 0, 1, 1, 0, 0, 1]
noncomputable def R36_13 : Array Oper := opsAt Try.f36 [1, 1, 1, 0, 1, 0, 0, 1, 1, 0, 0, 1, 1, 1, 0, 1, 0, 0, 1, 1, 1]
noncomputable def L36_1 : Code := .seq (.region 10 R36_10 false) (.seq (.cond (.tmp 30) .skip (.exit 2)) (.seq (.block 3 (.seq (.region 11 R36_11 false) (.region 12 R36_12 false))) (.region 13 R36_13 false)))
theorem lpL36_1 : loops L36_1 = 0 := rfl
noncomputable def R36_14 : Array Oper := opsAt Try.f36 [1, 1, 1, 0, 1, 0, 0, 1, 1, 0, 0, 1, 1, 1, 1]
noncomputable def M36_0 : Code := .region 14 R36_14 false
theorem lpM36_0 : loops M36_0 = 0 := rfl
noncomputable def R36_15 : Array Oper := opsAt Try.f36 [1, 1, 1, 0, 1, 0, 0, 1, 1, 1]
noncomputable def M36_1 : Code := .region 15 R36_15 false
theorem lpM36_1 : loops M36_1 = 0 := rfl
noncomputable def L36_0 : Code := .seq (.region 5 R36_5 false) (.seq (.cond (.tmp 17) .skip (.exit 0)) (.seq (.block 1 (.seq (.region 6 R36_6 false) (.seq (.region 7 R36_7 false) (.seq (.region 8 R36_8 false) (.seq (.seq (.region 9 R36_9 false) (.block 2 (.loop L36_1))) M36_0))))) M36_1))
theorem lpL36_0 : loops L36_0 = 1 := rfl
noncomputable def R36_16 : Array Oper := opsAt Try.f36 [1, 1, 1, 1, 0]
noncomputable def M36_2 : Code := .seq (.region 16 R36_16 false) .ret
theorem lpM36_2 : loops M36_2 = 0 := rfl
theorem code36 : Try.f36.body = some (.seq (.region 0 R36_0 false) (.seq (.seq (.region 1 R36_1 false) (.cond (.tmp 13) (.seq (.region 2 R36_2 false) .ret) .skip)) (.seq (.region 3 R36_3 false) (.seq (.seq (.region 4 R36_4 false) (.block 0 (.loop L36_0))) M36_2)))) := by kernel_rfl
noncomputable def R43_0 : Array Oper := opsAt Try.f43 [0]
noncomputable def R43_1 : Array Oper := opsAt Try.f43 [1, 0, 0]
noncomputable def R43_2 : Array Oper := opsAt Try.f43 [1, 0, 1, 0, 0]
noncomputable def R43_3 : Array Oper := opsAt Try.f43 [1, 1, 0]
noncomputable def R43_4 : Array Oper := opsAt Try.f43 [1, 1, 1, 0, 0]
noncomputable def R43_5 : Array Oper := opsAt Try.f43 [1, 1, 1, 0, 1, 0, 0, 0, 0]
noncomputable def R43_8 : Array Oper := opsAt Try.f43 [1, 1, 1, 0, 1, 0, 0, 1, 0, 0, 0, 0]
noncomputable def R43_9 : Array Oper := opsAt Try.f43 [1, 1, 1, 0, 1, 0, 0, 1, 0, 0, 0, 1, 1, 0]
noncomputable def R43_10 : Array Oper := opsAt Try.f43 [1, 1, 1, 0, 1, 0, 0, 1, 0, 0, 0, 1, 1, 1, 0]
noncomputable def R43_7 : Array Oper := opsAt Try.f43 [1, 1, 1, 0, 1, 0, 0, 1, 0, 0, 0, 1, 1, 1, 1]
noncomputable def R43_6 : Array Oper := opsAt Try.f43 [1, 1, 1, 0, 1, 0, 0, 1, 1]
noncomputable def L43_0 : Code := .seq (.seq (.region 5 R43_5 false) (.cond (.tmp 27) .skip (.exit 0))) (.seq (.block 1 (.block 2 (.seq (.region 8 R43_8 false) (.cond (.tmp 39) .skip (.seq (.region 9 R43_9 false) (.cond (.tmp 46) (.region 10 R43_10 true) (.region 7 R43_7 true))))))) (.region 6 R43_6 false))
theorem lpL43_0 : loops L43_0 = 0 := rfl
noncomputable def R43_11 : Array Oper := opsAt Try.f43 [1, 1, 1, 1, 0]
noncomputable def M43_0 : Code := .seq (.region 11 R43_11 false) .ret
theorem lpM43_0 : loops M43_0 = 0 := rfl
theorem code43 : Try.f43.body = some (.seq (.region 0 R43_0 false) (.seq (.seq (.region 1 R43_1 false) (.cond (.tmp 19) (.seq (.region 2 R43_2 false) .ret) .skip)) (.seq (.region 3 R43_3 false) (.seq (.seq (.region 4 R43_4 false) (.block 0 (.loop L43_0))) M43_0)))) := by kernel_rfl
noncomputable def R44_0 : Array Oper := opsAt Try.f44 [0]
noncomputable def R44_1 : Array Oper := opsAt Try.f44 [1, 0, 0]
noncomputable def R44_2 : Array Oper := opsAt Try.f44 [1, 0, 1, 0, 0]
noncomputable def R44_3 : Array Oper := opsAt Try.f44 [1, 1, 0]
noncomputable def R44_4 : Array Oper := opsAt Try.f44 [1, 1, 1, 0, 0]
noncomputable def R44_5 : Array Oper := opsAt Try.f44 [1, 1, 1, 0, 1, 0, 0, 0]
noncomputable def R44_6 : Array Oper := opsAt Try.f44 [1, 1, 1, 0, 1, 0, 0, 1, 1, 0, 0, 0]
noncomputable def R44_8 : Array Oper := opsAt Try.f44 [1, 1, 1, 0, 1, 0, 0, 1, 1, 0, 0, 1, 0, 0]
noncomputable def R44_9 : Array Oper := opsAt Try.f44 [1, 1, 1, 0, 1, 0, 0, 1, 1, 0, 0, 1, 0, 1, 1, 0]
noncomputable def R44_10 : Array Oper := opsAt Try.f44 [1, 1, 1, 0, 1, 0, 0, 1, 1, 0, 0, 1, 0, 1, 1, 1, 0]
noncomputable def R44_7 : Array Oper := opsAt Try.f44 [1, 1, 1, 0, 1, 0, 0, 1, 1, 0, 0, 1, 0, 1, 1, 1, 1]
noncomputable def R44_11 : Array Oper := opsAt Try.f44 [1, 1, 1, 0, 1, 0, 0, 1, 1, 1]
noncomputable def L44_0 : Code := .seq (.region 5 R44_5 false) (.seq (.cond (.tmp 24) .skip (.exit 0)) (.seq (.block 1 (.seq (.region 6 R44_6 false) (.block 2 (.seq (.region 8 R44_8 false) (.cond (.tmp 37) .skip (.seq (.region 9 R44_9 false) (.cond (.tmp 40) (.region 10 R44_10 true) (.region 7 R44_7 true)))))))) (.region 11 R44_11 false)))
theorem lpL44_0 : loops L44_0 = 0 := rfl
noncomputable def R44_12 : Array Oper := opsAt Try.f44 [1, 1, 1, 1, 0]
noncomputable def M44_0 : Code := .seq (.region 12 R44_12 false) .ret
theorem lpM44_0 : loops M44_0 = 0 := rfl
theorem code44 : Try.f44.body = some (.seq (.region 0 R44_0 false) (.seq (.seq (.region 1 R44_1 false) (.cond (.tmp 16) (.seq (.region 2 R44_2 false) .ret) .skip)) (.seq (.region 3 R44_3 false) (.seq (.seq (.region 4 R44_4 false) (.block 0 (.loop L44_0))) M44_0)))) := by kernel_rfl
noncomputable def R49_0 : Array Oper := opsAt Try.f49 [0]
noncomputable def R49_1 : Array Oper := opsAt Try.f49 [1, 0]
noncomputable def R49_2 : Array Oper := opsAt Try.f49 [1, 1, 0, 0]
noncomputable def R49_3 : Array Oper := opsAt Try.f49 [1, 1, 0, 1, 0, 0]
noncomputable def R49_4 : Array Oper := opsAt Try.f49 [1, 1, 1, 0, 0]
noncomputable def R49_5 : Array Oper := opsAt Try.f49 [1, 1, 1, 0, 1, 0, 0, 0, 0]
noncomputable def R49_7 : Array Oper := opsAt Try.f49 [1, 1, 1, 0, 1, 0, 0, 1, 0, 0, 0]
noncomputable def R49_8 : Array Oper := opsAt Try.f49 [1, 1, 1, 0, 1, 0, 0, 1, 0, 0, 1, 0, 0]
noncomputable def R49_9 : Array Oper := opsAt Try.f49 [1, 1, 1, 0, 1, 0, 0, 1, 0, 0, 1, 0, 1, 0, 0]
noncomputable def R49_10 : Array Oper := opsAt Try.f49 [1, 1, 1, 0, 1, 0, 0, 1, 0, 0, 1, 1]
noncomputable def R49_6 : Array Oper := opsAt Try.f49 [1, 1, 1, 0, 1, 0, 0, 1, 1]
noncomputable def L49_0 : Code := .seq (.seq (.region 5 R49_5 false) (.cond (.tmp 12) .skip (.exit 0))) (.seq (.block 1 (.seq (.region 7 R49_7 false) (.seq (.seq (.region 8 R49_8 false) (.cond (.tmp 26) (.seq (.region 9 R49_9 false) .ret) .skip)) (.region 10 R49_10 false)))) (.region 6 R49_6 false))
theorem lpL49_0 : loops L49_0 = 0 := rfl
noncomputable def R49_11 : Array Oper := opsAt Try.f49 [1, 1, 1, 1, 0]
noncomputable def M49_0 : Code := .seq (.region 11 R49_11 false) .ret
theorem lpM49_0 : loops M49_0 = 0 := rfl
theorem code49 : Try.f49.body = some (.seq (.region 0 R49_0 false) (.seq (.region 1 R49_1 false) (.seq (.seq (.region 2 R49_2 false) (.cond (.tmp 8) (.seq (.region 3 R49_3 false) .ret) .skip)) (.seq (.seq (.region 4 R49_4 false) (.block 0 (.loop L49_0))) M49_0)))) := by kernel_rfl
noncomputable def R50_0 : Array Oper := opsAt Try.f50 [0]
noncomputable def R50_1 : Array Oper := opsAt Try.f50 [1, 0]
noncomputable def R50_2 : Array Oper := opsAt Try.f50 [1, 1, 0]
noncomputable def R50_3 : Array Oper := opsAt Try.f50 [1, 1, 1, 0]
noncomputable def R50_4 : Array Oper := opsAt Try.f50 [1, 1, 1, 1, 0]
theorem code50 : Try.f50.body = some (.seq (.region 0 R50_0 false) (.seq (.region 1 R50_1 false) (.seq (.region 2 R50_2 false) (.seq (.region 3 R50_3 false) (.seq (.region 4 R50_4 false) .ret))))) := by kernel_rfl
noncomputable def R51_0 : Array Oper := opsAt Try.f51 [0]
noncomputable def R51_1 : Array Oper := opsAt Try.f51 [1, 0, 0, 0]
noncomputable def R51_2 : Array Oper := opsAt Try.f51 [1, 0, 0, 1, 0, 0]
noncomputable def R51_3 : Array Oper := opsAt Try.f51 [1, 0, 0, 1, 1, 0]
noncomputable def R51_4 : Array Oper := opsAt Try.f51 [1, 0, 0, 1, 1, 1, 0, 0]
noncomputable def R51_5 : Array Oper := opsAt Try.f51 [1, 1, 0]
theorem code51 : Try.f51.body = some (.seq (.region 0 R51_0 false) (.seq (.block 0 (.seq (.region 1 R51_1 false) (.cond (.tmp 3) (.seq (.region 2 R51_2 false) .ret) (.seq (.region 3 R51_3 false) (.cond (.tmp 7) (.seq (.region 4 R51_4 false) .ret) .skip))))) (.seq (.region 5 R51_5 false) .ret))) := by kernel_rfl
noncomputable def R52_0 : Array Oper := opsAt Try.f52 [0]
noncomputable def R52_1 : Array Oper := opsAt Try.f52 [1, 0, 0, 0]
noncomputable def R52_2 : Array Oper := opsAt Try.f52 [1, 0, 0, 1, 0, 0]
noncomputable def R52_3 : Array Oper := opsAt Try.f52 [1, 0, 0, 1, 1, 0]
noncomputable def R52_4 : Array Oper := opsAt Try.f52 [1, 0, 0, 1, 1, 1, 0, 0]
noncomputable def R52_5 : Array Oper := opsAt Try.f52 [1, 1, 0]
theorem code52 : Try.f52.body = some (.seq (.region 0 R52_0 false) (.seq (.block 0 (.seq (.region 1 R52_1 false) (.cond (.tmp 3) (.seq (.region 2 R52_2 false) .ret) (.seq (.region 3 R52_3 false) (.cond (.tmp 10) (.seq (.region 4 R52_4 false) .ret) .skip))))) (.seq (.region 5 R52_5 false) .ret))) := by kernel_rfl
noncomputable def R53_0 : Array Oper := opsAt Try.f53 [0]
noncomputable def R53_1 : Array Oper := opsAt Try.f53 [1, 0, 0]
noncomputable def R53_2 : Array Oper := opsAt Try.f53 [1, 0, 1, 0, 0]
noncomputable def R53_3 : Array Oper := opsAt Try.f53 [1, 1, 0, 0]
noncomputable def R53_4 : Array Oper := opsAt Try.f53 [1, 1, 0, 1, 0, 0]
noncomputable def R53_5 : Array Oper := opsAt Try.f53 [1, 1, 1, 0]
theorem code53 : Try.f53.body = some (.seq (.region 0 R53_0 false) (.seq (.seq (.region 1 R53_1 false) (.cond (.tmp 9) (.seq (.region 2 R53_2 false) .ret) .skip)) (.seq (.seq (.region 3 R53_3 false) (.cond (.tmp 14) (.seq (.region 4 R53_4 false) .ret) .skip)) (.seq (.region 5 R53_5 false) .ret)))) := by kernel_rfl
noncomputable def R54_0 : Array Oper := opsAt Try.f54 [0]
noncomputable def R54_1 : Array Oper := opsAt Try.f54 [1, 0]
noncomputable def R54_2 : Array Oper := opsAt Try.f54 [1, 1, 0, 0]
noncomputable def R54_3 : Array Oper := opsAt Try.f54 [1, 1, 0, 1, 0, 0]
noncomputable def R54_4 : Array Oper := opsAt Try.f54 [1, 1, 1, 0]
theorem code54 : Try.f54.body = some (.seq (.region 0 R54_0 false) (.seq (.region 1 R54_1 false) (.seq (.seq (.region 2 R54_2 false) (.cond (.tmp 10) (.seq (.region 3 R54_3 false) .ret) .skip)) (.seq (.region 4 R54_4 false) .ret)))) := by kernel_rfl
noncomputable def R55_0 : Array Oper := opsAt Try.f55 [0]
noncomputable def R55_1 : Array Oper := opsAt Try.f55 [1, 0]
theorem code55 : Try.f55.body = some (.seq (.region 0 R55_0 false) (.seq (.region 1 R55_1 false) .ret)) := by kernel_rfl
noncomputable def R56_0 : Array Oper := opsAt Try.f56 [0]
noncomputable def R56_1 : Array Oper := opsAt Try.f56 [1, 0]
noncomputable def R56_2 : Array Oper := opsAt Try.f56 [1, 1, 0, 0]
noncomputable def R56_3 : Array Oper := opsAt Try.f56 [1, 1, 0, 1, 0, 0, 0, 0]
noncomputable def R56_5 : Array Oper := opsAt Try.f56 [1, 1, 0, 1, 0, 0, 1, 0, 0]
noncomputable def R56_4 : Array Oper := opsAt Try.f56 [1, 1, 0, 1, 0, 0, 1, 1]
noncomputable def L56_0 : Code := .seq (.seq (.region 3 R56_3 false) (.cond (.tmp 11) .skip (.exit 0))) (.seq (.block 1 (.region 5 R56_5 false)) (.region 4 R56_4 false))
theorem lpL56_0 : loops L56_0 = 0 := rfl
noncomputable def R56_6 : Array Oper := opsAt Try.f56 [1, 1, 1, 0]
noncomputable def M56_0 : Code := .seq (.region 6 R56_6 false) .ret
theorem lpM56_0 : loops M56_0 = 0 := rfl
theorem code56 : Try.f56.body = some (.seq (.region 0 R56_0 false) (.seq (.region 1 R56_1 false) (.seq (.seq (.region 2 R56_2 false) (.block 0 (.loop L56_0))) M56_0))) := by kernel_rfl
noncomputable def R57_0 : Array Oper := opsAt Try.f57 [0]
noncomputable def R57_1 : Array Oper := opsAt Try.f57 [1, 0, 0]
noncomputable def R57_2 : Array Oper := opsAt Try.f57 [1, 0, 1, 0, 0, 0]
noncomputable def R57_3 : Array Oper := opsAt Try.f57 [1, 0, 1, 0, 0, 1, 1, 0, 0, 0]
noncomputable def R57_4 : Array Oper := opsAt Try.f57 [1, 0, 1, 0, 0, 1, 1, 0, 0, 1, 0]
noncomputable def R57_5 : Array Oper := opsAt Try.f57 [1, 0, 1, 0, 0, 1, 1, 0, 0, 1, 1, 0, 0]
noncomputable def R57_6 : Array Oper := opsAt Try.f57 [1, 0, 1, 0, 0, 1, 1, 1]
noncomputable def L57_0 : Code := .seq (.region 2 R57_2 false) (.seq (.cond (.tmp 8) .skip (.exit 0)) (.seq (.block 1 (.seq (.region 3 R57_3 false) (.seq (.region 4 R57_4 true) (.cond (.tmp 21) (.seq (.region 5 R57_5 false) .ret) .skip)))) (.region 6 R57_6 false)))
theorem lpL57_0 : loops L57_0 = 0 := rfl
noncomputable def R57_7 : Array Oper := opsAt Try.f57 [1, 1, 0]
noncomputable def M57_0 : Code := .seq (.region 7 R57_7 false) .ret
theorem lpM57_0 : loops M57_0 = 0 := rfl
theorem code57 : Try.f57.body = some (.seq (.region 0 R57_0 false) (.seq (.seq (.region 1 R57_1 false) (.block 0 (.loop L57_0))) M57_0)) := by kernel_rfl
noncomputable def R58_0 : Array Oper := opsAt Try.f58 [0]
noncomputable def R58_1 : Array Oper := opsAt Try.f58 [1, 0, 0]
noncomputable def R58_2 : Array Oper := opsAt Try.f58 [1, 0, 1, 0, 0]
noncomputable def R58_3 : Array Oper := opsAt Try.f58 [1, 1, 0, 0]
noncomputable def R58_4 : Array Oper := opsAt Try.f58 [1, 1, 0, 1, 0, 0, 0, 0]
noncomputable def R58_6 : Array Oper := opsAt Try.f58 [1, 1, 0, 1, 0, 0, 1, 0, 0, 0]
noncomputable def R58_7 : Array Oper := opsAt Try.f58 [1, 1, 0, 1, 0, 0, 1, 0, 0, 1, 0, 0]
noncomputable def R58_5 : Array Oper := opsAt Try.f58 [1, 1, 0, 1, 0, 0, 1, 1]
noncomputable def L58_0 : Code := .seq (.seq (.region 4 R58_4 false) (.cond (.tmp 14) .skip (.exit 0))) (.seq (.block 1 (.seq (.region 6 R58_6 true) (.cond (.tmp 25) (.seq (.region 7 R58_7 false) .ret) .skip))) (.region 5 R58_5 false))
theorem lpL58_0 : loops L58_0 = 0 := rfl
noncomputable def R58_8 : Array Oper := opsAt Try.f58 [1, 1, 1, 0]
noncomputable def M58_0 : Code := .seq (.region 8 R58_8 false) .ret
theorem lpM58_0 : loops M58_0 = 0 := rfl
theorem code58 : Try.f58.body = some (.seq (.region 0 R58_0 false) (.seq (.seq (.region 1 R58_1 false) (.cond (.tmp 10) (.seq (.region 2 R58_2 false) .ret) .skip)) (.seq (.seq (.region 3 R58_3 false) (.block 0 (.loop L58_0))) M58_0))) := by kernel_rfl
noncomputable def R59_0 : Array Oper := opsAt Try.f59 [0]
noncomputable def R59_1 : Array Oper := opsAt Try.f59 [1, 0]
theorem code59 : Try.f59.body = some (.seq (.region 0 R59_0 false) (.seq (.region 1 R59_1 false) .ret)) := by kernel_rfl
noncomputable def R60_0 : Array Oper := opsAt Try.f60 [0]
noncomputable def R60_1 : Array Oper := opsAt Try.f60 [1, 0]
theorem code60 : Try.f60.body = some (.seq (.region 0 R60_0 false) (.seq (.region 1 R60_1 false) .ret)) := by kernel_rfl
noncomputable def R63_0 : Array Oper := opsAt Try.f63 [0]
noncomputable def R63_1 : Array Oper := opsAt Try.f63 [1, 0]
theorem code63 : Try.f63.body = some (.seq (.region 0 R63_0 false) (.seq (.region 1 R63_1 false) .ret)) := by kernel_rfl
noncomputable def R65_0 : Array Oper := opsAt Try.f65 [0]
noncomputable def R65_1 : Array Oper := opsAt Try.f65 [1, 0, 0]
noncomputable def R65_2 : Array Oper := opsAt Try.f65 [1, 0, 1, 0, 0, 0, 0]
noncomputable def R65_4 : Array Oper := opsAt Try.f65 [1, 0, 1, 0, 0, 1, 0, 0, 0]
noncomputable def R65_5 : Array Oper := opsAt Try.f65 [1, 0, 1, 0, 0, 1, 0, 0, 1]
noncomputable def R65_3 : Array Oper := opsAt Try.f65 [1, 0, 1, 0, 0, 1, 1]
noncomputable def L65_0 : Code := .seq (.seq (.region 2 R65_2 false) (.cond (.tmp 9) .skip (.exit 0))) (.seq (.block 1 (.seq (.region 4 R65_4 false) (.region 5 R65_5 false))) (.region 3 R65_3 false))
theorem lpL65_0 : loops L65_0 = 0 := rfl
noncomputable def R65_6 : Array Oper := opsAt Try.f65 [1, 1, 0]
noncomputable def M65_0 : Code := .seq (.region 6 R65_6 false) .ret
theorem lpM65_0 : loops M65_0 = 0 := rfl
theorem code65 : Try.f65.body = some (.seq (.region 0 R65_0 false) (.seq (.seq (.region 1 R65_1 false) (.block 0 (.loop L65_0))) M65_0)) := by kernel_rfl
noncomputable def R66_0 : Array Oper := opsAt Try.f66 [0]
noncomputable def R66_1 : Array Oper := opsAt Try.f66 [1, 0, 0]
noncomputable def R66_2 : Array Oper := opsAt Try.f66 [1, 0, 1, 0, 0, 0, 0]
noncomputable def R66_4 : Array Oper := opsAt Try.f66 [1, 0, 1, 0, 0, 1, 0, 0, 0, 0]
noncomputable def R66_5 : Array Oper := opsAt Try.f66 [1, 0, 1, 0, 0, 1, 0, 0, 0, 1, 0, 0]
noncomputable def R66_6 : Array Oper := opsAt Try.f66 [1, 0, 1, 0, 0, 1, 0, 0, 1]
noncomputable def R66_3 : Array Oper := opsAt Try.f66 [1, 0, 1, 0, 0, 1, 1]
noncomputable def L66_0 : Code := .seq (.seq (.region 2 R66_2 false) (.cond (.tmp 9) .skip (.exit 0))) (.seq (.block 1 (.seq (.seq (.region 4 R66_4 false) (.cond (.tmp 17) (.seq (.region 5 R66_5 false) .ret) .skip)) (.region 6 R66_6 false))) (.region 3 R66_3 false))
theorem lpL66_0 : loops L66_0 = 0 := rfl
noncomputable def R66_7 : Array Oper := opsAt Try.f66 [1, 1, 0]
noncomputable def M66_0 : Code := .seq (.region 7 R66_7 false) .ret
theorem lpM66_0 : loops M66_0 = 0 := rfl
theorem code66 : Try.f66.body = some (.seq (.region 0 R66_0 false) (.seq (.seq (.region 1 R66_1 false) (.block 0 (.loop L66_0))) M66_0)) := by kernel_rfl
noncomputable def R67_0 : Array Oper := opsAt Try.f67 [0]
noncomputable def R67_1 : Array Oper := opsAt Try.f67 [1, 0, 0]
noncomputable def R67_2 : Array Oper := opsAt Try.f67 [1, 0, 1, 0, 0]
noncomputable def R67_3 : Array Oper := opsAt Try.f67 [1, 1, 0, 0]
noncomputable def R67_4 : Array Oper := opsAt Try.f67 [1, 1, 0, 1, 0, 0, 0, 0]
noncomputable def R67_6 : Array Oper := opsAt Try.f67 [1, 1, 0, 1, 0, 0, 1, 0, 0, 0]
noncomputable def R67_7 : Array Oper := opsAt Try.f67 [1, 1, 0, 1, 0, 0, 1, 0, 0, 1, 0, 0]
noncomputable def R67_5 : Array Oper := opsAt Try.f67 [1, 1, 0, 1, 0, 0, 1, 1]
noncomputable def L67_0 : Code := .seq (.seq (.region 4 R67_4 false) (.cond (.tmp 25) .skip (.exit 0))) (.seq (.block 1 (.seq (.region 6 R67_6 false) (.cond (.tmp 34) (.seq (.region 7 R67_7 false) .ret) .skip))) (.region 5 R67_5 false))
theorem lpL67_0 : loops L67_0 = 0 := rfl
noncomputable def R67_8 : Array Oper := opsAt Try.f67 [1, 1, 1, 0]
noncomputable def M67_0 : Code := .seq (.region 8 R67_8 false) .ret
theorem lpM67_0 : loops M67_0 = 0 := rfl
theorem code67 : Try.f67.body = some (.seq (.region 0 R67_0 false) (.seq (.seq (.region 1 R67_1 false) (.cond (.tmp 20) (.seq (.region 2 R67_2 false) .ret) .skip)) (.seq (.seq (.region 3 R67_3 false) (.block 0 (.loop L67_0))) M67_0))) := by kernel_rfl
noncomputable def R68_0 : Array Oper := opsAt Try.f68 [0]
noncomputable def R68_1 : Array Oper := opsAt Try.f68 [1, 0]
theorem code68 : Try.f68.body = some (.seq (.region 0 R68_0 false) (.seq (.region 1 R68_1 false) .ret)) := by kernel_rfl
noncomputable def R73_0 : Array Oper := opsAt Try.f73 [0]
noncomputable def R73_1 : Array Oper := opsAt Try.f73 [1, 0]
theorem code73 : Try.f73.body = some (.seq (.region 0 R73_0 false) (.seq (.region 1 R73_1 true) .ret)) := by kernel_rfl
noncomputable def R75_0 : Array Oper := opsAt Try.f75 [0]
noncomputable def R75_1 : Array Oper := opsAt Try.f75 [1, 0]
theorem code75 : Try.f75.body = some (.seq (.region 0 R75_0 false) (.seq (.region 1 R75_1 true) .ret)) := by kernel_rfl
noncomputable def R76_0 : Array Oper := opsAt Try.f76 [0]
noncomputable def R76_1 : Array Oper := opsAt Try.f76 [1, 0, 0]
noncomputable def R76_2 : Array Oper := opsAt Try.f76 [1, 0, 1, 0, 0]
noncomputable def R76_3 : Array Oper := opsAt Try.f76 [1, 0, 1, 0, 1, 0, 0]
noncomputable def R76_4 : Array Oper := opsAt Try.f76 [1, 0, 1, 0, 1, 1, 0]
noncomputable def R76_5 : Array Oper := opsAt Try.f76 [1, 0, 1, 0, 1, 1, 1, 0, 0]
noncomputable def R76_6 : Array Oper := opsAt Try.f76 [1, 1, 0]
theorem code76 : Try.f76.body = some (.seq (.region 0 R76_0 false) (.seq (.seq (.region 1 R76_1 false) (.block 0 (.seq (.region 2 R76_2 false) (.cond (.tmp 10) (.seq (.region 3 R76_3 false) .ret) (.seq (.region 4 R76_4 false) (.cond (.tmp 12) (.seq (.region 5 R76_5 false) .ret) .skip)))))) (.seq (.region 6 R76_6 false) .ret))) := by kernel_rfl
noncomputable def R77_0 : Array Oper := opsAt Try.f77 [0]
noncomputable def R77_1 : Array Oper := opsAt Try.f77 [1, 0]
theorem code77 : Try.f77.body = some (.seq (.region 0 R77_0 false) (.seq (.region 1 R77_1 false) .ret)) := by kernel_rfl
noncomputable def R78_0 : Array Oper := opsAt Try.f78 [0]
noncomputable def R78_1 : Array Oper := opsAt Try.f78 [1, 0]
theorem code78 : Try.f78.body = some (.seq (.region 0 R78_0 false) (.seq (.region 1 R78_1 false) .ret)) := by kernel_rfl
noncomputable def R84_0 : Array Oper := opsAt Try.f84 [0]
noncomputable def R84_1 : Array Oper := opsAt Try.f84 [1, 0, 0]
noncomputable def R84_2 : Array Oper := opsAt Try.f84 [1, 0, 1, 0, 0]
noncomputable def R84_3 : Array Oper := opsAt Try.f84 [1, 1, 0]
theorem code84 : Try.f84.body = some (.seq (.region 0 R84_0 false) (.seq (.seq (.region 1 R84_1 false) (.cond (.tmp 7) (.seq (.region 2 R84_2 false) .ret) .skip)) (.seq (.region 3 R84_3 false) .ret))) := by kernel_rfl
noncomputable def R86_0 : Array Oper := opsAt Try.f86 [0]
noncomputable def R86_1 : Array Oper := opsAt Try.f86 [1, 0, 0, 0, 0]
noncomputable def R86_2 : Array Oper := opsAt Try.f86 [1, 0, 0, 0, 1, 1]
noncomputable def R86_3 : Array Oper := opsAt Try.f86 [1, 0, 0, 1, 0, 0]
noncomputable def R86_4 : Array Oper := opsAt Try.f86 [1, 0, 0, 1, 1, 0]
noncomputable def R86_5 : Array Oper := opsAt Try.f86 [1, 0, 0, 1, 1, 1, 0, 0]
noncomputable def R86_6 : Array Oper := opsAt Try.f86 [1, 0, 0, 1, 1, 1, 1, 0]
noncomputable def R86_7 : Array Oper := opsAt Try.f86 [1, 0, 0, 1, 1, 1, 1, 1, 0, 0]
noncomputable def R86_8 : Array Oper := opsAt Try.f86 [1, 1, 0]
theorem code86 : Try.f86.body = some (.seq (.region 0 R86_0 false) (.seq (.block 0 (.seq (.seq (.region 1 R86_1 false) (.cond (.tmp 3) .skip (.region 2 R86_2 false))) (.cond (.tmp 3) (.seq (.region 3 R86_3 false) .ret) (.seq (.region 4 R86_4 false) (.cond (.tmp 20) (.seq (.region 5 R86_5 false) .ret) (.seq (.region 6 R86_6 false) (.cond (.tmp 29) (.seq (.region 7 R86_7 false) .ret) .skip))))))) (.seq (.region 8 R86_8 false) .ret))) := by kernel_rfl
noncomputable def R87_0 : Array Oper := opsAt Try.f87 [0]
noncomputable def R87_1 : Array Oper := opsAt Try.f87 [1, 0]
theorem code87 : Try.f87.body = some (.seq (.region 0 R87_0 false) (.seq (.region 1 R87_1 false) .ret)) := by kernel_rfl
noncomputable def R89_0 : Array Oper := opsAt Try.f89 [0]
noncomputable def R89_1 : Array Oper := opsAt Try.f89 [1, 0]
theorem code89 : Try.f89.body = some (.seq (.region 0 R89_0 false) (.seq (.region 1 R89_1 false) .ret)) := by kernel_rfl
noncomputable def R90_0 : Array Oper := opsAt Try.f90 [0]
noncomputable def R90_1 : Array Oper := opsAt Try.f90 [1, 0]
theorem code90 : Try.f90.body = some (.seq (.region 0 R90_0 false) (.seq (.region 1 R90_1 false) .ret)) := by kernel_rfl
noncomputable def R92_0 : Array Oper := opsAt Try.f92 [0]
noncomputable def R92_1 : Array Oper := opsAt Try.f92 [1, 0, 0]
noncomputable def R92_2 : Array Oper := opsAt Try.f92 [1, 0, 1, 0, 0]
noncomputable def R92_3 : Array Oper := opsAt Try.f92 [1, 1, 0]
theorem code92 : Try.f92.body = some (.seq (.region 0 R92_0 false) (.seq (.seq (.region 1 R92_1 false) (.cond (.tmp 4) (.seq (.region 2 R92_2 false) .ret) .skip)) (.seq (.region 3 R92_3 false) .ret))) := by kernel_rfl
noncomputable def R94_0 : Array Oper := opsAt Try.f94 [0]
noncomputable def R94_1 : Array Oper := opsAt Try.f94 [1, 0]
theorem code94 : Try.f94.body = some (.seq (.region 0 R94_0 false) (.seq (.region 1 R94_1 false) .ret)) := by kernel_rfl
noncomputable def R95_0 : Array Oper := opsAt Try.f95 [0]
noncomputable def R95_1 : Array Oper := opsAt Try.f95 [1, 0, 0]
noncomputable def R95_2 : Array Oper := opsAt Try.f95 [1, 0, 1, 0, 0]
noncomputable def R95_3 : Array Oper := opsAt Try.f95 [1, 0, 1, 0, 1, 0, 0]
noncomputable def R95_4 : Array Oper := opsAt Try.f95 [1, 0, 1, 0, 1, 1, 0]
noncomputable def R95_5 : Array Oper := opsAt Try.f95 [1, 0, 1, 0, 1, 1, 1, 0, 0]
noncomputable def R95_6 : Array Oper := opsAt Try.f95 [1, 1, 0]
theorem code95 : Try.f95.body = some (.seq (.region 0 R95_0 false) (.seq (.seq (.region 1 R95_1 false) (.block 0 (.seq (.region 2 R95_2 false) (.cond (.tmp 10) (.seq (.region 3 R95_3 false) .ret) (.seq (.region 4 R95_4 false) (.cond (.tmp 13) (.seq (.region 5 R95_5 false) .ret) .skip)))))) (.seq (.region 6 R95_6 false) .ret))) := by kernel_rfl
noncomputable def R98_0 : Array Oper := opsAt Try.f98 [0]
noncomputable def R98_1 : Array Oper := opsAt Try.f98 [1, 0, 0]
noncomputable def R98_2 : Array Oper := opsAt Try.f98 [1, 0, 1, 0, 0, 0]
noncomputable def R98_3 : Array Oper := opsAt Try.f98 [1, 0, 1, 0, 0, 1, 1, 0, 0, 0]
noncomputable def R98_4 : Array Oper := opsAt Try.f98 [1, 0, 1, 0, 0, 1, 1, 0, 0, 1, 0]
noncomputable def R98_5 : Array Oper := opsAt Try.f98 [1, 0, 1, 0, 0, 1, 1, 0, 0, 1, 1, 0, 0]
noncomputable def R98_6 : Array Oper := opsAt Try.f98 [1, 0, 1, 0, 0, 1, 1, 1]
noncomputable def L98_0 : Code := .seq (.region 2 R98_2 false) (.seq (.cond (.tmp 9) .skip (.exit 0)) (.seq (.block 1 (.seq (.region 3 R98_3 false) (.seq (.region 4 R98_4 false) (.cond (.tmp 16) (.seq (.region 5 R98_5 false) .ret) .skip)))) (.region 6 R98_6 false)))
theorem lpL98_0 : loops L98_0 = 0 := rfl
noncomputable def R98_7 : Array Oper := opsAt Try.f98 [1, 1, 0]
noncomputable def M98_0 : Code := .seq (.region 7 R98_7 false) .ret
theorem lpM98_0 : loops M98_0 = 0 := rfl
theorem code98 : Try.f98.body = some (.seq (.region 0 R98_0 false) (.seq (.seq (.region 1 R98_1 false) (.block 0 (.loop L98_0))) M98_0)) := by kernel_rfl
def K : FuncId → Nat → List Nat
  | 17, 0 => [0, 3, 4]
  | 18, 0 => [3, 9, 10, 11, 23, 24]
  | 19, 0 => [0, 1, 5]
  | 36, 0 => [4, 14, 15, 16]
  | 36, 1 => [4, 7, 8, 14, 15, 16, 27, 28, 29]
  | 43, 0 => [3, 4, 5, 6, 8, 9]
  | 44, 0 => [4, 5, 6, 8, 21, 22, 23]
  | 49, 0 => [0, 3, 4, 23, 24, 25]
  | 56, 0 => [0, 3, 4]
  | 57, 0 => [0, 5, 6, 7, 15, 16, 17, 18, 19, 20]
  | 58, 0 => [0, 1, 5]
  | 65, 0 => [0, 1, 5]
  | 66, 0 => [0, 1, 5]
  | 67, 0 => [1, 3]
  | 98, 0 => [0, 1, 7, 8]
  | _, _ => []
theorem ent {f : FuncId} {fn : Func} (h : Try.prog.funcs[f]? = some fn) (hb : fn.body.isSome = true) (hn : (fn.name == "runtime.NumGoroutine") = false) : Enters Try.prog f := enters_mk h hb hn
def X : FuncId → Option (List V → Option (V × List Eng.Obj))
  | _ => none
noncomputable def C : Cfg := ⟨T, F, X, WR, OW, K⟩
theorem cT : C.T = T := rfl
theorem cF : C.fn = F := rfl
theorem cX : C.ext = X := rfl
theorem cWR : C.wr = WR := rfl
theorem cOW : C.own = OW := rfl
theorem cK : C.keep = K := rfl
theorem cfgOk : CfgOk Try.prog C where
  mixed := by kernel_rfl
  tab := tabOk
  fn := by
    intro f fn h
    show Try.prog.funcs[f]? = some fn ∧ _
    have h' : F f = some fn := h
    unfold F at h'
    split at h'
    · cases h'; exact ⟨Try.func9, ent Try.func9 rfl rfl, chk9⟩
    · cases h'; exact ⟨Try.func12, ent Try.func12 rfl rfl, chk12⟩
    · cases h'; exact ⟨Try.func15, ent Try.func15 rfl rfl, chk15⟩
    · cases h'; exact ⟨Try.func17, ent Try.func17 rfl rfl, chk17⟩
    · cases h'; exact ⟨Try.func18, ent Try.func18 rfl rfl, chk18⟩
    · cases h'; exact ⟨Try.func19, ent Try.func19 rfl rfl, chk19⟩
    · cases h'; exact ⟨Try.func20, ent Try.func20 rfl rfl, chk20⟩
    · cases h'; exact ⟨Try.func22, ent Try.func22 rfl rfl, chk22⟩
    · cases h'; exact ⟨Try.func24, ent Try.func24 rfl rfl, chk24⟩
    · cases h'; exact ⟨Try.func27, ent Try.func27 rfl rfl, chk27⟩
    · cases h'; exact ⟨Try.func28, ent Try.func28 rfl rfl, chk28⟩
    · cases h'; exact ⟨Try.func35, ent Try.func35 rfl rfl, chk35⟩
    · cases h'; exact ⟨Try.func36, ent Try.func36 rfl rfl, chk36⟩
    · cases h'; exact ⟨Try.func43, ent Try.func43 rfl rfl, chk43⟩
    · cases h'; exact ⟨Try.func44, ent Try.func44 rfl rfl, chk44⟩
    · cases h'; exact ⟨Try.func49, ent Try.func49 rfl rfl, chk49⟩
    · cases h'; exact ⟨Try.func50, ent Try.func50 rfl rfl, chk50⟩
    · cases h'; exact ⟨Try.func51, ent Try.func51 rfl rfl, chk51⟩
    · cases h'; exact ⟨Try.func52, ent Try.func52 rfl rfl, chk52⟩
    · cases h'; exact ⟨Try.func53, ent Try.func53 rfl rfl, chk53⟩
    · cases h'; exact ⟨Try.func54, ent Try.func54 rfl rfl, chk54⟩
    · cases h'; exact ⟨Try.func55, ent Try.func55 rfl rfl, chk55⟩
    · cases h'; exact ⟨Try.func56, ent Try.func56 rfl rfl, chk56⟩
    · cases h'; exact ⟨Try.func57, ent Try.func57 rfl rfl, chk57⟩
    · cases h'; exact ⟨Try.func58, ent Try.func58 rfl rfl, chk58⟩
    · cases h'; exact ⟨Try.func59, ent Try.func59 rfl rfl, chk59⟩
    · cases h'; exact ⟨Try.func60, ent Try.func60 rfl rfl, chk60⟩
    · cases h'; exact ⟨Try.func63, ent Try.func63 rfl rfl, chk63⟩
    · cases h'; exact ⟨Try.func65, ent Try.func65 rfl rfl, chk65⟩
    · cases h'; exact ⟨Try.func66, ent Try.func66 rfl rfl, chk66⟩
    · cases h'; exact ⟨Try.func67, ent Try.func67 rfl rfl, chk67⟩
    · cases h'; exact ⟨Try.func68, ent Try.func68 rfl rfl, chk68⟩
    · cases h'; exact ⟨Try.func73, ent Try.func73 rfl rfl, chk73⟩
    · cases h'; exact ⟨Try.func75, ent Try.func75 rfl rfl, chk75⟩
    · cases h'; exact ⟨Try.func76, ent Try.func76 rfl rfl, chk76⟩
    · cases h'; exact ⟨Try.func77, ent Try.func77 rfl rfl, chk77⟩
    · cases h'; exact ⟨Try.func78, ent Try.func78 rfl rfl, chk78⟩
    · cases h'; exact ⟨Try.func84, ent Try.func84 rfl rfl, chk84⟩
    · cases h'; exact ⟨Try.func86, ent Try.func86 rfl rfl, chk86⟩
    · cases h'; exact ⟨Try.func87, ent Try.func87 rfl rfl, chk87⟩
    · cases h'; exact ⟨Try.func89, ent Try.func89 rfl rfl, chk89⟩
    · cases h'; exact ⟨Try.func90, ent Try.func90 rfl rfl, chk90⟩
    · cases h'; exact ⟨Try.func92, ent Try.func92 rfl rfl, chk92⟩
    · cases h'; exact ⟨Try.func94, ent Try.func94 rfl rfl, chk94⟩
    · cases h'; exact ⟨Try.func95, ent Try.func95 rfl rfl, chk95⟩
    · cases h'; exact ⟨Try.func98, ent Try.func98 rfl rfl, chk98⟩
    · cases h'
  ext := by
    intro f m h
    have h' : X f = some m := h
    unfold X at h'
    cases h'
end Go.Proofs.Ytngbdlkcpkkeoaa.Eng
