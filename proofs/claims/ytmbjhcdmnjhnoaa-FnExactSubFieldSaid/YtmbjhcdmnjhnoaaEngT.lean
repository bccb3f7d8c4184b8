/- The types, the functions and the loops' live slots that the laws reach, and that they are what the program has. No conditions. -/
import Derived.Test.YtmbjhcdmnjhnoaaEngS
import Derived.Test.YtmbjhcdmnjhnoaaProg
import Derived.KernelRfl
import Derived.WalkKit
namespace Go.Proofs.Ytmbjhcdmnjhnoaa.Eng
open Go Go.Proofs
set_option maxRecDepth 100000
def T : Tab
  | 3 => some ⟨.int .i64, 1, 8, [.int .i64 0], true⟩
  | 4 => some ⟨.bool, 1, 1, [.bool false], true⟩
  | 22 => some ⟨(.slice 3), 1, 24, [.slice none 0 0], false⟩
  | 24 => some ⟨(.struct [(0, 1, false), (1, 1, false), (2, 1, false)]), 3, 40, [.int .i64 0, .int .i64 0, .slice none 0 0], false⟩
  | 26 => some ⟨(.struct [(0, 1, false), (1, 1, false), (2, 1, false)]), 3, 40, [.int .i64 0, .int .i64 0, .slice none 0 0], false⟩
  | 37 => some ⟨(.slice 22), 1, 24, [.slice none 0 0], false⟩
  | 81 => some ⟨.int .u64, 1, 8, [.int .u64 0], true⟩
  | 112 => some ⟨(.slice 26), 1, 24, [.slice none 0 0], false⟩
  | 115 => some ⟨.int .u64, 1, 8, [.int .u64 0], true⟩
  | 123 => some ⟨.int .u32, 1, 4, [.int .u32 0], true⟩
  | _ => none
theorem T3 : T 3 = some ⟨.int .i64, 1, 8, [.int .i64 0], true⟩ := rfl
theorem ok3 : TiOk Try.prog 3 ⟨.int .i64, 1, 8, [.int .i64 0], true⟩ := ⟨(by kernel_rfl : Try.prog.underlying 3 = _), (TiOk.of_info (z := (.int .i64 0)) (by kernel_rfl) rfl), rfl, by decide⟩
theorem T4 : T 4 = some ⟨.bool, 1, 1, [.bool false], true⟩ := rfl
theorem ok4 : TiOk Try.prog 4 ⟨.bool, 1, 1, [.bool false], true⟩ := ⟨(by kernel_rfl : Try.prog.underlying 4 = _), (TiOk.of_info (z := (.bool false)) (by kernel_rfl) rfl), rfl, by decide⟩
theorem T22 : T 22 = some ⟨(.slice 3), 1, 24, [.slice none 0 0], false⟩ := rfl
theorem ok22 : TiOk Try.prog 22 ⟨(.slice 3), 1, 24, [.slice none 0 0], false⟩ := ⟨(by kernel_rfl : Try.prog.underlying 22 = _), (TiOk.of_info (z := (.slice none 0 0)) (by kernel_rfl) rfl), rfl, by decide⟩
theorem T24 : T 24 = some ⟨(.struct [(0, 1, false), (1, 1, false), (2, 1, false)]), 3, 40, [.int .i64 0, .int .i64 0, .slice none 0 0], false⟩ := rfl
theorem ok24 : TiOk Try.prog 24 ⟨(.struct [(0, 1, false), (1, 1, false), (2, 1, false)]), 3, 40, [.int .i64 0, .int .i64 0, .slice none 0 0], false⟩ := ⟨TiOk.of_struct Try.underlying24 (by kernel_rfl), (TiOk.of_info (z := (.agg #[.int .i64 0, .int .i64 0, .slice none 0 0])) (by kernel_rfl) rfl), rfl, by decide⟩
theorem T26 : T 26 = some ⟨(.struct [(0, 1, false), (1, 1, false), (2, 1, false)]), 3, 40, [.int .i64 0, .int .i64 0, .slice none 0 0], false⟩ := rfl
theorem ok26 : TiOk Try.prog 26 ⟨(.struct [(0, 1, false), (1, 1, false), (2, 1, false)]), 3, 40, [.int .i64 0, .int .i64 0, .slice none 0 0], false⟩ := ⟨TiOk.of_struct Try.underlying26 (by kernel_rfl), (TiOk.of_info (z := (.agg #[.int .i64 0, .int .i64 0, .slice none 0 0])) (by kernel_rfl) rfl), rfl, by decide⟩
theorem T37 : T 37 = some ⟨(.slice 22), 1, 24, [.slice none 0 0], false⟩ := rfl
theorem ok37 : TiOk Try.prog 37 ⟨(.slice 22), 1, 24, [.slice none 0 0], false⟩ := ⟨(by kernel_rfl : Try.prog.underlying 37 = _), (TiOk.of_info (z := (.slice none 0 0)) (by kernel_rfl) rfl), rfl, by decide⟩
theorem T81 : T 81 = some ⟨.int .u64, 1, 8, [.int .u64 0], true⟩ := rfl
theorem ok81 : TiOk Try.prog 81 ⟨.int .u64, 1, 8, [.int .u64 0], true⟩ := ⟨(by kernel_rfl : Try.prog.underlying 81 = _), (TiOk.of_info (z := (.int .u64 0)) (by kernel_rfl) rfl), rfl, by decide⟩
theorem T112 : T 112 = some ⟨(.slice 26), 1, 24, [.slice none 0 0], false⟩ := rfl
theorem ok112 : TiOk Try.prog 112 ⟨(.slice 26), 1, 24, [.slice none 0 0], false⟩ := ⟨(by kernel_rfl : Try.prog.underlying 112 = _), (TiOk.of_info (z := (.slice none 0 0)) (by kernel_rfl) rfl), rfl, by decide⟩
theorem T115 : T 115 = some ⟨.int .u64, 1, 8, [.int .u64 0], true⟩ := rfl
theorem ok115 : TiOk Try.prog 115 ⟨.int .u64, 1, 8, [.int .u64 0], true⟩ := ⟨(by kernel_rfl : Try.prog.underlying 115 = _), (TiOk.of_info (z := (.int .u64 0)) (by kernel_rfl) rfl), rfl, by decide⟩
theorem T123 : T 123 = some ⟨.int .u32, 1, 4, [.int .u32 0], true⟩ := rfl
theorem ok123 : TiOk Try.prog 123 ⟨.int .u32, 1, 4, [.int .u32 0], true⟩ := ⟨(by kernel_rfl : Try.prog.underlying 123 = _), (TiOk.of_info (z := (.int .u32 0)) (by kernel_rfl) rfl), rfl, by decide⟩
theorem tabOk : TabOk Try.prog T := by
  intro t i h
  unfold T at h
  split at h
  · cases h; exact ok3
  · cases h; exact ok4
  · cases h; exact ok22
  · cases h; exact ok24
  · cases h; exact ok26
  · cases h; exact ok37
  · cases h; exact ok81
  · cases h; exact ok112
  · cases h; exact ok115
  · cases h; exact ok123
  · cases h
set_option maxHeartbeats 1000000
def WR (f : FuncId) : Bool := f == 17 || f == 30 || f == 63 || f == 105 || f == 112
def OW (f : FuncId) : Bool := f == 17 || f == 30 || f == 63 || f == 105 || f == 112
noncomputable def F : FuncId → Option Func
  | 4 => some Try.f4
  | 5 => some Try.f5
  | 6 => some Try.f6
  | 8 => some Try.f8
  | 9 => some Try.f9
  | 12 => some Try.f12
  | 14 => some Try.f14
  | 16 => some Try.f16
  | 17 => some Try.f17
  | 18 => some Try.f18
  | 19 => some Try.f19
  | 20 => some Try.f20
  | 21 => some Try.f21
  | 22 => some Try.f22
  | 23 => some Try.f23
  | 24 => some Try.f24
  | 27 => some Try.f27
  | 28 => some Try.f28
  | 29 => some Try.f29
  | 30 => some Try.f30
  | 31 => some Try.f31
  | 32 => some Try.f32
  | 33 => some Try.f33
  | 52 => some Try.f52
  | 53 => some Try.f53
  | 54 => some Try.f54
  | 55 => some Try.f55
  | 56 => some Try.f56
  | 57 => some Try.f57
  | 58 => some Try.f58
  | 59 => some Try.f59
  | 62 => some Try.f62
  | 63 => some Try.f63
  | 64 => some Try.f64
  | 65 => some Try.f65
  | 66 => some Try.f66
  | 67 => some Try.f67
  | 68 => some Try.f68
  | 69 => some Try.f69
  | 70 => some Try.f70
  | 71 => some Try.f71
  | 72 => some Try.f72
  | 73 => some Try.f73
  | 74 => some Try.f74
  | 75 => some Try.f75
  | 76 => some Try.f76
  | 79 => some Try.f79
  | 81 => some Try.f81
  | 82 => some Try.f82
  | 83 => some Try.f83
  | 84 => some Try.f84
  | 102 => some Try.f102
  | 103 => some Try.f103
  | 104 => some Try.f104
  | 105 => some Try.f105
  | 106 => some Try.f106
  | 107 => some Try.f107
  | 108 => some Try.f108
  | 109 => some Try.f109
  | 110 => some Try.f110
  | 112 => some Try.f112
  | 113 => some Try.f113
  | 119 => some Try.f119
  | 120 => some Try.f120
  | 121 => some Try.f121
  | 122 => some Try.f122
  | 126 => some Try.f126
  | 133 => some Try.f133
  | 134 => some Try.f134
  | _ => none
theorem F4 : F 4 = some Try.f4 := rfl
theorem chk4 : ∀ c, Try.f4.body = some c → chk WR Try.f4.ntmps c = true := by intro c h; cases h; decide +kernel
theorem F5 : F 5 = some Try.f5 := rfl
theorem chk5 : ∀ c, Try.f5.body = some c → chk WR Try.f5.ntmps c = true := by intro c h; cases h; decide +kernel
theorem F6 : F 6 = some Try.f6 := rfl
theorem chk6 : ∀ c, Try.f6.body = some c → chk WR Try.f6.ntmps c = true := by intro c h; cases h; decide +kernel
theorem F8 : F 8 = some Try.f8 := rfl
theorem chk8 : ∀ c, Try.f8.body = some c → chk WR Try.f8.ntmps c = true := by intro c h; cases h; decide +kernel
theorem F9 : F 9 = some Try.f9 := rfl
theorem chk9 : ∀ c, Try.f9.body = some c → chk WR Try.f9.ntmps c = true := by intro c h; cases h; decide +kernel
theorem F12 : F 12 = some Try.f12 := rfl
theorem chk12 : ∀ c, Try.f12.body = some c → chk WR Try.f12.ntmps c = true := by intro c h; cases h; decide +kernel
theorem F14 : F 14 = some Try.f14 := rfl
theorem chk14 : ∀ c, Try.f14.body = some c → chk WR Try.f14.ntmps c = true := by intro c h; cases h; decide +kernel
theorem F16 : F 16 = some Try.f16 := rfl
theorem chk16 : ∀ c, Try.f16.body = some c → chk WR Try.f16.ntmps c = true := by intro c h; cases h; decide +kernel
theorem F17 : F 17 = some Try.f17 := rfl
theorem chk17 : ∀ c, Try.f17.body = some c → chk WR Try.f17.ntmps c = true := by intro c h; cases h; decide +kernel
theorem F18 : F 18 = some Try.f18 := rfl
theorem chk18 : ∀ c, Try.f18.body = some c → chk WR Try.f18.ntmps c = true := by intro c h; cases h; decide +kernel
theorem F19 : F 19 = some Try.f19 := rfl
theorem chk19 : ∀ c, Try.f19.body = some c → chk WR Try.f19.ntmps c = true := by intro c h; cases h; decide +kernel
theorem F20 : F 20 = some Try.f20 := rfl
theorem chk20 : ∀ c, Try.f20.body = some c → chk WR Try.f20.ntmps c = true := by intro c h; cases h; decide +kernel
theorem F21 : F 21 = some Try.f21 := rfl
theorem chk21 : ∀ c, Try.f21.body = some c → chk WR Try.f21.ntmps c = true := by intro c h; cases h; decide +kernel
theorem F22 : F 22 = some Try.f22 := rfl
theorem chk22 : ∀ c, Try.f22.body = some c → chk WR Try.f22.ntmps c = true := by intro c h; cases h; decide +kernel
theorem F23 : F 23 = some Try.f23 := rfl
theorem chk23 : ∀ c, Try.f23.body = some c → chk WR Try.f23.ntmps c = true := by intro c h; cases h; decide +kernel
theorem F24 : F 24 = some Try.f24 := rfl
theorem chk24 : ∀ c, Try.f24.body = some c → chk WR Try.f24.ntmps c = true := by intro c h; cases h; decide +kernel
theorem F27 : F 27 = some Try.f27 := rfl
theorem chk27 : ∀ c, Try.f27.body = some c → chk WR Try.f27.ntmps c = true := by intro c h; cases h; decide +kernel
theorem F28 : F 28 = some Try.f28 := rfl
theorem chk28 : ∀ c, Try.f28.body = some c → chk WR Try.f28.ntmps c = true := by intro c h; cases h; decide +kernel
theorem F29 : F 29 = some Try.f29 := rfl
theorem chk29 : ∀ c, Try.f29.body = some c → chk WR Try.f29.ntmps c = true := by intro c h; cases h; decide +kernel
theorem F30 : F 30 = some Try.f30 := rfl
theorem chk30 : ∀ c, Try.f30.body = some c → chk WR Try.f30.ntmps c = true := by intro c h; cases h; decide +kernel
theorem F31 : F 31 = some Try.f31 := rfl
theorem chk31 : ∀ c, Try.f31.body = some c → chk WR Try.f31.ntmps c = true := by intro c h; cases h; decide +kernel
theorem F32 : F 32 = some Try.f32 := rfl
theorem chk32 : ∀ c, Try.f32.body = some c → chk WR Try.f32.ntmps c = true := by intro c h; cases h; decide +kernel
theorem F33 : F 33 = some Try.f33 := rfl
theorem chk33 : ∀ c, Try.f33.body = some c → chk WR Try.f33.ntmps c = true := by intro c h; cases h; decide +kernel
theorem F52 : F 52 = some Try.f52 := rfl
theorem chk52 : ∀ c, Try.f52.body = some c → chk WR Try.f52.ntmps c = true := by intro c h; cases h; decide +kernel
theorem F53 : F 53 = some Try.f53 := rfl
theorem chk53 : ∀ c, Try.f53.body = some c → chk WR Try.f53.ntmps c = true := by intro c h; cases h; decide +kernel
theorem F54 : F 54 = some Try.f54 := rfl
theorem chk54 : ∀ c, Try.f54.body = some c → chk WR Try.f54.ntmps c = true := by intro c h; cases h; decide +kernel
theorem F55 : F 55 = some Try.f55 := rfl
theorem chk55 : ∀ c, Try.f55.body = some c → chk WR Try.f55.ntmps c = true := by intro c h; cases h; decide +kernel
theorem F56 : F 56 = some Try.f56 := rfl
theorem chk56 : ∀ c, Try.f56.body = some c → chk WR Try.f56.ntmps c = true := by intro c h; cases h; decide +kernel
theorem F57 : F 57 = some Try.f57 := rfl
theorem chk57 : ∀ c, Try.f57.body = some c → chk WR Try.f57.ntmps c = true := by intro c h; cases h; decide +kernel
theorem F58 : F 58 = some Try.f58 := rfl
theorem chk58 : ∀ c, Try.f58.body = some c → chk WR Try.f58.ntmps c = true := by intro c h; cases h; decide +kernel
theorem F59 : F 59 = some Try.f59 := rfl
theorem chk59 : ∀ c, Try.f59.body = some c → chk WR Try.f59.ntmps c = true := by intro c h; cases h; decide +kernel
theorem F62 : F 62 = some Try.f62 := rfl
theorem chk62 : ∀ c, Try.f62.body = some c → chk WR Try.f62.ntmps c = true := by intro c h; cases h; decide +kernel
theorem F63 : F 63 = some Try.f63 := rfl
theorem chk63 : ∀ c, Try.f63.body = some c → chk WR Try.f63.ntmps c = true := by intro c h; cases h; decide +kernel
theorem F64 : F 64 = some Try.f64 := rfl
theorem chk64 : ∀ c, Try.f64.body = some c → chk WR Try.f64.ntmps c = true := by intro c h; cases h; decide +kernel
theorem F65 : F 65 = some Try.f65 := rfl
theorem chk65 : ∀ c, Try.f65.body = some c → chk WR Try.f65.ntmps c = true := by intro c h; cases h; decide +kernel
theorem F66 : F 66 = some Try.f66 := rfl
theorem chk66 : ∀ c, Try.f66.body = some c → chk WR Try.f66.ntmps c = true := by intro c h; cases h; decide +kernel
theorem F67 : F 67 = some Try.f67 := rfl
theorem chk67 : ∀ c, Try.f67.body = some c → chk WR Try.f67.ntmps c = true := by intro c h; cases h; decide +kernel
theorem F68 : F 68 = some Try.f68 := rfl
theorem chk68 : ∀ c, Try.f68.body = some c → chk WR Try.f68.ntmps c = true := by intro c h; cases h; decide +kernel
theorem F69 : F 69 = some Try.f69 := rfl
theorem chk69 : ∀ c, Try.f69.body = some c → chk WR Try.f69.ntmps c = true := by intro c h; cases h; decide +kernel
theorem F70 : F 70 = some Try.f70 := rfl
theorem chk70 : ∀ c, Try.f70.body = some c → chk WR Try.f70.ntmps c = true := by intro c h; cases h; decide +kernel
theorem F71 : F 71 = some Try.f71 := rfl
theorem chk71 : ∀ c, Try.f71.body = some c → chk WR Try.f71.ntmps c = true := by intro c h; cases h; decide +kernel
theorem F72 : F 72 = some Try.f72 := rfl
theorem chk72 : ∀ c, Try.f72.body = some c → chk WR Try.f72.ntmps c = true := by intro c h; cases h; decide +kernel
theorem F73 : F 73 = some Try.f73 := rfl
theorem chk73 : ∀ c, Try.f73.body = some c → chk WR Try.f73.ntmps c = true := by intro c h; cases h; decide +kernel
theorem F74 : F 74 = some Try.f74 := rfl
theorem chk74 : ∀ c, Try.f74.body = some c → chk WR Try.f74.ntmps c = true := by intro c h; cases h; decide +kernel
theorem F75 : F 75 = some Try.f75 := rfl
theorem chk75 : ∀ c, Try.f75.body = some c → chk WR Try.f75.ntmps c = true := by intro c h; cases h; decide +kernel
theorem F76 : F 76 = some Try.f76 := rfl
theorem chk76 : ∀ c, Try.f76.body = some c → chk WR Try.f76.ntmps c = true := by intro c h; cases h; decide +kernel
theorem F79 : F 79 = some Try.f79 := rfl
theorem chk79 : ∀ c, Try.f79.body = some c → chk WR Try.f79.ntmps c = true := by intro c h; cases h; decide +kernel
theorem F81 : F 81 = some Try.f81 := rfl
theorem chk81 : ∀ c, Try.f81.body = some c → chk WR Try.f81.ntmps c = true := by intro c h; cases h; decide +kernel
theorem F82 : F 82 = some Try.f82 := rfl
theorem chk82 : ∀ c, Try.f82.body = some c → chk WR Try.f82.ntmps c = true := by intro c h; cases h; decide +kernel
theorem F83 : F 83 = some Try.f83 := rfl
theorem chk83 : ∀ c, Try.f83.body = some c → chk WR Try.f83.ntmps c = true := by intro c h; cases h; decide +kernel
theorem F84 : F 84 = some Try.f84 := rfl
theorem chk84 : ∀ c, Try.f84.body = some c → chk WR Try.f84.ntmps c = true := by intro c h; cases h; decide +kernel
theorem F102 : F 102 = some Try.f102 := rfl
theorem chk102 : ∀ c, Try.f102.body = some c → chk WR Try.f102.ntmps c = true := by intro c h; cases h; decide +kernel
theorem F103 : F 103 = some Try.f103 := rfl
theorem chk103 : ∀ c, Try.f103.body = some c → chk WR Try.f103.ntmps c = true := by intro c h; cases h; decide +kernel
theorem F104 : F 104 = some Try.f104 := rfl
theorem chk104 : ∀ c, Try.f104.body = some c → chk WR Try.f104.ntmps c = true := by intro c h; cases h; decide +kernel
theorem F105 : F 105 = some Try.f105 := rfl
theorem chk105 : ∀ c, Try.f105.body = some c → chk WR Try.f105.ntmps c = true := by intro c h; cases h; decide +kernel
theorem F106 : F 106 = some Try.f106 := rfl
theorem chk106 : ∀ c, Try.f106.body = some c → chk WR Try.f106.ntmps c = true := by intro c h; cases h; decide +kernel
theorem F107 : F 107 = some Try.f107 := rfl
theorem chk107 : ∀ c, Try.f107.body = some c → chk WR Try.f107.ntmps c = true := by intro c h; cases h; decide +kernel
theorem F108 : F 108 = some Try.f108 := rfl
theorem chk108 : ∀ c, Try.f108.body = some c → chk WR Try.f108.ntmps c = true := by intro c h; cases h; decide +kernel
theorem F109 : F 109 = some Try.f109 := rfl
theorem chk109 : ∀ c, Try.f109.body = some c → chk WR Try.f109.ntmps c = true := by intro c h; cases h; decide +kernel
theorem F110 : F 110 = some Try.f110 := rfl
theorem chk110 : ∀ c, Try.f110.body = some c → chk WR Try.f110.ntmps c = true := by intro c h; cases h; decide +kernel
theorem F112 : F 112 = some Try.f112 := rfl
theorem chk112 : ∀ c, Try.f112.body = some c → chk WR Try.f112.ntmps c = true := by intro c h; cases h; decide +kernel
theorem F113 : F 113 = some Try.f113 := rfl
theorem chk113 : ∀ c, Try.f113.body = some c → chk WR Try.f113.ntmps c = true := by intro c h; cases h; decide +kernel
theorem F119 : F 119 = some Try.f119 := rfl
theorem chk119 : ∀ c, Try.f119.body = some c → chk WR Try.f119.ntmps c = true := by intro c h; cases h; decide +kernel
theorem F120 : F 120 = some Try.f120 := rfl
theorem chk120 : ∀ c, Try.f120.body = some c → chk WR Try.f120.ntmps c = true := by intro c h; cases h; decide +kernel
theorem F121 : F 121 = some Try.f121 := rfl
theorem chk121 : ∀ c, Try.f121.body = some c → chk WR Try.f121.ntmps c = true := by intro c h; cases h; decide +kernel
theorem F122 : F 122 = some Try.f122 := rfl
theorem chk122 : ∀ c, Try.f122.body = some c → chk WR Try.f122.ntmps c = true := by intro c h; cases h; decide +kernel
theorem F126 : F 126 = some Try.f126 := rfl
theorem chk126 : ∀ c, Try.f126.body = some c → chk WR Try.f126.ntmps c = true := by intro c h; cases h; decide +kernel
theorem F133 : F 133 = some Try.f133 := rfl
theorem chk133 : ∀ c, Try.f133.body = some c → chk WR Try.f133.ntmps c = true := by intro c h; cases h; decide +kernel
theorem F134 : F 134 = some Try.f134 := rfl
theorem chk134 : ∀ c, Try.f134.body = some c → chk WR Try.f134.ntmps c = true := by intro c h; cases h; decide +kernel
noncomputable def R4_0 : Array Oper := opsAt Try.f4 [0]
noncomputable def R4_1 : Array Oper := opsAt Try.f4 [1, 0]
noncomputable def R4_2 : Array Oper := opsAt Try.f4 [1, 1, 0]
noncomputable def R4_3 : Array Oper := opsAt Try.f4 [1, 1, 1, 0, 0]
noncomputable def R4_4 : Array Oper := opsAt Try.f4 [1, 1, 1, 0, 1, 0, 0]
noncomputable def R4_5 : Array Oper := opsAt Try.f4 [1, 1, 1, 1, 0]
noncomputable def R4_6 : Array Oper := opsAt Try.f4 [1, 1, 1, 1, 1, 0, 0]
noncomputable def R4_7 : Array Oper := opsAt Try.f4 [1, 1, 1, 1, 1, 0, 1, 0, 0]
noncomputable def R4_8 : Array Oper := opsAt Try.f4 [1, 1, 1, 1, 1, 1, 0]
noncomputable def R4_9 : Array Oper := opsAt Try.f4 [1, 1, 1, 1, 1, 1, 1, 0]
noncomputable def R4_10 : Array Oper := opsAt Try.f4 [1, 1, 1, 1, 1, 1, 1, 1, 0]
noncomputable def R4_11 : Array Oper := opsAt Try.f4 [1, 1, 1, 1, 1, 1, 1, 1, 1, 0]
noncomputable def R4_12 : Array Oper := opsAt Try.f4 [1, 1, 1, 1, 1, 1, 1, 1, 1, 1, 0, 0]
noncomputable def R4_13 : Array Oper := opsAt Try.f4 [1, 1, 1, 1, 1, 1, 1, 1, 1, 1, 0, 1, 0, 0]
noncomputable def R4_14 : Array Oper := opsAt Try.f4 [1, 1, 1, 1, 1, 1, 1, 1, 1, 1, 1, 0, 0]
noncomputable def R4_15 : Array Oper := opsAt Try.f4 [1, 1, 1, 1, 1, 1, 1, 1, 1, 1, 1, 0, 1, 0, 0]
noncomputable def R4_16 : Array Oper := opsAt Try.f4 [1, 1, 1, 1, 1, 1, 1, 1, 1, 1, 1, 1, 0, 0]
noncomputable def R4_17 : Array Oper := opsAt Try.f4 [1, 1, 1, 1, 1, 1, 1, 1, 1, 1, 1, 1, 0, 1, 0, 0]
noncomputable def R4_18 : Array Oper := opsAt Try.f4 [1, 1, 1, 1, 1, 1, 1, 1, 1, 1, 1, 1, 1, 0]
noncomputable def R4_19 : Array Oper := opsAt Try.f4 [1, 1, 1, 1, 1, 1, 1, 1, 1, 1, 1, 1, 1, 1, 0]
noncomputable def R4_20 : Array Oper := opsAt Try.f4 [1, 1, 1, 1, 1, 1, 1, 1, 1, 1, 1, 1, 1, 1, 1, 0]
noncomputable def R4_21 : Array Oper := opsAt Try.f4 [1, 1, 1, 1, 1, 1, 1, 1, 1, 1, 1, 1, 1, 1, 1, 1, 0, 0]
noncomputable def R4_22 : Array Oper := opsAt Try.f4 [1, 1, 1, 1, 1, 1, 1, 1, 1, 1, 1, 1, 1, 1, 1, 1, 0, 1, 0, 0]
noncomputable def R4_23 : Array Oper := opsAt Try.f4 [1, 1, 1, 1, 1, 1, 1, 1, 1, 1, 1, 1, 1, 1, 1, 1, 1, 0]
noncomputable def R4_24 : Array Oper := opsAt Try.f4 [1, 1, 1, 1, 1, 1, 1, 1, 1, 1, 1, 1, 1, 1, 1, 1, 1, 1, 0]
noncomputable def R4_25 : Array Oper := opsAt Try.f4 [1, 1, 1, 1, 1, 1, 1, 1, 1, 1, 1, 1, 1, 1, 1, 1, 1, 1, 1, 0]
noncomputable def R4_26 : Array Oper := opsAt Try.f4 [1, 1, 1, 1, 1, 1, 1, 1, 1, 1, 1, 1, 1, 1, 1, 1, 1, 1, 1, 1, 0]
noncomputable def R4_27 : Array Oper := opsAt Try.f4 [1, 1, 1, 1, 1, 1, 1, 1, 1, 1, 1, 1, 1, 1, 1, 1, 1, 1, 1, 1, 1, 0, 0]
noncomputable def R4_28 : Array Oper := opsAt Try.f4 [1, 1, 1, 1, 1, 1, 1, 1, 1, 1, 1, 1, 1, 1, 1, 1, 1, 1, 1, 1, 1, 0, 1, 0, 0]
noncomputable def R4_29 : Array Oper := opsAt Try.f4 [1, 1, 1, 1, 1, 1, 1, 1, 1, 1, 1, 1, 1, 1, 1, 1, 1, 1, 1, 1, 1, 1, 0, 0]
noncomputable def R4_30 : Array Oper := opsAt Try.f4 [1, 1, 1, 1, 1, 1, 1, 1, 1, 1, 1, 1, 1, 1, 1, 1, 1, 1, 1, 1, 1, 1, 0, 1, 0, 0]
noncomputable def R4_31 : Array Oper := opsAt Try.f4 [1, 1, 1, 1, 1, 1, 1, 1, 1, 1, 1, 1, 1, 1, 1, 1, 1, 1, 1, 1, 1, 1, 1, 0]
noncomputable def R4_32 : Array Oper := opsAt Try.f4 [1, 1, 1, 1, 1, 1, 1, 1, 1, 1, 1, 1, 1, 1, 1, 1, 1, 1, 1, 1, 1, 1, 1, 1, 0, 0]
noncomputable def R4_33 : Array Oper := opsAt Try.f4 [1, 1, 1, 1, 1, 1, 1, 1, 1, 1, 1, 1, 1, 1, 1, 1, 1, 1, 1, 1, 1, 1, 1, 1, 0, 1, 0, 0]
noncomputable def R4_34 : Array Oper := opsAt Try.f4 [1, 1, 1, 1, 1, 1, 1, 1, 1, 1, 1, 1, 1, 1, 1, 1, 1, 1, 1, 1, 1, 1, 1, 1, 1, 0]
noncomputable def R4_35 : Array Oper := opsAt Try.f4 [1, 1, 1, 1, 1, 1, 1, 1, 1, 1, 1, 1, 1, 1, 1, 1, 1, 1, 1, 1, 1, 1, 1, 1, 1, 1, 0]
noncomputable def R4_36 : Array Oper := opsAt Try.f4 [1, 1, 1, 1, 1, 1, 1, 1, 1, 1, 1, 1, 1, 1, 1, 1, 1, 1, 1, 1, 1, 1, 1, 1, 1, 1, 1, 0, 0]
noncomputable def R4_37 : Array Oper := opsAt Try.f4 [1, 1, 1, 1, 1, 1, 1, 1, 1, 1, 1, 1, 1, 1, 1, 1, 1, 1, 1, 1, 1, 1, 1, 1, 1, 1, 1, 0, 1, 0, 0]
noncomputable def R4_38 : Array Oper := opsAt Try.f4 [1, 1, 1, 1, 1, 1, 1, 1, 1, 1, 1, 1, 1, 1, 1, 1, 1, 1, 1, 1, 1, 1, 1, 1, 1, 1, 1, 1, 0, 0]
noncomputable def R4_39 : Array Oper := opsAt Try.f4 [1, 1, 1, 1, 1, 1, 1, 1, 1, 1, 1, 1, 1, 1, 1, 1, 1, 1, 1, 1, 1, 1, 1, 1, 1, 1, 1, 1, 0, 1, 0, 0]
noncomputable def R4_40 : Array Oper := opsAt Try.f4 [1, 1, 1, 1, 1, 1, 1, 1, 1, 1, 1, 1, 1, 1, 1, 1, 1, 1, 1, 1, 1, 1, 1, 1, 1, 1, 1, 1, 1, 0]
theorem code4 : Try.f4.body = some (.seq (.region 0 R4_0 false) (.seq (.region 1 R4_1 false) (.seq (.region 2 R4_2 false) (.seq (.seq (.region 3 R4_3 false) (.cond (.tmp 21) (.seq (.region 4 R4_4 false) .ret) .skip)) (.seq (.region 5 R4_5 false) (.seq (.seq (.region 6 R4_6 false) (.cond (.tmp 26) (.seq (.region 7 R4_7 false) .ret) .skip)) (.seq (.region 8 R4_8 true) (.seq (.region 9 R4_9 false) (.seq (.region 10 R4_10 false) (.seq (.region 11 R4_11 false) (.seq (.seq (.region 12 R4_12 false) (.cond (.tmp 53) (.seq (.region 13 R4_13 false) .ret) .skip)) (.seq (.seq (.region 14 R4_14 true) (.cond (.tmp 58) (.seq (.region 15 R4_15 false) .ret) .skip)) (.seq (.seq (.region 16 R4_16 true) (.cond (.tmp 63) (.seq (.region 17 R4_17 false) .ret) .skip)) (.seq (.region 18 R4_18 false) (.seq (.region 19 R4_19 false) (.seq (.region 20 R4_20 false) (.seq (.seq (.region 21 R4_21 false) (.cond (.tmp 82) (.seq (.region 22 R4_22 false) .ret) .skip)) (.seq (.region 23 R4_23 false) (.seq (.region 24 R4_24 false) (.seq (.region 25 R4_25 false) (.seq (.region 26 R4_26 false) (.seq (.seq (.region 27 R4_27 false) (.cond (.tmp 90) (.seq (.region 28 R4_28 false) .ret) .skip)) (.seq (.seq (.region 29 R4_29 false) (.cond (.tmp 93) (.seq (.region 30 R4_30 false) .ret) .skip)) (.seq (.region 31 R4_31 true) (.seq (.seq (.region 32 R4_32 false) (.cond (.tmp 110) (.seq (.region 33 R4_33 false) .ret) .skip)) (.seq (.region 34 R4_34 false) (.seq (.region 35 R4_35 false) (.seq (.seq (.region 36 R4_36 false) (.cond (.tmp 115) (.seq (.region 37 R4_37 false) .ret) .skip)) (.seq (.seq (.region 38 R4_38 false) (.cond (.tmp 118) (.seq (.region 39 R4_39 false) .ret) .skip)) (.seq (.region 40 R4_40 false) .ret)))))))))))))))))))))))))))))) := by kernel_rfl
noncomputable def R5_0 : Array Oper := opsAt Try.f5 [0]
noncomputable def R5_1 : Array Oper := opsAt Try.f5 [1, 0]
noncomputable def R5_2 : Array Oper := opsAt Try.f5 [1, 1, 0]
noncomputable def R5_3 : Array Oper := opsAt Try.f5 [1, 1, 1, 0, 0]
noncomputable def R5_4 : Array Oper := opsAt Try.f5 [1, 1, 1, 0, 1, 0, 0]
noncomputable def R5_5 : Array Oper := opsAt Try.f5 [1, 1, 1, 1, 0]
noncomputable def R5_6 : Array Oper := opsAt Try.f5 [1, 1, 1, 1, 1, 0, 0]
noncomputable def R5_7 : Array Oper := opsAt Try.f5 [1, 1, 1, 1, 1, 0, 1, 0, 0]
noncomputable def R5_8 : Array Oper := opsAt Try.f5 [1, 1, 1, 1, 1, 1, 0]
noncomputable def R5_9 : Array Oper := opsAt Try.f5 [1, 1, 1, 1, 1, 1, 1, 0]
noncomputable def R5_10 : Array Oper := opsAt Try.f5 [1, 1, 1, 1, 1, 1, 1, 1, 0]
noncomputable def R5_11 : Array Oper := opsAt Try.f5 [1, 1, 1, 1, 1, 1, 1, 1, 1, 0]
noncomputable def R5_12 : Array Oper := opsAt Try.f5 [1, 1, 1, 1, 1, 1, 1, 1, 1, 1, 0, 0]
noncomputable def R5_13 : Array Oper := opsAt Try.f5 [1, 1, 1, 1, 1, 1, 1, 1, 1, 1, 0, 1, 0, 0]
noncomputable def R5_14 : Array Oper := opsAt Try.f5 [1, 1, 1, 1, 1, 1, 1, 1, 1, 1, 1, 0, 0]
noncomputable def R5_15 : Array Oper := opsAt Try.f5 [1, 1, 1, 1, 1, 1, 1, 1, 1, 1, 1, 0, 1, 0, 0]
noncomputable def R5_16 : Array Oper := opsAt Try.f5 [1, 1, 1, 1, 1, 1, 1, 1, 1, 1, 1, 1, 0, 0]
noncomputable def R5_17 : Array Oper := opsAt Try.f5 [1, 1, 1, 1, 1, 1, 1, 1, 1, 1, 1, 1, 0, 1, 0, 0]
noncomputable def R5_18 : Array Oper := opsAt Try.f5 [1, 1, 1, 1, 1, 1, 1, 1, 1, 1, 1, 1, 1, 0]
noncomputable def R5_19 : Array Oper := opsAt Try.f5 [1, 1, 1, 1, 1, 1, 1, 1, 1, 1, 1, 1, 1, 1, 0]
noncomputable def R5_20 : Array Oper := opsAt Try.f5 [1, 1, 1, 1, 1, 1, 1, 1, 1, 1, 1, 1, 1, 1, 1, 0]
noncomputable def R5_21 : Array Oper := opsAt Try.f5 [1, 1, 1, 1, 1, 1, 1, 1, 1, 1, 1, 1, 1, 1, 1, 1, 0, 0]
noncomputable def R5_22 : Array Oper := opsAt Try.f5 [1, 1, 1, 1, 1, 1, 1, 1, 1, 1, 1, 1, 1, 1, 1, 1, 0, 1, 0, 0]
noncomputable def R5_23 : Array Oper := opsAt Try.f5 [1, 1, 1, 1, 1, 1, 1, 1, 1, 1, 1, 1, 1, 1, 1, 1, 1, 0]
noncomputable def R5_24 : Array Oper := opsAt Try.f5 [1, 1, 1, 1, 1, 1, 1, 1, 1, 1, 1, 1, 1, 1, 1, 1, 1, 1, 0]
noncomputable def R5_25 : Array Oper := opsAt Try.f5 [1, 1, 1, 1, 1, 1, 1, 1, 1, 1, 1, 1, 1, 1, 1, 1, 1, 1, 1, 0]
noncomputable def R5_26 : Array Oper := opsAt Try.f5 [1, 1, 1, 1, 1, 1, 1, 1, 1, 1, 1, 1, 1, 1, 1, 1, 1, 1, 1, 1, 0]
noncomputable def R5_27 : Array Oper := opsAt Try.f5 [1, 1, 1, 1, 1, 1, 1, 1, 1, 1, 1, 1, 1, 1, 1, 1, 1, 1, 1, 1, 1, 0, 0]
noncomputable def R5_28 : Array Oper := opsAt Try.f5 [1, 1, 1, 1, 1, 1, 1, 1, 1, 1, 1, 1, 1, 1, 1, 1, 1, 1, 1, 1, 1, 0, 1, 0, 0]
noncomputable def R5_29 : Array Oper := opsAt Try.f5 [1, 1, 1, 1, 1, 1, 1, 1, 1, 1, 1, 1, 1, 1, 1, 1, 1, 1, 1, 1, 1, 1, 0, 0]
noncomputable def R5_30 : Array Oper := opsAt Try.f5 [1, 1, 1, 1, 1, 1, 1, 1, 1, 1, 1, 1, 1, 1, 1, 1, 1, 1, 1, 1, 1, 1, 0, 1, 0, 0]
noncomputable def R5_31 : Array Oper := opsAt Try.f5 [1, 1, 1, 1, 1, 1, 1, 1, 1, 1, 1, 1, 1, 1, 1, 1, 1, 1, 1, 1, 1, 1, 1, 0]
noncomputable def R5_32 : Array Oper := opsAt Try.f5 [1, 1, 1, 1, 1, 1, 1, 1, 1, 1, 1, 1, 1, 1, 1, 1, 1, 1, 1, 1, 1, 1, 1, 1, 0, 0]
noncomputable def R5_33 : Array Oper := opsAt Try.f5 [1, 1, 1, 1, 1, 1, 1, 1, 1, 1, 1, 1, 1, 1, 1, 1, 1, 1, 1, 1, 1, 1, 1, 1, 0, 1, 0, 0]
noncomputable def R5_34 : Array Oper := opsAt Try.f5 [1, 1, 1, 1, 1, 1, 1, 1, 1, 1, 1, 1, 1, 1, 1, 1, 1, 1, 1, 1, 1, 1, 1, 1, 1, 0]
noncomputable def R5_35 : Array Oper := opsAt Try.f5 [1, 1, 1, 1, 1, 1, 1, 1, 1, 1, 1, 1, 1, 1, 1, 1, 1, 1, 1, 1, 1, 1, 1, 1, 1, 1, 0]
noncomputable def R5_36 : Array Oper := opsAt Try.f5 [1, 1, 1, 1, 1, 1, 1, 1, 1, 1, 1, 1, 1, 1, 1, 1, 1, 1, 1, 1, 1, 1, 1, 1, 1, 1, 1, 0, 0]
noncomputable def R5_37 : Array Oper := opsAt Try.f5 [1, 1, 1, 1, 1, 1, 1, 1, 1, 1, 1, 1, 1, 1, 1, 1, 1, 1, 1, 1, 1, 1, 1, 1, 1, 1, 1, 0, 1, 0, 0]
noncomputable def R5_38 : Array Oper := opsAt Try.f5 [1, 1, 1, 1, 1, 1, 1, 1, 1, 1, 1, 1, 1, 1, 1, 1, 1, 1, 1, 1, 1, 1, 1, 1, 1, 1, 1, 1, 0, 0]
noncomputable def R5_39 : Array Oper := opsAt Try.f5 [1, 1, 1, 1, 1, 1, 1, 1, 1, 1, 1, 1, 1, 1, 1, 1, 1, 1, 1, 1, 1, 1, 1, 1, 1, 1, 1, 1, 0, 1, 0, 0]
noncomputable def R5_40 : Array Oper := opsAt Try.f5 [1, 1, 1, 1, 1, 1, 1, 1, 1, 1, 1, 1, 1, 1, 1, 1, 1, 1, 1, 1, 1, 1, 1, 1, 1, 1, 1, 1, 1, 0]
theorem code5 : Try.f5.body = some (.seq (.region 0 R5_0 false) (.seq (.region 1 R5_1 false) (.seq (.region 2 R5_2 false) (.seq (.seq (.region 3 R5_3 false) (.cond (.tmp 21) (.seq (.region 4 R5_4 false) .ret) .skip)) (.seq (.region 5 R5_5 false) (.seq (.seq (.region 6 R5_6 false) (.cond (.tmp 26) (.seq (.region 7 R5_7 false) .ret) .skip)) (.seq (.region 8 R5_8 true) (.seq (.region 9 R5_9 false) (.seq (.region 10 R5_10 false) (.seq (.region 11 R5_11 false) (.seq (.seq (.region 12 R5_12 false) (.cond (.tmp 53) (.seq (.region 13 R5_13 false) .ret) .skip)) (.seq (.seq (.region 14 R5_14 true) (.cond (.tmp 58) (.seq (.region 15 R5_15 false) .ret) .skip)) (.seq (.seq (.region 16 R5_16 true) (.cond (.tmp 63) (.seq (.region 17 R5_17 false) .ret) .skip)) (.seq (.region 18 R5_18 false) (.seq (.region 19 R5_19 false) (.seq (.region 20 R5_20 false) (.seq (.seq (.region 21 R5_21 false) (.cond (.tmp 82) (.seq (.region 22 R5_22 false) .ret) .skip)) (.seq (.region 23 R5_23 false) (.seq (.region 24 R5_24 false) (.seq (.region 25 R5_25 false) (.seq (.region 26 R5_26 false) (.seq (.seq (.region 27 R5_27 false) (.cond (.tmp 90) (.seq (.region 28 R5_28 false) .ret) .skip)) (.seq (.seq (.region 29 R5_29 false) (.cond (.tmp 93) (.seq (.region 30 R5_30 false) .ret) .skip)) (.seq (.region 31 R5_31 true) (.seq (.seq (.region 32 R5_32 false) (.cond (.tmp 110) (.seq (.region 33 R5_33 false) .ret) .skip)) (.seq (.region 34 R5_34 false) (.seq (.region 35 R5_35 false) (.seq (.seq (.region 36 R5_36 false) (.cond (.tmp 115) (.seq (.region 37 R5_37 false) .ret) .skip)) (.seq (.seq (.region 38 R5_38 false) (.cond (.tmp 118) (.seq (.region 39 R5_39 false) .ret) .skip)) (.seq (.region 40 R5_40 false) .ret)))))))))))))))))))))))))))))) := by kernel_rfl
noncomputable def R6_0 : Array Oper := opsAt Try.f6 [0]
noncomputable def R6_1 : Array Oper := opsAt Try.f6 [1, 0]
noncomputable def R6_2 : Array Oper := opsAt Try.f6 [1, 1, 0]
noncomputable def R6_3 : Array Oper := opsAt Try.f6 [1, 1, 1, 0, 0]
noncomputable def R6_4 : Array Oper := opsAt Try.f6 [1, 1, 1, 0, 1, 0, 0]
noncomputable def R6_5 : Array Oper := opsAt Try.f6 [1, 1, 1, 1, 0]
noncomputable def R6_6 : Array Oper := opsAt Try.f6 [1, 1, 1, 1, 1, 0]
noncomputable def R6_7 : Array Oper := opsAt Try.f6 [1, 1, 1, 1, 1, 1, 0]
noncomputable def R6_8 : Array Oper := opsAt Try.f6 [1, 1, 1, 1, 1, 1, 1, 0, 0]
noncomputable def R6_9 : Array Oper := opsAt Try.f6 [1, 1, 1, 1, 1, 1, 1, 0, 1, 0, 0]
noncomputable def R6_10 : Array Oper := opsAt Try.f6 [1, 1, 1, 1, 1, 1, 1, 1, 0, 0]
noncomputable def R6_11 : Array Oper := opsAt Try.f6 [1, 1, 1, 1, 1, 1, 1, 1, 0, 1, 0, 0]
noncomputable def R6_12 : Array Oper := opsAt Try.f6 [1, 1, 1, 1, 1, 1, 1, 1, 1, 0]
noncomputable def R6_13 : Array Oper := opsAt Try.f6 [1, 1, 1, 1, 1, 1, 1, 1, 1, 1, 0]
noncomputable def R6_14 : Array Oper := opsAt Try.f6 [1, 1, 1, 1, 1, 1, 1, 1, 1, 1, 1, 0, 0]
noncomputable def R6_15 : Array Oper := opsAt Try.f6 [1, 1, 1, 1, 1, 1, 1, 1, 1, 1, 1, 0, 1, 0, 0]
noncomputable def R6_16 : Array Oper := opsAt Try.f6 [1, 1, 1, 1, 1, 1, 1, 1, 1, 1, 1, 1, 0]
noncomputable def R6_17 : Array Oper := opsAt Try.f6 [1, 1, 1, 1, 1, 1, 1, 1, 1, 1, 1, 1, 1, 0]
noncomputable def R6_18 : Array Oper := opsAt Try.f6 [1, 1, 1, 1, 1, 1, 1, 1, 1, 1, 1, 1, 1, 1, 0]
noncomputable def R6_19 : Array Oper := opsAt Try.f6 [1, 1, 1, 1, 1, 1, 1, 1, 1, 1, 1, 1, 1, 1, 1, 0]
noncomputable def R6_20 : Array Oper := opsAt Try.f6 [1, 1, 1, 1, 1, 1, 1, 1, 1, 1, 1, 1, 1, 1, 1, 1, 0, 0]
noncomputable def R6_21 : Array Oper := opsAt Try.f6 [1, 1, 1, 1, 1, 1, 1, 1, 1, 1, 1, 1, 1, 1, 1, 1, 0, 1, 0, 0]
noncomputable def R6_22 : Array Oper := opsAt Try.f6 [1, 1, 1, 1, 1, 1, 1, 1, 1, 1, 1, 1, 1, 1, 1, 1, 1, 0, 0]
noncomputable def R6_23 : Array Oper := opsAt Try.f6 [1, 1, 1, 1, 1, 1, 1, 1, 1, 1, 1, 1, 1, 1, 1, 1, 1, 0, 1, 0, 0]
noncomputable def R6_24 : Array Oper := opsAt Try.f6 [1, 1, 1, 1, 1, 1, 1, 1, 1, 1, 1, 1, 1, 1, 1, 1, 1, 1, 0]
noncomputable def R6_25 : Array Oper := opsAt Try.f6 [1, 1, 1, 1, 1, 1, 1, 1, 1, 1, 1, 1, 1, 1, 1, 1, 1, 1, 1, 0, 0]
noncomputable def R6_26 : Array Oper := opsAt Try.f6 [1, 1, 1, 1, 1, 1, 1, 1, 1, 1, 1, 1, 1, 1, 1, 1, 1, 1, 1, 0, 1, 0, 0]
noncomputable def R6_27 : Array Oper := opsAt Try.f6 [1, 1, 1, 1, 1, 1, 1, 1, 1, 1, 1, 1, 1, 1, 1, 1, 1, 1, 1, 1, 0]
noncomputable def R6_28 : Array Oper := opsAt Try.f6 [1, 1, 1, 1, 1, 1, 1, 1, 1, 1, 1, 1, 1, 1, 1, 1, 1, 1, 1, 1, 1, 0]
noncomputable def R6_29 : Array Oper := opsAt Try.f6 [1, 1, 1, 1, 1, 1, 1, 1, 1, 1, 1, 1, 1, 1, 1, 1, 1, 1, 1, 1, 1, 1, 0, 0]
noncomputable def R6_30 : Array Oper := opsAt Try.f6 [1, 1, 1, 1, 1, 1, 1, 1, 1, 1, 1, 1, 1, 1, 1, 1, 1, 1, 1, 1, 1, 1, 0, 1, 0, 0]
noncomputable def R6_31 : Array Oper := opsAt Try.f6 [1, 1, 1, 1, 1, 1, 1, 1, 1, 1, 1, 1, 1, 1, 1, 1, 1, 1, 1, 1, 1, 1, 1, 0, 0]
noncomputable def R6_32 : Array Oper := opsAt Try.f6 [1, 1, 1, 1, 1, 1, 1, 1, 1, 1, 1, 1, 1, 1, 1, 1, 1, 1, 1, 1, 1, 1, 1, 0, 1, 0, 0]
noncomputable def R6_33 : Array Oper := opsAt Try.f6 [1, 1, 1, 1, 1, 1, 1, 1, 1, 1, 1, 1, 1, 1, 1, 1, 1, 1, 1, 1, 1, 1, 1, 1, 0]
theorem code6 : Try.f6.body = some (.seq (.region 0 R6_0 false) (.seq (.region 1 R6_1 false) (.seq (.region 2 R6_2 false) (.seq (.seq (.region 3 R6_3 false) (.cond (.tmp 26) (.seq (.region 4 R6_4 false) .ret) .skip)) (.seq (.region 5 R6_5 false) (.seq (.region 6 R6_6 false) (.seq (.region 7 R6_7 false) (.seq (.seq (.region 8 R6_8 false) (.cond (.tmp 56) (.seq (.region 9 R6_9 false) .ret) .skip)) (.seq (.seq (.region 10 R6_10 true) (.cond (.tmp 61) (.seq (.region 11 R6_11 false) .ret) .skip)) (.seq (.region 12 R6_12 false) (.seq (.region 13 R6_13 false) (.seq (.seq (.region 14 R6_14 false) (.cond (.tmp 77) (.seq (.region 15 R6_15 false) .ret) .skip)) (.seq (.region 16 R6_16 false) (.seq (.region 17 R6_17 false) (.seq (.region 18 R6_18 false) (.seq (.region 19 R6_19 false) (.seq (.seq (.region 20 R6_20 false) (.cond (.tmp 85) (.seq (.region 21 R6_21 false) .ret) .skip)) (.seq (.seq (.region 22 R6_22 false) (.cond (.tmp 88) (.seq (.region 23 R6_23 false) .ret) .skip)) (.seq (.region 24 R6_24 false) (.seq (.seq (.region 25 R6_25 false) (.cond (.tmp 107) (.seq (.region 26 R6_26 false) .ret) .skip)) (.seq (.region 27 R6_27 false) (.seq (.region 28 R6_28 false) (.seq (.seq (.region 29 R6_29 false) (.cond (.tmp 112) (.seq (.region 30 R6_30 false) .ret) .skip)) (.seq (.seq (.region 31 R6_31 false) (.cond (.tmp 115) (.seq (.region 32 R6_32 false) .ret) .skip)) (.seq (.region 33 R6_33 false) .ret))))))))))))))))))))))))) := by kernel_rfl
noncomputable def R8_0 : Array Oper := opsAt Try.f8 [0]
noncomputable def R8_1 : Array Oper := opsAt Try.f8 [1, 0]
noncomputable def R8_2 : Array Oper := opsAt Try.f8 [1, 1, 0]
noncomputable def R8_3 : Array Oper := opsAt Try.f8 [1, 1, 1, 0, 0]
noncomputable def R8_4 : Array Oper := opsAt Try.f8 [1, 1, 1, 0, 1, 0, 0]
noncomputable def R8_5 : Array Oper := opsAt Try.f8 [1, 1, 1, 1, 0]
noncomputable def R8_6 : Array Oper := opsAt Try.f8 [1, 1, 1, 1, 1, 0]
noncomputable def R8_7 : Array Oper := opsAt Try.f8 [1, 1, 1, 1, 1, 1, 0]
noncomputable def R8_8 : Array Oper := opsAt Try.f8 [1, 1, 1, 1, 1, 1, 1, 0, 0]
noncomputable def R8_9 : Array Oper := opsAt Try.f8 [1, 1, 1, 1, 1, 1, 1, 0, 1, 0, 0]
noncomputable def R8_10 : Array Oper := opsAt Try.f8 [1, 1, 1, 1, 1, 1, 1, 1, 0, 0]
noncomputable def R8_11 : Array Oper := opsAt Try.f8 [1, 1, 1, 1, 1, 1, 1, 1, 0, 1, 0, 0]
noncomputable def R8_12 : Array Oper := opsAt Try.f8 [1, 1, 1, 1, 1, 1, 1, 1, 1, 0]
noncomputable def R8_13 : Array Oper := opsAt Try.f8 [1, 1, 1, 1, 1, 1, 1, 1, 1, 1, 0]
noncomputable def R8_14 : Array Oper := opsAt Try.f8 [1, 1, 1, 1, 1, 1, 1, 1, 1, 1, 1, 0, 0]
noncomputable def R8_15 : Array Oper := opsAt Try.f8 [1, 1, 1, 1, 1, 1, 1, 1, 1, 1, 1, 0, 1, 0, 0]
noncomputable def R8_16 : Array Oper := opsAt Try.f8 [1, 1, 1, 1, 1, 1, 1, 1, 1, 1, 1, 1, 0]
noncomputable def R8_17 : Array Oper := opsAt Try.f8 [1, 1, 1, 1, 1, 1, 1, 1, 1, 1, 1, 1, 1, 0]
noncomputable def R8_18 : Array Oper := opsAt Try.f8 [1, 1, 1, 1, 1, 1, 1, 1, 1, 1, 1, 1, 1, 1, 0]
noncomputable def R8_19 : Array Oper := opsAt Try.f8 [1, 1, 1, 1, 1, 1, 1, 1, 1, 1, 1, 1, 1, 1, 1, 0]
noncomputable def R8_20 : Array Oper := opsAt Try.f8 [1, 1, 1, 1, 1, 1, 1, 1, 1, 1, 1, 1, 1, 1, 1, 1, 0, 0]
noncomputable def R8_21 : Array Oper := opsAt Try.f8 [1, 1, 1, 1, 1, 1, 1, 1, 1, 1, 1, 1, 1, 1, 1, 1, 0, 1, 0, 0]
noncomputable def R8_22 : Array Oper := opsAt Try.f8 [1, 1, 1, 1, 1, 1, 1, 1, 1, 1, 1, 1, 1, 1, 1, 1, 1, 0, 0]
noncomputable def R8_23 : Array Oper := opsAt Try.f8 [1, 1, 1, 1, 1, 1, 1, 1, 1, 1, 1, 1, 1, 1, 1, 1, 1, 0, 1, 0, 0]
noncomputable def R8_24 : Array Oper := opsAt Try.f8 [1, 1, 1, 1, 1, 1, 1, 1, 1, 1, 1, 1, 1, 1, 1, 1, 1, 1, 0]
noncomputable def R8_25 : Array Oper := opsAt Try.f8 [1, 1, 1, 1, 1, 1, 1, 1, 1, 1, 1, 1, 1, 1, 1, 1, 1, 1, 1, 0, 0]
noncomputable def R8_26 : Array Oper := opsAt Try.f8 [1, 1, 1, 1, 1, 1, 1, 1, 1, 1, 1, 1, 1, 1, 1, 1, 1, 1, 1, 0, 1, 0, 0]
noncomputable def R8_27 : Array Oper := opsAt Try.f8 [1, 1, 1, 1, 1, 1, 1, 1, 1, 1, 1, 1, 1, 1, 1, 1, 1, 1, 1, 1, 0]
noncomputable def R8_28 : Array Oper := opsAt Try.f8 [1, 1, 1, 1, 1, 1, 1, 1, 1, 1, 1, 1, 1, 1, 1, 1, 1, 1, 1, 1, 1, 0]
noncomputable def R8_29 : Array Oper := opsAt Try.f8 [1, 1, 1, 1, 1, 1, 1, 1, 1, 1, 1, 1, 1, 1, 1, 1, 1, 1, 1, 1, 1, 1, 0, 0]
noncomputable def R8_30 : Array Oper := opsAt Try.f8 [1, 1, 1, 1, 1, 1, 1, 1, 1, 1, 1, 1, 1, 1, 1, 1, 1, 1, 1, 1, 1, 1, 0, 1, 0, 0]
noncomputable def R8_31 : Array Oper := opsAt Try.f8 [1, 1, 1, 1, 1, 1, 1, 1, 1, 1, 1, 1, 1, 1, 1, 1, 1, 1, 1, 1, 1, 1, 1, 0, 0]
noncomputable def R8_32 : Array Oper := opsAt Try.f8 [1, 1, 1, 1, 1, 1, 1, 1, 1, 1, 1, 1, 1, 1, 1, 1, 1, 1, 1, 1, 1, 1, 1, 0, 1, 0, 0]
noncomputable def R8_33 : Array Oper := opsAt Try.f8 [1, 1, 1, 1, 1, 1, 1, 1, 1, 1, 1, 1, 1, 1, 1, 1, 1, 1, 1, 1, 1, 1, 1, 1, 0]
theorem code8 : Try.f8.body = some (.seq (.region 0 R8_0 false) (.seq (.region 1 R8_1 false) (.seq (.region 2 R8_2 false) (.seq (.seq (.region 3 R8_3 false) (.cond (.tmp 20) (.seq (.region 4 R8_4 false) .ret) .skip)) (.seq (.region 5 R8_5 false) (.seq (.region 6 R8_6 false) (.seq (.region 7 R8_7 false) (.seq (.seq (.region 8 R8_8 false) (.cond (.tmp 44) (.seq (.region 9 R8_9 false) .ret) .skip)) (.seq (.seq (.region 10 R8_10 true) (.cond (.tmp 49) (.seq (.region 11 R8_11 false) .ret) .skip)) (.seq (.region 12 R8_12 false) (.seq (.region 13 R8_13 false) (.seq (.seq (.region 14 R8_14 false) (.cond (.tmp 65) (.seq (.region 15 R8_15 false) .ret) .skip)) (.seq (.region 16 R8_16 false) (.seq (.region 17 R8_17 false) (.seq (.region 18 R8_18 false) (.seq (.region 19 R8_19 false) (.seq (.seq (.region 20 R8_20 false) (.cond (.tmp 73) (.seq (.region 21 R8_21 false) .ret) .skip)) (.seq (.seq (.region 22 R8_22 false) (.cond (.tmp 76) (.seq (.region 23 R8_23 false) .ret) .skip)) (.seq (.region 24 R8_24 false) (.seq (.seq (.region 25 R8_25 false) (.cond (.tmp 92) (.seq (.region 26 R8_26 false) .ret) .skip)) (.seq (.region 27 R8_27 false) (.seq (.region 28 R8_28 false) (.seq (.seq (.region 29 R8_29 false) (.cond (.tmp 97) (.seq (.region 30 R8_30 false) .ret) .skip)) (.seq (.seq (.region 31 R8_31 false) (.cond (.tmp 100) (.seq (.region 32 R8_32 false) .ret) .skip)) (.seq (.region 33 R8_33 false) .ret))))))))))))))))))))))))) := by kernel_rfl
noncomputable def R9_0 : Array Oper := opsAt Try.f9 [0]
noncomputable def R9_1 : Array Oper := opsAt Try.f9 [1, 0]
noncomputable def R9_2 : Array Oper := opsAt Try.f9 [1, 1, 0]
noncomputable def R9_3 : Array Oper := opsAt Try.f9 [1, 1, 1, 0, 0]
noncomputable def R9_4 : Array Oper := opsAt Try.f9 [1, 1, 1, 0, 1, 0, 0]
noncomputable def R9_5 : Array Oper := opsAt Try.f9 [1, 1, 1, 1, 0]
noncomputable def R9_6 : Array Oper := opsAt Try.f9 [1, 1, 1, 1, 1, 0, 0]
noncomputable def R9_7 : Array Oper := opsAt Try.f9 [1, 1, 1, 1, 1, 0, 1, 0, 0]
noncomputable def R9_8 : Array Oper := opsAt Try.f9 [1, 1, 1, 1, 1, 1, 0]
noncomputable def R9_9 : Array Oper := opsAt Try.f9 [1, 1, 1, 1, 1, 1, 1, 0]
noncomputable def R9_10 : Array Oper := opsAt Try.f9 [1, 1, 1, 1, 1, 1, 1, 1, 0]
noncomputable def R9_11 : Array Oper := opsAt Try.f9 [1, 1, 1, 1, 1, 1, 1, 1, 1, 0]
noncomputable def R9_12 : Array Oper := opsAt Try.f9 [1, 1, 1, 1, 1, 1, 1, 1, 1, 1, 0, 0]
noncomputable def R9_13 : Array Oper := opsAt Try.f9 [1, 1, 1, 1, 1, 1, 1, 1, 1, 1, 0, 1, 0, 0]
noncomputable def R9_14 : Array Oper := opsAt Try.f9 [1, 1, 1, 1, 1, 1, 1, 1, 1, 1, 1, 0, 0]
noncomputable def R9_15 : Array Oper := opsAt Try.f9 [1, 1, 1, 1, 1, 1, 1, 1, 1, 1, 1, 0, 1, 0, 0]
noncomputable def R9_16 : Array Oper := opsAt Try.f9 [1, 1, 1, 1, 1, 1, 1, 1, 1, 1, 1, 1, 0, 0]
noncomputable def R9_17 : Array Oper := opsAt Try.f9 [1, 1, 1, 1, 1, 1, 1, 1, 1, 1, 1, 1, 0, 1, 0, 0]
noncomputable def R9_18 : Array Oper := opsAt Try.f9 [1, 1, 1, 1, 1, 1, 1, 1, 1, 1, 1, 1, 1, 0]
noncomputable def R9_19 : Array Oper := opsAt Try.f9 [1, 1, 1, 1, 1, 1, 1, 1, 1, 1, 1, 1, 1, 1, 0]
noncomputable def R9_20 : Array Oper := opsAt Try.f9 [1, 1, 1, 1, 1, 1, 1, 1, 1, 1, 1, 1, 1, 1, 1, 0]
noncomputable def R9_21 : Array Oper := opsAt Try.f9 [1, 1, 1, 1, 1, 1, 1, 1, 1, 1, 1, 1, 1, 1, 1, 1, 0, 0]
noncomputable def R9_22 : Array Oper := opsAt Try.f9 [1, 1, 1, 1, 1, 1, 1, 1, 1, 1, 1, 1, 1, 1, 1, 1, 0, 1, 0, 0]
noncomputable def R9_23 : Array Oper := opsAt Try.f9 [1, 1, 1, 1, 1, 1, 1, 1, 1, 1, 1, 1, 1, 1, 1, 1, 1, 0]
noncomputable def R9_24 : Array Oper := opsAt Try.f9 [1, 1, 1, 1, 1, 1, 1, 1, 1, 1, 1, 1, 1, 1, 1, 1, 1, 1, 0]
noncomputable def R9_25 : Array Oper := opsAt Try.f9 [1, 1, 1, 1, 1, 1, 1, 1, 1, 1, 1, 1, 1, 1, 1, 1, 1, 1, 1, 0]
noncomputable def R9_26 : Array Oper := opsAt Try.f9 [1, 1, 1, 1, 1, 1, 1, 1, 1, 1, 1, 1, 1, 1, 1, 1, 1, 1, 1, 1, 0]
noncomputable def R9_27 : Array Oper := opsAt Try.f9 [1, 1, 1, 1, 1, 1, 1, 1, 1, 1, 1, 1, 1, 1, 1, 1, 1, 1, 1, 1, 1, 0, 0]
noncomputable def R9_28 : Array Oper := opsAt Try.f9 [1, 1, 1, 1, 1, 1, 1, 1, 1, 1, 1, 1, 1, 1, 1, 1, 1, 1, 1, 1, 1, 0, 1, 0, 0]
noncomputable def R9_29 : Array Oper := opsAt Try.f9 [1, 1, 1, 1, 1, 1, 1, 1, 1, 1, 1, 1, 1, 1, 1, 1, 1, 1, 1, 1, 1, 1, 0, 0]
noncomputable def R9_30 : Array Oper := opsAt Try.f9 [1, 1, 1, 1, 1, 1, 1, 1, 1, 1, 1, 1, 1, 1, 1, 1, 1, 1, 1, 1, 1, 1, 0, 1, 0, 0]
noncomputable def R9_31 : Array Oper := opsAt Try.f9 [1, 1, 1, 1, 1, 1, 1, 1, 1, 1, 1, 1, 1, 1, 1, 1, 1, 1, 1, 1, 1, 1, 1, 0]
noncomputable def R9_32 : Array Oper := opsAt Try.f9 [1, 1, 1, 1, 1, 1, 1, 1, 1, 1, 1, 1, 1, 1, 1, 1, 1, 1, 1, 1, 1, 1, 1, 1, 0, 0]
noncomputable def R9_33 : Array Oper := opsAt Try.f9 [1, 1, 1, 1, 1, 1, 1, 1, 1, 1, 1, 1, 1, 1, 1, 1, 1, 1, 1, 1, 1, 1, 1, 1, 0, 1, 0, 0]
noncomputable def R9_34 : Array Oper := opsAt Try.f9 [1, 1, 1, 1, 1, 1, 1, 1, 1, 1, 1, 1, 1, 1, 1, 1, 1, 1, 1, 1, 1, 1, 1, 1, 1, 0]
noncomputable def R9_35 : Array Oper := opsAt Try.f9 [1, 1, 1, 1, 1, 1, 1, 1, 1, 1, 1, 1, 1, 1, 1, 1, 1, 1, 1, 1, 1, 1, 1, 1, 1, 1, 0]
noncomputable def R9_36 : Array Oper := opsAt Try.f9 [1, 1, 1, 1, 1, 1, 1, 1, 1, 1, 1, 1, 1, 1, 1, 1, 1, 1, 1, 1, 1, 1, 1, 1, 1, 1, 1, 0, 0]
noncomputable def R9_37 : Array Oper := opsAt Try.f9 [1, 1, 1, 1, 1, 1, 1, 1, 1, 1, 1, 1, 1, 1, 1, 1, 1, 1, 1, 1, 1, 1, 1, 1, 1, 1, 1, 0, 1, 0, 0]
noncomputable def R9_38 : Array Oper := opsAt Try.f9 [1, 1, 1, 1, 1, 1, 1, 1, 1, 1, 1, 1, 1, 1, 1, 1, 1, 1, 1, 1, 1, 1, 1, 1, 1, 1, 1, 1, 0, 0]
noncomputable def R9_39 : Array Oper := opsAt Try.f9 [1, 1, 1, 1, 1, 1, 1, 1, 1, 1, 1, 1, 1, 1, 1, 1, 1, 1, 1, 1, 1, 1, 1, 1, 1, 1, 1, 1, 0, 1, 0, 0]
noncomputable def R9_40 : Array Oper := opsAt Try.f9 [1, 1, 1, 1, 1, 1, 1, 1, 1, 1, 1, 1, 1, 1, 1, 1, 1, 1, 1, 1, 1, 1, 1, 1, 1, 1, 1, 1, 1, 0]
theorem code9 : Try.f9.body = some (.seq (.region 0 R9_0 false) (.seq (.region 1 R9_1 false) (.seq (.region 2 R9_2 false) (.seq (.seq (.region 3 R9_3 false) (.cond (.tmp 23) (.seq (.region 4 R9_4 false) .ret) .skip)) (.seq (.region 5 R9_5 false) (.seq (.seq (.region 6 R9_6 false) (.cond (.tmp 28) (.seq (.region 7 R9_7 false) .ret) .skip)) (.seq (.region 8 R9_8 true) (.seq (.region 9 R9_9 false) (.seq (.region 10 R9_10 false) (.seq (.region 11 R9_11 false) (.seq (.seq (.region 12 R9_12 false) (.cond (.tmp 57) (.seq (.region 13 R9_13 false) .ret) .skip)) (.seq (.seq (.region 14 R9_14 true) (.cond (.tmp 62) (.seq (.region 15 R9_15 false) .ret) .skip)) (.seq (.seq (.region 16 R9_16 true) (.cond (.tmp 67) (.seq (.region 17 R9_17 false) .ret) .skip)) (.seq (.region 18 R9_18 false) (.seq (.region 19 R9_19 false) (.seq (.region 20 R9_20 false) (.seq (.seq (.region 21 R9_21 false) (.cond (.tmp 86) (.seq (.region 22 R9_22 false) .ret) .skip)) (.seq (.region 23 R9_23 false) (.seq (.region 24 R9_24 false) (.seq (.region 25 R9_25 false) (.seq (.region 26 R9_26 false) (.seq (.seq (.region 27 R9_27 false) (.cond (.tmp 94) (.seq (.region 28 R9_28 false) .ret) .skip)) (.seq (.seq (.region 29 R9_29 false) (.cond (.tmp 97) (.seq (.region 30 R9_30 false) .ret) .skip)) (.seq (.region 31 R9_31 true) (.seq (.seq (.region 32 R9_32 false) (.cond (.tmp 115) (.seq (.region 33 R9_33 false) .ret) .skip)) (.seq (.region 34 R9_34 false) (.seq (.region 35 R9_35 false) (.seq (.seq (.region 36 R9_36 false) (.cond (.tmp 120) (.seq (.region 37 R9_37 false) .ret) .skip)) (.seq (.seq (.region 38 R9_38 false) (.cond (.tmp 123) (.seq (.region 39 R9_39 false) .ret) .skip)) (.seq (.region 40 R9_40 false) .ret)))))))))))))))))))))))))))))) := by kernel_rfl
noncomputable def R12_0 : Array Oper := opsAt Try.f12 [0]
noncomputable def R12_1 : Array Oper := opsAt Try.f12 [1, 0]
noncomputable def R12_2 : Array Oper := opsAt Try.f12 [1, 1, 0, 0]
noncomputable def R12_3 : Array Oper := opsAt Try.f12 [1, 1, 0, 1, 0, 0]
noncomputable def R12_4 : Array Oper := opsAt Try.f12 [1, 1, 1, 0]
theorem code12 : Try.f12.body = some (.seq (.region 0 R12_0 false) (.seq (.region 1 R12_1 false) (.seq (.seq (.region 2 R12_2 false) (.cond (.tmp 10) (.seq (.region 3 R12_3 false) .ret) .skip)) (.seq (.region 4 R12_4 false) .ret)))) := by kernel_rfl
noncomputable def R14_0 : Array Oper := opsAt Try.f14 [0]
noncomputable def R14_1 : Array Oper := opsAt Try.f14 [1, 0]
noncomputable def R14_2 : Array Oper := opsAt Try.f14 [1, 1, 0]
noncomputable def R14_3 : Array Oper := opsAt Try.f14 [1, 1, 1, 0]
noncomputable def R14_4 : Array Oper := opsAt Try.f14 [1, 1, 1, 1, 0]
noncomputable def R14_5 : Array Oper := opsAt Try.f14 [1, 1, 1, 1, 1, 0]
theorem code14 : Try.f14.body = some (.seq (.region 0 R14_0 false) (.seq (.region 1 R14_1 false) (.seq (.region 2 R14_2 false) (.seq (.region 3 R14_3 false) (.seq (.region 4 R14_4 false) (.seq (.region 5 R14_5 false) .ret)))))) := by kernel_rfl
noncomputable def R16_0 : Array Oper := opsAt Try.f16 [0]
noncomputable def R16_1 : Array Oper := opsAt Try.f16 [1, 0, 0]
noncomputable def R16_2 : Array Oper := opsAt Try.f16 [1, 0, 1, 0, 0]
noncomputable def R16_3 : Array Oper := opsAt Try.f16 [1, 1, 0, 0]
noncomputable def R16_4 : Array Oper := opsAt Try.f16 [1, 1, 0, 1, 0, 0]
noncomputable def R16_5 : Array Oper := opsAt Try.f16 [1, 1, 1, 0, 0]
noncomputable def R16_6 : Array Oper := opsAt Try.f16 [1, 1, 1, 0, 1, 0, 0]
noncomputable def R16_7 : Array Oper := opsAt Try.f16 [1, 1, 1, 1, 0]
theorem code16 : Try.f16.body = some (.seq (.region 0 R16_0 false) (.seq (.seq (.region 1 R16_1 false) (.cond (.tmp 9) (.seq (.region 2 R16_2 false) .ret) .skip)) (.seq (.seq (.region 3 R16_3 false) (.cond (.tmp 14) (.seq (.region 4 R16_4 false) .ret) .skip)) (.seq (.seq (.region 5 R16_5 false) (.cond (.tmp 20) (.seq (.region 6 R16_6 false) .ret) .skip)) (.seq (.region 7 R16_7 false) .ret))))) := by kernel_rfl
noncomputable def R17_0 : Array Oper := opsAt Try.f17 [0]
noncomputable def R17_1 : Array Oper := opsAt Try.f17 [1, 0]
noncomputable def R17_2 : Array Oper := opsAt Try.f17 [1, 1, 0]
theorem code17 : Try.f17.body = some (.seq (.region 0 R17_0 false) (.seq (.region 1 R17_1 false) (.seq (.region 2 R17_2 false) .ret))) := by kernel_rfl
noncomputable def R18_0 : Array Oper := opsAt Try.f18 [0]
noncomputable def R18_1 : Array Oper := opsAt Try.f18 [1, 0]
noncomputable def R18_2 : Array Oper := opsAt Try.f18 [1, 1, 0, 0]
noncomputable def R18_3 : Array Oper := opsAt Try.f18 [1, 1, 0, 1, 0, 0]
noncomputable def R18_4 : Array Oper := opsAt Try.f18 [1, 1, 1, 0]
theorem code18 : Try.f18.body = some (.seq (.region 0 R18_0 false) (.seq (.region 1 R18_1 false) (.seq (.seq (.region 2 R18_2 false) (.cond (.tmp 10) (.seq (.region 3 R18_3 false) .ret) .skip)) (.seq (.region 4 R18_4 false) .ret)))) := by kernel_rfl
noncomputable def R19_0 : Array Oper := opsAt Try.f19 [0]
noncomputable def R19_1 : Array Oper := opsAt Try.f19 [1, 0, 0]
noncomputable def R19_2 : Array Oper := opsAt Try.f19 [1, 0, 1, 0, 0]
noncomputable def R19_3 : Array Oper := opsAt Try.f19 [1, 1, 0]
noncomputable def R19_4 : Array Oper := opsAt Try.f19 [1, 1, 1, 0, 0]
noncomputable def R19_5 : Array Oper := opsAt Try.f19 [1, 1, 1, 0, 1, 0, 0, 0, 0]
noncomputable def R19_7 : Array Oper := opsAt Try.f19 [1, 1, 1, 0, 1, 0, 0, 1, 0, 0, 0]
noncomputable def R19_8 : Array Oper := opsAt Try.f19 [1, 1, 1, 0, 1, 0, 0, 1, 0, 0, 1, 0]
noncomputable def R19_6 : Array Oper := opsAt Try.f19 [1, 1, 1, 0, 1, 0, 0, 1, 1]
noncomputable def L19_0 : Code := .seq (.seq (.region 5 R19_5 false) (.cond (.tmp 19) .skip (.exit 0))) (.seq (.block 1 (.seq (.region 7 R19_7 false) (.cond (.tmp 27) (.region 8 R19_8 true) .skip))) (.region 6 R19_6 false))
noncomputable def R19_9 : Array Oper := opsAt Try.f19 [1, 1, 1, 1, 0]
theorem code19 : Try.f19.body = some (.seq (.region 0 R19_0 false) (.seq (.seq (.region 1 R19_1 false) (.cond (.tmp 11) (.seq (.region 2 R19_2 false) .ret) .skip)) (.seq (.region 3 R19_3 false) (.seq (.seq (.region 4 R19_4 false) (.block 0 (.loop L19_0))) (.seq (.region 9 R19_9 false) .ret))))) := by kernel_rfl
noncomputable def R20_0 : Array Oper := opsAt Try.f20 [0]
noncomputable def R20_1 : Array Oper := opsAt Try.f20 [1, 0]
theorem code20 : Try.f20.body = some (.seq (.region 0 R20_0 false) (.seq (.region 1 R20_1 false) .ret)) := by kernel_rfl
noncomputable def R21_0 : Array Oper := opsAt Try.f21 [0]
noncomputable def R21_1 : Array Oper := opsAt Try.f21 [1, 0, 0]
noncomputable def R21_2 : Array Oper := opsAt Try.f21 [1, 0, 1, 0, 0]
noncomputable def R21_3 : Array Oper := opsAt Try.f21 [1, 1, 0]
noncomputable def R21_4 : Array Oper := opsAt Try.f21 [1, 1, 1, 0, 0]
noncomputable def R21_5 : Array Oper := opsAt Try.f21 [1, 1, 1, 0, 1, 0, 0, 0, 0]
noncomputable def R21_7 : Array Oper := opsAt Try.f21 [1, 1, 1, 0, 1, 0, 0, 1, 0, 0, 0]
noncomputable def R21_8 : Array Oper := opsAt Try.f21 [1, 1, 1, 0, 1, 0, 0, 1, 0, 0, 1, 0]
noncomputable def R21_6 : Array Oper := opsAt Try.f21 [1, 1, 1, 0, 1, 0, 0, 1, 1]
noncomputable def L21_0 : Code := .seq (.seq (.region 5 R21_5 false) (.cond (.tmp 19) .skip (.exit 0))) (.seq (.block 1 (.seq (.region 7 R21_7 false) (.cond (.tmp 35) (.region 8 R21_8 false) .skip))) (.region 6 R21_6 false))
noncomputable def R21_9 : Array Oper := opsAt Try.f21 [1, 1, 1, 1, 0]
theorem code21 : Try.f21.body = some (.seq (.region 0 R21_0 false) (.seq (.seq (.region 1 R21_1 false) (.cond (.tmp 11) (.seq (.region 2 R21_2 false) .ret) .skip)) (.seq (.region 3 R21_3 false) (.seq (.seq (.region 4 R21_4 false) (.block 0 (.loop L21_0))) (.seq (.region 9 R21_9 false) .ret))))) := by kernel_rfl
noncomputable def R22_0 : Array Oper := opsAt Try.f22 [0]
noncomputable def R22_1 : Array Oper := opsAt Try.f22 [1, 0]
theorem code22 : Try.f22.body = some (.seq (.region 0 R22_0 false) (.seq (.region 1 R22_1 false) .ret)) := by kernel_rfl
noncomputable def R23_0 : Array Oper := opsAt Try.f23 [0]
noncomputable def R23_1 : Array Oper := opsAt Try.f23 [1, 0, 0]
noncomputable def R23_2 : Array Oper := opsAt Try.f23 [1, 0, 1, 0, 0]
noncomputable def R23_3 : Array Oper := opsAt Try.f23 [1, 1, 0]
noncomputable def R23_4 : Array Oper := opsAt Try.f23 [1, 1, 1, 0, 0]
noncomputable def R23_5 : Array Oper := opsAt Try.f23 [1, 1, 1, 0, 1, 0, 0, 0, 0]
noncomputable def R23_7 : Array Oper := opsAt Try.f23 [1, 1, 1, 0, 1, 0, 0, 1, 0, 0, 0]
noncomputable def R23_8 : Array Oper := opsAt Try.f23 [1, 1, 1, 0, 1, 0, 0, 1, 0, 0, 1, 0, 0, 0, 0]
noncomputable def R23_10 : Array Oper := opsAt Try.f23 [1, 1, 1, 0, 1, 0, 0, 1, 0, 0, 1, 0, 0, 1, 0, 0]
noncomputable def R23_9 : Array Oper := opsAt Try.f23 [1, 1, 1, 0, 1, 0, 0, 1, 0, 0, 1, 0, 0, 1, 1]
noncomputable def L23_1 : Code := .seq (.seq (.region 8 R23_8 false) (.cond (.tmp 55) .skip (.exit 2))) (.seq (.block 3 (.region 10 R23_10 true)) (.region 9 R23_9 false))
noncomputable def R23_6 : Array Oper := opsAt Try.f23 [1, 1, 1, 0, 1, 0, 0, 1, 1]
noncomputable def L23_0 : Code := .seq (.seq (.region 5 R23_5 false) (.cond (.tmp 50) .skip (.exit 0))) (.seq (.block 1 (.seq (.region 7 R23_7 false) (.block 2 (.loop L23_1)))) (.region 6 R23_6 false))
noncomputable def R23_11 : Array Oper := opsAt Try.f23 [1, 1, 1, 1, 0]
theorem code23 : Try.f23.body = some (.seq (.region 0 R23_0 false) (.seq (.seq (.region 1 R23_1 false) (.cond (.tmp 43) (.seq (.region 2 R23_2 false) .ret) .skip)) (.seq (.region 3 R23_3 false) (.seq (.seq (.region 4 R23_4 false) (.block 0 (.loop L23_0))) (.seq (.region 11 R23_11 false) .ret))))) := by kernel_rfl
noncomputable def R24_0 : Array Oper := opsAt Try.f24 [0]
noncomputable def R24_1 : Array Oper := opsAt Try.f24 [1, 0, 0]
noncomputable def R24_2 : Array Oper := opsAt Try.f24 [1, 0, 1, 0, 0]
noncomputable def R24_3 : Array Oper := opsAt Try.f24 [1, 1, 0]
theorem code24 : Try.f24.body = some (.seq (.region 0 R24_0 false) (.seq (.seq (.region 1 R24_1 false) (.cond (.tmp 43) (.seq (.region 2 R24_2 false) .ret) .skip)) (.seq (.region 3 R24_3 false) .ret))) := by kernel_rfl
noncomputable def R27_0 : Array Oper := opsAt Try.f27 [0]
noncomputable def R27_1 : Array Oper := opsAt Try.f27 [1, 0]
noncomputable def R27_2 : Array Oper := opsAt Try.f27 [1, 1, 0, 0]
noncomputable def R27_3 : Array Oper := opsAt Try.f27 [1, 1, 0, 1, 0, 0]
noncomputable def R27_4 : Array Oper := opsAt Try.f27 [1, 1, 1, 0, 0]
noncomputable def R27_5 : Array Oper := opsAt Try.f27 [1, 1, 1, 0, 1, 0, 0, 0, 0]
noncomputable def R27_7 : Array Oper := opsAt Try.f27 [1, 1, 1, 0, 1, 0, 0, 1, 0, 0, 0]
noncomputable def R27_8 : Array Oper := opsAt Try.f27 [1, 1, 1, 0, 1, 0, 0, 1, 0, 0, 1, 0, 0, 0, 0]
noncomputable def R27_10 : Array Oper := opsAt Try.f27 [1, 1, 1, 0, 1, 0, 0, 1, 0, 0, 1, 0, 0, 1, 0, 0, 0]
noncomputable def R27_11 : Array Oper := opsAt Try.f27 [1, 1, 1, 0, 1, 0, 0, 1, 0, 0, 1, 0, 0, 1, 0, 0, 1, 0]
noncomputable def R27_12 : Array Oper := opsAt Try.f27 [1, 1, 1, 0, 1, 0, 0, 1, 0, 0, 1, 0, 0, 1, 0, 0, 1, 1, 0]
noncomputable def R27_13 : Array Oper := opsAt Try.f27 [1, 1, 1, 0, 1, 0, 0, 1, 0, 0, 1, 0, 0, 1, 0, 0, 1, 1, 1, 0]
noncomputable def R27_9 : Array Oper := opsAt Try.f27 [1, 1, 1, 0, 1, 0, 0, 1, 0, 0, 1, 0, 0, 1, 1]
noncomputable def L27_1 : Code := .seq (.seq (.region 8 R27_8 false) (.cond (.tmp 30) .skip (.exit 2))) (.seq (.block 3 (.seq (.region 10 R27_10 false) (.seq (.region 11 R27_11 false) (.seq (.region 12 R27_12 false) (.cond (.tmp 68) (.region 13 R27_13 false) .skip))))) (.region 9 R27_9 false))
noncomputable def R27_6 : Array Oper := opsAt Try.f27 [1, 1, 1, 0, 1, 0, 0, 1, 1]
noncomputable def L27_0 : Code := .seq (.seq (.region 5 R27_5 false) (.cond (.tmp 24) .skip (.exit 0))) (.seq (.block 1 (.seq (.region 7 R27_7 false) (.block 2 (.loop L27_1)))) (.region 6 R27_6 false))
noncomputable def R27_14 : Array Oper := opsAt Try.f27 [1, 1, 1, 1, 0]
theorem code27 : Try.f27.body = some (.seq (.region 0 R27_0 false) (.seq (.region 1 R27_1 false) (.seq (.seq (.region 2 R27_2 false) (.cond (.tmp 19) (.seq (.region 3 R27_3 false) .ret) .skip)) (.seq (.seq (.region 4 R27_4 false) (.block 0 (.loop L27_0))) (.seq (.region 14 R27_14 false) .ret))))) := by kernel_rfl
noncomputable def R28_0 : Array Oper := opsAt Try.f28 [0]
noncomputable def R28_1 : Array Oper := opsAt Try.f28 [1, 0, 0]
noncomputable def R28_2 : Array Oper := opsAt Try.f28 [1, 0, 1, 0, 0]
noncomputable def R28_3 : Array Oper := opsAt Try.f28 [1, 1, 0]
noncomputable def R28_4 : Array Oper := opsAt Try.f28 [1, 1, 1, 0, 0]
noncomputable def R28_5 : Array Oper := opsAt Try.f28 [1, 1, 1, 0, 1, 0, 0, 0]
noncomputable def R28_6 : Array Oper := opsAt Try.f28 [1, 1, 1, 0, 1, 0, 0, 1, 1, 0, 0, 0]
noncomputable def R28_7 : Array Oper := opsAt Try.f28 [1, 1, 1, 0, 1, 0, 0, 1, 1, 0, 0, 1, 0]
noncomputable def R28_8 : Array Oper := opsAt Try.f28 [1, 1, 1, 0, 1, 0, 0, 1, 1, 0, 0, 1, 1, 0]
noncomputable def R28_9 : Array Oper := opsAt Try.f28 [1, 1, 1, 0, 1, 0, 0, 1, 1, 0, 0, 1, 1, 1, 0, 0]
noncomputable def R28_10 : Array Oper := opsAt Try.f28 [1, 1, 1, 0, 1, 0, 0, 1, 1, 0, 0, 1, 1, 1, 0, 1, 0, 0, 0]
noncomputable def R28_11 : Array Oper := opsAt Try.f28 [1, 1, 1, 0, 1, 0, 0, 1, 1, 0, 0, 1, 1, 1, 0, 1, 0, 0, 1, 1, 0, 0, 0]
noncomputable def R28_12 : Array Oper := opsAt Try.f28 [1, 1, 1, 0, 1, 0, 0, 1, 1, 0, 0, 1, 1, 1, 0, 1, 0, 0, 1, 1, 0, 0, 1, 0]
noncomputable def R28_13 : Array Oper := opsAt Try.f28 [1, 1, 1, 0, 1, 0, 0, 1, 1, 0, 0, 1, 1, 1, 0, 1, 0, 0, 1, 1, 0, 0, 1, 1, 0]
noncomputable def R28_14 : Array Oper := opsAt Try.f28 [1, 1, 1, 0, 1, 0, 0, 1, 1, 0, 0, 1, 1, 1, 0, 1, 0, 0, 1, 1, 1]
noncomputable def L28_1 : Code := .seq (.region 10 R28_10 false) (.seq (.cond (.tmp 45) .skip (.exit 2)) (.seq (.block 3 (.seq (.region 11 R28_11 false) (.seq (.region 12 R28_12 false) (.cond (.tmp 50) (.region 13 R28_13 false) .skip)))) (.region 14 R28_14 false)))
noncomputable def R28_15 : Array Oper := opsAt Try.f28 [1, 1, 1, 0, 1, 0, 0, 1, 1, 0, 0, 1, 1, 1, 1, 0]
noncomputable def R28_16 : Array Oper := opsAt Try.f28 [1, 1, 1, 0, 1, 0, 0, 1, 1, 0, 0, 1, 1, 1, 1, 1, 0]
noncomputable def R28_17 : Array Oper := opsAt Try.f28 [1, 1, 1, 0, 1, 0, 0, 1, 1, 1]
noncomputable def L28_0 : Code := .seq (.region 5 R28_5 false) (.seq (.cond (.tmp 26) .skip (.exit 0)) (.seq (.block 1 (.seq (.region 6 R28_6 false) (.seq (.region 7 R28_7 true) (.seq (.region 8 R28_8 false) (.seq (.seq (.region 9 R28_9 false) (.block 2 (.loop L28_1))) (.seq (.region 15 R28_15 false) (.cond (.tmp 59) (.region 16 R28_16 false) .skip))))))) (.region 17 R28_17 false)))
noncomputable def R28_18 : Array Oper := opsAt Try.f28 [1, 1, 1, 1, 0]
theorem code28 : Try.f28.body = some (.seq (.region 0 R28_0 false) (.seq (.seq (.region 1 R28_1 false) (.cond (.tmp 21) (.seq (.region 2 R28_2 false) .ret) .skip)) (.seq (.region 3 R28_3 false) (.seq (.seq (.region 4 R28_4 false) (.block 0 (.loop L28_0))) (.seq (.region 18 R28_18 false) .ret))))) := by kernel_rfl
noncomputable def R29_0 : Array Oper := opsAt Try.f29 [0]
noncomputable def R29_1 : Array Oper := opsAt Try.f29 [1, 0, 0]
noncomputable def R29_2 : Array Oper := opsAt Try.f29 [1, 0, 1, 0, 0]
noncomputable def R29_3 : Array Oper := opsAt Try.f29 [1, 1, 0, 0]
noncomputable def R29_4 : Array Oper := opsAt Try.f29 [1, 1, 0, 1, 0, 0, 0, 0]
noncomputable def R29_6 : Array Oper := opsAt Try.f29 [1, 1, 0, 1, 0, 0, 1, 0, 0, 0]
noncomputable def R29_7 : Array Oper := opsAt Try.f29 [1, 1, 0, 1, 0, 0, 1, 0, 0, 1, 0, 0]
noncomputable def R29_5 : Array Oper := opsAt Try.f29 [1, 1, 0, 1, 0, 0, 1, 1]
noncomputable def L29_0 : Code := .seq (.seq (.region 4 R29_4 false) (.cond (.tmp 14) .skip (.exit 0))) (.seq (.block 1 (.seq (.region 6 R29_6 true) (.cond (.tmp 26) (.seq (.region 7 R29_7 false) .ret) .skip))) (.region 5 R29_5 false))
noncomputable def R29_8 : Array Oper := opsAt Try.f29 [1, 1, 1, 0]
theorem code29 : Try.f29.body = some (.seq (.region 0 R29_0 false) (.seq (.seq (.region 1 R29_1 false) (.cond (.tmp 10) (.seq (.region 2 R29_2 false) .ret) .skip)) (.seq (.seq (.region 3 R29_3 false) (.block 0 (.loop L29_0))) (.seq (.region 8 R29_8 false) .ret)))) := by kernel_rfl
noncomputable def R30_0 : Array Oper := opsAt Try.f30 [0]
noncomputable def R30_1 : Array Oper := opsAt Try.f30 [1, 0, 0]
noncomputable def R30_2 : Array Oper := opsAt Try.f30 [1, 0, 1, 0, 0, 0, 0]
noncomputable def R30_4 : Array Oper := opsAt Try.f30 [1, 0, 1, 0, 0, 1, 0, 0]
noncomputable def R30_3 : Array Oper := opsAt Try.f30 [1, 0, 1, 0, 0, 1, 1]
noncomputable def L30_0 : Code := .seq (.seq (.region 2 R30_2 false) (.cond (.tmp 9) .skip (.exit 0))) (.seq (.block 1 (.region 4 R30_4 false)) (.region 3 R30_3 false))
noncomputable def R30_5 : Array Oper := opsAt Try.f30 [1, 1, 0]
theorem code30 : Try.f30.body = some (.seq (.region 0 R30_0 false) (.seq (.seq (.region 1 R30_1 false) (.block 0 (.loop L30_0))) (.seq (.region 5 R30_5 false) .ret))) := by kernel_rfl
noncomputable def R31_0 : Array Oper := opsAt Try.f31 [0]
noncomputable def R31_1 : Array Oper := opsAt Try.f31 [1, 0, 0]
noncomputable def R31_2 : Array Oper := opsAt Try.f31 [1, 0, 1, 0, 0, 0, 0]
noncomputable def R31_4 : Array Oper := opsAt Try.f31 [1, 0, 1, 0, 0, 1, 0, 0, 0]
noncomputable def R31_5 : Array Oper := opsAt Try.f31 [1, 0, 1, 0, 0, 1, 0, 0, 1, 0]
noncomputable def R31_6 : Array Oper := opsAt Try.f31 [1, 0, 1, 0, 0, 1, 0, 0, 1, 1, 0, 0]
noncomputable def R31_3 : Array Oper := opsAt Try.f31 [1, 0, 1, 0, 0, 1, 1]
noncomputable def L31_0 : Code := .seq (.seq (.region 2 R31_2 false) (.cond (.tmp 9) .skip (.exit 0))) (.seq (.block 1 (.seq (.region 4 R31_4 false) (.seq (.region 5 R31_5 false) (.cond (.tmp 19) (.seq (.region 6 R31_6 false) .ret) .skip)))) (.region 3 R31_3 false))
noncomputable def R31_7 : Array Oper := opsAt Try.f31 [1, 1, 0]
theorem code31 : Try.f31.body = some (.seq (.region 0 R31_0 false) (.seq (.seq (.region 1 R31_1 false) (.block 0 (.loop L31_0))) (.seq (.region 7 R31_7 false) .ret))) := by kernel_rfl
noncomputable def R32_0 : Array Oper := opsAt Try.f32 [0]
noncomputable def R32_1 : Array Oper := opsAt Try.f32 [1, 0, 0]
noncomputable def R32_2 : Array Oper := opsAt Try.f32 [1, 0, 1, 0, 0]
noncomputable def R32_3 : Array Oper := opsAt Try.f32 [1, 1, 0]
theorem code32 : Try.f32.body = some (.seq (.region 0 R32_0 false) (.seq (.seq (.region 1 R32_1 false) (.cond (.tmp 16) (.seq (.region 2 R32_2 false) .ret) .skip)) (.seq (.region 3 R32_3 false) .ret))) := by kernel_rfl
noncomputable def R33_0 : Array Oper := opsAt Try.f33 [0]
noncomputable def R33_1 : Array Oper := opsAt Try.f33 [1, 0, 0]
noncomputable def R33_2 : Array Oper := opsAt Try.f33 [1, 0, 1, 0, 0]
noncomputable def R33_3 : Array Oper := opsAt Try.f33 [1, 1, 0]
theorem code33 : Try.f33.body = some (.seq (.region 0 R33_0 false) (.seq (.seq (.region 1 R33_1 false) (.cond (.tmp 10) (.seq (.region 2 R33_2 false) .ret) .skip)) (.seq (.region 3 R33_3 false) .ret))) := by kernel_rfl
noncomputable def R52_0 : Array Oper := opsAt Try.f52 [0]
noncomputable def R52_1 : Array Oper := opsAt Try.f52 [1, 0]
noncomputable def R52_2 : Array Oper := opsAt Try.f52 [1, 1, 0, 0]
noncomputable def R52_3 : Array Oper := opsAt Try.f52 [1, 1, 0, 1, 0, 0]
noncomputable def R52_4 : Array Oper := opsAt Try.f52 [1, 1, 1, 0]
theorem code52 : Try.f52.body = some (.seq (.region 0 R52_0 false) (.seq (.region 1 R52_1 false) (.seq (.seq (.region 2 R52_2 false) (.cond (.tmp 10) (.seq (.region 3 R52_3 false) .ret) .skip)) (.seq (.region 4 R52_4 false) .ret)))) := by kernel_rfl
noncomputable def R53_0 : Array Oper := opsAt Try.f53 [0]
noncomputable def R53_1 : Array Oper := opsAt Try.f53 [1, 0, 0]
noncomputable def R53_2 : Array Oper := opsAt Try.f53 [1, 0, 1, 0, 0]
noncomputable def R53_3 : Array Oper := opsAt Try.f53 [1, 1, 0, 0]
noncomputable def R53_4 : Array Oper := opsAt Try.f53 [1, 1, 0, 1, 0, 0, 0, 0]
noncomputable def R53_6 : Array Oper := opsAt Try.f53 [1, 1, 0, 1, 0, 0, 1, 0, 0, 0]
noncomputable def R53_7 : Array Oper := opsAt Try.f53 [1, 1, 0, 1, 0, 0, 1, 0, 0, 1, 0, 0]
noncomputable def R53_5 : Array Oper := opsAt Try.f53 [1, 1, 0, 1, 0, 0, 1, 1]
noncomputable def L53_0 : Code := .seq (.seq (.region 4 R53_4 false) (.cond (.tmp 25) .skip (.exit 0))) (.seq (.block 1 (.seq (.region 6 R53_6 false) (.cond (.tmp 34) (.seq (.region 7 R53_7 false) .ret) .skip))) (.region 5 R53_5 false))
noncomputable def R53_8 : Array Oper := opsAt Try.f53 [1, 1, 1, 0]
theorem code53 : Try.f53.body = some (.seq (.region 0 R53_0 false) (.seq (.seq (.region 1 R53_1 false) (.cond (.tmp 20) (.seq (.region 2 R53_2 false) .ret) .skip)) (.seq (.seq (.region 3 R53_3 false) (.block 0 (.loop L53_0))) (.seq (.region 8 R53_8 false) .ret)))) := by kernel_rfl
noncomputable def R54_0 : Array Oper := opsAt Try.f54 [0]
noncomputable def R54_1 : Array Oper := opsAt Try.f54 [1, 0]
theorem code54 : Try.f54.body = some (.seq (.region 0 R54_0 false) (.seq (.region 1 R54_1 false) .ret)) := by kernel_rfl
noncomputable def R55_0 : Array Oper := opsAt Try.f55 [0]
noncomputable def R55_1 : Array Oper := opsAt Try.f55 [1, 0]
theorem code55 : Try.f55.body = some (.seq (.region 0 R55_0 false) (.seq (.region 1 R55_1 true) .ret)) := by kernel_rfl
noncomputable def R56_0 : Array Oper := opsAt Try.f56 [0]
noncomputable def R56_1 : Array Oper := opsAt Try.f56 [1, 0, 0]
noncomputable def R56_2 : Array Oper := opsAt Try.f56 [1, 0, 1, 0, 0]
noncomputable def R56_3 : Array Oper := opsAt Try.f56 [1, 1, 0]
theorem code56 : Try.f56.body = some (.seq (.region 0 R56_0 false) (.seq (.seq (.region 1 R56_1 false) (.cond (.tmp 7) (.seq (.region 2 R56_2 false) .ret) .skip)) (.seq (.region 3 R56_3 false) .ret))) := by kernel_rfl
noncomputable def R57_0 : Array Oper := opsAt Try.f57 [0]
noncomputable def R57_1 : Array Oper := opsAt Try.f57 [1, 0, 0]
noncomputable def R57_2 : Array Oper := opsAt Try.f57 [1, 0, 1, 0, 0]
noncomputable def R57_3 : Array Oper := opsAt Try.f57 [1, 1, 0]
theorem code57 : Try.f57.body = some (.seq (.region 0 R57_0 false) (.seq (.seq (.region 1 R57_1 false) (.cond (.tmp 7) (.seq (.region 2 R57_2 false) .ret) .skip)) (.seq (.region 3 R57_3 false) .ret))) := by kernel_rfl
noncomputable def R58_0 : Array Oper := opsAt Try.f58 [0]
noncomputable def R58_1 : Array Oper := opsAt Try.f58 [1, 0]
noncomputable def R58_2 : Array Oper := opsAt Try.f58 [1, 1, 0, 0]
noncomputable def R58_3 : Array Oper := opsAt Try.f58 [1, 1, 0, 1, 0, 0, 0, 0]
noncomputable def R58_5 : Array Oper := opsAt Try.f58 [1, 1, 0, 1, 0, 0, 1, 0, 0]
noncomputable def R58_4 : Array Oper := opsAt Try.f58 [1, 1, 0, 1, 0, 0, 1, 1]
noncomputable def L58_0 : Code := .seq (.seq (.region 3 R58_3 false) (.cond (.tmp 11) .skip (.exit 0))) (.seq (.block 1 (.region 5 R58_5 false)) (.region 4 R58_4 false))
noncomputable def R58_6 : Array Oper := opsAt Try.f58 [1, 1, 1, 0]
theorem code58 : Try.f58.body = some (.seq (.region 0 R58_0 false) (.seq (.region 1 R58_1 false) (.seq (.seq (.region 2 R58_2 false) (.block 0 (.loop L58_0))) (.seq (.region 6 R58_6 false) .ret)))) := by kernel_rfl
noncomputable def R59_0 : Array Oper := opsAt Try.f59 [0]
noncomputable def R59_1 : Array Oper := opsAt Try.f59 [1, 0]
theorem code59 : Try.f59.body = some (.seq (.region 0 R59_0 false) (.seq (.region 1 R59_1 false) .ret)) := by kernel_rfl
noncomputable def R62_0 : Array Oper := opsAt Try.f62 [0]
noncomputable def R62_1 : Array Oper := opsAt Try.f62 [1, 0, 0]
noncomputable def R62_2 : Array Oper := opsAt Try.f62 [1, 0, 1, 0, 0]
noncomputable def R62_3 : Array Oper := opsAt Try.f62 [1, 1, 0, 0]
noncomputable def R62_4 : Array Oper := opsAt Try.f62 [1, 1, 0, 1, 0, 0, 0, 0]
noncomputable def R62_6 : Array Oper := opsAt Try.f62 [1, 1, 0, 1, 0, 0, 1, 0, 0, 0]
noncomputable def R62_7 : Array Oper := opsAt Try.f62 [1, 1, 0, 1, 0, 0, 1, 0, 0, 1, 0, 0]
noncomputable def R62_5 : Array Oper := opsAt Try.f62 [1, 1, 0, 1, 0, 0, 1, 1]
noncomputable def L62_0 : Code := .seq (.seq (.region 4 R62_4 false) (.cond (.tmp 14) .skip (.exit 0))) (.seq (.block 1 (.seq (.region 6 R62_6 true) (.cond (.tmp 25) (.seq (.region 7 R62_7 false) .ret) .skip))) (.region 5 R62_5 false))
noncomputable def R62_8 : Array Oper := opsAt Try.f62 [1, 1, 1, 0]
theorem code62 : Try.f62.body = some (.seq (.region 0 R62_0 false) (.seq (.seq (.region 1 R62_1 false) (.cond (.tmp 10) (.seq (.region 2 R62_2 false) .ret) .skip)) (.seq (.seq (.region 3 R62_3 false) (.block 0 (.loop L62_0))) (.seq (.region 8 R62_8 false) .ret)))) := by kernel_rfl
noncomputable def R63_0 : Array Oper := opsAt Try.f63 [0]
noncomputable def R63_1 : Array Oper := opsAt Try.f63 [1, 0, 0]
noncomputable def R63_2 : Array Oper := opsAt Try.f63 [1, 0, 1, 0, 0, 0, 0]
noncomputable def R63_4 : Array Oper := opsAt Try.f63 [1, 0, 1, 0, 0, 1, 0, 0, 0]
noncomputable def R63_5 : Array Oper := opsAt Try.f63 [1, 0, 1, 0, 0, 1, 0, 0, 1]
noncomputable def R63_3 : Array Oper := opsAt Try.f63 [1, 0, 1, 0, 0, 1, 1]
noncomputable def L63_0 : Code := .seq (.seq (.region 2 R63_2 false) (.cond (.tmp 9) .skip (.exit 0))) (.seq (.block 1 (.seq (.region 4 R63_4 false) (.region 5 R63_5 false))) (.region 3 R63_3 false))
noncomputable def R63_6 : Array Oper := opsAt Try.f63 [1, 1, 0]
theorem code63 : Try.f63.body = some (.seq (.region 0 R63_0 false) (.seq (.seq (.region 1 R63_1 false) (.block 0 (.loop L63_0))) (.seq (.region 6 R63_6 false) .ret))) := by kernel_rfl
noncomputable def R64_0 : Array Oper := opsAt Try.f64 [0]
noncomputable def R64_1 : Array Oper := opsAt Try.f64 [1, 0, 0]
noncomputable def R64_2 : Array Oper := opsAt Try.f64 [1, 0, 1, 0, 0, 0, 0]
noncomputable def R64_4 : Array Oper := opsAt Try.f64 [1, 0, 1, 0, 0, 1, 0, 0, 0, 0]
noncomputable def R64_5 : Array Oper := opsAt Try.f64 [1, 0, 1, 0, 0, 1, 0, 0, 0, 1, 0, 0]
noncomputable def R64_6 : Array Oper := opsAt Try.f64 [1, 0, 1, 0, 0, 1, 0, 0, 1]
noncomputable def R64_3 : Array Oper := opsAt Try.f64 [1, 0, 1, 0, 0, 1, 1]
noncomputable def L64_0 : Code := .seq (.seq (.region 2 R64_2 false) (.cond (.tmp 9) .skip (.exit 0))) (.seq (.block 1 (.seq (.seq (.region 4 R64_4 false) (.cond (.tmp 17) (.seq (.region 5 R64_5 false) .ret) .skip)) (.region 6 R64_6 false))) (.region 3 R64_3 false))
noncomputable def R64_7 : Array Oper := opsAt Try.f64 [1, 1, 0]
theorem code64 : Try.f64.body = some (.seq (.region 0 R64_0 false) (.seq (.seq (.region 1 R64_1 false) (.block 0 (.loop L64_0))) (.seq (.region 7 R64_7 false) .ret))) := by kernel_rfl
noncomputable def R65_0 : Array Oper := opsAt Try.f65 [0]
noncomputable def R65_1 : Array Oper := opsAt Try.f65 [1, 0]
theorem code65 : Try.f65.body = some (.seq (.region 0 R65_0 false) (.seq (.region 1 R65_1 false) .ret)) := by kernel_rfl
noncomputable def R66_0 : Array Oper := opsAt Try.f66 [0]
noncomputable def R66_1 : Array Oper := opsAt Try.f66 [1, 0, 0]
noncomputable def R66_2 : Array Oper := opsAt Try.f66 [1, 0, 1, 0, 0]
noncomputable def R66_3 : Array Oper := opsAt Try.f66 [1, 1, 0]
noncomputable def R66_4 : Array Oper := opsAt Try.f66 [1, 1, 1, 0, 0]
noncomputable def R66_5 : Array Oper := opsAt Try.f66 [1, 1, 1, 0, 1, 0, 0, 0]
noncomputable def R66_6 : Array Oper := opsAt Try.f66 [1, 1, 1, 0, 1, 0, 0, 1, 1, 0, 0, 0]
noncomputable def R66_7 : Array Oper := opsAt Try.f66 [1, 1, 1, 0, 1, 0, 0, 1, 1, 0, 0, 1]
noncomputable def R66_8 : Array Oper := opsAt Try.f66 [1, 1, 1, 0, 1, 0, 0, 1, 1, 1]
noncomputable def L66_0 : Code := .seq (.region 5 R66_5 false) (.seq (.cond (.tmp 23) .skip (.exit 0)) (.seq (.block 1 (.seq (.region 6 R66_6 false) (.region 7 R66_7 true))) (.region 8 R66_8 false)))
noncomputable def R66_9 : Array Oper := opsAt Try.f66 [1, 1, 1, 1, 0]
theorem code66 : Try.f66.body = some (.seq (.region 0 R66_0 false) (.seq (.seq (.region 1 R66_1 false) (.cond (.tmp 15) (.seq (.region 2 R66_2 false) .ret) .skip)) (.seq (.region 3 R66_3 false) (.seq (.seq (.region 4 R66_4 false) (.block 0 (.loop L66_0))) (.seq (.region 9 R66_9 false) .ret))))) := by kernel_rfl
noncomputable def R67_0 : Array Oper := opsAt Try.f67 [0]
noncomputable def R67_1 : Array Oper := opsAt Try.f67 [1, 0, 0]
noncomputable def R67_2 : Array Oper := opsAt Try.f67 [1, 0, 1, 0, 0]
noncomputable def R67_3 : Array Oper := opsAt Try.f67 [1, 1, 0]
theorem code67 : Try.f67.body = some (.seq (.region 0 R67_0 false) (.seq (.seq (.region 1 R67_1 false) (.cond (.tmp 6) (.seq (.region 2 R67_2 false) .ret) .skip)) (.seq (.region 3 R67_3 false) .ret))) := by kernel_rfl
noncomputable def R68_0 : Array Oper := opsAt Try.f68 [0]
noncomputable def R68_1 : Array Oper := opsAt Try.f68 [1, 0, 0]
noncomputable def R68_2 : Array Oper := opsAt Try.f68 [1, 0, 1, 0, 0]
noncomputable def R68_3 : Array Oper := opsAt Try.f68 [1, 1, 0]
theorem code68 : Try.f68.body = some (.seq (.region 0 R68_0 false) (.seq (.seq (.region 1 R68_1 false) (.cond (.tmp 10) (.seq (.region 2 R68_2 false) .ret) .skip)) (.seq (.region 3 R68_3 false) .ret))) := by kernel_rfl
noncomputable def R69_0 : Array Oper := opsAt Try.f69 [0]
noncomputable def R69_1 : Array Oper := opsAt Try.f69 [1, 0]
theorem code69 : Try.f69.body = some (.seq (.region 0 R69_0 false) (.seq (.region 1 R69_1 false) .ret)) := by kernel_rfl
noncomputable def R70_0 : Array Oper := opsAt Try.f70 [0]
noncomputable def R70_1 : Array Oper := opsAt Try.f70 [1, 0]
theorem code70 : Try.f70.body = some (.seq (.region 0 R70_0 false) (.seq (.region 1 R70_1 false) .ret)) := by kernel_rfl
noncomputable def R71_0 : Array Oper := opsAt Try.f71 [0]
noncomputable def R71_1 : Array Oper := opsAt Try.f71 [1, 0]
theorem code71 : Try.f71.body = some (.seq (.region 0 R71_0 false) (.seq (.region 1 R71_1 false) .ret)) := by kernel_rfl
noncomputable def R72_0 : Array Oper := opsAt Try.f72 [0]
noncomputable def R72_1 : Array Oper := opsAt Try.f72 [1, 0]
theorem code72 : Try.f72.body = some (.seq (.region 0 R72_0 false) (.seq (.region 1 R72_1 false) .ret)) := by kernel_rfl
noncomputable def R73_0 : Array Oper := opsAt Try.f73 [0]
noncomputable def R73_1 : Array Oper := opsAt Try.f73 [1, 0]
theorem code73 : Try.f73.body = some (.seq (.region 0 R73_0 false) (.seq (.region 1 R73_1 false) .ret)) := by kernel_rfl
noncomputable def R74_0 : Array Oper := opsAt Try.f74 [0]
noncomputable def R74_1 : Array Oper := opsAt Try.f74 [1, 0]
theorem code74 : Try.f74.body = some (.seq (.region 0 R74_0 false) (.seq (.region 1 R74_1 false) .ret)) := by kernel_rfl
noncomputable def R75_0 : Array Oper := opsAt Try.f75 [0]
noncomputable def R75_1 : Array Oper := opsAt Try.f75 [1, 0]
noncomputable def R75_2 : Array Oper := opsAt Try.f75 [1, 1, 0, 0]
noncomputable def R75_3 : Array Oper := opsAt Try.f75 [1, 1, 0, 1, 0, 0, 0]
noncomputable def R75_4 : Array Oper := opsAt Try.f75 [1, 1, 0, 1, 0, 0, 1, 1, 0, 0, 0]
noncomputable def R75_5 : Array Oper := opsAt Try.f75 [1, 1, 0, 1, 0, 0, 1, 1, 0, 0, 1]
noncomputable def R75_6 : Array Oper := opsAt Try.f75 [1, 1, 0, 1, 0, 0, 1, 1, 1]
noncomputable def L75_0 : Code := .seq (.region 3 R75_3 false) (.seq (.cond (.tmp 16) .skip (.exit 0)) (.seq (.block 1 (.seq (.region 4 R75_4 false) (.region 5 R75_5 true))) (.region 6 R75_6 false)))
noncomputable def R75_7 : Array Oper := opsAt Try.f75 [1, 1, 1, 0]
theorem code75 : Try.f75.body = some (.seq (.region 0 R75_0 false) (.seq (.region 1 R75_1 false) (.seq (.seq (.region 2 R75_2 false) (.block 0 (.loop L75_0))) (.seq (.region 7 R75_7 false) .ret)))) := by kernel_rfl
noncomputable def R76_0 : Array Oper := opsAt Try.f76 [0]
noncomputable def R76_1 : Array Oper := opsAt Try.f76 [1, 0]
theorem code76 : Try.f76.body = some (.seq (.region 0 R76_0 false) (.seq (.region 1 R76_1 false) .ret)) := by kernel_rfl
noncomputable def R79_0 : Array Oper := opsAt Try.f79 [0]
noncomputable def R79_1 : Array Oper := opsAt Try.f79 [1, 0, 0]
noncomputable def R79_2 : Array Oper := opsAt Try.f79 [1, 0, 1, 0, 0]
noncomputable def R79_3 : Array Oper := opsAt Try.f79 [1, 1, 0]
theorem code79 : Try.f79.body = some (.seq (.region 0 R79_0 false) (.seq (.seq (.region 1 R79_1 false) (.cond (.tmp 5) (.seq (.region 2 R79_2 false) .ret) .skip)) (.seq (.region 3 R79_3 false) .ret))) := by kernel_rfl
noncomputable def R81_0 : Array Oper := opsAt Try.f81 [0]
noncomputable def R81_1 : Array Oper := opsAt Try.f81 [1, 0]
noncomputable def R81_2 : Array Oper := opsAt Try.f81 [1, 1, 0, 0]
noncomputable def R81_3 : Array Oper := opsAt Try.f81 [1, 1, 0, 1, 0, 0, 0, 0]
noncomputable def R81_5 : Array Oper := opsAt Try.f81 [1, 1, 0, 1, 0, 0, 1, 0, 0, 0]
noncomputable def R81_6 : Array Oper := opsAt Try.f81 [1, 1, 0, 1, 0, 0, 1, 0, 0, 1, 0, 0, 0, 0]
noncomputable def R81_8 : Array Oper := opsAt Try.f81 [1, 1, 0, 1, 0, 0, 1, 0, 0, 1, 0, 0, 1, 0, 0, 0]
noncomputable def R81_9 : Array Oper := opsAt Try.f81 [1, 1, 0, 1, 0, 0, 1, 0, 0, 1, 0, 0, 1, 0, 0, 1, 0, 0]
noncomputable def R81_10 : Array Oper := opsAt Try.f81 [1, 1, 0, 1, 0, 0, 1, 0, 0, 1, 0, 0, 1, 0, 0, 1, 1, 0]
noncomputable def R81_11 : Array Oper := opsAt Try.f81 [1, 1, 0, 1, 0, 0, 1, 0, 0, 1, 0, 0, 1, 0, 0, 1, 1, 1, 0, 0, 0, 0, 0]
noncomputable def R81_12 : Array Oper := opsAt Try.f81 [1, 1, 0, 1, 0, 0, 1, 0, 0, 1, 0, 0, 1, 0, 0, 1, 1, 1, 0, 0, 0, 1, 0]
noncomputable def L81_2 : Code := .seq (.seq (.region 11 R81_11 false) (.cond (.tmp 64) .skip (.exit 4))) (.block 5 (.region 12 R81_12 false))
noncomputable def R81_13 : Array Oper := opsAt Try.f81 [1, 1, 0, 1, 0, 0, 1, 0, 0, 1, 0, 0, 1, 0, 0, 1, 1, 1, 1, 0]
noncomputable def R81_14 : Array Oper := opsAt Try.f81 [1, 1, 0, 1, 0, 0, 1, 0, 0, 1, 0, 0, 1, 0, 0, 1, 1, 1, 1, 1, 0, 0]
noncomputable def R81_15 : Array Oper := opsAt Try.f81 [1, 1, 0, 1, 0, 0, 1, 0, 0, 1, 0, 0, 1, 0, 0, 1, 1, 1, 1, 1, 0, 1, 0, 0, 0, 0]
noncomputable def R81_17 : Array Oper := opsAt Try.f81 [1, 1, 0, 1, 0, 0, 1, 0, 0, 1, 0, 0, 1, 0, 0, 1, 1, 1, 1, 1, 0, 1, 0, 0, 1, 0, 0]
noncomputable def R81_16 : Array Oper := opsAt Try.f81 [1, 1, 0, 1, 0, 0, 1, 0, 0, 1, 0, 0, 1, 0, 0, 1, 1, 1, 1, 1, 0, 1, 0, 0, 1, 1]
noncomputable def L81_3 : Code := .seq (.seq (.region 15 R81_15 false) (.cond (.tmp 76) .skip (.exit 6))) (.seq (.block 7 (.region 17 R81_17 false)) (.region 16 R81_16 false))
noncomputable def R81_18 : Array Oper := opsAt Try.f81 [1, 1, 0, 1, 0, 0, 1, 0, 0, 1, 0, 0, 1, 0, 0, 1, 1, 1, 1, 1, 1]
noncomputable def R81_7 : Array Oper := opsAt Try.f81 [1, 1, 0, 1, 0, 0, 1, 0, 0, 1, 0, 0, 1, 1]
noncomputable def L81_1 : Code := .seq (.seq (.region 6 R81_6 false) (.cond (.tmp 43) .skip (.exit 2))) (.seq (.block 3 (.seq (.region 8 R81_8 false) (.seq (.seq (.region 9 R81_9 false) (.cond (.tmp 51) (.exit 3) .skip)) (.seq (.region 10 R81_10 false) (.seq (.block 4 (.loop L81_2)) (.seq (.region 13 R81_13 false) (.seq (.seq (.region 14 R81_14 false) (.block 6 (.loop L81_3))) (.region 18 R81_18 false)))))))) (.region 7 R81_7 false))
noncomputable def R81_4 : Array Oper := opsAt Try.f81 [1, 1, 0, 1, 0, 0, 1, 1]
noncomputable def L81_0 : Code := .seq (.seq (.region 3 R81_3 false) (.cond (.tmp 28) .skip (.exit 0))) (.seq (.block 1 (.seq (.region 5 R81_5 false) (.block 2 (.loop L81_1)))) (.region 4 R81_4 false))
noncomputable def R81_19 : Array Oper := opsAt Try.f81 [1, 1, 1, 0]
theorem code81 : Try.f81.body = some (.seq (.region 0 R81_0 false) (.seq (.region 1 R81_1 false) (.seq (.seq (.region 2 R81_2 false) (.block 0 (.loop L81_0))) (.seq (.region 19 R81_19 false) .ret)))) := by kernel_rfl
noncomputable def R82_0 : Array Oper := opsAt Try.f82 [0]
noncomputable def R82_1 : Array Oper := opsAt Try.f82 [1, 0]
noncomputable def R82_2 : Array Oper := opsAt Try.f82 [1, 1, 0, 0]
noncomputable def R82_3 : Array Oper := opsAt Try.f82 [1, 1, 0, 1, 0, 0, 0, 0]
noncomputable def R82_5 : Array Oper := opsAt Try.f82 [1, 1, 0, 1, 0, 0, 1, 0, 0, 0]
noncomputable def R82_6 : Array Oper := opsAt Try.f82 [1, 1, 0, 1, 0, 0, 1, 0, 0, 1, 0, 0, 0, 0]
noncomputable def R82_8 : Array Oper := opsAt Try.f82 [1, 1, 0, 1, 0, 0, 1, 0, 0, 1, 0, 0, 1, 0, 0, 0]
noncomputable def R82_9 : Array Oper := opsAt Try.f82 [1, 1, 0, 1, 0, 0, 1, 0, 0, 1, 0, 0, 1, 0, 0, 1, 0]
noncomputable def R82_10 : Array Oper := opsAt Try.f82 [1, 1, 0, 1, 0, 0, 1, 0, 0, 1, 0, 0, 1, 0, 0, 1, 1, 0]
noncomputable def R82_7 : Array Oper := opsAt Try.f82 [1, 1, 0, 1, 0, 0, 1, 0, 0, 1, 0, 0, 1, 1]
noncomputable def L82_1 : Code := .seq (.seq (.region 6 R82_6 false) (.cond (.tmp 40) .skip (.exit 2))) (.seq (.block 3 (.seq (.region 8 R82_8 false) (.seq (.region 9 R82_9 false) (.cond (.tmp 54) (.region 10 R82_10 false) .skip)))) (.region 7 R82_7 false))
noncomputable def R82_4 : Array Oper := opsAt Try.f82 [1, 1, 0, 1, 0, 0, 1, 1]
noncomputable def L82_0 : Code := .seq (.seq (.region 3 R82_3 false) (.cond (.tmp 25) .skip (.exit 0))) (.seq (.block 1 (.seq (.region 5 R82_5 false) (.block 2 (.loop L82_1)))) (.region 4 R82_4 false))
noncomputable def R82_11 : Array Oper := opsAt Try.f82 [1, 1, 1, 0]
theorem code82 : Try.f82.body = some (.seq (.region 0 R82_0 false) (.seq (.region 1 R82_1 false) (.seq (.seq (.region 2 R82_2 false) (.block 0 (.loop L82_0))) (.seq (.region 11 R82_11 false) .ret)))) := by kernel_rfl
noncomputable def R83_0 : Array Oper := opsAt Try.f83 [0]
noncomputable def R83_1 : Array Oper := opsAt Try.f83 [1, 0]
noncomputable def R83_2 : Array Oper := opsAt Try.f83 [1, 1, 0]
noncomputable def R83_3 : Array Oper := opsAt Try.f83 [1, 1, 1, 0, 0]
noncomputable def R83_4 : Array Oper := opsAt Try.f83 [1, 1, 1, 0, 1, 0, 0, 0, 0]
noncomputable def R83_6 : Array Oper := opsAt Try.f83 [1, 1, 1, 0, 1, 0, 0, 1, 0, 0, 0, 0]
noncomputable def R83_7 : Array Oper := opsAt Try.f83 [1, 1, 1, 0, 1, 0, 0, 1, 0, 0, 0, 1, 0, 0]
noncomputable def R83_8 : Array Oper := opsAt Try.f83 [1, 1, 1, 0, 1, 0, 0, 1, 0, 0, 1, 0]
noncomputable def R83_9 : Array Oper := opsAt Try.f83 [1, 1, 1, 0, 1, 0, 0, 1, 0, 0, 1, 1]
noncomputable def R83_5 : Array Oper := opsAt Try.f83 [1, 1, 1, 0, 1, 0, 0, 1, 1]
noncomputable def L83_0 : Code := .seq (.seq (.region 4 R83_4 false) (.cond (.tmp 17) .skip (.exit 0))) (.seq (.block 1 (.seq (.seq (.region 6 R83_6 false) (.cond (.tmp 33) (.seq (.region 7 R83_7 false) (.exit 1)) .skip)) (.seq (.region 8 R83_8 true) (.region 9 R83_9 false)))) (.region 5 R83_5 false))
noncomputable def R83_10 : Array Oper := opsAt Try.f83 [1, 1, 1, 1, 0]
theorem code83 : Try.f83.body = some (.seq (.region 0 R83_0 false) (.seq (.region 1 R83_1 false) (.seq (.region 2 R83_2 false) (.seq (.seq (.region 3 R83_3 false) (.block 0 (.loop L83_0))) (.seq (.region 10 R83_10 false) .ret))))) := by kernel_rfl
noncomputable def R84_0 : Array Oper := opsAt Try.f84 [0]
noncomputable def R84_1 : Array Oper := opsAt Try.f84 [1, 0, 0, 0]
noncomputable def R84_2 : Array Oper := opsAt Try.f84 [1, 0, 0, 1, 0, 0]
noncomputable def R84_3 : Array Oper := opsAt Try.f84 [1, 0, 0, 1, 1, 0]
noncomputable def R84_4 : Array Oper := opsAt Try.f84 [1, 0, 0, 1, 1, 1, 0, 0]
noncomputable def R84_5 : Array Oper := opsAt Try.f84 [1, 0, 0, 1, 1, 1, 1, 0]
noncomputable def R84_6 : Array Oper := opsAt Try.f84 [1, 0, 0, 1, 1, 1, 1, 1, 0, 0]
noncomputable def R84_7 : Array Oper := opsAt Try.f84 [1, 0, 0, 1, 1, 1, 1, 1, 1, 0]
noncomputable def R84_8 : Array Oper := opsAt Try.f84 [1, 0, 0, 1, 1, 1, 1, 1, 1, 1, 0, 0]
noncomputable def R84_9 : Array Oper := opsAt Try.f84 [1, 1, 0]
theorem code84 : Try.f84.body = some (.seq (.region 0 R84_0 false) (.seq (.block 0 (.seq (.region 1 R84_1 false) (.cond (.tmp 6) (.seq (.region 2 R84_2 false) .ret) (.seq (.region 3 R84_3 false) (.cond (.tmp 13) (.seq (.region 4 R84_4 false) .ret) (.seq (.region 5 R84_5 false) (.cond (.tmp 20) (.seq (.region 6 R84_6 false) .ret) (.seq (.region 7 R84_7 false) (.cond (.tmp 27) (.seq (.region 8 R84_8 false) .ret) .skip))))))))) (.seq (.region 9 R84_9 false) .ret))) := by kernel_rfl
noncomputable def R102_0 : Array Oper := opsAt Try.f102 [0]
noncomputable def R102_1 : Array Oper := opsAt Try.f102 [1, 0]
theorem code102 : Try.f102.body = some (.seq (.region 0 R102_0 false) (.seq (.region 1 R102_1 false) .ret)) := by kernel_rfl
noncomputable def R103_0 : Array Oper := opsAt Try.f103 [0]
noncomputable def R103_1 : Array Oper := opsAt Try.f103 [1, 0]
theorem code103 : Try.f103.body = some (.seq (.region 0 R103_0 false) (.seq (.region 1 R103_1 false) .ret)) := by kernel_rfl
noncomputable def R104_0 : Array Oper := opsAt Try.f104 [0]
noncomputable def R104_1 : Array Oper := opsAt Try.f104 [1, 0]
theorem code104 : Try.f104.body = some (.seq (.region 0 R104_0 false) (.seq (.region 1 R104_1 true) .ret)) := by kernel_rfl
noncomputable def R105_0 : Array Oper := opsAt Try.f105 [0]
noncomputable def R105_1 : Array Oper := opsAt Try.f105 [1, 0, 0]
noncomputable def R105_2 : Array Oper := opsAt Try.f105 [1, 0, 1, 0, 0]
noncomputable def R105_3 : Array Oper := opsAt Try.f105 [1, 1, 0]
theorem code105 : Try.f105.body = some (.seq (.region 0 R105_0 false) (.seq (.seq (.region 1 R105_1 false) (.cond (.tmp 6) (.seq (.region 2 R105_2 false) .ret) .skip)) (.seq (.region 3 R105_3 false) .ret))) := by kernel_rfl
noncomputable def R106_0 : Array Oper := opsAt Try.f106 [0]
noncomputable def R106_1 : Array Oper := opsAt Try.f106 [1, 0, 0]
noncomputable def R106_2 : Array Oper := opsAt Try.f106 [1, 0, 1, 0, 0, 0]
noncomputable def R106_3 : Array Oper := opsAt Try.f106 [1, 0, 1, 0, 0, 1, 1, 0, 0, 0]
noncomputable def R106_4 : Array Oper := opsAt Try.f106 [1, 0, 1, 0, 0, 1, 1, 0, 0, 1, 0]
noncomputable def R106_5 : Array Oper := opsAt Try.f106 [1, 0, 1, 0, 0, 1, 1, 0, 0, 1, 1, 0, 0]
noncomputable def R106_6 : Array Oper := opsAt Try.f106 [1, 0, 1, 0, 0, 1, 1, 1]
noncomputable def L106_0 : Code := .seq (.region 2 R106_2 false) (.seq (.cond (.tmp 8) .skip (.exit 0)) (.seq (.block 1 (.seq (.region 3 R106_3 false) (.seq (.region 4 R106_4 true) (.cond (.tmp 21) (.seq (.region 5 R106_5 false) .ret) .skip)))) (.region 6 R106_6 false)))
noncomputable def R106_7 : Array Oper := opsAt Try.f106 [1, 1, 0]
theorem code106 : Try.f106.body = some (.seq (.region 0 R106_0 false) (.seq (.seq (.region 1 R106_1 false) (.block 0 (.loop L106_0))) (.seq (.region 7 R106_7 false) .ret))) := by kernel_rfl
noncomputable def R107_0 : Array Oper := opsAt Try.f107 [0]
noncomputable def R107_1 : Array Oper := opsAt Try.f107 [1, 0]
theorem code107 : Try.f107.body = some (.seq (.region 0 R107_0 false) (.seq (.region 1 R107_1 false) .ret)) := by kernel_rfl
noncomputable def R108_0 : Array Oper := opsAt Try.f108 [0]
noncomputable def R108_1 : Array Oper := opsAt Try.f108 [1, 0]
theorem code108 : Try.f108.body = some (.seq (.region 0 R108_0 false) (.seq (.region 1 R108_1 false) .ret)) := by kernel_rfl
noncomputable def R109_0 : Array Oper := opsAt Try.f109 [0]
noncomputable def R109_1 : Array Oper := opsAt Try.f109 [1, 0]
theorem code109 : Try.f109.body = some (.seq (.region 0 R109_0 false) (.seq (.region 1 R109_1 false) .ret)) := by kernel_rfl
noncomputable def R110_0 : Array Oper := opsAt Try.f110 [0]
noncomputable def R110_1 : Array Oper := opsAt Try.f110 [1, 0]
theorem code110 : Try.f110.body = some (.seq (.region 0 R110_0 false) (.seq (.region 1 R110_1 false) .ret)) := by kernel_rfl
noncomputable def R112_0 : Array Oper := opsAt Try.f112 [0]
noncomputable def R112_1 : Array Oper := opsAt Try.f112 [1, 0, 0]
noncomputable def R112_2 : Array Oper := opsAt Try.f112 [1, 0, 1, 0, 0]
noncomputable def R112_3 : Array Oper := opsAt Try.f112 [1, 1, 0]
theorem code112 : Try.f112.body = some (.seq (.region 0 R112_0 false) (.seq (.seq (.region 1 R112_1 false) (.cond (.tmp 12) (.seq (.region 2 R112_2 false) .ret) .skip)) (.seq (.region 3 R112_3 false) .ret))) := by kernel_rfl
noncomputable def R113_0 : Array Oper := opsAt Try.f113 [0]
noncomputable def R113_1 : Array Oper := opsAt Try.f113 [1, 0, 0]
noncomputable def R113_2 : Array Oper := opsAt Try.f113 [1, 0, 1, 0, 0]
noncomputable def R113_3 : Array Oper := opsAt Try.f113 [1, 0, 1, 0, 1, 0, 0]
noncomputable def R113_4 : Array Oper := opsAt Try.f113 [1, 0, 1, 0, 1, 1, 0]
noncomputable def R113_5 : Array Oper := opsAt Try.f113 [1, 0, 1, 0, 1, 1, 1, 0, 0]
noncomputable def R113_6 : Array Oper := opsAt Try.f113 [1, 0, 1, 0, 1, 1, 1, 1, 0]
noncomputable def R113_7 : Array Oper := opsAt Try.f113 [1, 0, 1, 0, 1, 1, 1, 1, 1, 0, 0]
noncomputable def R113_8 : Array Oper := opsAt Try.f113 [1, 1, 0]
theorem code113 : Try.f113.body = some (.seq (.region 0 R113_0 false) (.seq (.seq (.region 1 R113_1 false) (.block 0 (.seq (.region 2 R113_2 false) (.cond (.tmp 8) (.seq (.region 3 R113_3 false) .ret) (.seq (.region 4 R113_4 false) (.cond (.tmp 13) (.seq (.region 5 R113_5 false) .ret) (.seq (.region 6 R113_6 false) (.cond (.tmp 18) (.seq (.region 7 R113_7 false) .ret) .skip)))))))) (.seq (.region 8 R113_8 false) .ret))) := by kernel_rfl
noncomputable def R119_0 : Array Oper := opsAt Try.f119 [0]
noncomputable def R119_1 : Array Oper := opsAt Try.f119 [1, 0, 0]
noncomputable def R119_2 : Array Oper := opsAt Try.f119 [1, 0, 1, 0, 0]
noncomputable def R119_3 : Array Oper := opsAt Try.f119 [1, 1, 0]
theorem code119 : Try.f119.body = some (.seq (.region 0 R119_0 false) (.seq (.seq (.region 1 R119_1 false) (.cond (.tmp 4) (.seq (.region 2 R119_2 false) .ret) .skip)) (.seq (.region 3 R119_3 false) .ret))) := by kernel_rfl
noncomputable def R120_0 : Array Oper := opsAt Try.f120 [0]
noncomputable def R120_1 : Array Oper := opsAt Try.f120 [1, 0]
theorem code120 : Try.f120.body = some (.seq (.region 0 R120_0 false) (.seq (.region 1 R120_1 false) .ret)) := by kernel_rfl
noncomputable def R121_0 : Array Oper := opsAt Try.f121 [0]
noncomputable def R121_1 : Array Oper := opsAt Try.f121 [1, 0, 0]
noncomputable def R121_2 : Array Oper := opsAt Try.f121 [1, 0, 1, 0, 0, 0]
noncomputable def R121_3 : Array Oper := opsAt Try.f121 [1, 0, 1, 0, 0, 1, 1, 0, 0, 0]
noncomputable def R121_4 : Array Oper := opsAt Try.f121 [1, 0, 1, 0, 0, 1, 1, 0, 0, 1, 0]
noncomputable def R121_5 : Array Oper := opsAt Try.f121 [1, 0, 1, 0, 0, 1, 1, 0, 0, 1, 1, 0, 0]
noncomputable def R121_6 : Array Oper := opsAt Try.f121 [1, 0, 1, 0, 0, 1, 1, 1]
noncomputable def L121_0 : Code := .seq (.region 2 R121_2 false) (.seq (.cond (.tmp 9) .skip (.exit 0)) (.seq (.block 1 (.seq (.region 3 R121_3 false) (.seq (.region 4 R121_4 false) (.cond (.tmp 16) (.seq (.region 5 R121_5 false) .ret) .skip)))) (.region 6 R121_6 false)))
noncomputable def R121_7 : Array Oper := opsAt Try.f121 [1, 1, 0]
theorem code121 : Try.f121.body = some (.seq (.region 0 R121_0 false) (.seq (.seq (.region 1 R121_1 false) (.block 0 (.loop L121_0))) (.seq (.region 7 R121_7 false) .ret))) := by kernel_rfl
noncomputable def R122_0 : Array Oper := opsAt Try.f122 [0]
noncomputable def R122_1 : Array Oper := opsAt Try.f122 [1, 0, 0]
noncomputable def R122_2 : Array Oper := opsAt Try.f122 [1, 0, 1, 0]
noncomputable def R122_3 : Array Oper := opsAt Try.f122 [1, 1, 0]
noncomputable def R122_4 : Array Oper := opsAt Try.f122 [1, 1, 1, 0, 0]
noncomputable def R122_5 : Array Oper := opsAt Try.f122 [1, 1, 1, 0, 1, 0]
noncomputable def R122_6 : Array Oper := opsAt Try.f122 [1, 1, 1, 1, 0]
noncomputable def R122_7 : Array Oper := opsAt Try.f122 [1, 1, 1, 1, 1, 0]
noncomputable def R122_8 : Array Oper := opsAt Try.f122 [1, 1, 1, 1, 1, 1, 0, 0, 0, 0, 0]
noncomputable def R122_9 : Array Oper := opsAt Try.f122 [1, 1, 1, 1, 1, 1, 0, 0, 0, 1, 0]
noncomputable def L122_0 : Code := .seq (.seq (.region 8 R122_8 false) (.cond (.tmp 37) .skip (.exit 0))) (.block 1 (.region 9 R122_9 true))
noncomputable def R122_10 : Array Oper := opsAt Try.f122 [1, 1, 1, 1, 1, 1, 1, 0]
theorem code122 : Try.f122.body = some (.seq (.region 0 R122_0 false) (.seq (.seq (.region 1 R122_1 false) (.cond (.tmp 10) (.region 2 R122_2 false) .skip)) (.seq (.region 3 R122_3 false) (.seq (.seq (.region 4 R122_4 false) (.cond (.tmp 26) (.region 5 R122_5 false) .skip)) (.seq (.region 6 R122_6 false) (.seq (.region 7 R122_7 false) (.seq (.block 0 (.loop L122_0)) (.seq (.region 10 R122_10 false) .ret)))))))) := by kernel_rfl
noncomputable def R126_0 : Array Oper := opsAt Try.f126 [0]
noncomputable def R126_1 : Array Oper := opsAt Try.f126 [1, 0, 0, 0]
noncomputable def R126_2 : Array Oper := opsAt Try.f126 [1, 0, 0, 1, 0]
noncomputable def R126_3 : Array Oper := opsAt Try.f126 [1, 1, 0]
noncomputable def R126_4 : Array Oper := opsAt Try.f126 [1, 1, 1, 0]
theorem code126 : Try.f126.body = some (.seq (.region 0 R126_0 false) (.seq (.cond (.const (.bool false)) (.seq (.region 1 R126_1 false) (.seq (.region 2 R126_2 false) .ret)) .skip) (.seq (.region 3 R126_3 false) (.seq (.region 4 R126_4 false) .ret)))) := by kernel_rfl
noncomputable def R133_0 : Array Oper := opsAt Try.f133 [0]
noncomputable def R133_1 : Array Oper := opsAt Try.f133 [1, 0]
noncomputable def R133_2 : Array Oper := opsAt Try.f133 [1, 1, 0]
theorem code133 : Try.f133.body = some (.seq (.region 0 R133_0 false) (.seq (.region 1 R133_1 false) (.seq (.region 2 R133_2 false) .ret))) := by kernel_rfl
noncomputable def R134_0 : Array Oper := opsAt Try.f134 [0]
noncomputable def R134_1 : Array Oper := opsAt Try.f134 [1, 0]
noncomputable def R134_2 : Array Oper := opsAt Try.f134 [1, 1, 0]
noncomputable def R134_3 : Array Oper := opsAt Try.f134 [1, 1, 1, 0]
noncomputable def R134_4 : Array Oper := opsAt Try.f134 [1, 1, 1, 1, 0]
noncomputable def R134_5 : Array Oper := opsAt Try.f134 [1, 1, 1, 1, 1, 0]
noncomputable def R134_6 : Array Oper := opsAt Try.f134 [1, 1, 1, 1, 1, 1, 0]
noncomputable def R134_7 : Array Oper := opsAt Try.f134 [1, 1, 1, 1, 1, 1, 1, 0]
noncomputable def R134_8 : Array Oper := opsAt Try.f134 [1, 1, 1, 1, 1, 1, 1, 1, 0]
noncomputable def R134_9 : Array Oper := opsAt Try.f134 [1, 1, 1, 1, 1, 1, 1, 1, 1, 0]
noncomputable def R134_10 : Array Oper := opsAt Try.f134 [1, 1, 1, 1, 1, 1, 1, 1, 1, 1, 0]
noncomputable def R134_11 : Array Oper := opsAt Try.f134 [1, 1, 1, 1, 1, 1, 1, 1, 1, 1, 1, 0]
theorem code134 : Try.f134.body = some (.seq (.region 0 R134_0 false) (.seq (.region 1 R134_1 false) (.seq (.region 2 R134_2 false) (.seq (.region 3 R134_3 false) (.seq (.region 4 R134_4 false) (.seq (.region 5 R134_5 false) (.seq (.region 6 R134_6 false) (.seq (.region 7 R134_7 false) (.seq (.region 8 R134_8 false) (.seq (.region 9 R134_9 false) (.seq (.region 10 R134_10 false) (.seq (.region 11 R134_11 false) .ret)))))))))))) := by kernel_rfl
def K : FuncId → Nat → List Nat
  | 19, 0 => [2, 3, 4, 6, 7]
  | 21, 0 => [2, 3, 4, 6, 7, 29, 30, 31, 32, 33, 34]
  | 23, 0 => [1, 2, 3, 4, 5, 10, 12, 13]
  | 23, 1 => [1, 2, 3, 4, 5, 10, 12, 13, 14]
  | 27, 0 => [1, 2, 6, 7, 45, 46, 47, 48, 49, 50, 51, 52, 55, 56, 57, 58, 59, 60, 61, 62, 63, 64, 65, 66, 67]
  | 27, 1 => [1, 2, 6, 7, 8, 45, 46, 47, 48, 49, 50, 51, 52, 55, 56, 57, 58, 59, 60, 61, 62, 63, 64, 65, 66, 67]
  | 28, 0 => [1, 2, 6, 23, 24, 25, 57, 58]
  | 28, 1 => [1, 2, 6, 8, 9, 10, 11, 23, 24, 25, 42, 43, 44, 57, 58]
  | 29, 0 => [0, 1, 5]
  | 30, 0 => [0, 1, 5]
  | 31, 0 => [0, 1, 5]
  | 53, 0 => [1, 3]
  | 58, 0 => [0, 3, 4]
  | 62, 0 => [0, 1, 5]
  | 63, 0 => [0, 1, 5]
  | 64, 0 => [0, 1, 5]
  | 66, 0 => [2, 3, 6, 8, 20, 21, 22]
  | 75, 0 => [0, 2, 6, 7, 14, 15]
  | 81, 0 => [1, 2, 3, 4, 9, 10, 57, 58, 59, 60, 61, 62, 63]
  | 81, 1 => [1, 2, 3, 4, 9, 10, 11, 57, 58, 59, 60, 61, 62, 63]
  | 81, 2 => [1, 2, 3, 4, 9, 10, 11, 12, 13, 57, 58, 59, 60, 61, 62, 63]
  | 81, 3 => [1, 2, 3, 4, 9, 10, 11, 12, 13, 14, 57, 58, 59, 60, 61, 62, 63]
  | 82, 0 => [1, 2, 3, 4, 9, 10]
  | 82, 1 => [1, 2, 3, 4, 9, 10, 11]
  | 83, 0 => [0, 4, 5, 6, 8, 9, 10, 27, 28, 29, 30, 31, 32, 56, 57, 58, 59, 60, 61]
  | 106, 0 => [0, 5, 6, 7, 15, 16, 17, 18, 19, 20]
  | 121, 0 => [0, 1, 7, 8]
  | 122, 0 => [7, 8]
  | _, _ => []
def X : FuncId → Option (List V → Option (V × List Eng.Obj))
  | _ => none
noncomputable def C : Cfg := ⟨T, F, X, WR, OW, K⟩
theorem cT : C.T = T := rfl
theorem cF : C.fn = F := rfl
theorem cX : C.ext = X := rfl
theorem cWR : C.wr = WR := rfl
theorem cOW : C.own = OW := rfl
theorem cK : C.keep = K := rfl
theorem ent {f : FuncId} {fn : Func} (h : Try.prog.funcs[f]? = some fn) (hb : fn.body.isSome = true) (hn : (fn.name == "runtime.NumGoroutine") = false) : Enters Try.prog f := enters_mk h hb hn
theorem cfgOk : CfgOk Try.prog C where
  mixed := by kernel_rfl
  tab := tabOk
  fn := by
    intro f fn h
    show Try.prog.funcs[f]? = some fn ∧ _
    have h' : F f = some fn := h
    unfold F at h'
    split at h'
    · cases h'; exact ⟨Try.func4, ent Try.func4 rfl rfl, chk4⟩
    · cases h'; exact ⟨Try.func5, ent Try.func5 rfl rfl, chk5⟩
    · cases h'; exact ⟨Try.func6, ent Try.func6 rfl rfl, chk6⟩
    · cases h'; exact ⟨Try.func8, ent Try.func8 rfl rfl, chk8⟩
    · cases h'; exact ⟨Try.func9, ent Try.func9 rfl rfl, chk9⟩
    · cases h'; exact ⟨Try.func12, ent Try.func12 rfl rfl, chk12⟩
    · cases h'; exact ⟨Try.func14, ent Try.func14 rfl rfl, chk14⟩
    · cases h'; exact ⟨Try.func16, ent Try.func16 rfl rfl, chk16⟩
    · cases h'; exact ⟨Try.func17, ent Try.func17 rfl rfl, chk17⟩
    · cases h'; exact ⟨Try.func18, ent Try.func18 rfl rfl, chk18⟩
    · cases h'; exact ⟨Try.func19, ent Try.func19 rfl rfl, chk19⟩
    · cases h'; exact ⟨Try.func20, ent Try.func20 rfl rfl, chk20⟩
    · cases h'; exact ⟨Try.func21, ent Try.func21 rfl rfl, chk21⟩
    · cases h'; exact ⟨Try.func22, ent Try.func22 rfl rfl, chk22⟩
    · cases h'; exact ⟨Try.func23, ent Try.func23 rfl rfl, chk23⟩
    · cases h'; exact ⟨Try.func24, ent Try.func24 rfl rfl, chk24⟩
    · cases h'; exact ⟨Try.func27, ent Try.func27 rfl rfl, chk27⟩
    · cases h'; exact ⟨Try.func28, ent Try.func28 rfl rfl, chk28⟩
    · cases h'; exact ⟨Try.func29, ent Try.func29 rfl rfl, chk29⟩
    · cases h'; exact ⟨Try.func30, ent Try.func30 rfl rfl, chk30⟩
    · cases h'; exact ⟨Try.func31, ent Try.func31 rfl rfl, chk31⟩
    · cases h'; exact ⟨Try.func32, ent Try.func32 rfl rfl, chk32⟩
    · cases h'; exact ⟨Try.func33, ent Try.func33 rfl rfl, chk33⟩
    · cases h'; exact ⟨Try.func52, ent Try.func52 rfl rfl, chk52⟩
    · cases h'; exact ⟨Try.func53, ent Try.func53 rfl rfl, chk53⟩
    · cases h'; exact ⟨Try.func54, ent Try.func54 rfl rfl, chk54⟩
    · cases h'; exact ⟨Try.func55, ent Try.func55 rfl rfl, chk55⟩
    · cases h'; exact ⟨Try.func56, ent Try.func56 rfl rfl, chk56⟩
    · cases h'; exact ⟨Try.func57, ent Try.func57 rfl rfl, chk57⟩
    · cases h'; exact ⟨Try.func58, ent Try.func58 rfl rfl, chk58⟩
    · cases h'; exact ⟨Try.func59, ent Try.func59 rfl rfl, chk59⟩
    · cases h'; exact ⟨Try.func62, ent Try.func62 rfl rfl, chk62⟩
    · cases h'; exact ⟨Try.func63, ent Try.func63 rfl rfl, chk63⟩
    · cases h'; exact ⟨Try.func64, ent Try.func64 rfl rfl, chk64⟩
    · cases h'; exact ⟨Try.func65, ent Try.func65 rfl rfl, chk65⟩
    · cases h'; exact ⟨Try.func66, ent Try.func66 rfl rfl, chk66⟩
    · cases h'; exact ⟨Try.func67, ent Try.func67 rfl rfl, chk67⟩
    · cases h'; exact ⟨Try.func68, ent Try.func68 rfl rfl, chk68⟩
    · cases h'; exact ⟨Try.func69, ent Try.func69 rfl rfl, chk69⟩
    · cases h'; exact ⟨Try.func70, ent Try.func70 rfl rfl, chk70⟩
    · cases h'; exact ⟨Try.func71, ent Try.func71 rfl rfl, chk71⟩
    · cases h'; exact ⟨Try.func72, ent Try.func72 rfl rfl, chk72⟩
    · cases h'; exact ⟨Try.func73, ent Try.func73 rfl rfl, chk73⟩
    · cases h'; exact ⟨Try.func74, ent Try.func74 rfl rfl, chk74⟩
    · cases h'; exact ⟨Try.func75, ent Try.func75 rfl rfl, chk75⟩
    · cases h'; exact ⟨Try.func76, ent Try.func76 rfl rfl, chk76⟩
    · cases h'; exact ⟨Try.func79, ent Try.func79 rfl rfl, chk79⟩
    · cases h'; exact ⟨Try.func81, ent Try.func81 rfl rfl, chk81⟩
    · cases h'; exact ⟨Try.func82, ent Try.func82 rfl rfl, chk82⟩
    · cases h'; exact ⟨Try.func83, ent Try.func83 rfl rfl, chk83⟩
    · cases h'; exact ⟨Try.func84, ent Try.func84 rfl rfl, chk84⟩
    · cases h'; exact ⟨Try.func102, ent Try.func102 rfl rfl, chk102⟩
    · cases h'; exact ⟨Try.func103, ent Try.func103 rfl rfl, chk103⟩
    · cases h'; exact ⟨Try.func104, ent Try.func104 rfl rfl, chk104⟩
    · cases h'; exact ⟨Try.func105, ent Try.func105 rfl rfl, chk105⟩
    · cases h'; exact ⟨Try.func106, ent Try.func106 rfl rfl, chk106⟩
    · cases h'; exact ⟨Try.func107, ent Try.func107 rfl rfl, chk107⟩
    · cases h'; exact ⟨Try.func108, ent Try.func108 rfl rfl, chk108⟩
    · cases h'; exact ⟨Try.func109, ent Try.func109 rfl rfl, chk109⟩
    · cases h'; exact ⟨Try.func110, ent Try.func110 rfl rfl, chk110⟩
    · cases h'; exact ⟨Try.func112, ent Try.func112 rfl rfl, chk112⟩
    · cases h'; exact ⟨Try.func113, ent Try.func113 rfl rfl, chk113⟩
    · cases h'; exact ⟨Try.func119, ent Try.func119 rfl rfl, chk119⟩
    · cases h'; exact ⟨Try.func120, ent Try.func120 rfl rfl, chk120⟩
    · cases h'; exact ⟨Try.func121, ent Try.func121 rfl rfl, chk121⟩
    · cases h'; exact ⟨Try.func122, ent Try.func122 rfl rfl, chk122⟩
    · cases h'; exact ⟨Try.func126, ent Try.func126 rfl rfl, chk126⟩
    · cases h'; exact ⟨Try.func133, ent Try.func133 rfl rfl, chk133⟩
    · cases h'; exact ⟨Try.func134, ent Try.func134 rfl rfl, chk134⟩
    · cases h'
  ext := by
    intro f m h
    have h' : X f = some m := h
    unfold X at h'
    cases h'
end Go.Proofs.Ytmbjhcdmnjhnoaa.Eng
