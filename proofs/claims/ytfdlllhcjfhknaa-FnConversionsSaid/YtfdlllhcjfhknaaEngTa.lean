/- The types, the functions and the loops' live slots that the laws reach, first part. No conditions. -/
import Derived.Test.YtfdlllhcjfhknaaEngS
import Derived.Test.YtfdlllhcjfhknaaProg
import Derived.KernelRfl
import Derived.WalkKit
namespace Go.Proofs.Ytfdlllhcjfhknaa.Eng
open Go Go.Proofs
set_option maxRecDepth 100000
def T : Tab
  | 3 => some ⟨.int .i64, 1, 8, [.int .i64 0], true⟩
  | 4 => some ⟨.bool, 1, 1, [.bool false], true⟩
  | 5 => some ⟨.int .u8, 1, 1, [.int .u8 0], true⟩
  | 9 => some ⟨.str, 1, 16, [.string ByteArray.empty], true⟩
  | 22 => some ⟨(.slice 3), 1, 24, [.slice none 0 0], false⟩
  | 24 => some ⟨(.struct [(0, 1, false), (1, 1, false), (2, 1, false)]), 3, 40, [.int .i64 0, .int .i64 0, .slice none 0 0], false⟩
  | 26 => some ⟨(.slice 22), 1, 24, [.slice none 0 0], false⟩
  | 29 => some ⟨(.struct [(0, 1, false), (1, 1, false), (2, 1, false)]), 3, 40, [.int .i64 0, .int .i64 0, .slice none 0 0], false⟩
  | 36 => some ⟨(.slice 5), 1, 24, [.slice none 0 0], false⟩
  | 73 => some ⟨(.slice 136), 1, 24, [.slice none 0 0], false⟩
  | 75 => some ⟨(.slice 134), 1, 24, [.slice none 0 0], false⟩
  | 86 => some ⟨(.slice 24), 1, 24, [.slice none 0 0], false⟩
  | 89 => some ⟨(.slice 29), 1, 24, [.slice none 0 0], false⟩
  | 103 => some ⟨(.ptr 106), 1, 8, [.pointer none], false⟩
  | 104 => some ⟨.int .u64, 1, 8, [.int .u64 0], true⟩
  | 106 => some ⟨(.struct [(0, 1, false), (1, 1, false), (2, 1, false)]), 3, 40, [.slice none 0 0, .int .i64 0, .int .u64 0], false⟩
  | 108 => some ⟨.oth, 1, 8, [.nilFunc], false⟩
  | 109 => some ⟨.oth, 1, 8, [.nilFunc], false⟩
  | 111 => some ⟨(.struct [(0, 1, false), (1, 1, false), (2, 1, false), (3, 1, false), (4, 1, false)]), 5, 48, [.int .i64 0, .string ByteArray.empty, .int .i64 0, .int .i64 0, .int .i64 0], true⟩
  | 114 => some ⟨.oth, 1, 8, [.nilFunc], false⟩
  | 118 => some ⟨(.array 13 3), 13, 104, [.int .i64 0, .int .i64 0, .int .i64 0, .int .i64 0, .int .i64 0, .int .i64 0, .int .i64 0, .int .i64 0, .int .i64 0, .int .i64 0, .int .i64 0, .int .i64 0, .int .i64 0], true⟩
  | 134 => some ⟨(.struct [(0, 1, false), (1, 1, false)]), 2, 16, [.int .i64 0, .int .i64 0], true⟩
  | 136 => some ⟨(.struct [(0, 1, false), (1, 1, false)]), 2, 16, [.int .i64 0, .int .i64 0], true⟩
  | 157 => some ⟨.int .u64, 1, 8, [.int .u64 0], true⟩
  | 161 => some ⟨.int .i64, 1, 8, [.int .i64 0], true⟩
  | 168 => some ⟨.int .u32, 1, 4, [.int .u32 0], true⟩
  | _ => none
theorem T3 : T 3 = some ⟨.int .i64, 1, 8, [.int .i64 0], true⟩ := rfl
theorem ok3 : TiOk Try.prog 3 ⟨.int .i64, 1, 8, [.int .i64 0], true⟩ := ⟨(by kernel_rfl : Try.prog.underlying 3 = _), (TiOk.of_info (z := (.int .i64 0)) (by kernel_rfl) rfl), rfl, by decide⟩
theorem T4 : T 4 = some ⟨.bool, 1, 1, [.bool false], true⟩ := rfl
theorem ok4 : TiOk Try.prog 4 ⟨.bool, 1, 1, [.bool false], true⟩ := ⟨(by kernel_rfl : Try.prog.underlying 4 = _), (TiOk.of_info (z := (.bool false)) (by kernel_rfl) rfl), rfl, by decide⟩
theorem T5 : T 5 = some ⟨.int .u8, 1, 1, [.int .u8 0], true⟩ := rfl
theorem ok5 : TiOk Try.prog 5 ⟨.int .u8, 1, 1, [.int .u8 0], true⟩ := ⟨(by kernel_rfl : Try.prog.underlying 5 = _), (TiOk.of_info (z := (.int .u8 0)) (by kernel_rfl) rfl), rfl, by decide⟩
theorem T9 : T 9 = some ⟨.str, 1, 16, [.string ByteArray.empty], true⟩ := rfl
theorem ok9 : TiOk Try.prog 9 ⟨.str, 1, 16, [.string ByteArray.empty], true⟩ := ⟨(by kernel_rfl : Try.prog.underlying 9 = _), (TiOk.of_info (z := (.string ByteArray.empty)) (by kernel_rfl) rfl), rfl, by decide⟩
theorem T22 : T 22 = some ⟨(.slice 3), 1, 24, [.slice none 0 0], false⟩ := rfl
theorem ok22 : TiOk Try.prog 22 ⟨(.slice 3), 1, 24, [.slice none 0 0], false⟩ := ⟨(by kernel_rfl : Try.prog.underlying 22 = _), (TiOk.of_info (z := (.slice none 0 0)) (by kernel_rfl) rfl), rfl, by decide⟩
theorem T24 : T 24 = some ⟨(.struct [(0, 1, false), (1, 1, false), (2, 1, false)]), 3, 40, [.int .i64 0, .int .i64 0, .slice none 0 0], false⟩ := rfl
theorem ok24 : TiOk Try.prog 24 ⟨(.struct [(0, 1, false), (1, 1, false), (2, 1, false)]), 3, 40, [.int .i64 0, .int .i64 0, .slice none 0 0], false⟩ := ⟨TiOk.of_struct Try.underlying24 (by kernel_rfl), (TiOk.of_info (z := (.agg #[.int .i64 0, .int .i64 0, .slice none 0 0])) (by kernel_rfl) rfl), rfl, by decide⟩
theorem T26 : T 26 = some ⟨(.slice 22), 1, 24, [.slice none 0 0], false⟩ := rfl
theorem ok26 : TiOk Try.prog 26 ⟨(.slice 22), 1, 24, [.slice none 0 0], false⟩ := ⟨(by kernel_rfl : Try.prog.underlying 26 = _), (TiOk.of_info (z := (.slice none 0 0)) (by kernel_rfl) rfl), rfl, by decide⟩
theorem T29 : T 29 = some ⟨(.struct [(0, 1, false), (1, 1, false), (2, 1, false)]), 3, 40, [.int .i64 0, .int .i64 0, .slice none 0 0], false⟩ := rfl
theorem ok29 : TiOk Try.prog 29 ⟨(.struct [(0, 1, false), (1, 1, false), (2, 1, false)]), 3, 40, [.int .i64 0, .int .i64 0, .slice none 0 0], false⟩ := ⟨TiOk.of_struct Try.underlying29 (by kernel_rfl), (TiOk.of_info (z := (.agg #[.int .i64 0, .int .i64 0, .slice none 0 0])) (by kernel_rfl) rfl), rfl, by decide⟩
theorem T36 : T 36 = some ⟨(.slice 5), 1, 24, [.slice none 0 0], false⟩ := rfl
theorem ok36 : TiOk Try.prog 36 ⟨(.slice 5), 1, 24, [.slice none 0 0], false⟩ := ⟨(by kernel_rfl : Try.prog.underlying 36 = _), (TiOk.of_info (z := (.slice none 0 0)) (by kernel_rfl) rfl), rfl, by decide⟩
theorem T73 : T 73 = some ⟨(.slice 136), 1, 24, [.slice none 0 0], false⟩ := rfl
theorem ok73 : TiOk Try.prog 73 ⟨(.slice 136), 1, 24, [.slice none 0 0], false⟩ := ⟨(by kernel_rfl : Try.prog.underlying 73 = _), (TiOk.of_info (z := (.slice none 0 0)) (by kernel_rfl) rfl), rfl, by decide⟩
theorem T75 : T 75 = some ⟨(.slice 134), 1, 24, [.slice none 0 0], false⟩ := rfl
theorem ok75 : TiOk Try.prog 75 ⟨(.slice 134), 1, 24, [.slice none 0 0], false⟩ := ⟨(by kernel_rfl : Try.prog.underlying 75 = _), (TiOk.of_info (z := (.slice none 0 0)) (by kernel_rfl) rfl), rfl, by decide⟩
theorem T86 : T 86 = some ⟨(.slice 24), 1, 24, [.slice none 0 0], false⟩ := rfl
theorem ok86 : TiOk Try.prog 86 ⟨(.slice 24), 1, 24, [.slice none 0 0], false⟩ := ⟨(by kernel_rfl : Try.prog.underlying 86 = _), (TiOk.of_info (z := (.slice none 0 0)) (by kernel_rfl) rfl), rfl, by decide⟩
theorem T89 : T 89 = some ⟨(.slice 29), 1, 24, [.slice none 0 0], false⟩ := rfl
theorem ok89 : TiOk Try.prog 89 ⟨(.slice 29), 1, 24, [.slice none 0 0], false⟩ := ⟨(by kernel_rfl : Try.prog.underlying 89 = _), (TiOk.of_info (z := (.slice none 0 0)) (by kernel_rfl) rfl), rfl, by decide⟩
theorem T103 : T 103 = some ⟨(.ptr 106), 1, 8, [.pointer none], false⟩ := rfl
theorem ok103 : TiOk Try.prog 103 ⟨(.ptr 106), 1, 8, [.pointer none], false⟩ := ⟨(by kernel_rfl : Try.prog.underlying 103 = _), (TiOk.of_info (z := (.pointer none)) (by kernel_rfl) rfl), rfl, by decide⟩
theorem T104 : T 104 = some ⟨.int .u64, 1, 8, [.int .u64 0], true⟩ := rfl
theorem ok104 : TiOk Try.prog 104 ⟨.int .u64, 1, 8, [.int .u64 0], true⟩ := ⟨(by kernel_rfl : Try.prog.underlying 104 = _), (TiOk.of_info (z := (.int .u64 0)) (by kernel_rfl) rfl), rfl, by decide⟩
theorem T106 : T 106 = some ⟨(.struct [(0, 1, false), (1, 1, false), (2, 1, false)]), 3, 40, [.slice none 0 0, .int .i64 0, .int .u64 0], false⟩ := rfl
theorem ok106 : TiOk Try.prog 106 ⟨(.struct [(0, 1, false), (1, 1, false), (2, 1, false)]), 3, 40, [.slice none 0 0, .int .i64 0, .int .u64 0], false⟩ := ⟨TiOk.of_struct Try.underlying106 (by kernel_rfl), (TiOk.of_info (z := (.agg #[.slice none 0 0, .int .i64 0, .int .u64 0])) (by kernel_rfl) rfl), rfl, by decide⟩
theorem T108 : T 108 = some ⟨.oth, 1, 8, [.nilFunc], false⟩ := rfl
theorem ok108 : TiOk Try.prog 108 ⟨.oth, 1, 8, [.nilFunc], false⟩ := ⟨⟨_, Try.underlying108, rfl⟩, (TiOk.of_info (z := (.nilFunc)) (by kernel_rfl) rfl), rfl, by decide⟩
theorem T109 : T 109 = some ⟨.oth, 1, 8, [.nilFunc], false⟩ := rfl
theorem ok109 : TiOk Try.prog 109 ⟨.oth, 1, 8, [.nilFunc], false⟩ := ⟨⟨_, Try.underlying109, rfl⟩, (TiOk.of_info (z := (.nilFunc)) (by kernel_rfl) rfl), rfl, by decide⟩
theorem T111 : T 111 = some ⟨(.struct [(0, 1, false), (1, 1, false), (2, 1, false), (3, 1, false), (4, 1, false)]), 5, 48, [.int .i64 0, .string ByteArray.empty, .int .i64 0, .int .i64 0, .int .i64 0], true⟩ := rfl
theorem ok111 : TiOk Try.prog 111 ⟨(.struct [(0, 1, false), (1, 1, false), (2, 1, false), (3, 1, false), (4, 1, false)]), 5, 48, [.int .i64 0, .string ByteArray.empty, .int .i64 0, .int .i64 0, .int .i64 0], true⟩ := ⟨TiOk.of_struct Try.underlying111 (by kernel_rfl), (TiOk.of_info (z := (.agg #[.int .i64 0, .string ByteArray.empty, .int .i64 0, .int .i64 0, .int .i64 0])) (by kernel_rfl) rfl), rfl, by decide⟩
theorem T114 : T 114 = some ⟨.oth, 1, 8, [.nilFunc], false⟩ := rfl
theorem ok114 : TiOk Try.prog 114 ⟨.oth, 1, 8, [.nilFunc], false⟩ := ⟨⟨_, Try.underlying114, rfl⟩, (TiOk.of_info (z := (.nilFunc)) (by kernel_rfl) rfl), rfl, by decide⟩
theorem T118 : T 118 = some ⟨(.array 13 3), 13, 104, [.int .i64 0, .int .i64 0, .int .i64 0, .int .i64 0, .int .i64 0, .int .i64 0, .int .i64 0, .int .i64 0, .int .i64 0, .int .i64 0, .int .i64 0, .int .i64 0, .int .i64 0], true⟩ := rfl
theorem ok118 : TiOk Try.prog 118 ⟨(.array 13 3), 13, 104, [.int .i64 0, .int .i64 0, .int .i64 0, .int .i64 0, .int .i64 0, .int .i64 0, .int .i64 0, .int .i64 0, .int .i64 0, .int .i64 0, .int .i64 0, .int .i64 0, .int .i64 0], true⟩ := ⟨(by kernel_rfl : Try.prog.underlying 118 = _), (TiOk.of_info (z := (.agg #[.int .i64 0, .int .i64 0, .int .i64 0, .int .i64 0, .int .i64 0, .int .i64 0, .int .i64 0, .int .i64 0, .int .i64 0, .int .i64 0, .int .i64 0, .int .i64 0, .int .i64 0])) (by kernel_rfl) rfl), rfl, by decide⟩
theorem T134 : T 134 = some ⟨(.struct [(0, 1, false), (1, 1, false)]), 2, 16, [.int .i64 0, .int .i64 0], true⟩ := rfl
theorem ok134 : TiOk Try.prog 134 ⟨(.struct [(0, 1, false), (1, 1, false)]), 2, 16, [.int .i64 0, .int .i64 0], true⟩ := ⟨TiOk.of_struct Try.underlying134 (by kernel_rfl), (TiOk.of_info (z := (.agg #[.int .i64 0, .int .i64 0])) (by kernel_rfl) rfl), rfl, by decide⟩
theorem T136 : T 136 = some ⟨(.struct [(0, 1, false), (1, 1, false)]), 2, 16, [.int .i64 0, .int .i64 0], true⟩ := rfl
theorem ok136 : TiOk Try.prog 136 ⟨(.struct [(0, 1, false), (1, 1, false)]), 2, 16, [.int .i64 0, .int .i64 0], true⟩ := ⟨TiOk.of_struct Try.underlying136 (by kernel_rfl), (TiOk.of_info (z := (.agg #[.int .i64 0, .int .i64 0])) (by kernel_rfl) rfl), rfl, by decide⟩
theorem T157 : T 157 = some ⟨.int .u64, 1, 8, [.int .u64 0], true⟩ := rfl
theorem ok157 : TiOk Try.prog 157 ⟨.int .u64, 1, 8, [.int .u64 0], true⟩ := ⟨(by kernel_rfl : Try.prog.underlying 157 = _), (TiOk.of_info (z := (.int .u64 0)) (by kernel_rfl) rfl), rfl, by decide⟩
theorem T161 : T 161 = some ⟨.int .i64, 1, 8, [.int .i64 0], true⟩ := rfl
theorem ok161 : TiOk Try.prog 161 ⟨.int .i64, 1, 8, [.int .i64 0], true⟩ := ⟨(by kernel_rfl : Try.prog.underlying 161 = _), (TiOk.of_info (z := (.int .i64 0)) (by kernel_rfl) rfl), rfl, by decide⟩
theorem T168 : T 168 = some ⟨.int .u32, 1, 4, [.int .u32 0], true⟩ := rfl
theorem ok168 : TiOk Try.prog 168 ⟨.int .u32, 1, 4, [.int .u32 0], true⟩ := ⟨(by kernel_rfl : Try.prog.underlying 168 = _), (TiOk.of_info (z := (.int .u32 0)) (by kernel_rfl) rfl), rfl, by decide⟩
theorem tabOk : TabOk Try.prog T := by
  intro t i h
  unfold T at h
  split at h
  · cases h; exact ok3
  · cases h; exact ok4
  · cases h; exact ok5
  · cases h; exact ok9
  · cases h; exact ok22
  · cases h; exact ok24
  · cases h; exact ok26
  · cases h; exact ok29
  · cases h; exact ok36
  · cases h; exact ok73
  · cases h; exact ok75
  · cases h; exact ok86
  · cases h; exact ok89
  · cases h; exact ok103
  · cases h; exact ok104
  · cases h; exact ok106
  · cases h; exact ok108
  · cases h; exact ok109
  · cases h; exact ok111
  · cases h; exact ok114
  · cases h; exact ok118
  · cases h; exact ok134
  · cases h; exact ok136
  · cases h; exact ok157
  · cases h; exact ok161
  · cases h; exact ok168
  · cases h
set_option maxHeartbeats 1000000
def WR (f : FuncId) : Bool := f == 18 || f == 19 || f == 71 || f == 76 || f == 83 || f == 100 || f == 103 || f == 104 || f == 105 || f == 111 || f == 114 || f == 130 || f == 161 || f == 162 || f == 166 || f == 169 || f == 170 || f == 171 || f == 176 || f == 178 || f == 189 || f == 193 || f == 196 || f == 1000036
def OW (f : FuncId) : Bool := f == 18 || f == 19 || f == 71 || f == 76 || f == 83 || f == 161 || f == 162 || f == 171 || f == 176 || f == 178 || f == 189 || f == 196
def K : FuncId → Nat → List Nat
  | 6, 0 => [0, 4, 5, 10, 12, 14]
  | 6, 1 => [0, 4, 5, 15, 16, 17, 19]
  | 7, 0 => [0, 13, 14, 15, 16, 20]
  | 11, 0 => [4, 14, 16, 18, 22]
  | 13, 0 => [1, 2, 6, 7]
  | 13, 1 => [1, 2, 6, 7, 8]
  | 15, 0 => [1, 2, 6, 23, 24, 25]
  | 15, 1 => [1, 2, 6, 8, 9, 10, 11, 23, 24, 25, 42, 43, 44]
  | 16, 0 => [0, 1, 5]
  | 19, 0 => [0, 1, 5]
  | 20, 0 => [0, 1, 5]
  | 22, 0 => [5, 6, 7, 8]
  | 29, 0 => [0, 6, 8, 28, 29]
  | 30, 0 => [6, 7, 8, 9, 10]
  | 37, 0 => [1, 5, 6, 7, 8]
  | 43, 0 => [1, 2, 3, 4, 5, 10, 12, 13]
  | 43, 1 => [1, 2, 3, 4, 5, 10, 12, 13, 14]
  | 54, 0 => [2, 3, 4, 6, 7]
  | 56, 0 => [3, 6, 15, 16, 17]
  | 58, 0 => [4, 5, 6, 8, 21, 22, 23]
  | 59, 0 => [3, 4, 5, 6, 8, 9]
  | 62, 0 => [1, 2, 3, 6, 8, 9]
  | 65, 0 => [1, 2, 4, 5]
  | 67, 0 => [4, 5]
  | 68, 0 => [0, 3, 4]
  | 69, 0 => [4, 5]
  | 69, 1 => [4, 5, 16, 17, 18]
  | 70, 0 => [0, 1, 5]
  | 71, 0 => [0, 1, 5]
  | 72, 0 => [0, 1, 5]
  | 73, 0 => [0, 4, 5]
  | 74, 0 => [4, 10, 11, 12]
  | 75, 0 => [0, 1, 5]
  | 76, 0 => [0, 1, 5]
  | 77, 0 => [0, 1, 5]
  | 78, 0 => [0, 1, 5]
  | 80, 0 => [0, 3, 4]
  | 81, 0 => [1, 4, 6, 26, 27, 28]
  | 82, 0 => [0, 1, 5]
  | 83, 0 => [0, 1, 5]
  | 86, 0 => [1, 2, 8, 24, 25, 26]
  | 87, 0 => [0, 1, 2, 8, 9]
  | 88, 0 => [0, 1, 5]
  | 89, 0 => [4, 14, 15, 16]
  | 89, 1 => [4, 7, 8, 14, 15, 16, 27, 28, 29]
  | 91, 0 => [0, 1, 5]
  | 93, 0 => [1, 3]
  | 96, 0 => [1, 2, 3, 4, 9, 10]
  | 96, 1 => [1, 2, 3, 4, 9, 10, 11]
  | 96, 2 => [1, 2, 3, 4, 9, 10, 11, 12, 13]
  | 96, 3 => [1, 2, 3, 4, 9, 10, 11, 12, 13, 14]
  | 97, 0 => [0, 3, 4]
  | 99, 0 => [1, 2, 3, 4, 9, 10]
  | 99, 1 => [1, 2, 3, 4, 9, 10, 11]
  | 115, 0 => [0, 1, 2, 6, 7, 8]
  | 117, 0 => [0, 3, 4]
  | 118, 0 => [0, 3, 4]
  | 119, 0 => [3, 6, 7, 8]
  | 125, 0 => [0, 2, 6, 7, 14, 15]
  | 129, 0 => [0, 1, 5]
  | 130, 0 => [0, 4, 5, 6]
  | 131, 0 => [2, 3, 6, 8, 20, 21, 22]
  | 135, 0 => [0, 4, 5, 6, 8, 9, 10]
  | 136, 0 => [1, 4, 6, 16, 17, 18]
  | 139, 0 => [1, 2, 3, 6, 8, 9, 10]
  | 140, 0 => [1, 2, 4, 5, 6]
  | 144, 0 => [0, 5, 6, 7]
  | 151, 0 => [0, 3, 4]
  | 154, 0 => [3, 9, 10, 11]
  | 156, 0 => [3, 6, 7, 23, 24, 25]
  | 160, 0 => [0, 1, 5]
  | 162, 0 => [0, 3]
  | 162, 1 => [0, 3, 4, 5]
  | 163, 0 => [0, 3]
  | 170, 0 => [0, 2, 3, 4, 5]
  | 171, 0 => [0, 1, 5, 6]
  | 174, 0 => [0, 1, 7, 8]
  | 189, 0 => [0, 1, 2, 3, 8, 9]
  | 193, 0 => [0, 3, 4, 5]
  | 193, 1 => [0, 3, 4]
  | 194, 0 => [7, 8]
  | 196, 0 => [0, 1, 2, 6]
  | 196, 1 => [0, 1, 2, 6, 7]
  | 28, 1004 => [6, 1072]
  | 46, 1006 => [4, 1072]
  | 52, 1006 => [2, 16]
  | 57, 1006 => [4, 1072, 5, 16]
  | 114, 1006 => [6, 0, 6, 6240, 6, 6241, 9, 0, 9, 6288]
  | 130, 1007 => [4, 0]
  | 170, 1011 => [6, 0, 6, 11360, 6, 11361, 9, 0, 9, 11408]
  | _, _ => []
@[simp] theorem K6_0 : K 6 0 = [0, 4, 5, 10, 12, 14] := rfl
@[simp] theorem K6_1 : K 6 1 = [0, 4, 5, 15, 16, 17, 19] := rfl
@[simp] theorem K7_0 : K 7 0 = [0, 13, 14, 15, 16, 20] := rfl
@[simp] theorem K11_0 : K 11 0 = [4, 14, 16, 18, 22] := rfl
@[simp] theorem K13_0 : K 13 0 = [1, 2, 6, 7] := rfl
@[simp] theorem K13_1 : K 13 1 = [1, 2, 6, 7, 8] := rfl
@[simp] theorem K15_0 : K 15 0 = [1, 2, 6, 23, 24, 25] := rfl
@[simp] theorem K15_1 : K 15 1 = [1, 2, 6, 8, 9, 10, 11, 23, 24, 25, 42, 43, 44] := rfl
@[simp] theorem K16_0 : K 16 0 = [0, 1, 5] := rfl
@[simp] theorem K19_0 : K 19 0 = [0, 1, 5] := rfl
@[simp] theorem K20_0 : K 20 0 = [0, 1, 5] := rfl
@[simp] theorem K22_0 : K 22 0 = [5, 6, 7, 8] := rfl
@[simp] theorem K29_0 : K 29 0 = [0, 6, 8, 28, 29] := rfl
@[simp] theorem K30_0 : K 30 0 = [6, 7, 8, 9, 10] := rfl
@[simp] theorem K37_0 : K 37 0 = [1, 5, 6, 7, 8] := rfl
@[simp] theorem K43_0 : K 43 0 = [1, 2, 3, 4, 5, 10, 12, 13] := rfl
@[simp] theorem K43_1 : K 43 1 = [1, 2, 3, 4, 5, 10, 12, 13, 14] := rfl
@[simp] theorem K54_0 : K 54 0 = [2, 3, 4, 6, 7] := rfl
@[simp] theorem K56_0 : K 56 0 = [3, 6, 15, 16, 17] := rfl
@[simp] theorem K58_0 : K 58 0 = [4, 5, 6, 8, 21, 22, 23] := rfl
@[simp] theorem K59_0 : K 59 0 = [3, 4, 5, 6, 8, 9] := rfl
@[simp] theorem K62_0 : K 62 0 = [1, 2, 3, 6, 8, 9] := rfl
@[simp] theorem K65_0 : K 65 0 = [1, 2, 4, 5] := rfl
@[simp] theorem K67_0 : K 67 0 = [4, 5] := rfl
@[simp] theorem K68_0 : K 68 0 = [0, 3, 4] := rfl
@[simp] theorem K69_0 : K 69 0 = [4, 5] := rfl
@[simp] theorem K69_1 : K 69 1 = [4, 5, 16, 17, 18] := rfl
@[simp] theorem K70_0 : K 70 0 = [0, 1, 5] := rfl
@[simp] theorem K71_0 : K 71 0 = [0, 1, 5] := rfl
@[simp] theorem K72_0 : K 72 0 = [0, 1, 5] := rfl
@[simp] theorem K73_0 : K 73 0 = [0, 4, 5] := rfl
@[simp] theorem K74_0 : K 74 0 = [4, 10, 11, 12] := rfl
@[simp] theorem K75_0 : K 75 0 = [0, 1, 5] := rfl
@[simp] theorem K76_0 : K 76 0 = [0, 1, 5] := rfl
@[simp] theorem K77_0 : K 77 0 = [0, 1, 5] := rfl
@[simp] theorem K78_0 : K 78 0 = [0, 1, 5] := rfl
@[simp] theorem K80_0 : K 80 0 = [0, 3, 4] := rfl
@[simp] theorem K81_0 : K 81 0 = [1, 4, 6, 26, 27, 28] := rfl
@[simp] theorem K82_0 : K 82 0 = [0, 1, 5] := rfl
@[simp] theorem K83_0 : K 83 0 = [0, 1, 5] := rfl
@[simp] theorem K86_0 : K 86 0 = [1, 2, 8, 24, 25, 26] := rfl
@[simp] theorem K87_0 : K 87 0 = [0, 1, 2, 8, 9] := rfl
@[simp] theorem K88_0 : K 88 0 = [0, 1, 5] := rfl
@[simp] theorem K89_0 : K 89 0 = [4, 14, 15, 16] := rfl
@[simp] theorem K89_1 : K 89 1 = [4, 7, 8, 14, 15, 16, 27, 28, 29] := rfl
@[simp] theorem K91_0 : K 91 0 = [0, 1, 5] := rfl
@[simp] theorem K93_0 : K 93 0 = [1, 3] := rfl
@[simp] theorem K96_0 : K 96 0 = [1, 2, 3, 4, 9, 10] := rfl
@[simp] theorem K96_1 : K 96 1 = [1, 2, 3, 4, 9, 10, 11] := rfl
@[simp] theorem K96_2 : K 96 2 = [1, 2, 3, 4, 9, 10, 11, 12, 13] := rfl
@[simp] theorem K96_3 : K 96 3 = [1, 2, 3, 4, 9, 10, 11, 12, 13, 14] := rfl
@[simp] theorem K97_0 : K 97 0 = [0, 3, 4] := rfl
@[simp] theorem K99_0 : K 99 0 = [1, 2, 3, 4, 9, 10] := rfl
@[simp] theorem K99_1 : K 99 1 = [1, 2, 3, 4, 9, 10, 11] := rfl
@[simp] theorem K115_0 : K 115 0 = [0, 1, 2, 6, 7, 8] := rfl
@[simp] theorem K117_0 : K 117 0 = [0, 3, 4] := rfl
@[simp] theorem K118_0 : K 118 0 = [0, 3, 4] := rfl
@[simp] theorem K119_0 : K 119 0 = [3, 6, 7, 8] := rfl
@[simp] theorem K125_0 : K 125 0 = [0, 2, 6, 7, 14, 15] := rfl
@[simp] theorem K129_0 : K 129 0 = [0, 1, 5] := rfl
@[simp] theorem K130_0 : K 130 0 = [0, 4, 5, 6] := rfl
@[simp] theorem K131_0 : K 131 0 = [2, 3, 6, 8, 20, 21, 22] := rfl
@[simp] theorem K135_0 : K 135 0 = [0, 4, 5, 6, 8, 9, 10] := rfl
@[simp] theorem K136_0 : K 136 0 = [1, 4, 6, 16, 17, 18] := rfl
@[simp] theorem K139_0 : K 139 0 = [1, 2, 3, 6, 8, 9, 10] := rfl
@[simp] theorem K140_0 : K 140 0 = [1, 2, 4, 5, 6] := rfl
@[simp] theorem K144_0 : K 144 0 = [0, 5, 6, 7] := rfl
@[simp] theorem K151_0 : K 151 0 = [0, 3, 4] := rfl
@[simp] theorem K154_0 : K 154 0 = [3, 9, 10, 11] := rfl
@[simp] theorem K156_0 : K 156 0 = [3, 6, 7, 23, 24, 25] := rfl
@[simp] theorem K160_0 : K 160 0 = [0, 1, 5] := rfl
@[simp] theorem K162_0 : K 162 0 = [0, 3] := rfl
@[simp] theorem K162_1 : K 162 1 = [0, 3, 4, 5] := rfl
@[simp] theorem K163_0 : K 163 0 = [0, 3] := rfl
@[simp] theorem K170_0 : K 170 0 = [0, 2, 3, 4, 5] := rfl
@[simp] theorem K171_0 : K 171 0 = [0, 1, 5, 6] := rfl
@[simp] theorem K174_0 : K 174 0 = [0, 1, 7, 8] := rfl
@[simp] theorem K189_0 : K 189 0 = [0, 1, 2, 3, 8, 9] := rfl
@[simp] theorem K193_0 : K 193 0 = [0, 3, 4, 5] := rfl
@[simp] theorem K193_1 : K 193 1 = [0, 3, 4] := rfl
@[simp] theorem K194_0 : K 194 0 = [7, 8] := rfl
@[simp] theorem K196_0 : K 196 0 = [0, 1, 2, 6] := rfl
@[simp] theorem K196_1 : K 196 1 = [0, 1, 2, 6, 7] := rfl
@[simp] theorem K3_1010 : K 3 1010 = [] := rfl
@[simp] theorem K6_1016 : K 6 1016 = [] := rfl
@[simp] theorem K6_1025 : K 6 1025 = [] := rfl
@[simp] theorem K7_1021 : K 7 1021 = [] := rfl
@[simp] theorem K15_1007 : K 15 1007 = [] := rfl
@[simp] theorem K16_1006 : K 16 1006 = [] := rfl
@[simp] theorem K28_1004 : K 28 1004 = [6, 1072] := rfl
@[simp] theorem K39_1003 : K 39 1003 = [] := rfl
@[simp] theorem K43_1010 : K 43 1010 = [] := rfl
@[simp] theorem K46_1006 : K 46 1006 = [4, 1072] := rfl
@[simp] theorem K52_1006 : K 52 1006 = [2, 16] := rfl
@[simp] theorem K57_1006 : K 57 1006 = [4, 1072, 5, 16] := rfl
@[simp] theorem K58_1010 : K 58 1010 = [] := rfl
@[simp] theorem K58_1007 : K 58 1007 = [] := rfl
@[simp] theorem K59_1010 : K 59 1010 = [] := rfl
@[simp] theorem K59_1007 : K 59 1007 = [] := rfl
@[simp] theorem K62_1008 : K 62 1008 = [] := rfl
@[simp] theorem K65_1008 : K 65 1008 = [] := rfl
@[simp] theorem K69_1010 : K 69 1010 = [] := rfl
@[simp] theorem K70_1006 : K 70 1006 = [] := rfl
@[simp] theorem K75_1006 : K 75 1006 = [] := rfl
@[simp] theorem K81_1010 : K 81 1010 = [] := rfl
@[simp] theorem K82_1006 : K 82 1006 = [] := rfl
@[simp] theorem K88_1006 : K 88 1006 = [] := rfl
@[simp] theorem K114_1006 : K 114 1006 = [6, 0, 6, 6240, 6, 6241, 9, 0, 9, 6288] := rfl
@[simp] theorem K125_1005 : K 125 1005 = [] := rfl
@[simp] theorem K129_1006 : K 129 1006 = [] := rfl
@[simp] theorem K130_1007 : K 130 1007 = [4, 0] := rfl
@[simp] theorem K131_1007 : K 131 1007 = [] := rfl
@[simp] theorem K135_1008 : K 135 1008 = [] := rfl
@[simp] theorem K136_1008 : K 136 1008 = [] := rfl
@[simp] theorem K139_1007 : K 139 1007 = [] := rfl
@[simp] theorem K142_1001 : K 142 1001 = [] := rfl
@[simp] theorem K144_1004 : K 144 1004 = [] := rfl
@[simp] theorem K145_1001 : K 145 1001 = [] := rfl
@[simp] theorem K152_1003 : K 152 1003 = [] := rfl
@[simp] theorem K152_1007 : K 152 1007 = [] := rfl
@[simp] theorem K156_1011 : K 156 1011 = [] := rfl
@[simp] theorem K157_1009 : K 157 1009 = [] := rfl
@[simp] theorem K157_1013 : K 157 1013 = [] := rfl
@[simp] theorem K157_1018 : K 157 1018 = [] := rfl
@[simp] theorem K157_1022 : K 157 1022 = [] := rfl
@[simp] theorem K157_1027 : K 157 1027 = [] := rfl
@[simp] theorem K157_1028 : K 157 1028 = [] := rfl
@[simp] theorem K157_1032 : K 157 1032 = [] := rfl
@[simp] theorem K157_1033 : K 157 1033 = [] := rfl
@[simp] theorem K157_1038 : K 157 1038 = [] := rfl
@[simp] theorem K160_1006 : K 160 1006 = [] := rfl
@[simp] theorem K162_1006 : K 162 1006 = [] := rfl
@[simp] theorem K162_1011 : K 162 1011 = [] := rfl
@[simp] theorem K163_1004 : K 163 1004 = [] := rfl
@[simp] theorem K164_1008 : K 164 1008 = [] := rfl
@[simp] theorem K165_1008 : K 165 1008 = [] := rfl
@[simp] theorem K165_1010 : K 165 1010 = [] := rfl
@[simp] theorem K165_1012 : K 165 1012 = [] := rfl
@[simp] theorem K169_1002 : K 169 1002 = [] := rfl
@[simp] theorem K169_1003 : K 169 1003 = [] := rfl
@[simp] theorem K169_1006 : K 169 1006 = [] := rfl
@[simp] theorem K170_1011 : K 170 1011 = [6, 0, 6, 11360, 6, 11361, 9, 0, 9, 11408] := rfl
@[simp] theorem K189_1017 : K 189 1017 = [] := rfl
@[simp] theorem K194_1009 : K 194 1009 = [] := rfl
@[simp] theorem K196_1004 : K 196 1004 = [] := rfl
@[simp] theorem K196_1006 : K 196 1006 = [] := rfl
@[simp] theorem WR3 : WR 3 = false := rfl
@[simp] theorem OW3 : OW 3 = false := rfl
@[simp] theorem WR4 : WR 4 = false := rfl
@[simp] theorem OW4 : OW 4 = false := rfl
@[simp] theorem WR5 : WR 5 = false := rfl
@[simp] theorem OW5 : OW 5 = false := rfl
@[simp] theorem WR6 : WR 6 = false := rfl
@[simp] theorem OW6 : OW 6 = false := rfl
@[simp] theorem WR7 : WR 7 = false := rfl
@[simp] theorem OW7 : OW 7 = false := rfl
@[simp] theorem WR8 : WR 8 = false := rfl
@[simp] theorem OW8 : OW 8 = false := rfl
@[simp] theorem WR9 : WR 9 = false := rfl
@[simp] theorem OW9 : OW 9 = false := rfl
@[simp] theorem WR10 : WR 10 = false := rfl
@[simp] theorem OW10 : OW 10 = false := rfl
@[simp] theorem WR11 : WR 11 = false := rfl
@[simp] theorem OW11 : OW 11 = false := rfl
@[simp] theorem WR12 : WR 12 = false := rfl
@[simp] theorem OW12 : OW 12 = false := rfl
@[simp] theorem WR13 : WR 13 = false := rfl
@[simp] theorem OW13 : OW 13 = false := rfl
@[simp] theorem WR14 : WR 14 = false := rfl
@[simp] theorem OW14 : OW 14 = false := rfl
@[simp] theorem WR15 : WR 15 = false := rfl
@[simp] theorem OW15 : OW 15 = false := rfl
@[simp] theorem WR16 : WR 16 = false := rfl
@[simp] theorem OW16 : OW 16 = false := rfl
@[simp] theorem WR17 : WR 17 = false := rfl
@[simp] theorem OW17 : OW 17 = false := rfl
@[simp] theorem WR18 : WR 18 = true := rfl
@[simp] theorem OW18 : OW 18 = true := rfl
@[simp] theorem WR19 : WR 19 = true := rfl
@[simp] theorem OW19 : OW 19 = true := rfl
@[simp] theorem WR20 : WR 20 = false := rfl
@[simp] theorem OW20 : OW 20 = false := rfl
@[simp] theorem WR21 : WR 21 = false := rfl
@[simp] theorem OW21 : OW 21 = false := rfl
@[simp] theorem WR22 : WR 22 = false := rfl
@[simp] theorem OW22 : OW 22 = false := rfl
@[simp] theorem WR23 : WR 23 = false := rfl
@[simp] theorem OW23 : OW 23 = false := rfl
@[simp] theorem WR24 : WR 24 = false := rfl
@[simp] theorem OW24 : OW 24 = false := rfl
@[simp] theorem WR25 : WR 25 = false := rfl
@[simp] theorem OW25 : OW 25 = false := rfl
@[simp] theorem WR26 : WR 26 = false := rfl
@[simp] theorem OW26 : OW 26 = false := rfl
@[simp] theorem WR27 : WR 27 = false := rfl
@[simp] theorem OW27 : OW 27 = false := rfl
@[simp] theorem WR28 : WR 28 = false := rfl
@[simp] theorem OW28 : OW 28 = false := rfl
@[simp] theorem WR29 : WR 29 = false := rfl
@[simp] theorem OW29 : OW 29 = false := rfl
@[simp] theorem WR30 : WR 30 = false := rfl
@[simp] theorem OW30 : OW 30 = false := rfl
@[simp] theorem WR31 : WR 31 = false := rfl
@[simp] theorem OW31 : OW 31 = false := rfl
@[simp] theorem WR32 : WR 32 = false := rfl
@[simp] theorem OW32 : OW 32 = false := rfl
@[simp] theorem WR33 : WR 33 = false := rfl
@[simp] theorem OW33 : OW 33 = false := rfl
@[simp] theorem WR34 : WR 34 = false := rfl
@[simp] theorem OW34 : OW 34 = false := rfl
@[simp] theorem WR35 : WR 35 = false := rfl
@[simp] theorem OW35 : OW 35 = false := rfl
@[simp] theorem WR36 : WR 36 = false := rfl
@[simp] theorem OW36 : OW 36 = false := rfl
@[simp] theorem WR37 : WR 37 = false := rfl
@[simp] theorem OW37 : OW 37 = false := rfl
@[simp] theorem WR38 : WR 38 = false := rfl
@[simp] theorem OW38 : OW 38 = false := rfl
@[simp] theorem WR39 : WR 39 = false := rfl
@[simp] theorem OW39 : OW 39 = false := rfl
@[simp] theorem WR40 : WR 40 = false := rfl
@[simp] theorem OW40 : OW 40 = false := rfl
@[simp] theorem WR41 : WR 41 = false := rfl
@[simp] theorem OW41 : OW 41 = false := rfl
@[simp] theorem WR42 : WR 42 = false := rfl
@[simp] theorem OW42 : OW 42 = false := rfl
@[simp] theorem WR43 : WR 43 = false := rfl
@[simp] theorem OW43 : OW 43 = false := rfl
@[simp] theorem WR44 : WR 44 = false := rfl
@[simp] theorem OW44 : OW 44 = false := rfl
@[simp] theorem WR45 : WR 45 = false := rfl
@[simp] theorem OW45 : OW 45 = false := rfl
@[simp] theorem WR46 : WR 46 = false := rfl
@[simp] theorem OW46 : OW 46 = false := rfl
@[simp] theorem WR47 : WR 47 = false := rfl
@[simp] theorem OW47 : OW 47 = false := rfl
@[simp] theorem WR48 : WR 48 = false := rfl
@[simp] theorem OW48 : OW 48 = false := rfl
@[simp] theorem WR49 : WR 49 = false := rfl
@[simp] theorem OW49 : OW 49 = false := rfl
@[simp] theorem WR50 : WR 50 = false := rfl
@[simp] theorem OW50 : OW 50 = false := rfl
@[simp] theorem WR51 : WR 51 = false := rfl
@[simp] theorem OW51 : OW 51 = false := rfl
@[simp] theorem WR52 : WR 52 = false := rfl
@[simp] theorem OW52 : OW 52 = false := rfl
@[simp] theorem WR53 : WR 53 = false := rfl
@[simp] theorem OW53 : OW 53 = false := rfl
@[simp] theorem WR54 : WR 54 = false := rfl
@[simp] theorem OW54 : OW 54 = false := rfl
@[simp] theorem WR55 : WR 55 = false := rfl
@[simp] theorem OW55 : OW 55 = false := rfl
@[simp] theorem WR56 : WR 56 = false := rfl
@[simp] theorem OW56 : OW 56 = false := rfl
@[simp] theorem WR57 : WR 57 = false := rfl
@[simp] theorem OW57 : OW 57 = false := rfl
@[simp] theorem WR58 : WR 58 = false := rfl
@[simp] theorem OW58 : OW 58 = false := rfl
@[simp] theorem WR59 : WR 59 = false := rfl
@[simp] theorem OW59 : OW 59 = false := rfl
@[simp] theorem WR60 : WR 60 = false := rfl
@[simp] theorem OW60 : OW 60 = false := rfl
@[simp] theorem WR61 : WR 61 = false := rfl
@[simp] theorem OW61 : OW 61 = false := rfl
@[simp] theorem WR62 : WR 62 = false := rfl
@[simp] theorem OW62 : OW 62 = false := rfl
@[simp] theorem WR63 : WR 63 = false := rfl
@[simp] theorem OW63 : OW 63 = false := rfl
@[simp] theorem WR64 : WR 64 = false := rfl
@[simp] theorem OW64 : OW 64 = false := rfl
@[simp] theorem WR65 : WR 65 = false := rfl
@[simp] theorem OW65 : OW 65 = false := rfl
@[simp] theorem WR66 : WR 66 = false := rfl
@[simp] theorem OW66 : OW 66 = false := rfl
@[simp] theorem WR67 : WR 67 = false := rfl
@[simp] theorem OW67 : OW 67 = false := rfl
@[simp] theorem WR68 : WR 68 = false := rfl
@[simp] theorem OW68 : OW 68 = false := rfl
@[simp] theorem WR69 : WR 69 = false := rfl
@[simp] theorem OW69 : OW 69 = false := rfl
@[simp] theorem WR70 : WR 70 = false := rfl
@[simp] theorem OW70 : OW 70 = false := rfl
@[simp] theorem WR71 : WR 71 = true := rfl
@[simp] theorem OW71 : OW 71 = true := rfl
@[simp] theorem WR72 : WR 72 = false := rfl
@[simp] theorem OW72 : OW 72 = false := rfl
@[simp] theorem WR73 : WR 73 = false := rfl
@[simp] theorem OW73 : OW 73 = false := rfl
@[simp] theorem WR74 : WR 74 = false := rfl
@[simp] theorem OW74 : OW 74 = false := rfl
@[simp] theorem WR75 : WR 75 = false := rfl
@[simp] theorem OW75 : OW 75 = false := rfl
@[simp] theorem WR76 : WR 76 = true := rfl
@[simp] theorem OW76 : OW 76 = true := rfl
@[simp] theorem WR77 : WR 77 = false := rfl
@[simp] theorem OW77 : OW 77 = false := rfl
@[simp] theorem WR78 : WR 78 = false := rfl
@[simp] theorem OW78 : OW 78 = false := rfl
@[simp] theorem WR79 : WR 79 = false := rfl
@[simp] theorem OW79 : OW 79 = false := rfl
@[simp] theorem WR80 : WR 80 = false := rfl
@[simp] theorem OW80 : OW 80 = false := rfl
@[simp] theorem WR81 : WR 81 = false := rfl
@[simp] theorem OW81 : OW 81 = false := rfl
@[simp] theorem WR82 : WR 82 = false := rfl
@[simp] theorem OW82 : OW 82 = false := rfl
@[simp] theorem WR83 : WR 83 = true := rfl
@[simp] theorem OW83 : OW 83 = true := rfl
@[simp] theorem WR84 : WR 84 = false := rfl
@[simp] theorem OW84 : OW 84 = false := rfl
@[simp] theorem WR85 : WR 85 = false := rfl
@[simp] theorem OW85 : OW 85 = false := rfl
@[simp] theorem WR86 : WR 86 = false := rfl
@[simp] theorem OW86 : OW 86 = false := rfl
@[simp] theorem WR87 : WR 87 = false := rfl
@[simp] theorem OW87 : OW 87 = false := rfl
@[simp] theorem WR88 : WR 88 = false := rfl
@[simp] theorem OW88 : OW 88 = false := rfl
@[simp] theorem WR89 : WR 89 = false := rfl
@[simp] theorem OW89 : OW 89 = false := rfl
@[simp] theorem WR90 : WR 90 = false := rfl
@[simp] theorem OW90 : OW 90 = false := rfl
@[simp] theorem WR91 : WR 91 = false := rfl
@[simp] theorem OW91 : OW 91 = false := rfl
@[simp] theorem WR92 : WR 92 = false := rfl
@[simp] theorem OW92 : OW 92 = false := rfl
@[simp] theorem WR93 : WR 93 = false := rfl
@[simp] theorem OW93 : OW 93 = false := rfl
@[simp] theorem WR94 : WR 94 = false := rfl
@[simp] theorem OW94 : OW 94 = false := rfl
@[simp] theorem WR95 : WR 95 = false := rfl
@[simp] theorem OW95 : OW 95 = false := rfl
@[simp] theorem WR96 : WR 96 = false := rfl
@[simp] theorem OW96 : OW 96 = false := rfl
@[simp] theorem WR97 : WR 97 = false := rfl
@[simp] theorem OW97 : OW 97 = false := rfl
@[simp] theorem WR98 : WR 98 = false := rfl
@[simp] theorem OW98 : OW 98 = false := rfl
@[simp] theorem WR99 : WR 99 = false := rfl
@[simp] theorem OW99 : OW 99 = false := rfl
@[simp] theorem WR100 : WR 100 = true := rfl
@[simp] theorem OW100 : OW 100 = false := rfl
@[simp] theorem WR101 : WR 101 = false := rfl
@[simp] theorem OW101 : OW 101 = false := rfl
@[simp] theorem WR102 : WR 102 = false := rfl
@[simp] theorem OW102 : OW 102 = false := rfl
@[simp] theorem WR103 : WR 103 = true := rfl
@[simp] theorem OW103 : OW 103 = false := rfl
@[simp] theorem WR104 : WR 104 = true := rfl
@[simp] theorem OW104 : OW 104 = false := rfl
@[simp] theorem WR105 : WR 105 = true := rfl
@[simp] theorem OW105 : OW 105 = false := rfl
@[simp] theorem WR106 : WR 106 = false := rfl
@[simp] theorem OW106 : OW 106 = false := rfl
@[simp] theorem WR107 : WR 107 = false := rfl
@[simp] theorem OW107 : OW 107 = false := rfl
@[simp] theorem WR108 : WR 108 = false := rfl
@[simp] theorem OW108 : OW 108 = false := rfl
@[simp] theorem WR109 : WR 109 = false := rfl
@[simp] theorem OW109 : OW 109 = false := rfl
@[simp] theorem WR110 : WR 110 = false := rfl
@[simp] theorem OW110 : OW 110 = false := rfl
@[simp] theorem WR111 : WR 111 = true := rfl
@[simp] theorem OW111 : OW 111 = false := rfl
@[simp] theorem WR112 : WR 112 = false := rfl
@[simp] theorem OW112 : OW 112 = false := rfl
@[simp] theorem WR113 : WR 113 = false := rfl
@[simp] theorem OW113 : OW 113 = false := rfl
@[simp] theorem WR114 : WR 114 = true := rfl
@[simp] theorem OW114 : OW 114 = false := rfl
@[simp] theorem WR115 : WR 115 = false := rfl
@[simp] theorem OW115 : OW 115 = false := rfl
@[simp] theorem WR116 : WR 116 = false := rfl
@[simp] theorem OW116 : OW 116 = false := rfl
@[simp] theorem WR117 : WR 117 = false := rfl
@[simp] theorem OW117 : OW 117 = false := rfl
@[simp] theorem WR118 : WR 118 = false := rfl
@[simp] theorem OW118 : OW 118 = false := rfl
@[simp] theorem WR119 : WR 119 = false := rfl
@[simp] theorem OW119 : OW 119 = false := rfl
@[simp] theorem WR120 : WR 120 = false := rfl
@[simp] theorem OW120 : OW 120 = false := rfl
@[simp] theorem WR121 : WR 121 = false := rfl
@[simp] theorem OW121 : OW 121 = false := rfl
@[simp] theorem WR122 : WR 122 = false := rfl
@[simp] theorem OW122 : OW 122 = false := rfl
@[simp] theorem WR123 : WR 123 = false := rfl
@[simp] theorem OW123 : OW 123 = false := rfl
@[simp] theorem WR124 : WR 124 = false := rfl
@[simp] theorem OW124 : OW 124 = false := rfl
@[simp] theorem WR125 : WR 125 = false := rfl
@[simp] theorem OW125 : OW 125 = false := rfl
@[simp] theorem WR126 : WR 126 = false := rfl
@[simp] theorem OW126 : OW 126 = false := rfl
@[simp] theorem WR127 : WR 127 = false := rfl
@[simp] theorem OW127 : OW 127 = false := rfl
@[simp] theorem WR128 : WR 128 = false := rfl
@[simp] theorem OW128 : OW 128 = false := rfl
@[simp] theorem WR129 : WR 129 = false := rfl
@[simp] theorem OW129 : OW 129 = false := rfl
@[simp] theorem WR130 : WR 130 = true := rfl
@[simp] theorem OW130 : OW 130 = false := rfl
@[simp] theorem WR131 : WR 131 = false := rfl
@[simp] theorem OW131 : OW 131 = false := rfl
@[simp] theorem WR132 : WR 132 = false := rfl
@[simp] theorem OW132 : OW 132 = false := rfl
@[simp] theorem WR133 : WR 133 = false := rfl
@[simp] theorem OW133 : OW 133 = false := rfl
@[simp] theorem WR134 : WR 134 = false := rfl
@[simp] theorem OW134 : OW 134 = false := rfl
@[simp] theorem WR135 : WR 135 = false := rfl
@[simp] theorem OW135 : OW 135 = false := rfl
@[simp] theorem WR136 : WR 136 = false := rfl
@[simp] theorem OW136 : OW 136 = false := rfl
@[simp] theorem WR137 : WR 137 = false := rfl
@[simp] theorem OW137 : OW 137 = false := rfl
@[simp] theorem WR138 : WR 138 = false := rfl
@[simp] theorem OW138 : OW 138 = false := rfl
@[simp] theorem WR139 : WR 139 = false := rfl
@[simp] theorem OW139 : OW 139 = false := rfl
@[simp] theorem WR140 : WR 140 = false := rfl
@[simp] theorem OW140 : OW 140 = false := rfl
@[simp] theorem WR141 : WR 141 = false := rfl
@[simp] theorem OW141 : OW 141 = false := rfl
@[simp] theorem WR142 : WR 142 = false := rfl
@[simp] theorem OW142 : OW 142 = false := rfl
@[simp] theorem WR143 : WR 143 = false := rfl
@[simp] theorem OW143 : OW 143 = false := rfl
@[simp] theorem WR144 : WR 144 = false := rfl
@[simp] theorem OW144 : OW 144 = false := rfl
@[simp] theorem WR145 : WR 145 = false := rfl
@[simp] theorem OW145 : OW 145 = false := rfl
@[simp] theorem WR146 : WR 146 = false := rfl
@[simp] theorem OW146 : OW 146 = false := rfl
@[simp] theorem WR147 : WR 147 = false := rfl
@[simp] theorem OW147 : OW 147 = false := rfl
@[simp] theorem WR148 : WR 148 = false := rfl
@[simp] theorem OW148 : OW 148 = false := rfl
@[simp] theorem WR149 : WR 149 = false := rfl
@[simp] theorem OW149 : OW 149 = false := rfl
@[simp] theorem WR150 : WR 150 = false := rfl
@[simp] theorem OW150 : OW 150 = false := rfl
@[simp] theorem WR151 : WR 151 = false := rfl
@[simp] theorem OW151 : OW 151 = false := rfl
@[simp] theorem WR152 : WR 152 = false := rfl
@[simp] theorem OW152 : OW 152 = false := rfl
@[simp] theorem WR153 : WR 153 = false := rfl
@[simp] theorem OW153 : OW 153 = false := rfl
@[simp] theorem WR154 : WR 154 = false := rfl
@[simp] theorem OW154 : OW 154 = false := rfl
@[simp] theorem WR155 : WR 155 = false := rfl
@[simp] theorem OW155 : OW 155 = false := rfl
@[simp] theorem WR156 : WR 156 = false := rfl
@[simp] theorem OW156 : OW 156 = false := rfl
@[simp] theorem WR157 : WR 157 = false := rfl
@[simp] theorem OW157 : OW 157 = false := rfl
@[simp] theorem WR158 : WR 158 = false := rfl
@[simp] theorem OW158 : OW 158 = false := rfl
@[simp] theorem WR159 : WR 159 = false := rfl
@[simp] theorem OW159 : OW 159 = false := rfl
@[simp] theorem WR160 : WR 160 = false := rfl
@[simp] theorem OW160 : OW 160 = false := rfl
@[simp] theorem WR161 : WR 161 = true := rfl
@[simp] theorem OW161 : OW 161 = true := rfl
@[simp] theorem WR162 : WR 162 = true := rfl
@[simp] theorem OW162 : OW 162 = true := rfl
@[simp] theorem WR163 : WR 163 = false := rfl
@[simp] theorem OW163 : OW 163 = false := rfl
@[simp] theorem WR164 : WR 164 = false := rfl
@[simp] theorem OW164 : OW 164 = false := rfl
@[simp] theorem WR165 : WR 165 = false := rfl
@[simp] theorem OW165 : OW 165 = false := rfl
@[simp] theorem WR166 : WR 166 = true := rfl
@[simp] theorem OW166 : OW 166 = false := rfl
@[simp] theorem WR167 : WR 167 = false := rfl
@[simp] theorem OW167 : OW 167 = false := rfl
@[simp] theorem WR168 : WR 168 = false := rfl
@[simp] theorem OW168 : OW 168 = false := rfl
@[simp] theorem WR169 : WR 169 = true := rfl
@[simp] theorem OW169 : OW 169 = false := rfl
@[simp] theorem WR170 : WR 170 = true := rfl
@[simp] theorem OW170 : OW 170 = false := rfl
@[simp] theorem WR171 : WR 171 = true := rfl
@[simp] theorem OW171 : OW 171 = true := rfl
@[simp] theorem WR172 : WR 172 = false := rfl
@[simp] theorem OW172 : OW 172 = false := rfl
@[simp] theorem WR173 : WR 173 = false := rfl
@[simp] theorem OW173 : OW 173 = false := rfl
@[simp] theorem WR174 : WR 174 = false := rfl
@[simp] theorem OW174 : OW 174 = false := rfl
@[simp] theorem WR175 : WR 175 = false := rfl
@[simp] theorem OW175 : OW 175 = false := rfl
@[simp] theorem WR176 : WR 176 = true := rfl
@[simp] theorem OW176 : OW 176 = true := rfl
@[simp] theorem WR177 : WR 177 = false := rfl
@[simp] theorem OW177 : OW 177 = false := rfl
@[simp] theorem WR178 : WR 178 = true := rfl
@[simp] theorem OW178 : OW 178 = true := rfl
@[simp] theorem WR179 : WR 179 = false := rfl
@[simp] theorem OW179 : OW 179 = false := rfl
@[simp] theorem WR180 : WR 180 = false := rfl
@[simp] theorem OW180 : OW 180 = false := rfl
@[simp] theorem WR181 : WR 181 = false := rfl
@[simp] theorem OW181 : OW 181 = false := rfl
@[simp] theorem WR182 : WR 182 = false := rfl
@[simp] theorem OW182 : OW 182 = false := rfl
@[simp] theorem WR183 : WR 183 = false := rfl
@[simp] theorem OW183 : OW 183 = false := rfl
@[simp] theorem WR184 : WR 184 = false := rfl
@[simp] theorem OW184 : OW 184 = false := rfl
@[simp] theorem WR189 : WR 189 = true := rfl
@[simp] theorem OW189 : OW 189 = true := rfl
@[simp] theorem WR190 : WR 190 = false := rfl
@[simp] theorem OW190 : OW 190 = false := rfl
@[simp] theorem WR191 : WR 191 = false := rfl
@[simp] theorem OW191 : OW 191 = false := rfl
@[simp] theorem WR192 : WR 192 = false := rfl
@[simp] theorem OW192 : OW 192 = false := rfl
@[simp] theorem WR193 : WR 193 = true := rfl
@[simp] theorem OW193 : OW 193 = false := rfl
@[simp] theorem WR194 : WR 194 = false := rfl
@[simp] theorem OW194 : OW 194 = false := rfl
@[simp] theorem WR196 : WR 196 = true := rfl
@[simp] theorem OW196 : OW 196 = true := rfl
@[simp] theorem WR202 : WR 202 = false := rfl
@[simp] theorem OW202 : OW 202 = false := rfl
@[simp] theorem WR205 : WR 205 = false := rfl
@[simp] theorem OW205 : OW 205 = false := rfl
@[simp] theorem WR206 : WR 206 = false := rfl
@[simp] theorem OW206 : OW 206 = false := rfl
@[simp] theorem WR207 : WR 207 = false := rfl
@[simp] theorem OW207 : OW 207 = false := rfl
@[simp] theorem WR208 : WR 208 = false := rfl
@[simp] theorem OW208 : OW 208 = false := rfl
@[simp] theorem WR215 : WR 215 = false := rfl
@[simp] theorem OW215 : OW 215 = false := rfl
@[simp] theorem WR216 : WR 216 = false := rfl
@[simp] theorem OW216 : OW 216 = false := rfl
@[simp] theorem WR217 : WR 217 = false := rfl
@[simp] theorem OW217 : OW 217 = false := rfl
@[simp] theorem WRt3 : WR 1000003 = false := rfl
@[simp] theorem WRt4 : WR 1000004 = false := rfl
@[simp] theorem WRt5 : WR 1000005 = false := rfl
@[simp] theorem WRt9 : WR 1000009 = false := rfl
@[simp] theorem WRt22 : WR 1000022 = false := rfl
@[simp] theorem WRt24 : WR 1000024 = false := rfl
@[simp] theorem WRt26 : WR 1000026 = false := rfl
@[simp] theorem WRt29 : WR 1000029 = false := rfl
@[simp] theorem WRt36 : WR 1000036 = true := rfl
@[simp] theorem WRt73 : WR 1000073 = false := rfl
@[simp] theorem WRt75 : WR 1000075 = false := rfl
@[simp] theorem WRt86 : WR 1000086 = false := rfl
@[simp] theorem WRt89 : WR 1000089 = false := rfl
@[simp] theorem WRt103 : WR 1000103 = false := rfl
@[simp] theorem WRt104 : WR 1000104 = false := rfl
@[simp] theorem WRt106 : WR 1000106 = false := rfl
@[simp] theorem WRt108 : WR 1000108 = false := rfl
@[simp] theorem WRt109 : WR 1000109 = false := rfl
@[simp] theorem WRt111 : WR 1000111 = false := rfl
@[simp] theorem WRt114 : WR 1000114 = false := rfl
@[simp] theorem WRt118 : WR 1000118 = false := rfl
@[simp] theorem WRt134 : WR 1000134 = false := rfl
@[simp] theorem WRt136 : WR 1000136 = false := rfl
@[simp] theorem WRt157 : WR 1000157 = false := rfl
@[simp] theorem WRt161 : WR 1000161 = false := rfl
@[simp] theorem WRt168 : WR 1000168 = false := rfl
noncomputable def F_0 : FuncId → Option Func
  | 3 => some Try.f3
  | 4 => some Try.f4
  | 5 => some Try.f5
  | 6 => some Try.f6
  | 7 => some Try.f7
  | 8 => some Try.f8
  | 9 => some Try.f9
  | 10 => some Try.f10
  | 11 => some Try.f11
  | 12 => some Try.f12
  | 13 => some Try.f13
  | 14 => some Try.f14
  | 15 => some Try.f15
  | 16 => some Try.f16
  | 17 => some Try.f17
  | 18 => some Try.f18
  | 19 => some Try.f19
  | 20 => some Try.f20
  | 21 => some Try.f21
  | 22 => some Try.f22
  | 23 => some Try.f23
  | 24 => some Try.f24
  | 25 => some Try.f25
  | 26 => some Try.f26
  | f => none
noncomputable def F_1 : FuncId → Option Func
  | 27 => some Try.f27
  | 28 => some Try.f28
  | 29 => some Try.f29
  | 30 => some Try.f30
  | 31 => some Try.f31
  | 32 => some Try.f32
  | 33 => some Try.f33
  | 34 => some Try.f34
  | 35 => some Try.f35
  | 36 => some Try.f36
  | 37 => some Try.f37
  | 38 => some Try.f38
  | 39 => some Try.f39
  | 40 => some Try.f40
  | 41 => some Try.f41
  | 42 => some Try.f42
  | 43 => some Try.f43
  | 44 => some Try.f44
  | 45 => some Try.f45
  | 46 => some Try.f46
  | 47 => some Try.f47
  | 48 => some Try.f48
  | 49 => some Try.f49
  | 50 => some Try.f50
  | f => F_0 f
noncomputable def F_2 : FuncId → Option Func
  | 51 => some Try.f51
  | 52 => some Try.f52
  | 53 => some Try.f53
  | 54 => some Try.f54
  | 55 => some Try.f55
  | 56 => some Try.f56
  | 57 => some Try.f57
  | 58 => some Try.f58
  | 59 => some Try.f59
  | 60 => some Try.f60
  | 61 => some Try.f61
  | 62 => some Try.f62
  | 63 => some Try.f63
  | 64 => some Try.f64
  | 65 => some Try.f65
  | 66 => some Try.f66
  | 67 => some Try.f67
  | 68 => some Try.f68
  | 69 => some Try.f69
  | 70 => some Try.f70
  | 71 => some Try.f71
  | 72 => some Try.f72
  | 73 => some Try.f73
  | 74 => some Try.f74
  | f => F_1 f
noncomputable def F_3 : FuncId → Option Func
  | 75 => some Try.f75
  | 76 => some Try.f76
  | 77 => some Try.f77
  | 78 => some Try.f78
  | 79 => some Try.f79
  | 80 => some Try.f80
  | 81 => some Try.f81
  | 82 => some Try.f82
  | 83 => some Try.f83
  | 84 => some Try.f84
  | 85 => some Try.f85
  | 86 => some Try.f86
  | 87 => some Try.f87
  | 88 => some Try.f88
  | 89 => some Try.f89
  | 90 => some Try.f90
  | 91 => some Try.f91
  | 92 => some Try.f92
  | 93 => some Try.f93
  | 94 => some Try.f94
  | 95 => some Try.f95
  | 96 => some Try.f96
  | 97 => some Try.f97
  | 98 => some Try.f98
  | f => F_2 f
noncomputable def F_4 : FuncId → Option Func
  | 99 => some Try.f99
  | 100 => some Try.f100
  | 101 => some Try.f101
  | 102 => some Try.f102
  | 103 => some Try.f103
  | 104 => some Try.f104
  | 105 => some Try.f105
  | 106 => some Try.f106
  | 107 => some Try.f107
  | 108 => some Try.f108
  | 109 => some Try.f109
  | 110 => some Try.f110
  | 111 => some Try.f111
  | 112 => some Try.f112
  | 113 => some Try.f113
  | 114 => some Try.f114
  | 115 => some Try.f115
  | 116 => some Try.f116
  | 117 => some Try.f117
  | 118 => some Try.f118
  | 119 => some Try.f119
  | 120 => some Try.f120
  | 121 => some Try.f121
  | 122 => some Try.f122
  | f => F_3 f
noncomputable def F_5 : FuncId → Option Func
  | 123 => some Try.f123
  | 124 => some Try.f124
  | 125 => some Try.f125
  | 126 => some Try.f126
  | 127 => some Try.f127
  | 128 => some Try.f128
  | 129 => some Try.f129
  | 130 => some Try.f130
  | 131 => some Try.f131
  | 132 => some Try.f132
  | 133 => some Try.f133
  | 134 => some Try.f134
  | 135 => some Try.f135
  | 136 => some Try.f136
  | 137 => some Try.f137
  | 138 => some Try.f138
  | 139 => some Try.f139
  | 140 => some Try.f140
  | 141 => some Try.f141
  | 142 => some Try.f142
  | 143 => some Try.f143
  | 144 => some Try.f144
  | 145 => some Try.f145
  | 146 => some Try.f146
  | f => F_4 f
noncomputable def F_6 : FuncId → Option Func
  | 147 => some Try.f147
  | 148 => some Try.f148
  | 149 => some Try.f149
  | 150 => some Try.f150
  | 151 => some Try.f151
  | 152 => some Try.f152
  | 153 => some Try.f153
  | 154 => some Try.f154
  | 155 => some Try.f155
  | 156 => some Try.f156
  | 157 => some Try.f157
  | 158 => some Try.f158
  | 159 => some Try.f159
  | 160 => some Try.f160
  | 161 => some Try.f161
  | 162 => some Try.f162
  | 163 => some Try.f163
  | 164 => some Try.f164
  | 165 => some Try.f165
  | 166 => some Try.f166
  | 167 => some Try.f167
  | 168 => some Try.f168
  | 169 => some Try.f169
  | 170 => some Try.f170
  | f => F_5 f
noncomputable def F_7 : FuncId → Option Func
  | 171 => some Try.f171
  | 172 => some Try.f172
  | 173 => some Try.f173
  | 174 => some Try.f174
  | 175 => some Try.f175
  | 176 => some Try.f176
  | 177 => some Try.f177
  | 178 => some Try.f178
  | 179 => some Try.f179
  | 180 => some Try.f180
  | 181 => some Try.f181
  | 182 => some Try.f182
  | 183 => some Try.f183
  | 184 => some Try.f184
  | 189 => some Try.f189
  | 190 => some Try.f190
  | 191 => some Try.f191
  | 192 => some Try.f192
  | 193 => some Try.f193
  | 194 => some Try.f194
  | 196 => some Try.f196
  | 202 => some Try.f202
  | 205 => some Try.f205
  | 206 => some Try.f206
  | f => F_6 f
noncomputable def F_8 : FuncId → Option Func
  | 207 => some Try.f207
  | 208 => some Try.f208
  | 215 => some Try.f215
  | 216 => some Try.f216
  | 217 => some Try.f217
  | f => F_7 f
noncomputable def F : FuncId → Option Func := F_8
theorem F3 : F 3 = some Try.f3 := rfl
theorem chk3 : ∀ c, Try.f3.body = some c → chk WR (K 3) Try.f3.ntmps c = true := by intro c h; cases h; decide +kernel
theorem F4 : F 4 = some Try.f4 := rfl
theorem chk4 : ∀ c, Try.f4.body = some c → chk WR (K 4) Try.f4.ntmps c = true := by intro c h; cases h; decide +kernel
theorem F5 : F 5 = some Try.f5 := rfl
theorem chk5 : ∀ c, Try.f5.body = some c → chk WR (K 5) Try.f5.ntmps c = true := by intro c h; cases h; decide +kernel
theorem F6 : F 6 = some Try.f6 := rfl
theorem chk6 : ∀ c, Try.f6.body = some c → chk WR (K 6) Try.f6.ntmps c = true := by intro c h; cases h; decide +kernel
theorem F7 : F 7 = some Try.f7 := rfl
theorem chk7 : ∀ c, Try.f7.body = some c → chk WR (K 7) Try.f7.ntmps c = true := by intro c h; cases h; decide +kernel
theorem F8 : F 8 = some Try.f8 := rfl
theorem chk8 : ∀ c, Try.f8.body = some c → chk WR (K 8) Try.f8.ntmps c = true := by intro c h; cases h; decide +kernel
theorem F9 : F 9 = some Try.f9 := rfl
theorem chk9 : ∀ c, Try.f9.body = some c → chk WR (K 9) Try.f9.ntmps c = true := by intro c h; cases h; decide +kernel
theorem F10 : F 10 = some Try.f10 := rfl
theorem chk10 : ∀ c, Try.f10.body = some c → chk WR (K 10) Try.f10.ntmps c = true := by intro c h; cases h; decide +kernel
theorem F11 : F 11 = some Try.f11 := rfl
theorem chk11 : ∀ c, Try.f11.body = some c → chk WR (K 11) Try.f11.ntmps c = true := by intro c h; cases h; decide +kernel
theorem F12 : F 12 = some Try.f12 := rfl
theorem chk12 : ∀ c, Try.f12.body = some c → chk WR (K 12) Try.f12.ntmps c = true := by intro c h; cases h; decide +kernel
theorem F13 : F 13 = some Try.f13 := rfl
theorem chk13 : ∀ c, Try.f13.body = some c → chk WR (K 13) Try.f13.ntmps c = true := by intro c h; cases h; decide +kernel
theorem F14 : F 14 = some Try.f14 := rfl
theorem chk14 : ∀ c, Try.f14.body = some c → chk WR (K 14) Try.f14.ntmps c = true := by intro c h; cases h; decide +kernel
theorem F15 : F 15 = some Try.f15 := rfl
theorem chk15 : ∀ c, Try.f15.body = some c → chk WR (K 15) Try.f15.ntmps c = true := by intro c h; cases h; decide +kernel
theorem F16 : F 16 = some Try.f16 := rfl
theorem chk16 : ∀ c, Try.f16.body = some c → chk WR (K 16) Try.f16.ntmps c = true := by intro c h; cases h; decide +kernel
theorem F17 : F 17 = some Try.f17 := rfl
theorem chk17 : ∀ c, Try.f17.body = some c → chk WR (K 17) Try.f17.ntmps c = true := by intro c h; cases h; decide +kernel
theorem F18 : F 18 = some Try.f18 := rfl
theorem chk18 : ∀ c, Try.f18.body = some c → chk WR (K 18) Try.f18.ntmps c = true := by intro c h; cases h; decide +kernel
theorem F19 : F 19 = some Try.f19 := rfl
theorem chk19 : ∀ c, Try.f19.body = some c → chk WR (K 19) Try.f19.ntmps c = true := by intro c h; cases h; decide +kernel
theorem F20 : F 20 = some Try.f20 := rfl
theorem chk20 : ∀ c, Try.f20.body = some c → chk WR (K 20) Try.f20.ntmps c = true := by intro c h; cases h; decide +kernel
theorem F21 : F 21 = some Try.f21 := rfl
theorem chk21 : ∀ c, Try.f21.body = some c → chk WR (K 21) Try.f21.ntmps c = true := by intro c h; cases h; decide +kernel
theorem F22 : F 22 = some Try.f22 := rfl
theorem chk22 : ∀ c, Try.f22.body = some c → chk WR (K 22) Try.f22.ntmps c = true := by intro c h; cases h; decide +kernel
theorem F23 : F 23 = some Try.f23 := rfl
theorem chk23 : ∀ c, Try.f23.body = some c → chk WR (K 23) Try.f23.ntmps c = true := by intro c h; cases h; decide +kernel
theorem F24 : F 24 = some Try.f24 := rfl
theorem chk24 : ∀ c, Try.f24.body = some c → chk WR (K 24) Try.f24.ntmps c = true := by intro c h; cases h; decide +kernel
theorem F25 : F 25 = some Try.f25 := rfl
theorem chk25 : ∀ c, Try.f25.body = some c → chk WR (K 25) Try.f25.ntmps c = true := by intro c h; cases h; decide +kernel
theorem F26 : F 26 = some Try.f26 := rfl
theorem chk26 : ∀ c, Try.f26.body = some c → chk WR (K 26) Try.f26.ntmps c = true := by intro c h; cases h; decide +kernel
theorem F27 : F 27 = some Try.f27 := rfl
theorem chk27 : ∀ c, Try.f27.body = some c → chk WR (K 27) Try.f27.ntmps c = true := by intro c h; cases h; decide +kernel
theorem F28 : F 28 = some Try.f28 := rfl
theorem chk28 : ∀ c, Try.f28.body = some c → chk WR (K 28) Try.f28.ntmps c = true := by intro c h; cases h; decide +kernel
theorem F29 : F 29 = some Try.f29 := rfl
theorem chk29 : ∀ c, Try.f29.body = some c → chk WR (K 29) Try.f29.ntmps c = true := by intro c h; cases h; decide +kernel
theorem F30 : F 30 = some Try.f30 := rfl
theorem chk30 : ∀ c, Try.f30.body = some c → chk WR (K 30) Try.f30.ntmps c = true := by intro c h; cases h; decide +kernel
theorem F31 : F 31 = some Try.f31 := rfl
theorem chk31 : ∀ c, Try.f31.body = some c → chk WR (K 31) Try.f31.ntmps c = true := by intro c h; cases h; decide +kernel
theorem F32 : F 32 = some Try.f32 := rfl
theorem chk32 : ∀ c, Try.f32.body = some c → chk WR (K 32) Try.f32.ntmps c = true := by intro c h; cases h; decide +kernel
theorem F33 : F 33 = some Try.f33 := rfl
theorem chk33 : ∀ c, Try.f33.body = some c → chk WR (K 33) Try.f33.ntmps c = true := by intro c h; cases h; decide +kernel
theorem F34 : F 34 = some Try.f34 := rfl
theorem chk34 : ∀ c, Try.f34.body = some c → chk WR (K 34) Try.f34.ntmps c = true := by intro c h; cases h; decide +kernel
theorem F35 : F 35 = some Try.f35 := rfl
theorem chk35 : ∀ c, Try.f35.body = some c → chk WR (K 35) Try.f35.ntmps c = true := by intro c h; cases h; decide +kernel
theorem F36 : F 36 = some Try.f36 := rfl
theorem chk36 : ∀ c, Try.f36.body = some c → chk WR (K 36) Try.f36.ntmps c = true := by intro c h; cases h; decide +kernel
theorem F37 : F 37 = some Try.f37 := rfl
theorem chk37 : ∀ c, Try.f37.body = some c → chk WR (K 37) Try.f37.ntmps c = true := by intro c h; cases h; decide +kernel
theorem F38 : F 38 = some Try.f38 := rfl
theorem chk38 : ∀ c, Try.f38.body = some c → chk WR (K 38) Try.f38.ntmps c = true := by intro c h; cases h; decide +kernel
theorem F39 : F 39 = some Try.f39 := rfl
theorem chk39 : ∀ c, Try.f39.body = some c → chk WR (K 39) Try.f39.ntmps c = true := by intro c h; cases h; decide +kernel
theorem F40 : F 40 = some Try.f40 := rfl
theorem chk40 : ∀ c, Try.f40.body = some c → chk WR (K 40) Try.f40.ntmps c = true := by intro c h; cases h; decide +kernel
theorem F41 : F 41 = some Try.f41 := rfl
theorem chk41 : ∀ c, Try.f41.body = some c → chk WR (K 41) Try.f41.ntmps c = true := by intro c h; cases h; decide +kernel
theorem F42 : F 42 = some Try.f42 := rfl
theorem chk42 : ∀ c, Try.f42.body = some c → chk WR (K 42) Try.f42.ntmps c = true := by intro c h; cases h; decide +kernel
theorem F43 : F 43 = some Try.f43 := rfl
theorem chk43 : ∀ c, Try.f43.body = some c → chk WR (K 43) Try.f43.ntmps c = true := by intro c h; cases h; decide +kernel
theorem F44 : F 44 = some Try.f44 := rfl
theorem chk44 : ∀ c, Try.f44.body = some c → chk WR (K 44) Try.f44.ntmps c = true := by intro c h; cases h; decide +kernel
theorem F45 : F 45 = some Try.f45 := rfl
theorem chk45 : ∀ c, Try.f45.body = some c → chk WR (K 45) Try.f45.ntmps c = true := by intro c h; cases h; decide +kernel
theorem F46 : F 46 = some Try.f46 := rfl
theorem chk46 : ∀ c, Try.f46.body = some c → chk WR (K 46) Try.f46.ntmps c = true := by intro c h; cases h; decide +kernel
theorem F47 : F 47 = some Try.f47 := rfl
theorem chk47 : ∀ c, Try.f47.body = some c → chk WR (K 47) Try.f47.ntmps c = true := by intro c h; cases h; decide +kernel
theorem F48 : F 48 = some Try.f48 := rfl
theorem chk48 : ∀ c, Try.f48.body = some c → chk WR (K 48) Try.f48.ntmps c = true := by intro c h; cases h; decide +kernel
theorem F49 : F 49 = some Try.f49 := rfl
theorem chk49 : ∀ c, Try.f49.body = some c → chk WR (K 49) Try.f49.ntmps c = true := by intro c h; cases h; decide +kernel
theorem F50 : F 50 = some Try.f50 := rfl
theorem chk50 : ∀ c, Try.f50.body = some c → chk WR (K 50) Try.f50.ntmps c = true := by intro c h; cases h; decide +kernel
theorem F51 : F 51 = some Try.f51 := rfl
theorem chk51 : ∀ c, Try.f51.body = some c → chk WR (K 51) Try.f51.ntmps c = true := by intro c h; cases h; decide +kernel
theorem F52 : F 52 = some Try.f52 := rfl
theorem chk52 : ∀ c, Try.f52.body = some c → chk WR (K 52) Try.f52.ntmps c = true := by intro c h; cases h; decide +kernel
theorem F53 : F 53 = some Try.f53 := rfl
theorem chk53 : ∀ c, Try.f53.body = some c → chk WR (K 53) Try.f53.ntmps c = true := by intro c h; cases h; decide +kernel
theorem F54 : F 54 = some Try.f54 := rfl
theorem chk54 : ∀ c, Try.f54.body = some c → chk WR (K 54) Try.f54.ntmps c = true := by intro c h; cases h; decide +kernel
theorem F55 : F 55 = some Try.f55 := rfl
theorem chk55 : ∀ c, Try.f55.body = some c → chk WR (K 55) Try.f55.ntmps c = true := by intro c h; cases h; decide +kernel
theorem F56 : F 56 = some Try.f56 := rfl
theorem chk56 : ∀ c, Try.f56.body = some c → chk WR (K 56) Try.f56.ntmps c = true := by intro c h; cases h; decide +kernel
theorem F57 : F 57 = some Try.f57 := rfl
theorem chk57 : ∀ c, Try.f57.body = some c → chk WR (K 57) Try.f57.ntmps c = true := by intro c h; cases h; decide +kernel
theorem F58 : F 58 = some Try.f58 := rfl
theorem chk58 : ∀ c, Try.f58.body = some c → chk WR (K 58) Try.f58.ntmps c = true := by intro c h; cases h; decide +kernel
theorem F59 : F 59 = some Try.f59 := rfl
theorem chk59 : ∀ c, Try.f59.body = some c → chk WR (K 59) Try.f59.ntmps c = true := by intro c h; cases h; decide +kernel
theorem F60 : F 60 = some Try.f60 := rfl
theorem chk60 : ∀ c, Try.f60.body = some c → chk WR (K 60) Try.f60.ntmps c = true := by intro c h; cases h; decide +kernel
theorem F61 : F 61 = some Try.f61 := rfl
theorem chk61 : ∀ c, Try.f61.body = some c → chk WR (K 61) Try.f61.ntmps c = true := by intro c h; cases h; decide +kernel
theorem F62 : F 62 = some Try.f62 := rfl
theorem chk62 : ∀ c, Try.f62.body = some c → chk WR (K 62) Try.f62.ntmps c = true := by intro c h; cases h; decide +kernel
theorem F63 : F 63 = some Try.f63 := rfl
theorem chk63 : ∀ c, Try.f63.body = some c → chk WR (K 63) Try.f63.ntmps c = true := by intro c h; cases h; decide +kernel
theorem F64 : F 64 = some Try.f64 := rfl
theorem chk64 : ∀ c, Try.f64.body = some c → chk WR (K 64) Try.f64.ntmps c = true := by intro c h; cases h; decide +kernel
theorem F65 : F 65 = some Try.f65 := rfl
theorem chk65 : ∀ c, Try.f65.body = some c → chk WR (K 65) Try.f65.ntmps c = true := by intro c h; cases h; decide +kernel
theorem F66 : F 66 = some Try.f66 := rfl
theorem chk66 : ∀ c, Try.f66.body = some c → chk WR (K 66) Try.f66.ntmps c = true := by intro c h; cases h; decide +kernel
theorem F67 : F 67 = some Try.f67 := rfl
theorem chk67 : ∀ c, Try.f67.body = some c → chk WR (K 67) Try.f67.ntmps c = true := by intro c h; cases h; decide +kernel
theorem F68 : F 68 = some Try.f68 := rfl
theorem chk68 : ∀ c, Try.f68.body = some c → chk WR (K 68) Try.f68.ntmps c = true := by intro c h; cases h; decide +kernel
theorem F69 : F 69 = some Try.f69 := rfl
theorem chk69 : ∀ c, Try.f69.body = some c → chk WR (K 69) Try.f69.ntmps c = true := by intro c h; cases h; decide +kernel
theorem F70 : F 70 = some Try.f70 := rfl
theorem chk70 : ∀ c, Try.f70.body = some c → chk WR (K 70) Try.f70.ntmps c = true := by intro c h; cases h; decide +kernel
theorem F71 : F 71 = some Try.f71 := rfl
theorem chk71 : ∀ c, Try.f71.body = some c → chk WR (K 71) Try.f71.ntmps c = true := by intro c h; cases h; decide +kernel
theorem F72 : F 72 = some Try.f72 := rfl
theorem chk72 : ∀ c, Try.f72.body = some c → chk WR (K 72) Try.f72.ntmps c = true := by intro c h; cases h; decide +kernel
theorem F73 : F 73 = some Try.f73 := rfl
theorem chk73 : ∀ c, Try.f73.body = some c → chk WR (K 73) Try.f73.ntmps c = true := by intro c h; cases h; decide +kernel
theorem F74 : F 74 = some Try.f74 := rfl
theorem chk74 : ∀ c, Try.f74.body = some c → chk WR (K 74) Try.f74.ntmps c = true := by intro c h; cases h; decide +kernel
theorem F75 : F 75 = some Try.f75 := rfl
theorem chk75 : ∀ c, Try.f75.body = some c → chk WR (K 75) Try.f75.ntmps c = true := by intro c h; cases h; decide +kernel
theorem F76 : F 76 = some Try.f76 := rfl
theorem chk76 : ∀ c, Try.f76.body = some c → chk WR (K 76) Try.f76.ntmps c = true := by intro c h; cases h; decide +kernel
theorem F77 : F 77 = some Try.f77 := rfl
theorem chk77 : ∀ c, Try.f77.body = some c → chk WR (K 77) Try.f77.ntmps c = true := by intro c h; cases h; decide +kernel
theorem F78 : F 78 = some Try.f78 := rfl
theorem chk78 : ∀ c, Try.f78.body = some c → chk WR (K 78) Try.f78.ntmps c = true := by intro c h; cases h; decide +kernel
theorem F79 : F 79 = some Try.f79 := rfl
theorem chk79 : ∀ c, Try.f79.body = some c → chk WR (K 79) Try.f79.ntmps c = true := by intro c h; cases h; decide +kernel
theorem F80 : F 80 = some Try.f80 := rfl
theorem chk80 : ∀ c, Try.f80.body = some c → chk WR (K 80) Try.f80.ntmps c = true := by intro c h; cases h; decide +kernel
theorem F81 : F 81 = some Try.f81 := rfl
theorem chk81 : ∀ c, Try.f81.body = some c → chk WR (K 81) Try.f81.ntmps c = true := by intro c h; cases h; decide +kernel
theorem F82 : F 82 = some Try.f82 := rfl
theorem chk82 : ∀ c, Try.f82.body = some c → chk WR (K 82) Try.f82.ntmps c = true := by intro c h; cases h; decide +kernel
theorem F83 : F 83 = some Try.f83 := rfl
theorem chk83 : ∀ c, Try.f83.body = some c → chk WR (K 83) Try.f83.ntmps c = true := by intro c h; cases h; decide +kernel
theorem F84 : F 84 = some Try.f84 := rfl
theorem chk84 : ∀ c, Try.f84.body = some c → chk WR (K 84) Try.f84.ntmps c = true := by intro c h; cases h; decide +kernel
theorem F85 : F 85 = some Try.f85 := rfl
theorem chk85 : ∀ c, Try.f85.body = some c → chk WR (K 85) Try.f85.ntmps c = true := by intro c h; cases h; decide +kernel
theorem F86 : F 86 = some Try.f86 := rfl
theorem chk86 : ∀ c, Try.f86.body = some c → chk WR (K 86) Try.f86.ntmps c = true := by intro c h; cases h; decide +kernel
theorem F87 : F 87 = some Try.f87 := rfl
theorem chk87 : ∀ c, Try.f87.body = some c → chk WR (K 87) Try.f87.ntmps c = true := by intro c h; cases h; decide +kernel
theorem F88 : F 88 = some Try.f88 := rfl
theorem chk88 : ∀ c, Try.f88.body = some c → chk WR (K 88) Try.f88.ntmps c = true := by intro c h; cases h; decide +kernel
theorem F89 : F 89 = some Try.f89 := rfl
theorem chk89 : ∀ c, Try.f89.body = some c → chk WR (K 89) Try.f89.ntmps c = true := by intro c h; cases h; decide +kernel
theorem F90 : F 90 = some Try.f90 := rfl
theorem chk90 : ∀ c, Try.f90.body = some c → chk WR (K 90) Try.f90.ntmps c = true := by intro c h; cases h; decide +kernel
theorem F91 : F 91 = some Try.f91 := rfl
theorem chk91 : ∀ c, Try.f91.body = some c → chk WR (K 91) Try.f91.ntmps c = true := by intro c h; cases h; decide +kernel
theorem F92 : F 92 = some Try.f92 := rfl
theorem chk92 : ∀ c, Try.f92.body = some c → chk WR (K 92) Try.f92.ntmps c = true := by intro c h; cases h; decide +kernel
theorem F93 : F 93 = some Try.f93 := rfl
theorem chk93 : ∀ c, Try.f93.body = some c → chk WR (K 93) Try.f93.ntmps c = true := by intro c h; cases h; decide +kernel
theorem F94 : F 94 = some Try.f94 := rfl
theorem chk94 : ∀ c, Try.f94.body = some c → chk WR (K 94) Try.f94.ntmps c = true := by intro c h; cases h; decide +kernel
theorem F95 : F 95 = some Try.f95 := rfl
theorem chk95 : ∀ c, Try.f95.body = some c → chk WR (K 95) Try.f95.ntmps c = true := by intro c h; cases h; decide +kernel
theorem F96 : F 96 = some Try.f96 := rfl
theorem chk96 : ∀ c, Try.f96.body = some c → chk WR (K 96) Try.f96.ntmps c = true := by intro c h; cases h; decide +kernel
theorem F97 : F 97 = some Try.f97 := rfl
theorem chk97 : ∀ c, Try.f97.body = some c → chk WR (K 97) Try.f97.ntmps c = true := by intro c h; cases h; decide +kernel
theorem F98 : F 98 = some Try.f98 := rfl
theorem chk98 : ∀ c, Try.f98.body = some c → chk WR (K 98) Try.f98.ntmps c = true := by intro c h; cases h; decide +kernel
theorem F99 : F 99 = some Try.f99 := rfl
theorem chk99 : ∀ c, Try.f99.body = some c → chk WR (K 99) Try.f99.ntmps c = true := by intro c h; cases h; decide +kernel
theorem F100 : F 100 = some Try.f100 := rfl
theorem chk100 : ∀ c, Try.f100.body = some c → chk WR (K 100) Try.f100.ntmps c = true := by intro c h; cases h; decide +kernel
theorem F101 : F 101 = some Try.f101 := rfl
theorem chk101 : ∀ c, Try.f101.body = some c → chk WR (K 101) Try.f101.ntmps c = true := by intro c h; cases h; decide +kernel
theorem F102 : F 102 = some Try.f102 := rfl
theorem chk102 : ∀ c, Try.f102.body = some c → chk WR (K 102) Try.f102.ntmps c = true := by intro c h; cases h; decide +kernel
theorem F103 : F 103 = some Try.f103 := rfl
theorem chk103 : ∀ c, Try.f103.body = some c → chk WR (K 103) Try.f103.ntmps c = true := by intro c h; cases h; decide +kernel
theorem F104 : F 104 = some Try.f104 := rfl
theorem chk104 : ∀ c, Try.f104.body = some c → chk WR (K 104) Try.f104.ntmps c = true := by intro c h; cases h; decide +kernel
theorem F105 : F 105 = some Try.f105 := rfl
theorem chk105 : ∀ c, Try.f105.body = some c → chk WR (K 105) Try.f105.ntmps c = true := by intro c h; cases h; decide +kernel
theorem F106 : F 106 = some Try.f106 := rfl
theorem chk106 : ∀ c, Try.f106.body = some c → chk WR (K 106) Try.f106.ntmps c = true := by intro c h; cases h; decide +kernel
theorem F107 : F 107 = some Try.f107 := rfl
theorem chk107 : ∀ c, Try.f107.body = some c → chk WR (K 107) Try.f107.ntmps c = true := by intro c h; cases h; decide +kernel
theorem F108 : F 108 = some Try.f108 := rfl
theorem chk108 : ∀ c, Try.f108.body = some c → chk WR (K 108) Try.f108.ntmps c = true := by intro c h; cases h; decide +kernel
theorem F109 : F 109 = some Try.f109 := rfl
theorem chk109 : ∀ c, Try.f109.body = some c → chk WR (K 109) Try.f109.ntmps c = true := by intro c h; cases h; decide +kernel
theorem F110 : F 110 = some Try.f110 := rfl
theorem chk110 : ∀ c, Try.f110.body = some c → chk WR (K 110) Try.f110.ntmps c = true := by intro c h; cases h; decide +kernel
theorem F111 : F 111 = some Try.f111 := rfl
theorem chk111 : ∀ c, Try.f111.body = some c → chk WR (K 111) Try.f111.ntmps c = true := by intro c h; cases h; decide +kernel
theorem F112 : F 112 = some Try.f112 := rfl
theorem chk112 : ∀ c, Try.f112.body = some c → chk WR (K 112) Try.f112.ntmps c = true := by intro c h; cases h; decide +kernel
theorem F113 : F 113 = some Try.f113 := rfl
theorem chk113 : ∀ c, Try.f113.body = some c → chk WR (K 113) Try.f113.ntmps c = true := by intro c h; cases h; decide +kernel
theorem F114 : F 114 = some Try.f114 := rfl
theorem chk114 : ∀ c, Try.f114.body = some c → chk WR (K 114) Try.f114.ntmps c = true := by intro c h; cases h; decide +kernel
theorem F115 : F 115 = some Try.f115 := rfl
theorem chk115 : ∀ c, Try.f115.body = some c → chk WR (K 115) Try.f115.ntmps c = true := by intro c h; cases h; decide +kernel
theorem F116 : F 116 = some Try.f116 := rfl
theorem chk116 : ∀ c, Try.f116.body = some c → chk WR (K 116) Try.f116.ntmps c = true := by intro c h; cases h; decide +kernel
theorem F117 : F 117 = some Try.f117 := rfl
theorem chk117 : ∀ c, Try.f117.body = some c → chk WR (K 117) Try.f117.ntmps c = true := by intro c h; cases h; decide +kernel
theorem F118 : F 118 = some Try.f118 := rfl
theorem chk118 : ∀ c, Try.f118.body = some c → chk WR (K 118) Try.f118.ntmps c = true := by intro c h; cases h; decide +kernel
theorem F119 : F 119 = some Try.f119 := rfl
theorem chk119 : ∀ c, Try.f119.body = some c → chk WR (K 119) Try.f119.ntmps c = true := by intro c h; cases h; decide +kernel
theorem F120 : F 120 = some Try.f120 := rfl
theorem chk120 : ∀ c, Try.f120.body = some c → chk WR (K 120) Try.f120.ntmps c = true := by intro c h; cases h; decide +kernel
theorem F121 : F 121 = some Try.f121 := rfl
theorem chk121 : ∀ c, Try.f121.body = some c → chk WR (K 121) Try.f121.ntmps c = true := by intro c h; cases h; decide +kernel
theorem F122 : F 122 = some Try.f122 := rfl
theorem chk122 : ∀ c, Try.f122.body = some c → chk WR (K 122) Try.f122.ntmps c = true := by intro c h; cases h; decide +kernel
theorem F123 : F 123 = some Try.f123 := rfl
theorem chk123 : ∀ c, Try.f123.body = some c → chk WR (K 123) Try.f123.ntmps c = true := by intro c h; cases h; decide +kernel
theorem F124 : F 124 = some Try.f124 := rfl
theorem chk124 : ∀ c, Try.f124.body = some c → chk WR (K 124) Try.f124.ntmps c = true := by intro c h; cases h; decide +kernel
theorem F125 : F 125 = some Try.f125 := rfl
theorem chk125 : ∀ c, Try.f125.body = some c → chk WR (K 125) Try.f125.ntmps c = true := by intro c h; cases h; decide +kernel
theorem F126 : F 126 = some Try.f126 := rfl
theorem chk126 : ∀ c, Try.f126.body = some c → chk WR (K 126) Try.f126.ntmps c = true := by intro c h; cases h; decide +kernel
theorem F127 : F 127 = some Try.f127 := rfl
theorem chk127 : ∀ c, Try.f127.body = some c → chk WR (K 127) Try.f127.ntmps c = true := by intro c h; cases h; decide +kernel
theorem F128 : F 128 = some Try.f128 := rfl
theorem chk128 : ∀ c, Try.f128.body = some c → chk WR (K 128) Try.f128.ntmps c = true := by intro c h; cases h; decide +kernel
theorem F129 : F 129 = some Try.f129 := rfl
theorem chk129 : ∀ c, Try.f129.body = some c → chk WR (K 129) Try.f129.ntmps c = true := by intro c h; cases h; decide +kernel
theorem F130 : F 130 = some Try.f130 := rfl
theorem chk130 : ∀ c, Try.f130.body = some c → chk WR (K 130) Try.f130.ntmps c = true := by intro c h; cases h; decide +kernel
theorem F131 : F 131 = some Try.f131 := rfl
theorem chk131 : ∀ c, Try.f131.body = some c → chk WR (K 131) Try.f131.ntmps c = true := by intro c h; cases h; decide +kernel
theorem F132 : F 132 = some Try.f132 := rfl
theorem chk132 : ∀ c, Try.f132.body = some c → chk WR (K 132) Try.f132.ntmps c = true := by intro c h; cases h; decide +kernel
theorem F133 : F 133 = some Try.f133 := rfl
theorem chk133 : ∀ c, Try.f133.body = some c → chk WR (K 133) Try.f133.ntmps c = true := by intro c h; cases h; decide +kernel
theorem F134 : F 134 = some Try.f134 := rfl
theorem chk134 : ∀ c, Try.f134.body = some c → chk WR (K 134) Try.f134.ntmps c = true := by intro c h; cases h; decide +kernel
theorem F135 : F 135 = some Try.f135 := rfl
theorem chk135 : ∀ c, Try.f135.body = some c → chk WR (K 135) Try.f135.ntmps c = true := by intro c h; cases h; decide +kernel
theorem F136 : F 136 = some Try.f136 := rfl
theorem chk136 : ∀ c, Try.f136.body = some c → chk WR (K 136) Try.f136.ntmps c = true := by intro c h; cases h; decide +kernel
theorem F137 : F 137 = some Try.f137 := rfl
theorem chk137 : ∀ c, Try.f137.body = some c → chk WR (K 137) Try.f137.ntmps c = true := by intro c h; cases h; decide +kernel
theorem F138 : F 138 = some Try.f138 := rfl
theorem chk138 : ∀ c, Try.f138.body = some c → chk WR (K 138) Try.f138.ntmps c = true := by intro c h; cases h; decide +kernel
theorem F139 : F 139 = some Try.f139 := rfl
theorem chk139 : ∀ c, Try.f139.body = some c → chk WR (K 139) Try.f139.ntmps c = true := by intro c h; cases h; decide +kernel
theorem F140 : F 140 = some Try.f140 := rfl
theorem chk140 : ∀ c, Try.f140.body = some c → chk WR (K 140) Try.f140.ntmps c = true := by intro c h; cases h; decide +kernel
theorem F141 : F 141 = some Try.f141 := rfl
theorem chk141 : ∀ c, Try.f141.body = some c → chk WR (K 141) Try.f141.ntmps c = true := by intro c h; cases h; decide +kernel
theorem F142 : F 142 = some Try.f142 := rfl
theorem chk142 : ∀ c, Try.f142.body = some c → chk WR (K 142) Try.f142.ntmps c = true := by intro c h; cases h; decide +kernel
theorem F143 : F 143 = some Try.f143 := rfl
theorem chk143 : ∀ c, Try.f143.body = some c → chk WR (K 143) Try.f143.ntmps c = true := by intro c h; cases h; decide +kernel
theorem F144 : F 144 = some Try.f144 := rfl
theorem chk144 : ∀ c, Try.f144.body = some c → chk WR (K 144) Try.f144.ntmps c = true := by intro c h; cases h; decide +kernel
theorem F145 : F 145 = some Try.f145 := rfl
theorem chk145 : ∀ c, Try.f145.body = some c → chk WR (K 145) Try.f145.ntmps c = true := by intro c h; cases h; decide +kernel
theorem F146 : F 146 = some Try.f146 := rfl
theorem chk146 : ∀ c, Try.f146.body = some c → chk WR (K 146) Try.f146.ntmps c = true := by intro c h; cases h; decide +kernel
theorem F147 : F 147 = some Try.f147 := rfl
theorem chk147 : ∀ c, Try.f147.body = some c → chk WR (K 147) Try.f147.ntmps c = true := by intro c h; cases h; decide +kernel
theorem F148 : F 148 = some Try.f148 := rfl
theorem chk148 : ∀ c, Try.f148.body = some c → chk WR (K 148) Try.f148.ntmps c = true := by intro c h; cases h; decide +kernel
theorem F149 : F 149 = some Try.f149 := rfl
theorem chk149 : ∀ c, Try.f149.body = some c → chk WR (K 149) Try.f149.ntmps c = true := by intro c h; cases h; decide +kernel
theorem F150 : F 150 = some Try.f150 := rfl
theorem chk150 : ∀ c, Try.f150.body = some c → chk WR (K 150) Try.f150.ntmps c = true := by intro c h; cases h; decide +kernel
theorem F151 : F 151 = some Try.f151 := rfl
theorem chk151 : ∀ c, Try.f151.body = some c → chk WR (K 151) Try.f151.ntmps c = true := by intro c h; cases h; decide +kernel
theorem F152 : F 152 = some Try.f152 := rfl
theorem chk152 : ∀ c, Try.f152.body = some c → chk WR (K 152) Try.f152.ntmps c = true := by intro c h; cases h; decide +kernel
theorem F153 : F 153 = some Try.f153 := rfl
theorem chk153 : ∀ c, Try.f153.body = some c → chk WR (K 153) Try.f153.ntmps c = true := by intro c h; cases h; decide +kernel
theorem F154 : F 154 = some Try.f154 := rfl
theorem chk154 : ∀ c, Try.f154.body = some c → chk WR (K 154) Try.f154.ntmps c = true := by intro c h; cases h; decide +kernel
theorem F155 : F 155 = some Try.f155 := rfl
theorem chk155 : ∀ c, Try.f155.body = some c → chk WR (K 155) Try.f155.ntmps c = true := by intro c h; cases h; decide +kernel
theorem F156 : F 156 = some Try.f156 := rfl
theorem chk156 : ∀ c, Try.f156.body = some c → chk WR (K 156) Try.f156.ntmps c = true := by intro c h; cases h; decide +kernel
theorem F157 : F 157 = some Try.f157 := rfl
theorem chk157 : ∀ c, Try.f157.body = some c → chk WR (K 157) Try.f157.ntmps c = true := by intro c h; cases h; decide +kernel
theorem F158 : F 158 = some Try.f158 := rfl
theorem chk158 : ∀ c, Try.f158.body = some c → chk WR (K 158) Try.f158.ntmps c = true := by intro c h; cases h; decide +kernel
theorem F159 : F 159 = some Try.f159 := rfl
theorem chk159 : ∀ c, Try.f159.body = some c → chk WR (K 159) Try.f159.ntmps c = true := by intro c h; cases h; decide +kernel
theorem F160 : F 160 = some Try.f160 := rfl
theorem chk160 : ∀ c, Try.f160.body = some c → chk WR (K 160) Try.f160.ntmps c = true := by intro c h; cases h; decide +kernel
theorem F161 : F 161 = some Try.f161 := rfl
theorem chk161 : ∀ c, Try.f161.body = some c → chk WR (K 161) Try.f161.ntmps c = true := by intro c h; cases h; decide +kernel
theorem F162 : F 162 = some Try.f162 := rfl
theorem chk162 : ∀ c, Try.f162.body = some c → chk WR (K 162) Try.f162.ntmps c = true := by intro c h; cases h; decide +kernel
theorem F163 : F 163 = some Try.f163 := rfl
theorem chk163 : ∀ c, Try.f163.body = some c → chk WR (K 163) Try.f163.ntmps c = true := by intro c h; cases h; decide +kernel
theorem F164 : F 164 = some Try.f164 := rfl
theorem chk164 : ∀ c, Try.f164.body = some c → chk WR (K 164) Try.f164.ntmps c = true := by intro c h; cases h; decide +kernel
theorem F165 : F 165 = some Try.f165 := rfl
theorem chk165 : ∀ c, Try.f165.body = some c → chk WR (K 165) Try.f165.ntmps c = true := by intro c h; cases h; decide +kernel
theorem F166 : F 166 = some Try.f166 := rfl
theorem chk166 : ∀ c, Try.f166.body = some c → chk WR (K 166) Try.f166.ntmps c = true := by intro c h; cases h; decide +kernel
theorem F167 : F 167 = some Try.f167 := rfl
theorem chk167 : ∀ c, Try.f167.body = some c → chk WR (K 167) Try.f167.ntmps c = true := by intro c h; cases h; decide +kernel
theorem F168 : F 168 = some Try.f168 := rfl
theorem chk168 : ∀ c, Try.f168.body = some c → chk WR (K 168) Try.f168.ntmps c = true := by intro c h; cases h; decide +kernel
theorem F169 : F 169 = some Try.f169 := rfl
theorem chk169 : ∀ c, Try.f169.body = some c → chk WR (K 169) Try.f169.ntmps c = true := by intro c h; cases h; decide +kernel
theorem F170 : F 170 = some Try.f170 := rfl
theorem chk170 : ∀ c, Try.f170.body = some c → chk WR (K 170) Try.f170.ntmps c = true := by intro c h; cases h; decide +kernel
theorem F171 : F 171 = some Try.f171 := rfl
theorem chk171 : ∀ c, Try.f171.body = some c → chk WR (K 171) Try.f171.ntmps c = true := by intro c h; cases h; decide +kernel
theorem F172 : F 172 = some Try.f172 := rfl
theorem chk172 : ∀ c, Try.f172.body = some c → chk WR (K 172) Try.f172.ntmps c = true := by intro c h; cases h; decide +kernel
theorem F173 : F 173 = some Try.f173 := rfl
theorem chk173 : ∀ c, Try.f173.body = some c → chk WR (K 173) Try.f173.ntmps c = true := by intro c h; cases h; decide +kernel
theorem F174 : F 174 = some Try.f174 := rfl
theorem chk174 : ∀ c, Try.f174.body = some c → chk WR (K 174) Try.f174.ntmps c = true := by intro c h; cases h; decide +kernel
theorem F175 : F 175 = some Try.f175 := rfl
theorem chk175 : ∀ c, Try.f175.body = some c → chk WR (K 175) Try.f175.ntmps c = true := by intro c h; cases h; decide +kernel
theorem F176 : F 176 = some Try.f176 := rfl
theorem chk176 : ∀ c, Try.f176.body = some c → chk WR (K 176) Try.f176.ntmps c = true := by intro c h; cases h; decide +kernel
theorem F177 : F 177 = some Try.f177 := rfl
theorem chk177 : ∀ c, Try.f177.body = some c → chk WR (K 177) Try.f177.ntmps c = true := by intro c h; cases h; decide +kernel
theorem F178 : F 178 = some Try.f178 := rfl
theorem chk178 : ∀ c, Try.f178.body = some c → chk WR (K 178) Try.f178.ntmps c = true := by intro c h; cases h; decide +kernel
theorem F179 : F 179 = some Try.f179 := rfl
theorem chk179 : ∀ c, Try.f179.body = some c → chk WR (K 179) Try.f179.ntmps c = true := by intro c h; cases h; decide +kernel
theorem F180 : F 180 = some Try.f180 := rfl
theorem chk180 : ∀ c, Try.f180.body = some c → chk WR (K 180) Try.f180.ntmps c = true := by intro c h; cases h; decide +kernel
theorem F181 : F 181 = some Try.f181 := rfl
theorem chk181 : ∀ c, Try.f181.body = some c → chk WR (K 181) Try.f181.ntmps c = true := by intro c h; cases h; decide +kernel
theorem F182 : F 182 = some Try.f182 := rfl
theorem chk182 : ∀ c, Try.f182.body = some c → chk WR (K 182) Try.f182.ntmps c = true := by intro c h; cases h; decide +kernel
theorem F183 : F 183 = some Try.f183 := rfl
theorem chk183 : ∀ c, Try.f183.body = some c → chk WR (K 183) Try.f183.ntmps c = true := by intro c h; cases h; decide +kernel
theorem F184 : F 184 = some Try.f184 := rfl
theorem chk184 : ∀ c, Try.f184.body = some c → chk WR (K 184) Try.f184.ntmps c = true := by intro c h; cases h; decide +kernel
theorem F189 : F 189 = some Try.f189 := rfl
theorem chk189 : ∀ c, Try.f189.body = some c → chk WR (K 189) Try.f189.ntmps c = true := by intro c h; cases h; decide +kernel
theorem F190 : F 190 = some Try.f190 := rfl
theorem chk190 : ∀ c, Try.f190.body = some c → chk WR (K 190) Try.f190.ntmps c = true := by intro c h; cases h; decide +kernel
theorem F191 : F 191 = some Try.f191 := rfl
theorem chk191 : ∀ c, Try.f191.body = some c → chk WR (K 191) Try.f191.ntmps c = true := by intro c h; cases h; decide +kernel
theorem F192 : F 192 = some Try.f192 := rfl
theorem chk192 : ∀ c, Try.f192.body = some c → chk WR (K 192) Try.f192.ntmps c = true := by intro c h; cases h; decide +kernel
theorem F193 : F 193 = some Try.f193 := rfl
theorem chk193 : ∀ c, Try.f193.body = some c → chk WR (K 193) Try.f193.ntmps c = true := by intro c h; cases h; decide +kernel
theorem F194 : F 194 = some Try.f194 := rfl
theorem chk194 : ∀ c, Try.f194.body = some c → chk WR (K 194) Try.f194.ntmps c = true := by intro c h; cases h; decide +kernel
theorem F196 : F 196 = some Try.f196 := rfl
theorem chk196 : ∀ c, Try.f196.body = some c → chk WR (K 196) Try.f196.ntmps c = true := by intro c h; cases h; decide +kernel
theorem F202 : F 202 = some Try.f202 := rfl
theorem chk202 : ∀ c, Try.f202.body = some c → chk WR (K 202) Try.f202.ntmps c = true := by intro c h; cases h; decide +kernel
theorem F205 : F 205 = some Try.f205 := rfl
theorem chk205 : ∀ c, Try.f205.body = some c → chk WR (K 205) Try.f205.ntmps c = true := by intro c h; cases h; decide +kernel
theorem F206 : F 206 = some Try.f206 := rfl
theorem chk206 : ∀ c, Try.f206.body = some c → chk WR (K 206) Try.f206.ntmps c = true := by intro c h; cases h; decide +kernel
theorem F207 : F 207 = some Try.f207 := rfl
theorem chk207 : ∀ c, Try.f207.body = some c → chk WR (K 207) Try.f207.ntmps c = true := by intro c h; cases h; decide +kernel
theorem F208 : F 208 = some Try.f208 := rfl
theorem chk208 : ∀ c, Try.f208.body = some c → chk WR (K 208) Try.f208.ntmps c = true := by intro c h; cases h; decide +kernel
theorem F215 : F 215 = some Try.f215 := rfl
theorem chk215 : ∀ c, Try.f215.body = some c → chk WR (K 215) Try.f215.ntmps c = true := by intro c h; cases h; decide +kernel
theorem F216 : F 216 = some Try.f216 := rfl
theorem chk216 : ∀ c, Try.f216.body = some c → chk WR (K 216) Try.f216.ntmps c = true := by intro c h; cases h; decide +kernel
theorem F217 : F 217 = some Try.f217 := rfl
theorem chk217 : ∀ c, Try.f217.body = some c → chk WR (K 217) Try.f217.ntmps c = true := by intro c h; cases h; decide +kernel
theorem ent {f : FuncId} {fn : Func} (h : Try.prog.funcs[f]? = some fn) (hb : fn.body.isSome = true) (hn : (fn.name == "runtime.NumGoroutine") = false) : Enters Try.prog f := enters_mk h hb hn
theorem okF_0 : ∀ f fn, F_0 f = some fn → Try.prog.funcs[f]? = some fn ∧ Enters Try.prog f ∧ ∀ c, fn.body = some c → chk WR (K f) fn.ntmps c = true := by
  intro f fn h
  unfold F_0 at h
  split at h
  · cases h; exact ⟨Try.func3, ent Try.func3 rfl rfl, chk3⟩
  · cases h; exact ⟨Try.func4, ent Try.func4 rfl rfl, chk4⟩
  · cases h; exact ⟨Try.func5, ent Try.func5 rfl rfl, chk5⟩
  · cases h; exact ⟨Try.func6, ent Try.func6 rfl rfl, chk6⟩
  · cases h; exact ⟨Try.func7, ent Try.func7 rfl rfl, chk7⟩
  · cases h; exact ⟨Try.func8, ent Try.func8 rfl rfl, chk8⟩
  · cases h; exact ⟨Try.func9, ent Try.func9 rfl rfl, chk9⟩
  · cases h; exact ⟨Try.func10, ent Try.func10 rfl rfl, chk10⟩
  · cases h; exact ⟨Try.func11, ent Try.func11 rfl rfl, chk11⟩
  · cases h; exact ⟨Try.func12, ent Try.func12 rfl rfl, chk12⟩
  · cases h; exact ⟨Try.func13, ent Try.func13 rfl rfl, chk13⟩
  · cases h; exact ⟨Try.func14, ent Try.func14 rfl rfl, chk14⟩
  · cases h; exact ⟨Try.func15, ent Try.func15 rfl rfl, chk15⟩
  · cases h; exact ⟨Try.func16, ent Try.func16 rfl rfl, chk16⟩
  · cases h; exact ⟨Try.func17, ent Try.func17 rfl rfl, chk17⟩
  · cases h; exact ⟨Try.func18, ent Try.func18 rfl rfl, chk18⟩
  · cases h; exact ⟨Try.func19, ent Try.func19 rfl rfl, chk19⟩
  · cases h; exact ⟨Try.func20, ent Try.func20 rfl rfl, chk20⟩
  · cases h; exact ⟨Try.func21, ent Try.func21 rfl rfl, chk21⟩
  · cases h; exact ⟨Try.func22, ent Try.func22 rfl rfl, chk22⟩
  · cases h; exact ⟨Try.func23, ent Try.func23 rfl rfl, chk23⟩
  · cases h; exact ⟨Try.func24, ent Try.func24 rfl rfl, chk24⟩
  · cases h; exact ⟨Try.func25, ent Try.func25 rfl rfl, chk25⟩
  · cases h; exact ⟨Try.func26, ent Try.func26 rfl rfl, chk26⟩
  · cases h
theorem okF_1 : ∀ f fn, F_1 f = some fn → Try.prog.funcs[f]? = some fn ∧ Enters Try.prog f ∧ ∀ c, fn.body = some c → chk WR (K f) fn.ntmps c = true := by
  intro f fn h
  unfold F_1 at h
  split at h
  · cases h; exact ⟨Try.func27, ent Try.func27 rfl rfl, chk27⟩
  · cases h; exact ⟨Try.func28, ent Try.func28 rfl rfl, chk28⟩
  · cases h; exact ⟨Try.func29, ent Try.func29 rfl rfl, chk29⟩
  · cases h; exact ⟨Try.func30, ent Try.func30 rfl rfl, chk30⟩
  · cases h; exact ⟨Try.func31, ent Try.func31 rfl rfl, chk31⟩
  · cases h; exact ⟨Try.func32, ent Try.func32 rfl rfl, chk32⟩
  · cases h; exact ⟨Try.func33, ent Try.func33 rfl rfl, chk33⟩
  · cases h; exact ⟨Try.func34, ent Try.func34 rfl rfl, chk34⟩
  · cases h; exact ⟨Try.func35, ent Try.func35 rfl rfl, chk35⟩
  · cases h; exact ⟨Try.func36, ent Try.func36 rfl rfl, chk36⟩
  · cases h; exact ⟨Try.func37, ent Try.func37 rfl rfl, chk37⟩
  · cases h; exact ⟨Try.func38, ent Try.func38 rfl rfl, chk38⟩
  · cases h; exact ⟨Try.func39, ent Try.func39 rfl rfl, chk39⟩
  · cases h; exact ⟨Try.func40, ent Try.func40 rfl rfl, chk40⟩
  · cases h; exact ⟨Try.func41, ent Try.func41 rfl rfl, chk41⟩
  · cases h; exact ⟨Try.func42, ent Try.func42 rfl rfl, chk42⟩
  · cases h; exact ⟨Try.func43, ent Try.func43 rfl rfl, chk43⟩
  · cases h; exact ⟨Try.func44, ent Try.func44 rfl rfl, chk44⟩
  · cases h; exact ⟨Try.func45, ent Try.func45 rfl rfl, chk45⟩
  · cases h; exact ⟨Try.func46, ent Try.func46 rfl rfl, chk46⟩
  · cases h; exact ⟨Try.func47, ent Try.func47 rfl rfl, chk47⟩
  · cases h; exact ⟨Try.func48, ent Try.func48 rfl rfl, chk48⟩
  · cases h; exact ⟨Try.func49, ent Try.func49 rfl rfl, chk49⟩
  · cases h; exact ⟨Try.func50, ent Try.func50 rfl rfl, chk50⟩
  · exact okF_0 _ _ h
theorem okF_2 : ∀ f fn, F_2 f = some fn → Try.prog.funcs[f]? = some fn ∧ Enters Try.prog f ∧ ∀ c, fn.body = some c → chk WR (K f) fn.ntmps c = true := by
  intro f fn h
  unfold F_2 at h
  split at h
  · cases h; exact ⟨Try.func51, ent Try.func51 rfl rfl, chk51⟩
  · cases h; exact ⟨Try.func52, ent Try.func52 rfl rfl, chk52⟩
  · cases h; exact ⟨Try.func53, ent Try.func53 rfl rfl, chk53⟩
  · cases h; exact ⟨Try.func54, ent Try.func54 rfl rfl, chk54⟩
  · cases h; exact ⟨Try.func55, ent Try.func55 rfl rfl, chk55⟩
  · cases h; exact ⟨Try.func56, ent Try.func56 rfl rfl, chk56⟩
  · cases h; exact ⟨Try.func57, ent Try.func57 rfl rfl, chk57⟩
  · cases h; exact ⟨Try.func58, ent Try.func58 rfl rfl, chk58⟩
  · cases h; exact ⟨Try.func59, ent Try.func59 rfl rfl, chk59⟩
  · cases h; exact ⟨Try.func60, ent Try.func60 rfl rfl, chk60⟩
  · cases h; exact ⟨Try.func61, ent Try.func61 rfl rfl, chk61⟩
  · cases h; exact ⟨Try.func62, ent Try.func62 rfl rfl, chk62⟩
  · cases h; exact ⟨Try.func63, ent Try.func63 rfl rfl, chk63⟩
  · cases h; exact ⟨Try.func64, ent Try.func64 rfl rfl, chk64⟩
  · cases h; exact ⟨Try.func65, ent Try.func65 rfl rfl, chk65⟩
  · cases h; exact ⟨Try.func66, ent Try.func66 rfl rfl, chk66⟩
  · cases h; exact ⟨Try.func67, ent Try.func67 rfl rfl, chk67⟩
  · cases h; exact ⟨Try.func68, ent Try.func68 rfl rfl, chk68⟩
  · cases h; exact ⟨Try.func69, ent Try.func69 rfl rfl, chk69⟩
  · cases h; exact ⟨Try.func70, ent Try.func70 rfl rfl, chk70⟩
  · cases h; exact ⟨Try.func71, ent Try.func71 rfl rfl, chk71⟩
  · cases h; exact ⟨Try.func72, ent Try.func72 rfl rfl, chk72⟩
  · cases h; exact ⟨Try.func73, ent Try.func73 rfl rfl, chk73⟩
  · cases h; exact ⟨Try.func74, ent Try.func74 rfl rfl, chk74⟩
  · exact okF_1 _ _ h
theorem okF_3 : ∀ f fn, F_3 f = some fn → Try.prog.funcs[f]? = some fn ∧ Enters Try.prog f ∧ ∀ c, fn.body = some c → chk WR (K f) fn.ntmps c = true := by
  intro f fn h
  unfold F_3 at h
  split at h
  · cases h; exact ⟨Try.func75, ent Try.func75 rfl rfl, chk75⟩
  · cases h; exact ⟨Try.func76, ent Try.func76 rfl rfl, chk76⟩
  · cases h; exact ⟨Try.func77, ent Try.func77 rfl rfl, chk77⟩
  · cases h; exact ⟨Try.func78, ent Try.func78 rfl rfl, chk78⟩
  · cases h; exact ⟨Try.func79, ent Try.func79 rfl rfl, chk79⟩
  · cases h; exact ⟨Try.func80, ent Try.func80 rfl rfl, chk80⟩
  · cases h; exact ⟨Try.func81, ent Try.func81 rfl rfl, chk81⟩
  · cases h; exact ⟨Try.func82, ent Try.func82 rfl rfl, chk82⟩
  · cases h; exact ⟨Try.func83, ent Try.func83 rfl rfl, chk83⟩
  · cases h; exact ⟨Try.func84, ent Try.func84 rfl rfl, chk84⟩
  · cases h; exact ⟨Try.func85, ent Try.func85 rfl rfl, chk85⟩
  · cases h; exact ⟨Try.func86, ent Try.func86 rfl rfl, chk86⟩
  · cases h; exact ⟨Try.func87, ent Try.func87 rfl rfl, chk87⟩
  · cases h; exact ⟨Try.func88, ent Try.func88 rfl rfl, chk88⟩
  · cases h; exact ⟨Try.func89, ent Try.func89 rfl rfl, chk89⟩
  · cases h; exact ⟨Try.func90, ent Try.func90 rfl rfl, chk90⟩
  · cases h; exact ⟨Try.func91, ent Try.func91 rfl rfl, chk91⟩
  · cases h; exact ⟨Try.func92, ent Try.func92 rfl rfl, chk92⟩
  · cases h; exact ⟨Try.func93, ent Try.func93 rfl rfl, chk93⟩
  · cases h; exact ⟨Try.func94, ent Try.func94 rfl rfl, chk94⟩
  · cases h; exact ⟨Try.func95, ent Try.func95 rfl rfl, chk95⟩
  · cases h; exact ⟨Try.func96, ent Try.func96 rfl rfl, chk96⟩
  · cases h; exact ⟨Try.func97, ent Try.func97 rfl rfl, chk97⟩
  · cases h; exact ⟨Try.func98, ent Try.func98 rfl rfl, chk98⟩
  · exact okF_2 _ _ h
theorem okF_4 : ∀ f fn, F_4 f = some fn → Try.prog.funcs[f]? = some fn ∧ Enters Try.prog f ∧ ∀ c, fn.body = some c → chk WR (K f) fn.ntmps c = true := by
  intro f fn h
  unfold F_4 at h
  split at h
  · cases h; exact ⟨Try.func99, ent Try.func99 rfl rfl, chk99⟩
  · cases h; exact ⟨Try.func100, ent Try.func100 rfl rfl, chk100⟩
  · cases h; exact ⟨Try.func101, ent Try.func101 rfl rfl, chk101⟩
  · cases h; exact ⟨Try.func102, ent Try.func102 rfl rfl, chk102⟩
  · cases h; exact ⟨Try.func103, ent Try.func103 rfl rfl, chk103⟩
  · cases h; exact ⟨Try.func104, ent Try.func104 rfl rfl, chk104⟩
  · cases h; exact ⟨Try.func105, ent Try.func105 rfl rfl, chk105⟩
  · cases h; exact ⟨Try.func106, ent Try.func106 rfl rfl, chk106⟩
  · cases h; exact ⟨Try.func107, ent Try.func107 rfl rfl, chk107⟩
  · cases h; exact ⟨Try.func108, ent Try.func108 rfl rfl, chk108⟩
  · cases h; exact ⟨Try.func109, ent Try.func109 rfl rfl, chk109⟩
  · cases h; exact ⟨Try.func110, ent Try.func110 rfl rfl, chk110⟩
  · cases h; exact ⟨Try.func111, ent Try.func111 rfl rfl, chk111⟩
  · cases h; exact ⟨Try.func112, ent Try.func112 rfl rfl, chk112⟩
  · cases h; exact ⟨Try.func113, ent Try.func113 rfl rfl, chk113⟩
  · cases h; exact ⟨Try.func114, ent Try.func114 rfl rfl, chk114⟩
  · cases h; exact ⟨Try.func115, ent Try.func115 rfl rfl, chk115⟩
  · cases h; exact ⟨Try.func116, ent Try.func116 rfl rfl, chk116⟩
  · cases h; exact ⟨Try.func117, ent Try.func117 rfl rfl, chk117⟩
  · cases h; exact ⟨Try.func118, ent Try.func118 rfl rfl, chk118⟩
  · cases h; exact ⟨Try.func119, ent Try.func119 rfl rfl, chk119⟩
  · cases h; exact ⟨Try.func120, ent Try.func120 rfl rfl, chk120⟩
  · cases h; exact ⟨Try.func121, ent Try.func121 rfl rfl, chk121⟩
  · cases h; exact ⟨Try.func122, ent Try.func122 rfl rfl, chk122⟩
  · exact okF_3 _ _ h
theorem okF_5 : ∀ f fn, F_5 f = some fn → Try.prog.funcs[f]? = some fn ∧ Enters Try.prog f ∧ ∀ c, fn.body = some c → chk WR (K f) fn.ntmps c = true := by
  intro f fn h
  unfold F_5 at h
  split at h
  · cases h; exact ⟨Try.func123, ent Try.func123 rfl rfl, chk123⟩
  · cases h; exact ⟨Try.func124, ent Try.func124 rfl rfl, chk124⟩
  · cases h; exact ⟨Try.func125, ent Try.func125 rfl rfl, chk125⟩
  · cases h; exact ⟨Try.func126, ent Try.func126 rfl rfl, chk126⟩
  · cases h; exact ⟨Try.func127, ent Try.func127 rfl rfl, chk127⟩
  · cases h; exact ⟨Try.func128, ent Try.func128 rfl rfl, chk128⟩
  · cases h; exact ⟨Try.func129, ent Try.func129 rfl rfl, chk129⟩
  · cases h; exact ⟨Try.func130, ent Try.func130 rfl rfl, chk130⟩
  · cases h; exact ⟨Try.func131, ent Try.func131 rfl rfl, chk131⟩
  · cases h; exact ⟨Try.func132, ent Try.func132 rfl rfl, chk132⟩
  · cases h; exact ⟨Try.func133, ent Try.func133 rfl rfl, chk133⟩
  · cases h; exact ⟨Try.func134, ent Try.func134 rfl rfl, chk134⟩
  · cases h; exact ⟨Try.func135, ent Try.func135 rfl rfl, chk135⟩
  · cases h; exact ⟨Try.func136, ent Try.func136 rfl rfl, chk136⟩
  · cases h; exact ⟨Try.func137, ent Try.func137 rfl rfl, chk137⟩
  · cases h; exact ⟨Try.func138, ent Try.func138 rfl rfl, chk138⟩
  · cases h; exact ⟨Try.func139, ent Try.func139 rfl rfl, chk139⟩
  · cases h; exact ⟨Try.func140, ent Try.func140 rfl rfl, chk140⟩
  · cases h; exact ⟨Try.func141, ent Try.func141 rfl rfl, chk141⟩
  · cases h; exact ⟨Try.func142, ent Try.func142 rfl rfl, chk142⟩
  · cases h; exact ⟨Try.func143, ent Try.func143 rfl rfl, chk143⟩
  · cases h; exact ⟨Try.func144, ent Try.func144 rfl rfl, chk144⟩
  · cases h; exact ⟨Try.func145, ent Try.func145 rfl rfl, chk145⟩
  · cases h; exact ⟨Try.func146, ent Try.func146 rfl rfl, chk146⟩
  · exact okF_4 _ _ h
theorem okF_6 : ∀ f fn, F_6 f = some fn → Try.prog.funcs[f]? = some fn ∧ Enters Try.prog f ∧ ∀ c, fn.body = some c → chk WR (K f) fn.ntmps c = true := by
  intro f fn h
  unfold F_6 at h
  split at h
  · cases h; exact ⟨Try.func147, ent Try.func147 rfl rfl, chk147⟩
  · cases h; exact ⟨Try.func148, ent Try.func148 rfl rfl, chk148⟩
  · cases h; exact ⟨Try.func149, ent Try.func149 rfl rfl, chk149⟩
  · cases h; exact ⟨Try.func150, ent Try.func150 rfl rfl, chk150⟩
  · cases h; exact ⟨Try.func151, ent Try.func151 rfl rfl, chk151⟩
  · cases h; exact ⟨Try.func152, ent Try.func152 rfl rfl, chk152⟩
  · cases h; exact ⟨Try.func153, ent Try.func153 rfl rfl, chk153⟩
  · cases h; exact ⟨Try.func154, ent Try.func154 rfl rfl, chk154⟩
  · cases h; exact ⟨Try.func155, ent Try.func155 rfl rfl, chk155⟩
  · cases h; exact ⟨Try.func156, ent Try.func156 rfl rfl, chk156⟩
  · cases h; exact ⟨Try.func157, ent Try.func157 rfl rfl, chk157⟩
  · cases h; exact ⟨Try.func158, ent Try.func158 rfl rfl, chk158⟩
  · cases h; exact ⟨Try.func159, ent Try.func159 rfl rfl, chk159⟩
  · cases h; exact ⟨Try.func160, ent Try.func160 rfl rfl, chk160⟩
  · cases h; exact ⟨Try.func161, ent Try.func161 rfl rfl, chk161⟩
  · cases h; exact ⟨Try.func162, ent Try.func162 rfl rfl, chk162⟩
  · cases h; exact ⟨Try.func163, ent Try.func163 rfl rfl, chk163⟩
  · cases h; exact ⟨Try.func164, ent Try.func164 rfl rfl, chk164⟩
  · cases h; exact ⟨Try.func165, ent Try.func165 rfl rfl, chk165⟩
  · cases h; exact ⟨Try.func166, ent Try.func166 rfl rfl, chk166⟩
  · cases h; exact ⟨Try.func167, ent Try.func167 rfl rfl, chk167⟩
  · cases h; exact ⟨Try.func168, ent Try.func168 rfl rfl, chk168⟩
  · cases h; exact ⟨Try.func169, ent Try.func169 rfl rfl, chk169⟩
  · cases h; exact ⟨Try.func170, ent Try.func170 rfl rfl, chk170⟩
  · exact okF_5 _ _ h
theorem okF_7 : ∀ f fn, F_7 f = some fn → Try.prog.funcs[f]? = some fn ∧ Enters Try.prog f ∧ ∀ c, fn.body = some c → chk WR (K f) fn.ntmps c = true := by
  intro f fn h
  unfold F_7 at h
  split at h
  · cases h; exact ⟨Try.func171, ent Try.func171 rfl rfl, chk171⟩
  · cases h; exact ⟨Try.func172, ent Try.func172 rfl rfl, chk172⟩
  · cases h; exact ⟨Try.func173, ent Try.func173 rfl rfl, chk173⟩
  · cases h; exact ⟨Try.func174, ent Try.func174 rfl rfl, chk174⟩
  · cases h; exact ⟨Try.func175, ent Try.func175 rfl rfl, chk175⟩
  · cases h; exact ⟨Try.func176, ent Try.func176 rfl rfl, chk176⟩
  · cases h; exact ⟨Try.func177, ent Try.func177 rfl rfl, chk177⟩
  · cases h; exact ⟨Try.func178, ent Try.func178 rfl rfl, chk178⟩
  · cases h; exact ⟨Try.func179, ent Try.func179 rfl rfl, chk179⟩
  · cases h; exact ⟨Try.func180, ent Try.func180 rfl rfl, chk180⟩
  · cases h; exact ⟨Try.func181, ent Try.func181 rfl rfl, chk181⟩
  · cases h; exact ⟨Try.func182, ent Try.func182 rfl rfl, chk182⟩
  · cases h; exact ⟨Try.func183, ent Try.func183 rfl rfl, chk183⟩
  · cases h; exact ⟨Try.func184, ent Try.func184 rfl rfl, chk184⟩
  · cases h; exact ⟨Try.func189, ent Try.func189 rfl rfl, chk189⟩
  · cases h; exact ⟨Try.func190, ent Try.func190 rfl rfl, chk190⟩
  · cases h; exact ⟨Try.func191, ent Try.func191 rfl rfl, chk191⟩
  · cases h; exact ⟨Try.func192, ent Try.func192 rfl rfl, chk192⟩
  · cases h; exact ⟨Try.func193, ent Try.func193 rfl rfl, chk193⟩
  · cases h; exact ⟨Try.func194, ent Try.func194 rfl rfl, chk194⟩
  · cases h; exact ⟨Try.func196, ent Try.func196 rfl rfl, chk196⟩
  · cases h; exact ⟨Try.func202, ent Try.func202 rfl rfl, chk202⟩
  · cases h; exact ⟨Try.func205, ent Try.func205 rfl rfl, chk205⟩
  · cases h; exact ⟨Try.func206, ent Try.func206 rfl rfl, chk206⟩
  · exact okF_6 _ _ h
theorem okF_8 : ∀ f fn, F_8 f = some fn → Try.prog.funcs[f]? = some fn ∧ Enters Try.prog f ∧ ∀ c, fn.body = some c → chk WR (K f) fn.ntmps c = true := by
  intro f fn h
  unfold F_8 at h
  split at h
  · cases h; exact ⟨Try.func207, ent Try.func207 rfl rfl, chk207⟩
  · cases h; exact ⟨Try.func208, ent Try.func208 rfl rfl, chk208⟩
  · cases h; exact ⟨Try.func215, ent Try.func215 rfl rfl, chk215⟩
  · cases h; exact ⟨Try.func216, ent Try.func216 rfl rfl, chk216⟩
  · cases h; exact ⟨Try.func217, ent Try.func217 rfl rfl, chk217⟩
  · exact okF_7 _ _ h
end Go.Proofs.Ytfdlllhcjfhknaa.Eng
