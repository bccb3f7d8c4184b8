/- The types, the functions and the loops' live slots that the laws reach, first part. No conditions. -/
import Derived.Test.YtfdlllhcjfhknaaEngS
import Derived.Test.YtfdlllhcjfhknaaProg
import Derived.KernelRfl
import Derived.WalkKit
namespace Go.Proofs.Ytfdlllhcjfhknaa.Eng
open Go Go.Proofs
set_option maxRecDepth 100000
def T : Tab
  | 3 => some ⟨.int .i64, 1, 8, [.int .i64 0], true⟩
  | 4 => some ⟨.bool, 1, 1, [.bool false], true⟩
  | 5 => some ⟨.int .u8, 1, 1, [.int .u8 0], true⟩
  | 9 => some ⟨.str, 1, 16, [.string ByteArray.empty], true⟩
  | 22 => some ⟨(.slice 3), 1, 24, [.slice none 0 0], false⟩
  | 24 => some ⟨(.struct [(0, 1, false), (1, 1, false), (2, 1, false)]), 3, 40, [.int .i64 0, .int .i64 0, .slice none 0 0], false⟩
  | 29 => some ⟨(.struct [(0, 1, false), (1, 1, false), (2, 1, false)]), 3, 40, [.int .i64 0, .int .i64 0, .slice none 0 0], false⟩
  | 36 => some ⟨(.slice 5), 1, 24, [.slice none 0 0], false⟩
  | 73 => some ⟨(.slice 136), 1, 24, [.slice none 0 0], false⟩
  | 75 => some ⟨(.slice 134), 1, 24, [.slice none 0 0], false⟩
  | 86 => some ⟨(.slice 24), 1, 24, [.slice none 0 0], false⟩
  | 89 => some ⟨(.slice 29), 1, 24, [.slice none 0 0], false⟩
  | 103 => some ⟨(.ptr 106), 1, 8, [.pointer none], false⟩
  | 104 => some ⟨.int .u64, 1, 8, [.int .u64 0], true⟩
  | 106 => some ⟨(.struct [(0, 1, false), (1, 1, false), (2, 1, false)]), 3, 40, [.slice none 0 0, .int .i64 0, .int .u64 0], false⟩
  | 108 => some ⟨.oth, 1, 8, [.nilFunc], false⟩
  | 109 => some ⟨.oth, 1, 8, [.nilFunc], false⟩
  | 114 => some ⟨.oth, 1, 8, [.nilFunc], false⟩
  | 134 => some ⟨(.struct [(0, 1, false), (1, 1, false)]), 2, 16, [.int .i64 0, .int .i64 0], true⟩
  | 136 => some ⟨(.struct [(0, 1, false), (1, 1, false)]), 2, 16, [.int .i64 0, .int .i64 0], true⟩
  | 157 => some ⟨.int .u64, 1, 8, [.int .u64 0], true⟩
  | 161 => some ⟨.int .i64, 1, 8, [.int .i64 0], true⟩
  | 168 => some ⟨.int .u32, 1, 4, [.int .u32 0], true⟩
  | _ => none
theorem T3 : T 3 = some ⟨.int .i64, 1, 8, [.int .i64 0], true⟩ := rfl
theorem ok3 : TiOk Try.prog 3 ⟨.int .i64, 1, 8, [.int .i64 0], true⟩ := ⟨(by kernel_rfl : Try.prog.underlying 3 = _), (TiOk.of_info (z := (.int .i64 0)) (by kernel_rfl) rfl), rfl, by decide, (fun h => absurd h (by decide))⟩
theorem T4 : T 4 = some ⟨.bool, 1, 1, [.bool false], true⟩ := rfl
theorem ok4 : TiOk Try.prog 4 ⟨.bool, 1, 1, [.bool false], true⟩ := ⟨(by kernel_rfl : Try.prog.underlying 4 = _), (TiOk.of_info (z := (.bool false)) (by kernel_rfl) rfl), rfl, by decide, (fun h => absurd h (by decide))⟩
theorem T5 : T 5 = some ⟨.int .u8, 1, 1, [.int .u8 0], true⟩ := rfl
theorem ok5 : TiOk Try.prog 5 ⟨.int .u8, 1, 1, [.int .u8 0], true⟩ := ⟨(by kernel_rfl : Try.prog.underlying 5 = _), (TiOk.of_info (z := (.int .u8 0)) (by kernel_rfl) rfl), rfl, by decide, (fun h => absurd h (by decide))⟩
theorem T9 : T 9 = some ⟨.str, 1, 16, [.string ByteArray.empty], true⟩ := rfl
theorem ok9 : TiOk Try.prog 9 ⟨.str, 1, 16, [.string ByteArray.empty], true⟩ := ⟨(by kernel_rfl : Try.prog.underlying 9 = _), (TiOk.of_info (z := (.string ByteArray.empty)) (by kernel_rfl) rfl), rfl, by decide, (fun h => absurd h (by decide))⟩
theorem T22 : T 22 = some ⟨(.slice 3), 1, 24, [.slice none 0 0], false⟩ := rfl
theorem ok22 : TiOk Try.prog 22 ⟨(.slice 3), 1, 24, [.slice none 0 0], false⟩ := ⟨(by kernel_rfl : Try.prog.underlying 22 = _), (TiOk.of_info (z := (.slice none 0 0)) (by kernel_rfl) rfl), rfl, by decide, (fun h => absurd h (by decide))⟩
theorem T24 : T 24 = some ⟨(.struct [(0, 1, false), (1, 1, false), (2, 1, false)]), 3, 40, [.int .i64 0, .int .i64 0, .slice none 0 0], false⟩ := rfl
theorem ok24 : TiOk Try.prog 24 ⟨(.struct [(0, 1, false), (1, 1, false), (2, 1, false)]), 3, 40, [.int .i64 0, .int .i64 0, .slice none 0 0], false⟩ := ⟨TiOk.of_struct Try.underlying24 (by kernel_rfl), (TiOk.of_info (z := (.agg #[.int .i64 0, .int .i64 0, .slice none 0 0])) (by kernel_rfl) rfl), rfl, by decide, (fun h => absurd h (by decide))⟩
theorem T29 : T 29 = some ⟨(.struct [(0, 1, false), (1, 1, false), (2, 1, false)]), 3, 40, [.int .i64 0, .int .i64 0, .slice none 0 0], false⟩ := rfl
theorem ok29 : TiOk Try.prog 29 ⟨(.struct [(0, 1, false), (1, 1, false), (2, 1, false)]), 3, 40, [.int .i64 0, .int .i64 0, .slice none 0 0], false⟩ := ⟨TiOk.of_struct Try.underlying29 (by kernel_rfl), (TiOk.of_info (z := (.agg #[.int .i64 0, .int .i64 0, .slice none 0 0])) (by kernel_rfl) rfl), rfl, by decide, (fun h => absurd h (by decide))⟩
theorem T36 : T 36 = some ⟨(.slice 5), 1, 24, [.slice none 0 0], false⟩ := rfl
theorem ok36 : TiOk Try.prog 36 ⟨(.slice 5), 1, 24, [.slice none 0 0], false⟩ := ⟨(by kernel_rfl : Try.prog.underlying 36 = _), (TiOk.of_info (z := (.slice none 0 0)) (by kernel_rfl) rfl), rfl, by decide, (fun h => absurd h (by decide))⟩
theorem T73 : T 73 = some ⟨(.slice 136), 1, 24, [.slice none 0 0], false⟩ := rfl
theorem ok73 : TiOk Try.prog 73 ⟨(.slice 136), 1, 24, [.slice none 0 0], false⟩ := ⟨(by kernel_rfl : Try.prog.underlying 73 = _), (TiOk.of_info (z := (.slice none 0 0)) (by kernel_rfl) rfl), rfl, by decide, (fun h => absurd h (by decide))⟩
theorem T75 : T 75 = some ⟨(.slice 134), 1, 24, [.slice none 0 0], false⟩ := rfl
theorem ok75 : TiOk Try.prog 75 ⟨(.slice 134), 1, 24, [.slice none 0 0], false⟩ := ⟨(by kernel_rfl : Try.prog.underlying 75 = _), (TiOk.of_info (z := (.slice none 0 0)) (by kernel_rfl) rfl), rfl, by decide, (fun h => absurd h (by decide))⟩
theorem T86 : T 86 = some ⟨(.slice 24), 1, 24, [.slice none 0 0], false⟩ := rfl
theorem ok86 : TiOk Try.prog 86 ⟨(.slice 24), 1, 24, [.slice none 0 0], false⟩ := ⟨(by kernel_rfl : Try.prog.underlying 86 = _), (TiOk.of_info (z := (.slice none 0 0)) (by kernel_rfl) rfl), rfl, by decide, (fun h => absurd h (by decide))⟩
theorem T89 : T 89 = some ⟨(.slice 29), 1, 24, [.slice none 0 0], false⟩ := rfl
theorem ok89 : TiOk Try.prog 89 ⟨(.slice 29), 1, 24, [.slice none 0 0], false⟩ := ⟨(by kernel_rfl : Try.prog.underlying 89 = _), (TiOk.of_info (z := (.slice none 0 0)) (by kernel_rfl) rfl), rfl, by decide, (fun h => absurd h (by decide))⟩
theorem T103 : T 103 = some ⟨(.ptr 106), 1, 8, [.pointer none], false⟩ := rfl
theorem ok103 : TiOk Try.prog 103 ⟨(.ptr 106), 1, 8, [.pointer none], false⟩ := ⟨(by kernel_rfl : Try.prog.underlying 103 = _), (TiOk.of_info (z := (.pointer none)) (by kernel_rfl) rfl), rfl, by decide, (fun h => absurd h (by decide))⟩
theorem T104 : T 104 = some ⟨.int .u64, 1, 8, [.int .u64 0], true⟩ := rfl
theorem ok104 : TiOk Try.prog 104 ⟨.int .u64, 1, 8, [.int .u64 0], true⟩ := ⟨(by kernel_rfl : Try.prog.underlying 104 = _), (TiOk.of_info (z := (.int .u64 0)) (by kernel_rfl) rfl), rfl, by decide, (fun h => absurd h (by decide))⟩
theorem T106 : T 106 = some ⟨(.struct [(0, 1, false), (1, 1, false), (2, 1, false)]), 3, 40, [.slice none 0 0, .int .i64 0, .int .u64 0], false⟩ := rfl
theorem ok106 : TiOk Try.prog 106 ⟨(.struct [(0, 1, false), (1, 1, false), (2, 1, false)]), 3, 40, [.slice none 0 0, .int .i64 0, .int .u64 0], false⟩ := ⟨TiOk.of_struct Try.underlying106 (by kernel_rfl), (TiOk.of_info (z := (.agg #[.slice none 0 0, .int .i64 0, .int .u64 0])) (by kernel_rfl) rfl), rfl, by decide, (fun h => absurd h (by decide))⟩
theorem T108 : T 108 = some ⟨.oth, 1, 8, [.nilFunc], false⟩ := rfl
theorem ok108 : TiOk Try.prog 108 ⟨.oth, 1, 8, [.nilFunc], false⟩ := ⟨⟨_, Try.underlying108, rfl⟩, (TiOk.of_info (z := (.nilFunc)) (by kernel_rfl) rfl), rfl, by decide, (fun h => absurd h (by decide))⟩
theorem T109 : T 109 = some ⟨.oth, 1, 8, [.nilFunc], false⟩ := rfl
theorem ok109 : TiOk Try.prog 109 ⟨.oth, 1, 8, [.nilFunc], false⟩ := ⟨⟨_, Try.underlying109, rfl⟩, (TiOk.of_info (z := (.nilFunc)) (by kernel_rfl) rfl), rfl, by decide, (fun h => absurd h (by decide))⟩
theorem T114 : T 114 = some ⟨.oth, 1, 8, [.nilFunc], false⟩ := rfl
theorem ok114 : TiOk Try.prog 114 ⟨.oth, 1, 8, [.nilFunc], false⟩ := ⟨⟨_, Try.underlying114, rfl⟩, (TiOk.of_info (z := (.nilFunc)) (by kernel_rfl) rfl), rfl, by decide, (fun h => absurd h (by decide))⟩
theorem T134 : T 134 = some ⟨(.struct [(0, 1, false), (1, 1, false)]), 2, 16, [.int .i64 0, .int .i64 0], true⟩ := rfl
theorem ok134 : TiOk Try.prog 134 ⟨(.struct [(0, 1, false), (1, 1, false)]), 2, 16, [.int .i64 0, .int .i64 0], true⟩ := ⟨TiOk.of_struct Try.underlying134 (by kernel_rfl), (TiOk.of_info (z := (.agg #[.int .i64 0, .int .i64 0])) (by kernel_rfl) rfl), rfl, by decide, (fun _ => by kernel_rfl)⟩
theorem T136 : T 136 = some ⟨(.struct [(0, 1, false), (1, 1, false)]), 2, 16, [.int .i64 0, .int .i64 0], true⟩ := rfl
theorem ok136 : TiOk Try.prog 136 ⟨(.struct [(0, 1, false), (1, 1, false)]), 2, 16, [.int .i64 0, .int .i64 0], true⟩ := ⟨TiOk.of_struct Try.underlying136 (by kernel_rfl), (TiOk.of_info (z := (.agg #[.int .i64 0, .int .i64 0])) (by kernel_rfl) rfl), rfl, by decide, (fun _ => by kernel_rfl)⟩
theorem T157 : T 157 = some ⟨.int .u64, 1, 8, [.int .u64 0], true⟩ := rfl
theorem ok157 : TiOk Try.prog 157 ⟨.int .u64, 1, 8, [.int .u64 0], true⟩ := ⟨(by kernel_rfl : Try.prog.underlying 157 = _), (TiOk.of_info (z := (.int .u64 0)) (by kernel_rfl) rfl), rfl, by decide, (fun h => absurd h (by decide))⟩
theorem T161 : T 161 = some ⟨.int .i64, 1, 8, [.int .i64 0], true⟩ := rfl
theorem ok161 : TiOk Try.prog 161 ⟨.int .i64, 1, 8, [.int .i64 0], true⟩ := ⟨(by kernel_rfl : Try.prog.underlying 161 = _), (TiOk.of_info (z := (.int .i64 0)) (by kernel_rfl) rfl), rfl, by decide, (fun h => absurd h (by decide))⟩
theorem T168 : T 168 = some ⟨.int .u32, 1, 4, [.int .u32 0], true⟩ := rfl
theorem ok168 : TiOk Try.prog 168 ⟨.int .u32, 1, 4, [.int .u32 0], true⟩ := ⟨(by kernel_rfl : Try.prog.underlying 168 = _), (TiOk.of_info (z := (.int .u32 0)) (by kernel_rfl) rfl), rfl, by decide, (fun h => absurd h (by decide))⟩
theorem tabOk : TabOk Try.prog T := by
  intro t i h
  unfold T at h
  split at h
  · cases h; exact ok3
  · cases h; exact ok4
  · cases h; exact ok5
  · cases h; exact ok9
  · cases h; exact ok22
  · cases h; exact ok24
  · cases h; exact ok29
  · cases h; exact ok36
  · cases h; exact ok73
  · cases h; exact ok75
  · cases h; exact ok86
  · cases h; exact ok89
  · cases h; exact ok103
  · cases h; exact ok104
  · cases h; exact ok106
  · cases h; exact ok108
  · cases h; exact ok109
  · cases h; exact ok114
  · cases h; exact ok134
  · cases h; exact ok136
  · cases h; exact ok157
  · cases h; exact ok161
  · cases h; exact ok168
  · cases h
set_option maxHeartbeats 1000000
def WR (f : FuncId) : Bool := f == 18 || f == 71 || f == 76 || f == 83 || f == 103 || f == 104 || f == 111 || f == 160 || f == 161 || f == 162 || f == 166 || f == 169 || f == 176 || f == 178 || f == 189 || f == 193 || f == 196 || f == 1000036
def OW (f : FuncId) : Bool := f == 18 || f == 71 || f == 76 || f == 83 || f == 160 || f == 161 || f == 162 || f == 176 || f == 178 || f == 189 || f == 196
def K : FuncId → Nat → List Nat
  | 11, 0 => [4, 14, 16, 18, 22]
  | 68, 0 => [0, 3, 4]
  | 70, 0 => [0, 1, 5]
  | 71, 0 => [0, 1, 5]
  | 73, 0 => [0, 4, 5]
  | 74, 0 => [4, 10, 11, 12]
  | 75, 0 => [0, 1, 5]
  | 76, 0 => [0, 1, 5]
  | 77, 0 => [0, 1, 5]
  | 78, 0 => [0, 1, 5]
  | 80, 0 => [0, 3, 4]
  | 81, 0 => [1, 4, 6, 26, 27, 28]
  | 82, 0 => [0, 1, 5]
  | 83, 0 => [0, 1, 5]
  | 86, 0 => [1, 2, 8, 24, 25, 26]
  | 87, 0 => [0, 1, 2, 8, 9]
  | 88, 0 => [0, 1, 5]
  | 89, 0 => [4, 14, 15, 16]
  | 89, 1 => [4, 7, 8, 14, 15, 16, 27, 28, 29]
  | 91, 0 => [0, 1, 5]
  | 93, 0 => [1, 3]
  | 97, 0 => [0, 3, 4]
  | 115, 0 => [0, 1, 2, 6, 7, 8]
  | 131, 0 => [2, 3, 6, 8, 20, 21, 22]
  | 135, 0 => [0, 4, 5, 6, 8, 9, 10]
  | 136, 0 => [1, 4, 6, 16, 17, 18]
  | 140, 0 => [1, 2, 4, 5, 6]
  | 144, 0 => [0, 5, 6, 7]
  | 151, 0 => [0, 3, 4]
  | 154, 0 => [3, 9, 10, 11]
  | 160, 0 => [0, 1, 5]
  | 162, 0 => [0, 3]
  | 162, 1 => [0, 3, 4, 5]
  | 163, 0 => [0, 3]
  | 174, 0 => [0, 1, 7, 8]
  | 189, 0 => [0, 1, 2, 3, 8, 9]
  | 193, 0 => [0, 3, 4, 5]
  | 193, 1 => [0, 3, 4]
  | 194, 0 => [7, 8]
  | 196, 0 => [0, 1, 2, 6]
  | 196, 1 => [0, 1, 2, 6, 7]
  | _, _ => []
@[simp] theorem K11_0 : K 11 0 = [4, 14, 16, 18, 22] := rfl
@[simp] theorem K68_0 : K 68 0 = [0, 3, 4] := rfl
@[simp] theorem K70_0 : K 70 0 = [0, 1, 5] := rfl
@[simp] theorem K71_0 : K 71 0 = [0, 1, 5] := rfl
@[simp] theorem K73_0 : K 73 0 = [0, 4, 5] := rfl
@[simp] theorem K74_0 : K 74 0 = [4, 10, 11, 12] := rfl
@[simp] theorem K75_0 : K 75 0 = [0, 1, 5] := rfl
@[simp] theorem K76_0 : K 76 0 = [0, 1, 5] := rfl
@[simp] theorem K77_0 : K 77 0 = [0, 1, 5] := rfl
@[simp] theorem K78_0 : K 78 0 = [0, 1, 5] := rfl
@[simp] theorem K80_0 : K 80 0 = [0, 3, 4] := rfl
@[simp] theorem K81_0 : K 81 0 = [1, 4, 6, 26, 27, 28] := rfl
@[simp] theorem K82_0 : K 82 0 = [0, 1, 5] := rfl
@[simp] theorem K83_0 : K 83 0 = [0, 1, 5] := rfl
@[simp] theorem K86_0 : K 86 0 = [1, 2, 8, 24, 25, 26] := rfl
@[simp] theorem K87_0 : K 87 0 = [0, 1, 2, 8, 9] := rfl
@[simp] theorem K88_0 : K 88 0 = [0, 1, 5] := rfl
@[simp] theorem K89_0 : K 89 0 = [4, 14, 15, 16] := rfl
@[simp] theorem K89_1 : K 89 1 = [4, 7, 8, 14, 15, 16, 27, 28, 29] := rfl
@[simp] theorem K91_0 : K 91 0 = [0, 1, 5] := rfl
@[simp] theorem K93_0 : K 93 0 = [1, 3] := rfl
@[simp] theorem K97_0 : K 97 0 = [0, 3, 4] := rfl
@[simp] theorem K115_0 : K 115 0 = [0, 1, 2, 6, 7, 8] := rfl
@[simp] theorem K131_0 : K 131 0 = [2, 3, 6, 8, 20, 21, 22] := rfl
@[simp] theorem K135_0 : K 135 0 = [0, 4, 5, 6, 8, 9, 10] := rfl
@[simp] theorem K136_0 : K 136 0 = [1, 4, 6, 16, 17, 18] := rfl
@[simp] theorem K140_0 : K 140 0 = [1, 2, 4, 5, 6] := rfl
@[simp] theorem K144_0 : K 144 0 = [0, 5, 6, 7] := rfl
@[simp] theorem K151_0 : K 151 0 = [0, 3, 4] := rfl
@[simp] theorem K154_0 : K 154 0 = [3, 9, 10, 11] := rfl
@[simp] theorem K160_0 : K 160 0 = [0, 1, 5] := rfl
@[simp] theorem K162_0 : K 162 0 = [0, 3] := rfl
@[simp] theorem K162_1 : K 162 1 = [0, 3, 4, 5] := rfl
@[simp] theorem K163_0 : K 163 0 = [0, 3] := rfl
@[simp] theorem K174_0 : K 174 0 = [0, 1, 7, 8] := rfl
@[simp] theorem K189_0 : K 189 0 = [0, 1, 2, 3, 8, 9] := rfl
@[simp] theorem K193_0 : K 193 0 = [0, 3, 4, 5] := rfl
@[simp] theorem K193_1 : K 193 1 = [0, 3, 4] := rfl
@[simp] theorem K194_0 : K 194 0 = [7, 8] := rfl
@[simp] theorem K196_0 : K 196 0 = [0, 1, 2, 6] := rfl
@[simp] theorem K196_1 : K 196 1 = [0, 1, 2, 6, 7] := rfl
@[simp] theorem K70_1006 : K 70 1006 = [] := rfl
@[simp] theorem K75_1006 : K 75 1006 = [] := rfl
@[simp] theorem K81_1010 : K 81 1010 = [] := rfl
@[simp] theorem K82_1006 : K 82 1006 = [] := rfl
@[simp] theorem K88_1006 : K 88 1006 = [] := rfl
@[simp] theorem K131_1007 : K 131 1007 = [] := rfl
@[simp] theorem K135_1008 : K 135 1008 = [] := rfl
@[simp] theorem K136_1008 : K 136 1008 = [] := rfl
@[simp] theorem K142_1001 : K 142 1001 = [] := rfl
@[simp] theorem K144_1004 : K 144 1004 = [] := rfl
@[simp] theorem K145_1001 : K 145 1001 = [] := rfl
@[simp] theorem K160_1006 : K 160 1006 = [] := rfl
@[simp] theorem K162_1006 : K 162 1006 = [] := rfl
@[simp] theorem K162_1011 : K 162 1011 = [] := rfl
@[simp] theorem K163_1004 : K 163 1004 = [] := rfl
@[simp] theorem K164_1008 : K 164 1008 = [] := rfl
@[simp] theorem K165_1008 : K 165 1008 = [] := rfl
@[simp] theorem K165_1010 : K 165 1010 = [] := rfl
@[simp] theorem K165_1012 : K 165 1012 = [] := rfl
@[simp] theorem K169_1002 : K 169 1002 = [] := rfl
@[simp] theorem K169_1003 : K 169 1003 = [] := rfl
@[simp] theorem K169_1006 : K 169 1006 = [] := rfl
@[simp] theorem K189_1017 : K 189 1017 = [] := rfl
@[simp] theorem K194_1009 : K 194 1009 = [] := rfl
@[simp] theorem K196_1004 : K 196 1004 = [] := rfl
@[simp] theorem K196_1006 : K 196 1006 = [] := rfl
@[simp] theorem WR9 : WR 9 = false := rfl
@[simp] theorem OW9 : OW 9 = false := rfl
@[simp] theorem WR10 : WR 10 = false := rfl
@[simp] theorem OW10 : OW 10 = false := rfl
@[simp] theorem WR11 : WR 11 = false := rfl
@[simp] theorem OW11 : OW 11 = false := rfl
@[simp] theorem WR12 : WR 12 = false := rfl
@[simp] theorem OW12 : OW 12 = false := rfl
@[simp] theorem WR14 : WR 14 = false := rfl
@[simp] theorem OW14 : OW 14 = false := rfl
@[simp] theorem WR17 : WR 17 = false := rfl
@[simp] theorem OW17 : OW 17 = false := rfl
@[simp] theorem WR18 : WR 18 = true := rfl
@[simp] theorem OW18 : OW 18 = true := rfl
@[simp] theorem WR34 : WR 34 = false := rfl
@[simp] theorem OW34 : OW 34 = false := rfl
@[simp] theorem WR40 : WR 40 = false := rfl
@[simp] theorem OW40 : OW 40 = false := rfl
@[simp] theorem WR47 : WR 47 = false := rfl
@[simp] theorem OW47 : OW 47 = false := rfl
@[simp] theorem WR66 : WR 66 = false := rfl
@[simp] theorem OW66 : OW 66 = false := rfl
@[simp] theorem WR68 : WR 68 = false := rfl
@[simp] theorem OW68 : OW 68 = false := rfl
@[simp] theorem WR70 : WR 70 = false := rfl
@[simp] theorem OW70 : OW 70 = false := rfl
@[simp] theorem WR71 : WR 71 = true := rfl
@[simp] theorem OW71 : OW 71 = true := rfl
@[simp] theorem WR73 : WR 73 = false := rfl
@[simp] theorem OW73 : OW 73 = false := rfl
@[simp] theorem WR74 : WR 74 = false := rfl
@[simp] theorem OW74 : OW 74 = false := rfl
@[simp] theorem WR75 : WR 75 = false := rfl
@[simp] theorem OW75 : OW 75 = false := rfl
@[simp] theorem WR76 : WR 76 = true := rfl
@[simp] theorem OW76 : OW 76 = true := rfl
@[simp] theorem WR77 : WR 77 = false := rfl
@[simp] theorem OW77 : OW 77 = false := rfl
@[simp] theorem WR78 : WR 78 = false := rfl
@[simp] theorem OW78 : OW 78 = false := rfl
@[simp] theorem WR79 : WR 79 = false := rfl
@[simp] theorem OW79 : OW 79 = false := rfl
@[simp] theorem WR80 : WR 80 = false := rfl
@[simp] theorem OW80 : OW 80 = false := rfl
@[simp] theorem WR81 : WR 81 = false := rfl
@[simp] theorem OW81 : OW 81 = false := rfl
@[simp] theorem WR82 : WR 82 = false := rfl
@[simp] theorem OW82 : OW 82 = false := rfl
@[simp] theorem WR83 : WR 83 = true := rfl
@[simp] theorem OW83 : OW 83 = true := rfl
@[simp] theorem WR84 : WR 84 = false := rfl
@[simp] theorem OW84 : OW 84 = false := rfl
@[simp] theorem WR85 : WR 85 = false := rfl
@[simp] theorem OW85 : OW 85 = false := rfl
@[simp] theorem WR86 : WR 86 = false := rfl
@[simp] theorem OW86 : OW 86 = false := rfl
@[simp] theorem WR87 : WR 87 = false := rfl
@[simp] theorem OW87 : OW 87 = false := rfl
@[simp] theorem WR88 : WR 88 = false := rfl
@[simp] theorem OW88 : OW 88 = false := rfl
@[simp] theorem WR89 : WR 89 = false := rfl
@[simp] theorem OW89 : OW 89 = false := rfl
@[simp] theorem WR90 : WR 90 = false := rfl
@[simp] theorem OW90 : OW 90 = false := rfl
@[simp] theorem WR91 : WR 91 = false := rfl
@[simp] theorem OW91 : OW 91 = false := rfl
@[simp] theorem WR92 : WR 92 = false := rfl
@[simp] theorem OW92 : OW 92 = false := rfl
@[simp] theorem WR93 : WR 93 = false := rfl
@[simp] theorem OW93 : OW 93 = false := rfl
@[simp] theorem WR94 : WR 94 = false := rfl
@[simp] theorem OW94 : OW 94 = false := rfl
@[simp] theorem WR97 : WR 97 = false := rfl
@[simp] theorem OW97 : OW 97 = false := rfl
@[simp] theorem WR98 : WR 98 = false := rfl
@[simp] theorem OW98 : OW 98 = false := rfl
@[simp] theorem WR103 : WR 103 = true := rfl
@[simp] theorem OW103 : OW 103 = false := rfl
@[simp] theorem WR104 : WR 104 = true := rfl
@[simp] theorem OW104 : OW 104 = false := rfl
@[simp] theorem WR111 : WR 111 = true := rfl
@[simp] theorem OW111 : OW 111 = false := rfl
@[simp] theorem WR115 : WR 115 = false := rfl
@[simp] theorem OW115 : OW 115 = false := rfl
@[simp] theorem WR120 : WR 120 = false := rfl
@[simp] theorem OW120 : OW 120 = false := rfl
@[simp] theorem WR121 : WR 121 = false := rfl
@[simp] theorem OW121 : OW 121 = false := rfl
@[simp] theorem WR122 : WR 122 = false := rfl
@[simp] theorem OW122 : OW 122 = false := rfl
@[simp] theorem WR128 : WR 128 = false := rfl
@[simp] theorem OW128 : OW 128 = false := rfl
@[simp] theorem WR131 : WR 131 = false := rfl
@[simp] theorem OW131 : OW 131 = false := rfl
@[simp] theorem WR132 : WR 132 = false := rfl
@[simp] theorem OW132 : OW 132 = false := rfl
@[simp] theorem WR133 : WR 133 = false := rfl
@[simp] theorem OW133 : OW 133 = false := rfl
@[simp] theorem WR134 : WR 134 = false := rfl
@[simp] theorem OW134 : OW 134 = false := rfl
@[simp] theorem WR135 : WR 135 = false := rfl
@[simp] theorem OW135 : OW 135 = false := rfl
@[simp] theorem WR136 : WR 136 = false := rfl
@[simp] theorem OW136 : OW 136 = false := rfl
@[simp] theorem WR140 : WR 140 = false := rfl
@[simp] theorem OW140 : OW 140 = false := rfl
@[simp] theorem WR142 : WR 142 = false := rfl
@[simp] theorem OW142 : OW 142 = false := rfl
@[simp] theorem WR144 : WR 144 = false := rfl
@[simp] theorem OW144 : OW 144 = false := rfl
@[simp] theorem WR145 : WR 145 = false := rfl
@[simp] theorem OW145 : OW 145 = false := rfl
@[simp] theorem WR147 : WR 147 = false := rfl
@[simp] theorem OW147 : OW 147 = false := rfl
@[simp] theorem WR148 : WR 148 = false := rfl
@[simp] theorem OW148 : OW 148 = false := rfl
@[simp] theorem WR151 : WR 151 = false := rfl
@[simp] theorem OW151 : OW 151 = false := rfl
@[simp] theorem WR153 : WR 153 = false := rfl
@[simp] theorem OW153 : OW 153 = false := rfl
@[simp] theorem WR154 : WR 154 = false := rfl
@[simp] theorem OW154 : OW 154 = false := rfl
@[simp] theorem WR158 : WR 158 = false := rfl
@[simp] theorem OW158 : OW 158 = false := rfl
@[simp] theorem WR159 : WR 159 = false := rfl
@[simp] theorem OW159 : OW 159 = false := rfl
@[simp] theorem WR160 : WR 160 = true := rfl
@[simp] theorem OW160 : OW 160 = true := rfl
@[simp] theorem WR161 : WR 161 = true := rfl
@[simp] theorem OW161 : OW 161 = true := rfl
@[simp] theorem WR162 : WR 162 = true := rfl
@[simp] theorem OW162 : OW 162 = true := rfl
@[simp] theorem WR163 : WR 163 = false := rfl
@[simp] theorem OW163 : OW 163 = false := rfl
@[simp] theorem WR164 : WR 164 = false := rfl
@[simp] theorem OW164 : OW 164 = false := rfl
@[simp] theorem WR165 : WR 165 = false := rfl
@[simp] theorem OW165 : OW 165 = false := rfl
@[simp] theorem WR166 : WR 166 = true := rfl
@[simp] theorem OW166 : OW 166 = false := rfl
@[simp] theorem WR167 : WR 167 = false := rfl
@[simp] theorem OW167 : OW 167 = false := rfl
@[simp] theorem WR168 : WR 168 = false := rfl
@[simp] theorem OW168 : OW 168 = false := rfl
@[simp] theorem WR169 : WR 169 = true := rfl
@[simp] theorem OW169 : OW 169 = false := rfl
@[simp] theorem WR172 : WR 172 = false := rfl
@[simp] theorem OW172 : OW 172 = false := rfl
@[simp] theorem WR174 : WR 174 = false := rfl
@[simp] theorem OW174 : OW 174 = false := rfl
@[simp] theorem WR175 : WR 175 = false := rfl
@[simp] theorem OW175 : OW 175 = false := rfl
@[simp] theorem WR176 : WR 176 = true := rfl
@[simp] theorem OW176 : OW 176 = true := rfl
@[simp] theorem WR177 : WR 177 = false := rfl
@[simp] theorem OW177 : OW 177 = false := rfl
@[simp] theorem WR178 : WR 178 = true := rfl
@[simp] theorem OW178 : OW 178 = true := rfl
@[simp] theorem WR180 : WR 180 = false := rfl
@[simp] theorem OW180 : OW 180 = false := rfl
@[simp] theorem WR181 : WR 181 = false := rfl
@[simp] theorem OW181 : OW 181 = false := rfl
@[simp] theorem WR182 : WR 182 = false := rfl
@[simp] theorem OW182 : OW 182 = false := rfl
@[simp] theorem WR184 : WR 184 = false := rfl
@[simp] theorem OW184 : OW 184 = false := rfl
@[simp] theorem WR189 : WR 189 = true := rfl
@[simp] theorem OW189 : OW 189 = true := rfl
@[simp] theorem WR190 : WR 190 = false := rfl
@[simp] theorem OW190 : OW 190 = false := rfl
@[simp] theorem WR191 : WR 191 = false := rfl
@[simp] theorem OW191 : OW 191 = false := rfl
@[simp] theorem WR192 : WR 192 = false := rfl
@[simp] theorem OW192 : OW 192 = false := rfl
@[simp] theorem WR193 : WR 193 = true := rfl
@[simp] theorem OW193 : OW 193 = false := rfl
@[simp] theorem WR194 : WR 194 = false := rfl
@[simp] theorem OW194 : OW 194 = false := rfl
@[simp] theorem WR196 : WR 196 = true := rfl
@[simp] theorem OW196 : OW 196 = true := rfl
@[simp] theorem WR202 : WR 202 = false := rfl
@[simp] theorem OW202 : OW 202 = false := rfl
@[simp] theorem WR205 : WR 205 = false := rfl
@[simp] theorem OW205 : OW 205 = false := rfl
@[simp] theorem WR206 : WR 206 = false := rfl
@[simp] theorem OW206 : OW 206 = false := rfl
@[simp] theorem WR207 : WR 207 = false := rfl
@[simp] theorem OW207 : OW 207 = false := rfl
@[simp] theorem WR208 : WR 208 = false := rfl
@[simp] theorem OW208 : OW 208 = false := rfl
@[simp] theorem WR215 : WR 215 = false := rfl
@[simp] theorem OW215 : OW 215 = false := rfl
@[simp] theorem WR216 : WR 216 = false := rfl
@[simp] theorem OW216 : OW 216 = false := rfl
@[simp] theorem WR217 : WR 217 = false := rfl
@[simp] theorem OW217 : OW 217 = false := rfl
@[simp] theorem WRt3 : WR 1000003 = false := rfl
@[simp] theorem WRt4 : WR 1000004 = false := rfl
@[simp] theorem WRt5 : WR 1000005 = false := rfl
@[simp] theorem WRt9 : WR 1000009 = false := rfl
@[simp] theorem WRt22 : WR 1000022 = false := rfl
@[simp] theorem WRt24 : WR 1000024 = false := rfl
@[simp] theorem WRt29 : WR 1000029 = false := rfl
@[simp] theorem WRt36 : WR 1000036 = true := rfl
@[simp] theorem WRt73 : WR 1000073 = false := rfl
@[simp] theorem WRt75 : WR 1000075 = false := rfl
@[simp] theorem WRt86 : WR 1000086 = false := rfl
@[simp] theorem WRt89 : WR 1000089 = false := rfl
@[simp] theorem WRt103 : WR 1000103 = false := rfl
@[simp] theorem WRt104 : WR 1000104 = false := rfl
@[simp] theorem WRt106 : WR 1000106 = false := rfl
@[simp] theorem WRt108 : WR 1000108 = false := rfl
@[simp] theorem WRt109 : WR 1000109 = false := rfl
@[simp] theorem WRt114 : WR 1000114 = false := rfl
@[simp] theorem WRt134 : WR 1000134 = false := rfl
@[simp] theorem WRt136 : WR 1000136 = false := rfl
@[simp] theorem WRt157 : WR 1000157 = false := rfl
@[simp] theorem WRt161 : WR 1000161 = false := rfl
@[simp] theorem WRt168 : WR 1000168 = false := rfl
noncomputable def F_0 : FuncId → Option Func
  | 9 => some Try.f9
  | 10 => some Try.f10
  | 11 => some Try.f11
  | 12 => some Try.f12
  | 14 => some Try.f14
  | 17 => some Try.f17
  | 18 => some Try.f18
  | 34 => some Try.f34
  | 40 => some Try.f40
  | 47 => some Try.f47
  | 66 => some Try.f66
  | 68 => some Try.f68
  | 70 => some Try.f70
  | 71 => some Try.f71
  | 73 => some Try.f73
  | 74 => some Try.f74
  | 75 => some Try.f75
  | 76 => some Try.f76
  | 77 => some Try.f77
  | 78 => some Try.f78
  | 79 => some Try.f79
  | 80 => some Try.f80
  | 81 => some Try.f81
  | 82 => some Try.f82
  | f => none
noncomputable def F_1 : FuncId → Option Func
  | 83 => some Try.f83
  | 84 => some Try.f84
  | 85 => some Try.f85
  | 86 => some Try.f86
  | 87 => some Try.f87
  | 88 => some Try.f88
  | 89 => some Try.f89
  | 90 => some Try.f90
  | 91 => some Try.f91
  | 92 => some Try.f92
  | 93 => some Try.f93
  | 94 => some Try.f94
  | 97 => some Try.f97
  | 98 => some Try.f98
  | 103 => some Try.f103
  | 104 => some Try.f104
  | 111 => some Try.f111
  | 115 => some Try.f115
  | 120 => some Try.f120
  | 121 => some Try.f121
  | 122 => some Try.f122
  | 128 => some Try.f128
  | 131 => some Try.f131
  | 132 => some Try.f132
  | f => F_0 f
noncomputable def F_2 : FuncId → Option Func
  | 133 => some Try.f133
  | 134 => some Try.f134
  | 135 => some Try.f135
  | 136 => some Try.f136
  | 140 => some Try.f140
  | 142 => some Try.f142
  | 144 => some Try.f144
  | 145 => some Try.f145
  | 147 => some Try.f147
  | 148 => some Try.f148
  | 151 => some Try.f151
  | 153 => some Try.f153
  | 154 => some Try.f154
  | 158 => some Try.f158
  | 159 => some Try.f159
  | 160 => some Try.f160
  | 161 => some Try.f161
  | 162 => some Try.f162
  | 163 => some Try.f163
  | 164 => some Try.f164
  | 165 => some Try.f165
  | 166 => some Try.f166
  | 167 => some Try.f167
  | 168 => some Try.f168
  | f => F_1 f
noncomputable def F_3 : FuncId → Option Func
  | 169 => some Try.f169
  | 172 => some Try.f172
  | 174 => some Try.f174
  | 175 => some Try.f175
  | 176 => some Try.f176
  | 177 => some Try.f177
  | 178 => some Try.f178
  | 180 => some Try.f180
  | 181 => some Try.f181
  | 182 => some Try.f182
  | 184 => some Try.f184
  | 189 => some Try.f189
  | 190 => some Try.f190
  | 191 => some Try.f191
  | 192 => some Try.f192
  | 193 => some Try.f193
  | 194 => some Try.f194
  | 196 => some Try.f196
  | 202 => some Try.f202
  | 205 => some Try.f205
  | 206 => some Try.f206
  | 207 => some Try.f207
  | 208 => some Try.f208
  | 215 => some Try.f215
  | f => F_2 f
noncomputable def F_4 : FuncId → Option Func
  | 216 => some Try.f216
  | 217 => some Try.f217
  | f => F_3 f
noncomputable def F : FuncId → Option Func := F_4
theorem F9 : F 9 = some Try.f9 := rfl
theorem chk9 : ∀ c, Try.f9.body = some c → chk WR (K 9) Try.f9.ntmps c = true := by intro c h; cases h; decide +kernel
theorem F10 : F 10 = some Try.f10 := rfl
theorem chk10 : ∀ c, Try.f10.body = some c → chk WR (K 10) Try.f10.ntmps c = true := by intro c h; cases h; decide +kernel
theorem F11 : F 11 = some Try.f11 := rfl
theorem chk11 : ∀ c, Try.f11.body = some c → chk WR (K 11) Try.f11.ntmps c = true := by intro c h; cases h; decide +kernel
theorem F12 : F 12 = some Try.f12 := rfl
theorem chk12 : ∀ c, Try.f12.body = some c → chk WR (K 12) Try.f12.ntmps c = true := by intro c h; cases h; decide +kernel
theorem F14 : F 14 = some Try.f14 := rfl
theorem chk14 : ∀ c, Try.f14.body = some c → chk WR (K 14) Try.f14.ntmps c = true := by intro c h; cases h; decide +kernel
theorem F17 : F 17 = some Try.f17 := rfl
theorem chk17 : ∀ c, Try.f17.body = some c → chk WR (K 17) Try.f17.ntmps c = true := by intro c h; cases h; decide +kernel
theorem F18 : F 18 = some Try.f18 := rfl
theorem chk18 : ∀ c, Try.f18.body = some c → chk WR (K 18) Try.f18.ntmps c = true := by intro c h; cases h; decide +kernel
theorem F34 : F 34 = some Try.f34 := rfl
theorem chk34 : ∀ c, Try.f34.body = some c → chk WR (K 34) Try.f34.ntmps c = true := by intro c h; cases h; decide +kernel
theorem F40 : F 40 = some Try.f40 := rfl
theorem chk40 : ∀ c, Try.f40.body = some c → chk WR (K 40) Try.f40.ntmps c = true := by intro c h; cases h; decide +kernel
theorem F47 : F 47 = some Try.f47 := rfl
theorem chk47 : ∀ c, Try.f47.body = some c → chk WR (K 47) Try.f47.ntmps c = true := by intro c h; cases h; decide +kernel
theorem F66 : F 66 = some Try.f66 := rfl
theorem chk66 : ∀ c, Try.f66.body = some c → chk WR (K 66) Try.f66.ntmps c = true := by intro c h; cases h; decide +kernel
theorem F68 : F 68 = some Try.f68 := rfl
theorem chk68 : ∀ c, Try.f68.body = some c → chk WR (K 68) Try.f68.ntmps c = true := by intro c h; cases h; decide +kernel
theorem F70 : F 70 = some Try.f70 := rfl
theorem chk70 : ∀ c, Try.f70.body = some c → chk WR (K 70) Try.f70.ntmps c = true := by intro c h; cases h; decide +kernel
theorem F71 : F 71 = some Try.f71 := rfl
theorem chk71 : ∀ c, Try.f71.body = some c → chk WR (K 71) Try.f71.ntmps c = true := by intro c h; cases h; decide +kernel
theorem F73 : F 73 = some Try.f73 := rfl
theorem chk73 : ∀ c, Try.f73.body = some c → chk WR (K 73) Try.f73.ntmps c = true := by intro c h; cases h; decide +kernel
theorem F74 : F 74 = some Try.f74 := rfl
theorem chk74 : ∀ c, Try.f74.body = some c → chk WR (K 74) Try.f74.ntmps c = true := by intro c h; cases h; decide +kernel
theorem F75 : F 75 = some Try.f75 := rfl
theorem chk75 : ∀ c, Try.f75.body = some c → chk WR (K 75) Try.f75.ntmps c = true := by intro c h; cases h; decide +kernel
theorem F76 : F 76 = some Try.f76 := rfl
theorem chk76 : ∀ c, Try.f76.body = some c → chk WR (K 76) Try.f76.ntmps c = true := by intro c h; cases h; decide +kernel
theorem F77 : F 77 = some Try.f77 := rfl
theorem chk77 : ∀ c, Try.f77.body = some c → chk WR (K 77) Try.f77.ntmps c = true := by intro c h; cases h; decide +kernel
theorem F78 : F 78 = some Try.f78 := rfl
theorem chk78 : ∀ c, Try.f78.body = some c → chk WR (K 78) Try.f78.ntmps c = true := by intro c h; cases h; decide +kernel
theorem F79 : F 79 = some Try.f79 := rfl
theorem chk79 : ∀ c, Try.f79.body = some c → chk WR (K 79) Try.f79.ntmps c = true := by intro c h; cases h; decide +kernel
theorem F80 : F 80 = some Try.f80 := rfl
theorem chk80 : ∀ c, Try.f80.body = some c → chk WR (K 80) Try.f80.ntmps c = true := by intro c h; cases h; decide +kernel
theorem F81 : F 81 = some Try.f81 := rfl
theorem chk81 : ∀ c, Try.f81.body = some c → chk WR (K 81) Try.f81.ntmps c = true := by intro c h; cases h; decide +kernel
theorem F82 : F 82 = some Try.f82 := rfl
theorem chk82 : ∀ c, Try.f82.body = some c → chk WR (K 82) Try.f82.ntmps c = true := by intro c h; cases h; decide +kernel
theorem F83 : F 83 = some Try.f83 := rfl
theorem chk83 : ∀ c, Try.f83.body = some c → chk WR (K 83) Try.f83.ntmps c = true := by intro c h; cases h; decide +kernel
theorem F84 : F 84 = some Try.f84 := rfl
theorem chk84 : ∀ c, Try.f84.body = some c → chk WR (K 84) Try.f84.ntmps c = true := by intro c h; cases h; decide +kernel
theorem F85 : F 85 = some Try.f85 := rfl
theorem chk85 : ∀ c, Try.f85.body = some c → chk WR (K 85) Try.f85.ntmps c = true := by intro c h; cases h; decide +kernel
theorem F86 : F 86 = some Try.f86 := rfl
theorem chk86 : ∀ c, Try.f86.body = some c → chk WR (K 86) Try.f86.ntmps c = true := by intro c h; cases h; decide +kernel
theorem F87 : F 87 = some Try.f87 := rfl
theorem chk87 : ∀ c, Try.f87.body = some c → chk WR (K 87) Try.f87.ntmps c = true := by intro c h; cases h; decide +kernel
theorem F88 : F 88 = some Try.f88 := rfl
theorem chk88 : ∀ c, Try.f88.body = some c → chk WR (K 88) Try.f88.ntmps c = true := by intro c h; cases h; decide +kernel
theorem F89 : F 89 = some Try.f89 := rfl
theorem chk89 : ∀ c, Try.f89.body = some c → chk WR (K 89) Try.f89.ntmps c = true := by intro c h; cases h; decide +kernel
theorem F90 : F 90 = some Try.f90 := rfl
theorem chk90 : ∀ c, Try.f90.body = some c → chk WR (K 90) Try.f90.ntmps c = true := by intro c h; cases h; decide +kernel
theorem F91 : F 91 = some Try.f91 := rfl
theorem chk91 : ∀ c, Try.f91.body = some c → chk WR (K 91) Try.f91.ntmps c = true := by intro c h; cases h; decide +kernel
theorem F92 : F 92 = some Try.f92 := rfl
theorem chk92 : ∀ c, Try.f92.body = some c → chk WR (K 92) Try.f92.ntmps c = true := by intro c h; cases h; decide +kernel
theorem F93 : F 93 = some Try.f93 := rfl
theorem chk93 : ∀ c, Try.f93.body = some c → chk WR (K 93) Try.f93.ntmps c = true := by intro c h; cases h; decide +kernel
theorem F94 : F 94 = some Try.f94 := rfl
theorem chk94 : ∀ c, Try.f94.body = some c → chk WR (K 94) Try.f94.ntmps c = true := by intro c h; cases h; decide +kernel
theorem F97 : F 97 = some Try.f97 := rfl
theorem chk97 : ∀ c, Try.f97.body = some c → chk WR (K 97) Try.f97.ntmps c = true := by intro c h; cases h; decide +kernel
theorem F98 : F 98 = some Try.f98 := rfl
theorem chk98 : ∀ c, Try.f98.body = some c → chk WR (K 98) Try.f98.ntmps c = true := by intro c h; cases h; decide +kernel
theorem F103 : F 103 = some Try.f103 := rfl
theorem chk103 : ∀ c, Try.f103.body = some c → chk WR (K 103) Try.f103.ntmps c = true := by intro c h; cases h; decide +kernel
theorem F104 : F 104 = some Try.f104 := rfl
theorem chk104 : ∀ c, Try.f104.body = some c → chk WR (K 104) Try.f104.ntmps c = true := by intro c h; cases h; decide +kernel
theorem F111 : F 111 = some Try.f111 := rfl
theorem chk111 : ∀ c, Try.f111.body = some c → chk WR (K 111) Try.f111.ntmps c = true := by intro c h; cases h; decide +kernel
theorem F115 : F 115 = some Try.f115 := rfl
theorem chk115 : ∀ c, Try.f115.body = some c → chk WR (K 115) Try.f115.ntmps c = true := by intro c h; cases h; decide +kernel
theorem F120 : F 120 = some Try.f120 := rfl
theorem chk120 : ∀ c, Try.f120.body = some c → chk WR (K 120) Try.f120.ntmps c = true := by intro c h; cases h; decide +kernel
theorem F121 : F 121 = some Try.f121 := rfl
theorem chk121 : ∀ c, Try.f121.body = some c → chk WR (K 121) Try.f121.ntmps c = true := by intro c h; cases h; decide +kernel
theorem F122 : F 122 = some Try.f122 := rfl
theorem chk122 : ∀ c, Try.f122.body = some c → chk WR (K 122) Try.f122.ntmps c = true := by intro c h; cases h; decide +kernel
theorem F128 : F 128 = some Try.f128 := rfl
theorem chk128 : ∀ c, Try.f128.body = some c → chk WR (K 128) Try.f128.ntmps c = true := by intro c h; cases h; decide +kernel
theorem F131 : F 131 = some Try.f131 := rfl
theorem chk131 : ∀ c, Try.f131.body = some c → chk WR (K 131) Try.f131.ntmps c = true := by intro c h; cases h; decide +kernel
theorem F132 : F 132 = some Try.f132 := rfl
theorem chk132 : ∀ c, Try.f132.body = some c → chk WR (K 132) Try.f132.ntmps c = true := by intro c h; cases h; decide +kernel
theorem F133 : F 133 = some Try.f133 := rfl
theorem chk133 : ∀ c, Try.f133.body = some c → chk WR (K 133) Try.f133.ntmps c = true := by intro c h; cases h; decide +kernel
theorem F134 : F 134 = some Try.f134 := rfl
theorem chk134 : ∀ c, Try.f134.body = some c → chk WR (K 134) Try.f134.ntmps c = true := by intro c h; cases h; decide +kernel
theorem F135 : F 135 = some Try.f135 := rfl
theorem chk135 : ∀ c, Try.f135.body = some c → chk WR (K 135) Try.f135.ntmps c = true := by intro c h; cases h; decide +kernel
theorem F136 : F 136 = some Try.f136 := rfl
theorem chk136 : ∀ c, Try.f136.body = some c → chk WR (K 136) Try.f136.ntmps c = true := by intro c h; cases h; decide +kernel
theorem F140 : F 140 = some Try.f140 := rfl
theorem chk140 : ∀ c, Try.f140.body = some c → chk WR (K 140) Try.f140.ntmps c = true := by intro c h; cases h; decide +kernel
theorem F142 : F 142 = some Try.f142 := rfl
theorem chk142 : ∀ c, Try.f142.body = some c → chk WR (K 142) Try.f142.ntmps c = true := by intro c h; cases h; decide +kernel
theorem F144 : F 144 = some Try.f144 := rfl
theorem chk144 : ∀ c, Try.f144.body = some c → chk WR (K 144) Try.f144.ntmps c = true := by intro c h; cases h; decide +kernel
theorem F145 : F 145 = some Try.f145 := rfl
theorem chk145 : ∀ c, Try.f145.body = some c → chk WR (K 145) Try.f145.ntmps c = true := by intro c h; cases h; decide +kernel
theorem F147 : F 147 = some Try.f147 := rfl
theorem chk147 : ∀ c, Try.f147.body = some c → chk WR (K 147) Try.f147.ntmps c = true := by intro c h; cases h; decide +kernel
theorem F148 : F 148 = some Try.f148 := rfl
theorem chk148 : ∀ c, Try.f148.body = some c → chk WR (K 148) Try.f148.ntmps c = true := by intro c h; cases h; decide +kernel
theorem F151 : F 151 = some Try.f151 := rfl
theorem chk151 : ∀ c, Try.f151.body = some c → chk WR (K 151) Try.f151.ntmps c = true := by intro c h; cases h; decide +kernel
theorem F153 : F 153 = some Try.f153 := rfl
theorem chk153 : ∀ c, Try.f153.body = some c → chk WR (K 153) Try.f153.ntmps c = true := by intro c h; cases h; decide +kernel
theorem F154 : F 154 = some Try.f154 := rfl
theorem chk154 : ∀ c, Try.f154.body = some c → chk WR (K 154) Try.f154.ntmps c = true := by intro c h; cases h; decide +kernel
theorem F158 : F 158 = some Try.f158 := rfl
theorem chk158 : ∀ c, Try.f158.body = some c → chk WR (K 158) Try.f158.ntmps c = true := by intro c h; cases h; decide +kernel
theorem F159 : F 159 = some Try.f159 := rfl
theorem chk159 : ∀ c, Try.f159.body = some c → chk WR (K 159) Try.f159.ntmps c = true := by intro c h; cases h; decide +kernel
theorem F160 : F 160 = some Try.f160 := rfl
theorem chk160 : ∀ c, Try.f160.body = some c → chk WR (K 160) Try.f160.ntmps c = true := by intro c h; cases h; decide +kernel
theorem F161 : F 161 = some Try.f161 := rfl
theorem chk161 : ∀ c, Try.f161.body = some c → chk WR (K 161) Try.f161.ntmps c = true := by intro c h; cases h; decide +kernel
theorem F162 : F 162 = some Try.f162 := rfl
theorem chk162 : ∀ c, Try.f162.body = some c → chk WR (K 162) Try.f162.ntmps c = true := by intro c h; cases h; decide +kernel
theorem F163 : F 163 = some Try.f163 := rfl
theorem chk163 : ∀ c, Try.f163.body = some c → chk WR (K 163) Try.f163.ntmps c = true := by intro c h; cases h; decide +kernel
theorem F164 : F 164 = some Try.f164 := rfl
theorem chk164 : ∀ c, Try.f164.body = some c → chk WR (K 164) Try.f164.ntmps c = true := by intro c h; cases h; decide +kernel
theorem F165 : F 165 = some Try.f165 := rfl
theorem chk165 : ∀ c, Try.f165.body = some c → chk WR (K 165) Try.f165.ntmps c = true := by intro c h; cases h; decide +kernel
theorem F166 : F 166 = some Try.f166 := rfl
theorem chk166 : ∀ c, Try.f166.body = some c → chk WR (K 166) Try.f166.ntmps c = true := by intro c h; cases h; decide +kernel
theorem F167 : F 167 = some Try.f167 := rfl
theorem chk167 : ∀ c, Try.f167.body = some c → chk WR (K 167) Try.f167.ntmps c = true := by intro c h; cases h; decide +kernel
theorem F168 : F 168 = some Try.f168 := rfl
theorem chk168 : ∀ c, Try.f168.body = some c → chk WR (K 168) Try.f168.ntmps c = true := by intro c h; cases h; decide +kernel
theorem F169 : F 169 = some Try.f169 := rfl
theorem chk169 : ∀ c, Try.f169.body = some c → chk WR (K 169) Try.f169.ntmps c = true := by intro c h; cases h; decide +kernel
theorem F172 : F 172 = some Try.f172 := rfl
theorem chk172 : ∀ c, Try.f172.body = some c → chk WR (K 172) Try.f172.ntmps c = true := by intro c h; cases h; decide +kernel
theorem F174 : F 174 = some Try.f174 := rfl
theorem chk174 : ∀ c, Try.f174.body = some c → chk WR (K 174) Try.f174.ntmps c = true := by intro c h; cases h; decide +kernel
theorem F175 : F 175 = some Try.f175 := rfl
theorem chk175 : ∀ c, Try.f175.body = some c → chk WR (K 175) Try.f175.ntmps c = true := by intro c h; cases h; decide +kernel
theorem F176 : F 176 = some Try.f176 := rfl
theorem chk176 : ∀ c, Try.f176.body = some c → chk WR (K 176) Try.f176.ntmps c = true := by intro c h; cases h; decide +kernel
theorem F177 : F 177 = some Try.f177 := rfl
theorem chk177 : ∀ c, Try.f177.body = some c → chk WR (K 177) Try.f177.ntmps c = true := by intro c h; cases h; decide +kernel
theorem F178 : F 178 = some Try.f178 := rfl
theorem chk178 : ∀ c, Try.f178.body = some c → chk WR (K 178) Try.f178.ntmps c = true := by intro c h; cases h; decide +kernel
theorem F180 : F 180 = some Try.f180 := rfl
theorem chk180 : ∀ c, Try.f180.body = some c → chk WR (K 180) Try.f180.ntmps c = true := by intro c h; cases h; decide +kernel
theorem F181 : F 181 = some Try.f181 := rfl
theorem chk181 : ∀ c, Try.f181.body = some c → chk WR (K 181) Try.f181.ntmps c = true := by intro c h; cases h; decide +kernel
theorem F182 : F 182 = some Try.f182 := rfl
theorem chk182 : ∀ c, Try.f182.body = some c → chk WR (K 182) Try.f182.ntmps c = true := by intro c h; cases h; decide +kernel
theorem F184 : F 184 = some Try.f184 := rfl
theorem chk184 : ∀ c, Try.f184.body = some c → chk WR (K 184) Try.f184.ntmps c = true := by intro c h; cases h; decide +kernel
theorem F189 : F 189 = some Try.f189 := rfl
theorem chk189 : ∀ c, Try.f189.body = some c → chk WR (K 189) Try.f189.ntmps c = true := by intro c h; cases h; decide +kernel
theorem F190 : F 190 = some Try.f190 := rfl
theorem chk190 : ∀ c, Try.f190.body = some c → chk WR (K 190) Try.f190.ntmps c = true := by intro c h; cases h; decide +kernel
theorem F191 : F 191 = some Try.f191 := rfl
theorem chk191 : ∀ c, Try.f191.body = some c → chk WR (K 191) Try.f191.ntmps c = true := by intro c h; cases h; decide +kernel
theorem F192 : F 192 = some Try.f192 := rfl
theorem chk192 : ∀ c, Try.f192.body = some c → chk WR (K 192) Try.f192.ntmps c = true := by intro c h; cases h; decide +kernel
theorem F193 : F 193 = some Try.f193 := rfl
theorem chk193 : ∀ c, Try.f193.body = some c → chk WR (K 193) Try.f193.ntmps c = true := by intro c h; cases h; decide +kernel
theorem F194 : F 194 = some Try.f194 := rfl
theorem chk194 : ∀ c, Try.f194.body = some c → chk WR (K 194) Try.f194.ntmps c = true := by intro c h; cases h; decide +kernel
theorem F196 : F 196 = some Try.f196 := rfl
theorem chk196 : ∀ c, Try.f196.body = some c → chk WR (K 196) Try.f196.ntmps c = true := by intro c h; cases h; decide +kernel
theorem F202 : F 202 = some Try.f202 := rfl
theorem chk202 : ∀ c, Try.f202.body = some c → chk WR (K 202) Try.f202.ntmps c = true := by intro c h; cases h; decide +kernel
theorem F205 : F 205 = some Try.f205 := rfl
theorem chk205 : ∀ c, Try.f205.body = some c → chk WR (K 205) Try.f205.ntmps c = true := by intro c h; cases h; decide +kernel
theorem F206 : F 206 = some Try.f206 := rfl
theorem chk206 : ∀ c, Try.f206.body = some c → chk WR (K 206) Try.f206.ntmps c = true := by intro c h; cases h; decide +kernel
theorem F207 : F 207 = some Try.f207 := rfl
theorem chk207 : ∀ c, Try.f207.body = some c → chk WR (K 207) Try.f207.ntmps c = true := by intro c h; cases h; decide +kernel
theorem F208 : F 208 = some Try.f208 := rfl
theorem chk208 : ∀ c, Try.f208.body = some c → chk WR (K 208) Try.f208.ntmps c = true := by intro c h; cases h; decide +kernel
theorem F215 : F 215 = some Try.f215 := rfl
theorem chk215 : ∀ c, Try.f215.body = some c → chk WR (K 215) Try.f215.ntmps c = true := by intro c h; cases h; decide +kernel
theorem F216 : F 216 = some Try.f216 := rfl
theorem chk216 : ∀ c, Try.f216.body = some c → chk WR (K 216) Try.f216.ntmps c = true := by intro c h; cases h; decide +kernel
theorem F217 : F 217 = some Try.f217 := rfl
theorem chk217 : ∀ c, Try.f217.body = some c → chk WR (K 217) Try.f217.ntmps c = true := by intro c h; cases h; decide +kernel
theorem ent {f : FuncId} {fn : Func} (h : Try.prog.funcs[f]? = some fn) (hb : fn.body.isSome = true) (hn : (fn.name == "runtime.NumGoroutine") = false) : Enters Try.prog f := enters_mk h hb hn
theorem okF_0 : ∀ f fn, F_0 f = some fn → Try.prog.funcs[f]? = some fn ∧ Enters Try.prog f ∧ ∀ c, fn.body = some c → chk WR (K f) fn.ntmps c = true := by
  intro f fn h
  unfold F_0 at h
  split at h
  · cases h; exact ⟨Try.func9, ent Try.func9 rfl rfl, chk9⟩
  · cases h; exact ⟨Try.func10, ent Try.func10 rfl rfl, chk10⟩
  · cases h; exact ⟨Try.func11, ent Try.func11 rfl rfl, chk11⟩
  · cases h; exact ⟨Try.func12, ent Try.func12 rfl rfl, chk12⟩
  · cases h; exact ⟨Try.func14, ent Try.func14 rfl rfl, chk14⟩
  · cases h; exact ⟨Try.func17, ent Try.func17 rfl rfl, chk17⟩
  · cases h; exact ⟨Try.func18, ent Try.func18 rfl rfl, chk18⟩
  · cases h; exact ⟨Try.func34, ent Try.func34 rfl rfl, chk34⟩
  · cases h; exact ⟨Try.func40, ent Try.func40 rfl rfl, chk40⟩
  · cases h; exact ⟨Try.func47, ent Try.func47 rfl rfl, chk47⟩
  · cases h; exact ⟨Try.func66, ent Try.func66 rfl rfl, chk66⟩
  · cases h; exact ⟨Try.func68, ent Try.func68 rfl rfl, chk68⟩
  · cases h; exact ⟨Try.func70, ent Try.func70 rfl rfl, chk70⟩
  · cases h; exact ⟨Try.func71, ent Try.func71 rfl rfl, chk71⟩
  · cases h; exact ⟨Try.func73, ent Try.func73 rfl rfl, chk73⟩
  · cases h; exact ⟨Try.func74, ent Try.func74 rfl rfl, chk74⟩
  · cases h; exact ⟨Try.func75, ent Try.func75 rfl rfl, chk75⟩
  · cases h; exact ⟨Try.func76, ent Try.func76 rfl rfl, chk76⟩
  · cases h; exact ⟨Try.func77, ent Try.func77 rfl rfl, chk77⟩
  · cases h; exact ⟨Try.func78, ent Try.func78 rfl rfl, chk78⟩
  · cases h; exact ⟨Try.func79, ent Try.func79 rfl rfl, chk79⟩
  · cases h; exact ⟨Try.func80, ent Try.func80 rfl rfl, chk80⟩
  · cases h; exact ⟨Try.func81, ent Try.func81 rfl rfl, chk81⟩
  · cases h; exact ⟨Try.func82, ent Try.func82 rfl rfl, chk82⟩
  · cases h
theorem okF_1 : ∀ f fn, F_1 f = some fn → Try.prog.funcs[f]? = some fn ∧ Enters Try.prog f ∧ ∀ c, fn.body = some c → chk WR (K f) fn.ntmps c = true := by
  intro f fn h
  unfold F_1 at h
  split at h
  · cases h; exact ⟨Try.func83, ent Try.func83 rfl rfl, chk83⟩
  · cases h; exact ⟨Try.func84, ent Try.func84 rfl rfl, chk84⟩
  · cases h; exact ⟨Try.func85, ent Try.func85 rfl rfl, chk85⟩
  · cases h; exact ⟨Try.func86, ent Try.func86 rfl rfl, chk86⟩
  · cases h; exact ⟨Try.func87, ent Try.func87 rfl rfl, chk87⟩
  · cases h; exact ⟨Try.func88, ent Try.func88 rfl rfl, chk88⟩
  · cases h; exact ⟨Try.func89, ent Try.func89 rfl rfl, chk89⟩
  · cases h; exact ⟨Try.func90, ent Try.func90 rfl rfl, chk90⟩
  · cases h; exact ⟨Try.func91, ent Try.func91 rfl rfl, chk91⟩
  · cases h; exact ⟨Try.func92, ent Try.func92 rfl rfl, chk92⟩
  · cases h; exact ⟨Try.func93, ent Try.func93 rfl rfl, chk93⟩
  · cases h; exact ⟨Try.func94, ent Try.func94 rfl rfl, chk94⟩
  · cases h; exact ⟨Try.func97, ent Try.func97 rfl rfl, chk97⟩
  · cases h; exact ⟨Try.func98, ent Try.func98 rfl rfl, chk98⟩
  · cases h; exact ⟨Try.func103, ent Try.func103 rfl rfl, chk103⟩
  · cases h; exact ⟨Try.func104, ent Try.func104 rfl rfl, chk104⟩
  · cases h; exact ⟨Try.func111, ent Try.func111 rfl rfl, chk111⟩
  · cases h; exact ⟨Try.func115, ent Try.func115 rfl rfl, chk115⟩
  · cases h; exact ⟨Try.func120, ent Try.func120 rfl rfl, chk120⟩
  · cases h; exact ⟨Try.func121, ent Try.func121 rfl rfl, chk121⟩
  · cases h; exact ⟨Try.func122, ent Try.func122 rfl rfl, chk122⟩
  · cases h; exact ⟨Try.func128, ent Try.func128 rfl rfl, chk128⟩
  · cases h; exact ⟨Try.func131, ent Try.func131 rfl rfl, chk131⟩
  · cases h; exact ⟨Try.func132, ent Try.func132 rfl rfl, chk132⟩
  · exact okF_0 _ _ h
theorem okF_2 : ∀ f fn, F_2 f = some fn → Try.prog.funcs[f]? = some fn ∧ Enters Try.prog f ∧ ∀ c, fn.body = some c → chk WR (K f) fn.ntmps c = true := by
  intro f fn h
  unfold F_2 at h
  split at h
  · cases h; exact ⟨Try.func133, ent Try.func133 rfl rfl, chk133⟩
  · cases h; exact ⟨Try.func134, ent Try.func134 rfl rfl, chk134⟩
  · cases h; exact ⟨Try.func135, ent Try.func135 rfl rfl, chk135⟩
  · cases h; exact ⟨Try.func136, ent Try.func136 rfl rfl, chk136⟩
  · cases h; exact ⟨Try.func140, ent Try.func140 rfl rfl, chk140⟩
  · cases h; exact ⟨Try.func142, ent Try.func142 rfl rfl, chk142⟩
  · cases h; exact ⟨Try.func144, ent Try.func144 rfl rfl, chk144⟩
  · cases h; exact ⟨Try.func145, ent Try.func145 rfl rfl, chk145⟩
  · cases h; exact ⟨Try.func147, ent Try.func147 rfl rfl, chk147⟩
  · cases h; exact ⟨Try.func148, ent Try.func148 rfl rfl, chk148⟩
  · cases h; exact ⟨Try.func151, ent Try.func151 rfl rfl, chk151⟩
  · cases h; exact ⟨Try.func153, ent Try.func153 rfl rfl, chk153⟩
  · cases h; exact ⟨Try.func154, ent Try.func154 rfl rfl, chk154⟩
  · cases h; exact ⟨Try.func158, ent Try.func158 rfl rfl, chk158⟩
  · cases h; exact ⟨Try.func159, ent Try.func159 rfl rfl, chk159⟩
  · cases h; exact ⟨Try.func160, ent Try.func160 rfl rfl, chk160⟩
  · cases h; exact ⟨Try.func161, ent Try.func161 rfl rfl, chk161⟩
  · cases h; exact ⟨Try.func162, ent Try.func162 rfl rfl, chk162⟩
  · cases h; exact ⟨Try.func163, ent Try.func163 rfl rfl, chk163⟩
  · cases h; exact ⟨Try.func164, ent Try.func164 rfl rfl, chk164⟩
  · cases h; exact ⟨Try.func165, ent Try.func165 rfl rfl, chk165⟩
  · cases h; exact ⟨Try.func166, ent Try.func166 rfl rfl, chk166⟩
  · cases h; exact ⟨Try.func167, ent Try.func167 rfl rfl, chk167⟩
  · cases h; exact ⟨Try.func168, ent Try.func168 rfl rfl, chk168⟩
  · exact okF_1 _ _ h
theorem okF_3 : ∀ f fn, F_3 f = some fn → Try.prog.funcs[f]? = some fn ∧ Enters Try.prog f ∧ ∀ c, fn.body = some c → chk WR (K f) fn.ntmps c = true := by
  intro f fn h
  unfold F_3 at h
  split at h
  · cases h; exact ⟨Try.func169, ent Try.func169 rfl rfl, chk169⟩
  · cases h; exact ⟨Try.func172, ent Try.func172 rfl rfl, chk172⟩
  · cases h; exact ⟨Try.func174, ent Try.func174 rfl rfl, chk174⟩
  · cases h; exact ⟨Try.func175, ent Try.func175 rfl rfl, chk175⟩
  · cases h; exact ⟨Try.func176, ent Try.func176 rfl rfl, chk176⟩
  · cases h; exact ⟨Try.func177, ent Try.func177 rfl rfl, chk177⟩
  · cases h; exact ⟨Try.func178, ent Try.func178 rfl rfl, chk178⟩
  · cases h; exact ⟨Try.func180, ent Try.func180 rfl rfl, chk180⟩
  · cases h; exact ⟨Try.func181, ent Try.func181 rfl rfl, chk181⟩
  · cases h; exact ⟨Try.func182, ent Try.func182 rfl rfl, chk182⟩
  · cases h; exact ⟨Try.func184, ent Try.func184 rfl rfl, chk184⟩
  · cases h; exact ⟨Try.func189, ent Try.func189 rfl rfl, chk189⟩
  · cases h; exact ⟨Try.func190, ent Try.func190 rfl rfl, chk190⟩
  · cases h; exact ⟨Try.func191, ent Try.func191 rfl rfl, chk191⟩
  · cases h; exact ⟨Try.func192, ent Try.func192 rfl rfl, chk192⟩
  · cases h; exact ⟨Try.func193, ent Try.func193 rfl rfl, chk193⟩
  · cases h; exact ⟨Try.func194, ent Try.func194 rfl rfl, chk194⟩
  · cases h; exact ⟨Try.func196, ent Try.func196 rfl rfl, chk196⟩
  · cases h; exact ⟨Try.func202, ent Try.func202 rfl rfl, chk202⟩
  · cases h; exact ⟨Try.func205, ent Try.func205 rfl rfl, chk205⟩
  · cases h; exact ⟨Try.func206, ent Try.func206 rfl rfl, chk206⟩
  · cases h; exact ⟨Try.func207, ent Try.func207 rfl rfl, chk207⟩
  · cases h; exact ⟨Try.func208, ent Try.func208 rfl rfl, chk208⟩
  · cases h; exact ⟨Try.func215, ent Try.func215 rfl rfl, chk215⟩
  · exact okF_2 _ _ h
theorem okF_4 : ∀ f fn, F_4 f = some fn → Try.prog.funcs[f]? = some fn ∧ Enters Try.prog f ∧ ∀ c, fn.body = some c → chk WR (K f) fn.ntmps c = true := by
  intro f fn h
  unfold F_4 at h
  split at h
  · cases h; exact ⟨Try.func216, ent Try.func216 rfl rfl, chk216⟩
  · cases h; exact ⟨Try.func217, ent Try.func217 rfl rfl, chk217⟩
  · exact okF_3 _ _ h
end Go.Proofs.Ytfdlllhcjfhknaa.Eng
